/- A region whose order is open comes to what one fixed order of its operations comes to (fifth part: the theorem). -/
import Derived.Test.YtpbdlkbiiglkdaaCanonD
set_option linter.unusedVariables false
set_option linter.unusedSimpArgs false
namespace Go.Proofs.Cab
section
variable {P : Program} {ops : Array Oper} {Q : Exit → Act → World → Prop} {fl : Nat → Bool}

/-- What is left of a region, in the fixed order, beside what has come up. -/
structure Left (fl : Nat → Bool) (P : Program) (ops : Array Oper) (rem : List Nat) (listed : Array Bool) : Prop where
  size : listed.size = ops.size
  lt : ∀ k ∈ rem, k < ops.size
  iff : ∀ k, k < ops.size → (listed.getD k true = false ↔ k ∈ rem)
  nodup : rem.Pairwise (fun x y => (x != y) = true)
  order : rem.Pairwise (fun x y => waitsNot ops x y = true)
  self : ∀ x ∈ rem, waitsNot ops x x = true
  sw : rem.Pairwise (fun x y => (swapOk fl ops x y || waitsF ops ops.size y x) = true)
  closed : ∀ k o, ops[k]? = some o → k ∉ rem → ∀ e ∈ o.after, Region.binds .any e = true → e.on ∉ rem
  inR : ∀ (k : Nat) (o : Oper), ops[k]? = some o → ∀ e ∈ o.after, Region.binds .any e = true → e.on < ops.size

theorem Left.listed_of {rem : List Nat} {listed : Array Bool} (h : Left fl P ops rem listed) {k : Nat} (hk : k < ops.size) (hn : k ∉ rem) : listed.getD k false = true := by
  have hs : k < listed.size := by rw [h.size]; exact hk
  have h1 : ¬ listed.getD k true = false := fun e => hn ((h.iff k hk).1 e)
  simp only [Array.getD, hs, dif_pos] at h1 ⊢
  simpa using h1

theorem Left.ready_iff {rem : List Nat} {listed : Array Bool} (h : Left fl P ops rem listed) {j : Nat} : j ∈ Region.ready .any ops listed ↔ j ∈ rem ∧ ∃ o, ops[j]? = some o ∧ ∀ e ∈ o.after, Region.binds .any e = true → e.on ∉ rem := by
  rw [mem_ready]
  constructor
  · rintro ⟨h0, o, ho, ha⟩
    have hlt := (Array.getElem?_eq_some_iff.1 ho).1
    refine ⟨(h.iff j hlt).1 h0, o, ho, fun e he hb hm => ?_⟩
    have h1 := ha e he hb
    have hel := h.inR j o ho e he hb
    have h2 := (h.iff _ hel).2 hm
    have hs : e.on < listed.size := by rw [h.size]; exact hel
    simp only [Array.getD, hs, dif_pos] at h1 h2
    rw [h1] at h2
    cases h2
  · rintro ⟨hm, o, ho, ha⟩
    have hlt := h.lt j hm
    exact ⟨(h.iff j hlt).2 hm, o, ho, fun e he hb => h.listed_of (h.inR j o ho e he hb) (ha e he hb)⟩

/-- What is ready waits for nothing that is left. -/
theorem Left.waits_not {rem : List Nat} {listed : Array Bool} (h : Left fl P ops rem listed) : ∀ (f y x : Nat), (∀ o, ops[y]? = some o → ∀ e ∈ o.after, Region.binds .any e = true → e.on ∉ rem) → waitsF ops f y x = true → x ∉ rem
  | 0, y, x, _, hw => by simp [waitsF] at hw
  | f + 1, y, x, hy, hw => by
    unfold waitsF at hw
    split at hw
    · rename_i o ho
      obtain ⟨e, he, h1⟩ := List.any_eq_true.1 hw
      simp only [Bool.and_eq_true, Bool.or_eq_true, beq_iff_eq] at h1
      have hn := hy o ho e (by simpa using he) h1.1
      rcases h1.2 with h2 | h2
      · rw [← h2]; exact hn
      · exact Left.waits_not h f e.on x (fun o' ho' e' he' hb' => h.closed e.on o' ho' hn e' he' hb') h2
    · cases hw

theorem Left.head_ready {x : Nat} {rem : List Nat} {listed : Array Bool} (h : Left fl P ops (x :: rem) listed) : x ∈ Region.ready .any ops listed := by
  rw [h.ready_iff]
  have hlt := h.lt x List.mem_cons_self
  have ho : ops[x]? = some ops[x] := Array.getElem?_eq_getElem hlt
  refine ⟨List.mem_cons_self, ops[x], ho, fun e he hb hm => ?_⟩
  have key : ∀ y, waitsNot ops x y = true → e.on ≠ y := fun y hy heq => by
    unfold waitsNot at hy
    rw [ho] at hy
    have := List.all_eq_true.1 hy e (by simpa using he)
    simp [hb, heq] at this
  rcases List.mem_cons.1 hm with h1 | h1
  · exact key x (h.self x List.mem_cons_self) h1
  · exact key e.on ((List.pairwise_cons.1 h.order).1 _ h1) rfl

theorem Left.take {p q : List Nat} {j : Nat} {listed : Array Bool} (h : Left fl P ops (p ++ j :: q) listed) (hr : j ∈ Region.ready .any ops listed) : Left fl P ops (p ++ q) (listed.setIfInBounds j true) := by
  have hsub : (p ++ q).Sublist (p ++ j :: q) := List.Sublist.append_left (List.sublist_cons_self j q) p
  have hj : j ∈ p ++ j :: q := by simp
  have hjlt := h.lt j hj
  have hne : ∀ k ∈ p ++ q, k ≠ j := by
    intro k hk e
    subst e
    have hnd := h.nodup
    rw [List.pairwise_append] at hnd
    rcases List.mem_append.1 hk with h1 | h1
    · have := hnd.2.2 k h1 k (by simp); simp at this
    · have := (List.pairwise_cons.1 hnd.2.1).1 k h1; simp at this
  refine ⟨by simp [h.size], fun k hk => h.lt k (hsub.subset hk), fun k hk => ?_, h.nodup.sublist hsub, h.order.sublist hsub, fun x hx => h.self x (hsub.subset hx), h.sw.sublist hsub, ?_, h.inR⟩
  · by_cases hkj : j = k
    · subst hkj
      have hs : j < listed.size := by rw [h.size]; exact hk
      constructor
      · intro h1; simp [hs] at h1
      · intro h1; exact absurd rfl (hne j h1)
    · rw [getD_set_ne true hkj, h.iff k hk]
      constructor
      · intro h1
        rcases List.mem_append.1 h1 with h2 | h2
        · exact List.mem_append_left _ h2
        · rcases List.mem_cons.1 h2 with h3 | h3
          · exact absurd h3.symm hkj
          · exact List.mem_append_right _ h3
      · intro h1; exact hsub.subset h1
  · intro k o ho hk e he hb hm
    by_cases hkj : k = j
    · subst hkj
      obtain ⟨_, o', ho', ha⟩ := h.ready_iff.1 hr
      obtain rfl : o = o' := by rw [ho] at ho'; exact Option.some.inj ho'
      exact ha e he hb (hsub.subset hm)
    · refine h.closed k o ho (fun h1 => hk ?_) e he hb (hsub.subset hm)
      rcases List.mem_append.1 h1 with h2 | h2
      · exact List.mem_append_left _ h2
      · rcases List.mem_cons.1 h2 with h3 | h3
        · exact absurd h3 hkj
        · exact List.mem_append_right _ h3

/-- An operation comes to the front. -/
theorem wpC_front (hsel : Region.noSelect ops = true) (hok : ∀ o ∈ ops, opKind o.op = 0 → opOk P o.op = true) (hnp : ∀ c a w, ¬ Q (.panic c) a w) (hno : ∀ a w, ¬ Q .outgrown a w) {j : Nat} {q : List Nat} :
    ∀ (p : List Nat), (∀ x ∈ p, swapOk fl ops x j = true) → ∀ a w, wpC fl P ops Q (p ++ j :: q) a w → wpC fl P ops Q (j :: (p ++ q)) a w
  | [], _, a, w, h => h
  | x :: p, hp, a, w, h => by
    have hx := hp x List.mem_cons_self
    unfold swapOk at hx
    split at hx
    · rename_i ox oj hox hoj
      simp only [Bool.and_eq_true, Bool.or_eq_true, beq_iff_eq] at hx
      obtain ⟨hd, h1⟩ := h
      have h2 : wpOp P ops Q x (fun a' w' => (fl x = true → Ext w w') ∧ dynAt ops j a' ∧ wpOp P ops Q j (fun a2 w2 => (fl j = true → Ext w' w2) ∧ wpC fl P ops Q (p ++ q) a2 w2) a' w') a w :=
        wpOp_mono (fun a' w' h' => ⟨h'.1, wpC_front hsel hok hnp hno p (fun y hy => hp y (List.mem_cons_of_mem _ hy)) a' w' h'.2⟩) h1
      have h3 := swap fl hox hoj hx.1 (by
          rcases hx.2 with (((h | h) | h) | h) | h
          · exact .inl h
          · exact .inr (.inl h)
          · exact .inr (.inr (.inl h))
          · exact .inr (.inr (.inr (.inl h)))
          · exact .inr (.inr (.inr (.inr h))))
        (hok ox (Array.mem_of_getElem? hox)) (hok oj (Array.mem_of_getElem? hoj)) (fun cs b => Region.noSelect_spec hsel x ox cs b hox) (fun cs b => Region.noSelect_spec hsel j oj cs b hoj) hnp hno hd h2
      exact h3
    · cases hx

/-- Whatever order is drawn. -/
theorem wpAny_of_wpC (hsel : Region.noSelect ops = true) (hok : ∀ o ∈ ops, opKind o.op = 0 → opOk P o.op = true) (hnp : ∀ c a w, ¬ Q (.panic c) a w) (hno : ∀ a w, ¬ Q .outgrown a w) :
    ∀ (n : Nat) (rem : List Nat) (listed : Array Bool) (a : Act) (w : World), rem.length = n → Left fl P ops rem listed → wpC fl P ops Q rem a w → wpAny P .any ops Q n listed a w := by
  intro n
  induction n with
  | zero =>
    intro rem listed a w hn hL h
    obtain rfl := List.eq_nil_of_length_eq_zero hn
    refine ⟨?_, h⟩
    apply List.eq_nil_iff_forall_not_mem.2
    intro j hj
    have := (hL.ready_iff.1 hj).1
    simp at this
  | succ n ih =>
    intro rem listed a w hn hL h
    cases rem with
    | nil => simp at hn
    | cons x rem =>
      refine ⟨fun h0 => ?_, fun j hj => ?_⟩
      · have := hL.head_ready
        rw [h0] at this
        cases this
      · have hjr := hL.ready_iff.1 hj
        obtain ⟨p, q, hpq⟩ := List.append_of_mem hjr.1
        rw [hpq] at h hL hn
        have hsw : ∀ y ∈ p, swapOk fl ops y j = true := by
          intro y hy
          have h1 := (List.pairwise_append.1 hL.sw).2.2 y hy j (by simp)
          simp only [Bool.or_eq_true] at h1
          rcases h1 with h1 | h1
          · exact h1
          · exfalso
            obtain ⟨_, o', ho', ha⟩ := hL.ready_iff.1 hj
            refine hL.waits_not ops.size j y (fun o ho e he hb => ?_) h1 (by simp [hy])
            obtain rfl : o = o' := by rw [ho] at ho'; exact Option.some.inj ho'
            exact ha e he hb
        obtain ⟨_, h2⟩ := wpC_front hsel hok hnp hno p hsw a w h
        have hL2 := hL.take hj
        refine wpOp_mono (fun a' w' h' => ih (p ++ q) _ a' w' (by simp at hn ⊢; omega) hL2 h'.2) h2

/-- At the end of the region each temporary that nobody writes any more is as it was. -/
theorem wpF_end (hnp : ∀ c a w, ¬ Q (.panic c) a w) (hno : ∀ a w, ¬ Q .outgrown a w) : ∀ (l : List Nat) (a : Act) (w : World), (∀ k ∈ l, k < ops.size) → wpF fl P ops Q l a w →
    ∃ a' w', Q .normal a' w' ∧ ∀ t, (∀ k ∈ l, ∀ o, ops[k]? = some o → o.dst ≠ some t) → a'.tmps[t]? = a.tmps[t]?
  | [], a, w, _, h => ⟨a, w, h, fun _ _ => rfl⟩
  | i :: l, a, w, hl, h => by
    have hlt := hl i List.mem_cons_self
    have ho : ops[i]? = some ops[i] := Array.getElem?_eq_getElem hlt
    obtain ⟨a1, w1, ⟨u, d, rfl⟩, _, h1⟩ := wpOp_some ho hnp hno (wpOp_act ho h)
    obtain ⟨a2, w2, hq, ht⟩ := wpF_end hnp hno l _ w1 (fun k hk => hl k (List.mem_cons_of_mem _ hk)) h1
    refine ⟨a2, w2, hq, fun t hT => ?_⟩
    rw [ht t (fun k hk => hT k (List.mem_cons_of_mem _ hk))]
    have hne := hT i List.mem_cons_self _ ho
    cases hd : ops[i].dst with
    | none => rfl
    | some e =>
      have : e ≠ t := fun e' => hne (by rw [hd, e'])
      simp [Act.put, Array.getElem?_setIfInBounds_ne this]

def Only (ops : Array Oper) (Q : Exit → Act → World → Prop) : Exit → Act → World → Prop := fun e a w => e = .normal ∧ dynAll ops a = true ∧ Q .normal a w
def Strict (Q : Exit → Act → World → Prop) : Exit → Act → World → Prop := fun e a w => e = .normal ∧ Q .normal a w

theorem eval_of_tmps {a a' : Act} {x : Operand} (h : ∀ t, x = .tmp t → a'.tmps[t]? = a.tmps[t]?) : a'.eval x = a.eval x := by
  cases x with
  | tmp t => simp [Act.eval, h t rfl]
  | _ => rfl

theorem wpC_of_wpF : ∀ (l : List Nat) (a : Act) (w : World), (∀ k ∈ l, k < ops.size) → lateOk ops l = true → wpF fl P ops (Only ops Q) l a w → wpC fl P ops (Strict Q) l a w
  | [], a, w, _, _, h => ⟨rfl, h.2.2⟩
  | i :: l, a, w, hl, hlate, h => by
    have hnp : ∀ c a w, ¬ (Only ops Q) (.panic c) a w := fun c a w hq => by cases hq.1
    have hno : ∀ a w, ¬ (Only ops Q) .outgrown a w := fun a w hq => by cases hq.1
    have hlt := hl i List.mem_cons_self
    have ho : ops[i]? = some ops[i] := Array.getElem?_eq_getElem hlt
    simp only [lateOk, ho, Bool.and_eq_true] at hlate
    refine ⟨?_, ?_⟩
    · intro o ho' hw hk
      obtain rfl : ops[i] = o := by rw [ho] at ho'; exact Option.some.inj ho'
      by_cases hn : needDyn ops[i].op = true
      · obtain ⟨a', w', hq, ht⟩ := wpF_end hnp hno (i :: l) a w hl h
        have hdyn := hq.2.1
        have hall := List.all_eq_true.1 hdyn ops[i] (by simp)
        have hlook : ∀ t, t ∈ ops[i].looksAt ops → a'.tmps[t]? = a.tmps[t]? := fun t htm => ht t fun k hk o ho2 hd => by
          have h1 := hlate.1
          simp only [hn, Bool.not_true, Bool.false_or] at h1
          have h2 := List.all_eq_true.1 h1 k hk
          rw [ho2] at h2
          simp [hd, htm] at h2
        have he : opDyn a'.eval ops[i].op = opDyn a.eval ops[i].op := opDyn_congr fun x hx => eval_of_tmps fun t hxt => hlook t (by
          subst hxt
          exact List.mem_append_left _ (List.mem_filterMap.2 ⟨.tmp t, by simpa using hx, rfl⟩))
        have hwe : Region.wanted ops[i] (yielded ops a'.tmps) = Region.wanted ops[i] (yielded ops a.tmps) := by
          unfold Region.wanted
          cases hg : ops[i].guard with
          | none => rfl
          | some gw =>
            obtain ⟨g, want⟩ := gw
            have hy : yielded ops a'.tmps g = yielded ops a.tmps g := by
              unfold yielded
              cases htt : (ops[g]?).bind (·.dst) with
              | none => rfl
              | some t =>
                have h5 := hlook t (by simp [Oper.looksAt, hg, htt])
                simp only [Option.bind_some, h5]
            simp only [hy]
        simp only [hn, Bool.not_true, Bool.false_or, hwe, hw, he] at hall
        exact hall
      · revert hn hk
        generalize ops[i].op = op
        intro hk hn
        cases op <;> first | rfl | (exfalso; revert hn; simp [needDyn]; done) | skip
        case call c =>
          obtain ⟨callee, args, argTypes⟩ := c
          cases callee with
          | builtin b => cases b <;> first | rfl | (exfalso; revert hn; simp [needDyn]; done)
          | value f => rfl
          | invoke r m => rfl
    · have h2 := wpOp_mono (fun a' w' h' => And.intro h'.1 (wpC_of_wpF l a' w' (fun k hk => hl k (List.mem_cons_of_mem _ hk)) hlate.2 h'.2)) h
      unfold wpOp at h2 ⊢
      simp only [ho] at h2 ⊢
      split
      · rename_i hw
        simp only [hw, if_true] at h2
        rcases h2 with h2 | ⟨_, a0, w0, hq⟩
        case inr => exact absurd hq (hno _ _)
        refine .inl ?_
        unfold Oper.wp at *
        generalize (execOp a.eval ops[i]).run P w = r at *
        cases r with
        | ok n w' =>
          cases n <;> (try simp only [Oper.upon] at h2 ⊢) <;> try exact h2
          case enter f args =>
            refine Calls.mono h2 fun e w'' he => ?_
            cases e with
            | returned u => exact he
            | panicked c => exact absurd he (hnp _ _ _)
            | outgrown =>
              obtain ⟨a0, w0, hq⟩ := he
              exact absurd hq (hno _ _)
        | halt x w' =>
          cases x <;> (try simp only [Oper.upon] at h2 ⊢) <;> try exact h2
          exact absurd h2 (hnp _ _ _)
      · rename_i hw
        simp only [hw] at h2
        exact h2

/-- The operations of a list of numbers. -/
def pickOps (ops : Array Oper) : List Nat → List Oper
  | [] => []
  | i :: l => match ops[i]? with
    | some o => o :: pickOps ops l
    | none => pickOps ops l

/-- Stretches of the fixed order; a stretch that bears a mark is one operation that turns no old block. -/
def wpSegs (P : Program) (ops : Array Oper) (Q : Exit → Act → World → Prop) : List (Bool × List Nat) → Act → World → Prop
  | [], a, w => Q .normal a w
  | (b, l) :: rest, a, w => wpList P ops (fun e a' w' => e = .normal ∧ (b = true → Ext w w') ∧ wpSegs P ops Q rest a' w') (pickOps ops l) a w
def flags (segs : List (Bool × List Nat)) (i : Nat) : Bool := segs.any fun s => s.1 && s.2.contains i
def segsOk (segs : List (Bool × List Nat)) : Bool := segs.all (fun s => !s.1 || s.2.length == 1) && segs.all fun s => s.1 || s.2.all fun i => !flags segs i

theorem wpF_of_list {R : Act → World → Prop} {rest : List Nat} : ∀ (l : List Nat) (a : Act) (w : World), (∀ k ∈ l, fl k = false) → (∀ k ∈ l, k < ops.size) → (∀ a w, R a w → wpF fl P ops (Only ops Q) rest a w) →
    wpList P ops (fun e a' w' => e = .normal ∧ R a' w') (pickOps ops l) a w → wpF fl P ops (Only ops Q) (l ++ rest) a w
  | [], a, w, _, _, hR, h => hR _ _ h.2
  | i :: l, a, w, hf, hl, hR, h => by
    have hlt := hl i List.mem_cons_self
    have ho : ops[i]? = some ops[i] := Array.getElem?_eq_getElem hlt
    simp only [pickOps, ho] at h
    have mono : ∀ a w, wpList P ops (fun e a' w' => e = .normal ∧ R a' w') (pickOps ops l) a w → wpF fl P ops (Only ops Q) (l ++ rest) a w := fun a w h =>
      wpF_of_list l a w (fun k hk => hf k (List.mem_cons_of_mem _ hk)) (fun k hk => hl k (List.mem_cons_of_mem _ hk)) hR h
    show wpOp P ops (Only ops Q) i _ a w
    unfold wpOp
    simp only [ho]
    unfold wpList at h
    split
    · rename_i hw
      simp only [hw, if_true] at h
      rcases h with h | ⟨_, a0, w0, hq⟩
      case inr => cases hq.1
      refine .inl ?_
      unfold Oper.wp at *
      generalize (execOp a.eval ops[i]).run P w = r at *
      have hfi : fl i = false := hf i List.mem_cons_self
      have go : ∀ w0 a w, wpList P ops (fun e a' w' => e = .normal ∧ R a' w') (pickOps ops l) a w → ((fl i = true → Ext w0 w) ∧ wpF fl P ops (Only ops Q) (l ++ rest) a w) := fun w0 a w h => ⟨fun e => (by rw [hfi] at e; cases e), mono a w h⟩
      cases r with
      | ok n w' =>
        cases n <;> (try simp only [Oper.upon] at h ⊢) <;> first | exact go _ _ _ h | exact h | skip
        case enter f args =>
          refine Calls.mono h fun e w'' he => ?_
          cases e with
          | returned u => exact go _ _ _ he
          | panicked c => cases he.1
          | outgrown =>
            obtain ⟨a0, w0, hq⟩ := he
            cases hq.1
        case row row args => exact Rows.mono h fun u w'' he => go _ _ _ he
      | halt x w' =>
        cases x <;> (try simp only [Oper.upon] at h ⊢) <;> first | exact h | skip
        cases h.1
    · rename_i hw
      simp only [hw] at h
      exact ⟨fun e => (by rw [hf i List.mem_cons_self] at e; cases e), mono _ _ h⟩

theorem wpF_of_one {R : Act → World → Prop} {rest : List Nat} {i : Nat} {a : Act} {w : World} (hl : i < ops.size) (hR : ∀ a w, R a w → wpF fl P ops (Only ops Q) rest a w)
    (h : wpList P ops (fun e a' w' => e = .normal ∧ Ext w w' ∧ R a' w') (pickOps ops [i]) a w) : wpF fl P ops (Only ops Q) (i :: rest) a w := by
  have ho : ops[i]? = some ops[i] := Array.getElem?_eq_getElem hl
  simp only [pickOps, ho] at h
  show wpOp P ops (Only ops Q) i _ a w
  unfold wpOp
  simp only [ho]
  unfold wpList at h
  have go : ∀ a1 w1, wpList P ops (fun e a' w' => e = .normal ∧ Ext w w' ∧ R a' w') [] a1 w1 → ((fl i = true → Ext w w1) ∧ wpF fl P ops (Only ops Q) rest a1 w1) := fun a1 w1 h => ⟨fun _ => h.2.1, hR _ _ h.2.2⟩
  split
  · rename_i hw
    simp only [hw, if_true] at h
    rcases h with h | ⟨_, a0, w0, hq⟩
    case inr => cases hq.1
    refine .inl ?_
    unfold Oper.wp at *
    generalize (execOp a.eval ops[i]).run P w = r at *
    cases r with
    | ok n w' =>
      cases n <;> (try simp only [Oper.upon] at h ⊢) <;> first | exact go _ _ h | exact h | skip
      case enter f args =>
        refine Calls.mono h fun e w'' he => ?_
        cases e with
        | returned u => exact go _ _ he
        | panicked c => cases he.1
        | outgrown =>
          obtain ⟨a0, w0, hq⟩ := he
          cases hq.1
      case row row args => exact Rows.mono h fun u w'' he => go _ _ he
    | halt x w' =>
      cases x <;> (try simp only [Oper.upon] at h ⊢) <;> first | exact h | skip
      cases h.1
  · rename_i hw
    simp only [hw] at h
    exact go _ _ h

theorem wpF_of_segs (F : Nat → Bool) : ∀ (segs : List (Bool × List Nat)) (a : Act) (w : World), (∀ s ∈ segs, s.1 = true → s.2.length = 1) → (∀ s ∈ segs, s.1 = false → ∀ i ∈ s.2, F i = false) → (∀ s ∈ segs, ∀ i ∈ s.2, i < ops.size) →
    wpSegs P ops (Only ops Q) segs a w → wpF F P ops (Only ops Q) (segs.flatMap (·.2)) a w
  | [], a, w, _, _, _, h => h
  | (b, l) :: rest, a, w, h1, h2, h3, h => by
    have ih := fun a w => wpF_of_segs F rest a w (fun s hs => h1 s (List.mem_cons_of_mem _ hs)) (fun s hs => h2 s (List.mem_cons_of_mem _ hs)) (fun s hs => h3 s (List.mem_cons_of_mem _ hs))
    simp only [List.flatMap_cons]
    cases b with
    | false =>
      refine wpF_of_list (R := fun a' w' => (false = true → Ext w w') ∧ wpSegs P ops (Only ops Q) rest a' w') l a w (h2 _ List.mem_cons_self rfl) (h3 _ List.mem_cons_self) (fun a w h => ih a w h.2) h
    | true =>
      obtain ⟨i, rfl⟩ := List.length_eq_one_iff.1 (h1 _ List.mem_cons_self rfl)
      refine wpF_of_one (R := fun a' w' => wpSegs P ops (Only ops Q) rest a' w') (h3 _ List.mem_cons_self i (by simp)) (fun a w h => ih a w h) ?_
      simpa [wpSegs] using h

/-- **A REGION WHOSE ORDER IS OPEN**: one fixed order of its operations (reckonings and reads first) serves for all. -/
theorem wp_region_segs {id : Nat} {a : Act} {w : World} (hm : P.follows .mixedOrders = true) (segs : List (Bool × List Nat)) (hs : segsOk segs = true) (hok : canonB (flags segs) P ops (segs.flatMap (·.2)) = true)
    (h : wpSegs P ops (Only ops Q) segs a w.drew) : (Code.region id ops true).wp P Q a w := by
  simp only [canonB, Bool.and_eq_true] at hok
  obtain ⟨⟨⟨⟨⟨⟨⟨⟨hsel, hall⟩, hlt⟩, hnd⟩, hop⟩, hself⟩, hord⟩, hsw⟩, hlate⟩ := hok
  generalize hF : flags segs = F at *
  simp only [segsOk, Bool.and_eq_true] at hs
  have hs1 : ∀ s ∈ segs, s.1 = true → s.2.length = 1 := fun s hm h1 => by
    have := List.all_eq_true.1 hs.1 s hm
    simpa [h1] using this
  have hs2 : ∀ s ∈ segs, s.1 = false → ∀ i ∈ s.2, F i = false := fun s hm h1 i hi => by
    have := List.all_eq_true.1 hs.2 s hm
    simp only [h1, Bool.false_or] at this
    have := List.all_eq_true.1 this i hi
    rw [hF] at this
    simpa using this
  have hlt' : ∀ k ∈ segs.flatMap (·.2), k < ops.size := fun k hk => by have := List.all_eq_true.1 hlt k hk; simpa using this
  have hs3 : ∀ s ∈ segs, ∀ i ∈ s.2, i < ops.size := fun s hm i hi => hlt' i (List.mem_flatMap.2 ⟨s, hm, hi⟩)
  have h0 := wpF_of_segs F segs a w.drew hs1 hs2 hs3 h
  generalize segs.flatMap (·.2) = ord at *
  have hmem : ∀ k, k < ops.size → k ∈ ord := fun k hk => by have := List.all_eq_true.1 hall k (by simpa using hk); simpa using this
  have hok1 : ∀ o ∈ ops, opKind o.op = 0 → opOk P o.op = true := fun o ho hk => by
    have := Array.all_eq_true_iff_forall_mem.1 hop o ho
    simp only [Bool.and_eq_true, Bool.or_eq_true] at this
    rcases this.1 with h1 | h1
    · simp [hk] at h1
    · exact h1
  have hinR : ∀ (k : Nat) (o : Oper), ops[k]? = some o → ∀ e ∈ o.after, Region.binds .any e = true → e.on < ops.size := fun k o ho e he hb => by
    have := Array.all_eq_true_iff_forall_mem.1 hop o (Array.mem_of_getElem? ho)
    simp only [Bool.and_eq_true] at this
    have h1 := List.all_eq_true.1 this.2 e (by simpa using he)
    simpa [hb] using h1
  have hL : Left F P ops ord (Array.replicate ops.size false) := by
    refine ⟨by simp, hlt', fun k hk => ?_, pairB_iff.1 hnd, pairB_iff.1 hord, fun x hx => List.all_eq_true.1 hself x hx, pairB_iff.1 hsw, fun k o ho hk => ?_, hinR⟩
    · simp [hk, hmem k hk]
    · exact absurd (hmem k (Array.getElem?_eq_some_iff.1 ho).1) hk
  have hlen : ord.length = ops.size := by
    have hnd' : ord.Nodup := (pairB_iff.1 hnd).imp (fun h => by simpa using h)
    have h1 : ord.Perm (List.range ops.size) := (List.perm_ext_iff_of_nodup hnd' List.nodup_range).2 fun k => by
      simp only [List.mem_range]
      exact ⟨hlt' k, hmem k⟩
    simpa using h1.length_eq
  have h1 := wpC_of_wpF ord a w.drew hlt' hlate h0
  have h2 := wpAny_of_wpC hsel hok1 (fun c a w hq => by cases hq.1) (fun a w hq => by cases hq.1) ops.size ord _ a w.drew hlen hL h1
  exact Code.wp_mono (fun e a w hq => by rw [hq.1]; exact hq.2) (wp_region_any hm h2)
end
end Go.Proofs.Cab
