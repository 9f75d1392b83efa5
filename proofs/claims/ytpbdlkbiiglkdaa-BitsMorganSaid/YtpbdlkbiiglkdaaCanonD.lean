/- A region whose order is open comes to what one fixed order of its operations comes to (fourth part: two operations change places). -/
import Derived.Test.YtpbdlkbiiglkdaaCanonC
import Derived.OrdersHeld
set_option linter.unusedVariables false
set_option linter.unusedSimpArgs false
namespace Go.Proofs.Cab
section
variable {P : Program} {ops : Array Oper} {Q : Exit → Act → World → Prop}

/-- What an operation leaves of the temporaries. -/
theorem wpOp_act {j : Nat} {oj : Oper} {K : Act → World → Prop} {a : Act} {w : World} (hj : ops[j]? = some oj) (h : wpOp P ops Q j K a w) :
    wpOp P ops Q j (fun a' w' => (∃ u d, a' = ({ a with defers := d } : Act).put oj.dst u) ∧ K a' w') a w := by
  unfold wpOp at *
  simp only [hj] at *
  split
  · rename_i hw
    simp only [hw, if_true] at h
    rcases h with h | h
    case inr => exact .inr h
    refine .inl ?_
    unfold Oper.wp at *
    generalize (execOp a.eval oj).run P w = r at *
    cases r with
    | ok n w' =>
      cases n <;> simp only [Oper.upon] at h ⊢
      case value u => exact ⟨⟨u, a.defers, rfl⟩, h⟩
      case skip => exact ⟨⟨undef, a.defers, rfl⟩, h⟩
      case defer d => exact ⟨⟨undef, d :: a.defers, rfl⟩, h⟩
      case enter f args =>
        refine Calls.mono h fun e w'' he => ?_
        cases e with
        | returned u => exact ⟨⟨u, a.defers, rfl⟩, he⟩
        | panicked c => exact he
        | outgrown => exact he
      case row row args => exact Rows.mono h fun u w'' he => ⟨⟨u, a.defers, rfl⟩, he⟩
    | halt x w' => cases x <;> simp only [Oper.upon] at h ⊢ <;> exact h
  · rename_i hw
    simp only [hw] at h
    exact ⟨⟨undef, a.defers, rfl⟩, h⟩

/-- It comes somewhere. -/
theorem wpOp_some {j : Nat} {oj : Oper} {K : Act → World → Prop} {a : Act} {w : World} (hj : ops[j]? = some oj) (hnp : ∀ c a w, ¬ Q (.panic c) a w) (hno : ∀ a w, ¬ Q .outgrown a w) (h : wpOp P ops Q j K a w) :
    ∃ a' w', K a' w' := by
  unfold wpOp at *
  simp only [hj] at *
  split at h
  · rcases h with h | ⟨_, a0, w0, hq⟩
    case inr => exact absurd hq (hno _ _)
    unfold Oper.wp at *
    generalize (execOp a.eval oj).run P w = r at *
    cases r with
    | ok n w' =>
      cases n <;> simp only [Oper.upon] at h
      case value u => exact ⟨_, _, h⟩
      case skip => exact ⟨_, _, h⟩
      case defer d => exact ⟨_, _, h⟩
      case enter f args =>
        obtain ⟨e, w'', fr, hR, _⟩ := h []
        cases e with
        | returned u => exact ⟨_, _, hR⟩
        | panicked c => exact absurd hR (hnp _ _ _)
        | outgrown =>
          obtain ⟨a0, w0, hq⟩ := hR
          exact absurd hq (hno _ _)
      case row row args =>
        obtain ⟨v, w'', hR, _⟩ := h default []
        exact ⟨_, _, hR⟩
    | halt x w' =>
      cases x <;> simp only [Oper.upon] at h
      exact absurd h (hnp _ _ _)
  · exact ⟨_, _, h⟩

/-- A value put into a temporary that an operation neither looks at nor writes may as well be put behind it. -/
theorem wpOp_shift {j : Nat} {oj : Oper} {dst : Option Tmp} {v : Value} (hj : ops[j]? = some oj) (hsj : ∀ cs b, oj.op ≠ .select cs b) (h1 : ∀ d, dst = some d → d ∉ oj.looksAt ops) (h2 : ∀ d, dst = some d → oj.dst ≠ some d)
    (hnp : ∀ c a w, ¬ Q (.panic c) a w) {K : Act → World → Prop} {a : Act} {w : World}
    (h : wpOp P ops Q j (fun a' w' => K (a'.put dst v) w') a w) : wpOp P ops Q j K (a.put dst v) w := by
  unfold wpOp at *
  simp only [hj] at *
  rw [wanted_put oj a dst v h1]
  split
  · rename_i hw
    simp only [hw, if_true] at h
    rcases h with h | ⟨hasks, hlets⟩
    case inr => exact .inr ⟨by unfold Oper.asks at *; rw [execOp_put oj hsj a dst v h1]; exact hasks, hlets⟩
    refine .inl ?_
    unfold Oper.wp at *
    rw [execOp_put oj hsj a dst v h1]
    generalize (execOp a.eval oj).run P w = r at *
    cases r with
    | ok n w' =>
      cases n <;> simp only [Oper.upon] at h ⊢
      case value u => rw [Act.put_comm a v u h2]; exact h
      case skip => rw [Act.put_comm a v undef h2]; exact h
      case defer d =>
        rw [Act.put_defers, Act.put_comm _ v undef h2]
        exact h
      case enter f args =>
        refine Calls.mono h fun e w'' he => ?_
        cases e with
        | returned u => show K _ _; rw [Act.put_comm a v u h2]; exact he
        | panicked c => exact absurd he (hnp _ _ _)
        | outgrown => exact he
      case row row args => exact Rows.mono h fun u w'' he => by rw [Act.put_comm a v u h2]; exact he
    | halt x w' =>
      cases x <;> simp only [Oper.upon] at h ⊢
      case panic u => exact absurd h (hnp _ _ _)
  · rename_i hw
    simp only [hw] at h
    rw [Act.put_comm a v undef h2]
    exact h

theorem dynAt_defers {j : Nat} {a : Act} {d : List Deferred} : dynAt ops j ({ a with defers := d } : Act) ↔ dynAt ops j a := by
  have he : ({ a with defers := d } : Act).eval = a.eval := by funext x; cases x <;> rfl
  unfold dynAt
  rw [he]

/-- Behind an operation that reckons, reads or lays a block the heap has grown, if that. -/
theorem wpOp_ext {j : Nat} {oj : Oper} {K : Act → World → Prop} {a : Act} {w : World} (hj : ops[j]? = some oj) (hk : opKind oj.op ≤ 2) (hok : opKind oj.op = 0 → opOk P oj.op = true) (hd : dynAt ops j a)
    (hnp : ∀ c a w, ¬ Q (.panic c) a w) (hno : ∀ a w, ¬ Q .outgrown a w) (h : wpOp P ops Q j K a w) : wpOp P ops Q j (fun a' w' => Ext w w' ∧ K a' w') a w := by
  by_cases hk1 : opKind oj.op ≤ 1
  · obtain ⟨v, hK, hy⟩ := quiet_step hj hk1 hok hd hnp hno h
    have hy' : YieldsIf P ops (Ext w) oj v a := by
      rcases hy with ⟨h1, h2⟩ | ⟨h1, h2, _⟩
      · exact .inr ⟨h1, h2⟩
      · exact .inl ⟨h1, h2⟩
    exact hy'.wpOp hj (Ext.refl w) ⟨Ext.refl w, hK⟩
  · have hk2 : opKind oj.op = 2 := by omega
    unfold wpOp at *
    simp only [hj] at *
    split
    · rename_i hw
      simp only [hw, if_true] at h
      refine h.imp (fun h => ?_) id
      unfold Oper.wp at *
      have hg := GR.op (P := P) (ρ := a.eval) hk2 w
      have hval : ∀ n w', (execOp a.eval oj).run P w = .ok n w' → ∃ v, n = .value v := by
        intro n w' hr
        clear h
        obtain ⟨dst, op, type, pos, after, guard⟩ := oj
        have key : ∀ (s : Sem Value), (s >>= fun v => (pure (.value v) : Sem Next)).run P w = .ok n w' → ∃ v, n = .value v := by
          intro s hs
          rw [Sem.run_bind] at hs
          cases hr : s.run P w with
          | halt x w'' => rw [hr] at hs; simp [Result.andThen] at hs
          | ok u w'' =>
            rw [hr] at hs
            simp only [Result.andThen, Sem.run_pure, Result.ok.injEq] at hs
            exact ⟨u, hs.1.symm⟩
        cases op <;> try (exfalso; revert hk2; simp [opKind]; done)
        all_goals simp only [execOp] at hr
        case call c =>
          obtain ⟨callee, args, argTypes⟩ := c
          cases callee with
          | builtin b => cases b <;> (exfalso; revert hk2; simp [opKind])
          | value f => simp [opKind] at hk2
          | invoke r m => simp [opKind] at hk2
        all_goals exact key _ hr
      cases hr : (execOp a.eval oj).run P w with
      | halt x w' =>
        rw [hr] at h
        cases x <;> simp only [Oper.upon] at h
        exact absurd h (hnp _ _ _)
      | ok n w' =>
        obtain ⟨v, rfl⟩ := hval n w' hr
        rw [hr] at h
        simp only [Oper.upon] at h ⊢
        exact ⟨hg _ _ hr, h⟩
    · rename_i hw
      simp only [hw] at h
      exact ⟨Ext.refl w, h⟩

theorem swap (fl : Nat → Bool) {x j : Nat} {ox oj : Oper} (hx : ops[x]? = some ox) (hj : ops[j]? = some oj) (hap : ox.apart ops oj = true)
    (hkind : opKind ox.op = 0 ∨ opKind oj.op = 0 ∨ (opKind ox.op = 1 ∧ opKind oj.op = 1) ∨ (opKind ox.op = 1 ∧ opKind oj.op = 2) ∨ (opKind ox.op = 1 ∧ fl j = true))
    (hokx : opKind ox.op = 0 → opOk P ox.op = true) (hokj : opKind oj.op = 0 → opOk P oj.op = true) (hsx : ∀ cs b, ox.op ≠ .select cs b) (hsj : ∀ cs b, oj.op ≠ .select cs b)
    (hnp : ∀ c a w, ¬ Q (.panic c) a w) (hno : ∀ a w, ¬ Q .outgrown a w) {K : Act → World → Prop} {a : Act} {w : World}
    (hd : dynAt ops x a) (h : wpOp P ops Q x (fun a' w' => (fl x = true → Ext w w') ∧ dynAt ops j a' ∧ wpOp P ops Q j (fun a2 w2 => (fl j = true → Ext w' w2) ∧ K a2 w2) a' w') a w) :
    dynAt ops j a ∧ wpOp P ops Q j (fun a' w' => (fl j = true → Ext w w') ∧ dynAt ops x a' ∧ wpOp P ops Q x (fun a2 w2 => (fl x = true → Ext w' w2) ∧ K a2 w2) a' w') a w := by
  obtain ⟨h1, h2, h3⟩ := Oper.apart_spec hap
  have h2' : ∀ d, oj.dst = some d → ox.dst ≠ some d := fun d e e' => h2 d e' e
  by_cases hkx : opKind ox.op ≤ 1
  · obtain ⟨v, ⟨_, hdj, hK⟩, hy⟩ := quiet_step hx hkx hokx hd hnp hno h
    have hdj' : dynAt ops j a := (dynAt_put hx hj h1 a v).1 hdj
    refine ⟨hdj', ?_⟩
    have fin : ∀ (S : World → Prop), YieldsIf P ops S ox v a → wpOp P ops Q j (fun a' w' => S w' ∧ (fl j = true → Ext w w') ∧ K a' w') (a.put ox.dst v) w →
        wpOp P ops Q j (fun a' w' => (fl j = true → Ext w w') ∧ dynAt ops x a' ∧ wpOp P ops Q x (fun a2 w2 => (fl x = true → Ext w' w2) ∧ K a2 w2) a' w') a w := by
      intro S hyS hKS
      have h4 := wpOp_putIf hj hap hsx hsj (fun c a w hq => absurd hq (hnp _ _ _)) hyS hKS
      refine wpOp_mono (fun a' w' h5 => ?_) (wpOp_act hj h4)
      obtain ⟨⟨u, d, rfl⟩, hy5, hS5, hf5, hK5⟩ := h5
      exact ⟨hf5, (dynAt_put hj hx h3 _ u).2 (dynAt_defers.2 hd), hy5.wpOp hx hS5 ⟨fun _ => Ext.refl _, hK5⟩⟩
    by_cases hk0 : opKind ox.op = 0
    · refine fin (fun _ => True) ?_ (wpOp_mono (fun _ _ h => ⟨trivial, h⟩) hK)
      rcases hy with ⟨e1, e2⟩ | ⟨e1, _, e3⟩
      · exact .inr ⟨e1, e2⟩
      · exact .inl ⟨e1, fun w2 _ => e3 hk0 w2⟩
    · refine fin (Ext w) ?_ ?_
      · rcases hy with ⟨e1, e2⟩ | ⟨e1, e2, _⟩
        · exact .inr ⟨e1, e2⟩
        · exact .inl ⟨e1, e2⟩
      · by_cases hfj : fl j = true
        · exact wpOp_mono (fun _ _ h => ⟨h.1 hfj, h⟩) hK
        · refine wpOp_ext hj ?_ hokj hdj hnp hno hK
          rcases hkind with h | h | h | h | h
          · omega
          · omega
          · omega
          · omega
          · exact absurd h.2 hfj
  · have hkj : opKind oj.op = 0 := by omega
    have hA := wpOp_act hx h
    obtain ⟨a', w', ⟨u, d, rfl⟩, _, hdj, hj'⟩ := wpOp_some hx hnp hno hA
    have hdj' : dynAt ops j a := dynAt_defers.1 ((dynAt_put hx hj h1 _ u).1 hdj)
    refine ⟨hdj', ?_⟩
    have heD : ∀ d, ({ a with defers := d } : Act).eval = a.eval := fun d => by funext x; cases x <;> rfl
    have tr : ∀ (u : Value) (d : List Deferred) (v : Value), Yields P ops oj v (({ a with defers := d } : Act).put ox.dst u) ↔ Yields P ops oj v a := by
      intro u d v
      have e1 := execOp_put (ops := ops) oj hsj ({ a with defers := d } : Act) ox.dst u h1
      have e2 := wanted_put (ops := ops) oj ({ a with defers := d } : Act) ox.dst u h1
      rw [heD] at e1
      constructor
      · intro hy; exact hy.of_same e1.symm e2.symm
      · intro hy; exact hy.of_same e1 e2
    obtain ⟨v, _, hy⟩ := quiet_step hj (by omega) hokj hdj hnp hno hj'
    have hyv : Yields P ops oj v a := (tr u d v).1 (by
      rcases hy with ⟨e1, e2⟩ | ⟨e1, _, e3⟩
      · exact .inr ⟨e1, e2⟩
      · exact .inl ⟨e1, e3 hkj⟩)
    refine hyv.wpOp hj ⟨fun _ => Ext.refl w, (dynAt_put hj hx h3 _ v).2 hd, wpOp_shift hx hsx h3 h2' hnp ?_⟩
    refine wpOp_mono (fun a' w' h5 => ?_) hA
    obtain ⟨⟨u5, d5, rfl⟩, hf5, hdj5, hj5⟩ := h5
    obtain ⟨v5, ⟨_, hK5⟩, hy5⟩ := quiet_step hj (by omega) hokj hdj5 hnp hno hj5
    have hyv5 : Yields P ops oj v5 a := (tr u5 d5 v5).1 (by
      rcases hy5 with ⟨e1, e2⟩ | ⟨e1, _, e3⟩
      · exact .inr ⟨e1, e2⟩
      · exact .inl ⟨e1, e3 hkj⟩)
    have hvv : v = v5 := by
      rcases hyv with ⟨e1, e2⟩ | ⟨e1, e2⟩ <;> rcases hyv5 with ⟨f1, f2⟩ | ⟨f1, f2⟩
      · have := (e2 w).symm.trans (f2 w)
        simp only [Result.ok.injEq, Next.value.injEq] at this
        exact this.1
      · rw [e1] at f1; cases f1
      · rw [e1] at f1; cases f1
      · rw [e2, f2]
    rw [hvv]
    exact ⟨hf5, hK5⟩
end
end Go.Proofs.Cab
