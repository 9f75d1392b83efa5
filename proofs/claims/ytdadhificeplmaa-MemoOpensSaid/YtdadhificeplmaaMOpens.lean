/- THE LAW MemoOpens: for every input it returns true, and its arguments read afterwards as they read before. No condition. (The frame is the kit's printed row, turned to a walk of my own.) -/
import Derived.Test.YtdadhificeplmaaMOpens0
import Derived.Laws.ResultCell
import Derived.Deep.DeepCutAuto
import Derived.Laws.StructEq

/- Pure: what is read of bytes; the program's bytes are the reference's. -/
set_option linter.unusedVariables false
set_option linter.unusedSimpArgs false
namespace Go.Proofs.Ytdadhificeplmaa
open Go.RowKit Go.Proofs.YtdadhificeplmaaW.PrintWords Go.Proofs.YtdadhificeplmaaW.PrintLast Go.Proofs.YtdadhificeplmaaW.PrintMore Go.Proofs.Cab
open PAll (S87 k87 z87)
def toR (x : Ent) : S87 := ⟨x.n, x.k == 0, x.s⟩
/-- Entries one behind another. -/
def Chain (size blocks : Int) : Int → List Ent → Prop
  | at_, [] => at_ = blocks
  | at_, x :: es => x.b = at_ ∧ 1 ≤ x.n ∧ x.b + x.n ≤ blocks ∧ (x.k = 0 ∧ x.s = ⟨#[]⟩ ∨ x.k = 1 ∧ 12 + (x.s.size : Int) ≤ x.n * size) ∧ x.s.size ≤ 2048 ∧ Chain size blocks (at_ + x.n) es
theorem endF_cons (x y : Ent) (es : List Ent) : endF (x :: y :: es) = endF (y :: es) := by simp [endF, List.getLast?_cons_cons]
theorem Chain.endF {size blocks : Int} : ∀ (es : List Ent) (at_ : Int), Chain size blocks at_ es → (es = [] ∧ at_ = blocks) ∨ endF es = blocks
  | [], at_, h => .inl ⟨rfl, h⟩
  | [x], at_, h => by
    right
    obtain ⟨h1, h2, h3, h4, h5, h6⟩ := h
    have h6 : at_ + x.n = blocks := h6
    simp only [Go.Proofs.Ytdadhificeplmaa.endF, List.getLast?_singleton]
    omega
  | x :: y :: es, at_, h => by
    obtain ⟨h1, h2, h3, h4, h5, h6⟩ := h
    rcases Chain.endF (y :: es) _ h6 with h | h
    · cases h.1
    · right
      rw [endF_cons]
      exact h
theorem Chain.end1 {size blocks : Int} {es : List Ent} (h : Chain size blocks 1 es) : Go.Proofs.Ytdadhificeplmaa.endF es = blocks := by
  rcases Chain.endF es 1 h with ⟨rfl, h⟩ | h
  · exact h
  · exact h
theorem Chain.le {size blocks : Int} : ∀ (es : List Ent) (at_ : Int), Chain size blocks at_ es → at_ ≤ blocks ∧ at_ + es.length ≤ blocks
  | [], at_, h => by have h : at_ = blocks := h; simp; omega
  | x :: es, at_, ⟨h1, h2, h3, h4, h5, h6⟩ => by
    have := Chain.le es _ h6
    rw [List.length_cons]
    push_cast
    omega
theorem Chain.mem {size blocks : Int} : ∀ (es : List Ent) (at_ : Int), Chain size blocks at_ es → ∀ x ∈ es, at_ ≤ x.b ∧ 1 ≤ x.n ∧ x.b + x.n ≤ blocks ∧ (x.k = 0 ∧ x.s = ⟨#[]⟩ ∨ x.k = 1 ∧ 12 + (x.s.size : Int) ≤ x.n * size) ∧ x.s.size ≤ 2048
  | [], at_, h => by simp
  | y :: es, at_, ⟨h1, h2, h3, h4, h5, h6⟩ => by
    intro x hx
    rcases List.mem_cons.1 hx with rfl | hx
    · exact ⟨by omega, h2, h3, h4, h5⟩
    · have := Chain.mem es _ h6 x hx
      exact ⟨by omega, this.2⟩
theorem Chain.fits {size blocks : Int} {es : List Ent} (h : Chain size blocks 1 es) (hz : 16 ≤ size ∧ size ≤ 256) (hb : 1 ≤ blocks ∧ blocks ≤ 4096) : Fits size es := by
  refine ⟨hz, by rw [h.end1]; exact hb, fun x hx => ?_⟩
  have := Chain.mem es 1 h x hx
  rw [h.end1]
  obtain ⟨h1, h2, h3, h4, h5⟩ := this
  refine ⟨⟨h1, h2, h3⟩, ?_, ?_, h5⟩
  · rcases h4 with h4 | h4
    · exact .inl h4.1
    · exact .inr h4.1
  · rcases h4 with h4 | h4
    · exact .inr h4.1
    · exact .inl h4.2
theorem Chain.fitsR {size blocks : Int} {es : List Ent} (h : Chain size blocks 1 es) (hb : 1 ≤ blocks ∧ blocks ≤ 4096) : FitsR size (es.map toR) := by
  intro y hy
  obtain ⟨x, hx, rfl⟩ := List.mem_map.1 hy
  obtain ⟨h1, h2, h3, h4, h5⟩ := Chain.mem es 1 h x hx
  refine ⟨⟨h2, by show x.n ≤ 4096; omega⟩, h5, ?_⟩
  rcases h4 with h4 | h4
  · exact .inr (by simp [toR, h4.1])
  · exact .inl h4.2
theorem Chain.sumN {size blocks : Int} : ∀ (es : List Ent) (at_ : Int), Chain size blocks at_ es → at_ + Go.Proofs.Ytdadhificeplmaa.sumN (es.map toR) = blocks
  | [], at_, h => by have h : at_ = blocks := h; simp [Go.Proofs.Ytdadhificeplmaa.sumN, h]
  | x :: es, at_, ⟨h1, h2, h3, h4, h5, h6⟩ => by
    have := Chain.sumN es _ h6
    rw [List.map_cons, Go.Proofs.Ytdadhificeplmaa.sumN]
    show at_ + (x.n + _) = blocks
    omega
/-! Writes behind what is written. -/
theorem over_app (A ys : List Int) (M : Nat) (h : ys.length ≤ M) : over (A ++ List.replicate M 0) A.length ys = A ++ ys ++ List.replicate (M - ys.length) 0 := by
  rw [over_eq _ _ _ (by rw [List.length_append, List.length_replicate]; omega), List.take_left', List.drop_append, List.drop_eq_nil_of_le (by omega)]
  · simp
  · rfl
theorem over_app' {A ys : List Int} {M o : Nat} (ho : o = A.length) (h : ys.length ≤ M) : over (A ++ List.replicate M 0) o ys = A ++ ys ++ List.replicate (M - ys.length) 0 := by
  rw [ho]; exact over_app A ys M h
theorem wrE_app {size : Int} {A : List Int} {M : Nat} {x : Ent} (hz : 16 ≤ size) (hA : (x.b * size).toNat = A.length) (hn : 1 ≤ x.n) (hk : x.k = 0 ∧ x.s = ⟨#[]⟩ ∨ x.k = 1 ∧ 12 + (x.s.size : Int) ≤ x.n * size) (hM : (x.n * size).toNat ≤ M) :
    wrE size (A ++ List.replicate M 0) x = A ++ encR size (toR x) ++ List.replicate (M - (x.n * size).toNat) 0 := by
  have h16 : 1 * size ≤ x.n * size := Int.mul_le_mul_of_nonneg_right hn (by omega)
  obtain ⟨m, hm⟩ : ∃ m, (x.n * size).toNat = m := ⟨_, rfl⟩
  have hm16 : 16 ≤ m := by omega
  have hf4 : ∀ n : Int, (fourF n).length = 4 := fun n => rfl
  have hl4 : ∀ n : Int, (leB 4 n).length = 4 := fun n => leB_length 4 n
  unfold wrE encR
  rw [hA]
  rcases hk with ⟨hk, hs⟩ | ⟨hk, hs⟩
  · rw [if_neg (by omega), if_pos (by simp [toR, hk]), hk, ← fourF_leB 0 (by omega), ← fourF_leB x.n (by omega)]
    rw [over_app' rfl (by rw [hf4]; omega), over_app' (by rw [List.length_append, hf4]) (by rw [hf4, hf4]; omega)]
    show _ = A ++ fillTo (fourF 0 ++ fourF x.n) (x.n * size).toNat ++ _
    rw [hm] at hM ⊢
    rw [fillTo, hf4, hf4, List.length_append, hf4, hf4]
    rw [show M - 4 - 4 = (m - (4 + 4)) + (M - m) by omega, ← List.replicate_append_replicate]
    simp only [List.append_assoc]
  · rw [if_pos hk, if_neg (by simp [toR, hk]), hk, ← fourF_leB 1 (by omega), ← fourF_leB x.n (by omega), ← fourF_leB (x.s.size : Int) (by omega)]
    have hsm : 12 + x.s.size ≤ m := by omega
    rw [over_app' rfl (by rw [hf4]; omega), over_app' (by rw [List.length_append, hf4]) (by rw [hf4, hf4]; omega)]
    rw [over_app' (by rw [List.length_append, List.length_append, hf4, hf4]) (by rw [hf4, hf4, hf4]; omega)]
    rw [over_app' (by rw [List.length_append, List.length_append, List.length_append, hf4, hf4, hf4]) (by rw [hf4, hf4, hf4, numsS_length]; omega)]
    show _ = A ++ fillTo (fourF 1 ++ fourF x.n ++ fourF (x.s.size : Int) ++ numsS x.s) (x.n * size).toNat ++ _
    rw [hm] at hM ⊢
    rw [fillTo]
    simp only [List.length_append, hf4, numsS_length]
    rw [show M - 4 - 4 - 4 - x.s.size = (m - (4 + 4 + 4 + x.s.size)) + (M - m) by omega, ← List.replicate_append_replicate]
    simp only [List.append_assoc]
theorem encR_len {size : Int} {x : Ent} (hz : 16 ≤ size) (hn : 1 ≤ x.n) (hk : x.k = 0 ∧ x.s = ⟨#[]⟩ ∨ x.k = 1 ∧ 12 + (x.s.size : Int) ≤ x.n * size) : (encR size (toR x)).length = (x.n * size).toNat := by
  refine encR_length size (toR x) hz hn ?_
  rcases hk with hk | hk
  · exact .inr (by simp [toR, hk.1])
  · exact .inl hk.2
theorem fold_app {size blocks : Int} (hz : 16 ≤ size) : ∀ (es : List Ent) (at_ : Int) (A : List Int), 1 ≤ at_ → Chain size blocks at_ es → (at_ * size).toNat = A.length →
    es.foldl (wrE size) (A ++ List.replicate ((blocks - at_) * size).toNat 0) = A ++ (es.map toR).flatMap (encR size)
  | [], at_, A, h1, h, hA => by
    have h : at_ = blocks := h
    subst h
    simp
  | x :: es, at_, A, ha, h, hA => by
    obtain ⟨h1, h2, h3, h4, h5, h6⟩ := h
    subst h1
    have hle := Chain.le es _ h6
    have e1 : (blocks - x.b) * size = x.n * size + (blocks - (x.b + x.n)) * size := by rw [← Int.add_mul]; congr 1; omega
    have p1 : 0 ≤ x.n * size := Int.mul_nonneg (by omega) (by omega)
    have p2 : 0 ≤ (blocks - (x.b + x.n)) * size := Int.mul_nonneg (by omega) (by omega)
    have p3 : 0 ≤ x.b * size := Int.mul_nonneg (by omega) (by omega)
    have e2 : (x.b + x.n) * size = x.b * size + x.n * size := Int.add_mul _ _ _
    rw [List.foldl_cons, wrE_app hz hA h2 h4 (by omega), show ((blocks - x.b) * size).toNat - (x.n * size).toNat = ((blocks - (x.b + x.n)) * size).toNat by omega]
    rw [fold_app hz es (x.b + x.n) (A ++ encR size (toR x)) (by omega) h6 (by rw [List.length_append, encR_len hz h2 h4]; omega)]
    rw [List.map_cons, List.flatMap_cons, List.append_assoc]
theorem bytesP_eq {size blocks : Int} {es : List Ent} (hz : 16 ≤ size ∧ size ≤ 256) (hb : 1 ≤ blocks) (h : Chain size blocks 1 es) : bytesP size es = bytesR size (es.map toR) := by
  have e1 : blocks * size = 1 * size + (blocks - 1) * size := by rw [← Int.add_mul]; congr 1; omega
  have p1 : 0 ≤ (blocks - 1) * size := Int.mul_nonneg (by omega) (by omega)
  have hl6 : (fourF blocks ++ leB 2 size).length = 6 := by rw [List.length_append, leB_length]; rfl
  have hH : hdrP size blocks (blocks * size).toNat = hdrR size blocks ++ List.replicate ((blocks - 1) * size).toNat 0 := by
    have g1 := over_app' (A := []) (ys := leB 4 blocks) (M := (blocks * size).toNat) (o := 0) rfl (by rw [leB_length]; omega)
    rw [List.nil_append] at g1
    unfold hdrP
    rw [g1, List.nil_append, over_app' (by rw [leB_length]) (by rw [leB_length, leB_length]; omega), ← fourF_leB _ (by omega)]
    unfold hdrR fillTo
    show fourF blocks ++ [size % 256, size / 256 % 256] ++ List.replicate ((blocks * size).toNat - (fourF blocks).length - 2) 0 = _
    rw [show (blocks * size).toNat - (fourF blocks).length - 2 = (size.toNat - 6) + ((blocks - 1) * size).toNat by
      show (blocks * size).toNat - 4 - 2 = _
      omega, ← List.replicate_append_replicate]
    simp only [List.append_assoc]
    rfl
  have hHL : (hdrR size blocks).length = size.toNat := by
    rw [hdrR, fillTo_length _ _ (by show 6 ≤ _; omega)]
  unfold bytesP
  rw [h.end1, hH, fold_app hz.1 es 1 (hdrR size blocks) (by omega) h (by rw [hHL]; omega), bytesR, Chain.sumN es 1 h]
end Go.Proofs.Ytdadhificeplmaa

/- Pure: reading entries. -/
set_option linter.unusedVariables false
set_option linter.unusedSimpArgs false
namespace Go.Proofs.Ytdadhificeplmaa
open Go.RowKit Go.Proofs.YtdadhificeplmaaW.PrintWords Go.Proofs.YtdadhificeplmaaW.PrintLast Go.Proofs.YtdadhificeplmaaW.PrintMore Go.Proofs.Cab
open PAll (S87 k87 z87)
def num4 (b : List Int) (o : Nat) : Int := leV ((b.drop o).take 4)
/-- The program's entry at a block. -/
def readE (size blocks : Int) (b : List Int) (at_ : Int) : Option Ent :=
  let o := (at_ * size).toNat
  if num4 b (o + 4) < 1 ∨ blocks - at_ < num4 b (o + 4) then none
  else if num4 b o = 0 then some ⟨at_, num4 b (o + 4), 0, ⟨#[]⟩⟩
  else if num4 b o = 1 then
    if 2048 < num4 b (o + 8) ∨ needsF size (num4 b (o + 8)) ≠ num4 b (o + 4) then none
    else some ⟨at_, num4 b (o + 4), 1, strOfNums ((b.drop (o + 12)).take (num4 b (o + 8)).toNat)⟩
  else none
/-- The reference's. -/
def readR (size blocks : Int) (b : List Int) (at_ : Int) : Option S87 :=
  let o := (at_ * size).toNat
  if num4 b (o + 4) < 1 ∨ blocks - at_ < num4 b (o + 4) then none
  else if num4 b o = 0 then some ⟨num4 b (o + 4), true, ⟨#[]⟩⟩
  else
    if 2048 < num4 b (o + 8) ∨ needsF size (num4 b (o + 8)) ≠ num4 b (o + 4) then none
    else some ⟨num4 b (o + 4), false, strOfNums ((b.drop (o + 12)).take (num4 b (o + 8)).toNat)⟩
def parse {α : Type} (rd : Int → Option α) (nOf : α → Int) (fr : α → Bool) (blocks : Int) : Nat → Int → Bool → Option (List α)
  | 0, _, _ => none
  | f + 1, at_, pf => if blocks ≤ at_ then some [] else
    match rd at_ with
    | none => none
    | some x => if fr x && (pf || at_ + nOf x == blocks) then none else (parse rd nOf fr blocks f (at_ + nOf x) (fr x)).map (x :: ·)
def parseP (size blocks : Int) (b : List Int) := parse (readE size blocks b) (fun x => x.n) (fun x => x.k == 0) blocks
def parseR (size blocks : Int) (b : List Int) := parse (readR size blocks b) (fun x => x.f0) (fun x => x.f1) blocks
/-- One entry more. -/
theorem parse_step {α : Type} {rd : Int → Option α} {nOf : α → Int} {fr : α → Bool} {blocks : Int} {f : Nat} {at_ : Int} {pf : Bool} {x : α} (h : ¬ blocks ≤ at_) (hr : rd at_ = some x) (hf : (fr x && (pf || at_ + nOf x == blocks)) = false) :
    parse rd nOf fr blocks (f + 1) at_ pf = (parse rd nOf fr blocks f (at_ + nOf x) (fr x)).map (x :: ·) := by
  rw [parse, if_neg h, hr]
  simp only [hf]
  rfl
theorem parse_bad {α : Type} {rd : Int → Option α} {nOf : α → Int} {fr : α → Bool} {blocks : Int} {f : Nat} {at_ : Int} {pf : Bool} (h : ¬ blocks ≤ at_) (hr : rd at_ = none ∨ ∃ x, rd at_ = some x ∧ (fr x && (pf || at_ + nOf x == blocks)) = true) :
    parse rd nOf fr blocks (f + 1) at_ pf = none := by
  rw [parse, if_neg h]
  rcases hr with hr | ⟨x, hr, hf⟩
  · rw [hr]
  · rw [hr]
    simp only [hf]
    rfl
theorem parse_end {α : Type} {rd : Int → Option α} {nOf : α → Int} {fr : α → Bool} {blocks : Int} {f : Nat} {at_ : Int} {pf : Bool} (h : blocks ≤ at_) : parse rd nOf fr blocks (f + 1) at_ pf = some [] := by
  rw [parse, if_pos h]
theorem readE_readR {size blocks : Int} {b : List Int} {at_ : Int} {x : Ent} (h : readE size blocks b at_ = some x) : readR size blocks b at_ = some (toR x) := by
  unfold readE at h
  unfold readR
  simp only at h ⊢
  split at h
  · cases h
  · rename_i h1
    rw [if_neg h1]
    split at h
    · rename_i h2
      rw [if_pos h2]
      injection h with h
      subst h
      rfl
    · rename_i h2
      rw [if_neg h2]
      split at h
      · split at h
        · cases h
        · rename_i h3
          rw [if_neg h3]
          injection h with h
          subst h
          rfl
      · cases h
theorem agree1 {size blocks : Int} {b : List Int} : ∀ (f : Nat) (at_ : Int) (pf : Bool) (es : List Ent), parseP size blocks b f at_ pf = some es → parseR size blocks b f at_ pf = some (es.map toR)
  | 0, _, _, _, h => by cases h
  | f + 1, at_, pf, es, h => by
    unfold parseP at h
    unfold parseR
    by_cases hb : blocks ≤ at_
    · rw [parse_end hb] at h ⊢
      injection h with h
      subst h
      rfl
    · rcases hr : readE size blocks b at_ with _ | x
      · rw [parse_bad hb (.inl hr)] at h
        cases h
      · rcases hf : ((x.k == 0) && (pf || at_ + x.n == blocks)) with _ | _
        · rw [parse_step hb hr hf] at h
          rw [parse_step hb (readE_readR hr) hf]
          obtain ⟨es', h1, h2⟩ := Option.map_eq_some_iff.1 h
          subst h2
          have := agree1 f _ _ es' h1
          unfold parseR at this
          rw [show ((toR x).f0) = x.n from rfl, show ((toR x).f1) = (x.k == 0) from rfl, this]
          rfl
        · rw [parse_bad hb (.inr ⟨x, hr, hf⟩)] at h
          cases h
theorem needs_sound {size n m : Int} (hz : 16 ≤ size) (hm : 0 ≤ m) (h : needsF size m = n) : 12 + m ≤ n * size := by
  subst h
  unfold needsF
  have h1 := Int.emod_add_mul_ediv (m + 12 + size - 1) size
  have h2 := Int.emod_lt_of_pos (m + 12 + size - 1) (show 0 < size by omega)
  have h3 : (m + 12 + size - 1) / size * size = size * ((m + 12 + size - 1) / size) := Int.mul_comm _ _
  omega
theorem num4_nn {b : List Int} (hb : ∀ x ∈ b, 0 ≤ x ∧ x ≤ 255) (o : Nat) : 0 ≤ num4 b o ∧ num4 b o < 4294967296 := by
  have h := leV_bd ((b.drop o).take 4) (fun x hx => hb x (List.mem_of_mem_drop (List.mem_of_mem_take hx)))
  have h2 : ((b.drop o).take 4).length ≤ 4 := by rw [List.length_take]; omega
  have h3 : (256 : Int) ^ ((b.drop o).take 4).length ≤ 256 ^ 4 := by
    generalize ((b.drop o).take 4).length = j at h2
    match j, h2 with
    | 0, _ => decide
    | 1, _ => decide
    | 2, _ => decide
    | 3, _ => decide
    | 4, _ => decide
  unfold num4
  omega
theorem str_size (l : List Int) : (strOfNums l).size = l.length := by
  have h : (strOfNums l).size = (strOfNums l).data.toList.length := by rw [Array.length_toList]; rfl
  rw [h]
  simp [strOfNums]
/-- What is read is sound. -/
theorem readE_sound {size blocks : Int} {b : List Int} {at_ : Int} {x : Ent} (hz : 16 ≤ size) (hb : ∀ x ∈ b, 0 ≤ x ∧ x ≤ 255) (ha : 0 ≤ at_) (hl : (b.length : Int) = blocks * size) (h : readE size blocks b at_ = some x) :
    x.b = at_ ∧ 1 ≤ x.n ∧ x.b + x.n ≤ blocks ∧ (x.k = 0 ∧ x.s = ⟨#[]⟩ ∨ x.k = 1 ∧ 12 + (x.s.size : Int) ≤ x.n * size) ∧ x.s.size ≤ 2048 := by
  unfold readE at h
  simp only at h
  have hp := num4_nn hb ((at_ * size).toNat + 8)
  split at h
  · cases h
  · rename_i h1
    split at h
    · injection h with h
      subst h
      exact ⟨rfl, by show 1 ≤ num4 _ _; omega, by show at_ + num4 _ _ ≤ _; omega, .inl ⟨rfl, rfl⟩, by show 0 ≤ 2048; omega⟩
    · split at h
      · split at h
        · cases h
        · rename_i h3
          injection h with h
          subst h
          obtain ⟨m, hm⟩ : ∃ m, num4 b ((at_ * size).toNat + 8) = m := ⟨_, rfl⟩
          obtain ⟨n, hn⟩ : ∃ n, num4 b ((at_ * size).toNat + 4) = n := ⟨_, rfl⟩
          rw [hm, hn] at h3
          rw [hn] at h1
          rw [hm] at hp
          have hs := needs_sound hz hp.1 (n := n) (m := m) (by omega)
          have hle : ((strOfNums ((b.drop ((at_ * size).toNat + 12)).take m.toNat)).size : Int) ≤ m := by
            rw [str_size, List.length_take]
            omega
          rw [hm, hn]
          refine ⟨rfl, by show 1 ≤ n; omega, by show at_ + n ≤ _; omega, .inr ⟨rfl, ?_⟩, ?_⟩
          · show 12 + ((strOfNums _).size : Int) ≤ n * size
            omega
          · show (strOfNums _).size ≤ 2048
            omega
      · cases h
theorem parse_chain {size blocks : Int} {b : List Int} (hz : 16 ≤ size) (hb : ∀ x ∈ b, 0 ≤ x ∧ x ≤ 255) (hl : (b.length : Int) = blocks * size) : ∀ (f : Nat) (at_ : Int) (pf : Bool) (es : List Ent), 0 ≤ at_ → at_ ≤ blocks → parseP size blocks b f at_ pf = some es → Chain size blocks at_ es
  | 0, _, _, _, _, _, h => by cases h
  | f + 1, at_, pf, es, ha, ha2, h => by
    unfold parseP at h
    by_cases hbl : blocks ≤ at_
    · rw [parse_end hbl] at h
      injection h with h
      subst h
      show at_ = blocks
      omega
    · rcases hr : readE size blocks b at_ with _ | x
      · rw [parse_bad hbl (.inl hr)] at h
        cases h
      · rcases hf : ((x.k == 0) && (pf || at_ + x.n == blocks)) with _ | _
        · rw [parse_step hbl hr hf] at h
          obtain ⟨es', h1, h2⟩ := Option.map_eq_some_iff.1 h
          subst h2
          obtain ⟨s1, s2, s3, s4, s5⟩ := readE_sound hz hb ha hl hr
          exact ⟨s1, s2, s3, s4, s5, parse_chain hz hb hl f _ _ es' (by omega) (by omega) h1⟩
        · rw [parse_bad hbl (.inr ⟨x, hr, hf⟩)] at h
          cases h
theorem readR_sound {size blocks : Int} {b : List Int} {at_ : Int} {x : S87} (hz : 16 ≤ size) (hb : ∀ x ∈ b, 0 ≤ x ∧ x ≤ 255) (h : readR size blocks b at_ = some x) :
    1 ≤ x.f0 ∧ at_ + x.f0 ≤ blocks ∧ x.f2.size ≤ 2048 ∧ (12 + (x.f2.size : Int) ≤ x.f0 * size ∨ x.f1 = true) := by
  unfold readR at h
  simp only at h
  have hp := num4_nn hb ((at_ * size).toNat + 8)
  split at h
  · cases h
  · rename_i h1
    split at h
    · injection h with h
      subst h
      exact ⟨by show 1 ≤ num4 _ _; omega, by show at_ + num4 _ _ ≤ _; omega, by show 0 ≤ 2048; omega, .inr rfl⟩
    · split at h
      · cases h
      · rename_i h3
        injection h with h
        subst h
        obtain ⟨m, hm⟩ : ∃ m, num4 b ((at_ * size).toNat + 8) = m := ⟨_, rfl⟩
        obtain ⟨n, hn⟩ : ∃ n, num4 b ((at_ * size).toNat + 4) = n := ⟨_, rfl⟩
        rw [hm, hn] at h3
        rw [hn] at h1
        rw [hm] at hp
        have hs := needs_sound hz hp.1 (n := n) (m := m) (by omega)
        have hle : ((strOfNums ((b.drop ((at_ * size).toNat + 12)).take m.toNat)).size : Int) ≤ m := by
          rw [str_size, List.length_take]
          omega
        rw [hm, hn]
        refine ⟨by show 1 ≤ n; omega, by show at_ + n ≤ _; omega, ?_, .inl ?_⟩
        · show (strOfNums _).size ≤ 2048
          omega
        · show 12 + ((strOfNums _).size : Int) ≤ n * size
          omega
theorem parseR_fits {size blocks : Int} {b : List Int} (hz : 16 ≤ size) (hb : ∀ x ∈ b, 0 ≤ x ∧ x ≤ 255) (hbl : blocks ≤ 4096) : ∀ (f : Nat) (at_ : Int) (pf : Bool) (l : List S87), 0 ≤ at_ → parseR size blocks b f at_ pf = some l → FitsR size l ∧ (at_ ≤ blocks → at_ + l.length ≤ blocks)
  | 0, _, _, _, _, h => by cases h
  | f + 1, at_, pf, l, ha, h => by
    unfold parseR at h
    by_cases hbk : blocks ≤ at_
    · rw [parse_end hbk] at h
      injection h with h
      subst h
      exact ⟨fun x hx => by simp at hx, by simp⟩
    · rcases hr : readR size blocks b at_ with _ | x
      · rw [parse_bad hbk (.inl hr)] at h
        cases h
      · rcases hf : (x.f1 && (pf || at_ + x.f0 == blocks)) with _ | _
        · rw [parse_step hbk hr hf] at h
          obtain ⟨l', h1, h2⟩ := Option.map_eq_some_iff.1 h
          subst h2
          obtain ⟨s1, s2, s3, s4⟩ := readR_sound hz hb hr
          obtain ⟨g1, g2⟩ := parseR_fits hz hb hbl f _ _ l' (by omega) h1
          refine ⟨fun y hy => ?_, fun _ => ?_⟩
          · rcases List.mem_cons.1 hy with rfl | hy
            · exact ⟨⟨s1, by omega⟩, s3, s4⟩
            · exact g1 y hy
          · have := g2 (by omega)
            rw [List.length_cons]
            push_cast
            omega
        · rw [parse_bad hbk (.inr ⟨x, hr, hf⟩)] at h
          cases h
theorem encR_head (size : Int) (x : S87) (rest : List Int) : (encR size x ++ rest).take 4 = fourF (if x.f1 then 0 else 1) := by
  unfold encR fillTo fourF
  cases x.f1 <;> rfl
theorem agree2 {size blocks : Int} {b : List Int} (hz : 16 ≤ size) (hb : ∀ x ∈ b, 0 ≤ x ∧ x ≤ 255) : ∀ (f : Nat) (at_ : Int) (pf : Bool) (l : List S87), 0 ≤ at_ → parseR size blocks b f at_ pf = some l → b.drop (at_ * size).toNat = l.flatMap (encR size) → ∃ es, parseP size blocks b f at_ pf = some es ∧ es.map toR = l
  | 0, _, _, _, _, h, _ => by cases h
  | f + 1, at_, pf, l, ha, h, hd => by
    unfold parseR at h
    unfold parseP
    by_cases hbk : blocks ≤ at_
    · rw [parse_end hbk] at h ⊢
      injection h with h
      subst h
      exact ⟨[], rfl, rfl⟩
    · rcases hr : readR size blocks b at_ with _ | x
      · rw [parse_bad hbk (.inl hr)] at h
        cases h
      · rcases hf : (x.f1 && (pf || at_ + x.f0 == blocks)) with _ | _
        · rw [parse_step hbk hr hf] at h
          obtain ⟨l', h1, h2⟩ := Option.map_eq_some_iff.1 h
          subst h2
          obtain ⟨s1, s2, s3, s4⟩ := readR_sound hz hb hr
          rw [List.flatMap_cons] at hd
          have hk : num4 b (at_ * size).toNat = if x.f1 then 0 else 1 := by
            rw [num4, hd, encR_head]
            cases x.f1 <;> rfl
          have hE : ∃ y : Ent, readE size blocks b at_ = some y ∧ toR y = x := by
            unfold readR at hr
            simp only at hr
            unfold readE
            simp only
            split at hr
            · cases hr
            · rename_i g1
              rw [if_neg g1]
              split at hr
              · rename_i g2
                rw [if_pos g2]
                injection hr with hr
                subst hr
                exact ⟨_, rfl, rfl⟩
              · rename_i g2
                rw [if_neg g2]
                have g3 : num4 b (at_ * size).toNat = 1 := by
                  rw [hk] at g2 ⊢
                  cases hx : x.f1
                  · rfl
                  · simp [hx] at g2
                rw [if_pos g3]
                split at hr
                · cases hr
                · rename_i g4
                  rw [if_neg g4]
                  injection hr with hr
                  subst hr
                  exact ⟨_, rfl, rfl⟩
          obtain ⟨y, hy, rfl⟩ := hE
          have p1 : 0 ≤ y.n * size := Int.mul_nonneg (by have : 1 ≤ y.n := s1; omega) (by omega)
          have p2 : 0 ≤ at_ * size := Int.mul_nonneg ha (by omega)
          have e2 : (at_ + y.n) * size = at_ * size + y.n * size := Int.add_mul _ _ _
          have hd2 : b.drop ((at_ + y.n) * size).toNat = l'.flatMap (encR size) := by
            have h3 := congrArg (List.drop (encR size (toR y)).length) hd
            rw [List.drop_drop, List.drop_left' rfl, encR_length size (toR y) hz s1 s4] at h3
            rw [← h3]
            congr 1
            show _ = (at_ * size).toNat + (y.n * size).toNat
            omega
          obtain ⟨es, h4, h5⟩ := agree2 hz hb f _ _ l' (by have : 1 ≤ (toR y).f0 := s1; omega) h1 hd2
          refine ⟨y :: es, ?_, by rw [List.map_cons, h5]⟩
          have hf' : ((y.k == 0) && (pf || at_ + y.n == blocks)) = false := hf
          rw [parse_step hbk hy hf']
          unfold parseP at h4
          rw [show y.n = (toR y).f0 from rfl, show (y.k == 0) = (toR y).f1 from rfl, h4]
          rfl
        · rw [parse_bad hbk (.inr ⟨x, hr, hf⟩)] at h
          cases h
/-- What both Opens give, the heads being right. -/
theorem opens {size blocks : Int} {b : List Int} (hz : 16 ≤ size ∧ size ≤ 256) (hb : ∀ x ∈ b, 0 ≤ x ∧ x ≤ 255) (hl : (b.length : Int) = blocks * size) (hbl : 1 ≤ blocks ∧ blocks ≤ 4096) (f : Nat) :
    (∃ es, parseP size blocks b f 1 false = some es ∧ Chain size blocks 1 es ∧ parseR size blocks b f 1 false = some (es.map toR) ∧ bytesP size es = bytesR size (es.map toR)) ∨
    (parseP size blocks b f 1 false = none ∧ ∀ l, parseR size blocks b f 1 false = some l → bytesR size l ≠ b) := by
  rcases hp : parseP size blocks b f 1 false with _ | es
  · right
    refine ⟨rfl, fun l hr he => ?_⟩
    have hd : b.drop (1 * size).toNat = l.flatMap (encR size) := by
      rw [← he, bytesR, List.drop_left']
      rw [hdrR, fillTo_length _ _ (by show 6 ≤ _; omega)]
      omega
    obtain ⟨es, h1, _⟩ := agree2 hz.1 hb f 1 false l (by omega) hr hd
    rw [hp] at h1
    cases h1
  · left
    have hc := parse_chain hz.1 hb hl f 1 false es (by omega) hbl.1 hp
    exact ⟨es, rfl, hc, agree1 f 1 false es hp, bytesP_eq hz hbl.1 hc⟩
end Go.Proofs.Ytdadhificeplmaa

/- read (fn 37). -/
set_option linter.unusedVariables false
set_option linter.unusedSimpArgs false
namespace Go.Proofs.Ytdadhificeplmaa
open Go.RowKit Go.Proofs.YtdadhificeplmaaW.PrintWords Go.Proofs.YtdadhificeplmaaW.PrintLast Go.Proofs.YtdadhificeplmaaW.PrintMore Go.Proofs.Cab
theorem run_drop (A : Option Addr) (c : Nat) (xs : List Int) (j : Int) (h0 : 0 ≤ j) (hm : j ≤ xs.length) (hc : xs.length ≤ c) :
    ∃ A' : Option Addr, (∀ W : World, (Instr.slice 27 (.slice A xs.length c) (some (.int .i64 j)) none none).run Try.prog W = .ok (.slice A' (xs.drop j.toNat).length (c - j.toNat)) W) ∧ (∀ w : World, Kd.C (Kd.int .u8) w A xs.length xs → Kd.C (Kd.int .u8) w A' (xs.drop j.toNat).length (xs.drop j.toNat)) ∧ (xs.drop j.toNat).length ≤ c - j.toNat := by
  obtain ⟨i0, hi, hzz⟩ := Option.map_eq_some_iff.1 info5
  simp only [Prod.mk.injEq] at hzz
  obtain ⟨A', h1, h2, h3⟩ := print_drop_of (P := Try.prog) (Value.int .u8) (0 : Int) 27 5 .i64 Try.underlying27 hi hzz.2.1 A c xs j h0 hm hc
  exact ⟨A', h1, fun w h => Kd.C_of_reads (d := (0 : Int)) (h1 := fun _ => rfl) (h2 w (Kd.reads_of_C (d := (0 : Int)) (h1 := fun _ => rfl) h)), h3⟩
theorem run_cut (A : Option Addr) (c : Nat) (xs : List Int) (i m : Nat) (hm : i + m ≤ xs.length) (hc : xs.length ≤ c) :
    ∃ A' : Option Addr, (∀ W : World, (Instr.slice 27 (.slice A xs.length c) (some (.int .i64 (i : Int))) (some (.int .i64 ((i + m : Nat) : Int))) none).run Try.prog W = .ok (.slice A' m (c - i)) W) ∧ (∀ w : World, Kd.C (Kd.int .u8) w A xs.length xs → Kd.C (Kd.int .u8) w A' m ((xs.drop i).take m)) ∧ m ≤ c - i := by
  obtain ⟨i0, hi, hzz⟩ := Option.map_eq_some_iff.1 info5
  simp only [Prod.mk.injEq] at hzz
  obtain ⟨A', g1, g2, g3⟩ := print_mid_of (P := Try.prog) (Value.int .u8) (0 : Int) 27 5 .i64 .i64 Try.underlying27 hi hzz.2.1 A c xs (i : Int) ((i + m : Nat) : Int) (by omega) (by omega) (by omega) hc
  simp only [Int.toNat_natCast] at g1 g2 g3
  have e : (xs.take (i + m)).drop i = (xs.drop i).take m := by
    rw [List.drop_take, Nat.add_sub_cancel_left]
  have hL : ((xs.drop i).take m).length = m := by rw [List.length_take, List.length_drop]; omega
  rw [e, hL] at g1 g2 g3
  exact ⟨A', g1, fun w h => Kd.C_of_reads (d := (0 : Int)) (h1 := fun _ => rfl) (g2 w (Kd.reads_of_C (d := (0 : Int)) (h1 := fun _ => rfl) h)), g3⟩
theorem get_at {A0 : Option Addr} {c0 m : Nat} {l : List Int} {w : World} {x : Int} (hr0 : Kd.C (Kd.int .u8) w A0 m l) (hc0 : m ≤ c0) (hb : ∀ x ∈ l, 0 ≤ x ∧ x ≤ 255) (hl : m ≤ 4) (hx : leV l = x) :
    Calls Try.prog 36 #[.slice A0 m c0] w fun e w' => e = .returned (.int .i64 x) ∧ Drawn0 w w' := by
  obtain rfl := hr0.1
  rw [← hx]
  exact get_any A0 c0 l w hr0 hc0 hb hl
def readV : Option Ent → Value
  | none => .tuple #[Ent0.val, .bool false]
  | some x => .tuple #[x.val, .bool true]
theorem numAt (b : List Int) (o i : Nat) : num4 b (o + i) = leV (((b.drop o).drop i).take 4) := by rw [num4, List.drop_drop]
theorem bytes_sub {b : List Int} (hb : ∀ x ∈ b, 0 ≤ x ∧ x ≤ 255) (i j : Nat) : ∀ x ∈ (b.drop i).take j, 0 ≤ x ∧ x ≤ 255 := fun x hx => hb x (List.mem_of_mem_drop (List.mem_of_mem_take hx))
theorem KS_below {w W W' : World} {o : Obj} (h : Below w.heap.size w W ∧ W.heap[w.heap.size]? = some o) (hb : Below W.heap.size W W') : Below w.heap.size w W' ∧ W'.heap[w.heap.size]? = some o := ⟨below_step h.1 hb, blk_below h.2 hb⟩
theorem size_drewN (W : World) (n : Nat) : (W.drewN n).heap.size = W.heap.size := rfl
theorem blk_drewN {W : World} {g : Nat} {o : Obj} (h : W.heap[g]? = some o) (n : Nat) : (W.drewN n).heap[g]? = some o := h
set_option maxHeartbeats 4000000 in
set_option maxRecDepth 100000 in
theorem read_any (A0 : Option Addr) (c0 : Nat) (b : List Int) (size blocks at_ : Int) (w : World) (hr0 : Kd.C (Kd.int .u8) w A0 b.length b) (hc0 : b.length ≤ c0) (hb : ∀ x ∈ b, 0 ≤ x ∧ x ≤ 255) (hz : 16 ≤ size ∧ size ≤ 256) (hl : (b.length : Int) = blocks * size) (ha : 0 ≤ at_ ∧ at_ < blocks) (hbk : blocks ≤ 4096) :
    Calls Try.prog 37 #[.slice A0 b.length c0, .int .i64 size, .int .i64 at_] w fun e w' => e = .returned (readV (readE size blocks b at_)) ∧ Below w.heap.size w w' := by
  obtain ⟨z1, z2⟩ := hz
  obtain ⟨a1, a2⟩ := ha
  have hE : readE size blocks b at_ = readE size blocks b at_ := rfl
  have p1 : 0 ≤ at_ * size := Int.mul_nonneg a1 (by omega)
  have p2 : at_ * size + 1 * size ≤ blocks * size := by rw [← Int.add_mul]; exact Int.mul_le_mul_of_nonneg_right (by omega) (by omega)
  have p3 : blocks * size ≤ 4096 * 256 := Int.mul_le_mul hbk z2 (by omega) (by omega)
  obtain ⟨o, ho⟩ : ∃ o : Nat, at_ * size = (o : Int) := ⟨(at_ * size).toNat, by omega⟩
  obtain ⟨AR, kr, CR, hcR⟩ := run_drop A0 c0 b (o : Int) (by omega) (by omega) hc0
  have HCR := Aside0.mk (CR w hr0)
  rw [Int.toNat_natCast] at kr HCR hcR
  obtain ⟨R, hR⟩ : ∃ R, b.drop o = R := ⟨_, rfl⟩
  have hRL : (R.length : Int) = (blocks - at_) * size := by rw [← hR, List.length_drop, Int.sub_mul]; omega
  have hRb : ∀ x ∈ R, 0 ≤ x ∧ x ≤ 255 := by rw [← hR]; exact fun x hx => hb x (List.mem_of_mem_drop hx)
  rw [hR] at kr HCR hcR
  have hR16 : 16 ≤ R.length := by
    have := mul_bd (a := 1) (E := blocks - at_) (s := size) (by omega) (by omega) (by omega)
    omega
  obtain ⟨A1, k1, C1, hc1⟩ := run_cut AR (c0 - o) R 0 4 (by omega) hcR
  obtain ⟨A2, k2, C2, hc2⟩ := run_cut AR (c0 - o) R 4 4 (by omega) hcR
  obtain ⟨A3, k3, C3, hc3⟩ := run_cut AR (c0 - o) R 8 4 (by omega) hcR
  replace k1 : ∀ W : World, (Instr.slice 27 (.slice AR R.length (c0 - o)) (some (.int .i64 0)) (some (.int .i64 4)) none).run Try.prog W = .ok (.slice A1 4 (c0 - o)) W := k1
  replace k2 : ∀ W : World, (Instr.slice 27 (.slice AR R.length (c0 - o)) (some (.int .i64 4)) (some (.int .i64 8)) none).run Try.prog W = .ok (.slice A2 4 (c0 - o - 4)) W := k2
  replace k3 : ∀ W : World, (Instr.slice 27 (.slice AR R.length (c0 - o)) (some (.int .i64 8)) (some (.int .i64 12)) none).run Try.prog W = .ok (.slice A3 4 (c0 - o - 8)) W := k3
  have hdef : readE size blocks b at_ = (if leV ((R.drop 4).take 4) < 1 ∨ blocks - at_ < leV ((R.drop 4).take 4) then none else if leV ((R.drop 0).take 4) = 0 then some ⟨at_, leV ((R.drop 4).take 4), 0, ⟨#[]⟩⟩ else if leV ((R.drop 0).take 4) = 1 then (if 2048 < leV ((R.drop 8).take 4) ∨ needsF size (leV ((R.drop 8).take 4)) ≠ leV ((R.drop 4).take 4) then none else some ⟨at_, leV ((R.drop 4).take 4), 1, strOfNums ((R.drop 12).take (leV ((R.drop 8).take 4)).toNat)⟩) else none) := by
    unfold readE
    simp only
    rw [show (at_ * size).toNat = o by omega, numAt, numAt, ← List.drop_drop, hR, show num4 b o = leV ((R.drop 0).take 4) by rw [num4, hR, List.drop_zero]]
  have HD := Aside0.mk hdef
  obtain ⟨n, hn⟩ : ∃ n, leV ((R.drop 4).take 4) = n := ⟨_, rfl⟩
  obtain ⟨k, hk⟩ : ∃ k, leV ((R.drop 0).take 4) = k := ⟨_, rfl⟩
  obtain ⟨m, hm⟩ : ∃ m, leV ((R.drop 8).take 4) = m := ⟨_, rfl⟩
  rw [hn, hk, hm] at HD
  have G1 : Aside0 (∀ W, Kd.C (Kd.int .u8) W AR R.length R → Calls Try.prog 36 #[.slice A1 4 (c0 - o)] W fun e w' => e = .returned (.int .i64 k) ∧ Drawn0 W w') := ⟨fun W h => get_at (C1 W h) hc1 (bytes_sub hRb 0 4) (by omega) hk⟩
  have G2 : Aside0 (∀ W, Kd.C (Kd.int .u8) W AR R.length R → Calls Try.prog 36 #[.slice A2 4 (c0 - o - 4)] W fun e w' => e = .returned (.int .i64 n) ∧ Drawn0 W w') := ⟨fun W h => get_at (C2 W h) hc2 (bytes_sub hRb 4 4) (by omega) hn⟩
  have G3 : Aside0 (∀ W, Kd.C (Kd.int .u8) W AR R.length R → Calls Try.prog 36 #[.slice A3 4 (c0 - o - 8)] W fun e w' => e = .returned (.int .i64 m) ∧ Drawn0 W w') := ⟨fun W h => get_at (C3 W h) hc3 (bytes_sub hRb 8 4) (by omega) hm⟩
  have HB : Aside0 (Below w.heap.size w (w.alloc (.cells #[.int .i64 0, .int .i64 0, .int .i64 0, .string ⟨#[]⟩] 78))) := ⟨below_alloc (Below.refl _ _) _⟩
  have HC6 : Aside0 ((w.alloc (.cells #[.int .i64 0, .int .i64 0, .int .i64 0, .string ⟨#[]⟩] 78)).heap[w.heap.size]? = some (.cells #[.int .i64 0, .int .i64 0, .int .i64 0, .string ⟨#[]⟩] 78 (0, 0))) := ⟨blk_new _ _⟩
  have hn4 : 0 ≤ n ∧ n < 4294967296 := by rw [← hn]; exact num4_nn (b := R) hRb 4
  have hk4 : 0 ≤ k ∧ k < 4294967296 := by rw [← hk]; exact num4_nn (b := R) hRb 0
  have hm4 : 0 ≤ m ∧ m < 4294967296 := by rw [← hm]; exact num4_nn (b := R) hRb 8
  clear C1 C2 C3 hE hdef hl hr0 CR hb hRb hn hk hm hc1 hc2 hc3
  have HRL := Aside0.mk hRL
  clear hRL
  go_enter Try.func37, Try.ntmps37
  go_wp2_with fail
  go_cut [9] from 9 to 23 (fun v9 wr => ∃ g, v9 = .pointer (some ⟨g, 0, none⟩) ∧ w.heap.size < g ∧ Aside0 (wr.heap[g]? = some (.cells #[.int .i64 at_, .int .i64 n, .int .i64 k, .string ⟨#[]⟩] 78 (0, 0))) ∧ Aside0 (Below w.heap.size w wr) ∧ Aside0 (wr.heap[w.heap.size]? = some (.cells #[.int .i64 0, .int .i64 0, .int .i64 0, .string ⟨#[]⟩] 78 (0, 0))))
  case first =>
    have hS : Below w.heap.size w (w.alloc (.cells #[.int .i64 0, .int .i64 0, .int .i64 0, .string ⟨#[]⟩] 78)) ∧ (w.alloc (.cells #[.int .i64 0, .int .i64 0, .int .i64 0, .string ⟨#[]⟩] 78)).heap[w.heap.size]? = some (.cells #[.int .i64 0, .int .i64 0, .int .i64 0, .string ⟨#[]⟩] 78 (0, 0)) := ⟨HB.out, HC6.out⟩
    go_region_held3 (fun w' => Below w.heap.size w w' ∧ w'.heap[w.heap.size]? = some (.cells #[.int .i64 0, .int .i64 0, .int .i64 0, .string ⟨#[]⟩] 78 (0, 0))) (first | assumption | (refine KS_below ⟨HB.out, HC6.out⟩ ?_; repeat (first | exact Below.refl _ _ | refine pw_below_drewN ?_ _ | refine below_alloc ?_ _ | refine below_drew1 ?_ | (refine below_set ?_ (Nat.le_of_eq (alloc_size w _))))) | fail) (first | (go_at_call 36; first | (with_reducible show Calls Try.prog 36 #[.slice A1 _ _] _ _; refine (G1.out _ (Kd.C_below HCR.out (And.left (by assumption : Below w.heap.size w _ ∧ _)))).mono ?_; rintro e w' ⟨rfl, ⟨⟨m1, rfl⟩⟩⟩) | (with_reducible show Calls Try.prog 36 #[.slice A2 _ _] _ _; refine (G2.out _ (Kd.C_below HCR.out (And.left (by assumption : Below w.heap.size w _ ∧ _)))).mono ?_; rintro e w' ⟨rfl, ⟨⟨m2, rfl⟩⟩⟩) | (trace_state; fail)))
    · go_wp2_with fail
      go_meet
      exact ⟨w.heap.size + 1, rfl, Nat.lt_succ_self _, ⟨blk_at_new (by exact (size_drewN _ _).trans (alloc_size w _))⟩, ⟨And.left (by assumption)⟩, ⟨And.right (by assumption)⟩⟩
    · go_wp2_with fail
      go_meet
      exact ⟨w.heap.size + 1, rfl, Nat.lt_succ_self _, ⟨blk_put (blk_put (blk_put (blk_put (blk_drewN (blk_at_new (by exact (size_drewN _ _).trans (alloc_size w _))) _) 0 _ (by rfl)) 1 _ (by rfl)) 2 _ (by rfl)) 3 _ (by rfl)⟩, ⟨And.left (by assumption)⟩, ⟨And.right (by assumption)⟩⟩
    · go_wp2_with fail
      go_meet
      exact ⟨w.heap.size + 1, rfl, Nat.lt_succ_self _, ⟨blk_put (blk_put (blk_put (blk_put (blk_drewN (blk_at_new (by exact alloc_size w _)) _) 0 _ (by rfl)) 1 _ (by rfl)) 2 _ (by rfl)) 3 _ (by rfl)⟩, ⟨And.left (by assumption)⟩, ⟨And.right (by assumption)⟩⟩
  case rest =>
    obtain ⟨g, rfl, hg, HX, HB1, HC1⟩ := hcut
    have x0 : wc.cell? ⟨g, 0, none⟩ = some (.int .i64 at_) := (blk_cell HX.out 0).trans rfl
    have x1 : wc.cell? ⟨g, 1, none⟩ = some (.int .i64 n) := (blk_cell HX.out 1).trans rfl
    have x2 : wc.cell? ⟨g, 2, none⟩ = some (.int .i64 k) := (blk_cell HX.out 2).trans rfl
    have hq : (R.length : Int).tdiv size = blocks - at_ := by rw [HRL.out, Int.mul_tdiv_cancel _ (by omega)]
    have hz0 : ¬ size = 0 := by omega
    have f0 : wc.frozen? ⟨w.heap.size, 0, none⟩ = false := blk_frozen HC1.out 0
    have f1 : wc.frozen? ⟨w.heap.size, 1, none⟩ = false := blk_frozen HC1.out 1
    have f2 : wc.frozen? ⟨w.heap.size, 2, none⟩ = false := blk_frozen HC1.out 2
    have f3 : wc.frozen? ⟨w.heap.size, 3, none⟩ = false := blk_frozen HC1.out 3
    have r0 : wc.cell? ⟨w.heap.size, 0, none⟩ = some (.int .i64 0) := (blk_cell HC1.out 0).trans rfl
    have r1 : wc.cell? ⟨w.heap.size, 1, none⟩ = some (.int .i64 0) := (blk_cell HC1.out 1).trans rfl
    have r2 : wc.cell? ⟨w.heap.size, 2, none⟩ = some (.int .i64 0) := (blk_cell HC1.out 2).trans rfl
    have r3 : wc.cell? ⟨w.heap.size, 3, none⟩ = some (.string ⟨#[]⟩) := (blk_cell HC1.out 3).trans rfl
    go_wp2_with fail
    by_cases c1 : n < 1
    · have HV : Aside0 (readE size blocks b at_ = none) := ⟨by rw [HD.out, if_pos (.inl c1)]⟩
      refine wp_region_segs (by kernel_rfl) [(false, [0, 1, 2, 3, 4, 6, 7, 8, 9, 5, 10, 11])] (by decide) (by kernel_rfl) ?_
      simp only [wpSegs, pickOps, List.getElem?_toArray, List.getElem?_cons_succ, List.getElem?_cons_zero, Bool.false_eq_true, false_implies, true_and, forall_const]
      go_wp2_with fail
      refine ⟨rfl, by kernel_rfl, ?_⟩
      go_wp2_with fail
      (try simp only [Exit.inBlock, Exit.then])
      refine bodyPost_ret (v := (.tuple #[.agg #[.int .i64 0, .int .i64 0, .int .i64 0, .string ⟨#[]⟩], .bool false])) ?_ rfl ⟨by rw [HV.out]; rfl, ?_⟩
      · rw [results_cell_tmp rfl]
        go_simp
      · repeat (first | exact HB1.out | refine below_drew1 ?_ | refine pw_below_drewN ?_ _ | refine below_set ?_ (by first | exact Nat.le_refl _ | exact Nat.le_of_lt hg))
    · by_cases c2 : blocks - at_ < n
      · have HV : Aside0 (readE size blocks b at_ = none) := ⟨by rw [HD.out, if_pos (.inr c2)]⟩
        refine wp_region_segs (by kernel_rfl) [(false, [0, 1, 2, 3, 4, 6, 7, 8, 9, 5, 10, 11])] (by decide) (by kernel_rfl) ?_
        simp only [wpSegs, pickOps, List.getElem?_toArray, List.getElem?_cons_succ, List.getElem?_cons_zero, Bool.false_eq_true, false_implies, true_and, forall_const]
        go_wp2_with fail
        refine ⟨rfl, by kernel_rfl, ?_⟩
        go_wp2_with fail
        (try simp only [Exit.inBlock, Exit.then])
        refine bodyPost_ret (v := (.tuple #[.agg #[.int .i64 0, .int .i64 0, .int .i64 0, .string ⟨#[]⟩], .bool false])) ?_ rfl ⟨by rw [HV.out]; rfl, ?_⟩
        · rw [results_cell_tmp rfl]
          go_simp
        · repeat (first | exact HB1.out | refine below_drew1 ?_ | refine pw_below_drewN ?_ _ | refine below_set ?_ (by first | exact Nat.le_refl _ | exact Nat.le_of_lt hg))
      · have x3 : wc.cell? ⟨g, 3, none⟩ = some (.string ⟨#[]⟩) := (blk_cell HX.out 3).trans rfl
        have c12 : ¬ (n < 1 ∨ blocks - at_ < n) := fun h => h.elim c1 c2
        rw [if_neg c12] at HD
        clear c12
        by_cases k0 : k = 0
        · subst k0
          have HV : Aside0 (readE size blocks b at_ = some ⟨at_, n, 0, ⟨#[]⟩⟩) := ⟨by rw [HD.out, if_pos rfl]⟩
          refine wp_region_segs (by kernel_rfl) [(false, [0, 1, 2, 3, 4, 6, 7, 8, 9, 5, 10, 11])] (by decide) (by kernel_rfl) ?_
          simp only [wpSegs, pickOps, List.getElem?_toArray, List.getElem?_cons_succ, List.getElem?_cons_zero, Bool.false_eq_true, false_implies, true_and, forall_const]
          go_wp2_with fail
          refine ⟨rfl, by kernel_rfl, ?_⟩
          go_wp2_with fail
          (try simp only [Exit.inBlock, Exit.then])
          refine bodyPost_ret (v := (.tuple #[.agg #[.int .i64 at_, .int .i64 n, .int .i64 0, .string ⟨#[]⟩], .bool true])) ?_ rfl ⟨by rw [HV.out]; rfl, ?_⟩
          · rw [results_cell_tmp rfl]
            go_simp
          · repeat (first | exact HB1.out | refine below_drew1 ?_ | refine pw_below_drewN ?_ _ | refine below_set ?_ (by first | exact Nat.le_refl _ | exact Nat.le_of_lt hg))
        · rw [if_neg k0] at HD
          by_cases k1' : k = 1
          · subst k1'
            rw [if_pos rfl] at HD
            obtain ⟨M, rfl⟩ : ∃ M : Nat, m = (M : Int) := ⟨m.toNat, by omega⟩
            refine wp_region_segs (by kernel_rfl) [(false, [0, 1, 2, 3, 4, 6, 7, 8, 9, 5, 10, 11])] (by decide) (by kernel_rfl) ?_
            simp only [wpSegs, pickOps, List.getElem?_toArray, List.getElem?_cons_succ, List.getElem?_cons_zero, Bool.false_eq_true, false_implies, true_and, forall_const]
            go_wp2_with fail
            refine ⟨rfl, by kernel_rfl, ?_⟩
            go_wp2_with fail
            with_reducible show Calls Try.prog 36 #[.slice A3 _ _] _ _
            refine (G3.out _ (Kd.C_below HCR.out (by repeat (first | exact HB1.out | refine below_drew1 ?_)))).mono ?_
            rintro e w' ⟨rfl, ⟨⟨m1, rfl⟩⟩⟩
            by_cases c3 : 2048 < (M : Int)
            · have HV : Aside0 (readE size blocks b at_ = none) := ⟨by rw [HD.out, if_pos (.inl c3)]⟩
              go_wp2_with fail
              refine wp_region_segs (by kernel_rfl) [(false, [0, 1, 2, 3, 4, 6, 7]), (true, [5]), (false, [8, 9])] (by decide) (by kernel_rfl) ?_
              simp only [wpSegs, pickOps, List.getElem?_toArray, List.getElem?_cons_succ, List.getElem?_cons_zero, Bool.false_eq_true, false_implies, true_and, forall_const]
              go_wp2_with fail
              refine ⟨ext_of_below (Below.refl _ _), ?_⟩
              go_wp2_with fail
              refine ⟨rfl, by kernel_rfl, ?_⟩
              go_wp2_with fail
              (try simp only [Exit.inBlock, Exit.then])
              refine bodyPost_ret (v := (.tuple #[.agg #[.int .i64 0, .int .i64 0, .int .i64 0, .string ⟨#[]⟩], .bool false])) ?_ rfl ⟨by rw [HV.out]; rfl, ?_⟩
              · rw [results_cell_tmp rfl]
                go_simp
              · repeat (first | exact HB1.out | refine below_drew1 ?_ | refine pw_below_drewN ?_ _ | refine below_set ?_ (by first | exact Nat.le_refl _ | exact Nat.le_of_lt hg))
            · have c3b : decide (2048 < (M : Int)) = false := decide_eq_false c3
              go_wp2_with fail
              refine wp_region_segs (by kernel_rfl) [(false, [0, 1, 2, 3, 4, 6, 7]), (true, [5]), (false, [8, 9])] (by decide) (by kernel_rfl) ?_
              simp only [wpSegs, pickOps, List.getElem?_toArray, List.getElem?_cons_succ, List.getElem?_cons_zero, Bool.false_eq_true, false_implies, true_and, forall_const]
              go_wp2_with fail
              refine (needs_any size (M : Int) _ ⟨z1, z2⟩ (by omega) (by omega)).mono ?_
              rintro e w' ⟨rfl, rfl⟩
              by_cases c4 : needsF size (M : Int) = n
              · have hsnd := needs_sound z1 (show 0 ≤ (M : Int) by omega) c4
                have HV : Aside0 (readE size blocks b at_ = some ⟨at_, n, 1, strOfNums ((R.drop 12).take M)⟩) := ⟨by rw [HD.out, if_neg (fun h => h.elim (fun h => by omega) (fun h => h c4))]; rfl⟩
                have hRM : 12 + M ≤ R.length := by
                  have h1 := HRL.out
                  have h2 : n * size ≤ (blocks - at_) * size := Int.mul_le_mul_of_nonneg_right (by omega) (by omega)
                  omega
                obtain ⟨A4, k4, C4, hc4⟩ := run_cut AR (c0 - o) R 12 M hRM hcR
                replace k4 : ∀ W : World, (Instr.slice 27 (.slice AR R.length (c0 - o)) (some (.int .i64 12)) (some (.int .i64 (12 + (M : Int)))) none).run Try.prog W = .ok (.slice A4 M (c0 - o - 12)) W := fun W => by have h := k4 W; rw [Int.natCast_add] at h; exact h
                have kcv : ∀ t, (convert 27 9 (.slice A4 M (c0 - o - 12))).run Try.prog (wc.drewN t) = .ok (.string (strOfNums ((R.drop 12).take M))) (wc.drewN t) := fun t => Kd.C_string Try.underlying27 Try.underlying5 Try.underlying9 (C4 _ (Kd.C_below HCR.out (pw_below_drewN HB1.out t)))
                have fg : wc.frozen? ⟨g, 3, none⟩ = false := blk_frozen HX.out 3
                clear C4 hsnd
                have hc4b : (needsF size (M : Int) == n) = true := by simpa using c4

                go_wp2_with fail
                refine ⟨ext_of_below (Below.refl _ _), ?_⟩
                go_wp2_with fail
                refine ⟨rfl, by kernel_rfl, ?_⟩
                go_wp2_with fail
                (try simp only [Exit.inBlock, Exit.then])
                refine bodyPost_ret (v := (.tuple #[.agg #[.int .i64 at_, .int .i64 n, .int .i64 1, .string (strOfNums ((R.drop 12).take M))], .bool true])) ?_ rfl ⟨by rw [HV.out]; rfl, ?_⟩
                · rw [results_cell_tmp rfl]
                  go_simp
                · repeat (first | exact HB1.out | refine below_drew1 ?_ | refine pw_below_drewN ?_ _ | refine below_set ?_ (by first | exact Nat.le_refl _ | exact Nat.le_of_lt hg))
              · have HV : Aside0 (readE size blocks b at_ = none) := ⟨by rw [HD.out, if_pos (.inr c4)]⟩
                go_wp2_with fail
                refine ⟨ext_of_below (Below.refl _ _), ?_⟩
                go_wp2_with fail
                refine ⟨rfl, by kernel_rfl, ?_⟩
                go_wp2_with fail
                (try simp only [Exit.inBlock, Exit.then])
                refine bodyPost_ret (v := (.tuple #[.agg #[.int .i64 0, .int .i64 0, .int .i64 0, .string ⟨#[]⟩], .bool false])) ?_ rfl ⟨by rw [HV.out]; rfl, ?_⟩
                · rw [results_cell_tmp rfl]
                  go_simp
                · repeat (first | exact HB1.out | refine below_drew1 ?_ | refine pw_below_drewN ?_ _ | refine below_set ?_ (by first | exact Nat.le_refl _ | exact Nat.le_of_lt hg))
          · have HV : Aside0 (readE size blocks b at_ = none) := ⟨by rw [HD.out, if_neg k1']⟩
            refine wp_region_segs (by kernel_rfl) [(false, [0, 1, 2, 3, 4, 6, 7, 8, 9, 5, 10, 11])] (by decide) (by kernel_rfl) ?_
            simp only [wpSegs, pickOps, List.getElem?_toArray, List.getElem?_cons_succ, List.getElem?_cons_zero, Bool.false_eq_true, false_implies, true_and, forall_const]
            go_wp2_with fail
            refine ⟨rfl, by kernel_rfl, ?_⟩
            go_wp2_with fail
            (try simp only [Exit.inBlock, Exit.then])
            refine bodyPost_ret (v := (.tuple #[.agg #[.int .i64 0, .int .i64 0, .int .i64 0, .string ⟨#[]⟩], .bool false])) ?_ rfl ⟨by rw [HV.out]; rfl, ?_⟩
            · rw [results_cell_tmp rfl]
              go_simp
            · repeat (first | exact HB1.out | refine below_drew1 ?_ | refine pw_below_drewN ?_ _ | refine below_set ?_ (by first | exact Nat.le_refl _ | exact Nat.le_of_lt hg))
end Go.Proofs.Ytdadhificeplmaa

/- Open (fn 12). -/
set_option linter.unusedVariables false
set_option linter.unusedSimpArgs false
namespace Go.Proofs.Ytdadhificeplmaa
open Go.RowKit Go.Proofs.YtdadhificeplmaaW.PrintWords Go.Proofs.YtdadhificeplmaaW.PrintLast Go.Proofs.YtdadhificeplmaaW.PrintMore Go.Proofs.Cab
open PAll (S87 k87 z87)
theorem u8_back {x : Int} (h0 : 0 ≤ x) (h1 : x ≤ 255) : ((UInt8.ofNat x.toNat).toNat : Int) = x := by
  rw [UInt8.toNat_ofNat']
  omega
theorem nums_back : ∀ (a : List Int), (∀ x ∈ a, 0 ≤ x ∧ x ≤ 255) → (a.map (fun n => UInt8.ofNat n.toNat)).map (fun u => (u.toNat : Int)) = a
  | [], _ => rfl
  | x :: a, h => by
    have hx := h x (by simp)
    rw [List.map_cons, List.map_cons, nums_back a (fun y hy => h y (List.mem_cons_of_mem _ hy)), u8_back hx.1 hx.2]
theorem strOfNums_data (a : List Int) : (strOfNums a).data.toList = a.map (fun n => UInt8.ofNat n.toNat) := by
  simp [strOfNums]
theorem strOf_inj {a b : List Int} (ha : ∀ x ∈ a, 0 ≤ x ∧ x ≤ 255) (hb : ∀ x ∈ b, 0 ≤ x ∧ x ≤ 255) (h : strOfNums a = strOfNums b) : a = b := by
  have h1 := congrArg (fun s : ByteArray => s.data.toList) h
  simp only [strOfNums_data] at h1
  rw [← nums_back a ha, ← nums_back b hb, h1]
theorem fourF_byte (n : Int) : ∀ x ∈ fourF n, 0 ≤ x ∧ x ≤ 255 := by
  intro x hx
  simp only [fourF, List.mem_cons, List.not_mem_nil, or_false] at hx
  rcases hx with rfl | rfl | rfl | rfl <;> omega
theorem fillTo_byte {l : List Int} (h : ∀ x ∈ l, 0 ≤ x ∧ x ≤ 255) (n : Nat) : ∀ x ∈ fillTo l n, 0 ≤ x ∧ x ≤ 255 := by
  intro x hx
  rcases List.mem_append.1 hx with hx | hx
  · exact h x hx
  · rw [(List.mem_replicate.1 hx).2]; decide
theorem bytesR_byte (size : Int) (l : List S87) : ∀ x ∈ bytesR size l, 0 ≤ x ∧ x ≤ 255 := by
  intro x hx
  rcases List.mem_append.1 hx with hx | hx
  · refine fillTo_byte ?_ _ x hx
    intro y hy
    rcases List.mem_append.1 hy with hy | hy
    · exact fourF_byte _ y hy
    · simp only [List.mem_cons, List.not_mem_nil, or_false] at hy
      rcases hy with rfl | rfl <;> omega
  · obtain ⟨y, _, hx⟩ := List.mem_flatMap.1 hx
    refine fillTo_byte ?_ _ x hx
    intro z hz
    split at hz
    · rcases List.mem_append.1 hz with hz | hz <;> exact fourF_byte _ z hz
    · rcases List.mem_append.1 hz with hz | hz
      · rcases List.mem_append.1 hz with hz | hz
        · rcases List.mem_append.1 hz with hz | hz <;> exact fourF_byte _ z hz
        · exact fourF_byte _ z hz
      · exact numsS_byte _ z hz
theorem bytesP_byte {size blocks : Int} {es : List Ent} (hz : 16 ≤ size ∧ size ≤ 256) (hb : 1 ≤ blocks) (h : Chain size blocks 1 es) : ∀ x ∈ bytesP size es, 0 ≤ x ∧ x ≤ 255 := by
  rw [bytesP_eq hz hb h]
  exact bytesR_byte size _
theorem drewN_drewN (w : World) (a b : Nat) : (w.drewN a).drewN b = w.drewN (a + b) := World.drewN_drewN ..
/-- What both Opens take for a file's head: its blocks and their size. -/
def headOf (b : List Int) : Option (Int × Int) :=
  if (b.length : Int) < 16 then none else
  let n := leV (b.take 4); let size := leV ((b.drop 4).take 2)
  if sizeB size = true ∧ 1 ≤ n ∧ n ≤ 4096 ∧ (b.length : Int) = n * size then some (n, size) else none
def openP (b : List Int) : Option (Int × List Ent) :=
  match headOf b with
  | none => none
  | some (n, size) => match parseP size n b (n.toNat + 1) 1 false with
    | none => none
    | some es => if bytesP size es = b then some (size, es) else none
theorem openP_head {b : List Int} (h : headOf b = none) : openP b = none := by
  unfold openP
  rw [h]
theorem openP_parse {b : List Int} {n size : Int} (h : headOf b = some (n, size)) (hp : parseP size n b (n.toNat + 1) 1 false = none) : openP b = none := by
  unfold openP
  rw [h]
  simp only [hp]
theorem openP_bytes {b : List Int} {n size : Int} {es : List Ent} (h : headOf b = some (n, size)) (hp : parseP size n b (n.toNat + 1) 1 false = some es) : openP b = if bytesP size es = b then some (size, es) else none := by
  unfold openP
  rw [h]
  simp only [hp]
def lastFree (acc : List Ent) : Bool := match acc.getLast? with
  | some y => y.k == 0
  | none => false
/-- What Open gives. -/
def Opened (w w' : World) (e : Ending) : Option (Int × List Ent) → Prop
  | none => e = .returned (.tuple #[.pointer none, .int .i64 11])
  | some (size, es) => ∃ g v, e = .returned (.tuple #[.pointer (some ⟨g, 0, none⟩), .int .i64 0]) ∧ w.heap.size ≤ g ∧ MemoAt w' g size v ∧ Kd.R kE 78 w' w.heap.size (fun k => k ≠ g) v es
set_option maxHeartbeats 4000000 in
set_option maxRecDepth 100000 in
theorem Open_any (A0 : Option Addr) (c0 : Nat) (b : List Int) (w : World) (hr0 : Kd.C (Kd.int .u8) w A0 b.length b) (hc0 : b.length ≤ c0) (hb : ∀ x ∈ b, 0 ≤ x ∧ x ≤ 255) (hlen : b.length ≤ 2097152) :
    Calls Try.prog 12 #[.slice A0 b.length c0] w fun e w' => Opened w w' e (openP b) ∧ Below w.heap.size w w' := by
  have HR0 := Aside0.mk hr0
  have HBY := Aside0.mk hb
  by_cases h16 : (b.length : Int) < 16
  · have HV : Aside0 (openP b = none) := ⟨openP_head (if_pos h16)⟩
    have HB1 : Aside0 (Below w.heap.size w w) := ⟨Below.refl _ _⟩
    clear hb hr0
    go_enter Try.func12, Try.ntmps12
    go_wp2_with fail
    go_ret2
    exact ⟨by rw [HV.out]; rfl, HB1.out⟩
  · obtain ⟨A1, k1, C1, hc1⟩ := run_cut A0 c0 b 0 4 (by omega) hc0
    obtain ⟨A2, k2, C2, hc2⟩ := run_cut A0 c0 b 4 2 (by omega) hc0
    replace k1 : ∀ W : World, (Instr.slice 27 (.slice A0 b.length c0) (some (.int .i64 0)) (some (.int .i64 4)) none).run Try.prog W = .ok (.slice A1 4 c0) W := k1
    replace k2 : ∀ W : World, (Instr.slice 27 (.slice A0 b.length c0) (some (.int .i64 4)) (some (.int .i64 6)) none).run Try.prog W = .ok (.slice A2 2 (c0 - 4)) W := k2
    obtain ⟨n, hn⟩ : ∃ n, leV ((b.drop 0).take 4) = n := ⟨_, rfl⟩
    obtain ⟨size, hs⟩ : ∃ size, leV ((b.drop 4).take 2) = size := ⟨_, rfl⟩
    have G1 : Aside0 (∀ W, Kd.C (Kd.int .u8) W A0 b.length b → Calls Try.prog 36 #[.slice A1 4 c0] W fun e w' => e = .returned (.int .i64 n) ∧ Drawn0 W w') := ⟨fun W h => get_at (C1 W h) hc1 (bytes_sub hb 0 4) (by omega) hn⟩
    have G2 : Aside0 (∀ W, Kd.C (Kd.int .u8) W A0 b.length b → Calls Try.prog 36 #[.slice A2 2 (c0 - 4)] W fun e w' => e = .returned (.int .i64 size) ∧ Drawn0 W w') := ⟨fun W h => get_at (C2 W h) hc2 (bytes_sub hb 4 2) (by omega) hs⟩
    have hn4 : 0 ≤ n ∧ n < 4294967296 := by rw [← hn]; exact num4_nn (b := b) hb 0
    have hs4 : 0 ≤ size ∧ size ≤ 65535 := by
      have h := leV_bd ((b.drop 4).take 2) (bytes_sub hb 4 2)
      have h2 : ((b.drop 4).take 2).length = 2 := by rw [List.length_take, List.length_drop]; omega
      rw [h2] at h
      omega
    have HD : Aside0 (headOf b = if sizeB size = true ∧ 1 ≤ n ∧ n ≤ 4096 ∧ (b.length : Int) = n * size then some (n, size) else none) := ⟨by
      rw [headOf, if_neg h16]
      simp only
      rw [hs, ← hn, List.drop_zero]⟩
    clear C1 C2 hn hs hb hr0 hc1 hc2
    go_enter Try.func12, Try.ntmps12
    go_wp2_with fail
    refine wp_region_segs (by kernel_rfl) [(false, [0, 1, 3, 4, 2, 5, 6, 7])] (by decide) (by kernel_rfl) ?_
    simp only [wpSegs, pickOps, List.getElem?_toArray, List.getElem?_cons_succ, List.getElem?_cons_zero, Bool.false_eq_true, false_implies, true_and, forall_const]
    go_wp2_with fail
    with_reducible show Calls Try.prog 36 #[.slice A1 _ _] _ _
    refine (G1.out _ (Kd.C_drew HR0.out)).mono ?_
    rintro e w' ⟨rfl, ⟨⟨m1, rfl⟩⟩⟩
    go_wp2_with fail
    with_reducible show Calls Try.prog 36 #[.slice A2 _ _] _ _
    refine (G2.out _ (Kd.C_drewN HR0.out _)).mono ?_
    rintro e w' ⟨rfl, ⟨⟨m2, rfl⟩⟩⟩
    go_wp2_with fail
    refine ⟨rfl, by kernel_rfl, ?_⟩
    go_wp2_with fail
    refine (isSize_any size _).mono ?_
    rintro e w1 ⟨rfl, m, rfl⟩
    rw [drewN_drewN]
    obtain ⟨M, hM⟩ : ∃ M, 1 + m1 + m2 + m = M := ⟨_, rfl⟩
    rw [hM]
    have HB1 : Aside0 (Below w.heap.size w (w.drewN M)) := ⟨pw_below_drewN (Below.refl _ _) _⟩
    clear hM
    by_cases v1 : sizeB size = true
    · rw [v1]
      obtain ⟨⟨z1, z2⟩, z3⟩ := sizeB_iff.1 v1
      by_cases v2 : n < 1
      · have HV : Aside0 (openP b = none) := ⟨openP_head (by rw [HD.out]; exact if_neg (fun h => by omega))⟩
        go_wp2_with fail
        go_ret2
        exact ⟨by rw [HV.out]; rfl, HB1.out⟩
      · have v2b : decide (n < 1) = false := decide_eq_false v2
        by_cases v3 : 4096 < n
        · have HV : Aside0 (openP b = none) := ⟨openP_head (by rw [HD.out]; exact if_neg (fun h => by omega))⟩
          go_wp2_with fail
          go_ret2
          exact ⟨by rw [HV.out]; rfl, HB1.out⟩
        · have v3b : decide (4096 < n) = false := decide_eq_false v3
          have p1 : 0 ≤ n * size := Int.mul_nonneg (by omega) (by omega)
          have p3 : n * size ≤ 4096 * 256 := Int.mul_le_mul (by omega) z2 (by omega) (by omega)
          by_cases v4 : (b.length : Int) = n * size
          · have HH : Aside0 (headOf b = some (n, size)) := ⟨by rw [HD.out]; exact if_pos ⟨v1, by omega, by omega, v4⟩⟩
            have v4b : ((b.length : Int) != n * size) = false := by simp [v4]
            have HV4 := Aside0.mk v4
            clear v4
            have HM1 : Aside0 (MemoAt ((w.drewN M).alloc (.cells #[.int .i32 0, .int .u32 0, .int .i64 size, .slice none 0 0] 76)) w.heap.size size (.slice none 0 0)) := ⟨blk_at_new (by exact size_drewN w M)⟩
            have HB2 : Aside0 (Below w.heap.size w ((w.drewN M).alloc (.cells #[.int .i32 0, .int .u32 0, .int .i64 size, .slice none 0 0] 76))) := ⟨below_alloc HB1.out _⟩
            go_wp2_with fail
            generalize (w.drewN M).alloc (.cells #[.int .i32 0, .int .u32 0, .int .i64 size, .slice none 0 0] 76) = w1 at *
            clear HB1 k1 k2 G1 G2 HD v4b
            go_loopw [7] (fun v7 wr => ∃ (at_ : Int) (acc : List Ent) (A : Option Addr) (c f : Nat), v7 = .int .i64 at_ ∧ (1 ≤ at_ ∧ at_ ≤ n) ∧ (acc.length : Int) + 1 ≤ at_ ∧ (n - at_).toNat + 1 ≤ f ∧ Aside0 (parseP size n b (n.toNat + 1) 1 false = (parseP size n b f at_ (lastFree acc)).map (acc ++ ·)) ∧ Aside0 (MemoAt wr w.heap.size size (.slice A acc.length c)) ∧ Aside0 (Kd.R kE 78 wr w.heap.size (fun k => k ≠ w.heap.size) (.slice A acc.length c) acc) ∧ Aside0 (Below w.heap.size w wr)) (fun v7 wr => (n - intOf v7).toNat)
            case atStart => exact ⟨1, [], none, 0, n.toNat + 1, rfl, ⟨by omega, by omega⟩, by simp, by omega, ⟨by rw [show lastFree [] = false from rfl]; cases parseP size n b (n.toNat + 1) 1 false <;> rfl⟩, HM1, ⟨Kd.R_nil _ _ _ _ _⟩, HB2⟩
            case round =>
              obtain ⟨at_, acc, A, c, f, rfl, ⟨a1, a2⟩, hal, hf, HP, HM, HR, HB⟩ := hrel
              by_cases hlt : at_ < n
              · obtain ⟨f, rfl⟩ : ∃ f', f = f' + 1 := ⟨f - 1, by omega⟩
                have RC := read_any A0 c0 b size n at_ wr (Kd.C_below HR0.out HB.out) hc0 HBY.out ⟨z1, z2⟩ HV4.out ⟨by omega, hlt⟩ (by omega)
                rcases hr : readE size n b at_ with _ | x
                · rw [hr] at RC
                  replace RC : Aside0 (Calls Try.prog 37 #[.slice A0 b.length c0, .int .i64 size, .int .i64 at_] wr fun e w' => e = .returned (.tuple #[.agg #[.int .i64 0, .int .i64 0, .int .i64 0, .string ⟨#[]⟩], .bool false]) ∧ Below wr.heap.size wr w') := ⟨RC⟩
                  have HV : Aside0 (openP b = none) := ⟨openP_parse HH.out (by rw [HP.out, show parseP size n b (f + 1) at_ (lastFree acc) = none from parse_bad (by omega) (.inl hr)]; rfl)⟩
                  clear hr
                  go_wp2_with fail
                  refine RC.out.mono ?_
                  rintro e w3 ⟨rfl, hb3⟩
                  have HB1 : Aside0 (Below w.heap.size w w3) := ⟨HB.out.trans (hb3.mono HB.out.size)⟩
                  clear hb3
                  go_wp2_with fail
                  refine wp_region_segs (by kernel_rfl) [(false, [0, 1, 2, 3, 4, 5, 6, 7, 8, 9, 10, 11, 12, 13, 14, 15, 16, 18, 19, 20, 17, 21, 22, 23, 24, 25, 26, 27, 28, 29, 30, 31, 34, 32, 33, 35, 36, 37, 38])] (by decide) (by kernel_rfl) ?_
                  simp only [wpSegs, pickOps, List.getElem?_toArray, List.getElem?_cons_succ, List.getElem?_cons_zero, Bool.false_eq_true, false_implies, true_and, forall_const]
                  go_wp2_with fail
                  refine ⟨rfl, by kernel_rfl, ?_⟩
                  go_wp2_with fail
                  go_ret2
                  exact ⟨by rw [HV.out]; rfl, below_drew1 (below_alloc HB1.out _)⟩
                · rw [hr] at RC
                  replace RC : Aside0 (Calls Try.prog 37 #[.slice A0 b.length c0, .int .i64 size, .int .i64 at_] wr fun e w' => e = .returned (.tuple #[.agg #[.int .i64 x.b, .int .i64 x.n, .int .i64 x.k, .string x.s], .bool true]) ∧ Below wr.heap.size wr w') := ⟨RC⟩
                  have HRD := Aside0.mk hr
                  clear hr
                  go_wp2_with fail
                  refine RC.out.mono ?_
                  rintro e w3 ⟨rfl, hb3⟩
                  have HB3 : Aside0 (Below w.heap.size w w3) := ⟨HB.out.trans (hb3.mono HB.out.size)⟩
                  have HM3 := Aside0.mk (blk_below HM.out hb3)
                  have HR3 := Aside0.mk (Kd.R_below HR.out hb3)
                  clear hb3
                  obtain ⟨s1, s2, s3, s4, s5⟩ := readE_sound z1 HBY.out (by omega) HV4.out HRD.out
                  have HS := Aside0.mk (And.intro s4 s5)
                  have S1 := Aside0.mk s1
                  have s6 : at_ + x.n ≤ n := by omega
                  have hw : wrap64 (at_ + x.n) = at_ + x.n := wrap_id (by omega) (by omega)
                  clear s1 s4 s5
                  have HBX : Aside0 ((w3.alloc (.cells #[.int .i64 x.b, .int .i64 x.n, .int .i64 x.k, .string x.s] 78)).heap[w3.heap.size]? = some (.cells #[.int .i64 x.b, .int .i64 x.n, .int .i64 x.k, .string x.s] 78 (0, 0))) := ⟨blk_new _ _⟩
                  have HMX : Aside0 (MemoAt (w3.alloc (.cells #[.int .i64 x.b, .int .i64 x.n, .int .i64 x.k, .string x.s] 78)) w.heap.size size (.slice A acc.length c)) := ⟨blk_alloc HM3.out _⟩
                  have HRX : Aside0 (Kd.R kE 78 (w3.alloc (.cells #[.int .i64 x.b, .int .i64 x.n, .int .i64 x.k, .string x.s] 78)) w.heap.size (fun k => k ≠ w.heap.size) (.slice A acc.length c) acc) := ⟨Kd.R_alloc HR3.out _⟩
                  have HBWX : Aside0 (Below w.heap.size w (w3.alloc (.cells #[.int .i64 x.b, .int .i64 x.n, .int .i64 x.k, .string x.s] 78))) := ⟨below_alloc HB3.out _⟩
                  have HLT : Aside0 (∀ k, (Value.slice A acc.length c).ownBlock = some k → k < w3.heap.size) := ⟨Kd.R_lt HR3.out⟩
                  have HGT : Aside0 (w.heap.size < w3.heap.size) := ⟨blk_lt HM3.out⟩
                  go_upto_region 10 with (fail)
                  generalize w3.alloc (.cells #[.int .i64 x.b, .int .i64 x.n, .int .i64 x.k, .string x.s] 78) = wx at *
                  have m3 : wx.cell? ⟨w.heap.size, 3, none⟩ = some (.slice A acc.length c) := (blk_cell HMX.out 3).trans rfl
                  have y1 : wx.cell? ⟨w3.heap.size, 1, none⟩ = some (.int .i64 x.n) := (blk_cell HBX.out 1).trans rfl
                  have y2 : wx.cell? ⟨w3.heap.size, 2, none⟩ = some (.int .i64 x.k) := (blk_cell HBX.out 2).trans rfl
                  go_cut [89] from 51 to 89 (fun v89 wz => v89 = .bool ((x.k == 0) && (lastFree acc || at_ + x.n == n)) ∧ wz = wx.drew)
                  case first =>
                    by_cases k0 : x.k = 0
                    · have k0b : (x.k == 0) = true := by simpa using k0
                      have K0 := Aside0.mk k0
                      clear k0
                      rcases List.eq_nil_or_concat acc with rfl | ⟨rs, y, rfl⟩
                      · have hLF : lastFree [] = false := rfl
                        have HLF := Aside0.mk hLF
                        clear hLF
                        refine wp_region_segs (by kernel_rfl) [(false, [0, 1, 2, 3, 4, 5, 6, 7, 8, 9, 10, 11, 12, 13, 14, 15, 16, 18, 19, 20, 17, 21, 22, 23, 24, 25, 26, 27, 28, 29, 30, 31, 34, 32, 33, 35, 36, 37, 38])] (by decide) (by kernel_rfl) ?_
                        simp only [wpSegs, pickOps, List.getElem?_toArray, List.getElem?_cons_succ, List.getElem?_cons_zero, Bool.false_eq_true, false_implies, true_and, forall_const]
                        go_wp2_with fail
                        refine ⟨rfl, by kernel_rfl, ?_⟩
                        go_wp2_with fail
                        go_meet
                        exact ⟨by rw [HLF.out, k0b]; simp, rfl⟩
                      · rw [List.concat_eq_append] at *
                        have hlen : (rs ++ [y]).length = rs.length + 1 := by simp
                        obtain ⟨g, cap, hv, _, _, hg, e0, e1, e2, e3⟩ := at_E HRX.out rs.length (by omega)
                        injection hv with hv1 hv2 hv3
                        subst hv1 hv3
                        have hy : (rs ++ [y])[rs.length]'(by omega) = y := by simp
                        rw [hy] at e2
                        rw [hlen] at m3
                        have hLF : lastFree (rs ++ [y]) = (y.k == 0) := by simp [lastFree]
                        have HLF := Aside0.mk hLF
                        have hi : wrap64 ((rs.length : Int) + 1 - 1) = (rs.length : Int) := by rw [wrap_id (by omega) (by omega)]; omega
                        have hsub : (rs.length : Int) + 1 - 1 = (rs.length : Int) := by omega
                        have hal2 : (rs.length : Int) + 2 ≤ at_ := by rw [hlen] at hal; omega
                        clear hLF hlen hy e0 e1 e3 hv2 hal
                        by_cases y0 : y.k = 0
                        · have y0b : (y.k == 0) = true := by simpa using y0
                          have Y0 := Aside0.mk y0
                          clear y0
                          refine wp_region_segs (by kernel_rfl) [(false, [0, 1, 2, 3, 4, 5, 6, 7, 8, 9, 10, 11, 12, 13, 14, 15, 16, 18, 19, 20, 17, 21, 22, 23, 24, 25, 26, 27, 28, 29, 30, 31, 34, 32, 33, 35, 36, 37, 38])] (by decide) (by kernel_rfl) ?_
                          simp only [wpSegs, pickOps, List.getElem?_toArray, List.getElem?_cons_succ, List.getElem?_cons_zero, Bool.false_eq_true, false_implies, true_and, forall_const]
                          go_wp2_with fail
                          refine ⟨rfl, by kernel_rfl, ?_⟩
                          go_wp2_with fail
                          go_meet
                          exact ⟨by rw [HLF.out, k0b, y0b]; simp, rfl⟩
                        · have y0b : (y.k == 0) = false := by simpa using y0
                          have Y0 := Aside0.mk y0
                          clear y0
                          refine wp_region_segs (by kernel_rfl) [(false, [0, 1, 2, 3, 4, 5, 6, 7, 8, 9, 10, 11, 12, 13, 14, 15, 16, 18, 19, 20, 17, 21, 22, 23, 24, 25, 26, 27, 28, 29, 30, 31, 34, 32, 33, 35, 36, 37, 38])] (by decide) (by kernel_rfl) ?_
                          simp only [wpSegs, pickOps, List.getElem?_toArray, List.getElem?_cons_succ, List.getElem?_cons_zero, Bool.false_eq_true, false_implies, true_and, forall_const]
                          go_wp2_with fail
                          refine ⟨rfl, by kernel_rfl, ?_⟩
                          go_wp2_with fail
                          go_meet
                          exact ⟨by rw [HLF.out, k0b, y0b]; simp, rfl⟩
                    · have k0b : (x.k == 0) = false := by simpa using k0
                      have K0 := Aside0.mk k0
                      clear k0
                      refine wp_region_segs (by kernel_rfl) [(false, [0, 1, 2, 3, 4, 5, 6, 7, 8, 9, 10, 11, 12, 13, 14, 15, 16, 18, 19, 20, 17, 21, 22, 23, 24, 25, 26, 27, 28, 29, 30, 31, 34, 32, 33, 35, 36, 37, 38])] (by decide) (by kernel_rfl) ?_
                      simp only [wpSegs, pickOps, List.getElem?_toArray, List.getElem?_cons_succ, List.getElem?_cons_zero, Bool.false_eq_true, false_implies, true_and, forall_const]
                      go_wp2_with fail
                      refine ⟨rfl, by kernel_rfl, ?_⟩
                      go_wp2_with fail
                      go_meet
                      exact ⟨by rw [k0b]; simp, rfl⟩
                  case rest =>
                    obtain ⟨rfl, rfl⟩ := hcut
                    have HBY2 : Aside0 (Below w.heap.size w wx.drew) := ⟨below_drew1 HBWX.out⟩
                    rcases hbad : ((x.k == 0) && (lastFree acc || at_ + x.n == n)) with _ | _
                    · have HP2 : Aside0 (parseP size n b (n.toNat + 1) 1 false = (parseP size n b f (at_ + x.n) (lastFree (acc ++ [x]))).map ((acc ++ [x]) ++ ·)) := ⟨by
                        rw [HP.out, show parseP size n b (f + 1) at_ (lastFree acc) = _ from parse_step (by omega) HRD.out hbad]
                        rw [show lastFree (acc ++ [x]) = (x.k == 0) by simp [lastFree]]
                        show Option.map _ (Option.map _ (parseP size n b f (at_ + x.n) (x.k == 0))) = _
                        cases parseP size n b f (at_ + x.n) (x.k == 0) <;> simp⟩
                      have HBAD := Aside0.mk hbad
                      clear hbad
                      have y0 : wx.cell? ⟨w3.heap.size, 0, none⟩ = some (.int .i64 x.b) := (blk_cell HBX.out 0).trans rfl
                      have y3 : wx.cell? ⟨w3.heap.size, 3, none⟩ = some (.string x.s) := (blk_cell HBX.out 3).trans rfl
                      go_wp2_with fail
                      refine wp_region_segs (by kernel_rfl) [(false, [0, 1, 2, 3, 4, 5, 6, 7, 8, 9, 10])] (by decide) (by kernel_rfl) ?_
                      simp only [wpSegs, pickOps, List.getElem?_toArray, List.getElem?_cons_succ, List.getElem?_cons_zero, Bool.false_eq_true, false_implies, true_and, forall_const]
                      clear y1 y2 m3
                      have hgt := HGT.out
                      have d1 : ¬ w.heap.size = w3.heap.size := by omega
                      have d2 : ¬ w3.heap.size = w.heap.size := by omega
                      have hfr : Aside0 (∀ k, wx.drew.drew.heap.size ≤ k → k ≠ w.heap.size) := ⟨fun k hk => by have h1 := blk_lt HMX.out; have h2 : wx.heap.size ≤ k := hk; omega⟩
                      have m3 : wx.cell? ⟨w.heap.size, 3, none⟩ = some (.slice A acc.length c) := (blk_cell HMX.out 3).trans rfl
                      have y1 : wx.cell? ⟨w3.heap.size, 1, none⟩ = some (.int .i64 x.n) := (blk_cell HBX.out 1).trans rfl
                      have y2 : wx.cell? ⟨w3.heap.size, 2, none⟩ = some (.int .i64 x.k) := (blk_cell HBX.out 2).trans rfl
                      go_wp2_with (at_builtin; refine appE (w0 := w) (W := wx.drew.drew) w.heap.size (by rfl) _ _ (by rfl) (.slice A acc.length c) acc x (fun k => k ≠ w.heap.size) (by rfl) (by rfl) (Kd.R_drew (Kd.R_drew HRX.out)) (below_drew1 (below_drew1 HBWX.out)) HBWX.out.size hfr.out (by omega) ?_; intro v8 w8 ho hb hg; obtain ⟨A8, c8, rfl⟩ := Kd.R_slice ho; have HO8 := Aside0.mk ho; have HB8 := Aside0.mk hb; have M8 : Aside0 (MemoAt w8 w.heap.size size (.slice A acc.length c)) := ⟨blk_grown (blk_alloc (blk_drew (blk_drew HMX.out)) _) hg (Kd.R_away HRX.out (fun k hk => hk))⟩; have X8 : Aside0 (w8.heap[w3.heap.size]? = some (.cells #[.int .i64 x.b, .int .i64 x.n, .int .i64 x.k, .string x.s] 78 (0, 0))) := ⟨blk_grown (blk_alloc (blk_drew (blk_drew HBX.out)) _) hg (fun e => Nat.lt_irrefl _ (HLT.out _ e.symm))⟩; clear ho hb hg m3 y0 y1 y2 y3; have cc8 : w8.cell? ⟨w.heap.size, 3, none⟩ = some (.slice A acc.length c) := (blk_cell M8.out 3).trans rfl; have f8 : w8.frozen? ⟨w.heap.size, 3, none⟩ = false := blk_frozen M8.out 3; have z8 : w8.cell? ⟨w3.heap.size, 1, none⟩ = some (.int .i64 x.n) := (blk_cell X8.out 1).trans rfl)
                      go_wp2_with fail
                      refine ⟨rfl, by kernel_rfl, ?_⟩
                      go_wp2_with fail
                      go_roundw
                      case rel => exact ⟨at_ + x.n, acc ++ [x], A8, c8, f, rfl, ⟨by omega, by omega⟩, by rw [List.length_append]; simp; omega, by omega, HP2, ⟨blk_put M8.out 3 _ (by rw [List.length_append]; rfl)⟩, ⟨Kd.R_far HO8.out (p := ⟨w.heap.size, 3, none⟩) (fun k hk => hk) _⟩, ⟨below_set HB8.out (Nat.le_refl _)⟩⟩
                      case measure => simp [intOf]; omega
                    · have HV : Aside0 (openP b = none) := ⟨openP_parse HH.out (by rw [HP.out, show parseP size n b (f + 1) at_ (lastFree acc) = none from parse_bad (by omega) (.inr ⟨x, HRD.out, hbad⟩)]; rfl)⟩
                      clear hbad
                      go_wp2_with fail
                      go_ret2
                      exact ⟨by rw [HV.out]; rfl, HBY2.out⟩
              · obtain rfl : at_ = n := by omega
                obtain ⟨f, rfl⟩ : ∃ f', f = f' + 1 := ⟨f - 1, by omega⟩
                have hp : parseP size at_ b (at_.toNat + 1) 1 false = some acc := by
                  rw [HP.out, show parseP size at_ b (f + 1) at_ (lastFree acc) = some [] from parse_end (by omega)]
                  simp
                have hch := parse_chain z1 HBY.out HV4.out (at_.toNat + 1) 1 false acc (by omega) (by omega) hp
                have HCH := Aside0.mk hch
                have HOP := Aside0.mk (openP_bytes HH.out hp)
                clear hp hch
                go_wp2_with fail
                refine (Bytes_any w.heap.size w.heap.size (fun k => k ≠ w.heap.size) size _ acc wr HM.out HR.out (fun _ hk => hk) (by omega) (HCH.out.fits ⟨z1, z2⟩ ⟨by omega, by omega⟩)).mono ?_
                rintro e w4 ⟨v5, rfl, ho, hb4⟩
                have HB4 : Aside0 (Below w.heap.size w w4) := ⟨below_then HB.out HB.out.size hb4⟩
                have HM4 := Aside0.mk (blk_below HM.out hb4)
                have HR4 := Aside0.mk (Kd.R_below HR.out hb4)
                obtain ⟨A5, c5, rfl⟩ := Kd.R_slice ho
                have HC5 := Aside0.mk (Kd.R_reads' ho).2
                have hpb := bytesP_byte ⟨z1, z2⟩ (by omega) HCH.out
                have HPB := Aside0.mk hpb
                clear ho hb4 hpb
                go_wp2_with fail
                refine (PAll.bytes_Equal.calls A5 c5 (bytesP size acc) A0 c0 b ((strOfNums (bytesP size acc)).toList == (strOfNums b).toList) w4 HC5.out.2 HC5.out.1 (Kd.C_below HR0.out HB4.out) hc0 rfl).mono ?_
                rintro e w5 ⟨rfl, ⟨⟨m5, rfl⟩⟩⟩
                by_cases heq : bytesP size acc = b
                · have hbe : ((strOfNums (bytesP size acc)).toList == (strOfNums b).toList) = true := by rw [heq]; simp
                  have HEQ := Aside0.mk heq
                  rw [hbe]
                  clear heq hbe
                  go_wp2_with fail
                  go_ret2
                  refine ⟨?_, pw_below_drewN HB4.out _⟩
                  rw [HOP.out, if_pos HEQ.out]
                  exact ⟨_, _, rfl, Nat.le_refl _, HM4.out, Kd.R_drewN HR4.out _⟩
                · have hbe : ((strOfNums (bytesP size acc)).toList == (strOfNums b).toList) = false := by
                    rw [beq_eq_false_iff_ne]
                    intro e
                    rw [Go.Lib.toList_data, Go.Lib.toList_data] at e
                    exact heq (strOf_inj HPB.out HBY.out (Go.WideShapes.bytes_inj e))
                  have HEQ := Aside0.mk heq
                  rw [hbe]
                  clear heq hbe
                  go_wp2_with fail
                  go_ret2
                  exact ⟨by rw [HOP.out, if_neg HEQ.out]; rfl, pw_below_drewN HB4.out _⟩
          · have HV : Aside0 (openP b = none) := ⟨openP_head (by rw [HD.out]; exact if_neg (fun h => v4 h.2.2.2))⟩
            have v4b : ((b.length : Int) == n * size) = false := by simpa using v4
            go_wp2_with fail
            go_ret2
            exact ⟨by rw [HV.out]; rfl, HB1.out⟩
    · have v1 : sizeB size = false := by simpa using v1
      have HV : Aside0 (openP b = none) := ⟨openP_head (by rw [HD.out]; exact if_neg (fun h => by rw [v1] at h; cases h.1))⟩
      rw [v1]
      go_wp2_with fail
      go_ret2
      exact ⟨by rw [HV.out]; rfl, HB1.out⟩
end Go.Proofs.Ytdadhificeplmaa

/- The reference's Open: number, append of an entry. -/
set_option linter.unusedVariables false
set_option linter.unusedSimpArgs false
namespace Go.Proofs.Ytdadhificeplmaa
open Go.RowKit Go.Proofs.YtdadhificeplmaaW.PrintWords Go.Proofs.YtdadhificeplmaaW.PrintLast Go.Proofs.YtdadhificeplmaaW.PrintMore Go.Proofs.Cab
open PAll (S87 k87 z87 k87_openM k87_mkM)
theorem number_f (l : List Int) (hl : 4 ≤ l.length) (hb : ∀ x ∈ l, 0 ≤ x ∧ x ≤ 255) : PAll.cabinetryref04_number.f l = some (leV (l.take 4)) := by
  match l, hl with
  | a :: b :: c :: d :: r, _ =>
    have ha := hb a (by simp)
    have hbb := hb b (by simp)
    have hc := hb c (by simp)
    have hd := hb d (by simp)
    have hlen : (((a :: b :: c :: d :: r).length : Nat) : Int) = (r.length : Int) + 4 := by simp only [List.length_cons]; omega
    have r0 : rd (a :: b :: c :: d :: r) 0 = a := rfl
    have r1 : rd (a :: b :: c :: d :: r) 1 = b := rfl
    have r2 : rd (a :: b :: c :: d :: r) 2 = c := rfl
    have r3 : rd (a :: b :: c :: d :: r) 3 = d := rfl
    have hv : leV ((a :: b :: c :: d :: r).take 4) = a + b * 256 + c * 65536 + d * 16777216 := by
      show a + 256 * (b + 256 * (c + 256 * (d + 256 * 0))) = _
      omega
    unfold PAll.cabinetryref04_number.f
    rw [hlen]
    refine (if_pos (by omega)).trans ?_
    refine (if_pos (by omega)).trans ?_
    refine (if_pos (by omega)).trans ?_
    refine (if_pos (by omega)).trans ?_
    rw [r0, r1, r2, r3, hv, wrap_id (x := a) (by omega) (by omega), wrap_id (x := b) (by omega) (by omega), wrap_id (x := c) (by omega) (by omega), wrap_id (x := d) (by omega) (by omega)]
    rw [wrap_id (x := b * 256) (by omega) (by omega), wrap_id (x := c * 65536) (by omega) (by omega), wrap_id (x := d * 16777216) (by omega) (by omega)]
    rw [wrap_id (x := a + b * 256) (by omega) (by omega), wrap_id (x := a + b * 256 + c * 65536) (by omega) (by omega), wrap_id (x := a + b * 256 + c * 65536 + d * 16777216) (by omega) (by omega)]
theorem number_any {A0 : Option Addr} {c0 m : Nat} {l : List Int} {w : World} {x : Int} (hr0 : Kd.C (Kd.int .u8) w A0 m l) (hc0 : m ≤ c0) (hl : 4 ≤ m) (hb : ∀ x ∈ l, 0 ≤ x ∧ x ≤ 255) (hx : leV (l.take 4) = x) :
    Calls Try.prog 39 #[.slice A0 m c0] w fun e w' => e = .returned (.int .i64 x) ∧ Drawn0 w w' := by
  obtain rfl := hr0.1
  rw [← hx]
  exact PAll.cabinetryref04_number.calls A0 c0 l _ w hr0 hc0 (number_f l hl hb)
theorem needsR_any (size n : Int) (w : World) (hz : 16 ≤ size ∧ size ≤ 256) (h0 : 0 ≤ n) (h1 : n ≤ 100000) : Calls Try.prog 35 #[.int .i64 size, .int .i64 n] w fun e w' => e = .returned (.int .i64 (needsF size n)) ∧ w = w' := by
  obtain ⟨z1, z2⟩ := hz
  have hne : ¬ size = 0 := by omega
  go_enter Try.func35, Try.ntmps35
  go_wp2_with fail
  go_ret
  exact ⟨rfl, rfl⟩
section
variable {ops : Array Oper} {rest : List Oper} {o : Oper} {a : Act} {Q : Exit → Act → World → Prop}
/-- append(v, x), a row of the reference's entries; what is kept is told of the world with the box of x, too. -/
theorem appS {w0 W : World} (base : Nat) (hgd : o.guard = none) (s x : Operand) (ho : o.op = .call { callee := .builtin .append, args := #[s, x], argTypes := #[83, 83] })
    (v : Value) (es : List S87) (y : S87) (ok : Nat → Prop) (hs : a.eval s = v) (hx : a.eval x = .slice (some ⟨W.heap.size, 0, none⟩) 1 1) (HO : Kd.R k87 87 W base ok v es) (HB : Below base w0 W) (hbase : base ≤ W.heap.size) (hfresh : ∀ k, W.heap.size ≤ k → ok k) (hl : es.length < 1000000)
    (h : ∀ v1 w1, Kd.R k87 87 w1 base ok v1 (es ++ [y]) → Below base w0 w1 → (W.alloc (.cells #[.int .i64 y.f0, .bool y.f1, .string y.f2] 87)).grownBy w1 v.ownBlock → wpList Try.prog ops Q rest (a.put o.dst v1) w1) :
    wpList Try.prog ops Q (o :: rest) a (W.alloc (.cells #[.int .i64 y.f0, .bool y.f1, .string y.f2] 87)) := by
  obtain ⟨h0, inner, hown, hr⟩ := HO
  obtain ⟨i0, hi, hzz⟩ := Option.map_eq_some_iff.1 info87
  simp only [Prod.mk.injEq] at hzz
  obtain ⟨hz0, hz1, hz2⟩ := hzz
  refine wpList_append_own_at (W.alloc (.cells #[.int .i64 y.f0, .bool y.f1, .string y.f2] 87)) hgd s x 83 ho base 87 i0 _ 3 32 Try.underlying83 hi hz0 hz1 hz2 rfl (by decide) v es.length inner hs (hown.alloc _) ⟨W.heap.size, 0, none⟩ 1 1 [.int .i64 y.f0, .bool y.f1, .string y.f2] hx (by simp)
    (by simpa using World.news_of_block (cs := #[.int .i64 y.f0, .bool y.f1, .string y.f2]) (t := 87) (fr := (0, 0)) (heap_alloc_new W _)) (by simp [Value.oneCell']) (by simp only [maxLen]; omega) (by omega) (by simp; omega) ?_
  intro v1 w1 hown1 hg _ hat
  have hg2 := World.grownBy.trans (World.grownBy_alloc W (.cells #[.int .i64 y.f0, .bool y.f1, .string y.f2] 87) v.ownBlock) hg
  refine h v1 w1 (Kd.R_appended h0 hr (k87_mkM W base (fun _ => False) y) (fun _ hk => hk.elim) hfresh hown1 hg2 ?_) ((HB.alloc hbase _).grown hg (by simp; omega) (own_base hown)) hg
  rcases hat with hat | hat
  · exact .inl hat
  · exact .inr ⟨_, hat, by simp⟩
end
def openR (b : List Int) : Option (Int × List S87) :=
  match headOf b with
  | none => none
  | some (n, size) => match parseR size n b (n.toNat + 1) 1 false with
    | none => none
    | some l => if bytesR size l = b then some (size, l) else none
theorem openR_head {b : List Int} (h : headOf b = none) : openR b = none := by
  unfold openR
  rw [h]
theorem openR_parse {b : List Int} {n size : Int} (h : headOf b = some (n, size)) (hp : parseR size n b (n.toNat + 1) 1 false = none) : openR b = none := by
  unfold openR
  rw [h]
  simp only [hp]
theorem openR_bytes {b : List Int} {n size : Int} {l : List S87} (h : headOf b = some (n, size)) (hp : parseR size n b (n.toNat + 1) 1 false = some l) : openR b = if bytesR size l = b then some (size, l) else none := by
  unfold openR
  rw [h]
  simp only [hp]
theorem headOf_spec {b : List Int} {n size : Int} (h : headOf b = some (n, size)) : (16 ≤ size ∧ size ≤ 256) ∧ (1 ≤ n ∧ n ≤ 4096) ∧ (b.length : Int) = n * size := by
  unfold headOf at h
  split at h
  · cases h
  · simp only at h
    split at h
    · rename_i h2
      injection h with h
      injection h with h3 h4
      subst h3 h4
      exact ⟨(sizeB_iff.1 h2.1).1, ⟨h2.2.1, h2.2.2.1⟩, h2.2.2.2⟩
    · cases h
/-- Both Opens give the same. -/
theorem openR_P (b : List Int) (hb : ∀ x ∈ b, 0 ≤ x ∧ x ≤ 255) : openR b = (openP b).map (fun p => (p.1, p.2.map toR)) := by
  rcases hh : headOf b with _ | ⟨n, size⟩
  · rw [openR_head hh, openP_head hh]; rfl
  · obtain ⟨hz, hn, hl⟩ := headOf_spec hh
    rcases opens hz hb hl hn (n.toNat + 1) with ⟨es, h1, h2, h3, h4⟩ | ⟨h1, h2⟩
    · rw [openR_bytes hh h3, openP_bytes hh h1, h4]
      split
      · rfl
      · rfl
    · rw [openP_parse hh h1]
      rcases hr : parseR size n b (n.toNat + 1) 1 false with _ | l
      · rw [openR_parse hh hr]; rfl
      · rw [openR_bytes hh hr, if_neg (h2 l hr)]; rfl
theorem openP_chain {b : List Int} (hb : ∀ x ∈ b, 0 ≤ x ∧ x ≤ 255) {size : Int} {es : List Ent} (h : openP b = some (size, es)) : ∃ blocks, (16 ≤ size ∧ size ≤ 256) ∧ (1 ≤ blocks ∧ blocks ≤ 4096) ∧ Chain size blocks 1 es ∧ bytesP size es = b := by
  rcases hh : headOf b with _ | ⟨n, sz⟩
  · rw [openP_head hh] at h; cases h
  · obtain ⟨hz, hn, hl⟩ := headOf_spec hh
    rcases opens hz hb hl hn (n.toNat + 1) with ⟨es', h1, h2, h3, h4⟩ | ⟨h1, h2⟩
    · rw [openP_bytes hh h1] at h
      split at h
      · rename_i h5
        injection h with h
        injection h with h6 h7
        subst h6 h7
        exact ⟨n, hz, hn, h2, h5⟩
      · cases h
    · rw [openP_parse hh h1] at h; cases h
end Go.Proofs.Ytdadhificeplmaa

/- The reference's Open, walked. -/
set_option linter.unusedVariables false
set_option linter.unusedSimpArgs false
namespace Go.Proofs.Ytdadhificeplmaa
open Go.RowKit Go.Proofs.YtdadhificeplmaaW.PrintWords Go.Proofs.YtdadhificeplmaaW.PrintLast Go.Proofs.YtdadhificeplmaaW.PrintMore Go.Proofs.Cab
open PAll (S87 k87 z87 k87_openM k87_mkM)
def lastFreeR (acc : List S87) : Bool := match acc.getLast? with
  | some y => y.f1
  | none => false
theorem wrapo (o k : Nat) (h : o ≤ 2097152) (hk : k ≤ 100000) : wrap64 ((o : Int) + (k : Int)) = (o : Int) + (k : Int) := wrap_id (by omega) (by omega)
theorem KS2 {W W' : World} {g : Nat} {o : Obj} (h : W.heap[g]? = some o) (hb : Below W.heap.size W W') : Below W.heap.size W W' ∧ W'.heap[g]? = some o := ⟨hb, blk_below h hb⟩
def OpenedR (w w' : World) (e : Ending) : Option (Int × List S87) → Prop
  | none => e = .returned (.tuple #[.pointer none, .int .i64 11])
  | some (size, l) => ∃ g v, e = .returned (.tuple #[.pointer (some ⟨g, 0, none⟩), .int .i64 0]) ∧ w.heap.size ≤ g ∧ RefAt w' g size v ∧ Kd.R k87 87 w' w.heap.size (fun k => k ≠ g) v l
theorem isSizeR_any (n : Int) (w : World) : Calls Try.prog 34 #[.int .i64 n] w fun e w' => e = .returned (.bool (sizeB n)) ∧ Drawn0 w w' := PAll.cabinetryref04_isSize.calls n _ w (isSizeR_f n)
set_option maxHeartbeats 40000000 in
set_option maxRecDepth 100000 in
theorem OpenR_any (A0 : Option Addr) (c0 : Nat) (b : List Int) (w : World) (hr0 : Kd.C (Kd.int .u8) w A0 b.length b) (hc0 : b.length ≤ c0) (hb : ∀ x ∈ b, 0 ≤ x ∧ x ≤ 255) (hlen : b.length ≤ 2097152) :
    Calls Try.prog 13 #[.slice A0 b.length c0] w fun e w' => OpenedR w w' e (openR b) ∧ Below w.heap.size w w' := by
  have HR0 := Aside0.mk hr0
  have HBY := Aside0.mk hb
  by_cases h16 : (b.length : Int) < 16
  · have HV : Aside0 (openR b = none) := ⟨openR_head (if_pos h16)⟩
    have HB1 : Aside0 (Below w.heap.size w w) := ⟨Below.refl _ _⟩
    clear hb hr0
    go_enter Try.func13, Try.ntmps13
    go_wp2_with fail
    go_ret2
    exact ⟨by rw [HV.out]; rfl, HB1.out⟩
  · obtain ⟨ad, c4, hA, hl4, hK4, hc4⟩ := Kd.C_get hr0 (0 : Int) 4 (by omega) (by omega)
    obtain ⟨ad', c5, hA', hl5, hK5, hc5⟩ := Kd.C_get hr0 (0 : Int) 5 (by omega) (by omega)
    subst hA
    injection hA' with hA'
    subst hA'
    obtain ⟨x4, hx4⟩ : ∃ x, b.getD 4 0 = x := ⟨_, rfl⟩
    obtain ⟨x5, hx5⟩ : ∃ x, b.getD 5 0 = x := ⟨_, rfl⟩
    have e4 : w.cell? (ad.add 4) = some (.int .u8 x4) := by rw [← hx4]; exact hc4 0 _ (by rw [show c4 = [.int .u8 (b.getD 4 0)] from hK4]; rfl)
    have e5 : w.cell? (ad.add 5) = some (.int .u8 x5) := by rw [← hx5]; exact hc5 0 _ (by rw [show c5 = [.int .u8 (b.getD 5 0)] from hK5]; rfl)
    have e4 : w.cell? { block := ad.block, off := ad.off + 4 } = some (.int .u8 x4) := by simpa [Addr.add] using e4
    have e5 : w.cell? { block := ad.block, off := ad.off + 5 } = some (.int .u8 x5) := by simpa [Addr.add] using e5
    have hsz : leV ((b.drop 4).take 2) = x4 + x5 * 256 := by
      rw [List.drop_eq_getElem_cons (show 4 < b.length by omega), List.drop_eq_getElem_cons (show 5 < b.length by omega), List.take_succ_cons, List.take_succ_cons, List.take_zero, ← hx4, ← hx5, List.getD_eq_getElem?_getD, List.getD_eq_getElem?_getD, List.getElem?_eq_getElem (by omega), List.getElem?_eq_getElem (by omega)]
      simp only [leV, Option.getD_some]
      omega
    have hb4 : 0 ≤ x4 ∧ x4 ≤ 255 := by
      rw [← hx4, List.getD_eq_getElem?_getD, List.getElem?_eq_getElem (by omega)]
      exact hb _ (List.getElem_mem _)
    have hb5 : 0 ≤ x5 ∧ x5 ≤ 255 := by
      rw [← hx5, List.getD_eq_getElem?_getD, List.getElem?_eq_getElem (by omega)]
      exact hb _ (List.getElem_mem _)
    obtain ⟨n, hn⟩ : ∃ n, leV (b.take 4) = n := ⟨_, rfl⟩
    obtain ⟨size, hs⟩ : ∃ size, x4 + x5 * 256 = size := ⟨_, rfl⟩
    have G1 : Aside0 (∀ W, Kd.C (Kd.int .u8) W (some ad) b.length b → Calls Try.prog 39 #[.slice (some ad) b.length c0] W fun e w' => e = .returned (.int .i64 n) ∧ Drawn0 W w') := ⟨fun W h => number_any h hc0 (by omega) hb hn⟩
    have hn4 : 0 ≤ n ∧ n < 4294967296 := by rw [← hn]; exact num4_nn (b := b) hb 0
    have HD : Aside0 (headOf b = if sizeB size = true ∧ 1 ≤ n ∧ n ≤ 4096 ∧ (b.length : Int) = n * size then some (n, size) else none) := ⟨by
      rw [headOf, if_neg h16]
      simp only
      rw [hsz, hs, hn]⟩
    clear hn hb hr0 hc4 hc5 hl4 hl5 hK4 hK5 hx4 hx5 hsz
    go_enter Try.func13, Try.ntmps13
    go_wp2_with fail
    refine wp_region_segs (by kernel_rfl) [(false, [0, 2, 3, 6, 7, 4, 5, 8, 9, 10, 11]), (true, [1]), (false, [12, 13])] (by decide) (by kernel_rfl) ?_
    simp only [wpSegs, pickOps, List.getElem?_toArray, List.getElem?_cons_succ, List.getElem?_cons_zero, Bool.false_eq_true, false_implies, true_and, forall_const]
    go_wp2_with fail
    with_reducible show Calls Try.prog 39 #[.slice (some ad) _ _] _ _
    refine (G1.out _ (Kd.C_drew HR0.out)).mono ?_
    rintro e w' ⟨rfl, ⟨⟨m1, rfl⟩⟩⟩
    go_wp2_with fail
    refine ⟨fun _ _ => rfl, ?_⟩
    go_wp2_with fail
    refine ⟨rfl, by kernel_rfl, ?_⟩
    go_wp2_with fail
    refine (isSizeR_any size _).mono ?_
    rintro e w1 ⟨rfl, m, rfl⟩
    rw [drewN_drewN]
    obtain ⟨M, hM⟩ : ∃ M, 1 + m1 + m = M := ⟨_, rfl⟩
    rw [hM]
    have HB1 : Aside0 (Below w.heap.size w (w.drewN M)) := ⟨pw_below_drewN (Below.refl _ _) _⟩
    clear hM
    by_cases v1 : sizeB size = true
    · rw [v1]
      obtain ⟨⟨z1, z2⟩, z3⟩ := sizeB_iff.1 v1
      by_cases v2 : n < 1
      · have HV : Aside0 (openR b = none) := ⟨openR_head (by rw [HD.out]; exact if_neg (fun h => by omega))⟩
        go_wp2_with fail
        go_ret2
        exact ⟨by rw [HV.out]; rfl, HB1.out⟩
      · have v2b : decide (n < 1) = false := decide_eq_false v2
        by_cases v3 : 4096 < n
        · have HV : Aside0 (openR b = none) := ⟨openR_head (by rw [HD.out]; exact if_neg (fun h => by omega))⟩
          go_wp2_with fail
          go_ret2
          exact ⟨by rw [HV.out]; rfl, HB1.out⟩
        · have v3b : decide (4096 < n) = false := decide_eq_false v3
          have p1 : 0 ≤ n * size := Int.mul_nonneg (by omega) (by omega)
          have p3 : n * size ≤ 4096 * 256 := Int.mul_le_mul (by omega) z2 (by omega) (by omega)
          by_cases v4 : (b.length : Int) = n * size
          · have HH : Aside0 (headOf b = some (n, size)) := ⟨by rw [HD.out]; exact if_pos ⟨v1, by omega, by omega, v4⟩⟩
            have v4b : ((b.length : Int) != n * size) = false := by simp [v4]
            have HV4 := Aside0.mk v4
            clear v4
            have HM1 : Aside0 (RefAt ((w.drewN M).alloc (.cells #[.int .i64 size, .slice none 0 0] 85)) w.heap.size size (.slice none 0 0)) := ⟨blk_at_new (by exact size_drewN w M)⟩
            have HB2 : Aside0 (Below w.heap.size w ((w.drewN M).alloc (.cells #[.int .i64 size, .slice none 0 0] 85))) := ⟨below_alloc HB1.out _⟩
            have HSZ := Aside0.mk hs
            clear hs
            go_wp2_with fail
            generalize (w.drewN M).alloc (.cells #[.int .i64 size, .slice none 0 0] 85) = w1 at *
            clear HB1 G1 HD v4b e4 e5
            generalize (some ad : Option Addr) = A0 at *
            go_loopw [7] (fun v7 wr => ∃ (at_ : Int) (acc : List S87) (A : Option Addr) (c f : Nat), v7 = .int .i64 (at_ * size) ∧ (1 ≤ at_ ∧ at_ ≤ n) ∧ (acc.length : Int) + 1 ≤ at_ ∧ (n - at_).toNat + 1 ≤ f ∧ Aside0 (parseR size n b (n.toNat + 1) 1 false = (parseR size n b f at_ (lastFreeR acc)).map (acc ++ ·)) ∧ Aside0 (RefAt wr w.heap.size size (.slice A acc.length c)) ∧ Aside0 (Kd.R k87 87 wr w.heap.size (fun k => k ≠ w.heap.size) (.slice A acc.length c) acc) ∧ Aside0 (Below w.heap.size w wr)) (fun v7 wr => (n * size - intOf v7).toNat)
            case atStart => exact ⟨1, [], none, 0, n.toNat + 1, by rw [Int.one_mul], ⟨by omega, by omega⟩, by simp, by omega, ⟨by rw [show lastFreeR [] = false from rfl]; cases parseR size n b (n.toNat + 1) 1 false <;> rfl⟩, HM1, ⟨Kd.R_nil _ _ _ _ _⟩, HB2⟩
            case round =>
              obtain ⟨at_, acc, A, c, f, rfl, ⟨a1, a2⟩, hal, hf, HP, HM, HR, HB⟩ := hrel
              have q1 : 0 ≤ at_ * size := Int.mul_nonneg (by omega) (by omega)
              have q2 : at_ * size ≤ n * size := Int.mul_le_mul_of_nonneg_right a2 (by omega)
              obtain ⟨o, ho⟩ : ∃ o : Nat, at_ * size = (o : Int) := ⟨(at_ * size).toNat, by omega⟩
              obtain ⟨f, rfl⟩ : ∃ f', f = f' + 1 := ⟨f - 1, by omega⟩
              by_cases hlt : at_ < n
              · have q3 : at_ * size + 1 * size ≤ n * size := by rw [← Int.add_mul]; exact Int.mul_le_mul_of_nonneg_right (by omega) (by omega)
                have hob : o + 16 ≤ b.length := by have := HV4.out; omega
                have hlt2 : (o : Int) < (b.length : Int) := by omega
                have hot : (at_ * size).toNat = o := by omega
                have ho2 : o ≤ 2097152 := Nat.le_trans (Nat.le_of_add_right_le hob) hlen
                obtain ⟨A1, k1, C1, hc1⟩ := run_drop A0 c0 b (o : Int) (by omega) (by omega) hc0
                obtain ⟨A2, k2, C2, hc2⟩ := run_drop A0 c0 b ((o : Int) + 4) (by omega) (by omega) hc0
                obtain ⟨A3, k3, C3, hc3⟩ := run_drop A0 c0 b ((o : Int) + 8) (by omega) (by omega) hc0
                rw [show ((o : Int)).toNat = o by omega] at k1 C1 hc1
                rw [show ((o : Int) + 4).toNat = o + 4 by omega] at k2 C2 hc2
                rw [show ((o : Int) + 8).toNat = o + 8 by omega] at k3 C3 hc3
                obtain ⟨R1, hR1⟩ : ∃ R, b.drop o = R := ⟨_, rfl⟩
                obtain ⟨R2, hR2⟩ : ∃ R, b.drop (o + 4) = R := ⟨_, rfl⟩
                obtain ⟨R3, hR3⟩ : ∃ R, b.drop (o + 8) = R := ⟨_, rfl⟩
                obtain ⟨xk, hxk⟩ : ∃ x, num4 b o = x := ⟨_, rfl⟩
                obtain ⟨xn, hxn⟩ : ∃ x, num4 b (o + 4) = x := ⟨_, rfl⟩
                obtain ⟨xm, hxm⟩ : ∃ x, num4 b (o + 8) = x := ⟨_, rfl⟩
                have hr1 : 4 ≤ R1.length := by rw [← hR1, List.length_drop]; omega
                have hr2 : 4 ≤ R2.length := by rw [← hR2, List.length_drop]; omega
                have hr3 : 4 ≤ R3.length := by rw [← hR3, List.length_drop]; omega
                have bk := num4_nn HBY.out o
                have bn := num4_nn HBY.out (o + 4)
                have bm := num4_nn HBY.out (o + 8)
                rw [hxk] at bk
                rw [hxn] at bn
                rw [hxm] at bm
                have HD : Aside0 (readR size n b at_ = if xn < 1 ∨ n - at_ < xn then none else if xk = 0 then some ⟨xn, true, ⟨#[]⟩⟩ else if 2048 < xm ∨ needsF size xm ≠ xn then none else some ⟨xn, false, strOfNums ((b.drop (o + 12)).take xm.toNat)⟩) := ⟨by
                  unfold readR
                  simp only
                  rw [hot, hxk, hxn, hxm]⟩
                have G1 : Aside0 (∀ W, Kd.C (Kd.int .u8) W A0 b.length b → Calls Try.prog 39 #[.slice A1 R1.length (c0 - o)] W fun e w' => e = .returned (.int .i64 xk) ∧ Drawn0 W w') := ⟨fun W h => by
                  have h2 := C1 W h
                  rw [hR1] at h2
                  rw [hR1] at hc1
                  exact number_any h2 hc1 hr1 (by rw [← hR1]; exact fun x hx => HBY.out x (List.mem_of_mem_drop hx)) (by rw [← hR1]; exact hxk)⟩
                have G2 : Aside0 (∀ W, Kd.C (Kd.int .u8) W A0 b.length b → Calls Try.prog 39 #[.slice A2 R2.length (c0 - (o + 4))] W fun e w' => e = .returned (.int .i64 xn) ∧ Drawn0 W w') := ⟨fun W h => by
                  have h2 := C2 W h
                  rw [hR2] at h2
                  rw [hR2] at hc2
                  exact number_any h2 hc2 hr2 (by rw [← hR2]; exact fun x hx => HBY.out x (List.mem_of_mem_drop hx)) (by rw [← hR2]; exact hxn)⟩
                have G3 : Aside0 (∀ W, Kd.C (Kd.int .u8) W A0 b.length b → Calls Try.prog 39 #[.slice A3 R3.length (c0 - (o + 8))] W fun e w' => e = .returned (.int .i64 xm) ∧ Drawn0 W w') := ⟨fun W h => by
                  have h2 := C3 W h
                  rw [hR3] at h2
                  rw [hR3] at hc3
                  exact number_any h2 hc3 hr3 (by rw [← hR3]; exact fun x hx => HBY.out x (List.mem_of_mem_drop hx)) (by rw [← hR3]; exact hxm)⟩
                rw [hR1] at k1
                rw [hR2] at k2
                rw [hR3] at k3
                have HR1 := Aside0.mk hR1
                clear C1 C2 C3 hc1 hc2 hc3 hR1 hR2 hR3 hxk hxn hxm hr1 hr2 hr3 hot
                have HCB : Aside0 (Kd.C (Kd.int .u8) wr A0 b.length b) := ⟨Kd.C_below HR0.out HB.out⟩
                have HGT : Aside0 (w.heap.size < wr.heap.size) := ⟨blk_lt HM.out⟩
                have k2w : ∀ W : World, (Instr.slice 27 (.slice A0 b.length c0) (some (.int .i64 (wrap64 ((o : Int) + 4)))) none none).run Try.prog W = .ok (.slice A2 R2.length (c0 - (o + 4))) W := fun W => by rw [show wrap64 ((o : Int) + 4) = (o : Int) + 4 from wrapo o 4 ho2 (by decide)]; exact k2 W
                have k3w : ∀ W : World, (Instr.slice 27 (.slice A0 b.length c0) (some (.int .i64 (wrap64 ((o : Int) + 8)))) none none).run Try.prog W = .ok (.slice A3 R3.length (c0 - (o + 8))) W := fun W => by rw [show wrap64 ((o : Int) + 8) = (o : Int) + 8 from wrapo o 8 ho2 (by decide)]; exact k3 W
                have k2i : ∀ W : World, (Instr.slice 27 (.slice A0 b.length c0) (some (.int .i64 (IntKind.i64.wrap ((o : Int) + 4)))) none none).run Try.prog W = .ok (.slice A2 R2.length (c0 - (o + 4))) W := fun W => by rw [wraps_i64 ((o : Int) + 4) (by omega) (by omega)]; exact k2 W
                have k3i : ∀ W : World, (Instr.slice 27 (.slice A0 b.length c0) (some (.int .i64 (IntKind.i64.wrap ((o : Int) + 8)))) none none).run Try.prog W = .ok (.slice A3 R3.length (c0 - (o + 8))) W := fun W => by rw [wraps_i64 ((o : Int) + 8) (by omega) (by omega)]; exact k3 W
                simp only [ho]
                go_upto_region 9 with (fail)
                go_cut [8] from 48 to 62 (fun v8 wz => v8 = .pointer (some ⟨wr.heap.size, 0, none⟩) ∧ Aside0 (wz.heap[wr.heap.size]? = some (.cells #[.int .i64 xn, .bool (xk == 0), .string ⟨#[]⟩] 87 (0, 0))) ∧ Aside0 (Below wr.heap.size wr wz))
                case first =>
                  have zc0 : ∀ k, ((wr.drewN k).alloc (.cells #[.int .i64 0, .bool false, .string ⟨#[]⟩] 87)).cell? ⟨wr.heap.size, 0, none⟩ = some (.int .i64 0) := fun k => (blk_cell (blk_new (wr.drewN k) _) 0).trans rfl
                  have zf0 : ∀ k, ((wr.drewN k).alloc (.cells #[.int .i64 0, .bool false, .string ⟨#[]⟩] 87)).frozen? ⟨wr.heap.size, 0, none⟩ = false := fun k => blk_frozen (blk_new (wr.drewN k) _) 0
                  have zc1 : ∀ k, ((wr.drewN k).alloc (.cells #[.int .i64 0, .bool false, .string ⟨#[]⟩] 87)).cell? ⟨wr.heap.size, 1, none⟩ = some (.bool false) := fun k => (blk_cell (blk_new (wr.drewN k) _) 1).trans rfl
                  have zf1 : ∀ k, ((wr.drewN k).alloc (.cells #[.int .i64 0, .bool false, .string ⟨#[]⟩] 87)).frozen? ⟨wr.heap.size, 1, none⟩ = false := fun k => blk_frozen (blk_new (wr.drewN k) _) 1
                  have zc2 : ∀ k, ((wr.drewN k).alloc (.cells #[.int .i64 0, .bool false, .string ⟨#[]⟩] 87)).cell? ⟨wr.heap.size, 2, none⟩ = some (.string ⟨#[]⟩) := fun k => (blk_cell (blk_new (wr.drewN k) _) 2).trans rfl
                  have zf2 : ∀ k, ((wr.drewN k).alloc (.cells #[.int .i64 0, .bool false, .string ⟨#[]⟩] 87)).frozen? ⟨wr.heap.size, 2, none⟩ = false := fun k => blk_frozen (blk_new (wr.drewN k) _) 2
                  have hS : Below wr.heap.size wr wr ∧ wr.heap[w.heap.size]? = some (.cells #[.int .i64 size, .slice A acc.length c] 85 (0, 0)) := ⟨Below.refl _ _, HM.out⟩
                  have ZB : Aside0 (∀ k, ((wr.drewN k).alloc (.cells #[.int .i64 0, .bool false, .string ⟨#[]⟩] 87)).heap[wr.heap.size]? = some (.cells #[.int .i64 0, .bool false, .string ⟨#[]⟩] 87 (0, 0))) := ⟨fun k => blk_at_new (size_drewN wr k)⟩
                  go_region_held3 (fun w' => Below wr.heap.size wr w' ∧ w'.heap[w.heap.size]? = some (.cells #[.int .i64 size, .slice A acc.length c] 85 (0, 0))) (first | assumption | (refine KS2 HM.out ?_; repeat (first | exact Below.refl _ _ | refine pw_below_drewN ?_ _ | refine below_alloc ?_ _ | refine below_drew1 ?_ | (refine below_set ?_ (Nat.le_refl _)))) | fail) (first | (go_at_call 39; first | (with_reducible show Calls Try.prog 39 #[.slice A1 _ _] _ _; refine (G1.out _ (Kd.C_below HCB.out (And.left (by assumption : Below wr.heap.size wr _ ∧ _)))).mono ?_; rintro e w' ⟨rfl, ⟨⟨m1, rfl⟩⟩⟩) | (with_reducible show Calls Try.prog 39 #[.slice A2 _ _] _ _; refine (G2.out _ (Kd.C_below HCB.out (And.left (by assumption : Below wr.heap.size wr _ ∧ _)))).mono ?_; rintro e w' ⟨rfl, ⟨⟨m2, rfl⟩⟩⟩)))
                  · go_wp2_with fail
                    go_meet
                    exact ⟨rfl, ⟨blk_put (blk_put (blk_put (ZB.out _) 0 _ rfl) 1 _ rfl) 2 _ rfl⟩, ⟨And.left (by assumption)⟩⟩
                  · go_wp2_with fail
                    go_meet
                    exact ⟨rfl, ⟨blk_put (blk_put (blk_put (ZB.out _) 0 _ rfl) 1 _ rfl) 2 _ rfl⟩, ⟨And.left (by assumption)⟩⟩
                  · go_wp2_with fail
                    go_meet
                    exact ⟨rfl, ⟨blk_put (blk_put (blk_put (ZB.out _) 0 _ rfl) 1 _ rfl) 2 _ rfl⟩, ⟨And.left (by assumption)⟩⟩
                case rest =>
                  obtain ⟨rfl, HBX, HBc⟩ := hcut
                  have HMc : Aside0 (RefAt wc w.heap.size size (.slice A acc.length c)) := ⟨blk_below HM.out HBc.out⟩
                  have HRc : Aside0 (Kd.R k87 87 wc w.heap.size (fun k => k ≠ w.heap.size) (.slice A acc.length c) acc) := ⟨Kd.R_below HR.out HBc.out⟩
                  have HRb : Aside0 (Kd.R k87 87 wc w.heap.size (fun k => k ≠ w.heap.size ∧ k < wr.heap.size) (.slice A acc.length c) acc) := ⟨Kd.R_below (Kd.R_mono (Kd.R_bound HR.out) (fun k hk => ⟨hk.1, hk.2.2.1⟩)) HBc.out⟩
                  have HBW : Aside0 (Below w.heap.size w wc) := ⟨below_then HB.out HB.out.size HBc.out⟩
                  have HLT : Aside0 (∀ k, (Value.slice A acc.length c).ownBlock = some k → k < wr.heap.size) := ⟨Kd.R_lt HR.out⟩
                  have HOA : Aside0 (at_ * size = (o : Int)) := ⟨ho⟩
                  have HBN : Aside0 ((b.length : Int) = n * size) := HV4
                  have x0 : wc.cell? ⟨wr.heap.size, 0, none⟩ = some (.int .i64 xn) := (blk_cell HBX.out 0).trans rfl
                  have hbad : xn < 1 ∨ n - at_ < xn → openR b = none := fun h => openR_parse HH.out (by rw [HP.out, show parseR size n b (f + 1) at_ (lastFreeR acc) = none from parse_bad (by omega) (.inl (by rw [HD.out]; exact if_pos h))]; rfl)
                  have HB1 := HBW
                  have ho9 := ho
                  clear q1 q2 q3 ho k2w k3w k2i k3i k1 k2 G1 G2 hlt2
                  by_cases c1 : xn < 1
                  · have HV : Aside0 (openR b = none) := ⟨hbad (.inl c1)⟩
                    clear hbad ho9
                    go_wp2_with fail
                    go_ret2
                    exact ⟨by rw [HV.out]; rfl, HB1.out⟩
                  · have c1b : decide (xn < 1) = false := decide_eq_false c1
                    by_cases c2 : n < xn
                    · have HV : Aside0 (openR b = none) := ⟨hbad (.inr (by omega))⟩
                      clear hbad ho9
                      go_wp2_with fail
                      go_ret2
                      exact ⟨by rw [HV.out]; rfl, HB1.out⟩
                    · have c2b : decide (n < xn) = false := decide_eq_false c2
                      have e1 : 0 ≤ xn * size := Int.mul_nonneg (by omega) (by omega)
                      have e2 : xn * size ≤ 4096 * 256 := Int.mul_le_mul (by omega) z2 (by omega) (by omega)
                      have e3 : (at_ + xn) * size = (o : Int) + xn * size := by rw [Int.add_mul, ho9]
                      by_cases c3 : n < at_ + xn
                      · have e4 : (n + 1) * size ≤ (at_ + xn) * size := Int.mul_le_mul_of_nonneg_right (by omega) (by omega)
                        have e5 : (n + 1) * size = n * size + size := by rw [Int.add_mul, Int.one_mul]
                        have c3b : (b.length : Int) < (o : Int) + xn * size := by have := HBN.out; omega
                        have HV : Aside0 (openR b = none) := ⟨hbad (.inr (by omega))⟩
                        clear hbad ho9 e3 e4 e5
                        go_wp2_with fail
                        go_ret2
                        exact ⟨by rw [HV.out]; rfl, HB1.out⟩
                      · have e4 : (at_ + xn) * size ≤ n * size := Int.mul_le_mul_of_nonneg_right (by omega) (by omega)
                        have hbl : (o : Int) + xn * size ≤ (b.length : Int) := by have := HBN.out; omega
                        have c3b : decide ((b.length : Int) < (o : Int) + xn * size) = false := decide_eq_false (by omega)
                        have heq : (((o : Int) + xn * size) == (b.length : Int)) = (at_ + xn == n) := by
                          by_cases q : at_ + xn = n
                          · have : (o : Int) + xn * size = (b.length : Int) := by rw [← e3, q, HBN.out]
                            simp [q, this]
                          · have h5 : (at_ + xn + 1) * size ≤ n * size := Int.mul_le_mul_of_nonneg_right (by omega) (by omega)
                            have h6 : (at_ + xn + 1) * size = (at_ + xn) * size + size := by rw [Int.add_mul, Int.one_mul]
                            have h7 : ¬ (o : Int) + xn * size = (b.length : Int) := by have := HBN.out; omega
                            rw [beq_eq_false_iff_ne.2 h7, beq_eq_false_iff_ne.2 q]
                        have hrange : at_ + xn ≤ n := by omega
                        clear hbad ho9 e3 e4
                        have HMS : Aside0 (size ≤ xn * size ∧ (o : Int) + size ≤ (b.length : Int) ∧ 0 < size) := ⟨by have h8 : 1 * size ≤ xn * size := Int.mul_le_mul_of_nonneg_right (by omega) (by omega); omega⟩
                        have HSZZ : Aside0 (xn * size ≤ 4096 * 256 ∧ 0 ≤ xn * size) := ⟨e2, e1⟩
                        by_cases k0 : xk = 0
                        · have HRD : Aside0 (readR size n b at_ = some ⟨xn, true, ⟨#[]⟩⟩) := ⟨by rw [HD.out, if_neg (by omega), if_pos k0]⟩
                          have k0b : (xk == 0) = true := by simpa using k0
                          rw [k0b] at HBX
                          have x1 : wc.cell? ⟨wr.heap.size, 1, none⟩ = some (.bool true) := (blk_cell HBX.out 1).trans rfl
                          clear k0 k0b
                          go_upto_region 17 with (fail)
                          have HMX := HMc
                          have HRX := HRc
                          have HBWX := HBW
                          obtain ⟨wx, rfl⟩ : ∃ q, q = wc := ⟨_, rfl⟩
                          clear x0 x1
                          have HBAD0 := Aside0.mk hbl
                          have m3 : wx.cell? ⟨w.heap.size, 1, none⟩ = some (.slice A acc.length c) := (blk_cell HMX.out 1).trans rfl
                          have y0 : wx.cell? ⟨wr.heap.size, 0, none⟩ = some (.int .i64 xn) := (blk_cell HBX.out 0).trans rfl
                          have y1 : wx.cell? ⟨wr.heap.size, 1, none⟩ = some (.bool true) := (blk_cell HBX.out 1).trans rfl
                          go_cut [146] from 111 to 146 (fun v146 wz => v146 = .bool (true && (lastFreeR acc || at_ + xn == n)) ∧ wz = wx.drew)
                          case first =>
                            rcases List.eq_nil_or_concat acc with rfl | ⟨rs, y, rfl⟩
                            · have HLF : Aside0 (lastFreeR [] = false) := ⟨rfl⟩
                              refine wp_region_segs (by kernel_rfl) [(false, [0, 1, 2, 3, 4, 5, 6, 7, 8, 9, 10, 11, 12, 14, 15, 16, 13, 17, 18, 19, 20, 21, 22, 23, 24, 25, 26, 28, 31, 32, 27, 29, 30, 33, 34, 35])] (by decide) (by kernel_rfl) ?_
                              simp only [wpSegs, pickOps, List.getElem?_toArray, List.getElem?_cons_succ, List.getElem?_cons_zero, Bool.false_eq_true, false_implies, true_and, forall_const]
                              go_wp2_with fail
                              refine ⟨rfl, by kernel_rfl, ?_⟩
                              go_wp2_with fail
                              go_meet
                              exact ⟨by rw [HLF.out]; simp, rfl⟩
                            · rw [List.concat_eq_append] at *
                              have hlen : (rs ++ [y]).length = rs.length + 1 := by simp
                              obtain ⟨g, cap, hv, _, _, hg, e0, e1, e2⟩ := at_R HRX.out rs.length (by omega)
                              injection hv with hv1 hv2 hv3
                              subst hv1 hv3
                              have hy : (rs ++ [y])[rs.length]'(by omega) = y := by simp
                              rw [hy] at e1
                              rw [hlen] at m3
                              have HLF : Aside0 (lastFreeR (rs ++ [y]) = y.f1) := ⟨by simp [lastFreeR]⟩
                              have hi : wrap64 ((rs.length : Int) + 1 - 1) = (rs.length : Int) := by rw [wrap_id (by omega) (by omega)]; omega
                              have hsub : (rs.length : Int) + 1 - 1 = (rs.length : Int) := by omega
                              have hal2 : (rs.length : Int) + 2 ≤ at_ := by rw [hlen] at hal; omega
                              obtain ⟨yf, hyf⟩ : ∃ q, y.f1 = q := ⟨_, rfl⟩
                              rw [hyf] at e1 HLF
                              clear hlen hy e0 e2 hv2 hal hyf
                              cases yf
                              · refine wp_region_segs (by kernel_rfl) [(false, [0, 1, 2, 3, 4, 5, 6, 7, 8, 9, 10, 11, 12, 14, 15, 16, 13, 17, 18, 19, 20, 21, 22, 23, 24, 25, 26, 28, 31, 32, 27, 29, 30, 33, 34, 35])] (by decide) (by kernel_rfl) ?_
                                simp only [wpSegs, pickOps, List.getElem?_toArray, List.getElem?_cons_succ, List.getElem?_cons_zero, Bool.false_eq_true, false_implies, true_and, forall_const]
                                go_wp2_with fail
                                refine ⟨rfl, by kernel_rfl, ?_⟩
                                go_wp2_with fail
                                go_meet
                                exact ⟨by rw [HLF.out]; simp, rfl⟩
                              · refine wp_region_segs (by kernel_rfl) [(false, [0, 1, 2, 3, 4, 5, 6, 7, 8, 9, 10, 11, 12, 14, 15, 16, 13, 17, 18, 19, 20, 21, 22, 23, 24, 25, 26, 28, 31, 32, 27, 29, 30, 33, 34, 35])] (by decide) (by kernel_rfl) ?_
                                simp only [wpSegs, pickOps, List.getElem?_toArray, List.getElem?_cons_succ, List.getElem?_cons_zero, Bool.false_eq_true, false_implies, true_and, forall_const]
                                go_wp2_with fail
                                refine ⟨rfl, by kernel_rfl, ?_⟩
                                go_wp2_with fail
                                go_meet
                                exact ⟨by rw [HLF.out]; simp, rfl⟩
                          case rest =>
                            clear hbl
                            obtain ⟨rfl, rfl⟩ := hcut
                            have HBY2 : Aside0 (Below w.heap.size w wx.drew) := ⟨below_drew1 HBWX.out⟩
                            rcases hbad : (true && (lastFreeR acc || at_ + xn == n)) with _ | _
                            · have HP2 : Aside0 (parseR size n b (n.toNat + 1) 1 false = (parseR size n b f (at_ + xn) (lastFreeR (acc ++ [⟨xn, true, ⟨#[]⟩⟩]))).map ((acc ++ [⟨xn, true, ⟨#[]⟩⟩]) ++ ·)) := ⟨by
                                rw [HP.out, show parseR size n b (f + 1) at_ (lastFreeR acc) = _ from parse_step (by omega) HRD.out hbad]
                                rw [show lastFreeR (acc ++ [⟨xn, true, ⟨#[]⟩⟩]) = true by simp [lastFreeR]]
                                show Option.map _ (Option.map _ (parseR size n b f (at_ + xn) true)) = _
                                cases parseR size n b f (at_ + xn) true <;> simp⟩
                              have HBAD := Aside0.mk hbad
                              clear hbad
                              have y2 : wx.cell? ⟨wr.heap.size, 2, none⟩ = some (.string ⟨#[]⟩) := (blk_cell HBX.out 2).trans rfl
                              go_wp2_with fail
                              refine wp_region_segs (by kernel_rfl) [(false, [0, 1, 2, 3, 4, 5, 6, 7, 8, 9, 10])] (by decide) (by kernel_rfl) ?_
                              simp only [wpSegs, pickOps, List.getElem?_toArray, List.getElem?_cons_succ, List.getElem?_cons_zero, Bool.false_eq_true, false_implies, true_and, forall_const]
                              clear y0 y1 y2 m3
                              have hgt := HGT.out
                              have d1 : ¬ w.heap.size = wr.heap.size := by omega
                              have d2 : ¬ wr.heap.size = w.heap.size := by omega
                              have hfr : Aside0 (∀ k, wx.drew.drew.heap.size ≤ k → k ≠ w.heap.size) := ⟨fun k hk => by have h1 := blk_lt HMX.out; have h2 : wx.heap.size ≤ k := hk; omega⟩
                              have m3 : wx.cell? ⟨w.heap.size, 1, none⟩ = some (.slice A acc.length c) := (blk_cell HMX.out 1).trans rfl
                              have y0 : wx.cell? ⟨wr.heap.size, 0, none⟩ = some (.int .i64 xn) := (blk_cell HBX.out 0).trans rfl
                              have y1 : wx.cell? ⟨wr.heap.size, 1, none⟩ = some (.bool true) := (blk_cell HBX.out 1).trans rfl
                              have y2 : wx.cell? ⟨wr.heap.size, 2, none⟩ = some (.string ⟨#[]⟩) := (blk_cell HBX.out 2).trans rfl
                              go_wp2_with (at_builtin; refine appS (w0 := w) (W := wx.drew.drew) w.heap.size (by rfl) _ _ (by rfl) (.slice A acc.length c) acc ⟨xn, true, ⟨#[]⟩⟩ (fun k => k ≠ w.heap.size) (by rfl) (by rfl) (Kd.R_drew (Kd.R_drew HRX.out)) (below_drew1 (below_drew1 HBWX.out)) HBWX.out.size hfr.out (by omega) ?_; intro v8 w8 ho hb hg; obtain ⟨A8, c8, rfl⟩ := Kd.R_slice ho; have HO8 := Aside0.mk ho; have HB8 := Aside0.mk hb; have M8 : Aside0 (RefAt w8 w.heap.size size (.slice A acc.length c)) := ⟨blk_grown (blk_alloc (blk_drew (blk_drew HMX.out)) _) hg (Kd.R_away HRX.out (fun k hk => hk))⟩; have X8 : Aside0 (w8.heap[wr.heap.size]? = some (.cells #[.int .i64 xn, .bool true, .string ⟨#[]⟩] 87 (0, 0))) := ⟨blk_grown (blk_alloc (blk_drew (blk_drew HBX.out)) _) hg (fun e => Nat.lt_irrefl _ (HLT.out _ e.symm))⟩; clear ho hb hg m3 y0 y1 y2; have cc8 : w8.cell? ⟨w.heap.size, 1, none⟩ = some (.slice A acc.length c) := (blk_cell M8.out 1).trans rfl; have f8 : w8.frozen? ⟨w.heap.size, 1, none⟩ = false := blk_frozen M8.out 1; have z8 : w8.cell? ⟨wr.heap.size, 0, none⟩ = some (.int .i64 xn) := (blk_cell X8.out 0).trans rfl)
                              go_wp2_with fail
                              refine ⟨rfl, by kernel_rfl, ?_⟩
                              go_wp2_with fail
                              go_roundw
                              case rel => exact ⟨at_ + xn, acc ++ [⟨xn, true, ⟨#[]⟩⟩], A8, c8, f, by rw [Int.add_mul, HOA.out], ⟨by omega, by omega⟩, by rw [List.length_append]; simp; omega, by omega, HP2, ⟨blk_put M8.out 1 _ (by rw [List.length_append]; rfl)⟩, ⟨Kd.R_far HO8.out (p := ⟨w.heap.size, 1, none⟩) (fun k hk => hk) _⟩, ⟨below_set HB8.out (Nat.le_refl _)⟩⟩
                              case measure => simp [intOf]; have hb1 := HBN.out; have hb2 := HMS.out; omega
                            · have HV : Aside0 (openR b = none) := ⟨openR_parse HH.out (by rw [HP.out, show parseR size n b (f + 1) at_ (lastFreeR acc) = none from parse_bad (by omega) (.inr ⟨_, HRD.out, hbad⟩)]; rfl)⟩
                              have HB1 := HBY2
                              clear hbad
                              go_wp2_with fail
                              go_ret2
                              exact ⟨by rw [HV.out]; rfl, HB1.out⟩
                        · have k0b : (xk == 0) = false := by simpa using k0
                          rw [k0b] at HBX
                          have x1 : wc.cell? ⟨wr.heap.size, 1, none⟩ = some (.bool false) := (blk_cell HBX.out 1).trans rfl
                          clear k0b
                          have K0 := Aside0.mk k0
                          clear k0
                          go_wp2_with fail
                          refine (G3.out _ (Kd.C_below HCB.out HBc.out)).mono ?_
                          rintro e w' ⟨rfl, ⟨⟨m3, rfl⟩⟩⟩
                          have HBX := Aside0.mk (blk_drewN HBX.out m3)
                          have HMX : Aside0 (RefAt (wc.drewN m3) w.heap.size size (.slice A acc.length c)) := ⟨blk_drewN HMc.out m3⟩
                          have HRX := Aside0.mk (Kd.R_drewN HRb.out m3)
                          have HBWX := Aside0.mk (pw_below_drewN HBW.out m3)
                          have HCX := Aside0.mk (Kd.C_below HR0.out HBWX.out)
                          clear x0 x1 G3
                          clear HBc HMc HRc HBW HB1 k3
                          generalize wc.drewN m3 = wx at *
                          have x0 : wx.cell? ⟨wr.heap.size, 0, none⟩ = some (.int .i64 xn) := (blk_cell HBX.out 0).trans rfl
                          have hbad : (2048 < xm ∨ needsF size xm ≠ xn) → openR b = none := fun h => openR_parse HH.out (by rw [HP.out, show parseR size n b (f + 1) at_ (lastFreeR acc) = none from parse_bad (by omega) (.inl (by rw [HD.out, if_neg (by omega), if_neg K0.out]; exact if_pos h))]; rfl)
                          by_cases c5 : 2048 < xm
                          · have HV : Aside0 (openR b = none) := ⟨hbad (.inl c5)⟩
                            have c5b : decide (2048 < xm) = true := decide_eq_true c5
                            have HB1 := Aside0.mk (below_drew1 HBWX.out)
                            clear hbad
                            go_wp2_with fail
                            refine wp_region_segs (by kernel_rfl) [(false, [0, 1, 2, 3, 5, 6, 4]), (true, [7]), (false, [8, 9])] (by decide) (by kernel_rfl) ?_
                            simp only [wpSegs, pickOps, List.getElem?_toArray, List.getElem?_cons_succ, List.getElem?_cons_zero, Bool.false_eq_true, false_implies, true_and, forall_const]
                            go_wp2_with fail
                            refine ⟨fun _ _ => rfl, ?_⟩
                            go_wp2_with fail
                            refine ⟨rfl, by kernel_rfl, ?_⟩
                            go_wp2_with fail
                            go_ret2
                            exact ⟨by rw [HV.out]; rfl, HB1.out⟩
                          · have c5b : decide (2048 < xm) = false := decide_eq_false c5
                            go_wp2_with fail
                            refine wp_region_segs (by kernel_rfl) [(false, [0, 1, 2, 3, 5, 6, 4]), (true, [7]), (false, [8, 9])] (by decide) (by kernel_rfl) ?_
                            simp only [wpSegs, pickOps, List.getElem?_toArray, List.getElem?_cons_succ, List.getElem?_cons_zero, Bool.false_eq_true, false_implies, true_and, forall_const]
                            go_wp2_with fail
                            refine (needsR_any size xm _ ⟨z1, z2⟩ (by omega) (by omega)).mono ?_
                            rintro e w' ⟨rfl, rfl⟩
                            by_cases c6 : needsF size xm = xn
                            · have c6b : (xn != needsF size xm) = false := by simp [c6]
                              go_wp2_with fail
                              refine ⟨fun _ _ => rfl, ?_⟩
                              go_wp2_with fail
                              refine ⟨rfl, by kernel_rfl, ?_⟩
                              have hnd := needs_sound z1 bm.1 c6
                              obtain ⟨M, hM⟩ : ∃ M : Nat, xm = (M : Int) := ⟨xm.toNat, by omega⟩
                              have hM2 : o + 12 + M ≤ b.length := by omega
                              obtain ⟨A4, k4, C4, hc4⟩ := run_cut A0 c0 b (o + 12) M hM2 hc0
                              have HRD : Aside0 (readR size n b at_ = some ⟨xn, false, strOfNums ((b.drop (o + 12)).take M)⟩) := ⟨by rw [HD.out, if_neg (by omega), if_neg K0.out, if_neg (fun h => h.elim (fun h => by omega) (fun h => h c6)), hM]; rfl⟩
                              have k16 : ∀ W, (Instr.slice 27 (.slice A0 b.length c0) (some (.int .i64 ((o : Int) + 12))) (some (.int .i64 ((o : Int) + 12 + (M : Int)))) none).run Try.prog W = .ok (.slice A4 M (c0 - (o + 12))) W := k4
                              have kcv : (convert 27 9 (.slice A4 M (c0 - (o + 12)))).run Try.prog wx.drew = .ok (.string (strOfNums ((b.drop (o + 12)).take M))) wx.drew := Kd.C_string Try.underlying27 Try.underlying5 Try.underlying9 (C4 _ (Kd.C_drew HCX.out))
                              obtain ⟨S, hS⟩ : ∃ S, strOfNums ((b.drop (o + 12)).take M) = S := ⟨_, rfl⟩
                              rw [hS] at kcv HRD
                              have hM3 : (M : Int) ≤ 2048 := by omega
                              clear hnd c6 hS k4 C4 hc4 hbad
                              have z2c : wx.cell? ⟨wr.heap.size, 2, none⟩ = some (.string ⟨#[]⟩) := (blk_cell HBX.out 2).trans rfl
                              have z2f : wx.frozen? ⟨wr.heap.size, 2, none⟩ = false := blk_frozen HBX.out 2
                              subst hM
                              go_upto_region 17 with (fail)
                              have HBX := Aside0.mk (blk_drew (blk_put HBX.out 2 (.string S) rfl))
                              have hgt := HGT.out
                              have HMX : Aside0 (RefAt (wx.setCell ⟨wr.heap.size, 2, none⟩ (.string S)).drew w.heap.size size (.slice A acc.length c)) := ⟨blk_drew (blk_far HMX.out (by show ¬ w.heap.size = wr.heap.size; omega) _)⟩
                              have HRX : Aside0 (Kd.R k87 87 (wx.setCell ⟨wr.heap.size, 2, none⟩ (.string S)).drew w.heap.size (fun k => k ≠ w.heap.size) (.slice A acc.length c) acc) := ⟨Kd.R_drew (Kd.R_mono (Kd.R_far HRX.out (p := ⟨wr.heap.size, 2, none⟩) (fun k hk => by show k ≠ wr.heap.size; omega) (.string S)) (fun k hk => hk.1))⟩
                              have HBWX : Aside0 (Below w.heap.size w (wx.setCell ⟨wr.heap.size, 2, none⟩ (.string S)).drew) := ⟨below_drew1 (below_set HBWX.out (Nat.le_of_lt hgt))⟩
                              clear HCX x0 z2c z2f k16 kcv hgt HRb
                              generalize (wx.setCell ⟨wr.heap.size, 2, none⟩ (.string S)).drew = wx at *
                              have HBAD0 := Aside0.mk hbl
                              have m3 : wx.cell? ⟨w.heap.size, 1, none⟩ = some (.slice A acc.length c) := (blk_cell HMX.out 1).trans rfl
                              have y0 : wx.cell? ⟨wr.heap.size, 0, none⟩ = some (.int .i64 xn) := (blk_cell HBX.out 0).trans rfl
                              have y1 : wx.cell? ⟨wr.heap.size, 1, none⟩ = some (.bool false) := (blk_cell HBX.out 1).trans rfl
                              go_cut [146] from 111 to 146 (fun v146 wz => v146 = .bool (false && (lastFreeR acc || at_ + xn == n)) ∧ wz = wx.drew)
                              case first =>
                                refine wp_region_segs (by kernel_rfl) [(false, [0, 1, 2, 3, 4, 5, 6, 7, 8, 9, 10, 11, 12, 14, 15, 16, 13, 17, 18, 19, 20, 21, 22, 23, 24, 25, 26, 28, 31, 32, 27, 29, 30, 33, 34, 35])] (by decide) (by kernel_rfl) ?_
                                simp only [wpSegs, pickOps, List.getElem?_toArray, List.getElem?_cons_succ, List.getElem?_cons_zero, Bool.false_eq_true, false_implies, true_and, forall_const]
                                go_wp2_with fail
                                refine ⟨rfl, by kernel_rfl, ?_⟩
                                go_wp2_with fail
                                go_meet
                                exact ⟨by simp, rfl⟩
                              case rest =>
                                clear hbl
                                obtain ⟨rfl, rfl⟩ := hcut
                                have HBY2 : Aside0 (Below w.heap.size w wx.drew) := ⟨below_drew1 HBWX.out⟩
                                rcases hbad : (false && (lastFreeR acc || at_ + xn == n)) with _ | _
                                · have HP2 : Aside0 (parseR size n b (n.toNat + 1) 1 false = (parseR size n b f (at_ + xn) (lastFreeR (acc ++ [⟨xn, false, S⟩]))).map ((acc ++ [⟨xn, false, S⟩]) ++ ·)) := ⟨by
                                    rw [HP.out, show parseR size n b (f + 1) at_ (lastFreeR acc) = _ from parse_step (by omega) HRD.out hbad]
                                    rw [show lastFreeR (acc ++ [⟨xn, false, S⟩]) = false by simp [lastFreeR]]
                                    show Option.map _ (Option.map _ (parseR size n b f (at_ + xn) false)) = _
                                    cases parseR size n b f (at_ + xn) false <;> simp⟩
                                  have HBAD := Aside0.mk hbad
                                  clear hbad
                                  have y2 : wx.cell? ⟨wr.heap.size, 2, none⟩ = some (.string S) := (blk_cell HBX.out 2).trans rfl
                                  go_wp2_with fail
                                  refine wp_region_segs (by kernel_rfl) [(false, [0, 1, 2, 3, 4, 5, 6, 7, 8, 9, 10])] (by decide) (by kernel_rfl) ?_
                                  simp only [wpSegs, pickOps, List.getElem?_toArray, List.getElem?_cons_succ, List.getElem?_cons_zero, Bool.false_eq_true, false_implies, true_and, forall_const]
                                  clear y0 y1 y2 m3
                                  have hgt := HGT.out
                                  have d1 : ¬ w.heap.size = wr.heap.size := by omega
                                  have d2 : ¬ wr.heap.size = w.heap.size := by omega
                                  have hfr : Aside0 (∀ k, wx.drew.drew.heap.size ≤ k → k ≠ w.heap.size) := ⟨fun k hk => by have h1 := blk_lt HMX.out; have h2 : wx.heap.size ≤ k := hk; omega⟩
                                  have m3 : wx.cell? ⟨w.heap.size, 1, none⟩ = some (.slice A acc.length c) := (blk_cell HMX.out 1).trans rfl
                                  have y0 : wx.cell? ⟨wr.heap.size, 0, none⟩ = some (.int .i64 xn) := (blk_cell HBX.out 0).trans rfl
                                  have y1 : wx.cell? ⟨wr.heap.size, 1, none⟩ = some (.bool false) := (blk_cell HBX.out 1).trans rfl
                                  have y2 : wx.cell? ⟨wr.heap.size, 2, none⟩ = some (.string S) := (blk_cell HBX.out 2).trans rfl
                                  go_wp2_with (at_builtin; refine appS (w0 := w) (W := wx.drew.drew) w.heap.size (by rfl) _ _ (by rfl) (.slice A acc.length c) acc ⟨xn, false, S⟩ (fun k => k ≠ w.heap.size) (by rfl) (by rfl) (Kd.R_drew (Kd.R_drew HRX.out)) (below_drew1 (below_drew1 HBWX.out)) HBWX.out.size hfr.out (by omega) ?_; intro v8 w8 ho hb hg; obtain ⟨A8, c8, rfl⟩ := Kd.R_slice ho; have HO8 := Aside0.mk ho; have HB8 := Aside0.mk hb; have M8 : Aside0 (RefAt w8 w.heap.size size (.slice A acc.length c)) := ⟨blk_grown (blk_alloc (blk_drew (blk_drew HMX.out)) _) hg (Kd.R_away HRX.out (fun k hk => hk))⟩; have X8 : Aside0 (w8.heap[wr.heap.size]? = some (.cells #[.int .i64 xn, .bool false, .string S] 87 (0, 0))) := ⟨blk_grown (blk_alloc (blk_drew (blk_drew HBX.out)) _) hg (fun e => Nat.lt_irrefl _ (HLT.out _ e.symm))⟩; clear ho hb hg m3 y0 y1 y2; have cc8 : w8.cell? ⟨w.heap.size, 1, none⟩ = some (.slice A acc.length c) := (blk_cell M8.out 1).trans rfl; have f8 : w8.frozen? ⟨w.heap.size, 1, none⟩ = false := blk_frozen M8.out 1; have z8 : w8.cell? ⟨wr.heap.size, 0, none⟩ = some (.int .i64 xn) := (blk_cell X8.out 0).trans rfl)
                                  go_wp2_with fail
                                  refine ⟨rfl, by kernel_rfl, ?_⟩
                                  go_wp2_with fail
                                  go_roundw
                                  case rel => exact ⟨at_ + xn, acc ++ [⟨xn, false, S⟩], A8, c8, f, by rw [Int.add_mul, HOA.out], ⟨by omega, by omega⟩, by rw [List.length_append]; simp; omega, by omega, HP2, ⟨blk_put M8.out 1 _ (by rw [List.length_append]; rfl)⟩, ⟨Kd.R_far HO8.out (p := ⟨w.heap.size, 1, none⟩) (fun k hk => hk) _⟩, ⟨below_set HB8.out (Nat.le_refl _)⟩⟩
                                  case measure => simp [intOf]; have hb1 := HBN.out; have hb2 := HMS.out; omega
                                · have HV : Aside0 (openR b = none) := ⟨openR_parse HH.out (by rw [HP.out, show parseR size n b (f + 1) at_ (lastFreeR acc) = none from parse_bad (by omega) (.inr ⟨_, HRD.out, hbad⟩)]; rfl)⟩
                                  have HB1 := HBY2
                                  clear hbad
                                  go_wp2_with fail
                                  go_ret2
                                  exact ⟨by rw [HV.out]; rfl, HB1.out⟩
                            · have HV : Aside0 (openR b = none) := ⟨hbad (.inr c6)⟩
                              have c6b : (xn != needsF size xm) = true := by simp; exact fun h => c6 h.symm
                              have HB1 := Aside0.mk (below_drew1 HBWX.out)
                              have C6 := Aside0.mk c6
                              clear hbad c6
                              go_wp2_with fail
                              refine ⟨fun _ _ => rfl, ?_⟩
                              go_wp2_with fail
                              refine ⟨rfl, by kernel_rfl, ?_⟩
                              go_wp2_with fail
                              go_ret2
                              exact ⟨by rw [HV.out]; rfl, HB1.out⟩
              · obtain rfl : at_ = n := by omega
                have hp : parseR size at_ b (at_.toNat + 1) 1 false = some acc := by
                  rw [HP.out, show parseR size at_ b (f + 1) at_ (lastFreeR acc) = some [] from parse_end (by omega)]
                  simp
                have hfit := parseR_fits z1 HBY.out (by omega) (at_.toNat + 1) 1 false acc (by omega) hp
                have HOP := Aside0.mk (openR_bytes HH.out hp)
                have hlt2 : ¬ ((o : Int) < (b.length : Int)) := by have := HV4.out; omega
                have HOA := Aside0.mk ho
                clear hp ho q1 q2
                simp only [HOA.out]
                go_wp2_with fail
                have kb : (convert 27 9 (.slice A0 b.length c0)).run Try.prog wr.drew = .ok (.string (strOfNums b)) wr.drew := Kd.C_string Try.underlying27 Try.underlying5 Try.underlying9 (Kd.C_drew (Kd.C_below HR0.out HB.out))
                have HFT := Aside0.mk hfit
                clear hfit
                refine wp_region_segs (by kernel_rfl) [(false, [0, 3, 4]), (true, [1]), (false, [2, 5])] (by decide) (by kernel_rfl) ?_
                simp only [wpSegs, pickOps, List.getElem?_toArray, List.getElem?_cons_succ, List.getElem?_cons_zero, Bool.false_eq_true, false_implies, true_and, forall_const]
                go_wp2_with fail
                refine (BytesR_any w.heap.size w.heap.size (fun k => k ≠ w.heap.size) size _ acc wr.drew (blk_drew HM.out) (Kd.R_drew HR.out) (by omega) ⟨z1, z2⟩ HFT.out.1).mono ?_
                rintro e w4 ⟨v5, rfl, ho, hb4⟩
                have HX4 := Aside0.mk (ext_of_below hb4)
                have HB4 : Aside0 (Below w.heap.size w w4) := ⟨below_then (below_drew1 HB.out) HB.out.size hb4⟩
                have HM4 : Aside0 (RefAt w4 w.heap.size size (.slice A acc.length c)) := ⟨blk_below (blk_drew HM.out) hb4⟩
                have HR4 := Aside0.mk (Kd.R_below (Kd.R_drew HR.out) hb4)
                obtain ⟨A5, c5, rfl⟩ := Kd.R_slice ho
                have kc : (convert 27 9 (.slice A5 (bytesR size acc).length c5)).run Try.prog w4 = .ok (.string (strOfNums (bytesR size acc))) w4 := Kd.C_string Try.underlying27 Try.underlying5 Try.underlying9 (Kd.R_reads' ho).2.2
                have HPB := Aside0.mk (bytesR_byte size acc)
                clear ho hb4 kb
                by_cases heq : bytesR size acc = b
                · have hbe : ((strOfNums (bytesR size acc)).toList == (strOfNums b).toList) = true := by rw [heq]; simp
                  have hbn : ((strOfNums (bytesR size acc)).toList != (strOfNums b).toList) = false := by rw [heq]; simp
                  have HEQ := Aside0.mk heq
                  clear heq
                  go_wp2_with fail
                  refine ⟨HX4.out, ?_⟩
                  go_wp2_with fail
                  refine ⟨rfl, by kernel_rfl, ?_⟩
                  go_wp2_with fail
                  go_ret2
                  refine ⟨?_, HB4.out⟩
                  rw [HOP.out, if_pos HEQ.out]
                  exact ⟨_, _, rfl, Nat.le_refl _, HM4.out, HR4.out⟩
                · have hbe : ((strOfNums (bytesR size acc)).toList == (strOfNums b).toList) = false := by
                    rw [beq_eq_false_iff_ne]
                    intro e
                    rw [Go.Lib.toList_data, Go.Lib.toList_data] at e
                    exact heq (strOf_inj HPB.out HBY.out (Go.WideShapes.bytes_inj e))
                  have hbn : ((strOfNums (bytesR size acc)).toList != (strOfNums b).toList) = true := by rw [bne, hbe]; rfl
                  have HEQ := Aside0.mk heq
                  clear heq
                  go_wp2_with fail
                  refine ⟨HX4.out, ?_⟩
                  go_wp2_with fail
                  refine ⟨rfl, by kernel_rfl, ?_⟩
                  go_wp2_with fail
                  go_ret2
                  exact ⟨by rw [HOP.out, if_neg HEQ.out]; rfl, HB4.out⟩
          · have HV : Aside0 (openR b = none) := ⟨openR_head (by rw [HD.out]; exact if_neg (fun h => v4 h.2.2.2))⟩
            have v4b : ((b.length : Int) == n * size) = false := by simpa using v4
            go_wp2_with fail
            go_ret2
            exact ⟨by rw [HV.out]; rfl, HB1.out⟩
    · have v1 : sizeB size = false := by simpa using v1
      have HV : Aside0 (openR b = none) := ⟨openR_head (by rw [HD.out]; exact if_neg (fun h => by rw [v1] at h; cases h.1))⟩
      rw [v1]
      go_wp2_with fail
      go_ret2
      exact ⟨by rw [HV.out]; rfl, HB1.out⟩
end Go.Proofs.Ytdadhificeplmaa

/- Entries: arrays of three numbers. -/
set_option linter.unusedVariables false
set_option linter.unusedSimpArgs false
namespace Go.Proofs.Ytdadhificeplmaa
open Go.RowKit Go.Proofs.YtdadhificeplmaaW.PrintWords Go.Proofs.YtdadhificeplmaaW.PrintLast Go.Proofs.YtdadhificeplmaaW.PrintMore Go.Proofs.Cab
open Go.MuLone
open PAll (S87 k87 z87 k87_openM k87_mkM)
theorem part3 (cs : Array Value) (n : Nat) (x : Value) (w : World) (h : cs[n]? = some x) : (part 3 cs n).run Try.prog w = .ok x w := by
  unfold part
  simp [Try.isAgg3, h, Result.andThen]
theorem eqArr3 (d : Nat) (a1 a2 a3 b1 b2 b3 : Int) (w : World) : (Op.equalIn (d + 2) 90 (.agg #[.int .i64 a1, .int .i64 a2, .int .i64 a3]) (.agg #[.int .i64 b1, .int .i64 b2, .int .i64 b3])).run Try.prog w = .ok (a1 == b1 && (a2 == b2 && a3 == b3)) w := by
  unfold Op.equalIn
  have h0 := run_equalIn_int (P := Try.prog) w d 3 .i64 .i64 a1 b1 Try.underlying3
  have h1 := run_equalIn_int (P := Try.prog) w d 3 .i64 .i64 a2 b2 Try.underlying3
  have h2 := run_equalIn_int (P := Try.prog) w d 3 .i64 .i64 a3 b3 Try.underlying3
  have a0p : ∀ w, (part 3 #[.int .i64 a1, .int .i64 a2, .int .i64 a3] (0 * 1)).run Try.prog w = .ok (.int .i64 a1) w := fun w => part3 _ _ _ w rfl
  have a1p : ∀ w, (part 3 #[.int .i64 a1, .int .i64 a2, .int .i64 a3] (1 * 1)).run Try.prog w = .ok (.int .i64 a2) w := fun w => part3 _ _ _ w rfl
  have a2p : ∀ w, (part 3 #[.int .i64 a1, .int .i64 a2, .int .i64 a3] (2 * 1)).run Try.prog w = .ok (.int .i64 a3) w := fun w => part3 _ _ _ w rfl
  have b0p : ∀ w, (part 3 #[.int .i64 b1, .int .i64 b2, .int .i64 b3] (0 * 1)).run Try.prog w = .ok (.int .i64 b1) w := fun w => part3 _ _ _ w rfl
  have b1p : ∀ w, (part 3 #[.int .i64 b1, .int .i64 b2, .int .i64 b3] (1 * 1)).run Try.prog w = .ok (.int .i64 b2) w := fun w => part3 _ _ _ w rfl
  have b2p : ∀ w, (part 3 #[.int .i64 b1, .int .i64 b2, .int .i64 b3] (2 * 1)).run Try.prog w = .ok (.int .i64 b3) w := fun w => part3 _ _ _ w rfl
  simp only [Sem.run_bind, run_underlying Try.underlying90, Result.andThen_ok, Std.Legacy.Range.forIn_eq_forIn_range', Std.Legacy.Range.size, Try.sizeOf3]
  simp only [show List.range' 0 ((3 - 0 + 1 - 1) / 1) 1 = [0, 1, 2] from rfl, List.forIn_cons, List.forIn_nil, Sem.run_bind, a0p, b0p, a1p, b1p, a2p, b2p, Result.andThen_ok, h0]
  cases a1 == b1
  · simp
  · simp only [Bool.not_true, Bool.false_eq_true, if_false, Sem.run_pure, Result.andThen_ok, h1, Sem.run_bind, List.forIn_cons, a0p, b0p, a1p, b1p, a2p, b2p]
    cases a2 == b2
    · simp
    · simp only [Bool.not_true, Bool.false_eq_true, if_false, Sem.run_pure, Result.andThen_ok, h2, Sem.run_bind, List.forIn_nil, List.forIn_cons, a2p, b2p]
      cases a3 == b3 <;> simp
theorem neqArr3 (a1 a2 a3 b1 b2 b3 : Int) (w : World) : (binOp .neq 90 (.agg #[.int .i64 a1, .int .i64 a2, .int .i64 a3]) (.agg #[.int .i64 b1, .int .i64 b2, .int .i64 b3])).run Try.prog w = .ok (.bool (!(a1 == b1 && (a2 == b2 && a3 == b3)))) w := by
  rw [run_neq_struct]
  rw [show (10000 : Nat) = 9998 + 2 from rfl, eqArr3]
  rfl
/-- Three numbers. -/
structure A3 where
  a : Int
  b : Int
  c : Int
deriving DecidableEq
def A30 : A3 := ⟨0, 0, 0⟩
def kA : Kd A3 := Kd.iso (Kd.pair (Kd.int .i64) (Kd.pair (Kd.int .i64) (Kd.int .i64))) (fun x : A3 => (x.a, x.b, x.c))
theorem kA_open {w : World} {x : A3} {cs : List Value} (h : kA.K w x cs) : cs = [.int .i64 x.a, .int .i64 x.b, .int .i64 x.c] := by
  obtain ⟨_, _, rfl, rfl, ⟨_, _, rfl, rfl, rfl⟩⟩ := h
  exact rfl
theorem kA_mkM (w : World) (base : Nat) (ok : Nat → Prop) (x : A3) : kA.M w base ok x [.int .i64 x.a, .int .i64 x.b, .int .i64 x.c] := ⟨[.int .i64 x.a], _, rfl, rfl, [.int .i64 x.b], _, rfl, rfl, rfl⟩
theorem info90 : (Try.prog.info? 90).map (fun i => (i.zero, i.size, i.bytes)) = some (some (.agg #[.int .i64 0, .int .i64 0, .int .i64 0]), 3, 24) := by kernel_rfl
theorem at_A {w : World} {A : Option Addr} {n : Nat} {xs : List A3} (h : Kd.C kA w A n xs) (k : Nat) (hk : k < xs.length) :
    ∃ ad, A = some ad ∧ w.cell? (ad.add (k * 3)) = some (.int .i64 xs[k].a) ∧ w.cell? ⟨(ad.add (k * 3)).block, (ad.add (k * 3)).off + 1, none⟩ = some (.int .i64 xs[k].b) ∧ w.cell? ⟨(ad.add (k * 3)).block, (ad.add (k * 3)).off + 2, none⟩ = some (.int .i64 xs[k].c) := by
  obtain ⟨ad, c, e, _, hK, hc⟩ := Kd.C_get h A30 (k : Int) (by omega) (by have := Kd.C_len h; omega)
  have hp : xs.getD (k : Int).toNat A30 = xs[k] := by simp [List.getD_eq_getElem?_getD, List.getElem?_eq_getElem hk]
  rw [hp] at hK
  obtain rfl := kA_open hK
  have e0 := hc 0 _ rfl
  have e1 := hc 1 _ rfl
  have e2 := hc 2 _ rfl
  have hsz : kA.sz = 3 := rfl
  simp only [hsz, Int.toNat_natCast, Nat.add_zero] at e0 e1 e2
  exact ⟨ad, e, e0, by rw [← add_field _ _ 1 (by omega)]; exact e1, by rw [← add_field _ _ 2 (by omega)]; exact e2⟩
def entA (x : Ent) : A3 := ⟨x.b, x.n, if x.k = 0 then -1 else (x.s.size : Int)⟩
set_option maxHeartbeats 4000000 in
set_option maxRecDepth 100000 in
theorem Entries_any (base0 b : Nat) (ok : Nat → Prop) (size : Int) (v : Value) (es : List Ent) (w : World) (hM : MemoAt w b size v) (hR : Kd.R kE 78 w base0 ok v es) (hok : ∀ k, ok k → k ≠ b) (hn : es.length ≤ 100000) (hx : ∀ x ∈ es, x.s.size ≤ 2048) :
    Calls Try.prog 16 #[.pointer (some ⟨b, 0, none⟩)] w fun e w' => ∃ v', e = .returned v' ∧ Kd.R kA 90 w' w.heap.size (fun _ => True) v' (es.map entA) ∧ Below w.heap.size w w' := by
  have HR : Aside0 (Kd.R kE 78 (w.setCell ⟨b, 0, none⟩ (.int .i32 1)) base0 ok v es) := ⟨Kd.R_far hR (p := ⟨b, 0, none⟩) hok _⟩
  have HM := Aside0.mk hM
  have HS := Aside0.mk (set_size w ⟨b, 0, none⟩ (.int .i32 1))
  have HXX := Aside0.mk hx
  have hc : w.cell? ⟨b, 0, none⟩ = some (.int .i32 0) := (blk_cell hM 0).trans rfl
  have hf : w.frozen? ⟨b, 0, none⟩ = false := blk_frozen hM 0
  have HH : Aside0 (memoHeld (w.setCell ⟨b, 0, none⟩ (.int .i32 1)) b size v) := ⟨blk_put hM 0 _ rfl⟩
  obtain ⟨A, c, rfl⟩ := Kd.R_slice hR
  have hc3 : w.cell? ⟨b, 3, none⟩ = some (.slice A es.length c) := (blk_cell hM 3).trans rfl
  clear hR hx
  go_enter_defers Try.func16, Try.ntmps16
  go_wp2_with (go_at_call 40; refine (lock_free muLib ⟨b, 0, none⟩ _ hc hf).mono ?_; rintro e w' ⟨rfl, rfl⟩)
  clear hc hf hM hc3
  generalize hw1 : w.setCell ⟨b, 0, none⟩ (.int .i32 1) = w1 at *
  have HW1 := Aside0.mk hw1
  clear hw1
  go_loopw [3, 21] (fun v3 v21 wr => ∃ k : Nat, v21 = .int .i64 (k : Int) ∧ k ≤ es.length ∧ Aside0 (Kd.R kA 90 wr w1.heap.size (fun _ => True) v3 ((es.take k).map entA)) ∧ Aside0 (Below w1.heap.size w1 wr)) (fun v3 v21 wr => ((es.length : Int) - intOf v21).toNat)
  case atStart => exact ⟨0, rfl, by omega, ⟨Kd.R_nil _ _ _ _ _⟩, ⟨Below.refl _ _⟩⟩
  case round =>
    obtain ⟨k, rfl, hk, HO, HB⟩ := hrel
    by_cases hlt : k < es.length
    · obtain ⟨g2, cap, hv, _, _, hg2, e0, e1, e2, e3⟩ := at_E HR.out k hlt
      injection hv with hv1 hv2 hv3
      subst hv1 hv3
      have e0 := (HB.out.cell hg2).trans e0
      have e1 := (HB.out.cell hg2).trans e1
      have e2 := (HB.out.cell hg2).trans e2
      have e3 := (HB.out.cell hg2).trans e3
      have HT : Aside0 ((es.take (k + 1)).map entA = (es.take k).map entA ++ [entA es[k]]) := ⟨by rw [List.take_succ_eq_append_getElem hlt, List.map_append]; rfl⟩
      have hxs := HXX.out es[k] (List.getElem_mem hlt)
      obtain ⟨x, hx⟩ : ∃ x, es[k] = x := ⟨_, rfl⟩
      rw [hx] at e0 e1 e2 e3 HT hxs
      clear hx hv2 hg2
      have HOX : Aside0 (Kd.R kA 90 (wr.alloc (.cells #[.int .i64 x.b, .int .i64 x.n, .int .i64 x.k, .string x.s] 78)) w1.heap.size (fun _ => True) u3 ((es.take k).map entA)) := ⟨Kd.R_alloc HO.out _⟩
      have HBX : Aside0 (Below w1.heap.size w1 (wr.alloc (.cells #[.int .i64 x.b, .int .i64 x.n, .int .i64 x.k, .string x.s] 78))) := ⟨below_alloc HB.out _⟩
      by_cases k0 : x.k = 0
      · have k0b : (x.k == 0) = true := by simpa using k0
        have HMM : Aside0 (kA.M (wr.alloc (.cells #[.int .i64 x.b, .int .i64 x.n, .int .i64 x.k, .string x.s] 78)) w1.heap.size (fun _ => False) (entA x) [.int .i64 x.b, .int .i64 x.n, .int .i64 (-1)]) := ⟨by have h := kA_mkM (wr.alloc (.cells #[.int .i64 x.b, .int .i64 x.n, .int .i64 x.k, .string x.s] 78)) w1.heap.size (fun _ => False) (entA x); simpa [entA, k0] using h⟩
        have K0 := Aside0.mk k0
        clear k0
        go_upto_region 12 with (fail)
        clear e0 e1 e2 e3 k0b
        have y0 : (wr.alloc (.cells #[.int .i64 x.b, .int .i64 x.n, .int .i64 x.k, .string x.s] 78)).cell? ⟨wr.heap.size, 0, none⟩ = some (.int .i64 x.b) := (blk_cell (blk_new wr _) 0).trans rfl
        have y1 : (wr.alloc (.cells #[.int .i64 x.b, .int .i64 x.n, .int .i64 x.k, .string x.s] 78)).cell? ⟨wr.heap.size, 1, none⟩ = some (.int .i64 x.n) := (blk_cell (blk_new wr _) 1).trans rfl
        generalize wr.alloc (.cells #[.int .i64 x.b, .int .i64 x.n, .int .i64 x.k, .string x.s] 78) = wx at *
        go_wp2_with (at_builtin; refine Kd.R_append kA (w0 := w1) w1.heap.size (by rfl) _ _ 36 90 (.agg #[.int .i64 0, .int .i64 0, .int .i64 0]) 24 (by rfl) Try.underlying36 info90 rfl (by decide) (by omega) u3 ((es.take k).map entA) (entA x) [.int .i64 x.b, .int .i64 x.n, .int .i64 (-1)] (fun _ => True) (fun _ => False) (by rfl) (by rfl) HMM.out (fun _ hk => hk.elim) (fun _ _ => trivial) HOX.out HBX.out HBX.out.size (by simp; omega) ?_; intro v4 w4 ho hb hg _; have HO4 := Aside0.mk ho; have HB4 := Aside0.mk hb; clear ho hb hg)
        go_roundw
        case rel => exact ⟨k + 1, by go_num, by omega, ⟨by rw [HT.out]; exact HO4.out⟩, HB4⟩
        case measure => simp [intOf]; omega
      · have k0b : (x.k == 0) = false := by simpa using k0
        have HMM : Aside0 (kA.M (wr.alloc (.cells #[.int .i64 x.b, .int .i64 x.n, .int .i64 x.k, .string x.s] 78)) w1.heap.size (fun _ => False) (entA x) [.int .i64 x.b, .int .i64 x.n, .int .i64 (x.s.size : Int)]) := ⟨by have h := kA_mkM (wr.alloc (.cells #[.int .i64 x.b, .int .i64 x.n, .int .i64 x.k, .string x.s] 78)) w1.heap.size (fun _ => False) (entA x); simpa [entA, k0] using h⟩
        have K0 := Aside0.mk k0
        clear k0
        go_upto_region 12 with (fail)
        clear e0 e1 e2 e3 k0b
        have y0 : (wr.alloc (.cells #[.int .i64 x.b, .int .i64 x.n, .int .i64 x.k, .string x.s] 78)).cell? ⟨wr.heap.size, 0, none⟩ = some (.int .i64 x.b) := (blk_cell (blk_new wr _) 0).trans rfl
        have y1 : (wr.alloc (.cells #[.int .i64 x.b, .int .i64 x.n, .int .i64 x.k, .string x.s] 78)).cell? ⟨wr.heap.size, 1, none⟩ = some (.int .i64 x.n) := (blk_cell (blk_new wr _) 1).trans rfl
        generalize wr.alloc (.cells #[.int .i64 x.b, .int .i64 x.n, .int .i64 x.k, .string x.s] 78) = wx at *
        go_wp2_with (at_builtin; refine Kd.R_append kA (w0 := w1) w1.heap.size (by rfl) _ _ 36 90 (.agg #[.int .i64 0, .int .i64 0, .int .i64 0]) 24 (by rfl) Try.underlying36 info90 rfl (by decide) (by omega) u3 ((es.take k).map entA) (entA x) [.int .i64 x.b, .int .i64 x.n, .int .i64 (x.s.size : Int)] (fun _ => True) (fun _ => False) (by rfl) (by rfl) HMM.out (fun _ hk => hk.elim) (fun _ _ => trivial) HOX.out HBX.out HBX.out.size (by simp; omega) ?_; intro v4 w4 ho hb hg _; have HO4 := Aside0.mk ho; have HB4 := Aside0.mk hb; clear ho hb hg)
        go_roundw
        case rel => exact ⟨k + 1, by go_num, by omega, ⟨by rw [HT.out]; exact HO4.out⟩, HB4⟩
        case measure => simp [intOf]; omega
    · obtain rfl : k = es.length := by omega
      have HLK := Aside0.mk (blk_below HH.out HB.out)
      go_wp2_with fail
      refine leaves_cons (f := 41) (args := #[.pointer (some ⟨b, 0, none⟩)]) (by simp) (by simp [go_sem]) ?_
      refine (unlock_deferred muLib ⟨b, 0, none⟩ .returning _ ((blk_cell HLK.out 0).trans rfl) (blk_frozen HLK.out 0)).mono ?_
      rintro e u' w'' ⟨rfl, rfl, rfl⟩
      refine ⟨_, results_tmp rfl _ _ _, _, rfl, ?_, below_locked HM.out (by rw [HW1.out, ← HS.out]; exact HB.out)⟩
      rw [← HS.out]
      have h := HO.out
      rw [List.take_length] at h
      exact Kd.R_set h HLK.out (by simp [kA, Kd.iso, Kd.pair, Kd.int, Kd.scalar]) 0 _
end Go.Proofs.Ytdadhificeplmaa

/- The reference's Entries; lists of entries compared. -/
set_option linter.unusedVariables false
set_option linter.unusedSimpArgs false
namespace Go.Proofs.Ytdadhificeplmaa
open Go.RowKit Go.Proofs.YtdadhificeplmaaW.PrintWords Go.Proofs.YtdadhificeplmaaW.PrintLast Go.Proofs.YtdadhificeplmaaW.PrintMore Go.Proofs.Cab
open PAll (S87 k87 z87 k87_openM k87_mkM)
def lenR (x : S87) : Int := if x.f1 then -1 else (x.f2.size : Int)
def entR : Int → List S87 → List A3
  | _, [] => []
  | n, x :: l => ⟨n, x.f0, lenR x⟩ :: entR (n + x.f0) l
theorem entR_append : ∀ (l m : List S87) (n : Int), entR n (l ++ m) = entR n l ++ entR (n + sumN l) m
  | [], m, n => by simp [entR, sumN]
  | x :: l, m, n => by rw [List.cons_append, entR, entR, entR_append l m, sumN, List.cons_append, Int.add_assoc]
theorem entR_take {l : List S87} {k : Nat} (h : k < l.length) (n : Int) : entR n (l.take (k + 1)) = entR n (l.take k) ++ [⟨n + sumN (l.take k), l[k].f0, lenR l[k]⟩] := by
  rw [List.take_succ_eq_append_getElem h, entR_append]
  rfl
theorem entR_length : ∀ (l : List S87) (n : Int), (entR n l).length = l.length
  | [], n => rfl
  | x :: l, n => by rw [entR, List.length_cons, entR_length l, List.length_cons]
set_option maxHeartbeats 4000000 in
set_option maxRecDepth 100000 in
theorem EntriesR_any (base g : Nat) (ok : Nat → Prop) (size : Int) (v : Value) (l : List S87) (w : World) (hM : RefAt w g size v) (hR : Kd.R k87 87 w base ok v l) (hn : l.length ≤ 100000) (he : ∀ x ∈ l, 0 ≤ x.f0 ∧ x.f0 ≤ 100000000) (hs : ∀ x ∈ l, x.f2.size ≤ 2048) :
    Calls Try.prog 17 #[.pointer (some ⟨g, 0, none⟩)] w fun e w' => ∃ v', e = .returned v' ∧ Kd.R kA 90 w' w.heap.size (fun _ => True) v' (entR 1 l) ∧ Below w.heap.size w w' := by
  have HR := Aside0.mk hR
  have HM := Aside0.mk hM
  have HE := Aside0.mk he
  have HSS := Aside0.mk hs
  obtain ⟨A, c, rfl⟩ := Kd.R_slice hR
  clear hR hM he hs
  go_enter Try.func17, Try.ntmps17
  go_wp2_with fail
  go_loopw [3, 4] (fun v3 v4 wr => ∃ k : Nat, v4 = .int .i64 (k : Int) ∧ k ≤ l.length ∧ Aside0 (Kd.R kA 90 wr w.heap.size (fun _ => True) v3 (entR 1 (l.take k))) ∧ Aside0 (Below w.heap.size w wr)) (fun v3 v4 wr => ((l.length : Int) - intOf v4).toNat)
  case atStart => exact ⟨0, rfl, by omega, ⟨Kd.R_nil _ _ _ _ _⟩, ⟨Below.refl _ _⟩⟩
  case round =>
    obtain ⟨k, rfl, hk, HO, HB⟩ := hrel
    have HMr : Aside0 (RefAt wr g size (.slice A l.length c)) := ⟨blk_below HM.out HB.out⟩
    have HRr := Aside0.mk (Kd.R_below HR.out HB.out)
    have hs1 : wr.cell? ⟨g, 1, none⟩ = some (.slice A l.length c) := (blk_cell HMr.out 1).trans rfl
    by_cases hlt : k < l.length
    · obtain ⟨g2, cap, hv, _, _, hg2, e0, e1, e2⟩ := at_R HRr.out k hlt
      injection hv with hv1 hv2 hv3
      subst hv1 hv3
      have HT := Aside0.mk (entR_take hlt 1)
      have hxs := HSS.out l[k] (List.getElem_mem hlt)
      have hb2 := HE.out l[k] (List.getElem_mem hlt)
      obtain ⟨bg, hbg⟩ : ∃ q, 1 + sumN (l.take k) = q := ⟨_, rfl⟩
      have HBG := Aside0.mk hbg
      obtain ⟨x, hx⟩ : ∃ x, l[k] = x := ⟨_, rfl⟩
      rw [hx] at e0 e1 e2 HT hxs hb2
      rw [hbg] at HT
      obtain ⟨x1, x2⟩ := hb2
      obtain ⟨fr, hfr⟩ : ∃ fr, x.f1 = fr := ⟨_, rfl⟩
      rw [hfr] at e1
      have HFR := Aside0.mk hfr
      clear hx hv2 hg2 hbg hfr
      cases fr
      · have HMM : Aside0 (∀ W, kA.M W w.heap.size (fun _ => False) ⟨bg, x.f0, lenR x⟩ [.int .i64 bg, .int .i64 x.f0, .int .i64 (x.f2.size : Int)]) := ⟨fun W => by have h := kA_mkM W w.heap.size (fun _ => False) ⟨bg, x.f0, lenR x⟩; simpa [lenR, HFR.out] using h⟩
        go_wp2_with fail
        refine wp_region_segs (by kernel_rfl) [(false, [0, 1, 2, 4, 5, 6, 8, 12, 7, 9, 10, 11]), (true, [3]), (false, [13, 14, 15, 16])] (by decide) (by kernel_rfl) ?_
        simp only [wpSegs, pickOps, List.getElem?_toArray, List.getElem?_cons_succ, List.getElem?_cons_zero, Bool.false_eq_true, false_implies, true_and, forall_const]
        go_wp2_with fail
        refine (begin_any base g ok size _ l k wr.drew (blk_drew HMr.out) (Kd.R_drew HRr.out) (by omega) HE.out hk).mono ?_
        rintro e w' ⟨rfl, rfl⟩
        rw [HBG.out]
        go_wp2_with fail
        refine ⟨fun _ _ => rfl, ?_⟩
        clear e0 e1 e2 hs1
        obtain ⟨wx, hwx⟩ : ∃ q, wr.drew = q := ⟨_, rfl⟩
        have HOX : Aside0 (Kd.R kA 90 wx w.heap.size (fun _ => True) u3 (entR 1 (l.take k))) := ⟨by rw [← hwx]; exact Kd.R_drew HO.out⟩
        have HBX : Aside0 (Below w.heap.size w wx) := ⟨by rw [← hwx]; exact below_drew1 HB.out⟩
        rw [hwx]
        clear hwx
        go_wp2_with (at_builtin; refine Kd.R_append kA (w0 := w) w.heap.size (by rfl) _ _ 36 90 (.agg #[.int .i64 0, .int .i64 0, .int .i64 0]) 24 (by rfl) Try.underlying36 info90 rfl (by decide) (by omega) u3 (entR 1 (l.take k)) ⟨bg, x.f0, lenR x⟩ [.int .i64 bg, .int .i64 x.f0, .int .i64 (x.f2.size : Int)] (fun _ => True) (fun _ => False) (by rfl) (by rfl) (HMM.out wx) (fun _ hk => hk.elim) (fun _ _ => trivial) HOX.out HBX.out HBX.out.size (by rw [entR_length]; simp; omega) ?_; intro v4 w4 ho hb hg _; have HO4 := Aside0.mk ho; have HB4 := Aside0.mk hb; clear ho hb hg)
        refine ⟨rfl, by kernel_rfl, ?_⟩
        go_wp2_with fail
        go_roundw
        case rel => exact ⟨k + 1, by go_num, by omega, ⟨by rw [HT.out]; exact HO4.out⟩, HB4⟩
        case measure => simp [intOf]; omega
      · have HMM : Aside0 (∀ W, kA.M W w.heap.size (fun _ => False) ⟨bg, x.f0, lenR x⟩ [.int .i64 bg, .int .i64 x.f0, .int .i64 (-1)]) := ⟨fun W => by have h := kA_mkM W w.heap.size (fun _ => False) ⟨bg, x.f0, lenR x⟩; simpa [lenR, HFR.out] using h⟩
        go_wp2_with fail
        refine wp_region_segs (by kernel_rfl) [(false, [0, 1, 2, 4, 5, 6, 8, 12, 7, 9, 10, 11]), (true, [3]), (false, [13, 14, 15, 16])] (by decide) (by kernel_rfl) ?_
        simp only [wpSegs, pickOps, List.getElem?_toArray, List.getElem?_cons_succ, List.getElem?_cons_zero, Bool.false_eq_true, false_implies, true_and, forall_const]
        go_wp2_with fail
        refine (begin_any base g ok size _ l k wr.drew (blk_drew HMr.out) (Kd.R_drew HRr.out) (by omega) HE.out hk).mono ?_
        rintro e w' ⟨rfl, rfl⟩
        rw [HBG.out]
        go_wp2_with fail
        refine ⟨fun _ _ => rfl, ?_⟩
        clear e0 e1 e2 hs1
        obtain ⟨wx, hwx⟩ : ∃ q, wr.drew = q := ⟨_, rfl⟩
        have HOX : Aside0 (Kd.R kA 90 wx w.heap.size (fun _ => True) u3 (entR 1 (l.take k))) := ⟨by rw [← hwx]; exact Kd.R_drew HO.out⟩
        have HBX : Aside0 (Below w.heap.size w wx) := ⟨by rw [← hwx]; exact below_drew1 HB.out⟩
        rw [hwx]
        clear hwx
        go_wp2_with (at_builtin; refine Kd.R_append kA (w0 := w) w.heap.size (by rfl) _ _ 36 90 (.agg #[.int .i64 0, .int .i64 0, .int .i64 0]) 24 (by rfl) Try.underlying36 info90 rfl (by decide) (by omega) u3 (entR 1 (l.take k)) ⟨bg, x.f0, lenR x⟩ [.int .i64 bg, .int .i64 x.f0, .int .i64 (-1)] (fun _ => True) (fun _ => False) (by rfl) (by rfl) (HMM.out wx) (fun _ hk => hk.elim) (fun _ _ => trivial) HOX.out HBX.out HBX.out.size (by rw [entR_length]; simp; omega) ?_; intro v4 w4 ho hb hg _; have HO4 := Aside0.mk ho; have HB4 := Aside0.mk hb; clear ho hb hg)
        refine ⟨rfl, by kernel_rfl, ?_⟩
        go_wp2_with fail
        go_roundw
        case rel => exact ⟨k + 1, by go_num, by omega, ⟨by rw [HT.out]; exact HO4.out⟩, HB4⟩
        case measure => simp [intOf]; omega
    · obtain rfl : k = l.length := by omega
      go_wp2_with fail
      go_ret
      have h := HO.out
      rw [List.take_length] at h
      exact ⟨_, rfl, h, HB.out⟩
theorem getD_lt {α : Type} (xs : List α) (k : Nat) (h : k < xs.length) (d : α) : xs.getD k d = xs[k] := by simp [List.getD_eq_getElem?_getD, List.getElem?_eq_getElem h]
theorem decide_prefix (xs ys : List A3) (hl : xs.length = ys.length) (k : Nat) (hk : k < xs.length) (h : ¬ xs[k] = ys[k]'(by omega)) : decide (xs = ys) = false := by
  rw [decide_eq_false_iff_not]
  rintro rfl
  exact h rfl
theorem A3_ext {x y : A3} (h1 : x.a = y.a) (h2 : x.b = y.b) (h3 : x.c = y.c) : x = y := by
  cases x; cases y; simp_all
set_option maxHeartbeats 4000000 in
set_option maxRecDepth 100000 in
theorem entries_any (A B : Option Addr) (c d : Nat) (xs ys : List A3) (w : World) (hA : Kd.C kA w A xs.length xs) (hc : xs.length ≤ c) (hB : Kd.C kA w B ys.length ys) (hd : ys.length ≤ d) (hn : xs.length ≤ 100000) (hm : ys.length ≤ 100000) :
    Calls Try.prog 15 #[.slice A xs.length c, .slice B ys.length d] w fun e w' => e = .returned (.bool (decide (xs = ys))) ∧ Below w.heap.size w w' := by
  have HA := Aside0.mk hA
  have HB := Aside0.mk hB
  clear hA hB
  by_cases hl : xs.length = ys.length
  · have hlb : ((xs.length : Int) != (ys.length : Int)) = false := by simp [hl]
    have HL := Aside0.mk hl
    clear hl
    go_enter Try.func15, Try.ntmps15
    go_wp2_with fail
    go_loopw [5] (fun v5 wr => ∃ k : Nat, v5 = .int .i64 (k : Int) ∧ k ≤ xs.length ∧ Aside0 (∀ j (h : j < k) (h1 : j < xs.length) (h2 : j < ys.length), xs[j] = ys[j]) ∧ Aside0 (Below w.heap.size w wr)) (fun v5 wr => ((xs.length : Int) - intOf v5).toNat)
    case atStart => exact ⟨0, rfl, by omega, ⟨fun j h => absurd h (Nat.not_lt_zero _)⟩, ⟨Below.refl _ _⟩⟩
    case round =>
      obtain ⟨k, rfl, hk, HP, HBL⟩ := hrel
      by_cases hlt : k < xs.length
      · have hlt2 : k < ys.length := by have := HL.out; omega
        obtain ⟨a1, rfl, p0, p1, p2⟩ := at_A (Kd.C_below HA.out HBL.out) k hlt
        obtain ⟨a2, rfl, q0, q1, q2⟩ := at_A (Kd.C_below HB.out HBL.out) k hlt2
        have hAB := neqArr3 xs[k].a xs[k].b xs[k].c ys[k].a ys[k].b ys[k].c
        by_cases he : xs[k] = ys[k]
        · have hb : (!(xs[k].a == ys[k].a && (xs[k].b == ys[k].b && xs[k].c == ys[k].c))) = false := by rw [he]; simp
          rw [hb] at hAB
          have HP2 : Aside0 (∀ j (h : j < k + 1) (h1 : j < xs.length) (h2 : j < ys.length), xs[j] = ys[j]) := ⟨fun j h h1 h2 => by
            by_cases e : j = k
            · subst e; exact he
            · exact HP.out j (by omega) h1 h2⟩
          clear he hb
          generalize xs[k] = x at *
          generalize ys[k] = y at *
          go_wp2_with fail
          go_quiet (fail)
          clear hAB p0 p1 p2 q0 q1 q2
          go_wp2_with fail
          go_roundw
          case rel => exact ⟨k + 1, by go_num, by omega, HP2, ⟨pw_below_drewN HBL.out _⟩⟩
          case measure => simp [intOf]; omega
        · have hb : (!(xs[k].a == ys[k].a && (xs[k].b == ys[k].b && xs[k].c == ys[k].c))) = true := by
            rw [Bool.not_eq_true']
            rw [Bool.eq_false_iff]
            intro hh
            simp only [Bool.and_eq_true, beq_iff_eq] at hh
            exact he (A3_ext hh.1 hh.2.1 hh.2.2)
          rw [hb] at hAB
          have HV := Aside0.mk (decide_prefix xs ys HL.out k hlt he)
          clear he hb
          generalize xs[k] = x at *
          generalize ys[k] = y at *
          go_wp2_with fail
          go_quiet (fail)
          clear hAB p0 p1 p2 q0 q1 q2
          go_wp2_with fail
          go_ret
          exact ⟨by rw [HV.out]; rfl, pw_below_drewN HBL.out _⟩
      · obtain rfl : k = xs.length := by omega
        have HV : Aside0 (xs = ys) := ⟨List.ext_getElem HL.out (fun j h1 h2 => HP.out j h1 h1 h2)⟩
        go_wp2_with fail
        go_ret
        exact ⟨by rw [decide_eq_true HV.out]; rfl, HBL.out⟩
  · have hlb : ((xs.length : Int) != (ys.length : Int)) = true := by simp; omega
    have HV : Aside0 (decide (xs = ys) = false) := ⟨decide_eq_false (fun e => hl (congrArg List.length e))⟩
    clear hl
    go_enter Try.func15, Try.ntmps15
    go_wp2_with fail
    go_ret
    exact ⟨by rw [HV.out]; rfl, Below.refl _ _⟩
end Go.Proofs.Ytdadhificeplmaa

/- The law MemoOpens, walked. -/
set_option linter.unusedVariables false
set_option linter.unusedSimpArgs false
namespace Go.Proofs.Ytdadhificeplmaa
open Go.RowKit Go.Proofs.YtdadhificeplmaaW.PrintWords Go.Proofs.YtdadhificeplmaaW.PrintLast Go.Proofs.YtdadhificeplmaaW.PrintMore Go.Proofs.Cab
open PAll (S87 k87 z87 k87_openM k87_mkM)
theorem entR_toR {size blocks : Int} : ∀ (es : List Ent) (at_ : Int), Chain size blocks at_ es → es.map entA = entR at_ (es.map toR)
  | [], at_, h => rfl
  | x :: es, at_, h => by
    obtain ⟨h1, _, _, _, _, h6⟩ := h
    rw [List.map_cons, List.map_cons, entR, entR_toR es _ h6]
    congr 1
    simp [entA, toR, lenR, h1]
set_option maxHeartbeats 4000000 in
set_option maxRecDepth 100000 in
theorem MemoOpens_any (A0 : Option Addr) (c0 : Nat) (b : List Int) (w : World) (hr0 : Kd.C (Kd.int .u8) w A0 b.length b) (hc0 : b.length ≤ c0) (hb : ∀ x ∈ b, 0 ≤ x ∧ x ≤ 255) :
    Calls Try.prog 4 #[.slice A0 b.length c0] w fun e w' => e = .returned (.bool true) ∧ Below w.heap.size w w' := by
  have HR0 := Aside0.mk hr0
  have HBY := Aside0.mk hb
  clear hb hr0
  by_cases h0 : (b.length : Int) > 2097152
  · have h0b := decide_eq_true h0
    go_enter Try.func4, Try.ntmps4
    go_wp2_with fail
    refine (known_any _).mono ?_
    rintro e w1 ⟨rfl, hb⟩
    have HB := Aside0.mk hb
    clear hb
    go_wp2_with fail
    go_ret
    exact ⟨rfl, HB.out⟩
  · have h0b := decide_eq_false h0
    have hlen : b.length ≤ 2097152 := by omega
    go_enter Try.func4, Try.ntmps4
    go_wp2_with fail
    refine (Open_any A0 c0 b _ HR0.out hc0 HBY.out hlen).mono ?_
    rintro e w1 ⟨ho, hb1⟩
    have HB1 := Aside0.mk hb1
    have RC := OpenR_any A0 c0 b w1 (Kd.C_below HR0.out hb1) hc0 HBY.out hlen
    rw [openR_P b HBY.out] at RC
    clear hb1
    rcases hp : openP b with _ | ⟨size, es⟩
    · rw [hp] at ho RC
      obtain rfl : e = .returned (.tuple #[.pointer none, .int .i64 11]) := ho
      have RCC := Aside0.mk RC
      clear hp RC
      go_wp2_with fail
      refine RCC.out.mono ?_
      rintro e w2 ⟨ho, hb2⟩
      obtain rfl : e = .returned (.tuple #[.pointer none, .int .i64 11]) := ho
      have HB2 := Aside0.mk (below_step HB1.out hb2)
      clear hb2
      go_wp2_with fail
      refine (known_any _).mono ?_
      rintro e w3 ⟨rfl, hb⟩
      have HB3 := Aside0.mk (below_step HB2.out hb)
      clear hb
      go_wp2_with fail
      go_ret
      exact ⟨rfl, HB3.out⟩
    · rw [hp] at ho RC
      obtain ⟨g, v, rfl, hg, hM, hR⟩ := ho
      obtain ⟨blocks, hz, hbl, hch, hbe⟩ := openP_chain HBY.out hp
      have RCC := Aside0.mk RC
      have HM := Aside0.mk hM
      have HR := Aside0.mk hR
      have HCH := Aside0.mk hch
      have HBE := Aside0.mk hbe
      have HZ := Aside0.mk (And.intro hz hbl)
      have hle := HCH.out.le
      have hlen2 : es.length ≤ 4096 := by omega
      clear hp RC hM hR hch hbe hg hz hbl hle
      go_wp2_with fail
      refine RCC.out.mono ?_
      rintro e w2 ⟨ho, hb2⟩
      obtain ⟨g2, v2, rfl, hg2, hM2, hR2⟩ := ho
      have HB2 := Aside0.mk (below_step HB1.out hb2)
      have HM1 := Aside0.mk (blk_below HM.out hb2)
      have HR1 := Aside0.mk (Kd.R_below HR.out hb2)
      have HM2 := Aside0.mk hM2
      have HR2 := Aside0.mk hR2
      clear hb2 hM2 hR2 hg2
      go_wp2_with fail
      have kb : (convert 27 9 (.slice A0 b.length c0)).run Try.prog w2.drew = .ok (.string (strOfNums b)) w2.drew := Kd.C_string Try.underlying27 Try.underlying5 Try.underlying9 (Kd.C_drew (Kd.C_below HR0.out HB2.out))
      refine wp_region_segs (by kernel_rfl) [(false, [0, 3, 4]), (true, [1]), (false, [2, 5, 6, 7, 9, 8, 10, 11, 12, 13, 14, 15, 16])] (by decide) (by kernel_rfl) ?_
      simp only [wpSegs, pickOps, List.getElem?_toArray, List.getElem?_cons_succ, List.getElem?_cons_zero, Bool.false_eq_true, false_implies, true_and, forall_const]
      go_wp2_with fail
      refine (Bytes_any w.heap.size g (fun k => k ≠ g) size _ es w2.drew (blk_drew HM1.out) (Kd.R_drew HR1.out) (fun _ hk => hk) (by omega) (HCH.out.fits HZ.out.1 HZ.out.2)).mono ?_
      rintro e w3 ⟨v3, rfl, ho, hb3⟩
      rw [HBE.out] at ho
      obtain ⟨A3, c3, rfl⟩ := Kd.R_slice ho
      have HX3 := Aside0.mk (ext_of_below hb3)
      have HB3 : Aside0 (Below w.heap.size w w3) := ⟨below_then (below_drew1 HB2.out) HB2.out.size hb3⟩
      have HM3 := Aside0.mk (blk_below (blk_drew HM1.out) hb3)
      have HR3 := Aside0.mk (Kd.R_below (Kd.R_drew HR1.out) hb3)
      have HN3 := Aside0.mk (blk_below (blk_drew HM2.out) hb3)
      have HQ3 := Aside0.mk (Kd.R_below (Kd.R_drew HR2.out) hb3)
      have kc : (convert 27 9 (.slice A3 b.length c3)).run Try.prog w3 = .ok (.string (strOfNums b)) w3 := Kd.C_string Try.underlying27 Try.underlying5 Try.underlying9 (Kd.R_reads' ho).2.2
      have hbb : ((strOfNums b).toList == (strOfNums b).toList) = true := by simp
      clear ho hb3 kb
      go_wp2_with fail
      refine ⟨HX3.out, ?_⟩
      go_wp2_with fail
      refine (Entries_any w.heap.size g (fun k => k ≠ g) size _ es w3 HM3.out HR3.out (fun _ hk => hk) (by omega) (fun x hx => (HCH.out.mem es 1 x hx).2.2.2.2)).mono ?_
      rintro e w4 ⟨v4, rfl, ho, hb4⟩
      rw [entR_toR es 1 HCH.out] at ho
      have HO4 := Aside0.mk ho
      have HB4 := Aside0.mk (below_step HB3.out hb4)
      have HN4 := Aside0.mk (blk_below HN3.out hb4)
      have HQ4 := Aside0.mk (Kd.R_below HQ3.out hb4)
      clear ho hb4 kc
      go_wp2_with fail
      have hfr := HCH.out.fitsR HZ.out.2
      refine (EntriesR_any w1.heap.size g2 (fun k => k ≠ g2) size _ (es.map toR) w4 HN4.out HQ4.out (by simp; omega) (fun x hx => by have := (hfr x hx).1; omega) (fun x hx => (hfr x hx).2.1)).mono ?_
      rintro e w5 ⟨v5, rfl, ho, hb5⟩
      have HO5 := Aside0.mk ho
      have HP5 := Aside0.mk (Kd.R_below HO4.out hb5)
      have HB5 := Aside0.mk (below_step HB4.out hb5)
      clear ho hb5 hfr
      obtain ⟨A4, c4, rfl, l4, C4⟩ := Kd.R_reads HP5.out
      obtain ⟨A5, c5, rfl, l5, C5⟩ := Kd.R_reads HO5.out
      have HC := Aside0.mk (And.intro (And.intro C4 l4) (And.intro C5 l5))
      clear C4 C5 l4 l5
      go_wp2_with fail
      refine (entries_any A4 A5 c4 c5 (entR 1 (es.map toR)) (entR 1 (es.map toR)) w5 HC.out.1.1 HC.out.1.2 HC.out.2.1 HC.out.2.2 (by rw [entR_length]; simp; omega) (by rw [entR_length]; simp; omega)).mono ?_
      rintro e w6 ⟨rfl, hb6⟩
      have hdt : decide (entR 1 (es.map toR) = entR 1 (es.map toR)) = true := by simp
      rw [hdt]
      have HB6 := Aside0.mk (below_step HB5.out hb6)
      clear hb6 hdt
      go_wp2_with fail
      refine (known_any _).mono ?_
      rintro e w7 ⟨rfl, hb⟩
      have HB7 := Aside0.mk (below_step HB6.out hb)
      clear hb
      go_wp2_with fail
      refine ⟨rfl, by kernel_rfl, ?_⟩
      go_wp2_with fail
      go_ret
      exact ⟨rfl, HB7.out⟩
end Go.Proofs.Ytdadhificeplmaa

/- THE LAW MemoOpens: for every input it returns true, and its arguments read afterwards as they read before. No condition. (The frame is the kit's printed row, turned to a walk of my own.) -/
set_option linter.unusedVariables false
namespace Go.Proofs.Ytdadhificeplmaa.memoOpens
open Go.ChangeShapes Go.WideShapes Go.ChangeAt Go.RowKit Go.Proofs.Ytdadhificeplmaa Go.Proofs.YtdadhificeplmaaW.PrintWords

theorem u8_in {x : Int} (h : (Lit.int .u8 x).wf = true) : 0 ≤ x ∧ x ≤ 255 := by
  simp [Lit.wf, IntKind.min, IntKind.max, IntKind.bits, IntKind.signed] at h
  omega
set_option maxRecDepth 100000 in
theorem lifted (os : Os) (started : os.Started) (H : Type) (enc : TypeId × Value → H) :
    ReturnsInHanded {} Try.checked os 4 .any (Rows.memoOpensSpec.pre6 enc Try.prog Try.f4 Rows.memoOpensRow.domain false) (Rows.memoOpensSpec.post enc Try.prog Try.f4 false true false false) := by
  refine returnsInHanded_of_change (C := Try.checked) own started (by kernel_rfl) Try.func4
    (ChangeSpec.witness6 (enc := enc) (C := Try.checked) false ⟨#[], #[.slice none 0 0], []⟩ 8 (by kernel_rfl) (by kernel_rfl) (by kernel_rfl) (by kernel_rfl)) ?_
  intro W base args ds gs before hval0 hW hcnd _
  have hval : ∀ (j : Nat) t v, Try.f4.params[j]? = some t → args[j]? = some v → Value.okWide Try.prog W .any base t v := hval0
  have hW' := hW
  obtain ⟨p, q, hA0, hV, rfl, hfz, hnd⟩ := hW
  have hA : DataW.TrodAll enc Try.prog W 0 (fun _ => true) true Try.f4.params.toList args.toList ds p := hA0
  rw [Try.params4] at hA hval
  obtain ⟨v0, vs0, d0, ds0, p0, q0, hargs, rfl, rfl, h0, r0⟩ := trodAll_cons hA
  obtain ⟨rfl, rfl, rfl⟩ := trodAll_nil r0
  obtain rfl : args = #[v0] := by cases args; simp_all
  obtain ⟨rfl, rfl⟩ := trodVars_none hV
  have k0 := h0
  have lt0 := lt_trod k0
  obtain ⟨a0, c0, l0, rfl, w0, _, z0, y0⟩ := came_arg (k := .u8) Try.underlying27 Try.underlying5 (by kernel_rfl) (hval 0 27 v0 rfl rfl) h0
  clear hA0 hval0
  refine (MemoOpens_any a0 c0 l0 W z0 w0 (fun x hx => u8_in (y0 x hx))).mono fun e W' ⟨he, bel⟩ => ?_
  subst he
  exact ⟨_, rfl, _, _, _, [], _, [], hW', trodAll_mk1 (shut_bool Try.underlying4 _), (trodAll_cons_mk (Below.trod laidOut (by kernel_rfl) (of_decide_eq_true (by kernel_rfl)) k0 bel lt0) trodAll_mk0), rfl, bel.frame _, fun h => by cases h⟩
theorem over : Rows.memoOpensRow.holds Try.pinned (OpenSpec.ofChange Rows.memoOpensSpec) :=
  OpenClaim.holds_of_wide 4 Try.f4 rfl rfl rfl rfl rfl rfl rfl ⟨rfl, rfl, rfl, rfl, rfl⟩ rfl rfl rfl rfl rfl (by kernel_rfl) Try.func4 (by kernel_rfl)
    (of_decide_eq_true (by kernel_rfl)) (by unfold Func.isWrapper; first | (rw [if_pos (by decide +kernel)]; kernel_rfl) | (rw [if_neg (by decide +kernel)]; exact ⟨rfl, rfl⟩))
    (fun os started H enc _ => lifted os started H enc)
end Go.Proofs.Ytdadhificeplmaa.memoOpens
namespace Go.Proofs.Ytdadhificeplmaa
theorem memoOpens_holds : Rows.MemoOpensSaid := memoOpens.over
#print axioms memoOpens_holds
end Go.Proofs.Ytdadhificeplmaa
