/- Shift. -/
import Derived.Test.YtpbdlkbiiglkdaaE
set_option linter.unusedVariables false
set_option linter.unusedSimpArgs false
namespace Go.Proofs.Ytpbdlkbiiglkdaa
open Go.RowKit Go.Proofs.YtpbdlkbiiglkdaaW.PrintWords Go.Proofs.YtpbdlkbiiglkdaaW.PrintLast Go.Proofs.YtpbdlkbiiglkdaaW.PrintMore Go.Proofs.Cab

set_option maxHeartbeats 4000000 in
set_option maxRecDepth 100000 in
theorem mover_any (A0 : Option Addr) (c0 : Nat) (l0 : List Int) (w : World) :
    Calls Try.prog 48 #[.slice A0 l0.length c0] w fun e w' => e = .returned (.func (.func 70) #[] #[.pointer (some ⟨w.heap.size, 0, none⟩)]) ∧ w.alloc (.cells #[.slice A0 l0.length c0] 22) = w' := by
  go_enter Try.func48, Try.ntmps48
  go_wp2
  go_ret
  exact ⟨rfl, rfl⟩

def shiftE (l g : List Int) : Int := if setB 300 l = true ∧ setB 300 g = true then 0 else 1
def shiftF (l g : List Int) : List Int := (lessF l g).map fun x => x - (below g x : Int)
def shiftL (l g : List Int) : List Int := if setB 300 l = true ∧ setB 300 g = true then shiftF l g else []
theorem setFrom_pairwise {n : Int} : ∀ {l : List Int} {p : Int}, setFrom n p l = true → l.Pairwise (· < ·)
  | [], p, h => List.Pairwise.nil
  | y :: l, p, h => by
    simp only [setFrom, Bool.and_eq_true, decide_eq_true_eq] at h
    exact List.pairwise_cons.2 ⟨fun x hx => (setFrom_mem h.2.2 x hx).1, setFrom_pairwise h.2.2⟩
theorem joinF_mem (f : Bool → Bool → Bool) : ∀ (n : Nat) (xs ys : List Int), xs.length + ys.length = n → ∀ z ∈ joinF f xs ys, z ∈ xs ∨ z ∈ ys := by
  intro n
  induction n using Nat.strongRecOn with
  | _ n ih =>
    intro xs ys hn z hz
    have one : ∀ (b : Bool) (x : Int), z ∈ (if b then [x] else []) → z = x := fun b x h => by cases b <;> simp at h; exact h
    cases xs with
    | nil =>
      cases ys with
      | nil => simp [joinF] at hz
      | cons y ys =>
        simp only [joinF, List.mem_append] at hz
        rcases hz with hz | hz
        · exact .inr (by rw [one _ _ hz]; simp)
        · rcases ih (n - 1) (by simp at hn; omega) [] ys (by simp at hn ⊢; omega) z hz with h | h
          · cases h
          · exact .inr (List.mem_cons_of_mem _ h)
    | cons x xs =>
      cases ys with
      | nil =>
        simp only [joinF, List.mem_append] at hz
        rcases hz with hz | hz
        · exact .inl (by rw [one _ _ hz]; simp)
        · rcases ih (n - 1) (by simp at hn; omega) xs [] (by simp at hn ⊢; omega) z hz with h | h
          · exact .inl (List.mem_cons_of_mem _ h)
          · cases h
      | cons y ys =>
        simp only [joinF] at hz
        split at hz
        · rcases List.mem_append.1 hz with hz | hz
          · exact .inl (by rw [one _ _ hz]; simp)
          · rcases ih (n - 1) (by simp at hn; omega) xs (y :: ys) (by simp at hn ⊢; omega) z hz with h | h
            · exact .inl (List.mem_cons_of_mem _ h)
            · exact .inr h
        · split at hz
          · rcases List.mem_append.1 hz with hz | hz
            · exact .inr (by rw [one _ _ hz]; simp)
            · rcases ih (n - 1) (by simp at hn; omega) (x :: xs) ys (by simp at hn ⊢; omega) z hz with h | h
              · exact .inl h
              · exact .inr (List.mem_cons_of_mem _ h)
          · rcases List.mem_append.1 hz with hz | hz
            · exact .inl (by rw [one _ _ hz]; simp)
            · rcases ih (n - 2) (by simp at hn; omega) xs ys (by simp at hn ⊢; omega) z hz with h | h
              · exact .inl (List.mem_cons_of_mem _ h)
              · exact .inr (List.mem_cons_of_mem _ h)
theorem lessF_range {l g : List Int} (hl : setB 300 l = true) (hg : setB 300 g = true) : ∀ z ∈ lessF l g, -10000 ≤ z ∧ z ≤ 10000 := by
  intro z hz
  rcases joinF_mem _ _ l g rfl z hz with h | h
  · have := setFrom_mem hl z h; omega
  · have := setFrom_mem hg z h; omega

set_option maxHeartbeats 4000000 in
set_option maxRecDepth 100000 in
theorem Shift_any (A0 : Option Addr) (c0 : Nat) (l0 : List Int) (A1 : Option Addr) (c1 : Nat) (l1 : List Int) (w : World)
    (hr0 : Kd.C (Kd.int .i64) w A0 l0.length l0) (hc0 : l0.length ≤ c0) (hr1 : Kd.C (Kd.int .i64) w A1 l1.length l1) (hc1 : l1.length ≤ c1) :
    Calls Try.prog 13 #[.slice A0 l0.length c0, .slice A1 l1.length c1] w fun e w' => ∃ v : Value, e = .returned (.tuple #[v, .int .i64 (shiftE l0 l1)]) ∧ Own w' w.heap.size v (shiftL l0 l1) ∧ Below w.heap.size w w' := by
  have HR0 := Aside0.mk hr0
  have HC0 := Aside0.mk hc0
  have HR1 := Aside0.mk hr1
  have HC1 := Aside0.mk hc1
  clear hr0 hc0 hr1 hc1
  go_enter Try.func13, Try.ntmps13
  cases hs0 : setB 300 l0
  · have HS := Aside0.mk hs0
    clear hs0
    go_wp2_with fail
    refine (isSet_any A0 c0 l0 300 _ (by repeat (first | exact HR0.out | (with_reducible refine Kd.C_alloc ?_ _) | (with_reducible refine Kd.C_drewN ?_ _) | (with_reducible refine Kd.C_drew ?_))) HC0.out).mono ?_
    rintro e w1 ⟨rfl, ⟨nd, rfl⟩⟩
    simp only [HS.out]
    go_wp2_with fail
    go_ret2
    exact ⟨.slice none 0 0, by rw [shiftE, if_neg (by simp [HS.out])]; rfl, by rw [shiftL, if_neg (by simp [HS.out])]; exact Own.nil _ _, (by repeat (first | exact Below.refl _ _ | apply pw_below_drewN | apply below_drew1 | apply below_alloc))⟩
  · cases hs1 : setB 300 l1
    · have HS := Aside0.mk hs0
      have HT := Aside0.mk hs1
      clear hs0 hs1
      go_wp2_with fail
      refine (isSet_any A0 c0 l0 300 _ (by repeat (first | exact HR0.out | (with_reducible refine Kd.C_alloc ?_ _) | (with_reducible refine Kd.C_drewN ?_ _) | (with_reducible refine Kd.C_drew ?_))) HC0.out).mono ?_
      rintro e w1 ⟨rfl, ⟨nd, rfl⟩⟩
      simp only [HS.out]
      go_wp2_with fail
      refine (isSet_any A1 c1 l1 300 _ (by repeat (first | exact HR1.out | (with_reducible refine Kd.C_alloc ?_ _) | (with_reducible refine Kd.C_drewN ?_ _) | (with_reducible refine Kd.C_drew ?_))) HC1.out).mono ?_
      rintro e w1 ⟨rfl, ⟨nd2, rfl⟩⟩
      simp only [HT.out]
      go_wp2_with fail
      go_ret2
      exact ⟨.slice none 0 0, by rw [shiftE, if_neg (by simp [HT.out])]; rfl, by rw [shiftL, if_neg (by simp [HT.out])]; exact Own.nil _ _, (by repeat (first | exact Below.refl _ _ | apply pw_below_drewN | apply below_drew1 | apply below_alloc))⟩
    · have HS := Aside0.mk hs0
      have HT := Aside0.mk hs1
      have HN := Aside0.mk (And.intro (setB_length hs0) (setB_length hs1))
      clear hs0 hs1
      go_wp2_with fail
      refine (isSet_any A0 c0 l0 300 _ (by repeat (first | exact HR0.out | (with_reducible refine Kd.C_alloc ?_ _) | (with_reducible refine Kd.C_drewN ?_ _) | (with_reducible refine Kd.C_drew ?_))) HC0.out).mono ?_
      rintro e w1 ⟨rfl, ⟨nd, rfl⟩⟩
      simp only [HS.out]
      go_wp2_with fail
      refine (isSet_any A1 c1 l1 300 _ (by repeat (first | exact HR1.out | (with_reducible refine Kd.C_alloc ?_ _) | (with_reducible refine Kd.C_drewN ?_ _) | (with_reducible refine Kd.C_drew ?_))) HC1.out).mono ?_
      rintro e w1 ⟨rfl, ⟨nd2, rfl⟩⟩
      simp only [HT.out]
      go_wp2_with fail
      refine (mover_any A1 c1 l1 _).mono ?_
      rintro e w1 ⟨rfl, rfl⟩
      go_wp2_with fail
      refine (joined_calls 50 (fun a b => a && !b) enters50 inFirst_any A0 c0 l0 A1 c1 l1 _ (by repeat (first | exact HR0.out | (with_reducible refine Kd.C_alloc ?_ _) | (with_reducible refine Kd.C_drewN ?_ _) | (with_reducible refine Kd.C_drew ?_))) HC0.out (by repeat (first | exact HR1.out | (with_reducible refine Kd.C_alloc ?_ _) | (with_reducible refine Kd.C_drewN ?_ _) | (with_reducible refine Kd.C_drew ?_))) HC1.out (by have := HN.out; omega) (by have := HN.out; omega)).mono ?_
      rintro e w2 ⟨v, rfl, ho, hb⟩
      have hl : joinF (fun a b => a && !b) l0 l1 = lessF l0 l1 := rfl
      rw [hl] at ho
      clear hl
      have B2 : Aside0 (w2.heap[w.heap.size]? = some (.cells #[.slice A1 l1.length c1] 22 (0, 0))) := ⟨by
        have := blk_below (blk_new (w.drewN (nd + nd2)) (.cells #[.slice A1 l1.length c1] 22)) hb
        simpa using this⟩
      have HB : Aside0 (Below w.heap.size w w2) := ⟨below_step (by repeat (first | exact Below.refl _ _ | apply pw_below_drewN | apply below_drew1 | apply below_alloc)) hb⟩
      have HO : Aside0 (Own w2 w.heap.size v (lessF l0 l1)) := ⟨Own.lower ho (by simp)⟩
      obtain ⟨A2, c2, rfl, hq2, hk2⟩ := HO.out.slice
      have HK := Aside0.mk hk2
      have hlen : (lessF l0 l1).length ≤ 600 := by
        have := joinF_length (fun a b => a && !b) _ l0 l1 rfl
        have := HN.out
        show (joinF (fun a b => a && !b) l0 l1).length ≤ 600
        omega
      clear ho hb hq2 hk2
      generalize hLE : lessF l0 l1 = L at *
      have HLE := Aside0.mk hLE
      clear hLE
      have HRG : Aside0 (∀ z ∈ L, -10000 ≤ z ∧ z ≤ 10000) := ⟨by rw [← HLE.out]; exact lessF_range HS.out HT.out⟩
      go_wp2_with fail
      go_loopw [7, 24] (fun v7 v24 wr => ∃ k : Nat, v24 = .int .i64 (k : Int) ∧ k ≤ L.length ∧ Aside0 (Own wr w2.heap.size v7 ((L.take k).map fun x => x - (below l1 x : Int))) ∧ Aside0 (Below w2.heap.size w2 wr)) (fun v7 v24 wr => ((L.length : Int) - intOf v24).toNat)
      case atStart => exact ⟨0, rfl, by omega, ⟨by simpa using Own.nil _ _⟩, ⟨Below.refl _ _⟩⟩
      case round =>
        obtain ⟨k, rfl, hk, HO7, HB7⟩ := hrel
        by_cases hlt : k < L.length
        · obtain ⟨ad, rfl, hcell⟩ := Kd.at_int HK.out (k : Int) (by omega) (by omega)
          rw [rd_at L k hlt] at hcell
          have hcell : wr.cell? (ad.add k) = some (.int .i64 L[k]) := by
            have := (HB7.out.cell (World.block_lt_of_cell? w2 _ hcell)).trans hcell
            simpa using this
          have hbox : wr.cell? ⟨w.heap.size, 0, none⟩ = some (.slice A1 l1.length c1) := (blk_cell (blk_below B2.out HB7.out) 0).trans rfl
          have HX := Aside0.mk (HRG.out L[k] (List.getElem_mem hlt))
          have HTK : Aside0 (L.take (k + 1) = L.take k ++ [L[k]]) := ⟨List.take_succ_eq_append_getElem hlt⟩
          obtain ⟨x, hxe⟩ : ∃ x, L[k] = x := ⟨_, rfl⟩
          rw [hxe] at hcell HX HTK
          clear hxe
          go_wp2_with fail
          refine (moved_any w.heap.size A1 c1 l1 x _ hbox (Kd.C_below HR1.out (below_step HB.out HB7.out)) HC1.out (by have := HN.out; omega) (setFrom_pairwise HT.out) HX.out).mono ?_
          rintro e w' ⟨rfl, rfl⟩
          clear hbox hcell
          go_wp2_with (at_builtin; refine app1 (w0 := w2) w2.heap.size rfl _ _ rfl u7 ((L.take k).map fun x => x - (below l1 x : Int)) (x - (below l1 x : Int)) rfl rfl HO7.out HB7.out HB7.out.size (by rw [List.length_map, List.length_take]; omega) ?_; intro v1 w1 ho hb; have HO1 := Aside0.mk ho; have HB1 := Aside0.mk hb; clear ho hb)
          go_roundw
          case rel => exact ⟨k + 1, by go_num, by omega, ⟨by rw [HTK.out, List.map_append]; exact HO1.out⟩, HB1⟩
          case measure => simp [intOf]; omega
        · obtain rfl : k = L.length := by omega
          go_wp2_with fail
          go_ret2
          refine ⟨_, by rw [shiftE, if_pos ⟨HS.out, HT.out⟩]; rfl, ?_, below_step HB.out HB7.out⟩
          rw [shiftL, if_pos ⟨HS.out, HT.out⟩, shiftF, HLE.out]
          have := HO7.out
          rw [List.take_length] at this
          exact Own.lower this HB.out.size
end Go.Proofs.Ytpbdlkbiiglkdaa
