/- pack. -/
import Derived.Test.YtpbdlkbiiglkdaaG
set_option linter.unusedVariables false
set_option linter.unusedSimpArgs false
namespace Go.Proofs.Ytpbdlkbiiglkdaa
open Go.RowKit Go.Proofs.YtpbdlkbiiglkdaaW.PrintWords Go.Proofs.YtpbdlkbiiglkdaaW.PrintLast Go.Proofs.YtpbdlkbiiglkdaaW.PrintMore Go.Proofs.Cab

theorem meas_lt {n k : Nat} (h : k < n) (hn : n ≤ 4611686018427387904) : ((n : Int) - intOf (.int .i64 (wrap64 ((k : Int) + 1)))).toNat < ((n : Int) - intOf (.int .i64 (k : Int))).toNat := by
  rw [wrap_id (by omega) (by omega)]
  show ((n : Int) - ((k : Int) + 1)).toNat < ((n : Int) - (k : Int)).toNat
  omega
theorem own2_at {w : World} {n : Nat} {v : Value} {rs : List (Int × Int)} (h : Own2 w n v rs) (k : Nat) (hk : k < rs.length) :
    ∃ g cap, v = .slice (some ⟨g, 0, none⟩) rs.length cap ∧ g < w.heap.size ∧ w.cell? ⟨g, k * 2, none⟩ = some (.int .i64 rs[k].1) ∧ w.cell? ⟨g, k * 2 + 1, none⟩ = some (.int .i64 rs[k].2) := by
  obtain ⟨g, cap, rfl, _, hg, _⟩ := Kd.R_form h (by omega)
  obtain ⟨c, hcl, hM, hc, hf⟩ := Kd.R_elem h (0, 0) (k : Int) (by omega) (by omega)
  have hp : rs.getD (k : Int).toNat (0, 0) = rs[k] := by simp [List.getD_eq_getElem?_getD, List.getElem?_eq_getElem hk]
  rw [hp] at hM
  obtain ⟨c0, c1, rfl, h0, h1⟩ := hM
  have h0' : c0 = [.int .i64 rs[k].1] := h0
  have h1' : c1 = [.int .i64 rs[k].2] := h1
  subst h0' h1'
  have hsz : pk.sz = 2 := rfl
  have e0 := hc 0 _ rfl
  have e1 := hc 1 _ rfl
  simp only [hsz, Int.toNat_natCast, Nat.add_zero] at e0 e1
  exact ⟨g, cap, rfl, hg, e0, e1⟩
theorem Own2.below {w w1 : World} {n : Nat} {v : Value} {xs : List (Int × Int)} (h : Own2 w n v xs) (hb : Below w.heap.size w w1) : Own2 w1 n v xs := Kd.R_below h hb

/-- The bytes of a number. -/
def numB (n : Int) : List Int := if n < 128 then [n % 256] else [(wrap64 (128 + (Int.tmod n 128))) % 256, (wrap64 (Int.tdiv n 128)) % 256]
theorem numB_length (n : Int) : (numB n).length ≤ 2 := by unfold numB; split <;> simp
theorem number_f (l : List Int) (n : Int) (hl : l.length ≤ 1000000) : PAll.bits_number.f l n = some (l ++ numB n) := by
  unfold PAll.bits_number.f numB
  split
  · rw [if_pos (by omega)]
  · simp only [Option.bind_some, List.length_cons, List.length_nil]
    rw [if_pos (by omega)]
def OwnB (w : World) (n : Nat) (v : Value) (xs : List Int) : Prop := Kd.R (Kd.int .u8) 5 w n (fun _ => True) v xs
theorem OwnB.lower {w : World} {n m : Nat} {v : Value} {xs : List Int} (h : OwnB w n v xs) (hb : m ≤ n) : OwnB w m v xs := Kd.R_lower h hb
theorem OwnB.below {w w1 : World} {n : Nat} {v : Value} {xs : List Int} (h : OwnB w n v xs) (hb : Below w.heap.size w w1) : OwnB w1 n v xs := Kd.R_below h hb
theorem OwnB.slice {w : World} {n : Nat} {v : Value} {xs : List Int} (h : OwnB w n v xs) : ∃ A c, v = .slice A xs.length c ∧ xs.length ≤ c ∧ Kd.C (Kd.int .u8) w A xs.length xs := Kd.R_reads h
/-- number, beside a block B that it leaves as it is. -/
theorem number_any (B : Nat) (u : Value) (l : List Int) (n : Int) (w0 w : World) (hB : Below w0.heap.size w0 w) (hu : Kd.R (Kd.int .u8) 5 w w0.heap.size (fun k => k ≠ B) u l) (hBl : B < w.heap.size) (hl : l.length ≤ 1000000) :
    Calls Try.prog 72 #[u, .int .i64 n] w fun e w' => ∃ v : Value, e = .returned v ∧ Kd.R (Kd.int .u8) 5 w' w0.heap.size (fun k => k ≠ B) v (l ++ numB n) ∧ Below w0.heap.size w0 w' ∧ w'.heap[B]? = w.heap[B]? ∧ w.heap.size ≤ w'.heap.size := by
  refine (PAll.bits_number.calls (fun k => k ≠ B) u l n _ w0 w hB hu (number_f l n hl)).mono ?_
  rintro e w' ⟨v, rfl, ho, hb, hk⟩
  exact ⟨v, rfl, Kd.R_mono ho (fun k hk => by rcases hk with h | h; exact h; omega), hb, hk.2 B hBl (by simp), hk.1⟩

/-- The bytes of stretches, behind the last number. -/
def packG : List (Int × Int) → Int → List Int
  | [], _ => []
  | p :: rs, last => numB (p.1 - last - 1) ++ numB (p.2 - p.1) ++ packG rs p.2
theorem packG_length : ∀ (rs : List (Int × Int)) (last : Int), (packG rs last).length ≤ 4 * rs.length
  | [], last => by simp [packG]
  | p :: rs, last => by
    have := packG_length rs p.2
    have := numB_length (p.1 - last - 1)
    have := numB_length (p.2 - p.1)
    simp only [packG, List.length_append, List.length_cons]
    omega
def packF (l : List Int) : List Int := packG (rangesF l) 0
theorem foldl_addR_mem (B : Int) : ∀ (l : List Int) (out : List (Int × Int)), (∀ x ∈ l, -B ≤ x ∧ x ≤ B) → (∀ p ∈ out, (-B ≤ p.1 ∧ p.1 ≤ B) ∧ -B ≤ p.2 ∧ p.2 ≤ B) → ∀ p ∈ l.foldl addR out, (-B ≤ p.1 ∧ p.1 ≤ B) ∧ -B ≤ p.2 ∧ p.2 ≤ B
  | [], out, _, ho => ho
  | x :: l, out, hl, ho => by
    refine foldl_addR_mem B l (addR out x) (fun y hy => hl y (List.mem_cons_of_mem _ hy)) ?_
    have hx := hl x List.mem_cons_self
    intro p hp
    rcases List.eq_nil_or_concat out with he | ⟨rs, q, he⟩
    · subst he
      rw [addR_nil, List.mem_singleton] at hp
      subst hp
      exact ⟨hx, hx⟩
    · rw [List.concat_eq_append] at he
      subst he
      rw [addR_snoc] at hp
      have hq := ho q (by simp)
      split at hp
      · rcases List.mem_append.1 hp with h | h
        · exact ho p (List.mem_append_left _ h)
        · rw [List.mem_singleton.1 h]; exact ⟨hq.1, hx⟩
      · rcases List.mem_append.1 hp with h | h
        · exact ho p h
        · rw [List.mem_singleton.1 h]; exact ⟨hx, hx⟩

set_option maxHeartbeats 4000000 in
set_option maxRecDepth 100000 in
theorem pack_any (A0 : Option Addr) (c0 : Nat) (l0 : List Int) (w : World) (hr0 : Kd.C (Kd.int .i64) w A0 l0.length l0) (hc0 : l0.length ≤ c0) (hn : l0.length ≤ 3000) (hx : ∀ x ∈ l0, -10000 ≤ x ∧ x ≤ 10000) :
    Calls Try.prog 67 #[.slice A0 l0.length c0] w fun e w' => ∃ v : Value, e = .returned v ∧ OwnB w' w.heap.size v (packF l0) ∧ Below w.heap.size w w' := by
  have HR0 := Aside0.mk hr0
  have HC0 := Aside0.mk hc0
  clear hr0 hc0
  have HX := Aside0.mk hx
  clear hx
  have hu38 := Try.underlying38
  go_enter Try.func67, Try.ntmps67
  go_wp2_with fail
  refine (ranges_any A0 c0 l0 _ HR0.out HC0.out hn HX.out).mono ?_
  rintro e w2 ⟨v, rfl, ho, hb⟩
  have HO := Aside0.mk ho
  have HB := Aside0.mk hb
  have HRL : Aside0 ((rangesF l0).length ≤ 3000) := ⟨by have := foldl_addR_length l0 []; simp at this; unfold rangesF; omega⟩
  have HRM : Aside0 (∀ p ∈ rangesF l0, (-10000 ≤ p.1 ∧ p.1 ≤ 10000) ∧ -10000 ≤ p.2 ∧ p.2 ≤ 10000) := ⟨foldl_addR_mem 10000 l0 [] HX.out (by simp)⟩
  obtain ⟨A2, c2, rfl⟩ := Kd.R_slice ho
  clear ho hb
  have HPK : Aside0 (packG (rangesF l0) 0 = packF l0) := ⟨rfl⟩
  generalize rangesF l0 = rs at *
  go_wp2_with fail
  go_loopw [3, 4, 10] (fun v3 v4 v10 wr => ∃ (k : Nat) (last : Int) (out : List Int), v10 = .int .i64 (k : Int) ∧ v4 = .int .i64 last ∧ -10000 ≤ last ∧ last ≤ 10000 ∧ k ≤ rs.length ∧ Aside0 (out ++ packG (rs.drop k) last = packF l0) ∧ Aside0 (out.length ≤ 4 * k) ∧ Aside0 (OwnB wr w2.heap.size v3 out) ∧ Aside0 (Below w2.heap.size w2 wr)) (fun v3 v4 v10 wr => ((rs.length : Int) - intOf v10).toNat)
  case atStart => exact ⟨0, 0, [], rfl, rfl, by omega, by omega, by omega, ⟨HPK.out⟩, ⟨by simp⟩, ⟨Kd.R_nil _ _ _ _ _⟩, ⟨Below.refl _ _⟩⟩
  case round =>
    obtain ⟨k, last, out, rfl, rfl, hl1, hl2, hk, HE, HL, HO3, HBr⟩ := hrel
    by_cases hlt : k < rs.length
    · obtain ⟨g, cap, hv, hg, e0, e1⟩ := own2_at HO.out k hlt
      injection hv with hv1 hv2 hv3
      subst hv1 hv3
      have e0 := (HBr.out.cell hg).trans e0
      have e1 := (HBr.out.cell hg).trans e1
      have hpm := HRM.out rs[k] (List.getElem_mem hlt)
      have HD : Aside0 (rs.drop k = rs[k] :: rs.drop (k + 1)) := ⟨List.drop_eq_getElem_cons hlt⟩
      obtain ⟨p, hp⟩ : ∃ p, rs[k] = p := ⟨_, rfl⟩
      rw [hp] at e0 e1 hpm HD
      clear hp hg
      obtain ⟨⟨m1, m2⟩, m3, m4⟩ := hpm
      go_wp2_with fail
      refine (number_any wr.heap.size _ out _ w2 _ ?_ ?_ ?_ (by have := HL.out; have := HRL.out; omega)).mono ?_
      · exact HBr.out.alloc HBr.out.size _
      · exact Kd.R_mono (Kd.R_alloc (Kd.R_bound HO3.out) _) (fun k hk => by have := hk.2.2.1; omega)
      · simp
      rintro e w4 ⟨v4, rfl, ho, hb, hB, hsz⟩
      have hblk : w4.heap[wr.heap.size]? = some (.cells #[.int .i64 p.1, .int .i64 p.2] 38 (0, 0)) := hB.trans (blk_new _ _)
      have BK := Aside0.mk hblk
      have hc0 : w4.cell? ⟨wr.heap.size, 0, none⟩ = some (.int .i64 p.1) := (blk_cell hblk 0).trans rfl
      have hc1 : w4.cell? ⟨wr.heap.size, 1, none⟩ = some (.int .i64 p.2) := (blk_cell hblk 1).trans rfl
      have HO4 := Aside0.mk ho
      have HB4 := Aside0.mk hb
      clear ho hb hB hsz hblk e0 e1
      go_wp2_with fail
      refine (number_any wr.heap.size _ _ _ w2 _ HB4.out HO4.out (blk_lt BK.out) (by rw [List.length_append]; have := numB_length (p.1 - last - 1); have := HL.out; have := HRL.out; omega)).mono ?_
      rintro e w5 ⟨v5, rfl, ho, hb, hB, hsz⟩
      have hblk : w5.heap[wr.heap.size]? = some (.cells #[.int .i64 p.1, .int .i64 p.2] 38 (0, 0)) := hB.trans BK.out
      have hc1 : w5.cell? ⟨wr.heap.size, 1, none⟩ = some (.int .i64 p.2) := (blk_cell hblk 1).trans rfl
      have HO5 := Aside0.mk (Kd.R_mono (ok' := fun _ => True) ho (fun _ _ => trivial))
      have HB5 := Aside0.mk hb
      clear ho hb hB hsz hblk
      go_wp2_with fail
      have hrl := HRL.out
      go_roundw
      case rel => exact ⟨k + 1, p.2, out ++ numB (p.1 - last - 1) ++ numB (p.2 - p.1), by rw [wrap_id (by omega) (by omega), show (k : Int) + 1 = ((k + 1 : Nat) : Int) by omega], rfl, by omega, by omega, by omega, ⟨by rw [← HE.out, HD.out]; simp [packG]⟩, ⟨by
        have := numB_length (p.1 - last - 1)
        have := numB_length (p.2 - p.1)
        have := HL.out
        simp only [List.length_append]
        omega⟩, ⟨HO5.out⟩, HB5⟩
      case measure => exact meas_lt hlt (by omega)
    · obtain rfl : k = rs.length := by omega
      go_wp2_with fail
      go_ret
      refine ⟨_, rfl, ?_, below_step HB.out HBr.out⟩
      have h := HE.out
      rw [List.drop_length] at h
      simp only [packG, List.append_nil] at h
      rw [← h]
      exact OwnB.lower HO3.out HB.out.size

def packL (l : List Int) : List Int := if setB 300 l = true then packF l else []
set_option maxHeartbeats 4000000 in
set_option maxRecDepth 100000 in
theorem Pack_any (A0 : Option Addr) (c0 : Nat) (l0 : List Int) (w : World) (hr0 : Kd.C (Kd.int .i64) w A0 l0.length l0) (hc0 : l0.length ≤ c0) :
    Calls Try.prog 45 #[.slice A0 l0.length c0] w fun e w' => ∃ v : Value, e = .returned (.tuple #[v, .int .i64 (knownE l0)]) ∧ OwnB w' w.heap.size v (packL l0) ∧ Below w.heap.size w w' := by
  have HR0 := Aside0.mk hr0
  have HC0 := Aside0.mk hc0
  clear hr0 hc0
  go_enter Try.func45, Try.ntmps45
  cases hs0 : setB 300 l0
  · have HS := Aside0.mk hs0
    clear hs0
    go_wp2_with fail
    refine (isSet_any A0 c0 l0 300 _ HR0.out HC0.out).mono ?_
    rintro e w1 ⟨rfl, ⟨nd, rfl⟩⟩
    simp only [HS.out]
    go_wp2_with fail
    go_ret2
    exact ⟨.slice none 0 0, by rw [knownE, if_neg (by simp [HS.out])]; rfl, by rw [packL, if_neg (by simp [HS.out])]; exact Kd.R_nil _ _ _ _ _, (by repeat (first | exact Below.refl _ _ | apply pw_below_drewN | apply below_drew1 | apply below_alloc))⟩
  · have HS := Aside0.mk hs0
    clear hs0
    go_wp2_with fail
    refine (isSet_any A0 c0 l0 300 _ HR0.out HC0.out).mono ?_
    rintro e w1 ⟨rfl, ⟨nd, rfl⟩⟩
    simp only [HS.out]
    go_wp2_with fail
    refine (pack_any A0 c0 l0 _ (by repeat (first | exact HR0.out | (with_reducible refine Kd.C_alloc ?_ _) | (with_reducible refine Kd.C_drewN ?_ _) | (with_reducible refine Kd.C_drew ?_))) HC0.out (by have := setB_length HS.out; omega) (fun x hx => by have := setFrom_mem HS.out x hx; omega)).mono ?_
    rintro e w2 ⟨v, rfl, ho, hb⟩
    have HO := Aside0.mk ho
    have HB := Aside0.mk (below_step (pw_below_drewN (Below.refl w.heap.size w) nd) hb)
    clear ho hb
    go_wp2_with fail
    go_ret2
    exact ⟨v, by rw [knownE, if_pos HS.out]; rfl, by rw [packL, if_pos HS.out]; exact HO.out, HB.out⟩
end Go.Proofs.Ytpbdlkbiiglkdaa
