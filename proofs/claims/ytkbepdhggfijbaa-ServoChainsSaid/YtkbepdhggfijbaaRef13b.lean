/- The reference of the layer servo: Time, When. -/
import Derived.Test.YtkbepdhggfijbaaRef13
namespace Go.Proofs.Ytkbepdhggfijbaa
open Go.RowKit Go.Shelf

set_option maxHeartbeats 400000 in
theorem rtime_any (L M p l : Int) (w : World) :
    Calls Try.prog 14 #[.agg #[.int .i64 L, .int .i64 M, .int .i64 p], .int .i64 l] w fun e w' => e = .returned (.tuple #[.int .i64 (tmV L M p l), .int .i64 (tmE L M p l)]) ∧ Below w.heap.size w w' := by
  cases h : okS L M p
  · have HL := Lib.hid (tm_bad (l := l) h)
    have HK := Lib.hid (rright_no h)
    clear h
    go_enter Try.func14, Try.ntmps14
    go_wp2_with (go_at_call 16; refine (HK.out _).mono ?_; rintro e w' ⟨rfl, hb⟩)
    go_ret2
    exact ⟨ret_int2 HL.out.1.symm HL.out.2.symm, ((Below.refl _ _).alloc (Nat.le_refl _) _).trans (hb.mono (by simp <;> omega))⟩
  · have HK := Lib.hid (rright_ok h)
    cases h2 : stamp l
    · have HL := Lib.hid (tm_out h h2)
      have HH := Lib.hid fun w => rstamp_any l w
      rw [h2] at HH
      clear h h2
      go_enter Try.func14, Try.ntmps14
      go_wp2_with (first
        | (go_at_call 16; refine (HK.out _).mono ?_; rintro e w' ⟨rfl, hb⟩)
        | (go_at_call 28; refine (HH.out _).mono ?_; rintro e w2 ⟨rfl, rfl⟩))
      go_ret2
      exact ⟨ret_int2 HL.out.1.symm HL.out.2.symm, ((Below.refl _ _).alloc (Nat.le_refl _) _).trans (hb.mono (by simp <;> omega))⟩
    · have HL := Lib.hid (tm_ok h h2)
      have HH := Lib.hid fun w => rstamp_any l w
      rw [h2] at HH
      rw [stamp_iff] at h2
      have HS := Lib.hid fun w => rat_any L M p l w h h2.1 h2.2
      clear h h2
      go_enter Try.func14, Try.ntmps14
      go_wp2_with fail
      refine (HK.out _).mono ?_
      rintro e w1 ⟨rfl, hb1⟩
      have k1 : w1.cell? ⟨w.heap.size, 0, none⟩ = some (.int .i64 L) := (hb1.cell (p := ⟨w.heap.size, 0, none⟩) (by simp)).trans (by go_simp)
      have k2 : w1.cell? ⟨w.heap.size, 1, none⟩ = some (.int .i64 M) := (hb1.cell (p := ⟨w.heap.size, 1, none⟩) (by simp)).trans (by go_simp)
      have k3 : w1.cell? ⟨w.heap.size, 2, none⟩ = some (.int .i64 p) := (hb1.cell (p := ⟨w.heap.size, 2, none⟩) (by simp)).trans (by go_simp)
      have H1 : Below w.heap.size w w1 := ((Below.refl _ _).alloc (Nat.le_refl _) _).trans (hb1.mono (by simp <;> omega))
      clear hb1
      go_wp2_with fail
      refine (HH.out _).mono ?_
      rintro e w2 ⟨rfl, rfl⟩
      go_wp2_with fail
      refine (HS.out _).mono ?_
      rintro e w3 ⟨rfl, hb3⟩
      go_wp2
      go_ret2
      exact ⟨ret_int2 HL.out.1.symm HL.out.2.symm, H1.trans (hb3.mono H1.size)⟩

set_option maxHeartbeats 1000000 in
theorem rwhen_any (L M p m : Int) (k : Nat) (w : World) (hk : okS L M p = true → FirstS L M p m k) :
    Calls Try.prog 18 #[.agg #[.int .i64 L, .int .i64 M, .int .i64 p], .int .i64 m] w fun e w' => e = .returned (.tuple #[.int .i64 (whV L M p k), .int .i64 (whE L M p k)]) ∧ Below w.heap.size w w' := by
  cases h : okS L M p
  · have HL := Lib.hid (wh_bad (k := k) h)
    have HR := Lib.hid (rright_no h)
    clear h hk
    go_enter Try.func18, Try.ntmps18
    go_wp2_with (go_at_call 16; refine (HR.out _).mono ?_; rintro e w' ⟨rfl, hb⟩)
    go_ret2
    exact ⟨ret_int2 HL.out.1.symm HL.out.2.symm, ((Below.refl _ _).alloc (Nat.le_refl _) _).trans (hb.mono (by simp <;> omega))⟩
  · have HF := Lib.hid (hk h)
    have HR := Lib.hid (rright_ok h)
    have HA := Lib.hid fun t h0 h1 w => rat_any L M p t w h h0 h1
    have hkn := HF.out.1
    by_cases h2 : k = 8796093022209
    · have HL := Lib.hid (wh_none h h2)
      have hlt : atS L M p 4398046511104 < m := by
        have := HF.out.at (l := 4398046511104) (by omega) (by omega)
        omega
      clear hk h h2 hkn
      go_enter Try.func18, Try.ntmps18
      go_wp2_with (first
        | (go_at_call 16; refine (HR.out _).mono ?_; rintro e w' ⟨rfl, hb⟩; obtain ⟨hcl, hfr⟩ := bcell hb)
        | (go_at_call 29; refine (HA.out _ (by omega) (by omega) _).mono ?_; rintro e w2 ⟨rfl, hb2⟩))
      go_ret2
      exact ⟨ret_int2 HL.out.1.symm HL.out.2.symm, (((Below.refl _ _).alloc (Nat.le_refl _) _).trans (hb.mono (by simp <;> omega))).trans (hb2.mono (by have := hb.size; simp at this; omega))⟩
    · have HL := Lib.hid (wh_ok h h2)
      have hlt : ¬ atS L M p 4398046511104 < m := by
        have := HF.out.at (l := 4398046511104) (by omega) (by omega)
        omega
      clear hk h
      go_enter Try.func18, Try.ntmps18
      go_wp2_with (first
        | (go_at_call 16; refine (HR.out _).mono ?_; rintro e w' ⟨rfl, hb⟩; obtain ⟨hcl, hfr⟩ := bcell hb)
        | (go_at_call 29; refine (HA.out _ (by omega) (by omega) _).mono ?_; rintro e w2 ⟨rfl, hb2⟩))
      have hz : w.heap.size < w'.heap.size := by have := hb.size; simp at this; omega
      have hz2 : w.heap.size < w2.heap.size := Nat.lt_of_lt_of_le hz hb2.size
      have k1 : w2.cell? ⟨w.heap.size, 0, none⟩ = some (.int .i64 L) := (hb2.cell (p := ⟨w.heap.size, 0, none⟩) hz).trans ((hcl _ 0 (by simp <;> omega)).trans (by go_simp))
      have k2 : w2.cell? ⟨w.heap.size, 1, none⟩ = some (.int .i64 M) := (hb2.cell (p := ⟨w.heap.size, 1, none⟩) hz).trans ((hcl _ 1 (by simp <;> omega)).trans (by go_simp))
      have k3 : w2.cell? ⟨w.heap.size, 2, none⟩ = some (.int .i64 p) := (hb2.cell (p := ⟨w.heap.size, 2, none⟩) hz).trans ((hcl _ 2 (by simp <;> omega)).trans (by go_simp))
      have HW : Below w.heap.size w w2 := (((Below.refl _ _).alloc (Nat.le_refl _) _).trans (hb.mono (by simp <;> omega))).trans (hb2.mono (by omega))
      clear hcl hfr hb hb2 hz hlt HR
      go_loopw [6, 7] (fun a b wr => ∃ lo hi : Int, a = .int .i64 lo ∧ b = .int .i64 hi ∧ -4398046511105 ≤ lo ∧ lo < (k : Int) - 4398046511104 ∧ (k : Int) - 4398046511104 ≤ hi ∧ hi ≤ 4398046511104 ∧ Below w2.heap.size w2 wr) (fun a b _ => (intOf b - intOf a).toNat)
      case atStart => exact ⟨-4398046511105, 4398046511104, rfl, rfl, by omega, by omega, by omega, by omega, Below.refl _ _⟩
      case round =>
        obtain ⟨lo, hi, rfl, rfl, g1, g2, g3, g4, hB⟩ := hrel
        have j1 := (hB.cell (p := ⟨w.heap.size, 0, none⟩) hz2).trans k1
        have j2 := (hB.cell (p := ⟨w.heap.size, 1, none⟩) hz2).trans k2
        have j3 := (hB.cell (p := ⟨w.heap.size, 2, none⟩) hz2).trans k3
        by_cases hgo : 1 < hi - lo
        · have hAT := HF.out.at (l := lo + (hi - lo) / 2) (by omega) (by omega)
          have HAm := Lib.hid fun w => HA.out (lo + (hi - lo) / 2) (by omega) (by omega) w
          generalize atS L M p (lo + (hi - lo) / 2) = am at hAT HAm
          by_cases hm : (k : Int) - 4398046511104 ≤ lo + (hi - lo) / 2
          · have hm' : m ≤ am := hAT.2 hm
            clear hAT
            go_wp2_with (go_at_call 29; refine (HAm.out _).mono ?_; rintro e w3 ⟨rfl, hb3⟩)
            go_roundw
            case rel => exact ⟨lo, lo + (hi - lo) / 2, rfl, rfl, by omega, by omega, by omega, by omega, hB.trans (hb3.mono hB.size)⟩
            case measure => simp [intOf]; omega
          · have hm' : ¬ m ≤ am := fun q => hm (hAT.1 q)
            clear hAT
            go_wp2_with (go_at_call 29; refine (HAm.out _).mono ?_; rintro e w3 ⟨rfl, hb3⟩)
            go_roundw
            case rel => exact ⟨lo + (hi - lo) / 2, hi, rfl, rfl, by omega, by omega, by omega, by omega, hB.trans (hb3.mono hB.size)⟩
            case measure => simp [intOf]; omega
        · have HE : Hid (hi = (k : Int) - 4398046511104) := Lib.hid (by omega)
          go_wp2
          go_ret2
          exact ⟨ret_int2 (HE.out.trans HL.out.1.symm) HL.out.2.symm, HW.trans (hB.mono HW.size)⟩

/-! ### Limits, Bound -/
set_option maxHeartbeats 800000 in
theorem rlimits_any (e x r : Int) (w : World) :
    Calls Try.prog 22 #[.int .i64 e, .int .i64 x, .int .i64 r] w fun e' w' => e' = .returned (.bool (limB e x r)) ∧ w' = w := by
  have S1 := Lib.hid fun w => rstamp_any e w
  have S2 := Lib.hid fun w => rstamp_any x w
  have hT : limB e x r = (decide (0 ≤ e) && (decide (0 ≤ x) && (decide (0 ≤ r) && (stamp e && (stamp x && decide (r ≤ 8388608)))))) := by
    rw [Bool.eq_iff_iff, limB_iff]; simp only [Bool.and_eq_true, decide_eq_true_eq, stamp_iff]; omega
  by_cases h1 : 0 ≤ e
  · by_cases h2 : 0 ≤ x
    · by_cases h3 : 0 ≤ r
      · have HT0 : limB e x r = (stamp e && (stamp x && decide (r ≤ 8388608))) := by rw [hT, decide_eq_true h1, decide_eq_true h2, decide_eq_true h3]; simp
        cases q1 : stamp e
        · rw [q1] at S1 HT0
          have HT := Lib.hid HT0
          clear hT HT0 q1
          go_enter Try.func22, Try.ntmps22
          go_wp2_with fail
          refine (S1.out _).mono ?_
          rintro e w1 ⟨rfl, rfl⟩
          go_wp2
          go_ret
          exact ⟨ret_bool HT.out.symm, rfl⟩
        · rw [q1] at S1 HT0
          cases q2 : stamp x
          · rw [q2] at S2 HT0
            have HT := Lib.hid HT0
            clear hT HT0 q1 q2
            go_enter Try.func22, Try.ntmps22
            go_wp2_with fail
            refine (S1.out _).mono ?_
            rintro e w1 ⟨rfl, rfl⟩
            go_wp2_with fail
            refine (S2.out _).mono ?_
            rintro e w1 ⟨rfl, rfl⟩
            go_wp2
            go_ret
            exact ⟨ret_bool HT.out.symm, rfl⟩
          · rw [q2] at S2 HT0
            have HT : Hid (decide (r ≤ 8388608) = limB e x r) := Lib.hid (by rw [HT0]; simp)
            clear hT HT0 q1 q2
            go_enter Try.func22, Try.ntmps22
            go_wp2_with fail
            refine (S1.out _).mono ?_
            rintro e w1 ⟨rfl, rfl⟩
            go_wp2_with fail
            refine (S2.out _).mono ?_
            rintro e w1 ⟨rfl, rfl⟩
            go_wp2
            go_ret
            exact ⟨ret_bool HT.out, rfl⟩
      · have HT : Hid (false = limB e x r) := Lib.hid (by rw [hT, decide_eq_false h3]; simp)
        clear hT
        go_enter Try.func22, Try.ntmps22
        go_wp2
        go_ret
        exact ⟨ret_bool HT.out, rfl⟩
    · have HT : Hid (false = limB e x r) := Lib.hid (by rw [hT, decide_eq_false h2]; simp)
      clear hT
      go_enter Try.func22, Try.ntmps22
      go_wp2
      go_ret
      exact ⟨ret_bool HT.out, rfl⟩
  · have HT : Hid (false = limB e x r) := Lib.hid (by rw [hT, decide_eq_false h1]; simp)
    clear hT
    go_enter Try.func22, Try.ntmps22
    go_wp2
    go_ret
    exact ⟨ret_bool HT.out, rfl⟩
set_option maxHeartbeats 400000 in
theorem rbound_any (e x r : Int) (w : World) (h : limB e x r = true) :
    Calls Try.prog 23 #[.int .i64 e, .int .i64 x, .int .i64 r] w fun e' w' => e' = .returned (.int .i64 (sbV e x r)) ∧ Below w.heap.size w w' := by
  have HV : sbV e x r = e - (-x) * (r + 82) / 1000000000 + 3 := by unfold sbV; rw [h]; rfl
  rw [limB_iff] at h
  obtain ⟨q1, q2, -⟩ := part_bd (x := -x) (p := r + 82) (by omega) (by omega) (by omega) (by omega)
  have HP := Lib.hid fun w => part_any (-x) (r + 82) w (by omega) (by omega) (by omega) (by omega)
  generalize -x * (r + 82) / 1000000000 = q at *
  have HV := Lib.hid HV
  have e1 : IntKind.i64.wrap (r + 82) = r + 82 := IntWalk.i64_in _ (by omega)
  have e2 : IntKind.i64.wrap (-x) = -x := IntWalk.i64_in _ (by omega)
  have e3 : IntKind.i64.wrap (e - q) = e - q := IntWalk.i64_in _ (by omega)
  have e4 : IntKind.i64.wrap (e - q + 3) = e - q + 3 := IntWalk.i64_in _ (by omega)
  go_enter Try.func23, Try.ntmps23
  go_wp2_with fail
  refine (HP.out _).mono ?_
  rintro e' w1 ⟨rfl, rfl⟩
  go_wp2
  go_ret
  exact ⟨ret_int HV.out.symm, Below.refl _ _⟩

/-! ### the servo of a draft -/
def dT (x : Int) : Int := x.tmod 4398046511105
def dR (y : Int) : Int := y.tmod 8388609
theorem tmod_bdS (a : Int) {b : Int} (hb : 0 < b) : -b < a.tmod b ∧ a.tmod b < b := by
  have h1 := Int.tmod_lt_of_pos a hb
  have h2 := Int.tmod_lt_of_pos (-a) hb
  rw [Int.neg_tmod] at h2
  omega
theorem okSD (x y z : Int) : okS (dT x) (dT y) (dR z) = true := by
  have h1 := tmod_bdS x (show (0 : Int) < 4398046511105 by omega)
  have h2 := tmod_bdS y (show (0 : Int) < 4398046511105 by omega)
  have h3 := tmod_bdS z (show (0 : Int) < 8388609 by omega)
  rw [okS_iff]; unfold dT dR; omega
set_option maxHeartbeats 400000 in
theorem draftS_any (x y z : Int) (w : World) :
    Calls Try.prog 12 #[.agg #[.int .i64 x, .int .i64 y, .int .i32 z]] w fun e w' => e = .returned (.agg #[.int .i64 (dT x), .int .i64 (dT y), .int .i64 (dR z)]) ∧ Below w.heap.size w w' := by
  have h1 := tmod_bdS x (show (0 : Int) < 4398046511105 by omega)
  have h2 := tmod_bdS y (show (0 : Int) < 4398046511105 by omega)
  have h3 := tmod_bdS z (show (0 : Int) < 8388609 by omega)
  have e1 : x.tmod 4398046511105 = dT x := rfl
  have e2 : y.tmod 4398046511105 = dT y := rfl
  have e3 : z.tmod 8388609 = dR z := rfl
  rw [e1] at h1
  rw [e2] at h2
  rw [e3] at h3
  go_enter Try.func12, Try.ntmps12
  go_wp2
  exact bodyPost_ret (v := .agg #[.int .i64 (dT x), .int .i64 (dT y), .int .i64 (dR z)]) (by simp [results, Try.results12, go_sem]) rfl ⟨rfl, ((Below.refl _ _).alloc (Nat.le_refl _) _).alloc (by simp) _⟩
end Go.Proofs.Ytkbepdhggfijbaa
