/- The package delay: Delay, Ratio, timed, DelayBound, RatioBound: what they compute. -/
import Derived.Test.YtelpjmmkaakceaaDelay2
import Derived.Test.YtelpjmmkaakceaaBound09
namespace Go.Proofs.Ytelpjmmkaakceaa
open Go.RowKit Go.Shelf

theorem checkX_ok {t1 t2 t3 t4 : Int} (h : okX t1 t2 t3 t4 = true) (w : World) : Calls Try.prog 14 #[.agg #[.int .i64 t1, .int .i64 t2, .int .i64 t3, .int .i64 t4]] w fun e w' => e = .returned (.int .i64 0) ∧ Below w.heap.size w w' := by
  have := checkX_any t1 t2 t3 t4 w
  rwa [show chkX t1 t2 t3 t4 = 0 by unfold chkX; rw [h]; rfl] at this
theorem checkX_no {t1 t2 t3 t4 : Int} (h : okX t1 t2 t3 t4 = false) (w : World) : Calls Try.prog 14 #[.agg #[.int .i64 t1, .int .i64 t2, .int .i64 t3, .int .i64 t4]] w fun e w' => e = .returned (.int .i64 220) ∧ Below w.heap.size w w' := by
  have := checkX_any t1 t2 t3 t4 w
  rwa [show chkX t1 t2 t3 t4 = 220 by unfold chkX; rw [h]; rfl] at this
theorem Calls.atIB {f : Nat} {args : Array Value} {w : World} {v v' : Int} {k k' : Bool} (h : Calls Try.prog f args w fun x w' => x = .returned (.tuple #[.int .i64 v, .bool k]) ∧ Below w.heap.size w w') (hv : v = v') (hk : k = k') :
    Calls Try.prog f args w fun x w' => x = .returned (.tuple #[.int .i64 v', .bool k']) ∧ Below w.heap.size w w' := by subst hv hk; exact h
theorem Calls.at2 {f : Nat} {args : Array Value} {w : World} {v e v' e' : Int} (h : Calls Try.prog f args w fun x w' => x = .returned (.tuple #[.int .i64 v, .int .i64 e]) ∧ Below w.heap.size w w') (hv : v = v') (he : e = e') :
    Calls Try.prog f args w fun x w' => x = .returned (.tuple #[.int .i64 v', .int .i64 e']) ∧ Below w.heap.size w w' := by subst hv he; exact h
theorem Calls.at1 {f : Nat} {args : Array Value} {w : World} {v v' : Int} (h : Calls Try.prog f args w fun x w' => x = .returned (.int .i64 v) ∧ Below w.heap.size w w') (hv : v = v') :
    Calls Try.prog f args w fun x w' => x = .returned (.int .i64 v') ∧ Below w.heap.size w w' := by subst hv; exact h
theorem Calls.atB {f : Nat} {args : Array Value} {w : World} {v v' : Bool} (h : Calls Try.prog f args w fun x w' => x = .returned (.bool v) ∧ Below w.heap.size w w') (hv : v = v') :
    Calls Try.prog f args w fun x w' => x = .returned (.bool v') ∧ Below w.heap.size w w' := by subst hv; exact h
theorem Calls.atV {f : Nat} {args : Array Value} {w : World} {v v' : Value} (h : Calls Try.prog f args w fun x w' => x = .returned v ∧ Below w.heap.size w w') (hv : v = v') :
    Calls Try.prog f args w fun x w' => x = .returned v' ∧ Below w.heap.size w w' := by subst hv; exact h
theorem dv_is {a b q : Int} (ha : -1125899906842624 ≤ a ∧ a ≤ 1125899906842624) (hb : 1 ≤ b ∧ b ≤ 1125899906842624) (hq : a / b = q) : dvV a b = q ∧ dvOk a b = true := by
  have h1 : dvOk a b = true := by unfold dvOk; rw [Bool.and_eq_true, Bool.and_eq_true, inR_iff, inR_iff, decide_eq_true_eq]; omega
  exact ⟨by unfold dvV; rw [h1, if_pos rfl, hq], h1⟩
theorem cl_is {a b q : Int} (ha : -1125899906842624 ≤ a ∧ a ≤ 1125899906842624) (hb : 1 ≤ b ∧ b ≤ 1125899906842624) (hq : -(-a / b) = q) : clV a b = q ∧ dvOk a b = true := by
  have h1 : dvOk a b = true := by unfold dvOk; rw [Bool.and_eq_true, Bool.and_eq_true, inR_iff, inR_iff, decide_eq_true_eq]; omega
  exact ⟨by unfold clV; rw [h1, if_pos rfl, hq], h1⟩

/-! ### Delay -/
def delV (t1 t2 t3 t4 : Int) : Int := if okX t1 t2 t3 t4 then (t4 - t1 - (t3 - t2)) / 2 else 0
def delE (t1 t2 t3 t4 : Int) : Int := if okX t1 t2 t3 t4 then 0 else 220
set_option maxHeartbeats 1000000 in
theorem delay_any (t1 t2 t3 t4 : Int) (w : World) :
    Calls Try.prog 12 #[.agg #[.int .i64 t1, .int .i64 t2, .int .i64 t3, .int .i64 t4]] w fun e w' => e = .returned (.tuple #[.int .i64 (delV t1 t2 t3 t4), .int .i64 (delE t1 t2 t3 t4)]) ∧ Below w.heap.size w w' := by
  cases hok : okX t1 t2 t3 t4
  · have HV : Hid (delV t1 t2 t3 t4 = 0 ∧ delE t1 t2 t3 t4 = 220) := Lib.hid (by unfold delV delE; rw [hok]; exact ⟨rfl, rfl⟩)
    have HC := Lib.hid (checkX_no hok)
    clear hok
    go_enter Try.func12, Try.ntmps12
    go_wp2_with fail
    refine (HC.out _).mono ?_
    rintro e w1 ⟨rfl, hb1⟩
    have H1 : Below w.heap.size w w1 := ((Below.refl _ _).alloc (Nat.le_refl _) _).trans (hb1.mono (by simp <;> omega))
    go_wp2
    go_ret2
    exact ⟨ret_int2 HV.out.1.symm HV.out.2.symm, H1⟩
  · have HV : Hid (delV t1 t2 t3 t4 = (t4 - t1 - (t3 - t2)) / 2 ∧ delE t1 t2 t3 t4 = 0) := Lib.hid (by unfold delV delE; rw [hok]; exact ⟨rfl, rfl⟩)
    have HC := Lib.hid (checkX_ok hok)
    rw [okX_iff] at hok
    obtain ⟨⟨a0, a1⟩, ⟨b0, b1⟩, ⟨c0, c1⟩, ⟨d0, d1⟩, e1, e2⟩ := hok
    have hv := dv_is (a := t4 - t1 - (t3 - t2)) (b := 2) (by omega) (by omega) rfl
    have HF := Lib.hid fun w => Calls.atIB (floordiv_any (t4 - t1 - (t3 - t2)) 2 w) hv.1 hv.2
    clear hv
    go_enter Try.func12, Try.ntmps12
    go_wp2_with fail
    refine (HC.out _).mono ?_
    rintro e w1 ⟨rfl, hb1⟩
    have hz1_0 : w.heap.size < w1.heap.size := by have := hb1.size; simp at this; omega
    have s1_0_0 : w1.cell? ⟨w.heap.size, 0, none⟩ = some (.int .i64 t1) := (hb1.cell (p := ⟨w.heap.size, 0, none⟩) (by simp <;> omega)).trans (by go_simp)
    have s1_0_1 : w1.cell? ⟨w.heap.size, 1, none⟩ = some (.int .i64 t2) := (hb1.cell (p := ⟨w.heap.size, 1, none⟩) (by simp <;> omega)).trans (by go_simp)
    have s1_0_2 : w1.cell? ⟨w.heap.size, 2, none⟩ = some (.int .i64 t3) := (hb1.cell (p := ⟨w.heap.size, 2, none⟩) (by simp <;> omega)).trans (by go_simp)
    have s1_0_3 : w1.cell? ⟨w.heap.size, 3, none⟩ = some (.int .i64 t4) := (hb1.cell (p := ⟨w.heap.size, 3, none⟩) (by simp <;> omega)).trans (by go_simp)
    have H1 : Below w.heap.size w w1 := ((Below.refl _ _).alloc (Nat.le_refl _) _).trans (hb1.mono (by simp <;> omega))
    clear hb1
    go_wp2_with fail
    refine (HF.out _).mono ?_
    rintro e w2 ⟨rfl, hb2⟩
    have hz2_0 := Nat.lt_of_lt_of_le hz1_0 hb2.size
    have s2_0_0 := (hb2.cell (p := ⟨w.heap.size, 0, none⟩) hz1_0).trans s1_0_0
    have s2_0_1 := (hb2.cell (p := ⟨w.heap.size, 1, none⟩) hz1_0).trans s1_0_1
    have s2_0_2 := (hb2.cell (p := ⟨w.heap.size, 2, none⟩) hz1_0).trans s1_0_2
    have s2_0_3 := (hb2.cell (p := ⟨w.heap.size, 3, none⟩) hz1_0).trans s1_0_3
    have H2 := H1.trans (hb2.mono H1.size)
    clear hz1_0 s1_0_0 s1_0_1 s1_0_2 s1_0_3 hb2 H1
    go_wp2
    go_ret2
    exact ⟨ret_int2 HV.out.1.symm HV.out.2.symm, H2⟩
/-! ### Ratio -/
def raOk (a3 a4 b3 b4 : Int) : Bool := mdOk (b3 - a3 - (b4 - a4)) 1000000000 (b4 - a4) && (decide (-8388608 ≤ md (b3 - a3 - (b4 - a4)) 1000000000 (b4 - a4)) && decide (md (b3 - a3 - (b4 - a4)) 1000000000 (b4 - a4) ≤ 8388608))
def raE (a1 a2 a3 a4 b1 b2 b3 b4 : Int) : Int := if okX a1 a2 a3 a4 && okX b1 b2 b3 b4 then (if b4 - a4 < 1 then 2 else if raOk a3 a4 b3 b4 then 0 else 6) else 220
def raV (a1 a2 a3 a4 b1 b2 b3 b4 : Int) : Int := if okX a1 a2 a3 a4 && okX b1 b2 b3 b4 && decide (1 ≤ b4 - a4) && raOk a3 a4 b3 b4 then md (b3 - a3 - (b4 - a4)) 1000000000 (b4 - a4) else 0
set_option maxRecDepth 100000 in
set_option maxHeartbeats 2000000 in
theorem ratio_any (a1 a2 a3 a4 b1 b2 b3 b4 : Int) (w : World) :
    Calls Try.prog 16 #[.agg #[.int .i64 a1, .int .i64 a2, .int .i64 a3, .int .i64 a4], .agg #[.int .i64 b1, .int .i64 b2, .int .i64 b3, .int .i64 b4]] w fun e w' => e = .returned (.tuple #[.int .i64 (raV a1 a2 a3 a4 b1 b2 b3 b4), .int .i64 (raE a1 a2 a3 a4 b1 b2 b3 b4)]) ∧ Below w.heap.size w w' := by
  have i0 : ∀ W, (Instr.index 31 (.agg #[.int .i64 a1, .int .i64 a2, .int .i64 a3, .int .i64 a4, .int .i64 b1, .int .i64 b2, .int .i64 b3, .int .i64 b4]) (.int .i64 0)).run Try.prog W = .ok (.agg #[.int .i64 a1, .int .i64 a2, .int .i64 a3, .int .i64 a4]) W := fun _ => by kernel_rfl
  have i1 : ∀ W, (Instr.index 31 (.agg #[.int .i64 a1, .int .i64 a2, .int .i64 a3, .int .i64 a4, .int .i64 b1, .int .i64 b2, .int .i64 b3, .int .i64 b4]) (.int .i64 1)).run Try.prog W = .ok (.agg #[.int .i64 b1, .int .i64 b2, .int .i64 b3, .int .i64 b4]) W := fun _ => by kernel_rfl
  cases ha : okX a1 a2 a3 a4
  · have HV : Hid (raV a1 a2 a3 a4 b1 b2 b3 b4 = 0 ∧ raE a1 a2 a3 a4 b1 b2 b3 b4 = 220) := Lib.hid (by unfold raV raE; rw [ha]; exact ⟨rfl, rfl⟩)
    have HC := Lib.hid (checkX_no ha)
    clear ha
    go_enter Try.func16, Try.ntmps16
    go_wp2_with fail
    refine wp_loop_rounds 1 ?_
    rw [rounds_succ]
    go_wp2_with fail
    refine (HC.out _).mono ?_
    rintro e w1 ⟨rfl, hb1⟩
    have hz1_0 : w.heap.size < w1.heap.size := by have := hb1.size; simp at this; omega
    have s1_0_0 : w1.cell? ⟨w.heap.size, 0, none⟩ = some (.int .i64 a1) := (hb1.cell (p := ⟨w.heap.size, 0, none⟩) (by simp <;> omega)).trans (by go_simp)
    have s1_0_1 : w1.cell? ⟨w.heap.size, 1, none⟩ = some (.int .i64 a2) := (hb1.cell (p := ⟨w.heap.size, 1, none⟩) (by simp <;> omega)).trans (by go_simp)
    have s1_0_2 : w1.cell? ⟨w.heap.size, 2, none⟩ = some (.int .i64 a3) := (hb1.cell (p := ⟨w.heap.size, 2, none⟩) (by simp <;> omega)).trans (by go_simp)
    have s1_0_3 : w1.cell? ⟨w.heap.size, 3, none⟩ = some (.int .i64 a4) := (hb1.cell (p := ⟨w.heap.size, 3, none⟩) (by simp <;> omega)).trans (by go_simp)
    have hz1_1 : w.heap.size + 1 < w1.heap.size := by have := hb1.size; simp at this; omega
    have s1_1_0 : w1.cell? ⟨w.heap.size + 1, 0, none⟩ = some (.int .i64 b1) := (hb1.cell (p := ⟨w.heap.size + 1, 0, none⟩) (by simp <;> omega)).trans (by go_simp)
    have s1_1_1 : w1.cell? ⟨w.heap.size + 1, 1, none⟩ = some (.int .i64 b2) := (hb1.cell (p := ⟨w.heap.size + 1, 1, none⟩) (by simp <;> omega)).trans (by go_simp)
    have s1_1_2 : w1.cell? ⟨w.heap.size + 1, 2, none⟩ = some (.int .i64 b3) := (hb1.cell (p := ⟨w.heap.size + 1, 2, none⟩) (by simp <;> omega)).trans (by go_simp)
    have s1_1_3 : w1.cell? ⟨w.heap.size + 1, 3, none⟩ = some (.int .i64 b4) := (hb1.cell (p := ⟨w.heap.size + 1, 3, none⟩) (by simp <;> omega)).trans (by go_simp)
    have H1 : Below w.heap.size w w1 := ((((Below.refl _ _).alloc (Nat.le_refl _) _).alloc (by simp <;> omega) _).alloc (by simp <;> omega) _).trans (hb1.mono (by simp <;> omega))
    clear hb1
    go_wp2
    go_ret2
    exact ⟨ret_int2 HV.out.1.symm HV.out.2.symm, H1⟩
  · have HA := Lib.hid (checkX_ok ha)
    cases hb : okX b1 b2 b3 b4
    · have HV : Hid (raV a1 a2 a3 a4 b1 b2 b3 b4 = 0 ∧ raE a1 a2 a3 a4 b1 b2 b3 b4 = 220) := Lib.hid (by unfold raV raE; rw [ha, hb]; exact ⟨rfl, rfl⟩)
      have HB := Lib.hid (checkX_no hb)
      clear ha hb
      go_enter Try.func16, Try.ntmps16
      go_wp2_with fail
      refine wp_loop_rounds 2 ?_
      rw [rounds_succ]
      go_wp2_with fail
      refine (HA.out _).mono ?_
      rintro e w1 ⟨rfl, hb1⟩
      have hz1_0 : w.heap.size < w1.heap.size := by have := hb1.size; simp at this; omega
      have s1_0_0 : w1.cell? ⟨w.heap.size, 0, none⟩ = some (.int .i64 a1) := (hb1.cell (p := ⟨w.heap.size, 0, none⟩) (by simp <;> omega)).trans (by go_simp)
      have s1_0_1 : w1.cell? ⟨w.heap.size, 1, none⟩ = some (.int .i64 a2) := (hb1.cell (p := ⟨w.heap.size, 1, none⟩) (by simp <;> omega)).trans (by go_simp)
      have s1_0_2 : w1.cell? ⟨w.heap.size, 2, none⟩ = some (.int .i64 a3) := (hb1.cell (p := ⟨w.heap.size, 2, none⟩) (by simp <;> omega)).trans (by go_simp)
      have s1_0_3 : w1.cell? ⟨w.heap.size, 3, none⟩ = some (.int .i64 a4) := (hb1.cell (p := ⟨w.heap.size, 3, none⟩) (by simp <;> omega)).trans (by go_simp)
      have hz1_1 : w.heap.size + 1 < w1.heap.size := by have := hb1.size; simp at this; omega
      have s1_1_0 : w1.cell? ⟨w.heap.size + 1, 0, none⟩ = some (.int .i64 b1) := (hb1.cell (p := ⟨w.heap.size + 1, 0, none⟩) (by simp <;> omega)).trans (by go_simp)
      have s1_1_1 : w1.cell? ⟨w.heap.size + 1, 1, none⟩ = some (.int .i64 b2) := (hb1.cell (p := ⟨w.heap.size + 1, 1, none⟩) (by simp <;> omega)).trans (by go_simp)
      have s1_1_2 : w1.cell? ⟨w.heap.size + 1, 2, none⟩ = some (.int .i64 b3) := (hb1.cell (p := ⟨w.heap.size + 1, 2, none⟩) (by simp <;> omega)).trans (by go_simp)
      have s1_1_3 : w1.cell? ⟨w.heap.size + 1, 3, none⟩ = some (.int .i64 b4) := (hb1.cell (p := ⟨w.heap.size + 1, 3, none⟩) (by simp <;> omega)).trans (by go_simp)
      have H1 : Below w.heap.size w w1 := ((((Below.refl _ _).alloc (Nat.le_refl _) _).alloc (by simp <;> omega) _).alloc (by simp <;> omega) _).trans (hb1.mono (by simp <;> omega))
      clear hb1
      go_wp2_with fail
      rw [rounds_succ]
      go_wp2_with fail
      refine (HB.out _).mono ?_
      rintro e w2 ⟨rfl, hb2⟩
      have hz2_0 : w.heap.size < w2.heap.size := by have := hb2.size; simp at this; omega
      have s2_0_0 : w2.cell? ⟨w.heap.size, 0, none⟩ = some (.int .i64 a1) := (hb2.cell (p := ⟨w.heap.size, 0, none⟩) (by simp <;> omega)).trans (by go_simp)
      have s2_0_1 : w2.cell? ⟨w.heap.size, 1, none⟩ = some (.int .i64 a2) := (hb2.cell (p := ⟨w.heap.size, 1, none⟩) (by simp <;> omega)).trans (by go_simp)
      have s2_0_2 : w2.cell? ⟨w.heap.size, 2, none⟩ = some (.int .i64 a3) := (hb2.cell (p := ⟨w.heap.size, 2, none⟩) (by simp <;> omega)).trans (by go_simp)
      have s2_0_3 : w2.cell? ⟨w.heap.size, 3, none⟩ = some (.int .i64 a4) := (hb2.cell (p := ⟨w.heap.size, 3, none⟩) (by simp <;> omega)).trans (by go_simp)
      have hz2_1 : w.heap.size + 1 < w2.heap.size := by have := hb2.size; simp at this; omega
      have s2_1_0 : w2.cell? ⟨w.heap.size + 1, 0, none⟩ = some (.int .i64 b1) := (hb2.cell (p := ⟨w.heap.size + 1, 0, none⟩) (by simp <;> omega)).trans (by go_simp)
      have s2_1_1 : w2.cell? ⟨w.heap.size + 1, 1, none⟩ = some (.int .i64 b2) := (hb2.cell (p := ⟨w.heap.size + 1, 1, none⟩) (by simp <;> omega)).trans (by go_simp)
      have s2_1_2 : w2.cell? ⟨w.heap.size + 1, 2, none⟩ = some (.int .i64 b3) := (hb2.cell (p := ⟨w.heap.size + 1, 2, none⟩) (by simp <;> omega)).trans (by go_simp)
      have s2_1_3 : w2.cell? ⟨w.heap.size + 1, 3, none⟩ = some (.int .i64 b4) := (hb2.cell (p := ⟨w.heap.size + 1, 3, none⟩) (by simp <;> omega)).trans (by go_simp)
      have H2 : Below w.heap.size w w2 := (H1.alloc H1.size _).trans (hb2.mono (by have := H1.size; simp <;> omega))
      clear hz1_0 s1_0_0 s1_0_1 s1_0_2 s1_0_3 hz1_1 s1_1_0 s1_1_1 s1_1_2 s1_1_3 hb2 H1
      go_wp2
      go_ret2
      exact ⟨ret_int2 HV.out.1.symm HV.out.2.symm, H2⟩
    · have HB := Lib.hid (checkX_ok hb)
      have HE : Hid (raE a1 a2 a3 a4 b1 b2 b3 b4 = if b4 - a4 < 1 then 2 else if raOk a3 a4 b3 b4 then 0 else 6) := Lib.hid (by unfold raE; rw [ha, hb]; simp)
      have HW : Hid (raV a1 a2 a3 a4 b1 b2 b3 b4 = if decide (1 ≤ b4 - a4) && raOk a3 a4 b3 b4 then md (b3 - a3 - (b4 - a4)) 1000000000 (b4 - a4) else 0) := Lib.hid (by unfold raV; rw [ha, hb]; simp)
      rw [okX_iff] at ha hb
      obtain ⟨⟨p0, p1⟩, ⟨p2, p3⟩, ⟨p4, p5⟩, ⟨p6, p7⟩, p8, p9⟩ := ha
      obtain ⟨⟨q0, q1⟩, ⟨q2, q3⟩, ⟨q4, q5⟩, ⟨q6, q7⟩, q8, q9⟩ := hb
      have HM := Lib.hid fun w => muldiv_any (b3 - a3 - (b4 - a4)) 1000000000 (b4 - a4) w
      have HR : Hid (raOk a3 a4 b3 b4 = (mdOk (b3 - a3 - (b4 - a4)) 1000000000 (b4 - a4) && (decide (-8388608 ≤ md (b3 - a3 - (b4 - a4)) 1000000000 (b4 - a4)) && decide (md (b3 - a3 - (b4 - a4)) 1000000000 (b4 - a4) ≤ 8388608)))) := Lib.hid rfl
      generalize md (b3 - a3 - (b4 - a4)) 1000000000 (b4 - a4) = q at *
      by_cases hy : b4 - a4 < 1
      · have HV : Hid (raV a1 a2 a3 a4 b1 b2 b3 b4 = 0 ∧ raE a1 a2 a3 a4 b1 b2 b3 b4 = 2) := Lib.hid ⟨by rw [HW.out, decide_eq_false (show ¬ 1 ≤ b4 - a4 by omega)]; rfl, by rw [HE.out, if_pos hy]⟩
        clear HE HW HR HM
        go_enter Try.func16, Try.ntmps16
        go_wp2_with fail
        refine wp_loop_rounds 3 ?_
        rw [rounds_succ]
        go_wp2_with fail
        refine (HA.out _).mono ?_
        rintro e w1 ⟨rfl, hb1⟩
        have hz1_0 : w.heap.size < w1.heap.size := by have := hb1.size; simp at this; omega
        have s1_0_0 : w1.cell? ⟨w.heap.size, 0, none⟩ = some (.int .i64 a1) := (hb1.cell (p := ⟨w.heap.size, 0, none⟩) (by simp <;> omega)).trans (by go_simp)
        have s1_0_1 : w1.cell? ⟨w.heap.size, 1, none⟩ = some (.int .i64 a2) := (hb1.cell (p := ⟨w.heap.size, 1, none⟩) (by simp <;> omega)).trans (by go_simp)
        have s1_0_2 : w1.cell? ⟨w.heap.size, 2, none⟩ = some (.int .i64 a3) := (hb1.cell (p := ⟨w.heap.size, 2, none⟩) (by simp <;> omega)).trans (by go_simp)
        have s1_0_3 : w1.cell? ⟨w.heap.size, 3, none⟩ = some (.int .i64 a4) := (hb1.cell (p := ⟨w.heap.size, 3, none⟩) (by simp <;> omega)).trans (by go_simp)
        have hz1_1 : w.heap.size + 1 < w1.heap.size := by have := hb1.size; simp at this; omega
        have s1_1_0 : w1.cell? ⟨w.heap.size + 1, 0, none⟩ = some (.int .i64 b1) := (hb1.cell (p := ⟨w.heap.size + 1, 0, none⟩) (by simp <;> omega)).trans (by go_simp)
        have s1_1_1 : w1.cell? ⟨w.heap.size + 1, 1, none⟩ = some (.int .i64 b2) := (hb1.cell (p := ⟨w.heap.size + 1, 1, none⟩) (by simp <;> omega)).trans (by go_simp)
        have s1_1_2 : w1.cell? ⟨w.heap.size + 1, 2, none⟩ = some (.int .i64 b3) := (hb1.cell (p := ⟨w.heap.size + 1, 2, none⟩) (by simp <;> omega)).trans (by go_simp)
        have s1_1_3 : w1.cell? ⟨w.heap.size + 1, 3, none⟩ = some (.int .i64 b4) := (hb1.cell (p := ⟨w.heap.size + 1, 3, none⟩) (by simp <;> omega)).trans (by go_simp)
        have H1 : Below w.heap.size w w1 := ((((Below.refl _ _).alloc (Nat.le_refl _) _).alloc (by simp <;> omega) _).alloc (by simp <;> omega) _).trans (hb1.mono (by simp <;> omega))
        clear hb1
        go_wp2_with fail
        rw [rounds_succ]
        go_wp2_with fail
        refine (HB.out _).mono ?_
        rintro e w2 ⟨rfl, hb2⟩
        have hz2_0 : w.heap.size < w2.heap.size := by have := hb2.size; simp at this; omega
        have s2_0_0 : w2.cell? ⟨w.heap.size, 0, none⟩ = some (.int .i64 a1) := (hb2.cell (p := ⟨w.heap.size, 0, none⟩) (by simp <;> omega)).trans (by go_simp)
        have s2_0_1 : w2.cell? ⟨w.heap.size, 1, none⟩ = some (.int .i64 a2) := (hb2.cell (p := ⟨w.heap.size, 1, none⟩) (by simp <;> omega)).trans (by go_simp)
        have s2_0_2 : w2.cell? ⟨w.heap.size, 2, none⟩ = some (.int .i64 a3) := (hb2.cell (p := ⟨w.heap.size, 2, none⟩) (by simp <;> omega)).trans (by go_simp)
        have s2_0_3 : w2.cell? ⟨w.heap.size, 3, none⟩ = some (.int .i64 a4) := (hb2.cell (p := ⟨w.heap.size, 3, none⟩) (by simp <;> omega)).trans (by go_simp)
        have hz2_1 : w.heap.size + 1 < w2.heap.size := by have := hb2.size; simp at this; omega
        have s2_1_0 : w2.cell? ⟨w.heap.size + 1, 0, none⟩ = some (.int .i64 b1) := (hb2.cell (p := ⟨w.heap.size + 1, 0, none⟩) (by simp <;> omega)).trans (by go_simp)
        have s2_1_1 : w2.cell? ⟨w.heap.size + 1, 1, none⟩ = some (.int .i64 b2) := (hb2.cell (p := ⟨w.heap.size + 1, 1, none⟩) (by simp <;> omega)).trans (by go_simp)
        have s2_1_2 : w2.cell? ⟨w.heap.size + 1, 2, none⟩ = some (.int .i64 b3) := (hb2.cell (p := ⟨w.heap.size + 1, 2, none⟩) (by simp <;> omega)).trans (by go_simp)
        have s2_1_3 : w2.cell? ⟨w.heap.size + 1, 3, none⟩ = some (.int .i64 b4) := (hb2.cell (p := ⟨w.heap.size + 1, 3, none⟩) (by simp <;> omega)).trans (by go_simp)
        have H2 : Below w.heap.size w w2 := (H1.alloc H1.size _).trans (hb2.mono (by have := H1.size; simp <;> omega))
        clear hz1_0 s1_0_0 s1_0_1 s1_0_2 s1_0_3 hz1_1 s1_1_0 s1_1_1 s1_1_2 s1_1_3 hb2 H1
        go_wp2_with fail
        rw [rounds_succ]
        go_wp2
        go_ret2
        exact ⟨ret_int2 HV.out.1.symm HV.out.2.symm, H2⟩
      · have HV0 : Hid (raOk a3 a4 b3 b4 = false → raV a1 a2 a3 a4 b1 b2 b3 b4 = 0 ∧ raE a1 a2 a3 a4 b1 b2 b3 b4 = 6) := Lib.hid fun h => ⟨by rw [HW.out, h]; simp, by rw [HE.out, if_neg hy, h]; rfl⟩
        have HV1 : Hid (raOk a3 a4 b3 b4 = true → raV a1 a2 a3 a4 b1 b2 b3 b4 = q ∧ raE a1 a2 a3 a4 b1 b2 b3 b4 = 0) := Lib.hid fun h => ⟨by rw [HW.out, h, decide_eq_true (show 1 ≤ b4 - a4 by omega)]; rfl, by rw [HE.out, if_neg hy, h]; rfl⟩
        cases hm : mdOk (b3 - a3 - (b4 - a4)) 1000000000 (b4 - a4)
        · have HV := Lib.hid (HV0.out (by rw [HR.out, hm]; rfl))
          rw [hm] at HM
          clear HE HW HR HV0 HV1 hm
          go_enter Try.func16, Try.ntmps16
          go_wp2_with fail
          refine wp_loop_rounds 3 ?_
          rw [rounds_succ]
          go_wp2_with fail
          refine (HA.out _).mono ?_
          rintro e w1 ⟨rfl, hb1⟩
          have hz1_0 : w.heap.size < w1.heap.size := by have := hb1.size; simp at this; omega
          have s1_0_0 : w1.cell? ⟨w.heap.size, 0, none⟩ = some (.int .i64 a1) := (hb1.cell (p := ⟨w.heap.size, 0, none⟩) (by simp <;> omega)).trans (by go_simp)
          have s1_0_1 : w1.cell? ⟨w.heap.size, 1, none⟩ = some (.int .i64 a2) := (hb1.cell (p := ⟨w.heap.size, 1, none⟩) (by simp <;> omega)).trans (by go_simp)
          have s1_0_2 : w1.cell? ⟨w.heap.size, 2, none⟩ = some (.int .i64 a3) := (hb1.cell (p := ⟨w.heap.size, 2, none⟩) (by simp <;> omega)).trans (by go_simp)
          have s1_0_3 : w1.cell? ⟨w.heap.size, 3, none⟩ = some (.int .i64 a4) := (hb1.cell (p := ⟨w.heap.size, 3, none⟩) (by simp <;> omega)).trans (by go_simp)
          have hz1_1 : w.heap.size + 1 < w1.heap.size := by have := hb1.size; simp at this; omega
          have s1_1_0 : w1.cell? ⟨w.heap.size + 1, 0, none⟩ = some (.int .i64 b1) := (hb1.cell (p := ⟨w.heap.size + 1, 0, none⟩) (by simp <;> omega)).trans (by go_simp)
          have s1_1_1 : w1.cell? ⟨w.heap.size + 1, 1, none⟩ = some (.int .i64 b2) := (hb1.cell (p := ⟨w.heap.size + 1, 1, none⟩) (by simp <;> omega)).trans (by go_simp)
          have s1_1_2 : w1.cell? ⟨w.heap.size + 1, 2, none⟩ = some (.int .i64 b3) := (hb1.cell (p := ⟨w.heap.size + 1, 2, none⟩) (by simp <;> omega)).trans (by go_simp)
          have s1_1_3 : w1.cell? ⟨w.heap.size + 1, 3, none⟩ = some (.int .i64 b4) := (hb1.cell (p := ⟨w.heap.size + 1, 3, none⟩) (by simp <;> omega)).trans (by go_simp)
          have H1 : Below w.heap.size w w1 := ((((Below.refl _ _).alloc (Nat.le_refl _) _).alloc (by simp <;> omega) _).alloc (by simp <;> omega) _).trans (hb1.mono (by simp <;> omega))
          clear hb1
          go_wp2_with fail
          rw [rounds_succ]
          go_wp2_with fail
          refine (HB.out _).mono ?_
          rintro e w2 ⟨rfl, hb2⟩
          have hz2_0 : w.heap.size < w2.heap.size := by have := hb2.size; simp at this; omega
          have s2_0_0 : w2.cell? ⟨w.heap.size, 0, none⟩ = some (.int .i64 a1) := (hb2.cell (p := ⟨w.heap.size, 0, none⟩) (by simp <;> omega)).trans (by go_simp)
          have s2_0_1 : w2.cell? ⟨w.heap.size, 1, none⟩ = some (.int .i64 a2) := (hb2.cell (p := ⟨w.heap.size, 1, none⟩) (by simp <;> omega)).trans (by go_simp)
          have s2_0_2 : w2.cell? ⟨w.heap.size, 2, none⟩ = some (.int .i64 a3) := (hb2.cell (p := ⟨w.heap.size, 2, none⟩) (by simp <;> omega)).trans (by go_simp)
          have s2_0_3 : w2.cell? ⟨w.heap.size, 3, none⟩ = some (.int .i64 a4) := (hb2.cell (p := ⟨w.heap.size, 3, none⟩) (by simp <;> omega)).trans (by go_simp)
          have hz2_1 : w.heap.size + 1 < w2.heap.size := by have := hb2.size; simp at this; omega
          have s2_1_0 : w2.cell? ⟨w.heap.size + 1, 0, none⟩ = some (.int .i64 b1) := (hb2.cell (p := ⟨w.heap.size + 1, 0, none⟩) (by simp <;> omega)).trans (by go_simp)
          have s2_1_1 : w2.cell? ⟨w.heap.size + 1, 1, none⟩ = some (.int .i64 b2) := (hb2.cell (p := ⟨w.heap.size + 1, 1, none⟩) (by simp <;> omega)).trans (by go_simp)
          have s2_1_2 : w2.cell? ⟨w.heap.size + 1, 2, none⟩ = some (.int .i64 b3) := (hb2.cell (p := ⟨w.heap.size + 1, 2, none⟩) (by simp <;> omega)).trans (by go_simp)
          have s2_1_3 : w2.cell? ⟨w.heap.size + 1, 3, none⟩ = some (.int .i64 b4) := (hb2.cell (p := ⟨w.heap.size + 1, 3, none⟩) (by simp <;> omega)).trans (by go_simp)
          have H2 : Below w.heap.size w w2 := (H1.alloc H1.size _).trans (hb2.mono (by have := H1.size; simp <;> omega))
          clear hz1_0 s1_0_0 s1_0_1 s1_0_2 s1_0_3 hz1_1 s1_1_0 s1_1_1 s1_1_2 s1_1_3 hb2 H1
          go_wp2_with fail
          rw [rounds_succ]
          go_wp2_with fail
          refine (HM.out _).mono ?_
          rintro e w3 ⟨rfl, hb3⟩
          have hz3_0 := Nat.lt_of_lt_of_le hz2_0 hb3.size
          have s3_0_0 := (hb3.cell (p := ⟨w.heap.size, 0, none⟩) hz2_0).trans s2_0_0
          have s3_0_1 := (hb3.cell (p := ⟨w.heap.size, 1, none⟩) hz2_0).trans s2_0_1
          have s3_0_2 := (hb3.cell (p := ⟨w.heap.size, 2, none⟩) hz2_0).trans s2_0_2
          have s3_0_3 := (hb3.cell (p := ⟨w.heap.size, 3, none⟩) hz2_0).trans s2_0_3
          have hz3_1 := Nat.lt_of_lt_of_le hz2_1 hb3.size
          have s3_1_0 := (hb3.cell (p := ⟨w.heap.size + 1, 0, none⟩) hz2_1).trans s2_1_0
          have s3_1_1 := (hb3.cell (p := ⟨w.heap.size + 1, 1, none⟩) hz2_1).trans s2_1_1
          have s3_1_2 := (hb3.cell (p := ⟨w.heap.size + 1, 2, none⟩) hz2_1).trans s2_1_2
          have s3_1_3 := (hb3.cell (p := ⟨w.heap.size + 1, 3, none⟩) hz2_1).trans s2_1_3
          have H3 := H2.trans (hb3.mono H2.size)
          clear hz2_0 s2_0_0 s2_0_1 s2_0_2 s2_0_3 hz2_1 s2_1_0 s2_1_1 s2_1_2 s2_1_3 hb3 H2
          go_wp2
          go_ret2
          exact ⟨ret_int2 HV.out.1.symm HV.out.2.symm, H3⟩
        · by_cases h1 : q < -8388608
          · have HV := Lib.hid (HV0.out (by rw [HR.out, hm, decide_eq_false (show ¬ -8388608 ≤ q by omega)]; rfl))
            rw [hm] at HM
            clear HE HW HR HV0 HV1 hm
            go_enter Try.func16, Try.ntmps16
            go_wp2_with fail
            refine wp_loop_rounds 3 ?_
            rw [rounds_succ]
            go_wp2_with fail
            refine (HA.out _).mono ?_
            rintro e w1 ⟨rfl, hb1⟩
            have hz1_0 : w.heap.size < w1.heap.size := by have := hb1.size; simp at this; omega
            have s1_0_0 : w1.cell? ⟨w.heap.size, 0, none⟩ = some (.int .i64 a1) := (hb1.cell (p := ⟨w.heap.size, 0, none⟩) (by simp <;> omega)).trans (by go_simp)
            have s1_0_1 : w1.cell? ⟨w.heap.size, 1, none⟩ = some (.int .i64 a2) := (hb1.cell (p := ⟨w.heap.size, 1, none⟩) (by simp <;> omega)).trans (by go_simp)
            have s1_0_2 : w1.cell? ⟨w.heap.size, 2, none⟩ = some (.int .i64 a3) := (hb1.cell (p := ⟨w.heap.size, 2, none⟩) (by simp <;> omega)).trans (by go_simp)
            have s1_0_3 : w1.cell? ⟨w.heap.size, 3, none⟩ = some (.int .i64 a4) := (hb1.cell (p := ⟨w.heap.size, 3, none⟩) (by simp <;> omega)).trans (by go_simp)
            have hz1_1 : w.heap.size + 1 < w1.heap.size := by have := hb1.size; simp at this; omega
            have s1_1_0 : w1.cell? ⟨w.heap.size + 1, 0, none⟩ = some (.int .i64 b1) := (hb1.cell (p := ⟨w.heap.size + 1, 0, none⟩) (by simp <;> omega)).trans (by go_simp)
            have s1_1_1 : w1.cell? ⟨w.heap.size + 1, 1, none⟩ = some (.int .i64 b2) := (hb1.cell (p := ⟨w.heap.size + 1, 1, none⟩) (by simp <;> omega)).trans (by go_simp)
            have s1_1_2 : w1.cell? ⟨w.heap.size + 1, 2, none⟩ = some (.int .i64 b3) := (hb1.cell (p := ⟨w.heap.size + 1, 2, none⟩) (by simp <;> omega)).trans (by go_simp)
            have s1_1_3 : w1.cell? ⟨w.heap.size + 1, 3, none⟩ = some (.int .i64 b4) := (hb1.cell (p := ⟨w.heap.size + 1, 3, none⟩) (by simp <;> omega)).trans (by go_simp)
            have H1 : Below w.heap.size w w1 := ((((Below.refl _ _).alloc (Nat.le_refl _) _).alloc (by simp <;> omega) _).alloc (by simp <;> omega) _).trans (hb1.mono (by simp <;> omega))
            clear hb1
            go_wp2_with fail
            rw [rounds_succ]
            go_wp2_with fail
            refine (HB.out _).mono ?_
            rintro e w2 ⟨rfl, hb2⟩
            have hz2_0 : w.heap.size < w2.heap.size := by have := hb2.size; simp at this; omega
            have s2_0_0 : w2.cell? ⟨w.heap.size, 0, none⟩ = some (.int .i64 a1) := (hb2.cell (p := ⟨w.heap.size, 0, none⟩) (by simp <;> omega)).trans (by go_simp)
            have s2_0_1 : w2.cell? ⟨w.heap.size, 1, none⟩ = some (.int .i64 a2) := (hb2.cell (p := ⟨w.heap.size, 1, none⟩) (by simp <;> omega)).trans (by go_simp)
            have s2_0_2 : w2.cell? ⟨w.heap.size, 2, none⟩ = some (.int .i64 a3) := (hb2.cell (p := ⟨w.heap.size, 2, none⟩) (by simp <;> omega)).trans (by go_simp)
            have s2_0_3 : w2.cell? ⟨w.heap.size, 3, none⟩ = some (.int .i64 a4) := (hb2.cell (p := ⟨w.heap.size, 3, none⟩) (by simp <;> omega)).trans (by go_simp)
            have hz2_1 : w.heap.size + 1 < w2.heap.size := by have := hb2.size; simp at this; omega
            have s2_1_0 : w2.cell? ⟨w.heap.size + 1, 0, none⟩ = some (.int .i64 b1) := (hb2.cell (p := ⟨w.heap.size + 1, 0, none⟩) (by simp <;> omega)).trans (by go_simp)
            have s2_1_1 : w2.cell? ⟨w.heap.size + 1, 1, none⟩ = some (.int .i64 b2) := (hb2.cell (p := ⟨w.heap.size + 1, 1, none⟩) (by simp <;> omega)).trans (by go_simp)
            have s2_1_2 : w2.cell? ⟨w.heap.size + 1, 2, none⟩ = some (.int .i64 b3) := (hb2.cell (p := ⟨w.heap.size + 1, 2, none⟩) (by simp <;> omega)).trans (by go_simp)
            have s2_1_3 : w2.cell? ⟨w.heap.size + 1, 3, none⟩ = some (.int .i64 b4) := (hb2.cell (p := ⟨w.heap.size + 1, 3, none⟩) (by simp <;> omega)).trans (by go_simp)
            have H2 : Below w.heap.size w w2 := (H1.alloc H1.size _).trans (hb2.mono (by have := H1.size; simp <;> omega))
            clear hz1_0 s1_0_0 s1_0_1 s1_0_2 s1_0_3 hz1_1 s1_1_0 s1_1_1 s1_1_2 s1_1_3 hb2 H1
            go_wp2_with fail
            rw [rounds_succ]
            go_wp2_with fail
            refine (HM.out _).mono ?_
            rintro e w3 ⟨rfl, hb3⟩
            have hz3_0 := Nat.lt_of_lt_of_le hz2_0 hb3.size
            have s3_0_0 := (hb3.cell (p := ⟨w.heap.size, 0, none⟩) hz2_0).trans s2_0_0
            have s3_0_1 := (hb3.cell (p := ⟨w.heap.size, 1, none⟩) hz2_0).trans s2_0_1
            have s3_0_2 := (hb3.cell (p := ⟨w.heap.size, 2, none⟩) hz2_0).trans s2_0_2
            have s3_0_3 := (hb3.cell (p := ⟨w.heap.size, 3, none⟩) hz2_0).trans s2_0_3
            have hz3_1 := Nat.lt_of_lt_of_le hz2_1 hb3.size
            have s3_1_0 := (hb3.cell (p := ⟨w.heap.size + 1, 0, none⟩) hz2_1).trans s2_1_0
            have s3_1_1 := (hb3.cell (p := ⟨w.heap.size + 1, 1, none⟩) hz2_1).trans s2_1_1
            have s3_1_2 := (hb3.cell (p := ⟨w.heap.size + 1, 2, none⟩) hz2_1).trans s2_1_2
            have s3_1_3 := (hb3.cell (p := ⟨w.heap.size + 1, 3, none⟩) hz2_1).trans s2_1_3
            have H3 := H2.trans (hb3.mono H2.size)
            clear hz2_0 s2_0_0 s2_0_1 s2_0_2 s2_0_3 hz2_1 s2_1_0 s2_1_1 s2_1_2 s2_1_3 hb3 H2
            go_wp2
            go_ret2
            exact ⟨ret_int2 HV.out.1.symm HV.out.2.symm, H3⟩
          · by_cases h2 : 8388608 < q
            · have HV := Lib.hid (HV0.out (by rw [HR.out, hm, decide_eq_true (show -8388608 ≤ q by omega), decide_eq_false (show ¬ q ≤ 8388608 by omega)]; rfl))
              rw [hm] at HM
              clear HE HW HR HV0 HV1 hm
              go_enter Try.func16, Try.ntmps16
              go_wp2_with fail
              refine wp_loop_rounds 3 ?_
              rw [rounds_succ]
              go_wp2_with fail
              refine (HA.out _).mono ?_
              rintro e w1 ⟨rfl, hb1⟩
              have hz1_0 : w.heap.size < w1.heap.size := by have := hb1.size; simp at this; omega
              have s1_0_0 : w1.cell? ⟨w.heap.size, 0, none⟩ = some (.int .i64 a1) := (hb1.cell (p := ⟨w.heap.size, 0, none⟩) (by simp <;> omega)).trans (by go_simp)
              have s1_0_1 : w1.cell? ⟨w.heap.size, 1, none⟩ = some (.int .i64 a2) := (hb1.cell (p := ⟨w.heap.size, 1, none⟩) (by simp <;> omega)).trans (by go_simp)
              have s1_0_2 : w1.cell? ⟨w.heap.size, 2, none⟩ = some (.int .i64 a3) := (hb1.cell (p := ⟨w.heap.size, 2, none⟩) (by simp <;> omega)).trans (by go_simp)
              have s1_0_3 : w1.cell? ⟨w.heap.size, 3, none⟩ = some (.int .i64 a4) := (hb1.cell (p := ⟨w.heap.size, 3, none⟩) (by simp <;> omega)).trans (by go_simp)
              have hz1_1 : w.heap.size + 1 < w1.heap.size := by have := hb1.size; simp at this; omega
              have s1_1_0 : w1.cell? ⟨w.heap.size + 1, 0, none⟩ = some (.int .i64 b1) := (hb1.cell (p := ⟨w.heap.size + 1, 0, none⟩) (by simp <;> omega)).trans (by go_simp)
              have s1_1_1 : w1.cell? ⟨w.heap.size + 1, 1, none⟩ = some (.int .i64 b2) := (hb1.cell (p := ⟨w.heap.size + 1, 1, none⟩) (by simp <;> omega)).trans (by go_simp)
              have s1_1_2 : w1.cell? ⟨w.heap.size + 1, 2, none⟩ = some (.int .i64 b3) := (hb1.cell (p := ⟨w.heap.size + 1, 2, none⟩) (by simp <;> omega)).trans (by go_simp)
              have s1_1_3 : w1.cell? ⟨w.heap.size + 1, 3, none⟩ = some (.int .i64 b4) := (hb1.cell (p := ⟨w.heap.size + 1, 3, none⟩) (by simp <;> omega)).trans (by go_simp)
              have H1 : Below w.heap.size w w1 := ((((Below.refl _ _).alloc (Nat.le_refl _) _).alloc (by simp <;> omega) _).alloc (by simp <;> omega) _).trans (hb1.mono (by simp <;> omega))
              clear hb1
              go_wp2_with fail
              rw [rounds_succ]
              go_wp2_with fail
              refine (HB.out _).mono ?_
              rintro e w2 ⟨rfl, hb2⟩
              have hz2_0 : w.heap.size < w2.heap.size := by have := hb2.size; simp at this; omega
              have s2_0_0 : w2.cell? ⟨w.heap.size, 0, none⟩ = some (.int .i64 a1) := (hb2.cell (p := ⟨w.heap.size, 0, none⟩) (by simp <;> omega)).trans (by go_simp)
              have s2_0_1 : w2.cell? ⟨w.heap.size, 1, none⟩ = some (.int .i64 a2) := (hb2.cell (p := ⟨w.heap.size, 1, none⟩) (by simp <;> omega)).trans (by go_simp)
              have s2_0_2 : w2.cell? ⟨w.heap.size, 2, none⟩ = some (.int .i64 a3) := (hb2.cell (p := ⟨w.heap.size, 2, none⟩) (by simp <;> omega)).trans (by go_simp)
              have s2_0_3 : w2.cell? ⟨w.heap.size, 3, none⟩ = some (.int .i64 a4) := (hb2.cell (p := ⟨w.heap.size, 3, none⟩) (by simp <;> omega)).trans (by go_simp)
              have hz2_1 : w.heap.size + 1 < w2.heap.size := by have := hb2.size; simp at this; omega
              have s2_1_0 : w2.cell? ⟨w.heap.size + 1, 0, none⟩ = some (.int .i64 b1) := (hb2.cell (p := ⟨w.heap.size + 1, 0, none⟩) (by simp <;> omega)).trans (by go_simp)
              have s2_1_1 : w2.cell? ⟨w.heap.size + 1, 1, none⟩ = some (.int .i64 b2) := (hb2.cell (p := ⟨w.heap.size + 1, 1, none⟩) (by simp <;> omega)).trans (by go_simp)
              have s2_1_2 : w2.cell? ⟨w.heap.size + 1, 2, none⟩ = some (.int .i64 b3) := (hb2.cell (p := ⟨w.heap.size + 1, 2, none⟩) (by simp <;> omega)).trans (by go_simp)
              have s2_1_3 : w2.cell? ⟨w.heap.size + 1, 3, none⟩ = some (.int .i64 b4) := (hb2.cell (p := ⟨w.heap.size + 1, 3, none⟩) (by simp <;> omega)).trans (by go_simp)
              have H2 : Below w.heap.size w w2 := (H1.alloc H1.size _).trans (hb2.mono (by have := H1.size; simp <;> omega))
              clear hz1_0 s1_0_0 s1_0_1 s1_0_2 s1_0_3 hz1_1 s1_1_0 s1_1_1 s1_1_2 s1_1_3 hb2 H1
              go_wp2_with fail
              rw [rounds_succ]
              go_wp2_with fail
              refine (HM.out _).mono ?_
              rintro e w3 ⟨rfl, hb3⟩
              have hz3_0 := Nat.lt_of_lt_of_le hz2_0 hb3.size
              have s3_0_0 := (hb3.cell (p := ⟨w.heap.size, 0, none⟩) hz2_0).trans s2_0_0
              have s3_0_1 := (hb3.cell (p := ⟨w.heap.size, 1, none⟩) hz2_0).trans s2_0_1
              have s3_0_2 := (hb3.cell (p := ⟨w.heap.size, 2, none⟩) hz2_0).trans s2_0_2
              have s3_0_3 := (hb3.cell (p := ⟨w.heap.size, 3, none⟩) hz2_0).trans s2_0_3
              have hz3_1 := Nat.lt_of_lt_of_le hz2_1 hb3.size
              have s3_1_0 := (hb3.cell (p := ⟨w.heap.size + 1, 0, none⟩) hz2_1).trans s2_1_0
              have s3_1_1 := (hb3.cell (p := ⟨w.heap.size + 1, 1, none⟩) hz2_1).trans s2_1_1
              have s3_1_2 := (hb3.cell (p := ⟨w.heap.size + 1, 2, none⟩) hz2_1).trans s2_1_2
              have s3_1_3 := (hb3.cell (p := ⟨w.heap.size + 1, 3, none⟩) hz2_1).trans s2_1_3
              have H3 := H2.trans (hb3.mono H2.size)
              clear hz2_0 s2_0_0 s2_0_1 s2_0_2 s2_0_3 hz2_1 s2_1_0 s2_1_1 s2_1_2 s2_1_3 hb3 H2
              go_wp2
              go_ret2
              exact ⟨ret_int2 HV.out.1.symm HV.out.2.symm, H3⟩
            · have HV := Lib.hid (HV1.out (by rw [HR.out, hm, decide_eq_true (show -8388608 ≤ q by omega), decide_eq_true (show q ≤ 8388608 by omega)]; rfl))
              rw [hm] at HM
              clear HE HW HR HV0 HV1 hm
              go_enter Try.func16, Try.ntmps16
              go_wp2_with fail
              refine wp_loop_rounds 3 ?_
              rw [rounds_succ]
              go_wp2_with fail
              refine (HA.out _).mono ?_
              rintro e w1 ⟨rfl, hb1⟩
              have hz1_0 : w.heap.size < w1.heap.size := by have := hb1.size; simp at this; omega
              have s1_0_0 : w1.cell? ⟨w.heap.size, 0, none⟩ = some (.int .i64 a1) := (hb1.cell (p := ⟨w.heap.size, 0, none⟩) (by simp <;> omega)).trans (by go_simp)
              have s1_0_1 : w1.cell? ⟨w.heap.size, 1, none⟩ = some (.int .i64 a2) := (hb1.cell (p := ⟨w.heap.size, 1, none⟩) (by simp <;> omega)).trans (by go_simp)
              have s1_0_2 : w1.cell? ⟨w.heap.size, 2, none⟩ = some (.int .i64 a3) := (hb1.cell (p := ⟨w.heap.size, 2, none⟩) (by simp <;> omega)).trans (by go_simp)
              have s1_0_3 : w1.cell? ⟨w.heap.size, 3, none⟩ = some (.int .i64 a4) := (hb1.cell (p := ⟨w.heap.size, 3, none⟩) (by simp <;> omega)).trans (by go_simp)
              have hz1_1 : w.heap.size + 1 < w1.heap.size := by have := hb1.size; simp at this; omega
              have s1_1_0 : w1.cell? ⟨w.heap.size + 1, 0, none⟩ = some (.int .i64 b1) := (hb1.cell (p := ⟨w.heap.size + 1, 0, none⟩) (by simp <;> omega)).trans (by go_simp)
              have s1_1_1 : w1.cell? ⟨w.heap.size + 1, 1, none⟩ = some (.int .i64 b2) := (hb1.cell (p := ⟨w.heap.size + 1, 1, none⟩) (by simp <;> omega)).trans (by go_simp)
              have s1_1_2 : w1.cell? ⟨w.heap.size + 1, 2, none⟩ = some (.int .i64 b3) := (hb1.cell (p := ⟨w.heap.size + 1, 2, none⟩) (by simp <;> omega)).trans (by go_simp)
              have s1_1_3 : w1.cell? ⟨w.heap.size + 1, 3, none⟩ = some (.int .i64 b4) := (hb1.cell (p := ⟨w.heap.size + 1, 3, none⟩) (by simp <;> omega)).trans (by go_simp)
              have H1 : Below w.heap.size w w1 := ((((Below.refl _ _).alloc (Nat.le_refl _) _).alloc (by simp <;> omega) _).alloc (by simp <;> omega) _).trans (hb1.mono (by simp <;> omega))
              clear hb1
              go_wp2_with fail
              rw [rounds_succ]
              go_wp2_with fail
              refine (HB.out _).mono ?_
              rintro e w2 ⟨rfl, hb2⟩
              have hz2_0 : w.heap.size < w2.heap.size := by have := hb2.size; simp at this; omega
              have s2_0_0 : w2.cell? ⟨w.heap.size, 0, none⟩ = some (.int .i64 a1) := (hb2.cell (p := ⟨w.heap.size, 0, none⟩) (by simp <;> omega)).trans (by go_simp)
              have s2_0_1 : w2.cell? ⟨w.heap.size, 1, none⟩ = some (.int .i64 a2) := (hb2.cell (p := ⟨w.heap.size, 1, none⟩) (by simp <;> omega)).trans (by go_simp)
              have s2_0_2 : w2.cell? ⟨w.heap.size, 2, none⟩ = some (.int .i64 a3) := (hb2.cell (p := ⟨w.heap.size, 2, none⟩) (by simp <;> omega)).trans (by go_simp)
              have s2_0_3 : w2.cell? ⟨w.heap.size, 3, none⟩ = some (.int .i64 a4) := (hb2.cell (p := ⟨w.heap.size, 3, none⟩) (by simp <;> omega)).trans (by go_simp)
              have hz2_1 : w.heap.size + 1 < w2.heap.size := by have := hb2.size; simp at this; omega
              have s2_1_0 : w2.cell? ⟨w.heap.size + 1, 0, none⟩ = some (.int .i64 b1) := (hb2.cell (p := ⟨w.heap.size + 1, 0, none⟩) (by simp <;> omega)).trans (by go_simp)
              have s2_1_1 : w2.cell? ⟨w.heap.size + 1, 1, none⟩ = some (.int .i64 b2) := (hb2.cell (p := ⟨w.heap.size + 1, 1, none⟩) (by simp <;> omega)).trans (by go_simp)
              have s2_1_2 : w2.cell? ⟨w.heap.size + 1, 2, none⟩ = some (.int .i64 b3) := (hb2.cell (p := ⟨w.heap.size + 1, 2, none⟩) (by simp <;> omega)).trans (by go_simp)
              have s2_1_3 : w2.cell? ⟨w.heap.size + 1, 3, none⟩ = some (.int .i64 b4) := (hb2.cell (p := ⟨w.heap.size + 1, 3, none⟩) (by simp <;> omega)).trans (by go_simp)
              have H2 : Below w.heap.size w w2 := (H1.alloc H1.size _).trans (hb2.mono (by have := H1.size; simp <;> omega))
              clear hz1_0 s1_0_0 s1_0_1 s1_0_2 s1_0_3 hz1_1 s1_1_0 s1_1_1 s1_1_2 s1_1_3 hb2 H1
              go_wp2_with fail
              rw [rounds_succ]
              go_wp2_with fail
              refine (HM.out _).mono ?_
              rintro e w3 ⟨rfl, hb3⟩
              have hz3_0 := Nat.lt_of_lt_of_le hz2_0 hb3.size
              have s3_0_0 := (hb3.cell (p := ⟨w.heap.size, 0, none⟩) hz2_0).trans s2_0_0
              have s3_0_1 := (hb3.cell (p := ⟨w.heap.size, 1, none⟩) hz2_0).trans s2_0_1
              have s3_0_2 := (hb3.cell (p := ⟨w.heap.size, 2, none⟩) hz2_0).trans s2_0_2
              have s3_0_3 := (hb3.cell (p := ⟨w.heap.size, 3, none⟩) hz2_0).trans s2_0_3
              have hz3_1 := Nat.lt_of_lt_of_le hz2_1 hb3.size
              have s3_1_0 := (hb3.cell (p := ⟨w.heap.size + 1, 0, none⟩) hz2_1).trans s2_1_0
              have s3_1_1 := (hb3.cell (p := ⟨w.heap.size + 1, 1, none⟩) hz2_1).trans s2_1_1
              have s3_1_2 := (hb3.cell (p := ⟨w.heap.size + 1, 2, none⟩) hz2_1).trans s2_1_2
              have s3_1_3 := (hb3.cell (p := ⟨w.heap.size + 1, 3, none⟩) hz2_1).trans s2_1_3
              have H3 := H2.trans (hb3.mono H2.size)
              clear hz2_0 s2_0_0 s2_0_1 s2_0_2 s2_0_3 hz2_1 s2_1_0 s2_1_1 s2_1_2 s2_1_3 hb3 H2
              go_wp2
              go_ret2
              exact ⟨ret_int2 HV.out.1.symm HV.out.2.symm, H3⟩

/-! ### timed -/
def timedB (t d n : Int) : Bool := decide (0 ≤ t) && decide (t ≤ 1099511627776) && (decide (0 ≤ d) && decide (d ≤ 1099511627776)) && (decide (0 ≤ n) && decide (n ≤ 1099511627776)) && decide (t + 2 * d + n ≤ 1099511627776)
theorem timedB_iff (t d n : Int) : timedB t d n = true ↔ (0 ≤ t ∧ t ≤ 1099511627776) ∧ (0 ≤ d ∧ d ≤ 1099511627776) ∧ (0 ≤ n ∧ n ≤ 1099511627776) ∧ t + 2 * d + n ≤ 1099511627776 := by
  unfold timedB; simp only [Bool.and_eq_true, decide_eq_true_eq]; omega
theorem timed_lims (a0 a1 a2 a3 : Nat) (t d n s : Int) (hs : ((0 ≤ t ∧ t ≤ 1099511627776) ∧ (0 ≤ d ∧ d ≤ 1099511627776) ∧ (0 ≤ n ∧ n ≤ 1099511627776)) → s = t + 2 * d + n) :
    limsOk [⟨a0, t, 0, 1099511627776⟩, ⟨a1, d, 0, 1099511627776⟩, ⟨a2, n, 0, 1099511627776⟩, ⟨a3, s, 0, 1099511627776⟩] = timedB t d n := by
  rw [Bool.eq_iff_iff, timedB_iff]
  simp only [limsOk, Lim.ok, Bool.and_eq_true, decide_eq_true_eq, and_true]
  constructor
  · rintro ⟨h1, h2, h3, h4⟩
    have := hs ⟨h1, h2, h3⟩
    omega
  · rintro ⟨h1, h2, h3, h4⟩
    have := hs ⟨h1, h2, h3⟩
    omega
theorem mem4 {P : Lim → Prop} {a b c d : Lim} (h1 : P a) (h2 : P b) (h3 : P c) (h4 : P d) : ∀ f ∈ [a, b, c, d], P f := by
  intro f hf
  simp only [List.mem_cons, List.not_mem_nil, or_false] at hf
  rcases hf with rfl | rfl | rfl | rfl
  · exact h1
  · exact h2
  · exact h3
  · exact h4
theorem mem1 {P : Lim → Prop} {a : Lim} (h1 : P a) : ∀ f ∈ [a], P f := by
  intro f hf
  simp only [List.mem_cons, List.not_mem_nil, or_false] at hf
  subst hf
  exact h1
set_option maxHeartbeats 1000000 in
theorem timed_any (t d n : Int) (w : World) :
    Calls Try.prog 35 #[.int .i64 t, .int .i64 d, .int .i64 n] w fun e w' => e = .returned (.bool (timedB t d n)) ∧ Below w.heap.size w w' := by
  by_cases hr : (0 ≤ t ∧ t ≤ 1099511627776) ∧ (0 ≤ d ∧ d ≤ 1099511627776) ∧ (0 ≤ n ∧ n ≤ 1099511627776)
  · have HL := Lib.hid fun a0 a1 a2 a3 => timed_lims a0 a1 a2 a3 t d n _ (fun _ => rfl)
    obtain ⟨⟨t0, t1⟩, ⟨d0, d1⟩, n0, n1⟩ := hr
    go_enter Try.func35, Try.ntmps35
    go_wp2_with fail
    refine (in_raw t 0 1099511627776 _).mono ?_
    rintro e w1 ⟨rfl, hb1, i1⟩
    go_wp2_with fail
    refine (in_raw d 0 1099511627776 _).mono ?_
    rintro e w2 ⟨rfl, hb2, i2⟩
    go_wp2_with fail
    refine (in_raw n 0 1099511627776 _).mono ?_
    rintro e w3 ⟨rfl, hb3, i3⟩
    go_wp2_with fail
    refine (in_raw _ 0 1099511627776 _).mono ?_
    rintro e w4 ⟨rfl, hb4, i4⟩
    have HB : Below w.heap.size w w4 := hb1.trans ((hb2.mono hb1.size).trans ((hb3.mono (Nat.le_trans hb1.size hb2.size)).trans (hb4.mono (Nat.le_trans hb1.size (Nat.le_trans hb2.size hb3.size)))))
    have j1 := Lim.below (Lim.below (Lim.below i1 hb2) hb3) hb4
    have j2 := Lim.below (Lim.below i2 hb3) hb4
    have j3 := Lim.below i3 hb4
    have C := fun T => Lib.hid (all_any w4.heap.size 4 _ (w4.alloc (.cells _ T)) rfl (by omega) (LimsW.made _ w4 T (mem4 j1 j2 j3 i4) rfl))
    clear hb1 hb2 hb3 hb4 i1 i2 i3 j1 j2 j3 i4
    go_wp2_with fail
    refine (C _).out.mono ?_
    rintro e w5 ⟨rfl, rfl⟩
    go_wp2
    go_ret
    exact ⟨ret_bool (HL.out _ _ _ _), HB.alloc HB.size _⟩
  · have HL := Lib.hid fun a0 a1 a2 a3 s => timed_lims a0 a1 a2 a3 t d n s (fun h => absurd h hr)
    clear hr
    go_enter Try.func35, Try.ntmps35
    go_wp2_with fail
    refine (in_raw t 0 1099511627776 _).mono ?_
    rintro e w1 ⟨rfl, hb1, i1⟩
    go_wp2_with fail
    refine (in_raw d 0 1099511627776 _).mono ?_
    rintro e w2 ⟨rfl, hb2, i2⟩
    go_wp2_with fail
    refine (in_raw n 0 1099511627776 _).mono ?_
    rintro e w3 ⟨rfl, hb3, i3⟩
    go_wp2_with fail
    refine (in_raw _ 0 1099511627776 _).mono ?_
    rintro e w4 ⟨rfl, hb4, i4⟩
    have HB : Below w.heap.size w w4 := hb1.trans ((hb2.mono hb1.size).trans ((hb3.mono (Nat.le_trans hb1.size hb2.size)).trans (hb4.mono (Nat.le_trans hb1.size (Nat.le_trans hb2.size hb3.size)))))
    have j1 := Lim.below (Lim.below (Lim.below i1 hb2) hb3) hb4
    have j2 := Lim.below (Lim.below i2 hb3) hb4
    have j3 := Lim.below i3 hb4
    have C := fun T => Lib.hid (all_any w4.heap.size 4 _ (w4.alloc (.cells _ T)) rfl (by omega) (LimsW.made _ w4 T (mem4 j1 j2 j3 i4) rfl))
    clear hb1 hb2 hb3 hb4 i1 i2 i3 j1 j2 j3 i4
    go_wp2_with fail
    refine (C _).out.mono ?_
    rintro e w5 ⟨rfl, rfl⟩
    go_wp2
    go_ret
    exact ⟨ret_bool (HL.out _ _ _ _ _), HB.alloc HB.size _⟩
/-! ### RatioBound -/
def rbOk (y : Int) : Bool := decide (1 ≤ y) && decide (y ≤ 4398046511104)
def rbE (y : Int) : Int := if rbOk y then 0 else 2
def rbV (y : Int) : Int := if rbOk y then 82 + -(-2001000000 / y) else 0
set_option maxHeartbeats 1000000 in
theorem ratioBound_any (y : Int) (w : World) :
    Calls Try.prog 25 #[.int .i64 y] w fun e w' => e = .returned (.tuple #[.int .i64 (rbV y), .int .i64 (rbE y)]) ∧ Below w.heap.size w w' := by
  by_cases h1 : 1 ≤ y
  · by_cases h2 : y ≤ 4398046511104
    · have hok : rbOk y = true := by unfold rbOk; simp [h1, h2]
      have HV : Hid (rbV y = 82 + -(-2001000000 / y) ∧ rbE y = 0) := Lib.hid (by unfold rbV rbE; rw [hok]; exact ⟨rfl, rfl⟩)
      have hq := cl_is (a := 2001000000) (b := y) (by omega) (by omega) rfl
      have HC := Lib.hid fun w => Calls.atIB (ceildiv_any 2001000000 y w) hq.1 hq.2
      have hbd : 0 ≤ -(-2001000000 / y) ∧ -(-2001000000 / y) ≤ 2001000000 := by
        have b1 : -2001000000 / y ≤ 0 := by
          have := Int.ediv_le_ediv (show 0 < y by omega) (show (-2001000000 : Int) ≤ 0 by omega)
          rwa [Int.zero_ediv] at this
        have b2 : -2001000000 ≤ -2001000000 / y := (Int.le_ediv_iff_mul_le (show 0 < y by omega)).2 (by
          have := Int.mul_le_mul_of_nonneg_left h1 (show (0 : Int) ≤ 2001000000 by omega)
          omega)
        omega
      obtain ⟨v, hv⟩ : ∃ v, -(-2001000000 / y) = v := ⟨_, rfl⟩
      rw [hv] at HV HC hbd
      clear hv hok hq
      obtain ⟨v0, v1⟩ := hbd
      go_enter Try.func25, Try.ntmps25
      go_wp2_with (go_at_call 39; refine (HC.out _).mono ?_; rintro e w' ⟨rfl, hb⟩)
      go_ret2
      exact ⟨ret_int2 HV.out.1.symm HV.out.2.symm, hb⟩
    · have HV : Hid (rbV y = 0 ∧ rbE y = 2) := Lib.hid (by unfold rbV rbE rbOk; simp [h2])
      have h3 : 4398046511104 < y := by omega
      go_enter Try.func25, Try.ntmps25
      go_wp2
      go_ret2
      exact ⟨ret_int2 HV.out.1.symm HV.out.2.symm, Below.refl _ _⟩
  · have HV : Hid (rbV y = 0 ∧ rbE y = 2) := Lib.hid (by unfold rbV rbE rbOk; simp [h1])
    have h3 : y < 1 := by omega
    go_enter Try.func25, Try.ntmps25
    go_wp2
    go_ret2
    exact ⟨ret_int2 HV.out.1.symm HV.out.2.symm, Below.refl _ _⟩
/-! ### DelayBound -/
def dbOk (p d n : Int) : Bool := decide (0 ≤ p) && decide (p ≤ 200000) && timedB 0 d n
def dbE (p d n : Int) : Int := if dbOk p d n then 0 else 2
def dbV (p d n : Int) : Int := if dbOk p d n then -(-(-((-(2 * d + n)) * p / 1000000000) + -((-n) * p / 1000000000)) / 2) else 0
set_option maxHeartbeats 1000000 in
theorem delayBound_any (p d n : Int) (w : World) :
    Calls Try.prog 23 #[.int .i64 p, .int .i64 d, .int .i64 n] w fun e w' => e = .returned (.tuple #[.int .i64 (dbV p d n), .int .i64 (dbE p d n)]) ∧ Below w.heap.size w w' := by
  have HL : Hid (∀ a, limsOk [⟨a, p, 0, 200000⟩] = (decide (0 ≤ p) && decide (p ≤ 200000))) := Lib.hid fun a => by simp [limsOk, Lim.ok]
  cases hp : decide (0 ≤ p) && decide (p ≤ 200000)
  · have HV : Hid (dbV p d n = 0 ∧ dbE p d n = 2) := Lib.hid (by unfold dbV dbE dbOk; rw [hp]; exact ⟨rfl, rfl⟩)
    rw [hp] at HL
    clear hp
    go_enter Try.func23, Try.ntmps23
    go_wp2_with fail
    refine (in_raw p 0 200000 _).mono ?_
    rintro e w1 ⟨rfl, hb1, i1⟩
    have C := fun T => all_any w1.heap.size 1 _ (w1.alloc (.cells _ T)) rfl (by omega) (LimsW.made _ w1 T (mem1 i1) rfl)
    rw [HL.out] at C
    have C := fun T => Lib.hid (C T)
    go_wp2_with fail
    refine (C _).out.mono ?_
    rintro e w2 ⟨rfl, rfl⟩
    go_wp2
    go_ret2
    exact ⟨ret_int2 HV.out.1.symm HV.out.2.symm, hb1.alloc hb1.size _⟩
  · rw [hp] at HL
    have HT := Lib.hid fun w => timed_any 0 d n w
    cases ht : timedB 0 d n
    · have HV : Hid (dbV p d n = 0 ∧ dbE p d n = 2) := Lib.hid (by unfold dbV dbE dbOk; rw [hp, ht]; exact ⟨rfl, rfl⟩)
      rw [ht] at HT
      clear hp ht
      go_enter Try.func23, Try.ntmps23
      go_wp2_with fail
      refine (in_raw p 0 200000 _).mono ?_
      rintro e w1 ⟨rfl, hb1, i1⟩
      have C := fun T => all_any w1.heap.size 1 _ (w1.alloc (.cells _ T)) rfl (by omega) (LimsW.made _ w1 T (mem1 i1) rfl)
      rw [HL.out] at C
      have C := fun T => Lib.hid (C T)
      go_wp2_with fail
      refine (C _).out.mono ?_
      rintro e w2 ⟨rfl, rfl⟩
      go_wp2_with fail
      refine (HT.out _).mono ?_
      rintro e w3 ⟨rfl, hb3⟩
      go_wp2
      go_ret2
      exact ⟨ret_int2 HV.out.1.symm HV.out.2.symm, (hb1.alloc hb1.size _).trans (hb3.mono (by have := hb1.size; simp <;> omega))⟩
    · have HV : Hid (dbV p d n = -(-(-((-(2 * d + n)) * p / 1000000000) + -((-n) * p / 1000000000)) / 2) ∧ dbE p d n = 0) := Lib.hid (by unfold dbV dbE dbOk; rw [hp, ht]; exact ⟨rfl, rfl⟩)
      rw [ht] at HT
      rw [timedB_iff] at ht
      rw [Bool.and_eq_true, decide_eq_true_eq, decide_eq_true_eq] at hp
      obtain ⟨p0, p1⟩ := hp
      obtain ⟨-, ⟨d0, d1⟩, ⟨n0, n1⟩, s1⟩ := ht
      have s2 : 2 * d + n ≤ 1099511627776 := by omega
      have k1 : okB p (2 * d + n) = true := by rw [okB_iff]; omega
      have k2 : okB p n = true := by rw [okB_iff]; omega
      have B1 := Lib.hid fun w => Calls.at2 (bound_any p (2 * d + n) w) (show bndV p (2 * d + n) = -((-(2 * d + n)) * p / 1000000000) by unfold bndV; rw [k1]; rfl) (show bndE p (2 * d + n) = 0 by unfold bndE; rw [k1]; rfl)
      have B2 := Lib.hid fun w => Calls.at2 (bound_any p n w) (show bndV p n = -((-n) * p / 1000000000) by unfold bndV; rw [k2]; rfl) (show bndE p n = 0 by unfold bndE; rw [k2]; rfl)
      have m1 := mul_bd (a := -(2 * d + n)) (b := p) (A := 1099511627776) (B := 200000) (by omega) (by omega) (by omega) (by omega)
      have m2 := mul_bd (a := -n) (b := p) (A := 1099511627776) (B := 200000) (by omega) (by omega) (by omega) (by omega)
      obtain ⟨u, hu⟩ : ∃ u, -((-(2 * d + n)) * p / 1000000000) = u := ⟨_, rfl⟩
      obtain ⟨v, hv⟩ : ∃ v, -((-n) * p / 1000000000) = v := ⟨_, rfl⟩
      have u0 : -1125899906842624 ≤ u ∧ u ≤ 500000000000000 := by omega
      have v0 : -1125899906842624 ≤ v ∧ v ≤ 500000000000000 := by omega
      have u1 : -500000000000000 ≤ u := by omega
      have v1 : -500000000000000 ≤ v := by omega
      rw [hu] at B1
      rw [hv] at B2
      rw [hu, hv] at HV
      have hq := cl_is (a := u + v) (b := 2) (by omega) (by omega) rfl
      have HC := Lib.hid fun w => Calls.atIB (ceildiv_any (u + v) 2 w) hq.1 hq.2
      clear hq k1 k2 m1 m2 hu hv
      obtain ⟨-, u2⟩ := u0
      obtain ⟨-, v2⟩ := v0
      have HV2 := HV
      obtain ⟨z, hz⟩ : ∃ z, -(-(u + v) / 2) = z := ⟨_, rfl⟩
      rw [hz] at HV2 HC
      clear hz HV
      go_enter Try.func23, Try.ntmps23
      go_wp2_with fail
      refine (in_raw p 0 200000 _).mono ?_
      rintro e w1 ⟨rfl, hb1, i1⟩
      have C := fun T => all_any w1.heap.size 1 _ (w1.alloc (.cells _ T)) rfl (by omega) (LimsW.made _ w1 T (mem1 i1) rfl)
      rw [HL.out] at C
      have C := fun T => Lib.hid (C T)
      go_wp2_with fail
      refine (C _).out.mono ?_
      rintro e w2 ⟨rfl, rfl⟩
      go_wp2_with fail
      refine (HT.out _).mono ?_
      rintro e w3 ⟨rfl, hb3⟩
      have H3 : Below w.heap.size w w3 := (hb1.alloc hb1.size _).trans (hb3.mono (by have := hb1.size; simp <;> omega))
      clear hb1 hb3 i1 C
      go_wp2_with fail
      refine (B1.out _).mono ?_
      rintro e w4 ⟨rfl, hb4⟩
      have H4 := H3.trans (hb4.mono H3.size)
      go_wp2_with fail
      refine (B2.out _).mono ?_
      rintro e w5 ⟨rfl, hb5⟩
      have H5 := H4.trans (hb5.mono H4.size)
      go_wp2_with fail
      refine (HC.out _).mono ?_
      rintro e w6 ⟨rfl, hb6⟩
      have H6 := H5.trans (hb6.mono H5.size)
      go_wp2
      go_ret2
      exact ⟨ret_int2 HV2.out.1.symm HV2.out.2.symm, H6⟩
end Go.Proofs.Ytelpjmmkaakceaa
