/- DelayChecks: the walk of the law. -/
import Derived.Test.YtelpjmmkaakceaaWorks12
namespace Go.Proofs.Ytelpjmmkaakceaa
open Go.RowKit Go.Shelf

set_option maxRecDepth 100000 in
set_option maxHeartbeats 1000000 in
theorem dlaw1_walk (t1 t2 t3 t4 : Int) (w : World) :
    Calls Try.prog 3 #[.agg #[.int .i64 t1, .int .i64 t2, .int .i64 t3, .int .i64 t4]] w fun e w' => e = .returned (.bool true) ∧ Below w.heap.size w w' := by
  cases hok : okX t1 t2 t3 t4
  · have K1 := Lib.hid fun w => Calls.at2 (delay_any t1 t2 t3 t4 w) (show delV t1 t2 t3 t4 = 0 by unfold delV; rw [hok]; rfl) (show delE t1 t2 t3 t4 = 220 by unfold delE; rw [hok]; rfl)
    have K2 := Lib.hid fun w => rrightX_b hok w
    have K3 := Lib.hid fun w => checkX_no hok w
    clear hok
    go_enter Try.func3, Try.ntmps3
    go_wp2_with fail
    refine (works12 _).mono ?_
    rintro e w1 ⟨rfl, hb1⟩
    have hz1_0 : w.heap.size < w1.heap.size := by have := hb1.size; simp at this; omega
    have s1_0_0 : w1.cell? ⟨w.heap.size, 0, none⟩ = some (.int .i64 t1) := (hb1.cell (p := ⟨w.heap.size, 0, none⟩) (by simp <;> omega)).trans (by go_simp)
    have s1_0_1 : w1.cell? ⟨w.heap.size, 1, none⟩ = some (.int .i64 t2) := (hb1.cell (p := ⟨w.heap.size, 1, none⟩) (by simp <;> omega)).trans (by go_simp)
    have s1_0_2 : w1.cell? ⟨w.heap.size, 2, none⟩ = some (.int .i64 t3) := (hb1.cell (p := ⟨w.heap.size, 2, none⟩) (by simp <;> omega)).trans (by go_simp)
    have s1_0_3 : w1.cell? ⟨w.heap.size, 3, none⟩ = some (.int .i64 t4) := (hb1.cell (p := ⟨w.heap.size, 3, none⟩) (by simp <;> omega)).trans (by go_simp)
    have H1 : Below w.heap.size w w1 := ((Below.refl _ _).alloc (Nat.le_refl _) _).trans (hb1.mono (by simp <;> omega))
    clear hb1
    go_wp2_with fail
    refine (K1.out _).mono ?_
    rintro e w2 ⟨rfl, hb2⟩
    have hz2_0 := Nat.lt_of_lt_of_le hz1_0 hb2.size
    have s2_0_0 := (hb2.cell (p := ⟨w.heap.size, 0, none⟩) hz1_0).trans s1_0_0
    have s2_0_1 := (hb2.cell (p := ⟨w.heap.size, 1, none⟩) hz1_0).trans s1_0_1
    have s2_0_2 := (hb2.cell (p := ⟨w.heap.size, 2, none⟩) hz1_0).trans s1_0_2
    have s2_0_3 := (hb2.cell (p := ⟨w.heap.size, 3, none⟩) hz1_0).trans s1_0_3
    have H2 := H1.trans (hb2.mono H1.size)
    clear hz1_0 s1_0_0 s1_0_1 s1_0_2 s1_0_3 hb2 H1
    go_wp2_with fail
    refine (K2.out _).mono ?_
    rintro e w3 ⟨rfl, hb3⟩
    have hz3_0 := Nat.lt_of_lt_of_le hz2_0 hb3.size
    have s3_0_0 := (hb3.cell (p := ⟨w.heap.size, 0, none⟩) hz2_0).trans s2_0_0
    have s3_0_1 := (hb3.cell (p := ⟨w.heap.size, 1, none⟩) hz2_0).trans s2_0_1
    have s3_0_2 := (hb3.cell (p := ⟨w.heap.size, 2, none⟩) hz2_0).trans s2_0_2
    have s3_0_3 := (hb3.cell (p := ⟨w.heap.size, 3, none⟩) hz2_0).trans s2_0_3
    have H3 := H2.trans (hb3.mono H2.size)
    clear hz2_0 s2_0_0 s2_0_1 s2_0_2 s2_0_3 hb3 H2
    go_wp2_with fail
    refine (K3.out _).mono ?_
    rintro e w4 ⟨rfl, hb4⟩
    have hz4_0 := Nat.lt_of_lt_of_le hz3_0 hb4.size
    have s4_0_0 := (hb4.cell (p := ⟨w.heap.size, 0, none⟩) hz3_0).trans s3_0_0
    have s4_0_1 := (hb4.cell (p := ⟨w.heap.size, 1, none⟩) hz3_0).trans s3_0_1
    have s4_0_2 := (hb4.cell (p := ⟨w.heap.size, 2, none⟩) hz3_0).trans s3_0_2
    have s4_0_3 := (hb4.cell (p := ⟨w.heap.size, 3, none⟩) hz3_0).trans s3_0_3
    have H4 := H3.trans (hb4.mono H3.size)
    clear hz3_0 s3_0_0 s3_0_1 s3_0_2 s3_0_3 hb4 H3
    go_wp2
    go_ret
    exact ⟨rfl, H4⟩
  · have K1 := Lib.hid fun w => Calls.at2 (delay_any t1 t2 t3 t4 w) rfl (show delE t1 t2 t3 t4 = 0 by unfold delE; rw [hok]; rfl)
    have K2 := Lib.hid fun w => rrightX_b hok w
    have K3 := Lib.hid fun w => checkX_ok hok w
    have K4 := Lib.hid fun w => rdelay_any hok w
    clear hok
    generalize delV t1 t2 t3 t4 = v at *
    go_enter Try.func3, Try.ntmps3
    go_wp2_with fail
    refine (works12 _).mono ?_
    rintro e w1 ⟨rfl, hb1⟩
    have hz1_0 : w.heap.size < w1.heap.size := by have := hb1.size; simp at this; omega
    have s1_0_0 : w1.cell? ⟨w.heap.size, 0, none⟩ = some (.int .i64 t1) := (hb1.cell (p := ⟨w.heap.size, 0, none⟩) (by simp <;> omega)).trans (by go_simp)
    have s1_0_1 : w1.cell? ⟨w.heap.size, 1, none⟩ = some (.int .i64 t2) := (hb1.cell (p := ⟨w.heap.size, 1, none⟩) (by simp <;> omega)).trans (by go_simp)
    have s1_0_2 : w1.cell? ⟨w.heap.size, 2, none⟩ = some (.int .i64 t3) := (hb1.cell (p := ⟨w.heap.size, 2, none⟩) (by simp <;> omega)).trans (by go_simp)
    have s1_0_3 : w1.cell? ⟨w.heap.size, 3, none⟩ = some (.int .i64 t4) := (hb1.cell (p := ⟨w.heap.size, 3, none⟩) (by simp <;> omega)).trans (by go_simp)
    have H1 : Below w.heap.size w w1 := ((Below.refl _ _).alloc (Nat.le_refl _) _).trans (hb1.mono (by simp <;> omega))
    clear hb1
    go_wp2_with fail
    refine (K1.out _).mono ?_
    rintro e w2 ⟨rfl, hb2⟩
    have hz2_0 := Nat.lt_of_lt_of_le hz1_0 hb2.size
    have s2_0_0 := (hb2.cell (p := ⟨w.heap.size, 0, none⟩) hz1_0).trans s1_0_0
    have s2_0_1 := (hb2.cell (p := ⟨w.heap.size, 1, none⟩) hz1_0).trans s1_0_1
    have s2_0_2 := (hb2.cell (p := ⟨w.heap.size, 2, none⟩) hz1_0).trans s1_0_2
    have s2_0_3 := (hb2.cell (p := ⟨w.heap.size, 3, none⟩) hz1_0).trans s1_0_3
    have H2 := H1.trans (hb2.mono H1.size)
    clear hz1_0 s1_0_0 s1_0_1 s1_0_2 s1_0_3 hb2 H1
    go_wp2_with fail
    refine (K2.out _).mono ?_
    rintro e w3 ⟨rfl, hb3⟩
    have hz3_0 := Nat.lt_of_lt_of_le hz2_0 hb3.size
    have s3_0_0 := (hb3.cell (p := ⟨w.heap.size, 0, none⟩) hz2_0).trans s2_0_0
    have s3_0_1 := (hb3.cell (p := ⟨w.heap.size, 1, none⟩) hz2_0).trans s2_0_1
    have s3_0_2 := (hb3.cell (p := ⟨w.heap.size, 2, none⟩) hz2_0).trans s2_0_2
    have s3_0_3 := (hb3.cell (p := ⟨w.heap.size, 3, none⟩) hz2_0).trans s2_0_3
    have H3 := H2.trans (hb3.mono H2.size)
    clear hz2_0 s2_0_0 s2_0_1 s2_0_2 s2_0_3 hb3 H2
    go_wp2_with fail
    refine (K3.out _).mono ?_
    rintro e w4 ⟨rfl, hb4⟩
    have hz4_0 := Nat.lt_of_lt_of_le hz3_0 hb4.size
    have s4_0_0 := (hb4.cell (p := ⟨w.heap.size, 0, none⟩) hz3_0).trans s3_0_0
    have s4_0_1 := (hb4.cell (p := ⟨w.heap.size, 1, none⟩) hz3_0).trans s3_0_1
    have s4_0_2 := (hb4.cell (p := ⟨w.heap.size, 2, none⟩) hz3_0).trans s3_0_2
    have s4_0_3 := (hb4.cell (p := ⟨w.heap.size, 3, none⟩) hz3_0).trans s3_0_3
    have H4 := H3.trans (hb4.mono H3.size)
    clear hz3_0 s3_0_0 s3_0_1 s3_0_2 s3_0_3 hb4 H3
    go_wp2_with fail
    refine (K4.out _).mono ?_
    rintro e w5 ⟨rfl, hb5⟩
    have hz5_0 := Nat.lt_of_lt_of_le hz4_0 hb5.size
    have s5_0_0 := (hb5.cell (p := ⟨w.heap.size, 0, none⟩) hz4_0).trans s4_0_0
    have s5_0_1 := (hb5.cell (p := ⟨w.heap.size, 1, none⟩) hz4_0).trans s4_0_1
    have s5_0_2 := (hb5.cell (p := ⟨w.heap.size, 2, none⟩) hz4_0).trans s4_0_2
    have s5_0_3 := (hb5.cell (p := ⟨w.heap.size, 3, none⟩) hz4_0).trans s4_0_3
    have H5 := H4.trans (hb5.mono H4.size)
    clear hz4_0 s4_0_0 s4_0_1 s4_0_2 s4_0_3 hb5 H4
    go_wp2
    go_ret
    exact ⟨rfl, H5⟩
end Go.Proofs.Ytelpjmmkaakceaa
