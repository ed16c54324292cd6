/- The chapter's examples of the layer delay hold. -/
import Derived.Test.YtelpjmmkaakceaaRef12b
namespace Go.Proofs.Ytelpjmmkaakceaa
open Go.RowKit Go.Shelf

set_option maxRecDepth 100000 in
set_option maxHeartbeats 2000000 in
theorem works12 (w : World) : Calls Try.prog 11 #[] w fun e w' => e = .returned (.bool true) ∧ Below w.heap.size w w' := by
  have K1 := Lib.hid fun w => Calls.at2 (v' := 5) (e' := 0) (delay_any 100 7 27 131 w) (by decide +kernel) (by decide +kernel)
  have K2 := Lib.hid fun w => Calls.at2 (v' := (-2)) (e' := 0) (delay_any 0 0 4 1 w) (by decide +kernel) (by decide +kernel)
  have K3 := Lib.hid fun w => Calls.at2 (v' := 50000) (e' := 0) (ratio_any 0 0 0 0 1000000 0 1000050 1000000 w) (by decide +kernel) (by decide +kernel)
  have K4 := Lib.hid fun w => Calls.atV (v' := .tuple #[.agg #[.int .i64 10, .int .i64 63, .int .i64 67, .int .i64 20], .int .i64 0]) (meet_any 0 0 50 0 10 3 4 w) (by kernel_rfl)
  have K5 := Lib.hid fun w => Calls.at2 (v' := 2) (e' := 0) (delayBound_any 100000 5000 1000 w) (by decide +kernel) (by decide +kernel)
  have K6 := Lib.hid fun w => Calls.at2 (v' := 2083) (e' := 0) (ratioBound_any 1000000 w) (by decide +kernel) (by decide +kernel)
  have K7 := Lib.hid fun w => Calls.at2 (v' := 0) (e' := 2) (ratioBound_any 0 w) (by decide +kernel) (by decide +kernel)
  have K8 := Lib.hid fun w => Calls.at2 (v' := 0) (e' := 2) (ratio_any 0 0 0 0 0 0 0 0 w) (by decide +kernel) (by decide +kernel)
  have K9 := Lib.hid fun w => Calls.at1 (v' := 220) (checkX_any 1 0 0 0 w) (by decide +kernel)
  go_enter Try.func11, Try.ntmps11
  go_wp2_with fail
  refine (K1.out _).mono ?_
  rintro e w1 ⟨rfl, hb1⟩
  have H1 : Below w.heap.size w w1 := (Below.refl _ _).trans (hb1.mono (by simp <;> omega))
  clear hb1
  go_wp2_with fail
  refine (K2.out _).mono ?_
  rintro e w2 ⟨rfl, hb2⟩
  have H2 := H1.trans (hb2.mono H1.size)
  clear hb2 H1
  go_wp2_with fail
  refine (K3.out _).mono ?_
  rintro e w3 ⟨rfl, hb3⟩
  have H3 := H2.trans (hb3.mono H2.size)
  clear hb3 H2
  go_wp2_with fail
  refine (K4.out _).mono ?_
  rintro e w4 ⟨rfl, hb4⟩
  have H4 := H3.trans (hb4.mono H3.size)
  clear hb4 H3
  go_wp2_with fail
  refine (K5.out _).mono ?_
  rintro e w5 ⟨rfl, hb5⟩
  have hz5_0 : w4.heap.size < w5.heap.size := by have := hb5.size; simp at this; omega
  have s5_0_0 : w5.cell? ⟨w4.heap.size, 0, none⟩ = some (.int .i64 10) := (hb5.cell (p := ⟨w4.heap.size, 0, none⟩) (by simp <;> omega)).trans (by go_simp)
  have s5_0_1 : w5.cell? ⟨w4.heap.size, 1, none⟩ = some (.int .i64 63) := (hb5.cell (p := ⟨w4.heap.size, 1, none⟩) (by simp <;> omega)).trans (by go_simp)
  have s5_0_2 : w5.cell? ⟨w4.heap.size, 2, none⟩ = some (.int .i64 67) := (hb5.cell (p := ⟨w4.heap.size, 2, none⟩) (by simp <;> omega)).trans (by go_simp)
  have s5_0_3 : w5.cell? ⟨w4.heap.size, 3, none⟩ = some (.int .i64 20) := (hb5.cell (p := ⟨w4.heap.size, 3, none⟩) (by simp <;> omega)).trans (by go_simp)
  have H5 : Below w.heap.size w w5 := (H4.alloc H4.size _).trans (hb5.mono (by have := H4.size; simp <;> omega))
  clear hb5 H4
  go_wp2_with fail
  refine (K6.out _).mono ?_
  rintro e w6 ⟨rfl, hb6⟩
  have hz6_0 := Nat.lt_of_lt_of_le hz5_0 hb6.size
  have s6_0_0 := (hb6.cell (p := ⟨w4.heap.size, 0, none⟩) hz5_0).trans s5_0_0
  have s6_0_1 := (hb6.cell (p := ⟨w4.heap.size, 1, none⟩) hz5_0).trans s5_0_1
  have s6_0_2 := (hb6.cell (p := ⟨w4.heap.size, 2, none⟩) hz5_0).trans s5_0_2
  have s6_0_3 := (hb6.cell (p := ⟨w4.heap.size, 3, none⟩) hz5_0).trans s5_0_3
  have H6 := H5.trans (hb6.mono H5.size)
  clear hz5_0 s5_0_0 s5_0_1 s5_0_2 s5_0_3 hb6 H5
  go_wp2_with fail
  refine (K7.out _).mono ?_
  rintro e w7 ⟨rfl, hb7⟩
  have hz7_0 := Nat.lt_of_lt_of_le hz6_0 hb7.size
  have s7_0_0 := (hb7.cell (p := ⟨w4.heap.size, 0, none⟩) hz6_0).trans s6_0_0
  have s7_0_1 := (hb7.cell (p := ⟨w4.heap.size, 1, none⟩) hz6_0).trans s6_0_1
  have s7_0_2 := (hb7.cell (p := ⟨w4.heap.size, 2, none⟩) hz6_0).trans s6_0_2
  have s7_0_3 := (hb7.cell (p := ⟨w4.heap.size, 3, none⟩) hz6_0).trans s6_0_3
  have H7 := H6.trans (hb7.mono H6.size)
  clear hz6_0 s6_0_0 s6_0_1 s6_0_2 s6_0_3 hb7 H6
  go_wp2_with fail
  refine (K8.out _).mono ?_
  rintro e w8 ⟨rfl, hb8⟩
  have hz8_0 := Nat.lt_of_lt_of_le hz7_0 hb8.size
  have s8_0_0 := (hb8.cell (p := ⟨w4.heap.size, 0, none⟩) hz7_0).trans s7_0_0
  have s8_0_1 := (hb8.cell (p := ⟨w4.heap.size, 1, none⟩) hz7_0).trans s7_0_1
  have s8_0_2 := (hb8.cell (p := ⟨w4.heap.size, 2, none⟩) hz7_0).trans s7_0_2
  have s8_0_3 := (hb8.cell (p := ⟨w4.heap.size, 3, none⟩) hz7_0).trans s7_0_3
  have H8 := H7.trans (hb8.mono H7.size)
  clear hz7_0 s7_0_0 s7_0_1 s7_0_2 s7_0_3 hb8 H7
  go_wp2_with fail
  refine (K9.out _).mono ?_
  rintro e w9 ⟨rfl, hb9⟩
  have hz9_0 := Nat.lt_of_lt_of_le hz8_0 hb9.size
  have s9_0_0 := (hb9.cell (p := ⟨w4.heap.size, 0, none⟩) hz8_0).trans s8_0_0
  have s9_0_1 := (hb9.cell (p := ⟨w4.heap.size, 1, none⟩) hz8_0).trans s8_0_1
  have s9_0_2 := (hb9.cell (p := ⟨w4.heap.size, 2, none⟩) hz8_0).trans s8_0_2
  have s9_0_3 := (hb9.cell (p := ⟨w4.heap.size, 3, none⟩) hz8_0).trans s8_0_3
  have H9 := H8.trans (hb9.mono H8.size)
  clear hz8_0 s8_0_0 s8_0_1 s8_0_2 s8_0_3 hb9 H8
  go_wp2
  go_ret
  exact ⟨rfl, H9⟩
end Go.Proofs.Ytelpjmmkaakceaa
