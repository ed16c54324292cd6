/- PassKnown: the walk of the law. -/
import Derived.Test.YtgdagfiebaebbaaWorks14
namespace Go.Proofs.Ytgdagfiebaebbaa
open Go.RowKit

set_option maxRecDepth 100000 in
set_option maxHeartbeats 8000000 in
theorem plaw6_walk (w : World) : Calls Try.prog 8 #[] w fun e w' => e = .returned (.bool true) ∧ Below w.heap.size w w' := by
  have KW := Lib.hid fun w => works_any w
  have K1 : Hid (∀ w, Calls Try.prog 19 #[.agg #[.int .i64 4398046511104, .int .i64 4398046511104, .int .i64 8388608], .int .i64 0] w fun e w' => e = .returned (.tuple #[.agg #[.int .i64 0, .int .i64 0, .int .i64 0], .int .i64 6]) ∧ Below w.heap.size w w') := Lib.hid fun w => Calls.atV (pset_any 4398046511104 4398046511104 8388608 0 w) (by kernel_rfl)
  have K2 : Hid (∀ w, Calls Try.prog 19 #[.agg #[.int .i64 4398046511104, .int .i64 4398046511104, .int .i64 8388608], .int .i64 4398046511105] w fun e w' => e = .returned (.tuple #[.agg #[.int .i64 0, .int .i64 0, .int .i64 0], .int .i64 2]) ∧ Below w.heap.size w w') := Lib.hid fun w => Calls.atV (pset_any 4398046511104 4398046511104 8388608 4398046511105 w) (by kernel_rfl)
  have K3 : Hid (∀ w, Calls Try.prog 13 #[.agg #[.int .i64 4398046511104, .int .i64 4398046511104, .int .i64 8388608], .int .i64 0, .int .i64 1] w fun e w' => e = .returned (.tuple #[.agg #[.int .i64 0, .int .i64 0, .int .i64 0], .int .i64 6]) ∧ Below w.heap.size w w') := Lib.hid fun w => Calls.atV (parrive_any 4398046511104 4398046511104 8388608 0 1 w) (by kernel_rfl)
  have K4 : Hid (∀ w, Calls Try.prog 13 #[.agg #[.int .i64 4398046511104, .int .i64 4398046511104, .int .i64 8388608], .int .i64 0, .int .i64 (-16777216)] w fun e w' => e = .returned (.tuple #[.agg #[.int .i64 0, .int .i64 0, .int .i64 0], .int .i64 2]) ∧ Below w.heap.size w w') := Lib.hid fun w => Calls.atV (parrive_any 4398046511104 4398046511104 8388608 0 (-16777216) w) (by kernel_rfl)
  have K5 : Hid (∀ w, Calls Try.prog 13 #[.agg #[.int .i64 4398046511104, .int .i64 4398046511104, .int .i64 8388608], .int .i64 0, .int .i64 (-8388608)] w fun e w' => e = .returned (.tuple #[.agg #[.int .i64 4398046511104, .int .i64 4398046511104, .int .i64 0], .int .i64 0]) ∧ Below w.heap.size w w') := Lib.hid fun w => Calls.atV (parrive_any 4398046511104 4398046511104 8388608 0 (-8388608) w) (by kernel_rfl)
  have K6 : Hid (∀ w, Calls Try.prog 13 #[.agg #[.int .i64 4398046511105, .int .i64 0, .int .i64 0], .int .i64 4398046511105, .int .i64 0] w fun e w' => e = .returned (.tuple #[.agg #[.int .i64 0, .int .i64 0, .int .i64 0], .int .i64 240]) ∧ Below w.heap.size w w') := Lib.hid fun w => Calls.atV (parrive_any 4398046511105 0 0 4398046511105 0 w) (by kernel_rfl)
  have K7 : Hid (∀ w, Calls Try.prog 15 #[.agg #[.int .i64 0, .int .i64 0, .int .i64 (-8388609)], .int .i64 (-1)] w fun e w' => e = .returned (.tuple #[.agg #[.int .i64 0, .int .i64 0, .int .i64 0], .int .i64 240]) ∧ Below w.heap.size w w') := Lib.hid fun w => Calls.atV (pleave_any 0 0 (-8388609) (-1) w) (by kernel_rfl)
  have K8 : Hid (∀ w, Calls Try.prog 13 #[.agg #[.int .i64 0, .int .i64 0, .int .i64 0], .int .i64 (-1), .int .i64 (-1)] w fun e w' => e = .returned (.tuple #[.agg #[.int .i64 0, .int .i64 (-1), .int .i64 (-1)], .int .i64 0]) ∧ Below w.heap.size w w') := Lib.hid fun w => Calls.atV (parrive_any 0 0 0 (-1) (-1) w) (by kernel_rfl)
  have K9 : Hid (∀ w, Calls Try.prog 21 #[.agg #[.int .i64 4398046511104, .int .i64 4398046511104, .int .i64 8388608], .int .i64 128, .agg #[.int .i64 0, .int .i64 1], .int .i64 0] w fun e w' => e = .returned (.tuple #[.agg #[.int .i64 0, .int .i64 0, .int .i64 0, .int .i64 0, .int .i64 0, .int .i64 0, .int .i64 0, .int .i64 0, .int .i64 0, .int .i64 0, .int .i64 0, .int .i64 0, .int .i64 0, .int .i64 0, .int .i64 0, .int .i64 0, .int .i64 0], .int .i64 200]) ∧ Below w.heap.size w w') := Lib.hid fun w => Calls.atV (pmsg_any 4398046511104 4398046511104 8388608 128 0 1 0 w) (by kernel_rfl)
  have K10 : Hid (∀ w, Calls Try.prog 21 #[.agg #[.int .i64 0, .int .i64 0, .int .i64 1073741824], .int .i64 128, .agg #[.int .i64 0, .int .i64 0], .int .i64 0] w fun e w' => e = .returned (.tuple #[.agg #[.int .i64 0, .int .i64 0, .int .i64 0, .int .i64 0, .int .i64 0, .int .i64 0, .int .i64 0, .int .i64 0, .int .i64 0, .int .i64 0, .int .i64 0, .int .i64 0, .int .i64 0, .int .i64 0, .int .i64 0, .int .i64 0, .int .i64 0], .int .i64 240]) ∧ Below w.heap.size w w') := Lib.hid fun w => Calls.atV (pmsg_any 0 0 1073741824 128 0 0 0 w) (by kernel_rfl)
  have e11 : Calls Try.prog 24 #[.agg #[.int .i64 0, .int .i64 0, .int .i64 0, .int .i64 0, .int .i64 1, .int .i64 0, .int .i64 0, .int .i64 0, .int .i64 0, .int .i64 0, .int .i64 0, .int .i64 0, .int .i64 0, .int .i64 0, .int .i64 0, .int .i64 0, .int .i64 0]] = Calls Try.prog 24 #[msgV (fun j => if j = 4 then 1 else 0)] := rfl
  have K11 : Hid (∀ w, Calls Try.prog 24 #[.agg #[.int .i64 0, .int .i64 0, .int .i64 0, .int .i64 0, .int .i64 1, .int .i64 0, .int .i64 0, .int .i64 0, .int .i64 0, .int .i64 0, .int .i64 0, .int .i64 0, .int .i64 0, .int .i64 0, .int .i64 0, .int .i64 0, .int .i64 0]] w fun e w' => e = .returned (.tuple #[.agg #[.int .i64 0, .int .i64 0, .int .i64 0], .int .i64 200]) ∧ Below w.heap.size w w') := Lib.hid fun w => by rw [e11]; exact Calls.atV (pof_any (fun j => if j = 4 then 1 else 0) w) (by kernel_rfl)
  clear e11
  have K12 : Hid (∀ w, Calls Try.prog 26 #[.int .i64 0, .int .i64 0, .int .i64 0, .int .i64 8388609] w fun e w' => e = .returned (.tuple #[.int .i64 0, .int .i64 2]) ∧ Below w.heap.size w w') := Lib.hid fun w => Calls.atV (pbound_no 0 0 0 8388609 w (by decide +kernel)) (by kernel_rfl)
  have K13 : Hid (∀ w, Calls Try.prog 26 #[.int .i64 0, .int .i64 0, .int .i64 0, .int .i64 0] w fun e w' => e = .returned (.tuple #[.int .i64 2, .int .i64 0]) ∧ Below w.heap.size w w') := Lib.hid fun w => Calls.atV (pbound_ok 0 0 0 0 w (by decide +kernel)) (by kernel_rfl)
  have Q0 := fun W => info_same 0 0 0 W
  have Q1 := fun W => info_same 4398046511104 4398046511104 0 W
  have Q2 := fun W => info_same 0 (-1) (-1) W
  go_enter Try.func8, Try.ntmps8
  go_wp2_with fail
  refine (KW.out _).mono ?_
  rintro e w1 ⟨rfl, hb1⟩
  have H1 : Below w.heap.size w w1 := (Below.refl _ _).trans (hb1.mono (by simp <;> omega))
  clear hb1
  go_wp2_with fail
  refine (K1.out _).mono ?_
  rintro e w2 ⟨rfl, hb2⟩
  have hz2_0 : w1.heap.size < w2.heap.size := by have := hb2.size; simp at this; omega
  have s2_0_0 : w2.cell? ⟨w1.heap.size, 0, none⟩ = some (.int .i64 4398046511104) := (hb2.cell (p := ⟨w1.heap.size, 0, none⟩) (by simp <;> omega)).trans (by go_simp)
  have s2_0_1 : w2.cell? ⟨w1.heap.size, 1, none⟩ = some (.int .i64 4398046511104) := (hb2.cell (p := ⟨w1.heap.size, 1, none⟩) (by simp <;> omega)).trans (by go_simp)
  have s2_0_2 : w2.cell? ⟨w1.heap.size, 2, none⟩ = some (.int .i64 8388608) := (hb2.cell (p := ⟨w1.heap.size, 2, none⟩) (by simp <;> omega)).trans (by go_simp)
  have H2 : Below w.heap.size w w2 := (H1.alloc H1.size _).trans (hb2.mono (by have := H1.size; simp <;> omega))
  clear hb2 H1
  go_wp2_with fail
  refine (K2.out _).mono ?_
  rintro e w3 ⟨rfl, hb3⟩
  have hz3_0 : w1.heap.size < w3.heap.size := by have := hb3.size; simp at this; omega
  have s3_0_0 : w3.cell? ⟨w1.heap.size, 0, none⟩ = some (.int .i64 4398046511104) := (hb3.cell (p := ⟨w1.heap.size, 0, none⟩) (by simp <;> omega)).trans (by go_simp)
  have s3_0_1 : w3.cell? ⟨w1.heap.size, 1, none⟩ = some (.int .i64 4398046511104) := (hb3.cell (p := ⟨w1.heap.size, 1, none⟩) (by simp <;> omega)).trans (by go_simp)
  have s3_0_2 : w3.cell? ⟨w1.heap.size, 2, none⟩ = some (.int .i64 8388608) := (hb3.cell (p := ⟨w1.heap.size, 2, none⟩) (by simp <;> omega)).trans (by go_simp)
  have H3 : Below w.heap.size w w3 := (H2.alloc H2.size _).trans (hb3.mono (by have := H2.size; simp <;> omega))
  clear hz2_0 s2_0_0 s2_0_1 s2_0_2 hb3 H2
  go_wp2_with fail
  refine (K3.out _).mono ?_
  rintro e w4 ⟨rfl, hb4⟩
  have hz4_0 : w1.heap.size < w4.heap.size := by have := hb4.size; simp at this; omega
  have s4_0_0 : w4.cell? ⟨w1.heap.size, 0, none⟩ = some (.int .i64 4398046511104) := (hb4.cell (p := ⟨w1.heap.size, 0, none⟩) (by simp <;> omega)).trans (by go_simp)
  have s4_0_1 : w4.cell? ⟨w1.heap.size, 1, none⟩ = some (.int .i64 4398046511104) := (hb4.cell (p := ⟨w1.heap.size, 1, none⟩) (by simp <;> omega)).trans (by go_simp)
  have s4_0_2 : w4.cell? ⟨w1.heap.size, 2, none⟩ = some (.int .i64 8388608) := (hb4.cell (p := ⟨w1.heap.size, 2, none⟩) (by simp <;> omega)).trans (by go_simp)
  have H4 : Below w.heap.size w w4 := (H3.alloc H3.size _).trans (hb4.mono (by have := H3.size; simp <;> omega))
  clear hz3_0 s3_0_0 s3_0_1 s3_0_2 hb4 H3
  go_wp2_with fail
  refine (K4.out _).mono ?_
  rintro e w5 ⟨rfl, hb5⟩
  have hz5_0 : w1.heap.size < w5.heap.size := by have := hb5.size; simp at this; omega
  have s5_0_0 : w5.cell? ⟨w1.heap.size, 0, none⟩ = some (.int .i64 4398046511104) := (hb5.cell (p := ⟨w1.heap.size, 0, none⟩) (by simp <;> omega)).trans (by go_simp)
  have s5_0_1 : w5.cell? ⟨w1.heap.size, 1, none⟩ = some (.int .i64 4398046511104) := (hb5.cell (p := ⟨w1.heap.size, 1, none⟩) (by simp <;> omega)).trans (by go_simp)
  have s5_0_2 : w5.cell? ⟨w1.heap.size, 2, none⟩ = some (.int .i64 8388608) := (hb5.cell (p := ⟨w1.heap.size, 2, none⟩) (by simp <;> omega)).trans (by go_simp)
  have H5 : Below w.heap.size w w5 := (H4.alloc H4.size _).trans (hb5.mono (by have := H4.size; simp <;> omega))
  clear hz4_0 s4_0_0 s4_0_1 s4_0_2 hb5 H4
  go_wp2_with fail
  refine (K5.out _).mono ?_
  rintro e w6 ⟨rfl, hb6⟩
  have hz6_0 : w1.heap.size < w6.heap.size := by have := hb6.size; simp at this; omega
  have s6_0_0 : w6.cell? ⟨w1.heap.size, 0, none⟩ = some (.int .i64 4398046511104) := (hb6.cell (p := ⟨w1.heap.size, 0, none⟩) (by simp <;> omega)).trans (by go_simp)
  have s6_0_1 : w6.cell? ⟨w1.heap.size, 1, none⟩ = some (.int .i64 4398046511104) := (hb6.cell (p := ⟨w1.heap.size, 1, none⟩) (by simp <;> omega)).trans (by go_simp)
  have s6_0_2 : w6.cell? ⟨w1.heap.size, 2, none⟩ = some (.int .i64 8388608) := (hb6.cell (p := ⟨w1.heap.size, 2, none⟩) (by simp <;> omega)).trans (by go_simp)
  have hz6_1 : w5.heap.size < w6.heap.size := by have := hb6.size; simp at this; omega
  have s6_1_0 : w6.cell? ⟨w5.heap.size, 0, none⟩ = some (.int .i64 0) := (hb6.cell (p := ⟨w5.heap.size, 0, none⟩) (by simp <;> omega)).trans (by go_simp)
  have s6_1_1 : w6.cell? ⟨w5.heap.size, 1, none⟩ = some (.int .i64 0) := (hb6.cell (p := ⟨w5.heap.size, 1, none⟩) (by simp <;> omega)).trans (by go_simp)
  have s6_1_2 : w6.cell? ⟨w5.heap.size, 2, none⟩ = some (.int .i64 0) := (hb6.cell (p := ⟨w5.heap.size, 2, none⟩) (by simp <;> omega)).trans (by go_simp)
  have H6 : Below w.heap.size w w6 := (H5.alloc H5.size _).trans (hb6.mono (by have := H5.size; simp <;> omega))
  clear hz5_0 s5_0_0 s5_0_1 s5_0_2 hb6 H5
  go_wp2_with fail
  refine (K6.out _).mono ?_
  rintro e w7 ⟨rfl, hb7⟩
  have hz7_0 : w1.heap.size < w7.heap.size := by have := hb7.size; simp at this; omega
  have s7_0_0 : w7.cell? ⟨w1.heap.size, 0, none⟩ = some (.int .i64 4398046511104) := (hb7.cell (p := ⟨w1.heap.size, 0, none⟩) (by simp <;> omega)).trans (by go_simp)
  have s7_0_1 : w7.cell? ⟨w1.heap.size, 1, none⟩ = some (.int .i64 4398046511104) := (hb7.cell (p := ⟨w1.heap.size, 1, none⟩) (by simp <;> omega)).trans (by go_simp)
  have s7_0_2 : w7.cell? ⟨w1.heap.size, 2, none⟩ = some (.int .i64 8388608) := (hb7.cell (p := ⟨w1.heap.size, 2, none⟩) (by simp <;> omega)).trans (by go_simp)
  have hz7_1 : w5.heap.size < w7.heap.size := by have := hb7.size; simp at this; omega
  have s7_1_0 : w7.cell? ⟨w5.heap.size, 0, none⟩ = some (.int .i64 0) := (hb7.cell (p := ⟨w5.heap.size, 0, none⟩) (by simp <;> omega)).trans (by go_simp)
  have s7_1_1 : w7.cell? ⟨w5.heap.size, 1, none⟩ = some (.int .i64 0) := (hb7.cell (p := ⟨w5.heap.size, 1, none⟩) (by simp <;> omega)).trans (by go_simp)
  have s7_1_2 : w7.cell? ⟨w5.heap.size, 2, none⟩ = some (.int .i64 0) := (hb7.cell (p := ⟨w5.heap.size, 2, none⟩) (by simp <;> omega)).trans (by go_simp)
  have hz7_2 : w6.heap.size < w7.heap.size := by have := hb7.size; simp at this; omega
  have s7_2_0 : w7.cell? ⟨w6.heap.size, 0, none⟩ = some (.int .i64 4398046511104) := (hb7.cell (p := ⟨w6.heap.size, 0, none⟩) (by simp <;> omega)).trans (by go_simp)
  have s7_2_1 : w7.cell? ⟨w6.heap.size, 1, none⟩ = some (.int .i64 4398046511104) := (hb7.cell (p := ⟨w6.heap.size, 1, none⟩) (by simp <;> omega)).trans (by go_simp)
  have s7_2_2 : w7.cell? ⟨w6.heap.size, 2, none⟩ = some (.int .i64 0) := (hb7.cell (p := ⟨w6.heap.size, 2, none⟩) (by simp <;> omega)).trans (by go_simp)
  have H7 : Below w.heap.size w w7 := (H6.alloc H6.size _).trans (hb7.mono (by have := H6.size; simp <;> omega))
  clear hz6_0 s6_0_0 s6_0_1 s6_0_2 hz6_1 s6_1_0 s6_1_1 s6_1_2 hb7 H6
  go_wp2_with fail
  refine (K7.out _).mono ?_
  rintro e w8 ⟨rfl, hb8⟩
  have hz8_0 : w1.heap.size < w8.heap.size := by have := hb8.size; simp at this; omega
  have s8_0_0 : w8.cell? ⟨w1.heap.size, 0, none⟩ = some (.int .i64 4398046511104) := (hb8.cell (p := ⟨w1.heap.size, 0, none⟩) (by simp <;> omega)).trans (by go_simp)
  have s8_0_1 : w8.cell? ⟨w1.heap.size, 1, none⟩ = some (.int .i64 4398046511104) := (hb8.cell (p := ⟨w1.heap.size, 1, none⟩) (by simp <;> omega)).trans (by go_simp)
  have s8_0_2 : w8.cell? ⟨w1.heap.size, 2, none⟩ = some (.int .i64 8388608) := (hb8.cell (p := ⟨w1.heap.size, 2, none⟩) (by simp <;> omega)).trans (by go_simp)
  have hz8_1 : w5.heap.size < w8.heap.size := by have := hb8.size; simp at this; omega
  have s8_1_0 : w8.cell? ⟨w5.heap.size, 0, none⟩ = some (.int .i64 0) := (hb8.cell (p := ⟨w5.heap.size, 0, none⟩) (by simp <;> omega)).trans (by go_simp)
  have s8_1_1 : w8.cell? ⟨w5.heap.size, 1, none⟩ = some (.int .i64 0) := (hb8.cell (p := ⟨w5.heap.size, 1, none⟩) (by simp <;> omega)).trans (by go_simp)
  have s8_1_2 : w8.cell? ⟨w5.heap.size, 2, none⟩ = some (.int .i64 0) := (hb8.cell (p := ⟨w5.heap.size, 2, none⟩) (by simp <;> omega)).trans (by go_simp)
  have hz8_2 : w6.heap.size < w8.heap.size := by have := hb8.size; simp at this; omega
  have s8_2_0 : w8.cell? ⟨w6.heap.size, 0, none⟩ = some (.int .i64 4398046511104) := (hb8.cell (p := ⟨w6.heap.size, 0, none⟩) (by simp <;> omega)).trans (by go_simp)
  have s8_2_1 : w8.cell? ⟨w6.heap.size, 1, none⟩ = some (.int .i64 4398046511104) := (hb8.cell (p := ⟨w6.heap.size, 1, none⟩) (by simp <;> omega)).trans (by go_simp)
  have s8_2_2 : w8.cell? ⟨w6.heap.size, 2, none⟩ = some (.int .i64 0) := (hb8.cell (p := ⟨w6.heap.size, 2, none⟩) (by simp <;> omega)).trans (by go_simp)
  have H8 : Below w.heap.size w w8 := (H7.alloc H7.size _).trans (hb8.mono (by have := H7.size; simp <;> omega))
  clear hz7_0 s7_0_0 s7_0_1 s7_0_2 hz7_1 s7_1_0 s7_1_1 s7_1_2 hz7_2 s7_2_0 s7_2_1 s7_2_2 hb8 H7
  go_wp2_with fail
  refine (K8.out _).mono ?_
  rintro e w9 ⟨rfl, hb9⟩
  have hz9_0 : w1.heap.size < w9.heap.size := by have := hb9.size; simp at this; omega
  have s9_0_0 : w9.cell? ⟨w1.heap.size, 0, none⟩ = some (.int .i64 4398046511104) := (hb9.cell (p := ⟨w1.heap.size, 0, none⟩) (by simp <;> omega)).trans (by go_simp)
  have s9_0_1 : w9.cell? ⟨w1.heap.size, 1, none⟩ = some (.int .i64 4398046511104) := (hb9.cell (p := ⟨w1.heap.size, 1, none⟩) (by simp <;> omega)).trans (by go_simp)
  have s9_0_2 : w9.cell? ⟨w1.heap.size, 2, none⟩ = some (.int .i64 8388608) := (hb9.cell (p := ⟨w1.heap.size, 2, none⟩) (by simp <;> omega)).trans (by go_simp)
  have hz9_1 : w5.heap.size < w9.heap.size := by have := hb9.size; simp at this; omega
  have s9_1_0 : w9.cell? ⟨w5.heap.size, 0, none⟩ = some (.int .i64 0) := (hb9.cell (p := ⟨w5.heap.size, 0, none⟩) (by simp <;> omega)).trans (by go_simp)
  have s9_1_1 : w9.cell? ⟨w5.heap.size, 1, none⟩ = some (.int .i64 0) := (hb9.cell (p := ⟨w5.heap.size, 1, none⟩) (by simp <;> omega)).trans (by go_simp)
  have s9_1_2 : w9.cell? ⟨w5.heap.size, 2, none⟩ = some (.int .i64 0) := (hb9.cell (p := ⟨w5.heap.size, 2, none⟩) (by simp <;> omega)).trans (by go_simp)
  have hz9_2 : w6.heap.size < w9.heap.size := by have := hb9.size; simp at this; omega
  have s9_2_0 : w9.cell? ⟨w6.heap.size, 0, none⟩ = some (.int .i64 4398046511104) := (hb9.cell (p := ⟨w6.heap.size, 0, none⟩) (by simp <;> omega)).trans (by go_simp)
  have s9_2_1 : w9.cell? ⟨w6.heap.size, 1, none⟩ = some (.int .i64 4398046511104) := (hb9.cell (p := ⟨w6.heap.size, 1, none⟩) (by simp <;> omega)).trans (by go_simp)
  have s9_2_2 : w9.cell? ⟨w6.heap.size, 2, none⟩ = some (.int .i64 0) := (hb9.cell (p := ⟨w6.heap.size, 2, none⟩) (by simp <;> omega)).trans (by go_simp)
  have H9 : Below w.heap.size w w9 := (H8.alloc H8.size _).trans (hb9.mono (by have := H8.size; simp <;> omega))
  clear hz8_0 s8_0_0 s8_0_1 s8_0_2 hz8_1 s8_1_0 s8_1_1 s8_1_2 hz8_2 s8_2_0 s8_2_1 s8_2_2 hb9 H8
  go_wp2_with fail
  refine (K9.out _).mono ?_
  rintro e w10 ⟨rfl, hb10⟩
  have hz10_0 : w1.heap.size < w10.heap.size := by have := hb10.size; simp at this; omega
  have s10_0_0 : w10.cell? ⟨w1.heap.size, 0, none⟩ = some (.int .i64 4398046511104) := (hb10.cell (p := ⟨w1.heap.size, 0, none⟩) (by simp <;> omega)).trans (by go_simp)
  have s10_0_1 : w10.cell? ⟨w1.heap.size, 1, none⟩ = some (.int .i64 4398046511104) := (hb10.cell (p := ⟨w1.heap.size, 1, none⟩) (by simp <;> omega)).trans (by go_simp)
  have s10_0_2 : w10.cell? ⟨w1.heap.size, 2, none⟩ = some (.int .i64 8388608) := (hb10.cell (p := ⟨w1.heap.size, 2, none⟩) (by simp <;> omega)).trans (by go_simp)
  have hz10_1 : w5.heap.size < w10.heap.size := by have := hb10.size; simp at this; omega
  have s10_1_0 : w10.cell? ⟨w5.heap.size, 0, none⟩ = some (.int .i64 0) := (hb10.cell (p := ⟨w5.heap.size, 0, none⟩) (by simp <;> omega)).trans (by go_simp)
  have s10_1_1 : w10.cell? ⟨w5.heap.size, 1, none⟩ = some (.int .i64 0) := (hb10.cell (p := ⟨w5.heap.size, 1, none⟩) (by simp <;> omega)).trans (by go_simp)
  have s10_1_2 : w10.cell? ⟨w5.heap.size, 2, none⟩ = some (.int .i64 0) := (hb10.cell (p := ⟨w5.heap.size, 2, none⟩) (by simp <;> omega)).trans (by go_simp)
  have hz10_2 : w6.heap.size < w10.heap.size := by have := hb10.size; simp at this; omega
  have s10_2_0 : w10.cell? ⟨w6.heap.size, 0, none⟩ = some (.int .i64 4398046511104) := (hb10.cell (p := ⟨w6.heap.size, 0, none⟩) (by simp <;> omega)).trans (by go_simp)
  have s10_2_1 : w10.cell? ⟨w6.heap.size, 1, none⟩ = some (.int .i64 4398046511104) := (hb10.cell (p := ⟨w6.heap.size, 1, none⟩) (by simp <;> omega)).trans (by go_simp)
  have s10_2_2 : w10.cell? ⟨w6.heap.size, 2, none⟩ = some (.int .i64 0) := (hb10.cell (p := ⟨w6.heap.size, 2, none⟩) (by simp <;> omega)).trans (by go_simp)
  have hz10_3 : w9.heap.size < w10.heap.size := by have := hb10.size; simp at this; omega
  have s10_3_0 : w10.cell? ⟨w9.heap.size, 0, none⟩ = some (.int .i64 0) := (hb10.cell (p := ⟨w9.heap.size, 0, none⟩) (by simp <;> omega)).trans (by go_simp)
  have s10_3_1 : w10.cell? ⟨w9.heap.size, 1, none⟩ = some (.int .i64 (-1)) := (hb10.cell (p := ⟨w9.heap.size, 1, none⟩) (by simp <;> omega)).trans (by go_simp)
  have s10_3_2 : w10.cell? ⟨w9.heap.size, 2, none⟩ = some (.int .i64 (-1)) := (hb10.cell (p := ⟨w9.heap.size, 2, none⟩) (by simp <;> omega)).trans (by go_simp)
  have H10 : Below w.heap.size w w10 := (H9.alloc H9.size _).trans (hb10.mono (by have := H9.size; simp <;> omega))
  clear hz9_0 s9_0_0 s9_0_1 s9_0_2 hz9_1 s9_1_0 s9_1_1 s9_1_2 hz9_2 s9_2_0 s9_2_1 s9_2_2 hb10 H9
  go_wp2_with (first | (refine wpList_store_mid (by exact rfl) _ _ _ (by exact rfl) _ _ _ (by exact rfl) (by exact rfl) (by exact there_msg (msg_at _ _ zero17)) (by kernel_rfl) (by kernel_rfl) ?_))
  refine calls_gen ?_
  rintro w11 hg
  have s11_0_0 : w11.cell? ⟨w1.heap.size, 0, none⟩ = some (.int .i64 4398046511104) := by rw [hg]; exact (setCells_ne _ (Nat.ne_of_lt hz10_0) _).trans ((World.cell?_alloc_lt _ _ _ hz10_0).trans s10_0_0)
  have s11_0_1 : w11.cell? ⟨w1.heap.size, 1, none⟩ = some (.int .i64 4398046511104) := by rw [hg]; exact (setCells_ne _ (Nat.ne_of_lt hz10_0) _).trans ((World.cell?_alloc_lt _ _ _ hz10_0).trans s10_0_1)
  have s11_0_2 : w11.cell? ⟨w1.heap.size, 2, none⟩ = some (.int .i64 8388608) := by rw [hg]; exact (setCells_ne _ (Nat.ne_of_lt hz10_0) _).trans ((World.cell?_alloc_lt _ _ _ hz10_0).trans s10_0_2)
  have s11_1_0 : w11.cell? ⟨w5.heap.size, 0, none⟩ = some (.int .i64 0) := by rw [hg]; exact (setCells_ne _ (Nat.ne_of_lt hz10_1) _).trans ((World.cell?_alloc_lt _ _ _ hz10_1).trans s10_1_0)
  have s11_1_1 : w11.cell? ⟨w5.heap.size, 1, none⟩ = some (.int .i64 0) := by rw [hg]; exact (setCells_ne _ (Nat.ne_of_lt hz10_1) _).trans ((World.cell?_alloc_lt _ _ _ hz10_1).trans s10_1_1)
  have s11_1_2 : w11.cell? ⟨w5.heap.size, 2, none⟩ = some (.int .i64 0) := by rw [hg]; exact (setCells_ne _ (Nat.ne_of_lt hz10_1) _).trans ((World.cell?_alloc_lt _ _ _ hz10_1).trans s10_1_2)
  have s11_2_0 : w11.cell? ⟨w6.heap.size, 0, none⟩ = some (.int .i64 4398046511104) := by rw [hg]; exact (setCells_ne _ (Nat.ne_of_lt hz10_2) _).trans ((World.cell?_alloc_lt _ _ _ hz10_2).trans s10_2_0)
  have s11_2_1 : w11.cell? ⟨w6.heap.size, 1, none⟩ = some (.int .i64 4398046511104) := by rw [hg]; exact (setCells_ne _ (Nat.ne_of_lt hz10_2) _).trans ((World.cell?_alloc_lt _ _ _ hz10_2).trans s10_2_1)
  have s11_2_2 : w11.cell? ⟨w6.heap.size, 2, none⟩ = some (.int .i64 0) := by rw [hg]; exact (setCells_ne _ (Nat.ne_of_lt hz10_2) _).trans ((World.cell?_alloc_lt _ _ _ hz10_2).trans s10_2_2)
  have s11_3_0 : w11.cell? ⟨w9.heap.size, 0, none⟩ = some (.int .i64 0) := by rw [hg]; exact (setCells_ne _ (Nat.ne_of_lt hz10_3) _).trans ((World.cell?_alloc_lt _ _ _ hz10_3).trans s10_3_0)
  have s11_3_1 : w11.cell? ⟨w9.heap.size, 1, none⟩ = some (.int .i64 (-1)) := by rw [hg]; exact (setCells_ne _ (Nat.ne_of_lt hz10_3) _).trans ((World.cell?_alloc_lt _ _ _ hz10_3).trans s10_3_1)
  have s11_3_2 : w11.cell? ⟨w9.heap.size, 2, none⟩ = some (.int .i64 (-1)) := by rw [hg]; exact (setCells_ne _ (Nat.ne_of_lt hz10_3) _).trans ((World.cell?_alloc_lt _ _ _ hz10_3).trans s10_3_2)
  have HX : Below w10.heap.size w10 w11 := by rw [hg]; exact (below_alloc _ _).trans (below_setCells _ _ (Nat.le_refl _) _ _ _)
  have hz11_0 := Nat.lt_of_lt_of_le hz10_0 HX.size
  have hz11_1 := Nat.lt_of_lt_of_le hz10_1 HX.size
  have hz11_2 := Nat.lt_of_lt_of_le hz10_2 HX.size
  have hz11_3 := Nat.lt_of_lt_of_le hz10_3 HX.size
  have H11 := below_step HX H10
  clear hg HX hz10_0 s10_0_0 s10_0_1 s10_0_2 hz10_1 s10_1_0 s10_1_1 s10_1_2 hz10_2 s10_2_0 s10_2_1 s10_2_2 hz10_3 s10_3_0 s10_3_1 s10_3_2 H10
  refine (K10.out _).mono ?_
  rintro e w12 ⟨rfl, hb12⟩
  have hz12_0 := Nat.lt_of_lt_of_le hz11_0 hb12.size
  have s12_0_0 := (hb12.cell (p := ⟨w1.heap.size, 0, none⟩) hz11_0).trans s11_0_0
  have s12_0_1 := (hb12.cell (p := ⟨w1.heap.size, 1, none⟩) hz11_0).trans s11_0_1
  have s12_0_2 := (hb12.cell (p := ⟨w1.heap.size, 2, none⟩) hz11_0).trans s11_0_2
  have hz12_1 := Nat.lt_of_lt_of_le hz11_1 hb12.size
  have s12_1_0 := (hb12.cell (p := ⟨w5.heap.size, 0, none⟩) hz11_1).trans s11_1_0
  have s12_1_1 := (hb12.cell (p := ⟨w5.heap.size, 1, none⟩) hz11_1).trans s11_1_1
  have s12_1_2 := (hb12.cell (p := ⟨w5.heap.size, 2, none⟩) hz11_1).trans s11_1_2
  have hz12_2 := Nat.lt_of_lt_of_le hz11_2 hb12.size
  have s12_2_0 := (hb12.cell (p := ⟨w6.heap.size, 0, none⟩) hz11_2).trans s11_2_0
  have s12_2_1 := (hb12.cell (p := ⟨w6.heap.size, 1, none⟩) hz11_2).trans s11_2_1
  have s12_2_2 := (hb12.cell (p := ⟨w6.heap.size, 2, none⟩) hz11_2).trans s11_2_2
  have hz12_3 := Nat.lt_of_lt_of_le hz11_3 hb12.size
  have s12_3_0 := (hb12.cell (p := ⟨w9.heap.size, 0, none⟩) hz11_3).trans s11_3_0
  have s12_3_1 := (hb12.cell (p := ⟨w9.heap.size, 1, none⟩) hz11_3).trans s11_3_1
  have s12_3_2 := (hb12.cell (p := ⟨w9.heap.size, 2, none⟩) hz11_3).trans s11_3_2
  have H12 := H11.trans (hb12.mono H11.size)
  clear hz11_0 s11_0_0 s11_0_1 s11_0_2 hz11_1 s11_1_0 s11_1_1 s11_1_2 hz11_2 s11_2_0 s11_2_1 s11_2_2 hz11_3 s11_3_0 s11_3_1 s11_3_2 hb12 H11
  go_wp2_with (first | (refine wpList_store_mid (by exact rfl) _ _ _ (by exact rfl) _ _ _ (by exact rfl) (by exact rfl) (by exact there_msg (msg_at _ _ zero17)) (by kernel_rfl) (by kernel_rfl) ?_))
  refine calls_gen ?_
  rintro w13 hg
  have s13_0_0 : w13.cell? ⟨w1.heap.size, 0, none⟩ = some (.int .i64 4398046511104) := by rw [hg]; exact (setCells_ne _ (Nat.ne_of_lt hz12_0) _).trans ((World.cell?_alloc_lt _ _ _ hz12_0).trans s12_0_0)
  have s13_0_1 : w13.cell? ⟨w1.heap.size, 1, none⟩ = some (.int .i64 4398046511104) := by rw [hg]; exact (setCells_ne _ (Nat.ne_of_lt hz12_0) _).trans ((World.cell?_alloc_lt _ _ _ hz12_0).trans s12_0_1)
  have s13_0_2 : w13.cell? ⟨w1.heap.size, 2, none⟩ = some (.int .i64 8388608) := by rw [hg]; exact (setCells_ne _ (Nat.ne_of_lt hz12_0) _).trans ((World.cell?_alloc_lt _ _ _ hz12_0).trans s12_0_2)
  have s13_1_0 : w13.cell? ⟨w5.heap.size, 0, none⟩ = some (.int .i64 0) := by rw [hg]; exact (setCells_ne _ (Nat.ne_of_lt hz12_1) _).trans ((World.cell?_alloc_lt _ _ _ hz12_1).trans s12_1_0)
  have s13_1_1 : w13.cell? ⟨w5.heap.size, 1, none⟩ = some (.int .i64 0) := by rw [hg]; exact (setCells_ne _ (Nat.ne_of_lt hz12_1) _).trans ((World.cell?_alloc_lt _ _ _ hz12_1).trans s12_1_1)
  have s13_1_2 : w13.cell? ⟨w5.heap.size, 2, none⟩ = some (.int .i64 0) := by rw [hg]; exact (setCells_ne _ (Nat.ne_of_lt hz12_1) _).trans ((World.cell?_alloc_lt _ _ _ hz12_1).trans s12_1_2)
  have s13_2_0 : w13.cell? ⟨w6.heap.size, 0, none⟩ = some (.int .i64 4398046511104) := by rw [hg]; exact (setCells_ne _ (Nat.ne_of_lt hz12_2) _).trans ((World.cell?_alloc_lt _ _ _ hz12_2).trans s12_2_0)
  have s13_2_1 : w13.cell? ⟨w6.heap.size, 1, none⟩ = some (.int .i64 4398046511104) := by rw [hg]; exact (setCells_ne _ (Nat.ne_of_lt hz12_2) _).trans ((World.cell?_alloc_lt _ _ _ hz12_2).trans s12_2_1)
  have s13_2_2 : w13.cell? ⟨w6.heap.size, 2, none⟩ = some (.int .i64 0) := by rw [hg]; exact (setCells_ne _ (Nat.ne_of_lt hz12_2) _).trans ((World.cell?_alloc_lt _ _ _ hz12_2).trans s12_2_2)
  have s13_3_0 : w13.cell? ⟨w9.heap.size, 0, none⟩ = some (.int .i64 0) := by rw [hg]; exact (setCells_ne _ (Nat.ne_of_lt hz12_3) _).trans ((World.cell?_alloc_lt _ _ _ hz12_3).trans s12_3_0)
  have s13_3_1 : w13.cell? ⟨w9.heap.size, 1, none⟩ = some (.int .i64 (-1)) := by rw [hg]; exact (setCells_ne _ (Nat.ne_of_lt hz12_3) _).trans ((World.cell?_alloc_lt _ _ _ hz12_3).trans s12_3_1)
  have s13_3_2 : w13.cell? ⟨w9.heap.size, 2, none⟩ = some (.int .i64 (-1)) := by rw [hg]; exact (setCells_ne _ (Nat.ne_of_lt hz12_3) _).trans ((World.cell?_alloc_lt _ _ _ hz12_3).trans s12_3_2)
  have HX : Below w12.heap.size w12 w13 := by rw [hg]; exact (below_alloc _ _).trans (below_setCells _ _ (Nat.le_refl _) _ _ _)
  have hz13_0 := Nat.lt_of_lt_of_le hz12_0 HX.size
  have hz13_1 := Nat.lt_of_lt_of_le hz12_1 HX.size
  have hz13_2 := Nat.lt_of_lt_of_le hz12_2 HX.size
  have hz13_3 := Nat.lt_of_lt_of_le hz12_3 HX.size
  have H13 := below_step HX H12
  clear hg HX hz12_0 s12_0_0 s12_0_1 s12_0_2 hz12_1 s12_1_0 s12_1_1 s12_1_2 hz12_2 s12_2_0 s12_2_1 s12_2_2 hz12_3 s12_3_0 s12_3_1 s12_3_2 H12
  refine (K11.out _).mono ?_
  rintro e w14 ⟨rfl, hb14⟩
  have hz14_0 := Nat.lt_of_lt_of_le hz13_0 hb14.size
  have s14_0_0 := (hb14.cell (p := ⟨w1.heap.size, 0, none⟩) hz13_0).trans s13_0_0
  have s14_0_1 := (hb14.cell (p := ⟨w1.heap.size, 1, none⟩) hz13_0).trans s13_0_1
  have s14_0_2 := (hb14.cell (p := ⟨w1.heap.size, 2, none⟩) hz13_0).trans s13_0_2
  have hz14_1 := Nat.lt_of_lt_of_le hz13_1 hb14.size
  have s14_1_0 := (hb14.cell (p := ⟨w5.heap.size, 0, none⟩) hz13_1).trans s13_1_0
  have s14_1_1 := (hb14.cell (p := ⟨w5.heap.size, 1, none⟩) hz13_1).trans s13_1_1
  have s14_1_2 := (hb14.cell (p := ⟨w5.heap.size, 2, none⟩) hz13_1).trans s13_1_2
  have hz14_2 := Nat.lt_of_lt_of_le hz13_2 hb14.size
  have s14_2_0 := (hb14.cell (p := ⟨w6.heap.size, 0, none⟩) hz13_2).trans s13_2_0
  have s14_2_1 := (hb14.cell (p := ⟨w6.heap.size, 1, none⟩) hz13_2).trans s13_2_1
  have s14_2_2 := (hb14.cell (p := ⟨w6.heap.size, 2, none⟩) hz13_2).trans s13_2_2
  have hz14_3 := Nat.lt_of_lt_of_le hz13_3 hb14.size
  have s14_3_0 := (hb14.cell (p := ⟨w9.heap.size, 0, none⟩) hz13_3).trans s13_3_0
  have s14_3_1 := (hb14.cell (p := ⟨w9.heap.size, 1, none⟩) hz13_3).trans s13_3_1
  have s14_3_2 := (hb14.cell (p := ⟨w9.heap.size, 2, none⟩) hz13_3).trans s13_3_2
  have H14 := H13.trans (hb14.mono H13.size)
  clear hz13_0 s13_0_0 s13_0_1 s13_0_2 hz13_1 s13_1_0 s13_1_1 s13_1_2 hz13_2 s13_2_0 s13_2_1 s13_2_2 hz13_3 s13_3_0 s13_3_1 s13_3_2 hb14 H13
  go_wp2_with fail
  refine (K12.out _).mono ?_
  rintro e w15 ⟨rfl, hb15⟩
  have hz15_0 : w1.heap.size < w15.heap.size := by have := hb15.size; simp at this; omega
  have s15_0_0 : w15.cell? ⟨w1.heap.size, 0, none⟩ = some (.int .i64 4398046511104) := (hb15.cell (p := ⟨w1.heap.size, 0, none⟩) (by simp <;> omega)).trans (by go_simp)
  have s15_0_1 : w15.cell? ⟨w1.heap.size, 1, none⟩ = some (.int .i64 4398046511104) := (hb15.cell (p := ⟨w1.heap.size, 1, none⟩) (by simp <;> omega)).trans (by go_simp)
  have s15_0_2 : w15.cell? ⟨w1.heap.size, 2, none⟩ = some (.int .i64 8388608) := (hb15.cell (p := ⟨w1.heap.size, 2, none⟩) (by simp <;> omega)).trans (by go_simp)
  have hz15_1 : w5.heap.size < w15.heap.size := by have := hb15.size; simp at this; omega
  have s15_1_0 : w15.cell? ⟨w5.heap.size, 0, none⟩ = some (.int .i64 0) := (hb15.cell (p := ⟨w5.heap.size, 0, none⟩) (by simp <;> omega)).trans (by go_simp)
  have s15_1_1 : w15.cell? ⟨w5.heap.size, 1, none⟩ = some (.int .i64 0) := (hb15.cell (p := ⟨w5.heap.size, 1, none⟩) (by simp <;> omega)).trans (by go_simp)
  have s15_1_2 : w15.cell? ⟨w5.heap.size, 2, none⟩ = some (.int .i64 0) := (hb15.cell (p := ⟨w5.heap.size, 2, none⟩) (by simp <;> omega)).trans (by go_simp)
  have hz15_2 : w6.heap.size < w15.heap.size := by have := hb15.size; simp at this; omega
  have s15_2_0 : w15.cell? ⟨w6.heap.size, 0, none⟩ = some (.int .i64 4398046511104) := (hb15.cell (p := ⟨w6.heap.size, 0, none⟩) (by simp <;> omega)).trans (by go_simp)
  have s15_2_1 : w15.cell? ⟨w6.heap.size, 1, none⟩ = some (.int .i64 4398046511104) := (hb15.cell (p := ⟨w6.heap.size, 1, none⟩) (by simp <;> omega)).trans (by go_simp)
  have s15_2_2 : w15.cell? ⟨w6.heap.size, 2, none⟩ = some (.int .i64 0) := (hb15.cell (p := ⟨w6.heap.size, 2, none⟩) (by simp <;> omega)).trans (by go_simp)
  have hz15_3 : w9.heap.size < w15.heap.size := by have := hb15.size; simp at this; omega
  have s15_3_0 : w15.cell? ⟨w9.heap.size, 0, none⟩ = some (.int .i64 0) := (hb15.cell (p := ⟨w9.heap.size, 0, none⟩) (by simp <;> omega)).trans (by go_simp)
  have s15_3_1 : w15.cell? ⟨w9.heap.size, 1, none⟩ = some (.int .i64 (-1)) := (hb15.cell (p := ⟨w9.heap.size, 1, none⟩) (by simp <;> omega)).trans (by go_simp)
  have s15_3_2 : w15.cell? ⟨w9.heap.size, 2, none⟩ = some (.int .i64 (-1)) := (hb15.cell (p := ⟨w9.heap.size, 2, none⟩) (by simp <;> omega)).trans (by go_simp)
  have H15 : Below w.heap.size w w15 := (H14.alloc H14.size _).trans (hb15.mono (by have := H14.size; simp <;> omega))
  clear hz14_0 s14_0_0 s14_0_1 s14_0_2 hz14_1 s14_1_0 s14_1_1 s14_1_2 hz14_2 s14_2_0 s14_2_1 s14_2_2 hz14_3 s14_3_0 s14_3_1 s14_3_2 hb15 H14
  go_wp2_with fail
  refine (K13.out _).mono ?_
  rintro e w16 ⟨rfl, hb16⟩
  have hz16_0 := Nat.lt_of_lt_of_le hz15_0 hb16.size
  have s16_0_0 := (hb16.cell (p := ⟨w1.heap.size, 0, none⟩) hz15_0).trans s15_0_0
  have s16_0_1 := (hb16.cell (p := ⟨w1.heap.size, 1, none⟩) hz15_0).trans s15_0_1
  have s16_0_2 := (hb16.cell (p := ⟨w1.heap.size, 2, none⟩) hz15_0).trans s15_0_2
  have hz16_1 := Nat.lt_of_lt_of_le hz15_1 hb16.size
  have s16_1_0 := (hb16.cell (p := ⟨w5.heap.size, 0, none⟩) hz15_1).trans s15_1_0
  have s16_1_1 := (hb16.cell (p := ⟨w5.heap.size, 1, none⟩) hz15_1).trans s15_1_1
  have s16_1_2 := (hb16.cell (p := ⟨w5.heap.size, 2, none⟩) hz15_1).trans s15_1_2
  have hz16_2 := Nat.lt_of_lt_of_le hz15_2 hb16.size
  have s16_2_0 := (hb16.cell (p := ⟨w6.heap.size, 0, none⟩) hz15_2).trans s15_2_0
  have s16_2_1 := (hb16.cell (p := ⟨w6.heap.size, 1, none⟩) hz15_2).trans s15_2_1
  have s16_2_2 := (hb16.cell (p := ⟨w6.heap.size, 2, none⟩) hz15_2).trans s15_2_2
  have hz16_3 := Nat.lt_of_lt_of_le hz15_3 hb16.size
  have s16_3_0 := (hb16.cell (p := ⟨w9.heap.size, 0, none⟩) hz15_3).trans s15_3_0
  have s16_3_1 := (hb16.cell (p := ⟨w9.heap.size, 1, none⟩) hz15_3).trans s15_3_1
  have s16_3_2 := (hb16.cell (p := ⟨w9.heap.size, 2, none⟩) hz15_3).trans s15_3_2
  have H16 := H15.trans (hb16.mono H15.size)
  clear hz15_0 s15_0_0 s15_0_1 s15_0_2 hz15_1 s15_1_0 s15_1_1 s15_1_2 hz15_2 s15_2_0 s15_2_1 s15_2_2 hz15_3 s15_3_0 s15_3_1 s15_3_2 hb16 H15
  go_wp2
  go_ret
  exact ⟨rfl, H16⟩
end Go.Proofs.Ytgdagfiebaebbaa
