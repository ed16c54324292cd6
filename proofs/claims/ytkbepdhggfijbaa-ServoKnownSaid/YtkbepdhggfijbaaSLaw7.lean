/- ServoKnown: the walk of the law. -/
import Derived.Test.YtkbepdhggfijbaaWorks13
namespace Go.Proofs.Ytkbepdhggfijbaa
open Go.RowKit Go.Shelf

set_option maxRecDepth 100000 in
set_option maxHeartbeats 2000000 in
theorem slaw7_walk (w : World) :
    Calls Try.prog 9 #[] w fun e w' => e = .returned (.bool true) ∧ Below w.heap.size w w' := by
  have K1 := Lib.hid fun w => Calls.at2 (v' := 13267926509606) (e' := 0) (time_s (-4398046511104) 4398046511104 8388608 4398046511104 w) (by decide +kernel) (by decide +kernel)
  have K2 := Lib.hid fun w => Calls.at2 (v' := 0) (e' := 2) (time_s (-4398046511104) 4398046511104 8388608 4398046511105 w) (by decide +kernel) (by decide +kernel)
  have K3 := Lib.hid fun w => Calls.at2 (v' := 0) (e' := 230) (time_s 4398046511105 0 0 4398046511105 w) (by decide +kernel) (by decide +kernel)
  have K4 := Lib.hid fun w => Calls.at2 (v' := (-4398046511104)) (e' := 0) (when_any (-4398046511104) 4398046511104 8388608 (-4611686018427387904) 0 w (fun h => firstS_of h (by omega) (Or.inl rfl) (Or.inr (by decide +kernel)))) (by decide +kernel) (by decide +kernel)
  have K5 := Lib.hid fun w => Calls.at2 (v' := 0) (e' := 4) (when_any (-4398046511104) 4398046511104 8388608 13267926509607 8796093022209 w (fun h => firstS_of h (by omega) (Or.inr (by decide +kernel)) (Or.inl rfl))) (by decide +kernel) (by decide +kernel)
  have K6 := Lib.hid fun w => Calls.atV (v' := .tuple #[.agg #[.int .i64 0, .int .i64 0, .int .i64 0], .int .i64 0, .int .i64 2]) (sync_any (-4398046511104) 4398046511104 8388608 (-4398046511104) 0 (-8388609) w) (by kernel_rfl)
  have K7 := Lib.hid fun w => Calls.atV (v' := .tuple #[.agg #[.int .i64 0, .int .i64 0, .int .i64 0], .int .i64 0, .int .i64 230]) (sync_any 0 (-4398046511105) 0 (-1) 0 0 w) (by kernel_rfl)
  have K8 := Lib.hid fun w => Calls.at2 (v' := 4434940359895) (e' := 0) (sbound_any 4398046511104 4398046511104 8388608 w) (by decide +kernel) (by decide +kernel)
  have K9 := Lib.hid fun w => Calls.at2 (v' := 0) (e' := 2) (sbound_any 0 0 8388609 w) (by decide +kernel) (by decide +kernel)
  go_enter Try.func9, Try.ntmps9
  go_wp2_with fail
  refine (works13 _).mono ?_
  rintro e w1 ⟨rfl, H0⟩
  go_wp2_with fail
  refine (K1.out _).mono ?_
  rintro e v1 ⟨rfl, hb1⟩
  have hz1 : w1.heap.size < v1.heap.size := by have := hb1.size; simp at this; omega
  have s1_0 : v1.cell? ⟨w1.heap.size, 0, none⟩ = some (.int .i64 (-4398046511104)) := (hb1.cell (p := ⟨w1.heap.size, 0, none⟩) (by simp)).trans (by go_simp)
  have s1_1 : v1.cell? ⟨w1.heap.size, 1, none⟩ = some (.int .i64 4398046511104) := (hb1.cell (p := ⟨w1.heap.size, 1, none⟩) (by simp)).trans (by go_simp)
  have s1_2 : v1.cell? ⟨w1.heap.size, 2, none⟩ = some (.int .i64 8388608) := (hb1.cell (p := ⟨w1.heap.size, 2, none⟩) (by simp)).trans (by go_simp)
  have H1 : Below w.heap.size w v1 := (H0.alloc H0.size _).trans (hb1.mono (by have := H0.size; simp; omega))
  clear hb1
  go_wp2_with fail
  refine (K2.out _).mono ?_
  rintro e v2 ⟨rfl, hb2⟩
  have hz2 := Nat.lt_of_lt_of_le hz1 hb2.size
  have s2_0 := (hb2.cell (p := ⟨w1.heap.size, 0, none⟩) hz1).trans s1_0
  have s2_1 := (hb2.cell (p := ⟨w1.heap.size, 1, none⟩) hz1).trans s1_1
  have s2_2 := (hb2.cell (p := ⟨w1.heap.size, 2, none⟩) hz1).trans s1_2
  have H2 := H1.trans (hb2.mono H1.size)
  clear hb2 s1_0 s1_1 s1_2 hz1
  go_wp2_with fail
  refine (K3.out _).mono ?_
  rintro e v3 ⟨rfl, hb3⟩
  have hz3 := Nat.lt_of_lt_of_le hz2 hb3.size
  have s3_0 := (hb3.cell (p := ⟨w1.heap.size, 0, none⟩) hz2).trans s2_0
  have s3_1 := (hb3.cell (p := ⟨w1.heap.size, 1, none⟩) hz2).trans s2_1
  have s3_2 := (hb3.cell (p := ⟨w1.heap.size, 2, none⟩) hz2).trans s2_2
  have H3 := H2.trans (hb3.mono H2.size)
  clear hb3 s2_0 s2_1 s2_2 hz2
  go_wp2_with fail
  refine (K4.out _).mono ?_
  rintro e v4 ⟨rfl, hb4⟩
  have hz4 := Nat.lt_of_lt_of_le hz3 hb4.size
  have s4_0 := (hb4.cell (p := ⟨w1.heap.size, 0, none⟩) hz3).trans s3_0
  have s4_1 := (hb4.cell (p := ⟨w1.heap.size, 1, none⟩) hz3).trans s3_1
  have s4_2 := (hb4.cell (p := ⟨w1.heap.size, 2, none⟩) hz3).trans s3_2
  have H4 := H3.trans (hb4.mono H3.size)
  clear hb4 s3_0 s3_1 s3_2 hz3
  go_wp2_with fail
  refine (K5.out _).mono ?_
  rintro e v5 ⟨rfl, hb5⟩
  have hz5 := Nat.lt_of_lt_of_le hz4 hb5.size
  have s5_0 := (hb5.cell (p := ⟨w1.heap.size, 0, none⟩) hz4).trans s4_0
  have s5_1 := (hb5.cell (p := ⟨w1.heap.size, 1, none⟩) hz4).trans s4_1
  have s5_2 := (hb5.cell (p := ⟨w1.heap.size, 2, none⟩) hz4).trans s4_2
  have H5 := H4.trans (hb5.mono H4.size)
  clear hb5 s4_0 s4_1 s4_2 hz4
  go_wp2_with fail
  refine (K6.out _).mono ?_
  rintro e v6 ⟨rfl, hb6⟩
  have hz6 := Nat.lt_of_lt_of_le hz5 hb6.size
  have s6_0 := (hb6.cell (p := ⟨w1.heap.size, 0, none⟩) hz5).trans s5_0
  have s6_1 := (hb6.cell (p := ⟨w1.heap.size, 1, none⟩) hz5).trans s5_1
  have s6_2 := (hb6.cell (p := ⟨w1.heap.size, 2, none⟩) hz5).trans s5_2
  have H6 := H5.trans (hb6.mono H5.size)
  clear hb6 s5_0 s5_1 s5_2 hz5
  go_wp2_with fail
  refine (K7.out _).mono ?_
  rintro e v7 ⟨rfl, hb7⟩
  have H7 : Below w.heap.size w v7 := (H6.alloc H6.size _).trans (hb7.mono (by have := H6.size; simp; omega))
  clear hb7
  go_wp2_with fail
  refine (K8.out _).mono ?_
  rintro e v8 ⟨rfl, hb8⟩
  have H8 : Below w.heap.size w v8 := (H7.alloc H7.size _).trans (hb8.mono (by have := H7.size; simp; omega))
  clear hb8
  go_wp2_with fail
  refine (K9.out _).mono ?_
  rintro e v9 ⟨rfl, hb9⟩
  have H9 := H8.trans (hb9.mono H8.size)
  go_wp2
  go_ret
  exact ⟨rfl, H9⟩
end Go.Proofs.Ytkbepdhggfijbaa
