/- The chapter's examples of the layer servo hold. -/
import Derived.Test.YtkbepdhggfijbaaServo3
import Derived.Shelf.Abstract
namespace Go.Proofs.Ytkbepdhggfijbaa
open Go.RowKit Go.Shelf

theorem firstS_of {L M p m : Int} {k : Nat} (h : okS L M p = true) (hk : k ≤ 8796093022209) (h1 : k = 0 ∨ atS L M p ((k : Int) - 4398046511105) < m) (h2 : k = 8796093022209 ∨ m ≤ atS L M p ((k : Int) - 4398046511104)) : FirstS L M p m k := by
  refine ⟨hk, fun i hi => ⟨fun g => ?_, fun g => ?_⟩⟩
  · rcases Nat.lt_or_ge i k with q | q
    · rcases h1 with rfl | h1
      · omega
      · have := atS_le h (show (i : Int) - 4398046511104 ≤ (k : Int) - 4398046511105 by omega); omega
    · exact q
  · rcases h2 with rfl | h2
    · omega
    · exact Int.le_trans h2 (atS_le h (by omega))
theorem Calls.at2 {f : Nat} {args : Array Value} {w : World} {v e v' e' : Int} (h : Calls Try.prog f args w fun x w' => x = .returned (.tuple #[.int .i64 v, .int .i64 e]) ∧ Below w.heap.size w w') (hv : v = v') (he : e = e') :
    Calls Try.prog f args w fun x w' => x = .returned (.tuple #[.int .i64 v', .int .i64 e']) ∧ Below w.heap.size w w' := by subst hv he; exact h
theorem Calls.at1 {f : Nat} {args : Array Value} {w : World} {v v' : Int} (h : Calls Try.prog f args w fun x w' => x = .returned (.int .i64 v) ∧ Below w.heap.size w w') (hv : v = v') :
    Calls Try.prog f args w fun x w' => x = .returned (.int .i64 v') ∧ Below w.heap.size w w' := by subst hv; exact h
theorem Calls.atV {f : Nat} {args : Array Value} {w : World} {v v' : Value} (h : Calls Try.prog f args w fun x w' => x = .returned v ∧ Below w.heap.size w w') (hv : v = v') :
    Calls Try.prog f args w fun x w' => x = .returned v' ∧ Below w.heap.size w w' := by subst hv; exact h
set_option maxRecDepth 100000 in
set_option maxHeartbeats 2000000 in
theorem works13 (w : World) : Calls Try.prog 11 #[] w fun e w' => e = .returned (.bool true) ∧ Below w.heap.size w w' := by
  have K1 := Lib.hid fun w => Calls.at2 (v' := 5000) (e' := 0) (time_s 100 5000 2000000 100 w) (by decide +kernel) (by decide +kernel)
  have K2 := Lib.hid fun w => Calls.at2 (v' := 6000) (e' := 0) (time_s 100 5000 2000000 1099 w) (by decide +kernel) (by decide +kernel)
  have K3 := Lib.hid fun w => Calls.at2 (v' := 4998) (e' := 0) (time_s 100 5000 2000000 99 w) (by decide +kernel) (by decide +kernel)
  have K4 := Lib.hid fun w => Calls.at2 (v' := 1099) (e' := 0) (when_any 100 5000 2000000 6000 4398046512203 w (fun h => firstS_of h (by omega) (Or.inr (by decide +kernel)) (Or.inr (by decide +kernel)))) (by decide +kernel) (by decide +kernel)
  have K5 := Lib.hid fun w => Calls.at2 (v' := 101) (e' := 0) (when_any 100 5000 2000000 5001 4398046511205 w (fun h => firstS_of h (by omega) (Or.inr (by decide +kernel)) (Or.inr (by decide +kernel)))) (by decide +kernel) (by decide +kernel)
  have K6 := Lib.hid fun w => Calls.atV (v' := .tuple #[.agg #[.int .i64 1100, .int .i64 6010, .int .i64 0], .int .i64 8, .int .i64 0]) (sync_any 100 5000 2000000 1100 6010 0 w) (by kernel_rfl)
  have K7 := Lib.hid fun w => Calls.at2 (v' := 8) (e' := 0) (sbound_any 5 0 0 w) (by decide +kernel) (by decide +kernel)
  have K8 := Lib.hid fun w => Calls.at2 (v' := 103) (e' := 0) (sbound_any 0 1000000000 18 w) (by decide +kernel) (by decide +kernel)
  have K9 := Lib.hid fun w => Calls.at2 (v' := 4) (e' := 0) (sbound_any 0 1 0 w) (by decide +kernel) (by decide +kernel)
  have K10 := Lib.hid fun w => Calls.atV (v' := .tuple #[.agg #[.int .i64 0, .int .i64 0, .int .i64 0], .int .i64 0, .int .i64 2]) (sync_any 100 5000 2000000 99 0 0 w) (by kernel_rfl)
  have K11 := Lib.hid fun w => Calls.at2 (v' := 0) (e' := 2) (sbound_any (-1) 0 0 w) (by decide +kernel) (by decide +kernel)
  have K12 := Lib.hid fun w => Calls.at1 (v' := 230) (scheck_any 0 0 8388609 w) (by decide +kernel)
  go_enter Try.func11, Try.ntmps11
  go_wp2_with fail
  refine (K1.out _).mono ?_
  rintro e w1 ⟨rfl, hb1⟩
  have hz1 : w.heap.size < w1.heap.size := by have := hb1.size; simp at this; omega
  have s1_0 : w1.cell? ⟨w.heap.size, 0, none⟩ = some (.int .i64 100) := (hb1.cell (p := ⟨w.heap.size, 0, none⟩) (by simp)).trans (by go_simp)
  have s1_1 : w1.cell? ⟨w.heap.size, 1, none⟩ = some (.int .i64 5000) := (hb1.cell (p := ⟨w.heap.size, 1, none⟩) (by simp)).trans (by go_simp)
  have s1_2 : w1.cell? ⟨w.heap.size, 2, none⟩ = some (.int .i64 2000000) := (hb1.cell (p := ⟨w.heap.size, 2, none⟩) (by simp)).trans (by go_simp)
  have H1 : Below w.heap.size w w1 := ((Below.refl _ _).alloc (Nat.le_refl _) _).trans (hb1.mono (by simp <;> omega))
  clear hb1
  go_wp2_with fail
  refine (K2.out _).mono ?_
  rintro e w2 ⟨rfl, hb2⟩
  have hz2 := Nat.lt_of_lt_of_le hz1 hb2.size
  have s2_0 := (hb2.cell (p := ⟨w.heap.size, 0, none⟩) hz1).trans s1_0
  have s2_1 := (hb2.cell (p := ⟨w.heap.size, 1, none⟩) hz1).trans s1_1
  have s2_2 := (hb2.cell (p := ⟨w.heap.size, 2, none⟩) hz1).trans s1_2
  have H2 := H1.trans (hb2.mono H1.size)
  clear hb2 s1_0 s1_1 s1_2 hz1
  go_wp2_with fail
  refine (K3.out _).mono ?_
  rintro e w3 ⟨rfl, hb3⟩
  have hz3 := Nat.lt_of_lt_of_le hz2 hb3.size
  have s3_0 := (hb3.cell (p := ⟨w.heap.size, 0, none⟩) hz2).trans s2_0
  have s3_1 := (hb3.cell (p := ⟨w.heap.size, 1, none⟩) hz2).trans s2_1
  have s3_2 := (hb3.cell (p := ⟨w.heap.size, 2, none⟩) hz2).trans s2_2
  have H3 := H2.trans (hb3.mono H2.size)
  clear hb3 s2_0 s2_1 s2_2 hz2
  go_wp2_with fail
  refine (K4.out _).mono ?_
  rintro e w4 ⟨rfl, hb4⟩
  have hz4 := Nat.lt_of_lt_of_le hz3 hb4.size
  have s4_0 := (hb4.cell (p := ⟨w.heap.size, 0, none⟩) hz3).trans s3_0
  have s4_1 := (hb4.cell (p := ⟨w.heap.size, 1, none⟩) hz3).trans s3_1
  have s4_2 := (hb4.cell (p := ⟨w.heap.size, 2, none⟩) hz3).trans s3_2
  have H4 := H3.trans (hb4.mono H3.size)
  clear hb4 s3_0 s3_1 s3_2 hz3
  go_wp2_with fail
  refine (K5.out _).mono ?_
  rintro e w5 ⟨rfl, hb5⟩
  have hz5 := Nat.lt_of_lt_of_le hz4 hb5.size
  have s5_0 := (hb5.cell (p := ⟨w.heap.size, 0, none⟩) hz4).trans s4_0
  have s5_1 := (hb5.cell (p := ⟨w.heap.size, 1, none⟩) hz4).trans s4_1
  have s5_2 := (hb5.cell (p := ⟨w.heap.size, 2, none⟩) hz4).trans s4_2
  have H5 := H4.trans (hb5.mono H4.size)
  clear hb5 s4_0 s4_1 s4_2 hz4
  go_wp2_with fail
  refine (K6.out _).mono ?_
  rintro e w6 ⟨rfl, hb6⟩
  have hz6 := Nat.lt_of_lt_of_le hz5 hb6.size
  have s6_0 := (hb6.cell (p := ⟨w.heap.size, 0, none⟩) hz5).trans s5_0
  have s6_1 := (hb6.cell (p := ⟨w.heap.size, 1, none⟩) hz5).trans s5_1
  have s6_2 := (hb6.cell (p := ⟨w.heap.size, 2, none⟩) hz5).trans s5_2
  have H6 := H5.trans (hb6.mono H5.size)
  clear hb6 s5_0 s5_1 s5_2 hz5
  go_wp2_with fail
  refine (K7.out _).mono ?_
  rintro e w7 ⟨rfl, hb7⟩
  have hz7 : w.heap.size < w7.heap.size := by have := hb7.size; simp at this; omega
  have s7_0 : w7.cell? ⟨w.heap.size, 0, none⟩ = some (.int .i64 100) := (hb7.cell (p := ⟨w.heap.size, 0, none⟩) (by simp <;> omega)).trans (by go_simp)
  have s7_1 : w7.cell? ⟨w.heap.size, 1, none⟩ = some (.int .i64 5000) := (hb7.cell (p := ⟨w.heap.size, 1, none⟩) (by simp <;> omega)).trans (by go_simp)
  have s7_2 : w7.cell? ⟨w.heap.size, 2, none⟩ = some (.int .i64 2000000) := (hb7.cell (p := ⟨w.heap.size, 2, none⟩) (by simp <;> omega)).trans (by go_simp)
  have hn7 : w6.heap.size < w7.heap.size := by have := hb7.size; simp at this; omega
  have n7_0 : w7.cell? ⟨w6.heap.size, 0, none⟩ = some (.int .i64 1100) := (hb7.cell (p := ⟨w6.heap.size, 0, none⟩) (by simp <;> omega)).trans (by go_simp)
  have n7_1 : w7.cell? ⟨w6.heap.size, 1, none⟩ = some (.int .i64 6010) := (hb7.cell (p := ⟨w6.heap.size, 1, none⟩) (by simp <;> omega)).trans (by go_simp)
  have n7_2 : w7.cell? ⟨w6.heap.size, 2, none⟩ = some (.int .i64 0) := (hb7.cell (p := ⟨w6.heap.size, 2, none⟩) (by simp <;> omega)).trans (by go_simp)
  have H7 : Below w.heap.size w w7 := (H6.alloc H6.size _).trans (hb7.mono (by have := H6.size; simp; omega))
  clear hb7 s6_0 s6_1 s6_2 hz6
  go_wp2_with fail
  refine (K8.out _).mono ?_
  rintro e w8 ⟨rfl, hb8⟩
  have hz8 := Nat.lt_of_lt_of_le hz7 hb8.size
  have s8_0 := (hb8.cell (p := ⟨w.heap.size, 0, none⟩) hz7).trans s7_0
  have s8_1 := (hb8.cell (p := ⟨w.heap.size, 1, none⟩) hz7).trans s7_1
  have s8_2 := (hb8.cell (p := ⟨w.heap.size, 2, none⟩) hz7).trans s7_2
  have hn8 := Nat.lt_of_lt_of_le hn7 hb8.size
  have n8_0 := (hb8.cell (p := ⟨w6.heap.size, 0, none⟩) hn7).trans n7_0
  have n8_1 := (hb8.cell (p := ⟨w6.heap.size, 1, none⟩) hn7).trans n7_1
  have n8_2 := (hb8.cell (p := ⟨w6.heap.size, 2, none⟩) hn7).trans n7_2
  have H8 := H7.trans (hb8.mono H7.size)
  clear hb8 s7_0 s7_1 s7_2 hz7 n7_0 n7_1 n7_2 hn7
  go_wp2_with fail
  refine (K9.out _).mono ?_
  rintro e w9 ⟨rfl, hb9⟩
  have hz9 := Nat.lt_of_lt_of_le hz8 hb9.size
  have s9_0 := (hb9.cell (p := ⟨w.heap.size, 0, none⟩) hz8).trans s8_0
  have s9_1 := (hb9.cell (p := ⟨w.heap.size, 1, none⟩) hz8).trans s8_1
  have s9_2 := (hb9.cell (p := ⟨w.heap.size, 2, none⟩) hz8).trans s8_2
  have hn9 := Nat.lt_of_lt_of_le hn8 hb9.size
  have n9_0 := (hb9.cell (p := ⟨w6.heap.size, 0, none⟩) hn8).trans n8_0
  have n9_1 := (hb9.cell (p := ⟨w6.heap.size, 1, none⟩) hn8).trans n8_1
  have n9_2 := (hb9.cell (p := ⟨w6.heap.size, 2, none⟩) hn8).trans n8_2
  have H9 := H8.trans (hb9.mono H8.size)
  clear hb9 s8_0 s8_1 s8_2 hz8 n8_0 n8_1 n8_2 hn8
  go_wp2_with fail
  refine (K10.out _).mono ?_
  rintro e w10 ⟨rfl, hb10⟩
  have hz10 := Nat.lt_of_lt_of_le hz9 hb10.size
  have s10_0 := (hb10.cell (p := ⟨w.heap.size, 0, none⟩) hz9).trans s9_0
  have s10_1 := (hb10.cell (p := ⟨w.heap.size, 1, none⟩) hz9).trans s9_1
  have s10_2 := (hb10.cell (p := ⟨w.heap.size, 2, none⟩) hz9).trans s9_2
  have hn10 := Nat.lt_of_lt_of_le hn9 hb10.size
  have n10_0 := (hb10.cell (p := ⟨w6.heap.size, 0, none⟩) hn9).trans n9_0
  have n10_1 := (hb10.cell (p := ⟨w6.heap.size, 1, none⟩) hn9).trans n9_1
  have n10_2 := (hb10.cell (p := ⟨w6.heap.size, 2, none⟩) hn9).trans n9_2
  have H10 := H9.trans (hb10.mono H9.size)
  clear hb10 s9_0 s9_1 s9_2 hz9 n9_0 n9_1 n9_2 hn9
  go_wp2_with fail
  refine (K11.out _).mono ?_
  rintro e w11 ⟨rfl, hb11⟩
  have hz11 : w.heap.size < w11.heap.size := by have := hb11.size; simp at this; omega
  have s11_0 : w11.cell? ⟨w.heap.size, 0, none⟩ = some (.int .i64 100) := (hb11.cell (p := ⟨w.heap.size, 0, none⟩) (by simp <;> omega)).trans (by go_simp)
  have s11_1 : w11.cell? ⟨w.heap.size, 1, none⟩ = some (.int .i64 5000) := (hb11.cell (p := ⟨w.heap.size, 1, none⟩) (by simp <;> omega)).trans (by go_simp)
  have s11_2 : w11.cell? ⟨w.heap.size, 2, none⟩ = some (.int .i64 2000000) := (hb11.cell (p := ⟨w.heap.size, 2, none⟩) (by simp <;> omega)).trans (by go_simp)
  have hn11 : w6.heap.size < w11.heap.size := by have := hb11.size; simp at this; omega
  have n11_0 : w11.cell? ⟨w6.heap.size, 0, none⟩ = some (.int .i64 1100) := (hb11.cell (p := ⟨w6.heap.size, 0, none⟩) (by simp <;> omega)).trans (by go_simp)
  have n11_1 : w11.cell? ⟨w6.heap.size, 1, none⟩ = some (.int .i64 6010) := (hb11.cell (p := ⟨w6.heap.size, 1, none⟩) (by simp <;> omega)).trans (by go_simp)
  have n11_2 : w11.cell? ⟨w6.heap.size, 2, none⟩ = some (.int .i64 0) := (hb11.cell (p := ⟨w6.heap.size, 2, none⟩) (by simp <;> omega)).trans (by go_simp)
  have H11 : Below w.heap.size w w11 := (H10.alloc H10.size _).trans (hb11.mono (by have := H10.size; simp; omega))
  clear hb11 s10_0 s10_1 s10_2 hz10 n10_0 n10_1 n10_2 hn10
  go_wp2_with fail
  refine (K12.out _).mono ?_
  rintro e w12 ⟨rfl, hb12⟩
  have hz12 := Nat.lt_of_lt_of_le hz11 hb12.size
  have s12_0 := (hb12.cell (p := ⟨w.heap.size, 0, none⟩) hz11).trans s11_0
  have s12_1 := (hb12.cell (p := ⟨w.heap.size, 1, none⟩) hz11).trans s11_1
  have s12_2 := (hb12.cell (p := ⟨w.heap.size, 2, none⟩) hz11).trans s11_2
  have hn12 := Nat.lt_of_lt_of_le hn11 hb12.size
  have n12_0 := (hb12.cell (p := ⟨w6.heap.size, 0, none⟩) hn11).trans n11_0
  have n12_1 := (hb12.cell (p := ⟨w6.heap.size, 1, none⟩) hn11).trans n11_1
  have n12_2 := (hb12.cell (p := ⟨w6.heap.size, 2, none⟩) hn11).trans n11_2
  have H12 := H11.trans (hb12.mono H11.size)
  clear hb12 s11_0 s11_1 s11_2 hz11 n11_0 n11_1 n11_2 hn11
  go_wp2
  go_ret
  exact ⟨rfl, H12⟩
end Go.Proofs.Ytkbepdhggfijbaa
