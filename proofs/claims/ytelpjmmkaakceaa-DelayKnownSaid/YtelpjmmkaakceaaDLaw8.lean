/- DelayKnown: the walk of the law. -/
import Derived.Test.YtelpjmmkaakceaaWorks12
namespace Go.Proofs.Ytelpjmmkaakceaa
open Go.RowKit Go.Shelf

set_option maxRecDepth 100000 in
set_option maxHeartbeats 2000000 in
theorem dlaw8_walk (w : World) : Calls Try.prog 10 #[] w fun e w' => e = .returned (.bool true) ∧ Below w.heap.size w w' := by
  have K1 := Lib.hid fun w => Calls.at2 (v' := 4398046511104) (e' := 0) (delay_any (-4398046511104) 4398046511104 4398046511104 4398046511104 w) (by decide +kernel) (by decide +kernel)
  have K2 := Lib.hid fun w => Calls.at2 (v' := (-4398046511104)) (e' := 0) (delay_any 0 (-4398046511104) 4398046511104 1 w) (by decide +kernel) (by decide +kernel)
  have K3 := Lib.hid fun w => Calls.at2 (v' := 0) (e' := 6) (ratio_any 0 0 0 0 1 0 2 1 w) (by decide +kernel) (by decide +kernel)
  have K4 := Lib.hid fun w => Calls.at2 (v' := 8388608) (e' := 0) (ratio_any 0 0 0 0 0 0 1008388608 1000000000 w) (by decide +kernel) (by decide +kernel)
  have K5 := Lib.hid fun w => Calls.at2 (v' := 0) (e' := 6) (ratio_any 0 0 0 0 0 0 1008388609 1000000000 w) (by decide +kernel) (by decide +kernel)
  have K6 := Lib.hid fun w => Calls.at2 (v' := (-2)) (e' := 0) (ratio_any 0 0 0 0 0 0 999999999 1000000001 w) (by decide +kernel) (by decide +kernel)
  have K7 := Lib.hid fun w => Calls.at2 (v' := 0) (e' := 220) (ratio_any 1 0 0 0 0 0 0 0 w) (by decide +kernel) (by decide +kernel)
  have K8 := Lib.hid fun w => Calls.atV (v' := .tuple #[.agg #[.int .i64 0, .int .i64 0, .int .i64 0, .int .i64 0], .int .i64 190]) (meet_any 0 200001 0 0 (-1) 0 0 w) (by kernel_rfl)
  have K9 := Lib.hid fun w => Calls.atV (v' := .tuple #[.agg #[.int .i64 0, .int .i64 0, .int .i64 0, .int .i64 0], .int .i64 2]) (meet_any 0 0 0 0 4611686018427387904 4611686018427387904 0 w) (by kernel_rfl)
  have K10 := Lib.hid fun w => Calls.at2 (v' := 0) (e' := 2) (delayBound_any 0 1099511627776 1 w) (by decide +kernel) (by decide +kernel)
  have K11 := Lib.hid fun w => Calls.at2 (v' := 83) (e' := 0) (ratioBound_any 4398046511104 w) (by decide +kernel) (by decide +kernel)
  go_enter Try.func10, Try.ntmps10
  go_wp2_with fail
  refine (works12 _).mono ?_
  rintro e w1 ⟨rfl, hb1⟩
  have H1 : Below w.heap.size w w1 := (Below.refl _ _).trans (hb1.mono (by simp <;> omega))
  clear hb1
  go_wp2_with fail
  refine (K1.out _).mono ?_
  rintro e w2 ⟨rfl, hb2⟩
  have H2 := H1.trans (hb2.mono H1.size)
  clear hb2 H1
  go_wp2_with fail
  refine (K2.out _).mono ?_
  rintro e w3 ⟨rfl, hb3⟩
  have H3 := H2.trans (hb3.mono H2.size)
  clear hb3 H2
  go_wp2_with fail
  refine (K3.out _).mono ?_
  rintro e w4 ⟨rfl, hb4⟩
  have H4 := H3.trans (hb4.mono H3.size)
  clear hb4 H3
  go_wp2_with fail
  refine (K4.out _).mono ?_
  rintro e w5 ⟨rfl, hb5⟩
  have H5 := H4.trans (hb5.mono H4.size)
  clear hb5 H4
  go_wp2_with fail
  refine (K5.out _).mono ?_
  rintro e w6 ⟨rfl, hb6⟩
  have H6 := H5.trans (hb6.mono H5.size)
  clear hb6 H5
  go_wp2_with fail
  refine (K6.out _).mono ?_
  rintro e w7 ⟨rfl, hb7⟩
  have H7 := H6.trans (hb7.mono H6.size)
  clear hb7 H6
  go_wp2_with fail
  refine (K7.out _).mono ?_
  rintro e w8 ⟨rfl, hb8⟩
  have H8 := H7.trans (hb8.mono H7.size)
  clear hb8 H7
  go_wp2_with fail
  refine (K8.out _).mono ?_
  rintro e w9 ⟨rfl, hb9⟩
  have H9 := H8.trans (hb9.mono H8.size)
  clear hb9 H8
  go_wp2_with fail
  refine (K9.out _).mono ?_
  rintro e w10 ⟨rfl, hb10⟩
  have H10 : Below w.heap.size w w10 := (H9.alloc H9.size _).trans (hb10.mono (by have := H9.size; simp <;> omega))
  clear hb10 H9
  go_wp2_with fail
  refine (K10.out _).mono ?_
  rintro e w11 ⟨rfl, hb11⟩
  have H11 : Below w.heap.size w w11 := (H10.alloc H10.size _).trans (hb11.mono (by have := H10.size; simp <;> omega))
  clear hb11 H10
  go_wp2_with fail
  refine (K11.out _).mono ?_
  rintro e w12 ⟨rfl, hb12⟩
  have H12 := H11.trans (hb12.mono H11.size)
  clear hb12 H11
  go_wp2
  go_ret
  exact ⟨rfl, H12⟩
end Go.Proofs.Ytelpjmmkaakceaa
