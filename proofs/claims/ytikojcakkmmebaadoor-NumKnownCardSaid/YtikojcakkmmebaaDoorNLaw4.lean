/- NumKnown: the walk of the law. -/
import Derived.Test.YtikojcakkmmebaaDoorWorks01
namespace Go.Proofs.YtikojcakkmmebaaDoor
open Go.RowKit

set_option maxRecDepth 100000 in
set_option maxHeartbeats 4000000 in
theorem nlaw4_walk (w : World) (hT : Hid (Tab w)) : Calls Tryd.prog 10 #[] w fun e w' => e = .returned (.bool true) ∧ Below w.heap.size w w' := by
  have K0 := Lib.hid fun w => Calls.atIB (v' := (-1125899906842624)) (k' := true) (sub_any (-1125899906842624) 0 w) (by decide +kernel) (by decide +kernel)
  have K1 := Lib.hid fun w => Calls.atIB (v' := 0) (k' := false) (sub_any (-1125899906842624) 1 w) (by decide +kernel) (by decide +kernel)
  have K2 := Lib.hid fun w => Calls.atIB (v' := (-1125899906842624)) (k' := true) (mul_any 1125899906842624 (-1) w) (by decide +kernel) (by decide +kernel)
  have K3 := Lib.hid fun w => Calls.atIB (v' := 0) (k' := false) (mul_any (-9223372036854775808) 0 w) (by decide +kernel) (by decide +kernel)
  have K4 := Lib.hid fun w => Calls.atIB (v' := (-1)) (k' := true) (floordiv_any (-1125899906842624) 1125899906842624 w) (by decide +kernel) (by decide +kernel)
  have K5 := Lib.hid fun w => Calls.atIB (v' := 1) (k' := true) (ceildiv_any 1 1125899906842624 w) (by decide +kernel) (by decide +kernel)
  have K6 := Lib.hid fun w => Calls.atIB (v' := 0) (k' := false) (floordiv_any 5 (-1) w) (by decide +kernel) (by decide +kernel)
  have K7 := Lib.hid fun w => Calls.atIB (v' := (-1125899906842623)) (k' := true) (muldiv_any (-1125899906842624) 1125899906842623 1125899906842624 w) (by decide +kernel) (by decide +kernel)
  have K8 := Lib.hid fun w => Calls.atIB (v' := 0) (k' := false) (muldiv_any 1125899906842624 1125899906842624 1125899906842623 w) (by decide +kernel) (by decide +kernel)
  have K9 := Lib.hid fun w => Calls.atIB (v' := 0) (k' := true) (muldiv_any 0 (-1125899906842624) 7 w) (by decide +kernel) (by decide +kernel)
  have K10 := Lib.hid fun b w hT hL => Calls.atIB (v' := 100663296) (k' := true) (lcm_any [33554432, 3, 16777216] 3 3 b 0 w hT rfl (by omega) hL) (by decide +kernel) (by decide +kernel)
  have K11 := Lib.hid fun b w hT hL => Calls.atIB (v' := 0) (k' := false) (lcm_any [1125899906842624, 3] 2 2 b 0 w hT rfl (by omega) hL) (by decide +kernel) (by decide +kernel)
  have K12 := Lib.hid fun b w hT hL => Calls.atIB (v' := 0) (k' := false) (lcm_any [-2] 1 1 b 0 w hT rfl (by omega) hL) (by decide +kernel) (by decide +kernel)
  have K13 := Lib.hid fun b w hT hL => Calls.atIB (v' := 0) (k' := false) (lcm_any [1125899906842625] 1 1 b 0 w hT rfl (by omega) hL) (by decide +kernel) (by decide +kernel)
  have K15 := Lib.hid fun w h => Calls.atI (v' := 1048576) (gcd_any 1125899906842624 1048576 w h) (by decide +kernel)
  have K16 := Lib.hid fun w h => Calls.atI (v' := 9) (gcd_any 0 (-9) w h) (by decide +kernel)
  have K17 := Lib.hid fun w h => Calls.atI (v' := 0) (gcd_any 1125899906842625 3 w h) (by decide +kernel)
  have K18 := Lib.hid fun w h => Calls.atI (v' := 0) (gcd_any (-9223372036854775808) 2 w h) (by decide +kernel)
  have K14 := Lib.hid fun w h => works01 w h
  go_enter Tryd.func10, Tryd.ntmps10
  go_wp2_with (first | (go_at_call 25; refine (is_ok _ _).mono ?_; rintro e w' ⟨rfl, rfl⟩) | (go_at_call 32; refine (no_ok _).mono ?_; rintro e w' ⟨rfl, rfl⟩))
  refine (K0.out _).mono ?_
  rintro e w1 ⟨rfl, hb1⟩
  have T1 := Tab.below hT hb1
  have H1 := hb1
  go_wp2_with (first | (go_at_call 25; refine (is_ok _ _).mono ?_; rintro e w' ⟨rfl, rfl⟩) | (go_at_call 32; refine (no_ok _).mono ?_; rintro e w' ⟨rfl, rfl⟩))
  refine (K1.out _).mono ?_
  rintro e w2 ⟨rfl, hb2⟩
  have T2 := Tab.below T1 hb2
  have H2 := H1.trans (hb2.mono H1.size)
  clear hb2 T1 H1
  go_wp2_with (first | (go_at_call 25; refine (is_ok _ _).mono ?_; rintro e w' ⟨rfl, rfl⟩) | (go_at_call 32; refine (no_ok _).mono ?_; rintro e w' ⟨rfl, rfl⟩))
  refine (K2.out _).mono ?_
  rintro e w3 ⟨rfl, hb3⟩
  have T3 := Tab.below T2 hb3
  have H3 := H2.trans (hb3.mono H2.size)
  clear hb3 T2 H2
  go_wp2_with (first | (go_at_call 25; refine (is_ok _ _).mono ?_; rintro e w' ⟨rfl, rfl⟩) | (go_at_call 32; refine (no_ok _).mono ?_; rintro e w' ⟨rfl, rfl⟩))
  refine (K3.out _).mono ?_
  rintro e w4 ⟨rfl, hb4⟩
  have T4 := Tab.below T3 hb4
  have H4 := H3.trans (hb4.mono H3.size)
  clear hb4 T3 H3
  go_wp2_with (first | (go_at_call 25; refine (is_ok _ _).mono ?_; rintro e w' ⟨rfl, rfl⟩) | (go_at_call 32; refine (no_ok _).mono ?_; rintro e w' ⟨rfl, rfl⟩))
  refine (K4.out _).mono ?_
  rintro e w5 ⟨rfl, hb5⟩
  have T5 := Tab.below T4 hb5
  have H5 := H4.trans (hb5.mono H4.size)
  clear hb5 T4 H4
  go_wp2_with (first | (go_at_call 25; refine (is_ok _ _).mono ?_; rintro e w' ⟨rfl, rfl⟩) | (go_at_call 32; refine (no_ok _).mono ?_; rintro e w' ⟨rfl, rfl⟩))
  refine (K5.out _).mono ?_
  rintro e w6 ⟨rfl, hb6⟩
  have T6 := Tab.below T5 hb6
  have H6 := H5.trans (hb6.mono H5.size)
  clear hb6 T5 H5
  go_wp2_with (first | (go_at_call 25; refine (is_ok _ _).mono ?_; rintro e w' ⟨rfl, rfl⟩) | (go_at_call 32; refine (no_ok _).mono ?_; rintro e w' ⟨rfl, rfl⟩))
  refine (K6.out _).mono ?_
  rintro e w7 ⟨rfl, hb7⟩
  have T7 := Tab.below T6 hb7
  have H7 := H6.trans (hb7.mono H6.size)
  clear hb7 T6 H6
  go_wp2_with (first | (go_at_call 25; refine (is_ok _ _).mono ?_; rintro e w' ⟨rfl, rfl⟩) | (go_at_call 32; refine (no_ok _).mono ?_; rintro e w' ⟨rfl, rfl⟩))
  refine (K7.out _).mono ?_
  rintro e w8 ⟨rfl, hb8⟩
  have T8 := Tab.below T7 hb8
  have H8 := H7.trans (hb8.mono H7.size)
  clear hb8 T7 H7
  go_wp2_with (first | (go_at_call 25; refine (is_ok _ _).mono ?_; rintro e w' ⟨rfl, rfl⟩) | (go_at_call 32; refine (no_ok _).mono ?_; rintro e w' ⟨rfl, rfl⟩))
  refine (K8.out _).mono ?_
  rintro e w9 ⟨rfl, hb9⟩
  have T9 := Tab.below T8 hb9
  have H9 := H8.trans (hb9.mono H8.size)
  clear hb9 T8 H8
  go_wp2_with (first | (go_at_call 25; refine (is_ok _ _).mono ?_; rintro e w' ⟨rfl, rfl⟩) | (go_at_call 32; refine (no_ok _).mono ?_; rintro e w' ⟨rfl, rfl⟩))
  refine (K9.out _).mono ?_
  rintro e w10 ⟨rfl, hb10⟩
  have T10 := Tab.below T9 hb10
  have H10 := H9.trans (hb10.mono H9.size)
  clear hb10 T9 H9
  go_wp2_with (first | (go_at_call 25; refine (is_ok _ _).mono ?_; rintro e w' ⟨rfl, rfl⟩) | (go_at_call 32; refine (no_ok _).mono ?_; rintro e w' ⟨rfl, rfl⟩))
  refine (K10.out w10.heap.size _ (by exact Tab.alloc T10 _) (by exact ints_alloc _ [33554432, 3, 16777216] _)).mono ?_
  rintro e w11 ⟨rfl, hb11⟩
  have T11 := Tab.below (Tab.alloc T10 _) hb11
  have H11 : Below w.heap.size w w11 := (H10.alloc H10.size _).trans (hb11.mono (by have := H10.size; simp; omega))
  clear hb11 T10 H10
  go_wp2_with (first | (go_at_call 25; refine (is_ok _ _).mono ?_; rintro e w' ⟨rfl, rfl⟩) | (go_at_call 32; refine (no_ok _).mono ?_; rintro e w' ⟨rfl, rfl⟩))
  refine (K11.out w11.heap.size _ (by exact Tab.alloc T11 _) (by exact ints_alloc _ [1125899906842624, 3] _)).mono ?_
  rintro e w12 ⟨rfl, hb12⟩
  have T12 := Tab.below (Tab.alloc T11 _) hb12
  have H12 : Below w.heap.size w w12 := (H11.alloc H11.size _).trans (hb12.mono (by have := H11.size; simp; omega))
  clear hb12 T11 H11
  go_wp2_with (first | (go_at_call 25; refine (is_ok _ _).mono ?_; rintro e w' ⟨rfl, rfl⟩) | (go_at_call 32; refine (no_ok _).mono ?_; rintro e w' ⟨rfl, rfl⟩))
  refine (K12.out w12.heap.size _ (by exact Tab.alloc T12 _) (by exact ints_alloc _ [-2] _)).mono ?_
  rintro e w13 ⟨rfl, hb13⟩
  have T13 := Tab.below (Tab.alloc T12 _) hb13
  have H13 : Below w.heap.size w w13 := (H12.alloc H12.size _).trans (hb13.mono (by have := H12.size; simp; omega))
  clear hb13 T12 H12
  go_wp2_with (first | (go_at_call 25; refine (is_ok _ _).mono ?_; rintro e w' ⟨rfl, rfl⟩) | (go_at_call 32; refine (no_ok _).mono ?_; rintro e w' ⟨rfl, rfl⟩))
  refine (K13.out w13.heap.size _ (by exact Tab.alloc T13 _) (by exact ints_alloc _ [1125899906842625] _)).mono ?_
  rintro e w14 ⟨rfl, hb14⟩
  have T14 := Tab.below (Tab.alloc T13 _) hb14
  have H14 : Below w.heap.size w w14 := (H13.alloc H13.size _).trans (hb14.mono (by have := H13.size; simp; omega))
  clear hb14 T13 H13
  go_wp2_with (first | (go_at_call 25; refine (is_ok _ _).mono ?_; rintro e w' ⟨rfl, rfl⟩) | (go_at_call 32; refine (no_ok _).mono ?_; rintro e w' ⟨rfl, rfl⟩))
  refine (K14.out _ (by exact T14)).mono ?_
  rintro e w15 ⟨rfl, hb15⟩
  have T15 := Tab.below T14 hb15
  have H15 := H14.trans (hb15.mono H14.size)
  clear hb15 T14 H14
  go_wp2_with (first | (go_at_call 25; refine (is_ok _ _).mono ?_; rintro e w' ⟨rfl, rfl⟩) | (go_at_call 32; refine (no_ok _).mono ?_; rintro e w' ⟨rfl, rfl⟩))
  refine (K15.out _ (by exact T15)).mono ?_
  rintro e w16 ⟨rfl, hb16⟩
  have T16 := Tab.below T15 hb16
  have H16 := H15.trans (hb16.mono H15.size)
  clear hb16 T15 H15
  go_wp2_with (first | (go_at_call 25; refine (is_ok _ _).mono ?_; rintro e w' ⟨rfl, rfl⟩) | (go_at_call 32; refine (no_ok _).mono ?_; rintro e w' ⟨rfl, rfl⟩))
  refine (K16.out _ (by exact T16)).mono ?_
  rintro e w17 ⟨rfl, hb17⟩
  have T17 := Tab.below T16 hb17
  have H17 := H16.trans (hb17.mono H16.size)
  clear hb17 T16 H16
  go_wp2_with (first | (go_at_call 25; refine (is_ok _ _).mono ?_; rintro e w' ⟨rfl, rfl⟩) | (go_at_call 32; refine (no_ok _).mono ?_; rintro e w' ⟨rfl, rfl⟩))
  refine (K17.out _ (by exact T17)).mono ?_
  rintro e w18 ⟨rfl, hb18⟩
  have T18 := Tab.below T17 hb18
  have H18 := H17.trans (hb18.mono H17.size)
  clear hb18 T17 H17
  go_wp2_with (first | (go_at_call 25; refine (is_ok _ _).mono ?_; rintro e w' ⟨rfl, rfl⟩) | (go_at_call 32; refine (no_ok _).mono ?_; rintro e w' ⟨rfl, rfl⟩))
  refine (K18.out _ (by exact T18)).mono ?_
  rintro e w19 ⟨rfl, hb19⟩
  have T19 := Tab.below T18 hb19
  have H19 := H18.trans (hb19.mono H18.size)
  clear hb19 T18 H18
  go_wp2_with (first | (go_at_call 25; refine (is_ok _ _).mono ?_; rintro e w' ⟨rfl, rfl⟩) | (go_at_call 32; refine (no_ok _).mono ?_; rintro e w' ⟨rfl, rfl⟩))
  go_ret
  exact ⟨rfl, H19⟩
end Go.Proofs.YtikojcakkmmebaaDoor
