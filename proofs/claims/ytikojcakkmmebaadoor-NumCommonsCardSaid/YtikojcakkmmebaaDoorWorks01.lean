/- The chapter's examples of the layer num hold. -/
import Derived.Test.YtikojcakkmmebaaDoorLcm3
namespace Go.Proofs.YtikojcakkmmebaaDoor
open Go.RowKit

theorem Calls.atIB {f : Nat} {args : Array Value} {w : World} {v v' : Int} {k k' : Bool} (h : Calls Tryd.prog f args w fun x w' => x = .returned (.tuple #[.int .i64 v, .bool k]) ∧ Below w.heap.size w w') (hv : v = v') (hk : k = k') :
    Calls Tryd.prog f args w fun x w' => x = .returned (.tuple #[.int .i64 v', .bool k']) ∧ Below w.heap.size w w' := by subst hv hk; exact h
theorem Calls.atI {f : Nat} {args : Array Value} {w : World} {v v' : Int} (h : Calls Tryd.prog f args w fun x w' => x = .returned (.int .i64 v) ∧ Below w.heap.size w w') (hv : v = v') :
    Calls Tryd.prog f args w fun x w' => x = .returned (.int .i64 v') ∧ Below w.heap.size w w' := by subst hv; exact h
theorem ints_alloc (W : World) (zs : List Int) (T : TypeId) : Hid (IntsAt (W.alloc (.cells (zs.map (Value.int .i64)).toArray T)) W.heap.size 0 zs) := Lib.hid fun k hk => by
  rw [Nat.zero_add, List.getElem?_eq_getElem hk]
  simp [World.cell?_alloc_new, hk]
theorem is_ok (n : Int) (w : World) : Calls Tryd.prog 25 #[.int .i64 n, .bool true, .int .i64 n] w fun e w' => e = .returned (.bool true) ∧ w = w' := by
  go_enter Tryd.func25, Tryd.ntmps25
  go_wp2
  go_ret
  exact ⟨rfl, rfl⟩
theorem no_ok (w : World) : Calls Tryd.prog 32 #[.int .i64 0, .bool false] w fun e w' => e = .returned (.bool true) ∧ w = w' := by
  go_enter Tryd.func32, Tryd.ntmps32
  go_wp2
  go_ret
  exact ⟨rfl, rfl⟩
set_option maxRecDepth 100000 in
set_option maxHeartbeats 4000000 in
theorem works01 (w : World) (hT : Hid (Tab w)) : Calls Tryd.prog 18 #[] w fun e w' => e = .returned (.bool true) ∧ Below w.heap.size w w' := by
  have K0 := Lib.hid fun w => Calls.atIB (v' := 5) (k' := true) (add_any 2 3 w) (by decide +kernel) (by decide +kernel)
  have K1 := Lib.hid fun w => Calls.atIB (v' := 0) (k' := false) (add_any 1125899906842624 1 w) (by decide +kernel) (by decide +kernel)
  have K2 := Lib.hid fun w => Calls.atIB (v' := 0) (k' := false) (add_any 1125899906842625 (-5) w) (by decide +kernel) (by decide +kernel)
  have K3 := Lib.hid fun w => Calls.atIB (v' := (-20)) (k' := true) (mul_any (-4) 5 w) (by decide +kernel) (by decide +kernel)
  have K4 := Lib.hid fun w => Calls.atIB (v' := 1125899906842624) (k' := true) (mul_any 67108864 16777216 w) (by decide +kernel) (by decide +kernel)
  have K5 := Lib.hid fun w => Calls.atIB (v' := 0) (k' := false) (mul_any 67108864 33554432 w) (by decide +kernel) (by decide +kernel)
  have K6 := Lib.hid fun w => Calls.atIB (v' := (-4)) (k' := true) (floordiv_any (-7) 2 w) (by decide +kernel) (by decide +kernel)
  have K7 := Lib.hid fun w => Calls.atIB (v' := (-3)) (k' := true) (ceildiv_any (-7) 2 w) (by decide +kernel) (by decide +kernel)
  have K8 := Lib.hid fun w => Calls.atIB (v' := 1) (k' := true) (mod_any (-7) 2 w) (by decide +kernel) (by decide +kernel)
  have K9 := Lib.hid fun w => Calls.atIB (v' := 0) (k' := false) (mod_any 7 0 w) (by decide +kernel) (by decide +kernel)
  have K10 := Lib.hid fun w => Calls.atIB (v' := 844424930131968) (k' := true) (muldiv_any 1125899906842624 3 4 w) (by decide +kernel) (by decide +kernel)
  have K11 := Lib.hid fun w => Calls.atIB (v' := (-11)) (k' := true) (muldiv_any (-7) 3 2 w) (by decide +kernel) (by decide +kernel)
  have K12 := Lib.hid fun w => Calls.atIB (v' := 1125899906842624) (k' := true) (muldiv_any 1125899906842624 1125899906842624 1125899906842624 w) (by decide +kernel) (by decide +kernel)
  have K13 := Lib.hid fun w => Calls.atIB (v' := 0) (k' := false) (muldiv_any 1125899906842624 2 1 w) (by decide +kernel) (by decide +kernel)
  have K14 := Lib.hid fun w => Calls.atIB (v' := 0) (k' := false) (muldiv_any 1 1 0 w) (by decide +kernel) (by decide +kernel)
  have K15 := Lib.hid fun b w hT hL => Calls.atIB (v' := 60) (k' := true) (lcm_any [4, 6, 10] 3 3 b 0 w hT rfl (by omega) hL) (by decide +kernel) (by decide +kernel)
  have K16 := Lib.hid lcm_nil
  have K17 := Lib.hid fun b w hT hL => Calls.atIB (v' := 0) (k' := false) (lcm_any [3, 0] 2 2 b 0 w hT rfl (by omega) hL) (by decide +kernel) (by decide +kernel)
  have K18 := Lib.hid fun w h => Calls.atI (v' := 6) (gcd_any 12 (-18) w h) (by decide +kernel)
  have K19 := Lib.hid fun w h => Calls.atI (v' := 0) (gcd_any 0 0 w h) (by decide +kernel)
  go_enter Tryd.func18, Tryd.ntmps18
  go_wp2_with (first | (go_at_call 25; refine (is_ok _ _).mono ?_; rintro e w' ⟨rfl, rfl⟩) | (go_at_call 32; refine (no_ok _).mono ?_; rintro e w' ⟨rfl, rfl⟩))
  refine (K0.out _).mono ?_
  rintro e w1 ⟨rfl, hb1⟩
  have T1 := Tab.below hT hb1
  have H1 := hb1
  go_wp2_with (first | (go_at_call 25; refine (is_ok _ _).mono ?_; rintro e w' ⟨rfl, rfl⟩) | (go_at_call 32; refine (no_ok _).mono ?_; rintro e w' ⟨rfl, rfl⟩))
  refine (K1.out _).mono ?_
  rintro e w2 ⟨rfl, hb2⟩
  have T2 := Tab.below T1 hb2
  have H2 := H1.trans (hb2.mono H1.size)
  clear hb2 T1 H1
  go_wp2_with (first | (go_at_call 25; refine (is_ok _ _).mono ?_; rintro e w' ⟨rfl, rfl⟩) | (go_at_call 32; refine (no_ok _).mono ?_; rintro e w' ⟨rfl, rfl⟩))
  refine (K2.out _).mono ?_
  rintro e w3 ⟨rfl, hb3⟩
  have T3 := Tab.below T2 hb3
  have H3 := H2.trans (hb3.mono H2.size)
  clear hb3 T2 H2
  go_wp2_with (first | (go_at_call 25; refine (is_ok _ _).mono ?_; rintro e w' ⟨rfl, rfl⟩) | (go_at_call 32; refine (no_ok _).mono ?_; rintro e w' ⟨rfl, rfl⟩))
  refine (K3.out _).mono ?_
  rintro e w4 ⟨rfl, hb4⟩
  have T4 := Tab.below T3 hb4
  have H4 := H3.trans (hb4.mono H3.size)
  clear hb4 T3 H3
  go_wp2_with (first | (go_at_call 25; refine (is_ok _ _).mono ?_; rintro e w' ⟨rfl, rfl⟩) | (go_at_call 32; refine (no_ok _).mono ?_; rintro e w' ⟨rfl, rfl⟩))
  refine (K4.out _).mono ?_
  rintro e w5 ⟨rfl, hb5⟩
  have T5 := Tab.below T4 hb5
  have H5 := H4.trans (hb5.mono H4.size)
  clear hb5 T4 H4
  go_wp2_with (first | (go_at_call 25; refine (is_ok _ _).mono ?_; rintro e w' ⟨rfl, rfl⟩) | (go_at_call 32; refine (no_ok _).mono ?_; rintro e w' ⟨rfl, rfl⟩))
  refine (K5.out _).mono ?_
  rintro e w6 ⟨rfl, hb6⟩
  have T6 := Tab.below T5 hb6
  have H6 := H5.trans (hb6.mono H5.size)
  clear hb6 T5 H5
  go_wp2_with (first | (go_at_call 25; refine (is_ok _ _).mono ?_; rintro e w' ⟨rfl, rfl⟩) | (go_at_call 32; refine (no_ok _).mono ?_; rintro e w' ⟨rfl, rfl⟩))
  refine (K6.out _).mono ?_
  rintro e w7 ⟨rfl, hb7⟩
  have T7 := Tab.below T6 hb7
  have H7 := H6.trans (hb7.mono H6.size)
  clear hb7 T6 H6
  go_wp2_with (first | (go_at_call 25; refine (is_ok _ _).mono ?_; rintro e w' ⟨rfl, rfl⟩) | (go_at_call 32; refine (no_ok _).mono ?_; rintro e w' ⟨rfl, rfl⟩))
  refine (K7.out _).mono ?_
  rintro e w8 ⟨rfl, hb8⟩
  have T8 := Tab.below T7 hb8
  have H8 := H7.trans (hb8.mono H7.size)
  clear hb8 T7 H7
  go_wp2_with (first | (go_at_call 25; refine (is_ok _ _).mono ?_; rintro e w' ⟨rfl, rfl⟩) | (go_at_call 32; refine (no_ok _).mono ?_; rintro e w' ⟨rfl, rfl⟩))
  refine (K8.out _).mono ?_
  rintro e w9 ⟨rfl, hb9⟩
  have T9 := Tab.below T8 hb9
  have H9 := H8.trans (hb9.mono H8.size)
  clear hb9 T8 H8
  go_wp2_with (first | (go_at_call 25; refine (is_ok _ _).mono ?_; rintro e w' ⟨rfl, rfl⟩) | (go_at_call 32; refine (no_ok _).mono ?_; rintro e w' ⟨rfl, rfl⟩))
  refine (K9.out _).mono ?_
  rintro e w10 ⟨rfl, hb10⟩
  have T10 := Tab.below T9 hb10
  have H10 := H9.trans (hb10.mono H9.size)
  clear hb10 T9 H9
  go_wp2_with (first | (go_at_call 25; refine (is_ok _ _).mono ?_; rintro e w' ⟨rfl, rfl⟩) | (go_at_call 32; refine (no_ok _).mono ?_; rintro e w' ⟨rfl, rfl⟩))
  refine (K10.out _).mono ?_
  rintro e w11 ⟨rfl, hb11⟩
  have T11 := Tab.below T10 hb11
  have H11 := H10.trans (hb11.mono H10.size)
  clear hb11 T10 H10
  go_wp2_with (first | (go_at_call 25; refine (is_ok _ _).mono ?_; rintro e w' ⟨rfl, rfl⟩) | (go_at_call 32; refine (no_ok _).mono ?_; rintro e w' ⟨rfl, rfl⟩))
  refine (K11.out _).mono ?_
  rintro e w12 ⟨rfl, hb12⟩
  have T12 := Tab.below T11 hb12
  have H12 := H11.trans (hb12.mono H11.size)
  clear hb12 T11 H11
  go_wp2_with (first | (go_at_call 25; refine (is_ok _ _).mono ?_; rintro e w' ⟨rfl, rfl⟩) | (go_at_call 32; refine (no_ok _).mono ?_; rintro e w' ⟨rfl, rfl⟩))
  refine (K12.out _).mono ?_
  rintro e w13 ⟨rfl, hb13⟩
  have T13 := Tab.below T12 hb13
  have H13 := H12.trans (hb13.mono H12.size)
  clear hb13 T12 H12
  go_wp2_with (first | (go_at_call 25; refine (is_ok _ _).mono ?_; rintro e w' ⟨rfl, rfl⟩) | (go_at_call 32; refine (no_ok _).mono ?_; rintro e w' ⟨rfl, rfl⟩))
  refine (K13.out _).mono ?_
  rintro e w14 ⟨rfl, hb14⟩
  have T14 := Tab.below T13 hb14
  have H14 := H13.trans (hb14.mono H13.size)
  clear hb14 T13 H13
  go_wp2_with (first | (go_at_call 25; refine (is_ok _ _).mono ?_; rintro e w' ⟨rfl, rfl⟩) | (go_at_call 32; refine (no_ok _).mono ?_; rintro e w' ⟨rfl, rfl⟩))
  refine (K14.out _).mono ?_
  rintro e w15 ⟨rfl, hb15⟩
  have T15 := Tab.below T14 hb15
  have H15 := H14.trans (hb15.mono H14.size)
  clear hb15 T14 H14
  go_wp2_with (first | (go_at_call 25; refine (is_ok _ _).mono ?_; rintro e w' ⟨rfl, rfl⟩) | (go_at_call 32; refine (no_ok _).mono ?_; rintro e w' ⟨rfl, rfl⟩))
  refine (K15.out w15.heap.size _ (by exact Tab.alloc T15 _) (by exact ints_alloc _ [4, 6, 10] _)).mono ?_
  rintro e w16 ⟨rfl, hb16⟩
  have T16 := Tab.below (Tab.alloc T15 _) hb16
  have H16 : Below w.heap.size w w16 := (H15.alloc H15.size _).trans (hb16.mono (by have := H15.size; simp; omega))
  clear hb16 T15 H15
  go_wp2_with (first | (go_at_call 25; refine (is_ok _ _).mono ?_; rintro e w' ⟨rfl, rfl⟩) | (go_at_call 32; refine (no_ok _).mono ?_; rintro e w' ⟨rfl, rfl⟩))
  refine (K16.out _).mono ?_
  rintro e w17 ⟨rfl, hb17⟩
  have T17 := Tab.below T16 hb17
  have H17 := H16.trans (hb17.mono H16.size)
  clear hb17 T16 H16
  go_wp2_with (first | (go_at_call 25; refine (is_ok _ _).mono ?_; rintro e w' ⟨rfl, rfl⟩) | (go_at_call 32; refine (no_ok _).mono ?_; rintro e w' ⟨rfl, rfl⟩))
  refine (K17.out w17.heap.size _ (by exact Tab.alloc T17 _) (by exact ints_alloc _ [3, 0] _)).mono ?_
  rintro e w18 ⟨rfl, hb18⟩
  have T18 := Tab.below (Tab.alloc T17 _) hb18
  have H18 : Below w.heap.size w w18 := (H17.alloc H17.size _).trans (hb18.mono (by have := H17.size; simp; omega))
  clear hb18 T17 H17
  go_wp2_with (first | (go_at_call 25; refine (is_ok _ _).mono ?_; rintro e w' ⟨rfl, rfl⟩) | (go_at_call 32; refine (no_ok _).mono ?_; rintro e w' ⟨rfl, rfl⟩))
  refine (K18.out _ (by exact T18)).mono ?_
  rintro e w19 ⟨rfl, hb19⟩
  have T19 := Tab.below T18 hb19
  have H19 := H18.trans (hb19.mono H18.size)
  clear hb19 T18 H18
  go_wp2_with (first | (go_at_call 25; refine (is_ok _ _).mono ?_; rintro e w' ⟨rfl, rfl⟩) | (go_at_call 32; refine (no_ok _).mono ?_; rintro e w' ⟨rfl, rfl⟩))
  refine (K19.out _ (by exact T19)).mono ?_
  rintro e w20 ⟨rfl, hb20⟩
  have T20 := Tab.below T19 hb20
  have H20 := H19.trans (hb20.mono H19.size)
  clear hb20 T19 H19
  go_wp2_with (first | (go_at_call 25; refine (is_ok _ _).mono ?_; rintro e w' ⟨rfl, rfl⟩) | (go_at_call 32; refine (no_ok _).mono ?_; rintro e w' ⟨rfl, rfl⟩))
  go_ret
  exact ⟨rfl, H20⟩
end Go.Proofs.YtikojcakkmmebaaDoor
