/- ClockKnown: the walk of the law. -/
import Derived.Test.YtphinhebnekmlaaOut09
namespace Go.Proofs.Ytphinhebnekmlaa
open Go.RowKit Go.Shelf

set_option maxRecDepth 100000 in
set_option maxHeartbeats 2000000 in
theorem law7_walk (w : World) :
    Calls Try.prog 9 #[] w fun e w' => e = .returned (.bool true) ∧ Below w.heap.size w w' := by
  have K1 := Lib.hid fun w => Calls.at2 (v' := 2199243157877) (e' := 0) (local_any 1099511627776 200000 1099511627776 w) (by decide +kernel) (by decide +kernel)
  have K2 := Lib.hid fun w => Calls.at2 (v' := (-219902326)) (e' := 0) (local_any (-1099511627776) (-200000) 1099511627776 w) (by decide +kernel) (by decide +kernel)
  have K3 := Lib.hid fun w => Calls.at2 (v' := 0) (e' := 0) (true_any (-1099511627776) (-200000) (-4611686018427387904) 0 w (fun h => first_of h (by omega) (Or.inl rfl) (Or.inr (by decide +kernel)))) (by decide +kernel) (by decide +kernel)
  have K4 := Lib.hid fun w => Calls.at2 (v' := 0) (e' := 4) (true_any (-1099511627776) (-200000) 1 1099511627777 w (fun h => first_of h (by omega) (Or.inr (by decide +kernel)) (Or.inl rfl))) (by decide +kernel) (by decide +kernel)
  have K5 := Lib.hid fun w => Calls.at2 (v' := 0) (e' := 190) (true_any 0 200001 1152921504606846976 0 w (fun h => absurd h (by decide +kernel))) (by decide +kernel) (by decide +kernel)
  have K6 := Lib.hid fun w => Calls.at2 (v' := 0) (e' := 190) (local_any 1099511627777 0 (-1) w) (by decide +kernel) (by decide +kernel)
  have K7 := Lib.hid fun w => Calls.at2 (v' := 0) (e' := 2) (elapsed_any 0 0 1 1099511627776 w) (by decide +kernel) (by decide +kernel)
  have K8 := Lib.hid fun w => Calls.at2 (v' := 0) (e' := 2) (elapsed_any 0 0 4611686018427387904 4611686018427387904 w) (by decide +kernel) (by decide +kernel)
  have K9 := Lib.hid fun w => Calls.at2 (v' := 0) (e' := 190) (offset_any 0 0 0 (-200001) (-1) w) (by decide +kernel) (by decide +kernel)
  have K10 := Lib.hid fun w => Calls.at2 (v' := 0) (e' := 2) (bound_any 200001 0 w) (by decide +kernel) (by decide +kernel)
  have K11 := Lib.hid fun w => Calls.at2 (v' := 0) (e' := 2) (bound_any 0 (-1) w) (by decide +kernel) (by decide +kernel)
  have K12 := Lib.hid fun w => Calls.at2 (v' := 219902326) (e' := 0) (bound_any 200000 1099511627776 w) (by decide +kernel) (by decide +kernel)
  have K13 := Lib.hid fun w => Calls.at1 (v' := 0) (check_any 1099511627776 200000 w) (by decide +kernel)
  have K14 := Lib.hid fun w => Calls.at1 (v' := 0) (check_any (-1099511627776) (-200000) w) (by decide +kernel)
  go_enter Try.func9, Try.ntmps9
  go_wp2_with fail
  refine (works09 _).mono ?_
  rintro e w1 ⟨rfl, hb1⟩
  go_wp2_with fail
  have hA : Below w1.heap.size w1 ((w1.alloc (.cells #[.int .i64 1099511627776, .int .i64 200000] 23)).alloc (.cells #[.int .i64 (-1099511627776), .int .i64 (-200000)] 23)) := ((Below.refl _ _).alloc (Nat.le_refl _) _).alloc (by simp) _
  have c0 : ((w1.alloc (.cells #[.int .i64 1099511627776, .int .i64 200000] 23)).alloc (.cells #[.int .i64 (-1099511627776), .int .i64 (-200000)] 23)).cell? ⟨w1.heap.size, 0, none⟩ = some (.int .i64 1099511627776) := by go_simp
  have c1 : ((w1.alloc (.cells #[.int .i64 1099511627776, .int .i64 200000] 23)).alloc (.cells #[.int .i64 (-1099511627776), .int .i64 (-200000)] 23)).cell? ⟨w1.heap.size, 1, none⟩ = some (.int .i64 200000) := by go_simp
  have c2 : ((w1.alloc (.cells #[.int .i64 1099511627776, .int .i64 200000] 23)).alloc (.cells #[.int .i64 (-1099511627776), .int .i64 (-200000)] 23)).cell? ⟨w1.heap.size + 1, 0, none⟩ = some (.int .i64 (-1099511627776)) := by go_simp
  have c3 : ((w1.alloc (.cells #[.int .i64 1099511627776, .int .i64 200000] 23)).alloc (.cells #[.int .i64 (-1099511627776), .int .i64 (-200000)] 23)).cell? ⟨w1.heap.size + 1, 1, none⟩ = some (.int .i64 (-200000)) := by go_simp
  have hz1 : w1.heap.size + 1 < ((w1.alloc (.cells #[.int .i64 1099511627776, .int .i64 200000] 23)).alloc (.cells #[.int .i64 (-1099511627776), .int .i64 (-200000)] 23)).heap.size := by simp
  generalize (w1.alloc (.cells #[.int .i64 1099511627776, .int .i64 200000] 23)).alloc (.cells #[.int .i64 (-1099511627776), .int .i64 (-200000)] 23) = W at *
  have hz0 : w1.heap.size < W.heap.size := by omega
  refine (K1.out _).mono ?_
  rintro e v1 ⟨rfl, hv1⟩
  have V1 := hv1
  clear hv1
  have f1_0 : v1.cell? ⟨w1.heap.size, 0, none⟩ = some (.int .i64 1099511627776) := (V1.cell (p := ⟨w1.heap.size, 0, none⟩) hz0).trans c0
  have f1_1 : v1.cell? ⟨w1.heap.size, 1, none⟩ = some (.int .i64 200000) := (V1.cell (p := ⟨w1.heap.size, 1, none⟩) hz0).trans c1
  have f1_2 : v1.cell? ⟨w1.heap.size + 1, 0, none⟩ = some (.int .i64 (-1099511627776)) := (V1.cell (p := ⟨w1.heap.size + 1, 0, none⟩) hz1).trans c2
  have f1_3 : v1.cell? ⟨w1.heap.size + 1, 1, none⟩ = some (.int .i64 (-200000)) := (V1.cell (p := ⟨w1.heap.size + 1, 1, none⟩) hz1).trans c3
  go_wp2_with fail
  refine (K2.out _).mono ?_
  rintro e v2 ⟨rfl, hv2⟩
  have V2 := V1.trans (hv2.mono V1.size)
  clear hv2
  clear f1_0 f1_1 f1_2 f1_3
  have f2_0 : v2.cell? ⟨w1.heap.size, 0, none⟩ = some (.int .i64 1099511627776) := (V2.cell (p := ⟨w1.heap.size, 0, none⟩) hz0).trans c0
  have f2_1 : v2.cell? ⟨w1.heap.size, 1, none⟩ = some (.int .i64 200000) := (V2.cell (p := ⟨w1.heap.size, 1, none⟩) hz0).trans c1
  have f2_2 : v2.cell? ⟨w1.heap.size + 1, 0, none⟩ = some (.int .i64 (-1099511627776)) := (V2.cell (p := ⟨w1.heap.size + 1, 0, none⟩) hz1).trans c2
  have f2_3 : v2.cell? ⟨w1.heap.size + 1, 1, none⟩ = some (.int .i64 (-200000)) := (V2.cell (p := ⟨w1.heap.size + 1, 1, none⟩) hz1).trans c3
  go_wp2_with fail
  refine (K3.out _).mono ?_
  rintro e v3 ⟨rfl, hv3⟩
  have V3 := V2.trans (hv3.mono V2.size)
  clear hv3
  clear f2_0 f2_1 f2_2 f2_3
  have f3_0 : v3.cell? ⟨w1.heap.size, 0, none⟩ = some (.int .i64 1099511627776) := (V3.cell (p := ⟨w1.heap.size, 0, none⟩) hz0).trans c0
  have f3_1 : v3.cell? ⟨w1.heap.size, 1, none⟩ = some (.int .i64 200000) := (V3.cell (p := ⟨w1.heap.size, 1, none⟩) hz0).trans c1
  have f3_2 : v3.cell? ⟨w1.heap.size + 1, 0, none⟩ = some (.int .i64 (-1099511627776)) := (V3.cell (p := ⟨w1.heap.size + 1, 0, none⟩) hz1).trans c2
  have f3_3 : v3.cell? ⟨w1.heap.size + 1, 1, none⟩ = some (.int .i64 (-200000)) := (V3.cell (p := ⟨w1.heap.size + 1, 1, none⟩) hz1).trans c3
  go_wp2_with fail
  refine (K4.out _).mono ?_
  rintro e v4 ⟨rfl, hv4⟩
  have V4 := V3.trans (hv4.mono V3.size)
  clear hv4
  clear f3_0 f3_1 f3_2 f3_3
  have f4_0 : v4.cell? ⟨w1.heap.size, 0, none⟩ = some (.int .i64 1099511627776) := (V4.cell (p := ⟨w1.heap.size, 0, none⟩) hz0).trans c0
  have f4_1 : v4.cell? ⟨w1.heap.size, 1, none⟩ = some (.int .i64 200000) := (V4.cell (p := ⟨w1.heap.size, 1, none⟩) hz0).trans c1
  have f4_2 : v4.cell? ⟨w1.heap.size + 1, 0, none⟩ = some (.int .i64 (-1099511627776)) := (V4.cell (p := ⟨w1.heap.size + 1, 0, none⟩) hz1).trans c2
  have f4_3 : v4.cell? ⟨w1.heap.size + 1, 1, none⟩ = some (.int .i64 (-200000)) := (V4.cell (p := ⟨w1.heap.size + 1, 1, none⟩) hz1).trans c3
  go_wp2_with fail
  refine (K5.out _).mono ?_
  rintro e v5 ⟨rfl, hv5⟩
  have V5 := V4.trans (hv5.mono V4.size)
  clear hv5
  clear f4_0 f4_1 f4_2 f4_3
  have f5_0 : v5.cell? ⟨w1.heap.size, 0, none⟩ = some (.int .i64 1099511627776) := (V5.cell (p := ⟨w1.heap.size, 0, none⟩) hz0).trans c0
  have f5_1 : v5.cell? ⟨w1.heap.size, 1, none⟩ = some (.int .i64 200000) := (V5.cell (p := ⟨w1.heap.size, 1, none⟩) hz0).trans c1
  have f5_2 : v5.cell? ⟨w1.heap.size + 1, 0, none⟩ = some (.int .i64 (-1099511627776)) := (V5.cell (p := ⟨w1.heap.size + 1, 0, none⟩) hz1).trans c2
  have f5_3 : v5.cell? ⟨w1.heap.size + 1, 1, none⟩ = some (.int .i64 (-200000)) := (V5.cell (p := ⟨w1.heap.size + 1, 1, none⟩) hz1).trans c3
  go_wp2_with fail
  refine (K6.out _).mono ?_
  rintro e v6 ⟨rfl, hv6⟩
  have V6 := V5.trans (hv6.mono V5.size)
  clear hv6
  clear f5_0 f5_1 f5_2 f5_3
  have f6_0 : v6.cell? ⟨w1.heap.size, 0, none⟩ = some (.int .i64 1099511627776) := (V6.cell (p := ⟨w1.heap.size, 0, none⟩) hz0).trans c0
  have f6_1 : v6.cell? ⟨w1.heap.size, 1, none⟩ = some (.int .i64 200000) := (V6.cell (p := ⟨w1.heap.size, 1, none⟩) hz0).trans c1
  have f6_2 : v6.cell? ⟨w1.heap.size + 1, 0, none⟩ = some (.int .i64 (-1099511627776)) := (V6.cell (p := ⟨w1.heap.size + 1, 0, none⟩) hz1).trans c2
  have f6_3 : v6.cell? ⟨w1.heap.size + 1, 1, none⟩ = some (.int .i64 (-200000)) := (V6.cell (p := ⟨w1.heap.size + 1, 1, none⟩) hz1).trans c3
  go_wp2_with fail
  refine (K7.out _).mono ?_
  rintro e v7 ⟨rfl, hv7⟩
  have V7 := V6.trans (hv7.mono V6.size)
  clear hv7
  clear f6_0 f6_1 f6_2 f6_3
  have f7_0 : v7.cell? ⟨w1.heap.size, 0, none⟩ = some (.int .i64 1099511627776) := (V7.cell (p := ⟨w1.heap.size, 0, none⟩) hz0).trans c0
  have f7_1 : v7.cell? ⟨w1.heap.size, 1, none⟩ = some (.int .i64 200000) := (V7.cell (p := ⟨w1.heap.size, 1, none⟩) hz0).trans c1
  have f7_2 : v7.cell? ⟨w1.heap.size + 1, 0, none⟩ = some (.int .i64 (-1099511627776)) := (V7.cell (p := ⟨w1.heap.size + 1, 0, none⟩) hz1).trans c2
  have f7_3 : v7.cell? ⟨w1.heap.size + 1, 1, none⟩ = some (.int .i64 (-200000)) := (V7.cell (p := ⟨w1.heap.size + 1, 1, none⟩) hz1).trans c3
  go_wp2_with fail
  refine (K8.out _).mono ?_
  rintro e v8 ⟨rfl, hv8⟩
  have V8 := V7.trans (hv8.mono V7.size)
  clear hv8
  clear f7_0 f7_1 f7_2 f7_3
  have f8_0 : v8.cell? ⟨w1.heap.size, 0, none⟩ = some (.int .i64 1099511627776) := (V8.cell (p := ⟨w1.heap.size, 0, none⟩) hz0).trans c0
  have f8_1 : v8.cell? ⟨w1.heap.size, 1, none⟩ = some (.int .i64 200000) := (V8.cell (p := ⟨w1.heap.size, 1, none⟩) hz0).trans c1
  have f8_2 : v8.cell? ⟨w1.heap.size + 1, 0, none⟩ = some (.int .i64 (-1099511627776)) := (V8.cell (p := ⟨w1.heap.size + 1, 0, none⟩) hz1).trans c2
  have f8_3 : v8.cell? ⟨w1.heap.size + 1, 1, none⟩ = some (.int .i64 (-200000)) := (V8.cell (p := ⟨w1.heap.size + 1, 1, none⟩) hz1).trans c3
  go_wp2_with fail
  refine (K9.out _).mono ?_
  rintro e v9 ⟨rfl, hv9⟩
  have V9 := V8.trans (hv9.mono V8.size)
  clear hv9
  clear f8_0 f8_1 f8_2 f8_3
  have f9_0 : v9.cell? ⟨w1.heap.size, 0, none⟩ = some (.int .i64 1099511627776) := (V9.cell (p := ⟨w1.heap.size, 0, none⟩) hz0).trans c0
  have f9_1 : v9.cell? ⟨w1.heap.size, 1, none⟩ = some (.int .i64 200000) := (V9.cell (p := ⟨w1.heap.size, 1, none⟩) hz0).trans c1
  have f9_2 : v9.cell? ⟨w1.heap.size + 1, 0, none⟩ = some (.int .i64 (-1099511627776)) := (V9.cell (p := ⟨w1.heap.size + 1, 0, none⟩) hz1).trans c2
  have f9_3 : v9.cell? ⟨w1.heap.size + 1, 1, none⟩ = some (.int .i64 (-200000)) := (V9.cell (p := ⟨w1.heap.size + 1, 1, none⟩) hz1).trans c3
  go_wp2_with fail
  refine (K10.out _).mono ?_
  rintro e v10 ⟨rfl, hv10⟩
  have V10 := V9.trans (hv10.mono V9.size)
  clear hv10
  clear f9_0 f9_1 f9_2 f9_3
  have f10_0 : v10.cell? ⟨w1.heap.size, 0, none⟩ = some (.int .i64 1099511627776) := (V10.cell (p := ⟨w1.heap.size, 0, none⟩) hz0).trans c0
  have f10_1 : v10.cell? ⟨w1.heap.size, 1, none⟩ = some (.int .i64 200000) := (V10.cell (p := ⟨w1.heap.size, 1, none⟩) hz0).trans c1
  have f10_2 : v10.cell? ⟨w1.heap.size + 1, 0, none⟩ = some (.int .i64 (-1099511627776)) := (V10.cell (p := ⟨w1.heap.size + 1, 0, none⟩) hz1).trans c2
  have f10_3 : v10.cell? ⟨w1.heap.size + 1, 1, none⟩ = some (.int .i64 (-200000)) := (V10.cell (p := ⟨w1.heap.size + 1, 1, none⟩) hz1).trans c3
  go_wp2_with fail
  refine (K11.out _).mono ?_
  rintro e v11 ⟨rfl, hv11⟩
  have V11 := V10.trans (hv11.mono V10.size)
  clear hv11
  clear f10_0 f10_1 f10_2 f10_3
  have f11_0 : v11.cell? ⟨w1.heap.size, 0, none⟩ = some (.int .i64 1099511627776) := (V11.cell (p := ⟨w1.heap.size, 0, none⟩) hz0).trans c0
  have f11_1 : v11.cell? ⟨w1.heap.size, 1, none⟩ = some (.int .i64 200000) := (V11.cell (p := ⟨w1.heap.size, 1, none⟩) hz0).trans c1
  have f11_2 : v11.cell? ⟨w1.heap.size + 1, 0, none⟩ = some (.int .i64 (-1099511627776)) := (V11.cell (p := ⟨w1.heap.size + 1, 0, none⟩) hz1).trans c2
  have f11_3 : v11.cell? ⟨w1.heap.size + 1, 1, none⟩ = some (.int .i64 (-200000)) := (V11.cell (p := ⟨w1.heap.size + 1, 1, none⟩) hz1).trans c3
  go_wp2_with fail
  refine (K12.out _).mono ?_
  rintro e v12 ⟨rfl, hv12⟩
  have V12 := V11.trans (hv12.mono V11.size)
  clear hv12
  clear f11_0 f11_1 f11_2 f11_3
  have f12_0 : v12.cell? ⟨w1.heap.size, 0, none⟩ = some (.int .i64 1099511627776) := (V12.cell (p := ⟨w1.heap.size, 0, none⟩) hz0).trans c0
  have f12_1 : v12.cell? ⟨w1.heap.size, 1, none⟩ = some (.int .i64 200000) := (V12.cell (p := ⟨w1.heap.size, 1, none⟩) hz0).trans c1
  have f12_2 : v12.cell? ⟨w1.heap.size + 1, 0, none⟩ = some (.int .i64 (-1099511627776)) := (V12.cell (p := ⟨w1.heap.size + 1, 0, none⟩) hz1).trans c2
  have f12_3 : v12.cell? ⟨w1.heap.size + 1, 1, none⟩ = some (.int .i64 (-200000)) := (V12.cell (p := ⟨w1.heap.size + 1, 1, none⟩) hz1).trans c3
  go_wp2_with fail
  refine (K13.out _).mono ?_
  rintro e v13 ⟨rfl, hv13⟩
  have V13 := V12.trans (hv13.mono V12.size)
  have g0 : v13.cell? ⟨w1.heap.size + 1, 0, none⟩ = some (.int .i64 (-1099511627776)) := (V13.cell (p := ⟨w1.heap.size + 1, 0, none⟩) hz1).trans c2
  have g1 : v13.cell? ⟨w1.heap.size + 1, 1, none⟩ = some (.int .i64 (-200000)) := (V13.cell (p := ⟨w1.heap.size + 1, 1, none⟩) hz1).trans c3
  go_wp2_with fail
  refine (K14.out _).mono ?_
  rintro e v14 ⟨rfl, hv14⟩
  have V14 := V13.trans (hv14.mono V13.size)
  go_wp2
  go_ret
  exact ⟨rfl, (hb1.trans (hA.mono hb1.size)).trans (V14.mono (Nat.le_trans hb1.size hA.size))⟩
end Go.Proofs.Ytphinhebnekmlaa
