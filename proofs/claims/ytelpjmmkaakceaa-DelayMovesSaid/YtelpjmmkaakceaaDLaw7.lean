/- DelayMoves: the walk of the law. -/
import Derived.Test.YtelpjmmkaakceaaWorks12
import Derived.Laws.Bits64b
namespace Go.Proofs.Ytelpjmmkaakceaa
open Go.RowKit Go.Shelf

theorem t_mod (x : Int) : ∃ n : Int, x.tmod 1099511627776 = n ∧ -1099511627776 < n ∧ n < 1099511627776 :=
  ⟨_, rfl, by have := Int.lt_tmod_of_pos x (show (0:Int) < 1099511627776 by omega); omega, Int.tmod_lt_of_pos x (by omega)⟩
theorem u_mod (x : Int) {m : Int} (hm : 1 ≤ m ∧ m ≤ 1125899906842624) : ∃ u n : Int, IntKind.u64.wrap x = u ∧ u.tmod m = n ∧ u % m = n ∧ 0 ≤ u ∧ u ≤ 18446744073709551615 ∧ 0 ≤ n ∧ n < m ∧ IntKind.i64.wrap n = n ∧ IntKind.u64.wrap n = n := by
  have h0 := Int.emod_nonneg (x % 18446744073709551616) (show m ≠ 0 by omega)
  have h1 := Int.emod_lt_of_pos (x % 18446744073709551616) (show 0 < m by omega)
  exact ⟨x % 18446744073709551616, x % 18446744073709551616 % m, IntKind.wrap_u64 x, Int.tmod_eq_emod_of_nonneg (by omega), rfl, by omega, by omega, h0, h1, IntWalk.i64_in _ (by omega), IntWalk.u64_in _ (by omega)⟩
theorem moves_okX {a b u v : Int} (ha : -1099511627776 < a ∧ a < 1099511627776) (hb : -1099511627776 < b ∧ b < 1099511627776) (hu : 0 ≤ u ∧ u < 1099511627776) (hv : 0 ≤ v ∧ v < 1099511627776) : okX a b (b + v) (a + u) = true := by
  rw [okX_iff]; omega
theorem moved_okX {a b u v p q : Int} (ha : -1099511627776 < a ∧ a < 1099511627776) (hb : -1099511627776 < b ∧ b < 1099511627776) (hu : 0 ≤ u ∧ u < 1099511627776) (hv : 0 ≤ v ∧ v < 1099511627776)
    (hp : -2147483648 ≤ p ∧ p ≤ 2147483647) (hq : -2147483648 ≤ q ∧ q ≤ 2147483647) : okX (a + p) (b + q) (b + v + q) (a + u + p) = true := by
  rw [okX_iff]; omega
theorem moves_del {a b u v p q : Int} (h1 : okX a b (b + v) (a + u) = true) (h2 : okX (a + p) (b + q) (b + v + q) (a + u + p) = true) : delV (a + p) (b + q) (b + v + q) (a + u + p) = delV a b (b + v) (a + u) := by
  unfold delV; rw [h1, h2, if_pos rfl, if_pos rfl, show a + u + p - (a + p) - (b + v + q - (b + q)) = a + u - a - (b + v - b) by omega]
theorem moves_ra {a b u v c d r s p q : Int} (h1 : okX a b (b + v) (a + u) = true) (h2 : okX (a + p) (b + q) (b + v + q) (a + u + p) = true) (h3 : okX c d (d + s) (c + r) = true) (h4 : okX (c + p) (d + q) (d + s + q) (c + r + p) = true) :
    raV (a + p) (b + q) (b + v + q) (a + u + p) (c + p) (d + q) (d + s + q) (c + r + p) = raV a b (b + v) (a + u) c d (d + s) (c + r) ∧ raE (a + p) (b + q) (b + v + q) (a + u + p) (c + p) (d + q) (d + s + q) (c + r + p) = raE a b (b + v) (a + u) c d (d + s) (c + r) := by
  unfold raV raE raOk
  rw [h1, h2, h3, h4, show c + r + p - (a + u + p) = c + r - (a + u) by omega, show d + s + q - (b + v + q) = d + s - (b + v) by omega]
  exact ⟨rfl, rfl⟩
set_option maxRecDepth 100000 in
set_option maxHeartbeats 4000000 in
theorem dlaw7_walk (x1 x2 x3 x4 y1 y2 y3 y4 p q : Int) (hp : -2147483648 ≤ p ∧ p ≤ 2147483647) (hq : -2147483648 ≤ q ∧ q ≤ 2147483647) (w : World) :
    Calls Try.prog 9 #[.agg #[.int .i64 x1, .int .i64 x2, .int .i64 x3, .int .i64 x4], .agg #[.int .i64 y1, .int .i64 y2, .int .i64 y3, .int .i64 y4], .int .i32 p, .int .i32 q] w fun e w' => e = .returned (.bool true) ∧ Below w.heap.size w w' := by
  have i0 : ∀ W, (Instr.index 31 (.agg #[.int .i64 x1, .int .i64 x2, .int .i64 x3, .int .i64 x4, .int .i64 y1, .int .i64 y2, .int .i64 y3, .int .i64 y4]) (.int .i64 0)).run Try.prog W = .ok (.agg #[.int .i64 x1, .int .i64 x2, .int .i64 x3, .int .i64 x4]) W := fun _ => by kernel_rfl
  have i1 : ∀ W, (Instr.index 31 (.agg #[.int .i64 x1, .int .i64 x2, .int .i64 x3, .int .i64 x4, .int .i64 y1, .int .i64 y2, .int .i64 y3, .int .i64 y4]) (.int .i64 1)).run Try.prog W = .ok (.agg #[.int .i64 y1, .int .i64 y2, .int .i64 y3, .int .i64 y4]) W := fun _ => by kernel_rfl
  obtain ⟨x1', ex1, bx1, cx1⟩ := t_mod x1
  obtain ⟨x2', ex2, bx2, cx2⟩ := t_mod x2
  obtain ⟨ux3, x3', ex3, fx3, _, gx3, hx3, bx3, cx3, kx3, lx3⟩ := u_mod x3 (m := 1099511627776) (by omega)
  obtain ⟨ux4, x4', ex4, fx4, _, gx4, hx4, bx4, cx4, kx4, lx4⟩ := u_mod x4 (m := 1099511627776) (by omega)
  have xo := moves_okX ⟨bx1, cx1⟩ ⟨bx2, cx2⟩ ⟨bx4, cx4⟩ ⟨bx3, cx3⟩
  have xm := moved_okX ⟨bx1, cx1⟩ ⟨bx2, cx2⟩ ⟨bx4, cx4⟩ ⟨bx3, cx3⟩ hp hq
  obtain ⟨y1', ey1, by1, cy1⟩ := t_mod y1
  obtain ⟨y2', ey2, by2, cy2⟩ := t_mod y2
  obtain ⟨uy3, y3', ey3, fy3, _, gy3, hy3, by3, cy3, ky3, ly3⟩ := u_mod y3 (m := 1099511627776) (by omega)
  obtain ⟨uy4, y4', ey4, fy4, _, gy4, hy4, by4, cy4, ky4, ly4⟩ := u_mod y4 (m := 1099511627776) (by omega)
  have yo := moves_okX ⟨by1, cy1⟩ ⟨by2, cy2⟩ ⟨by4, cy4⟩ ⟨by3, cy3⟩
  have ym := moved_okX ⟨by1, cy1⟩ ⟨by2, cy2⟩ ⟨by4, cy4⟩ ⟨by3, cy3⟩ hp hq
  have D1 := Lib.hid fun w => Calls.at2 (delay_any x1' x2' (x2' + x3') (x1' + x4') w) rfl (show delE _ _ _ _ = 0 by unfold delE; rw [xo]; rfl)
  have D2 := Lib.hid fun w => Calls.at2 (delay_any (x1' + p) (x2' + q) (x2' + x3' + q) (x1' + x4' + p) w) (moves_del xo xm) (show delE _ _ _ _ = 0 by unfold delE; rw [xm]; rfl)
  have R1 := Lib.hid fun w => ratio_any x1' x2' (x2' + x3') (x1' + x4') y1' y2' (y2' + y3') (y1' + y4') w
  have R2 := Lib.hid fun w => Calls.at2 (ratio_any (x1' + p) (x2' + q) (x2' + x3' + q) (x1' + x4' + p) (y1' + p) (y2' + q) (y2' + y3' + q) (y1' + y4' + p) w) (moves_ra xo xm yo ym).1 (moves_ra xo xm yo ym).2
  clear xo xm yo ym
  generalize delV x1' x2' (x2' + x3') (x1' + x4') = dv at *
  generalize raV x1' x2' (x2' + x3') (x1' + x4') y1' y2' (y2' + y3') (y1' + y4') = rv at *
  generalize raE x1' x2' (x2' + x3') (x1' + x4') y1' y2' (y2' + y3') (y1' + y4') = re at *
  obtain ⟨p0, p1⟩ := hp
  obtain ⟨q0, q1⟩ := hq
  go_enter Try.func9, Try.ntmps9
  go_wp2_with fail
  refine (works12 _).mono ?_
  rintro e w1 ⟨rfl, hb1⟩
  have hz1_0 : w.heap.size < w1.heap.size := by have := hb1.size; simp at this; omega
  have s1_0_0 : w1.cell? ⟨w.heap.size, 0, none⟩ = some (.int .i64 x1) := (hb1.cell (p := ⟨w.heap.size, 0, none⟩) (by simp <;> omega)).trans (by go_simp)
  have s1_0_1 : w1.cell? ⟨w.heap.size, 1, none⟩ = some (.int .i64 x2) := (hb1.cell (p := ⟨w.heap.size, 1, none⟩) (by simp <;> omega)).trans (by go_simp)
  have s1_0_2 : w1.cell? ⟨w.heap.size, 2, none⟩ = some (.int .i64 x3) := (hb1.cell (p := ⟨w.heap.size, 2, none⟩) (by simp <;> omega)).trans (by go_simp)
  have s1_0_3 : w1.cell? ⟨w.heap.size, 3, none⟩ = some (.int .i64 x4) := (hb1.cell (p := ⟨w.heap.size, 3, none⟩) (by simp <;> omega)).trans (by go_simp)
  have hz1_1 : w.heap.size + 1 < w1.heap.size := by have := hb1.size; simp at this; omega
  have s1_1_0 : w1.cell? ⟨w.heap.size + 1, 0, none⟩ = some (.int .i64 y1) := (hb1.cell (p := ⟨w.heap.size + 1, 0, none⟩) (by simp <;> omega)).trans (by go_simp)
  have s1_1_1 : w1.cell? ⟨w.heap.size + 1, 1, none⟩ = some (.int .i64 y2) := (hb1.cell (p := ⟨w.heap.size + 1, 1, none⟩) (by simp <;> omega)).trans (by go_simp)
  have s1_1_2 : w1.cell? ⟨w.heap.size + 1, 2, none⟩ = some (.int .i64 y3) := (hb1.cell (p := ⟨w.heap.size + 1, 2, none⟩) (by simp <;> omega)).trans (by go_simp)
  have s1_1_3 : w1.cell? ⟨w.heap.size + 1, 3, none⟩ = some (.int .i64 y4) := (hb1.cell (p := ⟨w.heap.size + 1, 3, none⟩) (by simp <;> omega)).trans (by go_simp)
  have H1 : Below w.heap.size w w1 := (((Below.refl _ _).alloc (Nat.le_refl _) _).alloc (by simp <;> omega) _).trans (hb1.mono (by simp <;> omega))
  clear hb1
  go_wp2_with fail
  refine wp_loop_rounds 3 ?_
  rw [rounds_succ]
  go_wp2_with fail
  rw [rounds_succ]
  go_wp2_with fail
  rw [rounds_succ]
  go_wp2_with fail
  refine (D1.out _).mono ?_
  rintro e w2 ⟨rfl, hb2⟩
  have hz2_0 : w1.heap.size < w2.heap.size := by have := hb2.size; simp at this; omega
  have s2_0_0 : w2.cell? ⟨w1.heap.size, 0, none⟩ = some (.int .i64 (x1')) := (hb2.cell (p := ⟨w1.heap.size, 0, none⟩) (by simp <;> omega)).trans (by go_simp)
  have s2_0_1 : w2.cell? ⟨w1.heap.size, 1, none⟩ = some (.int .i64 (x2')) := (hb2.cell (p := ⟨w1.heap.size, 1, none⟩) (by simp <;> omega)).trans (by go_simp)
  have s2_0_2 : w2.cell? ⟨w1.heap.size, 2, none⟩ = some (.int .i64 (x2' + x3')) := (hb2.cell (p := ⟨w1.heap.size, 2, none⟩) (by simp <;> omega)).trans (by go_simp)
  have s2_0_3 : w2.cell? ⟨w1.heap.size, 3, none⟩ = some (.int .i64 (x1' + x4')) := (hb2.cell (p := ⟨w1.heap.size, 3, none⟩) (by simp <;> omega)).trans (by go_simp)
  have s2_0_4 : w2.cell? ⟨w1.heap.size, 4, none⟩ = some (.int .i64 (y1')) := (hb2.cell (p := ⟨w1.heap.size, 4, none⟩) (by simp <;> omega)).trans (by go_simp)
  have s2_0_5 : w2.cell? ⟨w1.heap.size, 5, none⟩ = some (.int .i64 (y2')) := (hb2.cell (p := ⟨w1.heap.size, 5, none⟩) (by simp <;> omega)).trans (by go_simp)
  have s2_0_6 : w2.cell? ⟨w1.heap.size, 6, none⟩ = some (.int .i64 (y2' + y3')) := (hb2.cell (p := ⟨w1.heap.size, 6, none⟩) (by simp <;> omega)).trans (by go_simp)
  have s2_0_7 : w2.cell? ⟨w1.heap.size, 7, none⟩ = some (.int .i64 (y1' + y4')) := (hb2.cell (p := ⟨w1.heap.size, 7, none⟩) (by simp <;> omega)).trans (by go_simp)
  have s2_0_8 : w2.cell? ⟨w1.heap.size, 8, none⟩ = some (.int .i64 (x1' + p)) := (hb2.cell (p := ⟨w1.heap.size, 8, none⟩) (by simp <;> omega)).trans (by go_simp)
  have s2_0_9 : w2.cell? ⟨w1.heap.size, 9, none⟩ = some (.int .i64 (x2' + q)) := (hb2.cell (p := ⟨w1.heap.size, 9, none⟩) (by simp <;> omega)).trans (by go_simp)
  have s2_0_10 : w2.cell? ⟨w1.heap.size, 10, none⟩ = some (.int .i64 (x2' + x3' + q)) := (hb2.cell (p := ⟨w1.heap.size, 10, none⟩) (by simp <;> omega)).trans (by go_simp)
  have s2_0_11 : w2.cell? ⟨w1.heap.size, 11, none⟩ = some (.int .i64 (x1' + x4' + p)) := (hb2.cell (p := ⟨w1.heap.size, 11, none⟩) (by simp <;> omega)).trans (by go_simp)
  have s2_0_12 : w2.cell? ⟨w1.heap.size, 12, none⟩ = some (.int .i64 (y1' + p)) := (hb2.cell (p := ⟨w1.heap.size, 12, none⟩) (by simp <;> omega)).trans (by go_simp)
  have s2_0_13 : w2.cell? ⟨w1.heap.size, 13, none⟩ = some (.int .i64 (y2' + q)) := (hb2.cell (p := ⟨w1.heap.size, 13, none⟩) (by simp <;> omega)).trans (by go_simp)
  have s2_0_14 : w2.cell? ⟨w1.heap.size, 14, none⟩ = some (.int .i64 (y2' + y3' + q)) := (hb2.cell (p := ⟨w1.heap.size, 14, none⟩) (by simp <;> omega)).trans (by go_simp)
  have s2_0_15 : w2.cell? ⟨w1.heap.size, 15, none⟩ = some (.int .i64 (y1' + y4' + p)) := (hb2.cell (p := ⟨w1.heap.size, 15, none⟩) (by simp <;> omega)).trans (by go_simp)
  have H2 : Below w.heap.size w w2 := (((H1.alloc H1.size _).alloc (by have := H1.size; simp <;> omega) _).alloc (by have := H1.size; simp <;> omega) _).trans (hb2.mono (by have := H1.size; simp <;> omega))
  clear hb2 H1
  go_wp2_with fail
  refine (D2.out _).mono ?_
  rintro e w3 ⟨rfl, hb3⟩
  have hz3_0 := Nat.lt_of_lt_of_le hz2_0 hb3.size
  have s3_0_0 := (hb3.cell (p := ⟨w1.heap.size, 0, none⟩) hz2_0).trans s2_0_0
  have s3_0_1 := (hb3.cell (p := ⟨w1.heap.size, 1, none⟩) hz2_0).trans s2_0_1
  have s3_0_2 := (hb3.cell (p := ⟨w1.heap.size, 2, none⟩) hz2_0).trans s2_0_2
  have s3_0_3 := (hb3.cell (p := ⟨w1.heap.size, 3, none⟩) hz2_0).trans s2_0_3
  have s3_0_4 := (hb3.cell (p := ⟨w1.heap.size, 4, none⟩) hz2_0).trans s2_0_4
  have s3_0_5 := (hb3.cell (p := ⟨w1.heap.size, 5, none⟩) hz2_0).trans s2_0_5
  have s3_0_6 := (hb3.cell (p := ⟨w1.heap.size, 6, none⟩) hz2_0).trans s2_0_6
  have s3_0_7 := (hb3.cell (p := ⟨w1.heap.size, 7, none⟩) hz2_0).trans s2_0_7
  have s3_0_8 := (hb3.cell (p := ⟨w1.heap.size, 8, none⟩) hz2_0).trans s2_0_8
  have s3_0_9 := (hb3.cell (p := ⟨w1.heap.size, 9, none⟩) hz2_0).trans s2_0_9
  have s3_0_10 := (hb3.cell (p := ⟨w1.heap.size, 10, none⟩) hz2_0).trans s2_0_10
  have s3_0_11 := (hb3.cell (p := ⟨w1.heap.size, 11, none⟩) hz2_0).trans s2_0_11
  have s3_0_12 := (hb3.cell (p := ⟨w1.heap.size, 12, none⟩) hz2_0).trans s2_0_12
  have s3_0_13 := (hb3.cell (p := ⟨w1.heap.size, 13, none⟩) hz2_0).trans s2_0_13
  have s3_0_14 := (hb3.cell (p := ⟨w1.heap.size, 14, none⟩) hz2_0).trans s2_0_14
  have s3_0_15 := (hb3.cell (p := ⟨w1.heap.size, 15, none⟩) hz2_0).trans s2_0_15
  have H3 := H2.trans (hb3.mono H2.size)
  clear hz2_0 s2_0_0 s2_0_1 s2_0_2 s2_0_3 s2_0_4 s2_0_5 s2_0_6 s2_0_7 s2_0_8 s2_0_9 s2_0_10 s2_0_11 s2_0_12 s2_0_13 s2_0_14 s2_0_15 hb3 H2
  go_wp2_with fail
  refine (R1.out _).mono ?_
  rintro e w4 ⟨rfl, hb4⟩
  have hz4_0 := Nat.lt_of_lt_of_le hz3_0 hb4.size
  have s4_0_0 := (hb4.cell (p := ⟨w1.heap.size, 0, none⟩) hz3_0).trans s3_0_0
  have s4_0_1 := (hb4.cell (p := ⟨w1.heap.size, 1, none⟩) hz3_0).trans s3_0_1
  have s4_0_2 := (hb4.cell (p := ⟨w1.heap.size, 2, none⟩) hz3_0).trans s3_0_2
  have s4_0_3 := (hb4.cell (p := ⟨w1.heap.size, 3, none⟩) hz3_0).trans s3_0_3
  have s4_0_4 := (hb4.cell (p := ⟨w1.heap.size, 4, none⟩) hz3_0).trans s3_0_4
  have s4_0_5 := (hb4.cell (p := ⟨w1.heap.size, 5, none⟩) hz3_0).trans s3_0_5
  have s4_0_6 := (hb4.cell (p := ⟨w1.heap.size, 6, none⟩) hz3_0).trans s3_0_6
  have s4_0_7 := (hb4.cell (p := ⟨w1.heap.size, 7, none⟩) hz3_0).trans s3_0_7
  have s4_0_8 := (hb4.cell (p := ⟨w1.heap.size, 8, none⟩) hz3_0).trans s3_0_8
  have s4_0_9 := (hb4.cell (p := ⟨w1.heap.size, 9, none⟩) hz3_0).trans s3_0_9
  have s4_0_10 := (hb4.cell (p := ⟨w1.heap.size, 10, none⟩) hz3_0).trans s3_0_10
  have s4_0_11 := (hb4.cell (p := ⟨w1.heap.size, 11, none⟩) hz3_0).trans s3_0_11
  have s4_0_12 := (hb4.cell (p := ⟨w1.heap.size, 12, none⟩) hz3_0).trans s3_0_12
  have s4_0_13 := (hb4.cell (p := ⟨w1.heap.size, 13, none⟩) hz3_0).trans s3_0_13
  have s4_0_14 := (hb4.cell (p := ⟨w1.heap.size, 14, none⟩) hz3_0).trans s3_0_14
  have s4_0_15 := (hb4.cell (p := ⟨w1.heap.size, 15, none⟩) hz3_0).trans s3_0_15
  have H4 := H3.trans (hb4.mono H3.size)
  clear hz3_0 s3_0_0 s3_0_1 s3_0_2 s3_0_3 s3_0_4 s3_0_5 s3_0_6 s3_0_7 s3_0_8 s3_0_9 s3_0_10 s3_0_11 s3_0_12 s3_0_13 s3_0_14 s3_0_15 hb4 H3
  go_wp2_with fail
  refine (R2.out _).mono ?_
  rintro e w5 ⟨rfl, hb5⟩
  have hz5_0 := Nat.lt_of_lt_of_le hz4_0 hb5.size
  have s5_0_0 := (hb5.cell (p := ⟨w1.heap.size, 0, none⟩) hz4_0).trans s4_0_0
  have s5_0_1 := (hb5.cell (p := ⟨w1.heap.size, 1, none⟩) hz4_0).trans s4_0_1
  have s5_0_2 := (hb5.cell (p := ⟨w1.heap.size, 2, none⟩) hz4_0).trans s4_0_2
  have s5_0_3 := (hb5.cell (p := ⟨w1.heap.size, 3, none⟩) hz4_0).trans s4_0_3
  have s5_0_4 := (hb5.cell (p := ⟨w1.heap.size, 4, none⟩) hz4_0).trans s4_0_4
  have s5_0_5 := (hb5.cell (p := ⟨w1.heap.size, 5, none⟩) hz4_0).trans s4_0_5
  have s5_0_6 := (hb5.cell (p := ⟨w1.heap.size, 6, none⟩) hz4_0).trans s4_0_6
  have s5_0_7 := (hb5.cell (p := ⟨w1.heap.size, 7, none⟩) hz4_0).trans s4_0_7
  have s5_0_8 := (hb5.cell (p := ⟨w1.heap.size, 8, none⟩) hz4_0).trans s4_0_8
  have s5_0_9 := (hb5.cell (p := ⟨w1.heap.size, 9, none⟩) hz4_0).trans s4_0_9
  have s5_0_10 := (hb5.cell (p := ⟨w1.heap.size, 10, none⟩) hz4_0).trans s4_0_10
  have s5_0_11 := (hb5.cell (p := ⟨w1.heap.size, 11, none⟩) hz4_0).trans s4_0_11
  have s5_0_12 := (hb5.cell (p := ⟨w1.heap.size, 12, none⟩) hz4_0).trans s4_0_12
  have s5_0_13 := (hb5.cell (p := ⟨w1.heap.size, 13, none⟩) hz4_0).trans s4_0_13
  have s5_0_14 := (hb5.cell (p := ⟨w1.heap.size, 14, none⟩) hz4_0).trans s4_0_14
  have s5_0_15 := (hb5.cell (p := ⟨w1.heap.size, 15, none⟩) hz4_0).trans s4_0_15
  have H5 := H4.trans (hb5.mono H4.size)
  clear hz4_0 s4_0_0 s4_0_1 s4_0_2 s4_0_3 s4_0_4 s4_0_5 s4_0_6 s4_0_7 s4_0_8 s4_0_9 s4_0_10 s4_0_11 s4_0_12 s4_0_13 s4_0_14 s4_0_15 hb5 H4
  go_wp2
  go_ret
  exact ⟨rfl, H5⟩
end Go.Proofs.Ytelpjmmkaakceaa
