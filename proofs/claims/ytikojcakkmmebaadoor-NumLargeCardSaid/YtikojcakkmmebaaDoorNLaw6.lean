/- NumLarge: the walk of the law. -/
import Derived.Test.YtikojcakkmmebaaDoorNear
namespace Go.Proofs.YtikojcakkmmebaaDoor
open Go.RowKit

theorem wp_gen {P : Program} {c : Code} {Q : Exit → Act → World → Prop} {a : Act} {W : World} (h : ∀ w, w = W → c.wp P Q a w) : c.wp P Q a W := h _ rfl
theorem md_is {x y c v : Int} (hx : -1125899906842624 ≤ x ∧ x ≤ 1125899906842624) (hy : -1125899906842624 ≤ y ∧ y ≤ 1125899906842624) (hc : 1 ≤ c ∧ c ≤ 1125899906842624) (hv : x * y / c = v) (hr : -1125899906842624 ≤ v ∧ v ≤ 1125899906842624) :
    md x y c = v ∧ mdOk x y c = true := by
  have hm : mdOk x y c = true := by
    unfold mdOk
    rw [hv]
    simp only [Bool.and_eq_true, inR_iff, decide_eq_true_eq]
    omega
  exact ⟨by unfold md; rw [hm, if_pos rfl, hv], hm⟩
theorem ceil_cases {P c : Int} (hc : 0 < c) : -P / c = -(P / c) ∨ -P / c = -(P / c) - 1 := by
  have h := ceil_of (a := P) hc
  split at h <;> omega
theorem large_facts {a b c l : Int} (ha : 0 ≤ a ∧ a ≤ 1125899906842623) (hb : 0 ≤ b ∧ b < c) (hc : 1 ≤ c ∧ c ≤ 1125899906842624) (hl : 0 ≤ l ∧ l ≤ a) :
    ∃ q more neg rest high : Int, (md a b c = q ∧ mdOk a b c = true) ∧ (md a (b + 1) c = more ∧ mdOk a (b + 1) c = true) ∧ (md b a c = q ∧ mdOk b a c = true) ∧ (md (-a) b c = neg ∧ mdOk (-a) b c = true) ∧
      (md l b c = rest ∧ mdOk l b c = true) ∧ (md (a - l) b c = high ∧ mdOk (a - l) b c = true) ∧
      0 ≤ q ∧ q ≤ a ∧ q ≤ more ∧ more ≤ a ∧ neg ≤ -q ∧ -q - 1 ≤ neg ∧ 0 ≤ rest ∧ rest ≤ l ∧ 0 ≤ high ∧ high ≤ a - l ∧ high + rest ≤ q ∧ q ≤ high + rest + 1 := by
  have hc0 : 0 < c := by omega
  have le : ∀ {x y : Int}, 0 ≤ x → 0 ≤ y → y ≤ c → 0 ≤ x * y / c ∧ x * y / c ≤ x := fun {x y} hx hy hyc =>
    ⟨Int.ediv_nonneg (Int.mul_nonneg hx hy) (by omega), Int.ediv_le_of_le_mul hc0 (Int.mul_le_mul_of_nonneg_left hyc hx)⟩
  obtain ⟨g1, g2⟩ := le ha.1 hb.1 (by omega)
  obtain ⟨g3, g4⟩ := le ha.1 (show 0 ≤ b + 1 by omega) (by omega)
  obtain ⟨g5, g6⟩ := le hl.1 hb.1 (by omega)
  obtain ⟨g7, g8⟩ := le (show 0 ≤ a - l by omega) hb.1 (by omega)
  have m1 : a * b / c ≤ a * (b + 1) / c := Int.ediv_le_ediv hc0 (Int.mul_le_mul_of_nonneg_left (by omega) ha.1)
  have n1 := ceil_cases (P := a * b) hc0
  rw [← Int.neg_mul] at n1
  have e1 := ediv_bd (l * b) hc0
  have e2 := ediv_bd ((a - l) * b) hc0
  have es : l * b + (a - l) * b = a * b := by rw [← Int.add_mul]; congr 1; omega
  have s1 : (a - l) * b / c + l * b / c ≤ a * b / c := (Int.le_ediv_iff_mul_le hc0).2 (by rw [Int.add_mul]; omega)
  have s2 : a * b / c < (a - l) * b / c + l * b / c + 2 := Int.ediv_lt_of_lt_mul hc0 (by rw [Int.add_mul, Int.add_mul]; omega)
  refine ⟨a * b / c, a * (b + 1) / c, -a * b / c, l * b / c, (a - l) * b / c, md_is (by omega) (by omega) hc rfl (by omega), md_is (by omega) (by omega) hc rfl (by omega), md_is (by omega) (by omega) hc (by rw [Int.mul_comm]) (by omega), md_is (by omega) (by omega) hc rfl (by omega), md_is (by omega) (by omega) hc rfl (by omega), md_is (by omega) (by omega) hc rfl (by omega), g1, g2, m1, g4, by omega, by omega, g5, g6, g7, g8, s1, by omega⟩
theorem u_mod (x : Int) {m : Int} (hm : 1 ≤ m ∧ m ≤ 1125899906842624) : ∃ u n : Int, IntKind.u64.wrap x = u ∧ u.tmod m = n ∧ u % m = n ∧ 0 ≤ u ∧ u ≤ 18446744073709551615 ∧ 0 ≤ n ∧ n < m ∧ IntKind.i64.wrap n = n ∧ IntKind.u64.wrap n = n := by
  have h0 := Int.emod_nonneg (x % 18446744073709551616) (show m ≠ 0 by omega)
  have h1 := Int.emod_lt_of_pos (x % 18446744073709551616) (show 0 < m by omega)
  exact ⟨x % 18446744073709551616, x % 18446744073709551616 % m, IntKind.wrap_u64 x, Int.tmod_eq_emod_of_nonneg (by omega), rfl, by omega, by omega, h0, h1, IntWalk.i64_in _ (by omega), IntWalk.u64_in _ (by omega)⟩
set_option maxRecDepth 100000 in
set_option maxHeartbeats 2000000 in
theorem nlaw6_walk (x y z : Int) (w : World) (hT : Hid (Tab w)) :
    Calls Tryd.prog 7 #[.agg #[.int .i64 x, .int .i64 y, .int .i64 z]] w fun e w' => e = .returned (.bool true) ∧ Below w.heap.size w w' := by
  obtain ⟨uz, nz, z1, z2, z2', z0, z0', z3, z4, z5, z6⟩ := u_mod z (m := 1125899906842624) (by omega)
  obtain ⟨c, hcz⟩ : ∃ c, 1 + nz = c := ⟨_, rfl⟩
  have hc : 1 ≤ c ∧ c ≤ 1125899906842624 := by omega
  have z7 : IntKind.i64.wrap (1 + nz) = c := by rw [hcz]; exact IntWalk.i64_in _ (by omega)
  obtain ⟨ux, a, x1, x2, x2', x0, x0', x3, x4, x5, x6⟩ := u_mod x (m := 1125899906842624) (by omega)
  obtain ⟨uy, b, y1, y2, y2', y0, y0', y3, y4, y5, y6⟩ := u_mod y hc
  have c5 : IntKind.u64.wrap c = c := IntWalk.u64_in _ (by omega)
  have hcn : (c == 0) = false := by simp; omega
  have hcn' : ¬ c = 0 := by omega
  obtain ⟨l, hl⟩ : ∃ l, a % 4096 = l := ⟨_, rfl⟩
  have hl2 : 0 ≤ l ∧ l ≤ a := by omega
  obtain ⟨q, more, neg, rest, high, ⟨f1, f1'⟩, ⟨f2, f2'⟩, ⟨f3, f3'⟩, ⟨f4, f4'⟩, ⟨f5, f5'⟩, ⟨f6, f6'⟩, g1, g2, g3, g4, g5, g6, g7, g8, g9, g10, g11, g12⟩ := large_facts (a := a) (b := b) (c := c) (l := l) (by omega) ⟨y3, y4⟩ hc hl2
  have K1 := Lib.hid fun w => Calls.atIB (muldiv_any a b c w) f1 f1'
  have K2 := Lib.hid fun w => Calls.atIB (muldiv_any a (b + 1) c w) f2 f2'
  have K3 := Lib.hid fun w => Calls.atIB (muldiv_any b a c w) f3 f3'
  have K4 := Lib.hid fun w => Calls.atIB (muldiv_any (-a) b c w) f4 f4'
  have K5 := Lib.hid fun w => Calls.atIB (muldiv_any l b c w) f5 f5'
  have K6 := Lib.hid fun w => Calls.atIB (muldiv_any (a - l) b c w) f6 f6'
  have t3 : (q == q) = true := by simp
  obtain ⟨c0, c1⟩ := hc
  obtain ⟨l0, l1⟩ := hl2
  have hcz2 : nz + 1 = c := by omega
  clear f1 f1' f2 f2' f3 f3' f4 f4' f5 f5' f6 f6' x2' y2' hcz2
  go_enter Tryd.func7, Tryd.ntmps7
  go_wp2_with fail
  refine (works01 _ (by exact Tab.alloc hT _)).mono ?_
  rintro e w1 ⟨rfl, hb1⟩
  have hz1_0 : w.heap.size < w1.heap.size := by have := hb1.size; simp at this; omega
  have s1_0_0 : w1.cell? ⟨w.heap.size, 0, none⟩ = some (.int .i64 x) := (hb1.cell (p := ⟨w.heap.size, 0, none⟩) (by simp <;> omega)).trans (by go_simp)
  have s1_0_1 : w1.cell? ⟨w.heap.size, 1, none⟩ = some (.int .i64 y) := (hb1.cell (p := ⟨w.heap.size, 1, none⟩) (by simp <;> omega)).trans (by go_simp)
  have s1_0_2 : w1.cell? ⟨w.heap.size, 2, none⟩ = some (.int .i64 z) := (hb1.cell (p := ⟨w.heap.size, 2, none⟩) (by simp <;> omega)).trans (by go_simp)
  have H1 : Below w.heap.size w w1 := ((Below.refl _ _).alloc (Nat.le_refl _) _).trans (hb1.mono (by simp <;> omega))
  have T1 := Tab.below (Tab.alloc hT _) hb1
  clear hb1
  go_wp2_with fail
  have F0 := Bw.cell hz1_0 s1_0_0
  have F1 := Bw.cell hz1_0 s1_0_1
  have F2 := Bw.cell hz1_0 s1_0_2
  refine wp_region_bw (by kernel_rfl) (by kernel_rfl) ?_
  repeat (go_big_quiet_step (fail))
  refine wpQuiet_nil ?_
  rintro _ ⟨⟨w2, hb2⟩, rfl⟩
  clear F0 F1 F2
  have hz2_0 := Nat.lt_of_lt_of_le hz1_0 hb2.size
  have s2_0_0 := (hb2.cell (p := ⟨w.heap.size, 0, none⟩) hz1_0).trans s1_0_0
  have s2_0_1 := (hb2.cell (p := ⟨w.heap.size, 1, none⟩) hz1_0).trans s1_0_1
  have s2_0_2 := (hb2.cell (p := ⟨w.heap.size, 2, none⟩) hz1_0).trans s1_0_2
  have H2 := H1.trans (hb2.mono H1.size)
  have T2 := Tab.below T1 hb2
  clear hz1_0 s1_0_0 s1_0_1 s1_0_2 hb2 T1 H1
  go_wp2_with fail
  refine (K1.out _).mono ?_
  rintro e w3 ⟨rfl, hb3⟩
  have H3 := H2.trans (hb3.mono H2.size)
  have T3 := Tab.below T2 hb3
  clear hb3 T2 H2
  go_wp2_with fail
  refine (K2.out _).mono ?_
  rintro e w4 ⟨rfl, hb4⟩
  have H4 := H3.trans (hb4.mono H3.size)
  have T4 := Tab.below T3 hb4
  clear hb4 T3 H3
  go_wp2_with fail
  refine (K3.out _).mono ?_
  rintro e w5 ⟨rfl, hb5⟩
  have H5 := H4.trans (hb5.mono H4.size)
  have T5 := Tab.below T4 hb5
  clear hb5 T4 H4
  go_wp2_with fail
  refine (K4.out _).mono ?_
  rintro e w6 ⟨rfl, hb6⟩
  have H6 := H5.trans (hb6.mono H5.size)
  have T6 := Tab.below T5 hb6
  clear hb6 T5 H5
  go_wp2_with fail
  refine (K5.out _).mono ?_
  rintro e w7 ⟨rfl, hb7⟩
  have H7 := H6.trans (hb7.mono H6.size)
  have T7 := Tab.below T6 hb7
  clear hb7 T6 H6
  go_wp2_with fail
  refine (K6.out _).mono ?_
  rintro e w8 ⟨rfl, hb8⟩
  have H8 := H7.trans (hb8.mono H7.size)
  have T8 := Tab.below T7 hb8
  clear hb8 T7 H7
  go_wp2
  go_ret
  exact ⟨rfl, H8⟩
end Go.Proofs.YtikojcakkmmebaaDoor
