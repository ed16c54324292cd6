/- NumExact: the walk of the law. -/
import Derived.Test.YtikojcakkmmebaaDoorNear
namespace Go.Proofs.YtikojcakkmmebaaDoor
open Go.RowKit

theorem wp_gen {P : Program} {c : Code} {Q : Exit → Act → World → Prop} {a : Act} {W : World} (h : ∀ w, w = W → c.wp P Q a w) : c.wp P Q a W := h _ rfl
theorem tmod_in (a : Int) {b : Int} (hb : 0 < b) : -b < a.tmod b ∧ a.tmod b < b := by
  have h1 := Int.tmod_lt_of_pos a hb
  have h2 := Int.tmod_lt_of_pos (-a) hb
  rw [Int.neg_tmod] at h2
  omega
/-- The numbers that the law computes of a, b, c. -/
theorem exact_facts {a b : Int} (ha : -1125899906842624 < a ∧ a < 1125899906842624) (hb : 1 ≤ b ∧ b ≤ 1125899906842624) :
    ∃ q r u d m : Int, dvV a b = q ∧ dvOk a b = true ∧ mdV a b = r ∧ clV a b = u ∧ dvV (-a) b = d ∧ dvOk (-a) b = true ∧ q * b = m ∧
      -1125899906842624 ≤ q ∧ q ≤ 1125899906842624 ∧ -1125899906842624 ≤ u ∧ u ≤ 1125899906842624 ∧ -1125899906842624 ≤ d ∧ d ≤ 1125899906842624 ∧ -3377699720527872 ≤ m ∧ m ≤ 3377699720527872 ∧
      m + r = a ∧ 0 ≤ r ∧ r < b ∧ u = -d ∧ u - q = (if 0 < r then 1 else 0) := by
  have h1 : dvOk a b = true := by unfold dvOk; rw [Bool.and_eq_true, Bool.and_eq_true, inR_iff, inR_iff, decide_eq_true_eq]; omega
  have h2 : dvOk (-a) b = true := by unfold dvOk; rw [Bool.and_eq_true, Bool.and_eq_true, inR_iff, inR_iff, decide_eq_true_eq]; omega
  obtain ⟨e1, e2⟩ := ediv_bd a (show 0 < b by omega)
  have b1 := div_bd h1
  have b2 := div_bd h2
  have hc := ceil_of (a := a) (b := b) (by omega)
  refine ⟨a / b, a - a / b * b, -(-a / b), -a / b, a / b * b, by unfold dvV; rw [h1]; rfl, h1, by unfold mdV; rw [h1]; rfl, by unfold clV; rw [h1]; rfl, by unfold dvV; rw [h2]; rfl, h2, rfl, b1.1, b1.2, by omega, by omega, b2.1, b2.2, by omega, by omega, by omega, by omega, by omega, rfl, ?_⟩
  rw [hc]
  split
  · rw [if_pos (by omega)]; omega
  · rw [if_neg (by omega)]; omega
theorem scale_facts {s c d : Int} (hs : -16777216 < s ∧ s < 16777216) (hc : -16777216 < c ∧ c < 16777216) (hd : 1 ≤ d ∧ d ≤ 1048576) :
    ∃ p v : Int, s * c = p ∧ -281474976710656 ≤ p ∧ p ≤ 281474976710656 ∧ md s c d = v ∧ mdOk s c d = true ∧ dvV p d = v ∧ dvOk p d = true := by
  have hp : -281474976710656 ≤ s * c ∧ s * c ≤ 281474976710656 := by
    have e : (s * c).natAbs ≤ 16777216 * 16777216 := by
      rw [Int.natAbs_mul]; exact Nat.mul_le_mul (by omega) (by omega)
    omega
  have hk : dvOk (s * c) d = true := by unfold dvOk; rw [Bool.and_eq_true, Bool.and_eq_true, inR_iff, inR_iff, decide_eq_true_eq]; omega
  have hq := div_bd hk
  have hm : mdOk s c d = true := by
    unfold mdOk
    simp only [Bool.and_eq_true, inR_iff, decide_eq_true_eq]
    omega
  exact ⟨s * c, s * c / d, rfl, hp.1, hp.2, by unfold md; rw [hm]; rfl, hm, by unfold dvV; rw [hk]; rfl, hk⟩
theorem same_fact {a b : Int} (ha : -1125899906842624 < a ∧ a < 1125899906842624) (hb : 1 ≤ b ∧ b ≤ 1125899906842624) : md a b b = a ∧ mdOk a b b = true := by
  have e : a * b / b = a := Int.mul_ediv_cancel a (by omega)
  have hm : mdOk a b b = true := by
    unfold mdOk
    rw [e]
    simp only [Bool.and_eq_true, inR_iff, decide_eq_true_eq]
    omega
  exact ⟨by unfold md; rw [hm, if_pos rfl, e], hm⟩
set_option maxRecDepth 100000 in
set_option maxHeartbeats 2000000 in
theorem nlaw5_walk (x y z : Int) (w : World) (hT : Hid (Tab w)) :
    Calls Tryd.prog 6 #[.agg #[.int .i64 x, .int .i64 y, .int .i64 z]] w fun e w' => e = .returned (.bool true) ∧ Below w.heap.size w w' := by
  have ha := tmod_in x (show (0 : Int) < 1125899906842624 by omega)
  have hc := tmod_in z (show (0 : Int) < 16777216 by omega)
  have y1 : IntKind.u64.wrap y = y % 18446744073709551616 := IntKind.wrap_u64 y
  have y2 : (y % 18446744073709551616).tmod 1125899906842624 = y % 18446744073709551616 % 1125899906842624 := Int.tmod_eq_emod_of_nonneg (by omega)
  obtain ⟨m, hm⟩ : ∃ m, y % 18446744073709551616 = m := ⟨_, rfl⟩
  rw [hm] at y1 y2
  have m0 : 0 ≤ m := by omega
  clear hm
  have d0 : 0 ≤ m % 1125899906842624 ∧ m % 1125899906842624 ≤ 1125899906842623 := by omega
  obtain ⟨n, hn⟩ : ∃ n, m % 1125899906842624 = n := ⟨_, rfl⟩
  rw [hn] at y2 d0
  have y3 : IntKind.i64.wrap n = n := IntWalk.i64_in _ (by omega)
  have y4 : IntKind.u64.wrap n = n := IntWalk.u64_in _ (by omega)
  obtain ⟨b, hb⟩ : ∃ b, 1 + n = b := ⟨_, rfl⟩
  have y5 : IntKind.i64.wrap (1 + n) = b := by rw [hb]; exact IntWalk.i64_in _ (by omega)
  have hb1 : 1 ≤ b ∧ b ≤ 1125899906842624 := by omega
  clear hb hn d0
  obtain ⟨a, hxa⟩ : ∃ a, x.tmod 1125899906842624 = a := ⟨_, rfl⟩
  obtain ⟨c, hzc⟩ : ∃ c, z.tmod 16777216 = c := ⟨_, rfl⟩
  rw [hxa] at ha
  rw [hzc] at hc
  have x3 : IntKind.i64.wrap a = a := IntWalk.i64_in _ (by omega)
  have z3 : IntKind.i64.wrap c = c := IntWalk.i64_in _ (by omega)
  obtain ⟨q, r, u, d, k, f1, f2, f3, f4, f5, f6, f7, q0, q1, u0, u1, dd0, dd1, k0, k1, g1, g2, g3, g4, g5⟩ := exact_facts ha hb1
  obtain ⟨s1, s2⟩ := same_fact ha hb1
  have hs := tmod_in a (show (0 : Int) < 16777216 by omega)
  obtain ⟨s, hs'⟩ : ∃ s, a.tmod 16777216 = s := ⟨_, rfl⟩
  rw [hs'] at hs
  have hd : 1 ≤ 1 + b % 1048576 ∧ 1 + b % 1048576 ≤ 1048576 := by omega
  have hbm : 0 ≤ b % 1048576 ∧ b % 1048576 ≤ 1048575 := by omega
  obtain ⟨p, v, p1, p2, p3, p4, p5, p6, p7⟩ := scale_facts hs hc hd
  have K1 := Lib.hid fun w => Calls.atIB (floordiv_any a b w) f1 f2
  have K2 := Lib.hid fun w => Calls.atIB (mod_any a b w) f3 f2
  have K3 := Lib.hid fun w => Calls.atIB (ceildiv_any a b w) f4 f2
  have K4 := Lib.hid fun w => Calls.atIB (floordiv_any (-a) b w) f5 f6
  have K5 := Lib.hid fun w => Calls.atIB (muldiv_any a b b w) s1 s2
  have K6 := Lib.hid fun w => Calls.atIB (muldiv_any s c (1 + b % 1048576) w) p4 p5
  have K7 := Lib.hid fun w => Calls.atIB (floordiv_any p (1 + b % 1048576) w) p6 p7
  have w1 : IntKind.i64.wrap (q * b) = k := by rw [f7]; exact IntWalk.i64_in _ (by omega)
  have w2 : IntKind.i64.wrap (s * c) = p := by rw [p1]; exact IntWalk.i64_in _ (by omega)
  have t1 : (k + r == a) = true := by simpa using g1
  have t1' : (k + r != a) = false := by simp [g1]
  have t2 : (u == -d) = true := by simpa using g4
  have t2' : (u != -d) = false := by simp [g4]
  obtain ⟨a0, a1⟩ := ha
  obtain ⟨b0, b1⟩ := hb1
  obtain ⟨c0, c1⟩ := hc
  obtain ⟨r0, r1⟩ : 0 ≤ r ∧ r < b := ⟨g2, g3⟩
  have kr : k + r ≤ 1125899906842624 ∧ -1125899906842624 ≤ k + r := by omega
  have G5 := Lib.hid g5
  clear f1 f2 f3 f4 f5 f6 f7 s1 s2 p1 p4 p5 p6 p7 g1 g4 g5 m0
  obtain ⟨s0, s1⟩ := hs
  by_cases hr : 0 < r
  · have g6 : (u - q == 1) = true := by have := G5.out; rw [if_pos hr] at this; simpa using this
    have g6' : (u - q != 1) = false := by have := G5.out; rw [if_pos hr] at this; simp [this]
    have hmin : min r 1 = 1 := by omega
    go_enter Tryd.func6, Tryd.ntmps6
    go_wp2_with fail
    refine (works01 _ (by exact Tab.alloc hT _)).mono ?_
    rintro e w1 ⟨rfl, hb1⟩
    have hz1_0 : w.heap.size < w1.heap.size := by have := hb1.size; simp at this; omega
    have s1_0_0 : w1.cell? ⟨w.heap.size, 0, none⟩ = some (.int .i64 x) := (hb1.cell (p := ⟨w.heap.size, 0, none⟩) (by simp <;> omega)).trans (by go_simp)
    have s1_0_1 : w1.cell? ⟨w.heap.size, 1, none⟩ = some (.int .i64 y) := (hb1.cell (p := ⟨w.heap.size, 1, none⟩) (by simp <;> omega)).trans (by go_simp)
    have s1_0_2 : w1.cell? ⟨w.heap.size, 2, none⟩ = some (.int .i64 z) := (hb1.cell (p := ⟨w.heap.size, 2, none⟩) (by simp <;> omega)).trans (by go_simp)
    have H1 : Below w.heap.size w w1 := ((Below.refl _ _).alloc (Nat.le_refl _) _).trans (hb1.mono (by simp <;> omega))
    have T1 := Tab.below (Tab.alloc hT _) hb1
    clear hb1
    go_wp2_with fail
    have F0 := Bw.cell hz1_0 s1_0_0
    have F1 := Bw.cell hz1_0 s1_0_1
    have F2 := Bw.cell hz1_0 s1_0_2
    refine wp_region_bw (by kernel_rfl) (by kernel_rfl) ?_
    repeat (go_big_quiet_step (fail))
    refine wpQuiet_nil ?_
    rintro _ ⟨⟨w2, hb2⟩, rfl⟩
    clear F0 F1 F2
    have hz2_0 := Nat.lt_of_lt_of_le hz1_0 hb2.size
    have s2_0_0 := (hb2.cell (p := ⟨w.heap.size, 0, none⟩) hz1_0).trans s1_0_0
    have s2_0_1 := (hb2.cell (p := ⟨w.heap.size, 1, none⟩) hz1_0).trans s1_0_1
    have s2_0_2 := (hb2.cell (p := ⟨w.heap.size, 2, none⟩) hz1_0).trans s1_0_2
    have H2 := H1.trans (hb2.mono H1.size)
    have T2 := Tab.below T1 hb2
    clear hz1_0 s1_0_0 s1_0_1 s1_0_2 hb2 T1 H1
    go_wp2_with fail
    refine (K1.out _).mono ?_
    rintro e w3 ⟨rfl, hb3⟩
    have H3 := H2.trans (hb3.mono H2.size)
    have T3 := Tab.below T2 hb3
    clear hb3 T2 H2
    go_wp2_with fail
    refine (K2.out _).mono ?_
    rintro e w4 ⟨rfl, hb4⟩
    have H4 := H3.trans (hb4.mono H3.size)
    have T4 := Tab.below T3 hb4
    clear hb4 T3 H3
    go_wp2_with fail
    refine (K3.out _).mono ?_
    rintro e w5 ⟨rfl, hb5⟩
    have H5 := H4.trans (hb5.mono H4.size)
    have T5 := Tab.below T4 hb5
    clear hb5 T4 H4
    go_wp2_with fail
    refine (K4.out _).mono ?_
    rintro e w6 ⟨rfl, hb6⟩
    have H6 := H5.trans (hb6.mono H5.size)
    have T6 := Tab.below T5 hb6
    clear hb6 T5 H5
    go_wp2_with fail
    refine (K5.out _).mono ?_
    rintro e w7 ⟨rfl, hb7⟩
    have H7 := H6.trans (hb7.mono H6.size)
    have T7 := Tab.below T6 hb7
    clear hb7 T6 H6
    go_wp2_with fail
    refine (K6.out _).mono ?_
    rintro e w8 ⟨rfl, hb8⟩
    have H8 := H7.trans (hb8.mono H7.size)
    have T8 := Tab.below T7 hb8
    clear hb8 T7 H7
    go_wp2_with fail
    refine (K7.out _).mono ?_
    rintro e w9 ⟨rfl, hb9⟩
    have H9 := H8.trans (hb9.mono H8.size)
    have T9 := Tab.below T8 hb9
    clear hb9 T8 H8
    go_wp2_with (go_at_call 25; refine (is_ok _ _).mono ?_; rintro e w' ⟨rfl, rfl⟩)
    go_ret
    exact ⟨rfl, H9⟩
  · have g6 : (u - q == r) = true := by have := G5.out; rw [if_neg hr] at this; simp; omega
    have g6' : (u - q != r) = false := by have := G5.out; rw [if_neg hr] at this; simp; omega
    have hmin : min r 1 = r := by omega
    go_enter Tryd.func6, Tryd.ntmps6
    go_wp2_with fail
    refine (works01 _ (by exact Tab.alloc hT _)).mono ?_
    rintro e w1 ⟨rfl, hb1⟩
    have hz1_0 : w.heap.size < w1.heap.size := by have := hb1.size; simp at this; omega
    have s1_0_0 : w1.cell? ⟨w.heap.size, 0, none⟩ = some (.int .i64 x) := (hb1.cell (p := ⟨w.heap.size, 0, none⟩) (by simp <;> omega)).trans (by go_simp)
    have s1_0_1 : w1.cell? ⟨w.heap.size, 1, none⟩ = some (.int .i64 y) := (hb1.cell (p := ⟨w.heap.size, 1, none⟩) (by simp <;> omega)).trans (by go_simp)
    have s1_0_2 : w1.cell? ⟨w.heap.size, 2, none⟩ = some (.int .i64 z) := (hb1.cell (p := ⟨w.heap.size, 2, none⟩) (by simp <;> omega)).trans (by go_simp)
    have H1 : Below w.heap.size w w1 := ((Below.refl _ _).alloc (Nat.le_refl _) _).trans (hb1.mono (by simp <;> omega))
    have T1 := Tab.below (Tab.alloc hT _) hb1
    clear hb1
    go_wp2_with fail
    have F0 := Bw.cell hz1_0 s1_0_0
    have F1 := Bw.cell hz1_0 s1_0_1
    have F2 := Bw.cell hz1_0 s1_0_2
    refine wp_region_bw (by kernel_rfl) (by kernel_rfl) ?_
    repeat (go_big_quiet_step (fail))
    refine wpQuiet_nil ?_
    rintro _ ⟨⟨w2, hb2⟩, rfl⟩
    clear F0 F1 F2
    have hz2_0 := Nat.lt_of_lt_of_le hz1_0 hb2.size
    have s2_0_0 := (hb2.cell (p := ⟨w.heap.size, 0, none⟩) hz1_0).trans s1_0_0
    have s2_0_1 := (hb2.cell (p := ⟨w.heap.size, 1, none⟩) hz1_0).trans s1_0_1
    have s2_0_2 := (hb2.cell (p := ⟨w.heap.size, 2, none⟩) hz1_0).trans s1_0_2
    have H2 := H1.trans (hb2.mono H1.size)
    have T2 := Tab.below T1 hb2
    clear hz1_0 s1_0_0 s1_0_1 s1_0_2 hb2 T1 H1
    go_wp2_with fail
    refine (K1.out _).mono ?_
    rintro e w3 ⟨rfl, hb3⟩
    have H3 := H2.trans (hb3.mono H2.size)
    have T3 := Tab.below T2 hb3
    clear hb3 T2 H2
    go_wp2_with fail
    refine (K2.out _).mono ?_
    rintro e w4 ⟨rfl, hb4⟩
    have H4 := H3.trans (hb4.mono H3.size)
    have T4 := Tab.below T3 hb4
    clear hb4 T3 H3
    go_wp2_with fail
    refine (K3.out _).mono ?_
    rintro e w5 ⟨rfl, hb5⟩
    have H5 := H4.trans (hb5.mono H4.size)
    have T5 := Tab.below T4 hb5
    clear hb5 T4 H4
    go_wp2_with fail
    refine (K4.out _).mono ?_
    rintro e w6 ⟨rfl, hb6⟩
    have H6 := H5.trans (hb6.mono H5.size)
    have T6 := Tab.below T5 hb6
    clear hb6 T5 H5
    go_wp2_with fail
    refine (K5.out _).mono ?_
    rintro e w7 ⟨rfl, hb7⟩
    have H7 := H6.trans (hb7.mono H6.size)
    have T7 := Tab.below T6 hb7
    clear hb7 T6 H6
    go_wp2_with fail
    refine (K6.out _).mono ?_
    rintro e w8 ⟨rfl, hb8⟩
    have H8 := H7.trans (hb8.mono H7.size)
    have T8 := Tab.below T7 hb8
    clear hb8 T7 H7
    go_wp2_with fail
    refine (K7.out _).mono ?_
    rintro e w9 ⟨rfl, hb9⟩
    have H9 := H8.trans (hb9.mono H8.size)
    have T9 := Tab.below T8 hb9
    clear hb9 T8 H8
    go_wp2_with (go_at_call 25; refine (is_ok _ _).mono ?_; rintro e w' ⟨rfl, rfl⟩)
    go_ret
    exact ⟨rfl, H9⟩
end Go.Proofs.YtikojcakkmmebaaDoor
