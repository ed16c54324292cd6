/- NumShares: the walk of the law. -/
import Derived.Test.YtikojcakkmmebaaDoorNear
namespace Go.Proofs.YtikojcakkmmebaaDoor
open Go.RowKit

theorem gcdV_nat {a b : Nat} (ha : a ≤ 1125899906842624) (hb : b ≤ 1125899906842624) : gcdV a b = (Nat.gcd a b : Int) := by
  unfold gcdV
  rw [if_pos]
  · rfl
  · rw [Bool.and_eq_true, inR_iff, inR_iff]; omega
theorem gcdV_neg {a b : Nat} (ha : a ≤ 1125899906842624) (hb : b ≤ 1125899906842624) : gcdV b (-(a : Int)) = (Nat.gcd a b : Int) := by
  unfold gcdV
  rw [if_pos]
  · simp [Nat.gcd_comm]
  · rw [Bool.and_eq_true, inR_iff, inR_iff]; omega
theorem tmod_dvd {a g : Nat} (h : g ∣ a) : (a : Int).tmod g = 0 := by
  rw [Int.tmod_eq_emod_of_nonneg (by omega), ← Int.natCast_emod, Nat.mod_eq_zero_of_dvd h]; rfl
theorem tdiv_nat (a g : Nat) : (a : Int).tdiv g = ((a / g : Nat) : Int) := by
  rw [Int.tdiv_eq_ediv_of_nonneg (by omega), Int.natCast_ediv]
theorem mdOk_one {a b : Nat} (ha : a ≤ 1125899906842624) (hb : b ≤ 1125899906842624) (h : a * b ≤ 1125899906842624) : md a b 1 = ((a * b : Nat) : Int) ∧ mdOk a b 1 = true := by
  have e : (a : Int) * b / 1 = ((a * b : Nat) : Int) := by rw [Int.ediv_one, Int.natCast_mul]
  have hm : mdOk (a : Int) b 1 = true := by
    unfold mdOk
    rw [e]
    simp only [Bool.and_eq_true, inR_iff, decide_eq_true_eq]
    omega
  exact ⟨by unfold md; rw [hm, if_pos rfl, e], hm⟩
theorem lcm_two {a b : Nat} (ha : 1 ≤ a ∧ a ≤ 33554432) (hb : 1 ≤ b ∧ b ≤ 33554432) : lcmP [(a : Int), (b : Int)] = (((a * (b / Nat.gcd a b) : Nat) : Int), true) := by
  have hp : lcmPos [(a : Int), (b : Int)] = true := by
    unfold lcmPos
    simp only [List.all_cons, List.all_nil, Bool.and_true, Bool.and_eq_true, inR_iff, decide_eq_true_eq]
    omega
  have e1 : lcmStep (1, true) a = ((a : Int), true) := by
    have hg : gcdV 1 (a : Int) = 1 := by
      have := gcdV_nat (a := 1) (b := a) (by omega) (by omega)
      rw [Nat.gcd_one_left] at this
      exact this
    have h := mdOk_one (a := 1) (b := a) (by omega) (by omega) (by omega)
    rw [Nat.one_mul] at h
    unfold lcmStep
    rw [if_pos rfl]
    simp only
    rw [hg, Int.ediv_one]
    exact Prod.ext h.1 h.2
  have e2 : lcmStep ((a : Int), true) b = (((a * (b / Nat.gcd a b) : Nat) : Int), true) := by
    have hb' : a * (b / Nat.gcd a b) ≤ 1125899906842624 := by
      have h1 : b / Nat.gcd a b ≤ b := Nat.div_le_self _ _
      have := Nat.mul_le_mul ha.2 (Nat.le_trans h1 hb.2)
      omega
    have h := mdOk_one (a := a) (b := b / Nat.gcd a b) (by omega) (by have := Nat.div_le_self b (Nat.gcd a b); omega) hb'
    unfold lcmStep
    rw [if_pos rfl]
    simp only
    rw [gcdV_nat (by omega) (by omega), ← Int.natCast_ediv]
    exact Prod.ext h.1 h.2
  unfold lcmP
  rw [hp, if_pos rfl]
  show lcmStep (lcmStep (1, true) a) b = _
  rw [e1, e2]
/-- What the law asks of the numbers k p and k q. -/
theorem shares_facts {k p q : Nat} (hk : 1 ≤ k ∧ k ≤ 32) (hp : 1 ≤ p ∧ p ≤ 1048576) (hq : 1 ≤ q ∧ q ≤ 1048576) :
    ∃ a b g c d l : Nat, (k : Int) * p = a ∧ (k : Int) * q = b ∧ 1 ≤ a ∧ a ≤ 33554432 ∧ 1 ≤ b ∧ b ≤ 33554432 ∧ 1 ≤ g ∧ g ≤ a ∧ gcdV a b = g ∧ (a : Int).tmod g = 0 ∧ (b : Int).tmod g = 0 ∧ (g : Int).tmod k = 0 ∧
      gcdV b (-(a : Int)) = g ∧ (a : Int).tdiv g = c ∧ (b : Int).tdiv g = d ∧ c ≤ 33554432 ∧ d ≤ 33554432 ∧ gcdV c d = 1 ∧ (c : Int) * b = l ∧ l ≤ 1125899906842624 ∧ (lcmP [(a : Int), (b : Int)]).1 = l ∧ (lcmP [(a : Int), (b : Int)]).2 = true := by
  have ha : 1 ≤ k * p ∧ k * p ≤ 33554432 := ⟨Nat.mul_pos (by omega) (by omega), Nat.mul_le_mul hk.2 hp.2⟩
  have hb : 1 ≤ k * q ∧ k * q ≤ 33554432 := ⟨Nat.mul_pos (by omega) (by omega), Nat.mul_le_mul hk.2 hq.2⟩
  have hkg : k ∣ Nat.gcd (k * p) (k * q) := Nat.dvd_gcd (Nat.dvd_mul_right _ _) (Nat.dvd_mul_right _ _)
  have e1 : (k : Int) * p = ((k * p : Nat) : Int) := by rw [Int.natCast_mul]
  have e2 : (k : Int) * q = ((k * q : Nat) : Int) := by rw [Int.natCast_mul]
  rw [e1, e2]
  generalize k * p = a at *
  generalize k * q = b at *
  have hg : 0 < Nat.gcd a b := Nat.gcd_pos_of_pos_left _ (by omega)
  have hl := lcm_two ha hb
  have hc := Nat.div_le_self a (Nat.gcd a b)
  have hd := Nat.div_le_self b (Nat.gcd a b)
  have hco : Nat.gcd (a / Nat.gcd a b) (b / Nat.gcd a b) = 1 := by rw [Nat.gcd_div (Nat.gcd_dvd_left a b) (Nat.gcd_dvd_right a b)]; exact Nat.div_self hg
  have hcb : a / Nat.gcd a b * b = a * (b / Nat.gcd a b) := by
    have h1 : a / Nat.gcd a b * Nat.gcd a b = a := Nat.div_mul_cancel (Nat.gcd_dvd_left a b)
    have h2 : b / Nat.gcd a b * Nat.gcd a b = b := Nat.div_mul_cancel (Nat.gcd_dvd_right a b)
    have h3 : a / Nat.gcd a b * b = a / Nat.gcd a b * (b / Nat.gcd a b * Nat.gcd a b) := by rw [h2]
    have h4 : a * (b / Nat.gcd a b) = a / Nat.gcd a b * Nat.gcd a b * (b / Nat.gcd a b) := by rw [h1]
    rw [h3, h4, Nat.mul_assoc, Nat.mul_comm (Nat.gcd a b)]
  refine ⟨a, b, Nat.gcd a b, a / Nat.gcd a b, b / Nat.gcd a b, a * (b / Nat.gcd a b), rfl, rfl, ha.1, ha.2, hb.1, hb.2, hg, Nat.le_of_dvd (by omega) (Nat.gcd_dvd_left a b), gcdV_nat (by omega) (by omega), tmod_dvd (Nat.gcd_dvd_left a b), tmod_dvd (Nat.gcd_dvd_right a b), tmod_dvd hkg,
    gcdV_neg (by omega) (by omega), tdiv_nat _ _, tdiv_nat _ _, by omega, by omega, by rw [gcdV_nat (by omega) (by omega), hco]; rfl, by rw [← Int.natCast_mul, hcb], ?_, by rw [hl], by rw [hl]⟩
  have := Nat.mul_le_mul ha.2 (Nat.le_trans hd hb.2)
  omega
set_option maxRecDepth 100000 in
set_option maxHeartbeats 2000000 in
theorem nlaw7_walk (x y z : Int) (hx : 0 ≤ x ∧ x ≤ 4294967295) (hy : 0 ≤ y ∧ y ≤ 4294967295) (hz : 0 ≤ z ∧ z ≤ 4294967295) (w : World) (hT : Hid (Tab w)) :
    Calls Tryd.prog 8 #[.agg #[.int .u32 x, .int .u32 y, .int .u32 z]] w fun e w' => e = .returned (.bool true) ∧ Below w.heap.size w w' := by
  obtain ⟨x0, x1⟩ := hx
  obtain ⟨y0, y1⟩ := hy
  obtain ⟨z0, z1⟩ := hz
  obtain ⟨k, hk⟩ : ∃ k : Nat, (k : Int) = 1 + z % 32 := ⟨(1 + z % 32).toNat, by omega⟩
  obtain ⟨p, hp⟩ : ∃ p : Nat, (p : Int) = 1 + x % 1048576 := ⟨(1 + x % 1048576).toNat, by omega⟩
  obtain ⟨q, hq⟩ : ∃ q : Nat, (q : Int) = 1 + y % 1048576 := ⟨(1 + y % 1048576).toNat, by omega⟩
  have hz1 : 1 + z % 32 = (k : Int) := hk.symm
  have kb : 1 ≤ k ∧ k ≤ 32 := by omega
  have pb : 1 ≤ p ∧ p ≤ 1048576 := by omega
  have qb : 1 ≤ q ∧ q ≤ 1048576 := by omega
  have zm : 0 ≤ z % 32 ∧ z % 32 ≤ 31 := by omega
  have ex1 : x.tmod 1048576 = x % 1048576 := Int.tmod_eq_emod_of_nonneg x0
  have ey1 : y.tmod 1048576 = y % 1048576 := Int.tmod_eq_emod_of_nonneg y0
  obtain ⟨u, hu⟩ : ∃ u, x % 1048576 = u := ⟨_, rfl⟩
  obtain ⟨v, hv⟩ : ∃ v, y % 1048576 = v := ⟨_, rfl⟩
  rw [hu] at ex1 hp
  rw [hv] at ey1 hq
  have ex2 : IntKind.u32.wrap u = u := IntWalk.u32_in _ (by omega)
  have ey2 : IntKind.u32.wrap v = v := IntWalk.u32_in _ (by omega)
  have ex3 : IntKind.i64.wrap u = u := IntWalk.i64_in _ (by omega)
  have ey3 : IntKind.i64.wrap v = v := IntWalk.i64_in _ (by omega)
  have ex4 : IntKind.i64.wrap (1 + u) = (p : Int) := by rw [← hp]; exact IntWalk.i64_in _ (by omega)
  have ey4 : IntKind.i64.wrap (1 + v) = (q : Int) := by rw [← hq]; exact IntWalk.i64_in _ (by omega)
  obtain ⟨a, b, g, c, d, l, f1, f2, a0, a1, b0, b1, g0, g1, f3, f4, f5, f6, f7, f8, f9, c1, d1, f10, f11, l1, f12, f13⟩ := shares_facts kb pb qb
  have ex5 : IntKind.i64.wrap ((k : Int) * p) = (a : Int) := by rw [f1]; exact IntWalk.i64_in _ (by omega)
  have ey5 : IntKind.i64.wrap ((k : Int) * q) = (b : Int) := by rw [f2]; exact IntWalk.i64_in _ (by omega)
  have en : IntKind.i64.wrap (-(a : Int)) = -(a : Int) := IntWalk.i64_in _ (by omega)
  have ec : IntKind.i64.wrap (c : Int) = c := IntWalk.i64_in _ (by omega)
  have ed : IntKind.i64.wrap (d : Int) = d := IntWalk.i64_in _ (by omega)
  have el : IntKind.i64.wrap ((c : Int) * b) = (l : Int) := by rw [f11]; exact IntWalk.i64_in _ (by omega)
  have K1 := Lib.hid fun w h => Calls.atI (gcd_any a b w h) f3
  have K2 := Lib.hid fun w h => Calls.atI (gcd_any b (-(a : Int)) w h) f7
  have K3 := Lib.hid fun w h => Calls.atI (gcd_any c d w h) f10
  have K4 := Lib.hid fun b' w hT hL => Calls.atIB (lcm_any [(a : Int), (b : Int)] 2 2 b' 0 w hT rfl (by omega) hL) f12 f13
  have gz : ((g : Int) == 0) = false := by simp; omega
  have gz' : ¬ (g : Int) = 0 := by omega
  have kz : ((k : Int) == 0) = false := by simp; omega
  have kz' : ¬ (k : Int) = 0 := by omega
  have gl : decide ((g : Int) < 1) = false := decide_eq_false (by omega)
  have gg : ((g : Int) != g) = false := by simp
  have k32 : (k : Int) ≤ 32 := by omega
  have k1 : (1 : Int) ≤ k := by omega
  clear f1 f2 f3 f7 f10 f11 f12 f13 hu hv hp hq hk
  have ga : (a : Int) ≤ 33554432 := by omega
  have gb : (b : Int) ≤ 33554432 := by omega
  go_enter Tryd.func8, Tryd.ntmps8
  go_wp2_with fail
  refine (works01 _ (by exact Tab.alloc hT _)).mono ?_
  rintro e w1 ⟨rfl, hb1⟩
  have hz1_0 : w.heap.size < w1.heap.size := by have := hb1.size; simp at this; omega
  have s1_0_0 : w1.cell? ⟨w.heap.size, 0, none⟩ = some (.int .u32 x) := (hb1.cell (p := ⟨w.heap.size, 0, none⟩) (by simp <;> omega)).trans (by go_simp)
  have s1_0_1 : w1.cell? ⟨w.heap.size, 1, none⟩ = some (.int .u32 y) := (hb1.cell (p := ⟨w.heap.size, 1, none⟩) (by simp <;> omega)).trans (by go_simp)
  have s1_0_2 : w1.cell? ⟨w.heap.size, 2, none⟩ = some (.int .u32 z) := (hb1.cell (p := ⟨w.heap.size, 2, none⟩) (by simp <;> omega)).trans (by go_simp)
  have H1 : Below w.heap.size w w1 := ((Below.refl _ _).alloc (Nat.le_refl _) _).trans (hb1.mono (by simp <;> omega))
  have T1 := Tab.below (Tab.alloc hT _) hb1
  clear hb1
  go_wp2_with fail
  have F0 := Bw.cell hz1_0 s1_0_0
  have F1 := Bw.cell hz1_0 s1_0_1
  have F2 := Bw.cell hz1_0 s1_0_2
  refine wp_region_bw (by kernel_rfl) (by kernel_rfl) ?_
  repeat (go_big_quiet_step (fail))
  refine wpQuiet_nil ?_
  rintro w2 ⟨⟨_, hb2⟩, rfl⟩
  clear F0 F1 F2
  have hz2_0 := Nat.lt_of_lt_of_le hz1_0 hb2.size
  have s2_0_0 := (hb2.cell (p := ⟨w.heap.size, 0, none⟩) hz1_0).trans s1_0_0
  have s2_0_1 := (hb2.cell (p := ⟨w.heap.size, 1, none⟩) hz1_0).trans s1_0_1
  have s2_0_2 := (hb2.cell (p := ⟨w.heap.size, 2, none⟩) hz1_0).trans s1_0_2
  have H2 := H1.trans (hb2.mono H1.size)
  have T2 := Tab.below T1 hb2
  clear hz1_0 s1_0_0 s1_0_1 s1_0_2 hb2 T1 H1
  go_wp2_with fail
  refine (K1.out _ (by exact T2)).mono ?_
  rintro e w3 ⟨rfl, hb3⟩
  have H3 := H2.trans (hb3.mono H2.size)
  have T3 := Tab.below T2 hb3
  clear hb3 T2 H2
  have R2 := Lib.hid fun (p : Bw w3) => Calls.bw_of (p := p) (K2.out p.w (Tab.below T3 p.h))
  have R3 := Lib.hid fun (p : Bw w3) => Calls.bw_of (p := p) (K3.out p.w (Tab.below T3 p.h))
  go_wp2_with fail
  refine wp_region_bw (by kernel_rfl) (by kernel_rfl) ?_
  repeat (go_big_quiet_step ((first | (go_at_call_of 21 (-(a : Int)); exact R2.out _) | (go_at_call_of 21 (c : Int); exact R3.out _))))
  refine wpQuiet_nil ?_
  rintro w4 ⟨⟨_, hb4⟩, rfl⟩
  have H4 := H3.trans (hb4.mono H3.size)
  have T4 := Tab.below T3 hb4
  clear hb4 T3 H3
  go_wp2_with fail
  refine (K4.out w4.heap.size _ (by exact Tab.alloc T4 _) (by exact ints_alloc _ [(a : Int), (b : Int)] _)).mono ?_
  rintro e w5 ⟨rfl, hb5⟩
  have H5 : Below w.heap.size w w5 := (H4.alloc H4.size _).trans (hb5.mono (by have := H4.size; simp <;> omega))
  have T5 := Tab.below (Tab.alloc T4 _) hb5
  clear hb5 T4 H4
  go_wp2_with (go_at_call 25; refine (is_ok _ _).mono ?_; rintro e w' ⟨rfl, rfl⟩)
  go_ret
  exact ⟨rfl, H5⟩
end Go.Proofs.YtikojcakkmmebaaDoor
