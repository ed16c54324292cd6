/- The reference of the layer delay: Ratio, Timed, Meet, DelayBound, RatioBound: what they compute. -/
import Derived.Test.YtelpjmmkaakceaaRef12
namespace Go.Proofs.Ytelpjmmkaakceaa
open Go.RowKit Go.Shelf

/-- Four numbers in a block: zeros, or what was stored. -/
def ResAt (b : Nat) (l : Bool) (x0 x1 x2 x3 : Int) (w : World) : Prop :=
  w.cell? ⟨b, 0, none⟩ = some (.int .i64 (if l then x0 else 0)) ∧ w.cell? ⟨b, 1, none⟩ = some (.int .i64 (if l then x1 else 0)) ∧ w.cell? ⟨b, 2, none⟩ = some (.int .i64 (if l then x2 else 0)) ∧ w.cell? ⟨b, 3, none⟩ = some (.int .i64 (if l then x3 else 0)) ∧
  w.frozen? ⟨b, 0, none⟩ = false ∧ w.frozen? ⟨b, 1, none⟩ = false ∧ w.frozen? ⟨b, 2, none⟩ = false ∧ w.frozen? ⟨b, 3, none⟩ = false
theorem ResAt.below {b : Nat} {l : Bool} {x0 x1 x2 x3 : Int} {w w' : World} (h : ResAt b l x0 x1 x2 x3 w) (hb : Below w.heap.size w w') (hz : b < w.heap.size) : ResAt b l x0 x1 x2 x3 w' :=
  ⟨(hb.cell (p := ⟨b, 0, none⟩) hz).trans h.1, (hb.cell (p := ⟨b, 1, none⟩) hz).trans h.2.1, (hb.cell (p := ⟨b, 2, none⟩) hz).trans h.2.2.1, (hb.cell (p := ⟨b, 3, none⟩) hz).trans h.2.2.2.1,
   (hb.frozen (p := ⟨b, 0, none⟩) hz).trans h.2.2.2.2.1, (hb.frozen (p := ⟨b, 1, none⟩) hz).trans h.2.2.2.2.2.1, (hb.frozen (p := ⟨b, 2, none⟩) hz).trans h.2.2.2.2.2.2.1, (hb.frozen (p := ⟨b, 3, none⟩) hz).trans h.2.2.2.2.2.2.2⟩
theorem ra_facts {n y : Int} (hn : -35184372088832 ≤ n ∧ n ≤ 35184372088832) (hy : 1 ≤ y ∧ y ≤ 17592186044416) :
    (-y ≤ n → n ≤ y → mdOk n 1000000000 y = true ∧ md n 1000000000 y = n * 1000000000 / y ∧ -1000000000 ≤ n * 1000000000 / y ∧ n * 1000000000 / y ≤ 1000000000) ∧
    ((y < n ∨ n < -y) → (mdOk n 1000000000 y && (decide (-8388608 ≤ md n 1000000000 y) && decide (md n 1000000000 y ≤ 8388608))) = false) := by
  have h0 : 0 < y := by omega
  constructor
  · intro h1 h2
    have q1 : n * 1000000000 / y ≤ 1000000000 := Int.ediv_le_of_le_mul h0 (by omega)
    have q2 : -1000000000 ≤ n * 1000000000 / y := (Int.le_ediv_iff_mul_le h0).2 (by omega)
    have hm : mdOk n 1000000000 y = true := by
      unfold mdOk
      simp only [Bool.and_eq_true, inR_iff, decide_eq_true_eq]
      omega
    exact ⟨hm, by unfold md; rw [hm, if_pos rfl], q2, q1⟩
  · intro h
    cases hm : mdOk n 1000000000 y
    · rfl
    · have e : md n 1000000000 y = n * 1000000000 / y := by unfold md; rw [hm, if_pos rfl]
      rw [e, Bool.true_and]
      rcases h with h | h
      · have : 1000000000 ≤ n * 1000000000 / y := (Int.le_ediv_iff_mul_le h0).2 (by omega)
        rw [decide_eq_false (show ¬ n * 1000000000 / y ≤ 8388608 by omega)]; simp
      · have : n * 1000000000 / y < -1000000000 + 1 := Int.ediv_lt_of_lt_mul h0 (by omega)
        rw [decide_eq_false (show ¬ -8388608 ≤ n * 1000000000 / y by omega)]; rfl
set_option maxRecDepth 100000 in
set_option maxHeartbeats 2000000 in
theorem rratio_any {a1 a2 a3 a4 b1 b2 b3 b4 : Int} (ha : okX a1 a2 a3 a4 = true) (hb : okX b1 b2 b3 b4 = true) (w : World) :
    Calls Try.prog 17 #[.agg #[.int .i64 a1, .int .i64 a2, .int .i64 a3, .int .i64 a4], .agg #[.int .i64 b1, .int .i64 b2, .int .i64 b3, .int .i64 b4]] w fun e w' => e = .returned (.tuple #[.int .i64 (raV a1 a2 a3 a4 b1 b2 b3 b4), .int .i64 (raE a1 a2 a3 a4 b1 b2 b3 b4)]) ∧ Below w.heap.size w w' := by
  have HE : raE a1 a2 a3 a4 b1 b2 b3 b4 = if b4 - a4 < 1 then 2 else if raOk a3 a4 b3 b4 then 0 else 6 := by unfold raE; rw [ha, hb]; simp
  have HW : raV a1 a2 a3 a4 b1 b2 b3 b4 = if decide (1 ≤ b4 - a4) && raOk a3 a4 b3 b4 then md (b3 - a3 - (b4 - a4)) 1000000000 (b4 - a4) else 0 := by unfold raV; rw [ha, hb]; simp
  rw [okX_iff] at ha hb
  obtain ⟨⟨p0, p1⟩, ⟨p2, p3⟩, ⟨p4, p5⟩, ⟨p6, p7⟩, p8, p9⟩ := ha
  obtain ⟨⟨q0, q1⟩, ⟨q2, q3⟩, ⟨q4, q5⟩, ⟨q6, q7⟩, q8, q9⟩ := hb
  have HB : Below w.heap.size w ((w.alloc (.cells #[.int .i64 a1, .int .i64 a2, .int .i64 a3, .int .i64 a4] 23)).alloc (.cells #[.int .i64 b1, .int .i64 b2, .int .i64 b3, .int .i64 b4] 23)) := ((Below.refl _ _).alloc (Nat.le_refl _) _).alloc (by simp) _
  by_cases hy : b4 - a4 < 1
  · have HV : Hid (raV a1 a2 a3 a4 b1 b2 b3 b4 = 0 ∧ raE a1 a2 a3 a4 b1 b2 b3 b4 = 2) := Lib.hid ⟨by rw [HW, decide_eq_false (show ¬ 1 ≤ b4 - a4 by omega)]; rfl, by rw [HE, if_pos hy]⟩
    clear HE HW
    go_enter Try.func17, Try.ntmps17
    go_wp2
    go_ret2
    exact ⟨ret_int2 HV.out.1.symm HV.out.2.symm, HB⟩
  · have HV0 : raOk a3 a4 b3 b4 = false → raV a1 a2 a3 a4 b1 b2 b3 b4 = 0 ∧ raE a1 a2 a3 a4 b1 b2 b3 b4 = 6 := fun h => ⟨by rw [HW, h]; simp, by rw [HE, if_neg hy, h]; rfl⟩
    have HV1 : raOk a3 a4 b3 b4 = true → raV a1 a2 a3 a4 b1 b2 b3 b4 = md (b3 - a3 - (b4 - a4)) 1000000000 (b4 - a4) ∧ raE a1 a2 a3 a4 b1 b2 b3 b4 = 0 := fun h => ⟨by rw [HW, h, decide_eq_true (show 1 ≤ b4 - a4 by omega)]; rfl, by rw [HE, if_neg hy, h]; rfl⟩
    obtain ⟨r1, r2⟩ := ra_facts (n := b3 - a3 - (b4 - a4)) (y := b4 - a4) (by omega) (by omega)
    clear HE HW
    by_cases c1 : b4 - a4 < b3 - a3 - (b4 - a4)
    · have HV := Lib.hid (HV0 (r2 (Or.inl c1)))
      clear HV0 HV1 r1 r2
      go_enter Try.func17, Try.ntmps17
      go_wp2
      go_ret2
      exact ⟨ret_int2 HV.out.1.symm HV.out.2.symm, HB⟩
    · by_cases c2 : b3 - a3 - (b4 - a4) < -(b4 - a4)
      · have HV := Lib.hid (HV0 (r2 (Or.inr c2)))
        clear HV0 HV1 r1 r2
        go_enter Try.func17, Try.ntmps17
        go_wp2
        go_ret2
        exact ⟨ret_int2 HV.out.1.symm HV.out.2.symm, HB⟩
      · obtain ⟨m1, m2, m3, m4⟩ := r1 (by omega) (by omega)
        have HL := Lib.hid fun w => long_any (b3 - a3 - (b4 - a4)) (b4 - a4) w (by omega) (by omega) (by omega) (by omega)
        have hr : raOk a3 a4 b3 b4 = (decide (-8388608 ≤ (b3 - a3 - (b4 - a4)) * 1000000000 / (b4 - a4)) && decide ((b3 - a3 - (b4 - a4)) * 1000000000 / (b4 - a4) ≤ 8388608)) := by unfold raOk; rw [m1, m2]; rfl
        rw [m2] at HV1
        generalize (b3 - a3 - (b4 - a4)) * 1000000000 / (b4 - a4) = q at *
        by_cases h1 : q < -8388608
        · have HV := Lib.hid (HV0 (by rw [hr, decide_eq_false (show ¬ -8388608 ≤ q by omega)]; rfl))
          clear HV0 HV1 r1 r2 m1 m2 hr
          go_enter Try.func17, Try.ntmps17
          go_wp2_with fail
          refine (HL.out _).mono ?_
          rintro e w1 ⟨rfl, hb1⟩
          go_wp2
          go_ret2
          exact ⟨ret_int2 HV.out.1.symm HV.out.2.symm, HB.trans (hb1.mono (by simp <;> omega))⟩
        · by_cases h2 : 8388608 < q
          · have HV := Lib.hid (HV0 (by rw [hr, decide_eq_false (show ¬ q ≤ 8388608 by omega)]; simp))
            clear HV0 HV1 r1 r2 m1 m2 hr
            go_enter Try.func17, Try.ntmps17
            go_wp2_with fail
            refine (HL.out _).mono ?_
            rintro e w1 ⟨rfl, hb1⟩
            go_wp2
            go_ret2
            exact ⟨ret_int2 HV.out.1.symm HV.out.2.symm, HB.trans (hb1.mono (by simp <;> omega))⟩
          · have HV := Lib.hid (HV1 (by rw [hr, decide_eq_true (show -8388608 ≤ q by omega), decide_eq_true (show q ≤ 8388608 by omega)]; rfl))
            clear HV0 HV1 r1 r2 m1 m2 hr
            go_enter Try.func17, Try.ntmps17
            go_wp2_with fail
            refine (HL.out _).mono ?_
            rintro e w1 ⟨rfl, hb1⟩
            go_wp2
            go_ret2
            exact ⟨ret_int2 HV.out.1.symm HV.out.2.symm, HB.trans (hb1.mono (by simp <;> omega))⟩
set_option maxHeartbeats 1000000 in
theorem rtimed_any (t d n : Int) (w : World) :
    Calls Try.prog 21 #[.int .i64 t, .int .i64 d, .int .i64 n] w fun e w' => e = .returned (.bool (timedB t d n)) ∧ w = w' := by
  cases hr : timedB t d n
  · have hno : ¬ ((0 ≤ t ∧ t ≤ 1099511627776) ∧ (0 ≤ d ∧ d ≤ 1099511627776) ∧ (0 ≤ n ∧ n ≤ 1099511627776) ∧ t + 2 * d + n ≤ 1099511627776) := fun k => by rw [← timedB_iff, hr] at k; cases k
    clear hr
    rcases (by omega : t < 0 ∨ (0 ≤ t ∧ 1099511627776 < t) ∨ (0 ≤ t ∧ t ≤ 1099511627776 ∧ d < 0) ∨ (0 ≤ t ∧ t ≤ 1099511627776 ∧ 0 ≤ d ∧ 1099511627776 < d) ∨ (0 ≤ t ∧ t ≤ 1099511627776 ∧ 0 ≤ d ∧ d ≤ 1099511627776 ∧ n < 0) ∨ (0 ≤ t ∧ t ≤ 1099511627776 ∧ 0 ≤ d ∧ d ≤ 1099511627776 ∧ 0 ≤ n ∧ 1099511627776 < n) ∨ (0 ≤ t ∧ t ≤ 1099511627776 ∧ 0 ≤ d ∧ d ≤ 1099511627776 ∧ 0 ≤ n ∧ n ≤ 1099511627776 ∧ 1099511627776 < t + 2 * d + n)) with h | ⟨h1, h⟩ | ⟨h1, h2, h⟩ | ⟨h1, h2, h3, h⟩ | ⟨h1, h2, h3, h4, h⟩ | ⟨h1, h2, h3, h4, h5, h⟩ | ⟨h1, h2, h3, h4, h5, h6, h⟩
    all_goals
      clear hno
      go_enter Try.func21, Try.ntmps21
      go_wp2
      go_ret
      exact ⟨by first | rfl | exact ret_bool (decide_eq_false (by omega)), rfl⟩
  · rw [timedB_iff] at hr
    obtain ⟨⟨t0, t1⟩, ⟨d0, d1⟩, ⟨n0, n1⟩, s1⟩ := hr
    go_enter Try.func21, Try.ntmps21
    go_wp2
    go_ret
    exact ⟨by first | rfl | exact ret_bool (decide_eq_true (by omega)), rfl⟩
theorem rtimed_b {t d n : Int} {b : Bool} (h : timedB t d n = b) (w : World) : Calls Try.prog 21 #[.int .i64 t, .int .i64 d, .int .i64 n] w fun e w' => e = .returned (.bool b) ∧ w = w' := h ▸ rtimed_any t d n w
set_option maxHeartbeats 1000000 in
theorem rratioBound_any {y : Int} (hok : rbOk y = true) (w : World) :
    Calls Try.prog 26 #[.int .i64 y] w fun e w' => e = .returned (.int .i64 (rbV y)) ∧ w = w' := by
  have HV : Hid (82 - -2001000000 / y = rbV y) := Lib.hid (by unfold rbV; rw [hok, if_pos rfl]; omega)
  unfold rbOk at hok
  rw [Bool.and_eq_true, decide_eq_true_eq, decide_eq_true_eq] at hok
  obtain ⟨h1, h2⟩ := hok
  have HF := Lib.hid fun w => floor_any (-2001000000) y w (by omega) (by omega) (by omega) (by omega)
  have hbd : -2001000000 ≤ -2001000000 / y ∧ -2001000000 / y ≤ 0 := by
    have b1 : -2001000000 / y ≤ 0 := by
      have := Int.ediv_le_ediv (show 0 < y by omega) (show (-2001000000 : Int) ≤ 0 by omega)
      rwa [Int.zero_ediv] at this
    have b2 : -2001000000 ≤ -2001000000 / y := (Int.le_ediv_iff_mul_le (show 0 < y by omega)).2 (by
      have := Int.mul_le_mul_of_nonneg_left h1 (show (0 : Int) ≤ 2001000000 by omega)
      omega)
    omega
  obtain ⟨v0, v1⟩ := hbd
  generalize -2001000000 / y = v at *
  go_enter Try.func26, Try.ntmps26
  go_wp2_with (go_at_call 31; refine (HF.out _).mono ?_; rintro e w' ⟨rfl, rfl⟩)
  go_ret
  exact ⟨ret_int HV.out, rfl⟩
set_option maxHeartbeats 1000000 in
theorem rdelayBound_any {p d n : Int} (hok : dbOk p d n = true) (w : World) :
    Calls Try.prog 24 #[.int .i64 p, .int .i64 d, .int .i64 n] w fun e w' => e = .returned (.int .i64 (dbV p d n)) ∧ w = w' := by
  have HV : Hid (dbV p d n = -(-(-((-(2 * d + n)) * p / 1000000000) + -((-n) * p / 1000000000)) / 2)) := Lib.hid (by unfold dbV; rw [hok]; rfl)
  unfold dbOk at hok
  rw [Bool.and_eq_true, Bool.and_eq_true, decide_eq_true_eq, decide_eq_true_eq, timedB_iff] at hok
  obtain ⟨⟨p0, p1⟩, -, ⟨d0, d1⟩, ⟨n0, n1⟩, s1⟩ := hok
  have s2 : 2 * d + n ≤ 1099511627776 := by omega
  have D1 := Lib.hid fun w => drift_any p (2 * d + n) w p0 p1 (by omega) s2
  have D2 := Lib.hid fun w => drift_any p n w p0 p1 n0 n1
  have m1 := mul_bd (a := -(2 * d + n)) (b := p) (A := 1099511627776) (B := 200000) (by omega) (by omega) (by omega) (by omega)
  have m2 := mul_bd (a := -n) (b := p) (A := 1099511627776) (B := 200000) (by omega) (by omega) (by omega) (by omega)
  obtain ⟨u, hu⟩ : ∃ u, -((-(2 * d + n)) * p / 1000000000) = u := ⟨_, rfl⟩
  obtain ⟨v, hv⟩ : ∃ v, -((-n) * p / 1000000000) = v := ⟨_, rfl⟩
  have u0 : -500000000000000 ≤ u ∧ u ≤ 500000000000000 := by omega
  have v0 : -500000000000000 ≤ v ∧ v ≤ 500000000000000 := by omega
  rw [hu] at D1
  rw [hv] at D2
  rw [hu, hv] at HV
  have HF := Lib.hid fun w => floor_any (-(u + v)) 2 w (by omega) (by omega) (by omega) (by omega)
  have hz : -1000000000000000 ≤ -(u + v) / 2 ∧ -(u + v) / 2 ≤ 1000000000000000 := by omega
  clear hu hv m1 m2
  obtain ⟨u0, u1⟩ := u0
  obtain ⟨v0, v1⟩ := v0
  obtain ⟨z0, z1⟩ := hz
  generalize hzz : -(u + v) / 2 = z at *
  clear hzz
  go_enter Try.func24, Try.ntmps24
  go_wp2_with fail
  refine (D1.out _).mono ?_
  rintro e w' ⟨rfl, rfl⟩
  go_wp2_with fail
  refine (D2.out _).mono ?_
  rintro e w' ⟨rfl, rfl⟩
  go_wp2_with fail
  refine (HF.out _).mono ?_
  rintro e w' ⟨rfl, rfl⟩
  go_wp2
  go_ret
  exact ⟨ret_int HV.out.symm, rfl⟩
set_option maxRecDepth 100000 in
set_option maxHeartbeats 4000000 in
theorem rmeet_any {o1 p1 o2 p2 t d n : Int} (ha : okC o1 p1 = true) (hb : okC o2 p2 = true) (ht : timedB t d n = true) (w : World) :
    Calls Try.prog 22 #[.agg #[.int .i64 o1, .int .i64 p1], .agg #[.int .i64 o2, .int .i64 p2], .int .i64 t, .int .i64 d, .int .i64 n] w fun e w' =>
      e = .returned (.agg #[.int .i64 (metV o1 p1 o2 p2 t d n 0), .int .i64 (metV o1 p1 o2 p2 t d n 1), .int .i64 (metV o1 p1 o2 p2 t d n 2), .int .i64 (metV o1 p1 o2 p2 t d n 3)]) ∧ Below w.heap.size w w' := by
  have hv : ∀ j, metV o1 p1 o2 p2 t d n j = locV (mtO o1 o2 j) (mtO p1 p2 j) (mtT t d n j) := fun j => by unfold metV metOk; rw [ha, hb, ht]; rfl
  rw [timedB_iff] at ht
  obtain ⟨⟨t0, t1⟩, ⟨d0, d1⟩, ⟨n0, n1⟩, s1⟩ := ht
  have e0 : metV o1 p1 o2 p2 t d n 0 = atC o1 p1 t := (hv 0).trans (loc_ok (t := t) ha (by rw [inT_iff]; omega)).1
  have e1 : metV o1 p1 o2 p2 t d n 1 = atC o2 p2 (t + d) := (hv 1).trans (loc_ok (t := t + d) hb (by rw [inT_iff]; omega)).1
  have e2 : metV o1 p1 o2 p2 t d n 2 = atC o2 p2 (t + d + n) := (hv 2).trans (loc_ok (t := t + d + n) hb (by rw [inT_iff]; omega)).1
  have e3 : metV o1 p1 o2 p2 t d n 3 = atC o1 p1 (t + 2 * d + n) := (hv 3).trans (loc_ok (t := t + 2 * d + n) ha (by rw [inT_iff]; omega)).1
  have A0 := Lib.hid fun w => refAt_any o1 p1 t w ha (by omega) (by omega)
  have A1 := Lib.hid fun w => refAt_any o2 p2 (t + d) w hb (by omega) (by omega)
  have A2 := Lib.hid fun w => refAt_any o2 p2 (t + d + n) w hb (by omega) (by omega)
  have A3 := Lib.hid fun w => refAt_any o1 p1 (t + 2 * d + n) w ha (by omega) (by omega)
  rw [← e0] at A0
  rw [← e1] at A1
  rw [← e2] at A2
  rw [← e3] at A3
  clear e0 e1 e2 e3 hv ha hb
  generalize metV o1 p1 o2 p2 t d n 0 = v0 at *
  generalize metV o1 p1 o2 p2 t d n 1 = v1 at *
  generalize metV o1 p1 o2 p2 t d n 2 = v2 at *
  generalize metV o1 p1 o2 p2 t d n 3 = v3 at *
  have x1 : IntKind.i64.wrap (t + d) = t + d := IntWalk.i64_in _ (by omega)
  have x2 : IntKind.i64.wrap (t + d + n) = t + d + n := IntWalk.i64_in _ (by omega)
  have x3 : IntKind.i64.wrap (2 * d) = 2 * d := IntWalk.i64_in _ (by omega)
  have x4 : IntKind.i64.wrap (t + 2 * d) = t + 2 * d := IntWalk.i64_in _ (by omega)
  have x5 : IntKind.i64.wrap (t + 2 * d + n) = t + 2 * d + n := IntWalk.i64_in _ (by omega)
  go_enter Try.func22, Try.ntmps22
  go_wp2_with fail
  refine wp_gen ?_
  rintro w1 hg1
  have hz1_0 : w.heap.size < w1.heap.size := by rw [hg1]; simp <;> omega
  have s1_0_0 : w1.cell? ⟨w.heap.size, 0, none⟩ = some (.int .i64 o1) := by rw [hg1]; go_simp
  have s1_0_1 : w1.cell? ⟨w.heap.size, 1, none⟩ = some (.int .i64 p1) := by rw [hg1]; go_simp
  have hz1_1 : w.heap.size + 1 < w1.heap.size := by rw [hg1]; simp <;> omega
  have s1_1_0 : w1.cell? ⟨w.heap.size + 1, 0, none⟩ = some (.int .i64 o2) := by rw [hg1]; go_simp
  have s1_1_1 : w1.cell? ⟨w.heap.size + 1, 1, none⟩ = some (.int .i64 p2) := by rw [hg1]; go_simp
  have hz1_2 : w.heap.size + 2 < w1.heap.size := by rw [hg1]; simp <;> omega
  have s1_2_0 : w1.cell? ⟨w.heap.size + 2, 0, none⟩ = some (.int .i64 0) := by rw [hg1]; go_simp
  have s1_2_1 : w1.cell? ⟨w.heap.size + 2, 1, none⟩ = some (.int .i64 0) := by rw [hg1]; go_simp
  have s1_2_2 : w1.cell? ⟨w.heap.size + 2, 2, none⟩ = some (.int .i64 0) := by rw [hg1]; go_simp
  have s1_2_3 : w1.cell? ⟨w.heap.size + 2, 3, none⟩ = some (.int .i64 0) := by rw [hg1]; go_simp
  have z1_2_0 : w1.frozen? ⟨w.heap.size + 2, 0, none⟩ = false := by rw [hg1]; go_simp
  have z1_2_1 : w1.frozen? ⟨w.heap.size + 2, 1, none⟩ = false := by rw [hg1]; go_simp
  have z1_2_2 : w1.frozen? ⟨w.heap.size + 2, 2, none⟩ = false := by rw [hg1]; go_simp
  have z1_2_3 : w1.frozen? ⟨w.heap.size + 2, 3, none⟩ = false := by rw [hg1]; go_simp
  have H1 : Below w.heap.size w w1 := by rw [hg1]; exact ((((Below.refl _ _).alloc (Nat.le_refl _) _).alloc (by simp <;> omega) _).alloc (by simp <;> omega) _)
  clear hg1
  refine wp_region_put (R := Unit) [11, 12, 13, 14, 15, 16, 17, 18, 19, 20, 21, 22, 23, 24, 25, 26, 27, 28, 29, 30, 31, 32, 33, 34]
    (fun _ => [.agg #[.int .i64 o1, .int .i64 p1], .int .i64 t, .int .i64 v0, .agg #[.int .i64 o2, .int .i64 p2], .int .i64 t, .int .i64 d, .int .i64 (t + d), .int .i64 v1, .agg #[.int .i64 o2, .int .i64 p2], .int .i64 t, .int .i64 d, .int .i64 (t + d), .int .i64 n, .int .i64 (t + d + n), .int .i64 v2, .agg #[.int .i64 o1, .int .i64 p1], .int .i64 t, .int .i64 d, .int .i64 (2 * d), .int .i64 (t + 2 * d), .int .i64 n, .int .i64 (t + 2 * d + n), .int .i64 v3, .agg #[.int .i64 v0, .int .i64 v1, .int .i64 v2, .int .i64 v3]])
    (fun L _ wx => Below (w.heap.size + 2) w1 wx ∧ w.heap.size + 2 < wx.heap.size ∧ ResAt (w.heap.size + 2) (L 24) v0 v1 v2 v3 wx)
    (by kernel_rfl) (by kernel_rfl) (by kernel_rfl) () ?_ ?_ ?_
  · exact ⟨(Below.refl _ _).drew, hz1_2, ResAt.below (l := false) (x0 := v0) (x1 := v1) (x2 := v2) (x3 := v3) ⟨s1_2_0, s1_2_1, s1_2_2, s1_2_3, z1_2_0, z1_2_1, z1_2_2, z1_2_3⟩  (Below.refl _ _).drew hz1_2⟩
  · refine ⟨?_, ?_, ?_, ?_, ?_, ?_, ?_, ?_, ?_, ?_, ?_, ?_, ?_, ?_, ?_, ?_, ?_, ?_, ?_, ?_, ?_, ?_, ?_, ?_, ?_, trivial⟩
    all_goals
      rintro L ⟨⟩ wx K hLi hdep ⟨hB, hz, hR⟩ hK
      have f0 := (hB.cell (p := ⟨w.heap.size, 0, none⟩) (by simp <;> omega)).trans s1_0_0
      have f1 := (hB.cell (p := ⟨w.heap.size, 1, none⟩) (by simp <;> omega)).trans s1_0_1
      have f2 := (hB.cell (p := ⟨w.heap.size + 1, 0, none⟩) (by simp <;> omega)).trans s1_1_0
      have f3 := (hB.cell (p := ⟨w.heap.size + 1, 1, none⟩) (by simp <;> omega)).trans s1_1_1
      simp only [putAll, Act.put, List.setIfInBounds_toArray, List.set_cons_succ, List.set_cons_zero] at hK ⊢
      go_simp
    · exact hK () wx ⟨hB, hz, by simpa using hR⟩
    · exact hK () wx ⟨hB, hz, by simpa using hR⟩
    · refine (A0.out _).mono ?_
      rintro e w' ⟨rfl, hb⟩
      exact hK () w' ⟨hB.trans (hb.mono (by omega)), Nat.lt_of_lt_of_le hz hb.size, by simpa using hR.below hb hz⟩
    · exact hK () wx ⟨hB, hz, by simpa using hR⟩
    · exact hK () wx ⟨hB, hz, by simpa using hR⟩
    · exact hK () wx ⟨hB, hz, by simpa using hR⟩
    · exact hK () wx ⟨hB, hz, by simpa using hR⟩
    · refine (A1.out _).mono ?_
      rintro e w' ⟨rfl, hb⟩
      exact hK () w' ⟨hB.trans (hb.mono (by omega)), Nat.lt_of_lt_of_le hz hb.size, by simpa using hR.below hb hz⟩
    · exact hK () wx ⟨hB, hz, by simpa using hR⟩
    · exact hK () wx ⟨hB, hz, by simpa using hR⟩
    · exact hK () wx ⟨hB, hz, by simpa using hR⟩
    · exact hK () wx ⟨hB, hz, by simpa using hR⟩
    · exact hK () wx ⟨hB, hz, by simpa using hR⟩
    · exact hK () wx ⟨hB, hz, by simpa using hR⟩
    · refine (A2.out _).mono ?_
      rintro e w' ⟨rfl, hb⟩
      exact hK () w' ⟨hB.trans (hb.mono (by omega)), Nat.lt_of_lt_of_le hz hb.size, by simpa using hR.below hb hz⟩
    · exact hK () wx ⟨hB, hz, by simpa using hR⟩
    · exact hK () wx ⟨hB, hz, by simpa using hR⟩
    · exact hK () wx ⟨hB, hz, by simpa using hR⟩
    · exact hK () wx ⟨hB, hz, by simpa using hR⟩
    · exact hK () wx ⟨hB, hz, by simpa using hR⟩
    · exact hK () wx ⟨hB, hz, by simpa using hR⟩
    · exact hK () wx ⟨hB, hz, by simpa using hR⟩
    · refine (A3.out _).mono ?_
      rintro e w' ⟨rfl, hb⟩
      exact hK () w' ⟨hB.trans (hb.mono (by omega)), Nat.lt_of_lt_of_le hz hb.size, by simpa using hR.below hb hz⟩
    · exact hK () wx ⟨hB, hz, by simpa using hR⟩
    · rw [hLi] at hR
      obtain ⟨r0, r1, r2, r3, q0, q1, q2, q3⟩ := hR
      simp only [Bool.false_eq_true, if_false] at r0 r1 r2 r3
      go_simp
      refine hK () _ ⟨(((hB.setCell (by simp) _).setCell (by simp) _).setCell (by simp) _).setCell (by simp) _, by simpa [World.setCell] using hz, ?_⟩
      simp only [BEq.rfl, Bool.or_true]
      exact ⟨by go_simp, by go_simp, by go_simp, by go_simp, by go_simp, by go_simp, by go_simp, by go_simp⟩
  · rintro ⟨⟩ w2 ⟨hB, hz, r0, r1, r2, r3, _, _, _, _⟩
    simp only [putAll, Act.put, List.setIfInBounds_toArray, List.set_cons_succ, List.set_cons_zero]
    simp only [if_true] at r0 r1 r2 r3
    have H2 := H1.trans (hB.mono (by omega))
    go_wp2_with fail
    exact bodyPost_ret (v := .agg #[.int .i64 v0, .int .i64 v1, .int .i64 v2, .int .i64 v3]) (by simp [results, Try.results22, go_sem, r0, r1, r2, r3]) rfl ⟨rfl, H2⟩
end Go.Proofs.Ytelpjmmkaakceaa
