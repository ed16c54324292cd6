/- The reference of the layer num: In, result, Add, Sub, FloorDiv, CeilDiv, Mod, abs: what they compute. -/
import Derived.Test.YtikojcakkmmebaaDoorNum2
import Derived.Deep.RegionWith
namespace Go.Proofs.YtikojcakkmmebaaDoor
open Go.RowKit

theorem inR_no {n : Int} (h : inR n = false) : n < -1125899906842624 ∨ (-1125899906842624 ≤ n ∧ 1125899906842624 < n) := by
  have : ¬ (-1125899906842624 ≤ n ∧ n ≤ 1125899906842624) := fun k => by rw [← inR_iff, h] at k; cases k
  omega
set_option maxHeartbeats 400000 in
theorem rin_any (n : Int) (w : World) :
    Calls Tryd.prog 34 #[.int .i64 n] w fun e w' => e = .returned (.bool (inR n)) ∧ w = w' := by
  cases hr : inR n
  · have h := inR_no hr
    clear hr
    rcases h with h | ⟨h', h⟩
    all_goals
      go_enter Tryd.func34, Tryd.ntmps34
      go_wp2
      go_ret
      exact ⟨by first | rfl | exact ret_bool (decide_eq_false (by omega)), rfl⟩
  · rw [inR_iff] at hr
    obtain ⟨h, h'⟩ := hr
    go_enter Tryd.func34, Tryd.ntmps34
    go_wp2
    go_ret
    exact ⟨rfl, rfl⟩
theorem rin_ok {n : Int} (h : inR n = true) (w : World) : Calls Tryd.prog 34 #[.int .i64 n] w fun e w' => e = .returned (.bool true) ∧ w = w' := by
  have := rin_any n w
  rwa [h] at this
theorem rin_no {n : Int} (h : inR n = false) (w : World) : Calls Tryd.prog 34 #[.int .i64 n] w fun e w' => e = .returned (.bool false) ∧ w = w' := by
  have := rin_any n w
  rwa [h] at this
set_option maxHeartbeats 400000 in
theorem rresult_any (n : Int) (w : World) :
    Calls Tryd.prog 40 #[.int .i64 n] w fun e w' => e = .returned (.tuple #[.int .i64 (fitI n), .bool (inR n)]) ∧ w = w' := by
  cases h : inR n
  · have H : Hid (fitI n = 0) := Lib.hid (by unfold fitI; rw [h]; rfl)
    have HI := Lib.hid (rin_no h)
    clear h
    go_enter Tryd.func40, Tryd.ntmps40
    go_wp2_with (go_at_call 34; refine (HI.out _).mono ?_; rintro e w' ⟨rfl, rfl⟩)
    go_ret2
    exact ⟨ret_ib H.out.symm rfl, rfl⟩
  · have H : Hid (fitI n = n) := Lib.hid (by unfold fitI; rw [h]; rfl)
    have HI := Lib.hid (rin_ok h)
    clear h
    go_enter Tryd.func40, Tryd.ntmps40
    go_wp2_with (go_at_call 34; refine (HI.out _).mono ?_; rintro e w' ⟨rfl, rfl⟩)
    go_ret2
    exact ⟨ret_ib H.out.symm rfl, rfl⟩
set_option maxHeartbeats 400000 in
theorem rabs_any (x : Int) (w : World) (hx0 : -4503599627370496 ≤ x) (hx : x ≤ 4503599627370496) :
    Calls Tryd.prog 39 #[.int .i64 x] w fun e w' => e = .returned (.int .i64 (absI x)) ∧ w = w' := by
  by_cases h : x < -x
  all_goals
    go_enter Tryd.func39, Tryd.ntmps39
    go_wp2
    go_ret
    exact ⟨ret_int (by unfold absI; split <;> omega), rfl⟩
set_option maxHeartbeats 400000 in
theorem radd_any (a b : Int) (w : World) :
    Calls Tryd.prog 27 #[.int .i64 a, .int .i64 b] w fun e w' => e = .returned (.tuple #[.int .i64 (sumV a b), .bool (sumOk a b)]) ∧ w = w' := by
  cases ha : inR a
  · have H : Hid (sumV a b = 0 ∧ sumOk a b = false) := Lib.hid (by unfold sumV sumOk; rw [ha]; exact ⟨rfl, rfl⟩)
    have HA := Lib.hid (rin_no ha)
    clear ha
    go_enter Tryd.func27, Tryd.ntmps27
    go_wp2_with (go_at_call_of 34 a; refine (HA.out _).mono ?_; rintro e w' ⟨rfl, rfl⟩)
    go_ret2
    exact ⟨ret_ib H.out.1.symm H.out.2.symm, rfl⟩
  · have HA := Lib.hid (rin_ok ha)
    cases hb : inR b
    · have H : Hid (sumV a b = 0 ∧ sumOk a b = false) := Lib.hid (by unfold sumV sumOk; rw [ha, hb]; exact ⟨rfl, rfl⟩)
      have HB := Lib.hid (rin_no hb)
      clear ha hb
      go_enter Tryd.func27, Tryd.ntmps27
      go_wp2_with (first | (go_at_call_of 34 a; refine (HA.out _).mono ?_; rintro e w' ⟨rfl, rfl⟩) | (go_at_call_of 34 b; refine (HB.out _).mono ?_; rintro e w' ⟨rfl, rfl⟩))
      go_ret2
      exact ⟨ret_ib H.out.1.symm H.out.2.symm, rfl⟩
    · have HB := Lib.hid (rin_ok hb)
      have H : Hid (fitI (a + b) = sumV a b ∧ inR (a + b) = sumOk a b) := Lib.hid (fit_is rfl (by unfold sumOk; rw [ha, hb]; rfl))
      have HF := Lib.hid fun w => rresult_any (a + b) w
      rw [inR_iff] at ha hb
      obtain ⟨a0, a1⟩ := ha
      obtain ⟨b0, b1⟩ := hb
      go_enter Tryd.func27, Tryd.ntmps27
      go_wp2_with (first | (go_at_call_of 34 a; refine (HA.out _).mono ?_; rintro e w' ⟨rfl, rfl⟩) | (go_at_call_of 34 b; refine (HB.out _).mono ?_; rintro e w' ⟨rfl, rfl⟩) | (go_at_call 40; refine (HF.out _).mono ?_; rintro e w' ⟨rfl, rfl⟩))
      go_ret2
      exact ⟨ret_ib H.out.1 H.out.2, rfl⟩
set_option maxHeartbeats 400000 in
theorem rsub_any (a b : Int) (w : World) :
    Calls Tryd.prog 29 #[.int .i64 a, .int .i64 b] w fun e w' => e = .returned (.tuple #[.int .i64 (difV a b), .bool (difOk a b)]) ∧ w = w' := by
  cases ha : inR a
  · have H : Hid (difV a b = 0 ∧ difOk a b = false) := Lib.hid (by unfold difV difOk; rw [ha]; exact ⟨rfl, rfl⟩)
    have HA := Lib.hid (rin_no ha)
    clear ha
    go_enter Tryd.func29, Tryd.ntmps29
    go_wp2_with (go_at_call_of 34 a; refine (HA.out _).mono ?_; rintro e w' ⟨rfl, rfl⟩)
    go_ret2
    exact ⟨ret_ib H.out.1.symm H.out.2.symm, rfl⟩
  · have HA := Lib.hid (rin_ok ha)
    cases hb : inR b
    · have H : Hid (difV a b = 0 ∧ difOk a b = false) := Lib.hid (by unfold difV difOk; rw [ha, hb]; exact ⟨rfl, rfl⟩)
      have HB := Lib.hid (rin_no hb)
      clear ha hb
      go_enter Tryd.func29, Tryd.ntmps29
      go_wp2_with (first | (go_at_call_of 34 a; refine (HA.out _).mono ?_; rintro e w' ⟨rfl, rfl⟩) | (go_at_call_of 34 b; refine (HB.out _).mono ?_; rintro e w' ⟨rfl, rfl⟩))
      go_ret2
      exact ⟨ret_ib H.out.1.symm H.out.2.symm, rfl⟩
    · have HB := Lib.hid (rin_ok hb)
      have H : Hid (fitI (a - b) = difV a b ∧ inR (a - b) = difOk a b) := Lib.hid (fit_is rfl (by unfold difOk; rw [ha, hb]; rfl))
      have HF := Lib.hid fun w => rresult_any (a - b) w
      rw [inR_iff] at ha hb
      obtain ⟨a0, a1⟩ := ha
      obtain ⟨b0, b1⟩ := hb
      go_enter Tryd.func29, Tryd.ntmps29
      go_wp2_with (first | (go_at_call_of 34 a; refine (HA.out _).mono ?_; rintro e w' ⟨rfl, rfl⟩) | (go_at_call_of 34 b; refine (HB.out _).mono ?_; rintro e w' ⟨rfl, rfl⟩) | (go_at_call 40; refine (HF.out _).mono ?_; rintro e w' ⟨rfl, rfl⟩))
      go_ret2
      exact ⟨ret_ib H.out.1 H.out.2, rfl⟩
theorem tdiv_ge (a b : Int) (hb : 0 < b) : (a.tdiv b * b > a ↔ a.tmod b < 0) := by
  have e := Int.mul_tdiv_add_tmod a b
  rw [Int.mul_comm] at e
  omega
set_option maxHeartbeats 400000 in
theorem rfloordiv_any (a b : Int) (w : World) :
    Calls Tryd.prog 13 #[.int .i64 a, .int .i64 b] w fun e w' => e = .returned (.tuple #[.int .i64 (dvV a b), .bool (dvOk a b)]) ∧ w = w' := by
  cases ha : inR a
  · have H : Hid (dvV a b = 0 ∧ dvOk a b = false) := Lib.hid (by unfold dvV dvOk; rw [ha]; exact ⟨rfl, rfl⟩)
    have HA := Lib.hid (rin_no ha)
    clear ha
    go_enter Tryd.func13, Tryd.ntmps13
    go_wp2_with (go_at_call_of 34 a; refine (HA.out _).mono ?_; rintro e w' ⟨rfl, rfl⟩)
    go_ret2
    exact ⟨ret_ib H.out.1.symm H.out.2.symm, rfl⟩
  · have HA := Lib.hid (rin_ok ha)
    cases hb : inR b
    · have H : Hid (dvV a b = 0 ∧ dvOk a b = false) := Lib.hid (by unfold dvV dvOk; rw [ha, hb]; exact ⟨rfl, rfl⟩)
      have HB := Lib.hid (rin_no hb)
      clear ha hb
      go_enter Tryd.func13, Tryd.ntmps13
      go_wp2_with (first | (go_at_call_of 34 a; refine (HA.out _).mono ?_; rintro e w' ⟨rfl, rfl⟩) | (go_at_call_of 34 b; refine (HB.out _).mono ?_; rintro e w' ⟨rfl, rfl⟩))
      go_ret2
      exact ⟨ret_ib H.out.1.symm H.out.2.symm, rfl⟩
    · have HB := Lib.hid (rin_ok hb)
      by_cases h1 : 1 ≤ b
      · have H : Hid (dvV a b = a / b ∧ dvOk a b = true) := Lib.hid (by unfold dvV dvOk; rw [ha, hb]; simp [h1])
        have HF := Lib.hid (floor_of' a b (by omega))
        rw [inR_iff] at ha hb
        obtain ⟨a0, a1⟩ := ha
        obtain ⟨b0, b1⟩ := hb
        obtain ⟨q0, q1⟩ := tdiv_in (b := b) a0 a1
        have hbn : (b == 0) = false := by simp; omega
        have hm' := tdiv_ge a b (by omega)
        have hpb : -2251799813685248 ≤ a.tdiv b * b ∧ a.tdiv b * b ≤ 2251799813685248 := by
          have e := Int.mul_tdiv_add_tmod a b
          rw [Int.mul_comm] at e
          have t1 := Int.tmod_lt_of_pos a (show 0 < b by omega)
          have t2 := Int.tmod_lt_of_pos (-a) (show 0 < b by omega)
          rw [Int.neg_tmod] at t2
          omega
        obtain ⟨m, hm⟩ : ∃ m, a.tdiv b * b = m := ⟨_, rfl⟩
        rw [hm] at hm' hpb
        have e1 : IntKind.i64.wrap (a.tdiv b * b) = m := by rw [hm]; exact IntWalk.i64_in _ (by omega)
        obtain ⟨m0, m1⟩ := hpb
        by_cases hlt : a < m
        · have HF2 : Hid (a.tdiv b - 1 = a / b) := Lib.hid (by rw [HF.out, if_pos (hm'.1 hlt)])
          clear HF hm' hm
          generalize hqq : a.tdiv b = q at *
          go_enter Tryd.func13, Tryd.ntmps13
          go_wp2_with (first | (go_at_call_of 34 a; refine (HA.out _).mono ?_; rintro e w' ⟨rfl, rfl⟩) | (go_at_call_of 34 b; refine (HB.out _).mono ?_; rintro e w' ⟨rfl, rfl⟩))
          go_ret2
          exact ⟨ret_ib (HF2.out.trans H.out.1.symm) H.out.2.symm, rfl⟩
        · have HF2 : Hid (a.tdiv b = a / b) := Lib.hid (by rw [HF.out, if_neg (fun k => hlt (hm'.2 k))])
          clear HF hm' hm
          generalize hqq : a.tdiv b = q at *
          go_enter Tryd.func13, Tryd.ntmps13
          go_wp2_with (first | (go_at_call_of 34 a; refine (HA.out _).mono ?_; rintro e w' ⟨rfl, rfl⟩) | (go_at_call_of 34 b; refine (HB.out _).mono ?_; rintro e w' ⟨rfl, rfl⟩))
          go_ret2
          exact ⟨ret_ib (HF2.out.trans H.out.1.symm) H.out.2.symm, rfl⟩
      · have H : Hid (dvV a b = 0 ∧ dvOk a b = false) := Lib.hid (by unfold dvV dvOk; rw [ha, hb]; simp [h1])
        clear ha hb
        go_enter Tryd.func13, Tryd.ntmps13
        go_wp2_with (first | (go_at_call_of 34 a; refine (HA.out _).mono ?_; rintro e w' ⟨rfl, rfl⟩) | (go_at_call_of 34 b; refine (HB.out _).mono ?_; rintro e w' ⟨rfl, rfl⟩))
        go_ret2
        exact ⟨ret_ib H.out.1.symm H.out.2.symm, rfl⟩
theorem ceil_of {a b : Int} (hb : 0 < b) : -(-a / b) = if a / b * b < a then a / b + 1 else a / b := by
  obtain ⟨h1, h2⟩ := ediv_bd a hb
  split
  · have : -a / b = -(a / b) - 1 := ediv_eq hb (by rw [Int.sub_mul, Int.neg_mul]; omega) (by rw [Int.add_mul, Int.sub_mul, Int.neg_mul]; omega)
    omega
  · have : -a / b = -(a / b) := ediv_eq hb (by rw [Int.neg_mul]; omega) (by rw [Int.add_mul, Int.neg_mul]; omega)
    omega
theorem dvOk_out {a b : Int} (h : dvOk a b = true) : (-1125899906842624 ≤ a ∧ a ≤ 1125899906842624) ∧ (-1125899906842624 ≤ b ∧ b ≤ 1125899906842624) ∧ 1 ≤ b := by
  unfold dvOk at h
  rw [Bool.and_eq_true, Bool.and_eq_true, inR_iff, inR_iff, decide_eq_true_eq] at h
  exact ⟨h.1.1, h.1.2, h.2⟩
set_option maxHeartbeats 400000 in
theorem rceildiv_any (a b : Int) (w : World) :
    Calls Tryd.prog 15 #[.int .i64 a, .int .i64 b] w fun e w' => e = .returned (.tuple #[.int .i64 (clV a b), .bool (dvOk a b)]) ∧ w = w' := by
  have HF := Lib.hid fun w => rfloordiv_any a b w
  cases h : dvOk a b
  · have H : Hid (clV a b = dvV a b) := Lib.hid (by unfold clV dvV; rw [h]; rfl)
    rw [h] at HF
    clear h
    generalize dvV a b = q at *
    go_enter Tryd.func15, Tryd.ntmps15
    go_wp2_with (go_at_call 13; refine (HF.out _).mono ?_; rintro e w' ⟨rfl, rfl⟩)
    go_ret2
    exact ⟨ret_ib H.out.symm rfl, rfl⟩
  · have hv : dvV a b = a / b := by unfold dvV; rw [h]; rfl
    have hc : clV a b = -(-a / b) := by unfold clV; rw [h]; rfl
    obtain ⟨q0, q1⟩ := div_bd h
    rw [h, hv] at HF
    obtain ⟨⟨a0, a1⟩, ⟨b0, b1⟩, hb⟩ := dvOk_out h
    have hce := ceil_of (a := a) (b := b) (by omega)
    obtain ⟨r0, r1⟩ := ediv_bd a (show 0 < b by omega)
    rw [← hc] at hce
    clear hv hc h
    generalize a / b = q at *
    obtain ⟨m, hm⟩ : ∃ m, q * b = m := ⟨_, rfl⟩
    rw [hm] at r0 r1 hce
    have e1 : IntKind.i64.wrap (q * b) = m := by rw [hm]; exact IntWalk.i64_in _ (by omega)
    clear hm
    by_cases hlt : m < a
    · have H : Hid (q + 1 = clV a b) := Lib.hid (by rw [hce, if_pos hlt])
      clear hce
      go_enter Tryd.func15, Tryd.ntmps15
      go_wp2_with (go_at_call 13; refine (HF.out _).mono ?_; rintro e w' ⟨rfl, rfl⟩)
      go_ret2
      exact ⟨ret_ib H.out rfl, rfl⟩
    · have H : Hid (q = clV a b) := Lib.hid (by rw [hce, if_neg hlt])
      clear hce
      go_enter Tryd.func15, Tryd.ntmps15
      go_wp2_with (go_at_call 13; refine (HF.out _).mono ?_; rintro e w' ⟨rfl, rfl⟩)
      go_ret2
      exact ⟨ret_ib H.out rfl, rfl⟩
set_option maxHeartbeats 400000 in
theorem rmod_any (a b : Int) (w : World) :
    Calls Tryd.prog 17 #[.int .i64 a, .int .i64 b] w fun e w' => e = .returned (.tuple #[.int .i64 (mdV a b), .bool (dvOk a b)]) ∧ w = w' := by
  have HF := Lib.hid fun w => rfloordiv_any a b w
  cases h : dvOk a b
  · have H : Hid (mdV a b = 0) := Lib.hid (by unfold mdV; rw [h]; rfl)
    rw [h] at HF
    clear h
    go_enter Tryd.func17, Tryd.ntmps17
    go_wp2_with (go_at_call 13; refine (HF.out _).mono ?_; rintro e w' ⟨rfl, rfl⟩)
    go_ret2
    exact ⟨ret_ib H.out.symm rfl, rfl⟩
  · have H : Hid (a - a / b * b = mdV a b) := Lib.hid (by unfold mdV; rw [h]; rfl)
    have hv : dvV a b = a / b := by unfold dvV; rw [h]; rfl
    obtain ⟨q0, q1⟩ := div_bd h
    rw [h, hv] at HF
    obtain ⟨⟨a0, a1⟩, ⟨b0, b1⟩, hb⟩ := dvOk_out h
    obtain ⟨r0, r1⟩ := ediv_bd a (show 0 < b by omega)
    clear hv h
    generalize a / b = q at *
    obtain ⟨m, hm⟩ : ∃ m, q * b = m := ⟨_, rfl⟩
    rw [hm] at H r0 r1
    have e1 : IntKind.i64.wrap (q * b) = m := by rw [hm]; exact IntWalk.i64_in _ (by omega)
    clear hm
    go_enter Tryd.func17, Tryd.ntmps17
    go_wp2_with (go_at_call 13; refine (HF.out _).mono ?_; rintro e w' ⟨rfl, rfl⟩)
    go_ret2
    exact ⟨ret_ib H.out rfl, rfl⟩
end Go.Proofs.YtikojcakkmmebaaDoor
