/- The reference of the layer num: MulDiv: what it computes. -/
import Derived.Test.YtikojcakkmmebaaDoorRef01b
namespace Go.Proofs.YtikojcakkmmebaaDoor
open Go.RowKit

theorem md_none {a b c : Int} (h : mdOk a b c = false) : md a b c = 0 ∧ mdOk a b c = false := ⟨md_no h, h⟩
theorem Calls.flip {P : Program} {f : FuncId} {args : Array Value} {w : World} {v : Value} (h : Calls P f args w fun e w' => e = .returned v ∧ w = w') : Calls P f args w fun e w' => e = .returned v ∧ w' = w :=
  h.mono fun _ _ ⟨he, hw⟩ => ⟨he, hw.symm⟩
set_option maxRecDepth 100000 in
set_option maxHeartbeats 4000000 in
theorem rmuldiv_any (a b c : Int) (w : World) :
    Calls Tryd.prog 20 #[.int .i64 a, .int .i64 b, .int .i64 c] w fun e w' => e = .returned (.tuple #[.int .i64 (md a b c), .bool (mdOk a b c)]) ∧ Below w.heap.size w w' := by
  cases ha : inR a
  · have HA := Lib.hid (rin_no ha)
    have H := Lib.hid (md_none (show mdOk a b c = false by unfold mdOk; rw [ha]; simp))
    go_enter Tryd.func20, Tryd.ntmps20
    go_wp2_with (first | (go_at_call_of 34 a; refine (HA.out _).mono ?_; rintro e w' ⟨rfl, rfl⟩))
    go_ret2
    exact ⟨ret_ib H.out.1.symm H.out.2.symm, Below.refl _ _⟩
  · have HA := Lib.hid (rin_ok ha)
    cases hb : inR b
    · have HB := Lib.hid (rin_no hb)
      have H := Lib.hid (md_none (show mdOk a b c = false by unfold mdOk; rw [ha, hb]; simp))
      go_enter Tryd.func20, Tryd.ntmps20
      go_wp2_with (first | (go_at_call_of 34 a; refine (HA.out _).mono ?_; rintro e w' ⟨rfl, rfl⟩) | (go_at_call_of 34 b; refine (HB.out _).mono ?_; rintro e w' ⟨rfl, rfl⟩))
      go_ret2
      exact ⟨ret_ib H.out.1.symm H.out.2.symm, Below.refl _ _⟩
    · have HB := Lib.hid (rin_ok hb)
      cases hc : inR c
      · have HC := Lib.hid (rin_no hc)
        have H := Lib.hid (md_none (show mdOk a b c = false by unfold mdOk; rw [ha, hb, hc]; simp))
        go_enter Tryd.func20, Tryd.ntmps20
        go_wp2_with (first | (go_at_call_of 34 a; refine (HA.out _).mono ?_; rintro e w' ⟨rfl, rfl⟩) | (go_at_call_of 34 b; refine (HB.out _).mono ?_; rintro e w' ⟨rfl, rfl⟩) | (go_at_call_of 34 c; refine (HC.out _).mono ?_; rintro e w' ⟨rfl, rfl⟩))
        go_ret2
        exact ⟨ret_ib H.out.1.symm H.out.2.symm, Below.refl _ _⟩
      · have HC := Lib.hid (rin_ok hc)
        by_cases h1 : 1 ≤ c
        · have HM := Lib.hid (mdOk_all (a := a) (b := b) (c := c) (by rw [ha, hb, hc]; rfl) h1)
          have HBIG : Hid (1125899906842624 < absI a * absI b / c → inR (a * b / c) = false) := Lib.hid (md_big h1)
          have HD : Hid ((a < 0) ≠ (b < 0) → a * b / c = -(absI a * absI b / c) - (if 0 < absI a * absI b % c then 1 else 0)) := Lib.hid (floor_diff a b c h1)
          have HS := Lib.hid (absI_sign a b)
          rw [inR_iff] at ha hb hc
          obtain ⟨a0, a1⟩ := ha
          obtain ⟨b0, b1⟩ := hb
          obtain ⟨c0, c1⟩ := hc
          have KA := Lib.hid fun w => rabs_any a w (by omega) (by omega)
          have KB := Lib.hid fun w => rabs_any b w (by omega) (by omega)
          rw [absI_nat] at KA KB
          rw [absI_nat, absI_nat] at HBIG HD HS
          have hX : a.natAbs ≤ 1125899906842624 := by omega
          have hY : b.natAbs ≤ 1125899906842624 := by omega
          generalize a.natAbs = X at *
          generalize b.natAbs = Y at *
          have hcz : (c == 0) = false := by simp; omega
          go_enter Tryd.func20, Tryd.ntmps20
          go_wp2_with (first | (go_at_call_of 34 a; refine (HA.out _).mono ?_; rintro e w' ⟨rfl, rfl⟩) | (go_at_call_of 34 b; refine (HB.out _).mono ?_; rintro e w' ⟨rfl, rfl⟩) | (go_at_call_of 34 c; refine (HC.out _).mono ?_; rintro e w' ⟨rfl, rfl⟩))
          go_loopw [8, 9, 10] (fun s t u wr => ∃ (k : Nat) (q r z : Int), k ≤ 51 ∧ Hid (z = (k : Int) - 1) ∧ Hid (q * c + r = ((X / 2 ^ k : Nat) : Int) * Y) ∧ 0 ≤ r ∧ r < c ∧ 0 ≤ q ∧ q ≤ 2251799813685248 ∧ s = .int .i64 q ∧ t = .int .i64 r ∧ u = .int .i64 z ∧ Below w.heap.size w wr) (fun _ _ u _ => (intOf u + 1).toNat)
          case atStart => exact ⟨51, 0, 0, 50, by omega, Lib.hid (by omega), Lib.hid (by rw [Nat.div_eq_of_lt (by omega)]; simp), by omega, by omega, by omega, by omega, rfl, rfl, rfl, Below.refl _ _⟩
          case round =>
            clear HA HB HC
            obtain ⟨k, q, r, z, hk, HZ, HI, r0, r1, q0, q1, rfl, rfl, rfl, hBw⟩ := hrel
            match k, HZ, HI, hk with
            | 0, HZ, HI, hk =>
              obtain rfl : z = -1 := by have := HZ.out; omega
              obtain ⟨eq1, eq2⟩ := quot_eq h1 ⟨r0, r1⟩ (show q * c + r = (X : Int) * Y by have := HI.out; simpa using this)
              rw [eq1, eq2] at HD
              rw [eq1] at HBIG
              have HQ := Lib.hid eq1
              clear HI HZ eq1 eq2 HBIG hk
              rcases Int.lt_trichotomy a 0 with ha | ha | ha
              · rcases Int.lt_trichotomy b 0 with hb | hb | hb
                · have sa : decide (a < 0) = true := decide_eq_true ha
                  have ea : (a == 0) = false := by simp; omega
                  have na : (a != 0) = true := by simp; omega
                  have sb : decide (b < 0) = true := decide_eq_true hb
                  have eb : (b == 0) = false := by simp; omega
                  have nb : (b != 0) = true := by simp; omega
                  have HF := Lib.hid (md_fit HM.out (show a * b / c = q by rw [HS.out (by simp only [ne_eq, eq_iff_iff]; omega)]; exact HQ.out))
                  have HR := Lib.hid (fun w => rresult_any (q) w)
                  clear HD HS HQ HM ha hb
                  go_wp2_with (go_at_call 40; refine (HR.out _).mono ?_; rintro e w' ⟨rfl, rfl⟩)
                  go_ret2
                  exact ⟨ret_ib HF.out.1 HF.out.2, hBw⟩
                · have sa : decide (a < 0) = true := decide_eq_true ha
                  have ea : (a == 0) = false := by simp; omega
                  have na : (a != 0) = true := by simp; omega
                  have sb : decide (b < 0) = false := decide_eq_false (by omega)
                  have eb : (b == 0) = true := by simp; omega
                  have nb : (b != 0) = false := by simp; omega
                  have HF := Lib.hid (md_fit HM.out (show a * b / c = q by rw [HS.out (by simp only [ne_eq, eq_iff_iff]; omega)]; exact HQ.out))
                  have HR := Lib.hid (fun w => rresult_any (q) w)
                  clear HD HS HQ HM ha hb
                  go_wp2_with (go_at_call 40; refine (HR.out _).mono ?_; rintro e w' ⟨rfl, rfl⟩)
                  go_ret2
                  exact ⟨ret_ib HF.out.1 HF.out.2, hBw⟩
                · have sa : decide (a < 0) = true := decide_eq_true ha
                  have ea : (a == 0) = false := by simp; omega
                  have na : (a != 0) = true := by simp; omega
                  have sb : decide (b < 0) = false := decide_eq_false (by omega)
                  have eb : (b == 0) = false := by simp; omega
                  have nb : (b != 0) = true := by simp; omega
                  have hdd := HD.out (by simp only [ne_eq, eq_iff_iff]; omega)
                  by_cases hr : 0 < r
                  · rw [if_pos hr] at hdd
                    have HF := Lib.hid (md_fit HM.out (show a * b / c = -(q + 1) by omega))
                    clear hdd
                    have HR := Lib.hid (fun w => rresult_any (-(q + 1)) w)
                    clear HD HS HQ HM ha hb
                    go_wp2_with (go_at_call 40; refine (HR.out _).mono ?_; rintro e w' ⟨rfl, rfl⟩)
                    go_ret2
                    exact ⟨ret_ib HF.out.1 HF.out.2, hBw⟩
                  · rw [if_neg hr] at hdd
                    have HF := Lib.hid (md_fit HM.out (show a * b / c = -q by omega))
                    clear hdd
                    have HR := Lib.hid (fun w => rresult_any (-q) w)
                    clear HD HS HQ HM ha hb
                    go_wp2_with (go_at_call 40; refine (HR.out _).mono ?_; rintro e w' ⟨rfl, rfl⟩)
                    go_ret2
                    exact ⟨ret_ib HF.out.1 HF.out.2, hBw⟩
              · rcases Int.lt_trichotomy b 0 with hb | hb | hb
                · have sa : decide (a < 0) = false := decide_eq_false (by omega)
                  have ea : (a == 0) = true := by simp; omega
                  have na : (a != 0) = false := by simp; omega
                  have sb : decide (b < 0) = true := decide_eq_true hb
                  have eb : (b == 0) = false := by simp; omega
                  have nb : (b != 0) = true := by simp; omega
                  have HF := Lib.hid (md_fit HM.out (show a * b / c = q by rw [HS.out (by simp only [ne_eq, eq_iff_iff]; omega)]; exact HQ.out))
                  have HR := Lib.hid (fun w => rresult_any (q) w)
                  clear HD HS HQ HM ha hb
                  go_wp2_with (go_at_call 40; refine (HR.out _).mono ?_; rintro e w' ⟨rfl, rfl⟩)
                  go_ret2
                  exact ⟨ret_ib HF.out.1 HF.out.2, hBw⟩
                · have sa : decide (a < 0) = false := decide_eq_false (by omega)
                  have ea : (a == 0) = true := by simp; omega
                  have na : (a != 0) = false := by simp; omega
                  have sb : decide (b < 0) = false := decide_eq_false (by omega)
                  have eb : (b == 0) = true := by simp; omega
                  have nb : (b != 0) = false := by simp; omega
                  have HF := Lib.hid (md_fit HM.out (show a * b / c = q by rw [HS.out (by simp only [ne_eq, eq_iff_iff]; omega)]; exact HQ.out))
                  have HR := Lib.hid (fun w => rresult_any (q) w)
                  clear HD HS HQ HM ha hb
                  go_wp2_with (go_at_call 40; refine (HR.out _).mono ?_; rintro e w' ⟨rfl, rfl⟩)
                  go_ret2
                  exact ⟨ret_ib HF.out.1 HF.out.2, hBw⟩
                · have sa : decide (a < 0) = false := decide_eq_false (by omega)
                  have ea : (a == 0) = true := by simp; omega
                  have na : (a != 0) = false := by simp; omega
                  have sb : decide (b < 0) = false := decide_eq_false (by omega)
                  have eb : (b == 0) = false := by simp; omega
                  have nb : (b != 0) = true := by simp; omega
                  have HF := Lib.hid (md_fit HM.out (show a * b / c = q by rw [HS.out (by simp only [ne_eq, eq_iff_iff]; omega)]; exact HQ.out))
                  have HR := Lib.hid (fun w => rresult_any (q) w)
                  clear HD HS HQ HM ha hb
                  go_wp2_with (go_at_call 40; refine (HR.out _).mono ?_; rintro e w' ⟨rfl, rfl⟩)
                  go_ret2
                  exact ⟨ret_ib HF.out.1 HF.out.2, hBw⟩
              · rcases Int.lt_trichotomy b 0 with hb | hb | hb
                · have sa : decide (a < 0) = false := decide_eq_false (by omega)
                  have ea : (a == 0) = false := by simp; omega
                  have na : (a != 0) = true := by simp; omega
                  have sb : decide (b < 0) = true := decide_eq_true hb
                  have eb : (b == 0) = false := by simp; omega
                  have nb : (b != 0) = true := by simp; omega
                  have hdd := HD.out (by simp only [ne_eq, eq_iff_iff]; omega)
                  by_cases hr : 0 < r
                  · rw [if_pos hr] at hdd
                    have HF := Lib.hid (md_fit HM.out (show a * b / c = -(q + 1) by omega))
                    clear hdd
                    have HR := Lib.hid (fun w => rresult_any (-(q + 1)) w)
                    clear HD HS HQ HM ha hb
                    go_wp2_with (go_at_call 40; refine (HR.out _).mono ?_; rintro e w' ⟨rfl, rfl⟩)
                    go_ret2
                    exact ⟨ret_ib HF.out.1 HF.out.2, hBw⟩
                  · rw [if_neg hr] at hdd
                    have HF := Lib.hid (md_fit HM.out (show a * b / c = -q by omega))
                    clear hdd
                    have HR := Lib.hid (fun w => rresult_any (-q) w)
                    clear HD HS HQ HM ha hb
                    go_wp2_with (go_at_call 40; refine (HR.out _).mono ?_; rintro e w' ⟨rfl, rfl⟩)
                    go_ret2
                    exact ⟨ret_ib HF.out.1 HF.out.2, hBw⟩
                · have sa : decide (a < 0) = false := decide_eq_false (by omega)
                  have ea : (a == 0) = false := by simp; omega
                  have na : (a != 0) = true := by simp; omega
                  have sb : decide (b < 0) = false := decide_eq_false (by omega)
                  have eb : (b == 0) = true := by simp; omega
                  have nb : (b != 0) = false := by simp; omega
                  have HF := Lib.hid (md_fit HM.out (show a * b / c = q by rw [HS.out (by simp only [ne_eq, eq_iff_iff]; omega)]; exact HQ.out))
                  have HR := Lib.hid (fun w => rresult_any (q) w)
                  clear HD HS HQ HM ha hb
                  go_wp2_with (go_at_call 40; refine (HR.out _).mono ?_; rintro e w' ⟨rfl, rfl⟩)
                  go_ret2
                  exact ⟨ret_ib HF.out.1 HF.out.2, hBw⟩
                · have sa : decide (a < 0) = false := decide_eq_false (by omega)
                  have ea : (a == 0) = false := by simp; omega
                  have na : (a != 0) = true := by simp; omega
                  have sb : decide (b < 0) = false := decide_eq_false (by omega)
                  have eb : (b == 0) = false := by simp; omega
                  have nb : (b != 0) = true := by simp; omega
                  have HF := Lib.hid (md_fit HM.out (show a * b / c = q by rw [HS.out (by simp only [ne_eq, eq_iff_iff]; omega)]; exact HQ.out))
                  have HR := Lib.hid (fun w => rresult_any (q) w)
                  clear HD HS HQ HM ha hb
                  go_wp2_with (go_at_call 40; refine (HR.out _).mono ?_; rintro e w' ⟨rfl, rfl⟩)
                  go_ret2
                  exact ⟨ret_ib HF.out.1 HF.out.2, hBw⟩
            | j + 1, HZ, HI, hk =>
              obtain rfl : z = (j : Int) := by have := HZ.out; omega
              obtain ⟨hbs, hbit⟩ := bits_step X j
              have hround := mul_round h1 (show (0 : Int) ≤ (Y : Int) by omega) ⟨r0, r1⟩ HI.out _ hbs (by omega)
              have eS : (X : Int) / 2 ^ j = ((X / 2 ^ j : Nat) : Int) := by rw [Int.natCast_ediv, Int.natCast_pow]; rfl
              have HXJ : Hid (((X / 2 ^ j : Nat) : Int) ≤ X) := Lib.hid (by have := Nat.div_le_self X (2 ^ j); omega)
              obtain ⟨s, hsx⟩ : ∃ s, X / 2 ^ j = s := ⟨_, rfl⟩
              have HSX := Lib.hid hsx
              rw [hsx] at hbs hbit hround eS HXJ
              clear hsx
              clear hbs HI HZ
              have hj0 : (0 : Int) ≤ j := by omega
              have d0 : 0 ≤ (Y : Int) / c := Int.ediv_nonneg (by omega) (by omega)
              have d1 : (Y : Int) / c ≤ 1125899906842624 := by
                have := Int.ediv_le_self (c) (show 0 ≤ (Y : Int) by omega); omega
              have m0 := Int.emod_nonneg (Y : Int) (show c ≠ 0 by omega)
              have m1 := Int.emod_lt_of_pos (Y : Int) (show 0 < c by omega)
              have et1 : (Y : Int).tdiv c = (Y : Int) / c := Int.tdiv_eq_ediv_of_nonneg (by omega)
              have et2 : (Y : Int).tmod c = (Y : Int) % c := Int.tmod_eq_emod_of_nonneg (by omega)
              generalize (Y : Int) / c = d at *
              generalize (Y : Int) % c = m at *
              rcases (by omega : s % 2 = 1 ∨ s % 2 = 0) with hp | hp
              · have hp' : ((s : Int) % 2) = 1 := by omega
                rw [hp, if_pos (by rfl), if_pos (by rfl)] at hround
                obtain ⟨g0, g1, g2, g3, g4⟩ := hround
                obtain ⟨u, hu⟩ : ∃ u, 2 * q + d = u := ⟨_, rfl⟩
                obtain ⟨v, hv⟩ : ∃ v, 2 * r + m = v := ⟨_, rfl⟩
                have w1 : IntKind.i64.wrap (2 * q + d) = u := by rw [hu]; exact IntWalk.i64_in _ (by omega)
                have w2 : IntKind.i64.wrap (2 * r + m) = v := by rw [hv]; exact IntWalk.i64_in _ (by omega)
                rw [hv] at g0 g1 g2 g3 g4
                rw [hu] at g4
                have u0 : 0 ≤ u ∧ u ≤ 6755399441055744 := by omega
                have e0 : 0 ≤ v / c := Int.ediv_nonneg (by omega) (by omega)
                have e1 : v / c < 3 := Int.ediv_lt_of_lt_mul (by omega) (by omega)
                have et3 : v.tdiv c = v / c := Int.tdiv_eq_ediv_of_nonneg (by omega)
                have et4 : v.tmod c = v % c := Int.tmod_eq_emod_of_nonneg (by omega)
                generalize v / c = p at *
                generalize v % c = f at *
                have w3 : IntKind.i64.wrap (u + p) = u + p := IntWalk.i64_in _ (by omega)
                have HI2 := Lib.hid g4
                clear g4 g0 g1
                clear hu hv
                obtain ⟨u0, u1⟩ := u0
                by_cases hbig : 2251799813685248 < u + p
                · have H := Lib.hid (md_none (HM.out.trans (HBIG.out (by have := quot_le h1 (show (0 : Int) ≤ (Y : Int) by omega) ⟨g2, g3⟩ HI2.out HXJ.out; omega))))
                  clear HM HBIG HI2 HXJ HD HS
                  go_wp2_with (go_at_call 39; refine (KA.out _).mono ?_; rintro e w' ⟨rfl, rfl⟩)
                  go_quiet ((go_at_call 39; exact Calls.quiet_of_same (Calls.flip (KB.out _))))
                  go_wp2
                  go_quiet (fail)
                  go_wp2
                  go_ret2
                  exact ⟨ret_ib H.out.1.symm H.out.2.symm, (hBw.trans (below_drewN _ _ _))⟩
                · clear HM HBIG HXJ HD HS
                  go_wp2_with (go_at_call 39; refine (KA.out _).mono ?_; rintro e w' ⟨rfl, rfl⟩)
                  go_quiet ((go_at_call 39; exact Calls.quiet_of_same (Calls.flip (KB.out _))))
                  go_wp2
                  go_quiet (fail)
                  go_wp2
                  go_roundw
                  case rel => exact ⟨j, u + p, f, (j : Int) - 1, by omega, Lib.hid rfl, Lib.hid (by rw [HSX.out]; exact HI2.out), g2, g3, by omega, by omega, rfl, rfl, rfl, (hBw.trans (below_drewN _ _ _))⟩
                  case measure => simp [intOf]
              · have hp' : ((s : Int) % 2) = 0 := by omega
                rw [hp, if_neg (by decide), if_neg (by decide)] at hround
                obtain ⟨g0, g1, g2, g3, g4⟩ := hround
                clear et1 et2 m0 m1 d0 d1
                obtain ⟨u, hu⟩ : ∃ u, 2 * q = u := ⟨_, rfl⟩
                obtain ⟨v, hv⟩ : ∃ v, 2 * r = v := ⟨_, rfl⟩
                rw [hv] at g0 g1 g2 g3 g4
                rw [hu] at g4
                have u0 : 0 ≤ u ∧ u ≤ 6755399441055744 := by omega
                have e0 : 0 ≤ v / c := Int.ediv_nonneg (by omega) (by omega)
                have e1 : v / c < 3 := Int.ediv_lt_of_lt_mul (by omega) (by omega)
                have et3 : v.tdiv c = v / c := Int.tdiv_eq_ediv_of_nonneg (by omega)
                have et4 : v.tmod c = v % c := Int.tmod_eq_emod_of_nonneg (by omega)
                generalize v / c = p at *
                generalize v % c = f at *
                have w3 : IntKind.i64.wrap (u + p) = u + p := IntWalk.i64_in _ (by omega)
                have HI2 := Lib.hid g4
                clear g4 g0 g1
                have HU := Lib.hid hu
                have HV := Lib.hid hv
                obtain ⟨u0, u1⟩ := u0
                by_cases hbig : 2251799813685248 < u + p
                · have H := Lib.hid (md_none (HM.out.trans (HBIG.out (by have := quot_le h1 (show (0 : Int) ≤ (Y : Int) by omega) ⟨g2, g3⟩ HI2.out HXJ.out; omega))))
                  clear HM HBIG HI2 HXJ HD HS
                  go_wp2_with (go_at_call 39; refine (KA.out _).mono ?_; rintro e w' ⟨rfl, rfl⟩)
                  go_quiet (fail)
                  go_wp2
                  go_ret2
                  exact ⟨ret_ib H.out.1.symm H.out.2.symm, (hBw.trans (below_drewN _ _ _))⟩
                · clear HM HBIG HXJ HD HS
                  go_wp2_with (go_at_call 39; refine (KA.out _).mono ?_; rintro e w' ⟨rfl, rfl⟩)
                  go_quiet (fail)
                  go_wp2
                  go_roundw
                  case rel => exact ⟨j, u + p, f, (j : Int) - 1, by omega, Lib.hid rfl, Lib.hid (by rw [HSX.out]; exact HI2.out), g2, g3, by omega, by omega, rfl, rfl, rfl, (hBw.trans (below_drewN _ _ _))⟩
                  case measure => simp [intOf]
        · have hn : (decide (1 ≤ c)) = false := by simp; omega
          have H := Lib.hid (md_none (show mdOk a b c = false by unfold mdOk; rw [ha, hb, hc, hn]; simp))
          go_enter Tryd.func20, Tryd.ntmps20
          go_wp2_with (first | (go_at_call_of 34 a; refine (HA.out _).mono ?_; rintro e w' ⟨rfl, rfl⟩) | (go_at_call_of 34 b; refine (HB.out _).mono ?_; rintro e w' ⟨rfl, rfl⟩) | (go_at_call_of 34 c; refine (HC.out _).mono ?_; rintro e w' ⟨rfl, rfl⟩))
          go_ret2
          exact ⟨ret_ib H.out.1.symm H.out.2.symm, Below.refl _ _⟩
end Go.Proofs.YtikojcakkmmebaaDoor
