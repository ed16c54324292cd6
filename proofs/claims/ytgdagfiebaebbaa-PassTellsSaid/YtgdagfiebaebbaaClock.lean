/- The package clock: what each function computes. -/
import Derived.Test.YtgdagfiebaebbaaNum
namespace Go.Proofs.Ytgdagfiebaebbaa
open Go.RowKit

/-- The local time of a clock with an offset and a rate. -/
def atC (o p t : Int) : Int := t + o + t * p / 1000000000
def okC (o p : Int) : Bool := decide (-1099511627776 ≤ o) && decide (o ≤ 1099511627776) && (decide (-200000 ≤ p) && decide (p ≤ 200000))
theorem okC_iff (o p : Int) : okC o p = true ↔ (-1099511627776 ≤ o ∧ o ≤ 1099511627776) ∧ -200000 ≤ p ∧ p ≤ 200000 := by simp [okC]
theorem mul_bd {a b A B : Int} (h1 : -A ≤ a) (h2 : a ≤ A) (h3 : -B ≤ b) (h4 : b ≤ B) : -(A * B) ≤ a * b ∧ a * b ≤ A * B := by
  have hA : 0 ≤ A := by omega
  have hB : 0 ≤ B := by omega
  have e : (a * b).natAbs ≤ (A * B).natAbs := by
    rw [Int.natAbs_mul, Int.natAbs_mul]
    exact Nat.mul_le_mul (by omega) (by omega)
  have := Int.mul_nonneg hA hB
  omega
/-- MulDiv of numbers that are in range, with a result in range. -/
theorem md_ok {a b c : Int} (h : inR a = true) (h' : inR b = true) (h'' : inR c = true) (hc : 1 ≤ c) (hq : inR (a * b / c) = true) : md a b c = a * b / c := by
  unfold md mdOk; rw [h, h', h'', hq]; simp [hc]
theorem atC_bd {o p t : Int} (h : okC o p = true) (h0 : -4398046511104 ≤ t) (h1 : t ≤ 4398046511104) :
    -1125899906842624 ≤ t * p / 1000000000 ∧ t * p / 1000000000 ≤ 1125899906842624 ∧ md t p 1000000000 = t * p / 1000000000 := by
  rw [okC_iff] at h
  have hb := mul_bd (A := 4398046511104) (B := 200000) (a := t) (b := p) (by omega) h1 (by omega) (by omega)
  have q1 : -1125899906842624 ≤ t * p / 1000000000 := by omega
  have q2 : t * p / 1000000000 ≤ 1125899906842624 := by omega
  exact ⟨q1, q2, md_ok (by rw [inR_iff]; omega) (by rw [inR_iff]; omega) (by rw [inR_iff]; omega) (by omega) (by rw [inR_iff]; exact ⟨q1, q2⟩)⟩
set_option maxHeartbeats 400000 in
theorem dial_any (o p t : Int) (w : World) (h : okC o p = true) (h0 : -4398046511104 ≤ t) (h1 : t ≤ 4398046511104) :
    Calls Try.prog 70 #[.agg #[.int .i64 o, .int .i64 p], .int .i64 t] w fun e w' => e = .returned (.int .i64 (atC o p t)) ∧ Below w.heap.size w w' := by
  obtain ⟨q1, q2, hm⟩ := atC_bd h h0 h1
  have HA : Hid (t + o + t * p / 1000000000 = atC o p t) := Lib.hid rfl
  rw [okC_iff] at h
  obtain ⟨h2, h3⟩ := h
  obtain ⟨q, hq⟩ : ∃ q, t * p / 1000000000 = q := ⟨_, rfl⟩
  rw [hq] at q1 q2 hm HA
  have HM := Lib.hid hm
  clear hm hq
  go_enter Try.func70, Try.ntmps70
  go_wp2_with (go_at_call 48; refine (muldiv_any _ _ _ _).mono ?_; rintro e w' ⟨rfl, hb⟩; rw [HM.out]; obtain ⟨hcl, hfr⟩ := bcell hb)
  go_ret
  exact ⟨ret_int HA.out, ((Below.refl _ _).alloc (Nat.le_refl _) _).trans (hb.mono (by simp))⟩
def chkC (o p : Int) : Int := if okC o p then 0 else 190
set_option maxHeartbeats 400000 in
theorem check_any (o p : Int) (w : World) :
    Calls Try.prog 68 #[.agg #[.int .i64 o, .int .i64 p]] w fun e w' => e = .returned (.int .i64 (chkC o p)) ∧ Below w.heap.size w w' := by
  have HB : Below w.heap.size w (w.alloc (.cells #[.int .i64 o, .int .i64 p] 73)) := (Below.refl _ _).alloc (Nat.le_refl _) _
  have done : ∀ n, chkC o p = n → Ending.returned (.int .i64 n) = .returned (.int .i64 (chkC o p)) := fun n h => by rw [h]
  by_cases h1 : -1099511627776 ≤ o
  · by_cases h2 : o ≤ 1099511627776
    · by_cases h3 : -200000 ≤ p
      · by_cases h4 : p ≤ 200000
        · have H := Lib.hid (done 0 (by unfold chkC; rw [if_pos ((okC_iff o p).2 (by omega))]))
          clear done
          go_enter Try.func68, Try.ntmps68
          go_wp2
          go_ret
          exact ⟨H.out, HB⟩
        all_goals
          have H := Lib.hid (done 190 (by unfold chkC; rw [if_neg (by rw [okC_iff]; omega)]))
          clear done
          go_enter Try.func68, Try.ntmps68
          go_wp2
          go_ret
          exact ⟨H.out, HB⟩
      all_goals
        have H := Lib.hid (done 190 (by unfold chkC; rw [if_neg (by rw [okC_iff]; omega)]))
        clear done
        go_enter Try.func68, Try.ntmps68
        go_wp2
        go_ret
        exact ⟨H.out, HB⟩
    all_goals
      have H := Lib.hid (done 190 (by unfold chkC; rw [if_neg (by rw [okC_iff]; omega)]))
      clear done
      go_enter Try.func68, Try.ntmps68
      go_wp2
      go_ret
      exact ⟨H.out, HB⟩
  all_goals
    have H := Lib.hid (done 190 (by unfold chkC; rw [if_neg (by rw [okC_iff]; omega)]))
    clear done
    go_enter Try.func68, Try.ntmps68
    go_wp2
    go_ret
    exact ⟨H.out, HB⟩
end Go.Proofs.Ytgdagfiebaebbaa
