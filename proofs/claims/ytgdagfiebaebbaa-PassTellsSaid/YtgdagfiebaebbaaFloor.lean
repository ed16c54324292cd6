/- The reference's Floor. -/
import Derived.Test.YtgdagfiebaebbaaBase
namespace Go.Proofs.Ytgdagfiebaebbaa
open Go.RowKit

theorem floor_of (a b : Int) (hb : 0 < b) : a / b = if a.tmod b < 0 then a.tdiv b - 1 else a.tdiv b := by
  have e := Int.mul_tdiv_add_tmod a b
  rw [Int.mul_comm] at e
  rcases Int.lt_or_le a 0 with h | h
  · have m1 : -b < a.tmod b := by
      have := Int.tmod_lt_of_pos (-a) hb
      rw [Int.neg_tmod] at this; omega
    have m2 : a.tmod b ≤ 0 := by
      have := Int.tmod_nonneg b (show 0 ≤ -a by omega)
      rw [Int.neg_tmod] at this; omega
    split
    · exact ediv_eq hb (by rw [Int.sub_mul, Int.one_mul]; omega) (by rw [show a.tdiv b - 1 + 1 = a.tdiv b by omega]; omega)
    · exact ediv_eq hb (by omega) (by rw [Int.add_mul, Int.one_mul]; omega)
  · have m1 := Int.tmod_nonneg b h
    have m2 := Int.tmod_lt_of_pos a hb
    rw [if_neg (by omega)]
    exact ediv_eq hb (by omega) (by rw [Int.add_mul, Int.one_mul]; omega)
theorem tdiv_bd {a b : Int} (h0 : -4611686018427387904 ≤ a) (h1 : a ≤ 4611686018427387904) : -4611686018427387904 ≤ a.tdiv b ∧ a.tdiv b ≤ 4611686018427387904 := by
  have h := Int.natAbs_tdiv a b
  have := Nat.div_le_self a.natAbs b.natAbs
  have e : (a.tdiv b).natAbs = a.natAbs / b.natAbs := h
  omega
set_option maxHeartbeats 400000 in
theorem floor_any (a b : Int) (w : World) (hb : 0 < b) (h0 : -4611686018427387904 ≤ a) (h1 : a ≤ 4611686018427387904) (hb1 : b ≤ 4611686018427387904) :
    Calls Try.prog 53 #[.int .i64 a, .int .i64 b] w fun e w' => e = .returned (.int .i64 (a / b)) ∧ w' = w := by
  have F := floor_of a b hb
  have T := tdiv_bd (b := b) h0 h1
  have hbz : (b == 0) = false := by rw [beq_eq_false_iff_ne]; omega
  have hmod : a.tmod b = a % b ∨ a < 0 := by
    rcases Int.lt_or_le a 0 with h | h
    · exact Or.inr h
    · exact Or.inl (Int.tmod_eq_emod_of_nonneg h)
  rcases Int.lt_or_le a 0 with h | h
  · clear hmod
    by_cases hm : a.tmod b < 0
    · rw [if_pos hm] at F
      have HF := Lib.hid F
      clear F
      go_enter Try.func53, Try.ntmps53
      go_wp2
      go_ret
      exact ⟨ret_int HF.out.symm, rfl⟩
    · rw [if_neg hm] at F
      have HF := Lib.hid F
      clear F
      go_enter Try.func53, Try.ntmps53
      go_wp2
      go_ret
      exact ⟨ret_int HF.out.symm, rfl⟩
  · have hm : ¬ a.tmod b < 0 := by have := Int.tmod_nonneg b h; omega
    have hm2 := Int.emod_nonneg a (show b ≠ 0 by omega)
    have hm3 := Int.emod_lt_of_pos a hb
    clear F hmod T
    go_enter Try.func53, Try.ntmps53
    go_wp2
    go_ret
    exact ⟨rfl, rfl⟩
end Go.Proofs.Ytgdagfiebaebbaa
