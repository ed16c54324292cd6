/- The reference of the layer num: Gcd and MulDiv: what they compute. -/
import Derived.Test.YtikojcakkmmebaaDoorRef01
import Derived.Test.YtikojcakkmmebaaDoorGcd
namespace Go.Proofs.YtikojcakkmmebaaDoor
open Go.RowKit

set_option maxHeartbeats 1000000 in
theorem rgcd_any (a b : Int) (w : World) :
    Calls Tryd.prog 22 #[.int .i64 a, .int .i64 b] w fun e w' => e = .returned (.int .i64 (gcdV a b)) ∧ Below w.heap.size w w' := by
  cases ha : inR a
  · have H : Hid (gcdV a b = 0) := Lib.hid (by unfold gcdV; rw [ha]; rfl)
    have HA := Lib.hid (rin_no ha)
    clear ha
    go_enter Tryd.func22, Tryd.ntmps22
    go_wp2_with (go_at_call_of 34 a; refine (HA.out _).mono ?_; rintro e w' ⟨rfl, rfl⟩)
    go_ret
    exact ⟨ret_int H.out.symm, Below.refl _ _⟩
  · have HA := Lib.hid (rin_ok ha)
    cases hb : inR b
    · have H : Hid (gcdV a b = 0) := Lib.hid (by unfold gcdV; rw [ha, hb]; rfl)
      have HB := Lib.hid (rin_no hb)
      clear ha hb
      go_enter Tryd.func22, Tryd.ntmps22
      go_wp2_with (first | (go_at_call_of 34 a; refine (HA.out _).mono ?_; rintro e w' ⟨rfl, rfl⟩) | (go_at_call_of 34 b; refine (HB.out _).mono ?_; rintro e w' ⟨rfl, rfl⟩))
      go_ret
      exact ⟨ret_int H.out.symm, Below.refl _ _⟩
    · have HB := Lib.hid (rin_ok hb)
      have HG : gcdV a b = (Nat.gcd a.natAbs b.natAbs : Int) := by unfold gcdV; rw [ha, hb]; rfl
      rw [inR_iff] at ha hb
      obtain ⟨a0, a1⟩ := ha
      obtain ⟨b0, b1⟩ := hb
      have KA := Lib.hid fun w => rabs_any a w (by omega) (by omega)
      have KB := Lib.hid fun w => rabs_any b w (by omega) (by omega)
      rw [absI_nat] at KA KB
      have hX : a.natAbs ≤ 1125899906842624 := by omega
      have hY : b.natAbs ≤ 1125899906842624 := by omega
      have HG' := Lib.hid HG
      clear HG
      generalize a.natAbs = X at *
      generalize b.natAbs = Y at *
      go_enter Tryd.func22, Tryd.ntmps22
      go_wp2_with (first | (go_at_call_of 34 a; refine (HA.out _).mono ?_; rintro e w' ⟨rfl, rfl⟩) | (go_at_call_of 34 b; refine (HB.out _).mono ?_; rintro e w' ⟨rfl, rfl⟩) | (go_at_call_of 39 a; refine (KA.out _).mono ?_; rintro e w' ⟨rfl, rfl⟩) | (go_at_call_of 39 b; refine (KB.out _).mono ?_; rintro e w' ⟨rfl, rfl⟩))
      go_loopw [0, 1] (fun s t wr => ∃ x y : Nat, x ≤ 1125899906842624 ∧ y ≤ 1125899906842624 ∧ Hid (Nat.gcd x y = Nat.gcd X Y) ∧ s = .int .i64 x ∧ t = .int .i64 y ∧ Below w.heap.size w wr) (fun _ t _ => (intOf t).toNat)
      case atStart => exact ⟨X, Y, hX, hY, Lib.hid rfl, rfl, rfl, Below.refl _ _⟩
      case round =>
        clear HA HB KA KB
        obtain ⟨x, y, hx, hy, HI, rfl, rfl, hBw⟩ := hrel
        rcases Nat.eq_zero_or_pos y with rfl | hy0
        · have HE : Hid ((x : Int) = gcdV a b) := Lib.hid (by rw [HG'.out, ← HI.out, Nat.gcd_zero_right])
          go_wp2
          go_ret
          exact ⟨ret_int HE.out, hBw⟩
        · have hp : (0 : Int) < y := by omega
          have hne : ((y : Int) == 0) = false := by simp; omega
          have HI2 : Hid (Nat.gcd y (x % y) = Nat.gcd X Y) := Lib.hid ((show Nat.gcd y (x % y) = Nat.gcd x y by rw [Nat.gcd_comm, ← Nat.gcd_rec, Nat.gcd_comm]).trans HI.out)
          have et : (x : Int).tmod y = ((x % y : Nat) : Int) := by rw [Int.tmod_eq_emod_of_nonneg (by omega), Int.natCast_emod]
          have hr : x % y < y := Nat.mod_lt _ hy0
          generalize x % y = r at *
          go_wp2
          go_quiet (fail)
          go_wp2
          go_roundw
          case rel => exact ⟨y, r, hy, by omega, HI2, rfl, rfl, hBw.trans (below_drewN _ _ _)⟩
          case measure => simp [intOf]; omega

/-! ### MulDiv -/
/-- The quotient and the rest of what has been read of the bits. -/
theorem mul_round {C B q r s s' : Int} (hC : 1 ≤ C) (hB : 0 ≤ B) (hr : 0 ≤ r ∧ r < C) (h : q * C + r = s * B) (bit : Int) (hs : s' = 2 * s + bit) (hb : bit = 0 ∨ bit = 1) :
    let q1 := if bit = 1 then 2 * q + B / C else 2 * q
    let r1 := if bit = 1 then 2 * r + B % C else 2 * r
    0 ≤ r1 ∧ r1 < 3 * C ∧ 0 ≤ r1 % C ∧ r1 % C < C ∧ (q1 + r1 / C) * C + r1 % C = s' * B := by
  intro q1 r1
  have e1 := Int.mul_ediv_add_emod r1 C
  have e2 := Int.mul_ediv_add_emod B C
  have m1 := Int.emod_nonneg B (show C ≠ 0 by omega)
  have m2 := Int.emod_lt_of_pos B (show 0 < C by omega)
  have m3 := Int.emod_nonneg r1 (show C ≠ 0 by omega)
  have m4 := Int.emod_lt_of_pos r1 (show 0 < C by omega)
  rw [Int.mul_comm] at e1 e2
  have hq : q1 * C + r1 = s' * B := by
    rcases hb with rfl | rfl
    · show (2 * q) * C + 2 * r = s' * B
      rw [hs, Int.mul_assoc, Int.add_zero, Int.mul_assoc]; omega
    · show (2 * q + B / C) * C + (2 * r + B % C) = s' * B
      rw [hs, Int.add_mul, Int.add_mul, Int.mul_assoc, Int.mul_assoc, Int.one_mul]; omega
  refine ⟨?_, ?_, m3, m4, ?_⟩
  · rcases hb with rfl | rfl
    · show 0 ≤ 2 * r; omega
    · show 0 ≤ 2 * r + B % C; omega
  · rcases hb with rfl | rfl
    · show 2 * r < 3 * C; omega
    · show 2 * r + B % C < 3 * C; omega
  · rw [Int.add_mul]; omega
/-- The bits of A from k on, times B, in quotient and rest. -/
theorem bits_step (A j : Nat) : ((A / 2 ^ j : Nat) : Int) = 2 * ((A / 2 ^ (j + 1) : Nat) : Int) + ((A / 2 ^ j % 2 : Nat) : Int) ∧ ((A / 2 ^ j % 2 : Nat) : Int) < 2 := by
  rw [Nat.pow_succ, ← Nat.div_div_eq_div_mul]
  omega
theorem quot_le {C q r s A B : Int} (hC : 1 ≤ C) (hB : 0 ≤ B) (hr : 0 ≤ r ∧ r < C) (h : q * C + r = s * B) (hs : s ≤ A) : q ≤ A * B / C := by
  refine (Int.le_ediv_iff_mul_le (show 0 < C by omega)).2 ?_
  have := Int.mul_le_mul_of_nonneg_right hs hB
  omega
theorem quot_eq {C q r m : Int} (hC : 1 ≤ C) (hr : 0 ≤ r ∧ r < C) (h : q * C + r = m) : m / C = q ∧ m % C = r := by
  have e : m / C = q := ediv_eq (show 0 < C by omega) (by omega) (by rw [Int.add_mul]; omega)
  refine ⟨e, ?_⟩
  have := Int.mul_ediv_add_emod m C
  rw [e, Int.mul_comm] at this
  omega
/-- A product of absolute values below 2^100. -/
theorem absI_sign (a b : Int) (h : ¬ ((a < 0) ≠ (b < 0) ∧ a ≠ 0 ∧ b ≠ 0)) : a * b = absI a * absI b := by
  unfold absI
  by_cases ha0 : a = 0
  · subst ha0; simp
  by_cases hb0 : b = 0
  · subst hb0; simp
  have : (a < 0) = (b < 0) := by
    by_cases e : (a < 0) = (b < 0)
    · exact e
    · exact absurd ⟨e, ha0, hb0⟩ h
  by_cases h2 : a < 0
  · rw [if_pos h2, if_pos (this ▸ h2), Int.neg_mul_neg]
  · rw [if_neg h2, if_neg (this ▸ h2)]
end Go.Proofs.YtikojcakkmmebaaDoor
