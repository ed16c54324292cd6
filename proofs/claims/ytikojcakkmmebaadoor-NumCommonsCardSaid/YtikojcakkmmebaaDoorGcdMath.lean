/- The binary algorithm of the greatest common divisor, in plain numbers. -/
import Derived.Test.YtikojcakkmmebaaDoorBase
import Derived.Lib.TrailingZeros
namespace Go.Proofs.YtikojcakkmmebaaDoor
open Go.Lib

/-- x is a power of two times an odd number. -/
theorem ctz_spec {x : Nat} (h0 : 0 < x) (h : x < 18446744073709551616) : ∃ m, x = 2 ^ ctz 64 x * (2 * m + 1) ∧ ctz 64 x < 64 := by
  obtain ⟨m, h1, h2⟩ := ctzFrom_spec 64 x h0 (by simpa using h)
  have e : ctz 64 x = ctzFrom 64 x := by unfold ctz; rw [if_neg (by omega)]
  exact ⟨m, by rw [e]; exact h1, by rw [e]; exact h2⟩
theorem ctz_div {x : Nat} (h0 : 0 < x) (h : x < 18446744073709551616) : ∃ m, ctz 64 x < 64 ∧ x = 2 ^ ctz 64 x * (2 * m + 1) ∧ x / 2 ^ ctz 64 x = 2 * m + 1 := by
  obtain ⟨m, h1, h2⟩ := ctz_spec h0 h
  refine ⟨m, h2, h1, ?_⟩
  generalize ctz 64 x = i at *
  rw [h1]
  exact Nat.mul_div_cancel_left _ (Nat.two_pow_pos _)
theorem odd_unique {i j u v : Nat} (h : 2 ^ i * (2 * u + 1) = 2 ^ j * (2 * v + 1)) : i = j := by
  rcases Nat.lt_trichotomy i j with hl | rfl | hl
  · exfalso
    obtain ⟨d, rfl⟩ : ∃ d, j = i + (d + 1) := ⟨j - i - 1, by omega⟩
    rw [Nat.pow_add, Nat.mul_assoc] at h
    have h1 := Nat.eq_of_mul_eq_mul_left (Nat.two_pow_pos i) h
    rw [Nat.pow_succ, Nat.mul_comm (2 ^ d), Nat.mul_assoc] at h1
    omega
  · rfl
  · exfalso
    obtain ⟨d, rfl⟩ : ∃ d, i = j + (d + 1) := ⟨i - j - 1, by omega⟩
    rw [Nat.pow_add, Nat.mul_assoc] at h
    have h1 := Nat.eq_of_mul_eq_mul_left (Nat.two_pow_pos j) h
    rw [Nat.pow_succ, Nat.mul_comm (2 ^ d), Nat.mul_assoc] at h1
    omega
theorem ctz_eq {x i u : Nat} (h : x < 18446744073709551616) (e : x = 2 ^ i * (2 * u + 1)) : ctz 64 x = i := by
  have h0 : 0 < x := by rw [e]; exact Nat.mul_pos (Nat.two_pow_pos i) (by omega)
  obtain ⟨m, h1, _⟩ := ctz_spec h0 h
  exact odd_unique (h1.symm.trans e)
theorem or_pow (i a b : Nat) : 2 ^ i * a ||| 2 ^ i * b = 2 ^ i * (a ||| b) := by
  rw [Nat.mul_comm, Nat.mul_comm (2 ^ i) b, Nat.mul_comm (2 ^ i)]
  rw [← Nat.shiftLeft_eq, ← Nat.shiftLeft_eq, ← Nat.shiftLeft_eq, Nat.shiftLeft_or_distrib]
theorem or_odd (u b : Nat) : ∃ m, (2 * u + 1) ||| b = 2 * m + 1 := by
  refine ⟨((2 * u + 1) ||| b) / 2, ?_⟩
  have : ((2 * u + 1) ||| b) % 2 = 1 := by rw [Nat.or_mod_two_eq_one]; left; omega
  omega
theorem gcd_odd (u k y : Nat) : Nat.gcd (2 * u + 1) (2 ^ k * y) = Nat.gcd (2 * u + 1) y := by
  have h : Nat.Coprime (2 ^ k) (2 * u + 1) := by
    refine Nat.Coprime.pow_left k ?_
    show Nat.gcd 2 (2 * u + 1) = 1
    rw [Nat.gcd_rec, show (2 * u + 1) % 2 = 1 by omega]; rfl
  exact h.gcd_mul_left_cancel_right y
/-- What the shifts ahead of the loop leave. -/
theorem gcd_shift {x y : Nat} (hx : 0 < x) (hy : 0 < y) (hx' : x < 18446744073709551616) (hy' : y < 18446744073709551616) :
    ctz 64 (x ||| y) < 64 ∧ 2 ^ ctz 64 (x ||| y) * Nat.gcd (x / 2 ^ ctz 64 x) y = Nat.gcd x y := by
  obtain ⟨u, hu, hi⟩ := ctz_spec hx hx'
  obtain ⟨v, hv, hj⟩ := ctz_spec hy hy'
  have ho : x ||| y < 18446744073709551616 := by
    have := Nat.or_lt_two_pow (n := 64) (x := x) (y := y) (by simpa using hx') (by simpa using hy')
    simpa using this
  generalize ctz 64 x = i at *
  generalize ctz 64 y = j at *
  have hd : x / 2 ^ i = 2 * u + 1 := by rw [hu]; exact Nat.mul_div_cancel_left _ (Nat.two_pow_pos i)
  rw [hd]
  rcases Nat.le_total i j with hl | hl
  · obtain ⟨d, rfl⟩ : ∃ d, j = i + d := ⟨j - i, by omega⟩
    have hv' : y = 2 ^ i * (2 ^ d * (2 * v + 1)) := by rw [hv, Nat.pow_add, Nat.mul_assoc]
    obtain ⟨m, hm⟩ := or_odd u (2 ^ d * (2 * v + 1))
    have e : ctz 64 (x ||| y) = i := ctz_eq ho (by rw [hu, hv', or_pow, hm])
    rw [e]
    refine ⟨hi, ?_⟩
    rw [hv', gcd_odd]
    conv => rhs; rw [hu]
    rw [Nat.gcd_mul_left]
  · obtain ⟨d, rfl⟩ : ∃ d, i = j + d := ⟨i - j, by omega⟩
    have hu' : x = 2 ^ j * (2 ^ d * (2 * u + 1)) := by rw [hu, Nat.pow_add, Nat.mul_assoc]
    obtain ⟨m, hm⟩ := or_odd v (2 ^ d * (2 * u + 1))
    have e : ctz 64 (x ||| y) = j := ctz_eq ho (by rw [hu', hv, Nat.or_comm, or_pow, hm])
    rw [e]
    refine ⟨hj, ?_⟩
    rw [hv, gcd_odd, hu', Nat.gcd_mul_left, Nat.gcd_comm (2 ^ d * (2 * u + 1)), gcd_odd, Nat.gcd_comm (2 * u + 1)]
/-- One round: y loses its factors two, the greater is lowered by the less. -/
theorem gcd_step {u y m k : Nat} (e : y = 2 ^ k * (2 * m + 1)) :
    Nat.gcd (2 * u + 1) y = Nat.gcd (2 * u + 1) (2 * m + 1) := by rw [e, gcd_odd]
theorem gcd_sub {x y : Nat} (h : x ≤ y) : Nat.gcd x y = Nat.gcd x (y - x) := by
  have := Nat.gcd_add_self_right x (y - x)
  rw [Nat.sub_add_cancel h] at this
  exact this
end Go.Proofs.YtikojcakkmmebaaDoor
