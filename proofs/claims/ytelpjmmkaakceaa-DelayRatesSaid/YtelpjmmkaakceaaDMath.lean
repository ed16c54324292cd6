/- The plain laws of the layer delay: the errors of a measured delay and of a measured rate. -/
import Derived.Test.YtelpjmmkaakceaaClock
namespace Go.Proofs.Ytelpjmmkaakceaa
open Go.RowKit

/-- How far a clock's lead moves in x ticks. -/
theorem lead {t x p M : Int} (hx : 0 ≤ x) (h1 : -M ≤ p) (h2 : p ≤ M) :
    (t + x) * p / 1000000000 - t * p / 1000000000 ≤ -((-x) * M / 1000000000) ∧ -(-((-x) * M / 1000000000)) ≤ (t + x) * p / 1000000000 - t * p / 1000000000 := by
  have a1 : x * p ≤ x * M := Int.mul_le_mul_of_nonneg_left h2 hx
  have a2 : x * (-M) ≤ x * p := Int.mul_le_mul_of_nonneg_left h1 hx
  rw [Int.mul_neg] at a2
  rw [Int.add_mul, Int.neg_mul]
  generalize x * p = v at *
  generalize x * M = z at *
  generalize t * p = u at *
  omega
theorem near_plain {d n A B x y : Int} (hx : x ≤ A ∧ -A ≤ x) (hy : y ≤ B ∧ -B ≤ y) :
    d - -(-(A + B) / 2) ≤ ((2 * d + n + x) - (n + y)) / 2 ∧ ((2 * d + n + x) - (n + y)) / 2 ≤ d + -(-(A + B) / 2) := by omega
theorem ceil_mul {y : Int} (hy : 1 ≤ y) : 2001000000 ≤ -(-2001000000 / y) * y := by
  have h := Int.ediv_mul_le (-2001000000) (show y ≠ 0 by omega)
  rw [Int.neg_mul]; omega
/-- A measured rate: y is what the one clock shows in g ticks, y + k what the other shows. -/
theorem rate_plain {s s' g p q y k : Int} (hg : 0 ≤ g) (hp : -200000 ≤ p ∧ p ≤ 200000) (hq : -200000 ≤ q ∧ q ≤ 200000)
    (ey : y = g + ((s + g) * p / 1000000000 - s * p / 1000000000)) (ek : y + k = g + ((s' + g) * q / 1000000000 - s' * q / 1000000000)) (hy : 1 ≤ y) :
    q - p - (82 + -(-2001000000 / y)) ≤ k * 1000000000 / y ∧ k * 1000000000 / y ≤ q - p + (82 + -(-2001000000 / y)) := by
  obtain ⟨a, ha⟩ : ∃ a, (s + g) * p / 1000000000 - s * p / 1000000000 = a := ⟨_, rfl⟩
  obtain ⟨b, hb⟩ : ∃ b, (s' + g) * q / 1000000000 - s' * q / 1000000000 = b := ⟨_, rfl⟩
  have u1 : g * p ≤ g * 200000 := Int.mul_le_mul_of_nonneg_left hp.2 hg
  have u2 : g * (-200000) ≤ g * p := Int.mul_le_mul_of_nonneg_left hp.1 hg
  have hc := ceil_mul hy
  have hw : -(400000 * (if 0 ≤ a then a else -a)) ≤ (q - p) * a ∧ (q - p) * a ≤ 400000 * (if 0 ≤ a then a else -a) := by
    by_cases h : 0 ≤ a
    · rw [if_pos h]; exact mul_bd (by omega) (by omega) (by omega) (by omega)
    · rw [if_neg h]; exact mul_bd (by omega) (by omega) (by omega) (by omega)
  obtain ⟨c, hcc⟩ : ∃ c, -(-2001000000 / y) = c := ⟨_, rfl⟩
  rw [ha] at ey
  rw [hb] at ek
  rw [hcc] at hc ⊢
  have hk : k = b - a := by omega
  have e1 : (q - p) * y = g * q - g * p + (q - p) * a := by rw [ey, Int.mul_add, Int.sub_mul, Int.mul_comm q g, Int.mul_comm p g]
  have y0 : 0 < y := by omega
  rw [Int.add_mul] at ha hb
  generalize g * p = U at *
  generalize g * q = V at *
  generalize s * p = S1 at *
  generalize s' * q = S2 at *
  generalize (q - p) * a = Wp at *
  have e2 : (q - p - (82 + c)) * y = U * 0 + ((q - p) * y - 82 * y - c * y) := by rw [Int.sub_mul, Int.add_mul]; omega
  have e3 : (q - p + (82 + c) + 1) * y = (q - p) * y + 82 * y + c * y + y := by rw [Int.add_mul, Int.add_mul (q - p), Int.add_mul 82]; omega
  generalize (q - p) * y = Z at *
  generalize c * y = C at *
  constructor
  · refine (Int.le_ediv_iff_mul_le y0).2 ?_
    rw [e2]
    split at hw <;> omega
  · refine Int.lt_add_one_iff.1 (Int.ediv_lt_of_lt_mul y0 ?_)
    rw [e3]
    split at hw <;> omega
end Go.Proofs.Ytelpjmmkaakceaa
