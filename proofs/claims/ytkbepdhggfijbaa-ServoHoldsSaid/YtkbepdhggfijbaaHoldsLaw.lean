/- ServoHolds, in plain numbers. -/
import Derived.Test.YtkbepdhggfijbaaServo
namespace Go.Proofs.Ytkbepdhggfijbaa
theorem holds_plain {T N p1 p2 r : Int} (hN : 0 ≤ N) (h1 : -200000 ≤ p1) (h1' : p1 ≤ 200000) (h2 : -200000 ≤ p2) (h2' : p2 ≤ 200000) :
    let X := N + (T + N) * p1 / 1000000000 - T * p1 / 1000000000
    let Y := N + (T + N) * p2 / 1000000000 - T * p2 / 1000000000
    let C := -((-X) * (max r (-r) + 82) / 1000000000)
    0 ≤ X ∧ -(C + 3) ≤ X + X * (p2 - p1 + r) / 1000000000 - Y ∧ X + X * (p2 - p1 + r) / 1000000000 - Y ≤ C + 3 := by
  intro X Y C
  obtain ⟨a, ha⟩ : ∃ a, T * p1 = a := ⟨_, rfl⟩
  obtain ⟨b, hb⟩ : ∃ b, N * p1 = b := ⟨_, rfl⟩
  obtain ⟨c, hc⟩ : ∃ c, T * p2 = c := ⟨_, rfl⟩
  obtain ⟨d, hd⟩ : ∃ d, N * p2 = d := ⟨_, rfl⟩
  have b1 := mul_bdS (a := N) (b := p1) (A := N) (B := 200000) (by omega) (by omega) h1 h1'
  obtain ⟨q, hq⟩ : ∃ q, p2 - p1 = q := ⟨_, rfl⟩
  have hX : X = N + (a + b) / 1000000000 - a / 1000000000 := by
    show N + (T + N) * p1 / 1000000000 - T * p1 / 1000000000 = _
    rw [Int.add_mul, ha, hb]
  have hY : Y = N + (c + d) / 1000000000 - c / 1000000000 := by
    show N + (T + N) * p2 / 1000000000 - T * p2 / 1000000000 = _
    rw [Int.add_mul, hc, hd]
  have hC : C = -((-X) * (max r (-r) + 82) / 1000000000) := rfl
  clear_value X Y C
  obtain ⟨α, hα⟩ : ∃ α, (X - N) * 1000000000 - b = α := ⟨_, rfl⟩
  obtain ⟨γ, hγ⟩ : ∃ γ, (Y - N) * 1000000000 - d = γ := ⟨_, rfl⟩
  have α1 : -1000000000 < α ∧ α < 1000000000 := by omega
  have γ1 : -1000000000 < γ ∧ γ < 1000000000 := by omega
  rw [hb] at b1
  have hX0 : 0 ≤ X := by omega
  have bq := mul_bdS (a := b) (b := q) (A := N * 200000) (B := 400000) b1.1 b1.2 (by omega) (by omega)
  have αq := mul_bdS (a := α) (b := q) (A := 1000000000) (B := 400000) (by omega) (by omega) (by omega) (by omega)
  have Xr : X * r ≤ X * max r (-r) ∧ -(X * max r (-r)) ≤ X * r := by
    constructor
    · exact Int.mul_le_mul_of_nonneg_left (by omega) hX0
    · rw [← Int.mul_neg]; exact Int.mul_le_mul_of_nonneg_left (by omega) hX0
  have eC : (-X) * (max r (-r) + 82) = -(X * max r (-r)) - X * 82 := by
    rw [Int.neg_mul, Int.mul_add]; omega
  rw [eC] at hC
  have hz : 0 ≤ X * max r (-r) := Int.mul_nonneg hX0 (by omega)
  have eu : X * (q + r) * 1000000000 = (d - b) * 1000000000 + b * q + α * q + X * r * 1000000000 := by
    have e1 : X * 1000000000 = N * 1000000000 + b + α := by omega
    have e2 : N * q = d - b := by rw [← hq, Int.mul_sub, hd, hb]
    rw [Int.mul_add, Int.add_mul]
    have e3 : X * q * 1000000000 = (X * 1000000000) * q := by rw [Int.mul_assoc, Int.mul_comm q, ← Int.mul_assoc]
    rw [e3, e1, Int.add_mul, Int.add_mul, Int.mul_assoc, Int.mul_comm 1000000000 q, ← Int.mul_assoc, e2]
  rw [hq]
  generalize X * (q + r) = u at *
  generalize b * q = s at *
  generalize α * q = v at *
  generalize X * r = y at *
  generalize X * max r (-r) = z at *
  refine ⟨hX0, ?_, ?_⟩
  · omega
  · omega
end Go.Proofs.Ytkbepdhggfijbaa
