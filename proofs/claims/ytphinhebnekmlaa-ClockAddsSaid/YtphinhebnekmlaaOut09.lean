/- The outright laws of the layer clock: the plain part, and 'time'. -/
import Derived.Test.YtphinhebnekmlaaWorks09
import Derived.Test.YtphinhebnekmlaaDraft09
namespace Go.Proofs.Ytphinhebnekmlaa
open Go.RowKit Go.Shelf

def timeV (t : Int) : Int := t % 18446744073709551616 % 1099511627777
theorem timeV_bd (t : Int) : 0 ≤ timeV t ∧ timeV t ≤ 1099511627776 := by unfold timeV; omega
theorem conv_u64 (t : Int) : IntKind.u64.wrap t = t % 18446744073709551616 := IntKind.wrap_u64 t
set_option maxHeartbeats 400000 in
theorem time_any (t : Int) (w : World) :
    Calls Try.prog 24 #[.int .i64 t] w fun e w' => e = .returned (.int .i64 (timeV t)) ∧ w' = w := by
  have e0 := conv_u64 t
  obtain ⟨u, hu⟩ : ∃ u, t % 18446744073709551616 = u := ⟨_, rfl⟩
  have hu0 : 0 ≤ u := by omega
  have hu1 : u ≤ 18446744073709551615 := by omega
  rw [hu] at e0
  have HV : Hid (u % 1099511627777 = timeV t) := Lib.hid (by unfold timeV; rw [hu])
  clear hu
  go_enter Try.func24, Try.ntmps24
  go_wp2
  go_ret
  exact ⟨ret_int HV.out, rfl⟩
/-- The laws of a clock, in plain numbers. -/
theorem back_law {o p t : Int} {k : Nat} (h : okC o p = true) (h0 : 0 ≤ t) (h1 : t ≤ 1099511627776) (hk : First o p (atC o p t) k) :
    (k : Int) ≤ t ∧ atC o p t = atC o p k ∧ (k ≠ 0 → atC o p ((k : Int) - 1) < atC o p t) := by
  have g1 : (k : Int) ≤ t := by
    have := (hk.2 t.toNat (by omega)).1 (by rw [show ((t.toNat : Nat) : Int) = t by omega]; exact Int.le_refl _)
    omega
  have g2 : atC o p t ≤ atC o p k := (hk.2 k (by omega)).2 (Nat.le_refl _)
  have g3 := atC_le h g1
  refine ⟨g1, by omega, fun hz => ?_⟩
  have g4 := hk.2 (k - 1) (by omega)
  rw [show (((k - 1 : Nat)) : Int) = (k : Int) - 1 by omega] at g4
  have : ¬ atC o p t ≤ atC o p ((k : Int) - 1) := fun q => by have := g4.1 q; omega
  omega
theorem drift_law (o p t d : Int) (hd : 0 ≤ d) : d - -((-d) * max p (-p) / 1000000000) ≤ atC o p (t + d) - atC o p t ∧ atC o p (t + d) - atC o p t ≤ d + -((-d) * max p (-p) / 1000000000) := by
  unfold atC
  rw [Int.add_mul, Int.neg_mul]
  rcases Int.lt_or_le p 0 with g | g
  · have e : d * max p (-p) = -(d * p) := by rw [show max p (-p) = -p by omega, Int.mul_neg]
    rw [e]
    have := Int.mul_nonneg hd (show 0 ≤ -p by omega)
    rw [Int.mul_neg] at this
    generalize t * p = A
    generalize d * p = B at *
    omega
  · have e : d * max p (-p) = d * p := by rw [show max p (-p) = p by omega]
    rw [e]
    have : 0 ≤ d * p := Int.mul_nonneg hd g
    generalize t * p = A
    generalize d * p = B at *
    omega
end Go.Proofs.Ytphinhebnekmlaa
