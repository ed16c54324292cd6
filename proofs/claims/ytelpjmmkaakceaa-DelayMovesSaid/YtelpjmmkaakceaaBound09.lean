/- The package clock: Bound. -/
import Derived.Test.YtelpjmmkaakceaaClock2
namespace Go.Proofs.Ytelpjmmkaakceaa
open Go.RowKit Go.Shelf

theorem atC_lim {o p t : Int} (h : okC o p = true) (h0 : 0 ≤ t) (h1 : t ≤ 1099511627776) : -4398046511104 ≤ atC o p t ∧ atC o p t ≤ 4398046511104 := by
  rw [okC_iff] at h
  have hb := mul_bd (A := 1099511627776) (B := 200000) (a := t) (b := p) (by omega) h1 (by omega) (by omega)
  unfold atC
  omega
set_option maxHeartbeats 400000 in
theorem bound_in (p d : Int) (w : World) (hp0 : 0 ≤ p) (hp1 : p ≤ 200000) (hd0 : 0 ≤ d) (hd1 : d ≤ 1099511627776) :
    Calls Try.prog 38 #[.int .i64 p, .int .i64 d] w fun e w' => e = .returned (.tuple #[.int .i64 (-((-d) * p / 1000000000)), .int .i64 0]) ∧ Below w.heap.size w w' := by
  have hb := mul_bd (A := 1099511627776) (B := 200000) (a := -d) (b := p) (by omega) (by omega) (by omega) (by omega)
  have q1 : -1125899906842624 ≤ (-d) * p / 1000000000 := by omega
  have q2 : (-d) * p / 1000000000 ≤ 1125899906842624 := by omega
  have hm : md (-d) p 1000000000 = (-d) * p / 1000000000 := md_ok (by rw [inR_iff]; omega) (by rw [inR_iff]; omega) (by rw [inR_iff]; omega) (by omega) (by rw [inR_iff]; exact ⟨q1, q2⟩)
  obtain ⟨q, hq⟩ : ∃ q, (-d) * p / 1000000000 = q := ⟨_, rfl⟩
  rw [hq] at q1 q2 hm ⊢
  have HM := Lib.hid hm
  clear hm hq hb
  go_enter Try.func38, Try.ntmps38
  go_wp2_with (first
    | (go_at_call 32; refine (muldiv_any _ _ _ _).mono ?_; rintro e w' ⟨rfl, hb⟩; rw [HM.out])
    | (go_at_call 48; go_in))
  go_ret2
  exact ⟨rfl, hb⟩
/-- What Bound returns. -/
def okB (p d : Int) : Bool := decide (0 ≤ p) && decide (p ≤ 200000) && (decide (0 ≤ d) && decide (d ≤ 1099511627776))
def bndV (p d : Int) : Int := if okB p d then -((-d) * p / 1000000000) else 0
def bndE (p d : Int) : Int := if okB p d then 0 else 2
theorem okB_iff (p d : Int) : okB p d = true ↔ (0 ≤ p ∧ p ≤ 200000) ∧ 0 ≤ d ∧ d ≤ 1099511627776 := by simp [okB]
set_option maxHeartbeats 400000 in
theorem bound_any (p d : Int) (w : World) :
    Calls Try.prog 38 #[.int .i64 p, .int .i64 d] w fun e w' => e = .returned (.tuple #[.int .i64 (bndV p d), .int .i64 (bndE p d)]) ∧ Below w.heap.size w w' := by
  cases h : okB p d
  · have HV : Hid (bndV p d = 0 ∧ bndE p d = 2) := Lib.hid (by unfold bndV bndE; rw [h]; exact ⟨rfl, rfl⟩)
    have hn : ¬ ((0 ≤ p ∧ p ≤ 200000) ∧ 0 ≤ d ∧ d ≤ 1099511627776) := fun k => by rw [← okB_iff, h] at k; cases k
    clear h
    by_cases h1 : 0 ≤ p
    · by_cases h2 : p ≤ 200000
      · by_cases h3 : 0 ≤ d
        · have h4 : ¬ d ≤ 1099511627776 := by omega
          clear hn
          go_enter Try.func38, Try.ntmps38
          go_wp2
          go_ret2
          exact ⟨ret_int2 HV.out.1.symm HV.out.2.symm, Below.refl _ _⟩
        · clear hn
          go_enter Try.func38, Try.ntmps38
          go_wp2
          go_ret2
          exact ⟨ret_int2 HV.out.1.symm HV.out.2.symm, Below.refl _ _⟩
      · clear hn
        go_enter Try.func38, Try.ntmps38
        go_wp2
        go_ret2
        exact ⟨ret_int2 HV.out.1.symm HV.out.2.symm, Below.refl _ _⟩
    · clear hn
      go_enter Try.func38, Try.ntmps38
      go_wp2
      go_ret2
      exact ⟨ret_int2 HV.out.1.symm HV.out.2.symm, Below.refl _ _⟩
  · have HV : bndV p d = -((-d) * p / 1000000000) ∧ bndE p d = 0 := by unfold bndV bndE; rw [h]; exact ⟨rfl, rfl⟩
    rw [okB_iff] at h
    rw [HV.1, HV.2]
    exact bound_in p d w h.1.1 h.1.2 h.2.1 h.2.2
end Go.Proofs.Ytelpjmmkaakceaa
