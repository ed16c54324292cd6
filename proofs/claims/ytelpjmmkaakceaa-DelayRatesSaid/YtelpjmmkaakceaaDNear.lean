/- The facts of DelayNear and DelayRates. -/
import Derived.Test.YtelpjmmkaakceaaWorks12
import Derived.Test.YtelpjmmkaakceaaDraft09
import Derived.Test.YtelpjmmkaakceaaDMath
import Derived.Test.YtelpjmmkaakceaaRegion
namespace Go.Proofs.Ytelpjmmkaakceaa
open Go.RowKit Go.Shelf

theorem met_ok {o1 p1 o2 p2 t d n : Int} (h1 : okC o1 p1 = true) (h2 : okC o2 p2 = true) (ht : 0 ≤ t ∧ t ≤ 8589934590) (hd : 0 ≤ d ∧ d ≤ 4294967295) (hn : 0 ≤ n ∧ n ≤ 4294967295) (w : World) :
    Calls Try.prog 19 #[.agg #[.int .i64 o1, .int .i64 p1], .agg #[.int .i64 o2, .int .i64 p2], .int .i64 t, .int .i64 d, .int .i64 n] w fun e w' =>
      e = .returned (.tuple #[.agg #[.int .i64 (atC o1 p1 t), .int .i64 (atC o2 p2 (t + d)), .int .i64 (atC o2 p2 (t + d + n)), .int .i64 (atC o1 p1 (t + 2 * d + n))], .int .i64 0]) ∧ Below w.heap.size w w' := by
  have hT : timedB t d n = true := by rw [timedB_iff]; omega
  have hm : metOk o1 p1 o2 p2 t d n = true := by unfold metOk; rw [h1, h2, hT]; rfl
  have hE : metE o1 p1 o2 p2 t d n = 0 := by unfold metE; rw [h1, h2, hT]; rfl
  have hl : ∀ o p s, okC o p = true → (0 ≤ s ∧ s ≤ 1099511627776) → locV o p s = atC o p s := fun o p s h hs => (loc_ok h (by rw [inT_iff]; omega)).1
  have hV : ∀ j, metV o1 p1 o2 p2 t d n j = locV (mtO o1 o2 j) (mtO p1 p2 j) (mtT t d n j) := fun j => by unfold metV; rw [hm]; rfl
  have e0 : metV o1 p1 o2 p2 t d n 0 = atC o1 p1 t := (hV 0).trans (hl o1 p1 t h1 (by omega))
  have e1 : metV o1 p1 o2 p2 t d n 1 = atC o2 p2 (t + d) := (hV 1).trans (hl o2 p2 (t + d) h2 (by omega))
  have e2 : metV o1 p1 o2 p2 t d n 2 = atC o2 p2 (t + d + n) := (hV 2).trans (hl o2 p2 (t + d + n) h2 (by omega))
  have e3 : metV o1 p1 o2 p2 t d n 3 = atC o1 p1 (t + 2 * d + n) := (hV 3).trans (hl o1 p1 (t + 2 * d + n) h1 (by omega))
  have H := meet_any o1 p1 o2 p2 t d n w
  rw [e0, e1, e2, e3, hE] at H
  exact H
theorem met_okX {o1 p1 o2 p2 t d n : Int} (h1 : okC o1 p1 = true) (h2 : okC o2 p2 = true) (ht : 0 ≤ t ∧ t ≤ 8589934590) (hd : 0 ≤ d ∧ d ≤ 4294967295) (hn : 0 ≤ n ∧ n ≤ 4294967295) :
    okX (atC o1 p1 t) (atC o2 p2 (t + d)) (atC o2 p2 (t + d + n)) (atC o1 p1 (t + 2 * d + n)) = true := by
  have b1 := atC_lim h1 ht.1 (by omega)
  have b2 := atC_lim h2 (show 0 ≤ t + d by omega) (by omega)
  have b3 := atC_lim h2 (show 0 ≤ t + d + n by omega) (by omega)
  have b4 := atC_lim h1 (show 0 ≤ t + 2 * d + n by omega) (by omega)
  rw [okC_iff] at h1 h2
  have l1 := lead (t := t) (x := 2 * d + n) (p := p1) (M := 200000) (by omega) (by omega) (by omega)
  have l2 := lead (t := t + d) (x := n) (p := p2) (M := 200000) (by omega) (by omega) (by omega)
  rw [okX_iff]
  refine ⟨b1, b2, b3, b4, ?_, ?_⟩
  · clear b1 b2 b3 b4 l2
    unfold atC
    rw [show t + 2 * d + n = t + (2 * d + n) by omega]
    generalize (t + (2 * d + n)) * p1 = U at *
    generalize t * p1 = V at *
    omega
  · clear b1 b2 b3 b4 l1
    unfold atC
    generalize (t + d + n) * p2 = U at *
    generalize (t + d) * p2 = V at *
    omega
theorem near_all {o1 p1 o2 p2 t d n M : Int} (h1 : okC o1 p1 = true) (h2 : okC o2 p2 = true) (ht : 0 ≤ t ∧ t ≤ 8589934590) (hd : 0 ≤ d ∧ d ≤ 4294967295) (hn : 0 ≤ n ∧ n ≤ 4294967295)
    (hM : max (max (max p1 (-p1)) p2) (-p2) = M) :
    (0 ≤ M ∧ M ≤ 200000) ∧ dbE M d n = 0 ∧ (0 ≤ dbV M d n ∧ dbV M d n ≤ 17179869184) ∧
    d - dbV M d n ≤ delV (atC o1 p1 t) (atC o2 p2 (t + d)) (atC o2 p2 (t + d + n)) (atC o1 p1 (t + 2 * d + n)) ∧ delV (atC o1 p1 t) (atC o2 p2 (t + d)) (atC o2 p2 (t + d + n)) (atC o1 p1 (t + 2 * d + n)) ≤ d + dbV M d n := by
  have hx := met_okX h1 h2 ht hd hn
  rw [okC_iff] at h1 h2
  have hM0 : 0 ≤ M ∧ M ≤ 200000 ∧ -M ≤ p1 ∧ p1 ≤ M ∧ -M ≤ p2 ∧ p2 ≤ M := by omega
  clear hM
  have hT : timedB 0 d n = true := by rw [timedB_iff]; omega
  have hk : dbOk M d n = true := by unfold dbOk; rw [hT, decide_eq_true hM0.1, decide_eq_true hM0.2.1]; rfl
  have l1 := lead (t := t) (x := 2 * d + n) (p := p1) (M := M) (by omega) (by omega) (by omega)
  have l2 := lead (t := t + d) (x := n) (p := p2) (M := M) (by omega) (by omega) (by omega)
  have z1 := mul_bd (A := 12884901885) (B := 200000) (a := -(2 * d + n)) (b := M) (by omega) (by omega) (by omega) (by omega)
  have z2 := mul_bd (A := 12884901885) (B := 200000) (a := -n) (b := M) (by omega) (by omega) (by omega) (by omega)
  have n1 : (-(2 * d + n)) * M ≤ 0 := by rw [Int.neg_mul]; have := Int.mul_nonneg (show 0 ≤ 2 * d + n by omega) hM0.1; omega
  have n2 : (-n) * M ≤ 0 := by rw [Int.neg_mul]; have := Int.mul_nonneg hn.1 hM0.1; omega
  have ev : dbV M d n = -(-(-((-(2 * d + n)) * M / 1000000000) + -((-n) * M / 1000000000)) / 2) := by unfold dbV; rw [if_pos hk]
  have ed : delV (atC o1 p1 t) (atC o2 p2 (t + d)) (atC o2 p2 (t + d + n)) (atC o1 p1 (t + 2 * d + n)) = (atC o1 p1 (t + 2 * d + n) - atC o1 p1 t - (atC o2 p2 (t + d + n) - atC o2 p2 (t + d))) / 2 := by unfold delV; rw [if_pos hx]
  have ea : atC o1 p1 (t + 2 * d + n) - atC o1 p1 t = 2 * d + n + ((t + (2 * d + n)) * p1 / 1000000000 - t * p1 / 1000000000) := by
    unfold atC; rw [show t + 2 * d + n = t + (2 * d + n) by omega]; omega
  have eb : atC o2 p2 (t + d + n) - atC o2 p2 (t + d) = n + ((t + d + n) * p2 / 1000000000 - (t + d) * p2 / 1000000000) := by
    unfold atC; omega
  have np := near_plain (d := d) (n := n) l1 l2
  refine ⟨by omega, by unfold dbE; rw [if_pos hk], ?_⟩
  rw [ed, ea, eb, ev]
  refine ⟨?_, np⟩
  clear np l1 l2 ea eb ed
  generalize (-(2 * d + n)) * M = U at *
  generalize (-n) * M = V at *
  omega
theorem rate_all {o1 p1 o2 p2 t g d n : Int} (h1 : okC o1 p1 = true) (h2 : okC o2 p2 = true) (hg : 0 ≤ g ∧ g ≤ 4294967295)
    {x1 x2 x3 x4 y1 y2 y3 y4 : Int} (hx : okX x1 x2 x3 x4 = true) (hy : okX y1 y2 y3 y4 = true)
    (e3 : atC o2 p2 (t + d + n) = x3) (e4 : atC o1 p1 (t + 2 * d + n) = x4) (f3 : atC o2 p2 (t + g + d + n) = y3) (f4 : atC o1 p1 (t + g + 2 * d + n) = y4) :
    (y4 - x4 < 1 ∧ raE x1 x2 x3 x4 y1 y2 y3 y4 = 2) ∨
    (1 ≤ y4 - x4 ∧ rbE (y4 - x4) = 0 ∧ (0 ≤ rbV (y4 - x4) ∧ rbV (y4 - x4) ≤ 2001000082) ∧
      ((raE x1 x2 x3 x4 y1 y2 y3 y4 = 6 ∧ 8388608 < rbV (y4 - x4) + 400000) ∨
       (raE x1 x2 x3 x4 y1 y2 y3 y4 = 0 ∧ p2 - p1 - rbV (y4 - x4) ≤ raV x1 x2 x3 x4 y1 y2 y3 y4 ∧ raV x1 x2 x3 x4 y1 y2 y3 y4 ≤ p2 - p1 + rbV (y4 - x4)))) := by
  have HE : raE x1 x2 x3 x4 y1 y2 y3 y4 = if y4 - x4 < 1 then 2 else if raOk x3 x4 y3 y4 then 0 else 6 := by unfold raE; rw [hx, hy]; simp
  have HW : raV x1 x2 x3 x4 y1 y2 y3 y4 = if decide (1 ≤ y4 - x4) && raOk x3 x4 y3 y4 then md (y3 - x3 - (y4 - x4)) 1000000000 (y4 - x4) else 0 := by unfold raV; rw [hx, hy]; simp
  by_cases hc : y4 - x4 < 1
  · exact Or.inl ⟨hc, by rw [HE, if_pos hc]⟩
  · have h1' : 1 ≤ y4 - x4 := by omega
    rw [okX_iff] at hx hy
    rw [okC_iff] at h1 h2
    have hr := rate_plain (s := t + 2 * d + n) (s' := t + d + n) (g := g) (p := p1) (q := p2) (y := y4 - x4) (k := y3 - x3 - (y4 - x4)) hg.1 h1.2 h2.2
      (by rw [← e4, ← f4, show t + 2 * d + n + g = t + g + 2 * d + n by omega]; unfold atC; omega)
      (by rw [← e3, ← f3, show t + d + n + g = t + g + d + n by omega]; unfold atC; omega) h1'
    have hrk : rbOk (y4 - x4) = true ∨ 4398046511104 < y4 - x4 := by unfold rbOk; simp; omega
    have hY : y4 - x4 ≤ 4398046511104 := by
      have l1 := lead (t := t + 2 * d + n) (x := g) (p := p1) (M := 200000) (by omega) (by omega) (by omega)
      have : y4 - x4 = g + ((t + 2 * d + n + g) * p1 / 1000000000 - (t + 2 * d + n) * p1 / 1000000000) := by
        rw [← e4, ← f4, show t + 2 * d + n + g = t + g + 2 * d + n by omega]; unfold atC; omega
      rw [this]
      generalize (t + 2 * d + n + g) * p1 = U at *
      generalize (t + 2 * d + n) * p1 = V at *
      omega
    have hrk : rbOk (y4 - x4) = true := by rcases hrk with h | h; exact h; omega
    have ev : rbV (y4 - x4) = 82 + -(-2001000000 / (y4 - x4)) := by unfold rbV; rw [if_pos hrk]
    obtain ⟨r1, _⟩ := ra_facts (n := y3 - x3 - (y4 - x4)) (y := y4 - x4) (by omega) (by omega)
    have hc1 : 0 ≤ -(-2001000000 / (y4 - x4)) := by
      have := Int.ediv_le_of_le_mul (a := -2001000000) (b := 0) (show 0 < y4 - x4 by omega) (by omega); omega
    have hc2 : -(-2001000000 / (y4 - x4)) ≤ 2001000000 := by
      have := (Int.le_ediv_iff_mul_le (a := -2001000000) (b := -2001000000) (show 0 < y4 - x4 by omega)).2 (by omega); omega
    rw [← ev] at hr
    have hR : raOk x3 x4 y3 y4 = (mdOk (y3 - x3 - (y4 - x4)) 1000000000 (y4 - x4) && (decide (-8388608 ≤ md (y3 - x3 - (y4 - x4)) 1000000000 (y4 - x4)) && decide (md (y3 - x3 - (y4 - x4)) 1000000000 (y4 - x4) ≤ 8388608))) := rfl
    refine Or.inr ⟨h1', by unfold rbE; rw [if_pos hrk], by omega, ?_⟩
    clear e3 e4 f3 f4 ev hc1 hc2 hrk
    generalize rbV (y4 - x4) = m at *
    obtain ⟨k, hk⟩ : ∃ k, y3 - x3 - (y4 - x4) = k := ⟨_, rfl⟩
    obtain ⟨y, hyy⟩ : ∃ y, y4 - x4 = y := ⟨_, rfl⟩
    rw [hk] at hr r1 hR HW
    rw [hyy] at hr r1 hR HW HE hc h1'
    have y0 : 0 < y := by omega
    have big : k * 1000000000 / y ≤ 8388608 → -8388608 ≤ k * 1000000000 / y → -y ≤ k ∧ k ≤ y := fun b1 b2 => by
      have c1 := (Int.le_ediv_iff_mul_le y0).1 b2
      have c2 := Int.lt_mul_of_ediv_lt y0 (show k * 1000000000 / y < 8388609 by omega)
      omega
    clear hx hy hk hyy
    cases hk : raOk x3 x4 y3 y4
    · left
      refine ⟨by rw [HE, if_neg hc, hk]; rfl, Int.not_le.1 fun hm => ?_⟩
      obtain ⟨c1, c2⟩ := big (by omega) (by omega)
      obtain ⟨d1, d2, _⟩ := r1 c1 c2
      rw [hk, d1, d2, decide_eq_true (show -8388608 ≤ k * 1000000000 / y by omega), decide_eq_true (show k * 1000000000 / y ≤ 8388608 by omega)] at hR
      cases hR
    · right
      have hd1 : mdOk k 1000000000 y = true := by
        cases h : mdOk k 1000000000 y
        · rw [hk, h] at hR; cases hR
        · rfl
      have hd2 : md k 1000000000 y = k * 1000000000 / y := by unfold md; rw [if_pos hd1]
      rw [HW, hk, decide_eq_true h1', hd2]
      exact ⟨by rw [HE, if_neg hc, hk]; rfl, hr⟩
end Go.Proofs.Ytelpjmmkaakceaa
