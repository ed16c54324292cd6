/- The reference of the layer clock: At, Right, Drift: what they compute. -/
import Derived.Test.YtelpjmmkaakceaaBound09
import Derived.Test.YtelpjmmkaakceaaFloor
import Derived.BigQuiet
import Derived.Deep.QuietTactic
namespace Go.Proofs.Ytelpjmmkaakceaa
open Go.RowKit Go.Shelf

set_option maxHeartbeats 400000 in
theorem refAt_any (o p t : Int) (w : World) (h : okC o p = true) (h0 : -4398046511104 ≤ t) (h1 : t ≤ 4398046511104) :
    Calls Try.prog 37 #[.agg #[.int .i64 o, .int .i64 p], .int .i64 t] w fun e w' => e = .returned (.int .i64 (atC o p t)) ∧ Below w.heap.size w w' := by
  obtain ⟨q1, q2, _⟩ := atC_bd h h0 h1
  have HA : Hid (t + o + t * p / 1000000000 = atC o p t) := Lib.hid rfl
  rw [okC_iff] at h
  obtain ⟨h2, h3⟩ := h
  have hb := mul_bd (A := 4398046511104) (B := 200000) (a := t) (b := p) (by omega) h1 (by omega) (by omega)
  have e1 : IntKind.i64.wrap (t * p) = t * p := IntWalk.i64_in _ (by omega)
  have HF := Lib.hid fun w => floor_any (t * p) 1000000000 w (by omega) (by omega) (by omega) (by omega)
  obtain ⟨q, hq⟩ : ∃ q, t * p / 1000000000 = q := ⟨_, rfl⟩
  rw [hq] at q1 q2 HA HF
  obtain ⟨m, hm⟩ : ∃ m, t * p = m := ⟨_, rfl⟩
  rw [hm] at e1 HF
  have e2 : IntKind.i64.wrap (t + o) = t + o := IntWalk.i64_in _ (by omega)
  have e3 : IntKind.i64.wrap (t + o + q) = t + o + q := IntWalk.i64_in _ (by omega)
  clear hq hb
  go_enter Try.func37, Try.ntmps37
  go_wp2_with fail
  go_quiet ((go_at_call 31; exact Calls.quiet_of_same (HF.out _)))
  go_wp2
  go_ret
  exact ⟨ret_int HA.out, ((Below.refl _ _).alloc (Nat.le_refl _) _).trans (below_drewN _ _ _)⟩
set_option maxHeartbeats 400000 in
theorem refRight_any (o p : Int) (w : World) :
    Calls Try.prog 20 #[.agg #[.int .i64 o, .int .i64 p]] w fun e w' => e = .returned (.bool (okC o p)) ∧ Below w.heap.size w w' := by
  have HB : Below w.heap.size w (w.alloc (.cells #[.int .i64 o, .int .i64 p] 36)) := (Below.refl _ _).alloc (Nat.le_refl _) _
  by_cases h1 : -1099511627776 ≤ o
  · by_cases h2 : o ≤ 1099511627776
    · by_cases h3 : -200000 ≤ p
      · by_cases h4 : p ≤ 200000
        · have H : Hid (okC o p = true) := Lib.hid ((okC_iff o p).2 (by omega))
          go_enter Try.func20, Try.ntmps20
          go_wp2
          go_ret
          exact ⟨ret_bool H.out.symm, HB⟩
        · have H : Hid (okC o p = false) := Lib.hid (by cases e : okC o p; rfl; rw [okC_iff] at e; omega)
          go_enter Try.func20, Try.ntmps20
          go_wp2
          go_ret
          exact ⟨ret_bool H.out.symm, HB⟩
      · have H : Hid (okC o p = false) := Lib.hid (by cases e : okC o p; rfl; rw [okC_iff] at e; omega)
        go_enter Try.func20, Try.ntmps20
        go_wp2
        go_ret
        exact ⟨ret_bool H.out.symm, HB⟩
    · have H : Hid (okC o p = false) := Lib.hid (by cases e : okC o p; rfl; rw [okC_iff] at e; omega)
      go_enter Try.func20, Try.ntmps20
      go_wp2
      go_ret
      exact ⟨ret_bool H.out.symm, HB⟩
  · have H : Hid (okC o p = false) := Lib.hid (by cases e : okC o p; rfl; rw [okC_iff] at e; omega)
    go_enter Try.func20, Try.ntmps20
    go_wp2
    go_ret
    exact ⟨ret_bool H.out.symm, HB⟩
set_option maxHeartbeats 400000 in
theorem drift_any (p d : Int) (w : World) (hp0 : 0 ≤ p) (hp1 : p ≤ 200000) (hd0 : 0 ≤ d) (hd1 : d ≤ 1099511627776) :
    Calls Try.prog 40 #[.int .i64 p, .int .i64 d] w fun e w' => e = .returned (.int .i64 (-((-d) * p / 1000000000))) ∧ w' = w := by
  have hb := mul_bd (A := 1099511627776) (B := 200000) (a := -d) (b := p) (by omega) (by omega) (by omega) (by omega)
  have HF := Lib.hid fun w => floor_any ((-d) * p) 1000000000 w (by omega) (by omega) (by omega) (by omega)
  have q1 : -1125899906842624 ≤ (-d) * p / 1000000000 := by omega
  have q2 : (-d) * p / 1000000000 ≤ 1125899906842624 := by omega
  generalize (-d) * p / 1000000000 = q at *
  obtain ⟨m, hm⟩ : ∃ m, (-d) * p = m := ⟨_, rfl⟩
  have hm2 : IntKind.i64.wrap ((-d) * p) = m := by rw [hm]; exact IntWalk.i64_in _ (by omega)
  rw [hm] at HF
  clear hb hm
  go_enter Try.func40, Try.ntmps40
  go_wp2_with (go_at_call 31; refine (HF.out _).mono ?_; rintro e w' ⟨rfl, rfl⟩)
  go_ret
  exact ⟨rfl, rfl⟩
end Go.Proofs.Ytelpjmmkaakceaa
