/- The reference of the layer clock: Right, Floor, At, Local: what they compute. -/
import Derived.Test.YtphinhebnekmlaaClock4
import Derived.BigQuiet
import Derived.Deep.QuietTactic
namespace Go.Proofs.Ytphinhebnekmlaa
open Go.RowKit Go.Shelf

theorem floor_of (a b : Int) (hb : 0 < b) : a / b = if a.tmod b < 0 then a.tdiv b - 1 else a.tdiv b := by
  have e := Int.mul_tdiv_add_tmod a b
  rw [Int.mul_comm] at e
  rcases Int.lt_or_le a 0 with h | h
  · have m1 : -b < a.tmod b := by
      have := Int.tmod_lt_of_pos (-a) hb
      rw [Int.neg_tmod] at this; omega
    have m2 : a.tmod b ≤ 0 := by
      have := Int.tmod_nonneg b (show 0 ≤ -a by omega)
      rw [Int.neg_tmod] at this; omega
    split
    · exact ediv_eq hb (by rw [Int.sub_mul, Int.one_mul]; omega) (by rw [show a.tdiv b - 1 + 1 = a.tdiv b by omega]; omega)
    · exact ediv_eq hb (by omega) (by rw [Int.add_mul, Int.one_mul]; omega)
  · have m1 := Int.tmod_nonneg b h
    have m2 := Int.tmod_lt_of_pos a hb
    rw [if_neg (by omega)]
    exact ediv_eq hb (by omega) (by rw [Int.add_mul, Int.one_mul]; omega)
theorem tdiv_bd {a b : Int} (h0 : -4611686018427387904 ≤ a) (h1 : a ≤ 4611686018427387904) : -4611686018427387904 ≤ a.tdiv b ∧ a.tdiv b ≤ 4611686018427387904 := by
  have h := Int.natAbs_tdiv a b
  have := Nat.div_le_self a.natAbs b.natAbs
  have e : (a.tdiv b).natAbs = a.natAbs / b.natAbs := h
  omega
set_option maxHeartbeats 400000 in
theorem floor_any (a b : Int) (w : World) (hb : 0 < b) (h0 : -4611686018427387904 ≤ a) (h1 : a ≤ 4611686018427387904) (hb1 : b ≤ 4611686018427387904) :
    Calls Try.prog 37 #[.int .i64 a, .int .i64 b] w fun e w' => e = .returned (.int .i64 (a / b)) ∧ w' = w := by
  have F := floor_of a b hb
  have T := tdiv_bd (b := b) h0 h1
  have hbz : (b == 0) = false := by rw [beq_eq_false_iff_ne]; omega
  have hmod : a.tmod b = a % b ∨ a < 0 := by
    rcases Int.lt_or_le a 0 with h | h
    · exact Or.inr h
    · exact Or.inl (Int.tmod_eq_emod_of_nonneg h)
  rcases Int.lt_or_le a 0 with h | h
  · clear hmod
    by_cases hm : a.tmod b < 0
    · rw [if_pos hm] at F
      have HF := Lib.hid F
      clear F
      go_enter Try.func37, Try.ntmps37
      go_wp2
      go_ret
      exact ⟨ret_int HF.out.symm, rfl⟩
    · rw [if_neg hm] at F
      have HF := Lib.hid F
      clear F
      go_enter Try.func37, Try.ntmps37
      go_wp2
      go_ret
      exact ⟨ret_int HF.out.symm, rfl⟩
  · have hm : ¬ a.tmod b < 0 := by have := Int.tmod_nonneg b h; omega
    have hm2 := Int.emod_nonneg a (show b ≠ 0 by omega)
    have hm3 := Int.emod_lt_of_pos a hb
    clear F hmod T
    go_enter Try.func37, Try.ntmps37
    go_wp2
    go_ret
    exact ⟨rfl, rfl⟩
set_option maxHeartbeats 400000 in
theorem refAt_any (o p t : Int) (w : World) (h : okC o p = true) (h0 : -4398046511104 ≤ t) (h1 : t ≤ 4398046511104) :
    Calls Try.prog 27 #[.agg #[.int .i64 o, .int .i64 p], .int .i64 t] w fun e w' => e = .returned (.int .i64 (atC o p t)) ∧ Below w.heap.size w w' := by
  obtain ⟨q1, q2, _⟩ := atC_bd h h0 h1
  have HA : Hid (t + o + t * p / 1000000000 = atC o p t) := Lib.hid rfl
  rw [okC_iff] at h
  obtain ⟨h2, h3⟩ := h
  have hb := mul_bd (A := 4398046511104) (B := 200000) (a := t) (b := p) (by omega) h1 (by omega) (by omega)
  have e1 : IntKind.i64.wrap (t * p) = t * p := IntWalk.i64_in _ (by omega)
  have HF := Lib.hid fun w => floor_any (t * p) 1000000000 w (by omega) (by omega) (by omega) (by omega)
  obtain ⟨q, hq⟩ : ∃ q, t * p / 1000000000 = q := ⟨_, rfl⟩
  rw [hq] at q1 q2 HA HF
  obtain ⟨m, hm⟩ : ∃ m, t * p = m := ⟨_, rfl⟩
  rw [hm] at e1 HF
  have e2 : IntKind.i64.wrap (t + o) = t + o := IntWalk.i64_in _ (by omega)
  have e3 : IntKind.i64.wrap (t + o + q) = t + o + q := IntWalk.i64_in _ (by omega)
  clear hq hb
  go_enter Try.func27, Try.ntmps27
  go_wp2_with fail
  go_quiet ((go_at_call 37; exact Calls.quiet_of_same (HF.out _)))
  go_wp2
  go_ret
  exact ⟨ret_int HA.out, ((Below.refl _ _).alloc (Nat.le_refl _) _).trans (below_drewN _ _ _)⟩
set_option maxHeartbeats 400000 in
theorem refRight_any (o p : Int) (w : World) :
    Calls Try.prog 14 #[.agg #[.int .i64 o, .int .i64 p]] w fun e w' => e = .returned (.bool (okC o p)) ∧ Below w.heap.size w w' := by
  have HB : Below w.heap.size w (w.alloc (.cells #[.int .i64 o, .int .i64 p] 23)) := (Below.refl _ _).alloc (Nat.le_refl _) _
  by_cases h1 : -1099511627776 ≤ o
  · by_cases h2 : o ≤ 1099511627776
    · by_cases h3 : -200000 ≤ p
      · by_cases h4 : p ≤ 200000
        · have H : Hid (okC o p = true) := Lib.hid ((okC_iff o p).2 (by omega))
          go_enter Try.func14, Try.ntmps14
          go_wp2
          go_ret
          exact ⟨ret_bool H.out.symm, HB⟩
        · have H : Hid (okC o p = false) := Lib.hid (by cases e : okC o p; rfl; rw [okC_iff] at e; omega)
          go_enter Try.func14, Try.ntmps14
          go_wp2
          go_ret
          exact ⟨ret_bool H.out.symm, HB⟩
      · have H : Hid (okC o p = false) := Lib.hid (by cases e : okC o p; rfl; rw [okC_iff] at e; omega)
        go_enter Try.func14, Try.ntmps14
        go_wp2
        go_ret
        exact ⟨ret_bool H.out.symm, HB⟩
    · have H : Hid (okC o p = false) := Lib.hid (by cases e : okC o p; rfl; rw [okC_iff] at e; omega)
      go_enter Try.func14, Try.ntmps14
      go_wp2
      go_ret
      exact ⟨ret_bool H.out.symm, HB⟩
  · have H : Hid (okC o p = false) := Lib.hid (by cases e : okC o p; rfl; rw [okC_iff] at e; omega)
    go_enter Try.func14, Try.ntmps14
    go_wp2
    go_ret
    exact ⟨ret_bool H.out.symm, HB⟩
set_option maxHeartbeats 400000 in
theorem refLocal_any (o p t : Int) (w : World) :
    Calls Try.prog 13 #[.agg #[.int .i64 o, .int .i64 p], .int .i64 t] w fun e w' => e = .returned (.tuple #[.int .i64 (locV o p t), .int .i64 (locE o p t)]) ∧ Below w.heap.size w w' := by
  cases h : okC o p
  · have HL := Lib.hid (loc_bad (t := t) h)
    have HK := Lib.hid h
    clear h
    go_enter Try.func13, Try.ntmps13
    go_wp2_with (go_at_call 14; refine (refRight_any _ _ _).mono ?_; rintro e w' ⟨rfl, hb⟩; rw [HK.out]; obtain ⟨hcl, hfr⟩ := bcell hb)
    go_ret2
    exact ⟨ret_int2 HL.out.1.symm HL.out.2.symm, ((Below.refl _ _).alloc (Nat.le_refl _) _).trans (hb.mono (by simp <;> omega))⟩
  · have HK := Lib.hid h
    cases h2 : inT t
    · have HL := Lib.hid (loc_out h h2)
      have hn : ¬ (0 ≤ t ∧ t ≤ 1099511627776) := fun k => by rw [← inT_iff, h2] at k; cases k
      clear h h2
      by_cases h3 : t < 0
      · clear hn
        go_enter Try.func13, Try.ntmps13
        go_wp2_with (go_at_call 14; refine (refRight_any _ _ _).mono ?_; rintro e w' ⟨rfl, hb⟩; rw [HK.out]; obtain ⟨hcl, hfr⟩ := bcell hb)
        go_ret2
        exact ⟨ret_int2 HL.out.1.symm HL.out.2.symm, ((Below.refl _ _).alloc (Nat.le_refl _) _).trans (hb.mono (by simp <;> omega))⟩
      · have h4 : 1099511627776 < t := by omega
        clear hn
        go_enter Try.func13, Try.ntmps13
        go_wp2_with (go_at_call 14; refine (refRight_any _ _ _).mono ?_; rintro e w' ⟨rfl, hb⟩; rw [HK.out]; obtain ⟨hcl, hfr⟩ := bcell hb)
        go_ret2
        exact ⟨ret_int2 HL.out.1.symm HL.out.2.symm, ((Below.refl _ _).alloc (Nat.le_refl _) _).trans (hb.mono (by simp <;> omega))⟩
    · have HL := Lib.hid (loc_ok h h2)
      rw [inT_iff] at h2
      obtain ⟨h3, h4⟩ := h2
      have HA := Lib.hid fun w => refAt_any o p t w h (by omega) (by omega)
      clear h
      go_enter Try.func13, Try.ntmps13
      go_wp2_with (first
        | (go_at_call 14; refine (refRight_any _ _ _).mono ?_; rintro e w' ⟨rfl, hb⟩; rw [HK.out]; obtain ⟨hcl, hfr⟩ := bcell hb)
        | (go_at_call 27; refine (HA.out _).mono ?_; rintro e w2 ⟨rfl, hb2⟩))
      go_ret2
      exact ⟨ret_int2 HL.out.1.symm HL.out.2.symm, (((Below.refl _ _).alloc (Nat.le_refl _) _).trans (hb.mono (by simp <;> omega))).trans (hb2.mono (by have := hb.size; simp at this; omega))⟩
end Go.Proofs.Ytphinhebnekmlaa
