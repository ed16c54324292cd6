/- The reference of the layer servo: what its functions compute. -/
import Derived.Test.YtkbepdhggfijbaaServo3
import Derived.Test.YtkbepdhggfijbaaFloor
namespace Go.Proofs.Ytkbepdhggfijbaa
open Go.RowKit Go.Shelf

set_option maxHeartbeats 400000 in
theorem rstamp_any (n : Int) (w : World) :
    Calls Try.prog 28 #[.int .i64 n] w fun e w' => e = .returned (.bool (stamp n)) ∧ w' = w := by
  by_cases h1 : -4398046511104 ≤ n
  · by_cases h2 : n ≤ 4398046511104
    · have H : Hid (stamp n = true) := Lib.hid ((stamp_iff n).2 ⟨h1, h2⟩)
      go_enter Try.func28, Try.ntmps28
      go_wp2
      go_ret
      exact ⟨ret_bool H.out.symm, rfl⟩
    · have H : Hid (stamp n = false) := Lib.hid (by cases q : stamp n; rfl; rw [stamp_iff] at q; omega)
      go_enter Try.func28, Try.ntmps28
      go_wp2
      go_ret
      exact ⟨ret_bool H.out.symm, rfl⟩
  · have H : Hid (stamp n = false) := Lib.hid (by cases q : stamp n; rfl; rw [stamp_iff] at q; omega)
    go_enter Try.func28, Try.ntmps28
    go_wp2
    go_ret
    exact ⟨ret_bool H.out.symm, rfl⟩
set_option maxHeartbeats 400000 in
theorem rright_any (l m p : Int) (w : World) :
    Calls Try.prog 16 #[.agg #[.int .i64 l, .int .i64 m, .int .i64 p]] w fun e w' => e = .returned (.bool (okS l m p)) ∧ Below w.heap.size w w' := by
  have HB : Below w.heap.size w (w.alloc (.cells #[.int .i64 l, .int .i64 m, .int .i64 p] 23)) := (Below.refl _ _).alloc (Nat.le_refl _) _
  have Hl := Lib.hid fun w => rstamp_any l w
  have Hm := Lib.hid fun w => rstamp_any m w
  cases h1 : stamp l
  · rw [h1] at Hl
    have H : Hid (okS l m p = false) := Lib.hid (by unfold okS; rw [h1]; rfl)
    clear h1
    go_enter Try.func16, Try.ntmps16
    go_wp2_with fail
    refine (Hl.out _).mono ?_
    rintro e w1 ⟨rfl, rfl⟩
    go_wp2
    go_ret
    exact ⟨ret_bool (by first | exact H.out.symm | exact C2.out.trans H.out.symm), HB⟩
  · rw [h1] at Hl
    cases h2 : stamp m
    · rw [h2] at Hm
      have H : Hid (okS l m p = false) := Lib.hid (by unfold okS; rw [h1, h2]; rfl)
      clear h1 h2
      go_enter Try.func16, Try.ntmps16
      go_wp2_with fail
      refine (Hl.out _).mono ?_
      rintro e w1 ⟨rfl, rfl⟩
      go_wp2_with fail
      refine (Hm.out _).mono ?_
      rintro e w1 ⟨rfl, rfl⟩
      go_wp2
      go_ret
      exact ⟨ret_bool (by first | exact H.out.symm | exact C2.out.trans H.out.symm), HB⟩
    · rw [h2] at Hm
      have H0 : okS l m p = ratio p := by unfold okS; rw [h1, h2]; rfl
      by_cases c1 : -8388608 ≤ p
      · by_cases c2 : p ≤ 8388608
        · have H : Hid (okS l m p = true) := Lib.hid (H0.trans ((ratio_iff p).2 ⟨c1, c2⟩))
          have C2 := Lib.hid (decide_eq_true c2)
          clear h1 h2 H0
          go_enter Try.func16, Try.ntmps16
          go_wp2_with fail
          refine (Hl.out _).mono ?_
          rintro e w1 ⟨rfl, rfl⟩
          go_wp2_with fail
          refine (Hm.out _).mono ?_
          rintro e w1 ⟨rfl, rfl⟩
          go_wp2
          go_ret
          exact ⟨ret_bool (by first | exact H.out.symm | exact C2.out.trans H.out.symm), HB⟩
        · have H : Hid (okS l m p = false) := Lib.hid (H0.trans (by cases q : ratio p; rfl; rw [ratio_iff] at q; omega))
          have C2 := Lib.hid (decide_eq_false c2)
          clear h1 h2 H0
          go_enter Try.func16, Try.ntmps16
          go_wp2_with fail
          refine (Hl.out _).mono ?_
          rintro e w1 ⟨rfl, rfl⟩
          go_wp2_with fail
          refine (Hm.out _).mono ?_
          rintro e w1 ⟨rfl, rfl⟩
          go_wp2
          go_ret
          exact ⟨ret_bool (by first | exact H.out.symm | exact C2.out.trans H.out.symm), HB⟩
      · have H : Hid (okS l m p = false) := Lib.hid (H0.trans (by cases q : ratio p; rfl; rw [ratio_iff] at q; omega))
        clear h1 h2 H0
        go_enter Try.func16, Try.ntmps16
        go_wp2_with fail
        refine (Hl.out _).mono ?_
        rintro e w1 ⟨rfl, rfl⟩
        go_wp2_with fail
        refine (Hm.out _).mono ?_
        rintro e w1 ⟨rfl, rfl⟩
        go_wp2
        go_ret
        exact ⟨ret_bool (by first | exact H.out.symm | exact C2.out.trans H.out.symm), HB⟩
theorem rright_no {L M p : Int} (h : okS L M p = false) (w : World) : Calls Try.prog 16 #[.agg #[.int .i64 L, .int .i64 M, .int .i64 p]] w fun e w' => e = .returned (.bool false) ∧ Below w.heap.size w w' := by
  have := rright_any L M p w
  rwa [h] at this
theorem rright_ok {L M p : Int} (h : okS L M p = true) (w : World) : Calls Try.prog 16 #[.agg #[.int .i64 L, .int .i64 M, .int .i64 p]] w fun e w' => e = .returned (.bool true) ∧ Below w.heap.size w w' := by
  have := rright_any L M p w
  rwa [h] at this
/-- Part, in parts: the whole seconds, and the rest. -/
theorem part_of (x p : Int) : x / 1000000000 * p + (x - x / 1000000000 * 1000000000) * p / 1000000000 = x * p / 1000000000 := by
  have e : x * p = (x - x / 1000000000 * 1000000000) * p + x / 1000000000 * p * 1000000000 := by
    rw [Int.sub_mul, Int.mul_assoc (x / 1000000000), Int.mul_comm 1000000000 p, ← Int.mul_assoc]; omega
  rw [e, Int.add_mul_ediv_right _ _ (by omega)]
  omega
set_option maxHeartbeats 400000 in
theorem part_any (x p : Int) (w : World) (h1 : -17592186044416 ≤ x) (h2 : x ≤ 17592186044416) (h3 : -16777216 ≤ p) (h4 : p ≤ 16777216) :
    Calls Try.prog 33 #[.int .i64 x, .int .i64 p] w fun e w' => e = .returned (.int .i64 (x * p / 1000000000)) ∧ w' = w := by
  have hP := part_of x p
  have HF1 := Lib.hid fun w => floor_any x 1000000000 w (by omega) (by omega) (by omega) (by omega)
  have hq : -17593 ≤ x / 1000000000 ∧ x / 1000000000 ≤ 17593 := by omega
  have hr : 0 ≤ x - x / 1000000000 * 1000000000 ∧ x - x / 1000000000 * 1000000000 ≤ 999999999 := by omega
  have hb1 := mul_bdS (A := 17593) (B := 16777216) (a := x / 1000000000) (b := p) (by omega) (by omega) h3 h4
  have hb2 := mul_bdS (A := 999999999) (B := 16777216) (a := x - x / 1000000000 * 1000000000) (b := p) (by omega) (by omega) h3 h4
  have HF2 := Lib.hid fun w => floor_any ((x - x / 1000000000 * 1000000000) * p) 1000000000 w (by omega) (by omega) (by omega) (by omega)
  generalize x / 1000000000 = q at *
  obtain ⟨r, hr'⟩ : ∃ r, x - q * 1000000000 = r := ⟨_, rfl⟩
  rw [hr'] at hP HF2 hr hb2
  obtain ⟨a, ha⟩ : ∃ a, q * p = a := ⟨_, rfl⟩
  obtain ⟨b, hb⟩ : ∃ b, r * p = b := ⟨_, rfl⟩
  have e1 : IntKind.i64.wrap (q * p) = a := by rw [ha]; exact IntWalk.i64_in _ (by omega)
  have e2 : IntKind.i64.wrap (r * p) = b := by rw [hb]; exact IntWalk.i64_in _ (by omega)
  rw [ha, hb] at hP
  rw [hb] at HF2
  have hb3 : -16777216 ≤ b / 1000000000 ∧ b / 1000000000 ≤ 16777216 := by omega
  generalize b / 1000000000 = c at *
  have HP := Lib.hid hP
  have ha1 : -295161692160 ≤ a := by omega
  have ha2 : a ≤ 295161692160 := by omega
  clear hP hb1 hb2 ha hb
  go_enter Try.func33, Try.ntmps33
  go_wp2_with fail
  refine (HF1.out _).mono ?_
  rintro e w1 ⟨rfl, rfl⟩
  go_wp2_with fail
  refine (HF2.out _).mono ?_
  rintro e w1 ⟨rfl, rfl⟩
  go_wp2
  go_ret
  exact ⟨ret_int HP.out, rfl⟩
set_option maxHeartbeats 400000 in
theorem rat_any (L M p l : Int) (w : World) (h : okS L M p = true) (h0 : -4398046511104 ≤ l) (h1 : l ≤ 4398046511104) :
    Calls Try.prog 29 #[.agg #[.int .i64 L, .int .i64 M, .int .i64 p], .int .i64 l] w fun e w' => e = .returned (.int .i64 (atS L M p l)) ∧ Below w.heap.size w w' := by
  rw [okS_iff] at h
  obtain ⟨g1, g2, g3⟩ := h
  obtain ⟨q1, q2, hm⟩ := part_bd (x := l - L) (p := p) (by omega) (by omega) (by omega) (by omega)
  have HA : Hid (M + l - L + (l - L) * p / 1000000000 = atS L M p l) := Lib.hid (by unfold atS; omega)
  have HP := Lib.hid fun w => part_any (l - L) p w (by omega) (by omega) (by omega) (by omega)
  obtain ⟨q, hq⟩ : ∃ q, (l - L) * p / 1000000000 = q := ⟨_, rfl⟩
  rw [hq] at q1 q2 HA HP
  have e1 : IntKind.i64.wrap (M + l) = M + l := IntWalk.i64_in _ (by omega)
  have e2 : IntKind.i64.wrap (M + l - L) = M + l - L := IntWalk.i64_in _ (by omega)
  have e3 : IntKind.i64.wrap (l - L) = l - L := IntWalk.i64_in _ (by omega)
  have e4 : IntKind.i64.wrap (M + l - L + q) = M + l - L + q := IntWalk.i64_in _ (by omega)
  clear hm hq
  go_enter Try.func29, Try.ntmps29
  go_wp2_with fail
  go_quiet ((go_at_call 33; exact Calls.quiet_of_same (HP.out _)))
  go_wp2
  go_ret
  exact ⟨ret_int HA.out, ((Below.refl _ _).alloc (Nat.le_refl _) _).trans (below_drewN _ _ _)⟩
end Go.Proofs.Ytkbepdhggfijbaa
