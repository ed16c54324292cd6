/- The package pass: Set: what it computes. -/
import Derived.Test.YtgdagfiebaebbaaPass7
namespace Go.Proofs.Ytgdagfiebaebbaa
open Go.RowKit

/-- What changed gives of a servo: the servo and the error. -/
def schV (o c p l : Int) : Res := if okI o c p = false then ⟨0, 0, 0, 240⟩ else if lmsOk [sL l] = false then ⟨0, 0, 0, 2⟩ else ⟨l, o + c, p, 0⟩
def setV (o c p l : Int) : Res := if (schV o c p l).e = 0 ∧ ¬ chkS (schV o c p l).o (schV o c p l).c (schV o c p l).p = 0 then ⟨0, 0, 0, 6⟩ else schV o c p l
set_option maxRecDepth 100000 in
set_option maxHeartbeats 4000000 in
theorem pset_any (o c p x : Int) (w : World) :
    Calls Try.prog 19 #[.agg #[.int .i64 o, .int .i64 c, .int .i64 p], .int .i64 x] w fun e w' => e = .returned (.tuple #[(setV o c p x).info, .int .i64 (setV o c p x).e]) ∧ Below w.heap.size w w' := by
  obtain ⟨k, hk⟩ : ∃ k, lmsOk [sL x] = k := ⟨_, rfl⟩
  have KW := Lib.hid fun s w (h : LmsAt w s [sL x]) => (show Calls Try.prog 33 #[.slice (some ⟨s, 0, none⟩) 1 1] w fun e w' => e = .returned (.bool k) ∧ Below w.heap.size w w' by
    have := pwithin_any s 1 _ w rfl (by omega) (Lib.hid h)
    rw [hk] at this
    exact this)
  unfold setV
  obtain ⟨⟨A, B, C, E⟩, hV⟩ : ∃ V, schV o c p x = V := ⟨_, rfl⟩
  obtain ⟨I, J, K2, KC⟩ : ∃ I J K2 : Int, Hid (∀ wx : World, wx.cell? ⟨w.heap.size + 1, 0, none⟩ = some (.int .i64 x) → w.heap.size + 1 < wx.heap.size →
    Calls Try.prog 43 #[.agg #[.int .i64 o, .int .i64 c, .int .i64 p], .bool k, .func (.func 44) #[] #[.pointer (some ⟨w.heap.size + 1, 0, none⟩)]] wx fun e w' => e = .returned (.tuple #[.agg #[.int .i64 A, .int .i64 B, .int .i64 C], .agg #[.int .i64 I, .int .i64 J, .int .i64 K2], .int .i64 E]) ∧ Below wx.heap.size wx w') := by
    unfold schV at hV
    cases h : okI o c p
    · simp only [h, if_true] at hV
      cases hV
      exact ⟨0, 0, 0, Lib.hid fun wx _ _ => schanged_bad h k _ wx⟩
    · rw [hk] at hV
      cases k
      · simp only [h, if_true, Bool.true_eq_false, if_false] at hV
        cases hV
        exact ⟨0, 0, 0, Lib.hid fun wx _ _ => schanged_arg h _ wx⟩
      · simp only [h, Bool.true_eq_false, if_false] at hV
        cases hV
        refine ⟨o, c, p, Lib.hid fun wx h1 hz => schanged_same h 44 #[.pointer (some ⟨w.heap.size + 1, 0, none⟩)] wx (fun _ _ => by kernel_rfl) (fun W b hB hb hI => ?_)⟩
        obtain ⟨i1, i2, i3⟩ := (okI_iff _ _ _).1 h
        exact set1_any b (w.heap.size + 1) o c p x W hI ((hB.cell (p := ⟨w.heap.size + 1, 0, none⟩) (by show w.heap.size + 1 < wx.heap.size; omega)).trans h1) i1 i2
  rw [hV]
  have KS := Lib.hid fun w => scheck_any A B C w
  generalize chkS A B C = H at *
  obtain ⟨⟨RO, RC, RP, RE⟩, hR⟩ : ∃ R : Res, (if E = 0 ∧ ¬ H = 0 then (⟨0, 0, 0, 6⟩ : Res) else ⟨A, B, C, E⟩) = R := ⟨_, rfl⟩
  dsimp only
  rw [hR]
  have HR := Lib.hid hR
  unfold Res.info
  dsimp only
  clear hk hV hR
  go_enter Try.func19, Try.ntmps19
  go_wp2_with fail
  refine wp_gen ?_
  rintro w1 hg1
  have hz1_0 : w.heap.size < w1.heap.size := by rw [hg1]; simp <;> omega
  have s1_0_0 : w1.cell? ⟨w.heap.size, 0, none⟩ = some (.int .i64 o) := by rw [hg1]; go_simp
  have s1_0_1 : w1.cell? ⟨w.heap.size, 1, none⟩ = some (.int .i64 c) := by rw [hg1]; go_simp
  have s1_0_2 : w1.cell? ⟨w.heap.size, 2, none⟩ = some (.int .i64 p) := by rw [hg1]; go_simp
  have hz1_1 : w.heap.size + 1 < w1.heap.size := by rw [hg1]; simp <;> omega
  have s1_1_0 : w1.cell? ⟨w.heap.size + 1, 0, none⟩ = some (.int .i64 x) := by rw [hg1]; go_simp
  have hz1_2 : w.heap.size + 2 < w1.heap.size := by rw [hg1]; simp <;> omega
  have s1_2_0 : w1.cell? ⟨w.heap.size + 2, 0, none⟩ = some (.int .i64 0) := by rw [hg1]; go_simp
  have s1_2_1 : w1.cell? ⟨w.heap.size + 2, 1, none⟩ = some (.int .i64 0) := by rw [hg1]; go_simp
  have s1_2_2 : w1.cell? ⟨w.heap.size + 2, 2, none⟩ = some (.int .i64 0) := by rw [hg1]; go_simp
  have z1_2_0 : w1.frozen? ⟨w.heap.size + 2, 0, none⟩ = false := by rw [hg1]; go_simp
  have z1_2_1 : w1.frozen? ⟨w.heap.size + 2, 1, none⟩ = false := by rw [hg1]; go_simp
  have z1_2_2 : w1.frozen? ⟨w.heap.size + 2, 2, none⟩ = false := by rw [hg1]; go_simp
  have H1 : Below w.heap.size w w1 := by rw [hg1]; exact ((((Below.refl _ _).alloc (Nat.le_refl _) _).alloc (by simp <;> omega) _).alloc (by simp <;> omega) _)
  clear hg1
  refine wp_region_gput (R := Nat × Nat × Nat) [10, 11, 12, 13, 14, 15, 16, 9, 17, 18, 19, 6, 7, 8]
    (fun rr => [.agg #[.int .i64 o, .int .i64 c, .int .i64 p], .int .i64 x, .agg #[.int .i64 x, .int .i64 (-4398046511104), .int .i64 4398046511104], .slice (some ⟨rr.1, 0, none⟩) 1 1, .bool k, .func (.func 44) #[] #[.pointer (some ⟨w.heap.size + 1, 0, none⟩)], .tuple #[.agg #[.int .i64 A, .int .i64 B, .int .i64 C], .agg #[.int .i64 I, .int .i64 J, .int .i64 K2], .int .i64 E], .tuple #[.agg #[.int .i64 A, .int .i64 B, .int .i64 C], .agg #[.int .i64 I, .int .i64 J, .int .i64 K2], .int .i64 E], .agg #[.int .i64 A, .int .i64 B, .int .i64 C], .agg #[.int .i64 I, .int .i64 J, .int .i64 K2], .int .i64 E, .pointer (some ⟨rr.2.1, 0, none⟩), .pointer (some ⟨rr.2.2, 0, none⟩), .int .i64 E])
    (fun L rr wx => Below w1.heap.size w1 wx ∧ (L 3 = true → LmsAt wx rr.1 [sL x]) ∧ OwnC w1.heap.size rr.2.1 (L 11) (L 13) [.int .i64 0, .int .i64 0, .int .i64 0] [.int .i64 A, .int .i64 B, .int .i64 C] wx ∧ OwnC w1.heap.size rr.2.2 (L 12) (L 14) [.int .i64 0, .int .i64 0, .int .i64 0] [.int .i64 I, .int .i64 J, .int .i64 K2] wx ∧ (L 11 = true → L 12 = true → rr.2.1 ≠ rr.2.2) ∧ (L 3 = true → L 11 = true → rr.1 ≠ rr.2.1) ∧ (L 3 = true → L 12 = true → rr.1 ≠ rr.2.2))
    (by kernel_rfl) (by kernel_rfl) (by kernel_rfl) (0, 0, 0) ?_ ?_ ?_
  · exact ⟨(Below.refl _ _).drew, fun h => absurd h (by decide), OwnC.start _ _ _ _ _, OwnC.start _ _ _ _ _, fun h => absurd h (by decide), fun h => absurd h (by decide), fun h => absurd h (by decide)⟩
  · simp only [putAll, Act.put, List.setIfInBounds_toArray, List.set_cons_succ, List.set_cons_zero]
    refine ⟨?_, ?_, ?_, ?_, ?_, ?_, ?_, ?_, ?_, ?_, ?_, ?_, ?_, ?_, ?_, ?_, trivial⟩
    all_goals
      rintro L ⟨s, ps, pj⟩ wx K hLi hdep ⟨hB, h3, O11, O12, b11_12, e3_11, e3_12⟩ hK
      try dsimp only at h3 O11 O12 b11_12 e3_11 e3_12
      have hBs := hB.size
      have f0 := (hB.cell (p := ⟨w.heap.size, 0, none⟩) hz1_0).trans s1_0_0
      have f1 := (hB.cell (p := ⟨w.heap.size, 1, none⟩) hz1_0).trans s1_0_1
      have f2 := (hB.cell (p := ⟨w.heap.size, 2, none⟩) hz1_0).trans s1_0_2
      have f3 := (hB.cell (p := ⟨w.heap.size + 1, 0, none⟩) hz1_1).trans s1_1_0
      have f4 := (hB.cell (p := ⟨w.heap.size + 2, 0, none⟩) hz1_2).trans s1_2_0
      have f5 := (hB.cell (p := ⟨w.heap.size + 2, 1, none⟩) hz1_2).trans s1_2_1
      have f6 := (hB.cell (p := ⟨w.heap.size + 2, 2, none⟩) hz1_2).trans s1_2_2
    · refine .inl ⟨by rfl, ?_⟩
      go_simp
      exact hK (s, ps, pj) wx ⟨hB, by simpa using h3, by simpa using O11, by simpa using O12, by simpa using b11_12, by simpa using e3_11, by simpa using e3_12⟩
    · refine .inl ⟨by rfl, ?_⟩
      go_simp
      exact hK (s, ps, pj) wx ⟨hB, by simpa using h3, by simpa using O11, by simpa using O12, by simpa using b11_12, by simpa using e3_11, by simpa using e3_12⟩
    · refine .inl ⟨by rfl, ?_⟩
      go_simp
      refine (pstamp_any x wx).mono ?_
      rintro e w' ⟨rfl, hb⟩
      exact hK (s, ps, pj) w' ⟨(hB.trans (hb.mono hBs)), fun h => ((h3 (by simpa using h))).below hb, by simpa using O11.below hb, by simpa using O12.below hb, by simpa using b11_12, by simpa using e3_11, by simpa using e3_12⟩
    · refine .inl ⟨by rfl, ?_⟩
      go_simp
      have hbA := fun o => (Below.refl wx.heap.size wx).alloc (Nat.le_refl _) o
      exact hK (wx.heap.size, ps, pj) _ ⟨(hB.alloc hBs _), fun _ => lms_one wx _ (sL x), by simpa using O11.below (hbA _), by simpa using O12.below (hbA _), by simpa using b11_12, fun _ h => Nat.ne_of_gt (O11.2 (by simpa using h)).2.1, fun _ h => Nat.ne_of_gt (O12.2 (by simpa using h)).2.1⟩
    · have p3 := h3 (hdep ⟨3, .data⟩ (by simp) rfl)
      refine .inl ⟨by rfl, ?_⟩
      go_simp
      refine (KW.out s wx p3).mono ?_
      rintro e w' ⟨rfl, hb⟩
      exact hK (s, ps, pj) w' ⟨(hB.trans (hb.mono hBs)), fun h => ((h3 (by simpa using h))).below hb, by simpa using O11.below hb, by simpa using O12.below hb, by simpa using b11_12, by simpa using e3_11, by simpa using e3_12⟩
    · refine .inl ⟨by rfl, ?_⟩
      go_simp
      exact hK (s, ps, pj) wx ⟨hB, by simpa using h3, by simpa using O11, by simpa using O12, by simpa using b11_12, by simpa using e3_11, by simpa using e3_12⟩
    · refine .inl ⟨by rfl, ?_⟩
      go_simp
      refine (KC.out wx f3 (Nat.lt_of_lt_of_le hz1_1 hBs)).mono ?_
      rintro e w' ⟨rfl, hb⟩
      exact hK (s, ps, pj) w' ⟨(hB.trans (hb.mono hBs)), fun h => ((h3 (by simpa using h))).below hb, by simpa using O11.below hb, by simpa using O12.below hb, by simpa using b11_12, by simpa using e3_11, by simpa using e3_12⟩
    · refine .inl ⟨by rfl, ?_⟩
      go_simp
      exact hK (s, ps, pj) wx ⟨hB, by simpa using h3, by simpa using O11, by simpa using O12, by simpa using b11_12, by simpa using e3_11, by simpa using e3_12⟩
    · refine .inl ⟨by rfl, ?_⟩
      go_simp
      exact hK (s, ps, pj) wx ⟨hB, by simpa using h3, by simpa using O11, by simpa using O12, by simpa using b11_12, by simpa using e3_11, by simpa using e3_12⟩
    · refine .inl ⟨by rfl, ?_⟩
      go_simp
      exact hK (s, ps, pj) wx ⟨hB, by simpa using h3, by simpa using O11, by simpa using O12, by simpa using b11_12, by simpa using e3_11, by simpa using e3_12⟩
    · refine .inl ⟨by rfl, ?_⟩
      go_simp
      exact hK (s, ps, pj) wx ⟨hB, by simpa using h3, by simpa using O11, by simpa using O12, by simpa using b11_12, by simpa using e3_11, by simpa using e3_12⟩
    · refine .inl ⟨by rfl, ?_⟩
      go_simp
      have hbA := fun o => (Below.refl wx.heap.size wx).alloc (Nat.le_refl _) o
      have hF : L 13 = false := by
        cases h : L 13
        · rfl
        · rw [O11.1 h] at hLi; cases hLi
      exact hK (s, wx.heap.size, pj) _ ⟨(hB.alloc hBs _), fun h => ((h3 (by simpa using h))).below (hbA _), by simpa [hF] using OwnC.make _ (hBs), by simpa using O12.below (hbA _), fun _ h => Nat.ne_of_gt (O12.2 (by simpa using h)).2.1, fun h _ => Nat.ne_of_lt (cell_lt (((h3 (by simpa using h))) 0 (by simp)).1), by simpa using e3_12⟩
    · refine .inl ⟨by rfl, ?_⟩
      go_simp
      have hbA := fun o => (Below.refl wx.heap.size wx).alloc (Nat.le_refl _) o
      have hF : L 14 = false := by
        cases h : L 14
        · rfl
        · rw [O12.1 h] at hLi; cases hLi
      exact hK (s, ps, wx.heap.size) _ ⟨(hB.alloc hBs _), fun h => ((h3 (by simpa using h))).below (hbA _), by simpa using O11.below (hbA _), by simpa [hF] using OwnC.make _ (hBs), fun h _ => Nat.ne_of_lt (O11.2 (by simpa using h)).2.1, by simpa using e3_11, fun h _ => Nat.ne_of_lt (cell_lt (((h3 (by simpa using h))) 0 (by simp)).1)⟩
    · have hA : L 11 = true := hdep ⟨11, .data⟩ (by simp) rfl
      have O' : OwnC w1.heap.size ps true false [.int .i64 0, .int .i64 0, .int .i64 0] [.int .i64 A, .int .i64 B, .int .i64 C] wx := by have := O11; rw [hA, hLi] at this; exact this
      have z0 := ((O'.2 rfl).2.2 0 (by simp)).1
      have y0 := ((O'.2 rfl).2.2 0 (by simp)).2
      have z1 := ((O'.2 rfl).2.2 1 (by simp)).1
      have y1 := ((O'.2 rfl).2.2 1 (by simp)).2
      have z2 := ((O'.2 rfl).2.2 2 (by simp)).1
      have y2 := ((O'.2 rfl).2.2 2 (by simp)).2
      simp only [Bool.false_eq_true, if_false, List.getElem?_cons_zero, List.getElem?_cons_succ] at z0 z1 z2
      refine .inl ⟨by rfl, ?_⟩
      go_simp
      have hk := setAll_but ps [.int .i64 A, .int .i64 B, .int .i64 C] wx 0
      exact hK (s, ps, pj) (setAll wx ps 0 [.int .i64 A, .int .i64 B, .int .i64 C]) ⟨(hB.trans (setAll_below ps _ (O'.2 rfl).1 [.int .i64 A, .int .i64 B, .int .i64 C] wx 0)), fun h => ((h3 (by simpa using h))).but hk (e3_11 (by simpa using h) hA), by simpa [hA] using O'.fill rfl, by simpa using O12.but hk (fun h => (b11_12 hA h).symm), by simpa using b11_12, by simpa using e3_11, by simpa using e3_12⟩
    · have hA : L 12 = true := hdep ⟨12, .data⟩ (by simp) rfl
      have O' : OwnC w1.heap.size pj true false [.int .i64 0, .int .i64 0, .int .i64 0] [.int .i64 I, .int .i64 J, .int .i64 K2] wx := by have := O12; rw [hA, hLi] at this; exact this
      have z0 := ((O'.2 rfl).2.2 0 (by simp)).1
      have y0 := ((O'.2 rfl).2.2 0 (by simp)).2
      have z1 := ((O'.2 rfl).2.2 1 (by simp)).1
      have y1 := ((O'.2 rfl).2.2 1 (by simp)).2
      have z2 := ((O'.2 rfl).2.2 2 (by simp)).1
      have y2 := ((O'.2 rfl).2.2 2 (by simp)).2
      simp only [Bool.false_eq_true, if_false, List.getElem?_cons_zero, List.getElem?_cons_succ] at z0 z1 z2
      refine .inl ⟨by rfl, ?_⟩
      go_simp
      have hk := setAll_but pj [.int .i64 I, .int .i64 J, .int .i64 K2] wx 0
      exact hK (s, ps, pj) (setAll wx pj 0 [.int .i64 I, .int .i64 J, .int .i64 K2]) ⟨(hB.trans (setAll_below pj _ (O'.2 rfl).1 [.int .i64 I, .int .i64 J, .int .i64 K2] wx 0)), fun h => ((h3 (by simpa using h))).but hk (e3_12 (by simpa using h) hA), by simpa using O11.but hk (fun h => b11_12 h hA), by simpa [hA] using O'.fill rfl, by simpa using b11_12, by simpa using e3_11, by simpa using e3_12⟩
    · refine .inl ⟨by rfl, ?_⟩
      go_simp
      exact hK (s, ps, pj) wx ⟨hB, by simpa using h3, by simpa using O11, by simpa using O12, by simpa using b11_12, by simpa using e3_11, by simpa using e3_12⟩
  rintro ⟨s, ps, pj⟩ w2 ⟨hb2, q3, O11, O12, b11_12, e3_11, e3_12⟩
  replace b11_12 := Lib.hid (b11_12 rfl rfl)
  replace e3_11 := Lib.hid (e3_11 rfl rfl)
  replace e3_12 := Lib.hid (e3_12 rfl rfl)
  try dsimp only at b11_12 e3_11 e3_12
  replace q3 := q3 rfl
  try dsimp only at q3 O11 O12
  simp only [putAll, Act.put, List.setIfInBounds_toArray, List.set_cons_succ, List.set_cons_zero]
  have k11_0 := O11.at0 (k := 0) rfl
  have k11_1 := O11.at0 (k := 1) rfl
  have k11_2 := O11.at0 (k := 2) rfl
  have kz11 := (O11.2 rfl).2.1
  have kf11_0 := ((O11.2 rfl).2.2 0 (by simp)).2
  have kf11_1 := ((O11.2 rfl).2.2 1 (by simp)).2
  have kf11_2 := ((O11.2 rfl).2.2 2 (by simp)).2
  have kb11 := (O11.2 rfl).1
  have k12_0 := O12.at0 (k := 0) rfl
  have k12_1 := O12.at0 (k := 1) rfl
  have k12_2 := O12.at0 (k := 2) rfl
  have kz12 := (O12.2 rfl).2.1
  have kf12_0 := ((O12.2 rfl).2.2 0 (by simp)).2
  have kf12_1 := ((O12.2 rfl).2.2 1 (by simp)).2
  have kf12_2 := ((O12.2 rfl).2.2 2 (by simp)).2
  have kb12 := (O12.2 rfl).1
  have hz2_0 := Nat.lt_of_lt_of_le hz1_0 hb2.size
  have s2_0_0 := (hb2.cell (p := ⟨w.heap.size, 0, none⟩) hz1_0).trans s1_0_0
  have s2_0_1 := (hb2.cell (p := ⟨w.heap.size, 1, none⟩) hz1_0).trans s1_0_1
  have s2_0_2 := (hb2.cell (p := ⟨w.heap.size, 2, none⟩) hz1_0).trans s1_0_2
  have hz2_1 := Nat.lt_of_lt_of_le hz1_1 hb2.size
  have s2_1_0 := (hb2.cell (p := ⟨w.heap.size + 1, 0, none⟩) hz1_1).trans s1_1_0
  have hz2_2 := Nat.lt_of_lt_of_le hz1_2 hb2.size
  have s2_2_0 := (hb2.cell (p := ⟨w.heap.size + 2, 0, none⟩) hz1_2).trans s1_2_0
  have s2_2_1 := (hb2.cell (p := ⟨w.heap.size + 2, 1, none⟩) hz1_2).trans s1_2_1
  have s2_2_2 := (hb2.cell (p := ⟨w.heap.size + 2, 2, none⟩) hz1_2).trans s1_2_2
  have z2_2_0 := (hb2.frozen (p := ⟨w.heap.size + 2, 0, none⟩) hz1_2).trans z1_2_0
  have z2_2_1 := (hb2.frozen (p := ⟨w.heap.size + 2, 1, none⟩) hz1_2).trans z1_2_1
  have z2_2_2 := (hb2.frozen (p := ⟨w.heap.size + 2, 2, none⟩) hz1_2).trans z1_2_2
  have H2 := H1.trans (hb2.mono H1.size)
  clear hz1_0 s1_0_0 s1_0_1 s1_0_2 hz1_1 s1_1_0 hz1_2 s1_2_0 s1_2_1 s1_2_2 z1_2_0 z1_2_1 z1_2_2 hb2 H1
  clear O11 O12
  by_cases hE : E = 0
  · subst hE
    go_wp2_with fail
    refine (KS.out _).mono ?_
    rintro e w3 ⟨rfl, hb3⟩
    have hz3_0 := Nat.lt_of_lt_of_le hz2_0 hb3.size
    have s3_0_0 := (hb3.cell (p := ⟨w.heap.size, 0, none⟩) hz2_0).trans s2_0_0
    have s3_0_1 := (hb3.cell (p := ⟨w.heap.size, 1, none⟩) hz2_0).trans s2_0_1
    have s3_0_2 := (hb3.cell (p := ⟨w.heap.size, 2, none⟩) hz2_0).trans s2_0_2
    have hz3_1 := Nat.lt_of_lt_of_le hz2_1 hb3.size
    have s3_1_0 := (hb3.cell (p := ⟨w.heap.size + 1, 0, none⟩) hz2_1).trans s2_1_0
    have hz3_2 := Nat.lt_of_lt_of_le hz2_2 hb3.size
    have s3_2_0 := (hb3.cell (p := ⟨w.heap.size + 2, 0, none⟩) hz2_2).trans s2_2_0
    have s3_2_1 := (hb3.cell (p := ⟨w.heap.size + 2, 1, none⟩) hz2_2).trans s2_2_1
    have s3_2_2 := (hb3.cell (p := ⟨w.heap.size + 2, 2, none⟩) hz2_2).trans s2_2_2
    have z3_2_0 := (hb3.frozen (p := ⟨w.heap.size + 2, 0, none⟩) hz2_2).trans z2_2_0
    have z3_2_1 := (hb3.frozen (p := ⟨w.heap.size + 2, 1, none⟩) hz2_2).trans z2_2_1
    have z3_2_2 := (hb3.frozen (p := ⟨w.heap.size + 2, 2, none⟩) hz2_2).trans z2_2_2
    have hz3_3 := Nat.lt_of_lt_of_le kz11 hb3.size
    have s3_3_0 := (hb3.cell (p := ⟨ps, 0, none⟩) kz11).trans k11_0
    have s3_3_1 := (hb3.cell (p := ⟨ps, 1, none⟩) kz11).trans k11_1
    have s3_3_2 := (hb3.cell (p := ⟨ps, 2, none⟩) kz11).trans k11_2
    have z3_3_0 := (hb3.frozen (p := ⟨ps, 0, none⟩) kz11).trans kf11_0
    have z3_3_1 := (hb3.frozen (p := ⟨ps, 1, none⟩) kz11).trans kf11_1
    have z3_3_2 := (hb3.frozen (p := ⟨ps, 2, none⟩) kz11).trans kf11_2
    have hz3_4 := Nat.lt_of_lt_of_le kz12 hb3.size
    have s3_4_0 := (hb3.cell (p := ⟨pj, 0, none⟩) kz12).trans k12_0
    have s3_4_1 := (hb3.cell (p := ⟨pj, 1, none⟩) kz12).trans k12_1
    have s3_4_2 := (hb3.cell (p := ⟨pj, 2, none⟩) kz12).trans k12_2
    have z3_4_0 := (hb3.frozen (p := ⟨pj, 0, none⟩) kz12).trans kf12_0
    have z3_4_1 := (hb3.frozen (p := ⟨pj, 1, none⟩) kz12).trans kf12_1
    have z3_4_2 := (hb3.frozen (p := ⟨pj, 2, none⟩) kz12).trans kf12_2
    have H3 := H2.trans (hb3.mono H2.size)
    clear hz2_0 s2_0_0 s2_0_1 s2_0_2 hz2_1 s2_1_0 hz2_2 s2_2_0 s2_2_1 s2_2_2 kz11 k11_0 k11_1 k11_2 kz12 k12_0 k12_1 k12_2 z2_2_0 z2_2_1 z2_2_2 kf11_0 kf11_1 kf11_2 kf12_0 kf12_1 kf12_2 hb3 H2
    by_cases hH : H = 0
    · subst hH
      have hr := HR.out
      rw [if_neg (by simp)] at hr
      clear HR
      cases hr
      go_wp2
      refine bodyPost_ret (v := .tuple #[.agg #[.int .i64 A, .int .i64 B, .int .i64 C], .int .i64 0]) (by simp [results, Try.results19, go_sem, s3_2_0, s3_2_1, s3_2_2]) rfl ⟨rfl, ?_⟩
      exact ((H3.setCell (by simp <;> omega) _).setCell (by simp <;> omega) _).setCell (by simp <;> omega) _
    · have hr := HR.out
      rw [if_pos (by simp [hH])] at hr
      clear HR
      cases hr
      go_wp2
      refine bodyPost_ret (v := .tuple #[.agg #[.int .i64 0, .int .i64 0, .int .i64 0], .int .i64 6]) (by simp [results, Try.results19, go_sem, s3_2_0, s3_2_1, s3_2_2]) rfl ⟨rfl, ?_⟩
      exact ((H3.setCell (by simp <;> omega) _).setCell (by simp <;> omega) _).setCell (by simp <;> omega) _
  · have hr := HR.out
    rw [if_neg (fun h => hE h.1)] at hr
    clear HR
    cases hr
    go_wp2
    refine bodyPost_ret (v := .tuple #[.agg #[.int .i64 A, .int .i64 B, .int .i64 C], .int .i64 E]) (by simp [results, Try.results19, go_sem, s2_2_0, s2_2_1, s2_2_2]) rfl ⟨rfl, ?_⟩
    exact ((H2.setCell (by simp <;> omega) _).setCell (by simp <;> omega) _).setCell (by simp <;> omega) _
end Go.Proofs.Ytgdagfiebaebbaa
