/- The package pass: Arrive and Leave: what they compute. -/
import Derived.Test.YtgdagfiebaebbaaPass5
import Derived.Test.YtgdagfiebaebbaaBoxed
namespace Go.Proofs.Ytgdagfiebaebbaa
open Go.RowKit

theorem LmsAt.but {w w' : World} {p b : Nat} {l : List Lm} (h : LmsAt w b l) (hk : But p w w') (hne : b ≠ p) : LmsAt w' b l := fun k hj => by
  obtain ⟨q1, q2, q3⟩ := h k hj
  exact ⟨(hk.cell hne).trans q1, (hk.cell hne).trans q2, (hk.cell hne).trans q3⟩
theorem lms_two (w : World) (T : TypeId) (a b : Lm) : LmsAt (w.alloc (.cells #[.int .i64 a.n, .int .i64 a.lo, .int .i64 a.hi, .int .i64 b.n, .int .i64 b.lo, .int .i64 b.hi] T)) w.heap.size [a, b] := fun k hk => by
  match k, hk with
  | 0, _ => exact ⟨by go_simp <;> rfl, by go_simp <;> rfl, by go_simp <;> rfl⟩
  | 1, _ => exact ⟨by go_simp <;> rfl, by go_simp <;> rfl, by go_simp <;> rfl⟩
theorem lms_one (w : World) (T : TypeId) (a : Lm) : LmsAt (w.alloc (.cells #[.int .i64 a.n, .int .i64 a.lo, .int .i64 a.hi] T)) w.heap.size [a] := fun k hk => by
  match k, hk with
  | 0, _ => exact ⟨by go_simp <;> rfl, by go_simp <;> rfl, by go_simp <;> rfl⟩
/-- What changed gives: the information and the error. -/
structure Res where
  o : Int
  c : Int
  p : Int
  e : Int
def Res.info (r : Res) : Value := .agg #[.int .i64 r.o, .int .i64 r.c, .int .i64 r.p]
def chV (o c p : Int) (k : Bool) (c' p' : Int) : Res := if okI o c p = false then ⟨0, 0, 0, 240⟩ else if k = false then ⟨0, 0, 0, 2⟩ else if okI o c' p' = true then ⟨o, c', p', 0⟩ else ⟨0, 0, 0, 6⟩
theorem changed_any {o c p c' p' : Int} (k : Bool) (g : Nat) (cb : Array Value) (w : World)
    (eg : ∀ args w, (callFunc g args).run Try.prog w = .ok (.enter g args) w)
    (hf : okI o c p = true → k = true → ∀ W b, Below w.heap.size w W → w.heap.size ≤ b → InfoAt W b o c p → Calls Try.prog g (#[.pointer (some ⟨b, 0, none⟩)] ++ cb) W fun e w' => e = .returned (.int .i64 0) ∧ Below b W w' ∧ InfoAt w' b o c' p') :
    Calls Try.prog 32 #[.agg #[.int .i64 o, .int .i64 c, .int .i64 p], .bool k, .func (.func g) #[] cb] w fun e w' => e = .returned (.tuple #[.int .i64 0, (chV o c p k c' p').info, .int .i64 (chV o c p k c' p').e]) ∧ Below w.heap.size w w' := by
  unfold chV Res.info
  cases h : okI o c p
  · simpa using changed_bad h k (.func (.func g) #[] cb) w
  · cases k
    · simpa using changed_arg h (.func (.func g) #[] cb) w
    · by_cases hs : c' = c ∧ p' = p
      · obtain ⟨rfl, rfl⟩ := hs
        simpa [h] using changed_same h g cb w eg (hf h rfl)
      · cases h2 : okI o c' p'
        · simpa using changed_big h g cb w eg (hf h rfl) hs h2
        · simpa using changed_run h g cb w eg (hf h rfl) hs h2
def xL (n : Int) : Lm := ⟨n, 0, 1099511627776⟩
def arrV (o c p d r : Int) : Res := chV o c p (lmsOk [sL d, rL r]) (c + tickV d (p + r)) (p + r)
def leaV (o c p x : Int) : Res := chV o c p (lmsOk [xL x]) (c + tickV x p) p
set_option maxRecDepth 100000 in
set_option maxHeartbeats 4000000 in
theorem parrive_any (o c p d r : Int) (w : World) :
    Calls Try.prog 13 #[.agg #[.int .i64 o, .int .i64 c, .int .i64 p], .int .i64 d, .int .i64 r] w fun e w' => e = .returned (.tuple #[(arrV o c p d r).info, .int .i64 (arrV o c p d r).e]) ∧ Below w.heap.size w w' := by
  obtain ⟨k, hk⟩ : ∃ k, lmsOk [sL d, rL r] = k := ⟨_, rfl⟩
  have KW := Lib.hid fun s w (h : LmsAt w s [sL d, rL r]) => (show Calls Try.prog 33 #[.slice (some ⟨s, 0, none⟩) 2 2] w fun e w' => e = .returned (.bool k) ∧ Below w.heap.size w w' by
    have := pwithin_any s 2 _ w rfl (by omega) (Lib.hid h)
    rw [hk] at this
    exact this)
  obtain ⟨⟨A, B, C, E⟩, hV⟩ : ∃ V, arrV o c p d r = V := ⟨_, rfl⟩
  have KC := Lib.hid fun wx (h1 : wx.cell? ⟨w.heap.size + 1, 0, none⟩ = some (.int .i64 d)) (h2 : wx.cell? ⟨w.heap.size + 2, 0, none⟩ = some (.int .i64 r)) (hz : w.heap.size + 2 < wx.heap.size) =>
    (show Calls Try.prog 32 #[.agg #[.int .i64 o, .int .i64 c, .int .i64 p], .bool k, .func (.func 36) #[] #[.pointer (some ⟨w.heap.size + 2, 0, none⟩), .pointer (some ⟨w.heap.size + 1, 0, none⟩)]] wx fun e w' => e = .returned (.tuple #[.int .i64 0, .agg #[.int .i64 A, .int .i64 B, .int .i64 C], .int .i64 E]) ∧ Below wx.heap.size wx w' by
    have := changed_any (o := o) (c := c) (p := p) (c' := c + tickV d (p + r)) (p' := p + r) k 36 #[.pointer (some ⟨w.heap.size + 2, 0, none⟩), .pointer (some ⟨w.heap.size + 1, 0, none⟩)] wx (fun _ _ => by kernel_rfl) (fun ho hkk W b hB hb hI => by
      obtain ⟨i1, i2, i3⟩ := (okI_iff _ _ _).1 ho
      have hl : lmsOk [sL d, rL r] = true := hk.trans hkk
      have hl2 : (-4398046511104 ≤ d ∧ d ≤ 4398046511104) ∧ (-8388608 ≤ r ∧ r ≤ 8388608) := by simp only [lmsOk, Lm.ok, Bool.and_eq_true, Bool.and_true, decide_eq_true_eq] at hl; exact hl
      exact arrive1_any b (w.heap.size + 1) (w.heap.size + 2) o c p d r W hI ((hB.cell (p := ⟨w.heap.size + 1, 0, none⟩) (by show w.heap.size + 1 < wx.heap.size; omega)).trans h1) ((hB.cell (p := ⟨w.heap.size + 2, 0, none⟩) (by show w.heap.size + 2 < wx.heap.size; omega)).trans h2) (by omega) (by omega) hl2.1 hl2.2 i3 i2)
    unfold arrV at hV
    rw [hk] at hV
    rw [hV] at this
    exact this)
  rw [hV]
  unfold Res.info
  clear hk hV
  go_enter Try.func13, Try.ntmps13
  go_wp2_with fail
  refine wp_gen ?_
  rintro w1 hg1
  have hz1_0 : w.heap.size < w1.heap.size := by rw [hg1]; simp <;> omega
  have s1_0_0 : w1.cell? ⟨w.heap.size, 0, none⟩ = some (.int .i64 o) := by rw [hg1]; go_simp
  have s1_0_1 : w1.cell? ⟨w.heap.size, 1, none⟩ = some (.int .i64 c) := by rw [hg1]; go_simp
  have s1_0_2 : w1.cell? ⟨w.heap.size, 2, none⟩ = some (.int .i64 p) := by rw [hg1]; go_simp
  have hz1_1 : w.heap.size + 1 < w1.heap.size := by rw [hg1]; simp <;> omega
  have s1_1_0 : w1.cell? ⟨w.heap.size + 1, 0, none⟩ = some (.int .i64 d) := by rw [hg1]; go_simp
  have hz1_2 : w.heap.size + 2 < w1.heap.size := by rw [hg1]; simp <;> omega
  have s1_2_0 : w1.cell? ⟨w.heap.size + 2, 0, none⟩ = some (.int .i64 r) := by rw [hg1]; go_simp
  have hz1_3 : w.heap.size + 3 < w1.heap.size := by rw [hg1]; simp <;> omega
  have s1_3_0 : w1.cell? ⟨w.heap.size + 3, 0, none⟩ = some (.int .i64 0) := by rw [hg1]; go_simp
  have s1_3_1 : w1.cell? ⟨w.heap.size + 3, 1, none⟩ = some (.int .i64 0) := by rw [hg1]; go_simp
  have s1_3_2 : w1.cell? ⟨w.heap.size + 3, 2, none⟩ = some (.int .i64 0) := by rw [hg1]; go_simp
  have z1_3_0 : w1.frozen? ⟨w.heap.size + 3, 0, none⟩ = false := by rw [hg1]; go_simp
  have z1_3_1 : w1.frozen? ⟨w.heap.size + 3, 1, none⟩ = false := by rw [hg1]; go_simp
  have z1_3_2 : w1.frozen? ⟨w.heap.size + 3, 2, none⟩ = false := by rw [hg1]; go_simp
  have H1 : Below w.heap.size w w1 := by rw [hg1]; exact (((((Below.refl _ _).alloc (Nat.le_refl _) _).alloc (by simp <;> omega) _).alloc (by simp <;> omega) _).alloc (by simp <;> omega) _)
  clear hg1
  refine wp_region_gput (R := Nat × Nat) [12, 13, 14, 15, 16, 17, 18, 19, 20, 11, 21, 22, 23, 9, 8, 10]
    (fun rr => [.agg #[.int .i64 o, .int .i64 c, .int .i64 p], .int .i64 d, .agg #[.int .i64 d, .int .i64 (-4398046511104), .int .i64 4398046511104], .int .i64 r, .agg #[.int .i64 r, .int .i64 (-8388608), .int .i64 8388608], .slice (some ⟨rr.1, 0, none⟩) 2 2, .bool k, .func (.func 36) #[] #[.pointer (some ⟨w.heap.size + 2, 0, none⟩), .pointer (some ⟨w.heap.size + 1, 0, none⟩)], .tuple #[.int .i64 0, .agg #[.int .i64 A, .int .i64 B, .int .i64 C], .int .i64 E], .tuple #[.int .i64 0, .agg #[.int .i64 A, .int .i64 B, .int .i64 C], .int .i64 E], .int .i64 0, .agg #[.int .i64 A, .int .i64 B, .int .i64 C], .int .i64 E, .pointer (some ⟨rr.2, 0, none⟩), .int .i64 0, .int .i64 E])
    (fun L rr wx => Below w1.heap.size w1 wx ∧ (L 5 = true → LmsAt wx rr.1 [sL d, rL r]) ∧ OwnC w1.heap.size rr.2 (L 13) (L 15) [.int .i64 0, .int .i64 0, .int .i64 0] [.int .i64 A, .int .i64 B, .int .i64 C] wx ∧ (L 5 = true → L 13 = true → rr.1 ≠ rr.2))
    (by kernel_rfl) (by kernel_rfl) (by kernel_rfl) (0, 0) ?_ ?_ ?_
  · exact ⟨(Below.refl _ _).drew, fun h => absurd h (by decide), OwnC.start _ _ _ _ _, fun h => absurd h (by decide)⟩
  · simp only [putAll, Act.put, List.setIfInBounds_toArray, List.set_cons_succ, List.set_cons_zero]
    refine ⟨?_, ?_, ?_, ?_, ?_, ?_, ?_, ?_, ?_, ?_, ?_, ?_, ?_, ?_, ?_, ?_, ?_, trivial⟩
    all_goals
      rintro L ⟨s, pj⟩ wx K hLi hdep ⟨hB, h5, O13, e5_13⟩ hK
      try dsimp only at h5 O13 e5_13
      have hBs := hB.size
      have f0 := (hB.cell (p := ⟨w.heap.size, 0, none⟩) hz1_0).trans s1_0_0
      have f1 := (hB.cell (p := ⟨w.heap.size, 1, none⟩) hz1_0).trans s1_0_1
      have f2 := (hB.cell (p := ⟨w.heap.size, 2, none⟩) hz1_0).trans s1_0_2
      have f3 := (hB.cell (p := ⟨w.heap.size + 1, 0, none⟩) hz1_1).trans s1_1_0
      have f4 := (hB.cell (p := ⟨w.heap.size + 2, 0, none⟩) hz1_2).trans s1_2_0
      have f5 := (hB.cell (p := ⟨w.heap.size + 3, 0, none⟩) hz1_3).trans s1_3_0
      have f6 := (hB.cell (p := ⟨w.heap.size + 3, 1, none⟩) hz1_3).trans s1_3_1
      have f7 := (hB.cell (p := ⟨w.heap.size + 3, 2, none⟩) hz1_3).trans s1_3_2
    · refine .inl ⟨by rfl, ?_⟩
      go_simp
      exact hK (s, pj) wx ⟨hB, by simpa using h5, by simpa using O13, by simpa using e5_13⟩
    · refine .inl ⟨by rfl, ?_⟩
      go_simp
      exact hK (s, pj) wx ⟨hB, by simpa using h5, by simpa using O13, by simpa using e5_13⟩
    · refine .inl ⟨by rfl, ?_⟩
      go_simp
      refine (pstamp_any d wx).mono ?_
      rintro e w' ⟨rfl, hb⟩
      exact hK (s, pj) w' ⟨(hB.trans (hb.mono hBs)), fun h => ((h5 (by simpa using h))).below hb, by simpa using O13.below hb, by simpa using e5_13⟩
    · refine .inl ⟨by rfl, ?_⟩
      go_simp
      exact hK (s, pj) wx ⟨hB, by simpa using h5, by simpa using O13, by simpa using e5_13⟩
    · refine .inl ⟨by rfl, ?_⟩
      go_simp
      refine (pratio_any r wx).mono ?_
      rintro e w' ⟨rfl, hb⟩
      exact hK (s, pj) w' ⟨(hB.trans (hb.mono hBs)), fun h => ((h5 (by simpa using h))).below hb, by simpa using O13.below hb, by simpa using e5_13⟩
    · refine .inl ⟨by rfl, ?_⟩
      go_simp
      have hbA := fun o => (Below.refl wx.heap.size wx).alloc (Nat.le_refl _) o
      exact hK (wx.heap.size, pj) _ ⟨(hB.alloc hBs _), fun _ => lms_two wx _ (sL d) (rL r), by simpa using O13.below (hbA _), fun _ h => Nat.ne_of_gt (O13.2 (by simpa using h)).2.1⟩
    · have p5 := h5 (hdep ⟨5, .data⟩ (by simp) rfl)
      refine .inl ⟨by rfl, ?_⟩
      go_simp
      refine (KW.out s wx p5).mono ?_
      rintro e w' ⟨rfl, hb⟩
      exact hK (s, pj) w' ⟨(hB.trans (hb.mono hBs)), fun h => ((h5 (by simpa using h))).below hb, by simpa using O13.below hb, by simpa using e5_13⟩
    · refine .inl ⟨by rfl, ?_⟩
      go_simp
      exact hK (s, pj) wx ⟨hB, by simpa using h5, by simpa using O13, by simpa using e5_13⟩
    · refine .inl ⟨by rfl, ?_⟩
      go_simp
      refine (KC.out wx f3 f4 (Nat.lt_of_lt_of_le hz1_2 hBs)).mono ?_
      rintro e w' ⟨rfl, hb⟩
      exact hK (s, pj) w' ⟨(hB.trans (hb.mono hBs)), fun h => ((h5 (by simpa using h))).below hb, by simpa using O13.below hb, by simpa using e5_13⟩
    · refine .inl ⟨by rfl, ?_⟩
      go_simp
      exact hK (s, pj) wx ⟨hB, by simpa using h5, by simpa using O13, by simpa using e5_13⟩
    · refine .inl ⟨by rfl, ?_⟩
      go_simp
      exact hK (s, pj) wx ⟨hB, by simpa using h5, by simpa using O13, by simpa using e5_13⟩
    · refine .inl ⟨by rfl, ?_⟩
      go_simp
      exact hK (s, pj) wx ⟨hB, by simpa using h5, by simpa using O13, by simpa using e5_13⟩
    · refine .inl ⟨by rfl, ?_⟩
      go_simp
      exact hK (s, pj) wx ⟨hB, by simpa using h5, by simpa using O13, by simpa using e5_13⟩
    · refine .inl ⟨by rfl, ?_⟩
      go_simp
      have hbA := fun o => (Below.refl wx.heap.size wx).alloc (Nat.le_refl _) o
      have hF : L 15 = false := by
        cases h : L 15
        · rfl
        · rw [O13.1 h] at hLi; cases hLi
      exact hK (s, wx.heap.size) _ ⟨(hB.alloc hBs _), fun h => ((h5 (by simpa using h))).below (hbA _), by simpa [hF] using OwnC.make _ (hBs), fun h _ => Nat.ne_of_lt (cell_lt (((h5 (by simpa using h))) 0 (by simp)).1)⟩
    · refine .inl ⟨by rfl, ?_⟩
      go_simp
      exact hK (s, pj) wx ⟨hB, by simpa using h5, by simpa using O13, by simpa using e5_13⟩
    · have hA : L 13 = true := hdep ⟨13, .data⟩ (by simp) rfl
      have O' : OwnC w1.heap.size pj true false [.int .i64 0, .int .i64 0, .int .i64 0] [.int .i64 A, .int .i64 B, .int .i64 C] wx := by have := O13; rw [hA, hLi] at this; exact this
      have z0 := ((O'.2 rfl).2.2 0 (by simp)).1
      have y0 := ((O'.2 rfl).2.2 0 (by simp)).2
      have z1 := ((O'.2 rfl).2.2 1 (by simp)).1
      have y1 := ((O'.2 rfl).2.2 1 (by simp)).2
      have z2 := ((O'.2 rfl).2.2 2 (by simp)).1
      have y2 := ((O'.2 rfl).2.2 2 (by simp)).2
      simp only [Bool.false_eq_true, if_false, List.getElem?_cons_zero, List.getElem?_cons_succ] at z0 z1 z2
      refine .inl ⟨by rfl, ?_⟩
      go_simp
      have hk := setAll_but pj [.int .i64 A, .int .i64 B, .int .i64 C] wx 0
      exact hK (s, pj) (setAll wx pj 0 [.int .i64 A, .int .i64 B, .int .i64 C]) ⟨(hB.trans (setAll_below pj _ (O'.2 rfl).1 [.int .i64 A, .int .i64 B, .int .i64 C] wx 0)), fun h => ((h5 (by simpa using h))).but hk (e5_13 (by simpa using h) hA), by simpa [hA] using O'.fill rfl, by simpa using e5_13⟩
    · refine .inl ⟨by rfl, ?_⟩
      go_simp
      exact hK (s, pj) wx ⟨hB, by simpa using h5, by simpa using O13, by simpa using e5_13⟩
  rintro ⟨s, pj⟩ w2 ⟨hb2, q5, O13, e5_13⟩
  replace e5_13 := Lib.hid (e5_13 rfl rfl)
  try dsimp only at e5_13
  replace q5 := q5 rfl
  try dsimp only at q5 O13
  simp only [putAll, Act.put, List.setIfInBounds_toArray, List.set_cons_succ, List.set_cons_zero]
  have k13_0 := O13.at0 (k := 0) rfl
  have k13_1 := O13.at0 (k := 1) rfl
  have k13_2 := O13.at0 (k := 2) rfl
  have kz13 := (O13.2 rfl).2.1
  have kf13_0 := ((O13.2 rfl).2.2 0 (by simp)).2
  have kf13_1 := ((O13.2 rfl).2.2 1 (by simp)).2
  have kf13_2 := ((O13.2 rfl).2.2 2 (by simp)).2
  have kb13 := (O13.2 rfl).1
  have hz2_0 := Nat.lt_of_lt_of_le hz1_0 hb2.size
  have s2_0_0 := (hb2.cell (p := ⟨w.heap.size, 0, none⟩) hz1_0).trans s1_0_0
  have s2_0_1 := (hb2.cell (p := ⟨w.heap.size, 1, none⟩) hz1_0).trans s1_0_1
  have s2_0_2 := (hb2.cell (p := ⟨w.heap.size, 2, none⟩) hz1_0).trans s1_0_2
  have hz2_1 := Nat.lt_of_lt_of_le hz1_1 hb2.size
  have s2_1_0 := (hb2.cell (p := ⟨w.heap.size + 1, 0, none⟩) hz1_1).trans s1_1_0
  have hz2_2 := Nat.lt_of_lt_of_le hz1_2 hb2.size
  have s2_2_0 := (hb2.cell (p := ⟨w.heap.size + 2, 0, none⟩) hz1_2).trans s1_2_0
  have hz2_3 := Nat.lt_of_lt_of_le hz1_3 hb2.size
  have s2_3_0 := (hb2.cell (p := ⟨w.heap.size + 3, 0, none⟩) hz1_3).trans s1_3_0
  have s2_3_1 := (hb2.cell (p := ⟨w.heap.size + 3, 1, none⟩) hz1_3).trans s1_3_1
  have s2_3_2 := (hb2.cell (p := ⟨w.heap.size + 3, 2, none⟩) hz1_3).trans s1_3_2
  have z2_3_0 := (hb2.frozen (p := ⟨w.heap.size + 3, 0, none⟩) hz1_3).trans z1_3_0
  have z2_3_1 := (hb2.frozen (p := ⟨w.heap.size + 3, 1, none⟩) hz1_3).trans z1_3_1
  have z2_3_2 := (hb2.frozen (p := ⟨w.heap.size + 3, 2, none⟩) hz1_3).trans z1_3_2
  have H2 := H1.trans (hb2.mono H1.size)
  clear hz1_0 s1_0_0 s1_0_1 s1_0_2 hz1_1 s1_1_0 hz1_2 s1_2_0 hz1_3 s1_3_0 s1_3_1 s1_3_2 z1_3_0 z1_3_1 z1_3_2 hb2 H1
  clear O13
  go_wp2
  refine bodyPost_ret (v := .tuple #[.agg #[.int .i64 A, .int .i64 B, .int .i64 C], .int .i64 E]) (by simp [results, Try.results13, go_sem, s2_3_0, s2_3_1, s2_3_2]) rfl ⟨rfl, ?_⟩
  exact ((H2.setCell (by simp <;> omega) _).setCell (by simp <;> omega) _).setCell (by simp <;> omega) _
set_option maxRecDepth 100000 in
set_option maxHeartbeats 4000000 in
theorem pleave_any (o c p x : Int) (w : World) :
    Calls Try.prog 15 #[.agg #[.int .i64 o, .int .i64 c, .int .i64 p], .int .i64 x] w fun e w' => e = .returned (.tuple #[(leaV o c p x).info, .int .i64 (leaV o c p x).e]) ∧ Below w.heap.size w w' := by
  obtain ⟨k, hk⟩ : ∃ k, lmsOk [xL x] = k := ⟨_, rfl⟩
  have KW := Lib.hid fun s w (h : LmsAt w s [xL x]) => (show Calls Try.prog 33 #[.slice (some ⟨s, 0, none⟩) 1 1] w fun e w' => e = .returned (.bool k) ∧ Below w.heap.size w w' by
    have := pwithin_any s 1 _ w rfl (by omega) (Lib.hid h)
    rw [hk] at this
    exact this)
  obtain ⟨⟨A, B, C, E⟩, hV⟩ : ∃ V, leaV o c p x = V := ⟨_, rfl⟩
  have KC := Lib.hid fun wx (h1 : wx.cell? ⟨w.heap.size + 1, 0, none⟩ = some (.int .i64 x)) (hz : w.heap.size + 1 < wx.heap.size) =>
    (show Calls Try.prog 32 #[.agg #[.int .i64 o, .int .i64 c, .int .i64 p], .bool k, .func (.func 42) #[] #[.pointer (some ⟨w.heap.size + 1, 0, none⟩)]] wx fun e w' => e = .returned (.tuple #[.int .i64 0, .agg #[.int .i64 A, .int .i64 B, .int .i64 C], .int .i64 E]) ∧ Below wx.heap.size wx w' by
    have := changed_any (o := o) (c := c) (p := p) (c' := c + tickV x p) (p' := p) k 42 #[.pointer (some ⟨w.heap.size + 1, 0, none⟩)] wx (fun _ _ => by kernel_rfl) (fun ho hkk W b hB hb hI => by
      obtain ⟨i1, i2, i3⟩ := (okI_iff _ _ _).1 ho
      have hl : lmsOk [xL x] = true := hk.trans hkk
      have hl2 : 0 ≤ x ∧ x ≤ 1099511627776 := by simp only [lmsOk, Lm.ok, Bool.and_eq_true, Bool.and_true, decide_eq_true_eq] at hl; exact hl
      exact leave1_any b (w.heap.size + 1) o c p x W hI ((hB.cell (p := ⟨w.heap.size + 1, 0, none⟩) (by show w.heap.size + 1 < wx.heap.size; omega)).trans h1) (by omega) (by omega) i2)
    unfold leaV at hV
    rw [hk] at hV
    rw [hV] at this
    exact this)
  rw [hV]
  unfold Res.info
  clear hk hV
  go_enter Try.func15, Try.ntmps15
  go_wp2_with fail
  refine wp_gen ?_
  rintro w1 hg1
  have hz1_0 : w.heap.size < w1.heap.size := by rw [hg1]; simp <;> omega
  have s1_0_0 : w1.cell? ⟨w.heap.size, 0, none⟩ = some (.int .i64 o) := by rw [hg1]; go_simp
  have s1_0_1 : w1.cell? ⟨w.heap.size, 1, none⟩ = some (.int .i64 c) := by rw [hg1]; go_simp
  have s1_0_2 : w1.cell? ⟨w.heap.size, 2, none⟩ = some (.int .i64 p) := by rw [hg1]; go_simp
  have hz1_1 : w.heap.size + 1 < w1.heap.size := by rw [hg1]; simp <;> omega
  have s1_1_0 : w1.cell? ⟨w.heap.size + 1, 0, none⟩ = some (.int .i64 x) := by rw [hg1]; go_simp
  have hz1_2 : w.heap.size + 2 < w1.heap.size := by rw [hg1]; simp <;> omega
  have s1_2_0 : w1.cell? ⟨w.heap.size + 2, 0, none⟩ = some (.int .i64 0) := by rw [hg1]; go_simp
  have s1_2_1 : w1.cell? ⟨w.heap.size + 2, 1, none⟩ = some (.int .i64 0) := by rw [hg1]; go_simp
  have s1_2_2 : w1.cell? ⟨w.heap.size + 2, 2, none⟩ = some (.int .i64 0) := by rw [hg1]; go_simp
  have z1_2_0 : w1.frozen? ⟨w.heap.size + 2, 0, none⟩ = false := by rw [hg1]; go_simp
  have z1_2_1 : w1.frozen? ⟨w.heap.size + 2, 1, none⟩ = false := by rw [hg1]; go_simp
  have z1_2_2 : w1.frozen? ⟨w.heap.size + 2, 2, none⟩ = false := by rw [hg1]; go_simp
  have H1 : Below w.heap.size w w1 := by rw [hg1]; exact ((((Below.refl _ _).alloc (Nat.le_refl _) _).alloc (by simp <;> omega) _).alloc (by simp <;> omega) _)
  clear hg1
  refine wp_region_gput (R := Nat × Nat) [10, 11, 12, 13, 14, 15, 16, 9, 17, 18, 19, 7, 6, 8]
    (fun rr => [.agg #[.int .i64 o, .int .i64 c, .int .i64 p], .int .i64 x, .agg #[.int .i64 x, .int .i64 0, .int .i64 1099511627776], .slice (some ⟨rr.1, 0, none⟩) 1 1, .bool k, .func (.func 42) #[] #[.pointer (some ⟨w.heap.size + 1, 0, none⟩)], .tuple #[.int .i64 0, .agg #[.int .i64 A, .int .i64 B, .int .i64 C], .int .i64 E], .tuple #[.int .i64 0, .agg #[.int .i64 A, .int .i64 B, .int .i64 C], .int .i64 E], .int .i64 0, .agg #[.int .i64 A, .int .i64 B, .int .i64 C], .int .i64 E, .pointer (some ⟨rr.2, 0, none⟩), .int .i64 0, .int .i64 E])
    (fun L rr wx => Below w1.heap.size w1 wx ∧ (L 3 = true → LmsAt wx rr.1 [xL x]) ∧ OwnC w1.heap.size rr.2 (L 11) (L 13) [.int .i64 0, .int .i64 0, .int .i64 0] [.int .i64 A, .int .i64 B, .int .i64 C] wx ∧ (L 3 = true → L 11 = true → rr.1 ≠ rr.2))
    (by kernel_rfl) (by kernel_rfl) (by kernel_rfl) (0, 0) ?_ ?_ ?_
  · exact ⟨(Below.refl _ _).drew, fun h => absurd h (by decide), OwnC.start _ _ _ _ _, fun h => absurd h (by decide)⟩
  · simp only [putAll, Act.put, List.setIfInBounds_toArray, List.set_cons_succ, List.set_cons_zero]
    refine ⟨?_, ?_, ?_, ?_, ?_, ?_, ?_, ?_, ?_, ?_, ?_, ?_, ?_, ?_, ?_, trivial⟩
    all_goals
      rintro L ⟨s, pj⟩ wx K hLi hdep ⟨hB, h3, O11, e3_11⟩ hK
      try dsimp only at h3 O11 e3_11
      have hBs := hB.size
      have f0 := (hB.cell (p := ⟨w.heap.size, 0, none⟩) hz1_0).trans s1_0_0
      have f1 := (hB.cell (p := ⟨w.heap.size, 1, none⟩) hz1_0).trans s1_0_1
      have f2 := (hB.cell (p := ⟨w.heap.size, 2, none⟩) hz1_0).trans s1_0_2
      have f3 := (hB.cell (p := ⟨w.heap.size + 1, 0, none⟩) hz1_1).trans s1_1_0
      have f4 := (hB.cell (p := ⟨w.heap.size + 2, 0, none⟩) hz1_2).trans s1_2_0
      have f5 := (hB.cell (p := ⟨w.heap.size + 2, 1, none⟩) hz1_2).trans s1_2_1
      have f6 := (hB.cell (p := ⟨w.heap.size + 2, 2, none⟩) hz1_2).trans s1_2_2
    · refine .inl ⟨by rfl, ?_⟩
      go_simp
      exact hK (s, pj) wx ⟨hB, by simpa using h3, by simpa using O11, by simpa using e3_11⟩
    · refine .inl ⟨by rfl, ?_⟩
      go_simp
      exact hK (s, pj) wx ⟨hB, by simpa using h3, by simpa using O11, by simpa using e3_11⟩
    · refine .inl ⟨by rfl, ?_⟩
      go_simp
      exact hK (s, pj) wx ⟨hB, by simpa using h3, by simpa using O11, by simpa using e3_11⟩
    · refine .inl ⟨by rfl, ?_⟩
      go_simp
      have hbA := fun o => (Below.refl wx.heap.size wx).alloc (Nat.le_refl _) o
      exact hK (wx.heap.size, pj) _ ⟨(hB.alloc hBs _), fun _ => lms_one wx _ (xL x), by simpa using O11.below (hbA _), fun _ h => Nat.ne_of_gt (O11.2 (by simpa using h)).2.1⟩
    · have p3 := h3 (hdep ⟨3, .data⟩ (by simp) rfl)
      refine .inl ⟨by rfl, ?_⟩
      go_simp
      refine (KW.out s wx p3).mono ?_
      rintro e w' ⟨rfl, hb⟩
      exact hK (s, pj) w' ⟨(hB.trans (hb.mono hBs)), fun h => ((h3 (by simpa using h))).below hb, by simpa using O11.below hb, by simpa using e3_11⟩
    · refine .inl ⟨by rfl, ?_⟩
      go_simp
      exact hK (s, pj) wx ⟨hB, by simpa using h3, by simpa using O11, by simpa using e3_11⟩
    · refine .inl ⟨by rfl, ?_⟩
      go_simp
      refine (KC.out wx f3 (Nat.lt_of_lt_of_le hz1_1 hBs)).mono ?_
      rintro e w' ⟨rfl, hb⟩
      exact hK (s, pj) w' ⟨(hB.trans (hb.mono hBs)), fun h => ((h3 (by simpa using h))).below hb, by simpa using O11.below hb, by simpa using e3_11⟩
    · refine .inl ⟨by rfl, ?_⟩
      go_simp
      exact hK (s, pj) wx ⟨hB, by simpa using h3, by simpa using O11, by simpa using e3_11⟩
    · refine .inl ⟨by rfl, ?_⟩
      go_simp
      exact hK (s, pj) wx ⟨hB, by simpa using h3, by simpa using O11, by simpa using e3_11⟩
    · refine .inl ⟨by rfl, ?_⟩
      go_simp
      exact hK (s, pj) wx ⟨hB, by simpa using h3, by simpa using O11, by simpa using e3_11⟩
    · refine .inl ⟨by rfl, ?_⟩
      go_simp
      exact hK (s, pj) wx ⟨hB, by simpa using h3, by simpa using O11, by simpa using e3_11⟩
    · refine .inl ⟨by rfl, ?_⟩
      go_simp
      have hbA := fun o => (Below.refl wx.heap.size wx).alloc (Nat.le_refl _) o
      have hF : L 13 = false := by
        cases h : L 13
        · rfl
        · rw [O11.1 h] at hLi; cases hLi
      exact hK (s, wx.heap.size) _ ⟨(hB.alloc hBs _), fun h => ((h3 (by simpa using h))).below (hbA _), by simpa [hF] using OwnC.make _ (hBs), fun h _ => Nat.ne_of_lt (cell_lt (((h3 (by simpa using h))) 0 (by simp)).1)⟩
    · refine .inl ⟨by rfl, ?_⟩
      go_simp
      exact hK (s, pj) wx ⟨hB, by simpa using h3, by simpa using O11, by simpa using e3_11⟩
    · have hA : L 11 = true := hdep ⟨11, .data⟩ (by simp) rfl
      have O' : OwnC w1.heap.size pj true false [.int .i64 0, .int .i64 0, .int .i64 0] [.int .i64 A, .int .i64 B, .int .i64 C] wx := by have := O11; rw [hA, hLi] at this; exact this
      have z0 := ((O'.2 rfl).2.2 0 (by simp)).1
      have y0 := ((O'.2 rfl).2.2 0 (by simp)).2
      have z1 := ((O'.2 rfl).2.2 1 (by simp)).1
      have y1 := ((O'.2 rfl).2.2 1 (by simp)).2
      have z2 := ((O'.2 rfl).2.2 2 (by simp)).1
      have y2 := ((O'.2 rfl).2.2 2 (by simp)).2
      simp only [Bool.false_eq_true, if_false, List.getElem?_cons_zero, List.getElem?_cons_succ] at z0 z1 z2
      refine .inl ⟨by rfl, ?_⟩
      go_simp
      have hk := setAll_but pj [.int .i64 A, .int .i64 B, .int .i64 C] wx 0
      exact hK (s, pj) (setAll wx pj 0 [.int .i64 A, .int .i64 B, .int .i64 C]) ⟨(hB.trans (setAll_below pj _ (O'.2 rfl).1 [.int .i64 A, .int .i64 B, .int .i64 C] wx 0)), fun h => ((h3 (by simpa using h))).but hk (e3_11 (by simpa using h) hA), by simpa [hA] using O'.fill rfl, by simpa using e3_11⟩
    · refine .inl ⟨by rfl, ?_⟩
      go_simp
      exact hK (s, pj) wx ⟨hB, by simpa using h3, by simpa using O11, by simpa using e3_11⟩
  rintro ⟨s, pj⟩ w2 ⟨hb2, q3, O11, e3_11⟩
  replace e3_11 := Lib.hid (e3_11 rfl rfl)
  try dsimp only at e3_11
  replace q3 := q3 rfl
  try dsimp only at q3 O11
  simp only [putAll, Act.put, List.setIfInBounds_toArray, List.set_cons_succ, List.set_cons_zero]
  have k11_0 := O11.at0 (k := 0) rfl
  have k11_1 := O11.at0 (k := 1) rfl
  have k11_2 := O11.at0 (k := 2) rfl
  have kz11 := (O11.2 rfl).2.1
  have kf11_0 := ((O11.2 rfl).2.2 0 (by simp)).2
  have kf11_1 := ((O11.2 rfl).2.2 1 (by simp)).2
  have kf11_2 := ((O11.2 rfl).2.2 2 (by simp)).2
  have kb11 := (O11.2 rfl).1
  have hz2_0 := Nat.lt_of_lt_of_le hz1_0 hb2.size
  have s2_0_0 := (hb2.cell (p := ⟨w.heap.size, 0, none⟩) hz1_0).trans s1_0_0
  have s2_0_1 := (hb2.cell (p := ⟨w.heap.size, 1, none⟩) hz1_0).trans s1_0_1
  have s2_0_2 := (hb2.cell (p := ⟨w.heap.size, 2, none⟩) hz1_0).trans s1_0_2
  have hz2_1 := Nat.lt_of_lt_of_le hz1_1 hb2.size
  have s2_1_0 := (hb2.cell (p := ⟨w.heap.size + 1, 0, none⟩) hz1_1).trans s1_1_0
  have hz2_2 := Nat.lt_of_lt_of_le hz1_2 hb2.size
  have s2_2_0 := (hb2.cell (p := ⟨w.heap.size + 2, 0, none⟩) hz1_2).trans s1_2_0
  have s2_2_1 := (hb2.cell (p := ⟨w.heap.size + 2, 1, none⟩) hz1_2).trans s1_2_1
  have s2_2_2 := (hb2.cell (p := ⟨w.heap.size + 2, 2, none⟩) hz1_2).trans s1_2_2
  have z2_2_0 := (hb2.frozen (p := ⟨w.heap.size + 2, 0, none⟩) hz1_2).trans z1_2_0
  have z2_2_1 := (hb2.frozen (p := ⟨w.heap.size + 2, 1, none⟩) hz1_2).trans z1_2_1
  have z2_2_2 := (hb2.frozen (p := ⟨w.heap.size + 2, 2, none⟩) hz1_2).trans z1_2_2
  have H2 := H1.trans (hb2.mono H1.size)
  clear hz1_0 s1_0_0 s1_0_1 s1_0_2 hz1_1 s1_1_0 hz1_2 s1_2_0 s1_2_1 s1_2_2 z1_2_0 z1_2_1 z1_2_2 hb2 H1
  clear O11
  go_wp2
  refine bodyPost_ret (v := .tuple #[.agg #[.int .i64 A, .int .i64 B, .int .i64 C], .int .i64 E]) (by simp [results, Try.results15, go_sem, s2_2_0, s2_2_1, s2_2_2]) rfl ⟨rfl, ?_⟩
  exact ((H2.setCell (by simp <;> omega) _).setCell (by simp <;> omega) _).setCell (by simp <;> omega) _
end Go.Proofs.Ytgdagfiebaebbaa
