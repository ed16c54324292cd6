/- The reference of the layer pass: what its functions compute (all but those of messages). -/
import Derived.Test.YtgdagfiebaebbaaPass8
import Derived.Test.YtgdagfiebaebbaaFloor
namespace Go.Proofs.Ytgdagfiebaebbaa
open Go.RowKit

/-- Part, in parts: the whole seconds, and the rest. -/
theorem part_of (x p : Int) : x / 1000000000 * p + (x - x / 1000000000 * 1000000000) * p / 1000000000 = x * p / 1000000000 := by
  have e : x * p = (x - x / 1000000000 * 1000000000) * p + x / 1000000000 * p * 1000000000 := by
    rw [Int.sub_mul, Int.mul_assoc (x / 1000000000), Int.mul_comm 1000000000 p, ← Int.mul_assoc]; omega
  rw [e, Int.add_mul_ediv_right _ _ (by omega)]
  omega
set_option maxHeartbeats 400000 in
theorem part_any (x p : Int) (w : World) (h1 : -17592186044416 ≤ x) (h2 : x ≤ 17592186044416) (h3 : -16777216 ≤ p) (h4 : p ≤ 16777216) :
    Calls Try.prog 40 #[.int .i64 x, .int .i64 p] w fun e w' => e = .returned (.int .i64 (x * p / 1000000000)) ∧ w' = w := by
  have hP := part_of x p
  have HF1 := Lib.hid fun w => floor_any x 1000000000 w (by omega) (by omega) (by omega) (by omega)
  have hq : -17593 ≤ x / 1000000000 ∧ x / 1000000000 ≤ 17593 := by omega
  have hr : 0 ≤ x - x / 1000000000 * 1000000000 ∧ x - x / 1000000000 * 1000000000 ≤ 999999999 := by omega
  have hb1 := mul_bdS (A := 17593) (B := 16777216) (a := x / 1000000000) (b := p) (by omega) (by omega) h3 h4
  have hb2 := mul_bdS (A := 999999999) (B := 16777216) (a := x - x / 1000000000 * 1000000000) (b := p) (by omega) (by omega) h3 h4
  have HF2 := Lib.hid fun w => floor_any ((x - x / 1000000000 * 1000000000) * p) 1000000000 w (by omega) (by omega) (by omega) (by omega)
  generalize x / 1000000000 = q at *
  obtain ⟨r, hr'⟩ : ∃ r, x - q * 1000000000 = r := ⟨_, rfl⟩
  rw [hr'] at hP HF2 hr hb2
  obtain ⟨a, ha⟩ : ∃ a, q * p = a := ⟨_, rfl⟩
  obtain ⟨b, hb⟩ : ∃ b, r * p = b := ⟨_, rfl⟩
  have e1 : IntKind.i64.wrap (q * p) = a := by rw [ha]; exact IntWalk.i64_in _ (by omega)
  have e2 : IntKind.i64.wrap (r * p) = b := by rw [hb]; exact IntWalk.i64_in _ (by omega)
  rw [ha, hb] at hP
  rw [hb] at HF2
  have hb3 : -16777216 ≤ b / 1000000000 ∧ b / 1000000000 ≤ 16777216 := by omega
  generalize b / 1000000000 = c at *
  have HP := Lib.hid hP
  have ha1 : -295161692160 ≤ a := by omega
  have ha2 : a ≤ 295161692160 := by omega
  clear hP hb1 hb2 ha hb
  go_enter Try.func40, Try.ntmps40
  go_wp2_with fail
  refine (HF1.out _).mono ?_
  rintro e w1 ⟨rfl, rfl⟩
  go_wp2_with fail
  refine (HF2.out _).mono ?_
  rintro e w1 ⟨rfl, rfl⟩
  go_wp2
  go_ret
  exact ⟨ret_int HP.out, rfl⟩
theorem rstamp14_any_iff (n : Int) : (sL n).ok = true ↔ -4398046511104 ≤ n ∧ n ≤ 4398046511104 := by
  unfold Lm.ok; rw [Bool.and_eq_true, decide_eq_true_iff, decide_eq_true_iff]; exact Iff.rfl
set_option maxHeartbeats 400000 in
theorem rstamp14_any (n : Int) (w : World) : Calls Try.prog 38 #[.int .i64 n] w fun e w' => e = .returned (.bool (sL n).ok) ∧ w' = w := by
  by_cases h1 : -4398046511104 ≤ n
  · by_cases h2 : n ≤ 4398046511104
    · have H : Hid ((sL n).ok = true) := Lib.hid ((rstamp14_any_iff n).2 ⟨h1, h2⟩)
      go_enter Try.func38, Try.ntmps38
      go_wp2
      go_ret
      exact ⟨ret_bool H.out.symm, rfl⟩
    · have H : Hid ((sL n).ok = false) := Lib.hid (by cases q : (sL n).ok; rfl; rw [rstamp14_any_iff] at q; omega)
      go_enter Try.func38, Try.ntmps38
      go_wp2
      go_ret
      exact ⟨ret_bool H.out.symm, rfl⟩
  · have H : Hid ((sL n).ok = false) := Lib.hid (by cases q : (sL n).ok; rfl; rw [rstamp14_any_iff] at q; omega)
    go_enter Try.func38, Try.ntmps38
    go_wp2
    go_ret
    exact ⟨ret_bool H.out.symm, rfl⟩
theorem rratio14_any_iff (n : Int) : (rL n).ok = true ↔ -8388608 ≤ n ∧ n ≤ 8388608 := by
  unfold Lm.ok; rw [Bool.and_eq_true, decide_eq_true_iff, decide_eq_true_iff]; exact Iff.rfl
set_option maxHeartbeats 400000 in
theorem rratio14_any (n : Int) (w : World) : Calls Try.prog 39 #[.int .i64 n] w fun e w' => e = .returned (.bool (rL n).ok) ∧ w' = w := by
  by_cases h1 : -8388608 ≤ n
  · by_cases h2 : n ≤ 8388608
    · have H : Hid ((rL n).ok = true) := Lib.hid ((rratio14_any_iff n).2 ⟨h1, h2⟩)
      go_enter Try.func39, Try.ntmps39
      go_wp2
      go_ret
      exact ⟨ret_bool H.out.symm, rfl⟩
    · have H : Hid ((rL n).ok = false) := Lib.hid (by cases q : (rL n).ok; rfl; rw [rratio14_any_iff] at q; omega)
      go_enter Try.func39, Try.ntmps39
      go_wp2
      go_ret
      exact ⟨ret_bool H.out.symm, rfl⟩
  · have H : Hid ((rL n).ok = false) := Lib.hid (by cases q : (rL n).ok; rfl; rw [rratio14_any_iff] at q; omega)
    go_enter Try.func39, Try.ntmps39
    go_wp2
    go_ret
    exact ⟨ret_bool H.out.symm, rfl⟩
set_option maxHeartbeats 400000 in
theorem rright14_any (o c p : Int) (w : World) : Calls Try.prog 18 #[.agg #[.int .i64 o, .int .i64 c, .int .i64 p]] w fun e w' => e = .returned (.bool (okI o c p)) ∧ Below w.heap.size w w' := by
  have HB : Below w.heap.size w (w.alloc (.cells #[.int .i64 o, .int .i64 c, .int .i64 p] 23)) := (Below.refl _ _).alloc (Nat.le_refl _) _
  have e0 : okI o c p = ((sL o).ok && ((sL c).ok && ((rL p).ok && true))) := rfl
  rw [e0, Bool.and_true]
  have HO := Lib.hid fun w => rstamp14_any o w
  have HC := Lib.hid fun w => rstamp14_any c w
  have HP := Lib.hid fun w => rratio14_any p w
  generalize (sL o).ok = x at *
  generalize (sL c).ok = y at *
  generalize (rL p).ok = z at *
  clear e0
  cases x
  · go_enter Try.func18, Try.ntmps18
    go_wp2_with fail
    refine (HO.out _).mono ?_
    rintro e w1 ⟨rfl, rfl⟩
    go_wp2
    go_ret
    exact ⟨rfl, HB⟩
  · cases y
    · go_enter Try.func18, Try.ntmps18
      go_wp2_with fail
      refine (HO.out _).mono ?_
      rintro e w1 ⟨rfl, rfl⟩
      go_wp2_with fail
      refine (HC.out _).mono ?_
      rintro e w1 ⟨rfl, rfl⟩
      go_wp2
      go_ret
      exact ⟨rfl, HB⟩
    · go_enter Try.func18, Try.ntmps18
      go_wp2_with fail
      refine (HO.out _).mono ?_
      rintro e w1 ⟨rfl, rfl⟩
      go_wp2_with fail
      refine (HC.out _).mono ?_
      rintro e w1 ⟨rfl, rfl⟩
      go_wp2_with fail
      refine (HP.out _).mono ?_
      rintro e w1 ⟨rfl, rfl⟩
      go_wp2
      go_ret
      exact ⟨rfl, HB⟩
def endV (o c p : Int) : Res := if okI o c p = true then ⟨o, c, p, 0⟩ else ⟨0, 0, 0, 6⟩
set_option maxHeartbeats 1000000 in
theorem rend14_any (o c p : Int) (w : World) : Calls Try.prog 41 #[.agg #[.int .i64 o, .int .i64 c, .int .i64 p]] w fun e w' => e = .returned (.tuple #[(endV o c p).info, .int .i64 (endV o c p).e]) ∧ Below w.heap.size w w' := by
  have HK := Lib.hid fun w => rright14_any o c p w
  unfold endV
  generalize okI o c p = k at *
  cases k
  · go_enter Try.func41, Try.ntmps41
    go_wp2_with fail
    refine (HK.out _).mono ?_
    rintro e w1 ⟨rfl, hb1⟩
    have hz1_0 : w.heap.size < w1.heap.size := by have := hb1.size; simp at this; omega
    have s1_0_0 : w1.cell? ⟨w.heap.size, 0, none⟩ = some (.int .i64 o) := (hb1.cell (p := ⟨w.heap.size, 0, none⟩) (by simp <;> omega)).trans (by go_simp)
    have s1_0_1 : w1.cell? ⟨w.heap.size, 1, none⟩ = some (.int .i64 c) := (hb1.cell (p := ⟨w.heap.size, 1, none⟩) (by simp <;> omega)).trans (by go_simp)
    have s1_0_2 : w1.cell? ⟨w.heap.size, 2, none⟩ = some (.int .i64 p) := (hb1.cell (p := ⟨w.heap.size, 2, none⟩) (by simp <;> omega)).trans (by go_simp)
    have hz1_1 : w.heap.size + 1 < w1.heap.size := by have := hb1.size; simp at this; omega
    have s1_1_0 : w1.cell? ⟨w.heap.size + 1, 0, none⟩ = some (.int .i64 0) := (hb1.cell (p := ⟨w.heap.size + 1, 0, none⟩) (by simp <;> omega)).trans (by go_simp)
    have s1_1_1 : w1.cell? ⟨w.heap.size + 1, 1, none⟩ = some (.int .i64 0) := (hb1.cell (p := ⟨w.heap.size + 1, 1, none⟩) (by simp <;> omega)).trans (by go_simp)
    have s1_1_2 : w1.cell? ⟨w.heap.size + 1, 2, none⟩ = some (.int .i64 0) := (hb1.cell (p := ⟨w.heap.size + 1, 2, none⟩) (by simp <;> omega)).trans (by go_simp)
    have z1_1_0 : w1.frozen? ⟨w.heap.size + 1, 0, none⟩ = false := (hb1.frozen (p := ⟨w.heap.size + 1, 0, none⟩) (by simp <;> omega)).trans (by go_simp)
    have z1_1_1 : w1.frozen? ⟨w.heap.size + 1, 1, none⟩ = false := (hb1.frozen (p := ⟨w.heap.size + 1, 1, none⟩) (by simp <;> omega)).trans (by go_simp)
    have z1_1_2 : w1.frozen? ⟨w.heap.size + 1, 2, none⟩ = false := (hb1.frozen (p := ⟨w.heap.size + 1, 2, none⟩) (by simp <;> omega)).trans (by go_simp)
    have H1 : Below w.heap.size w w1 := (((Below.refl _ _).alloc (Nat.le_refl _) _).alloc (by simp <;> omega) _).trans (hb1.mono (by simp <;> omega))
    clear hb1
    go_wp2
    refine bodyPost_ret (v := .tuple #[.agg #[.int .i64 0, .int .i64 0, .int .i64 0], .int .i64 6]) (by simp [results, Try.results41, go_sem, s1_1_0, s1_1_1, s1_1_2]) rfl ⟨rfl, ?_⟩
    exact ((H1.setCell (by simp <;> omega) _).setCell (by simp <;> omega) _).setCell (by simp <;> omega) _
  · go_enter Try.func41, Try.ntmps41
    go_wp2_with fail
    refine (HK.out _).mono ?_
    rintro e w1 ⟨rfl, hb1⟩
    have hz1_0 : w.heap.size < w1.heap.size := by have := hb1.size; simp at this; omega
    have s1_0_0 : w1.cell? ⟨w.heap.size, 0, none⟩ = some (.int .i64 o) := (hb1.cell (p := ⟨w.heap.size, 0, none⟩) (by simp <;> omega)).trans (by go_simp)
    have s1_0_1 : w1.cell? ⟨w.heap.size, 1, none⟩ = some (.int .i64 c) := (hb1.cell (p := ⟨w.heap.size, 1, none⟩) (by simp <;> omega)).trans (by go_simp)
    have s1_0_2 : w1.cell? ⟨w.heap.size, 2, none⟩ = some (.int .i64 p) := (hb1.cell (p := ⟨w.heap.size, 2, none⟩) (by simp <;> omega)).trans (by go_simp)
    have hz1_1 : w.heap.size + 1 < w1.heap.size := by have := hb1.size; simp at this; omega
    have s1_1_0 : w1.cell? ⟨w.heap.size + 1, 0, none⟩ = some (.int .i64 0) := (hb1.cell (p := ⟨w.heap.size + 1, 0, none⟩) (by simp <;> omega)).trans (by go_simp)
    have s1_1_1 : w1.cell? ⟨w.heap.size + 1, 1, none⟩ = some (.int .i64 0) := (hb1.cell (p := ⟨w.heap.size + 1, 1, none⟩) (by simp <;> omega)).trans (by go_simp)
    have s1_1_2 : w1.cell? ⟨w.heap.size + 1, 2, none⟩ = some (.int .i64 0) := (hb1.cell (p := ⟨w.heap.size + 1, 2, none⟩) (by simp <;> omega)).trans (by go_simp)
    have z1_1_0 : w1.frozen? ⟨w.heap.size + 1, 0, none⟩ = false := (hb1.frozen (p := ⟨w.heap.size + 1, 0, none⟩) (by simp <;> omega)).trans (by go_simp)
    have z1_1_1 : w1.frozen? ⟨w.heap.size + 1, 1, none⟩ = false := (hb1.frozen (p := ⟨w.heap.size + 1, 1, none⟩) (by simp <;> omega)).trans (by go_simp)
    have z1_1_2 : w1.frozen? ⟨w.heap.size + 1, 2, none⟩ = false := (hb1.frozen (p := ⟨w.heap.size + 1, 2, none⟩) (by simp <;> omega)).trans (by go_simp)
    have H1 : Below w.heap.size w w1 := (((Below.refl _ _).alloc (Nat.le_refl _) _).alloc (by simp <;> omega) _).trans (hb1.mono (by simp <;> omega))
    clear hb1
    go_wp2
    refine bodyPost_ret (v := .tuple #[.agg #[.int .i64 o, .int .i64 c, .int .i64 p], .int .i64 0]) (by simp [results, Try.results41, go_sem, s1_1_0, s1_1_1, s1_1_2]) rfl ⟨rfl, ?_⟩
    exact ((H1.setCell (by simp <;> omega) _).setCell (by simp <;> omega) _).setCell (by simp <;> omega) _
set_option maxRecDepth 100000 in
set_option maxHeartbeats 2000000 in
theorem rarrive_any (o c p d r : Int) (w : World) : Calls Try.prog 14 #[.agg #[.int .i64 o, .int .i64 c, .int .i64 p], .int .i64 d, .int .i64 r] w fun e w' => e = .returned (.tuple #[(arrV o c p d r).info, .int .i64 (arrV o c p d r).e]) ∧ Below w.heap.size w w' := by
  have HK := Lib.hid fun w => rright14_any o c p w
  cases h : okI o c p
  · have e0 : arrV o c p d r = ⟨0, 0, 0, 240⟩ := by unfold arrV chV; rw [h]; rfl
    rw [e0]
    unfold Res.info
    dsimp only
    rw [h] at HK
    clear h e0
    go_enter Try.func14, Try.ntmps14
    go_wp2_with fail
    refine (HK.out _).mono ?_
    rintro e w1 ⟨rfl, hb1⟩
    have hz1_0 : w.heap.size < w1.heap.size := by have := hb1.size; simp at this; omega
    have s1_0_0 : w1.cell? ⟨w.heap.size, 0, none⟩ = some (.int .i64 o) := (hb1.cell (p := ⟨w.heap.size, 0, none⟩) (by simp <;> omega)).trans (by go_simp)
    have s1_0_1 : w1.cell? ⟨w.heap.size, 1, none⟩ = some (.int .i64 c) := (hb1.cell (p := ⟨w.heap.size, 1, none⟩) (by simp <;> omega)).trans (by go_simp)
    have s1_0_2 : w1.cell? ⟨w.heap.size, 2, none⟩ = some (.int .i64 p) := (hb1.cell (p := ⟨w.heap.size, 2, none⟩) (by simp <;> omega)).trans (by go_simp)
    have z1_0_0 : w1.frozen? ⟨w.heap.size, 0, none⟩ = false := (hb1.frozen (p := ⟨w.heap.size, 0, none⟩) (by simp <;> omega)).trans (by go_simp)
    have z1_0_1 : w1.frozen? ⟨w.heap.size, 1, none⟩ = false := (hb1.frozen (p := ⟨w.heap.size, 1, none⟩) (by simp <;> omega)).trans (by go_simp)
    have z1_0_2 : w1.frozen? ⟨w.heap.size, 2, none⟩ = false := (hb1.frozen (p := ⟨w.heap.size, 2, none⟩) (by simp <;> omega)).trans (by go_simp)
    have hz1_1 : w.heap.size + 1 < w1.heap.size := by have := hb1.size; simp at this; omega
    have s1_1_0 : w1.cell? ⟨w.heap.size + 1, 0, none⟩ = some (.int .i64 0) := (hb1.cell (p := ⟨w.heap.size + 1, 0, none⟩) (by simp <;> omega)).trans (by go_simp)
    have s1_1_1 : w1.cell? ⟨w.heap.size + 1, 1, none⟩ = some (.int .i64 0) := (hb1.cell (p := ⟨w.heap.size + 1, 1, none⟩) (by simp <;> omega)).trans (by go_simp)
    have s1_1_2 : w1.cell? ⟨w.heap.size + 1, 2, none⟩ = some (.int .i64 0) := (hb1.cell (p := ⟨w.heap.size + 1, 2, none⟩) (by simp <;> omega)).trans (by go_simp)
    have z1_1_0 : w1.frozen? ⟨w.heap.size + 1, 0, none⟩ = false := (hb1.frozen (p := ⟨w.heap.size + 1, 0, none⟩) (by simp <;> omega)).trans (by go_simp)
    have z1_1_1 : w1.frozen? ⟨w.heap.size + 1, 1, none⟩ = false := (hb1.frozen (p := ⟨w.heap.size + 1, 1, none⟩) (by simp <;> omega)).trans (by go_simp)
    have z1_1_2 : w1.frozen? ⟨w.heap.size + 1, 2, none⟩ = false := (hb1.frozen (p := ⟨w.heap.size + 1, 2, none⟩) (by simp <;> omega)).trans (by go_simp)
    have H1 : Below w.heap.size w w1 := (((Below.refl _ _).alloc (Nat.le_refl _) _).alloc (by simp <;> omega) _).trans (hb1.mono (by simp <;> omega))
    clear hb1
    go_wp2
    refine bodyPost_ret (v := .tuple #[.agg #[.int .i64 0, .int .i64 0, .int .i64 0], .int .i64 240]) (by simp [results, Try.results14, go_sem, s1_1_0, s1_1_1, s1_1_2]) rfl ⟨rfl, ?_⟩
    exact ((H1.setCell (by simp <;> omega) _).setCell (by simp <;> omega) _).setCell (by simp <;> omega) _
  · rw [h] at HK
    obtain ⟨i1, i2, i3⟩ := (okI_iff _ _ _).1 h
    obtain ⟨j1, j2⟩ := i1
    obtain ⟨j3, j4⟩ := i2
    obtain ⟨j5, j6⟩ := i3
    have HS := Lib.hid fun w => rstamp14_any d w
    have HR := Lib.hid fun w => rratio14_any r w
    have ho : lmsOk [sL d, rL r] = ((sL d).ok && ((rL r).ok && true)) := rfl
    cases h1 : (sL d).ok
    · rw [h1] at HS ho
      have e0 : arrV o c p d r = ⟨0, 0, 0, 2⟩ := by unfold arrV chV; rw [h, ho]; rfl
      rw [e0]
      unfold Res.info
      dsimp only
      clear h e0
      go_enter Try.func14, Try.ntmps14
      go_wp2_with fail
      refine (HK.out _).mono ?_
      rintro e w1 ⟨rfl, hb1⟩
      have hz1_0 : w.heap.size < w1.heap.size := by have := hb1.size; simp at this; omega
      have s1_0_0 : w1.cell? ⟨w.heap.size, 0, none⟩ = some (.int .i64 o) := (hb1.cell (p := ⟨w.heap.size, 0, none⟩) (by simp <;> omega)).trans (by go_simp)
      have s1_0_1 : w1.cell? ⟨w.heap.size, 1, none⟩ = some (.int .i64 c) := (hb1.cell (p := ⟨w.heap.size, 1, none⟩) (by simp <;> omega)).trans (by go_simp)
      have s1_0_2 : w1.cell? ⟨w.heap.size, 2, none⟩ = some (.int .i64 p) := (hb1.cell (p := ⟨w.heap.size, 2, none⟩) (by simp <;> omega)).trans (by go_simp)
      have z1_0_0 : w1.frozen? ⟨w.heap.size, 0, none⟩ = false := (hb1.frozen (p := ⟨w.heap.size, 0, none⟩) (by simp <;> omega)).trans (by go_simp)
      have z1_0_1 : w1.frozen? ⟨w.heap.size, 1, none⟩ = false := (hb1.frozen (p := ⟨w.heap.size, 1, none⟩) (by simp <;> omega)).trans (by go_simp)
      have z1_0_2 : w1.frozen? ⟨w.heap.size, 2, none⟩ = false := (hb1.frozen (p := ⟨w.heap.size, 2, none⟩) (by simp <;> omega)).trans (by go_simp)
      have hz1_1 : w.heap.size + 1 < w1.heap.size := by have := hb1.size; simp at this; omega
      have s1_1_0 : w1.cell? ⟨w.heap.size + 1, 0, none⟩ = some (.int .i64 0) := (hb1.cell (p := ⟨w.heap.size + 1, 0, none⟩) (by simp <;> omega)).trans (by go_simp)
      have s1_1_1 : w1.cell? ⟨w.heap.size + 1, 1, none⟩ = some (.int .i64 0) := (hb1.cell (p := ⟨w.heap.size + 1, 1, none⟩) (by simp <;> omega)).trans (by go_simp)
      have s1_1_2 : w1.cell? ⟨w.heap.size + 1, 2, none⟩ = some (.int .i64 0) := (hb1.cell (p := ⟨w.heap.size + 1, 2, none⟩) (by simp <;> omega)).trans (by go_simp)
      have z1_1_0 : w1.frozen? ⟨w.heap.size + 1, 0, none⟩ = false := (hb1.frozen (p := ⟨w.heap.size + 1, 0, none⟩) (by simp <;> omega)).trans (by go_simp)
      have z1_1_1 : w1.frozen? ⟨w.heap.size + 1, 1, none⟩ = false := (hb1.frozen (p := ⟨w.heap.size + 1, 1, none⟩) (by simp <;> omega)).trans (by go_simp)
      have z1_1_2 : w1.frozen? ⟨w.heap.size + 1, 2, none⟩ = false := (hb1.frozen (p := ⟨w.heap.size + 1, 2, none⟩) (by simp <;> omega)).trans (by go_simp)
      have H1 : Below w.heap.size w w1 := (((Below.refl _ _).alloc (Nat.le_refl _) _).alloc (by simp <;> omega) _).trans (hb1.mono (by simp <;> omega))
      clear hb1
      go_wp2_with fail
      refine (HS.out _).mono ?_
      rintro e w2' ⟨rfl, hq⟩
      obtain rfl := hq.symm
      go_wp2
      refine bodyPost_ret (v := .tuple #[.agg #[.int .i64 0, .int .i64 0, .int .i64 0], .int .i64 2]) (by simp [results, Try.results14, go_sem, s1_1_0, s1_1_1, s1_1_2]) rfl ⟨rfl, ?_⟩
      exact ((H1.setCell (by simp <;> omega) _).setCell (by simp <;> omega) _).setCell (by simp <;> omega) _
    · rw [h1] at HS ho
      cases h2 : (rL r).ok
      · rw [h2] at HR ho
        have e0 : arrV o c p d r = ⟨0, 0, 0, 2⟩ := by unfold arrV chV; rw [h, ho]; rfl
        rw [e0]
        unfold Res.info
        dsimp only
        clear h e0
        go_enter Try.func14, Try.ntmps14
        go_wp2_with fail
        refine (HK.out _).mono ?_
        rintro e w1 ⟨rfl, hb1⟩
        have hz1_0 : w.heap.size < w1.heap.size := by have := hb1.size; simp at this; omega
        have s1_0_0 : w1.cell? ⟨w.heap.size, 0, none⟩ = some (.int .i64 o) := (hb1.cell (p := ⟨w.heap.size, 0, none⟩) (by simp <;> omega)).trans (by go_simp)
        have s1_0_1 : w1.cell? ⟨w.heap.size, 1, none⟩ = some (.int .i64 c) := (hb1.cell (p := ⟨w.heap.size, 1, none⟩) (by simp <;> omega)).trans (by go_simp)
        have s1_0_2 : w1.cell? ⟨w.heap.size, 2, none⟩ = some (.int .i64 p) := (hb1.cell (p := ⟨w.heap.size, 2, none⟩) (by simp <;> omega)).trans (by go_simp)
        have z1_0_0 : w1.frozen? ⟨w.heap.size, 0, none⟩ = false := (hb1.frozen (p := ⟨w.heap.size, 0, none⟩) (by simp <;> omega)).trans (by go_simp)
        have z1_0_1 : w1.frozen? ⟨w.heap.size, 1, none⟩ = false := (hb1.frozen (p := ⟨w.heap.size, 1, none⟩) (by simp <;> omega)).trans (by go_simp)
        have z1_0_2 : w1.frozen? ⟨w.heap.size, 2, none⟩ = false := (hb1.frozen (p := ⟨w.heap.size, 2, none⟩) (by simp <;> omega)).trans (by go_simp)
        have hz1_1 : w.heap.size + 1 < w1.heap.size := by have := hb1.size; simp at this; omega
        have s1_1_0 : w1.cell? ⟨w.heap.size + 1, 0, none⟩ = some (.int .i64 0) := (hb1.cell (p := ⟨w.heap.size + 1, 0, none⟩) (by simp <;> omega)).trans (by go_simp)
        have s1_1_1 : w1.cell? ⟨w.heap.size + 1, 1, none⟩ = some (.int .i64 0) := (hb1.cell (p := ⟨w.heap.size + 1, 1, none⟩) (by simp <;> omega)).trans (by go_simp)
        have s1_1_2 : w1.cell? ⟨w.heap.size + 1, 2, none⟩ = some (.int .i64 0) := (hb1.cell (p := ⟨w.heap.size + 1, 2, none⟩) (by simp <;> omega)).trans (by go_simp)
        have z1_1_0 : w1.frozen? ⟨w.heap.size + 1, 0, none⟩ = false := (hb1.frozen (p := ⟨w.heap.size + 1, 0, none⟩) (by simp <;> omega)).trans (by go_simp)
        have z1_1_1 : w1.frozen? ⟨w.heap.size + 1, 1, none⟩ = false := (hb1.frozen (p := ⟨w.heap.size + 1, 1, none⟩) (by simp <;> omega)).trans (by go_simp)
        have z1_1_2 : w1.frozen? ⟨w.heap.size + 1, 2, none⟩ = false := (hb1.frozen (p := ⟨w.heap.size + 1, 2, none⟩) (by simp <;> omega)).trans (by go_simp)
        have H1 : Below w.heap.size w w1 := (((Below.refl _ _).alloc (Nat.le_refl _) _).alloc (by simp <;> omega) _).trans (hb1.mono (by simp <;> omega))
        clear hb1
        go_wp2_with fail
        refine (HS.out _).mono ?_
        rintro e w2' ⟨rfl, hq⟩
        obtain rfl := hq.symm
        go_wp2_with fail
        refine (HR.out _).mono ?_
        rintro e w2' ⟨rfl, hq⟩
        obtain rfl := hq.symm
        go_wp2
        refine bodyPost_ret (v := .tuple #[.agg #[.int .i64 0, .int .i64 0, .int .i64 0], .int .i64 2]) (by simp [results, Try.results14, go_sem, s1_1_0, s1_1_1, s1_1_2]) rfl ⟨rfl, ?_⟩
        exact ((H1.setCell (by simp <;> omega) _).setCell (by simp <;> omega) _).setCell (by simp <;> omega) _
      · rw [h2] at HR ho
        have g1 := (rstamp14_any_iff d).1 h1
        have g2 := (rratio14_any_iff r).1 h2
        have e0 : arrV o c p d r = endV o (c + tickV d (p + r)) (p + r) := by unfold arrV chV endV; rw [h, ho]; rfl
        rw [e0]
        obtain ⟨q1, q2, q3, q4⟩ := tick_bd (x := d) (p := p + r) g1 (by omega)
        have HE := Lib.hid fun w => rend14_any o (c + tickV d (p + r)) (p + r) w
        obtain ⟨⟨A, B, C, E⟩, hV⟩ : ∃ V, endV o (c + tickV d (p + r)) (p + r) = V := ⟨_, rfl⟩
        rw [hV] at HE ⊢
        have HPt := Lib.hid fun w => part_any d (p + r) w (by omega) (by omega) (by omega) (by omega)
        unfold tickV at HE
        generalize d * (p + r) / 1000000000 = q at *
        have z1 : IntKind.i64.wrap (c + d) = c + d := IntWalk.i64_in _ (by omega)
        have z2 : IntKind.i64.wrap (c + d + q) = c + (d + q) := by rw [Int.add_assoc]; exact IntWalk.i64_in _ (by omega)
        have hp' : -16777216 ≤ p + r ∧ p + r ≤ 16777216 := by omega
        generalize hpr : p + r = p' at *
        have z3 : IntKind.i64.wrap (p + r) = p' := by rw [hpr]; exact IntWalk.i64_in _ (by omega)
        clear hpr
        generalize c + (d + q) = c' at *
        unfold Res.info
        dsimp only
        clear h e0 hV q1 q2
        go_enter Try.func14, Try.ntmps14
        go_wp2_with fail
        refine (HK.out _).mono ?_
        rintro e w1 ⟨rfl, hb1⟩
        have hz1_0 : w.heap.size < w1.heap.size := by have := hb1.size; simp at this; omega
        have s1_0_0 : w1.cell? ⟨w.heap.size, 0, none⟩ = some (.int .i64 o) := (hb1.cell (p := ⟨w.heap.size, 0, none⟩) (by simp <;> omega)).trans (by go_simp)
        have s1_0_1 : w1.cell? ⟨w.heap.size, 1, none⟩ = some (.int .i64 c) := (hb1.cell (p := ⟨w.heap.size, 1, none⟩) (by simp <;> omega)).trans (by go_simp)
        have s1_0_2 : w1.cell? ⟨w.heap.size, 2, none⟩ = some (.int .i64 p) := (hb1.cell (p := ⟨w.heap.size, 2, none⟩) (by simp <;> omega)).trans (by go_simp)
        have z1_0_0 : w1.frozen? ⟨w.heap.size, 0, none⟩ = false := (hb1.frozen (p := ⟨w.heap.size, 0, none⟩) (by simp <;> omega)).trans (by go_simp)
        have z1_0_1 : w1.frozen? ⟨w.heap.size, 1, none⟩ = false := (hb1.frozen (p := ⟨w.heap.size, 1, none⟩) (by simp <;> omega)).trans (by go_simp)
        have z1_0_2 : w1.frozen? ⟨w.heap.size, 2, none⟩ = false := (hb1.frozen (p := ⟨w.heap.size, 2, none⟩) (by simp <;> omega)).trans (by go_simp)
        have hz1_1 : w.heap.size + 1 < w1.heap.size := by have := hb1.size; simp at this; omega
        have s1_1_0 : w1.cell? ⟨w.heap.size + 1, 0, none⟩ = some (.int .i64 0) := (hb1.cell (p := ⟨w.heap.size + 1, 0, none⟩) (by simp <;> omega)).trans (by go_simp)
        have s1_1_1 : w1.cell? ⟨w.heap.size + 1, 1, none⟩ = some (.int .i64 0) := (hb1.cell (p := ⟨w.heap.size + 1, 1, none⟩) (by simp <;> omega)).trans (by go_simp)
        have s1_1_2 : w1.cell? ⟨w.heap.size + 1, 2, none⟩ = some (.int .i64 0) := (hb1.cell (p := ⟨w.heap.size + 1, 2, none⟩) (by simp <;> omega)).trans (by go_simp)
        have z1_1_0 : w1.frozen? ⟨w.heap.size + 1, 0, none⟩ = false := (hb1.frozen (p := ⟨w.heap.size + 1, 0, none⟩) (by simp <;> omega)).trans (by go_simp)
        have z1_1_1 : w1.frozen? ⟨w.heap.size + 1, 1, none⟩ = false := (hb1.frozen (p := ⟨w.heap.size + 1, 1, none⟩) (by simp <;> omega)).trans (by go_simp)
        have z1_1_2 : w1.frozen? ⟨w.heap.size + 1, 2, none⟩ = false := (hb1.frozen (p := ⟨w.heap.size + 1, 2, none⟩) (by simp <;> omega)).trans (by go_simp)
        have H1 : Below w.heap.size w w1 := (((Below.refl _ _).alloc (Nat.le_refl _) _).alloc (by simp <;> omega) _).trans (hb1.mono (by simp <;> omega))
        clear hb1
        go_wp2_with fail
        refine (HS.out _).mono ?_
        rintro e w2' ⟨rfl, hq⟩
        obtain rfl := hq.symm
        go_wp2_with fail
        refine (HR.out _).mono ?_
        rintro e w2' ⟨rfl, hq⟩
        obtain rfl := hq.symm
        have hI : InfoAt w1 w.heap.size o c p := ⟨s1_0_0, s1_0_1, s1_0_2, z1_0_0, z1_0_1, z1_0_2⟩
        have hZ : InfoAt w1 (w.heap.size + 1) 0 0 0 := ⟨s1_1_0, s1_1_1, s1_1_2, z1_1_0, z1_1_1, z1_1_2⟩
        go_wp2_with fail
        have hI := info_set2 (p' := p') hI
        have hZ := hZ.other (b' := w.heap.size) (k := 2) (v := .int .i64 p') (by omega)
        have H9 := H1.setCell (p := ⟨w.heap.size, 2, none⟩) (Nat.le_refl _) (.int .i64 p')
        refine wp_gen ?_
        rintro w9 hg
        rw [← hg] at hI hZ H9
        clear hg
        refine wp_region_put (R := Unit) [26, 27, 28, 29, 30, 31, 32, 33, 34, 35]
          (fun _ => [.pointer (some ⟨w.heap.size, 1, none⟩), .int .i64 c, .int .i64 d, .int .i64 (c + d), .int .i64 d, .pointer (some ⟨w.heap.size, 2, none⟩), .int .i64 p', .int .i64 q, .int .i64 c', .pointer (some ⟨w.heap.size, 1, none⟩)])
          (fun L _ wx => Below w.heap.size w9 wx ∧ InfoAt wx w.heap.size o (if L 10 then c' else c) p' ∧ InfoAt wx (w.heap.size + 1) 0 0 0 ∧ (L 10 = true → L 1 = true))
          (by kernel_rfl) (by kernel_rfl) (by kernel_rfl) () ?_ ?_ ?_
        · exact ⟨(Below.refl _ _).drew, by simpa using hI.below (Below.refl _ _).drew, hZ.below (Below.refl _ _).drew, fun h => absurd h (by decide)⟩
        · simp only [putAll, Act.put, List.setIfInBounds_toArray, List.set_cons_succ, List.set_cons_zero]
          refine ⟨?_, ?_, ?_, ?_, ?_, ?_, ?_, ?_, ?_, ?_, ?_, trivial⟩
          all_goals
            rintro L ⟨⟩ wx K hLi hdep ⟨hB, h1, h2, h10⟩ hK
            obtain ⟨a0, a1, a2, b0, b1, b2⟩ := id h1
          · go_simp
            exact hK () wx ⟨hB, by simpa using h1, h2, by simpa using h10⟩
          · have hn : L 10 = false := by
              cases e : L 10
              · rfl
              · rw [h10 e] at hLi; cases hLi
            rw [hn] at a1
            simp only [Bool.false_eq_true, if_false] at a1
            go_simp
            exact hK () wx ⟨hB, by simpa using h1, h2, by simp [hn]⟩
          · go_simp
            exact hK () wx ⟨hB, by simpa using h1, h2, by simpa using h10⟩
          · go_simp
            exact hK () wx ⟨hB, by simpa using h1, h2, by simpa using h10⟩
          · go_simp
            exact hK () wx ⟨hB, by simpa using h1, h2, by simpa using h10⟩
          · go_simp
            exact hK () wx ⟨hB, by simpa using h1, h2, by simpa using h10⟩
          · go_simp
            exact hK () wx ⟨hB, by simpa using h1, h2, by simpa using h10⟩
          · go_simp
            refine (HPt.out _).mono ?_
            rintro e w' ⟨rfl, rfl⟩
            exact hK () _ ⟨hB, by simpa using h1, h2, by simpa using h10⟩
          · go_simp
            exact hK () wx ⟨hB, by simpa using h1, h2, by simpa using h10⟩
          · go_simp
            exact hK () wx ⟨hB, by simpa using h1, h2, by simpa using h10⟩
          · have h4 : L 1 = true := hdep ⟨1, .phase⟩ (by simp) rfl
            go_simp
            exact hK () _ ⟨hB.setCell (Nat.le_refl _) _, by simpa using info_set1 h1, h2.other (by omega), fun _ => by simp [h4]⟩
        rintro ⟨⟩ wx ⟨hB, h1, h2, _⟩
        simp only [if_true] at h1
        simp only [putAll, Act.put, List.setIfInBounds_toArray, List.set_cons_succ, List.set_cons_zero]
        have HX := H9.trans hB
        obtain ⟨a0, a1, a2, _, _, _⟩ := h1
        go_wp2_with fail
        refine (HE.out _).mono ?_
        rintro e wy ⟨rfl, hb⟩
        have h2 := h2.below hb
        obtain ⟨k0, k1, k2, _, _, _⟩ := id h2
        obtain ⟨_, _, _, g0, g1, g2⟩ := id h2
        have hzx := cell_lt a0
        have HY := HX.trans (hb.mono (Nat.le_of_lt hzx))
        unfold Res.info
        dsimp only
        go_wp2
        refine bodyPost_ret (v := .tuple #[.agg #[.int .i64 A, .int .i64 B, .int .i64 C], .int .i64 E]) (by simp [results, Try.results14, go_sem, k0, k1, k2]) rfl ⟨rfl, ?_⟩
        exact ((HY.setCell (by simp) _).setCell (by simp) _).setCell (by simp) _
set_option maxRecDepth 100000 in
set_option maxHeartbeats 2000000 in
theorem rleave_any (o c p x : Int) (w : World) : Calls Try.prog 16 #[.agg #[.int .i64 o, .int .i64 c, .int .i64 p], .int .i64 x] w fun e w' => e = .returned (.tuple #[(leaV o c p x).info, .int .i64 (leaV o c p x).e]) ∧ Below w.heap.size w w' := by
  have HK := Lib.hid fun w => rright14_any o c p w
  cases h : okI o c p
  · have e0 : leaV o c p x = ⟨0, 0, 0, 240⟩ := by unfold leaV chV; rw [h]; rfl
    rw [e0]
    unfold Res.info
    dsimp only
    rw [h] at HK
    clear h e0
    go_enter Try.func16, Try.ntmps16
    go_wp2_with fail
    refine (HK.out _).mono ?_
    rintro e w1 ⟨rfl, hb1⟩
    have hz1_0 : w.heap.size < w1.heap.size := by have := hb1.size; simp at this; omega
    have s1_0_0 : w1.cell? ⟨w.heap.size, 0, none⟩ = some (.int .i64 o) := (hb1.cell (p := ⟨w.heap.size, 0, none⟩) (by simp <;> omega)).trans (by go_simp)
    have s1_0_1 : w1.cell? ⟨w.heap.size, 1, none⟩ = some (.int .i64 c) := (hb1.cell (p := ⟨w.heap.size, 1, none⟩) (by simp <;> omega)).trans (by go_simp)
    have s1_0_2 : w1.cell? ⟨w.heap.size, 2, none⟩ = some (.int .i64 p) := (hb1.cell (p := ⟨w.heap.size, 2, none⟩) (by simp <;> omega)).trans (by go_simp)
    have z1_0_0 : w1.frozen? ⟨w.heap.size, 0, none⟩ = false := (hb1.frozen (p := ⟨w.heap.size, 0, none⟩) (by simp <;> omega)).trans (by go_simp)
    have z1_0_1 : w1.frozen? ⟨w.heap.size, 1, none⟩ = false := (hb1.frozen (p := ⟨w.heap.size, 1, none⟩) (by simp <;> omega)).trans (by go_simp)
    have z1_0_2 : w1.frozen? ⟨w.heap.size, 2, none⟩ = false := (hb1.frozen (p := ⟨w.heap.size, 2, none⟩) (by simp <;> omega)).trans (by go_simp)
    have hz1_1 : w.heap.size + 1 < w1.heap.size := by have := hb1.size; simp at this; omega
    have s1_1_0 : w1.cell? ⟨w.heap.size + 1, 0, none⟩ = some (.int .i64 0) := (hb1.cell (p := ⟨w.heap.size + 1, 0, none⟩) (by simp <;> omega)).trans (by go_simp)
    have s1_1_1 : w1.cell? ⟨w.heap.size + 1, 1, none⟩ = some (.int .i64 0) := (hb1.cell (p := ⟨w.heap.size + 1, 1, none⟩) (by simp <;> omega)).trans (by go_simp)
    have s1_1_2 : w1.cell? ⟨w.heap.size + 1, 2, none⟩ = some (.int .i64 0) := (hb1.cell (p := ⟨w.heap.size + 1, 2, none⟩) (by simp <;> omega)).trans (by go_simp)
    have z1_1_0 : w1.frozen? ⟨w.heap.size + 1, 0, none⟩ = false := (hb1.frozen (p := ⟨w.heap.size + 1, 0, none⟩) (by simp <;> omega)).trans (by go_simp)
    have z1_1_1 : w1.frozen? ⟨w.heap.size + 1, 1, none⟩ = false := (hb1.frozen (p := ⟨w.heap.size + 1, 1, none⟩) (by simp <;> omega)).trans (by go_simp)
    have z1_1_2 : w1.frozen? ⟨w.heap.size + 1, 2, none⟩ = false := (hb1.frozen (p := ⟨w.heap.size + 1, 2, none⟩) (by simp <;> omega)).trans (by go_simp)
    have H1 : Below w.heap.size w w1 := (((Below.refl _ _).alloc (Nat.le_refl _) _).alloc (by simp <;> omega) _).trans (hb1.mono (by simp <;> omega))
    clear hb1
    go_wp2
    refine bodyPost_ret (v := .tuple #[.agg #[.int .i64 0, .int .i64 0, .int .i64 0], .int .i64 240]) (by simp [results, Try.results16, go_sem, s1_1_0, s1_1_1, s1_1_2]) rfl ⟨rfl, ?_⟩
    exact ((H1.setCell (by simp <;> omega) _).setCell (by simp <;> omega) _).setCell (by simp <;> omega) _
  · rw [h] at HK
    obtain ⟨i1, i2, i3⟩ := (okI_iff _ _ _).1 h
    obtain ⟨j1, j2⟩ := i1
    obtain ⟨j3, j4⟩ := i2
    obtain ⟨j5, j6⟩ := i3
    have ho : lmsOk [xL x] = (decide (0 ≤ x) && decide (x ≤ 1099511627776) && true) := rfl
    by_cases h1 : 0 ≤ x
    · by_cases h2 : x ≤ 1099511627776
      · rw [decide_eq_true h1, decide_eq_true h2] at ho
        have g1 : -4398046511104 ≤ x ∧ x ≤ 4398046511104 := by omega
        have h3 : ¬ 1099511627776 < x := by omega
        have h4 : ¬ x < 0 := by omega
        have e0 : leaV o c p x = endV o (c + tickV x (p)) (p) := by unfold leaV chV endV; rw [h, ho]; rfl
        rw [e0]
        obtain ⟨q1, q2, q3, q4⟩ := tick_bd (x := x) (p := p) g1 (by omega)
        have HE := Lib.hid fun w => rend14_any o (c + tickV x (p)) (p) w
        obtain ⟨⟨A, B, C, E⟩, hV⟩ : ∃ V, endV o (c + tickV x (p)) (p) = V := ⟨_, rfl⟩
        rw [hV] at HE ⊢
        have HPt := Lib.hid fun w => part_any x (p) w (by omega) (by omega) (by omega) (by omega)
        unfold tickV at HE
        generalize x * (p) / 1000000000 = q at *
        have z1 : IntKind.i64.wrap (c + x) = c + x := IntWalk.i64_in _ (by omega)
        have z2 : IntKind.i64.wrap (c + x + q) = c + (x + q) := by rw [Int.add_assoc]; exact IntWalk.i64_in _ (by omega)
        generalize c + (x + q) = c' at *
        unfold Res.info
        dsimp only
        clear h e0 hV q1 q2
        go_enter Try.func16, Try.ntmps16
        go_wp2_with fail
        refine (HK.out _).mono ?_
        rintro e w1 ⟨rfl, hb1⟩
        have hz1_0 : w.heap.size < w1.heap.size := by have := hb1.size; simp at this; omega
        have s1_0_0 : w1.cell? ⟨w.heap.size, 0, none⟩ = some (.int .i64 o) := (hb1.cell (p := ⟨w.heap.size, 0, none⟩) (by simp <;> omega)).trans (by go_simp)
        have s1_0_1 : w1.cell? ⟨w.heap.size, 1, none⟩ = some (.int .i64 c) := (hb1.cell (p := ⟨w.heap.size, 1, none⟩) (by simp <;> omega)).trans (by go_simp)
        have s1_0_2 : w1.cell? ⟨w.heap.size, 2, none⟩ = some (.int .i64 p) := (hb1.cell (p := ⟨w.heap.size, 2, none⟩) (by simp <;> omega)).trans (by go_simp)
        have z1_0_0 : w1.frozen? ⟨w.heap.size, 0, none⟩ = false := (hb1.frozen (p := ⟨w.heap.size, 0, none⟩) (by simp <;> omega)).trans (by go_simp)
        have z1_0_1 : w1.frozen? ⟨w.heap.size, 1, none⟩ = false := (hb1.frozen (p := ⟨w.heap.size, 1, none⟩) (by simp <;> omega)).trans (by go_simp)
        have z1_0_2 : w1.frozen? ⟨w.heap.size, 2, none⟩ = false := (hb1.frozen (p := ⟨w.heap.size, 2, none⟩) (by simp <;> omega)).trans (by go_simp)
        have hz1_1 : w.heap.size + 1 < w1.heap.size := by have := hb1.size; simp at this; omega
        have s1_1_0 : w1.cell? ⟨w.heap.size + 1, 0, none⟩ = some (.int .i64 0) := (hb1.cell (p := ⟨w.heap.size + 1, 0, none⟩) (by simp <;> omega)).trans (by go_simp)
        have s1_1_1 : w1.cell? ⟨w.heap.size + 1, 1, none⟩ = some (.int .i64 0) := (hb1.cell (p := ⟨w.heap.size + 1, 1, none⟩) (by simp <;> omega)).trans (by go_simp)
        have s1_1_2 : w1.cell? ⟨w.heap.size + 1, 2, none⟩ = some (.int .i64 0) := (hb1.cell (p := ⟨w.heap.size + 1, 2, none⟩) (by simp <;> omega)).trans (by go_simp)
        have z1_1_0 : w1.frozen? ⟨w.heap.size + 1, 0, none⟩ = false := (hb1.frozen (p := ⟨w.heap.size + 1, 0, none⟩) (by simp <;> omega)).trans (by go_simp)
        have z1_1_1 : w1.frozen? ⟨w.heap.size + 1, 1, none⟩ = false := (hb1.frozen (p := ⟨w.heap.size + 1, 1, none⟩) (by simp <;> omega)).trans (by go_simp)
        have z1_1_2 : w1.frozen? ⟨w.heap.size + 1, 2, none⟩ = false := (hb1.frozen (p := ⟨w.heap.size + 1, 2, none⟩) (by simp <;> omega)).trans (by go_simp)
        have H1 : Below w.heap.size w w1 := (((Below.refl _ _).alloc (Nat.le_refl _) _).alloc (by simp <;> omega) _).trans (hb1.mono (by simp <;> omega))
        clear hb1
        have hI : InfoAt w1 w.heap.size o c p := ⟨s1_0_0, s1_0_1, s1_0_2, z1_0_0, z1_0_1, z1_0_2⟩
        have hZ : InfoAt w1 (w.heap.size + 1) 0 0 0 := ⟨s1_1_0, s1_1_1, s1_1_2, z1_1_0, z1_1_1, z1_1_2⟩
        go_wp2_with fail
        refine wp_region_put (R := Unit) [17, 18, 19, 20, 21, 22, 23, 24, 25, 26]
          (fun _ => [.pointer (some ⟨w.heap.size, 1, none⟩), .int .i64 c, .int .i64 x, .int .i64 (c + x), .int .i64 x, .pointer (some ⟨w.heap.size, 2, none⟩), .int .i64 p, .int .i64 q, .int .i64 c', .pointer (some ⟨w.heap.size, 1, none⟩)])
          (fun L _ wx => Below w.heap.size w1 wx ∧ InfoAt wx w.heap.size o (if L 10 then c' else c) p ∧ InfoAt wx (w.heap.size + 1) 0 0 0 ∧ (L 10 = true → L 1 = true))
          (by kernel_rfl) (by kernel_rfl) (by kernel_rfl) () ?_ ?_ ?_
        · exact ⟨(Below.refl _ _).drew, by simpa using hI.below (Below.refl _ _).drew, hZ.below (Below.refl _ _).drew, fun h => absurd h (by decide)⟩
        · simp only [putAll, Act.put, List.setIfInBounds_toArray, List.set_cons_succ, List.set_cons_zero]
          refine ⟨?_, ?_, ?_, ?_, ?_, ?_, ?_, ?_, ?_, ?_, ?_, trivial⟩
          all_goals
            rintro L ⟨⟩ wx K hLi hdep ⟨hB, h1, h2, h10⟩ hK
            obtain ⟨a0, a1, a2, b0, b1, b2⟩ := id h1
          · go_simp
            exact hK () wx ⟨hB, by simpa using h1, h2, by simpa using h10⟩
          · have hn : L 10 = false := by
              cases e : L 10
              · rfl
              · rw [h10 e] at hLi; cases hLi
            rw [hn] at a1
            simp only [Bool.false_eq_true, if_false] at a1
            go_simp
            exact hK () wx ⟨hB, by simpa using h1, h2, by simp [hn]⟩
          · go_simp
            exact hK () wx ⟨hB, by simpa using h1, h2, by simpa using h10⟩
          · go_simp
            exact hK () wx ⟨hB, by simpa using h1, h2, by simpa using h10⟩
          · go_simp
            exact hK () wx ⟨hB, by simpa using h1, h2, by simpa using h10⟩
          · go_simp
            exact hK () wx ⟨hB, by simpa using h1, h2, by simpa using h10⟩
          · go_simp
            exact hK () wx ⟨hB, by simpa using h1, h2, by simpa using h10⟩
          · go_simp
            refine (HPt.out _).mono ?_
            rintro e w' ⟨rfl, rfl⟩
            exact hK () _ ⟨hB, by simpa using h1, h2, by simpa using h10⟩
          · go_simp
            exact hK () wx ⟨hB, by simpa using h1, h2, by simpa using h10⟩
          · go_simp
            exact hK () wx ⟨hB, by simpa using h1, h2, by simpa using h10⟩
          · have h4 : L 1 = true := hdep ⟨1, .phase⟩ (by simp) rfl
            go_simp
            exact hK () _ ⟨hB.setCell (Nat.le_refl _) _, by simpa using info_set1 h1, h2.other (by omega), fun _ => by simp [h4]⟩
        rintro ⟨⟩ wx ⟨hB, h1, h2, _⟩
        simp only [if_true] at h1
        simp only [putAll, Act.put, List.setIfInBounds_toArray, List.set_cons_succ, List.set_cons_zero]
        have HX := H1.trans hB
        obtain ⟨a0, a1, a2, _, _, _⟩ := h1
        go_wp2_with fail
        refine (HE.out _).mono ?_
        rintro e wy ⟨rfl, hb⟩
        have h2 := h2.below hb
        obtain ⟨k0, k1, k2, _, _, _⟩ := id h2
        obtain ⟨_, _, _, g0, g1, g2⟩ := id h2
        have hzx := cell_lt a0
        have HY := HX.trans (hb.mono (Nat.le_of_lt hzx))
        unfold Res.info
        dsimp only
        go_wp2
        refine bodyPost_ret (v := .tuple #[.agg #[.int .i64 A, .int .i64 B, .int .i64 C], .int .i64 E]) (by simp [results, Try.results16, go_sem, k0, k1, k2]) rfl ⟨rfl, ?_⟩
        exact ((HY.setCell (by simp) _).setCell (by simp) _).setCell (by simp) _
      · have h3 : 1099511627776 < x := by omega
        have h4 : ¬ x < 0 := by omega
        rw [decide_eq_true h1, decide_eq_false h2] at ho
        have e0 : leaV o c p x = ⟨0, 0, 0, 2⟩ := by unfold leaV chV; rw [h, ho]; rfl
        rw [e0]
        unfold Res.info
        dsimp only
        clear h e0
        go_enter Try.func16, Try.ntmps16
        go_wp2_with fail
        refine (HK.out _).mono ?_
        rintro e w1 ⟨rfl, hb1⟩
        have hz1_0 : w.heap.size < w1.heap.size := by have := hb1.size; simp at this; omega
        have s1_0_0 : w1.cell? ⟨w.heap.size, 0, none⟩ = some (.int .i64 o) := (hb1.cell (p := ⟨w.heap.size, 0, none⟩) (by simp <;> omega)).trans (by go_simp)
        have s1_0_1 : w1.cell? ⟨w.heap.size, 1, none⟩ = some (.int .i64 c) := (hb1.cell (p := ⟨w.heap.size, 1, none⟩) (by simp <;> omega)).trans (by go_simp)
        have s1_0_2 : w1.cell? ⟨w.heap.size, 2, none⟩ = some (.int .i64 p) := (hb1.cell (p := ⟨w.heap.size, 2, none⟩) (by simp <;> omega)).trans (by go_simp)
        have z1_0_0 : w1.frozen? ⟨w.heap.size, 0, none⟩ = false := (hb1.frozen (p := ⟨w.heap.size, 0, none⟩) (by simp <;> omega)).trans (by go_simp)
        have z1_0_1 : w1.frozen? ⟨w.heap.size, 1, none⟩ = false := (hb1.frozen (p := ⟨w.heap.size, 1, none⟩) (by simp <;> omega)).trans (by go_simp)
        have z1_0_2 : w1.frozen? ⟨w.heap.size, 2, none⟩ = false := (hb1.frozen (p := ⟨w.heap.size, 2, none⟩) (by simp <;> omega)).trans (by go_simp)
        have hz1_1 : w.heap.size + 1 < w1.heap.size := by have := hb1.size; simp at this; omega
        have s1_1_0 : w1.cell? ⟨w.heap.size + 1, 0, none⟩ = some (.int .i64 0) := (hb1.cell (p := ⟨w.heap.size + 1, 0, none⟩) (by simp <;> omega)).trans (by go_simp)
        have s1_1_1 : w1.cell? ⟨w.heap.size + 1, 1, none⟩ = some (.int .i64 0) := (hb1.cell (p := ⟨w.heap.size + 1, 1, none⟩) (by simp <;> omega)).trans (by go_simp)
        have s1_1_2 : w1.cell? ⟨w.heap.size + 1, 2, none⟩ = some (.int .i64 0) := (hb1.cell (p := ⟨w.heap.size + 1, 2, none⟩) (by simp <;> omega)).trans (by go_simp)
        have z1_1_0 : w1.frozen? ⟨w.heap.size + 1, 0, none⟩ = false := (hb1.frozen (p := ⟨w.heap.size + 1, 0, none⟩) (by simp <;> omega)).trans (by go_simp)
        have z1_1_1 : w1.frozen? ⟨w.heap.size + 1, 1, none⟩ = false := (hb1.frozen (p := ⟨w.heap.size + 1, 1, none⟩) (by simp <;> omega)).trans (by go_simp)
        have z1_1_2 : w1.frozen? ⟨w.heap.size + 1, 2, none⟩ = false := (hb1.frozen (p := ⟨w.heap.size + 1, 2, none⟩) (by simp <;> omega)).trans (by go_simp)
        have H1 : Below w.heap.size w w1 := (((Below.refl _ _).alloc (Nat.le_refl _) _).alloc (by simp <;> omega) _).trans (hb1.mono (by simp <;> omega))
        clear hb1
        go_wp2
        refine bodyPost_ret (v := .tuple #[.agg #[.int .i64 0, .int .i64 0, .int .i64 0], .int .i64 2]) (by simp [results, Try.results16, go_sem, s1_1_0, s1_1_1, s1_1_2]) rfl ⟨rfl, ?_⟩
        exact ((H1.setCell (by simp <;> omega) _).setCell (by simp <;> omega) _).setCell (by simp <;> omega) _
    · have h4 : x < 0 := by omega
      rw [decide_eq_false h1, Bool.false_and] at ho
      have e0 : leaV o c p x = ⟨0, 0, 0, 2⟩ := by unfold leaV chV; rw [h, ho]; rfl
      rw [e0]
      unfold Res.info
      dsimp only
      clear h e0
      go_enter Try.func16, Try.ntmps16
      go_wp2_with fail
      refine (HK.out _).mono ?_
      rintro e w1 ⟨rfl, hb1⟩
      have hz1_0 : w.heap.size < w1.heap.size := by have := hb1.size; simp at this; omega
      have s1_0_0 : w1.cell? ⟨w.heap.size, 0, none⟩ = some (.int .i64 o) := (hb1.cell (p := ⟨w.heap.size, 0, none⟩) (by simp <;> omega)).trans (by go_simp)
      have s1_0_1 : w1.cell? ⟨w.heap.size, 1, none⟩ = some (.int .i64 c) := (hb1.cell (p := ⟨w.heap.size, 1, none⟩) (by simp <;> omega)).trans (by go_simp)
      have s1_0_2 : w1.cell? ⟨w.heap.size, 2, none⟩ = some (.int .i64 p) := (hb1.cell (p := ⟨w.heap.size, 2, none⟩) (by simp <;> omega)).trans (by go_simp)
      have z1_0_0 : w1.frozen? ⟨w.heap.size, 0, none⟩ = false := (hb1.frozen (p := ⟨w.heap.size, 0, none⟩) (by simp <;> omega)).trans (by go_simp)
      have z1_0_1 : w1.frozen? ⟨w.heap.size, 1, none⟩ = false := (hb1.frozen (p := ⟨w.heap.size, 1, none⟩) (by simp <;> omega)).trans (by go_simp)
      have z1_0_2 : w1.frozen? ⟨w.heap.size, 2, none⟩ = false := (hb1.frozen (p := ⟨w.heap.size, 2, none⟩) (by simp <;> omega)).trans (by go_simp)
      have hz1_1 : w.heap.size + 1 < w1.heap.size := by have := hb1.size; simp at this; omega
      have s1_1_0 : w1.cell? ⟨w.heap.size + 1, 0, none⟩ = some (.int .i64 0) := (hb1.cell (p := ⟨w.heap.size + 1, 0, none⟩) (by simp <;> omega)).trans (by go_simp)
      have s1_1_1 : w1.cell? ⟨w.heap.size + 1, 1, none⟩ = some (.int .i64 0) := (hb1.cell (p := ⟨w.heap.size + 1, 1, none⟩) (by simp <;> omega)).trans (by go_simp)
      have s1_1_2 : w1.cell? ⟨w.heap.size + 1, 2, none⟩ = some (.int .i64 0) := (hb1.cell (p := ⟨w.heap.size + 1, 2, none⟩) (by simp <;> omega)).trans (by go_simp)
      have z1_1_0 : w1.frozen? ⟨w.heap.size + 1, 0, none⟩ = false := (hb1.frozen (p := ⟨w.heap.size + 1, 0, none⟩) (by simp <;> omega)).trans (by go_simp)
      have z1_1_1 : w1.frozen? ⟨w.heap.size + 1, 1, none⟩ = false := (hb1.frozen (p := ⟨w.heap.size + 1, 1, none⟩) (by simp <;> omega)).trans (by go_simp)
      have z1_1_2 : w1.frozen? ⟨w.heap.size + 1, 2, none⟩ = false := (hb1.frozen (p := ⟨w.heap.size + 1, 2, none⟩) (by simp <;> omega)).trans (by go_simp)
      have H1 : Below w.heap.size w w1 := (((Below.refl _ _).alloc (Nat.le_refl _) _).alloc (by simp <;> omega) _).trans (hb1.mono (by simp <;> omega))
      clear hb1
      go_wp2
      refine bodyPost_ret (v := .tuple #[.agg #[.int .i64 0, .int .i64 0, .int .i64 0], .int .i64 2]) (by simp [results, Try.results16, go_sem, s1_1_0, s1_1_1, s1_1_2]) rfl ⟨rfl, ?_⟩
      exact ((H1.setCell (by simp <;> omega) _).setCell (by simp <;> omega) _).setCell (by simp <;> omega) _
end Go.Proofs.Ytgdagfiebaebbaa
