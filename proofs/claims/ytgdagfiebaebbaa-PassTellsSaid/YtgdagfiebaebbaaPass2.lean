/- The package pass: Check: what it computes. -/
import Derived.Test.YtgdagfiebaebbaaPass1
import Derived.Test.YtgdagfiebaebbaaRegion
namespace Go.Proofs.Ytgdagfiebaebbaa
open Go.RowKit

theorem LmsAt.below {w w' : World} {b : Nat} {l : List Lm} (h : LmsAt w b l) (hb : Below w.heap.size w w') : LmsAt w' b l := fun k hk => by
  obtain ⟨q1, q2, q3⟩ := h k hk
  have hlt := cell_lt q1
  exact ⟨(hb.cell (p := ⟨b, k * 3, none⟩) hlt).trans q1, (hb.cell (p := ⟨b, k * 3 + 1, none⟩) hlt).trans q2, (hb.cell (p := ⟨b, k * 3 + 2, none⟩) hlt).trans q3⟩
def sL (n : Int) : Lm := ⟨n, -4398046511104, 4398046511104⟩
def rL (n : Int) : Lm := ⟨n, -8388608, 8388608⟩
def okI (o c p : Int) : Bool := lmsOk [sL o, sL c, rL p]
theorem okI_iff (o c p : Int) : okI o c p = true ↔ (-4398046511104 ≤ o ∧ o ≤ 4398046511104) ∧ (-4398046511104 ≤ c ∧ c ≤ 4398046511104) ∧ (-8388608 ≤ p ∧ p ≤ 8388608) := by
  simp only [okI, lmsOk, Lm.ok, Bool.and_eq_true, Bool.and_true, decide_eq_true_eq]
  exact Iff.rfl
theorem lms_three (w : World) (T : TypeId) (o c p : Int) : LmsAt (w.alloc (.cells #[.int .i64 o, .int .i64 (-4398046511104), .int .i64 4398046511104, .int .i64 c, .int .i64 (-4398046511104), .int .i64 4398046511104, .int .i64 p, .int .i64 (-8388608), .int .i64 8388608] T)) w.heap.size [sL o, sL c, rL p] := fun k hk => by
  match k, hk with
  | 0, _ => exact ⟨by go_simp <;> rfl, by go_simp <;> rfl, by go_simp <;> rfl⟩
  | 1, _ => exact ⟨by go_simp <;> rfl, by go_simp <;> rfl, by go_simp <;> rfl⟩
  | 2, _ => exact ⟨by go_simp <;> rfl, by go_simp <;> rfl, by go_simp <;> rfl⟩
set_option maxRecDepth 100000 in
set_option maxHeartbeats 2000000 in
theorem pcheck_true {o c p : Int} (hok : okI o c p = true) (w : World) :
    Calls Try.prog 17 #[.agg #[.int .i64 o, .int .i64 c, .int .i64 p]] w fun e w' => e = .returned (.int .i64 0) ∧ Below w.heap.size w w' := by
  have HK := Lib.hid hok
  clear hok
  go_enter Try.func17, Try.ntmps17
  go_wp2_with fail
  refine wp_region_put (R := Nat) [3, 4, 5, 6, 7, 8, 9, 10, 11, 12, 13, 14]
    (fun r => [.pointer (some ⟨w.heap.size, 0, none⟩), .int .i64 o, .agg #[.int .i64 o, .int .i64 (-4398046511104), .int .i64 4398046511104], .pointer (some ⟨w.heap.size, 1, none⟩), .int .i64 c, .agg #[.int .i64 c, .int .i64 (-4398046511104), .int .i64 4398046511104], .pointer (some ⟨w.heap.size, 2, none⟩), .int .i64 p, .agg #[.int .i64 p, .int .i64 (-8388608), .int .i64 8388608], .slice (some ⟨r, 0, none⟩) 3 3, .bool true, .bool false])
    (fun L r wx => Below (w.heap.size + 1) (w.alloc (.cells #[.int .i64 o, .int .i64 c, .int .i64 p] 23)) wx ∧ (L 9 = true → LmsAt wx r [sL o, sL c, rL p]))
    (by kernel_rfl) (by kernel_rfl) (by kernel_rfl) 0 ?_ ?_ ?_
  · exact ⟨(Below.refl _ _).drew, fun h => absurd h (by decide)⟩
  · refine ⟨?_, ?_, ?_, ?_, ?_, ?_, ?_, ?_, ?_, ?_, ?_, ?_, trivial⟩
    all_goals
      rintro L r wx K hLi hdep ⟨hB, h9⟩ hK
      have hz := hB.size
      have c0 : wx.cell? ⟨w.heap.size, 0, none⟩ = some (.int .i64 o) := (hB.cell (p := ⟨w.heap.size, 0, none⟩) (by simp)).trans (by go_simp)
      have c1 : wx.cell? ⟨w.heap.size, 1, none⟩ = some (.int .i64 c) := (hB.cell (p := ⟨w.heap.size, 1, none⟩) (by simp)).trans (by go_simp)
      have c2 : wx.cell? ⟨w.heap.size, 2, none⟩ = some (.int .i64 p) := (hB.cell (p := ⟨w.heap.size, 2, none⟩) (by simp)).trans (by go_simp)
      simp only [putAll, Act.put, List.setIfInBounds_toArray, List.set_cons_succ, List.set_cons_zero] at hK ⊢
      go_simp
    · exact hK r wx ⟨hB, by simpa using h9⟩
    · exact hK r wx ⟨hB, by simpa using h9⟩
    · refine (pstamp_any o _).mono ?_
      rintro e w' ⟨rfl, hb⟩
      exact hK r w' ⟨hB.trans (hb.mono (by simpa using hz)), fun h => (h9 (by simpa using h)).below hb⟩
    · exact hK r wx ⟨hB, by simpa using h9⟩
    · exact hK r wx ⟨hB, by simpa using h9⟩
    · refine (pstamp_any c _).mono ?_
      rintro e w' ⟨rfl, hb⟩
      exact hK r w' ⟨hB.trans (hb.mono (by simpa using hz)), fun h => (h9 (by simpa using h)).below hb⟩
    · exact hK r wx ⟨hB, by simpa using h9⟩
    · exact hK r wx ⟨hB, by simpa using h9⟩
    · refine (pratio_any p _).mono ?_
      rintro e w' ⟨rfl, hb⟩
      exact hK r w' ⟨hB.trans (hb.mono (by simpa using hz)), fun h => (h9 (by simpa using h)).below hb⟩
    · exact hK wx.heap.size _ ⟨hB.alloc (by simpa using hz) _, fun _ => lms_three wx _ o c p⟩
    · have hl := h9 (hdep ⟨9, .data⟩ (by simp) rfl)
      have hw := pwithin_any r 3 _ wx rfl (by omega) (Lib.hid hl)
      rw [show lmsOk [sL o, sL c, rL p] = _ from HK.out] at hw
      refine hw.mono ?_
      rintro e w' ⟨rfl, hb⟩
      exact hK r w' ⟨hB.trans (hb.mono (by simpa using hz)), fun h => (h9 (by simpa using h)).below hb⟩
    · exact hK r wx ⟨hB, by simpa using h9⟩
  rintro r wx ⟨hB, _⟩
  have H : Below w.heap.size w wx := ((Below.refl _ _).alloc (Nat.le_refl _) _).trans (hB.mono (by simp))
  simp only [putAll, Act.put, List.setIfInBounds_toArray, List.set_cons_succ, List.set_cons_zero]
  go_wp2
  go_ret
  exact ⟨rfl, H⟩
set_option maxRecDepth 100000 in
set_option maxHeartbeats 2000000 in
theorem pcheck_false {o c p : Int} (hok : okI o c p = false) (w : World) :
    Calls Try.prog 17 #[.agg #[.int .i64 o, .int .i64 c, .int .i64 p]] w fun e w' => e = .returned (.int .i64 240) ∧ Below w.heap.size w w' := by
  have HK := Lib.hid hok
  clear hok
  go_enter Try.func17, Try.ntmps17
  go_wp2_with fail
  refine wp_region_put (R := Nat) [3, 4, 5, 6, 7, 8, 9, 10, 11, 12, 13, 14]
    (fun r => [.pointer (some ⟨w.heap.size, 0, none⟩), .int .i64 o, .agg #[.int .i64 o, .int .i64 (-4398046511104), .int .i64 4398046511104], .pointer (some ⟨w.heap.size, 1, none⟩), .int .i64 c, .agg #[.int .i64 c, .int .i64 (-4398046511104), .int .i64 4398046511104], .pointer (some ⟨w.heap.size, 2, none⟩), .int .i64 p, .agg #[.int .i64 p, .int .i64 (-8388608), .int .i64 8388608], .slice (some ⟨r, 0, none⟩) 3 3, .bool false, .bool true])
    (fun L r wx => Below (w.heap.size + 1) (w.alloc (.cells #[.int .i64 o, .int .i64 c, .int .i64 p] 23)) wx ∧ (L 9 = true → LmsAt wx r [sL o, sL c, rL p]))
    (by kernel_rfl) (by kernel_rfl) (by kernel_rfl) 0 ?_ ?_ ?_
  · exact ⟨(Below.refl _ _).drew, fun h => absurd h (by decide)⟩
  · refine ⟨?_, ?_, ?_, ?_, ?_, ?_, ?_, ?_, ?_, ?_, ?_, ?_, trivial⟩
    all_goals
      rintro L r wx K hLi hdep ⟨hB, h9⟩ hK
      have hz := hB.size
      have c0 : wx.cell? ⟨w.heap.size, 0, none⟩ = some (.int .i64 o) := (hB.cell (p := ⟨w.heap.size, 0, none⟩) (by simp)).trans (by go_simp)
      have c1 : wx.cell? ⟨w.heap.size, 1, none⟩ = some (.int .i64 c) := (hB.cell (p := ⟨w.heap.size, 1, none⟩) (by simp)).trans (by go_simp)
      have c2 : wx.cell? ⟨w.heap.size, 2, none⟩ = some (.int .i64 p) := (hB.cell (p := ⟨w.heap.size, 2, none⟩) (by simp)).trans (by go_simp)
      simp only [putAll, Act.put, List.setIfInBounds_toArray, List.set_cons_succ, List.set_cons_zero] at hK ⊢
      go_simp
    · exact hK r wx ⟨hB, by simpa using h9⟩
    · exact hK r wx ⟨hB, by simpa using h9⟩
    · refine (pstamp_any o _).mono ?_
      rintro e w' ⟨rfl, hb⟩
      exact hK r w' ⟨hB.trans (hb.mono (by simpa using hz)), fun h => (h9 (by simpa using h)).below hb⟩
    · exact hK r wx ⟨hB, by simpa using h9⟩
    · exact hK r wx ⟨hB, by simpa using h9⟩
    · refine (pstamp_any c _).mono ?_
      rintro e w' ⟨rfl, hb⟩
      exact hK r w' ⟨hB.trans (hb.mono (by simpa using hz)), fun h => (h9 (by simpa using h)).below hb⟩
    · exact hK r wx ⟨hB, by simpa using h9⟩
    · exact hK r wx ⟨hB, by simpa using h9⟩
    · refine (pratio_any p _).mono ?_
      rintro e w' ⟨rfl, hb⟩
      exact hK r w' ⟨hB.trans (hb.mono (by simpa using hz)), fun h => (h9 (by simpa using h)).below hb⟩
    · exact hK wx.heap.size _ ⟨hB.alloc (by simpa using hz) _, fun _ => lms_three wx _ o c p⟩
    · have hl := h9 (hdep ⟨9, .data⟩ (by simp) rfl)
      have hw := pwithin_any r 3 _ wx rfl (by omega) (Lib.hid hl)
      rw [show lmsOk [sL o, sL c, rL p] = _ from HK.out] at hw
      refine hw.mono ?_
      rintro e w' ⟨rfl, hb⟩
      exact hK r w' ⟨hB.trans (hb.mono (by simpa using hz)), fun h => (h9 (by simpa using h)).below hb⟩
    · exact hK r wx ⟨hB, by simpa using h9⟩
  rintro r wx ⟨hB, _⟩
  have H : Below w.heap.size w wx := ((Below.refl _ _).alloc (Nat.le_refl _) _).trans (hB.mono (by simp))
  simp only [putAll, Act.put, List.setIfInBounds_toArray, List.set_cons_succ, List.set_cons_zero]
  go_wp2
  go_ret
  exact ⟨rfl, H⟩
end Go.Proofs.Ytgdagfiebaebbaa
