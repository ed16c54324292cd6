/- ClockSpans: the walk of the law. -/
import Derived.Test.YtphinhebnekmlaaWorks09
import Derived.Test.YtphinhebnekmlaaDraft09
import Derived.Test.YtphinhebnekmlaaRef09b
namespace Go.Proofs.Ytphinhebnekmlaa
open Go.RowKit Go.Shelf

set_option maxRecDepth 100000 in
set_option maxHeartbeats 2000000 in
theorem law3_walk (o p x1 y1 x2 y2 t n ppb : Int) (w : World) :
    Calls Try.prog 5 #[.agg #[.int .i64 o, .int .i64 p], .agg #[.int .i64 x1, .int .i32 y1, .int .i64 x2, .int .i32 y2], .int .i64 t, .int .i64 n, .int .i64 ppb] w fun e w' => e = .returned (.bool true) ∧ Below w.heap.size w w' := by
  have HD1 := Lib.hid fun w => draft_any x1 y1 w
  have HD2 := Lib.hid fun w => draft_any x2 y2 w
  generalize dO x1 = o1 at *
  generalize dP y1 = p1 at *
  generalize dO x2 = o2 at *
  generalize dP y2 = p2 at *
  go_enter Try.func5, Try.ntmps5
  go_wp2_with fail
  refine (works09 _).mono ?_
  rintro e w1 ⟨rfl, hb1⟩
  have H1 : Below w.heap.size w w1 := (((Below.refl _ _).alloc (Nat.le_refl _) _).alloc (by simp) _).trans (hb1.mono (by simp <;> omega))
  have hz1 : w.heap.size + 1 < w1.heap.size := by have := hb1.size; simp at this; omega
  have hz0 : w.heap.size < w1.heap.size := by omega
  have k1 : w1.cell? ⟨w.heap.size, 0, none⟩ = some (.int .i64 o) := (hb1.cell (p := ⟨w.heap.size, 0, none⟩) (by simp <;> omega)).trans (by go_simp)
  have k2 : w1.cell? ⟨w.heap.size, 1, none⟩ = some (.int .i64 p) := (hb1.cell (p := ⟨w.heap.size, 1, none⟩) (by simp <;> omega)).trans (by go_simp)
  have k3 : w1.cell? ⟨w.heap.size + 1, 0, none⟩ = some (.int .i64 x1) := (hb1.cell (p := ⟨w.heap.size + 1, 0, none⟩) (by simp <;> omega)).trans (by go_simp)
  have k4 : w1.cell? ⟨w.heap.size + 1, 1, none⟩ = some (.int .i32 y1) := (hb1.cell (p := ⟨w.heap.size + 1, 1, none⟩) (by simp <;> omega)).trans (by go_simp)
  have k5 : w1.cell? ⟨w.heap.size + 1, 2, none⟩ = some (.int .i64 x2) := (hb1.cell (p := ⟨w.heap.size + 1, 2, none⟩) (by simp <;> omega)).trans (by go_simp)
  have k6 : w1.cell? ⟨w.heap.size + 1, 3, none⟩ = some (.int .i32 y2) := (hb1.cell (p := ⟨w.heap.size + 1, 3, none⟩) (by simp <;> omega)).trans (by go_simp)
  clear hb1
  go_wp2_with fail
  have F1 := Bw.cell hz0 k1
  have F2 := Bw.cell hz0 k2
  have F3 := Bw.cell hz1 k3
  have F4 := Bw.cell hz1 k4
  refine wp_region_bw (by kernel_rfl) (by kernel_rfl) ?_
  repeat (go_big_quiet_step ((go_at_call 11; exact Calls.bw_of (HD1.out _))))
  refine wpQuiet_nil ?_
  rintro _ ⟨⟨w2, hw2⟩, rfl⟩
  clear F1 F2 F3 F4
  go_wp2_with fail
  go_loopw [28] (fun i wr => ∃ k : Nat, k ≤ 2 ∧ i = .int .i64 k ∧ Below w1.heap.size w1 wr) (fun i _ => 2 - (intOf i).toNat)
  case atStart => exact ⟨0, by omega, rfl, hw2⟩
  case round =>
    clear hw2 HD1
    obtain ⟨k, hk, rfl, hB⟩ := hrel
    have hcase : k = 2 ∨ ∃ oo pp : Int, k < 2 ∧ ∀ W, (Instr.index 28 (.agg #[.int .i64 o, .int .i64 p, .int .i64 o1, .int .i64 p1]) (.int .i64 k)).run Try.prog W = .ok (.agg #[.int .i64 oo, .int .i64 pp]) W := by
      rcases (by omega : k = 0 ∨ k = 1 ∨ k = 2) with rfl | rfl | rfl
      · exact Or.inr ⟨o, p, by omega, fun _ => by kernel_rfl⟩
      · exact Or.inr ⟨o1, p1, by omega, fun _ => by kernel_rfl⟩
      · exact Or.inl rfl
    rcases hcase with rfl | ⟨oo, pp, hk2, hix⟩
    · go_wp2_with fail
      refine (bound_any _ _ _).mono ?_
      rintro e w2 ⟨rfl, hb2⟩
      have hB2 := hB.trans (hb2.mono hB.size)
      go_wp2_with fail
      refine (refBound_any _ _ _).mono ?_
      rintro e w3 ⟨rfl, rfl⟩
      go_wp2
      go_ret
      exact ⟨rfl, H1.trans (hB2.mono H1.size)⟩
    · go_wp2_with fail
      refine (elapsed_any _ _ _ _ _).mono ?_
      rintro e w2 ⟨rfl, hb2⟩
      have hz2 : wr.heap.size < w2.heap.size := by have := hb2.size; simp at this; omega
      have j1 : w2.cell? ⟨wr.heap.size, 0, none⟩ = some (.int .i64 oo) := (hb2.cell (p := ⟨wr.heap.size, 0, none⟩) (by simp)).trans (by go_simp)
      have j2 : w2.cell? ⟨wr.heap.size, 1, none⟩ = some (.int .i64 pp) := (hb2.cell (p := ⟨wr.heap.size, 1, none⟩) (by simp)).trans (by go_simp)
      have hB2 : Below w1.heap.size w1 w2 := (hB.alloc hB.size _).trans (hb2.mono (by simp; have := hB.size; omega))
      clear hb2
      go_wp2_with fail
      refine (refElapsed_any _ _ _ _ _).mono ?_
      rintro e w3 ⟨rfl, hb3⟩
      have hB3 := hB2.trans (hb3.mono hB2.size)
      have hz3 := Nat.lt_of_lt_of_le hz2 hb3.size
      have j3 := (hb3.cell (p := ⟨wr.heap.size, 0, none⟩) hz2).trans j1
      have j4 := (hb3.cell (p := ⟨wr.heap.size, 1, none⟩) hz2).trans j2
      have j5 := (hB3.cell (p := ⟨w.heap.size + 1, 2, none⟩) hz1).trans k5
      have j6 := (hB3.cell (p := ⟨w.heap.size + 1, 3, none⟩) hz1).trans k6
      have hz1' := Nat.lt_of_lt_of_le hz1 hB3.size
      clear hb3 j1 j2 hz2
      go_wp2_with fail
      have F1 := Bw.cell hz3 j3
      have F2 := Bw.cell hz3 j4
      have F3 := Bw.cell hz1' j5
      have F4 := Bw.cell hz1' j6
      refine wp_region_bw (by kernel_rfl) (by kernel_rfl) ?_
      repeat (go_big_quiet_step ((first
        | (go_at_call 11; exact Calls.bw_of (HD2.out _))
        | (go_at_call 20; exact Calls.bw_of (offset_any _ _ _ _ _ _)))))
      refine wpQuiet_nil ?_
      rintro _ ⟨⟨w4, hw4⟩, rfl⟩
      have hx0 := hw4
      clear F1 F2 F3 F4
      have l0_0 := (hx0.cell (p := ⟨wr.heap.size, 0, none⟩) hz3).trans j3
      have l0_1 := (hx0.cell (p := ⟨wr.heap.size, 1, none⟩) hz3).trans j4
      have l0_2 := (hx0.cell (p := ⟨w.heap.size + 1, 2, none⟩) hz1').trans j5
      have l0_3 := (hx0.cell (p := ⟨w.heap.size + 1, 3, none⟩) hz1').trans j6
      have hy0 := Nat.lt_of_lt_of_le hz3 hx0.size
      have hu0 := Nat.lt_of_lt_of_le hz1' hx0.size
      go_wp2_with fail
      have F1 := Bw.cell hy0 l0_0
      have F2 := Bw.cell hy0 l0_1
      have F3 := Bw.cell hu0 l0_2
      have F4 := Bw.cell hu0 l0_3
      clear l0_0 l0_1 l0_2 l0_3
      refine wp_region_bw (by kernel_rfl) (by kernel_rfl) ?_
      repeat (go_big_quiet_step ((first
        | (go_at_call 11; exact Calls.bw_of (HD2.out _))
        | (go_at_call 21; exact Calls.bw_of (refOffset_any _ _ _ _ _ _)))))
      refine wpQuiet_nil ?_
      rintro _ ⟨⟨x0, hw5⟩, rfl⟩
      have hx1 := hx0.trans (hw5.mono hx0.size)
      clear F1 F2 F3 F4
      have l1_0 := (hx1.cell (p := ⟨wr.heap.size, 0, none⟩) hz3).trans j3
      have l1_1 := (hx1.cell (p := ⟨wr.heap.size, 1, none⟩) hz3).trans j4
      have l1_2 := (hx1.cell (p := ⟨w.heap.size + 1, 2, none⟩) hz1').trans j5
      have l1_3 := (hx1.cell (p := ⟨w.heap.size + 1, 3, none⟩) hz1').trans j6
      have hy1 := Nat.lt_of_lt_of_le hz3 hx1.size
      have hu1 := Nat.lt_of_lt_of_le hz1' hx1.size
      go_wp2_with fail
      have F1 := Bw.cell hy1 l1_0
      have F2 := Bw.cell hy1 l1_1
      have F3 := Bw.cell hu1 l1_2
      have F4 := Bw.cell hu1 l1_3
      clear l1_0 l1_1 l1_2 l1_3
      refine wp_region_bw (by kernel_rfl) (by kernel_rfl) ?_
      repeat (go_big_quiet_step ((first
        | (go_at_call 11; exact Calls.bw_of (HD2.out _))
        | (go_at_call 20; exact Calls.bw_of (offset_any _ _ _ _ _ _)))))
      refine wpQuiet_nil ?_
      rintro _ ⟨⟨x1, hw6⟩, rfl⟩
      have hx2 := hx1.trans (hw6.mono hx1.size)
      clear F1 F2 F3 F4
      have l2_0 := (hx2.cell (p := ⟨wr.heap.size, 0, none⟩) hz3).trans j3
      have l2_1 := (hx2.cell (p := ⟨wr.heap.size, 1, none⟩) hz3).trans j4
      have l2_2 := (hx2.cell (p := ⟨w.heap.size + 1, 2, none⟩) hz1').trans j5
      have l2_3 := (hx2.cell (p := ⟨w.heap.size + 1, 3, none⟩) hz1').trans j6
      have hy2 := Nat.lt_of_lt_of_le hz3 hx2.size
      have hu2 := Nat.lt_of_lt_of_le hz1' hx2.size
      go_wp2_with fail
      have F1 := Bw.cell hy2 l2_0
      have F2 := Bw.cell hy2 l2_1
      have F3 := Bw.cell hu2 l2_2
      have F4 := Bw.cell hu2 l2_3
      clear l2_0 l2_1 l2_2 l2_3
      refine wp_region_bw (by kernel_rfl) (by kernel_rfl) ?_
      repeat (go_big_quiet_step ((first
        | (go_at_call 11; exact Calls.bw_of (HD2.out _))
        | (go_at_call 21; exact Calls.bw_of (refOffset_any _ _ _ _ _ _)))))
      refine wpQuiet_nil ?_
      rintro _ ⟨⟨x2, hw7⟩, rfl⟩
      have hx3 := hx2.trans (hw7.mono hx2.size)
      go_wp2
      go_roundw
      case rel => exact ⟨k + 1, by omega, by go_num, hB3.trans (hx3.mono hB3.size)⟩
      case measure => simp [intOf]; omega
end Go.Proofs.Ytphinhebnekmlaa
