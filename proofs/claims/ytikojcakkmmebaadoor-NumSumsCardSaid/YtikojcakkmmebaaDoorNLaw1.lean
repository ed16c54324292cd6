/- NumSums: the walk of the law. -/
import Derived.Test.YtikojcakkmmebaaDoorNear
namespace Go.Proofs.YtikojcakkmmebaaDoor
open Go.RowKit

theorem wp_gen {P : Program} {c : Code} {Q : Exit → Act → World → Prop} {a : Act} {W : World} (h : ∀ w, w = W → c.wp P Q a w) : c.wp P Q a W := h _ rfl
set_option maxRecDepth 100000 in
set_option maxHeartbeats 2000000 in
theorem nlaw1_walk (a b p q : Int) (hp : 0 ≤ p ∧ p ≤ 255) (hq : 0 ≤ q ∧ q ≤ 255) (w : World) (hT : Hid (Tab w)) :
    Calls Tryd.prog 9 #[.agg #[.int .i64 a, .int .i64 b], .agg #[.int .u8 p, .int .u8 q]] w fun e w' => e = .returned (.bool true) ∧ Below w.heap.size w w' := by
  have HNa := Lib.hid fun w => near_any a p hp w
  have HNb := Lib.hid fun w => near_any b q hq w
  generalize nearV a p = na at *
  generalize nearV b q = nb at *
  go_enter Tryd.func9, Tryd.ntmps9
  go_wp2_with fail
  refine wp_gen ?_
  rintro w1 hg1
  have hz1_0 : w.heap.size < w1.heap.size := by rw [hg1]; simp <;> omega
  have s1_0_0 : w1.cell? ⟨w.heap.size, 0, none⟩ = some (.int .i64 a) := by rw [hg1]; go_simp
  have s1_0_1 : w1.cell? ⟨w.heap.size, 1, none⟩ = some (.int .i64 b) := by rw [hg1]; go_simp
  have hz1_1 : w.heap.size + 1 < w1.heap.size := by rw [hg1]; simp <;> omega
  have s1_1_0 : w1.cell? ⟨w.heap.size + 1, 0, none⟩ = some (.int .u8 p) := by rw [hg1]; go_simp
  have s1_1_1 : w1.cell? ⟨w.heap.size + 1, 1, none⟩ = some (.int .u8 q) := by rw [hg1]; go_simp
  have H1 : Below w.heap.size w w1 := by rw [hg1]; exact (((Below.refl _ _).alloc (Nat.le_refl _) _).alloc (by simp <;> omega) _)
  have T1 : Hid (Tab w1) := by rw [hg1]; exact (Tab.alloc (Tab.alloc hT _) _)
  clear hg1
  have F0 := Bw.cell hz1_0 s1_0_0
  have F1 := Bw.cell hz1_0 s1_0_1
  have F2 := Bw.cell hz1_1 s1_1_0
  have F3 := Bw.cell hz1_1 s1_1_1
  refine wp_region_bw (by kernel_rfl) (by kernel_rfl) ?_
  repeat (go_big_quiet_step ((first | (go_at_call_of 11 a; exact Calls.bw_same (HNa.out _)) | (go_at_call_of 11 b; exact Calls.bw_same (HNb.out _)))))
  refine wpQuiet_nil ?_
  rintro _ ⟨⟨w2, hb2⟩, rfl⟩
  clear F0 F1 F2 F3
  have H2 := H1.trans (hb2.mono H1.size)
  have T2 := Tab.below T1 hb2
  clear hb2 T1 H1
  clear HNa HNb
  go_wp2_with fail
  go_loopw [40] (fun i wr => ∃ k : Nat, k ≤ 3 ∧ i = .int .i64 k ∧ Below w.heap.size w wr ∧ Hid (Tab wr)) (fun i _ => 3 - (intOf i).toNat)
  case atStart => exact ⟨0, by omega, rfl, H2, T2⟩
  case round =>
    clear H2 T2
    obtain ⟨k, hk, rfl, hB, hTr⟩ := hrel
    have hcase : k = 3 ∨ ∃ x y : Int, k < 3 ∧ ∀ W, (Instr.index 26 (.agg #[.int .i64 a, .int .i64 b, .int .i64 na, .int .i64 nb, .int .i64 na, .int .i64 b]) (.int .i64 k)).run Tryd.prog W = .ok (.agg #[.int .i64 x, .int .i64 y]) W := by
      rcases (by omega : k = 0 ∨ k = 1 ∨ k = 2 ∨ k = 3) with rfl | rfl | rfl | rfl
      · exact Or.inr ⟨a, b, by omega, fun _ => by kernel_rfl⟩
      · exact Or.inr ⟨na, nb, by omega, fun _ => by kernel_rfl⟩
      · exact Or.inr ⟨na, b, by omega, fun _ => by kernel_rfl⟩
      · exact Or.inl rfl
    rcases hcase with rfl | ⟨x, y, hk2, hix⟩
    · go_wp2_with fail
      refine (works01 _ (by exact hTr)).mono ?_
      rintro e w3 ⟨rfl, hb3⟩
      go_wp2
      go_ret
      exact ⟨rfl, hB.trans (hb3.mono hB.size)⟩
    · have hk1 : (k : Int) < 3 := by omega
      go_wp2_with (first | (go_at_call 27; refine (radd_any x y _).mono ?_; rintro e w' ⟨rfl, rfl⟩) | (go_at_call 29; refine (rsub_any x y _).mono ?_; rintro e w' ⟨rfl, rfl⟩))
      refine (add_any x y _).mono ?_
      rintro e w4 ⟨rfl, hb4⟩
      have hz4_0 : wr.heap.size < w4.heap.size := by have := hb4.size; simp at this; omega
      have s4_0_0 : w4.cell? ⟨wr.heap.size, 0, none⟩ = some (.int .i64 x) := (hb4.cell (p := ⟨wr.heap.size, 0, none⟩) (by simp <;> omega)).trans (by go_simp)
      have s4_0_1 : w4.cell? ⟨wr.heap.size, 1, none⟩ = some (.int .i64 y) := (hb4.cell (p := ⟨wr.heap.size, 1, none⟩) (by simp <;> omega)).trans (by go_simp)
      have H4 : Below w.heap.size w w4 := (hB.alloc hB.size _).trans (hb4.mono (by have := hB.size; simp <;> omega))
      have T4 := Tab.below (Tab.alloc hTr _) hb4
      clear hb4
      go_wp2_with (first | (go_at_call 27; refine (radd_any x y _).mono ?_; rintro e w' ⟨rfl, rfl⟩) | (go_at_call 29; refine (rsub_any x y _).mono ?_; rintro e w' ⟨rfl, rfl⟩))
      refine (sub_any x y _).mono ?_
      rintro e w5 ⟨rfl, hb5⟩
      have hz5_0 := Nat.lt_of_lt_of_le hz4_0 hb5.size
      have s5_0_0 := (hb5.cell (p := ⟨wr.heap.size, 0, none⟩) hz4_0).trans s4_0_0
      have s5_0_1 := (hb5.cell (p := ⟨wr.heap.size, 1, none⟩) hz4_0).trans s4_0_1
      have H5 := H4.trans (hb5.mono H4.size)
      have T5 := Tab.below T4 hb5
      clear hz4_0 s4_0_0 s4_0_1 hb5 T4 H4
      go_wp2_with (first | (go_at_call 27; refine (radd_any x y _).mono ?_; rintro e w' ⟨rfl, rfl⟩) | (go_at_call 29; refine (rsub_any x y _).mono ?_; rintro e w' ⟨rfl, rfl⟩))
      refine (mul_any x y _).mono ?_
      rintro e w6 ⟨rfl, hb6⟩
      have hz6_0 := Nat.lt_of_lt_of_le hz5_0 hb6.size
      have s6_0_0 := (hb6.cell (p := ⟨wr.heap.size, 0, none⟩) hz5_0).trans s5_0_0
      have s6_0_1 := (hb6.cell (p := ⟨wr.heap.size, 1, none⟩) hz5_0).trans s5_0_1
      have H6 := H5.trans (hb6.mono H5.size)
      have T6 := Tab.below T5 hb6
      clear hz5_0 s5_0_0 s5_0_1 hb6 T5 H5
      go_wp2_with (first | (go_at_call 27; refine (radd_any x y _).mono ?_; rintro e w' ⟨rfl, rfl⟩) | (go_at_call 29; refine (rsub_any x y _).mono ?_; rintro e w' ⟨rfl, rfl⟩))
      refine (rmul_any x y _).mono ?_
      rintro e w7 ⟨rfl, hb7⟩
      have hz7_0 := Nat.lt_of_lt_of_le hz6_0 hb7.size
      have s7_0_0 := (hb7.cell (p := ⟨wr.heap.size, 0, none⟩) hz6_0).trans s6_0_0
      have s7_0_1 := (hb7.cell (p := ⟨wr.heap.size, 1, none⟩) hz6_0).trans s6_0_1
      have H7 := H6.trans (hb7.mono H6.size)
      have T7 := Tab.below T6 hb7
      clear hz6_0 s6_0_0 s6_0_1 hb7 T6 H6
      go_wp2_with (first | (go_at_call 27; refine (radd_any x y _).mono ?_; rintro e w' ⟨rfl, rfl⟩) | (go_at_call 29; refine (rsub_any x y _).mono ?_; rintro e w' ⟨rfl, rfl⟩))
      go_roundw
      case rel => exact ⟨k + 1, by omega, by go_num, H7, T7⟩
      case measure => simp [intOf]; omega
end Go.Proofs.YtikojcakkmmebaaDoor
