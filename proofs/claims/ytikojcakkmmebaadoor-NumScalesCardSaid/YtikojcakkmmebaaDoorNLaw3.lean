/- NumScales: the walk of the law. -/
import Derived.Test.YtikojcakkmmebaaDoorNear
namespace Go.Proofs.YtikojcakkmmebaaDoor
open Go.RowKit

theorem wp_gen {P : Program} {c : Code} {Q : Exit → Act → World → Prop} {a : Act} {W : World} (h : ∀ w, w = W → c.wp P Q a w) : c.wp P Q a W := h _ rfl
set_option maxRecDepth 100000 in
set_option maxHeartbeats 2000000 in
theorem nlaw3_walk (a b c p q r : Int) (hp : 0 ≤ p ∧ p ≤ 255) (hq : 0 ≤ q ∧ q ≤ 255) (hr : 0 ≤ r ∧ r ≤ 255) (w : World) (hT : Hid (Tab w)) :
    Calls Tryd.prog 4 #[.agg #[.int .i64 a, .int .i64 b, .int .i64 c], .agg #[.int .u8 p, .int .u8 q, .int .u8 r]] w fun e w' => e = .returned (.bool true) ∧ Below w.heap.size w w' := by
  have HNa := Lib.hid fun w => near_any a p hp w
  have HNb := Lib.hid fun w => near_any b q hq w
  have HNc := Lib.hid fun w => near_any c r hr w
  have H5a := Lib.hid fun w => near_any a 5 (by omega) w
  have H5b := Lib.hid fun w => near_any b 5 (by omega) w
  generalize nearV a 5 = fa at *
  generalize nearV b 5 = fb at *
  have e1 : IntKind.u64.wrap c = c % 18446744073709551616 := IntKind.wrap_u64 c
  have e2 : (c % 18446744073709551616).tmod 1125899906842624 = c % 18446744073709551616 % 1125899906842624 := Int.tmod_eq_emod_of_nonneg (by omega)
  have e3 : IntKind.i64.wrap (c % 18446744073709551616 % 1125899906842624) = c % 18446744073709551616 % 1125899906842624 := IntWalk.i64_in _ (by omega)
  have e4 : IntKind.u64.wrap (c % 18446744073709551616 % 1125899906842624) = c % 18446744073709551616 % 1125899906842624 := IntWalk.u64_in _ (by omega)
  have e5 : IntKind.i64.wrap (1 + c % 18446744073709551616 % 1125899906842624) = 1 + c % 18446744073709551616 % 1125899906842624 := IntWalk.i64_in _ (by omega)
  obtain ⟨m, hm⟩ : ∃ m, c % 18446744073709551616 = m := ⟨_, rfl⟩
  rw [hm] at e1 e2 e3 e4 e5
  have m0 : 0 ≤ m := by omega
  have m1 : m ≤ 18446744073709551615 := by omega
  clear hm
  have d0 : 0 ≤ m % 1125899906842624 ∧ m % 1125899906842624 ≤ 1125899906842623 := by omega
  generalize m % 1125899906842624 = d at *
  obtain ⟨d5, hd5⟩ : ∃ d5, 1 + d = d5 := ⟨_, rfl⟩
  rw [hd5] at e5
  have e6 : IntKind.i64.wrap (1 + d) = d5 := by rw [hd5]; exact e5
  clear hd5 e5
  generalize nearV a p = na at *
  generalize nearV b q = nb at *
  generalize nearV c r = nc at *
  go_enter Tryd.func4, Tryd.ntmps4
  go_wp2_with fail
  refine wp_gen ?_
  rintro w1 hg1
  have hz1_0 : w.heap.size < w1.heap.size := by rw [hg1]; simp <;> omega
  have s1_0_0 : w1.cell? ⟨w.heap.size, 0, none⟩ = some (.int .i64 a) := by rw [hg1]; go_simp
  have s1_0_1 : w1.cell? ⟨w.heap.size, 1, none⟩ = some (.int .i64 b) := by rw [hg1]; go_simp
  have s1_0_2 : w1.cell? ⟨w.heap.size, 2, none⟩ = some (.int .i64 c) := by rw [hg1]; go_simp
  have hz1_1 : w.heap.size + 1 < w1.heap.size := by rw [hg1]; simp <;> omega
  have s1_1_0 : w1.cell? ⟨w.heap.size + 1, 0, none⟩ = some (.int .u8 p) := by rw [hg1]; go_simp
  have s1_1_1 : w1.cell? ⟨w.heap.size + 1, 1, none⟩ = some (.int .u8 q) := by rw [hg1]; go_simp
  have s1_1_2 : w1.cell? ⟨w.heap.size + 1, 2, none⟩ = some (.int .u8 r) := by rw [hg1]; go_simp
  have H1 : Below w.heap.size w w1 := by rw [hg1]; exact (((Below.refl _ _).alloc (Nat.le_refl _) _).alloc (by simp <;> omega) _)
  have T1 : Hid (Tab w1) := by rw [hg1]; exact (Tab.alloc (Tab.alloc hT _) _)
  clear hg1
  have F0 := Bw.cell hz1_0 s1_0_0
  have F1 := Bw.cell hz1_0 s1_0_1
  have F2 := Bw.cell hz1_0 s1_0_2
  have F3 := Bw.cell hz1_1 s1_1_0
  have F4 := Bw.cell hz1_1 s1_1_1
  have F5 := Bw.cell hz1_1 s1_1_2
  refine wp_region_bw (by kernel_rfl) (by kernel_rfl) ?_
  repeat (go_big_quiet_step ((first | (go_at_call_of 11 (Value.int .u8 5); go_at_call_of 11 a; exact Calls.bw_same (H5a.out _)) | (go_at_call_of 11 (Value.int .u8 5); go_at_call_of 11 b; exact Calls.bw_same (H5b.out _)) | (go_at_call_of 11 a; exact Calls.bw_same (HNa.out _)) | (go_at_call_of 11 b; exact Calls.bw_same (HNb.out _)) | (go_at_call_of 11 c; exact Calls.bw_same (HNc.out _)))))
  refine wpQuiet_nil ?_
  rintro _ ⟨⟨w2, hb2⟩, rfl⟩
  clear F0 F1 F2 F3 F4 F5
  have H2 := H1.trans (hb2.mono H1.size)
  have T2 := Tab.below T1 hb2
  clear hb2 T1 H1
  clear HNa HNb HNc
  go_wp2_with fail
  go_loopw [42] (fun i wr => ∃ k : Nat, k ≤ 3 ∧ i = .int .i64 k ∧ Below w.heap.size w wr ∧ Hid (Tab wr)) (fun i _ => 3 - (intOf i).toNat)
  case atStart => exact ⟨0, by omega, rfl, H2, T2⟩
  case round =>
    clear H2 T2
    obtain ⟨k, hk, rfl, hB, hTr⟩ := hrel
    have hcase : k = 3 ∨ ∃ x y z : Int, k < 3 ∧ ∀ W, (Instr.index 33 (.agg #[.int .i64 a, .int .i64 b, .int .i64 c, .int .i64 na, .int .i64 nb, .int .i64 nc, .int .i64 fa, .int .i64 fb, .int .i64 d5]) (.int .i64 k)).run Tryd.prog W = .ok (.agg #[.int .i64 x, .int .i64 y, .int .i64 z]) W := by
      rcases (by omega : k = 0 ∨ k = 1 ∨ k = 2 ∨ k = 3) with rfl | rfl | rfl | rfl
      · exact Or.inr ⟨a, b, c, by omega, fun _ => by kernel_rfl⟩
      · exact Or.inr ⟨na, nb, nc, by omega, fun _ => by kernel_rfl⟩
      · exact Or.inr ⟨fa, fb, d5, by omega, fun _ => by kernel_rfl⟩
      · exact Or.inl rfl
    rcases hcase with rfl | ⟨x, y, z, hk2, hix⟩
    · go_wp2_with fail
      refine (works01 _ (by exact hTr)).mono ?_
      rintro e w3 ⟨rfl, hb3⟩
      go_wp2
      go_ret
      exact ⟨rfl, hB.trans (hb3.mono hB.size)⟩
    · have hk1 : (k : Int) < 3 := by omega
      go_wp2_with fail
      refine (muldiv_any x y z _).mono ?_
      rintro e w4 ⟨rfl, hb4⟩
      have hz4_0 : wr.heap.size < w4.heap.size := by have := hb4.size; simp at this; omega
      have s4_0_0 : w4.cell? ⟨wr.heap.size, 0, none⟩ = some (.int .i64 x) := (hb4.cell (p := ⟨wr.heap.size, 0, none⟩) (by simp <;> omega)).trans (by go_simp)
      have s4_0_1 : w4.cell? ⟨wr.heap.size, 1, none⟩ = some (.int .i64 y) := (hb4.cell (p := ⟨wr.heap.size, 1, none⟩) (by simp <;> omega)).trans (by go_simp)
      have s4_0_2 : w4.cell? ⟨wr.heap.size, 2, none⟩ = some (.int .i64 z) := (hb4.cell (p := ⟨wr.heap.size, 2, none⟩) (by simp <;> omega)).trans (by go_simp)
      have H4 : Below w.heap.size w w4 := (hB.alloc hB.size _).trans (hb4.mono (by have := hB.size; simp <;> omega))
      have T4 := Tab.below (Tab.alloc hTr _) hb4
      clear hb4
      go_wp2_with fail
      refine (rmuldiv_any x y z _).mono ?_
      rintro e w5 ⟨rfl, hb5⟩
      have hz5_0 := Nat.lt_of_lt_of_le hz4_0 hb5.size
      have s5_0_0 := (hb5.cell (p := ⟨wr.heap.size, 0, none⟩) hz4_0).trans s4_0_0
      have s5_0_1 := (hb5.cell (p := ⟨wr.heap.size, 1, none⟩) hz4_0).trans s4_0_1
      have s5_0_2 := (hb5.cell (p := ⟨wr.heap.size, 2, none⟩) hz4_0).trans s4_0_2
      have H5 := H4.trans (hb5.mono H4.size)
      have T5 := Tab.below T4 hb5
      clear hz4_0 s4_0_0 s4_0_1 s4_0_2 hb5 T4 H4
      go_wp2
      go_roundw
      case rel => exact ⟨k + 1, by omega, by go_num, H5, T5⟩
      case measure => simp [intOf]; omega
end Go.Proofs.YtikojcakkmmebaaDoor
