/- DelayRatios: the walk of the law. -/
import Derived.Test.YtelpjmmkaakceaaWorks12
namespace Go.Proofs.Ytelpjmmkaakceaa
open Go.RowKit Go.Shelf

theorem ra_no {a1 a2 a3 a4 b1 b2 b3 b4 : Int} (h : (okX a1 a2 a3 a4 && okX b1 b2 b3 b4) = false) : raV a1 a2 a3 a4 b1 b2 b3 b4 = 0 ∧ raE a1 a2 a3 a4 b1 b2 b3 b4 = 220 := by
  unfold raV raE; rw [h]; exact ⟨rfl, rfl⟩
set_option maxRecDepth 100000 in
set_option maxHeartbeats 2000000 in
theorem dlaw2_walk (a1 a2 a3 a4 b1 b2 b3 b4 : Int) (w : World) :
    Calls Try.prog 4 #[.agg #[.int .i64 a1, .int .i64 a2, .int .i64 a3, .int .i64 a4], .agg #[.int .i64 b1, .int .i64 b2, .int .i64 b3, .int .i64 b4]] w fun e w' => e = .returned (.bool true) ∧ Below w.heap.size w w' := by
  go_enter Try.func4, Try.ntmps4
  go_wp2_with fail
  refine (works12 _).mono ?_
  rintro e w1 ⟨rfl, hb1⟩
  have hz1_0 : w.heap.size < w1.heap.size := by have := hb1.size; simp at this; omega
  have s1_0_0 : w1.cell? ⟨w.heap.size, 0, none⟩ = some (.int .i64 a1) := (hb1.cell (p := ⟨w.heap.size, 0, none⟩) (by simp <;> omega)).trans (by go_simp)
  have s1_0_1 : w1.cell? ⟨w.heap.size, 1, none⟩ = some (.int .i64 a2) := (hb1.cell (p := ⟨w.heap.size, 1, none⟩) (by simp <;> omega)).trans (by go_simp)
  have s1_0_2 : w1.cell? ⟨w.heap.size, 2, none⟩ = some (.int .i64 a3) := (hb1.cell (p := ⟨w.heap.size, 2, none⟩) (by simp <;> omega)).trans (by go_simp)
  have s1_0_3 : w1.cell? ⟨w.heap.size, 3, none⟩ = some (.int .i64 a4) := (hb1.cell (p := ⟨w.heap.size, 3, none⟩) (by simp <;> omega)).trans (by go_simp)
  have hz1_1 : w.heap.size + 1 < w1.heap.size := by have := hb1.size; simp at this; omega
  have s1_1_0 : w1.cell? ⟨w.heap.size + 1, 0, none⟩ = some (.int .i64 b1) := (hb1.cell (p := ⟨w.heap.size + 1, 0, none⟩) (by simp <;> omega)).trans (by go_simp)
  have s1_1_1 : w1.cell? ⟨w.heap.size + 1, 1, none⟩ = some (.int .i64 b2) := (hb1.cell (p := ⟨w.heap.size + 1, 1, none⟩) (by simp <;> omega)).trans (by go_simp)
  have s1_1_2 : w1.cell? ⟨w.heap.size + 1, 2, none⟩ = some (.int .i64 b3) := (hb1.cell (p := ⟨w.heap.size + 1, 2, none⟩) (by simp <;> omega)).trans (by go_simp)
  have s1_1_3 : w1.cell? ⟨w.heap.size + 1, 3, none⟩ = some (.int .i64 b4) := (hb1.cell (p := ⟨w.heap.size + 1, 3, none⟩) (by simp <;> omega)).trans (by go_simp)
  have H1 : Below w.heap.size w w1 := (((Below.refl _ _).alloc (Nat.le_refl _) _).alloc (by simp <;> omega) _).trans (hb1.mono (by simp <;> omega))
  clear hb1
  go_wp2_with fail
  clear s1_0_0 s1_0_1 s1_0_2 s1_0_3 s1_1_0 s1_1_1 s1_1_2 s1_1_3
  go_loopw [20] (fun i wr => ∃ k : Nat, k ≤ 2 ∧ i = .int .i64 k ∧ Below w.heap.size w wr) (fun i _ => 2 - (intOf i).toNat)
  case atStart => exact ⟨0, by omega, rfl, H1⟩
  case round =>
    clear H1
    obtain ⟨k, hk, rfl, hB⟩ := hrel
    have hcase : k = 2 ∨ ∃ c1 c2 c3 c4 d1 d2 d3 d4 : Int, k < 2 ∧ ∀ W, (Instr.index 32 (.agg #[.int .i64 a1, .int .i64 a2, .int .i64 a3, .int .i64 a4, .int .i64 b1, .int .i64 b2, .int .i64 b3, .int .i64 b4, .int .i64 b1, .int .i64 b2, .int .i64 b3, .int .i64 b4, .int .i64 a1, .int .i64 a2, .int .i64 a3, .int .i64 a4]) (.int .i64 k)).run Try.prog W = .ok (.agg #[.int .i64 c1, .int .i64 c2, .int .i64 c3, .int .i64 c4, .int .i64 d1, .int .i64 d2, .int .i64 d3, .int .i64 d4]) W := by
      rcases (by omega : k = 0 ∨ k = 1 ∨ k = 2) with rfl | rfl | rfl
      · exact Or.inr ⟨a1, a2, a3, a4, b1, b2, b3, b4, by omega, fun _ => by kernel_rfl⟩
      · exact Or.inr ⟨b1, b2, b3, b4, a1, a2, a3, a4, by omega, fun _ => by kernel_rfl⟩
      · exact Or.inl rfl
    rcases hcase with rfl | ⟨c1, c2, c3, c4, d1, d2, d3, d4, hk2, hix⟩
    · go_wp2
      go_ret
      exact ⟨rfl, hB⟩
    · have hk1 : (k : Int) < 2 := by omega
      cases hc : okX c1 c2 c3 c4
      · have K1 := Lib.hid fun w => Calls.at2 (ratio_any c1 c2 c3 c4 d1 d2 d3 d4 w) (ra_no (by rw [hc]; rfl)).1 (ra_no (by rw [hc]; rfl)).2
        have K2 := Lib.hid fun w => rrightX_b hc w
        clear hc
        go_wp2_with fail
        refine (K1.out _).mono ?_
        rintro e w4 ⟨rfl, hb4⟩
        have hz4_0 : wr.heap.size < w4.heap.size := by have := hb4.size; simp at this; omega
        have s4_0_0 : w4.cell? ⟨wr.heap.size, 0, none⟩ = some (.int .i64 c1) := (hb4.cell (p := ⟨wr.heap.size, 0, none⟩) (by simp <;> omega)).trans (by go_simp)
        have s4_0_1 : w4.cell? ⟨wr.heap.size, 1, none⟩ = some (.int .i64 c2) := (hb4.cell (p := ⟨wr.heap.size, 1, none⟩) (by simp <;> omega)).trans (by go_simp)
        have s4_0_2 : w4.cell? ⟨wr.heap.size, 2, none⟩ = some (.int .i64 c3) := (hb4.cell (p := ⟨wr.heap.size, 2, none⟩) (by simp <;> omega)).trans (by go_simp)
        have s4_0_3 : w4.cell? ⟨wr.heap.size, 3, none⟩ = some (.int .i64 c4) := (hb4.cell (p := ⟨wr.heap.size, 3, none⟩) (by simp <;> omega)).trans (by go_simp)
        have s4_0_4 : w4.cell? ⟨wr.heap.size, 4, none⟩ = some (.int .i64 d1) := (hb4.cell (p := ⟨wr.heap.size, 4, none⟩) (by simp <;> omega)).trans (by go_simp)
        have s4_0_5 : w4.cell? ⟨wr.heap.size, 5, none⟩ = some (.int .i64 d2) := (hb4.cell (p := ⟨wr.heap.size, 5, none⟩) (by simp <;> omega)).trans (by go_simp)
        have s4_0_6 : w4.cell? ⟨wr.heap.size, 6, none⟩ = some (.int .i64 d3) := (hb4.cell (p := ⟨wr.heap.size, 6, none⟩) (by simp <;> omega)).trans (by go_simp)
        have s4_0_7 : w4.cell? ⟨wr.heap.size, 7, none⟩ = some (.int .i64 d4) := (hb4.cell (p := ⟨wr.heap.size, 7, none⟩) (by simp <;> omega)).trans (by go_simp)
        have H4 : Below w.heap.size w w4 := (hB.alloc hB.size _).trans (hb4.mono (by have := hB.size; simp <;> omega))
        clear hb4
        go_wp2_with fail
        refine (K2.out _).mono ?_
        rintro e w5 ⟨rfl, hb5⟩
        have hz5_0 := Nat.lt_of_lt_of_le hz4_0 hb5.size
        have s5_0_0 := (hb5.cell (p := ⟨wr.heap.size, 0, none⟩) hz4_0).trans s4_0_0
        have s5_0_1 := (hb5.cell (p := ⟨wr.heap.size, 1, none⟩) hz4_0).trans s4_0_1
        have s5_0_2 := (hb5.cell (p := ⟨wr.heap.size, 2, none⟩) hz4_0).trans s4_0_2
        have s5_0_3 := (hb5.cell (p := ⟨wr.heap.size, 3, none⟩) hz4_0).trans s4_0_3
        have s5_0_4 := (hb5.cell (p := ⟨wr.heap.size, 4, none⟩) hz4_0).trans s4_0_4
        have s5_0_5 := (hb5.cell (p := ⟨wr.heap.size, 5, none⟩) hz4_0).trans s4_0_5
        have s5_0_6 := (hb5.cell (p := ⟨wr.heap.size, 6, none⟩) hz4_0).trans s4_0_6
        have s5_0_7 := (hb5.cell (p := ⟨wr.heap.size, 7, none⟩) hz4_0).trans s4_0_7
        have H5 := H4.trans (hb5.mono H4.size)
        clear hz4_0 s4_0_0 s4_0_1 s4_0_2 s4_0_3 s4_0_4 s4_0_5 s4_0_6 s4_0_7 hb5 H4
        go_wp2
        go_roundw
        case rel => exact ⟨k + 1, by omega, by go_num, H5⟩
        case measure => simp [intOf]; omega
      · have K2 := Lib.hid fun w => rrightX_b hc w
        cases hd : okX d1 d2 d3 d4
        · have K1 := Lib.hid fun w => Calls.at2 (ratio_any c1 c2 c3 c4 d1 d2 d3 d4 w) (ra_no (by rw [hc, hd]; rfl)).1 (ra_no (by rw [hc, hd]; rfl)).2
          have K3 := Lib.hid fun w => rrightX_b hd w
          clear hc hd
          go_wp2_with fail
          refine (K1.out _).mono ?_
          rintro e w4 ⟨rfl, hb4⟩
          have hz4_0 : wr.heap.size < w4.heap.size := by have := hb4.size; simp at this; omega
          have s4_0_0 : w4.cell? ⟨wr.heap.size, 0, none⟩ = some (.int .i64 c1) := (hb4.cell (p := ⟨wr.heap.size, 0, none⟩) (by simp <;> omega)).trans (by go_simp)
          have s4_0_1 : w4.cell? ⟨wr.heap.size, 1, none⟩ = some (.int .i64 c2) := (hb4.cell (p := ⟨wr.heap.size, 1, none⟩) (by simp <;> omega)).trans (by go_simp)
          have s4_0_2 : w4.cell? ⟨wr.heap.size, 2, none⟩ = some (.int .i64 c3) := (hb4.cell (p := ⟨wr.heap.size, 2, none⟩) (by simp <;> omega)).trans (by go_simp)
          have s4_0_3 : w4.cell? ⟨wr.heap.size, 3, none⟩ = some (.int .i64 c4) := (hb4.cell (p := ⟨wr.heap.size, 3, none⟩) (by simp <;> omega)).trans (by go_simp)
          have s4_0_4 : w4.cell? ⟨wr.heap.size, 4, none⟩ = some (.int .i64 d1) := (hb4.cell (p := ⟨wr.heap.size, 4, none⟩) (by simp <;> omega)).trans (by go_simp)
          have s4_0_5 : w4.cell? ⟨wr.heap.size, 5, none⟩ = some (.int .i64 d2) := (hb4.cell (p := ⟨wr.heap.size, 5, none⟩) (by simp <;> omega)).trans (by go_simp)
          have s4_0_6 : w4.cell? ⟨wr.heap.size, 6, none⟩ = some (.int .i64 d3) := (hb4.cell (p := ⟨wr.heap.size, 6, none⟩) (by simp <;> omega)).trans (by go_simp)
          have s4_0_7 : w4.cell? ⟨wr.heap.size, 7, none⟩ = some (.int .i64 d4) := (hb4.cell (p := ⟨wr.heap.size, 7, none⟩) (by simp <;> omega)).trans (by go_simp)
          have H4 : Below w.heap.size w w4 := (hB.alloc hB.size _).trans (hb4.mono (by have := hB.size; simp <;> omega))
          clear hb4
          go_wp2_with fail
          refine (K2.out _).mono ?_
          rintro e w5 ⟨rfl, hb5⟩
          have hz5_0 := Nat.lt_of_lt_of_le hz4_0 hb5.size
          have s5_0_0 := (hb5.cell (p := ⟨wr.heap.size, 0, none⟩) hz4_0).trans s4_0_0
          have s5_0_1 := (hb5.cell (p := ⟨wr.heap.size, 1, none⟩) hz4_0).trans s4_0_1
          have s5_0_2 := (hb5.cell (p := ⟨wr.heap.size, 2, none⟩) hz4_0).trans s4_0_2
          have s5_0_3 := (hb5.cell (p := ⟨wr.heap.size, 3, none⟩) hz4_0).trans s4_0_3
          have s5_0_4 := (hb5.cell (p := ⟨wr.heap.size, 4, none⟩) hz4_0).trans s4_0_4
          have s5_0_5 := (hb5.cell (p := ⟨wr.heap.size, 5, none⟩) hz4_0).trans s4_0_5
          have s5_0_6 := (hb5.cell (p := ⟨wr.heap.size, 6, none⟩) hz4_0).trans s4_0_6
          have s5_0_7 := (hb5.cell (p := ⟨wr.heap.size, 7, none⟩) hz4_0).trans s4_0_7
          have H5 := H4.trans (hb5.mono H4.size)
          clear hz4_0 s4_0_0 s4_0_1 s4_0_2 s4_0_3 s4_0_4 s4_0_5 s4_0_6 s4_0_7 hb5 H4
          go_wp2_with fail
          refine (K3.out _).mono ?_
          rintro e w6 ⟨rfl, hb6⟩
          have hz6_0 := Nat.lt_of_lt_of_le hz5_0 hb6.size
          have s6_0_0 := (hb6.cell (p := ⟨wr.heap.size, 0, none⟩) hz5_0).trans s5_0_0
          have s6_0_1 := (hb6.cell (p := ⟨wr.heap.size, 1, none⟩) hz5_0).trans s5_0_1
          have s6_0_2 := (hb6.cell (p := ⟨wr.heap.size, 2, none⟩) hz5_0).trans s5_0_2
          have s6_0_3 := (hb6.cell (p := ⟨wr.heap.size, 3, none⟩) hz5_0).trans s5_0_3
          have s6_0_4 := (hb6.cell (p := ⟨wr.heap.size, 4, none⟩) hz5_0).trans s5_0_4
          have s6_0_5 := (hb6.cell (p := ⟨wr.heap.size, 5, none⟩) hz5_0).trans s5_0_5
          have s6_0_6 := (hb6.cell (p := ⟨wr.heap.size, 6, none⟩) hz5_0).trans s5_0_6
          have s6_0_7 := (hb6.cell (p := ⟨wr.heap.size, 7, none⟩) hz5_0).trans s5_0_7
          have H6 := H5.trans (hb6.mono H5.size)
          clear hz5_0 s5_0_0 s5_0_1 s5_0_2 s5_0_3 s5_0_4 s5_0_5 s5_0_6 s5_0_7 hb6 H5
          go_wp2
          go_roundw
          case rel => exact ⟨k + 1, by omega, by go_num, H6⟩
          case measure => simp [intOf]; omega
        · have K1 := Lib.hid fun w => ratio_any c1 c2 c3 c4 d1 d2 d3 d4 w
          have K3 := Lib.hid fun w => rrightX_b hd w
          have K4 := Lib.hid fun w => rratio_any hc hd w
          clear hc hd
          generalize raV c1 c2 c3 c4 d1 d2 d3 d4 = u at *
          generalize raE c1 c2 c3 c4 d1 d2 d3 d4 = v at *
          go_wp2_with fail
          refine (K1.out _).mono ?_
          rintro e w4 ⟨rfl, hb4⟩
          have hz4_0 : wr.heap.size < w4.heap.size := by have := hb4.size; simp at this; omega
          have s4_0_0 : w4.cell? ⟨wr.heap.size, 0, none⟩ = some (.int .i64 c1) := (hb4.cell (p := ⟨wr.heap.size, 0, none⟩) (by simp <;> omega)).trans (by go_simp)
          have s4_0_1 : w4.cell? ⟨wr.heap.size, 1, none⟩ = some (.int .i64 c2) := (hb4.cell (p := ⟨wr.heap.size, 1, none⟩) (by simp <;> omega)).trans (by go_simp)
          have s4_0_2 : w4.cell? ⟨wr.heap.size, 2, none⟩ = some (.int .i64 c3) := (hb4.cell (p := ⟨wr.heap.size, 2, none⟩) (by simp <;> omega)).trans (by go_simp)
          have s4_0_3 : w4.cell? ⟨wr.heap.size, 3, none⟩ = some (.int .i64 c4) := (hb4.cell (p := ⟨wr.heap.size, 3, none⟩) (by simp <;> omega)).trans (by go_simp)
          have s4_0_4 : w4.cell? ⟨wr.heap.size, 4, none⟩ = some (.int .i64 d1) := (hb4.cell (p := ⟨wr.heap.size, 4, none⟩) (by simp <;> omega)).trans (by go_simp)
          have s4_0_5 : w4.cell? ⟨wr.heap.size, 5, none⟩ = some (.int .i64 d2) := (hb4.cell (p := ⟨wr.heap.size, 5, none⟩) (by simp <;> omega)).trans (by go_simp)
          have s4_0_6 : w4.cell? ⟨wr.heap.size, 6, none⟩ = some (.int .i64 d3) := (hb4.cell (p := ⟨wr.heap.size, 6, none⟩) (by simp <;> omega)).trans (by go_simp)
          have s4_0_7 : w4.cell? ⟨wr.heap.size, 7, none⟩ = some (.int .i64 d4) := (hb4.cell (p := ⟨wr.heap.size, 7, none⟩) (by simp <;> omega)).trans (by go_simp)
          have H4 : Below w.heap.size w w4 := (hB.alloc hB.size _).trans (hb4.mono (by have := hB.size; simp <;> omega))
          clear hb4
          go_wp2_with fail
          refine (K2.out _).mono ?_
          rintro e w5 ⟨rfl, hb5⟩
          have hz5_0 := Nat.lt_of_lt_of_le hz4_0 hb5.size
          have s5_0_0 := (hb5.cell (p := ⟨wr.heap.size, 0, none⟩) hz4_0).trans s4_0_0
          have s5_0_1 := (hb5.cell (p := ⟨wr.heap.size, 1, none⟩) hz4_0).trans s4_0_1
          have s5_0_2 := (hb5.cell (p := ⟨wr.heap.size, 2, none⟩) hz4_0).trans s4_0_2
          have s5_0_3 := (hb5.cell (p := ⟨wr.heap.size, 3, none⟩) hz4_0).trans s4_0_3
          have s5_0_4 := (hb5.cell (p := ⟨wr.heap.size, 4, none⟩) hz4_0).trans s4_0_4
          have s5_0_5 := (hb5.cell (p := ⟨wr.heap.size, 5, none⟩) hz4_0).trans s4_0_5
          have s5_0_6 := (hb5.cell (p := ⟨wr.heap.size, 6, none⟩) hz4_0).trans s4_0_6
          have s5_0_7 := (hb5.cell (p := ⟨wr.heap.size, 7, none⟩) hz4_0).trans s4_0_7
          have H5 := H4.trans (hb5.mono H4.size)
          clear hz4_0 s4_0_0 s4_0_1 s4_0_2 s4_0_3 s4_0_4 s4_0_5 s4_0_6 s4_0_7 hb5 H4
          go_wp2_with fail
          refine (K3.out _).mono ?_
          rintro e w6 ⟨rfl, hb6⟩
          have hz6_0 := Nat.lt_of_lt_of_le hz5_0 hb6.size
          have s6_0_0 := (hb6.cell (p := ⟨wr.heap.size, 0, none⟩) hz5_0).trans s5_0_0
          have s6_0_1 := (hb6.cell (p := ⟨wr.heap.size, 1, none⟩) hz5_0).trans s5_0_1
          have s6_0_2 := (hb6.cell (p := ⟨wr.heap.size, 2, none⟩) hz5_0).trans s5_0_2
          have s6_0_3 := (hb6.cell (p := ⟨wr.heap.size, 3, none⟩) hz5_0).trans s5_0_3
          have s6_0_4 := (hb6.cell (p := ⟨wr.heap.size, 4, none⟩) hz5_0).trans s5_0_4
          have s6_0_5 := (hb6.cell (p := ⟨wr.heap.size, 5, none⟩) hz5_0).trans s5_0_5
          have s6_0_6 := (hb6.cell (p := ⟨wr.heap.size, 6, none⟩) hz5_0).trans s5_0_6
          have s6_0_7 := (hb6.cell (p := ⟨wr.heap.size, 7, none⟩) hz5_0).trans s5_0_7
          have H6 := H5.trans (hb6.mono H5.size)
          clear hz5_0 s5_0_0 s5_0_1 s5_0_2 s5_0_3 s5_0_4 s5_0_5 s5_0_6 s5_0_7 hb6 H5
          go_wp2_with fail
          refine (K4.out _).mono ?_
          rintro e w7 ⟨rfl, hb7⟩
          have hz7_0 := Nat.lt_of_lt_of_le hz6_0 hb7.size
          have s7_0_0 := (hb7.cell (p := ⟨wr.heap.size, 0, none⟩) hz6_0).trans s6_0_0
          have s7_0_1 := (hb7.cell (p := ⟨wr.heap.size, 1, none⟩) hz6_0).trans s6_0_1
          have s7_0_2 := (hb7.cell (p := ⟨wr.heap.size, 2, none⟩) hz6_0).trans s6_0_2
          have s7_0_3 := (hb7.cell (p := ⟨wr.heap.size, 3, none⟩) hz6_0).trans s6_0_3
          have s7_0_4 := (hb7.cell (p := ⟨wr.heap.size, 4, none⟩) hz6_0).trans s6_0_4
          have s7_0_5 := (hb7.cell (p := ⟨wr.heap.size, 5, none⟩) hz6_0).trans s6_0_5
          have s7_0_6 := (hb7.cell (p := ⟨wr.heap.size, 6, none⟩) hz6_0).trans s6_0_6
          have s7_0_7 := (hb7.cell (p := ⟨wr.heap.size, 7, none⟩) hz6_0).trans s6_0_7
          have H7 := H6.trans (hb7.mono H6.size)
          clear hz6_0 s6_0_0 s6_0_1 s6_0_2 s6_0_3 s6_0_4 s6_0_5 s6_0_6 s6_0_7 hb7 H6
          go_wp2
          go_roundw
          case rel => exact ⟨k + 1, by omega, by go_num, H7⟩
          case measure => simp [intOf]; omega
end Go.Proofs.Ytelpjmmkaakceaa
