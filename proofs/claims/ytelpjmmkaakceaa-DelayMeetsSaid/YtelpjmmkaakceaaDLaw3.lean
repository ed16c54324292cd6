/- DelayMeets: the walk of the law. -/
import Derived.Test.YtelpjmmkaakceaaWorks12
import Derived.Test.YtelpjmmkaakceaaDraft09
namespace Go.Proofs.Ytelpjmmkaakceaa
open Go.RowKit Go.Shelf

theorem met_no {o1 p1 o2 p2 t d n : Int} (h : (okC o1 p1 && okC o2 p2) = false) : (∀ j, metV o1 p1 o2 p2 t d n j = 0) ∧ metE o1 p1 o2 p2 t d n = 190 := by
  refine ⟨fun j => ?_, ?_⟩
  · unfold metV metOk; rw [h]; rfl
  · unfold metE; rw [h]; rfl
theorem met_out {o1 p1 o2 p2 t d n : Int} (h1 : okC o1 p1 = true) (h2 : okC o2 p2 = true) (h3 : timedB t d n = false) : (∀ j, metV o1 p1 o2 p2 t d n j = 0) ∧ metE o1 p1 o2 p2 t d n = 2 := by
  refine ⟨fun j => ?_, ?_⟩
  · unfold metV metOk; rw [h1, h2, h3]; rfl
  · unfold metE; rw [h1, h2, h3]; rfl
theorem met_in {o1 p1 o2 p2 t d n : Int} (h1 : okC o1 p1 = true) (h2 : okC o2 p2 = true) (h3 : timedB t d n = true) : metE o1 p1 o2 p2 t d n = 0 := by
  unfold metE; rw [h1, h2, h3]; rfl
theorem Calls.atX {f : Nat} {args : Array Value} {w : World} {a b c d e a' b' c' d' e' : Int} (h : Calls Try.prog f args w fun x w' => x = .returned (.tuple #[.agg #[.int .i64 a, .int .i64 b, .int .i64 c, .int .i64 d], .int .i64 e]) ∧ Below w.heap.size w w')
    (h1 : a = a') (h2 : b = b') (h3 : c = c') (h4 : d = d') (h5 : e = e') : Calls Try.prog f args w fun x w' => x = .returned (.tuple #[.agg #[.int .i64 a', .int .i64 b', .int .i64 c', .int .i64 d'], .int .i64 e']) ∧ Below w.heap.size w w' := by
  subst h1 h2 h3 h4 h5; exact h
theorem rightC_b {o p : Int} {b : Bool} (h : okC o p = b) (w : World) : Calls Try.prog 20 #[.agg #[.int .i64 o, .int .i64 p]] w fun e w' => e = .returned (.bool b) ∧ Below w.heap.size w w' := h ▸ refRight_any o p w
set_option maxRecDepth 100000 in
set_option maxHeartbeats 4000000 in
theorem dlaw3_walk (o1 p1 o2 p2 x1 y1 x2 y2 t d n : Int) (w : World) :
    Calls Try.prog 5 #[.agg #[.int .i64 o1, .int .i64 p1, .int .i64 o2, .int .i64 p2], .agg #[.int .i64 x1, .int .i32 y1, .int .i64 x2, .int .i32 y2], .int .i64 t, .int .i64 d, .int .i64 n] w fun e w' => e = .returned (.bool true) ∧ Below w.heap.size w w' := by
  have HD1 := Lib.hid fun w => draft_any x1 y1 w
  have HD2 := Lib.hid fun w => draft_any x2 y2 w
  generalize dO x1 = e1 at *
  generalize dP y1 = q1 at *
  generalize dO x2 = e2 at *
  generalize dP y2 = q2 at *
  go_enter Try.func5, Try.ntmps5
  go_wp2_with fail
  refine (works12 _).mono ?_
  rintro e w1 ⟨rfl, hb1⟩
  have hz1_0 : w.heap.size < w1.heap.size := by have := hb1.size; simp at this; omega
  have s1_0_0 : w1.cell? ⟨w.heap.size, 0, none⟩ = some (.int .i64 o1) := (hb1.cell (p := ⟨w.heap.size, 0, none⟩) (by simp <;> omega)).trans (by go_simp)
  have s1_0_1 : w1.cell? ⟨w.heap.size, 1, none⟩ = some (.int .i64 p1) := (hb1.cell (p := ⟨w.heap.size, 1, none⟩) (by simp <;> omega)).trans (by go_simp)
  have s1_0_2 : w1.cell? ⟨w.heap.size, 2, none⟩ = some (.int .i64 o2) := (hb1.cell (p := ⟨w.heap.size, 2, none⟩) (by simp <;> omega)).trans (by go_simp)
  have s1_0_3 : w1.cell? ⟨w.heap.size, 3, none⟩ = some (.int .i64 p2) := (hb1.cell (p := ⟨w.heap.size, 3, none⟩) (by simp <;> omega)).trans (by go_simp)
  have hz1_1 : w.heap.size + 1 < w1.heap.size := by have := hb1.size; simp at this; omega
  have s1_1_0 : w1.cell? ⟨w.heap.size + 1, 0, none⟩ = some (.int .i64 x1) := (hb1.cell (p := ⟨w.heap.size + 1, 0, none⟩) (by simp <;> omega)).trans (by go_simp)
  have s1_1_1 : w1.cell? ⟨w.heap.size + 1, 1, none⟩ = some (.int .i32 y1) := (hb1.cell (p := ⟨w.heap.size + 1, 1, none⟩) (by simp <;> omega)).trans (by go_simp)
  have s1_1_2 : w1.cell? ⟨w.heap.size + 1, 2, none⟩ = some (.int .i64 x2) := (hb1.cell (p := ⟨w.heap.size + 1, 2, none⟩) (by simp <;> omega)).trans (by go_simp)
  have s1_1_3 : w1.cell? ⟨w.heap.size + 1, 3, none⟩ = some (.int .i32 y2) := (hb1.cell (p := ⟨w.heap.size + 1, 3, none⟩) (by simp <;> omega)).trans (by go_simp)
  have H1 : Below w.heap.size w w1 := (((Below.refl _ _).alloc (Nat.le_refl _) _).alloc (by simp <;> omega) _).trans (hb1.mono (by simp <;> omega))
  clear hb1
  go_wp2_with fail
  have F0 := Bw.cell hz1_0 s1_0_0
  have F1 := Bw.cell hz1_0 s1_0_1
  have F2 := Bw.cell hz1_0 s1_0_2
  have F3 := Bw.cell hz1_0 s1_0_3
  have F4 := Bw.cell hz1_1 s1_1_0
  have F5 := Bw.cell hz1_1 s1_1_1
  have F6 := Bw.cell hz1_1 s1_1_2
  have F7 := Bw.cell hz1_1 s1_1_3
  refine wp_region_bw (by kernel_rfl) (by kernel_rfl) ?_
  repeat (go_big_quiet_step ((first | (go_at_call_of 18 x1; exact Calls.bw_of (HD1.out _)) | (go_at_call_of 18 x2; exact Calls.bw_of (HD2.out _)))))
  refine wpQuiet_nil ?_
  rintro w2 ⟨⟨_, hb2⟩, rfl⟩
  clear F0 F1 F2 F3 F4 F5 F6 F7
  have hz2_0 := Nat.lt_of_lt_of_le hz1_0 hb2.size
  have s2_0_0 := (hb2.cell (p := ⟨w.heap.size, 0, none⟩) hz1_0).trans s1_0_0
  have s2_0_1 := (hb2.cell (p := ⟨w.heap.size, 1, none⟩) hz1_0).trans s1_0_1
  have s2_0_2 := (hb2.cell (p := ⟨w.heap.size, 2, none⟩) hz1_0).trans s1_0_2
  have s2_0_3 := (hb2.cell (p := ⟨w.heap.size, 3, none⟩) hz1_0).trans s1_0_3
  have hz2_1 := Nat.lt_of_lt_of_le hz1_1 hb2.size
  have s2_1_0 := (hb2.cell (p := ⟨w.heap.size + 1, 0, none⟩) hz1_1).trans s1_1_0
  have s2_1_1 := (hb2.cell (p := ⟨w.heap.size + 1, 1, none⟩) hz1_1).trans s1_1_1
  have s2_1_2 := (hb2.cell (p := ⟨w.heap.size + 1, 2, none⟩) hz1_1).trans s1_1_2
  have s2_1_3 := (hb2.cell (p := ⟨w.heap.size + 1, 3, none⟩) hz1_1).trans s1_1_3
  have H2 := H1.trans (hb2.mono H1.size)
  clear hz1_0 s1_0_0 s1_0_1 s1_0_2 s1_0_3 hz1_1 s1_1_0 s1_1_1 s1_1_2 s1_1_3 hb2 H1
  go_wp2_with fail
  clear s2_0_0 s2_0_1 s2_0_2 s2_0_3 s2_1_0 s2_1_1 s2_1_2 s2_1_3
  go_loopw [34] (fun i wr => ∃ k : Nat, k ≤ 3 ∧ i = .int .i64 k ∧ Below w.heap.size w wr) (fun i _ => 3 - (intOf i).toNat)
  case atStart => exact ⟨0, by omega, rfl, H2⟩
  case round =>
    clear H2 HD1 HD2
    obtain ⟨k, hk, rfl, hB⟩ := hrel
    have hcase : k = 3 ∨ ∃ a b c e : Int, k < 3 ∧ ∀ W, (Instr.index 42 (.agg #[.int .i64 o1, .int .i64 p1, .int .i64 o2, .int .i64 p2, .int .i64 e1, .int .i64 q1, .int .i64 e2, .int .i64 q2, .int .i64 e1, .int .i64 q1, .int .i64 o2, .int .i64 p2]) (.int .i64 k)).run Try.prog W = .ok (.agg #[.int .i64 a, .int .i64 b, .int .i64 c, .int .i64 e]) W := by
      rcases (by omega : k = 0 ∨ k = 1 ∨ k = 2 ∨ k = 3) with rfl | rfl | rfl | rfl
      · exact Or.inr ⟨o1, p1, o2, p2, by omega, fun _ => by kernel_rfl⟩
      · exact Or.inr ⟨e1, q1, e2, q2, by omega, fun _ => by kernel_rfl⟩
      · exact Or.inr ⟨e1, q1, o2, p2, by omega, fun _ => by kernel_rfl⟩
      · exact Or.inl rfl
    rcases hcase with rfl | ⟨a, b, c, e, hk2, hix⟩
    · go_wp2
      go_ret
      exact ⟨rfl, hB⟩
    · have hk1 : (k : Int) < 3 := by omega
      cases h1 : okC a b
      · have hv := met_no (t := t) (d := d) (n := n) (show (okC a b && okC c e) = false by rw [h1]; rfl)
        have K1 := Lib.hid fun w => Calls.atX (meet_any a b c e t d n w) (hv.1 0) (hv.1 1) (hv.1 2) (hv.1 3) hv.2
        have K2 := Lib.hid fun w => rightC_b h1 w
        clear h1 hv
        go_wp2_with fail
        refine (K1.out _).mono ?_
        rintro e w6 ⟨rfl, hb6⟩
        have hz6_0 : wr.heap.size < w6.heap.size := by have := hb6.size; simp at this; omega
        have s6_0_0 : w6.cell? ⟨wr.heap.size, 0, none⟩ = some (.int .i64 a) := (hb6.cell (p := ⟨wr.heap.size, 0, none⟩) (by simp <;> omega)).trans (by go_simp)
        have s6_0_1 : w6.cell? ⟨wr.heap.size, 1, none⟩ = some (.int .i64 b) := (hb6.cell (p := ⟨wr.heap.size, 1, none⟩) (by simp <;> omega)).trans (by go_simp)
        have s6_0_2 : w6.cell? ⟨wr.heap.size, 2, none⟩ = some (.int .i64 c) := (hb6.cell (p := ⟨wr.heap.size, 2, none⟩) (by simp <;> omega)).trans (by go_simp)
        have s6_0_3 : w6.cell? ⟨wr.heap.size, 3, none⟩ = some (.int .i64 e) := (hb6.cell (p := ⟨wr.heap.size, 3, none⟩) (by simp <;> omega)).trans (by go_simp)
        have H6 : Below w.heap.size w w6 := (hB.alloc hB.size _).trans (hb6.mono (by have := hB.size; simp <;> omega))
        clear hb6
        have hw6 := H6.size
        go_wp2_with fail
        refine (K2.out _).mono ?_
        rintro e w7 ⟨rfl, hb7⟩
        have hz7_0 : wr.heap.size < w7.heap.size := by have := hb7.size; simp at this; omega
        have s7_0_0 : w7.cell? ⟨wr.heap.size, 0, none⟩ = some (.int .i64 a) := (hb7.cell (p := ⟨wr.heap.size, 0, none⟩) (by simp <;> omega)).trans (by go_simp)
        have s7_0_1 : w7.cell? ⟨wr.heap.size, 1, none⟩ = some (.int .i64 b) := (hb7.cell (p := ⟨wr.heap.size, 1, none⟩) (by simp <;> omega)).trans (by go_simp)
        have s7_0_2 : w7.cell? ⟨wr.heap.size, 2, none⟩ = some (.int .i64 c) := (hb7.cell (p := ⟨wr.heap.size, 2, none⟩) (by simp <;> omega)).trans (by go_simp)
        have s7_0_3 : w7.cell? ⟨wr.heap.size, 3, none⟩ = some (.int .i64 e) := (hb7.cell (p := ⟨wr.heap.size, 3, none⟩) (by simp <;> omega)).trans (by go_simp)
        have hz7_1 : w6.heap.size < w7.heap.size := by have := hb7.size; simp at this; omega
        have s7_1_0 : w7.cell? ⟨w6.heap.size, 0, none⟩ = some (.int .i64 0) := (hb7.cell (p := ⟨w6.heap.size, 0, none⟩) (by simp <;> omega)).trans (by go_simp)
        have s7_1_1 : w7.cell? ⟨w6.heap.size, 1, none⟩ = some (.int .i64 0) := (hb7.cell (p := ⟨w6.heap.size, 1, none⟩) (by simp <;> omega)).trans (by go_simp)
        have s7_1_2 : w7.cell? ⟨w6.heap.size, 2, none⟩ = some (.int .i64 0) := (hb7.cell (p := ⟨w6.heap.size, 2, none⟩) (by simp <;> omega)).trans (by go_simp)
        have s7_1_3 : w7.cell? ⟨w6.heap.size, 3, none⟩ = some (.int .i64 0) := (hb7.cell (p := ⟨w6.heap.size, 3, none⟩) (by simp <;> omega)).trans (by go_simp)
        have hz7_2 : w6.heap.size + 1 < w7.heap.size := by have := hb7.size; simp at this; omega
        have s7_2_0 : w7.cell? ⟨w6.heap.size + 1, 0, none⟩ = some (.int .i64 0) := (hb7.cell (p := ⟨w6.heap.size + 1, 0, none⟩) (by simp <;> omega)).trans (by go_simp)
        have s7_2_1 : w7.cell? ⟨w6.heap.size + 1, 1, none⟩ = some (.int .i64 0) := (hb7.cell (p := ⟨w6.heap.size + 1, 1, none⟩) (by simp <;> omega)).trans (by go_simp)
        have s7_2_2 : w7.cell? ⟨w6.heap.size + 1, 2, none⟩ = some (.int .i64 0) := (hb7.cell (p := ⟨w6.heap.size + 1, 2, none⟩) (by simp <;> omega)).trans (by go_simp)
        have s7_2_3 : w7.cell? ⟨w6.heap.size + 1, 3, none⟩ = some (.int .i64 0) := (hb7.cell (p := ⟨w6.heap.size + 1, 3, none⟩) (by simp <;> omega)).trans (by go_simp)
        have H7 : Below w.heap.size w w7 := ((H6.alloc H6.size _).alloc (by have := H6.size; simp <;> omega) _).trans (hb7.mono (by have := H6.size; simp <;> omega))
        clear hz6_0 s6_0_0 s6_0_1 s6_0_2 s6_0_3 hb7 H6
        go_wp2
        go_roundw
        case rel => exact ⟨k + 1, by omega, by go_num, H7⟩
        case measure => simp [intOf]; omega
      · have K2 := Lib.hid fun w => rightC_b h1 w
        cases h2 : okC c e
        · have hv := met_no (t := t) (d := d) (n := n) (show (okC a b && okC c e) = false by rw [h1, h2]; rfl)
          have K1 := Lib.hid fun w => Calls.atX (meet_any a b c e t d n w) (hv.1 0) (hv.1 1) (hv.1 2) (hv.1 3) hv.2
          have K3 := Lib.hid fun w => rightC_b h2 w
          clear h1 h2 hv
          go_wp2_with fail
          refine (K1.out _).mono ?_
          rintro e w6 ⟨rfl, hb6⟩
          have hz6_0 : wr.heap.size < w6.heap.size := by have := hb6.size; simp at this; omega
          have s6_0_0 : w6.cell? ⟨wr.heap.size, 0, none⟩ = some (.int .i64 a) := (hb6.cell (p := ⟨wr.heap.size, 0, none⟩) (by simp <;> omega)).trans (by go_simp)
          have s6_0_1 : w6.cell? ⟨wr.heap.size, 1, none⟩ = some (.int .i64 b) := (hb6.cell (p := ⟨wr.heap.size, 1, none⟩) (by simp <;> omega)).trans (by go_simp)
          have s6_0_2 : w6.cell? ⟨wr.heap.size, 2, none⟩ = some (.int .i64 c) := (hb6.cell (p := ⟨wr.heap.size, 2, none⟩) (by simp <;> omega)).trans (by go_simp)
          have s6_0_3 : w6.cell? ⟨wr.heap.size, 3, none⟩ = some (.int .i64 e) := (hb6.cell (p := ⟨wr.heap.size, 3, none⟩) (by simp <;> omega)).trans (by go_simp)
          have H6 : Below w.heap.size w w6 := (hB.alloc hB.size _).trans (hb6.mono (by have := hB.size; simp <;> omega))
          clear hb6
          have hw6 := H6.size
          go_wp2_with fail
          refine (K2.out _).mono ?_
          rintro e w7 ⟨rfl, hb7⟩
          have hz7_0 : wr.heap.size < w7.heap.size := by have := hb7.size; simp at this; omega
          have s7_0_0 : w7.cell? ⟨wr.heap.size, 0, none⟩ = some (.int .i64 a) := (hb7.cell (p := ⟨wr.heap.size, 0, none⟩) (by simp <;> omega)).trans (by go_simp)
          have s7_0_1 : w7.cell? ⟨wr.heap.size, 1, none⟩ = some (.int .i64 b) := (hb7.cell (p := ⟨wr.heap.size, 1, none⟩) (by simp <;> omega)).trans (by go_simp)
          have s7_0_2 : w7.cell? ⟨wr.heap.size, 2, none⟩ = some (.int .i64 c) := (hb7.cell (p := ⟨wr.heap.size, 2, none⟩) (by simp <;> omega)).trans (by go_simp)
          have s7_0_3 : w7.cell? ⟨wr.heap.size, 3, none⟩ = some (.int .i64 e) := (hb7.cell (p := ⟨wr.heap.size, 3, none⟩) (by simp <;> omega)).trans (by go_simp)
          have hz7_1 : w6.heap.size < w7.heap.size := by have := hb7.size; simp at this; omega
          have s7_1_0 : w7.cell? ⟨w6.heap.size, 0, none⟩ = some (.int .i64 0) := (hb7.cell (p := ⟨w6.heap.size, 0, none⟩) (by simp <;> omega)).trans (by go_simp)
          have s7_1_1 : w7.cell? ⟨w6.heap.size, 1, none⟩ = some (.int .i64 0) := (hb7.cell (p := ⟨w6.heap.size, 1, none⟩) (by simp <;> omega)).trans (by go_simp)
          have s7_1_2 : w7.cell? ⟨w6.heap.size, 2, none⟩ = some (.int .i64 0) := (hb7.cell (p := ⟨w6.heap.size, 2, none⟩) (by simp <;> omega)).trans (by go_simp)
          have s7_1_3 : w7.cell? ⟨w6.heap.size, 3, none⟩ = some (.int .i64 0) := (hb7.cell (p := ⟨w6.heap.size, 3, none⟩) (by simp <;> omega)).trans (by go_simp)
          have hz7_2 : w6.heap.size + 1 < w7.heap.size := by have := hb7.size; simp at this; omega
          have s7_2_0 : w7.cell? ⟨w6.heap.size + 1, 0, none⟩ = some (.int .i64 0) := (hb7.cell (p := ⟨w6.heap.size + 1, 0, none⟩) (by simp <;> omega)).trans (by go_simp)
          have s7_2_1 : w7.cell? ⟨w6.heap.size + 1, 1, none⟩ = some (.int .i64 0) := (hb7.cell (p := ⟨w6.heap.size + 1, 1, none⟩) (by simp <;> omega)).trans (by go_simp)
          have s7_2_2 : w7.cell? ⟨w6.heap.size + 1, 2, none⟩ = some (.int .i64 0) := (hb7.cell (p := ⟨w6.heap.size + 1, 2, none⟩) (by simp <;> omega)).trans (by go_simp)
          have s7_2_3 : w7.cell? ⟨w6.heap.size + 1, 3, none⟩ = some (.int .i64 0) := (hb7.cell (p := ⟨w6.heap.size + 1, 3, none⟩) (by simp <;> omega)).trans (by go_simp)
          have H7 : Below w.heap.size w w7 := ((H6.alloc H6.size _).alloc (by have := H6.size; simp <;> omega) _).trans (hb7.mono (by have := H6.size; simp <;> omega))
          clear hz6_0 s6_0_0 s6_0_1 s6_0_2 s6_0_3 hb7 H6
          go_wp2_with fail
          refine (K3.out _).mono ?_
          rintro e w8 ⟨rfl, hb8⟩
          have hz8_0 := Nat.lt_of_lt_of_le hz7_0 hb8.size
          have s8_0_0 := (hb8.cell (p := ⟨wr.heap.size, 0, none⟩) hz7_0).trans s7_0_0
          have s8_0_1 := (hb8.cell (p := ⟨wr.heap.size, 1, none⟩) hz7_0).trans s7_0_1
          have s8_0_2 := (hb8.cell (p := ⟨wr.heap.size, 2, none⟩) hz7_0).trans s7_0_2
          have s8_0_3 := (hb8.cell (p := ⟨wr.heap.size, 3, none⟩) hz7_0).trans s7_0_3
          have hz8_1 := Nat.lt_of_lt_of_le hz7_1 hb8.size
          have s8_1_0 := (hb8.cell (p := ⟨w6.heap.size, 0, none⟩) hz7_1).trans s7_1_0
          have s8_1_1 := (hb8.cell (p := ⟨w6.heap.size, 1, none⟩) hz7_1).trans s7_1_1
          have s8_1_2 := (hb8.cell (p := ⟨w6.heap.size, 2, none⟩) hz7_1).trans s7_1_2
          have s8_1_3 := (hb8.cell (p := ⟨w6.heap.size, 3, none⟩) hz7_1).trans s7_1_3
          have hz8_2 := Nat.lt_of_lt_of_le hz7_2 hb8.size
          have s8_2_0 := (hb8.cell (p := ⟨w6.heap.size + 1, 0, none⟩) hz7_2).trans s7_2_0
          have s8_2_1 := (hb8.cell (p := ⟨w6.heap.size + 1, 1, none⟩) hz7_2).trans s7_2_1
          have s8_2_2 := (hb8.cell (p := ⟨w6.heap.size + 1, 2, none⟩) hz7_2).trans s7_2_2
          have s8_2_3 := (hb8.cell (p := ⟨w6.heap.size + 1, 3, none⟩) hz7_2).trans s7_2_3
          have H8 := H7.trans (hb8.mono H7.size)
          clear hz7_0 s7_0_0 s7_0_1 s7_0_2 s7_0_3 hz7_1 s7_1_0 s7_1_1 s7_1_2 s7_1_3 hz7_2 s7_2_0 s7_2_1 s7_2_2 s7_2_3 hb8 H7
          go_wp2
          go_roundw
          case rel => exact ⟨k + 1, by omega, by go_num, H8⟩
          case measure => simp [intOf]; omega
        · have K3 := Lib.hid fun w => rightC_b h2 w
          cases h3 : timedB t d n
          · have hv := met_out h1 h2 h3
            have K1 := Lib.hid fun w => Calls.atX (meet_any a b c e t d n w) (hv.1 0) (hv.1 1) (hv.1 2) (hv.1 3) hv.2
            have K4 := Lib.hid fun w => rtimed_b h3 w
            clear h1 h2 h3 hv
            go_wp2_with fail
            refine (K1.out _).mono ?_
            rintro e w6 ⟨rfl, hb6⟩
            have hz6_0 : wr.heap.size < w6.heap.size := by have := hb6.size; simp at this; omega
            have s6_0_0 : w6.cell? ⟨wr.heap.size, 0, none⟩ = some (.int .i64 a) := (hb6.cell (p := ⟨wr.heap.size, 0, none⟩) (by simp <;> omega)).trans (by go_simp)
            have s6_0_1 : w6.cell? ⟨wr.heap.size, 1, none⟩ = some (.int .i64 b) := (hb6.cell (p := ⟨wr.heap.size, 1, none⟩) (by simp <;> omega)).trans (by go_simp)
            have s6_0_2 : w6.cell? ⟨wr.heap.size, 2, none⟩ = some (.int .i64 c) := (hb6.cell (p := ⟨wr.heap.size, 2, none⟩) (by simp <;> omega)).trans (by go_simp)
            have s6_0_3 : w6.cell? ⟨wr.heap.size, 3, none⟩ = some (.int .i64 e) := (hb6.cell (p := ⟨wr.heap.size, 3, none⟩) (by simp <;> omega)).trans (by go_simp)
            have H6 : Below w.heap.size w w6 := (hB.alloc hB.size _).trans (hb6.mono (by have := hB.size; simp <;> omega))
            clear hb6
            have hw6 := H6.size
            go_wp2_with fail
            refine (K2.out _).mono ?_
            rintro e w7 ⟨rfl, hb7⟩
            have hz7_0 : wr.heap.size < w7.heap.size := by have := hb7.size; simp at this; omega
            have s7_0_0 : w7.cell? ⟨wr.heap.size, 0, none⟩ = some (.int .i64 a) := (hb7.cell (p := ⟨wr.heap.size, 0, none⟩) (by simp <;> omega)).trans (by go_simp)
            have s7_0_1 : w7.cell? ⟨wr.heap.size, 1, none⟩ = some (.int .i64 b) := (hb7.cell (p := ⟨wr.heap.size, 1, none⟩) (by simp <;> omega)).trans (by go_simp)
            have s7_0_2 : w7.cell? ⟨wr.heap.size, 2, none⟩ = some (.int .i64 c) := (hb7.cell (p := ⟨wr.heap.size, 2, none⟩) (by simp <;> omega)).trans (by go_simp)
            have s7_0_3 : w7.cell? ⟨wr.heap.size, 3, none⟩ = some (.int .i64 e) := (hb7.cell (p := ⟨wr.heap.size, 3, none⟩) (by simp <;> omega)).trans (by go_simp)
            have hz7_1 : w6.heap.size < w7.heap.size := by have := hb7.size; simp at this; omega
            have s7_1_0 : w7.cell? ⟨w6.heap.size, 0, none⟩ = some (.int .i64 0) := (hb7.cell (p := ⟨w6.heap.size, 0, none⟩) (by simp <;> omega)).trans (by go_simp)
            have s7_1_1 : w7.cell? ⟨w6.heap.size, 1, none⟩ = some (.int .i64 0) := (hb7.cell (p := ⟨w6.heap.size, 1, none⟩) (by simp <;> omega)).trans (by go_simp)
            have s7_1_2 : w7.cell? ⟨w6.heap.size, 2, none⟩ = some (.int .i64 0) := (hb7.cell (p := ⟨w6.heap.size, 2, none⟩) (by simp <;> omega)).trans (by go_simp)
            have s7_1_3 : w7.cell? ⟨w6.heap.size, 3, none⟩ = some (.int .i64 0) := (hb7.cell (p := ⟨w6.heap.size, 3, none⟩) (by simp <;> omega)).trans (by go_simp)
            have hz7_2 : w6.heap.size + 1 < w7.heap.size := by have := hb7.size; simp at this; omega
            have s7_2_0 : w7.cell? ⟨w6.heap.size + 1, 0, none⟩ = some (.int .i64 0) := (hb7.cell (p := ⟨w6.heap.size + 1, 0, none⟩) (by simp <;> omega)).trans (by go_simp)
            have s7_2_1 : w7.cell? ⟨w6.heap.size + 1, 1, none⟩ = some (.int .i64 0) := (hb7.cell (p := ⟨w6.heap.size + 1, 1, none⟩) (by simp <;> omega)).trans (by go_simp)
            have s7_2_2 : w7.cell? ⟨w6.heap.size + 1, 2, none⟩ = some (.int .i64 0) := (hb7.cell (p := ⟨w6.heap.size + 1, 2, none⟩) (by simp <;> omega)).trans (by go_simp)
            have s7_2_3 : w7.cell? ⟨w6.heap.size + 1, 3, none⟩ = some (.int .i64 0) := (hb7.cell (p := ⟨w6.heap.size + 1, 3, none⟩) (by simp <;> omega)).trans (by go_simp)
            have H7 : Below w.heap.size w w7 := ((H6.alloc H6.size _).alloc (by have := H6.size; simp <;> omega) _).trans (hb7.mono (by have := H6.size; simp <;> omega))
            clear hz6_0 s6_0_0 s6_0_1 s6_0_2 s6_0_3 hb7 H6
            go_wp2_with fail
            refine (K3.out _).mono ?_
            rintro e w8 ⟨rfl, hb8⟩
            have hz8_0 := Nat.lt_of_lt_of_le hz7_0 hb8.size
            have s8_0_0 := (hb8.cell (p := ⟨wr.heap.size, 0, none⟩) hz7_0).trans s7_0_0
            have s8_0_1 := (hb8.cell (p := ⟨wr.heap.size, 1, none⟩) hz7_0).trans s7_0_1
            have s8_0_2 := (hb8.cell (p := ⟨wr.heap.size, 2, none⟩) hz7_0).trans s7_0_2
            have s8_0_3 := (hb8.cell (p := ⟨wr.heap.size, 3, none⟩) hz7_0).trans s7_0_3
            have hz8_1 := Nat.lt_of_lt_of_le hz7_1 hb8.size
            have s8_1_0 := (hb8.cell (p := ⟨w6.heap.size, 0, none⟩) hz7_1).trans s7_1_0
            have s8_1_1 := (hb8.cell (p := ⟨w6.heap.size, 1, none⟩) hz7_1).trans s7_1_1
            have s8_1_2 := (hb8.cell (p := ⟨w6.heap.size, 2, none⟩) hz7_1).trans s7_1_2
            have s8_1_3 := (hb8.cell (p := ⟨w6.heap.size, 3, none⟩) hz7_1).trans s7_1_3
            have hz8_2 := Nat.lt_of_lt_of_le hz7_2 hb8.size
            have s8_2_0 := (hb8.cell (p := ⟨w6.heap.size + 1, 0, none⟩) hz7_2).trans s7_2_0
            have s8_2_1 := (hb8.cell (p := ⟨w6.heap.size + 1, 1, none⟩) hz7_2).trans s7_2_1
            have s8_2_2 := (hb8.cell (p := ⟨w6.heap.size + 1, 2, none⟩) hz7_2).trans s7_2_2
            have s8_2_3 := (hb8.cell (p := ⟨w6.heap.size + 1, 3, none⟩) hz7_2).trans s7_2_3
            have H8 := H7.trans (hb8.mono H7.size)
            clear hz7_0 s7_0_0 s7_0_1 s7_0_2 s7_0_3 hz7_1 s7_1_0 s7_1_1 s7_1_2 s7_1_3 hz7_2 s7_2_0 s7_2_1 s7_2_2 s7_2_3 hb8 H7
            go_wp2_with fail
            refine (K4.out _).mono ?_
            rintro e w9' ⟨rfl, rfl⟩
            go_wp2
            go_roundw
            case rel => exact ⟨k + 1, by omega, by go_num, H8⟩
            case measure => simp [intOf]; omega
          · have K1 := Lib.hid fun w => Calls.atX (meet_any a b c e t d n w) rfl rfl rfl rfl (met_in h1 h2 h3)
            have K4 := Lib.hid fun w => rtimed_b h3 w
            have K5 := Lib.hid fun w => rmeet_any h1 h2 h3 w
            clear h1 h2 h3
            generalize metV a b c e t d n 0 = v0 at *
            generalize metV a b c e t d n 1 = v1 at *
            generalize metV a b c e t d n 2 = v2 at *
            generalize metV a b c e t d n 3 = v3 at *
            go_wp2_with fail
            refine (K1.out _).mono ?_
            rintro e w6 ⟨rfl, hb6⟩
            have hz6_0 : wr.heap.size < w6.heap.size := by have := hb6.size; simp at this; omega
            have s6_0_0 : w6.cell? ⟨wr.heap.size, 0, none⟩ = some (.int .i64 a) := (hb6.cell (p := ⟨wr.heap.size, 0, none⟩) (by simp <;> omega)).trans (by go_simp)
            have s6_0_1 : w6.cell? ⟨wr.heap.size, 1, none⟩ = some (.int .i64 b) := (hb6.cell (p := ⟨wr.heap.size, 1, none⟩) (by simp <;> omega)).trans (by go_simp)
            have s6_0_2 : w6.cell? ⟨wr.heap.size, 2, none⟩ = some (.int .i64 c) := (hb6.cell (p := ⟨wr.heap.size, 2, none⟩) (by simp <;> omega)).trans (by go_simp)
            have s6_0_3 : w6.cell? ⟨wr.heap.size, 3, none⟩ = some (.int .i64 e) := (hb6.cell (p := ⟨wr.heap.size, 3, none⟩) (by simp <;> omega)).trans (by go_simp)
            have H6 : Below w.heap.size w w6 := (hB.alloc hB.size _).trans (hb6.mono (by have := hB.size; simp <;> omega))
            clear hb6
            have hw6 := H6.size
            go_wp2_with fail
            refine (K2.out _).mono ?_
            rintro e w7 ⟨rfl, hb7⟩
            have hz7_0 : wr.heap.size < w7.heap.size := by have := hb7.size; simp at this; omega
            have s7_0_0 : w7.cell? ⟨wr.heap.size, 0, none⟩ = some (.int .i64 a) := (hb7.cell (p := ⟨wr.heap.size, 0, none⟩) (by simp <;> omega)).trans (by go_simp)
            have s7_0_1 : w7.cell? ⟨wr.heap.size, 1, none⟩ = some (.int .i64 b) := (hb7.cell (p := ⟨wr.heap.size, 1, none⟩) (by simp <;> omega)).trans (by go_simp)
            have s7_0_2 : w7.cell? ⟨wr.heap.size, 2, none⟩ = some (.int .i64 c) := (hb7.cell (p := ⟨wr.heap.size, 2, none⟩) (by simp <;> omega)).trans (by go_simp)
            have s7_0_3 : w7.cell? ⟨wr.heap.size, 3, none⟩ = some (.int .i64 e) := (hb7.cell (p := ⟨wr.heap.size, 3, none⟩) (by simp <;> omega)).trans (by go_simp)
            have hz7_1 : w6.heap.size < w7.heap.size := by have := hb7.size; simp at this; omega
            have s7_1_0 : w7.cell? ⟨w6.heap.size, 0, none⟩ = some (.int .i64 v0) := (hb7.cell (p := ⟨w6.heap.size, 0, none⟩) (by simp <;> omega)).trans (by go_simp)
            have s7_1_1 : w7.cell? ⟨w6.heap.size, 1, none⟩ = some (.int .i64 v1) := (hb7.cell (p := ⟨w6.heap.size, 1, none⟩) (by simp <;> omega)).trans (by go_simp)
            have s7_1_2 : w7.cell? ⟨w6.heap.size, 2, none⟩ = some (.int .i64 v2) := (hb7.cell (p := ⟨w6.heap.size, 2, none⟩) (by simp <;> omega)).trans (by go_simp)
            have s7_1_3 : w7.cell? ⟨w6.heap.size, 3, none⟩ = some (.int .i64 v3) := (hb7.cell (p := ⟨w6.heap.size, 3, none⟩) (by simp <;> omega)).trans (by go_simp)
            have hz7_2 : w6.heap.size + 1 < w7.heap.size := by have := hb7.size; simp at this; omega
            have s7_2_0 : w7.cell? ⟨w6.heap.size + 1, 0, none⟩ = some (.int .i64 0) := (hb7.cell (p := ⟨w6.heap.size + 1, 0, none⟩) (by simp <;> omega)).trans (by go_simp)
            have s7_2_1 : w7.cell? ⟨w6.heap.size + 1, 1, none⟩ = some (.int .i64 0) := (hb7.cell (p := ⟨w6.heap.size + 1, 1, none⟩) (by simp <;> omega)).trans (by go_simp)
            have s7_2_2 : w7.cell? ⟨w6.heap.size + 1, 2, none⟩ = some (.int .i64 0) := (hb7.cell (p := ⟨w6.heap.size + 1, 2, none⟩) (by simp <;> omega)).trans (by go_simp)
            have s7_2_3 : w7.cell? ⟨w6.heap.size + 1, 3, none⟩ = some (.int .i64 0) := (hb7.cell (p := ⟨w6.heap.size + 1, 3, none⟩) (by simp <;> omega)).trans (by go_simp)
            have z7_2_0 : w7.frozen? ⟨w6.heap.size + 1, 0, none⟩ = false := (hb7.frozen (p := ⟨w6.heap.size + 1, 0, none⟩) (by simp <;> omega)).trans (by go_simp)
            have z7_2_1 : w7.frozen? ⟨w6.heap.size + 1, 1, none⟩ = false := (hb7.frozen (p := ⟨w6.heap.size + 1, 1, none⟩) (by simp <;> omega)).trans (by go_simp)
            have z7_2_2 : w7.frozen? ⟨w6.heap.size + 1, 2, none⟩ = false := (hb7.frozen (p := ⟨w6.heap.size + 1, 2, none⟩) (by simp <;> omega)).trans (by go_simp)
            have z7_2_3 : w7.frozen? ⟨w6.heap.size + 1, 3, none⟩ = false := (hb7.frozen (p := ⟨w6.heap.size + 1, 3, none⟩) (by simp <;> omega)).trans (by go_simp)
            have H7 : Below w.heap.size w w7 := ((H6.alloc H6.size _).alloc (by have := H6.size; simp <;> omega) _).trans (hb7.mono (by have := H6.size; simp <;> omega))
            clear hz6_0 s6_0_0 s6_0_1 s6_0_2 s6_0_3 hb7 H6
            go_wp2_with fail
            refine (K3.out _).mono ?_
            rintro e w8 ⟨rfl, hb8⟩
            have hz8_0 := Nat.lt_of_lt_of_le hz7_0 hb8.size
            have s8_0_0 := (hb8.cell (p := ⟨wr.heap.size, 0, none⟩) hz7_0).trans s7_0_0
            have s8_0_1 := (hb8.cell (p := ⟨wr.heap.size, 1, none⟩) hz7_0).trans s7_0_1
            have s8_0_2 := (hb8.cell (p := ⟨wr.heap.size, 2, none⟩) hz7_0).trans s7_0_2
            have s8_0_3 := (hb8.cell (p := ⟨wr.heap.size, 3, none⟩) hz7_0).trans s7_0_3
            have hz8_1 := Nat.lt_of_lt_of_le hz7_1 hb8.size
            have s8_1_0 := (hb8.cell (p := ⟨w6.heap.size, 0, none⟩) hz7_1).trans s7_1_0
            have s8_1_1 := (hb8.cell (p := ⟨w6.heap.size, 1, none⟩) hz7_1).trans s7_1_1
            have s8_1_2 := (hb8.cell (p := ⟨w6.heap.size, 2, none⟩) hz7_1).trans s7_1_2
            have s8_1_3 := (hb8.cell (p := ⟨w6.heap.size, 3, none⟩) hz7_1).trans s7_1_3
            have hz8_2 := Nat.lt_of_lt_of_le hz7_2 hb8.size
            have s8_2_0 := (hb8.cell (p := ⟨w6.heap.size + 1, 0, none⟩) hz7_2).trans s7_2_0
            have s8_2_1 := (hb8.cell (p := ⟨w6.heap.size + 1, 1, none⟩) hz7_2).trans s7_2_1
            have s8_2_2 := (hb8.cell (p := ⟨w6.heap.size + 1, 2, none⟩) hz7_2).trans s7_2_2
            have s8_2_3 := (hb8.cell (p := ⟨w6.heap.size + 1, 3, none⟩) hz7_2).trans s7_2_3
            have z8_2_0 := (hb8.frozen (p := ⟨w6.heap.size + 1, 0, none⟩) hz7_2).trans z7_2_0
            have z8_2_1 := (hb8.frozen (p := ⟨w6.heap.size + 1, 1, none⟩) hz7_2).trans z7_2_1
            have z8_2_2 := (hb8.frozen (p := ⟨w6.heap.size + 1, 2, none⟩) hz7_2).trans z7_2_2
            have z8_2_3 := (hb8.frozen (p := ⟨w6.heap.size + 1, 3, none⟩) hz7_2).trans z7_2_3
            have H8 := H7.trans (hb8.mono H7.size)
            clear hz7_0 s7_0_0 s7_0_1 s7_0_2 s7_0_3 hz7_1 s7_1_0 s7_1_1 s7_1_2 s7_1_3 hz7_2 s7_2_0 s7_2_1 s7_2_2 s7_2_3 z7_2_0 z7_2_1 z7_2_2 z7_2_3 hb8 H7
            go_wp2_with fail
            refine (K4.out _).mono ?_
            rintro e w9' ⟨rfl, rfl⟩
            go_wp2_with fail
            refine (K5.out _).mono ?_
            rintro e w9 ⟨rfl, hb9⟩
            have hz9_0 := Nat.lt_of_lt_of_le hz8_0 hb9.size
            have s9_0_0 := (hb9.cell (p := ⟨wr.heap.size, 0, none⟩) hz8_0).trans s8_0_0
            have s9_0_1 := (hb9.cell (p := ⟨wr.heap.size, 1, none⟩) hz8_0).trans s8_0_1
            have s9_0_2 := (hb9.cell (p := ⟨wr.heap.size, 2, none⟩) hz8_0).trans s8_0_2
            have s9_0_3 := (hb9.cell (p := ⟨wr.heap.size, 3, none⟩) hz8_0).trans s8_0_3
            have hz9_1 := Nat.lt_of_lt_of_le hz8_1 hb9.size
            have s9_1_0 := (hb9.cell (p := ⟨w6.heap.size, 0, none⟩) hz8_1).trans s8_1_0
            have s9_1_1 := (hb9.cell (p := ⟨w6.heap.size, 1, none⟩) hz8_1).trans s8_1_1
            have s9_1_2 := (hb9.cell (p := ⟨w6.heap.size, 2, none⟩) hz8_1).trans s8_1_2
            have s9_1_3 := (hb9.cell (p := ⟨w6.heap.size, 3, none⟩) hz8_1).trans s8_1_3
            have hz9_2 := Nat.lt_of_lt_of_le hz8_2 hb9.size
            have s9_2_0 := (hb9.cell (p := ⟨w6.heap.size + 1, 0, none⟩) hz8_2).trans s8_2_0
            have s9_2_1 := (hb9.cell (p := ⟨w6.heap.size + 1, 1, none⟩) hz8_2).trans s8_2_1
            have s9_2_2 := (hb9.cell (p := ⟨w6.heap.size + 1, 2, none⟩) hz8_2).trans s8_2_2
            have s9_2_3 := (hb9.cell (p := ⟨w6.heap.size + 1, 3, none⟩) hz8_2).trans s8_2_3
            have z9_2_0 := (hb9.frozen (p := ⟨w6.heap.size + 1, 0, none⟩) hz8_2).trans z8_2_0
            have z9_2_1 := (hb9.frozen (p := ⟨w6.heap.size + 1, 1, none⟩) hz8_2).trans z8_2_1
            have z9_2_2 := (hb9.frozen (p := ⟨w6.heap.size + 1, 2, none⟩) hz8_2).trans z8_2_2
            have z9_2_3 := (hb9.frozen (p := ⟨w6.heap.size + 1, 3, none⟩) hz8_2).trans z8_2_3
            have H9 := H8.trans (hb9.mono H8.size)
            clear hz8_0 s8_0_0 s8_0_1 s8_0_2 s8_0_3 hz8_1 s8_1_0 s8_1_1 s8_1_2 s8_1_3 hz8_2 s8_2_0 s8_2_1 s8_2_2 s8_2_3 z8_2_0 z8_2_1 z8_2_2 z8_2_3 hb9 H8
            go_wp2
            go_roundw
            case rel => exact ⟨k + 1, by omega, by go_num, (((H9.setCell (by simp <;> omega) _).setCell (by simp <;> omega) _).setCell (by simp <;> omega) _).setCell (by simp <;> omega) _⟩
            case measure => simp [intOf]; omega
end Go.Proofs.Ytelpjmmkaakceaa
