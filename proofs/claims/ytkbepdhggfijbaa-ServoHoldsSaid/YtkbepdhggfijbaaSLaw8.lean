/- ServoHolds: the walk of the law. -/
import Derived.Test.YtkbepdhggfijbaaWorks13
import Derived.Test.YtkbepdhggfijbaaDraft09
import Derived.Test.YtkbepdhggfijbaaHoldsLaw
import Derived.Test.YtkbepdhggfijbaaRegion
namespace Go.Proofs.Ytkbepdhggfijbaa
open Go.RowKit Go.Shelf

theorem wp_gen {P : Program} {c : Code} {Q : Exit → Act → World → Prop} {a : Act} {W : World} (h : ∀ w, w = W → c.wp P Q a w) : c.wp P Q a W := h _ rfl
theorem atC_small {o p t : Int} (h : okC o p = true) (h0 : 0 ≤ t) (h1 : t ≤ 8589934590) : -1200000000000 ≤ atC o p t ∧ atC o p t ≤ 1200000000000 := by
  rw [okC_iff] at h
  have := mul_bdS (A := 8589934590) (B := 200000) (a := t) (b := p) (by omega) h1 (by omega) (by omega)
  unfold atC; omega
theorem holds_all {o1 p1 o2 p2 a l r rho : Int} (h1 : okC o1 p1 = true) (h2 : okC o2 p2 = true) (ha : 0 ≤ a ∧ a ≤ 4294967295) (hl : 0 ≤ l ∧ l ≤ 4294967295) (hr : -32768 ≤ r ∧ r ≤ 32767) (hq : -32768 ≤ rho ∧ rho ≤ 32767) :
    okS (atC o1 p1 a) (atC o2 p2 a + r) (p2 - p1 + rho) = true ∧ limB (max r (-r)) (atC o1 p1 (a + l) - atC o1 p1 a) (max rho (-rho)) = true ∧
    -4398046511104 ≤ atS (atC o1 p1 a) (atC o2 p2 a + r) (p2 - p1 + rho) (atC o1 p1 (a + l)) ∧ atS (atC o1 p1 a) (atC o2 p2 a + r) (p2 - p1 + rho) (atC o1 p1 (a + l)) ≤ 4398046511104 ∧
    0 ≤ sbV (max r (-r)) (atC o1 p1 (a + l) - atC o1 p1 a) (max rho (-rho)) ∧ sbV (max r (-r)) (atC o1 p1 (a + l) - atC o1 p1 a) (max rho (-rho)) ≤ 4398046511104 ∧
    atC o2 p2 (a + l) - sbV (max r (-r)) (atC o1 p1 (a + l) - atC o1 p1 a) (max rho (-rho)) ≤ atS (atC o1 p1 a) (atC o2 p2 a + r) (p2 - p1 + rho) (atC o1 p1 (a + l)) ∧
    atS (atC o1 p1 a) (atC o2 p2 a + r) (p2 - p1 + rho) (atC o1 p1 (a + l)) ≤ atC o2 p2 (a + l) + sbV (max r (-r)) (atC o1 p1 (a + l) - atC o1 p1 a) (max rho (-rho)) := by
  have A1 := atC_small h1 ha.1 (by omega)
  have A2 := atC_small h2 ha.1 (by omega)
  have A3 := atC_small h1 (show 0 ≤ a + l by omega) (by omega)
  have A4 := atC_small h2 (show 0 ≤ a + l by omega) (by omega)
  rw [okC_iff] at h1 h2
  obtain ⟨hX, hlo, hhi⟩ := holds_plain (T := a) (N := l) (p1 := p1) (p2 := p2) (r := rho) hl.1 (by omega) (by omega) (by omega) (by omega)
  have eX : atC o1 p1 (a + l) - atC o1 p1 a = l + (a + l) * p1 / 1000000000 - a * p1 / 1000000000 := by unfold atC; omega
  have eY : atC o2 p2 (a + l) - atC o2 p2 a = l + (a + l) * p2 / 1000000000 - a * p2 / 1000000000 := by unfold atC; omega
  have eG : atS (atC o1 p1 a) (atC o2 p2 a + r) (p2 - p1 + rho) (atC o1 p1 (a + l)) = atC o2 p2 a + r + (atC o1 p1 (a + l) - atC o1 p1 a) + (atC o1 p1 (a + l) - atC o1 p1 a) * (p2 - p1 + rho) / 1000000000 := rfl
  rw [← eX, ← eY] at hlo hhi
  rw [← eX] at hX
  rw [eG]
  generalize atC o1 p1 a = A at *
  generalize atC o2 p2 a = B at *
  generalize atC o1 p1 (a + l) = C at *
  generalize atC o2 p2 (a + l) = D at *
  clear eX eY eG
  obtain ⟨x, hx⟩ : ∃ x, C - A = x := ⟨_, rfl⟩
  rw [hx] at hX hlo hhi ⊢
  have hlim : limB (max r (-r)) x (max rho (-rho)) = true := by rw [limB_iff]; omega
  have hb1 := mul_bdS (A := 2400000000000) (B := 500000) (a := x) (b := p2 - p1 + rho) (by omega) (by omega) (by omega) (by omega)
  have hb2 := mul_bdS (A := 2400000000000) (B := 40000) (a := -x) (b := max rho (-rho) + 82) (by omega) (by omega) (by omega) (by omega)
  have hn : (-x) * (max rho (-rho) + 82) ≤ 0 := by rw [Int.neg_mul]; have := Int.mul_nonneg hX (show 0 ≤ max rho (-rho) + 82 by omega); omega
  have es : sbV (max r (-r)) x (max rho (-rho)) = max r (-r) - (-x) * (max rho (-rho) + 82) / 1000000000 + 3 := by unfold sbV; rw [if_pos hlim]
  rw [es]
  refine ⟨?_, hlim, ?_⟩
  · rw [okS_iff]; omega
  · generalize x * (p2 - p1 + rho) = u at *
    generalize (-x) * (max rho (-rho) + 82) = v at *
    omega
set_option maxRecDepth 100000 in
set_option maxHeartbeats 1000000 in
theorem slaw8_walk (x1 y1 x2 y2 a l r rho : Int) (ha : 0 ≤ a ∧ a ≤ 4294967295) (hl : 0 ≤ l ∧ l ≤ 4294967295) (hr : -32768 ≤ r ∧ r ≤ 32767) (hq : -32768 ≤ rho ∧ rho ≤ 32767) (w : World) :
    Calls Try.prog 10 #[.agg #[.int .i64 x1, .int .i32 y1, .int .i64 x2, .int .i32 y2], .agg #[.int .u32 a, .int .u32 l, .int .i16 r, .int .i16 rho]] w fun e w' => e = .returned (.bool true) ∧ Below w.heap.size w w' := by
  have HD1 := Lib.hid fun w => draft_any x1 y1 w
  have HD2 := Lib.hid fun w => draft_any x2 y2 w
  have ho1 := okD x1 y1
  have ho2 := okD x2 y2
  generalize dO x1 = o1 at *
  generalize dP y1 = p1 at *
  generalize dO x2 = o2 at *
  generalize dP y2 = p2 at *
  obtain ⟨a0, a1⟩ := ha
  obtain ⟨l0, l1⟩ := hl
  obtain ⟨r0, r1⟩ := hr
  obtain ⟨q0, q1⟩ := hq
  have A1 := atC_small ho1 a0 (by omega)
  have A2 := atC_small ho2 a0 (by omega)
  have A3 := atC_small ho1 (show 0 ≤ a + l by omega) (by omega)
  have A4 := atC_small ho2 (show 0 ≤ a + l by omega) (by omega)
  obtain ⟨hS, hL, g1, g2, g3, g4, g5, g6⟩ := holds_all ho1 ho2 ⟨a0, a1⟩ ⟨l0, l1⟩ ⟨r0, r1⟩ ⟨q0, q1⟩
  have t1 : inT a = true := by rw [inT_iff]; omega
  have t2 : inT (a + l) = true := by rw [inT_iff]; omega
  have hC : stamp (atC o1 p1 (a + l)) = true := by rw [stamp_iff]; omega
  have T1 := Lib.hid fun w => Calls.at2 (local_any o1 p1 a w) (loc_ok ho1 t1).1 (loc_ok ho1 t1).2
  have T2 := Lib.hid fun w => Calls.at2 (local_any o2 p2 a w) (loc_ok ho2 t1).1 (loc_ok ho2 t1).2
  have T3 := Lib.hid fun w => Calls.at2 (local_any o1 p1 (a + l) w) (loc_ok ho1 t2).1 (loc_ok ho1 t2).2
  have T4 := Lib.hid fun w => Calls.at2 (local_any o2 p2 (a + l) w) (loc_ok ho2 t2).1 (loc_ok ho2 t2).2
  have T5 := Lib.hid fun w => Calls.at2 (time_s _ _ _ _ w) (tm_ok hS hC).1 (tm_ok hS hC).2
  have T6 := Lib.hid fun w => Calls.at2 (sbound_any (max r (-r)) (atC o1 p1 (a + l) - atC o1 p1 a) (max rho (-rho)) w) rfl (show sbE _ _ _ = 0 by unfold sbE; rw [if_pos hL])
  clear hS hL t1 t2 hC
  generalize atS (atC o1 p1 a) (atC o2 p2 a + r) (p2 - p1 + rho) (atC o1 p1 (a + l)) = G at *
  generalize sbV (max r (-r)) (atC o1 p1 (a + l) - atC o1 p1 a) (max rho (-rho)) = E at *
  rw [okC_iff] at ho1 ho2
  obtain ⟨⟨u1, u2⟩, u3, u4⟩ := ho1
  obtain ⟨⟨u5, u6⟩, u7, u8⟩ := ho2
  generalize atC o1 p1 a = A at *
  generalize atC o2 p2 a = B at *
  generalize atC o1 p1 (a + l) = C at *
  generalize atC o2 p2 (a + l) = D at *
  obtain ⟨v1, v2⟩ := A1
  obtain ⟨v3, v4⟩ := A2
  obtain ⟨v5, v6⟩ := A3
  obtain ⟨v7, v8⟩ := A4
  go_enter Try.func10, Try.ntmps10
  go_wp2_with fail
  refine (works13 _).mono ?_
  rintro e w1 ⟨rfl, hb1⟩
  have hz1_0 : w.heap.size < w1.heap.size := by have := hb1.size; simp at this; omega
  have s1_0_0 : w1.cell? ⟨w.heap.size, 0, none⟩ = some (.int .i64 x1) := (hb1.cell (p := ⟨w.heap.size, 0, none⟩) (by simp <;> omega)).trans (by go_simp)
  have s1_0_1 : w1.cell? ⟨w.heap.size, 1, none⟩ = some (.int .i32 y1) := (hb1.cell (p := ⟨w.heap.size, 1, none⟩) (by simp <;> omega)).trans (by go_simp)
  have s1_0_2 : w1.cell? ⟨w.heap.size, 2, none⟩ = some (.int .i64 x2) := (hb1.cell (p := ⟨w.heap.size, 2, none⟩) (by simp <;> omega)).trans (by go_simp)
  have s1_0_3 : w1.cell? ⟨w.heap.size, 3, none⟩ = some (.int .i32 y2) := (hb1.cell (p := ⟨w.heap.size, 3, none⟩) (by simp <;> omega)).trans (by go_simp)
  have hz1_1 : w.heap.size + 1 < w1.heap.size := by have := hb1.size; simp at this; omega
  have s1_1_0 : w1.cell? ⟨w.heap.size + 1, 0, none⟩ = some (.int .u32 a) := (hb1.cell (p := ⟨w.heap.size + 1, 0, none⟩) (by simp <;> omega)).trans (by go_simp)
  have s1_1_1 : w1.cell? ⟨w.heap.size + 1, 1, none⟩ = some (.int .u32 l) := (hb1.cell (p := ⟨w.heap.size + 1, 1, none⟩) (by simp <;> omega)).trans (by go_simp)
  have s1_1_2 : w1.cell? ⟨w.heap.size + 1, 2, none⟩ = some (.int .i16 r) := (hb1.cell (p := ⟨w.heap.size + 1, 2, none⟩) (by simp <;> omega)).trans (by go_simp)
  have s1_1_3 : w1.cell? ⟨w.heap.size + 1, 3, none⟩ = some (.int .i16 rho) := (hb1.cell (p := ⟨w.heap.size + 1, 3, none⟩) (by simp <;> omega)).trans (by go_simp)
  have H1 : Below w.heap.size w w1 := (((Below.refl _ _).alloc (Nat.le_refl _) _).alloc (by simp <;> omega) _).trans (hb1.mono (by simp <;> omega))
  clear hb1
  go_wp2_with fail
  refine wp_region_put (R := Nat × Nat) [24, 25, 26, 27, 28, 29, 5, 6]
    (fun r => [.pointer (some ⟨w.heap.size, 0, none⟩), .agg #[.int .i64 x1, .int .i32 y1], .agg #[.int .i64 o1, .int .i64 p1], .pointer (some ⟨w.heap.size, 2, none⟩), .agg #[.int .i64 x2, .int .i32 y2], .agg #[.int .i64 o2, .int .i64 p2], .pointer (some ⟨r.1, 0, none⟩), .pointer (some ⟨r.2, 0, none⟩)])
    (fun L r wx => Below w1.heap.size w1 wx ∧ Own2 w1.heap.size r.1 (L 6) (L 8) o1 p1 wx ∧ Own2 w1.heap.size r.2 (L 7) (L 9) o2 p2 wx ∧ (L 6 = true → L 7 = true → r.1 ≠ r.2))
    (by kernel_rfl) (by kernel_rfl) (by kernel_rfl) (0, 0) ?_ ?_ ?_
  · exact ⟨(Below.refl _ _).drew, ⟨fun h => absurd h (by decide), fun h => absurd h (by decide)⟩, ⟨fun h => absurd h (by decide), fun h => absurd h (by decide)⟩, fun h => absurd h (by decide)⟩
  · refine ⟨?_, ?_, ?_, ?_, ?_, ?_, ?_, ?_, ?_, ?_, trivial⟩
    all_goals
      rintro L ⟨p, q⟩ wx K hLi hdep ⟨hB, O1, O2, hne⟩ hK
      have f0 := (hB.cell (p := ⟨w.heap.size, 0, none⟩) hz1_0).trans s1_0_0
      have f1 := (hB.cell (p := ⟨w.heap.size, 1, none⟩) hz1_0).trans s1_0_1
      have f2 := (hB.cell (p := ⟨w.heap.size, 2, none⟩) hz1_0).trans s1_0_2
      have f3 := (hB.cell (p := ⟨w.heap.size, 3, none⟩) hz1_0).trans s1_0_3
      simp only [putAll, Act.put, List.setIfInBounds_toArray, List.set_cons_succ, List.set_cons_zero] at hK ⊢
      go_simp
    · exact hK (p, q) wx ⟨hB, by simpa using O1, by simpa using O2, by simpa using hne⟩
    · exact hK (p, q) wx ⟨hB, by simpa using O1, by simpa using O2, by simpa using hne⟩
    · refine (HD1.out _).mono ?_
      rintro e w' ⟨rfl, hb⟩
      exact hK (p, q) w' ⟨hB.trans (hb.mono hB.size), by simpa using O1.below hb, by simpa using O2.below hb, by simpa using hne⟩
    · exact hK (p, q) wx ⟨hB, by simpa using O1, by simpa using O2, by simpa using hne⟩
    · exact hK (p, q) wx ⟨hB, by simpa using O1, by simpa using O2, by simpa using hne⟩
    · refine (HD2.out _).mono ?_
      rintro e w' ⟨rfl, hb⟩
      exact hK (p, q) w' ⟨hB.trans (hb.mono hB.size), by simpa using O1.below hb, by simpa using O2.below hb, by simpa using hne⟩
    · have h8 : L 8 = false := by
        cases h : L 8
        · rfl
        · rw [O1.1 h] at hLi; cases hLi
      refine hK (wx.heap.size, q) _ ⟨hB.alloc hB.size _, ?_, ?_, ?_⟩
      · simp only [h8]
        exact ⟨fun _ => by simp, fun _ => ⟨hB.size, by simp, by go_simp, by go_simp, by go_simp, by go_simp⟩⟩
      · simpa using O2.below ((Below.refl _ _).alloc (Nat.le_refl _) _)
      · intro _ h7
        have := (O2.2 (by simpa using h7)).2.1
        exact fun e => by simp at e; omega
    · have h9 : L 9 = false := by
        cases h : L 9
        · rfl
        · rw [O2.1 h] at hLi; cases hLi
      refine hK (p, wx.heap.size) _ ⟨hB.alloc hB.size _, ?_, ?_, ?_⟩
      · simpa using O1.below ((Below.refl _ _).alloc (Nat.le_refl _) _)
      · simp only [h9]
        exact ⟨fun _ => by simp, fun _ => ⟨hB.size, by simp, by go_simp, by go_simp, by go_simp, by go_simp⟩⟩
      · intro h6 _
        have := (O1.2 (by simpa using h6)).2.1
        exact fun e => by simp at e; omega
    · have h6 : L 6 = true := hdep ⟨6, .data⟩ (by simp) rfl
      obtain ⟨g1, g2, g3, g4, g5, g6⟩ := O1.2 h6
      rw [hLi] at g3 g4
      go_simp
      refine hK (p, q) _ ⟨(hB.setCell g1 _).setCell g1 _, ?_, ?_, by simpa using hne⟩
      · exact ⟨fun _ => by simp [h6], fun _ => ⟨g1, by simpa [World.setCell] using g2, by go_simp, by go_simp, by go_simp, by go_simp⟩⟩
      · have := (O2.set (c := p) (o := 0) (v := .int .i64 o1) fun h => hne h6 h).set (c := p) (o := 1) (v := .int .i64 p1) fun h => hne h6 h
        simpa using this
    · have h7 : L 7 = true := hdep ⟨7, .data⟩ (by simp) rfl
      obtain ⟨g1, g2, g3, g4, g5, g6⟩ := O2.2 h7
      rw [hLi] at g3 g4
      go_simp
      refine hK (p, q) _ ⟨(hB.setCell g1 _).setCell g1 _, ?_, ?_, by simpa using hne⟩
      · have := (O1.set (c := q) (o := 0) (v := .int .i64 o2) fun h e => hne h h7 e.symm).set (c := q) (o := 1) (v := .int .i64 p2) fun h e => hne h h7 e.symm
        simpa using this
      · exact ⟨fun _ => by simp [h7], fun _ => ⟨g1, by simpa [World.setCell] using g2, by go_simp, by go_simp, by go_simp, by go_simp⟩⟩
  rintro ⟨p, q⟩ w2 ⟨hb2, O1, O2, hne⟩
  obtain ⟨p0, p1', p2', p3', p4', p5'⟩ := O1.2 rfl
  obtain ⟨q0, q1', q2', q3', q4', q5'⟩ := O2.2 rfl
  have hpq : p ≠ q := hne rfl rfl
  clear hne O1 O2
  simp only [if_true] at p2' p3' q2' q3'
  simp only [putAll, Act.put, List.setIfInBounds_toArray, List.set_cons_succ, List.set_cons_zero]
  have hz2_0 := Nat.lt_of_lt_of_le hz1_0 hb2.size
  have s2_0_0 := (hb2.cell (p := ⟨w.heap.size, 0, none⟩) hz1_0).trans s1_0_0
  have s2_0_1 := (hb2.cell (p := ⟨w.heap.size, 1, none⟩) hz1_0).trans s1_0_1
  have s2_0_2 := (hb2.cell (p := ⟨w.heap.size, 2, none⟩) hz1_0).trans s1_0_2
  have s2_0_3 := (hb2.cell (p := ⟨w.heap.size, 3, none⟩) hz1_0).trans s1_0_3
  have hz2_1 := Nat.lt_of_lt_of_le hz1_1 hb2.size
  have s2_1_0 := (hb2.cell (p := ⟨w.heap.size + 1, 0, none⟩) hz1_1).trans s1_1_0
  have s2_1_1 := (hb2.cell (p := ⟨w.heap.size + 1, 1, none⟩) hz1_1).trans s1_1_1
  have s2_1_2 := (hb2.cell (p := ⟨w.heap.size + 1, 2, none⟩) hz1_1).trans s1_1_2
  have s2_1_3 := (hb2.cell (p := ⟨w.heap.size + 1, 3, none⟩) hz1_1).trans s1_1_3
  have H2 := H1.trans (hb2.mono H1.size)
  clear hz1_0 s1_0_0 s1_0_1 s1_0_2 s1_0_3 hz1_1 s1_1_0 s1_1_1 s1_1_2 s1_1_3 hb2
  go_wp2_with fail
  have F0 := Bw.cell hz2_1 s2_1_0
  have F1 := Bw.cell hz2_1 s2_1_1
  refine wp_region_bw (by kernel_rfl) (by kernel_rfl) ?_
  repeat (go_big_quiet_step (fail))
  refine wpQuiet_nil ?_
  rintro _ ⟨⟨w3, hb3⟩, rfl⟩
  clear F0 F1
  have hz3_0 := Nat.lt_of_lt_of_le hz2_1 hb3.size
  have s3_0_0 := (hb3.cell (p := ⟨w.heap.size + 1, 0, none⟩) hz2_1).trans s2_1_0
  have s3_0_1 := (hb3.cell (p := ⟨w.heap.size + 1, 1, none⟩) hz2_1).trans s2_1_1
  have s3_0_2 := (hb3.cell (p := ⟨w.heap.size + 1, 2, none⟩) hz2_1).trans s2_1_2
  have s3_0_3 := (hb3.cell (p := ⟨w.heap.size + 1, 3, none⟩) hz2_1).trans s2_1_3
  have hz3_1 := Nat.lt_of_lt_of_le p1' hb3.size
  have s3_1_0 := (hb3.cell (p := ⟨p, 0, none⟩) p1').trans p2'
  have s3_1_1 := (hb3.cell (p := ⟨p, 1, none⟩) p1').trans p3'
  have hz3_2 := Nat.lt_of_lt_of_le q1' hb3.size
  have s3_2_0 := (hb3.cell (p := ⟨q, 0, none⟩) q1').trans q2'
  have s3_2_1 := (hb3.cell (p := ⟨q, 1, none⟩) q1').trans q3'
  have H3 := H2.trans (hb3.mono H2.size)
  clear hz2_1 s2_1_0 s2_1_1 s2_1_2 s2_1_3 p1' p2' p3' q1' q2' q3' hb3
  go_wp2_with fail
  refine (T1.out _).mono ?_
  rintro e w4 ⟨rfl, hb4⟩
  have hz4_0 := Nat.lt_of_lt_of_le hz3_0 hb4.size
  have s4_0_0 := (hb4.cell (p := ⟨w.heap.size + 1, 0, none⟩) hz3_0).trans s3_0_0
  have s4_0_1 := (hb4.cell (p := ⟨w.heap.size + 1, 1, none⟩) hz3_0).trans s3_0_1
  have s4_0_2 := (hb4.cell (p := ⟨w.heap.size + 1, 2, none⟩) hz3_0).trans s3_0_2
  have s4_0_3 := (hb4.cell (p := ⟨w.heap.size + 1, 3, none⟩) hz3_0).trans s3_0_3
  have hz4_1 := Nat.lt_of_lt_of_le hz3_1 hb4.size
  have s4_1_0 := (hb4.cell (p := ⟨p, 0, none⟩) hz3_1).trans s3_1_0
  have s4_1_1 := (hb4.cell (p := ⟨p, 1, none⟩) hz3_1).trans s3_1_1
  have hz4_2 := Nat.lt_of_lt_of_le hz3_2 hb4.size
  have s4_2_0 := (hb4.cell (p := ⟨q, 0, none⟩) hz3_2).trans s3_2_0
  have s4_2_1 := (hb4.cell (p := ⟨q, 1, none⟩) hz3_2).trans s3_2_1
  have H4 := H3.trans (hb4.mono H3.size)
  clear hz3_0 s3_0_0 s3_0_1 s3_0_2 s3_0_3 hz3_1 s3_1_0 s3_1_1 hz3_2 s3_2_0 s3_2_1 hb4
  go_wp2_with fail
  refine (T2.out _).mono ?_
  rintro e w5 ⟨rfl, hb5⟩
  have hz5_0 := Nat.lt_of_lt_of_le hz4_0 hb5.size
  have s5_0_0 := (hb5.cell (p := ⟨w.heap.size + 1, 0, none⟩) hz4_0).trans s4_0_0
  have s5_0_1 := (hb5.cell (p := ⟨w.heap.size + 1, 1, none⟩) hz4_0).trans s4_0_1
  have s5_0_2 := (hb5.cell (p := ⟨w.heap.size + 1, 2, none⟩) hz4_0).trans s4_0_2
  have s5_0_3 := (hb5.cell (p := ⟨w.heap.size + 1, 3, none⟩) hz4_0).trans s4_0_3
  have hz5_1 := Nat.lt_of_lt_of_le hz4_1 hb5.size
  have s5_1_0 := (hb5.cell (p := ⟨p, 0, none⟩) hz4_1).trans s4_1_0
  have s5_1_1 := (hb5.cell (p := ⟨p, 1, none⟩) hz4_1).trans s4_1_1
  have hz5_2 := Nat.lt_of_lt_of_le hz4_2 hb5.size
  have s5_2_0 := (hb5.cell (p := ⟨q, 0, none⟩) hz4_2).trans s4_2_0
  have s5_2_1 := (hb5.cell (p := ⟨q, 1, none⟩) hz4_2).trans s4_2_1
  have H5 := H4.trans (hb5.mono H4.size)
  clear hz4_0 s4_0_0 s4_0_1 s4_0_2 s4_0_3 hz4_1 s4_1_0 s4_1_1 hz4_2 s4_2_0 s4_2_1 hb5
  go_wp2_with fail
  refine (T3.out _).mono ?_
  rintro e w6 ⟨rfl, hb6⟩
  have hz6_0 := Nat.lt_of_lt_of_le hz5_0 hb6.size
  have s6_0_0 := (hb6.cell (p := ⟨w.heap.size + 1, 0, none⟩) hz5_0).trans s5_0_0
  have s6_0_1 := (hb6.cell (p := ⟨w.heap.size + 1, 1, none⟩) hz5_0).trans s5_0_1
  have s6_0_2 := (hb6.cell (p := ⟨w.heap.size + 1, 2, none⟩) hz5_0).trans s5_0_2
  have s6_0_3 := (hb6.cell (p := ⟨w.heap.size + 1, 3, none⟩) hz5_0).trans s5_0_3
  have hz6_1 := Nat.lt_of_lt_of_le hz5_1 hb6.size
  have s6_1_0 := (hb6.cell (p := ⟨p, 0, none⟩) hz5_1).trans s5_1_0
  have s6_1_1 := (hb6.cell (p := ⟨p, 1, none⟩) hz5_1).trans s5_1_1
  have hz6_2 := Nat.lt_of_lt_of_le hz5_2 hb6.size
  have s6_2_0 := (hb6.cell (p := ⟨q, 0, none⟩) hz5_2).trans s5_2_0
  have s6_2_1 := (hb6.cell (p := ⟨q, 1, none⟩) hz5_2).trans s5_2_1
  have H6 := H5.trans (hb6.mono H5.size)
  clear hz5_0 s5_0_0 s5_0_1 s5_0_2 s5_0_3 hz5_1 s5_1_0 s5_1_1 hz5_2 s5_2_0 s5_2_1 hb6
  go_wp2_with fail
  refine (T4.out _).mono ?_
  rintro e w7 ⟨rfl, hb7⟩
  have hz7_0 := Nat.lt_of_lt_of_le hz6_0 hb7.size
  have s7_0_0 := (hb7.cell (p := ⟨w.heap.size + 1, 0, none⟩) hz6_0).trans s6_0_0
  have s7_0_1 := (hb7.cell (p := ⟨w.heap.size + 1, 1, none⟩) hz6_0).trans s6_0_1
  have s7_0_2 := (hb7.cell (p := ⟨w.heap.size + 1, 2, none⟩) hz6_0).trans s6_0_2
  have s7_0_3 := (hb7.cell (p := ⟨w.heap.size + 1, 3, none⟩) hz6_0).trans s6_0_3
  have hz7_1 := Nat.lt_of_lt_of_le hz6_1 hb7.size
  have s7_1_0 := (hb7.cell (p := ⟨p, 0, none⟩) hz6_1).trans s6_1_0
  have s7_1_1 := (hb7.cell (p := ⟨p, 1, none⟩) hz6_1).trans s6_1_1
  have hz7_2 := Nat.lt_of_lt_of_le hz6_2 hb7.size
  have s7_2_0 := (hb7.cell (p := ⟨q, 0, none⟩) hz6_2).trans s6_2_0
  have s7_2_1 := (hb7.cell (p := ⟨q, 1, none⟩) hz6_2).trans s6_2_1
  have H7 := H6.trans (hb7.mono H6.size)
  clear hz6_0 s6_0_0 s6_0_1 s6_0_2 s6_0_3 hz6_1 s6_1_0 s6_1_1 hz6_2 s6_2_0 s6_2_1 hb7
  go_wp2_with fail
  refine (T5.out _).mono ?_
  rintro e w8 ⟨rfl, hb8⟩
  have hz8_0 : w.heap.size + 1 < w8.heap.size := by have := hb8.size; simp at this; omega
  have s8_0_0 : w8.cell? ⟨w.heap.size + 1, 0, none⟩ = some (.int .u32 a) := (hb8.cell (p := ⟨w.heap.size + 1, 0, none⟩) (by simp <;> omega)).trans (by go_simp)
  have s8_0_1 : w8.cell? ⟨w.heap.size + 1, 1, none⟩ = some (.int .u32 l) := (hb8.cell (p := ⟨w.heap.size + 1, 1, none⟩) (by simp <;> omega)).trans (by go_simp)
  have s8_0_2 : w8.cell? ⟨w.heap.size + 1, 2, none⟩ = some (.int .i16 r) := (hb8.cell (p := ⟨w.heap.size + 1, 2, none⟩) (by simp <;> omega)).trans (by go_simp)
  have s8_0_3 : w8.cell? ⟨w.heap.size + 1, 3, none⟩ = some (.int .i16 rho) := (hb8.cell (p := ⟨w.heap.size + 1, 3, none⟩) (by simp <;> omega)).trans (by go_simp)
  have hz8_1 : p < w8.heap.size := by have := hb8.size; simp at this; omega
  have s8_1_0 : w8.cell? ⟨p, 0, none⟩ = some (.int .i64 o1) := (hb8.cell (p := ⟨p, 0, none⟩) (by simp <;> omega)).trans (by go_simp)
  have s8_1_1 : w8.cell? ⟨p, 1, none⟩ = some (.int .i64 p1) := (hb8.cell (p := ⟨p, 1, none⟩) (by simp <;> omega)).trans (by go_simp)
  have hz8_2 : q < w8.heap.size := by have := hb8.size; simp at this; omega
  have s8_2_0 : w8.cell? ⟨q, 0, none⟩ = some (.int .i64 o2) := (hb8.cell (p := ⟨q, 0, none⟩) (by simp <;> omega)).trans (by go_simp)
  have s8_2_1 : w8.cell? ⟨q, 1, none⟩ = some (.int .i64 p2) := (hb8.cell (p := ⟨q, 1, none⟩) (by simp <;> omega)).trans (by go_simp)
  have hz8_3 : w7.heap.size < w8.heap.size := by have := hb8.size; simp at this; omega
  have H8 : Below w.heap.size w w8 := (H7.alloc H7.size _).trans (hb8.mono (by have := H7.size; simp <;> omega))
  clear hz7_0 s7_0_0 s7_0_1 s7_0_2 s7_0_3 hz7_1 s7_1_0 s7_1_1 hz7_2 s7_2_0 s7_2_1 hb8
  go_wp2_with fail
  refine (T6.out _).mono ?_
  rintro e w9 ⟨rfl, hb9⟩
  have hz9_0 := Nat.lt_of_lt_of_le hz8_0 hb9.size
  have s9_0_0 := (hb9.cell (p := ⟨w.heap.size + 1, 0, none⟩) hz8_0).trans s8_0_0
  have s9_0_1 := (hb9.cell (p := ⟨w.heap.size + 1, 1, none⟩) hz8_0).trans s8_0_1
  have s9_0_2 := (hb9.cell (p := ⟨w.heap.size + 1, 2, none⟩) hz8_0).trans s8_0_2
  have s9_0_3 := (hb9.cell (p := ⟨w.heap.size + 1, 3, none⟩) hz8_0).trans s8_0_3
  have hz9_1 := Nat.lt_of_lt_of_le hz8_1 hb9.size
  have s9_1_0 := (hb9.cell (p := ⟨p, 0, none⟩) hz8_1).trans s8_1_0
  have s9_1_1 := (hb9.cell (p := ⟨p, 1, none⟩) hz8_1).trans s8_1_1
  have hz9_2 := Nat.lt_of_lt_of_le hz8_2 hb9.size
  have s9_2_0 := (hb9.cell (p := ⟨q, 0, none⟩) hz8_2).trans s8_2_0
  have s9_2_1 := (hb9.cell (p := ⟨q, 1, none⟩) hz8_2).trans s8_2_1
  have hz9_3 := Nat.lt_of_lt_of_le hz8_3 hb9.size
  have H9 := H8.trans (hb9.mono H8.size)
  clear hz8_0 s8_0_0 s8_0_1 s8_0_2 s8_0_3 hz8_1 s8_1_0 s8_1_1 hz8_2 s8_2_0 s8_2_1 hz8_3 hb9
  go_wp2
  go_ret
  exact ⟨rfl, H9⟩
end Go.Proofs.Ytkbepdhggfijbaa
