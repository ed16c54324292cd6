/- DelayRates: the walk of the law. -/
import Derived.Test.YtelpjmmkaakceaaWorks12
import Derived.Test.YtelpjmmkaakceaaDraft09
import Derived.Test.YtelpjmmkaakceaaDMath
import Derived.Test.YtelpjmmkaakceaaDNear
namespace Go.Proofs.Ytelpjmmkaakceaa
open Go.RowKit Go.Shelf

set_option maxRecDepth 100000 in
set_option maxHeartbeats 4000000 in
theorem dlaw6_walk (x1 y1 x2 y2 t d n g : Int) (ht : 0 ≤ t ∧ t ≤ 4294967295) (hd : 0 ≤ d ∧ d ≤ 4294967295) (hn : 0 ≤ n ∧ n ≤ 4294967295) (hg : 0 ≤ g ∧ g ≤ 4294967295) (w : World) :
    Calls Try.prog 8 #[.agg #[.int .i64 x1, .int .i32 y1, .int .i64 x2, .int .i32 y2], .agg #[.int .u32 t, .int .u32 d, .int .u32 n, .int .u32 g]] w fun e w' => e = .returned (.bool true) ∧ Below w.heap.size w w' := by
  have HD1 := Lib.hid fun w => draft_any x1 y1 w
  have HD2 := Lib.hid fun w => draft_any x2 y2 w
  have ho1 := okD x1 y1
  have ho2 := okD x2 y2
  generalize dO x1 = o1 at *
  generalize dP y1 = p1 at *
  generalize dO x2 = o2 at *
  generalize dP y2 = p2 at *
  have T1 := Lib.hid (met_ok ho1 ho2 (t := t) ⟨ht.1, by omega⟩ hd hn)
  have T2 := Lib.hid (met_ok ho1 ho2 (t := t + g) ⟨by omega, by omega⟩ hd hn)
  have hX := met_okX ho1 ho2 (t := t) ⟨ht.1, by omega⟩ hd hn
  have hY := met_okX ho1 ho2 (t := t + g) ⟨by omega, by omega⟩ hd hn
  have R := rate_all ho1 ho2 hg hX hY rfl rfl rfl rfl
  have T3 := Lib.hid fun w => ratio_any (atC o1 p1 t) (atC o2 p2 (t + d)) (atC o2 p2 (t + d + n)) (atC o1 p1 (t + 2 * d + n)) (atC o1 p1 (t + g)) (atC o2 p2 (t + g + d)) (atC o2 p2 (t + g + d + n)) (atC o1 p1 (t + g + 2 * d + n)) w
  rw [okX_iff] at hX hY
  generalize atC o1 p1 (t + g + 2 * d + n) = D' at *
  generalize atC o2 p2 (t + g + d + n) = C' at *
  generalize atC o2 p2 (t + g + d) = B' at *
  generalize atC o1 p1 (t + g) = A' at *
  generalize atC o1 p1 (t + 2 * d + n) = D at *
  generalize atC o2 p2 (t + d + n) = C at *
  generalize atC o2 p2 (t + d) = B at *
  generalize atC o1 p1 t = A at *
  obtain ⟨_, _, _, ⟨a1, a2⟩, _, _⟩ := hX
  obtain ⟨_, _, _, ⟨a3, a4⟩, _, _⟩ := hY
  rw [okC_iff] at ho1 ho2
  obtain ⟨⟨u1, u2⟩, u3, u4⟩ := ho1
  obtain ⟨⟨u5, u6⟩, u7, u8⟩ := ho2
  obtain ⟨t0, t1⟩ := ht
  obtain ⟨d0, d1⟩ := hd
  obtain ⟨n0, n1⟩ := hn
  obtain ⟨g0, g1⟩ := hg
  have HB := Lib.hid fun w => ratioBound_any (D' - D) w
  generalize raV A B C D A' B' C' D' = v at *
  generalize raE A B C D A' B' C' D' = ev at *
  generalize rbV (D' - D) = m at *
  generalize rbE (D' - D) = em at *
  rcases R with ⟨hy, rfl⟩ | ⟨hy, rfl, ⟨m0, m1⟩, (⟨rfl, hm⟩ | ⟨rfl, v0, v1⟩)⟩
  · go_enter Try.func8, Try.ntmps8
    go_wp2_with fail
    refine (works12 _).mono ?_
    rintro e w1 ⟨rfl, hb1⟩
    have hz1_0 : w.heap.size < w1.heap.size := by have := hb1.size; simp at this; omega
    have s1_0_0 : w1.cell? ⟨w.heap.size, 0, none⟩ = some (.int .i64 x1) := (hb1.cell (p := ⟨w.heap.size, 0, none⟩) (by simp <;> omega)).trans (by go_simp)
    have s1_0_1 : w1.cell? ⟨w.heap.size, 1, none⟩ = some (.int .i32 y1) := (hb1.cell (p := ⟨w.heap.size, 1, none⟩) (by simp <;> omega)).trans (by go_simp)
    have s1_0_2 : w1.cell? ⟨w.heap.size, 2, none⟩ = some (.int .i64 x2) := (hb1.cell (p := ⟨w.heap.size, 2, none⟩) (by simp <;> omega)).trans (by go_simp)
    have s1_0_3 : w1.cell? ⟨w.heap.size, 3, none⟩ = some (.int .i32 y2) := (hb1.cell (p := ⟨w.heap.size, 3, none⟩) (by simp <;> omega)).trans (by go_simp)
    have hz1_1 : w.heap.size + 1 < w1.heap.size := by have := hb1.size; simp at this; omega
    have s1_1_0 : w1.cell? ⟨w.heap.size + 1, 0, none⟩ = some (.int .u32 t) := (hb1.cell (p := ⟨w.heap.size + 1, 0, none⟩) (by simp <;> omega)).trans (by go_simp)
    have s1_1_1 : w1.cell? ⟨w.heap.size + 1, 1, none⟩ = some (.int .u32 d) := (hb1.cell (p := ⟨w.heap.size + 1, 1, none⟩) (by simp <;> omega)).trans (by go_simp)
    have s1_1_2 : w1.cell? ⟨w.heap.size + 1, 2, none⟩ = some (.int .u32 n) := (hb1.cell (p := ⟨w.heap.size + 1, 2, none⟩) (by simp <;> omega)).trans (by go_simp)
    have s1_1_3 : w1.cell? ⟨w.heap.size + 1, 3, none⟩ = some (.int .u32 g) := (hb1.cell (p := ⟨w.heap.size + 1, 3, none⟩) (by simp <;> omega)).trans (by go_simp)
    have H1 : Below w.heap.size w w1 := (((Below.refl _ _).alloc (Nat.le_refl _) _).alloc (by simp <;> omega) _).trans (hb1.mono (by simp <;> omega))
    clear hb1
    go_wp2_with fail
    refine wp_region_put (R := Nat × Nat) [18, 19, 20, 21, 22, 23, 5, 6]
      (fun r => [.pointer (some ⟨w.heap.size, 0, none⟩), .agg #[.int .i64 x1, .int .i32 y1], .agg #[.int .i64 o1, .int .i64 p1], .pointer (some ⟨w.heap.size, 2, none⟩), .agg #[.int .i64 x2, .int .i32 y2], .agg #[.int .i64 o2, .int .i64 p2], .pointer (some ⟨r.1, 0, none⟩), .pointer (some ⟨r.2, 0, none⟩)])
      (fun L r wx => Below w1.heap.size w1 wx ∧ Own2 w1.heap.size r.1 (L 6) (L 8) o1 p1 wx ∧ Own2 w1.heap.size r.2 (L 7) (L 9) o2 p2 wx ∧ (L 6 = true → L 7 = true → r.1 ≠ r.2))
      (by kernel_rfl) (by kernel_rfl) (by kernel_rfl) (0, 0) ?_ ?_ ?_
    · exact ⟨(Below.refl _ _).drew, ⟨fun h => absurd h (by decide), fun h => absurd h (by decide)⟩, ⟨fun h => absurd h (by decide), fun h => absurd h (by decide)⟩, fun h => absurd h (by decide)⟩
    · refine ⟨?_, ?_, ?_, ?_, ?_, ?_, ?_, ?_, ?_, ?_, trivial⟩
      all_goals
        rintro L ⟨p, q⟩ wx K hLi hdep ⟨hB, O1, O2, hne⟩ hK
        have f0 := (hB.cell (p := ⟨w.heap.size, 0, none⟩) hz1_0).trans s1_0_0
        have f1 := (hB.cell (p := ⟨w.heap.size, 1, none⟩) hz1_0).trans s1_0_1
        have f2 := (hB.cell (p := ⟨w.heap.size, 2, none⟩) hz1_0).trans s1_0_2
        have f3 := (hB.cell (p := ⟨w.heap.size, 3, none⟩) hz1_0).trans s1_0_3
        simp only [putAll, Act.put, List.setIfInBounds_toArray, List.set_cons_succ, List.set_cons_zero] at hK ⊢
        go_simp
      · exact hK (p, q) wx ⟨hB, by simpa using O1, by simpa using O2, by simpa using hne⟩
      · exact hK (p, q) wx ⟨hB, by simpa using O1, by simpa using O2, by simpa using hne⟩
      · refine (HD1.out _).mono ?_
        rintro e w' ⟨rfl, hb⟩
        exact hK (p, q) w' ⟨hB.trans (hb.mono hB.size), by simpa using O1.below hb, by simpa using O2.below hb, by simpa using hne⟩
      · exact hK (p, q) wx ⟨hB, by simpa using O1, by simpa using O2, by simpa using hne⟩
      · exact hK (p, q) wx ⟨hB, by simpa using O1, by simpa using O2, by simpa using hne⟩
      · refine (HD2.out _).mono ?_
        rintro e w' ⟨rfl, hb⟩
        exact hK (p, q) w' ⟨hB.trans (hb.mono hB.size), by simpa using O1.below hb, by simpa using O2.below hb, by simpa using hne⟩
      · have h8 : L 8 = false := by
          cases h : L 8
          · rfl
          · rw [O1.1 h] at hLi; cases hLi
        refine hK (wx.heap.size, q) _ ⟨hB.alloc hB.size _, ?_, ?_, ?_⟩
        · simp only [h8]
          exact ⟨fun _ => by simp, fun _ => ⟨hB.size, by simp, by go_simp, by go_simp, by go_simp, by go_simp⟩⟩
        · simpa using O2.below ((Below.refl _ _).alloc (Nat.le_refl _) _)
        · intro _ h7
          have := (O2.2 (by simpa using h7)).2.1
          exact fun e => by simp at e; omega
      · have h9 : L 9 = false := by
          cases h : L 9
          · rfl
          · rw [O2.1 h] at hLi; cases hLi
        refine hK (p, wx.heap.size) _ ⟨hB.alloc hB.size _, ?_, ?_, ?_⟩
        · simpa using O1.below ((Below.refl _ _).alloc (Nat.le_refl _) _)
        · simp only [h9]
          exact ⟨fun _ => by simp, fun _ => ⟨hB.size, by simp, by go_simp, by go_simp, by go_simp, by go_simp⟩⟩
        · intro h6 _
          have := (O1.2 (by simpa using h6)).2.1
          exact fun e => by simp at e; omega
      · have h6 : L 6 = true := hdep ⟨6, .data⟩ (by simp) rfl
        obtain ⟨g1, g2, g3, g4, g5, g6⟩ := O1.2 h6
        rw [hLi] at g3 g4
        go_simp
        refine hK (p, q) _ ⟨(hB.setCell g1 _).setCell g1 _, ?_, ?_, by simpa using hne⟩
        · exact ⟨fun _ => by simp [h6], fun _ => ⟨g1, by simpa [World.setCell] using g2, by go_simp, by go_simp, by go_simp, by go_simp⟩⟩
        · have := (O2.set (c := p) (o := 0) (v := .int .i64 o1) fun h => hne h6 h).set (c := p) (o := 1) (v := .int .i64 p1) fun h => hne h6 h
          simpa using this
      · have h7 : L 7 = true := hdep ⟨7, .data⟩ (by simp) rfl
        obtain ⟨g1, g2, g3, g4, g5, g6⟩ := O2.2 h7
        rw [hLi] at g3 g4
        go_simp
        refine hK (p, q) _ ⟨(hB.setCell g1 _).setCell g1 _, ?_, ?_, by simpa using hne⟩
        · have := (O1.set (c := q) (o := 0) (v := .int .i64 o2) fun h e => hne h h7 e.symm).set (c := q) (o := 1) (v := .int .i64 p2) fun h e => hne h h7 e.symm
          simpa using this
        · exact ⟨fun _ => by simp [h7], fun _ => ⟨g1, by simpa [World.setCell] using g2, by go_simp, by go_simp, by go_simp, by go_simp⟩⟩
    rintro ⟨p, q⟩ w2 ⟨hb2, O1, O2, hne⟩
    obtain ⟨p0, p1', p2', p3', p4', p5'⟩ := O1.2 rfl
    obtain ⟨q0, q1', q2', q3', q4', q5'⟩ := O2.2 rfl
    have hpq : p ≠ q := hne rfl rfl
    clear hne O1 O2
    simp only [if_true] at p2' p3' q2' q3'
    simp only [putAll, Act.put, List.setIfInBounds_toArray, List.set_cons_succ, List.set_cons_zero]
    have hz2_0 := Nat.lt_of_lt_of_le hz1_0 hb2.size
    have s2_0_0 := (hb2.cell (p := ⟨w.heap.size, 0, none⟩) hz1_0).trans s1_0_0
    have s2_0_1 := (hb2.cell (p := ⟨w.heap.size, 1, none⟩) hz1_0).trans s1_0_1
    have s2_0_2 := (hb2.cell (p := ⟨w.heap.size, 2, none⟩) hz1_0).trans s1_0_2
    have s2_0_3 := (hb2.cell (p := ⟨w.heap.size, 3, none⟩) hz1_0).trans s1_0_3
    have hz2_1 := Nat.lt_of_lt_of_le hz1_1 hb2.size
    have s2_1_0 := (hb2.cell (p := ⟨w.heap.size + 1, 0, none⟩) hz1_1).trans s1_1_0
    have s2_1_1 := (hb2.cell (p := ⟨w.heap.size + 1, 1, none⟩) hz1_1).trans s1_1_1
    have s2_1_2 := (hb2.cell (p := ⟨w.heap.size + 1, 2, none⟩) hz1_1).trans s1_1_2
    have s2_1_3 := (hb2.cell (p := ⟨w.heap.size + 1, 3, none⟩) hz1_1).trans s1_1_3
    have H2 := H1.trans (hb2.mono H1.size)
    clear hz1_0 s1_0_0 s1_0_1 s1_0_2 s1_0_3 hz1_1 s1_1_0 s1_1_1 s1_1_2 s1_1_3 hb2 H1
    go_wp2_with fail
    refine (T1.out _).mono ?_
    rintro e w3 ⟨rfl, hb3⟩
    have hz3_0 := Nat.lt_of_lt_of_le hz2_1 hb3.size
    have s3_0_0 := (hb3.cell (p := ⟨w.heap.size + 1, 0, none⟩) hz2_1).trans s2_1_0
    have s3_0_1 := (hb3.cell (p := ⟨w.heap.size + 1, 1, none⟩) hz2_1).trans s2_1_1
    have s3_0_2 := (hb3.cell (p := ⟨w.heap.size + 1, 2, none⟩) hz2_1).trans s2_1_2
    have s3_0_3 := (hb3.cell (p := ⟨w.heap.size + 1, 3, none⟩) hz2_1).trans s2_1_3
    have hz3_1 := Nat.lt_of_lt_of_le p1' hb3.size
    have s3_1_0 := (hb3.cell (p := ⟨p, 0, none⟩) p1').trans p2'
    have s3_1_1 := (hb3.cell (p := ⟨p, 1, none⟩) p1').trans p3'
    have hz3_2 := Nat.lt_of_lt_of_le q1' hb3.size
    have s3_2_0 := (hb3.cell (p := ⟨q, 0, none⟩) q1').trans q2'
    have s3_2_1 := (hb3.cell (p := ⟨q, 1, none⟩) q1').trans q3'
    have H3 := H2.trans (hb3.mono H2.size)
    clear hz2_1 s2_1_0 s2_1_1 s2_1_2 s2_1_3 p1' p2' p3' q1' q2' q3' hb3 H2
    go_wp2_with fail
    refine (T2.out _).mono ?_
    rintro e w4 ⟨rfl, hb4⟩
    have hz4_0 : w.heap.size + 1 < w4.heap.size := by have := hb4.size; simp at this; omega
    have s4_0_0 : w4.cell? ⟨w.heap.size + 1, 0, none⟩ = some (.int .u32 t) := (hb4.cell (p := ⟨w.heap.size + 1, 0, none⟩) (by simp <;> omega)).trans (by go_simp)
    have s4_0_1 : w4.cell? ⟨w.heap.size + 1, 1, none⟩ = some (.int .u32 d) := (hb4.cell (p := ⟨w.heap.size + 1, 1, none⟩) (by simp <;> omega)).trans (by go_simp)
    have s4_0_2 : w4.cell? ⟨w.heap.size + 1, 2, none⟩ = some (.int .u32 n) := (hb4.cell (p := ⟨w.heap.size + 1, 2, none⟩) (by simp <;> omega)).trans (by go_simp)
    have s4_0_3 : w4.cell? ⟨w.heap.size + 1, 3, none⟩ = some (.int .u32 g) := (hb4.cell (p := ⟨w.heap.size + 1, 3, none⟩) (by simp <;> omega)).trans (by go_simp)
    have hz4_1 : p < w4.heap.size := by have := hb4.size; simp at this; omega
    have s4_1_0 : w4.cell? ⟨p, 0, none⟩ = some (.int .i64 o1) := (hb4.cell (p := ⟨p, 0, none⟩) (by simp <;> omega)).trans (by go_simp)
    have s4_1_1 : w4.cell? ⟨p, 1, none⟩ = some (.int .i64 p1) := (hb4.cell (p := ⟨p, 1, none⟩) (by simp <;> omega)).trans (by go_simp)
    have hz4_2 : q < w4.heap.size := by have := hb4.size; simp at this; omega
    have s4_2_0 : w4.cell? ⟨q, 0, none⟩ = some (.int .i64 o2) := (hb4.cell (p := ⟨q, 0, none⟩) (by simp <;> omega)).trans (by go_simp)
    have s4_2_1 : w4.cell? ⟨q, 1, none⟩ = some (.int .i64 p2) := (hb4.cell (p := ⟨q, 1, none⟩) (by simp <;> omega)).trans (by go_simp)
    have hz4_3 : w3.heap.size < w4.heap.size := by have := hb4.size; simp at this; omega
    have s4_3_0 : w4.cell? ⟨w3.heap.size, 0, none⟩ = some (.int .i64 A) := (hb4.cell (p := ⟨w3.heap.size, 0, none⟩) (by simp <;> omega)).trans (by go_simp)
    have s4_3_1 : w4.cell? ⟨w3.heap.size, 1, none⟩ = some (.int .i64 B) := (hb4.cell (p := ⟨w3.heap.size, 1, none⟩) (by simp <;> omega)).trans (by go_simp)
    have s4_3_2 : w4.cell? ⟨w3.heap.size, 2, none⟩ = some (.int .i64 C) := (hb4.cell (p := ⟨w3.heap.size, 2, none⟩) (by simp <;> omega)).trans (by go_simp)
    have s4_3_3 : w4.cell? ⟨w3.heap.size, 3, none⟩ = some (.int .i64 D) := (hb4.cell (p := ⟨w3.heap.size, 3, none⟩) (by simp <;> omega)).trans (by go_simp)
    have H4 : Below w.heap.size w w4 := (H3.alloc H3.size _).trans (hb4.mono (by have := H3.size; simp <;> omega))
    clear hz3_0 s3_0_0 s3_0_1 s3_0_2 s3_0_3 hz3_1 s3_1_0 s3_1_1 hz3_2 s3_2_0 s3_2_1 hb4 H3
    go_wp2_with fail
    refine (T3.out _).mono ?_
    rintro e w5 ⟨rfl, hb5⟩
    have hz5_0 : w.heap.size + 1 < w5.heap.size := by have := hb5.size; simp at this; omega
    have s5_0_0 : w5.cell? ⟨w.heap.size + 1, 0, none⟩ = some (.int .u32 t) := (hb5.cell (p := ⟨w.heap.size + 1, 0, none⟩) (by simp <;> omega)).trans (by go_simp)
    have s5_0_1 : w5.cell? ⟨w.heap.size + 1, 1, none⟩ = some (.int .u32 d) := (hb5.cell (p := ⟨w.heap.size + 1, 1, none⟩) (by simp <;> omega)).trans (by go_simp)
    have s5_0_2 : w5.cell? ⟨w.heap.size + 1, 2, none⟩ = some (.int .u32 n) := (hb5.cell (p := ⟨w.heap.size + 1, 2, none⟩) (by simp <;> omega)).trans (by go_simp)
    have s5_0_3 : w5.cell? ⟨w.heap.size + 1, 3, none⟩ = some (.int .u32 g) := (hb5.cell (p := ⟨w.heap.size + 1, 3, none⟩) (by simp <;> omega)).trans (by go_simp)
    have hz5_1 : p < w5.heap.size := by have := hb5.size; simp at this; omega
    have s5_1_0 : w5.cell? ⟨p, 0, none⟩ = some (.int .i64 o1) := (hb5.cell (p := ⟨p, 0, none⟩) (by simp <;> omega)).trans (by go_simp)
    have s5_1_1 : w5.cell? ⟨p, 1, none⟩ = some (.int .i64 p1) := (hb5.cell (p := ⟨p, 1, none⟩) (by simp <;> omega)).trans (by go_simp)
    have hz5_2 : q < w5.heap.size := by have := hb5.size; simp at this; omega
    have s5_2_0 : w5.cell? ⟨q, 0, none⟩ = some (.int .i64 o2) := (hb5.cell (p := ⟨q, 0, none⟩) (by simp <;> omega)).trans (by go_simp)
    have s5_2_1 : w5.cell? ⟨q, 1, none⟩ = some (.int .i64 p2) := (hb5.cell (p := ⟨q, 1, none⟩) (by simp <;> omega)).trans (by go_simp)
    have hz5_3 : w3.heap.size < w5.heap.size := by have := hb5.size; simp at this; omega
    have s5_3_0 : w5.cell? ⟨w3.heap.size, 0, none⟩ = some (.int .i64 A) := (hb5.cell (p := ⟨w3.heap.size, 0, none⟩) (by simp <;> omega)).trans (by go_simp)
    have s5_3_1 : w5.cell? ⟨w3.heap.size, 1, none⟩ = some (.int .i64 B) := (hb5.cell (p := ⟨w3.heap.size, 1, none⟩) (by simp <;> omega)).trans (by go_simp)
    have s5_3_2 : w5.cell? ⟨w3.heap.size, 2, none⟩ = some (.int .i64 C) := (hb5.cell (p := ⟨w3.heap.size, 2, none⟩) (by simp <;> omega)).trans (by go_simp)
    have s5_3_3 : w5.cell? ⟨w3.heap.size, 3, none⟩ = some (.int .i64 D) := (hb5.cell (p := ⟨w3.heap.size, 3, none⟩) (by simp <;> omega)).trans (by go_simp)
    have hz5_4 : w4.heap.size < w5.heap.size := by have := hb5.size; simp at this; omega
    have s5_4_0 : w5.cell? ⟨w4.heap.size, 0, none⟩ = some (.int .i64 A') := (hb5.cell (p := ⟨w4.heap.size, 0, none⟩) (by simp <;> omega)).trans (by go_simp)
    have s5_4_1 : w5.cell? ⟨w4.heap.size, 1, none⟩ = some (.int .i64 B') := (hb5.cell (p := ⟨w4.heap.size, 1, none⟩) (by simp <;> omega)).trans (by go_simp)
    have s5_4_2 : w5.cell? ⟨w4.heap.size, 2, none⟩ = some (.int .i64 C') := (hb5.cell (p := ⟨w4.heap.size, 2, none⟩) (by simp <;> omega)).trans (by go_simp)
    have s5_4_3 : w5.cell? ⟨w4.heap.size, 3, none⟩ = some (.int .i64 D') := (hb5.cell (p := ⟨w4.heap.size, 3, none⟩) (by simp <;> omega)).trans (by go_simp)
    have H5 : Below w.heap.size w w5 := (H4.alloc H4.size _).trans (hb5.mono (by have := H4.size; simp <;> omega))
    clear hz4_0 s4_0_0 s4_0_1 s4_0_2 s4_0_3 hz4_1 s4_1_0 s4_1_1 hz4_2 s4_2_0 s4_2_1 hz4_3 s4_3_0 s4_3_1 s4_3_2 s4_3_3 hb5 H4
    go_wp2
    go_ret
    exact ⟨rfl, H5⟩
  · go_enter Try.func8, Try.ntmps8
    go_wp2_with fail
    refine (works12 _).mono ?_
    rintro e w1 ⟨rfl, hb1⟩
    have hz1_0 : w.heap.size < w1.heap.size := by have := hb1.size; simp at this; omega
    have s1_0_0 : w1.cell? ⟨w.heap.size, 0, none⟩ = some (.int .i64 x1) := (hb1.cell (p := ⟨w.heap.size, 0, none⟩) (by simp <;> omega)).trans (by go_simp)
    have s1_0_1 : w1.cell? ⟨w.heap.size, 1, none⟩ = some (.int .i32 y1) := (hb1.cell (p := ⟨w.heap.size, 1, none⟩) (by simp <;> omega)).trans (by go_simp)
    have s1_0_2 : w1.cell? ⟨w.heap.size, 2, none⟩ = some (.int .i64 x2) := (hb1.cell (p := ⟨w.heap.size, 2, none⟩) (by simp <;> omega)).trans (by go_simp)
    have s1_0_3 : w1.cell? ⟨w.heap.size, 3, none⟩ = some (.int .i32 y2) := (hb1.cell (p := ⟨w.heap.size, 3, none⟩) (by simp <;> omega)).trans (by go_simp)
    have hz1_1 : w.heap.size + 1 < w1.heap.size := by have := hb1.size; simp at this; omega
    have s1_1_0 : w1.cell? ⟨w.heap.size + 1, 0, none⟩ = some (.int .u32 t) := (hb1.cell (p := ⟨w.heap.size + 1, 0, none⟩) (by simp <;> omega)).trans (by go_simp)
    have s1_1_1 : w1.cell? ⟨w.heap.size + 1, 1, none⟩ = some (.int .u32 d) := (hb1.cell (p := ⟨w.heap.size + 1, 1, none⟩) (by simp <;> omega)).trans (by go_simp)
    have s1_1_2 : w1.cell? ⟨w.heap.size + 1, 2, none⟩ = some (.int .u32 n) := (hb1.cell (p := ⟨w.heap.size + 1, 2, none⟩) (by simp <;> omega)).trans (by go_simp)
    have s1_1_3 : w1.cell? ⟨w.heap.size + 1, 3, none⟩ = some (.int .u32 g) := (hb1.cell (p := ⟨w.heap.size + 1, 3, none⟩) (by simp <;> omega)).trans (by go_simp)
    have H1 : Below w.heap.size w w1 := (((Below.refl _ _).alloc (Nat.le_refl _) _).alloc (by simp <;> omega) _).trans (hb1.mono (by simp <;> omega))
    clear hb1
    go_wp2_with fail
    refine wp_region_put (R := Nat × Nat) [18, 19, 20, 21, 22, 23, 5, 6]
      (fun r => [.pointer (some ⟨w.heap.size, 0, none⟩), .agg #[.int .i64 x1, .int .i32 y1], .agg #[.int .i64 o1, .int .i64 p1], .pointer (some ⟨w.heap.size, 2, none⟩), .agg #[.int .i64 x2, .int .i32 y2], .agg #[.int .i64 o2, .int .i64 p2], .pointer (some ⟨r.1, 0, none⟩), .pointer (some ⟨r.2, 0, none⟩)])
      (fun L r wx => Below w1.heap.size w1 wx ∧ Own2 w1.heap.size r.1 (L 6) (L 8) o1 p1 wx ∧ Own2 w1.heap.size r.2 (L 7) (L 9) o2 p2 wx ∧ (L 6 = true → L 7 = true → r.1 ≠ r.2))
      (by kernel_rfl) (by kernel_rfl) (by kernel_rfl) (0, 0) ?_ ?_ ?_
    · exact ⟨(Below.refl _ _).drew, ⟨fun h => absurd h (by decide), fun h => absurd h (by decide)⟩, ⟨fun h => absurd h (by decide), fun h => absurd h (by decide)⟩, fun h => absurd h (by decide)⟩
    · refine ⟨?_, ?_, ?_, ?_, ?_, ?_, ?_, ?_, ?_, ?_, trivial⟩
      all_goals
        rintro L ⟨p, q⟩ wx K hLi hdep ⟨hB, O1, O2, hne⟩ hK
        have f0 := (hB.cell (p := ⟨w.heap.size, 0, none⟩) hz1_0).trans s1_0_0
        have f1 := (hB.cell (p := ⟨w.heap.size, 1, none⟩) hz1_0).trans s1_0_1
        have f2 := (hB.cell (p := ⟨w.heap.size, 2, none⟩) hz1_0).trans s1_0_2
        have f3 := (hB.cell (p := ⟨w.heap.size, 3, none⟩) hz1_0).trans s1_0_3
        simp only [putAll, Act.put, List.setIfInBounds_toArray, List.set_cons_succ, List.set_cons_zero] at hK ⊢
        go_simp
      · exact hK (p, q) wx ⟨hB, by simpa using O1, by simpa using O2, by simpa using hne⟩
      · exact hK (p, q) wx ⟨hB, by simpa using O1, by simpa using O2, by simpa using hne⟩
      · refine (HD1.out _).mono ?_
        rintro e w' ⟨rfl, hb⟩
        exact hK (p, q) w' ⟨hB.trans (hb.mono hB.size), by simpa using O1.below hb, by simpa using O2.below hb, by simpa using hne⟩
      · exact hK (p, q) wx ⟨hB, by simpa using O1, by simpa using O2, by simpa using hne⟩
      · exact hK (p, q) wx ⟨hB, by simpa using O1, by simpa using O2, by simpa using hne⟩
      · refine (HD2.out _).mono ?_
        rintro e w' ⟨rfl, hb⟩
        exact hK (p, q) w' ⟨hB.trans (hb.mono hB.size), by simpa using O1.below hb, by simpa using O2.below hb, by simpa using hne⟩
      · have h8 : L 8 = false := by
          cases h : L 8
          · rfl
          · rw [O1.1 h] at hLi; cases hLi
        refine hK (wx.heap.size, q) _ ⟨hB.alloc hB.size _, ?_, ?_, ?_⟩
        · simp only [h8]
          exact ⟨fun _ => by simp, fun _ => ⟨hB.size, by simp, by go_simp, by go_simp, by go_simp, by go_simp⟩⟩
        · simpa using O2.below ((Below.refl _ _).alloc (Nat.le_refl _) _)
        · intro _ h7
          have := (O2.2 (by simpa using h7)).2.1
          exact fun e => by simp at e; omega
      · have h9 : L 9 = false := by
          cases h : L 9
          · rfl
          · rw [O2.1 h] at hLi; cases hLi
        refine hK (p, wx.heap.size) _ ⟨hB.alloc hB.size _, ?_, ?_, ?_⟩
        · simpa using O1.below ((Below.refl _ _).alloc (Nat.le_refl _) _)
        · simp only [h9]
          exact ⟨fun _ => by simp, fun _ => ⟨hB.size, by simp, by go_simp, by go_simp, by go_simp, by go_simp⟩⟩
        · intro h6 _
          have := (O1.2 (by simpa using h6)).2.1
          exact fun e => by simp at e; omega
      · have h6 : L 6 = true := hdep ⟨6, .data⟩ (by simp) rfl
        obtain ⟨g1, g2, g3, g4, g5, g6⟩ := O1.2 h6
        rw [hLi] at g3 g4
        go_simp
        refine hK (p, q) _ ⟨(hB.setCell g1 _).setCell g1 _, ?_, ?_, by simpa using hne⟩
        · exact ⟨fun _ => by simp [h6], fun _ => ⟨g1, by simpa [World.setCell] using g2, by go_simp, by go_simp, by go_simp, by go_simp⟩⟩
        · have := (O2.set (c := p) (o := 0) (v := .int .i64 o1) fun h => hne h6 h).set (c := p) (o := 1) (v := .int .i64 p1) fun h => hne h6 h
          simpa using this
      · have h7 : L 7 = true := hdep ⟨7, .data⟩ (by simp) rfl
        obtain ⟨g1, g2, g3, g4, g5, g6⟩ := O2.2 h7
        rw [hLi] at g3 g4
        go_simp
        refine hK (p, q) _ ⟨(hB.setCell g1 _).setCell g1 _, ?_, ?_, by simpa using hne⟩
        · have := (O1.set (c := q) (o := 0) (v := .int .i64 o2) fun h e => hne h h7 e.symm).set (c := q) (o := 1) (v := .int .i64 p2) fun h e => hne h h7 e.symm
          simpa using this
        · exact ⟨fun _ => by simp [h7], fun _ => ⟨g1, by simpa [World.setCell] using g2, by go_simp, by go_simp, by go_simp, by go_simp⟩⟩
    rintro ⟨p, q⟩ w2 ⟨hb2, O1, O2, hne⟩
    obtain ⟨p0, p1', p2', p3', p4', p5'⟩ := O1.2 rfl
    obtain ⟨q0, q1', q2', q3', q4', q5'⟩ := O2.2 rfl
    have hpq : p ≠ q := hne rfl rfl
    clear hne O1 O2
    simp only [if_true] at p2' p3' q2' q3'
    simp only [putAll, Act.put, List.setIfInBounds_toArray, List.set_cons_succ, List.set_cons_zero]
    have hz2_0 := Nat.lt_of_lt_of_le hz1_0 hb2.size
    have s2_0_0 := (hb2.cell (p := ⟨w.heap.size, 0, none⟩) hz1_0).trans s1_0_0
    have s2_0_1 := (hb2.cell (p := ⟨w.heap.size, 1, none⟩) hz1_0).trans s1_0_1
    have s2_0_2 := (hb2.cell (p := ⟨w.heap.size, 2, none⟩) hz1_0).trans s1_0_2
    have s2_0_3 := (hb2.cell (p := ⟨w.heap.size, 3, none⟩) hz1_0).trans s1_0_3
    have hz2_1 := Nat.lt_of_lt_of_le hz1_1 hb2.size
    have s2_1_0 := (hb2.cell (p := ⟨w.heap.size + 1, 0, none⟩) hz1_1).trans s1_1_0
    have s2_1_1 := (hb2.cell (p := ⟨w.heap.size + 1, 1, none⟩) hz1_1).trans s1_1_1
    have s2_1_2 := (hb2.cell (p := ⟨w.heap.size + 1, 2, none⟩) hz1_1).trans s1_1_2
    have s2_1_3 := (hb2.cell (p := ⟨w.heap.size + 1, 3, none⟩) hz1_1).trans s1_1_3
    have H2 := H1.trans (hb2.mono H1.size)
    clear hz1_0 s1_0_0 s1_0_1 s1_0_2 s1_0_3 hz1_1 s1_1_0 s1_1_1 s1_1_2 s1_1_3 hb2 H1
    go_wp2_with fail
    refine (T1.out _).mono ?_
    rintro e w3 ⟨rfl, hb3⟩
    have hz3_0 := Nat.lt_of_lt_of_le hz2_1 hb3.size
    have s3_0_0 := (hb3.cell (p := ⟨w.heap.size + 1, 0, none⟩) hz2_1).trans s2_1_0
    have s3_0_1 := (hb3.cell (p := ⟨w.heap.size + 1, 1, none⟩) hz2_1).trans s2_1_1
    have s3_0_2 := (hb3.cell (p := ⟨w.heap.size + 1, 2, none⟩) hz2_1).trans s2_1_2
    have s3_0_3 := (hb3.cell (p := ⟨w.heap.size + 1, 3, none⟩) hz2_1).trans s2_1_3
    have hz3_1 := Nat.lt_of_lt_of_le p1' hb3.size
    have s3_1_0 := (hb3.cell (p := ⟨p, 0, none⟩) p1').trans p2'
    have s3_1_1 := (hb3.cell (p := ⟨p, 1, none⟩) p1').trans p3'
    have hz3_2 := Nat.lt_of_lt_of_le q1' hb3.size
    have s3_2_0 := (hb3.cell (p := ⟨q, 0, none⟩) q1').trans q2'
    have s3_2_1 := (hb3.cell (p := ⟨q, 1, none⟩) q1').trans q3'
    have H3 := H2.trans (hb3.mono H2.size)
    clear hz2_1 s2_1_0 s2_1_1 s2_1_2 s2_1_3 p1' p2' p3' q1' q2' q3' hb3 H2
    go_wp2_with fail
    refine (T2.out _).mono ?_
    rintro e w4 ⟨rfl, hb4⟩
    have hz4_0 : w.heap.size + 1 < w4.heap.size := by have := hb4.size; simp at this; omega
    have s4_0_0 : w4.cell? ⟨w.heap.size + 1, 0, none⟩ = some (.int .u32 t) := (hb4.cell (p := ⟨w.heap.size + 1, 0, none⟩) (by simp <;> omega)).trans (by go_simp)
    have s4_0_1 : w4.cell? ⟨w.heap.size + 1, 1, none⟩ = some (.int .u32 d) := (hb4.cell (p := ⟨w.heap.size + 1, 1, none⟩) (by simp <;> omega)).trans (by go_simp)
    have s4_0_2 : w4.cell? ⟨w.heap.size + 1, 2, none⟩ = some (.int .u32 n) := (hb4.cell (p := ⟨w.heap.size + 1, 2, none⟩) (by simp <;> omega)).trans (by go_simp)
    have s4_0_3 : w4.cell? ⟨w.heap.size + 1, 3, none⟩ = some (.int .u32 g) := (hb4.cell (p := ⟨w.heap.size + 1, 3, none⟩) (by simp <;> omega)).trans (by go_simp)
    have hz4_1 : p < w4.heap.size := by have := hb4.size; simp at this; omega
    have s4_1_0 : w4.cell? ⟨p, 0, none⟩ = some (.int .i64 o1) := (hb4.cell (p := ⟨p, 0, none⟩) (by simp <;> omega)).trans (by go_simp)
    have s4_1_1 : w4.cell? ⟨p, 1, none⟩ = some (.int .i64 p1) := (hb4.cell (p := ⟨p, 1, none⟩) (by simp <;> omega)).trans (by go_simp)
    have hz4_2 : q < w4.heap.size := by have := hb4.size; simp at this; omega
    have s4_2_0 : w4.cell? ⟨q, 0, none⟩ = some (.int .i64 o2) := (hb4.cell (p := ⟨q, 0, none⟩) (by simp <;> omega)).trans (by go_simp)
    have s4_2_1 : w4.cell? ⟨q, 1, none⟩ = some (.int .i64 p2) := (hb4.cell (p := ⟨q, 1, none⟩) (by simp <;> omega)).trans (by go_simp)
    have hz4_3 : w3.heap.size < w4.heap.size := by have := hb4.size; simp at this; omega
    have s4_3_0 : w4.cell? ⟨w3.heap.size, 0, none⟩ = some (.int .i64 A) := (hb4.cell (p := ⟨w3.heap.size, 0, none⟩) (by simp <;> omega)).trans (by go_simp)
    have s4_3_1 : w4.cell? ⟨w3.heap.size, 1, none⟩ = some (.int .i64 B) := (hb4.cell (p := ⟨w3.heap.size, 1, none⟩) (by simp <;> omega)).trans (by go_simp)
    have s4_3_2 : w4.cell? ⟨w3.heap.size, 2, none⟩ = some (.int .i64 C) := (hb4.cell (p := ⟨w3.heap.size, 2, none⟩) (by simp <;> omega)).trans (by go_simp)
    have s4_3_3 : w4.cell? ⟨w3.heap.size, 3, none⟩ = some (.int .i64 D) := (hb4.cell (p := ⟨w3.heap.size, 3, none⟩) (by simp <;> omega)).trans (by go_simp)
    have H4 : Below w.heap.size w w4 := (H3.alloc H3.size _).trans (hb4.mono (by have := H3.size; simp <;> omega))
    clear hz3_0 s3_0_0 s3_0_1 s3_0_2 s3_0_3 hz3_1 s3_1_0 s3_1_1 hz3_2 s3_2_0 s3_2_1 hb4 H3
    go_wp2_with fail
    refine (T3.out _).mono ?_
    rintro e w5 ⟨rfl, hb5⟩
    have hz5_0 : w.heap.size + 1 < w5.heap.size := by have := hb5.size; simp at this; omega
    have s5_0_0 : w5.cell? ⟨w.heap.size + 1, 0, none⟩ = some (.int .u32 t) := (hb5.cell (p := ⟨w.heap.size + 1, 0, none⟩) (by simp <;> omega)).trans (by go_simp)
    have s5_0_1 : w5.cell? ⟨w.heap.size + 1, 1, none⟩ = some (.int .u32 d) := (hb5.cell (p := ⟨w.heap.size + 1, 1, none⟩) (by simp <;> omega)).trans (by go_simp)
    have s5_0_2 : w5.cell? ⟨w.heap.size + 1, 2, none⟩ = some (.int .u32 n) := (hb5.cell (p := ⟨w.heap.size + 1, 2, none⟩) (by simp <;> omega)).trans (by go_simp)
    have s5_0_3 : w5.cell? ⟨w.heap.size + 1, 3, none⟩ = some (.int .u32 g) := (hb5.cell (p := ⟨w.heap.size + 1, 3, none⟩) (by simp <;> omega)).trans (by go_simp)
    have hz5_1 : p < w5.heap.size := by have := hb5.size; simp at this; omega
    have s5_1_0 : w5.cell? ⟨p, 0, none⟩ = some (.int .i64 o1) := (hb5.cell (p := ⟨p, 0, none⟩) (by simp <;> omega)).trans (by go_simp)
    have s5_1_1 : w5.cell? ⟨p, 1, none⟩ = some (.int .i64 p1) := (hb5.cell (p := ⟨p, 1, none⟩) (by simp <;> omega)).trans (by go_simp)
    have hz5_2 : q < w5.heap.size := by have := hb5.size; simp at this; omega
    have s5_2_0 : w5.cell? ⟨q, 0, none⟩ = some (.int .i64 o2) := (hb5.cell (p := ⟨q, 0, none⟩) (by simp <;> omega)).trans (by go_simp)
    have s5_2_1 : w5.cell? ⟨q, 1, none⟩ = some (.int .i64 p2) := (hb5.cell (p := ⟨q, 1, none⟩) (by simp <;> omega)).trans (by go_simp)
    have hz5_3 : w3.heap.size < w5.heap.size := by have := hb5.size; simp at this; omega
    have s5_3_0 : w5.cell? ⟨w3.heap.size, 0, none⟩ = some (.int .i64 A) := (hb5.cell (p := ⟨w3.heap.size, 0, none⟩) (by simp <;> omega)).trans (by go_simp)
    have s5_3_1 : w5.cell? ⟨w3.heap.size, 1, none⟩ = some (.int .i64 B) := (hb5.cell (p := ⟨w3.heap.size, 1, none⟩) (by simp <;> omega)).trans (by go_simp)
    have s5_3_2 : w5.cell? ⟨w3.heap.size, 2, none⟩ = some (.int .i64 C) := (hb5.cell (p := ⟨w3.heap.size, 2, none⟩) (by simp <;> omega)).trans (by go_simp)
    have s5_3_3 : w5.cell? ⟨w3.heap.size, 3, none⟩ = some (.int .i64 D) := (hb5.cell (p := ⟨w3.heap.size, 3, none⟩) (by simp <;> omega)).trans (by go_simp)
    have hz5_4 : w4.heap.size < w5.heap.size := by have := hb5.size; simp at this; omega
    have s5_4_0 : w5.cell? ⟨w4.heap.size, 0, none⟩ = some (.int .i64 A') := (hb5.cell (p := ⟨w4.heap.size, 0, none⟩) (by simp <;> omega)).trans (by go_simp)
    have s5_4_1 : w5.cell? ⟨w4.heap.size, 1, none⟩ = some (.int .i64 B') := (hb5.cell (p := ⟨w4.heap.size, 1, none⟩) (by simp <;> omega)).trans (by go_simp)
    have s5_4_2 : w5.cell? ⟨w4.heap.size, 2, none⟩ = some (.int .i64 C') := (hb5.cell (p := ⟨w4.heap.size, 2, none⟩) (by simp <;> omega)).trans (by go_simp)
    have s5_4_3 : w5.cell? ⟨w4.heap.size, 3, none⟩ = some (.int .i64 D') := (hb5.cell (p := ⟨w4.heap.size, 3, none⟩) (by simp <;> omega)).trans (by go_simp)
    have H5 : Below w.heap.size w w5 := (H4.alloc H4.size _).trans (hb5.mono (by have := H4.size; simp <;> omega))
    clear hz4_0 s4_0_0 s4_0_1 s4_0_2 s4_0_3 hz4_1 s4_1_0 s4_1_1 hz4_2 s4_2_0 s4_2_1 hz4_3 s4_3_0 s4_3_1 s4_3_2 s4_3_3 hb5 H4
    go_wp2_with fail
    refine (HB.out _).mono ?_
    rintro e w6 ⟨rfl, hb6⟩
    have hz6_0 := Nat.lt_of_lt_of_le hz5_0 hb6.size
    have s6_0_0 := (hb6.cell (p := ⟨w.heap.size + 1, 0, none⟩) hz5_0).trans s5_0_0
    have s6_0_1 := (hb6.cell (p := ⟨w.heap.size + 1, 1, none⟩) hz5_0).trans s5_0_1
    have s6_0_2 := (hb6.cell (p := ⟨w.heap.size + 1, 2, none⟩) hz5_0).trans s5_0_2
    have s6_0_3 := (hb6.cell (p := ⟨w.heap.size + 1, 3, none⟩) hz5_0).trans s5_0_3
    have hz6_1 := Nat.lt_of_lt_of_le hz5_1 hb6.size
    have s6_1_0 := (hb6.cell (p := ⟨p, 0, none⟩) hz5_1).trans s5_1_0
    have s6_1_1 := (hb6.cell (p := ⟨p, 1, none⟩) hz5_1).trans s5_1_1
    have hz6_2 := Nat.lt_of_lt_of_le hz5_2 hb6.size
    have s6_2_0 := (hb6.cell (p := ⟨q, 0, none⟩) hz5_2).trans s5_2_0
    have s6_2_1 := (hb6.cell (p := ⟨q, 1, none⟩) hz5_2).trans s5_2_1
    have hz6_3 := Nat.lt_of_lt_of_le hz5_3 hb6.size
    have s6_3_0 := (hb6.cell (p := ⟨w3.heap.size, 0, none⟩) hz5_3).trans s5_3_0
    have s6_3_1 := (hb6.cell (p := ⟨w3.heap.size, 1, none⟩) hz5_3).trans s5_3_1
    have s6_3_2 := (hb6.cell (p := ⟨w3.heap.size, 2, none⟩) hz5_3).trans s5_3_2
    have s6_3_3 := (hb6.cell (p := ⟨w3.heap.size, 3, none⟩) hz5_3).trans s5_3_3
    have hz6_4 := Nat.lt_of_lt_of_le hz5_4 hb6.size
    have s6_4_0 := (hb6.cell (p := ⟨w4.heap.size, 0, none⟩) hz5_4).trans s5_4_0
    have s6_4_1 := (hb6.cell (p := ⟨w4.heap.size, 1, none⟩) hz5_4).trans s5_4_1
    have s6_4_2 := (hb6.cell (p := ⟨w4.heap.size, 2, none⟩) hz5_4).trans s5_4_2
    have s6_4_3 := (hb6.cell (p := ⟨w4.heap.size, 3, none⟩) hz5_4).trans s5_4_3
    have H6 := H5.trans (hb6.mono H5.size)
    clear hz5_0 s5_0_0 s5_0_1 s5_0_2 s5_0_3 hz5_1 s5_1_0 s5_1_1 hz5_2 s5_2_0 s5_2_1 hz5_3 s5_3_0 s5_3_1 s5_3_2 s5_3_3 hz5_4 s5_4_0 s5_4_1 s5_4_2 s5_4_3 hb6 H5
    go_wp2
    go_ret
    exact ⟨rfl, H6⟩
  · go_enter Try.func8, Try.ntmps8
    go_wp2_with fail
    refine (works12 _).mono ?_
    rintro e w1 ⟨rfl, hb1⟩
    have hz1_0 : w.heap.size < w1.heap.size := by have := hb1.size; simp at this; omega
    have s1_0_0 : w1.cell? ⟨w.heap.size, 0, none⟩ = some (.int .i64 x1) := (hb1.cell (p := ⟨w.heap.size, 0, none⟩) (by simp <;> omega)).trans (by go_simp)
    have s1_0_1 : w1.cell? ⟨w.heap.size, 1, none⟩ = some (.int .i32 y1) := (hb1.cell (p := ⟨w.heap.size, 1, none⟩) (by simp <;> omega)).trans (by go_simp)
    have s1_0_2 : w1.cell? ⟨w.heap.size, 2, none⟩ = some (.int .i64 x2) := (hb1.cell (p := ⟨w.heap.size, 2, none⟩) (by simp <;> omega)).trans (by go_simp)
    have s1_0_3 : w1.cell? ⟨w.heap.size, 3, none⟩ = some (.int .i32 y2) := (hb1.cell (p := ⟨w.heap.size, 3, none⟩) (by simp <;> omega)).trans (by go_simp)
    have hz1_1 : w.heap.size + 1 < w1.heap.size := by have := hb1.size; simp at this; omega
    have s1_1_0 : w1.cell? ⟨w.heap.size + 1, 0, none⟩ = some (.int .u32 t) := (hb1.cell (p := ⟨w.heap.size + 1, 0, none⟩) (by simp <;> omega)).trans (by go_simp)
    have s1_1_1 : w1.cell? ⟨w.heap.size + 1, 1, none⟩ = some (.int .u32 d) := (hb1.cell (p := ⟨w.heap.size + 1, 1, none⟩) (by simp <;> omega)).trans (by go_simp)
    have s1_1_2 : w1.cell? ⟨w.heap.size + 1, 2, none⟩ = some (.int .u32 n) := (hb1.cell (p := ⟨w.heap.size + 1, 2, none⟩) (by simp <;> omega)).trans (by go_simp)
    have s1_1_3 : w1.cell? ⟨w.heap.size + 1, 3, none⟩ = some (.int .u32 g) := (hb1.cell (p := ⟨w.heap.size + 1, 3, none⟩) (by simp <;> omega)).trans (by go_simp)
    have H1 : Below w.heap.size w w1 := (((Below.refl _ _).alloc (Nat.le_refl _) _).alloc (by simp <;> omega) _).trans (hb1.mono (by simp <;> omega))
    clear hb1
    go_wp2_with fail
    refine wp_region_put (R := Nat × Nat) [18, 19, 20, 21, 22, 23, 5, 6]
      (fun r => [.pointer (some ⟨w.heap.size, 0, none⟩), .agg #[.int .i64 x1, .int .i32 y1], .agg #[.int .i64 o1, .int .i64 p1], .pointer (some ⟨w.heap.size, 2, none⟩), .agg #[.int .i64 x2, .int .i32 y2], .agg #[.int .i64 o2, .int .i64 p2], .pointer (some ⟨r.1, 0, none⟩), .pointer (some ⟨r.2, 0, none⟩)])
      (fun L r wx => Below w1.heap.size w1 wx ∧ Own2 w1.heap.size r.1 (L 6) (L 8) o1 p1 wx ∧ Own2 w1.heap.size r.2 (L 7) (L 9) o2 p2 wx ∧ (L 6 = true → L 7 = true → r.1 ≠ r.2))
      (by kernel_rfl) (by kernel_rfl) (by kernel_rfl) (0, 0) ?_ ?_ ?_
    · exact ⟨(Below.refl _ _).drew, ⟨fun h => absurd h (by decide), fun h => absurd h (by decide)⟩, ⟨fun h => absurd h (by decide), fun h => absurd h (by decide)⟩, fun h => absurd h (by decide)⟩
    · refine ⟨?_, ?_, ?_, ?_, ?_, ?_, ?_, ?_, ?_, ?_, trivial⟩
      all_goals
        rintro L ⟨p, q⟩ wx K hLi hdep ⟨hB, O1, O2, hne⟩ hK
        have f0 := (hB.cell (p := ⟨w.heap.size, 0, none⟩) hz1_0).trans s1_0_0
        have f1 := (hB.cell (p := ⟨w.heap.size, 1, none⟩) hz1_0).trans s1_0_1
        have f2 := (hB.cell (p := ⟨w.heap.size, 2, none⟩) hz1_0).trans s1_0_2
        have f3 := (hB.cell (p := ⟨w.heap.size, 3, none⟩) hz1_0).trans s1_0_3
        simp only [putAll, Act.put, List.setIfInBounds_toArray, List.set_cons_succ, List.set_cons_zero] at hK ⊢
        go_simp
      · exact hK (p, q) wx ⟨hB, by simpa using O1, by simpa using O2, by simpa using hne⟩
      · exact hK (p, q) wx ⟨hB, by simpa using O1, by simpa using O2, by simpa using hne⟩
      · refine (HD1.out _).mono ?_
        rintro e w' ⟨rfl, hb⟩
        exact hK (p, q) w' ⟨hB.trans (hb.mono hB.size), by simpa using O1.below hb, by simpa using O2.below hb, by simpa using hne⟩
      · exact hK (p, q) wx ⟨hB, by simpa using O1, by simpa using O2, by simpa using hne⟩
      · exact hK (p, q) wx ⟨hB, by simpa using O1, by simpa using O2, by simpa using hne⟩
      · refine (HD2.out _).mono ?_
        rintro e w' ⟨rfl, hb⟩
        exact hK (p, q) w' ⟨hB.trans (hb.mono hB.size), by simpa using O1.below hb, by simpa using O2.below hb, by simpa using hne⟩
      · have h8 : L 8 = false := by
          cases h : L 8
          · rfl
          · rw [O1.1 h] at hLi; cases hLi
        refine hK (wx.heap.size, q) _ ⟨hB.alloc hB.size _, ?_, ?_, ?_⟩
        · simp only [h8]
          exact ⟨fun _ => by simp, fun _ => ⟨hB.size, by simp, by go_simp, by go_simp, by go_simp, by go_simp⟩⟩
        · simpa using O2.below ((Below.refl _ _).alloc (Nat.le_refl _) _)
        · intro _ h7
          have := (O2.2 (by simpa using h7)).2.1
          exact fun e => by simp at e; omega
      · have h9 : L 9 = false := by
          cases h : L 9
          · rfl
          · rw [O2.1 h] at hLi; cases hLi
        refine hK (p, wx.heap.size) _ ⟨hB.alloc hB.size _, ?_, ?_, ?_⟩
        · simpa using O1.below ((Below.refl _ _).alloc (Nat.le_refl _) _)
        · simp only [h9]
          exact ⟨fun _ => by simp, fun _ => ⟨hB.size, by simp, by go_simp, by go_simp, by go_simp, by go_simp⟩⟩
        · intro h6 _
          have := (O1.2 (by simpa using h6)).2.1
          exact fun e => by simp at e; omega
      · have h6 : L 6 = true := hdep ⟨6, .data⟩ (by simp) rfl
        obtain ⟨g1, g2, g3, g4, g5, g6⟩ := O1.2 h6
        rw [hLi] at g3 g4
        go_simp
        refine hK (p, q) _ ⟨(hB.setCell g1 _).setCell g1 _, ?_, ?_, by simpa using hne⟩
        · exact ⟨fun _ => by simp [h6], fun _ => ⟨g1, by simpa [World.setCell] using g2, by go_simp, by go_simp, by go_simp, by go_simp⟩⟩
        · have := (O2.set (c := p) (o := 0) (v := .int .i64 o1) fun h => hne h6 h).set (c := p) (o := 1) (v := .int .i64 p1) fun h => hne h6 h
          simpa using this
      · have h7 : L 7 = true := hdep ⟨7, .data⟩ (by simp) rfl
        obtain ⟨g1, g2, g3, g4, g5, g6⟩ := O2.2 h7
        rw [hLi] at g3 g4
        go_simp
        refine hK (p, q) _ ⟨(hB.setCell g1 _).setCell g1 _, ?_, ?_, by simpa using hne⟩
        · have := (O1.set (c := q) (o := 0) (v := .int .i64 o2) fun h e => hne h h7 e.symm).set (c := q) (o := 1) (v := .int .i64 p2) fun h e => hne h h7 e.symm
          simpa using this
        · exact ⟨fun _ => by simp [h7], fun _ => ⟨g1, by simpa [World.setCell] using g2, by go_simp, by go_simp, by go_simp, by go_simp⟩⟩
    rintro ⟨p, q⟩ w2 ⟨hb2, O1, O2, hne⟩
    obtain ⟨p0, p1', p2', p3', p4', p5'⟩ := O1.2 rfl
    obtain ⟨q0, q1', q2', q3', q4', q5'⟩ := O2.2 rfl
    have hpq : p ≠ q := hne rfl rfl
    clear hne O1 O2
    simp only [if_true] at p2' p3' q2' q3'
    simp only [putAll, Act.put, List.setIfInBounds_toArray, List.set_cons_succ, List.set_cons_zero]
    have hz2_0 := Nat.lt_of_lt_of_le hz1_0 hb2.size
    have s2_0_0 := (hb2.cell (p := ⟨w.heap.size, 0, none⟩) hz1_0).trans s1_0_0
    have s2_0_1 := (hb2.cell (p := ⟨w.heap.size, 1, none⟩) hz1_0).trans s1_0_1
    have s2_0_2 := (hb2.cell (p := ⟨w.heap.size, 2, none⟩) hz1_0).trans s1_0_2
    have s2_0_3 := (hb2.cell (p := ⟨w.heap.size, 3, none⟩) hz1_0).trans s1_0_3
    have hz2_1 := Nat.lt_of_lt_of_le hz1_1 hb2.size
    have s2_1_0 := (hb2.cell (p := ⟨w.heap.size + 1, 0, none⟩) hz1_1).trans s1_1_0
    have s2_1_1 := (hb2.cell (p := ⟨w.heap.size + 1, 1, none⟩) hz1_1).trans s1_1_1
    have s2_1_2 := (hb2.cell (p := ⟨w.heap.size + 1, 2, none⟩) hz1_1).trans s1_1_2
    have s2_1_3 := (hb2.cell (p := ⟨w.heap.size + 1, 3, none⟩) hz1_1).trans s1_1_3
    have H2 := H1.trans (hb2.mono H1.size)
    clear hz1_0 s1_0_0 s1_0_1 s1_0_2 s1_0_3 hz1_1 s1_1_0 s1_1_1 s1_1_2 s1_1_3 hb2 H1
    go_wp2_with fail
    refine (T1.out _).mono ?_
    rintro e w3 ⟨rfl, hb3⟩
    have hz3_0 := Nat.lt_of_lt_of_le hz2_1 hb3.size
    have s3_0_0 := (hb3.cell (p := ⟨w.heap.size + 1, 0, none⟩) hz2_1).trans s2_1_0
    have s3_0_1 := (hb3.cell (p := ⟨w.heap.size + 1, 1, none⟩) hz2_1).trans s2_1_1
    have s3_0_2 := (hb3.cell (p := ⟨w.heap.size + 1, 2, none⟩) hz2_1).trans s2_1_2
    have s3_0_3 := (hb3.cell (p := ⟨w.heap.size + 1, 3, none⟩) hz2_1).trans s2_1_3
    have hz3_1 := Nat.lt_of_lt_of_le p1' hb3.size
    have s3_1_0 := (hb3.cell (p := ⟨p, 0, none⟩) p1').trans p2'
    have s3_1_1 := (hb3.cell (p := ⟨p, 1, none⟩) p1').trans p3'
    have hz3_2 := Nat.lt_of_lt_of_le q1' hb3.size
    have s3_2_0 := (hb3.cell (p := ⟨q, 0, none⟩) q1').trans q2'
    have s3_2_1 := (hb3.cell (p := ⟨q, 1, none⟩) q1').trans q3'
    have H3 := H2.trans (hb3.mono H2.size)
    clear hz2_1 s2_1_0 s2_1_1 s2_1_2 s2_1_3 p1' p2' p3' q1' q2' q3' hb3 H2
    go_wp2_with fail
    refine (T2.out _).mono ?_
    rintro e w4 ⟨rfl, hb4⟩
    have hz4_0 : w.heap.size + 1 < w4.heap.size := by have := hb4.size; simp at this; omega
    have s4_0_0 : w4.cell? ⟨w.heap.size + 1, 0, none⟩ = some (.int .u32 t) := (hb4.cell (p := ⟨w.heap.size + 1, 0, none⟩) (by simp <;> omega)).trans (by go_simp)
    have s4_0_1 : w4.cell? ⟨w.heap.size + 1, 1, none⟩ = some (.int .u32 d) := (hb4.cell (p := ⟨w.heap.size + 1, 1, none⟩) (by simp <;> omega)).trans (by go_simp)
    have s4_0_2 : w4.cell? ⟨w.heap.size + 1, 2, none⟩ = some (.int .u32 n) := (hb4.cell (p := ⟨w.heap.size + 1, 2, none⟩) (by simp <;> omega)).trans (by go_simp)
    have s4_0_3 : w4.cell? ⟨w.heap.size + 1, 3, none⟩ = some (.int .u32 g) := (hb4.cell (p := ⟨w.heap.size + 1, 3, none⟩) (by simp <;> omega)).trans (by go_simp)
    have hz4_1 : p < w4.heap.size := by have := hb4.size; simp at this; omega
    have s4_1_0 : w4.cell? ⟨p, 0, none⟩ = some (.int .i64 o1) := (hb4.cell (p := ⟨p, 0, none⟩) (by simp <;> omega)).trans (by go_simp)
    have s4_1_1 : w4.cell? ⟨p, 1, none⟩ = some (.int .i64 p1) := (hb4.cell (p := ⟨p, 1, none⟩) (by simp <;> omega)).trans (by go_simp)
    have hz4_2 : q < w4.heap.size := by have := hb4.size; simp at this; omega
    have s4_2_0 : w4.cell? ⟨q, 0, none⟩ = some (.int .i64 o2) := (hb4.cell (p := ⟨q, 0, none⟩) (by simp <;> omega)).trans (by go_simp)
    have s4_2_1 : w4.cell? ⟨q, 1, none⟩ = some (.int .i64 p2) := (hb4.cell (p := ⟨q, 1, none⟩) (by simp <;> omega)).trans (by go_simp)
    have hz4_3 : w3.heap.size < w4.heap.size := by have := hb4.size; simp at this; omega
    have s4_3_0 : w4.cell? ⟨w3.heap.size, 0, none⟩ = some (.int .i64 A) := (hb4.cell (p := ⟨w3.heap.size, 0, none⟩) (by simp <;> omega)).trans (by go_simp)
    have s4_3_1 : w4.cell? ⟨w3.heap.size, 1, none⟩ = some (.int .i64 B) := (hb4.cell (p := ⟨w3.heap.size, 1, none⟩) (by simp <;> omega)).trans (by go_simp)
    have s4_3_2 : w4.cell? ⟨w3.heap.size, 2, none⟩ = some (.int .i64 C) := (hb4.cell (p := ⟨w3.heap.size, 2, none⟩) (by simp <;> omega)).trans (by go_simp)
    have s4_3_3 : w4.cell? ⟨w3.heap.size, 3, none⟩ = some (.int .i64 D) := (hb4.cell (p := ⟨w3.heap.size, 3, none⟩) (by simp <;> omega)).trans (by go_simp)
    have H4 : Below w.heap.size w w4 := (H3.alloc H3.size _).trans (hb4.mono (by have := H3.size; simp <;> omega))
    clear hz3_0 s3_0_0 s3_0_1 s3_0_2 s3_0_3 hz3_1 s3_1_0 s3_1_1 hz3_2 s3_2_0 s3_2_1 hb4 H3
    go_wp2_with fail
    refine (T3.out _).mono ?_
    rintro e w5 ⟨rfl, hb5⟩
    have hz5_0 : w.heap.size + 1 < w5.heap.size := by have := hb5.size; simp at this; omega
    have s5_0_0 : w5.cell? ⟨w.heap.size + 1, 0, none⟩ = some (.int .u32 t) := (hb5.cell (p := ⟨w.heap.size + 1, 0, none⟩) (by simp <;> omega)).trans (by go_simp)
    have s5_0_1 : w5.cell? ⟨w.heap.size + 1, 1, none⟩ = some (.int .u32 d) := (hb5.cell (p := ⟨w.heap.size + 1, 1, none⟩) (by simp <;> omega)).trans (by go_simp)
    have s5_0_2 : w5.cell? ⟨w.heap.size + 1, 2, none⟩ = some (.int .u32 n) := (hb5.cell (p := ⟨w.heap.size + 1, 2, none⟩) (by simp <;> omega)).trans (by go_simp)
    have s5_0_3 : w5.cell? ⟨w.heap.size + 1, 3, none⟩ = some (.int .u32 g) := (hb5.cell (p := ⟨w.heap.size + 1, 3, none⟩) (by simp <;> omega)).trans (by go_simp)
    have hz5_1 : p < w5.heap.size := by have := hb5.size; simp at this; omega
    have s5_1_0 : w5.cell? ⟨p, 0, none⟩ = some (.int .i64 o1) := (hb5.cell (p := ⟨p, 0, none⟩) (by simp <;> omega)).trans (by go_simp)
    have s5_1_1 : w5.cell? ⟨p, 1, none⟩ = some (.int .i64 p1) := (hb5.cell (p := ⟨p, 1, none⟩) (by simp <;> omega)).trans (by go_simp)
    have hz5_2 : q < w5.heap.size := by have := hb5.size; simp at this; omega
    have s5_2_0 : w5.cell? ⟨q, 0, none⟩ = some (.int .i64 o2) := (hb5.cell (p := ⟨q, 0, none⟩) (by simp <;> omega)).trans (by go_simp)
    have s5_2_1 : w5.cell? ⟨q, 1, none⟩ = some (.int .i64 p2) := (hb5.cell (p := ⟨q, 1, none⟩) (by simp <;> omega)).trans (by go_simp)
    have hz5_3 : w3.heap.size < w5.heap.size := by have := hb5.size; simp at this; omega
    have s5_3_0 : w5.cell? ⟨w3.heap.size, 0, none⟩ = some (.int .i64 A) := (hb5.cell (p := ⟨w3.heap.size, 0, none⟩) (by simp <;> omega)).trans (by go_simp)
    have s5_3_1 : w5.cell? ⟨w3.heap.size, 1, none⟩ = some (.int .i64 B) := (hb5.cell (p := ⟨w3.heap.size, 1, none⟩) (by simp <;> omega)).trans (by go_simp)
    have s5_3_2 : w5.cell? ⟨w3.heap.size, 2, none⟩ = some (.int .i64 C) := (hb5.cell (p := ⟨w3.heap.size, 2, none⟩) (by simp <;> omega)).trans (by go_simp)
    have s5_3_3 : w5.cell? ⟨w3.heap.size, 3, none⟩ = some (.int .i64 D) := (hb5.cell (p := ⟨w3.heap.size, 3, none⟩) (by simp <;> omega)).trans (by go_simp)
    have hz5_4 : w4.heap.size < w5.heap.size := by have := hb5.size; simp at this; omega
    have s5_4_0 : w5.cell? ⟨w4.heap.size, 0, none⟩ = some (.int .i64 A') := (hb5.cell (p := ⟨w4.heap.size, 0, none⟩) (by simp <;> omega)).trans (by go_simp)
    have s5_4_1 : w5.cell? ⟨w4.heap.size, 1, none⟩ = some (.int .i64 B') := (hb5.cell (p := ⟨w4.heap.size, 1, none⟩) (by simp <;> omega)).trans (by go_simp)
    have s5_4_2 : w5.cell? ⟨w4.heap.size, 2, none⟩ = some (.int .i64 C') := (hb5.cell (p := ⟨w4.heap.size, 2, none⟩) (by simp <;> omega)).trans (by go_simp)
    have s5_4_3 : w5.cell? ⟨w4.heap.size, 3, none⟩ = some (.int .i64 D') := (hb5.cell (p := ⟨w4.heap.size, 3, none⟩) (by simp <;> omega)).trans (by go_simp)
    have H5 : Below w.heap.size w w5 := (H4.alloc H4.size _).trans (hb5.mono (by have := H4.size; simp <;> omega))
    clear hz4_0 s4_0_0 s4_0_1 s4_0_2 s4_0_3 hz4_1 s4_1_0 s4_1_1 hz4_2 s4_2_0 s4_2_1 hz4_3 s4_3_0 s4_3_1 s4_3_2 s4_3_3 hb5 H4
    go_wp2_with fail
    refine (HB.out _).mono ?_
    rintro e w6 ⟨rfl, hb6⟩
    have hz6_0 := Nat.lt_of_lt_of_le hz5_0 hb6.size
    have s6_0_0 := (hb6.cell (p := ⟨w.heap.size + 1, 0, none⟩) hz5_0).trans s5_0_0
    have s6_0_1 := (hb6.cell (p := ⟨w.heap.size + 1, 1, none⟩) hz5_0).trans s5_0_1
    have s6_0_2 := (hb6.cell (p := ⟨w.heap.size + 1, 2, none⟩) hz5_0).trans s5_0_2
    have s6_0_3 := (hb6.cell (p := ⟨w.heap.size + 1, 3, none⟩) hz5_0).trans s5_0_3
    have hz6_1 := Nat.lt_of_lt_of_le hz5_1 hb6.size
    have s6_1_0 := (hb6.cell (p := ⟨p, 0, none⟩) hz5_1).trans s5_1_0
    have s6_1_1 := (hb6.cell (p := ⟨p, 1, none⟩) hz5_1).trans s5_1_1
    have hz6_2 := Nat.lt_of_lt_of_le hz5_2 hb6.size
    have s6_2_0 := (hb6.cell (p := ⟨q, 0, none⟩) hz5_2).trans s5_2_0
    have s6_2_1 := (hb6.cell (p := ⟨q, 1, none⟩) hz5_2).trans s5_2_1
    have hz6_3 := Nat.lt_of_lt_of_le hz5_3 hb6.size
    have s6_3_0 := (hb6.cell (p := ⟨w3.heap.size, 0, none⟩) hz5_3).trans s5_3_0
    have s6_3_1 := (hb6.cell (p := ⟨w3.heap.size, 1, none⟩) hz5_3).trans s5_3_1
    have s6_3_2 := (hb6.cell (p := ⟨w3.heap.size, 2, none⟩) hz5_3).trans s5_3_2
    have s6_3_3 := (hb6.cell (p := ⟨w3.heap.size, 3, none⟩) hz5_3).trans s5_3_3
    have hz6_4 := Nat.lt_of_lt_of_le hz5_4 hb6.size
    have s6_4_0 := (hb6.cell (p := ⟨w4.heap.size, 0, none⟩) hz5_4).trans s5_4_0
    have s6_4_1 := (hb6.cell (p := ⟨w4.heap.size, 1, none⟩) hz5_4).trans s5_4_1
    have s6_4_2 := (hb6.cell (p := ⟨w4.heap.size, 2, none⟩) hz5_4).trans s5_4_2
    have s6_4_3 := (hb6.cell (p := ⟨w4.heap.size, 3, none⟩) hz5_4).trans s5_4_3
    have H6 := H5.trans (hb6.mono H5.size)
    clear hz5_0 s5_0_0 s5_0_1 s5_0_2 s5_0_3 hz5_1 s5_1_0 s5_1_1 hz5_2 s5_2_0 s5_2_1 hz5_3 s5_3_0 s5_3_1 s5_3_2 s5_3_3 hz5_4 s5_4_0 s5_4_1 s5_4_2 s5_4_3 hb6 H5
    go_wp2
    go_ret
    exact ⟨rfl, H6⟩
end Go.Proofs.Ytelpjmmkaakceaa
