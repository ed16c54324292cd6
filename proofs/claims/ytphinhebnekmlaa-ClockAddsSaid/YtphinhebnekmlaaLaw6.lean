/- ClockAdds: the walk of the law. -/
import Derived.Test.YtphinhebnekmlaaLaw5
import Derived.Test.YtphinhebnekmlaaRegion
namespace Go.Proofs.Ytphinhebnekmlaa
open Go.RowKit Go.Shelf

theorem wp_gen {P : Program} {c : Code} {Q : Exit → Act → World → Prop} {a : Act} {W : World} (h : ∀ w, w = W → c.wp P Q a w) : c.wp P Q a W := h _ rfl
/-- What ClockAdds calls, and how the answers are tied. -/
theorem adds_all {o1 p1 o2 p2 t n m : Int} (h1 : okC o1 p1 = true) (h2 : okC o2 p2 = true) (ht : 0 ≤ t) (hn : 0 ≤ n) (hm : 0 ≤ m) (hs : t + n + m ≤ 1099511627776) :
    ∃ x y z v a b : Int, (elV o1 p1 t n = x ∧ elE o1 p1 t n = 0) ∧ (elV o1 p1 (t + n) m = y ∧ elE o1 p1 (t + n) m = 0) ∧ (elV o1 p1 t (n + m) = z ∧ elE o1 p1 t (n + m) = 0) ∧ (elV o2 p2 t n = v ∧ elE o2 p2 t n = 0) ∧
      (offV o1 p1 o2 p2 t = a ∧ offE o1 p1 o2 p2 t = 0) ∧ (offV o1 p1 o2 p2 (t + n) = b ∧ offE o1 p1 o2 p2 (t + n) = 0) ∧
      (-8796093022208 ≤ x ∧ x ≤ 8796093022208) ∧ (-8796093022208 ≤ y ∧ y ≤ 8796093022208) ∧ (-8796093022208 ≤ v ∧ v ≤ 8796093022208) ∧ (-8796093022208 ≤ a ∧ a ≤ 8796093022208) ∧ (-8796093022208 ≤ b ∧ b ≤ 8796093022208) ∧
      x + y = z ∧ b - a = x - v := by
  have a0 := atC_lim h1 ht (by omega)
  have a1 := atC_lim h1 (show 0 ≤ t + n by omega) (by omega)
  have a2 := atC_lim h1 (show 0 ≤ t + n + m by omega) (by omega)
  have b0 := atC_lim h2 ht (by omega)
  have b1 := atC_lim h2 (show 0 ≤ t + n by omega) (by omega)
  have e1 : okE t n = true := (okE_iff _ _).2 (by omega)
  have e2 : okE (t + n) m = true := (okE_iff _ _).2 (by omega)
  have e3 : okE t (n + m) = true := (okE_iff _ _).2 (by omega)
  have i1 : inT t = true := by rw [inT_iff]; omega
  have i2 : inT (t + n) = true := by rw [inT_iff]; omega
  have off : ∀ s, inT s = true → offV o1 p1 o2 p2 s = atC o1 p1 s - atC o2 p2 s ∧ offE o1 p1 o2 p2 s = 0 := fun s hs => by unfold offV offE; rw [h1, h2, hs]; exact ⟨rfl, (loc_ok h2 hs).2⟩
  have e4 := el_ok h1 e3
  rw [← Int.add_assoc] at e4
  refine ⟨_, _, _, _, _, _, el_ok h1 e1, el_ok h1 e2, e4, el_ok h2 e1, off t i1, off (t + n) i2, ?_, ?_, ?_, ?_, ?_, ?_, ?_⟩ <;> omega
set_option maxRecDepth 100000 in
set_option maxHeartbeats 2000000 in
theorem law6_walk (x1 y1 x2 y2 at' g1 g2 : Int) (w : World) :
    Calls Try.prog 8 #[.agg #[.int .i64 x1, .int .i32 y1, .int .i64 x2, .int .i32 y2], .int .i64 at', .agg #[.int .i64 g1, .int .i64 g2]] w fun e w' => e = .returned (.bool true) ∧ Below w.heap.size w w' := by
  have HD1 := Lib.hid fun w => draft_any x1 y1 w
  have HD2 := Lib.hid fun w => draft_any x2 y2 w
  have ho1 := okD x1 y1
  have ho2 := okD x2 y2
  have HT := Lib.hid fun w => time_any at' w
  obtain ⟨t0, t1⟩ := timeV_bd at'
  generalize dO x1 = o1 at *
  generalize dP y1 = p1 at *
  generalize dO x2 = o2 at *
  generalize dP y2 = p2 at *
  generalize timeV at' = t at *
  have eu := conv_u64 g1
  have hn := longV_bd g1 (show 1 ≤ 1099511627776 - t + 1 by omega)
  have Hn : g1 % 18446744073709551616 % (1099511627776 - t + 1) = longV g1 (1099511627776 - t + 1) := rfl
  generalize longV g1 (1099511627776 - t + 1) = n at *
  obtain ⟨u, hu⟩ : ∃ u, g1 % 18446744073709551616 = u := ⟨_, rfl⟩
  have u0 : 0 ≤ u := by omega
  have u1 : u ≤ 18446744073709551615 := by omega
  rw [hu] at eu Hn
  obtain ⟨n0, n1⟩ := hn
  have nz : ((1099511627776 - t + 1 : Int) == 0) = false := by rw [beq_eq_false_iff_ne]; omega
  clear hu
  have ev := conv_u64 g2
  have hm := longV_bd g2 (show 1 ≤ 1099511627776 - t - n + 1 by omega)
  have Hm : g2 % 18446744073709551616 % (1099511627776 - t - n + 1) = longV g2 (1099511627776 - t - n + 1) := rfl
  generalize longV g2 (1099511627776 - t - n + 1) = m at *
  obtain ⟨v, hv⟩ : ∃ u, g2 % 18446744073709551616 = u := ⟨_, rfl⟩
  have v0 : 0 ≤ v := by omega
  have v1 : v ≤ 18446744073709551615 := by omega
  rw [hv] at ev Hm
  obtain ⟨m0, m1⟩ := hm
  have mz : ((1099511627776 - t - n + 1 : Int) == 0) = false := by rw [beq_eq_false_iff_ne]; omega
  clear hv
  obtain ⟨x, y, z, k, a, b, ⟨q1, r1⟩, ⟨q2, r2⟩, ⟨q3, r3⟩, ⟨q4, r4⟩, ⟨q5, r5⟩, ⟨q6, r6⟩, ⟨c1, d1⟩, ⟨c2, d2⟩, ⟨c4, d4⟩, ⟨c5, d5⟩, ⟨c6, d6⟩, s1, s2⟩ := adds_all ho1 ho2 t0 n0 m0 (show t + n + m ≤ 1099511627776 by omega)
  have K1 := Lib.hid fun w => Calls.at2 (elapsed_any o1 p1 t n w) q1 r1
  have K2 := Lib.hid fun w => Calls.at2 (elapsed_any o1 p1 (t + n) m w) q2 r2
  have K3 := Lib.hid fun w => Calls.at2 (elapsed_any o1 p1 t (n + m) w) q3 r3
  have K4 := Lib.hid fun w => Calls.at2 (elapsed_any o2 p2 t n w) q4 r4
  have K5 := Lib.hid fun w => Calls.at2 (offset_any o1 p1 o2 p2 t w) q5 r5
  have K6 := Lib.hid fun w => Calls.at2 (offset_any o1 p1 o2 p2 (t + n) w) q6 r6
  have z1 : (x + y == z) = true := by rw [s1]; simp
  have z2 : (b - a == x - k) = true := by rw [s2]; simp
  clear q1 q2 q3 q4 q5 q6 r1 r2 r3 r4 r5 r6 s1 s2 ho1 ho2
  go_enter Try.func8, Try.ntmps8
  go_wp2_with fail
  refine (works09 _).mono ?_
  rintro e w1 ⟨rfl, hb1⟩
  have hz1_0 : w.heap.size < w1.heap.size := by have := hb1.size; simp at this; omega
  have s1_0_0 : w1.cell? ⟨w.heap.size, 0, none⟩ = some (.int .i64 x1) := (hb1.cell (p := ⟨w.heap.size, 0, none⟩) (by simp <;> omega)).trans (by go_simp)
  have s1_0_1 : w1.cell? ⟨w.heap.size, 1, none⟩ = some (.int .i32 y1) := (hb1.cell (p := ⟨w.heap.size, 1, none⟩) (by simp <;> omega)).trans (by go_simp)
  have s1_0_2 : w1.cell? ⟨w.heap.size, 2, none⟩ = some (.int .i64 x2) := (hb1.cell (p := ⟨w.heap.size, 2, none⟩) (by simp <;> omega)).trans (by go_simp)
  have s1_0_3 : w1.cell? ⟨w.heap.size, 3, none⟩ = some (.int .i32 y2) := (hb1.cell (p := ⟨w.heap.size, 3, none⟩) (by simp <;> omega)).trans (by go_simp)
  have hz1_1 : w.heap.size + 1 < w1.heap.size := by have := hb1.size; simp at this; omega
  have s1_1_0 : w1.cell? ⟨w.heap.size + 1, 0, none⟩ = some (.int .i64 g1) := (hb1.cell (p := ⟨w.heap.size + 1, 0, none⟩) (by simp <;> omega)).trans (by go_simp)
  have s1_1_1 : w1.cell? ⟨w.heap.size + 1, 1, none⟩ = some (.int .i64 g2) := (hb1.cell (p := ⟨w.heap.size + 1, 1, none⟩) (by simp <;> omega)).trans (by go_simp)
  have H1 : Below w.heap.size w w1 := (((Below.refl _ _).alloc (Nat.le_refl _) _).alloc (by simp <;> omega) _).trans (hb1.mono (by simp <;> omega))
  clear hb1
  go_wp2_with fail
  refine wp_region_put (R := Nat × Nat) [26, 27, 28, 29, 30, 31, 32, 33, 7, 8, 9]
    (fun r => [.pointer (some ⟨w.heap.size, 0, none⟩), .agg #[.int .i64 x1, .int .i32 y1], .agg #[.int .i64 o1, .int .i64 p1], .pointer (some ⟨w.heap.size, 2, none⟩), .agg #[.int .i64 x2, .int .i32 y2], .agg #[.int .i64 o2, .int .i64 p2], .int .i64 at', .int .i64 t, .pointer (some ⟨r.1, 0, none⟩), .pointer (some ⟨r.2, 0, none⟩), .int .i64 t])
    (fun L r wx => Below w1.heap.size w1 wx ∧ Own2 w1.heap.size r.1 (L 8) (L 10) o1 p1 wx ∧ Own2 w1.heap.size r.2 (L 9) (L 11) o2 p2 wx ∧ (L 8 = true → L 9 = true → r.1 ≠ r.2))
    (by kernel_rfl) (by kernel_rfl) (by kernel_rfl) (0, 0) ?_ ?_ ?_
  · exact ⟨(Below.refl _ _).drew, ⟨fun h => absurd h (by decide), fun h => absurd h (by decide)⟩, ⟨fun h => absurd h (by decide), fun h => absurd h (by decide)⟩, fun h => absurd h (by decide)⟩
  · refine ⟨?_, ?_, ?_, ?_, ?_, ?_, ?_, ?_, ?_, ?_, ?_, ?_, ?_, trivial⟩
    all_goals
      rintro L ⟨p, q⟩ wx K hLi hdep ⟨hB, O1, O2, hne⟩ hK
      have f0 := (hB.cell (p := ⟨w.heap.size, 0, none⟩) hz1_0).trans s1_0_0
      have f1 := (hB.cell (p := ⟨w.heap.size, 1, none⟩) hz1_0).trans s1_0_1
      have f2 := (hB.cell (p := ⟨w.heap.size, 2, none⟩) hz1_0).trans s1_0_2
      have f3 := (hB.cell (p := ⟨w.heap.size, 3, none⟩) hz1_0).trans s1_0_3
      simp only [putAll, Act.put, List.setIfInBounds_toArray, List.set_cons_succ, List.set_cons_zero] at hK ⊢
      go_simp
    · exact hK (p, q) wx ⟨hB, by simpa using O1, by simpa using O2, by simpa using hne⟩
    · exact hK (p, q) wx ⟨hB, by simpa using O1, by simpa using O2, by simpa using hne⟩
    · refine (HD1.out _).mono ?_
      rintro e w' ⟨rfl, hb⟩
      exact hK (p, q) w' ⟨hB.trans (hb.mono hB.size), by simpa using O1.below hb, by simpa using O2.below hb, by simpa using hne⟩
    · exact hK (p, q) wx ⟨hB, by simpa using O1, by simpa using O2, by simpa using hne⟩
    · exact hK (p, q) wx ⟨hB, by simpa using O1, by simpa using O2, by simpa using hne⟩
    · refine (HD2.out _).mono ?_
      rintro e w' ⟨rfl, hb⟩
      exact hK (p, q) w' ⟨hB.trans (hb.mono hB.size), by simpa using O1.below hb, by simpa using O2.below hb, by simpa using hne⟩
    · exact hK (p, q) wx ⟨hB, by simpa using O1, by simpa using O2, by simpa using hne⟩
    · refine (HT.out _).mono ?_
      rintro e w' ⟨rfl, rfl⟩
      exact hK (p, q) _ ⟨hB, by simpa using O1, by simpa using O2, by simpa using hne⟩
    · have h10 : L 10 = false := by
        cases h : L 10
        · rfl
        · rw [O1.1 h] at hLi; cases hLi
      refine hK (wx.heap.size, q) _ ⟨hB.alloc hB.size _, ?_, ?_, ?_⟩
      · simp only [h10]
        exact ⟨fun _ => by simp, fun _ => ⟨hB.size, by simp, by go_simp, by go_simp, by go_simp, by go_simp⟩⟩
      · simpa using O2.below ((Below.refl _ _).alloc (Nat.le_refl _) _)
      · intro _ h7
        have := (O2.2 (by simpa using h7)).2.1
        exact fun e => by simp at e; omega
    · have h11 : L 11 = false := by
        cases h : L 11
        · rfl
        · rw [O2.1 h] at hLi; cases hLi
      refine hK (p, wx.heap.size) _ ⟨hB.alloc hB.size _, ?_, ?_, ?_⟩
      · simpa using O1.below ((Below.refl _ _).alloc (Nat.le_refl _) _)
      · simp only [h11]
        exact ⟨fun _ => by simp, fun _ => ⟨hB.size, by simp, by go_simp, by go_simp, by go_simp, by go_simp⟩⟩
      · intro h6 _
        have := (O1.2 (by simpa using h6)).2.1
        exact fun e => by simp at e; omega
    · have h6 : L 8 = true := hdep ⟨8, .data⟩ (by simp) rfl
      obtain ⟨g1, g2, g3, g4, g5, g6⟩ := O1.2 h6
      rw [hLi] at g3 g4
      go_simp
      refine hK (p, q) _ ⟨(hB.setCell g1 _).setCell g1 _, ?_, ?_, by simpa using hne⟩
      · exact ⟨fun _ => by simp [h6], fun _ => ⟨g1, by simpa [World.setCell] using g2, by go_simp, by go_simp, by go_simp, by go_simp⟩⟩
      · have := (O2.set (c := p) (o := 0) (v := .int .i64 o1) fun h => hne h6 h).set (c := p) (o := 1) (v := .int .i64 p1) fun h => hne h6 h
        simpa using this
    · have h7 : L 9 = true := hdep ⟨9, .data⟩ (by simp) rfl
      obtain ⟨g1, g2, g3, g4, g5, g6⟩ := O2.2 h7
      rw [hLi] at g3 g4
      go_simp
      refine hK (p, q) _ ⟨(hB.setCell g1 _).setCell g1 _, ?_, ?_, by simpa using hne⟩
      · have := (O1.set (c := q) (o := 0) (v := .int .i64 o2) fun h e => hne h h7 e.symm).set (c := q) (o := 1) (v := .int .i64 p2) fun h e => hne h h7 e.symm
        simpa using this
      · exact ⟨fun _ => by simp [h7], fun _ => ⟨g1, by simpa [World.setCell] using g2, by go_simp, by go_simp, by go_simp, by go_simp⟩⟩
    · exact hK (p, q) wx ⟨hB, by simpa using O1, by simpa using O2, by simpa using hne⟩
  rintro ⟨p, q⟩ w2 ⟨hb2, O1, O2, hne⟩
  obtain ⟨p0, p1', p2', p3', p4', p5'⟩ := O1.2 rfl
  obtain ⟨q0, q1', q2', q3', q4', q5'⟩ := O2.2 rfl
  have hpq : p ≠ q := hne rfl rfl
  clear hne O1 O2
  simp only [if_true] at p2' p3' q2' q3'
  simp only [putAll, Act.put, List.setIfInBounds_toArray, List.set_cons_succ, List.set_cons_zero]
  have hz2_0 := Nat.lt_of_lt_of_le hz1_0 hb2.size
  have s2_0_0 := (hb2.cell (p := ⟨w.heap.size, 0, none⟩) hz1_0).trans s1_0_0
  have s2_0_1 := (hb2.cell (p := ⟨w.heap.size, 1, none⟩) hz1_0).trans s1_0_1
  have s2_0_2 := (hb2.cell (p := ⟨w.heap.size, 2, none⟩) hz1_0).trans s1_0_2
  have s2_0_3 := (hb2.cell (p := ⟨w.heap.size, 3, none⟩) hz1_0).trans s1_0_3
  have hz2_1 := Nat.lt_of_lt_of_le hz1_1 hb2.size
  have s2_1_0 := (hb2.cell (p := ⟨w.heap.size + 1, 0, none⟩) hz1_1).trans s1_1_0
  have s2_1_1 := (hb2.cell (p := ⟨w.heap.size + 1, 1, none⟩) hz1_1).trans s1_1_1
  have H2 := H1.trans (hb2.mono H1.size)
  clear hz1_0 s1_0_0 s1_0_1 s1_0_2 s1_0_3 hz1_1 s1_1_0 s1_1_1 hb2 H1
  go_wp2_with fail
  refine (K1.out _).mono ?_
  rintro e w3 ⟨rfl, hb3⟩
  have hz3_0 := Nat.lt_of_lt_of_le hz2_1 hb3.size
  have s3_0_0 := (hb3.cell (p := ⟨w.heap.size + 1, 0, none⟩) hz2_1).trans s2_1_0
  have s3_0_1 := (hb3.cell (p := ⟨w.heap.size + 1, 1, none⟩) hz2_1).trans s2_1_1
  have hz3_1 := Nat.lt_of_lt_of_le p1' hb3.size
  have s3_1_0 := (hb3.cell (p := ⟨p, 0, none⟩) p1').trans p2'
  have s3_1_1 := (hb3.cell (p := ⟨p, 1, none⟩) p1').trans p3'
  have hz3_2 := Nat.lt_of_lt_of_le q1' hb3.size
  have s3_2_0 := (hb3.cell (p := ⟨q, 0, none⟩) q1').trans q2'
  have s3_2_1 := (hb3.cell (p := ⟨q, 1, none⟩) q1').trans q3'
  have H3 := H2.trans (hb3.mono H2.size)
  clear hz2_1 s2_1_0 s2_1_1 p1' p2' p3' q1' q2' q3' hb3 H2
  go_wp2_with fail
  refine (K2.out _).mono ?_
  rintro e w4 ⟨rfl, hb4⟩
  have hz4_0 := Nat.lt_of_lt_of_le hz3_0 hb4.size
  have s4_0_0 := (hb4.cell (p := ⟨w.heap.size + 1, 0, none⟩) hz3_0).trans s3_0_0
  have s4_0_1 := (hb4.cell (p := ⟨w.heap.size + 1, 1, none⟩) hz3_0).trans s3_0_1
  have hz4_1 := Nat.lt_of_lt_of_le hz3_1 hb4.size
  have s4_1_0 := (hb4.cell (p := ⟨p, 0, none⟩) hz3_1).trans s3_1_0
  have s4_1_1 := (hb4.cell (p := ⟨p, 1, none⟩) hz3_1).trans s3_1_1
  have hz4_2 := Nat.lt_of_lt_of_le hz3_2 hb4.size
  have s4_2_0 := (hb4.cell (p := ⟨q, 0, none⟩) hz3_2).trans s3_2_0
  have s4_2_1 := (hb4.cell (p := ⟨q, 1, none⟩) hz3_2).trans s3_2_1
  have H4 := H3.trans (hb4.mono H3.size)
  clear hz3_0 s3_0_0 s3_0_1 hz3_1 s3_1_0 s3_1_1 hz3_2 s3_2_0 s3_2_1 hb4 H3
  go_wp2_with fail
  refine (K3.out _).mono ?_
  rintro e w5 ⟨rfl, hb5⟩
  have hz5_0 := Nat.lt_of_lt_of_le hz4_0 hb5.size
  have s5_0_0 := (hb5.cell (p := ⟨w.heap.size + 1, 0, none⟩) hz4_0).trans s4_0_0
  have s5_0_1 := (hb5.cell (p := ⟨w.heap.size + 1, 1, none⟩) hz4_0).trans s4_0_1
  have hz5_1 := Nat.lt_of_lt_of_le hz4_1 hb5.size
  have s5_1_0 := (hb5.cell (p := ⟨p, 0, none⟩) hz4_1).trans s4_1_0
  have s5_1_1 := (hb5.cell (p := ⟨p, 1, none⟩) hz4_1).trans s4_1_1
  have hz5_2 := Nat.lt_of_lt_of_le hz4_2 hb5.size
  have s5_2_0 := (hb5.cell (p := ⟨q, 0, none⟩) hz4_2).trans s4_2_0
  have s5_2_1 := (hb5.cell (p := ⟨q, 1, none⟩) hz4_2).trans s4_2_1
  have H5 := H4.trans (hb5.mono H4.size)
  clear hz4_0 s4_0_0 s4_0_1 hz4_1 s4_1_0 s4_1_1 hz4_2 s4_2_0 s4_2_1 hb5 H4
  go_wp2_with fail
  refine (K4.out _).mono ?_
  rintro e w6 ⟨rfl, hb6⟩
  have hz6_0 := Nat.lt_of_lt_of_le hz5_0 hb6.size
  have s6_0_0 := (hb6.cell (p := ⟨w.heap.size + 1, 0, none⟩) hz5_0).trans s5_0_0
  have s6_0_1 := (hb6.cell (p := ⟨w.heap.size + 1, 1, none⟩) hz5_0).trans s5_0_1
  have hz6_1 := Nat.lt_of_lt_of_le hz5_1 hb6.size
  have s6_1_0 := (hb6.cell (p := ⟨p, 0, none⟩) hz5_1).trans s5_1_0
  have s6_1_1 := (hb6.cell (p := ⟨p, 1, none⟩) hz5_1).trans s5_1_1
  have hz6_2 := Nat.lt_of_lt_of_le hz5_2 hb6.size
  have s6_2_0 := (hb6.cell (p := ⟨q, 0, none⟩) hz5_2).trans s5_2_0
  have s6_2_1 := (hb6.cell (p := ⟨q, 1, none⟩) hz5_2).trans s5_2_1
  have H6 := H5.trans (hb6.mono H5.size)
  clear hz5_0 s5_0_0 s5_0_1 hz5_1 s5_1_0 s5_1_1 hz5_2 s5_2_0 s5_2_1 hb6 H5
  go_wp2_with fail
  refine (K5.out _).mono ?_
  rintro e w7 ⟨rfl, hb7⟩
  have hz7_0 := Nat.lt_of_lt_of_le hz6_0 hb7.size
  have s7_0_0 := (hb7.cell (p := ⟨w.heap.size + 1, 0, none⟩) hz6_0).trans s6_0_0
  have s7_0_1 := (hb7.cell (p := ⟨w.heap.size + 1, 1, none⟩) hz6_0).trans s6_0_1
  have hz7_1 := Nat.lt_of_lt_of_le hz6_1 hb7.size
  have s7_1_0 := (hb7.cell (p := ⟨p, 0, none⟩) hz6_1).trans s6_1_0
  have s7_1_1 := (hb7.cell (p := ⟨p, 1, none⟩) hz6_1).trans s6_1_1
  have hz7_2 := Nat.lt_of_lt_of_le hz6_2 hb7.size
  have s7_2_0 := (hb7.cell (p := ⟨q, 0, none⟩) hz6_2).trans s6_2_0
  have s7_2_1 := (hb7.cell (p := ⟨q, 1, none⟩) hz6_2).trans s6_2_1
  have H7 := H6.trans (hb7.mono H6.size)
  clear hz6_0 s6_0_0 s6_0_1 hz6_1 s6_1_0 s6_1_1 hz6_2 s6_2_0 s6_2_1 hb7 H6
  go_wp2_with fail
  refine (K6.out _).mono ?_
  rintro e w8 ⟨rfl, hb8⟩
  have hz8_0 := Nat.lt_of_lt_of_le hz7_0 hb8.size
  have s8_0_0 := (hb8.cell (p := ⟨w.heap.size + 1, 0, none⟩) hz7_0).trans s7_0_0
  have s8_0_1 := (hb8.cell (p := ⟨w.heap.size + 1, 1, none⟩) hz7_0).trans s7_0_1
  have hz8_1 := Nat.lt_of_lt_of_le hz7_1 hb8.size
  have s8_1_0 := (hb8.cell (p := ⟨p, 0, none⟩) hz7_1).trans s7_1_0
  have s8_1_1 := (hb8.cell (p := ⟨p, 1, none⟩) hz7_1).trans s7_1_1
  have hz8_2 := Nat.lt_of_lt_of_le hz7_2 hb8.size
  have s8_2_0 := (hb8.cell (p := ⟨q, 0, none⟩) hz7_2).trans s7_2_0
  have s8_2_1 := (hb8.cell (p := ⟨q, 1, none⟩) hz7_2).trans s7_2_1
  have H8 := H7.trans (hb8.mono H7.size)
  clear hz7_0 s7_0_0 s7_0_1 hz7_1 s7_1_0 s7_1_1 hz7_2 s7_2_0 s7_2_1 hb8 H7
  go_wp2
  go_ret
  exact ⟨rfl, H8⟩
end Go.Proofs.Ytphinhebnekmlaa
