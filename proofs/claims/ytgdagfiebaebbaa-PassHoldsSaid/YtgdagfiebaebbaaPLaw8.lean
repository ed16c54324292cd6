/- PassHolds: the walk of the law. -/
import Derived.Test.YtgdagfiebaebbaaWorks14
import Derived.Test.YtgdagfiebaebbaaDraft09
namespace Go.Proofs.Ytgdagfiebaebbaa
open Go.RowKit

theorem atC_small {o p t : Int} (h : okC o p = true) (h0 : 0 ≤ t) (h1 : t ≤ 8589934590) : -1200000000000 ≤ atC o p t ∧ atC o p t ≤ 1200000000000 := by
  rw [okC_iff] at h
  have := mul_bdS (A := 8589934590) (B := 200000) (a := t) (b := p) (by omega) h1 (by omega) (by omega)
  unfold atC; omega
/-- Information over a link, in plain numbers. -/
theorem pholds_plain {T N D p1 p2 r : Int} (hN : 0 ≤ N) (h1 : -200000 ≤ p1 ∧ p1 ≤ 200000) (h2 : -200000 ≤ p2 ∧ p2 ≤ 200000) :
    -(-((-N - max D (-D)) * (max r (-r) + 600000) / 1000000000) + 2) ≤ (N + D) * (p1 - p2 + r) / 1000000000 - ((T + N) * p1 / 1000000000 - T * p1 / 1000000000) ∧
    (N + D) * (p1 - p2 + r) / 1000000000 - ((T + N) * p1 / 1000000000 - T * p1 / 1000000000) ≤ -((-N - max D (-D)) * (max r (-r) + 600000) / 1000000000) + 2 ∧ (-N - max D (-D)) * (max r (-r) + 600000) ≤ 0 := by
  have bb := mul_bdS (a := N) (b := p1) (A := N) (B := 200000) (by omega) (by omega) h1.1 h1.2
  have bu := mul_bdS (a := N + D) (b := p1 - p2 + r) (A := N + max D (-D)) (B := max r (-r) + 400000) (by omega) (by omega) (by omega) (by omega)
  have hz : 0 ≤ (N + max D (-D)) * (max r (-r) + 400000) := Int.mul_nonneg (by omega) (by omega)
  have eK : (-N - max D (-D)) * (max r (-r) + 600000) = -((N + max D (-D)) * (max r (-r) + 400000)) - (N + max D (-D)) * 200000 := by
    rw [show -N - max D (-D) = -(N + max D (-D)) by omega, show max r (-r) + 600000 = (max r (-r) + 400000) + 200000 by omega, Int.neg_mul, Int.mul_add]
    omega
  rw [eK, Int.add_mul T N p1]
  generalize (N + max D (-D)) * (max r (-r) + 400000) = Z at *
  generalize (N + D) * (p1 - p2 + r) = u at *
  generalize N * p1 = b at *
  generalize T * p1 = a at *
  omega
theorem pholds_all {o1 p1 o2 p2 a l er dl rh lf : Int} (h1 : okC o1 p1 = true) (h2 : okC o2 p2 = true) (ha : 0 ≤ a ∧ a ≤ 4294967295) (hl : 0 ≤ l ∧ l ≤ 65535) (he : -32768 ≤ er ∧ er ≤ 32767) (hd : -32768 ≤ dl ∧ dl ≤ 32767) (hr : -32768 ≤ rh ∧ rh ≤ 32767) (hf : -999999 ≤ lf ∧ lf ≤ 999999) :
    ∃ c' b, arrV (atC o1 p1 a - 100) (100 + er) lf (l + dl) (p1 - p2 + rh - lf) = ⟨atC o1 p1 a - 100, c', p1 - p2 + rh, 0⟩ ∧ limB (max er (-er)) (max dl (-dl)) l (max rh (-rh)) = true ∧ bndV (max er (-er)) (max dl (-dl)) l (max rh (-rh)) = b ∧
      -1099511627776 ≤ c' ∧ c' ≤ 1099511627776 ∧ 0 ≤ b ∧ b ≤ 1099511627776 ∧ atC o1 p1 (a + l) - b ≤ (atC o1 p1 a - 100) + c' ∧ (atC o1 p1 a - 100) + c' ≤ atC o1 p1 (a + l) + b := by
  have A1 := atC_small h1 ha.1 (by omega)
  have A2 := atC_small h1 (show 0 ≤ a + l by omega) (by omega)
  rw [okC_iff] at h1 h2
  obtain ⟨g1, g2, g3⟩ := pholds_plain (T := a) (N := l) (D := dl) (p1 := p1) (p2 := p2) (r := rh) hl.1 h1.2 h2.2
  have eY : atC o1 p1 (a + l) - atC o1 p1 a = l + ((a + l) * p1 / 1000000000 - a * p1 / 1000000000) := by unfold atC; omega
  have bu := mul_bdS (A := 98303) (B := 432768) (a := l + dl) (b := p1 - p2 + rh) (by omega) (by omega) (by omega) (by omega)
  have bk := mul_bdS (A := 98303) (B := 632768) (a := -l - max dl (-dl)) (b := max rh (-rh) + 600000) (by omega) (by omega) (by omega) (by omega)
  refine ⟨100 + er + tickV (l + dl) (p1 - p2 + rh), _, ?_, ?_, rfl, ?_⟩
  · have e0 : okI (atC o1 p1 a - 100) (100 + er) lf = true := (okI_iff _ _ _).2 (by omega)
    have e1 : lmsOk [sL (l + dl), rL (p1 - p2 + rh - lf)] = true := by simp only [lmsOk, Lm.ok, Bool.and_eq_true, Bool.and_true, decide_eq_true_eq]; simp only [sL, rL]; omega
    have e2 : lf + (p1 - p2 + rh - lf) = p1 - p2 + rh := by omega
    unfold arrV chV
    rw [e0, e1, e2, if_neg (by decide), if_neg (by decide), if_pos ((okI_iff _ _ _).2 (by unfold tickV; omega))]
  · rw [limB_iff]; omega
  · unfold bndV tickV
    generalize (l + dl) * (p1 - p2 + rh) = u at *
    generalize (-l - max dl (-dl)) * (max rh (-rh) + 600000) = v at *
    generalize (a + l) * p1 / 1000000000 = y1 at *
    generalize a * p1 / 1000000000 = y2 at *
    generalize atC o1 p1 a = A at *
    generalize atC o1 p1 (a + l) = B at *
    omega
set_option maxRecDepth 100000 in
set_option maxHeartbeats 8000000 in
theorem plaw8_walk (x1 y1 x2 y2 a l er dl rh ppb : Int) (ha : 0 ≤ a ∧ a ≤ 4294967295) (hl : 0 ≤ l ∧ l ≤ 65535) (he : -32768 ≤ er ∧ er ≤ 32767) (hd : -32768 ≤ dl ∧ dl ≤ 32767) (hr : -32768 ≤ rh ∧ rh ≤ 32767) (w : World) : Calls Try.prog 10 #[.agg #[.int .i64 x1, .int .i32 y1, .int .i64 x2, .int .i32 y2], .agg #[.int .u32 a, .int .u16 l, .int .i16 er, .int .i16 dl, .int .i16 rh], .int .i32 ppb] w fun e w' => e = .returned (.bool true) ∧ Below w.heap.size w w' := by
  have KW := Lib.hid fun w => works_any w
  have HD1 := Lib.hid fun w => draft_any x1 y1 w
  have HD2 := Lib.hid fun w => draft_any x2 y2 w
  have ho1 := okD x1 y1
  have ho2 := okD x2 y2
  generalize dO x1 = o1 at *
  generalize dP y1 = p1 at *
  generalize dO x2 = o2 at *
  generalize dP y2 = p2 at *
  have bf := tmod_bd ppb (b := 1000000) (by omega)
  obtain ⟨lf, hlf⟩ : ∃ v, ppb.tmod 1000000 = v := ⟨_, rfl⟩
  rw [hlf] at bf
  have e1 : IntKind.i32.wrap lf = lf := by rw [IntKind.wrap_i32]; omega
  have e2 : IntKind.i64.wrap lf = lf := IntWalk.i64_in _ (by omega)
  obtain ⟨c', b, k1, k2, k3, k4, k5, k6, k7, k8, k9⟩ := pholds_all (lf := lf) ho1 ho2 ha hl he hd hr (by omega)
  obtain ⟨a0, a1⟩ := ha
  obtain ⟨l0, l1⟩ := hl
  obtain ⟨r0, r1⟩ := he
  obtain ⟨q0, q1⟩ := hd
  obtain ⟨t0, t1⟩ := hr
  have A1 := atC_small ho1 a0 (by omega)
  have A3 := atC_small ho1 (show 0 ≤ a + l by omega) (by omega)
  have t1' : inT a = true := by rw [inT_iff]; omega
  have t2 : inT (a + l) = true := by rw [inT_iff]; omega
  have T1 : Hid (∀ w, Calls Try.prog 31 #[.agg #[.int .i64 o1, .int .i64 p1], .int .i64 a] w fun e w' => e = .returned (.tuple #[.int .i64 (atC o1 p1 a), .int .i64 0]) ∧ Below w.heap.size w w') := Lib.hid fun w => Calls.atV (local_any o1 p1 a w) (by rw [(loc_ok ho1 t1').1, (loc_ok ho1 t1').2])
  have T2 : Hid (∀ w, Calls Try.prog 31 #[.agg #[.int .i64 o1, .int .i64 p1], .int .i64 (a + l)] w fun e w' => e = .returned (.tuple #[.int .i64 (atC o1 p1 (a + l)), .int .i64 0]) ∧ Below w.heap.size w w') := Lib.hid fun w => Calls.atV (local_any o1 p1 (a + l) w) (by rw [(loc_ok ho1 t2).1, (loc_ok ho1 t2).2])
  have T3 : Hid (∀ w, Calls Try.prog 13 #[.agg #[.int .i64 (atC o1 p1 a - 100), .int .i64 (100 + er), .int .i64 lf], .int .i64 (l + dl), .int .i64 (p1 - p2 + rh - lf)] w fun e w' => e = .returned (.tuple #[.agg #[.int .i64 (atC o1 p1 a - 100), .int .i64 c', .int .i64 (p1 - p2 + rh)], .int .i64 0]) ∧ Below w.heap.size w w') := Lib.hid fun w => Calls.atV (parrive_any _ _ _ _ _ w) (by rw [k1]; rfl)
  have T4 : Hid (∀ w, Calls Try.prog 26 #[.int .i64 (max er (-er)), .int .i64 (max dl (-dl)), .int .i64 l, .int .i64 (max rh (-rh))] w fun e w' => e = .returned (.tuple #[.int .i64 b, .int .i64 0]) ∧ Below w.heap.size w w') := Lib.hid fun w => Calls.atV (pbound_ok _ _ _ _ w k2) (by rw [k3])
  clear k1 k2 k3 t1' t2
  rw [okC_iff] at ho1 ho2
  obtain ⟨⟨u1, u2⟩, u3, u4⟩ := ho1
  obtain ⟨⟨u5, u6⟩, u7, u8⟩ := ho2
  generalize atC o1 p1 a = A at *
  generalize atC o1 p1 (a + l) = C at *
  obtain ⟨v1, v2⟩ := A1
  obtain ⟨v5, v6⟩ := A3
  obtain ⟨f1, f2⟩ := bf
  go_enter Try.func10, Try.ntmps10
  go_wp2_with fail
  refine (KW.out _).mono ?_
  rintro e w1 ⟨rfl, hb1⟩
  have hz1_0 : w.heap.size < w1.heap.size := by have := hb1.size; simp at this; omega
  have s1_0_0 : w1.cell? ⟨w.heap.size, 0, none⟩ = some (.int .i64 x1) := (hb1.cell (p := ⟨w.heap.size, 0, none⟩) (by simp <;> omega)).trans (by go_simp)
  have s1_0_1 : w1.cell? ⟨w.heap.size, 1, none⟩ = some (.int .i32 y1) := (hb1.cell (p := ⟨w.heap.size, 1, none⟩) (by simp <;> omega)).trans (by go_simp)
  have s1_0_2 : w1.cell? ⟨w.heap.size, 2, none⟩ = some (.int .i64 x2) := (hb1.cell (p := ⟨w.heap.size, 2, none⟩) (by simp <;> omega)).trans (by go_simp)
  have s1_0_3 : w1.cell? ⟨w.heap.size, 3, none⟩ = some (.int .i32 y2) := (hb1.cell (p := ⟨w.heap.size, 3, none⟩) (by simp <;> omega)).trans (by go_simp)
  have hz1_1 : w.heap.size + 1 < w1.heap.size := by have := hb1.size; simp at this; omega
  have s1_1_0 : w1.cell? ⟨w.heap.size + 1, 0, none⟩ = some (.int .u32 a) := (hb1.cell (p := ⟨w.heap.size + 1, 0, none⟩) (by simp <;> omega)).trans (by go_simp)
  have s1_1_1 : w1.cell? ⟨w.heap.size + 1, 1, none⟩ = some (.int .u16 l) := (hb1.cell (p := ⟨w.heap.size + 1, 1, none⟩) (by simp <;> omega)).trans (by go_simp)
  have s1_1_2 : w1.cell? ⟨w.heap.size + 1, 2, none⟩ = some (.int .i16 er) := (hb1.cell (p := ⟨w.heap.size + 1, 2, none⟩) (by simp <;> omega)).trans (by go_simp)
  have s1_1_3 : w1.cell? ⟨w.heap.size + 1, 3, none⟩ = some (.int .i16 dl) := (hb1.cell (p := ⟨w.heap.size + 1, 3, none⟩) (by simp <;> omega)).trans (by go_simp)
  have s1_1_4 : w1.cell? ⟨w.heap.size + 1, 4, none⟩ = some (.int .i16 rh) := (hb1.cell (p := ⟨w.heap.size + 1, 4, none⟩) (by simp <;> omega)).trans (by go_simp)
  have H1 : Below w.heap.size w w1 := (((Below.refl _ _).alloc (Nat.le_refl _) _).alloc (by simp <;> omega) _).trans (hb1.mono (by simp <;> omega))
  clear hb1
  go_wp2_with fail
  refine wp_region_put (R := Nat × Nat) [25, 26, 27, 28, 29, 30, 7, 8]
    (fun r => [.pointer (some ⟨w.heap.size, 0, none⟩), .agg #[.int .i64 x1, .int .i32 y1], .agg #[.int .i64 o1, .int .i64 p1], .pointer (some ⟨w.heap.size, 2, none⟩), .agg #[.int .i64 x2, .int .i32 y2], .agg #[.int .i64 o2, .int .i64 p2], .pointer (some ⟨r.1, 0, none⟩), .pointer (some ⟨r.2, 0, none⟩)])
    (fun L r wx => Below w1.heap.size w1 wx ∧ Own2 w1.heap.size r.1 (L 6) (L 8) o1 p1 wx ∧ Own2 w1.heap.size r.2 (L 7) (L 9) o2 p2 wx ∧ (L 6 = true → L 7 = true → r.1 ≠ r.2))
    (by kernel_rfl) (by kernel_rfl) (by kernel_rfl) (0, 0) ?_ ?_ ?_
  · exact ⟨(Below.refl _ _).drew, ⟨fun h => absurd h (by decide), fun h => absurd h (by decide)⟩, ⟨fun h => absurd h (by decide), fun h => absurd h (by decide)⟩, fun h => absurd h (by decide)⟩
  · refine ⟨?_, ?_, ?_, ?_, ?_, ?_, ?_, ?_, ?_, ?_, trivial⟩
    all_goals
      rintro L ⟨p, q⟩ wx K hLi hdep ⟨hB, O1, O2, hne⟩ hK
      have f0 := (hB.cell (p := ⟨w.heap.size, 0, none⟩) hz1_0).trans s1_0_0
      have f1 := (hB.cell (p := ⟨w.heap.size, 1, none⟩) hz1_0).trans s1_0_1
      have f2 := (hB.cell (p := ⟨w.heap.size, 2, none⟩) hz1_0).trans s1_0_2
      have f3 := (hB.cell (p := ⟨w.heap.size, 3, none⟩) hz1_0).trans s1_0_3
      simp only [putAll, Act.put, List.setIfInBounds_toArray, List.set_cons_succ, List.set_cons_zero] at hK ⊢
      go_simp
    · exact hK (p, q) wx ⟨hB, by simpa using O1, by simpa using O2, by simpa using hne⟩
    · exact hK (p, q) wx ⟨hB, by simpa using O1, by simpa using O2, by simpa using hne⟩
    · refine (HD1.out _).mono ?_
      rintro e w' ⟨rfl, hb⟩
      exact hK (p, q) w' ⟨hB.trans (hb.mono hB.size), by simpa using O1.below hb, by simpa using O2.below hb, by simpa using hne⟩
    · exact hK (p, q) wx ⟨hB, by simpa using O1, by simpa using O2, by simpa using hne⟩
    · exact hK (p, q) wx ⟨hB, by simpa using O1, by simpa using O2, by simpa using hne⟩
    · refine (HD2.out _).mono ?_
      rintro e w' ⟨rfl, hb⟩
      exact hK (p, q) w' ⟨hB.trans (hb.mono hB.size), by simpa using O1.below hb, by simpa using O2.below hb, by simpa using hne⟩
    · have h8 : L 8 = false := by
        cases h : L 8
        · rfl
        · rw [O1.1 h] at hLi; cases hLi
      refine hK (wx.heap.size, q) _ ⟨hB.alloc hB.size _, ?_, ?_, ?_⟩
      · simp only [h8]
        exact ⟨fun _ => by simp, fun _ => ⟨hB.size, by simp, by go_simp, by go_simp, by go_simp, by go_simp⟩⟩
      · simpa using O2.below ((Below.refl _ _).alloc (Nat.le_refl _) _)
      · intro _ h7
        have := (O2.2 (by simpa using h7)).2.1
        exact fun e => by simp at e; omega
    · have h9 : L 9 = false := by
        cases h : L 9
        · rfl
        · rw [O2.1 h] at hLi; cases hLi
      refine hK (p, wx.heap.size) _ ⟨hB.alloc hB.size _, ?_, ?_, ?_⟩
      · simpa using O1.below ((Below.refl _ _).alloc (Nat.le_refl _) _)
      · simp only [h9]
        exact ⟨fun _ => by simp, fun _ => ⟨hB.size, by simp, by go_simp, by go_simp, by go_simp, by go_simp⟩⟩
      · intro h6 _
        have := (O1.2 (by simpa using h6)).2.1
        exact fun e => by simp at e; omega
    · have h6 : L 6 = true := hdep ⟨6, .data⟩ (by simp) rfl
      obtain ⟨g1, g2, g3, g4, g5, g6⟩ := O1.2 h6
      rw [hLi] at g3 g4
      go_simp
      refine hK (p, q) _ ⟨(hB.setCell g1 _).setCell g1 _, ?_, ?_, by simpa using hne⟩
      · exact ⟨fun _ => by simp [h6], fun _ => ⟨g1, by simpa [World.setCell] using g2, by go_simp, by go_simp, by go_simp, by go_simp⟩⟩
      · have := (O2.set (c := p) (o := 0) (v := .int .i64 o1) fun h => hne h6 h).set (c := p) (o := 1) (v := .int .i64 p1) fun h => hne h6 h
        simpa using this
    · have h7 : L 7 = true := hdep ⟨7, .data⟩ (by simp) rfl
      obtain ⟨g1, g2, g3, g4, g5, g6⟩ := O2.2 h7
      rw [hLi] at g3 g4
      go_simp
      refine hK (p, q) _ ⟨(hB.setCell g1 _).setCell g1 _, ?_, ?_, by simpa using hne⟩
      · have := (O1.set (c := q) (o := 0) (v := .int .i64 o2) fun h e => hne h h7 e.symm).set (c := q) (o := 1) (v := .int .i64 p2) fun h e => hne h h7 e.symm
        simpa using this
      · exact ⟨fun _ => by simp [h7], fun _ => ⟨g1, by simpa [World.setCell] using g2, by go_simp, by go_simp, by go_simp, by go_simp⟩⟩
  rintro ⟨p, q⟩ w2 ⟨hb2, O1, O2, hne⟩
  obtain ⟨p0, p1', p2', p3', p4', p5'⟩ := O1.2 rfl
  obtain ⟨q0, q1', q2', q3', q4', q5'⟩ := O2.2 rfl
  have hpq : p ≠ q := hne rfl rfl
  clear hne O1 O2
  simp only [if_true] at p2' p3' q2' q3'
  simp only [putAll, Act.put, List.setIfInBounds_toArray, List.set_cons_succ, List.set_cons_zero]
  have hz2_0 := Nat.lt_of_lt_of_le hz1_0 hb2.size
  have s2_0_0 := (hb2.cell (p := ⟨w.heap.size, 0, none⟩) hz1_0).trans s1_0_0
  have s2_0_1 := (hb2.cell (p := ⟨w.heap.size, 1, none⟩) hz1_0).trans s1_0_1
  have s2_0_2 := (hb2.cell (p := ⟨w.heap.size, 2, none⟩) hz1_0).trans s1_0_2
  have s2_0_3 := (hb2.cell (p := ⟨w.heap.size, 3, none⟩) hz1_0).trans s1_0_3
  have hz2_1 := Nat.lt_of_lt_of_le hz1_1 hb2.size
  have s2_1_0 := (hb2.cell (p := ⟨w.heap.size + 1, 0, none⟩) hz1_1).trans s1_1_0
  have s2_1_1 := (hb2.cell (p := ⟨w.heap.size + 1, 1, none⟩) hz1_1).trans s1_1_1
  have s2_1_2 := (hb2.cell (p := ⟨w.heap.size + 1, 2, none⟩) hz1_1).trans s1_1_2
  have s2_1_3 := (hb2.cell (p := ⟨w.heap.size + 1, 3, none⟩) hz1_1).trans s1_1_3
  have s2_1_4 := (hb2.cell (p := ⟨w.heap.size + 1, 4, none⟩) hz1_1).trans s1_1_4
  have H2 := H1.trans (hb2.mono H1.size)
  clear hz1_0 s1_0_0 s1_0_1 s1_0_2 s1_0_3 hz1_1 s1_1_0 s1_1_1 s1_1_2 s1_1_3 s1_1_4 hb2 H1
  go_wp2_with fail
  have F0 := Bw.cell hz2_1 s2_1_0
  have F1 := Bw.cell hz2_1 s2_1_1
  refine wp_region_bw (by kernel_rfl) (by kernel_rfl) ?_
  repeat (go_big_quiet_step (fail))
  refine wpQuiet_nil ?_
  rintro w3 ⟨⟨_, hb3⟩, rfl⟩
  clear F0 F1
  have hz3_0 := Nat.lt_of_lt_of_le hz2_1 hb3.size
  have s3_0_0 := (hb3.cell (p := ⟨w.heap.size + 1, 0, none⟩) hz2_1).trans s2_1_0
  have s3_0_1 := (hb3.cell (p := ⟨w.heap.size + 1, 1, none⟩) hz2_1).trans s2_1_1
  have s3_0_2 := (hb3.cell (p := ⟨w.heap.size + 1, 2, none⟩) hz2_1).trans s2_1_2
  have s3_0_3 := (hb3.cell (p := ⟨w.heap.size + 1, 3, none⟩) hz2_1).trans s2_1_3
  have s3_0_4 := (hb3.cell (p := ⟨w.heap.size + 1, 4, none⟩) hz2_1).trans s2_1_4
  have hz3_1 := Nat.lt_of_lt_of_le p1' hb3.size
  have s3_1_0 := (hb3.cell (p := ⟨p, 0, none⟩) p1').trans p2'
  have s3_1_1 := (hb3.cell (p := ⟨p, 1, none⟩) p1').trans p3'
  have hz3_2 := Nat.lt_of_lt_of_le q1' hb3.size
  have s3_2_0 := (hb3.cell (p := ⟨q, 0, none⟩) q1').trans q2'
  have s3_2_1 := (hb3.cell (p := ⟨q, 1, none⟩) q1').trans q3'
  have H3 := H2.trans (hb3.mono H2.size)
  clear hz2_1 s2_1_0 s2_1_1 s2_1_2 s2_1_3 s2_1_4 p1' p2' p3' q1' q2' q3' hb3 H2
  go_wp2_with fail
  refine (T1.out _).mono ?_
  rintro e w4 ⟨rfl, hb4⟩
  have hz4_0 := Nat.lt_of_lt_of_le hz3_0 hb4.size
  have s4_0_0 := (hb4.cell (p := ⟨w.heap.size + 1, 0, none⟩) hz3_0).trans s3_0_0
  have s4_0_1 := (hb4.cell (p := ⟨w.heap.size + 1, 1, none⟩) hz3_0).trans s3_0_1
  have s4_0_2 := (hb4.cell (p := ⟨w.heap.size + 1, 2, none⟩) hz3_0).trans s3_0_2
  have s4_0_3 := (hb4.cell (p := ⟨w.heap.size + 1, 3, none⟩) hz3_0).trans s3_0_3
  have s4_0_4 := (hb4.cell (p := ⟨w.heap.size + 1, 4, none⟩) hz3_0).trans s3_0_4
  have hz4_1 := Nat.lt_of_lt_of_le hz3_1 hb4.size
  have s4_1_0 := (hb4.cell (p := ⟨p, 0, none⟩) hz3_1).trans s3_1_0
  have s4_1_1 := (hb4.cell (p := ⟨p, 1, none⟩) hz3_1).trans s3_1_1
  have hz4_2 := Nat.lt_of_lt_of_le hz3_2 hb4.size
  have s4_2_0 := (hb4.cell (p := ⟨q, 0, none⟩) hz3_2).trans s3_2_0
  have s4_2_1 := (hb4.cell (p := ⟨q, 1, none⟩) hz3_2).trans s3_2_1
  have H4 := H3.trans (hb4.mono H3.size)
  clear hz3_0 s3_0_0 s3_0_1 s3_0_2 s3_0_3 s3_0_4 hz3_1 s3_1_0 s3_1_1 hz3_2 s3_2_0 s3_2_1 hb4 H3
  go_wp2_with fail
  refine (T2.out _).mono ?_
  rintro e w5 ⟨rfl, hb5⟩
  have hz5_0 := Nat.lt_of_lt_of_le hz4_0 hb5.size
  have s5_0_0 := (hb5.cell (p := ⟨w.heap.size + 1, 0, none⟩) hz4_0).trans s4_0_0
  have s5_0_1 := (hb5.cell (p := ⟨w.heap.size + 1, 1, none⟩) hz4_0).trans s4_0_1
  have s5_0_2 := (hb5.cell (p := ⟨w.heap.size + 1, 2, none⟩) hz4_0).trans s4_0_2
  have s5_0_3 := (hb5.cell (p := ⟨w.heap.size + 1, 3, none⟩) hz4_0).trans s4_0_3
  have s5_0_4 := (hb5.cell (p := ⟨w.heap.size + 1, 4, none⟩) hz4_0).trans s4_0_4
  have hz5_1 := Nat.lt_of_lt_of_le hz4_1 hb5.size
  have s5_1_0 := (hb5.cell (p := ⟨p, 0, none⟩) hz4_1).trans s4_1_0
  have s5_1_1 := (hb5.cell (p := ⟨p, 1, none⟩) hz4_1).trans s4_1_1
  have hz5_2 := Nat.lt_of_lt_of_le hz4_2 hb5.size
  have s5_2_0 := (hb5.cell (p := ⟨q, 0, none⟩) hz4_2).trans s4_2_0
  have s5_2_1 := (hb5.cell (p := ⟨q, 1, none⟩) hz4_2).trans s4_2_1
  have H5 := H4.trans (hb5.mono H4.size)
  clear hz4_0 s4_0_0 s4_0_1 s4_0_2 s4_0_3 s4_0_4 hz4_1 s4_1_0 s4_1_1 hz4_2 s4_2_0 s4_2_1 hb5 H4
  go_wp2_with fail
  refine (T3.out _).mono ?_
  rintro e w6 ⟨rfl, hb6⟩
  have hz6_0 : w.heap.size + 1 < w6.heap.size := by have := hb6.size; simp at this; omega
  have s6_0_0 : w6.cell? ⟨w.heap.size + 1, 0, none⟩ = some (.int .u32 a) := (hb6.cell (p := ⟨w.heap.size + 1, 0, none⟩) (by simp <;> omega)).trans (by go_simp)
  have s6_0_1 : w6.cell? ⟨w.heap.size + 1, 1, none⟩ = some (.int .u16 l) := (hb6.cell (p := ⟨w.heap.size + 1, 1, none⟩) (by simp <;> omega)).trans (by go_simp)
  have s6_0_2 : w6.cell? ⟨w.heap.size + 1, 2, none⟩ = some (.int .i16 er) := (hb6.cell (p := ⟨w.heap.size + 1, 2, none⟩) (by simp <;> omega)).trans (by go_simp)
  have s6_0_3 : w6.cell? ⟨w.heap.size + 1, 3, none⟩ = some (.int .i16 dl) := (hb6.cell (p := ⟨w.heap.size + 1, 3, none⟩) (by simp <;> omega)).trans (by go_simp)
  have s6_0_4 : w6.cell? ⟨w.heap.size + 1, 4, none⟩ = some (.int .i16 rh) := (hb6.cell (p := ⟨w.heap.size + 1, 4, none⟩) (by simp <;> omega)).trans (by go_simp)
  have hz6_1 : p < w6.heap.size := by have := hb6.size; simp at this; omega
  have s6_1_0 : w6.cell? ⟨p, 0, none⟩ = some (.int .i64 o1) := (hb6.cell (p := ⟨p, 0, none⟩) (by simp <;> omega)).trans (by go_simp)
  have s6_1_1 : w6.cell? ⟨p, 1, none⟩ = some (.int .i64 p1) := (hb6.cell (p := ⟨p, 1, none⟩) (by simp <;> omega)).trans (by go_simp)
  have hz6_2 : q < w6.heap.size := by have := hb6.size; simp at this; omega
  have s6_2_0 : w6.cell? ⟨q, 0, none⟩ = some (.int .i64 o2) := (hb6.cell (p := ⟨q, 0, none⟩) (by simp <;> omega)).trans (by go_simp)
  have s6_2_1 : w6.cell? ⟨q, 1, none⟩ = some (.int .i64 p2) := (hb6.cell (p := ⟨q, 1, none⟩) (by simp <;> omega)).trans (by go_simp)
  have hz6_3 : w5.heap.size < w6.heap.size := by have := hb6.size; simp at this; omega
  have s6_3_0 : w6.cell? ⟨w5.heap.size, 0, none⟩ = some (.int .i64 (A - 100)) := (hb6.cell (p := ⟨w5.heap.size, 0, none⟩) (by simp <;> omega)).trans (by go_simp)
  have s6_3_1 : w6.cell? ⟨w5.heap.size, 1, none⟩ = some (.int .i64 (100 + er)) := (hb6.cell (p := ⟨w5.heap.size, 1, none⟩) (by simp <;> omega)).trans (by go_simp)
  have s6_3_2 : w6.cell? ⟨w5.heap.size, 2, none⟩ = some (.int .i64 lf) := (hb6.cell (p := ⟨w5.heap.size, 2, none⟩) (by simp <;> omega)).trans (by go_simp)
  have H6 : Below w.heap.size w w6 := (H5.alloc H5.size _).trans (hb6.mono (by have := H5.size; simp <;> omega))
  clear hz5_0 s5_0_0 s5_0_1 s5_0_2 s5_0_3 s5_0_4 hz5_1 s5_1_0 s5_1_1 hz5_2 s5_2_0 s5_2_1 hb6 H5
  go_wp2_with fail
  refine (T4.out _).mono ?_
  rintro e w7 ⟨rfl, hb7⟩
  have hz7_0 : w.heap.size + 1 < w7.heap.size := by have := hb7.size; simp at this; omega
  have s7_0_0 : w7.cell? ⟨w.heap.size + 1, 0, none⟩ = some (.int .u32 a) := (hb7.cell (p := ⟨w.heap.size + 1, 0, none⟩) (by simp <;> omega)).trans (by go_simp)
  have s7_0_1 : w7.cell? ⟨w.heap.size + 1, 1, none⟩ = some (.int .u16 l) := (hb7.cell (p := ⟨w.heap.size + 1, 1, none⟩) (by simp <;> omega)).trans (by go_simp)
  have s7_0_2 : w7.cell? ⟨w.heap.size + 1, 2, none⟩ = some (.int .i16 er) := (hb7.cell (p := ⟨w.heap.size + 1, 2, none⟩) (by simp <;> omega)).trans (by go_simp)
  have s7_0_3 : w7.cell? ⟨w.heap.size + 1, 3, none⟩ = some (.int .i16 dl) := (hb7.cell (p := ⟨w.heap.size + 1, 3, none⟩) (by simp <;> omega)).trans (by go_simp)
  have s7_0_4 : w7.cell? ⟨w.heap.size + 1, 4, none⟩ = some (.int .i16 rh) := (hb7.cell (p := ⟨w.heap.size + 1, 4, none⟩) (by simp <;> omega)).trans (by go_simp)
  have hz7_1 : p < w7.heap.size := by have := hb7.size; simp at this; omega
  have s7_1_0 : w7.cell? ⟨p, 0, none⟩ = some (.int .i64 o1) := (hb7.cell (p := ⟨p, 0, none⟩) (by simp <;> omega)).trans (by go_simp)
  have s7_1_1 : w7.cell? ⟨p, 1, none⟩ = some (.int .i64 p1) := (hb7.cell (p := ⟨p, 1, none⟩) (by simp <;> omega)).trans (by go_simp)
  have hz7_2 : q < w7.heap.size := by have := hb7.size; simp at this; omega
  have s7_2_0 : w7.cell? ⟨q, 0, none⟩ = some (.int .i64 o2) := (hb7.cell (p := ⟨q, 0, none⟩) (by simp <;> omega)).trans (by go_simp)
  have s7_2_1 : w7.cell? ⟨q, 1, none⟩ = some (.int .i64 p2) := (hb7.cell (p := ⟨q, 1, none⟩) (by simp <;> omega)).trans (by go_simp)
  have hz7_3 : w5.heap.size < w7.heap.size := by have := hb7.size; simp at this; omega
  have s7_3_0 : w7.cell? ⟨w5.heap.size, 0, none⟩ = some (.int .i64 (A - 100)) := (hb7.cell (p := ⟨w5.heap.size, 0, none⟩) (by simp <;> omega)).trans (by go_simp)
  have s7_3_1 : w7.cell? ⟨w5.heap.size, 1, none⟩ = some (.int .i64 (100 + er)) := (hb7.cell (p := ⟨w5.heap.size, 1, none⟩) (by simp <;> omega)).trans (by go_simp)
  have s7_3_2 : w7.cell? ⟨w5.heap.size, 2, none⟩ = some (.int .i64 lf) := (hb7.cell (p := ⟨w5.heap.size, 2, none⟩) (by simp <;> omega)).trans (by go_simp)
  have hz7_4 : w6.heap.size < w7.heap.size := by have := hb7.size; simp at this; omega
  have s7_4_0 : w7.cell? ⟨w6.heap.size, 0, none⟩ = some (.int .i64 (A - 100)) := (hb7.cell (p := ⟨w6.heap.size, 0, none⟩) (by simp <;> omega)).trans (by go_simp)
  have s7_4_1 : w7.cell? ⟨w6.heap.size, 1, none⟩ = some (.int .i64 c') := (hb7.cell (p := ⟨w6.heap.size, 1, none⟩) (by simp <;> omega)).trans (by go_simp)
  have s7_4_2 : w7.cell? ⟨w6.heap.size, 2, none⟩ = some (.int .i64 (p1 - p2 + rh)) := (hb7.cell (p := ⟨w6.heap.size, 2, none⟩) (by simp <;> omega)).trans (by go_simp)
  have H7 : Below w.heap.size w w7 := (H6.alloc H6.size _).trans (hb7.mono (by have := H6.size; simp <;> omega))
  clear hz6_0 s6_0_0 s6_0_1 s6_0_2 s6_0_3 s6_0_4 hz6_1 s6_1_0 s6_1_1 hz6_2 s6_2_0 s6_2_1 hz6_3 s6_3_0 s6_3_1 s6_3_2 hb7 H6
  go_wp2
  go_ret
  exact ⟨rfl, H7⟩
end Go.Proofs.Ytgdagfiebaebbaa
