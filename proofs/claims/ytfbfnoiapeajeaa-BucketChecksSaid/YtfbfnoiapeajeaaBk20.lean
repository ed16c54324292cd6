/- BucketLeast: the walk of the law. -/
import Derived.Test.YtfbfnoiapeajeaaBk19
import Derived.Test.YtfbfnoiapeajeaaBoxed
namespace Go.Proofs.Ytfbfnoiapeajeaa
open Go.RowKit

/-- A slice with a trace, as a function has returned it. -/
structure TrS (w : World) (a : Option Addr) (c : Nat) (l : Tr) : Prop where
  le : l.length ≤ c
  nil : a = none → c = 0
  lt : ∀ q, a = some q → q.block < w.heap.size
  spot : ∀ q, a = some q → q.spot = none
  tr : TrA w a l
theorem TrS.next {w w' : World} {a : Option Addr} {c : Nat} {l : Tr} (h : TrS w a c l) (hb : Below w.heap.size w w') : TrS w' a c l :=
  ⟨h.le, h.nil, fun q e => Nat.lt_of_lt_of_le (h.lt q e) hb.size, h.spot, h.tr.next hb⟩
theorem TrA.keep {w w' : World} {p : Nat} {a : Option Addr} {l : Tr} (h : TrA w a l) (hk : But p w w') (hne : ∀ q, a = some q → q.block ≠ p) : TrA w' a l := fun k hkl => by
  obtain ⟨b, o, e, h1, h2⟩ := h k hkl
  have hb : b ≠ p := hne _ e
  exact ⟨b, o, e, (hk.cell hb).trans h1, (hk.cell hb).trans h2⟩
theorem TrS.keep {w w' : World} {p : Nat} {a : Option Addr} {c : Nat} {l : Tr} (h : TrS w a c l) (hk : But p w w') (hne : ∀ q, a = some q → q.block ≠ p) : TrS w' a c l :=
  ⟨h.le, h.nil, fun q e => by rw [hk.size]; exact h.lt q e, h.spot, h.tr.keep hk hne⟩
/-- A call that returns a trace. -/
theorem retTr {P : Program} {f : FuncId} {args : Array Value} {w : World} {l : Tr} (h : Calls P f args w (RetTr w l)) {n : Nat} (hn : Hid (l.length = n)) :
    Calls P f args w fun e w' => ∃ a c, e = .returned (.slice a n c) ∧ TrS w' a c l ∧ (∀ q, a = some q → w.heap.size ≤ q.block) ∧ Below w.heap.size w w' :=
  h.mono fun e w' ⟨a, c, he, h1, h2, h3, h4, hb, h5⟩ => ⟨a, c, by rw [← hn.out]; exact he, ⟨h1, h2, fun q e => (h4 q e).2, h5, h3.out⟩, fun q e => (h4 q e).1, hb⟩
set_option maxRecDepth 100000 in
set_option maxHeartbeats 4000000 in
theorem blaw7_walk (x y : Int) (ga sa : Option Addr) (gn gc sn sc : Nat) (gaps sizes : List Int) (mo : Int) (w : World) (hD : Hid (DraftIn w x y ga sa gn sn gaps sizes)) (hmo : 0 ≤ mo ∧ mo ≤ 65535) :
    Calls Try.prog 7 #[.agg #[.int .u32 x, .int .u32 y, .slice ga gn gc, .slice sa sn sc], .int .u16 mo] w fun e w' => e = .returned (.bool true) ∧ Below w.heap.size w w' := by
  obtain ⟨ht, hl30⟩ := traceV_ok hD.out.hG.small hD.out.hS.small
  have hb := dBR_ok x y
  have KB := Lib.hid fun w' => hD.out.bucket (gc := gc) (sc := sc) w'
  obtain ⟨n, hn⟩ : ∃ n, (traceV gaps sizes).length = n := ⟨_, rfl⟩
  have HN := Lib.hid hn
  have KT := Lib.hid fun w' hb => retTr (hD.out.trace (gc := gc) (sc := sc) w' hb) HN
  generalize traceV gaps sizes = l at *
  generalize dB x = b at *
  generalize dR y = r at *
  obtain ⟨⟨b1, b2⟩, r1, r2⟩ := okB_iff.1 hb
  obtain ⟨R, hR, R1, R2, R3⟩ : ∃ R, min (r + mo) 2097152 = R ∧ 1 ≤ R ∧ R ≤ 2097152 ∧ r ≤ R := ⟨_, rfl, by omega, by omega, by omega⟩
  have mn : ∀ W, (Builtin.min_ #[3, 3] 3 #[.int .i64 (r + mo), .int .i64 2097152]).run Try.prog W = .ok (.int .i64 R) W := fun W => by
    have := @run_min_int2 Try.prog W #[3, 3] 3 .i64 .i64 (r + mo) 2097152
    rw [this]; congr 2; split <;> omega
  have hch := (okT_iff.1 ht).2
  have K1 := Lib.hid fun a c w h => bleast_any r a n c l w hn (by omega) h
  have K2 := Lib.hid fun a c w h => bleast_any R a n c l w hn (by omega) h
  have hd1 := demand_ge R l
  have hd2 := demand_rate R3 hch
  have KF := Lib.hid fun m (m1 : 1 ≤ m) (m2 : m ≤ 1048576) a c w h => (show Calls Try.prog 30 #[.agg #[.int .i64 m, .int .i64 r], .slice a n c] w fun e w' => e = .returned (.bool (decide (demand r l ≤ m))) ∧ Below w.heap.size w w' by
    rw [← conf_demand m1 m2 r1 r2 ht]
    exact fits2_any m r a n c l w hn (by omega) h)
  have hnil : n = 0 → demand r l = 1 := fun h => by
    obtain rfl : l = [] := List.eq_nil_of_length_eq_zero (by omega)
    rfl
  unfold lstV eL at K1 K2
  rw [if_pos (show 1 ≤ r ∧ r ≤ 2097152 from ⟨r1, r2⟩), if_pos (show 1 ≤ r ∧ r ≤ 2097152 from ⟨r1, r2⟩)] at K1
  rw [if_pos (show 1 ≤ R ∧ R ≤ 2097152 from ⟨R1, R2⟩), if_pos (show 1 ≤ R ∧ R ≤ 2097152 from ⟨R1, R2⟩)] at K2
  simp only [ht, if_true] at K1 K2
  have hn30 : n ≤ 30 := by omega
  generalize demand R l = D2 at *
  generalize demand r l = D1 at *
  obtain ⟨mo1, mo2⟩ := hmo
  clear ht hl30 hb hD hch hn hR
  go_enter Try.func7, Try.ntmps7
  go_wp2_with fail
  refine (works03 _).mono ?_
  rintro e w1 ⟨rfl, hb1⟩
  have hz1_0 : w.heap.size < w1.heap.size := by have := hb1.size; simp at this; omega
  have s1_0_0 : w1.cell? ⟨w.heap.size, 0, none⟩ = some (.int .u32 x) := (hb1.cell (p := ⟨w.heap.size, 0, none⟩) (by simp <;> omega)).trans (by go_simp)
  have s1_0_1 : w1.cell? ⟨w.heap.size, 1, none⟩ = some (.int .u32 y) := (hb1.cell (p := ⟨w.heap.size, 1, none⟩) (by simp <;> omega)).trans (by go_simp)
  have s1_0_2 : w1.cell? ⟨w.heap.size, 2, none⟩ = some (.slice ga gn gc) := (hb1.cell (p := ⟨w.heap.size, 2, none⟩) (by simp <;> omega)).trans (by go_simp)
  have s1_0_3 : w1.cell? ⟨w.heap.size, 3, none⟩ = some (.slice sa sn sc) := (hb1.cell (p := ⟨w.heap.size, 3, none⟩) (by simp <;> omega)).trans (by go_simp)
  have H1 : Below w.heap.size w w1 := ((Below.refl _ _).alloc (Nat.le_refl _) _).trans (hb1.mono (by simp <;> omega))
  clear hb1
  go_wp2_with fail
  have HH := H1
  refine wp_region_gput (R := (Option Addr) × Nat × Nat × Value) [13, 14, 15, 16, 5, 6]
    (fun rr => [.agg #[.int .u32 x, .int .u32 y, .slice ga gn gc, .slice sa sn sc], .agg #[.int .i64 b, .int .i64 r], .agg #[.int .u32 x, .int .u32 y, .slice ga gn gc, .slice sa sn sc], .slice rr.1 n rr.2.1, .pointer (some ⟨rr.2.2.1, 0, none⟩), rr.2.2.2])
    (fun L rr wx => Below w1.heap.size w1 wx ∧ (L 3 = true → TrS wx rr.1 rr.2.1 l) ∧ (L 6 = true → L 3 = true ∧ rr.2.2.2 = .slice rr.1 n rr.2.1) ∧ OwnC w1.heap.size rr.2.2.1 (L 4) (L 5) [.int .i64 0, .int .i64 0] [.int .i64 b, .int .i64 r] wx ∧ (L 3 = true → L 4 = true → ∀ q : Addr, rr.1 = some q → q.block ≠ rr.2.2.1))
    (by kernel_rfl) (by kernel_rfl) (by kernel_rfl) (none, 0, 0, undef) ?_ ?_ ?_
  · exact ⟨(Below.refl _ _).drew, fun h => absurd h (by decide), fun h => absurd h (by decide), OwnC.start _ _ _ _ _, fun h => absurd h (by decide)⟩
  · refine ⟨?_, ?_, ?_, ?_, ?_, ?_, ?_, trivial⟩
    all_goals
      rintro L ⟨a, c, p, v6⟩ wx K hLi hdep ⟨hB, h3, h6, O4, e3_4⟩ hK
      try dsimp only at h3 h6 O4 e3_4
      have hBs := hB.size
      have f0 := (hB.cell (p := ⟨w.heap.size, 0, none⟩) hz1_0).trans s1_0_0
      have f1 := (hB.cell (p := ⟨w.heap.size, 1, none⟩) hz1_0).trans s1_0_1
      have f2 := (hB.cell (p := ⟨w.heap.size, 2, none⟩) hz1_0).trans s1_0_2
      have f3 := (hB.cell (p := ⟨w.heap.size, 3, none⟩) hz1_0).trans s1_0_3
      simp only [putAll, Act.put, List.setIfInBounds_toArray, List.set_cons_succ, List.set_cons_zero] at hK ⊢
    · refine .inl ⟨by rfl, ?_⟩
      go_simp
      exact hK (a, c, p, v6) wx ⟨hB, by simpa using h3, by simpa using h6, by simpa using O4, by simpa using e3_4⟩
    · refine .inl ⟨by rfl, ?_⟩
      go_simp
      refine (KB.out wx).mono ?_
      rintro e w' ⟨rfl, hb⟩
      exact hK (a, c, p, v6) w' ⟨(hB.trans (hb.mono hBs)), fun h => (h3 (by simpa using h)).next hb, by simpa using h6, by simpa using O4.below hb, by simpa using e3_4⟩
    · refine .inl ⟨by rfl, ?_⟩
      go_simp
      exact hK (a, c, p, v6) wx ⟨hB, by simpa using h3, by simpa using h6, by simpa using O4, by simpa using e3_4⟩
    · refine .inl ⟨by rfl, ?_⟩
      go_simp
      refine (KT.out wx (H1.trans (hB.mono H1.size))).mono ?_
      rintro e w' ⟨a', c', rfl, q1, q2, hb⟩
      exact hK (a', c', p, v6) w' ⟨(hB.trans (hb.mono hBs)), fun _ => q1, fun h => absurd ((h6 (by simpa using h)).1) (by simp [hLi]), by simpa using O4.below hb, fun _ h q e => Nat.ne_of_gt (Nat.lt_of_lt_of_le (O4.2 (by simpa using h)).2.1 (q2 q e))⟩
    · refine .inl ⟨by rfl, ?_⟩
      go_simp
      have hbA := fun o => (Below.refl wx.heap.size wx).alloc (Nat.le_refl _) o
      have hF : L 5 = false := by
        cases h : L 5
        · rfl
        · rw [O4.1 h] at hLi; cases hLi
      exact hK (a, c, wx.heap.size, v6) _ ⟨(hB.alloc hBs _), fun h => (h3 (by simpa using h)).next (hbA _), by simpa using h6, by simpa [hF] using OwnC.make _ (hBs), fun h _ q e => Nat.ne_of_lt ((h3 (by simpa using h)).lt q e)⟩
    · have hA : L 4 = true := hdep ⟨4, .data⟩ (by simp) rfl
      have O' : OwnC w1.heap.size p true false [.int .i64 0, .int .i64 0] [.int .i64 b, .int .i64 r] wx := by have := O4; rw [hA, hLi] at this; exact this
      have z0 := ((O'.2 rfl).2.2 0 (by simp)).1
      have y0 := ((O'.2 rfl).2.2 0 (by simp)).2
      have z1 := ((O'.2 rfl).2.2 1 (by simp)).1
      have y1 := ((O'.2 rfl).2.2 1 (by simp)).2
      simp only [Bool.false_eq_true, if_false, List.getElem?_cons_zero, List.getElem?_cons_succ] at z0 z1
      refine .inl ⟨by rfl, ?_⟩
      go_simp
      have hk := setAll_but p [.int .i64 b, .int .i64 r] wx 0
      exact hK (a, c, p, v6) (setAll wx p 0 [.int .i64 b, .int .i64 r]) ⟨(hB.trans (setAll_below p _ (O'.2 rfl).1 [.int .i64 b, .int .i64 r] wx 0)), fun h => (h3 (by simpa using h)).keep hk (e3_4 (by simpa using h) hA), by simpa using h6, by simpa [hA] using O'.fill rfl, by simpa using e3_4⟩
    · have d3 := hdep ⟨3, .data⟩ (by simp) rfl
      refine .inl ⟨by rfl, ?_⟩
      go_simp
      exact hK (a, c, p, _) wx ⟨hB, by simpa using h3, fun _ => ⟨by simp [d3], rfl⟩, by simpa using O4, by simpa using e3_4⟩
  rintro ⟨a, c, p, v6⟩ w2 ⟨hb2, q3, q6, O4, e3_4⟩
  replace e3_4 := Lib.hid (e3_4 rfl rfl)
  try dsimp only at e3_4
  replace q3 := q3 rfl
  replace q6 := q6 rfl
  try dsimp only at q3 q6 O4
  simp only [putAll, Act.put, List.setIfInBounds_toArray, List.set_cons_succ, List.set_cons_zero]
  have k4_0 := O4.at0 (k := 0) rfl
  have k4_1 := O4.at0 (k := 1) rfl
  have kz4 := (O4.2 rfl).2.1
  have kf4_0 := ((O4.2 rfl).2.2 0 (by simp)).2
  have kf4_1 := ((O4.2 rfl).2.2 1 (by simp)).2
  have kb4 := (O4.2 rfl).1
  have hz2_0 := Nat.lt_of_lt_of_le hz1_0 hb2.size
  have s2_0_0 := (hb2.cell (p := ⟨w.heap.size, 0, none⟩) hz1_0).trans s1_0_0
  have s2_0_1 := (hb2.cell (p := ⟨w.heap.size, 1, none⟩) hz1_0).trans s1_0_1
  have s2_0_2 := (hb2.cell (p := ⟨w.heap.size, 2, none⟩) hz1_0).trans s1_0_2
  have s2_0_3 := (hb2.cell (p := ⟨w.heap.size, 3, none⟩) hz1_0).trans s1_0_3
  have H2 := H1.trans (hb2.mono H1.size)
  clear hz1_0 s1_0_0 s1_0_1 s1_0_2 s1_0_3 hb2 H1
  clear O4
  obtain ⟨_, rfl⟩ := q6
  have T0 := Lib.hid q3
  clear q3
  have hpb : w.heap.size ≤ p := Nat.le_trans HH.size kb4
  have HTw2 : Hid (TrA w2 a l) := Lib.hid T0.out.tr
  clear T0
  by_cases hd : D1 ≤ 1048576
  · rw [if_pos hd, if_pos hd] at K1
    have hd3 : D2 ≤ 1048576 := by omega
    rw [if_pos hd3, if_pos hd3] at K2
    obtain ⟨M, hM, M1, M2, M3⟩ : ∃ M, min (D1 + mo) 1048576 = M ∧ 1 ≤ M ∧ M ≤ 1048576 ∧ D1 ≤ M := ⟨_, rfl, by omega, by omega, by omega⟩
    have mn2 : ∀ W, (Builtin.min_ #[3, 3] 3 #[.int .i64 (D1 + mo), .int .i64 1048576]).run Try.prog W = .ok (.int .i64 M) W := fun W => by
      have := @run_min_int2 Try.prog W #[3, 3] 3 .i64 .i64 (D1 + mo) 1048576
      rw [this]; congr 2; split <;> omega
    clear hM
    have F1 := Lib.hid (KF.out D1 (by omega) hd)
    rw [decide_eq_true (Int.le_refl D1)] at F1
    have F2 := Lib.hid (KF.out M M1 M2)
    rw [decide_eq_true M3] at F2
    clear hd3
    go_wp2_with fail
    refine (K1.out a c _ HTw2).mono ?_
    rintro e w3 ⟨rfl, hb3⟩
    have HTw3 : Hid (TrA w3 a l) := Lib.hid (HTw2.out.next hb3)
    have hz3_0 := Nat.lt_of_lt_of_le hz2_0 hb3.size
    have s3_0_0 := (hb3.cell (p := ⟨w.heap.size, 0, none⟩) hz2_0).trans s2_0_0
    have s3_0_1 := (hb3.cell (p := ⟨w.heap.size, 1, none⟩) hz2_0).trans s2_0_1
    have s3_0_2 := (hb3.cell (p := ⟨w.heap.size, 2, none⟩) hz2_0).trans s2_0_2
    have s3_0_3 := (hb3.cell (p := ⟨w.heap.size, 3, none⟩) hz2_0).trans s2_0_3
    have hz3_1 := Nat.lt_of_lt_of_le kz4 hb3.size
    have s3_1_0 := (hb3.cell (p := ⟨p, 0, none⟩) kz4).trans k4_0
    have s3_1_1 := (hb3.cell (p := ⟨p, 1, none⟩) kz4).trans k4_1
    have z3_1_0 := (hb3.frozen (p := ⟨p, 0, none⟩) kz4).trans kf4_0
    have z3_1_1 := (hb3.frozen (p := ⟨p, 1, none⟩) kz4).trans kf4_1
    have H3 := H2.trans (hb3.mono H2.size)
    clear hz2_0 s2_0_0 s2_0_1 s2_0_2 s2_0_3 kz4 k4_0 k4_1 kf4_0 kf4_1 hb3 H2
    go_wp2_with fail
    refine (K2.out a c _ HTw3).mono ?_
    rintro e w4 ⟨rfl, hb4⟩
    have HTw4 : Hid (TrA w4 a l) := Lib.hid (HTw3.out.next hb4)
    have hz4_0 := Nat.lt_of_lt_of_le hz3_0 hb4.size
    have s4_0_0 := (hb4.cell (p := ⟨w.heap.size, 0, none⟩) hz3_0).trans s3_0_0
    have s4_0_1 := (hb4.cell (p := ⟨w.heap.size, 1, none⟩) hz3_0).trans s3_0_1
    have s4_0_2 := (hb4.cell (p := ⟨w.heap.size, 2, none⟩) hz3_0).trans s3_0_2
    have s4_0_3 := (hb4.cell (p := ⟨w.heap.size, 3, none⟩) hz3_0).trans s3_0_3
    have hz4_1 := Nat.lt_of_lt_of_le hz3_1 hb4.size
    have s4_1_0 := (hb4.cell (p := ⟨p, 0, none⟩) hz3_1).trans s3_1_0
    have s4_1_1 := (hb4.cell (p := ⟨p, 1, none⟩) hz3_1).trans s3_1_1
    have z4_1_0 := (hb4.frozen (p := ⟨p, 0, none⟩) hz3_1).trans z3_1_0
    have z4_1_1 := (hb4.frozen (p := ⟨p, 1, none⟩) hz3_1).trans z3_1_1
    have H4 := H3.trans (hb4.mono H3.size)
    clear hz3_0 s3_0_0 s3_0_1 s3_0_2 s3_0_3 hz3_1 s3_1_0 s3_1_1 z3_1_0 z3_1_1 hb4 H3
    go_wp2_with fail
    have hs4 : Below p w4 (w4.setCell ⟨p, 0, none⟩ (.int .i64 D1)) := (Below.refl _ _).setCell (p := ⟨p, 0, none⟩) (Nat.le_refl _) _
    have kk4 : But p w4 (w4.setCell ⟨p, 0, none⟩ (.int .i64 D1)) := setAll_but p [.int .i64 D1] w4 0
    have HS4 : Hid (TrA (w4.setCell ⟨p, 0, none⟩ (.int .i64 D1)) a l) := Lib.hid (HTw4.out.keep kk4 e3_4.out)
    refine (F1.out _ _ _ HS4).mono ?_
    rintro e w5 ⟨rfl, hb5⟩
    have HTw5 : Hid (TrA w5 a l) := Lib.hid (HS4.out.next hb5)
    have hz5_p : p < w5.heap.size := Nat.lt_of_lt_of_le (by simpa [World.setCell] using hz4_1) hb5.size
    have s5_p0 : w5.cell? ⟨p, 0, none⟩ = some (.int .i64 D1) := (hb5.cell (p := ⟨p, 0, none⟩) (by simpa [World.setCell] using hz4_1)).trans (by go_simp)
    have s5_p1 : w5.cell? ⟨p, 1, none⟩ = some (.int .i64 r) := (hb5.cell (p := ⟨p, 1, none⟩) (by simpa [World.setCell] using hz4_1)).trans (by go_simp)
    have z5_p0 : w5.frozen? ⟨p, 0, none⟩ = false := (hb5.frozen (p := ⟨p, 0, none⟩) (by simpa [World.setCell] using hz4_1)).trans (by go_simp)
    have H5 : Below w.heap.size w w5 := (H4.trans (hs4.mono hpb)).trans (hb5.mono (by have := H4.size; simpa [World.setCell] using this))
    clear hb5 s4_1_0 s4_1_1 z4_1_0 z4_1_1 hz4_1 hs4
    go_wp2_with fail
    have hs5 : Below p w5 (w5.setCell ⟨p, 0, none⟩ (.int .i64 M)) := (Below.refl _ _).setCell (p := ⟨p, 0, none⟩) (Nat.le_refl _) _
    have kk5 : But p w5 (w5.setCell ⟨p, 0, none⟩ (.int .i64 M)) := setAll_but p [.int .i64 M] w5 0
    have HS5 : Hid (TrA (w5.setCell ⟨p, 0, none⟩ (.int .i64 M)) a l) := Lib.hid (HTw5.out.keep kk5 e3_4.out)
    refine (F2.out _ _ _ HS5).mono ?_
    rintro e w6 ⟨rfl, hb6⟩
    have HTw6 : Hid (TrA w6 a l) := Lib.hid (HS5.out.next hb6)
    have hz6_p : p < w6.heap.size := Nat.lt_of_lt_of_le (by simpa [World.setCell] using hz5_p) hb6.size
    have s6_p0 : w6.cell? ⟨p, 0, none⟩ = some (.int .i64 M) := (hb6.cell (p := ⟨p, 0, none⟩) (by simpa [World.setCell] using hz5_p)).trans (by go_simp)
    have s6_p1 : w6.cell? ⟨p, 1, none⟩ = some (.int .i64 r) := (hb6.cell (p := ⟨p, 1, none⟩) (by simpa [World.setCell] using hz5_p)).trans (by go_simp)
    have z6_p0 : w6.frozen? ⟨p, 0, none⟩ = false := (hb6.frozen (p := ⟨p, 0, none⟩) (by simpa [World.setCell] using hz5_p)).trans (by go_simp)
    have H6 : Below w.heap.size w w6 := (H5.trans (hs5.mono hpb)).trans (hb6.mono (by have := H5.size; simpa [World.setCell] using this))
    clear hb6 s5_p0 s5_p1 z5_p0 hz5_p hs5
    by_cases h1 : D1 = 1
    · have h2 : (D1 == 1) = true := by simpa using h1
      clear h1
      go_wp2
      go_ret
      exact ⟨rfl, H6.setCell hpb _⟩
    · have h2 : (D1 == 1) = false := by simpa using h1
      have F3 := Lib.hid (KF.out (D1 - 1) (by omega) (by omega))
      rw [decide_eq_false (show ¬ D1 ≤ D1 - 1 by omega)] at F3
      clear h1
      go_wp2_with fail
      have hs6 : Below p w6 (w6.setCell ⟨p, 0, none⟩ (.int .i64 (D1 - 1))) := (Below.refl _ _).setCell (p := ⟨p, 0, none⟩) (Nat.le_refl _) _
      have kk6 : But p w6 (w6.setCell ⟨p, 0, none⟩ (.int .i64 (D1 - 1))) := setAll_but p [.int .i64 (D1 - 1)] w6 0
      have HS6 : Hid (TrA (w6.setCell ⟨p, 0, none⟩ (.int .i64 (D1 - 1))) a l) := Lib.hid (HTw6.out.keep kk6 e3_4.out)
      refine (F3.out _ _ _ HS6).mono ?_
      rintro e w7 ⟨rfl, hb7⟩
      have HTw7 : Hid (TrA w7 a l) := Lib.hid (HS6.out.next hb7)
      have hz7_p : p < w7.heap.size := Nat.lt_of_lt_of_le (by simpa [World.setCell] using hz6_p) hb7.size
      have s7_p0 : w7.cell? ⟨p, 0, none⟩ = some (.int .i64 (D1 - 1)) := (hb7.cell (p := ⟨p, 0, none⟩) (by simpa [World.setCell] using hz6_p)).trans (by go_simp)
      have s7_p1 : w7.cell? ⟨p, 1, none⟩ = some (.int .i64 r) := (hb7.cell (p := ⟨p, 1, none⟩) (by simpa [World.setCell] using hz6_p)).trans (by go_simp)
      have z7_p0 : w7.frozen? ⟨p, 0, none⟩ = false := (hb7.frozen (p := ⟨p, 0, none⟩) (by simpa [World.setCell] using hz6_p)).trans (by go_simp)
      have H7 : Below w.heap.size w w7 := (H6.trans (hs6.mono hpb)).trans (hb7.mono (by have := H6.size; simpa [World.setCell] using this))
      clear hb7 s6_p0 s6_p1 z6_p0 hz6_p hs6
      go_wp2
      go_ret
      exact ⟨rfl, H7⟩
  · generalize (if D2 ≤ 1048576 then D2 else 0) = u2 at K2
    generalize (if D2 ≤ 1048576 then (0 : Int) else 6) = u3 at K2
    rw [if_neg hd, if_neg hd] at K1
    have hn0 : 0 < n := by
      rcases Nat.eq_zero_or_pos n with h | h
      · have := hnil h; omega
      · exact h
    clear hnil
    go_wp2_with fail
    refine (K1.out a c _ HTw2).mono ?_
    rintro e w3 ⟨rfl, hb3⟩
    have HTw3 : Hid (TrA w3 a l) := Lib.hid (HTw2.out.next hb3)
    have hz3_0 := Nat.lt_of_lt_of_le hz2_0 hb3.size
    have s3_0_0 := (hb3.cell (p := ⟨w.heap.size, 0, none⟩) hz2_0).trans s2_0_0
    have s3_0_1 := (hb3.cell (p := ⟨w.heap.size, 1, none⟩) hz2_0).trans s2_0_1
    have s3_0_2 := (hb3.cell (p := ⟨w.heap.size, 2, none⟩) hz2_0).trans s2_0_2
    have s3_0_3 := (hb3.cell (p := ⟨w.heap.size, 3, none⟩) hz2_0).trans s2_0_3
    have hz3_1 := Nat.lt_of_lt_of_le kz4 hb3.size
    have s3_1_0 := (hb3.cell (p := ⟨p, 0, none⟩) kz4).trans k4_0
    have s3_1_1 := (hb3.cell (p := ⟨p, 1, none⟩) kz4).trans k4_1
    have z3_1_0 := (hb3.frozen (p := ⟨p, 0, none⟩) kz4).trans kf4_0
    have z3_1_1 := (hb3.frozen (p := ⟨p, 1, none⟩) kz4).trans kf4_1
    have H3 := H2.trans (hb3.mono H2.size)
    clear hz2_0 s2_0_0 s2_0_1 s2_0_2 s2_0_3 kz4 k4_0 k4_1 kf4_0 kf4_1 hb3 H2
    go_wp2_with fail
    refine (K2.out a c _ HTw3).mono ?_
    rintro e w4 ⟨rfl, hb4⟩
    have HTw4 : Hid (TrA w4 a l) := Lib.hid (HTw3.out.next hb4)
    have hz4_0 := Nat.lt_of_lt_of_le hz3_0 hb4.size
    have s4_0_0 := (hb4.cell (p := ⟨w.heap.size, 0, none⟩) hz3_0).trans s3_0_0
    have s4_0_1 := (hb4.cell (p := ⟨w.heap.size, 1, none⟩) hz3_0).trans s3_0_1
    have s4_0_2 := (hb4.cell (p := ⟨w.heap.size, 2, none⟩) hz3_0).trans s3_0_2
    have s4_0_3 := (hb4.cell (p := ⟨w.heap.size, 3, none⟩) hz3_0).trans s3_0_3
    have hz4_1 := Nat.lt_of_lt_of_le hz3_1 hb4.size
    have s4_1_0 := (hb4.cell (p := ⟨p, 0, none⟩) hz3_1).trans s3_1_0
    have s4_1_1 := (hb4.cell (p := ⟨p, 1, none⟩) hz3_1).trans s3_1_1
    have z4_1_0 := (hb4.frozen (p := ⟨p, 0, none⟩) hz3_1).trans z3_1_0
    have z4_1_1 := (hb4.frozen (p := ⟨p, 1, none⟩) hz3_1).trans z3_1_1
    have H4 := H3.trans (hb4.mono H3.size)
    clear hz3_0 s3_0_0 s3_0_1 s3_0_2 s3_0_3 hz3_1 s3_1_0 s3_1_1 z3_1_0 z3_1_1 hb4 H3
    go_wp2
    go_ret
    exact ⟨rfl, H4⟩
end Go.Proofs.Ytfbfnoiapeajeaa
