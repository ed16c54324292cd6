/- BucketConforms: the walk of the law. -/
import Derived.Test.YtfbfnoiapeajeaaBk21
namespace Go.Proofs.Ytfbfnoiapeajeaa
open Go.RowKit

set_option maxRecDepth 100000 in
set_option maxHeartbeats 2000000 in
theorem blaw4_walk (b0 r0 : Int) (ao : Option Addr) (len cap : Nat) (l0 : Tr) (x y : Int) (ga sa : Option Addr) (gn gc sn sc : Nat) (gaps sizes : List Int) (xa xs p0 : Int) (w : World) (hl : l0.length = len) (hcap : len ≤ cap) (_ : ao = none → cap = 0) (_ : ∀ q, ao = some q → q.spot = none) (hT : Hid (TrA w ao l0)) (hD : Hid (DraftIn w x y ga sa gn sn gaps sizes)) (hp : 0 ≤ p0 ∧ p0 ≤ 255) :
    Calls Try.prog 4 #[.agg #[.int .i64 b0, .int .i64 r0], .slice ao len cap, .agg #[.int .u32 x, .int .u32 y, .slice ga gn gc, .slice sa sn sc], .agg #[.int .i64 xa, .int .i64 xs], .int .u8 p0] w fun e w' => e = .returned (.bool true) ∧ Below w.heap.size w w' := by
  obtain ⟨ht, hl30⟩ := traceV_ok hD.out.hG.small hD.out.hS.small
  have hbr := dBR_ok x y
  have hcl := (conformV_ok (dB x) (dR y) ht).2.1
  have KB := Lib.hid fun w' => hD.out.bucket (gc := gc) (sc := sc) w'
  obtain ⟨n, hn⟩ : ∃ n, (traceV gaps sizes).length = n := ⟨_, rfl⟩
  have HN := Lib.hid hn
  have KT := Lib.hid fun w' hb => retTr (hD.out.trace (gc := gc) (sc := sc) w' hb) HN
  obtain ⟨nf, hnf⟩ : ∃ n, (conformV (dB x) (dR y) (traceV gaps sizes)).length = n := ⟨_, rfl⟩
  have HNF := Lib.hid hnf
  have KC := Lib.hid fun w' hb => retTr (hD.out.conf (gc := gc) (sc := sc) w' hb) HNF
  generalize conformV (dB x) (dR y) (traceV gaps sizes) = lf at *
  generalize traceV gaps sizes = l at *
  generalize dB x = b at *
  generalize dR y = r at *
  obtain ⟨⟨b1, b2⟩, r1, r2⟩ := okB_iff.1 hbr
  have hn30 : n ≤ 30 := by omega
  have hnf30 : nf ≤ 30 := by omega
  obtain ⟨m, hm, hm1, hm2⟩ : ∃ m : Nat, (m : Int) = min (len : Int) 40 ∧ m ≤ cap ∧ m ≤ 40 := ⟨min len 40, by omega, by omega, by omega⟩
  have mx : ∀ W, (Builtin.min_ #[3, 3] 3 #[.int .i64 len, .int .i64 40]).run Try.prog W = .ok (.int .i64 m) W := fun W => by
    have := @run_min_int2 Try.prog W #[3, 3] 3 .i64 .i64 len 40
    rw [this]; congr 2; split <;> omega
  have HML : Hid ((l0.take m).length = m) := Lib.hid (by rw [List.length_take]; omega)
  have hTm : Hid (TrA w ao (l0.take m)) := Lib.hid (hT.out.take m)
  generalize l0.take m = lm at *
  have KBe := Lib.hid fun a c w (h1 : TrS w a c l) => bent_any a n c l xa xs p0 w hn (by omega) h1.nil h1.spot (Lib.hid h1.tr) hp.1 hp.2
  have HBL : Hid ((bentV l (xa, xs) p0).length = n) := Lib.hid (by rw [bentV_length]; exact hn)
  generalize bentV l (xa, xs) p0 = lb at *
  have hsl := fun a => slice_to a len cap m hm1
  have hsl2 := sliced_to ao m cap 2
  have hcp : (m : Int) ≤ cap := by omega
  obtain ⟨tb, htb⟩ : ∃ tb, max 1 (b - p0) = tb := ⟨_, rfl⟩
  have mx2 : ∀ W, (Builtin.max_ #[3, 3] 3 #[.int .i64 1, .int .i64 (b - p0)]).run Try.prog W = .ok (.int .i64 tb) W := fun W => max_two htb
  have EK : ∀ k : Nat, k < 4 → ∃ kb kr : Int, ∀ W, (Instr.index 48 (.agg #[.int .i64 b0, .int .i64 r0, .int .i64 b, .int .i64 r, .int .i64 tb, .int .i64 r, .int .i64 b, .int .i64 r0]) (.int .i64 k)).run Try.prog W = .ok (.agg #[.int .i64 kb, .int .i64 kr]) W := fun k hk => by
    match k, hk with
    | 0, _ => exact ⟨b0, r0, fun _ => (by kernel_rfl)⟩
    | 1, _ => exact ⟨b, r, fun _ => (by kernel_rfl)⟩
    | 2, _ => exact ⟨tb, r, fun _ => (by kernel_rfl)⟩
    | 3, _ => exact ⟨b, r0, fun _ => (by kernel_rfl)⟩
  have EK := Lib.hid EK
  obtain ⟨p1, p2⟩ := hp
  clear ht hl30 hn hnf hm hT hD hl hbr hcl htb
  go_enter Try.func4, Try.ntmps4
  go_wp2_with fail
  refine wp_gen ?_
  rintro w1 hg1
  have hz1_0 : w.heap.size < w1.heap.size := by rw [hg1]; simp <;> omega
  have s1_0_0 : w1.cell? ⟨w.heap.size, 0, none⟩ = some (.int .i64 b0) := by rw [hg1]; go_simp
  have s1_0_1 : w1.cell? ⟨w.heap.size, 1, none⟩ = some (.int .i64 r0) := by rw [hg1]; go_simp
  have hz1_1 : w.heap.size + 1 < w1.heap.size := by rw [hg1]; simp <;> omega
  have s1_1_0 : w1.cell? ⟨w.heap.size + 1, 0, none⟩ = some (.int .u32 x) := by rw [hg1]; go_simp
  have s1_1_1 : w1.cell? ⟨w.heap.size + 1, 1, none⟩ = some (.int .u32 y) := by rw [hg1]; go_simp
  have s1_1_2 : w1.cell? ⟨w.heap.size + 1, 2, none⟩ = some (.slice ga gn gc) := by rw [hg1]; go_simp
  have s1_1_3 : w1.cell? ⟨w.heap.size + 1, 3, none⟩ = some (.slice sa sn sc) := by rw [hg1]; go_simp
  have hz1_2 : w.heap.size + 2 < w1.heap.size := by rw [hg1]; simp <;> omega
  have s1_2_0 : w1.cell? ⟨w.heap.size + 2, 0, none⟩ = some (.int .i64 xa) := by rw [hg1]; go_simp
  have s1_2_1 : w1.cell? ⟨w.heap.size + 2, 1, none⟩ = some (.int .i64 xs) := by rw [hg1]; go_simp
  have H1 : Below w.heap.size w w1 := by rw [hg1]; exact ((((Below.refl _ _).alloc (Nat.le_refl _) _).alloc (by simp <;> omega) _).alloc (by simp <;> omega) _)
  clear hg1
  clear mx hsl hsl2
  refine wp_region_gput (R := (Option Addr) × Nat × (Option Addr) × Nat × Nat × Value × Value) [32, 33, 34, 35, 36, 37, 11, 12, 13]
    (fun rr => [.agg #[.int .u32 x, .int .u32 y, .slice ga gn gc, .slice sa sn sc], .agg #[.int .i64 b, .int .i64 r], .agg #[.int .u32 x, .int .u32 y, .slice ga gn gc, .slice sa sn sc], .slice rr.1 n rr.2.1, .agg #[.int .u32 x, .int .u32 y, .slice ga gn gc, .slice sa sn sc], .slice rr.2.2.1 nf rr.2.2.2.1, .pointer (some ⟨rr.2.2.2.2.1, 0, none⟩), rr.2.2.2.2.2.1, rr.2.2.2.2.2.2])
    (fun L rr wx => Below w1.heap.size w1 wx ∧ (L 3 = true → TrS wx rr.1 rr.2.1 l) ∧ (L 5 = true → TrS wx rr.2.2.1 rr.2.2.2.1 lf) ∧ (L 8 = true → L 3 = true ∧ rr.2.2.2.2.2.1 = .slice rr.1 n rr.2.1) ∧ (L 9 = true → L 5 = true ∧ rr.2.2.2.2.2.2 = .slice rr.2.2.1 nf rr.2.2.2.1) ∧ OwnC w1.heap.size rr.2.2.2.2.1 (L 6) (L 7) [.int .i64 0, .int .i64 0] [.int .i64 b, .int .i64 r] wx ∧ (L 3 = true → L 6 = true → ∀ q : Addr, rr.1 = some q → q.block ≠ rr.2.2.2.2.1) ∧ (L 5 = true → L 6 = true → ∀ q : Addr, rr.2.2.1 = some q → q.block ≠ rr.2.2.2.2.1))
    (by kernel_rfl) (by kernel_rfl) (by kernel_rfl) (none, 0, none, 0, 0, undef, undef) ?_ ?_ ?_
  · exact ⟨(Below.refl _ _).drew, fun h => absurd h (by decide), fun h => absurd h (by decide), fun h => absurd h (by decide), fun h => absurd h (by decide), OwnC.start _ _ _ _ _, fun h => absurd h (by decide), fun h => absurd h (by decide)⟩
  · refine ⟨?_, ?_, ?_, ?_, ?_, ?_, ?_, ?_, ?_, ?_, trivial⟩
    all_goals
      rintro L ⟨a1, c1, a2, c2, p, v12, v13⟩ wx K hLi hdep ⟨hB, h3, h5, h8, h9, O6, e3_6, e5_6⟩ hK
      try dsimp only at h3 h5 h8 h9 O6 e3_6 e5_6
      have hBs := hB.size
      have f0 := (hB.cell (p := ⟨w.heap.size, 0, none⟩) hz1_0).trans s1_0_0
      have f1 := (hB.cell (p := ⟨w.heap.size, 1, none⟩) hz1_0).trans s1_0_1
      have f2 := (hB.cell (p := ⟨w.heap.size + 1, 0, none⟩) hz1_1).trans s1_1_0
      have f3 := (hB.cell (p := ⟨w.heap.size + 1, 1, none⟩) hz1_1).trans s1_1_1
      have f4 := (hB.cell (p := ⟨w.heap.size + 1, 2, none⟩) hz1_1).trans s1_1_2
      have f5 := (hB.cell (p := ⟨w.heap.size + 1, 3, none⟩) hz1_1).trans s1_1_3
      have f6 := (hB.cell (p := ⟨w.heap.size + 2, 0, none⟩) hz1_2).trans s1_2_0
      have f7 := (hB.cell (p := ⟨w.heap.size + 2, 1, none⟩) hz1_2).trans s1_2_1
      simp only [putAll, Act.put, List.setIfInBounds_toArray, List.set_cons_succ, List.set_cons_zero] at hK ⊢
    · refine .inl ⟨by rfl, ?_⟩
      go_simp
      exact hK (a1, c1, a2, c2, p, v12, v13) wx ⟨hB, by simpa using h3, by simpa using h5, by simpa using h8, by simpa using h9, by simpa using O6, by simpa using e3_6, by simpa using e5_6⟩
    · refine .inl ⟨by rfl, ?_⟩
      go_simp
      refine (KB.out wx).mono ?_
      rintro e w' ⟨rfl, hb⟩
      exact hK (a1, c1, a2, c2, p, v12, v13) w' ⟨(hB.trans (hb.mono hBs)), fun h => (h3 (by simpa using h)).next hb, fun h => (h5 (by simpa using h)).next hb, by simpa using h8, by simpa using h9, by simpa using O6.below hb, by simpa using e3_6, by simpa using e5_6⟩
    · refine .inl ⟨by rfl, ?_⟩
      go_simp
      exact hK (a1, c1, a2, c2, p, v12, v13) wx ⟨hB, by simpa using h3, by simpa using h5, by simpa using h8, by simpa using h9, by simpa using O6, by simpa using e3_6, by simpa using e5_6⟩
    · refine .inl ⟨by rfl, ?_⟩
      go_simp
      refine (KT.out wx (H1.trans (hB.mono H1.size))).mono ?_
      rintro e w' ⟨a1', c1', rfl, g1, g2, hb⟩
      exact hK (a1', c1', a2, c2, p, v12, v13) w' ⟨(hB.trans (hb.mono hBs)), fun _ => g1, fun h => (h5 (by simpa using h)).next hb, fun h => absurd ((h8 (by simpa using h)).1) (by simp [hLi]), by simpa using h9, by simpa using O6.below hb, fun _ h q e => Nat.ne_of_gt (Nat.lt_of_lt_of_le (O6.2 (by simpa using h)).2.1 (g2 q e)), by simpa using e5_6⟩
    · refine .inl ⟨by rfl, ?_⟩
      go_simp
      exact hK (a1, c1, a2, c2, p, v12, v13) wx ⟨hB, by simpa using h3, by simpa using h5, by simpa using h8, by simpa using h9, by simpa using O6, by simpa using e3_6, by simpa using e5_6⟩
    · refine .inl ⟨by rfl, ?_⟩
      go_simp
      refine (KC.out wx (H1.trans (hB.mono H1.size))).mono ?_
      rintro e w' ⟨a2', c2', rfl, g1, g2, hb⟩
      exact hK (a1, c1, a2', c2', p, v12, v13) w' ⟨(hB.trans (hb.mono hBs)), fun h => (h3 (by simpa using h)).next hb, fun _ => g1, by simpa using h8, fun h => absurd ((h9 (by simpa using h)).1) (by simp [hLi]), by simpa using O6.below hb, by simpa using e3_6, fun _ h q e => Nat.ne_of_gt (Nat.lt_of_lt_of_le (O6.2 (by simpa using h)).2.1 (g2 q e))⟩
    · refine .inl ⟨by rfl, ?_⟩
      go_simp
      have hbA := fun o => (Below.refl wx.heap.size wx).alloc (Nat.le_refl _) o
      have hF : L 7 = false := by
        cases h : L 7
        · rfl
        · rw [O6.1 h] at hLi; cases hLi
      exact hK (a1, c1, a2, c2, wx.heap.size, v12, v13) _ ⟨(hB.alloc hBs _), fun h => (h3 (by simpa using h)).next (hbA _), fun h => (h5 (by simpa using h)).next (hbA _), by simpa using h8, by simpa using h9, by simpa [hF] using OwnC.make _ (hBs), fun h _ q e => Nat.ne_of_lt ((h3 (by simpa using h)).lt q e), fun h _ q e => Nat.ne_of_lt ((h5 (by simpa using h)).lt q e)⟩
    · have hA : L 6 = true := hdep ⟨6, .data⟩ (by simp) rfl
      have O' : OwnC w1.heap.size p true false [.int .i64 0, .int .i64 0] [.int .i64 b, .int .i64 r] wx := by have := O6; rw [hA, hLi] at this; exact this
      have z0 := ((O'.2 rfl).2.2 0 (by simp)).1
      have y0 := ((O'.2 rfl).2.2 0 (by simp)).2
      have z1 := ((O'.2 rfl).2.2 1 (by simp)).1
      have y1 := ((O'.2 rfl).2.2 1 (by simp)).2
      simp only [Bool.false_eq_true, if_false, List.getElem?_cons_zero, List.getElem?_cons_succ] at z0 z1
      refine .inl ⟨by rfl, ?_⟩
      go_simp
      have hk := setAll_but p [.int .i64 b, .int .i64 r] wx 0
      exact hK (a1, c1, a2, c2, p, v12, v13) (setAll wx p 0 [.int .i64 b, .int .i64 r]) ⟨(hB.trans (setAll_below p _ (O'.2 rfl).1 [.int .i64 b, .int .i64 r] wx 0)), fun h => (h3 (by simpa using h)).keep hk (e3_6 (by simpa using h) hA), fun h => (h5 (by simpa using h)).keep hk (e5_6 (by simpa using h) hA), by simpa using h8, by simpa using h9, by simpa [hA] using O'.fill rfl, by simpa using e3_6, by simpa using e5_6⟩
    · have d3 := hdep ⟨3, .data⟩ (by simp) rfl
      refine .inl ⟨by rfl, ?_⟩
      go_simp
      exact hK (a1, c1, a2, c2, p, _, v13) wx ⟨hB, by simpa using h3, by simpa using h5, fun _ => ⟨by simp [d3], rfl⟩, by simpa using h9, by simpa using O6, by simpa using e3_6, by simpa using e5_6⟩
    · have d5 := hdep ⟨5, .data⟩ (by simp) rfl
      refine .inl ⟨by rfl, ?_⟩
      go_simp
      exact hK (a1, c1, a2, c2, p, v12, _) wx ⟨hB, by simpa using h3, by simpa using h5, by simpa using h8, fun _ => ⟨by simp [d5], rfl⟩, by simpa using O6, by simpa using e3_6, by simpa using e5_6⟩
  rintro ⟨a1, c1, a2, c2, p, v12, v13⟩ w2 ⟨hb2, q3, q5, q8, q9, O6, e3_6, e5_6⟩
  replace e3_6 := Lib.hid (e3_6 rfl rfl)
  replace e5_6 := Lib.hid (e5_6 rfl rfl)
  try dsimp only at e3_6 e5_6
  replace q3 := q3 rfl
  replace q5 := q5 rfl
  replace q8 := q8 rfl
  replace q9 := q9 rfl
  try dsimp only at q3 q5 q8 q9 O6
  simp only [putAll, Act.put, List.setIfInBounds_toArray, List.set_cons_succ, List.set_cons_zero]
  have k6_0 := O6.at0 (k := 0) rfl
  have k6_1 := O6.at0 (k := 1) rfl
  have kz6 := (O6.2 rfl).2.1
  have kf6_0 := ((O6.2 rfl).2.2 0 (by simp)).2
  have kf6_1 := ((O6.2 rfl).2.2 1 (by simp)).2
  have kb6 := (O6.2 rfl).1
  have hz2_0 := Nat.lt_of_lt_of_le hz1_0 hb2.size
  have s2_0_0 := (hb2.cell (p := ⟨w.heap.size, 0, none⟩) hz1_0).trans s1_0_0
  have s2_0_1 := (hb2.cell (p := ⟨w.heap.size, 1, none⟩) hz1_0).trans s1_0_1
  have hz2_1 := Nat.lt_of_lt_of_le hz1_1 hb2.size
  have s2_1_0 := (hb2.cell (p := ⟨w.heap.size + 1, 0, none⟩) hz1_1).trans s1_1_0
  have s2_1_1 := (hb2.cell (p := ⟨w.heap.size + 1, 1, none⟩) hz1_1).trans s1_1_1
  have s2_1_2 := (hb2.cell (p := ⟨w.heap.size + 1, 2, none⟩) hz1_1).trans s1_1_2
  have s2_1_3 := (hb2.cell (p := ⟨w.heap.size + 1, 3, none⟩) hz1_1).trans s1_1_3
  have hz2_2 := Nat.lt_of_lt_of_le hz1_2 hb2.size
  have s2_2_0 := (hb2.cell (p := ⟨w.heap.size + 2, 0, none⟩) hz1_2).trans s1_2_0
  have s2_2_1 := (hb2.cell (p := ⟨w.heap.size + 2, 1, none⟩) hz1_2).trans s1_2_1
  have H2 := H1.trans (hb2.mono H1.size)
  clear hz1_0 s1_0_0 s1_0_1 hz1_1 s1_1_0 s1_1_1 s1_1_2 s1_1_3 hz1_2 s1_2_0 s1_2_1 hb2 H1
  clear O6
  obtain ⟨_, rfl⟩ := q8
  obtain ⟨_, rfl⟩ := q9
  clear e3_6 e5_6
  have T1 := Lib.hid q3
  have T2 := Lib.hid q5
  clear q3 q5
  go_wp2_with fail
  go_loopw [55] (fun i wr => ∃ k : Nat, k ≤ 4 ∧ i = .int .i64 k ∧ Below w2.heap.size w2 wr) (fun i _ => 4 - (intOf i).toNat)
  case atStart => exact ⟨0, Nat.zero_le _, rfl, (Below.refl _ _).alloc (Nat.le_refl _) _⟩
  case round =>
    obtain ⟨k, hk, rfl, hB⟩ := hrel
    have Hr := H2.trans (hB.mono H2.size)
    by_cases hlt : k < 4
    · obtain ⟨kb, kr, hix⟩ := EK.out k hlt
      have hlt' : (k : Int) < 4 := by omega
      have r_s2_0_0 := (hB.cell (p := ⟨w.heap.size, 0, none⟩) hz2_0).trans s2_0_0
      have r_s2_0_1 := (hB.cell (p := ⟨w.heap.size, 1, none⟩) hz2_0).trans s2_0_1
      have r_hz2_0 := Nat.lt_of_lt_of_le hz2_0 hB.size
      have r_s2_1_0 := (hB.cell (p := ⟨w.heap.size + 1, 0, none⟩) hz2_1).trans s2_1_0
      have r_s2_1_1 := (hB.cell (p := ⟨w.heap.size + 1, 1, none⟩) hz2_1).trans s2_1_1
      have r_s2_1_2 := (hB.cell (p := ⟨w.heap.size + 1, 2, none⟩) hz2_1).trans s2_1_2
      have r_s2_1_3 := (hB.cell (p := ⟨w.heap.size + 1, 3, none⟩) hz2_1).trans s2_1_3
      have r_hz2_1 := Nat.lt_of_lt_of_le hz2_1 hB.size
      have r_s2_2_0 := (hB.cell (p := ⟨w.heap.size + 2, 0, none⟩) hz2_2).trans s2_2_0
      have r_s2_2_1 := (hB.cell (p := ⟨w.heap.size + 2, 1, none⟩) hz2_2).trans s2_2_1
      have r_hz2_2 := Nat.lt_of_lt_of_le hz2_2 hB.size
      have r_k6_0 := (hB.cell (p := ⟨p, 0, none⟩) kz6).trans k6_0
      have r_k6_1 := (hB.cell (p := ⟨p, 1, none⟩) kz6).trans k6_1
      have r_kz6 := Nat.lt_of_lt_of_le kz6 hB.size
      have T1r := T1.out.next hB
      go_wp2_with fail
      refine (retTr (KBe.out a1 c1 _ (T1r.next ((Below.refl _ _).alloc (Nat.le_refl _) _))) HBL).mono ?_
      rintro e w20 ⟨a3, c3, rfl, g1, _, hb20⟩
      have hkz : wr.heap.size < w20.heap.size := by have := hb20.size; simp at this; omega
      have k0 : w20.cell? ⟨wr.heap.size, 0, none⟩ = some (.int .i64 kb) := (hb20.cell (p := ⟨wr.heap.size, 0, none⟩) (by simp)).trans (by go_simp)
      have k1 : w20.cell? ⟨wr.heap.size, 1, none⟩ = some (.int .i64 kr) := (hb20.cell (p := ⟨wr.heap.size, 1, none⟩) (by simp)).trans (by go_simp)
      have hBo : Below w2.heap.size w2 w20 := (hB.alloc hB.size _).trans (hb20.mono (by have := hB.size; simp; omega))
      have H20 := H2.trans (hBo.mono H2.size)
      have EL : ∀ k : Nat, k < 4 → ∃ a nn c t, (∀ W, (Instr.index 49 (.agg #[.slice ao m cap, .slice a1 n c1, .slice a2 nf c2, .slice a3 n c3]) (.int .i64 k)).run Try.prog W = .ok (.slice a nn c) W) ∧ nn ≤ 40 ∧ nn ≤ c ∧ Hid (t.length = nn) ∧ Hid (TrA w20 a t) := fun k hk => by
        match k, hk with
        | 0, _ => exact ⟨ao, m, cap, lm, fun _ => (by kernel_rfl), hm2, hm1, HML, Lib.hid (hTm.out.below H20 (Nat.le_refl _))⟩
        | 1, _ => exact ⟨a1, n, c1, l, fun _ => (by kernel_rfl), by omega, by have := T1.out.le; rw [HN.out] at this; exact this, HN, Lib.hid (T1.out.next hBo).tr⟩
        | 2, _ => exact ⟨a2, nf, c2, lf, fun _ => (by kernel_rfl), by omega, by have := T2.out.le; rw [HNF.out] at this; exact this, HNF, Lib.hid (T2.out.next hBo).tr⟩
        | 3, _ => exact ⟨a3, n, c3, lb, fun _ => (by kernel_rfl), by omega, by have := g1.le; rw [HBL.out] at this; exact this, HBL, Lib.hid g1.tr⟩
      have EL := Lib.hid EL
      clear g1 hb20 T1r
      go_wp2_with fail
      obtain ⟨wo, rfl⟩ : ∃ wo : World, wo = wr := ⟨_, rfl⟩
      go_loopw [66] (fun i wi => ∃ j : Nat, j ≤ 4 ∧ i = .int .i64 j ∧ Below w20.heap.size w20 wi) (fun i _ => 4 - (intOf i).toNat)
      case atStart => exact ⟨0, Nat.zero_le _, rfl, Below.refl _ _⟩
      case round =>
        obtain ⟨j, hj, rfl, hBi⟩ := hrel
        by_cases hjt : j < 4
        · obtain ⟨a, nn, c, t, hjx, hn40, hnc, HNt, HA⟩ := EL.out j hjt
          have hjt' : (j : Int) < 4 := by omega
          have HAi : Hid (TrA wr a t) := Lib.hid (HA.out.below hBi (Nat.le_refl _))
          have KL1 := Lib.hid fun w h => bconforms_any kb kr a nn c t w HNt.out (by omega) h
          have KL2 := Lib.hid fun w h => rconforms_any kb kr a nn c t w HNt.out (by omega) h
          have KL3 := Lib.hid fun w h => bfirst_any kb kr a nn c t w HNt.out (by omega) h
          have KL4 := Lib.hid fun w h => rfirst_any kb kr a nn c t w HNt.out (by omega) hnc h
          generalize confV kb kr t = v1 at *
          generalize eBT kb kr t = v2 at *
          generalize fstV kb kr t = v3 at *
          have ne1 : (v1 != v1) = false := by simp
          have ne2 : (v2 != v2) = false := by simp
          have ne3 : (v3 != v3) = false := by simp
          have j0 := (hBi.cell (p := ⟨wo.heap.size, 0, none⟩) hkz).trans k0
          have j1 := (hBi.cell (p := ⟨wo.heap.size, 1, none⟩) hkz).trans k1
          have jz := cell_lt j0
          have HI := hBi
          go_wp2_with fail
          refine (KL1.out _ HAi).mono ?_
          rintro e w31 ⟨rfl, hb31⟩
          have HA1 : Hid (TrA w31 a t) := Lib.hid (HAi.out.next hb31)
          have hz31_0 := Nat.lt_of_lt_of_le jz hb31.size
          have s31_0_0 := (hb31.cell (p := ⟨wo.heap.size, 0, none⟩) jz).trans j0
          have s31_0_1 := (hb31.cell (p := ⟨wo.heap.size, 1, none⟩) jz).trans j1
          have H31 := HI.trans (hb31.mono HI.size)
          clear jz j0 j1 hb31
          go_wp2_with fail
          refine (KL2.out _ HA1).mono ?_
          rintro e w32 ⟨rfl, hb32⟩
          have HA2 : Hid (TrA w32 a t) := Lib.hid (HA1.out.next hb32)
          have hz32_0 := Nat.lt_of_lt_of_le hz31_0 hb32.size
          have s32_0_0 := (hb32.cell (p := ⟨wo.heap.size, 0, none⟩) hz31_0).trans s31_0_0
          have s32_0_1 := (hb32.cell (p := ⟨wo.heap.size, 1, none⟩) hz31_0).trans s31_0_1
          have H32 := H31.trans (hb32.mono H31.size)
          clear hz31_0 s31_0_0 s31_0_1 hb32 H31
          go_wp2_with fail
          refine (KL3.out _ HA2).mono ?_
          rintro e w33 ⟨rfl, hb33⟩
          have HA3 : Hid (TrA w33 a t) := Lib.hid (HA2.out.next hb33)
          have hz33_0 := Nat.lt_of_lt_of_le hz32_0 hb33.size
          have s33_0_0 := (hb33.cell (p := ⟨wo.heap.size, 0, none⟩) hz32_0).trans s32_0_0
          have s33_0_1 := (hb33.cell (p := ⟨wo.heap.size, 1, none⟩) hz32_0).trans s32_0_1
          have H33 := H32.trans (hb33.mono H32.size)
          clear hz32_0 s32_0_0 s32_0_1 hb33 H32
          go_wp2_with fail
          refine (KL4.out _ HA3).mono ?_
          rintro e w34 ⟨rfl, hb34⟩
          have HA4 : Hid (TrA w34 a t) := Lib.hid (HA3.out.next hb34)
          have hz34_0 := Nat.lt_of_lt_of_le hz33_0 hb34.size
          have s34_0_0 := (hb34.cell (p := ⟨wo.heap.size, 0, none⟩) hz33_0).trans s33_0_0
          have s34_0_1 := (hb34.cell (p := ⟨wo.heap.size, 1, none⟩) hz33_0).trans s33_0_1
          have H34 := H33.trans (hb34.mono H33.size)
          clear hz33_0 s33_0_0 s33_0_1 hb34 H33
          go_wp2
          go_roundw
          case rel => exact ⟨j + 1, by omega, by go_num, H34⟩
          case measure => (simp [intOf] <;> omega)
        · have hjt' : ¬ (j : Int) < 4 := by omega
          go_wp2
          go_roundw
          case rel => exact ⟨k + 1, by omega, by go_num, hBo.trans (hBi.mono hBo.size)⟩
          case measure => (simp [intOf] <;> omega)
    · have hlt' : ¬ (k : Int) < 4 := by omega
      go_wp2_with fail
      refine (works03 _).mono ?_
      rintro e w7 ⟨rfl, hb7⟩
      go_wp2
      go_ret
      exact ⟨rfl, Hr.trans (hb7.mono Hr.size)⟩
end Go.Proofs.Ytfbfnoiapeajeaa
