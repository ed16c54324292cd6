/- BucketLevels: the walk of the law. -/
import Derived.Test.YtfbfnoiapeajeaaBk18
namespace Go.Proofs.Ytfbfnoiapeajeaa
open Go.RowKit

/-- A draft's arguments. -/
structure DraftIn (w : World) (x y : Int) (ga sa : Option Addr) (gn sn : Nat) (gaps sizes : List Int) : Prop where
  x1 : 0 ≤ x
  x2 : x ≤ 4294967295
  y1 : 0 ≤ y
  y2 : y ≤ 4294967295
  hg : gaps.length = gn
  hs : sizes.length = sn
  hgm : gn ≤ maxLen
  hsm : sn ≤ maxLen
  hG : U16A w ga gaps
  hS : U16A w sa sizes
theorem DraftIn.below {w w' : World} {x y : Int} {ga sa : Option Addr} {gn sn : Nat} {gaps sizes : List Int} (h : DraftIn w x y ga sa gn sn gaps sizes) (hb : Below w.heap.size w w') : DraftIn w' x y ga sa gn sn gaps sizes :=
  ⟨h.x1, h.x2, h.y1, h.y2, h.hg, h.hs, h.hgm, h.hsm, h.hG.below hb, h.hS.below hb⟩
theorem DraftIn.bucket {w : World} {x y : Int} {ga sa : Option Addr} {gn sn gc sc : Nat} {gaps sizes : List Int} (h : DraftIn w x y ga sa gn sn gaps sizes) (w' : World) :
    Calls Try.prog 10 #[.agg #[.int .u32 x, .int .u32 y, .slice ga gn gc, .slice sa sn sc]] w' fun e w'' => e = .returned (.agg #[.int .i64 (dB x), .int .i64 (dR y)]) ∧ Below w'.heap.size w' w'' :=
  dbucket_any x y _ _ ga sa gn gc sn sc rfl rfl w' h.x1 h.x2 h.y1 h.y2
theorem DraftIn.trace {w : World} {x y : Int} {ga sa : Option Addr} {gn sn gc sc : Nat} {gaps sizes : List Int} (h : DraftIn w x y ga sa gn sn gaps sizes) (w' : World) (hb : Below w.heap.size w w') :
    Calls Try.prog 17 #[.agg #[.int .u32 x, .int .u32 y, .slice ga gn gc, .slice sa sn sc]] w' (RetTr w' (traceV gaps sizes)) :=
  dtrace_any x y ga sa gn gc sn sc gaps sizes w' h.hg h.hs h.hgm h.hsm (Lib.hid (h.hG.below hb)) (Lib.hid (h.hS.below hb))
theorem DraftIn.conf {w : World} {x y : Int} {ga sa : Option Addr} {gn sn gc sc : Nat} {gaps sizes : List Int} (h : DraftIn w x y ga sa gn sn gaps sizes) (w' : World) (hb : Below w.heap.size w w') :
    Calls Try.prog 22 #[.agg #[.int .u32 x, .int .u32 y, .slice ga gn gc, .slice sa sn sc]] w' (RetTr w' (conformV (dB x) (dR y) (traceV gaps sizes))) :=
  dconf_any x y ga sa gn gc sn sc gaps sizes w' h.x1 h.x2 h.y1 h.y2 h.hg h.hs h.hgm h.hsm (Lib.hid (h.hG.below hb)) (Lib.hid (h.hS.below hb))
set_option maxRecDepth 100000 in
set_option maxHeartbeats 4000000 in
theorem blaw6_walk (x y : Int) (ga sa : Option Addr) (gn gc sn sc : Nat) (gaps sizes : List Int) (w : World) (hD : Hid (DraftIn w x y ga sa gn sn gaps sizes)) :
    Calls Try.prog 6 #[.agg #[.int .u32 x, .int .u32 y, .slice ga gn gc, .slice sa sn sc]] w fun e w' => e = .returned (.bool true) ∧ Below w.heap.size w w' := by
  obtain ⟨ht, hl30⟩ := traceV_ok hD.out.hG.small hD.out.hS.small
  have hb := dBR_ok x y
  obtain ⟨hm1, hm2, _⟩ := conformV_ok (dB x) (dR y) ht
  have KB := Lib.hid fun w' => hD.out.bucket (gc := gc) (sc := sc) w'
  have KT := Lib.hid fun w' hb => hD.out.trace (gc := gc) (sc := sc) w' hb
  have KC := Lib.hid fun w' hb => hD.out.conf (gc := gc) (sc := sc) w' hb
  generalize hCe : conformV (dB x) (dR y) (traceV gaps sizes) = m at *
  clear hCe
  generalize traceV gaps sizes = l at *
  generalize dB x = b at *
  generalize dR y = r at *
  have HB := Lib.hid hb
  have HT := Lib.hid ht
  have HM := Lib.hid hm1
  obtain ⟨nl, hnl⟩ : ∃ n, l.length = n := ⟨_, rfl⟩
  obtain ⟨nm, hnm⟩ : ∃ n, m.length = n := ⟨_, rfl⟩
  have hnl30 : nl ≤ 30 := by omega
  have hnm30 : nm ≤ 30 := by omega
  have HNL := Lib.hid hnl
  have HNM := Lib.hid hnm
  obtain ⟨⟨b1, b2⟩, r1, r2⟩ := okB_iff.1 hb
  clear ht hl30 hb hm1 hm2 hnl hnm hD
  go_enter Try.func6, Try.ntmps6
  go_wp2_with fail
  refine (works03 _).mono ?_
  rintro e w1 ⟨rfl, hb1⟩
  have hz1_0 : w.heap.size < w1.heap.size := by have := hb1.size; simp at this; omega
  have s1_0_0 : w1.cell? ⟨w.heap.size, 0, none⟩ = some (.int .u32 x) := (hb1.cell (p := ⟨w.heap.size, 0, none⟩) (by simp <;> omega)).trans (by go_simp)
  have s1_0_1 : w1.cell? ⟨w.heap.size, 1, none⟩ = some (.int .u32 y) := (hb1.cell (p := ⟨w.heap.size, 1, none⟩) (by simp <;> omega)).trans (by go_simp)
  have s1_0_2 : w1.cell? ⟨w.heap.size, 2, none⟩ = some (.slice ga gn gc) := (hb1.cell (p := ⟨w.heap.size, 2, none⟩) (by simp <;> omega)).trans (by go_simp)
  have s1_0_3 : w1.cell? ⟨w.heap.size, 3, none⟩ = some (.slice sa sn sc) := (hb1.cell (p := ⟨w.heap.size, 3, none⟩) (by simp <;> omega)).trans (by go_simp)
  have H1 : Below w.heap.size w w1 := ((Below.refl _ _).alloc (Nat.le_refl _) _).trans (hb1.mono (by simp <;> omega))
  clear hb1
  go_wp2_with fail
  refine (KB.out _).mono ?_
  rintro e w2 ⟨rfl, hb2⟩
  have hz2_0 := Nat.lt_of_lt_of_le hz1_0 hb2.size
  have s2_0_0 := (hb2.cell (p := ⟨w.heap.size, 0, none⟩) hz1_0).trans s1_0_0
  have s2_0_1 := (hb2.cell (p := ⟨w.heap.size, 1, none⟩) hz1_0).trans s1_0_1
  have s2_0_2 := (hb2.cell (p := ⟨w.heap.size, 2, none⟩) hz1_0).trans s1_0_2
  have s2_0_3 := (hb2.cell (p := ⟨w.heap.size, 3, none⟩) hz1_0).trans s1_0_3
  have H2 := H1.trans (hb2.mono H1.size)
  clear hz1_0 s1_0_0 s1_0_1 s1_0_2 s1_0_3 hb2 H1
  go_wp2_with fail
  refine wp_gen ?_
  rintro w3 hg3
  have hz3_0 : w.heap.size < w3.heap.size := by rw [hg3]; simp <;> omega
  have s3_0_0 : w3.cell? ⟨w.heap.size, 0, none⟩ = some (.int .u32 x) := by rw [hg3]; go_simp
  have s3_0_1 : w3.cell? ⟨w.heap.size, 1, none⟩ = some (.int .u32 y) := by rw [hg3]; go_simp
  have s3_0_2 : w3.cell? ⟨w.heap.size, 2, none⟩ = some (.slice ga gn gc) := by rw [hg3]; go_simp
  have s3_0_3 : w3.cell? ⟨w.heap.size, 3, none⟩ = some (.slice sa sn sc) := by rw [hg3]; go_simp
  have hz3_1 : w2.heap.size < w3.heap.size := by rw [hg3]; simp <;> omega
  have s3_1_0 : w3.cell? ⟨w2.heap.size, 0, none⟩ = some (.int .i64 b) := by rw [hg3]; go_simp
  have s3_1_1 : w3.cell? ⟨w2.heap.size, 1, none⟩ = some (.int .i64 r) := by rw [hg3]; go_simp
  have H3 : Below w.heap.size w w3 := by rw [hg3]; exact (H2.alloc H2.size _)
  clear hz2_0 s2_0_0 s2_0_1 s2_0_2 s2_0_3 H2
  clear hg3
  refine wp_region_gput (R := (Option Addr) × Nat × (Option Addr) × Nat × Value) [14, 15, 16, 17, 18, 19]
    (fun r => [.agg #[.int .u32 x, .int .u32 y, .slice ga gn gc, .slice sa sn sc], .slice r.1 nl r.2.1, .agg #[.int .u32 x, .int .u32 y, .slice ga gn gc, .slice sa sn sc], .slice r.2.2.1 nm r.2.2.2.1, r.2.2.2.2, .int .i64 0])
    (fun L r wx => Below w3.heap.size w3 wx ∧ (L 1 = true → nl ≤ r.2.1 ∧ Hid (TrA wx r.1 l)) ∧ (L 3 = true → nm ≤ r.2.2.2.1 ∧ Hid (TrA wx r.2.2.1 m)) ∧ (L 4 = true → L 1 = true ∧ L 3 = true ∧ r.2.2.2.2 = .agg #[.slice r.1 nl r.2.1, .slice r.2.2.1 nm r.2.2.2.1]))
    (by kernel_rfl) (by kernel_rfl) (by kernel_rfl) (none, 0, none, 0, undef) ?_ ?_ ?_
  · exact ⟨(Below.refl _ _).drew, fun h => absurd h (by decide), fun h => absurd h (by decide), fun h => absurd h (by decide)⟩
  · refine ⟨?_, ?_, ?_, ?_, ?_, ?_, trivial⟩
    all_goals
      rintro L ⟨a1, c1, a2, c2, v18⟩ wx K hLi hdep ⟨hB, h1, h3, h4⟩ hK
      try dsimp only at h1 h3 h4
      have hBs := hB.size
      have f0 := (hB.cell (p := ⟨w.heap.size, 0, none⟩) hz3_0).trans s3_0_0
      have f1 := (hB.cell (p := ⟨w.heap.size, 1, none⟩) hz3_0).trans s3_0_1
      have f2 := (hB.cell (p := ⟨w.heap.size, 2, none⟩) hz3_0).trans s3_0_2
      have f3 := (hB.cell (p := ⟨w.heap.size, 3, none⟩) hz3_0).trans s3_0_3
      have f4 := (hB.cell (p := ⟨w2.heap.size, 0, none⟩) hz3_1).trans s3_1_0
      have f5 := (hB.cell (p := ⟨w2.heap.size, 1, none⟩) hz3_1).trans s3_1_1
      simp only [putAll, Act.put, List.setIfInBounds_toArray, List.set_cons_succ, List.set_cons_zero] at hK ⊢
    · refine .inl ⟨by rfl, ?_⟩
      go_simp
      exact hK (a1, c1, a2, c2, v18) wx ⟨hB, by simpa using h1, by simpa using h3, by simpa using h4⟩
    · refine .inl ⟨by rfl, ?_⟩
      go_simp
      refine (KT.out wx (H3.trans (hB.mono H3.size))).mono ?_
      rintro e w' ⟨a1', c1', rfl, q1, _, q3, _, hb, _⟩
      rw [HNL.out] at q1 ⊢
      exact hK (a1', c1', a2, c2, v18) w' ⟨(hB.trans (hb.mono hBs)), fun _ => ⟨q1, q3⟩, fun h => ⟨(h3 (by simpa using h)).1, Lib.hid ((h3 (by simpa using h)).2.out.next hb)⟩, fun h => absurd ((h4 (by simpa using h)).1) (by simp [hLi])⟩
    · refine .inl ⟨by rfl, ?_⟩
      go_simp
      exact hK (a1, c1, a2, c2, v18) wx ⟨hB, by simpa using h1, by simpa using h3, by simpa using h4⟩
    · refine .inl ⟨by rfl, ?_⟩
      go_simp
      refine (KC.out wx (H3.trans (hB.mono H3.size))).mono ?_
      rintro e w' ⟨a2', c2', rfl, q1, _, q3, _, hb, _⟩
      rw [HNM.out] at q1 ⊢
      exact hK (a1, c1, a2', c2', v18) w' ⟨(hB.trans (hb.mono hBs)), fun h => ⟨(h1 (by simpa using h)).1, Lib.hid ((h1 (by simpa using h)).2.out.next hb)⟩, fun _ => ⟨q1, q3⟩, fun h => absurd ((h4 (by simpa using h)).2.1) (by simp [hLi])⟩
    · have d1 := hdep ⟨1, .data⟩ (by simp) rfl
      have d3 := hdep ⟨3, .data⟩ (by simp) rfl
      refine .inl ⟨by rfl, ?_⟩
      go_simp
      exact hK (a1, c1, a2, c2, _) wx ⟨hB, by simpa using h1, by simpa using h3, fun _ => ⟨by simp [d1], by simp [d3], rfl⟩⟩
    · refine .inl ⟨by rfl, ?_⟩
      go_simp
      exact hK (a1, c1, a2, c2, v18) wx ⟨hB, by simpa using h1, by simpa using h3, by simpa using h4⟩
  rintro ⟨a1, c1, a2, c2, v18⟩ w4 ⟨hb4, q1, q3, q4⟩
  replace q1 := q1 rfl
  replace q3 := q3 rfl
  replace q4 := q4 rfl
  try dsimp only at q1 q3 q4
  simp only [putAll, Act.put, List.setIfInBounds_toArray, List.set_cons_succ, List.set_cons_zero]
  have hz4_0 := Nat.lt_of_lt_of_le hz3_0 hb4.size
  have s4_0_0 := (hb4.cell (p := ⟨w.heap.size, 0, none⟩) hz3_0).trans s3_0_0
  have s4_0_1 := (hb4.cell (p := ⟨w.heap.size, 1, none⟩) hz3_0).trans s3_0_1
  have s4_0_2 := (hb4.cell (p := ⟨w.heap.size, 2, none⟩) hz3_0).trans s3_0_2
  have s4_0_3 := (hb4.cell (p := ⟨w.heap.size, 3, none⟩) hz3_0).trans s3_0_3
  have hz4_1 := Nat.lt_of_lt_of_le hz3_1 hb4.size
  have s4_1_0 := (hb4.cell (p := ⟨w2.heap.size, 0, none⟩) hz3_1).trans s3_1_0
  have s4_1_1 := (hb4.cell (p := ⟨w2.heap.size, 1, none⟩) hz3_1).trans s3_1_1
  have H4 := H3.trans (hb4.mono H3.size)
  clear hz3_0 s3_0_0 s3_0_1 s3_0_2 s3_0_3 hz3_1 s3_1_0 s3_1_1 hb4 H3
  obtain ⟨_, _, rfl⟩ := q4
  obtain ⟨l1, l2⟩ := q1
  obtain ⟨m1, m2⟩ := q3
  have EL : ∀ k : Nat, k < 2 → ∃ a n c t, (∀ W, (Instr.index 57 (.agg #[.slice a1 nl c1, .slice a2 nm c2]) (.int .i64 k)).run Try.prog W = .ok (.slice a n c) W) ∧ n ≤ 30 ∧ Hid (t.length = n) ∧ Hid (okT t = true) ∧ Hid (TrA w4 a t) := fun k hk => by
    match k, hk with
    | 0, _ => exact ⟨a1, nl, c1, l, fun _ => (by kernel_rfl), hnl30, HNL, HT, l2⟩
    | 1, _ => exact ⟨a2, nm, c2, m, fun _ => (by kernel_rfl), hnm30, HNM, HM, m2⟩
  have EL := Lib.hid EL
  clear l1 l2 m1 m2
  go_wp2_with fail
  go_loopw [19] (fun i wr => ∃ k : Nat, k ≤ 2 ∧ i = .int .i64 k ∧ Below w4.heap.size w4 wr) (fun i _ => 2 - (intOf i).toNat)
  case atStart => exact ⟨0, Nat.zero_le _, rfl, Below.refl _ _⟩
  case round =>
    obtain ⟨k, hk, rfl, hB⟩ := hrel
    have Hr := H4.trans (hB.mono H4.size)
    by_cases hlt : k < 2
    · obtain ⟨a, n, c, t, hix, hn30, HN, HT2, HA⟩ := EL.out k hlt
      have hlt' : (k : Int) < 2 := by omega
      have hn1 : (n : Int) ≤ 30 := by omega
      have hch := (okT_iff.1 HT2.out).2
      have HL := Lib.hid fun k h => laN_bd (b := b) (r := r) hch k h
      have HV := Lib.hid fun k h => lvN_bd (r := r) HB.out hch k h
      have HMo := Lib.hid (chain_mono t 0 hch)
      have g0 := (hB.cell (p := ⟨w2.heap.size, 0, none⟩) hz4_1).trans s4_1_0
      have g1 := (hB.cell (p := ⟨w2.heap.size, 1, none⟩) hz4_1).trans s4_1_1
      have hgz := cell_lt g0
      have HAr : Hid (TrA wr a t) := Lib.hid (HA.out.below hB (Nat.le_refl _))
      have hbU : 0 ≤ b * 1048576 ∧ b * 1048576 ≤ 1099511627776 := by omega
      clear hch
      go_wp2_with fail
      obtain ⟨wo, rfl⟩ : ∃ wo : World, wo = wr := ⟨_, rfl⟩
      go_loopw [6, 7, 8, 9] (fun lv la bd i wi => ∃ (j : Nat) (v t0 bad : Int), j ≤ n ∧ lv = .int .i64 v ∧ la = .int .i64 t0 ∧ bd = .int .i64 bad ∧ i = .int .i64 j ∧ -1 ≤ bad ∧ Hid ((bad = -1 ∧ v = lvN b r t j ∧ t0 = laN b r t j ∧ ∀ u, u < j → 0 ≤ lvN b r t (u + 1)) ∨ (0 ≤ bad ∧ firstV b r t = bad)) ∧ Below wo.heap.size wo wi) (fun _ _ _ i _ => n - (intOf i).toNat)
      case atStart => exact ⟨0, b * 1048576, 0, -1, Nat.zero_le _, rfl, rfl, rfl, rfl, by omega, Lib.hid (.inl ⟨rfl, rfl, rfl, fun u h => by omega⟩), Below.refl _ _⟩
      case round =>
        obtain ⟨j, v, t0, bad, hj, rfl, rfl, rfl, rfl, hbad, hpos, hBi⟩ := hrel
        by_cases hbd : bad < 0
        · obtain ⟨h0, h1, h2, h3⟩ : bad = -1 ∧ v = lvN b r t j ∧ t0 = laN b r t j ∧ ∀ u, u < j → 0 ≤ lvN b r t (u + 1) := by
            rcases hpos.out with h | h
            · exact h
            · omega
          have H0 := Lib.hid h0
          have H3 := Lib.hid h3
          clear h0
          by_cases hjt : j < n
          · have HX : j < t.length := by rw [HN.out]; exact hjt
            obtain ⟨bb, o, rfl, hbb, d1, d2⟩ := HAr.out.get hBi HX
            have hjt' : (j : Int) < n := by omega
            have hj0 : (0 : Int) ≤ j := by omega
            have e0 := (hBi.cell (p := ⟨w2.heap.size, 0, none⟩) hgz).trans g0
            have e1 := (hBi.cell (p := ⟨w2.heap.size, 1, none⟩) hgz).trans g1
            obtain ⟨m1, m2, m3, m4, _⟩ := HMo.out j HX
            have q1 := HL.out j HX
            have q2 := HV.out j (Nat.le_of_lt HX)
            rw [← h2] at q1
            rw [← h1] at q2
            have HQ : Hid (lvlV b r v t0 (t[j]).1 (t[j]).2 = lvN b r t (j + 1) ∧ (t[j]).1 = laN b r t (j + 1)) := Lib.hid (by rw [lvN_succ, laN_succ, List.getElem?_eq_getElem HX, Option.getD_some, h1, h2]; exact ⟨rfl, rfl⟩)
            have HFS := Lib.hid fun (h : lvN b r t (j + 1) < 0) => first_some HX H3.out h
            have hbn := cell_lt d1
            clear h1 h2 h3 hpos
            generalize t[j] = z at *
            obtain ⟨p, s⟩ := z
            simp only at d1 d2 m1 m2 m3 m4 q1 q2 HQ
            clear HX
            obtain ⟨z1, z2⟩ := rate_bd r1 r2 (show 0 ≤ p - t0 by omega) (by omega)
            obtain ⟨V, hV⟩ : ∃ V, min (b * 1048576) (v + r * (p - t0)) = V := ⟨_, rfl⟩
            have hV1 : V - s * 1048576 = lvlV b r v t0 p s := by unfold lvlV; rw [hV]
            have hV2 : -220000000000000 ≤ V ∧ V ≤ 1099511627776 := by omega
            have mn : ∀ W, (Builtin.min_ #[3, 3] 3 #[.int .i64 (b * 1048576), .int .i64 (v + r * (p - t0))]).run Try.prog W = .ok (.int .i64 V) W := fun W => by
              have := @run_min_int2 Try.prog W #[3, 3] 3 .i64 .i64 (b * 1048576) (v + r * (p - t0))
              rw [this]; congr 2; split <;> omega
            have HQ2 : Hid (V - s * 1048576 = lvN b r t (j + 1) ∧ p = laN b r t (j + 1)) := Lib.hid (by rw [hV1]; exact HQ.out)
            have i1 : IntKind.i64.wrap (b * 1048576) = b * 1048576 := IntWalk.i64_in _ (by omega)
            have i2 : IntKind.i64.wrap (p - t0) = p - t0 := IntWalk.i64_in _ (by omega)
            have i3 : IntKind.i64.wrap (r * (p - t0)) = r * (p - t0) := IntWalk.i64_in _ (by omega)
            have i4 : IntKind.i64.wrap (v + r * (p - t0)) = v + r * (p - t0) := IntWalk.i64_in _ (by omega)
            have i5 : IntKind.i64.wrap (s * 1048576) = s * 1048576 := IntWalk.i64_in _ (by omega)
            have i6 : IntKind.i64.wrap (V - s * 1048576) = V - s * 1048576 := IntWalk.i64_in _ (by omega)
            clear hV1 hV HQ
            go_wp2_with fail
            have F0 := Bw.cell hbn d1
            have F1 := Bw.cell hbn d2
            have F2 := Bw.cell (Nat.lt_of_lt_of_le hgz hBi.size) e0
            have F3 := Bw.cell (Nat.lt_of_lt_of_le hgz hBi.size) e1
            refine wp_region_bw (by kernel_rfl) (by kernel_rfl) ?_
            repeat (go_big_quiet_step (fail))
            refine wpQuiet_nil ?_
            rintro w3 ⟨⟨_, hb3⟩, rfl⟩
            have d1' := (hb3.cell (p := ⟨bb, o + j * 2, none⟩) hbn).trans d1
            clear F0 F1 F2 F3 i1 i2 i3 i4 i5 i6 mn d1 d2 e0 e1
            have hBn := hBi.trans (hb3.mono hBi.size)
            by_cases hneg : V - s * 1048576 < 0
            · have HR := Lib.hid (HFS.out (by rw [← HQ2.out.1]; exact hneg))
              go_wp2
              go_roundw
              case rel => exact ⟨j + 1, V - s * 1048576, p, j, by omega, rfl, rfl, rfl, by go_num, by omega, Lib.hid (.inr ⟨by omega, HR.out⟩), hBn⟩
              case measure => (simp [intOf] <;> omega)
            · have HR := Lib.hid fun u (hu : u < j + 1) => (show 0 ≤ lvN b r t (u + 1) by
                rcases Nat.lt_or_ge u j with g | g
                · exact H3.out u g
                · obtain rfl : u = j := by omega
                  rw [← HQ2.out.1]; omega)
              go_wp2
              go_roundw
              case rel => exact ⟨j + 1, V - s * 1048576, p, bad, by omega, rfl, rfl, rfl, by go_num, by omega, Lib.hid (.inl ⟨H0.out, HQ2.out.1, HQ2.out.2, HR.out⟩), hBn⟩
              case measure => (simp [intOf] <;> omega)
          · have HF : Hid (firstV b r t = bad) := Lib.hid (by rw [H0.out]; exact first_none (b := b) (r := r) (l := t) fun u hu => H3.out u (by have := HN.out; omega))
            have hjt' : ¬ (j : Int) < n := by omega
            clear h1 h2 h3 hpos
            have e0 := (hBi.cell (p := ⟨w2.heap.size, 0, none⟩) hgz).trans g0
            have e1 := (hBi.cell (p := ⟨w2.heap.size, 1, none⟩) hgz).trans g1
            have hAi : Hid (TrA wr a t) := Lib.hid (HAr.out.below hBi (Nat.le_refl _))
            have KF := cfirst b r t bad (v := true) (by unfold fisV okBT; rw [HB.out, HT2.out, HF.out]; simp) a c
            have KG := cfits b r t (v := true) (by unfold confV okBT; rw [HB.out, HT2.out, Bool.true_and, Bool.true_and, ← first_fits (b := b) (r := r) (by omega) (okT_iff.1 HT2.out).2, HF.out]; simp; omega) a c
            rw [HN.out] at KF KG
            have KF := Lib.hid fun w h => KF w (by omega) h
            have KG := Lib.hid fun w h => KG w (by omega) h
            go_wp2_with fail
            refine (KF.out _ hAi.out).mono ?_
            rintro e w5 ⟨rfl, hb5⟩
            have f1 := (hb5.cell (p := ⟨w2.heap.size, 0, none⟩) (cell_lt e0)).trans e0
            have f2 := (hb5.cell (p := ⟨w2.heap.size, 1, none⟩) (cell_lt e1)).trans e1
            go_wp2_with fail
            refine (KG.out _ (hAi.out.next hb5)).mono ?_
            rintro e w6 ⟨rfl, hb6⟩
            go_wp2
            go_roundw
            case rel => exact ⟨k + 1, by omega, by go_num, hB.trans ((hBi.trans ((hb5.trans (hb6.mono hb5.size)).mono hBi.size)).mono hB.size)⟩
            case measure => (simp [intOf] <;> omega)
        · have HF : Hid (firstV b r t = bad) := Lib.hid (by
            rcases hpos.out with h | h
            · omega
            · exact h.2)
          clear hpos
          by_cases hjt' : (j : Int) < n
          · skip
            have e0 := (hBi.cell (p := ⟨w2.heap.size, 0, none⟩) hgz).trans g0
            have e1 := (hBi.cell (p := ⟨w2.heap.size, 1, none⟩) hgz).trans g1
            have hAi : Hid (TrA wr a t) := Lib.hid (HAr.out.below hBi (Nat.le_refl _))
            have KF := cfirst b r t bad (v := true) (by unfold fisV okBT; rw [HB.out, HT2.out, HF.out]; simp) a c
            have KG := cfits b r t (v := false) (by unfold confV okBT; rw [HB.out, HT2.out, Bool.true_and, Bool.true_and, ← first_fits (b := b) (r := r) (by omega) (okT_iff.1 HT2.out).2, HF.out]; simp; omega) a c
            rw [HN.out] at KF KG
            have KF := Lib.hid fun w h => KF w (by omega) h
            have KG := Lib.hid fun w h => KG w (by omega) h
            go_wp2_with fail
            refine (KF.out _ hAi.out).mono ?_
            rintro e w5 ⟨rfl, hb5⟩
            have f1 := (hb5.cell (p := ⟨w2.heap.size, 0, none⟩) (cell_lt e0)).trans e0
            have f2 := (hb5.cell (p := ⟨w2.heap.size, 1, none⟩) (cell_lt e1)).trans e1
            go_wp2_with fail
            refine (KG.out _ (hAi.out.next hb5)).mono ?_
            rintro e w6 ⟨rfl, hb6⟩
            go_wp2
            go_roundw
            case rel => exact ⟨k + 1, by omega, by go_num, hB.trans ((hBi.trans ((hb5.trans (hb6.mono hb5.size)).mono hBi.size)).mono hB.size)⟩
            case measure => (simp [intOf] <;> omega)
          · skip
            have e0 := (hBi.cell (p := ⟨w2.heap.size, 0, none⟩) hgz).trans g0
            have e1 := (hBi.cell (p := ⟨w2.heap.size, 1, none⟩) hgz).trans g1
            have hAi : Hid (TrA wr a t) := Lib.hid (HAr.out.below hBi (Nat.le_refl _))
            have KF := cfirst b r t bad (v := true) (by unfold fisV okBT; rw [HB.out, HT2.out, HF.out]; simp) a c
            have KG := cfits b r t (v := false) (by unfold confV okBT; rw [HB.out, HT2.out, Bool.true_and, Bool.true_and, ← first_fits (b := b) (r := r) (by omega) (okT_iff.1 HT2.out).2, HF.out]; simp; omega) a c
            rw [HN.out] at KF KG
            have KF := Lib.hid fun w h => KF w (by omega) h
            have KG := Lib.hid fun w h => KG w (by omega) h
            go_wp2_with fail
            refine (KF.out _ hAi.out).mono ?_
            rintro e w5 ⟨rfl, hb5⟩
            have f1 := (hb5.cell (p := ⟨w2.heap.size, 0, none⟩) (cell_lt e0)).trans e0
            have f2 := (hb5.cell (p := ⟨w2.heap.size, 1, none⟩) (cell_lt e1)).trans e1
            go_wp2_with fail
            refine (KG.out _ (hAi.out.next hb5)).mono ?_
            rintro e w6 ⟨rfl, hb6⟩
            go_wp2
            go_roundw
            case rel => exact ⟨k + 1, by omega, by go_num, hB.trans ((hBi.trans ((hb5.trans (hb6.mono hb5.size)).mono hBi.size)).mono hB.size)⟩
            case measure => (simp [intOf] <;> omega)
    · have hlt' : ¬ (k : Int) < 2 := by omega
      go_wp2
      go_ret
      exact ⟨rfl, Hr⟩
end Go.Proofs.Ytfbfnoiapeajeaa
