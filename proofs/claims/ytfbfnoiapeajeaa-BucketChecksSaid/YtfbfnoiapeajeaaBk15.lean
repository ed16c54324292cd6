/- The drafts of the reference of bucket: Conforming: what it computes. -/
import Derived.Test.YtfbfnoiapeajeaaBk14
namespace Go.Proofs.Ytfbfnoiapeajeaa
open Go.RowKit

theorem TrOwn.below {w w' : World} {base : Nat} {v : Value} {l : Tr} (h : TrOwn w base v l) (hb : Below w.heap.size w w') : TrOwn w' base v l := by
  obtain ⟨hl, hv⟩ := h
  refine ⟨hl, ?_⟩
  rcases hv with hv | ⟨g, cap, cur, h1, h2, h3, h4⟩
  · exact .inl hv
  · exact .inr ⟨g, cap, cur, h1, h2, (hb.block g (Array.getElem?_eq_some_iff.1 h3).1).trans h3, h4⟩
theorem TrOwn.mono {w : World} {base base' : Nat} {v : Value} {l : Tr} (h : TrOwn w base v l) (hb : base' ≤ base) : TrOwn w base' v l := by
  obtain ⟨hl, hv⟩ := h
  refine ⟨hl, ?_⟩
  rcases hv with hv | ⟨g, cap, cur, h1, h2, h3⟩
  · exact .inl hv
  · exact .inr ⟨g, cap, cur, h1, Nat.le_trans hb h2, h3⟩
def cnf (b r : Int) (l : Tr) : Nat → Tr
  | 0 => []
  | k + 1 => if fitsB b r (cnf b r l k ++ [l[k]?.getD (0, 0)]) then cnf b r l k ++ [l[k]?.getD (0, 0)] else cnf b r l k
def conformV (b r : Int) (l : Tr) : Tr := cnf b r l l.length
theorem lastT_take {l : Tr} (h : chainB 0 l = true) {k : Nat} (hk : k < l.length) : lastT 0 (l.take k) ≤ (l[k]).1 := by
  refine lastT_le_of _ 0 _ (chainB_take l 0 k h) (chain_mono l 0 h k hk).1 fun j hj => ?_
  rw [List.length_take] at hj
  rw [List.getElem_take]
  exact (chain_mono l 0 h j (by omega)).2.2.2.2 k hk (by omega)
theorem cnf_inv (b r : Int) {l : Tr} (h : chainB 0 l = true) : ∀ k : Nat, k ≤ l.length → chainB 0 (cnf b r l k) = true ∧ lastT 0 (cnf b r l k) ≤ lastT 0 (l.take k) ∧ (cnf b r l k).length ≤ k ∧ fitsB b r (cnf b r l k) = true
  | 0, _ => ⟨rfl, Int.le_refl _, Nat.le_refl _, rfl⟩
  | k + 1, hk => by
    obtain ⟨h1, h2, h3, h4⟩ := cnf_inv b r h k (by omega)
    have hk' : k < l.length := by omega
    have h5 := lastT_take h hk'
    obtain ⟨m1, m2, m3, m4, _⟩ := chain_mono l 0 h k hk'
    have e : lastT 0 (l.take (k + 1)) = (l[k]).1 := by rw [tr_snoc hk', lastT_snoc]
    rw [cnf, List.getElem?_eq_getElem hk', Option.getD_some, e]
    have e2 : l[k] = ((l[k]).1, (l[k]).2) := rfl
    split
    · rename_i hf
      rw [e2]
      exact ⟨(chain_snoc _ _ _ _).2 ⟨h1, ⟨by omega, m2⟩, m3, m4⟩, by rw [lastT_snoc]; exact Int.le_refl _, by simp; omega, hf⟩
    · exact ⟨h1, by omega, by omega, h4⟩
theorem cnf_next (b r : Int) {l : Tr} (h : okT l = true) {k : Nat} (hk : k < l.length) : okT (cnf b r l k ++ [l[k]]) = true := by
  obtain ⟨h0, h⟩ := okT_iff.1 h
  obtain ⟨h1, h2, h3, _⟩ := cnf_inv b r h k (by omega)
  have h5 := lastT_take h hk
  obtain ⟨m1, m2, m3, m4, _⟩ := chain_mono l 0 h k hk
  have e2 : l[k] = ((l[k]).1, (l[k]).2) := rfl
  rw [e2]
  exact okT_iff.2 ⟨by simp; omega, (chain_snoc _ _ _ _).2 ⟨h1, ⟨by omega, m2⟩, m3, m4⟩⟩
theorem conformV_ok (b r : Int) {l : Tr} (h : okT l = true) : okT (conformV b r l) = true ∧ (conformV b r l).length ≤ l.length ∧ fitsB b r (conformV b r l) = true := by
  obtain ⟨h0, h⟩ := okT_iff.1 h
  obtain ⟨h1, h2, h3, h4⟩ := cnf_inv b r h l.length (Nat.le_refl _)
  exact ⟨okT_iff.2 ⟨by unfold conformV; omega, h1⟩, h3, h4⟩
set_option maxRecDepth 100000 in
set_option maxHeartbeats 4000000 in
theorem dconf_any (x y : Int) (ga sa : Option Addr) (gn gc sn sc : Nat) (gaps sizes : List Int) (w : World) (x1 : 0 ≤ x) (x2 : x ≤ 4294967295) (y1 : 0 ≤ y) (y2 : y ≤ 4294967295) (hg : gaps.length = gn) (hs : sizes.length = sn) (hgm : gn ≤ maxLen) (hsm : sn ≤ maxLen) (hG : Hid (U16A w ga gaps)) (hS : Hid (U16A w sa sizes)) :
    Calls Try.prog 22 #[.agg #[.int .u32 x, .int .u32 y, .slice ga gn gc, .slice sa sn sc]] w (RetTr w (conformV (dB x) (dR y) (traceV gaps sizes))) := by
  obtain ⟨ht, hl30⟩ := traceV_ok hG.out.small hS.out.small
  have hb := dBR_ok x y
  have KB := Lib.hid fun w => dbucket_any x y _ _ ga sa gn gc sn sc rfl rfl w x1 x2 y1 y2
  have KT := Lib.hid fun w (hb : Below _ _ w) => dtrace_any x y ga sa gn gc sn sc gaps sizes w hg hs hgm hsm (Lib.hid (hG.out.below hb)) (Lib.hid (hS.out.below hb))
  have hA : Below w.heap.size w (w.alloc (.cells #[.int .u32 x, .int .u32 y, .slice ga gn gc, .slice sa sn sc] 27)) := (Below.refl _ _).alloc (Nat.le_refl _) _
  obtain ⟨i0, hi, hz0, hz1, hz2⟩ := info_parts infoA
  generalize traceV gaps sizes = l at *
  generalize dB x = b at *
  generalize dR y = r at *
  obtain ⟨n, hn⟩ : ∃ n, l.length = n := ⟨_, rfl⟩
  have HN := Lib.hid hn
  have hn30 : (n : Int) ≤ 30 := by omega
  have HF := Lib.hid fun k (hk : k < l.length) w a cap (hc : Hid (TrA w a (cnf b r l k ++ [l[k]]))) (m : Nat) (hm : (cnf b r l k ++ [l[k]]).length = m) => fits_any b r a m cap _ w hm hb (cnf_next b r ht hk) hc
  have HI := Lib.hid fun k (hk : k ≤ n) => (cnf_inv b r (okT_iff.1 ht).2 k (by omega)).2.2.1
  have HC : Hid (conformV b r l = cnf b r l n) := Lib.hid (by unfold conformV; rw [hn])
  clear x1 x2 y1 y2 hg hs hgm hsm hG hS ht hl30 hb hn
  rw [HC.out]
  go_enter Try.func22, Try.ntmps22
  go_wp2_with fail
  refine wp_region_put (R := Option Addr × Nat × Nat × Value) [8, 9, 10, 11, 4, 5]
    (fun q => [.agg #[.int .u32 x, .int .u32 y, .slice ga gn gc, .slice sa sn sc], .agg #[.int .i64 b, .int .i64 r], .agg #[.int .u32 x, .int .u32 y, .slice ga gn gc, .slice sa sn sc], .slice q.1 n q.2.1, .pointer (some ⟨q.2.2.1, 0, none⟩), q.2.2.2])
    (fun L q wx => Below (w.heap.size + 1) (w.alloc (.cells #[.int .u32 x, .int .u32 y, .slice ga gn gc, .slice sa sn sc] 27)) wx ∧ Own2 w.heap.size q.2.2.1 (L 4) (L 5) b r wx ∧ (L 3 = true → Hid (n ≤ q.2.1 ∧ (q.1 = none → q.2.1 = 0) ∧ TrA wx q.1 l ∧ (∀ p, q.1 = some p → w.heap.size ≤ p.block ∧ p.block < wx.heap.size))) ∧ (L 3 = true → L 4 = true → ∀ p, q.1 = some p → p.block ≠ q.2.2.1) ∧ (L 6 = true → L 3 = true ∧ q.2.2.2 = .slice q.1 n q.2.1))
    (by kernel_rfl) (by kernel_rfl) (by kernel_rfl) (none, 0, 0, undef) ?_ ?_ ?_
  · exact ⟨(Below.refl _ _).drew, ⟨fun h => absurd h (by decide), fun h => absurd h (by decide)⟩, fun h => absurd h (by decide), fun h => absurd h (by decide), fun h => absurd h (by decide)⟩
  · refine ⟨?_, ?_, ?_, ?_, ?_, ?_, ?_, trivial⟩
    all_goals
      rintro L ⟨ta, tc, p, v5⟩ wx K hLi hdep ⟨hB, O, hT, hne, h6⟩ hK
      dsimp only at O hT hne h6
      have hz := hB.size
      have hBw := hA.trans (hB.mono (Nat.le_succ _))
      have c0 := (hB.cell (p := ⟨w.heap.size, 0, none⟩) (by simp)).trans (show _ = some (.int .u32 x) by go_simp)
      have c1 := (hB.cell (p := ⟨w.heap.size, 1, none⟩) (by simp)).trans (show _ = some (.int .u32 y) by go_simp)
      have c2 := (hB.cell (p := ⟨w.heap.size, 2, none⟩) (by simp)).trans (show _ = some (.slice ga gn gc) by go_simp)
      have c3 := (hB.cell (p := ⟨w.heap.size, 3, none⟩) (by simp)).trans (show _ = some (.slice sa sn sc) by go_simp)
      simp only [putAll, Act.put, List.setIfInBounds_toArray, List.set_cons_succ, List.set_cons_zero] at hK ⊢
    · go_simp
      exact hK (ta, tc, p, v5) wx ⟨hB, by simpa using O, by simpa using hT, by simpa using hne, by simpa using h6⟩
    · go_simp
      refine (KB.out _).mono ?_
      rintro e w' ⟨rfl, hb⟩
      exact hK (ta, tc, p, v5) w' ⟨hB.trans (hb.mono (by simpa using hz)), by simpa using O.below hb, fun h => by
        obtain ⟨t1, t2, t3, t4⟩ := (hT (by simpa using h)).out
        exact Lib.hid ⟨t1, t2, t3.below hb (Nat.le_refl _), fun q e => ⟨(t4 q e).1, Nat.lt_of_lt_of_le (t4 q e).2 hb.size⟩⟩, by simpa using hne, by simpa using h6⟩
    · go_simp
      exact hK (ta, tc, p, v5) wx ⟨hB, by simpa using O, by simpa using hT, by simpa using hne, by simpa using h6⟩
    · go_simp
      refine (KT.out _ hBw).mono ?_
      rintro e w' ⟨ta', tc', rfl, q1, q2, q3, q4, hb, _⟩
      rw [HN.out]
      rw [HN.out] at q1
      refine hK (ta', tc', p, v5) w' ⟨hB.trans (hb.mono (by simpa using hz)), by simpa using O.below hb, fun _ => Lib.hid ⟨q1, q2, q3.out, fun q e => ⟨Nat.le_trans hBw.size (q4 q e).1, (q4 q e).2⟩⟩, fun _ h4 q e => ?_, fun h => ?_⟩
      · have := (O.2 (by simpa using h4)).2.1
        have := (q4 q e).1
        dsimp only
        omega
      · have := (h6 (by simpa using h)).1
        rw [hLi] at this; cases this
    · have hS : L 5 = false := by
        cases h : L 5
        · rfl
        · rw [O.1 h] at hLi; cases hLi
      go_simp
      refine hK (ta, tc, wx.heap.size, v5) _ ⟨hB.alloc (by simpa using hz) _, ?_, fun h => ?_, fun h _ q e => ?_, by simpa using h6⟩
      · simp only [hS]
        exact ⟨fun _ => by simp, fun _ => ⟨hBw.size, by simp, by go_simp, by go_simp, by go_simp, by go_simp⟩⟩
      · obtain ⟨t1, t2, t3, t4⟩ := (hT (by simpa using h)).out
        exact Lib.hid ⟨t1, t2, t3.alloc _, fun q e => ⟨(t4 q e).1, by have := (t4 q e).2; simp; omega⟩⟩
      · obtain ⟨t1, t2, t3, t4⟩ := (hT (by simpa using h)).out
        have := (t4 q e).2
        simp only
        omega
    · have h4 : L 4 = true := hdep ⟨4, .data⟩ (by simp) rfl
      obtain ⟨g1, g2, g3, g4, g5, g6⟩ := O.2 h4
      rw [hLi] at g3 g4
      go_simp
      refine hK (ta, tc, p, v5) _ ⟨?_, ?_, fun h => ?_, by simpa using hne, by simpa using h6⟩
      · have hp : w.heap.size ≠ p := fun e => by subst e; rw [g3] at c0; simp at c0
        exact (hB.setCell (by simp; omega) _).setCell (by simp; omega) _
      · exact ⟨fun _ => by simp [h4], fun _ => ⟨g1, by simpa [World.setCell] using g2, by go_simp, by go_simp, by go_simp, by go_simp⟩⟩
      · obtain ⟨t1, t2, t3, t4⟩ := (hT (by simpa using h)).out
        have hn := hne (by simpa using h) h4
        exact Lib.hid ⟨t1, t2, (t3.set hn).set hn, fun q e => ⟨(t4 q e).1, by simpa [World.setCell] using (t4 q e).2⟩⟩
    · have h3 : L 3 = true := hdep ⟨3, .data⟩ (by simp) rfl
      go_simp
      exact hK (ta, tc, p, _) wx ⟨hB, by simpa using O, by simpa using hT, by simpa using hne, fun _ => ⟨by simp [h3], rfl⟩⟩
  rintro ⟨ta, tc, p, v5⟩ w2 ⟨hB, O, hT, hne, h6⟩
  have hv5 := (h6 rfl).2
  dsimp only at hv5
  subst hv5
  obtain ⟨p0, p1, p2, p3, p4, p5⟩ := O.2 rfl
  obtain ⟨t1, t2, t3, t4⟩ := (hT rfl).out
  simp only [if_true] at p2 p3
  simp only at t1 t2 t3 t4 p0 p1 p2 p3 p4 p5
  have t2 := Lib.hid t2
  have t3 := Lib.hid t3
  have t4 := Lib.hid t4
  have H2 := hA.trans (hB.mono (Nat.le_succ _))
  clear hB O hT hne h6 p4 p5 KB KT
  simp only [putAll, Act.put, List.setIfInBounds_toArray, List.set_cons_succ, List.set_cons_zero]
  go_wp2_with fail
  go_loopw [3, 6] (fun v i wr => ∃ k : Nat, k ≤ n ∧ i = .int .i64 k ∧ TrOwn wr w2.heap.size v (cnf b r l k) ∧ Below w2.heap.size w2 wr) (fun _ i _ => n - (intOf i).toNat)
  case atStart => exact ⟨0, Nat.zero_le _, rfl, TrOwn.nil _ _, Below.refl _ _⟩
  case round =>
    obtain ⟨k, hk, rfl, hO, hB⟩ := hrel
    by_cases hlt : k < n
    · have HX : k < l.length := by rw [HN.out]; exact hlt
      obtain ⟨tb, tf, rfl, hbw, s1, s2⟩ := t3.out.get hB HX
      have hlt' : (k : Int) < n := by omega
      have hk0 : (0 : Int) ≤ k := by omega
      have hlen := HI.out k hk
      obtain ⟨oa, oc, hv, o1, o2, o3, o4⟩ := hO.see
      have HF2 := Lib.hid (HF.out k HX)
      have HS : Hid (cnf b r l (k + 1) = if fitsB b r (cnf b r l k ++ [l[k]]) then cnf b r l k ++ [l[k]] else cnf b r l k) := Lib.hid (by rw [cnf, List.getElem?_eq_getElem HX, Option.getD_some])
      have o2 := Lib.hid o2
      have o3 := Lib.hid o3
      have o5 : Hid (∀ q, oa = some q → q.spot = none) := Lib.hid (hO.spot hv)
      have o4 := Lib.hid o4
      have hO := Lib.hid hO
      generalize l[k] = z at *
      obtain ⟨za, zs⟩ := z
      simp only at s1 s2
      clear HF HX
      rw [hv] at hO ⊢
      clear hv
      obtain ⟨out, hout⟩ : ∃ out, cnf b r l k = out := ⟨_, rfl⟩
      rw [hout] at hO HS HF2 hlen o1 o3 ⊢
      clear hout
      have hp2 := (hB.cell (p := ⟨p, 0, none⟩) p1).trans p2
      have hp3 := (hB.cell (p := ⟨p, 1, none⟩) p1).trans p3
      have hpz := cell_lt hp2
      go_wp2_with fail
      refine wp_region_put (R := Value × Value × Value × Value × Value) [18, 19, 20, 21, 22, 23, 24, 25, 26, 7]
        (fun q => [q.1, .slice oa out.length oc, q.2.1, .slice (some ⟨tb, tf, none⟩) n tc, .int .i64 k, .pointer (some ⟨tb, tf + k * 2, none⟩), .agg #[.int .i64 za, .int .i64 zs], q.2.2.1, q.2.2.2.1, q.2.2.2.2])
        (fun L q wx => AppT wr out (za, zs) (L 0) (L 2) (L 7) (L 8) q.1 q.2.1 q.2.2.1 q.2.2.2.1 wx ∧ (L 9 = true → L 8 = true ∧ q.2.2.2.2 = q.2.2.2.1))
        (by kernel_rfl) (by kernel_rfl) (by kernel_rfl) (undef, undef, undef, undef, undef) ?_ ?_ ?_
      · exact ⟨AppT.start _ _ _ _ _ _ _, fun h => absurd h (by decide)⟩
      · refine ⟨?_, ?_, ?_, ?_, ?_, ?_, ?_, ?_, ?_, ?_, trivial⟩
        all_goals
          rintro L ⟨q1, q2, q3, q4, q5⟩ wx K hLi hdep ⟨hI, h9⟩ hK
          dsimp only at hI h9
          have d1 := (hI.bel.cell (p := ⟨tb, tf + k * 2, none⟩) (cell_lt s1)).trans s1
          have d2 := (hI.bel.cell (p := ⟨tb, tf + k * 2 + 1, none⟩) (cell_lt s1)).trans s2
          simp only [putAll, Act.put, List.setIfInBounds_toArray, List.set_cons_succ, List.set_cons_zero] at hK ⊢
        · go_simp
          rw [hLi] at hI
          exact hK (_, q2, q3, q4, q5) _ ⟨by simpa using hI.op0, by simpa using h9⟩
        · go_simp
          exact hK (q1, q2, q3, q4, q5) wx ⟨by simpa using hI, by simpa using h9⟩
        · have h0 : L 0 = true := hdep ⟨0, .data⟩ (by simp) rfl
          rw [hLi, h0] at hI
          refine wp_apnd _ _ rfl wr.heap.size q1 [] out rfl (hI.a rfl rfl) oa oc rfl o2.out ?_ (o3.out.below hI.bel (Nat.le_refl _)) (by simp; omega) hI.bel.size ?_
          · exact o5.out
          · intro v' w' g1 g2 g3
            have hI' := hI.op2 g1 g2 g3
            simp only [Act.put, List.setIfInBounds_toArray, List.set_cons_succ, List.set_cons_zero]
            exact hK (q1, v', q3, q4, q5) w' ⟨by simpa [h0] using hI', by simpa using h9⟩
        · go_simp
          exact hK (q1, q2, q3, q4, q5) wx ⟨by simpa using hI, by simpa using h9⟩
        · go_simp
          exact hK (q1, q2, q3, q4, q5) wx ⟨by simpa using hI, by simpa using h9⟩
        · go_simp
          exact hK (q1, q2, q3, q4, q5) wx ⟨by simpa using hI, by simpa using h9⟩
        · go_simp
          exact hK (q1, q2, q3, q4, q5) wx ⟨by simpa using hI, by simpa using h9⟩
        · go_simp
          rw [hLi] at hI
          exact hK (q1, q2, _, q4, q5) _ ⟨by simpa using hI.op7, by simpa using h9⟩
        · have h2 : L 2 = true := hdep ⟨2, .data⟩ (by simp) rfl
          have h7 : L 7 = true := hdep ⟨7, .data⟩ (by simp) rfl
          rw [hLi, h2, h7] at hI
          obtain ⟨g, rfl, hg, _, hgc, _⟩ := hI.c rfl
          refine wp_apnd _ _ rfl wr.heap.size q2 out [(za, zs)] rfl (hI.b rfl rfl) (some ⟨g, 0, none⟩) 1 rfl (fun e => by cases e) (fun q e => by cases e; rfl) hgc (by simp; omega) hI.bel.size ?_
          intro v' w' g1 g2 g3
          have hI' := hI.op8 g1 g2
          simp only [Act.put, List.setIfInBounds_toArray, List.set_cons_succ, List.set_cons_zero]
          exact hK (q1, q2, _, v', q5) w' ⟨by simpa [h2, h7] using hI', fun h => by have := (h9 (by simpa using h)).1; rw [hLi] at this; cases this⟩
        · have h8 : L 8 = true := hdep ⟨8, .data⟩ (by simp) rfl
          go_simp
          exact hK (q1, q2, q3, q4, _) wx ⟨by simpa using hI, fun _ => ⟨by simp [h8], rfl⟩⟩
      rintro ⟨q1, q2, q3, q4, q5⟩ wa ⟨hI, h9⟩
      have hv5 := (h9 rfl).2
      dsimp only at hv5
      subst hv5
      have hD := hI.d rfl
      have hba := hI.bel
      simp only at hD
      clear hI h9
      obtain ⟨na, nc, hv, n1, n2, n3, n4⟩ := hD.see
      have hD := Lib.hid hD
      rw [hv] at hD
      have n2 := Lib.hid n2
      have n4 := Lib.hid n4
      simp only [putAll, Act.put, List.setIfInBounds_toArray, List.set_cons_succ, List.set_cons_zero]
      rw [hv]
      clear hv
      have e1 := (hba.cell (p := ⟨p, 0, none⟩) hpz).trans hp2
      have e2 := (hba.cell (p := ⟨p, 1, none⟩) hpz).trans hp3
      obtain ⟨m, hm⟩ : ∃ m, (out ++ [(za, zs)]).length = m := ⟨_, rfl⟩
      have KF := Lib.hid (HF2.out wa na nc (Lib.hid n3) m hm)
      rw [hm] at hD n1 ⊢
      have HM := Lib.hid hm
      clear HF2 n3 hm
      have hmm : m ≤ 31 := by have := HM.out; simp at this; omega
      have hBa := hB.trans (hba.mono hB.size)
      cases hf : fitsB b r (out ++ [(za, zs)])
      · rw [hf] at KF HS
        simp only [Bool.false_eq_true, if_false] at HS
        clear hf
        go_wp2_with fail
        refine KF.out.mono ?_
        rintro e w5 ⟨rfl, hb5⟩
        go_wp2
        go_roundw
        case rel => exact ⟨k + 1, by omega, by go_num, by rw [HS.out]; exact (hO.out.below hba).below hb5, hBa.trans (hb5.mono hBa.size)⟩
        case measure => simp [intOf]; omega
      · rw [hf] at KF HS
        simp only [if_true] at HS
        clear hf
        go_wp2_with fail
        refine KF.out.mono ?_
        rintro e w5 ⟨rfl, hb5⟩
        go_wp2
        go_roundw
        case rel => exact ⟨k + 1, by omega, by go_num, by rw [HS.out]; exact (hD.out.below hb5).mono hB.size, hBa.trans (hb5.mono hBa.size)⟩
        case measure => simp [intOf]; omega
    · obtain rfl : k = n := by omega
      have hlt' : ¬ (k : Int) < k := by omega
      obtain ⟨oa, oc, hve, o1, o2, o3, o4⟩ := hO.see
      have hsp := Lib.hid (hO.spot hve)
      subst hve
      have o2 := Lib.hid o2
      have o3 := Lib.hid o3
      have o4 := Lib.hid fun q e => (show w.heap.size ≤ q.block ∧ q.block < wr.heap.size from ⟨Nat.le_trans H2.size (o4 q e).1, (o4 q e).2⟩)
      have H3 := H2.trans (hB.mono H2.size)
      clear hO t2 t3 t4 hB
      go_wp2
      go_ret
      exact ⟨oa, oc, rfl, o1, o2.out, o3, o4.out, H3, hsp.out⟩
end Go.Proofs.Ytfbfnoiapeajeaa
