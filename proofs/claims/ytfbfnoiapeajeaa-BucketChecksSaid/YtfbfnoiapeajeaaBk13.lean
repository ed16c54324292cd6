/- The drafts of the reference of bucket: Trace: what it computes. -/
import Derived.Test.YtfbfnoiapeajeaaBk12
namespace Go.Proofs.Ytfbfnoiapeajeaa
open Go.RowKit

set_option maxRecDepth 100000 in
set_option maxHeartbeats 4000000 in
theorem dtrace_any (x y : Int) (ga sa : Option Addr) (gn gc sn sc : Nat) (gaps sizes : List Int) (w : World) (hg : gaps.length = gn) (hs : sizes.length = sn) (hgm : gn ≤ maxLen) (hsm : sn ≤ maxLen) (hG : Hid (U16A w ga gaps)) (hS : Hid (U16A w sa sizes)) :
    Calls Try.prog 17 #[.agg #[.int .u32 x, .int .u32 y, .slice ga gn gc, .slice sa sn sc]] w (RetTr w (traceV gaps sizes)) := by
  have gb := Lib.hid fun k => gsum_bd hG.out.small k
  obtain ⟨M, hM⟩ : ∃ M : Nat, min sizes.length 30 = M := ⟨_, rfl⟩
  have hM1 : M ≤ 30 := by omega
  have hM2 : M ≤ sn := by omega
  have hM3 : sn ≤ M ∨ 30 ≤ M := by omega
  have HG := Lib.hid hg
  have HS := Lib.hid hs
  have HT : Hid (traceV gaps sizes = dtr gaps sizes M) := Lib.hid (by unfold traceV; rw [hM])
  obtain ⟨i0, hi, hz0, hz1, hz2⟩ := info_parts infoA
  have hA : Below w.heap.size w (w.alloc (.cells #[.int .u32 x, .int .u32 y, .slice ga gn gc, .slice sa sn sc] 27)) := (Below.refl _ _).alloc (Nat.le_refl _) _
  have hG : Hid (U16A (w.alloc (.cells #[.int .u32 x, .int .u32 y, .slice ga gn gc, .slice sa sn sc] 27)) ga gaps) := Lib.hid (hG.out.below hA)
  have hS : Hid (U16A (w.alloc (.cells #[.int .u32 x, .int .u32 y, .slice ga gn gc, .slice sa sn sc] 27)) sa sizes) := Lib.hid (hS.out.below hA)
  unfold maxLen at hgm hsm
  rw [HT.out]
  clear hg hs hM HT
  go_enter Try.func17, Try.ntmps17
  go_wp2_with fail
  go_loopw [3, 4, 5] (fun v t i wr => ∃ (k : Nat) (at_ : Int) (l : Tr), k ≤ M ∧ i = .int .i64 k ∧ t = .int .i64 at_ ∧ 0 ≤ at_ ∧ at_ ≤ k * 65535 ∧ l.length = k ∧ TrOwn wr (w.heap.size + 1) v l ∧ Below (w.heap.size + 1) (w.alloc (.cells #[.int .u32 x, .int .u32 y, .slice ga gn gc, .slice sa sn sc] 27)) wr ∧ Hid (at_ = gsum gaps k ∧ l = dtr gaps sizes k)) (fun _ _ i _ => M - (intOf i).toNat)
  case atStart => exact ⟨0, 0, [], Nat.zero_le _, rfl, rfl, by omega, by omega, rfl, TrOwn.nil _ _, Below.refl _ _, Lib.hid ⟨rfl, rfl⟩⟩
  case round =>
    obtain ⟨k, t, l, hk, rfl, rfl, t1, t2, hl, hO, hB, hpos⟩ := hrel
    have c2 := (hB.cell (p := ⟨w.heap.size, 2, none⟩) (by simp)).trans (show _ = some (.slice ga gn gc) by go_simp)
    have c3 := (hB.cell (p := ⟨w.heap.size, 3, none⟩) (by simp)).trans (show _ = some (.slice sa sn sc) by go_simp)
    have hz := cell_lt c2
    have hb16 := hB.size
    by_cases hlt : k < M
    · have hltS : (k : Int) < sn := by omega
      have hlt30 : (k : Int) < 30 := by omega
      have HXs : k < sizes.length := by rw [HS.out]; omega
      obtain ⟨sb, so, rfl, s1, s2, s3⟩ := hS.out.get (by simpa using hB) HXs
      have HK : Hid (∀ u, gsum gaps (k + 1) = u → l ++ [(u, 1 + sizes[k])] = dtr gaps sizes (k + 1)) := Lib.hid fun u h => by rw [← h, dtr, hpos.out.2, List.getElem?_eq_getElem HXs, Option.getD_some]
      have hsb := cell_lt s1
      generalize sizes[k] = s at *
      clear HXs
      by_cases hgk : k < gn
      · have hltG : (k : Int) < gn := by omega
        have HXg : k < gaps.length := by rw [HG.out]; exact hgk
        obtain ⟨gb', go, rfl, g1, g2, g3⟩ := hG.out.get (by simpa using hB) HXg
        have HU : Hid (t + gaps[k] = gsum gaps (k + 1)) := Lib.hid (by rw [gsum, List.getElem?_eq_getElem HXg, Option.getD_some, hpos.out.1])
        generalize gaps[k] = g at *
        have HK2 := Lib.hid (HK.out _ HU.out.symm)
        clear HXg HK hpos
        go_wp2_with (at_builtin; refine wpList_append_own _ rfl _ _ 42 rfl (w.heap.size + 1) 30 i0 (.agg #[.int .i64 0, .int .i64 0]) 2 16 Try.underlying42 hi hz0 hz1 hz2 rfl (by decide) _ _ _ rfl (World.ownsRow.alloc hO _) ⟨wr.heap.size, 0, none⟩ 1 1 [.int .i64 (t + g), .int .i64 (1 + s)] rfl rfl (news_two _ _ _ _) (by simp [Value.oneCell']) (by unfold maxLen; omega) (by omega) (by simp at hb16 ⊢; omega) ?_; intro v' w1 hown' hgrow _)
        have hO2 : TrOwn w1 (w.heap.size + 1) v' (l ++ [(t + g, 1 + s)]) := by
          unfold TrOwn
          rw [flat_append, List.length_append]
          exact hown'
        have hB2 := (hB.alloc (o := .cells #[.int .i64 (t + g), .int .i64 (1 + s)] 30) (by simp at hb16 ⊢; omega)).grown hgrow (by simp at hb16 ⊢; omega) (fun q e => (hO.lt q e).1)
        clear hown' hgrow
        go_wp2
        go_roundw
        case rel => exact ⟨k + 1, t + g, l ++ [(t + g, 1 + s)], by omega, by go_num, rfl, by omega, by omega, by simp [hl], hO2, hB2, Lib.hid ⟨HU.out, HK2.out⟩⟩
        case measure => simp [intOf]; omega
      · have hltG : ¬ (k : Int) < gn := by omega
        have HU : Hid (t = gsum gaps (k + 1)) := Lib.hid (by rw [gsum, List.getElem?_eq_none (by rw [HG.out]; omega), hpos.out.1]; simp)
        have HK2 := Lib.hid (HK.out _ HU.out.symm)
        clear HK hpos
        go_wp2_with (at_builtin; refine wpList_append_own _ rfl _ _ 42 rfl (w.heap.size + 1) 30 i0 (.agg #[.int .i64 0, .int .i64 0]) 2 16 Try.underlying42 hi hz0 hz1 hz2 rfl (by decide) _ _ _ rfl (World.ownsRow.alloc hO _) ⟨wr.heap.size, 0, none⟩ 1 1 [.int .i64 t, .int .i64 (1 + s)] rfl rfl (news_two _ _ _ _) (by simp [Value.oneCell']) (by unfold maxLen; omega) (by omega) (by simp at hb16 ⊢; omega) ?_; intro v' w1 hown' hgrow _)
        have hO2 : TrOwn w1 (w.heap.size + 1) v' (l ++ [(t, 1 + s)]) := by
          unfold TrOwn
          rw [flat_append, List.length_append]
          exact hown'
        have hB2 := (hB.alloc (o := .cells #[.int .i64 t, .int .i64 (1 + s)] 30) (by simp at hb16 ⊢; omega)).grown hgrow (by simp at hb16 ⊢; omega) (fun q e => (hO.lt q e).1)
        clear hown' hgrow
        go_wp2
        go_roundw
        case rel => exact ⟨k + 1, t, l ++ [(t, 1 + s)], by omega, by go_num, rfl, by omega, by omega, by simp [hl], hO2, hB2, Lib.hid ⟨HU.out, HK2.out⟩⟩
        case measure => simp [intOf]; omega
    · have hkM : k = M := by omega
      obtain rfl : l = dtr gaps sizes M := by rw [hpos.out.2, hkM]
      have H1 := hA.trans (hB.mono (by omega))
      obtain ⟨a, cap, hve, hc1, hc0, hc2, hc3⟩ := hO.see
      have hsp := Lib.hid (hO.spot hve)
      subst hve
      have hc2 := Lib.hid hc2
      have hc0 := Lib.hid hc0
      have hc3 := Lib.hid fun q e => (show w.heap.size ≤ q.block ∧ q.block < wr.heap.size from ⟨by have := (hc3 q e).1; omega, (hc3 q e).2⟩)
      clear hpos hO hB hl
      rcases hM3 with h3 | h3
      · have hltS : ¬ (k : Int) < sn := by omega
        go_wp2
        go_ret
        exact ⟨a, cap, rfl, hc1, hc0.out, hc2, hc3.out, H1, hsp.out⟩
      · have hlt30 : ¬ (k : Int) < 30 := by omega
        by_cases hltS : (k : Int) < sn
        · go_wp2
          go_ret
          exact ⟨a, cap, rfl, hc1, hc0.out, hc2, hc3.out, H1, hsp.out⟩
        · go_wp2
          go_ret
          exact ⟨a, cap, rfl, hc1, hc0.out, hc2, hc3.out, H1, hsp.out⟩
end Go.Proofs.Ytfbfnoiapeajeaa
