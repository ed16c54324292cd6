/- The package bucket: First: what it computes. -/
import Derived.Test.YtfbfnoiapeajeaaBk6
namespace Go.Proofs.Ytfbfnoiapeajeaa
open Go.RowKit Go.Shelf
attribute [local go_sem] Oper.semAt_some

set_option maxHeartbeats 1000000 in
theorem levels_any (b r : Int) (a : Option Addr) (len cap : Nat) (w : World) :
    Calls Try.prog 38 #[.agg #[.int .i64 b, .int .i64 r], .slice a len cap] w fun e w' =>
      e = .returned (.func (.func 45) #[] #[.pointer (some ⟨w.heap.size, 0, none⟩), .pointer (some ⟨w.heap.size + 1, 0, none⟩)]) ∧ w' = (w.alloc (.cells #[.int .i64 b, .int .i64 r] 23)).alloc (.cells #[.slice a len cap] 42) := by
  go_enter Try.func38, Try.ntmps38
  go_wp2
  go_ret
  exact ⟨rfl, rfl⟩
theorem levels_stops (F : Fence) (n : Nat) (hf : F.fn 45) (hro : F.round = none) (hn1 : 1 ≤ n) (Bb Bs n₀ : Nat) (b r : Int) (a : Option Addr) (len cap : Nat) (l : Tr) (hb : okB b r = true) (ht : okT l = true) (hlen : l.length = len)
    (w : World) (hBb : Bb < n₀) (hBs' : Bs < n₀) (hn0 : n₀ ≤ w.heap.size) (hB0 : w.cell? ⟨Bb, 0, none⟩ = some (.int .i64 b)) (hB1 : w.cell? ⟨Bb, 1, none⟩ = some (.int .i64 r)) (hBs : w.cell? ⟨Bs, 0, none⟩ = some (.slice a len cap))
    (hc : ∀ k (h : k < l.length), ∃ bb o, a = some ⟨bb, o, none⟩ ∧ bb < n₀ ∧ w.cell? ⟨bb, o + k * 2, none⟩ = some (.int .i64 (l[k]).1) ∧ w.cell? ⟨bb, o + k * 2 + 1, none⟩ = some (.int .i64 (l[k]).2)) :
    SeqStopsK F n Try.prog 45 #[.pointer (some ⟨Bb, 0, none⟩), .pointer (some ⟨Bs, 0, none⟩)] (fun x : Nat × Int => #[Value.int .i64 (x.1 : Int), Value.int .i64 x.2]) (Below n₀) (fun ys => ys = upto (yV b r l) len)
      (fun pre => ∃ k, k ≤ len ∧ pre = upto (yV b r l) k) len w := fun lp J Jx W hW hJ _ hY h0 => by
  have hB : Below n₀ w W := hW.mono hn0
  refine levels1_in F n hf hro hn1 lp Bb Bs n₀ b r a len cap l hb ht hlen J Jx hY W hJ hBb (Nat.le_trans hn0 hW.size) ((hB.cell (p := ⟨Bb, 0, none⟩) hBb).trans hB0) ((hB.cell (p := ⟨Bb, 1, none⟩) hBb).trans hB1) ((hB.cell (p := ⟨Bs, 0, none⟩) hBs').trans hBs) ?_ h0
  exact Lib.hid fun k h => by
    obtain ⟨bb, o, e, h1, h2, h3⟩ := hc k h
    exact ⟨bb, o, e, h1, (hB.cell (p := ⟨bb, o + k * 2, none⟩) h1).trans h2, (hB.cell (p := ⟨bb, o + k * 2 + 1, none⟩) h1).trans h3⟩
set_option maxRecDepth 100000 in
set_option maxHeartbeats 2000000 in
theorem bfirst_ok (b r : Int) (a : Option Addr) (n cap : Nat) (l : Tr) (w : World) (hn : l.length = n) (hm : n ≤ 1000) (hc : Hid (TrA w a l)) (hb : okB b r = true) (ht : okT l = true) :
    Calls Try.prog 25 #[.agg #[.int .i64 b, .int .i64 r], .slice a n cap] w fun e w' => e = .returned (.tuple #[.int .i64 (firstV b r l), .int .i64 0]) ∧ Below w.heap.size w w' := by
  have K1 := Lib.hid fun w => bcheck_any b r w
  have K2 := Lib.hid fun w hc => btrace_any a n cap l w hn hm hc
  have e1 : eB b r = 0 := by unfold eB; rw [hb]; rfl
  have e2 : eT l = 0 := by unfold eT; rw [ht]; rfl
  rw [e1] at K1
  rw [e2] at K2
  have KS := Lib.hid fun F m hf hro hn1 Bb Bs n₀ w => levels_stops F m hf hro hn1 Bb Bs n₀ b r a n cap l hb ht hn w
  have HN := Lib.hid hn
  clear hn hm hb ht e1 e2
  refine (callsIn_wide (n := 3)).1 ?_
  refine callsIn_of_wp_marks Try.func25 rfl trivial ?_ rfl
  simp only [Try.ntmps25, List.size_toArray, List.length_cons, List.length_nil, Nat.reduceAdd, Nat.reduceSub, Array.replicate_succ, Array.replicate_zero, List.push_toArray, List.append_toArray, List.nil_append, List.cons_append]
  gi_wp2_with fail
  refine ⟨trivial, (callsIn_wide.2 (K1.out _)).mono ?_⟩
  rintro e w1 ⟨rfl, hb1⟩
  have H1 : Below w.heap.size w w1 := ((((Below.refl _ _).alloc (Nat.le_refl _) _).alloc (by simp) _).alloc (by simp; omega) _).trans (hb1.mono (by simp; omega))
  have hz1 : w.heap.size + 1 + 1 < w1.heap.size := by have := hb1.size; simp at this; omega
  have x1 : w1.cell? ⟨w.heap.size, 0, none⟩ = some (.int .i64 b) := (hb1.cell (p := ⟨w.heap.size, 0, none⟩) (by simp; omega)).trans (by go_simp)
  have x2 : w1.cell? ⟨w.heap.size, 1, none⟩ = some (.int .i64 r) := (hb1.cell (p := ⟨w.heap.size, 1, none⟩) (by simp; omega)).trans (by go_simp)
  have x3 : w1.cell? ⟨w.heap.size + 1, 0, none⟩ = some (.int .i64 0) := (hb1.cell (p := ⟨w.heap.size + 1, 0, none⟩) (by simp)).trans (by go_simp)
  have x4 : w1.cell? ⟨w.heap.size + 1 + 1, 0, none⟩ = some (.int .i64 0) := (hb1.cell (p := ⟨w.heap.size + 1 + 1, 0, none⟩) (by simp)).trans (by go_simp)
  have x5 : w1.frozen? ⟨w.heap.size + 1, 0, none⟩ = false := (hb1.frozen (p := ⟨w.heap.size + 1, 0, none⟩) (by simp)).trans (by go_simp)
  have x6 : w1.frozen? ⟨w.heap.size + 1 + 1, 0, none⟩ = false := (hb1.frozen (p := ⟨w.heap.size + 1 + 1, 0, none⟩) (by simp)).trans (by go_simp)
  clear hb1
  gi_wp2_with fail
  refine ⟨trivial, (callsIn_wide.2 (K2.out _ (Lib.hid (hc.out.below H1 (Nat.le_refl _))))).mono ?_⟩
  rintro e w2 ⟨rfl, hb2⟩
  have H2 := H1.trans (hb2.mono H1.size)
  have y1 := (hb2.cell (p := ⟨w.heap.size, 0, none⟩) (by simp; omega)).trans x1
  have y2 := (hb2.cell (p := ⟨w.heap.size, 1, none⟩) (by simp; omega)).trans x2
  have y3 := (hb2.cell (p := ⟨w.heap.size + 1, 0, none⟩) (by simp; omega)).trans x3
  have y4 := (hb2.cell (p := ⟨w.heap.size + 1 + 1, 0, none⟩) hz1).trans x4
  have y5 := (hb2.frozen (p := ⟨w.heap.size + 1, 0, none⟩) (by simp; omega)).trans x5
  have y6 := (hb2.frozen (p := ⟨w.heap.size + 1 + 1, 0, none⟩) hz1).trans x6
  have hz2 := Nat.lt_of_lt_of_le hz1 hb2.size
  clear hb2 x1 x2 x3 x4 x5 x6 H1 hz1
  gi_wp2_with fail
  refine ⟨trivial, (callsIn_wide.2 (levels_any _ _ _ _ _ _)).mono ?_⟩
  rintro e w3 ⟨rfl, hw3⟩
  gi_wp2_with fail
  have hB0 : Below w.heap.size w ((w2.alloc (.cells #[.int .i64 b, .int .i64 r] 23)).alloc (.cells #[.slice a n cap] 42)) := (H2.alloc H2.size _).alloc (by have := H2.size; simp; omega) _
  rw [← hw3] at hB0 ⊢
  have g0 : w3.heap.size = w2.heap.size + 2 := by rw [hw3]; simp
  have g1 : w3.cell? ⟨w2.heap.size, 0, none⟩ = some (.int .i64 b) := by rw [hw3]; go_simp
  have g2 : w3.cell? ⟨w2.heap.size, 1, none⟩ = some (.int .i64 r) := by rw [hw3]; go_simp
  have g3 : w3.cell? ⟨w2.heap.size + 1, 0, none⟩ = some (.slice a n cap) := by rw [hw3]; go_simp
  have hb23 : Below w2.heap.size w2 w3 := by rw [hw3]; exact ((Below.refl _ _).alloc (Nat.le_refl _) _).alloc (by simp) _
  have z3 := (hb23.cell (p := ⟨w.heap.size + 1, 0, none⟩) (by simp; omega)).trans y3
  have z4 := (hb23.cell (p := ⟨w.heap.size + 1 + 1, 0, none⟩) hz2).trans y4
  have z5 := (hb23.frozen (p := ⟨w.heap.size + 1, 0, none⟩) (by simp; omega)).trans y5
  have z6 := (hb23.frozen (p := ⟨w.heap.size + 1 + 1, 0, none⟩) hz2).trans y6
  have hcs : ∀ k (h : k < l.length), ∃ bb o, a = some ⟨bb, o, none⟩ ∧ bb < w3.heap.size ∧ w3.cell? ⟨bb, o + k * 2, none⟩ = some (.int .i64 (l[k]).1) ∧ w3.cell? ⟨bb, o + k * 2 + 1, none⟩ = some (.int .i64 (l[k]).2) := fun k h => by
    obtain ⟨bb, o, e, h1, h2, h3⟩ := hc.out.get hB0 h
    exact ⟨bb, o, e, Nat.lt_of_lt_of_le h1 hB0.size, h2, h3⟩
  have hst := KS.out Fence.wide (3 - 1) trivial rfl (by omega) w2.heap.size (w2.heap.size + 1) w3.heap.size w3 (by omega) (by omega) (Nat.le_refl _) g1 g2 g3 hcs
  have hzz := hB0.size
  clear hw3 H2 y1 y2 y3 y4 y5 y6 K1 K2 KS hb23
  refine wpIn_rangeFunc_ownG (F := Fence.wide) rfl (by omega) (gf := 45) (lb := #[.pointer (some ⟨w2.heap.size, 0, none⟩), .pointer (some ⟨w2.heap.size + 1, 0, none⟩)]) rfl trivial (enters_of Try.func45 (by kernel_rfl) rfl)
    hst belowK_t (belowK_b (Nat.le_refl _)) (Below.refl _ _) (fun _ => rfl)
    (fun pre W => ((∀ p ∈ pre, 0 ≤ p.2) ∧ W.cell? ⟨w.heap.size + 1, 0, none⟩ = some (.int .i64 0) ∧ W.frozen? ⟨w.heap.size + 1, 0, none⟩ = false ∧ W.cell? ⟨w.heap.size + 1 + 1, 0, none⟩ = some (.int .i64 0) ∧ W.frozen? ⟨w.heap.size + 1 + 1, 0, none⟩ = false) ∧ Below w.heap.size w W)
    (fun c pre W => (c = .ret ∧ ∃ ini last, pre = ini ++ [last] ∧ (∀ p ∈ ini, 0 ≤ p.2) ∧ last.2 < 0 ∧ W.cell? ⟨w.heap.size + 1, 0, none⟩ = some (.int .i64 (last.1 : Int)) ∧ W.cell? ⟨w.heap.size + 1 + 1, 0, none⟩ = some (.int .i64 0)) ∧ Below w.heap.size w W)
    (OwnFrom.and (Own.from (fun s A B row hs hg hr => ⟨hs.1, cell_kept hs.2.1 hg hr, (frozen_kept hs.2.1 hg hr).trans hs.2.2.1, cell_kept hs.2.2.2.1 hg hr, (frozen_kept hs.2.2.2.1 hg hr).trans hs.2.2.2.2⟩) _) (ownFrom_below (Nat.le_refl _) hzz))
    (fun c => OwnFrom.and (Own.from (fun s A B row hs hg hr => by obtain ⟨hc, ini, last, e1, e2, e3, e4, e5⟩ := hs; exact ⟨hc, ini, last, e1, e2, e3, cell_kept e4 hg hr, cell_kept e5 hg hr⟩) _) (ownFrom_below (Nat.le_refl _) hzz))
    ⟨⟨by simp, z3, z5, z4, z6⟩, hB0⟩
    (fun x => { tmps := #[.agg #[.int .i64 b, .int .i64 r], .slice a n cap, .pointer (some ⟨w.heap.size, 0, none⟩), undef, .pointer (some ⟨w.heap.size + 1, 0, none⟩), .pointer (some ⟨w.heap.size + 1 + 1, 0, none⟩), .int .i64 0, .int .i64 0, .int .i64 (x.1 : Int), .int .i64 x.2, .agg #[.int .i64 b, .int .i64 r], .int .i64 0, .int .i64 0, .bool false, undef, .slice a n cap, .int .i64 0, .int .i64 0, .bool false, undef, .agg #[.int .i64 b, .int .i64 r], .slice a n cap, .func (.func 45) #[] #[.pointer (some ⟨w2.heap.size, 0, none⟩), .pointer (some ⟨w2.heap.size + 1, 0, none⟩)], .int .i64 (x.1 : Int), .int .i64 x.2, undef, undef, undef], defers := [] }) ?assign ?body ?done ?stop
  case assign =>
    intro l x W K hK
    gi_wp2
    exact hK
  case body =>
    rintro l pre x W ⟨⟨hp, hc1, hf1, hc2, hf2⟩, hB⟩ _
    gi_wp2
    · have hx : x.2 < 0 := by assumption
      refine ⟨((KeepsOthers.setCell _ _ _).trans (KeepsOthers.setCell _ _ _)).from _, ⟨rfl, pre, x, rfl, hp, hx, ?_, ?_⟩, (hB.setCell (p := ⟨w.heap.size + 1, 0, none⟩) (by simp) _).setCell (p := ⟨w.heap.size + 1 + 1, 0, none⟩) (by simp; omega) _⟩
      · go_simp
      · go_simp
    · have hx : 0 ≤ x.2 := by assumption
      exact ⟨KeepsFrom.refl _ _, Below.refl _ _, ⟨fun p hp' => (List.mem_append.1 hp').elim (hp p) (fun e => by simp at e; subst e; exact hx), hc1, hf1, hc2, hf2⟩, hB⟩
  case done =>
    rintro D ys W hD rfl ⟨⟨hne, hc1, hf1, hc2, hf2⟩, hB⟩ hK
    have HR := Lib.hid (first_none (b := b) (r := r) (l := l) fun j hj => hne (yV b r l j) (by simp only [upto, List.mem_map, List.mem_range]; exact ⟨j, by have := HN.out; omega, rfl⟩))
    clear hne
    gi_wp2
    have hK' := ((KeepsOthers.setCell W ⟨w.heap.size + 1, 0, none⟩ (.int .i64 (-1))).trans (KeepsOthers.setCell _ ⟨w.heap.size + 1 + 1, 0, none⟩ (.int .i64 0))).same D _ hK rfl
    refine ⟨by simp, .inl ⟨_, _, rfl, run_takeDeferred hK', ?_⟩⟩
    have v1 : ((W.setCell ⟨w.heap.size + 1, 0, none⟩ (.int .i64 (-1))).setCell ⟨w.heap.size + 1 + 1, 0, none⟩ (.int .i64 0)).cell? ⟨w.heap.size + 1, 0, none⟩ = some (.int .i64 (-1)) := by go_simp
    have v2 : ((W.setCell ⟨w.heap.size + 1, 0, none⟩ (.int .i64 (-1))).setCell ⟨w.heap.size + 1 + 1, 0, none⟩ (.int .i64 0)).cell? ⟨w.heap.size + 1 + 1, 0, none⟩ = some (.int .i64 0) := by go_simp
    have hc5 := cell_kept v1 (grownBy_putObj' _ D (.deferred none)) (fun r e => by cases e; exact ⟨_, hK', rfl⟩)
    have hc6 := cell_kept v2 (grownBy_putObj' _ D (.deferred none)) (fun r e => by cases e; exact ⟨_, hK', rfl⟩)
    refine ⟨.tuple #[.int .i64 (-1), .int .i64 0], ?_, ret_int2 HR.out.symm rfl, ((hB.setCell (p := ⟨w.heap.size + 1, 0, none⟩) (by simp) _).setCell (p := ⟨w.heap.size + 1 + 1, 0, none⟩) (by simp; omega) _).trans (belowK_b (w := w) (Nat.le_refl _) _ D _ _ (Nat.le_trans hzz hD) hK' rfl rfl)⟩
    simp [results, Try.f25, go_sem, hc5, hc6]
  case stop =>
    rintro D c pre W hD ⟨k, hk, rfl⟩ ⟨⟨rfl, ini, last, e1, e2, e3, hc1, hc2⟩, hB⟩ hK
    obtain ⟨k', rfl⟩ : ∃ k', k = k' + 1 := by
      cases k with
      | zero => simp [upto] at e1
      | succ k' => exact ⟨k', rfl⟩
    rw [upto_succ] at e1
    obtain ⟨rfl, e5⟩ := List.append_inj' e1 rfl
    obtain rfl : yV b r l k' = last := by simpa using e5
    have HR := Lib.hid (first_some (b := b) (r := r) (l := l) (k := k') (by have := HN.out; omega) (fun j hj => e2 (yV b r l j) (by simp only [upto, List.mem_map, List.mem_range]; exact ⟨j, hj, rfl⟩)) e3)
    have hc1 : W.cell? ⟨w.heap.size + 1, 0, none⟩ = some (.int .i64 k') := hc1
    clear e1 e2 e3 e5
    gi_wp2
    refine ⟨by simp, .inl ⟨_, _, rfl, run_takeDeferred hK, ?_⟩⟩
    have hc5 := cell_kept hc1 (grownBy_putObj' _ D (.deferred none)) (fun r e => by cases e; exact ⟨_, hK, rfl⟩)
    have hc6 := cell_kept hc2 (grownBy_putObj' _ D (.deferred none)) (fun r e => by cases e; exact ⟨_, hK, rfl⟩)
    refine ⟨.tuple #[.int .i64 k', .int .i64 0], ?_, ret_int2 HR.out.symm rfl, hB.trans (belowK_b (w := w) (Nat.le_refl _) W D _ _ (Nat.le_trans hzz hD) hK rfl rfl)⟩
    simp [results, Try.f25, go_sem, hc5, hc6]
end Go.Proofs.Ytfbfnoiapeajeaa
