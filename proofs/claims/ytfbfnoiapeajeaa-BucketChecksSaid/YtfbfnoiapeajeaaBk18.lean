/- The chapter's examples of bucket: works returns true. -/
import Derived.Test.YtfbfnoiapeajeaaBk17
import Derived.Test.YtfbfnoiapeajeaaRegion2
import Derived.Laws.StructEq
namespace Go.Proofs.Ytfbfnoiapeajeaa
open Go.RowKit

theorem wp_gen {P : Program} {c : Code} {Q : Exit → Act → World → Prop} {a : Act} {W : World} (h : ∀ w, w = W → c.wp P Q a w) : c.wp P Q a W := h _ rfl
theorem tra_new (l : Tr) (w : World) (T : TypeId) : TrA (w.alloc (.cells (flat l).toArray T)) (some ⟨w.heap.size, 0, none⟩) l := fun k hk => by
  obtain ⟨f1, f2⟩ := flat_get l k hk
  refine ⟨_, _, rfl, ?_, ?_⟩
  · unfold World.cell?
    rw [World.alloc_heap_new]
    simpa using f1
  · unfold World.cell?
    rw [World.alloc_heap_new]
    simpa using f2
theorem ints_new (l : List Int) (w : World) (T : TypeId) : IntsA (w.alloc (.cells (l.map (Value.int .i64)).toArray T)) (some ⟨w.heap.size, 0, none⟩) l := fun k hk => by
  refine ⟨_, _, rfl, ?_⟩
  unfold World.cell?
  rw [World.alloc_heap_new]
  simp [hk]
theorem IntsA.below {w w' : World} {a : Option Addr} {l : List Int} (h : IntsA w a l) (hb : Below w.heap.size w w') : IntsA w' a l := fun k hk => by
  obtain ⟨b, o, e, _, h1⟩ := h.get hb hk
  exact ⟨b, o, e, h1⟩
theorem TrA.next {w w' : World} {a : Option Addr} {l : Tr} (h : TrA w a l) (hb : Below w.heap.size w w') : TrA w' a l := h.below hb (Nat.le_refl _)
theorem ctrace (zs : List Int) {l : Tr} (h : pairsV zs = l) (hm : zs.length ≤ 100) (g cap : Nat) (w : World) (hc : IntsA w (some ⟨g, 0, none⟩) zs) :
    Calls Try.prog 31 #[.slice (some ⟨g, 0, none⟩) zs.length cap] w (RetTr w l) := by
  rw [← h]
  exact trace_any _ _ cap zs w rfl hm (Lib.hid hc)
theorem cfits (b r : Int) (l : Tr) {v : Bool} (h : confV b r l = v) (a : Option Addr) (c : Nat) (w : World) (hl : l.length ≤ 1000) (hc : TrA w a l) :
    Calls Try.prog 30 #[.agg #[.int .i64 b, .int .i64 r], .slice a l.length c] w fun e w' => e = .returned (.bool v) ∧ Below w.heap.size w w' := by
  rw [← h]
  exact fits2_any b r a _ c l w rfl hl (Lib.hid hc)
theorem cfirst (b r : Int) (l : Tr) (m : Int) {v : Bool} (h : fisV b r l m = v) (a : Option Addr) (c : Nat) (w : World) (hl : l.length ≤ 1000) (hc : TrA w a l) :
    Calls Try.prog 29 #[.agg #[.int .i64 b, .int .i64 r], .slice a l.length c, .int .i64 m] w fun e w' => e = .returned (.bool v) ∧ Below w.heap.size w w' := by
  rw [← h]
  exact first2_any b r a _ c l m w rfl hl (Lib.hid hc)
theorem cwithin (b r t : Int) {v e0 : Int} (h1 : wV b r t = v) (h2 : wE b r t = e0) (w : World) :
    Calls Try.prog 13 #[.agg #[.int .i64 b, .int .i64 r], .int .i64 t] w fun e w' => e = .returned (.tuple #[.int .i64 v, .int .i64 e0]) ∧ Below w.heap.size w w' := by
  rw [← h1, ← h2]
  exact bwithin_any b r t w
theorem csum (l : Tr) {x y e0 : Int} (h : sumR l = (x, y, e0)) (a : Option Addr) (c : Nat) (w : World) (hl : l.length ≤ 1000) (hc : TrA w a l) :
    Calls Try.prog 11 #[.slice a l.length c] w fun e w' => e = .returned (.tuple #[.agg #[.int .i64 x, .int .i64 y], .int .i64 e0]) ∧ Below w.heap.size w w' := by
  have := bsum_any a _ c l w rfl hl (Lib.hid hc)
  rw [h] at this
  exact this
theorem cleast (r : Int) (l : Tr) {v e0 : Int} (h1 : lstV r l = v) (h2 : eL r l = e0) (a : Option Addr) (c : Nat) (w : World) (hl : l.length ≤ 1000) (hc : TrA w a l) :
    Calls Try.prog 27 #[.int .i64 r, .slice a l.length c] w fun e w' => e = .returned (.tuple #[.int .i64 v, .int .i64 e0]) ∧ Below w.heap.size w w' := by
  rw [← h1, ← h2]
  exact bleast_any r a _ c l w rfl hl (Lib.hid hc)
set_option maxRecDepth 100000 in
set_option maxHeartbeats 4000000 in
theorem works03 (w : World) : Calls Try.prog 21 #[] w fun e w' => e = .returned (.bool true) ∧ Below w.heap.size w w' := by
  go_enter Try.func21, Try.ntmps21
  go_wp2_with fail
  refine wp_gen ?_
  rintro w1 hg1
  have hz1_0 : w.heap.size < w1.heap.size := by rw [hg1]; simp <;> omega
  have s1_0_0 : w1.cell? ⟨w.heap.size, 0, none⟩ = some (.int .i64 1000) := by rw [hg1]; go_simp
  have s1_0_1 : w1.cell? ⟨w.heap.size, 1, none⟩ = some (.int .i64 131072) := by rw [hg1]; go_simp
  have H1 : Below w.heap.size w w1 := by rw [hg1]; exact ((Below.refl _ _).alloc (Nat.le_refl _) _)
  clear hg1
  refine wp_region_gput (R := Nat × (Option Addr) × Nat × Nat × (Option Addr) × Nat × Nat × (Option Addr) × Nat) [18, 19, 20, 21, 22, 23, 24, 25, 26, 27, 28, 29, 30, 31, 32, 33, 34, 2]
    (fun rr => [.agg #[.int .i64 1000, .int .i64 131072], .slice (some ⟨rr.1, 0, none⟩) 4 4, .slice rr.2.1 2 rr.2.2.1, .bool true, .bool true, .agg #[.int .i64 1000, .int .i64 131072], .slice (some ⟨rr.2.2.2.1, 0, none⟩) 4 4, .slice rr.2.2.2.2.1 2 rr.2.2.2.2.2.1, .bool false, .bool true, .bool true, .bool true, .agg #[.int .i64 1000, .int .i64 131072], .slice (some ⟨rr.2.2.2.2.2.2.1, 0, none⟩) 4 4, .slice rr.2.2.2.2.2.2.2.1 2 rr.2.2.2.2.2.2.2.2, .bool true, .bool true, .bool true])
    (fun L rr wx => Below w1.heap.size w1 wx ∧ (L 1 = true → IntsA wx (some ⟨rr.1, 0, none⟩) [0, 600, 0, 400]) ∧ (L 2 = true → TrA wx rr.2.1 [(0, 600), (0, 400)]) ∧ (L 6 = true → IntsA wx (some ⟨rr.2.2.2.1, 0, none⟩) [0, 600, 0, 401]) ∧ (L 7 = true → TrA wx rr.2.2.2.2.1 [(0, 600), (0, 401)]) ∧ (L 13 = true → IntsA wx (some ⟨rr.2.2.2.2.2.2.1, 0, none⟩) [0, 1000, 800, 100]) ∧ (L 14 = true → TrA wx rr.2.2.2.2.2.2.2.1 [(0, 1000), (800, 100)]))
    (by kernel_rfl) (by kernel_rfl) (by kernel_rfl) (0, none, 0, 0, none, 0, 0, none, 0) ?_ ?_ ?_
  · exact ⟨(Below.refl _ _).drew, fun h => absurd h (by decide), fun h => absurd h (by decide), fun h => absurd h (by decide), fun h => absurd h (by decide), fun h => absurd h (by decide), fun h => absurd h (by decide)⟩
  · simp only [putAll, Act.put, List.setIfInBounds_toArray, List.set_cons_succ, List.set_cons_zero]
    refine ⟨?_, ?_, ?_, ?_, ?_, ?_, ?_, ?_, ?_, ?_, ?_, ?_, ?_, ?_, ?_, ?_, ?_, ?_, trivial⟩
    all_goals
      rintro L ⟨g1, a1, c1, g2, a2, c2, g3, a3, c3⟩ wx K hLi hdep ⟨hB, h1, h2, h6, h7, h13, h14⟩ hK
      try dsimp only at h1 h2 h6 h7 h13 h14
      have hBs := hB.size
      have f0 := (hB.cell (p := ⟨w.heap.size, 0, none⟩) hz1_0).trans s1_0_0
      have f1 := (hB.cell (p := ⟨w.heap.size, 1, none⟩) hz1_0).trans s1_0_1
    · refine .inl ⟨by rfl, ?_⟩
      go_simp
      exact hK (g1, a1, c1, g2, a2, c2, g3, a3, c3) wx ⟨hB, by simpa using h1, by simpa using h2, by simpa using h6, by simpa using h7, by simpa using h13, by simpa using h14⟩
    · refine .inl ⟨by rfl, ?_⟩
      go_simp
      have hbA := fun o => (Below.refl wx.heap.size wx).alloc (Nat.le_refl _) o
      exact hK (wx.heap.size, a1, c1, g2, a2, c2, g3, a3, c3) _ ⟨(hB.alloc hBs _), fun _ => ints_new [0, 600, 0, 400] wx _, fun h => (h2 (by simpa using h)).next (hbA _), fun h => (h6 (by simpa using h)).below (hbA _), fun h => (h7 (by simpa using h)).next (hbA _), fun h => (h13 (by simpa using h)).below (hbA _), fun h => (h14 (by simpa using h)).next (hbA _)⟩
    · have p1 := h1 (hdep ⟨1, .data⟩ (by simp) rfl)
      refine .inl ⟨by rfl, ?_⟩
      go_simp
      refine (ctrace [0, 600, 0, 400] (l := [(0, 600), (0, 400)]) (by decide +kernel) (by decide) g1 4 wx p1).mono ?_
      rintro e w' ⟨a1', c1', rfl, _, _, qt, _, hb, _⟩
      exact hK (g1, a1', c1', g2, a2, c2, g3, a3, c3) w' ⟨(hB.trans (hb.mono hBs)), fun h => (h1 (by simpa using h)).below hb, fun _ => qt.out, fun h => (h6 (by simpa using h)).below hb, fun h => (h7 (by simpa using h)).next hb, fun h => (h13 (by simpa using h)).below hb, fun h => (h14 (by simpa using h)).next hb⟩
    · have p2 := h2 (hdep ⟨2, .data⟩ (by simp) rfl)
      refine .inl ⟨by rfl, ?_⟩
      go_simp
      refine (cfits 1000 131072 [(0, 600), (0, 400)] (v := true) (by decide +kernel) a1 c1 wx (by decide) p2).mono ?_
      rintro e w' ⟨rfl, hb⟩
      exact hK (g1, a1, c1, g2, a2, c2, g3, a3, c3) w' ⟨(hB.trans (hb.mono hBs)), fun h => (h1 (by simpa using h)).below hb, fun h => (h2 (by simpa using h)).next hb, fun h => (h6 (by simpa using h)).below hb, fun h => (h7 (by simpa using h)).next hb, fun h => (h13 (by simpa using h)).below hb, fun h => (h14 (by simpa using h)).next hb⟩
    · refine .inl ⟨by rfl, ?_⟩
      go_simp
      exact hK (g1, a1, c1, g2, a2, c2, g3, a3, c3) wx ⟨hB, by simpa using h1, by simpa using h2, by simpa using h6, by simpa using h7, by simpa using h13, by simpa using h14⟩
    · refine .inl ⟨by rfl, ?_⟩
      go_simp
      exact hK (g1, a1, c1, g2, a2, c2, g3, a3, c3) wx ⟨hB, by simpa using h1, by simpa using h2, by simpa using h6, by simpa using h7, by simpa using h13, by simpa using h14⟩
    · refine .inl ⟨by rfl, ?_⟩
      go_simp
      have hbA := fun o => (Below.refl wx.heap.size wx).alloc (Nat.le_refl _) o
      exact hK (g1, a1, c1, wx.heap.size, a2, c2, g3, a3, c3) _ ⟨(hB.alloc hBs _), fun h => (h1 (by simpa using h)).below (hbA _), fun h => (h2 (by simpa using h)).next (hbA _), fun _ => ints_new [0, 600, 0, 401] wx _, fun h => (h7 (by simpa using h)).next (hbA _), fun h => (h13 (by simpa using h)).below (hbA _), fun h => (h14 (by simpa using h)).next (hbA _)⟩
    · have p6 := h6 (hdep ⟨6, .data⟩ (by simp) rfl)
      refine .inl ⟨by rfl, ?_⟩
      go_simp
      refine (ctrace [0, 600, 0, 401] (l := [(0, 600), (0, 401)]) (by decide +kernel) (by decide) g2 4 wx p6).mono ?_
      rintro e w' ⟨a2', c2', rfl, _, _, qt, _, hb, _⟩
      exact hK (g1, a1, c1, g2, a2', c2', g3, a3, c3) w' ⟨(hB.trans (hb.mono hBs)), fun h => (h1 (by simpa using h)).below hb, fun h => (h2 (by simpa using h)).next hb, fun h => (h6 (by simpa using h)).below hb, fun _ => qt.out, fun h => (h13 (by simpa using h)).below hb, fun h => (h14 (by simpa using h)).next hb⟩
    · have p7 := h7 (hdep ⟨7, .data⟩ (by simp) rfl)
      refine .inl ⟨by rfl, ?_⟩
      go_simp
      refine (cfits 1000 131072 [(0, 600), (0, 401)] (v := false) (by decide +kernel) a2 c2 wx (by decide) p7).mono ?_
      rintro e w' ⟨rfl, hb⟩
      exact hK (g1, a1, c1, g2, a2, c2, g3, a3, c3) w' ⟨(hB.trans (hb.mono hBs)), fun h => (h1 (by simpa using h)).below hb, fun h => (h2 (by simpa using h)).next hb, fun h => (h6 (by simpa using h)).below hb, fun h => (h7 (by simpa using h)).next hb, fun h => (h13 (by simpa using h)).below hb, fun h => (h14 (by simpa using h)).next hb⟩
    · refine .inl ⟨by rfl, ?_⟩
      go_simp
      exact hK (g1, a1, c1, g2, a2, c2, g3, a3, c3) wx ⟨hB, by simpa using h1, by simpa using h2, by simpa using h6, by simpa using h7, by simpa using h13, by simpa using h14⟩
    · refine .inl ⟨by rfl, ?_⟩
      go_simp
      exact hK (g1, a1, c1, g2, a2, c2, g3, a3, c3) wx ⟨hB, by simpa using h1, by simpa using h2, by simpa using h6, by simpa using h7, by simpa using h13, by simpa using h14⟩
    · refine .inl ⟨by rfl, ?_⟩
      go_simp
      exact hK (g1, a1, c1, g2, a2, c2, g3, a3, c3) wx ⟨hB, by simpa using h1, by simpa using h2, by simpa using h6, by simpa using h7, by simpa using h13, by simpa using h14⟩
    · refine .inl ⟨by rfl, ?_⟩
      go_simp
      exact hK (g1, a1, c1, g2, a2, c2, g3, a3, c3) wx ⟨hB, by simpa using h1, by simpa using h2, by simpa using h6, by simpa using h7, by simpa using h13, by simpa using h14⟩
    · refine .inl ⟨by rfl, ?_⟩
      go_simp
      have hbA := fun o => (Below.refl wx.heap.size wx).alloc (Nat.le_refl _) o
      exact hK (g1, a1, c1, g2, a2, c2, wx.heap.size, a3, c3) _ ⟨(hB.alloc hBs _), fun h => (h1 (by simpa using h)).below (hbA _), fun h => (h2 (by simpa using h)).next (hbA _), fun h => (h6 (by simpa using h)).below (hbA _), fun h => (h7 (by simpa using h)).next (hbA _), fun _ => ints_new [0, 1000, 800, 100] wx _, fun h => (h14 (by simpa using h)).next (hbA _)⟩
    · have p13 := h13 (hdep ⟨13, .data⟩ (by simp) rfl)
      refine .inl ⟨by rfl, ?_⟩
      go_simp
      refine (ctrace [0, 1000, 800, 100] (l := [(0, 1000), (800, 100)]) (by decide +kernel) (by decide) g3 4 wx p13).mono ?_
      rintro e w' ⟨a3', c3', rfl, _, _, qt, _, hb, _⟩
      exact hK (g1, a1, c1, g2, a2, c2, g3, a3', c3') w' ⟨(hB.trans (hb.mono hBs)), fun h => (h1 (by simpa using h)).below hb, fun h => (h2 (by simpa using h)).next hb, fun h => (h6 (by simpa using h)).below hb, fun h => (h7 (by simpa using h)).next hb, fun h => (h13 (by simpa using h)).below hb, fun _ => qt.out⟩
    · have p14 := h14 (hdep ⟨14, .data⟩ (by simp) rfl)
      refine .inl ⟨by rfl, ?_⟩
      go_simp
      refine (cfits 1000 131072 [(0, 1000), (800, 100)] (v := true) (by decide +kernel) a3 c3 wx (by decide) p14).mono ?_
      rintro e w' ⟨rfl, hb⟩
      exact hK (g1, a1, c1, g2, a2, c2, g3, a3, c3) w' ⟨(hB.trans (hb.mono hBs)), fun h => (h1 (by simpa using h)).below hb, fun h => (h2 (by simpa using h)).next hb, fun h => (h6 (by simpa using h)).below hb, fun h => (h7 (by simpa using h)).next hb, fun h => (h13 (by simpa using h)).below hb, fun h => (h14 (by simpa using h)).next hb⟩
    · refine .inl ⟨by rfl, ?_⟩
      go_simp
      exact hK (g1, a1, c1, g2, a2, c2, g3, a3, c3) wx ⟨hB, by simpa using h1, by simpa using h2, by simpa using h6, by simpa using h7, by simpa using h13, by simpa using h14⟩
    · refine .inl ⟨by rfl, ?_⟩
      go_simp
      exact hK (g1, a1, c1, g2, a2, c2, g3, a3, c3) wx ⟨hB, by simpa using h1, by simpa using h2, by simpa using h6, by simpa using h7, by simpa using h13, by simpa using h14⟩
  rintro ⟨g1, a1, c1, g2, a2, c2, g3, a3, c3⟩ w2 ⟨hb2, q1, q2, q6, q7, q13, q14⟩
  replace q1 := q1 rfl
  replace q2 := q2 rfl
  replace q6 := q6 rfl
  replace q7 := q7 rfl
  replace q13 := q13 rfl
  replace q14 := q14 rfl
  try dsimp only at q1 q2 q6 q7 q13 q14
  simp only [putAll, Act.put, List.setIfInBounds_toArray, List.set_cons_succ, List.set_cons_zero]
  have hz2_0 := Nat.lt_of_lt_of_le hz1_0 hb2.size
  have s2_0_0 := (hb2.cell (p := ⟨w.heap.size, 0, none⟩) hz1_0).trans s1_0_0
  have s2_0_1 := (hb2.cell (p := ⟨w.heap.size, 1, none⟩) hz1_0).trans s1_0_1
  have H2 := H1.trans (hb2.mono H1.size)
  clear hz1_0 s1_0_0 s1_0_1 hb2 H1
  clear q1 q2 q6 q7 q13 q14
  go_wp2_with fail
  refine wp_region_gput (R := Nat × (Option Addr) × Nat × Nat × (Option Addr) × Nat) [35, 36, 37, 38, 39, 40, 41, 42, 43, 44, 45, 46, 47, 48, 3]
    (fun rr => [.agg #[.int .i64 1000, .int .i64 131072], .slice (some ⟨rr.1, 0, none⟩) 4 4, .slice rr.2.1 2 rr.2.2.1, .bool true, .bool true, .agg #[.int .i64 1000, .int .i64 131072], .slice (some ⟨rr.2.2.2.1, 0, none⟩) 6 6, .slice rr.2.2.2.2.1 3 rr.2.2.2.2.2, .bool true, .bool true, .bool true, .agg #[.int .i64 1000, .int .i64 131072], .bool true, .bool true, .bool true])
    (fun L rr wx => Below w2.heap.size w2 wx ∧ (L 1 = true → IntsA wx (some ⟨rr.1, 0, none⟩) [0, 1000, 7, 1]) ∧ (L 2 = true → TrA wx rr.2.1 [(0, 1000), (7, 1)]) ∧ (L 6 = true → IntsA wx (some ⟨rr.2.2.2.1, 0, none⟩) [0, 1000, 8, 1, 8, 1]) ∧ (L 7 = true → TrA wx rr.2.2.2.2.1 [(0, 1000), (8, 1), (8, 1)]))
    (by kernel_rfl) (by kernel_rfl) (by kernel_rfl) (0, none, 0, 0, none, 0) ?_ ?_ ?_
  · exact ⟨(Below.refl _ _).drew, fun h => absurd h (by decide), fun h => absurd h (by decide), fun h => absurd h (by decide), fun h => absurd h (by decide)⟩
  · simp only [putAll, Act.put, List.setIfInBounds_toArray, List.set_cons_succ, List.set_cons_zero]
    refine ⟨?_, ?_, ?_, ?_, ?_, ?_, ?_, ?_, ?_, ?_, ?_, ?_, ?_, ?_, ?_, trivial⟩
    all_goals
      rintro L ⟨g4, a4, c4, g5, a5, c5⟩ wx K hLi hdep ⟨hB, h1, h2, h6, h7⟩ hK
      try dsimp only at h1 h2 h6 h7
      have hBs := hB.size
      have f0 := (hB.cell (p := ⟨w.heap.size, 0, none⟩) hz2_0).trans s2_0_0
      have f1 := (hB.cell (p := ⟨w.heap.size, 1, none⟩) hz2_0).trans s2_0_1
    · refine .inl ⟨by rfl, ?_⟩
      go_simp
      exact hK (g4, a4, c4, g5, a5, c5) wx ⟨hB, by simpa using h1, by simpa using h2, by simpa using h6, by simpa using h7⟩
    · refine .inl ⟨by rfl, ?_⟩
      go_simp
      have hbA := fun o => (Below.refl wx.heap.size wx).alloc (Nat.le_refl _) o
      exact hK (wx.heap.size, a4, c4, g5, a5, c5) _ ⟨(hB.alloc hBs _), fun _ => ints_new [0, 1000, 7, 1] wx _, fun h => (h2 (by simpa using h)).next (hbA _), fun h => (h6 (by simpa using h)).below (hbA _), fun h => (h7 (by simpa using h)).next (hbA _)⟩
    · have p1 := h1 (hdep ⟨1, .data⟩ (by simp) rfl)
      refine .inl ⟨by rfl, ?_⟩
      go_simp
      refine (ctrace [0, 1000, 7, 1] (l := [(0, 1000), (7, 1)]) (by decide +kernel) (by decide) g4 4 wx p1).mono ?_
      rintro e w' ⟨a4', c4', rfl, _, _, qt, _, hb, _⟩
      exact hK (g4, a4', c4', g5, a5, c5) w' ⟨(hB.trans (hb.mono hBs)), fun h => (h1 (by simpa using h)).below hb, fun _ => qt.out, fun h => (h6 (by simpa using h)).below hb, fun h => (h7 (by simpa using h)).next hb⟩
    · have p2 := h2 (hdep ⟨2, .data⟩ (by simp) rfl)
      refine .inl ⟨by rfl, ?_⟩
      go_simp
      refine (cfirst 1000 131072 [(0, 1000), (7, 1)] 1 (v := true) (by decide +kernel) a4 c4 wx (by decide) p2).mono ?_
      rintro e w' ⟨rfl, hb⟩
      exact hK (g4, a4, c4, g5, a5, c5) w' ⟨(hB.trans (hb.mono hBs)), fun h => (h1 (by simpa using h)).below hb, fun h => (h2 (by simpa using h)).next hb, fun h => (h6 (by simpa using h)).below hb, fun h => (h7 (by simpa using h)).next hb⟩
    · refine .inl ⟨by rfl, ?_⟩
      go_simp
      exact hK (g4, a4, c4, g5, a5, c5) wx ⟨hB, by simpa using h1, by simpa using h2, by simpa using h6, by simpa using h7⟩
    · refine .inl ⟨by rfl, ?_⟩
      go_simp
      exact hK (g4, a4, c4, g5, a5, c5) wx ⟨hB, by simpa using h1, by simpa using h2, by simpa using h6, by simpa using h7⟩
    · refine .inl ⟨by rfl, ?_⟩
      go_simp
      have hbA := fun o => (Below.refl wx.heap.size wx).alloc (Nat.le_refl _) o
      exact hK (g4, a4, c4, wx.heap.size, a5, c5) _ ⟨(hB.alloc hBs _), fun h => (h1 (by simpa using h)).below (hbA _), fun h => (h2 (by simpa using h)).next (hbA _), fun _ => ints_new [0, 1000, 8, 1, 8, 1] wx _, fun h => (h7 (by simpa using h)).next (hbA _)⟩
    · have p6 := h6 (hdep ⟨6, .data⟩ (by simp) rfl)
      refine .inl ⟨by rfl, ?_⟩
      go_simp
      refine (ctrace [0, 1000, 8, 1, 8, 1] (l := [(0, 1000), (8, 1), (8, 1)]) (by decide +kernel) (by decide) g5 6 wx p6).mono ?_
      rintro e w' ⟨a5', c5', rfl, _, _, qt, _, hb, _⟩
      exact hK (g4, a4, c4, g5, a5', c5') w' ⟨(hB.trans (hb.mono hBs)), fun h => (h1 (by simpa using h)).below hb, fun h => (h2 (by simpa using h)).next hb, fun h => (h6 (by simpa using h)).below hb, fun _ => qt.out⟩
    · have p7 := h7 (hdep ⟨7, .data⟩ (by simp) rfl)
      refine .inl ⟨by rfl, ?_⟩
      go_simp
      refine (cfirst 1000 131072 [(0, 1000), (8, 1), (8, 1)] 2 (v := true) (by decide +kernel) a5 c5 wx (by decide) p7).mono ?_
      rintro e w' ⟨rfl, hb⟩
      exact hK (g4, a4, c4, g5, a5, c5) w' ⟨(hB.trans (hb.mono hBs)), fun h => (h1 (by simpa using h)).below hb, fun h => (h2 (by simpa using h)).next hb, fun h => (h6 (by simpa using h)).below hb, fun h => (h7 (by simpa using h)).next hb⟩
    · refine .inl ⟨by rfl, ?_⟩
      go_simp
      exact hK (g4, a4, c4, g5, a5, c5) wx ⟨hB, by simpa using h1, by simpa using h2, by simpa using h6, by simpa using h7⟩
    · refine .inl ⟨by rfl, ?_⟩
      go_simp
      exact hK (g4, a4, c4, g5, a5, c5) wx ⟨hB, by simpa using h1, by simpa using h2, by simpa using h6, by simpa using h7⟩
    · refine .inl ⟨by rfl, ?_⟩
      go_simp
      exact hK (g4, a4, c4, g5, a5, c5) wx ⟨hB, by simpa using h1, by simpa using h2, by simpa using h6, by simpa using h7⟩
    · refine .inl ⟨by rfl, ?_⟩
      go_simp
      refine (cfirst 1000 131072 [] (-1) (v := true) (by decide +kernel) none 0 wx (by decide) (TrA.nil _)).mono ?_
      rintro e w' ⟨rfl, hb⟩
      exact hK (g4, a4, c4, g5, a5, c5) w' ⟨(hB.trans (hb.mono hBs)), fun h => (h1 (by simpa using h)).below hb, fun h => (h2 (by simpa using h)).next hb, fun h => (h6 (by simpa using h)).below hb, fun h => (h7 (by simpa using h)).next hb⟩
    · refine .inl ⟨by rfl, ?_⟩
      go_simp
      exact hK (g4, a4, c4, g5, a5, c5) wx ⟨hB, by simpa using h1, by simpa using h2, by simpa using h6, by simpa using h7⟩
    · refine .inl ⟨by rfl, ?_⟩
      go_simp
      exact hK (g4, a4, c4, g5, a5, c5) wx ⟨hB, by simpa using h1, by simpa using h2, by simpa using h6, by simpa using h7⟩
  rintro ⟨g4, a4, c4, g5, a5, c5⟩ w3 ⟨hb3, q1, q2, q6, q7⟩
  replace q1 := q1 rfl
  replace q2 := q2 rfl
  replace q6 := q6 rfl
  replace q7 := q7 rfl
  try dsimp only at q1 q2 q6 q7
  simp only [putAll, Act.put, List.setIfInBounds_toArray, List.set_cons_succ, List.set_cons_zero]
  have hz3_0 := Nat.lt_of_lt_of_le hz2_0 hb3.size
  have s3_0_0 := (hb3.cell (p := ⟨w.heap.size, 0, none⟩) hz2_0).trans s2_0_0
  have s3_0_1 := (hb3.cell (p := ⟨w.heap.size, 1, none⟩) hz2_0).trans s2_0_1
  have H3 := H2.trans (hb3.mono H2.size)
  clear hz2_0 s2_0_0 s2_0_1 hb3 H2
  clear q1 q2 q6 q7
  go_wp2_with fail
  refine (cwithin 1000 131072 0 (v := 1000) (e0 := 0) (by decide +kernel) (by decide +kernel) _).mono ?_
  rintro e w4 ⟨rfl, hb4⟩
  have hz4_0 := Nat.lt_of_lt_of_le hz3_0 hb4.size
  have s4_0_0 := (hb4.cell (p := ⟨w.heap.size, 0, none⟩) hz3_0).trans s3_0_0
  have s4_0_1 := (hb4.cell (p := ⟨w.heap.size, 1, none⟩) hz3_0).trans s3_0_1
  have H4 := H3.trans (hb4.mono H3.size)
  clear hz3_0 s3_0_0 s3_0_1 hb4 H3
  go_wp2_with fail
  refine (cwithin 1000 131072 15 (v := 1001) (e0 := 0) (by decide +kernel) (by decide +kernel) _).mono ?_
  rintro e w5 ⟨rfl, hb5⟩
  have hz5_0 := Nat.lt_of_lt_of_le hz4_0 hb5.size
  have s5_0_0 := (hb5.cell (p := ⟨w.heap.size, 0, none⟩) hz4_0).trans s4_0_0
  have s5_0_1 := (hb5.cell (p := ⟨w.heap.size, 1, none⟩) hz4_0).trans s4_0_1
  have H5 := H4.trans (hb5.mono H4.size)
  clear hz4_0 s4_0_0 s4_0_1 hb5 H4
  go_wp2_with fail
  refine (cwithin 1000 131072 16 (v := 1002) (e0 := 0) (by decide +kernel) (by decide +kernel) _).mono ?_
  rintro e w6 ⟨rfl, hb6⟩
  have hz6_0 := Nat.lt_of_lt_of_le hz5_0 hb6.size
  have s6_0_0 := (hb6.cell (p := ⟨w.heap.size, 0, none⟩) hz5_0).trans s5_0_0
  have s6_0_1 := (hb6.cell (p := ⟨w.heap.size, 1, none⟩) hz5_0).trans s5_0_1
  have H6 := H5.trans (hb6.mono H5.size)
  clear hz5_0 s5_0_0 s5_0_1 hb6 H5
  go_wp2_with fail
  have hT := tra_new [(1000, 131072), (24, 1048576)] w6 23
  refine (csum [(1000, 131072), (24, 1048576)] (x := 1024) (y := 1179648) (e0 := 0) (by decide +kernel) _ 2 _ (by decide) hT).mono ?_
  rintro e w7 ⟨rfl, hb7⟩
  have hz7_0 : w.heap.size < w7.heap.size := by have := hb7.size; simp at this; omega
  have s7_0_0 : w7.cell? ⟨w.heap.size, 0, none⟩ = some (.int .i64 1000) := (hb7.cell (p := ⟨w.heap.size, 0, none⟩) (by simp <;> omega)).trans (by go_simp)
  have s7_0_1 : w7.cell? ⟨w.heap.size, 1, none⟩ = some (.int .i64 131072) := (hb7.cell (p := ⟨w.heap.size, 1, none⟩) (by simp <;> omega)).trans (by go_simp)
  have H7 : Below w.heap.size w w7 := (H6.alloc H6.size _).trans (hb7.mono (by have := H6.size; simp <;> omega))
  clear hz6_0 s6_0_0 s6_0_1 hb7 H6
  clear hT
  go_wp2_with fail
  have hT := ints_new [0, 100, 80, 100, 80, 100] (w7.alloc (.cells #[.int .i64 1024, .int .i64 1179648] 23)) 3
  rw [World.size_alloc] at hT
  refine (ctrace [0, 100, 80, 100, 80, 100] (l := [(0, 100), (80, 100), (80, 100)]) (by decide +kernel) (by decide) _ 6 _ hT).mono ?_
  rintro e w8 ⟨a6, c6, rfl, _, _, qt, _, hb8, _⟩
  have hz8_0 : w.heap.size < w8.heap.size := by have := hb8.size; simp at this; omega
  have s8_0_0 : w8.cell? ⟨w.heap.size, 0, none⟩ = some (.int .i64 1000) := (hb8.cell (p := ⟨w.heap.size, 0, none⟩) (by simp <;> omega)).trans (by go_simp)
  have s8_0_1 : w8.cell? ⟨w.heap.size, 1, none⟩ = some (.int .i64 131072) := (hb8.cell (p := ⟨w.heap.size, 1, none⟩) (by simp <;> omega)).trans (by go_simp)
  have hz8_1 : w7.heap.size < w8.heap.size := by have := hb8.size; simp at this; omega
  have s8_1_0 : w8.cell? ⟨w7.heap.size, 0, none⟩ = some (.int .i64 1024) := (hb8.cell (p := ⟨w7.heap.size, 0, none⟩) (by simp <;> omega)).trans (by go_simp)
  have s8_1_1 : w8.cell? ⟨w7.heap.size, 1, none⟩ = some (.int .i64 1179648) := (hb8.cell (p := ⟨w7.heap.size, 1, none⟩) (by simp <;> omega)).trans (by go_simp)
  have H8 : Below w.heap.size w w8 := ((H7.alloc H7.size _).alloc (by have := H7.size; simp <;> omega) _).trans (hb8.mono (by have := H7.size; simp <;> omega))
  clear hT
  go_wp2_with fail
  refine (cleast 131072 [(0, 100), (80, 100), (80, 100)] (v := 290) (e0 := 0) (by decide +kernel) (by decide +kernel) a6 c6 _ (by decide) qt.out).mono ?_
  rintro e w9 ⟨rfl, hb9⟩
  have hz9_0 := Nat.lt_of_lt_of_le hz8_0 hb9.size
  have s9_0_0 := (hb9.cell (p := ⟨w.heap.size, 0, none⟩) hz8_0).trans s8_0_0
  have s9_0_1 := (hb9.cell (p := ⟨w.heap.size, 1, none⟩) hz8_0).trans s8_0_1
  have hz9_1 := Nat.lt_of_lt_of_le hz8_1 hb9.size
  have s9_1_0 := (hb9.cell (p := ⟨w7.heap.size, 0, none⟩) hz8_1).trans s8_1_0
  have s9_1_1 := (hb9.cell (p := ⟨w7.heap.size, 1, none⟩) hz8_1).trans s8_1_1
  have H9 := H8.trans (hb9.mono H8.size)
  clear hz8_0 s8_0_0 s8_0_1 hz8_1 s8_1_0 s8_1_1 hb9 H8
  clear qt
  go_wp2_with fail
  refine (cleast 131072 [] (v := 1) (e0 := 0) (by decide +kernel) (by decide +kernel) none 0 _ (by decide) (TrA.nil _)).mono ?_
  rintro e w10 ⟨rfl, hb10⟩
  have hz10_0 := Nat.lt_of_lt_of_le hz9_0 hb10.size
  have s10_0_0 := (hb10.cell (p := ⟨w.heap.size, 0, none⟩) hz9_0).trans s9_0_0
  have s10_0_1 := (hb10.cell (p := ⟨w.heap.size, 1, none⟩) hz9_0).trans s9_0_1
  have hz10_1 := Nat.lt_of_lt_of_le hz9_1 hb10.size
  have s10_1_0 := (hb10.cell (p := ⟨w7.heap.size, 0, none⟩) hz9_1).trans s9_1_0
  have s10_1_1 := (hb10.cell (p := ⟨w7.heap.size, 1, none⟩) hz9_1).trans s9_1_1
  have H10 := H9.trans (hb10.mono H9.size)
  clear hz9_0 s9_0_0 s9_0_1 hz9_1 s9_1_0 s9_1_1 hb10 H9
  go_wp2
  go_ret
  exact ⟨rfl, H10⟩
end Go.Proofs.Ytfbfnoiapeajeaa
