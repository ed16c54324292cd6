/- append(append([]Arrival{}, m...), x) in a region that draws its order: what holds in the middle of it. -/
import Derived.Test.YtfbfnoiapeajeaaBk13
import Derived.Test.YtfbfnoiapeajeaaRegion
namespace Go.Proofs.Ytfbfnoiapeajeaa
open Go.RowKit

theorem TrA.alloc {w : World} {a : Option Addr} {l : Tr} (h : TrA w a l) (o : Obj) : TrA (w.alloc o) a l := h.below ((Below.refl _ _).alloc (Nat.le_refl _) _) (Nat.le_refl _)
theorem TrA.grown {w w' : World} {a : Option Addr} {l : Tr} {row : Option Nat} (h : TrA w a l) (hg : w.grownBy w' row) (hne : ∀ q, a = some q → some q.block ≠ row) : TrA w' a l := fun k hk => by
  obtain ⟨b, o, e, h1, h2⟩ := h k hk
  have hb : some b ≠ row := hne _ e
  exact ⟨b, o, e, hg.cell h1 hb, hg.cell h2 hb⟩
theorem TrA.set {w : World} {a : Option Addr} {l : Tr} {c o : Nat} {v : Value} (h : TrA w a l) (hne : ∀ q, a = some q → q.block ≠ c) : TrA (w.setCell ⟨c, o, none⟩ v) a l := fun k hk => by
  obtain ⟨b, oo, e, h1, h2⟩ := h k hk
  have hb : b ≠ c := hne _ e
  have eq := Below.heap_setCell w ⟨c, o, none⟩ v b hb
  exact ⟨b, oo, e, (World.cell?_of_block (w := w) eq).trans h1, (World.cell?_of_block (w := w) eq).trans h2⟩
theorem tra_one (w : World) (x : Int × Int) (T : TypeId) : TrA (w.alloc (.cells #[.int .i64 x.1, .int .i64 x.2] T)) (some ⟨w.heap.size, 0, none⟩) [x] := fun k hk => by
  obtain rfl : k = 0 := by simpa using hk
  exact ⟨_, _, rfl, by go_simp, by go_simp⟩
structure AppT (w0 : World) (m : Tr) (x : Int × Int) (l0 l2 l7 l8 : Bool) (v18 v20 v25 v26 : Value) (wx : World) : Prop where
  bel : Below w0.heap.size w0 wx
  a : l0 = true → l2 = false → TrOwn wx w0.heap.size v18 []
  b : l2 = true → l8 = false → TrOwn wx w0.heap.size v20 m
  c : l7 = true → ∃ g, v25 = .slice (some ⟨g, 0, none⟩) 1 1 ∧ w0.heap.size ≤ g ∧ g < wx.heap.size ∧ TrA wx (some ⟨g, 0, none⟩) [x] ∧ (l0 = true → l2 = false → v18.ownBlock ≠ some g) ∧ (l2 = true → l8 = false → v20.ownBlock ≠ some g)
  d : l8 = true → TrOwn wx w0.heap.size v26 (m ++ [x])
  o : l8 = true → l2 = true ∧ l7 = true
theorem AppT.start (w0 : World) (m : Tr) (x : Int × Int) (v18 v20 v25 v26 : Value) : AppT w0 m x false false false false v18 v20 v25 v26 w0.drew :=
  ⟨(Below.refl _ _).drew, fun h => (by cases h), fun h => (by cases h), fun h => (by cases h), fun h => (by cases h), fun h => (by cases h)⟩
theorem AppT.op0 {w0 wx : World} {m : Tr} {x : Int × Int} {l2 l7 l8 : Bool} {v18 v20 v25 v26 : Value} (h : AppT w0 m x false l2 l7 l8 v18 v20 v25 v26 wx) :
    AppT w0 m x true l2 l7 l8 (.slice (some ⟨wx.heap.size, 0, none⟩) 0 0) v20 v25 v26 (wx.alloc (.cells #[] 30)) := by
  refine ⟨h.bel.alloc h.bel.size _, fun _ _ => World.ownsRow_made wx #[] 0 h.bel.size (by decide) rfl, fun p q => World.ownsRow.alloc (h.b p q) _, fun p => ?_, fun p => World.ownsRow.alloc (h.d p) _, h.o⟩
  obtain ⟨g, e, hg, hlt, hc, _, h2⟩ := h.c p
  exact ⟨g, e, hg, by simp; omega, hc.alloc _, fun _ _ e' => by simp [Value.ownBlock] at e'; omega, h2⟩
theorem AppT.op7 {w0 wx : World} {m : Tr} {x : Int × Int} {l0 l2 l8 : Bool} {v18 v20 v25 v26 : Value} (h : AppT w0 m x l0 l2 false l8 v18 v20 v25 v26 wx) :
    AppT w0 m x l0 l2 true l8 v18 v20 (.slice (some ⟨wx.heap.size, 0, none⟩) 1 1) v26 (wx.alloc (.cells #[.int .i64 x.1, .int .i64 x.2] 30)) := by
  refine ⟨h.bel.alloc h.bel.size _, fun p q => World.ownsRow.alloc (h.a p q) _, fun p q => World.ownsRow.alloc (h.b p q) _, fun _ => ?_, fun p => World.ownsRow.alloc (h.d p) _, fun p => ⟨(h.o p).1, rfl⟩⟩
  refine ⟨wx.heap.size, rfl, h.bel.size, by simp, tra_one _ _ _, fun p q e => ?_, fun p q e => ?_⟩
  · have := (World.ownsRow.lt (h.a p q) _ e).2; omega
  · have := (World.ownsRow.lt (h.b p q) _ e).2; omega
theorem AppT.op2 {w0 wx w' : World} {m : Tr} {x : Int × Int} {l7 l8 : Bool} {v18 v20 v25 v26 v' : Value} (h : AppT w0 m x true false l7 l8 v18 v20 v25 v26 wx)
    (h1 : TrOwn w' w0.heap.size v' ([] ++ m)) (h2 : wx.grownBy w' v18.ownBlock) (h3 : v'.ownBlock = v18.ownBlock ∨ v'.ownBlock = some wx.heap.size) :
    AppT w0 m x true true l7 l8 v18 v' v25 v26 w' := by
  have ha := h.a rfl rfl
  have hs := h2.size
  refine ⟨h.bel.grown h2 h.bel.size (fun k e => (World.ownsRow.lt ha k e).1), fun _ q => (by cases q), fun _ _ => (by simpa using h1), fun p => ?_, fun p => (by cases (h.o p).1), fun p => (by cases (h.o p).1)⟩
  obtain ⟨g, e, hg, hlt, hc, g1, _⟩ := h.c p
  have hne := g1 rfl rfl
  refine ⟨g, e, hg, by omega, hc.grown h2 (fun q e => by cases e; exact fun e => hne e.symm), fun _ q => (by cases q), fun _ _ e' => ?_⟩
  rcases h3 with h3 | h3
  · exact hne (h3 ▸ e')
  · rw [h3] at e'; cases e'; omega
theorem AppT.op8 {w0 wx w' : World} {m : Tr} {x : Int × Int} {l0 : Bool} {v18 v20 v25 v26 v' : Value} (h : AppT w0 m x l0 true true false v18 v20 v25 v26 wx)
    (h1 : TrOwn w' w0.heap.size v' (m ++ [x])) (h2 : wx.grownBy w' v20.ownBlock) :
    AppT w0 m x l0 true true true v18 v20 v25 v' w' := by
  have hb := h.b rfl rfl
  have hs := h2.size
  refine ⟨h.bel.grown h2 h.bel.size (fun k e => (World.ownsRow.lt hb k e).1), fun _ q => (by cases q), fun _ q => (by cases q), fun _ => ?_, fun _ => h1, fun _ => ⟨rfl, rfl⟩⟩
  obtain ⟨g, e, hg, hlt, hc, _, g2⟩ := h.c rfl
  exact ⟨g, e, hg, by omega, hc.grown h2 (fun q e => by cases e; exact fun e => g2 rfl rfl e.symm), fun _ q => (by cases q), fun _ q => (by cases q)⟩
end Go.Proofs.Ytfbfnoiapeajeaa
