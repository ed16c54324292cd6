/- Blocks that a drawn region makes and fills: what holds in the middle of it. -/
import Derived.Test.YtgdagfiebaebbaaRegion2
namespace Go.Proofs.Ytgdagfiebaebbaa
open Go.RowKit

/-- Only block p has turned. -/
structure But (p : Nat) (w w' : World) : Prop where
  blk : ∀ b, b ≠ p → w'.heap[b]? = w.heap[b]?
  size : w'.heap.size = w.heap.size
theorem But.cell {p : Nat} {w w' : World} (h : But p w w') {b o : Nat} (hne : b ≠ p) : w'.cell? ⟨b, o, none⟩ = w.cell? ⟨b, o, none⟩ := World.cell?_of_block (h.blk b hne)
theorem But.frozen {p : Nat} {w w' : World} (h : But p w w') {b o : Nat} (hne : b ≠ p) : w'.frozen? ⟨b, o, none⟩ = w.frozen? ⟨b, o, none⟩ := World.frozen?_of_block (h.blk b hne)
/-- The cells vs stored from offset k on. -/
def setAll (w : World) (p : Nat) : Nat → List Value → World
  | _, [] => w
  | k, v :: vs => setAll (w.setCell ⟨p, k, none⟩ v) p (k + 1) vs
theorem setAll_but (p : Nat) : ∀ (vs : List Value) (w : World) (k : Nat), But p w (setAll w p k vs)
  | [], _, _ => ⟨fun _ _ => rfl, rfl⟩
  | v :: vs, w, k => by
    have h := setAll_but p vs (w.setCell ⟨p, k, none⟩ v) (k + 1)
    exact ⟨fun b hb => (h.blk b hb).trans (Below.heap_setCell w ⟨p, k, none⟩ v b hb), h.size.trans (by simp [World.setCell])⟩
theorem setAll_below (p B : Nat) (hB : B ≤ p) : ∀ (vs : List Value) (w : World) (k : Nat), Below B w (setAll w p k vs)
  | [], w, _ => Below.refl _ _
  | v :: vs, w, k => ((Below.refl B w).setCell (p := ⟨p, k, none⟩) hB v).trans (setAll_below p B hB vs _ (k + 1))
theorem setAll_low (p o : Nat) : ∀ (vs : List Value) (w : World) (k : Nat), o < k → (setAll w p k vs).cell? ⟨p, o, none⟩ = w.cell? ⟨p, o, none⟩
  | [], _, _, _ => rfl
  | v :: vs, w, k, h => (setAll_low p o vs _ (k + 1) (by omega)).trans (World.cell?_setCell_other _ _ _ _ (fun e => by cases e; omega))
theorem setAll_frozen (p o : Nat) : ∀ (vs : List Value) (w : World) (k : Nat), (setAll w p k vs).frozen? ⟨p, o, none⟩ = w.frozen? ⟨p, o, none⟩
  | [], _, _ => rfl
  | v :: vs, w, k => (setAll_frozen p o vs _ (k + 1)).trans (World.frozen?_setCell _ _ _ _)
theorem setAll_cell (p : Nat) : ∀ (vs : List Value) (w : World) (k : Nat), (∀ j, j < vs.length → ∃ u, w.cell? ⟨p, k + j, none⟩ = some u) → ∀ j, j < vs.length → (setAll w p k vs).cell? ⟨p, k + j, none⟩ = vs[j]?
  | [], _, _, _, j, hj => by simp at hj
  | v :: vs, w, k, hc, j, hj => by
    rw [setAll]
    cases j with
    | zero =>
      rw [Nat.add_zero]
      refine (setAll_low p k vs _ (k + 1) (by omega)).trans ?_
      obtain ⟨u, hu⟩ := hc 0 (by simp)
      exact World.cell?_setCell_same' _ _ _ (by rw [show (⟨p, k, none⟩ : Addr) = ⟨p, k + 0, none⟩ from rfl, hu]; rfl)
    | succ j =>
      rw [show k + (j + 1) = k + 1 + j by omega, List.getElem?_cons_succ]
      refine setAll_cell p vs _ (k + 1) (fun i hi => ?_) j (by simpa using hj)
      obtain ⟨u, hu⟩ := hc (i + 1) (by simpa using hi)
      refine ⟨u, ?_⟩
      rw [World.cell?_setCell_other _ _ _ _ (fun e => by simp at e), show k + 1 + i = k + (i + 1) by omega]
      exact hu
/-- A block of the region's own: nothing before it is made (l), zeros (z) before the store (s). -/
def OwnC (B p : Nat) (l s : Bool) (z v : List Value) (w : World) : Prop :=
  (s = true → l = true) ∧ (l = true → B ≤ p ∧ p < w.heap.size ∧ ∀ k, k < v.length → w.cell? ⟨p, k, none⟩ = (if s then v else z)[k]? ∧ w.frozen? ⟨p, k, none⟩ = false)
theorem OwnC.start (B p : Nat) (z v : List Value) (w : World) : OwnC B p false false z v w := ⟨fun h => (by cases h), fun h => (by cases h)⟩
theorem OwnC.below {B p : Nat} {l s : Bool} {z v : List Value} {w w' : World} (h : OwnC B p l s z v w) (hb : Below w.heap.size w w') : OwnC B p l s z v w' :=
  ⟨h.1, fun hl => by
    obtain ⟨h1, h2, h3⟩ := h.2 hl
    exact ⟨h1, Nat.lt_of_lt_of_le h2 hb.size, fun k hk => ⟨(hb.cell (p := ⟨p, k, none⟩) h2).trans (h3 k hk).1, (hb.frozen (p := ⟨p, k, none⟩) h2).trans (h3 k hk).2⟩⟩⟩
theorem OwnC.but {B p c : Nat} {l s : Bool} {z v : List Value} {w w' : World} (h : OwnC B p l s z v w) (hb : But c w w') (hne : l = true → p ≠ c) : OwnC B p l s z v w' :=
  ⟨h.1, fun hl => by
    obtain ⟨h1, h2, h3⟩ := h.2 hl
    exact ⟨h1, by rw [hb.size]; exact h2, fun k hk => ⟨(hb.cell (hne hl)).trans (h3 k hk).1, (hb.frozen (hne hl)).trans (h3 k hk).2⟩⟩⟩
theorem OwnC.make {B : Nat} {z v : List Value} {w : World} (T : TypeId) (hB : B ≤ w.heap.size) : OwnC B w.heap.size true false z v (w.alloc (.cells z.toArray T)) := by
  refine ⟨fun _ => rfl, fun _ => ⟨hB, by simp, fun k hk => ⟨?_, ?_⟩⟩⟩
  · unfold World.cell?
    rw [heap_alloc_new]
    simp
  · unfold World.frozen?
    rw [heap_alloc_new]
    simp
theorem OwnC.fill {B p : Nat} {z v : List Value} {w : World} (h : OwnC B p true false z v w) (hz : z.length = v.length) : OwnC B p true true z v (setAll w p 0 v) := by
  obtain ⟨h1, h2, h3⟩ := h.2 rfl
  refine ⟨fun _ => rfl, fun _ => ⟨h1, by rw [(setAll_but p v w 0).size]; exact h2, fun k hk => ⟨?_, ?_⟩⟩⟩
  · have := setAll_cell p v w 0 (fun j hj => ?_) k hk
    · rw [Nat.zero_add] at this; exact this
    · have e := (h3 j hj).1
      rw [Nat.zero_add, e]
      simp only [Bool.false_eq_true, if_false]
      exact ⟨z[j]'(by omega), List.getElem?_eq_getElem (by omega)⟩
  · rw [setAll_frozen]; exact (h3 k hk).2
theorem OwnC.at0 {B p : Nat} {z v : List Value} {w : World} (h : OwnC B p true true z v w) {k : Nat} {u : Value} (hu : v[k]? = some u) : w.cell? ⟨p, k, none⟩ = some u := by
  obtain ⟨h1, h2, h3⟩ := h.2 rfl
  have hk : k < v.length := (List.getElem?_eq_some_iff.1 hu).1
  exact (h3 k hk).1.trans hu
end Go.Proofs.Ytgdagfiebaebbaa
