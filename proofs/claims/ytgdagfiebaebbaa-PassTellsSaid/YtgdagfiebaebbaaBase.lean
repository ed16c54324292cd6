/- Small lemmas for the walks: endings, what a call leaves of the world. -/
import Derived.Test.YtgdagfiebaebbaaProg
import Derived.WalkKit
import Derived.WalkSpells
import Derived.WalkLawsBesides
import Derived.Lib.Hide
import Derived.BigQuiet
import Derived.Deep.QuietTactic
namespace Go.Proofs.Ytgdagfiebaebbaa
open Go.RowKit

def inR (n : Int) : Bool := decide (-1125899906842624 ≤ n) && decide (n ≤ 1125899906842624)
def allR : List Int → Bool
  | [] => true
  | z :: r => inR z && allR r

theorem ret_bool {a b : Bool} (h : a = b) : Ending.returned (.bool a) = .returned (.bool b) := by rw [h]
theorem ret_int {k : IntKind} {a b : Int} (h : a = b) : Ending.returned (.int k a) = .returned (.int k b) := by rw [h]
theorem ret_int2 {k l : IntKind} {a b c d : Int} (h : a = b) (h' : c = d) : Ending.returned (.tuple #[.int k a, .int l c]) = .returned (.tuple #[.int k b, .int l d]) := by rw [h, h']
theorem ret_ib {k : IntKind} {a b : Int} {c d : Bool} (h : a = b) (h' : c = d) : Ending.returned (.tuple #[.int k a, .bool c]) = .returned (.tuple #[.int k b, .bool d]) := by rw [h, h']
theorem allR_append (a b : List Int) : allR (a ++ b) = (allR a && allR b) := by
  induction a with
  | nil => simp [allR]
  | cons x a ih => simp [allR, ih, Bool.and_assoc]
theorem allR_snoc (zs : List Int) (k : Nat) (h : k < zs.length) : allR (zs.take (k + 1)) = (allR (zs.take k) && inR (zs[k]?.getD 0)) := by
  rw [List.take_succ_eq_append_getElem h, allR_append]; simp [allR, h]
theorem allR_out {zs : List Int} {k : Nat} {z : Int} (hs : allR (zs.take (k + 1)) = (allR (zs.take k) && inR z)) (hz : inR z = false) : allR zs = false := by
  rw [← List.take_append_drop (k + 1) zs, allR_append, hs, hz]; simp

/-- What a call leaves: of what was there nothing has turned. -/
theorem below_drewN (w : World) (n B : Nat) : Below B w (w.drewN n) := ⟨rfl, rfl, rfl, Nat.le_refl _, fun _ _ => rfl⟩
theorem bcell {W w1 : World} (hb : Below W.heap.size W w1) : (∀ b o, b < W.heap.size → w1.cell? ⟨b, o, none⟩ = W.cell? ⟨b, o, none⟩) ∧ (∀ b o, b < W.heap.size → w1.frozen? ⟨b, o, none⟩ = W.frozen? ⟨b, o, none⟩) :=
  ⟨fun b o h => hb.cell (p := ⟨b, o, none⟩) h, fun b o h => hb.frozen (p := ⟨b, o, none⟩) h⟩
/-- Two cells that a region reads, kept by a call. -/
theorem heldA {W w1 w2 : World} {a1 a2 : Addr} {v1 v2 : Value} (h : w1.cell? a1 = some v1 ∧ w1.cell? a2 = some v2 ∧ Below W.heap.size W w1) (hb : Below w1.heap.size w1 w2)
    (h1 : a1.block < W.heap.size) (h2 : a2.block < W.heap.size) : w2.cell? a1 = some v1 ∧ w2.cell? a2 = some v2 ∧ Below W.heap.size W w2 :=
  ⟨(hb.cell (Nat.lt_of_lt_of_le h1 h.2.2.size)).trans h.1, (hb.cell (Nat.lt_of_lt_of_le h2 h.2.2.size)).trans h.2.1, h.2.2.trans (hb.mono h.2.2.size)⟩
/-- The worlds in which all that lay in W lies unturned: the class in which a region that draws its order is walked once. -/
structure Bw (W : World) where
  w : World
  h : Below W.heap.size W w
instance bwInh (W : World) : Inhabited (Bw W) := ⟨⟨W, Below.refl _ _⟩⟩
theorem Calls.bw_of {P : Program} {f : FuncId} {args : Array Value} {W : World} {p : Bw W} {v : Value}
    (h : Calls P f args p.w fun e w' => e = .returned v ∧ Below p.w.heap.size p.w w') : Calls P f args p.w fun e w'' => e = .returned v ∧ ∃ q : Bw W, w'' = q.w :=
  h.mono fun _ _ ⟨he, hb⟩ => ⟨he, ⟨_, p.h.trans (hb.mono p.h.size)⟩, rfl⟩
theorem Calls.bw_same {P : Program} {f : FuncId} {args : Array Value} {W : World} {p : Bw W} {v : Value}
    (h : Calls P f args p.w fun e w' => e = .returned v ∧ w' = p.w) : Calls P f args p.w fun e w'' => e = .returned v ∧ ∃ q : Bw W, w'' = q.w :=
  h.mono fun _ _ ⟨he, hb⟩ => ⟨he, p, hb⟩
theorem wp_region_bw {P : Program} {id : Nat} {Q : Exit → Act → World → Prop} {a : Act} {w : World} {l : List Oper} (hm : P.follows .mixedOrders = true) (hB : Region.lexB .any l.toArray = true)
    (h : wpQuiet P l.toArray (fun w' => ∃ p : Bw w, w' = p.w) (fun a' => ∀ w', (∃ p : Bw w, w' = p.w) → Q .normal a' w') l a) : (Code.region id l.toArray true).wp P Q a w :=
  wp_region_quiet (C := fun w' => ∃ p : Bw w, w' = p.w) hm hB ⟨⟨w.drew, (Below.refl _ _).drew⟩, rfl⟩ (by simpa using h)
theorem Bw.cell {W : World} {b o : Nat} {v : Value} (hb : b < W.heap.size) (h : W.cell? ⟨b, o, none⟩ = some v) (p : Bw W) : p.w.cell? ⟨b, o, none⟩ = some v :=
  (p.h.cell (p := ⟨b, o, none⟩) hb).trans h
/-- Division with the floor, by uniqueness. -/
theorem ediv_eq {x c q : Int} (h : 0 < c) (h1 : q * c ≤ x) (h2 : x < (q + 1) * c) : x / c = q :=
  Int.le_antisymm (Int.le_of_lt_add_one (Int.ediv_lt_of_lt_mul h h2)) ((Int.le_ediv_iff_mul_le h).2 h1)
theorem ediv_bd (x : Int) {c : Int} (h : 0 < c) : x / c * c ≤ x ∧ x < x / c * c + c := by
  have e := Int.mul_ediv_add_emod x c
  have m0 := Int.emod_nonneg x (show c ≠ 0 by omega)
  have m1 := Int.emod_lt_of_pos x h
  rw [Int.mul_comm] at e
  omega
end Go.Proofs.Ytgdagfiebaebbaa
