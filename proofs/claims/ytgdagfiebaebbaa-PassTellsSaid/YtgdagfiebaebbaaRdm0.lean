/- The reference of layer 10: the message of a draft. -/
import Derived.Test.YtgdagfiebaebbaaWorks14
import Derived.Test.YtgdagfiebaebbaaPass11
namespace Go.Proofs.Ytgdagfiebaebbaa
open Go.RowKit

def updM (v : Nat → Int) (j : Nat) (x : Int) : Nat → Int := fun i => if i = j then x else v i
theorem MsgAt.put {w : World} {B : Nat} {v : Nat → Int} (h : MsgAt w B v) (j : Nat) (x : Int) (hj : j < 17) : MsgAt (w.setCell ⟨B, j, none⟩ (.int .i64 x)) B (updM v j x) := fun i hi => by
  constructor
  · unfold updM
    by_cases e : i = j
    · subst e
      rw [if_pos rfl]
      exact World.cell?_setCell_same _ _ _ (h i hi).1
    · rw [if_neg e, World.cell?_setCell_other _ _ _ _ (fun q => e (by cases q; rfl))]
      exact (h i hi).1
  · rw [World.frozen?_setCell]; exact (h i hi).2
theorem MsgAt.away {w : World} {B C : Nat} {v : Nat → Int} (h : MsgAt w B v) (hne : B ≠ C) (j : Nat) (z : Value) : MsgAt (w.setCell ⟨C, j, none⟩ z) B v := fun i hi => by
  constructor
  · rw [World.cell?_setCell_other _ _ _ _ (fun q => hne (by cases q; rfl))]; exact (h i hi).1
  · rw [World.frozen?_setCell]; exact (h i hi).2
theorem results_cell1 {P : Program} {fn : Func} {a : Tmp} {ty : TypeId} (h : fn.results = #[.cell a ty]) (tmps : Array Value) {w : World} {p : Addr} {v : Value} (hp : tmps.getD a undef = .pointer (some p)) (hl : (loadVar ty p).run P w = .ok v w) :
    (results fn tmps).run P w = .ok v w := by
  have hp2 : tmps[a]?.getD undef = .pointer (some p) := by simpa using hp
  simp [results, h, hp2, hl, asAddr]
theorem then_gen {K : Exit → Act → World → Prop} {Q : Act → World → Prop} {e : Exit} {a : Act} {W : World} (h : ∀ w, w = W → Exit.then Q K e a w) : Exit.then Q K e a W := h _ rfl
theorem MsgAt.drew {w : World} {B : Nat} {v : Nat → Int} (h : MsgAt w B v) : MsgAt w.drew B v := fun j hj => by
  simpa using h j hj
theorem tmodK (x : Int) (h : 0 ≤ x) : ∃ k : Nat, k < 6 ∧ x.tmod 6 = k := by
  rw [Int.tmod_eq_emod_of_nonneg h]
  have h1 := Int.emod_nonneg x (show (6 : Int) ≠ 0 by omega)
  have h2 := Int.emod_lt_of_pos x (show (0 : Int) < 6 by omega)
  exact ⟨(x % 6).toNat, by omega, by omega⟩
end Go.Proofs.Ytgdagfiebaebbaa
