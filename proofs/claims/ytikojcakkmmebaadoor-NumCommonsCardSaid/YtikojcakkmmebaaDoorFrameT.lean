/- The frame of every tied law of this seat: what the listed table gives the walks. -/
import Derived.Test.YtikojcakkmmebaaDoorFrame
import Derived.Test.YtikojcakkmmebaaDoorTie
import Derived.Test.YtikojcakkmmebaaDoorCards
import Derived.Test.YtikojcakkmmebaaDoorGcd
import Derived.LaidMore
import Derived.Stop.Joined
import Derived.SevenTiedAt
namespace Go.Proofs.YtikojcakkmmebaaDoor
open Go.ChangeShapes Go.WideShapes Go.ChangeAt Go.RowKit Go.Joins

def laidL : List (String × DataW Unit) := [("math/bits.deBruijn64tab", Rows.laid_math_bits_deBruijn64tab)]
theorem gTab : Tryd.prog.globalNamed "math/bits.deBruijn64tab" = some 2 := by kernel_rfl
theorem tTab : (Tryd.prog.globals[2]?).map (·.type) = some 60 := by kernel_rfl
theorem laid_tab : (Rows.laid_math_bits_deBruijn64tab : DataW Unit) = .agg (Lib.deBruijn64tab.map fun n : Nat => .lit (.int .u8 (n : Int))) := by kernel_rfl
theorem door_met (os : Os) (args : Array Value) : laidMetH Tryd.prog laidL ((World.doorLaid Tryd.prog 400 os).forCall (fun _ _ => 0) ⟨#[], args, []⟩).memory :=
  laidMetH_of_parts3 (fuel := 8) (laidMet_of_run' 8 (by kernel_rfl) (by kernel_rfl)) (by kernel_rfl) (by kernel_rfl)
theorem tab_of_laid {W : World} (h : laidMetH Tryd.prog laidL W) : Hid (Tab W) := by
  rw [MakeChecks.laidMetH_plain _ _ _ (by kernel_rfl)] at h
  obtain ⟨ps, ⟨g0, t0, cs0, f0, p0, q0, hg0, ht0, hv0, hd0, _, _⟩, _, _⟩ := h
  obtain rfl := Option.some.inj (gTab.symm.trans hg0)
  obtain rfl := Option.some.inj (tTab.symm.trans ht0)
  obtain ⟨xs, m, _, hx, hl, hn, hel⟩ := DataW.trod_array Tryd.underlying60 hd0
  have c1 : Tryd.prog.cellsOf 5 = 1 := by kernel_rfl
  simp only [Prod.mk.injEq] at hx
  have hx1 := hx.1
  rw [laid_tab] at hx1
  simp only [DataW.agg.injEq] at hx1
  refine Lib.hid fun j hj => ?_
  rw [World.var?_cell hg0 hv0 j]
  have hj' : j < 64 := hj
  have hj2 : j < xs.length := by rw [hn]; exact hj'
  have e := hel j hj'
  rw [c1, List.getElem?_eq_getElem hj2] at e
  obtain ⟨k, e1, e2, _⟩ := DataW.trod_int Tryd.underlying5 e
  have e3 : (xs.map (·.1))[j]? = some (.lit (.int .u8 (Lib.deBruijn64tab[j]'hj))) := by
    rw [← hx1, List.getElem?_map, List.getElem?_eq_getElem hj]; rfl
  rw [List.getElem?_map, List.getElem?_eq_getElem hj2, e2] at e3
  simp only [Option.map_some, Option.some.injEq, DataW.lit.injEq, Lit.int.injEq, true_and] at e3
  have e4 : cs0.toList[j]? = some (.int .u8 k) := by
    rw [Nat.mul_one] at e1
    have := congrArg (·[0]?) e1
    simpa using this
  rw [show cs0[j]? = cs0.toList[j]? by simp, e4, e3, List.getD_eq_getElem?_getD, List.getElem?_eq_getElem hj]
  rfl
end Go.Proofs.YtikojcakkmmebaaDoor
