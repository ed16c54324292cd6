/-
  No cell of these rows narrows 'for every input' (looked for: loops, veiled, ifaces, maps, wideKeys, modest, calm, conditions, laid).
  DERIVED. THE GIVEN ROWS OF THIS SEAT. 8 by the template 'for every input the law returns true; each argument reads behind the call as it read before'; 0 by the template 'total and deterministic' (their statements: YtelpjmmkaakceaaTotals.lean).
  GIVEN WITH THE SEED: the statements are not yours to turn. If you find one false, say at which input.
  Laid BY PROGRAM, IN A SANDBOX (cutbox-rows.mjs): the forced cells as the released guide's own fill.sh prints them over the translation 3decd192e96aa2bf… (all of the seat's roots in one cut). By AI agents, Wed Nov 11 2026. No macro, syntax, notation, axiom, sorry.
-/
import Derived.Test.YtelpjmmkaakceaaChecked
import GoSem.Claim
import GoSem.ClaimJoined
import GoSem.ClaimMapViews
import Derived.JoinedTies
import Derived.KernelRfl
namespace Go.Proofs.Ytelpjmmkaakceaa
/- THE CELL 'sum', in the pinned program and in every row, IS THE sha256 OF THE DUMP (.gsa) THAT YtelpjmmkaakceaaProg.lean LOADS. Nothing in Lean hashes anything: it is a label: what it is worth is what the hold of that sum in a sandbox is worth. -/
noncomputable def Try.pinned : Pinned := { name := "ytelpjmmkaakceaa", sum := "3decd192e96aa2bf06556861178e4217256a8b768445c67c840629974f9d8c07", checked := Try.checked }
namespace Rows
def none {H : Type} : Left H := { results := [], args := [] }

/-- 'isochronlaw12.DelayChecks': WHATEVER THE INPUT: true; the input reads as it did. -/
def delayChecksSpec : ChangeSpec := { name := "delayChecks", fn := fun _ => fun
  | [d] => { results := [.lit (.bool true)], args := [d] }
  | _ => none }
def delayChecksRow : OpenClaim := { program := "ytelpjmmkaakceaa", sum := "3decd192e96aa2bf06556861178e4217256a8b768445c67c840629974f9d8c07", func := "isochron/isochronlaw12.DelayChecks", spec := "delayChecks", unfollowed := true, recurses := true, named := ["math/bits.divideError", "math/bits.overflowError"], apart := false }
def DelayChecksSaid : Prop := delayChecksRow.holds Try.pinned (OpenSpec.ofChange delayChecksSpec)

/-- ITS FALSE NEIGHBOUR: 'it returns false'. Refute it at one input. -/
def delayChecksWrong : ChangeSpec := { name := "delayChecks", fn := fun _ => fun
  | [d] => { results := [.lit (.bool false)], args := [d] }
  | _ => none }
def DelayChecksWrongFalsely : Prop := delayChecksRow.holds Try.pinned (OpenSpec.ofChange delayChecksWrong)

/-- 'isochronlaw12.DelayRatios': WHATEVER THE INPUT: true; the input reads as it did. -/
def delayRatiosSpec : ChangeSpec := { name := "delayRatios", fn := fun _ => fun
  | [d1, d2] => { results := [.lit (.bool true)], args := [d1, d2] }
  | _ => none }
def delayRatiosRow : OpenClaim := { program := "ytelpjmmkaakceaa", sum := "3decd192e96aa2bf06556861178e4217256a8b768445c67c840629974f9d8c07", func := "isochron/isochronlaw12.DelayRatios", spec := "delayRatios", unfollowed := true, recurses := true, named := ["math/bits.divideError", "math/bits.overflowError"], apart := false }
def DelayRatiosSaid : Prop := delayRatiosRow.holds Try.pinned (OpenSpec.ofChange delayRatiosSpec)

/-- ITS FALSE NEIGHBOUR: 'it returns false'. Refute it at one input. -/
def delayRatiosWrong : ChangeSpec := { name := "delayRatios", fn := fun _ => fun
  | [d1, d2] => { results := [.lit (.bool false)], args := [d1, d2] }
  | _ => none }
def DelayRatiosWrongFalsely : Prop := delayRatiosRow.holds Try.pinned (OpenSpec.ofChange delayRatiosWrong)

/-- 'isochronlaw12.DelayMeets': WHATEVER THE INPUT: true; the input reads as it did. -/
def delayMeetsSpec : ChangeSpec := { name := "delayMeets", fn := fun _ => fun
  | [d1, d2, d3, d4, d5] => { results := [.lit (.bool true)], args := [d1, d2, d3, d4, d5] }
  | _ => none }
def delayMeetsRow : OpenClaim := { program := "ytelpjmmkaakceaa", sum := "3decd192e96aa2bf06556861178e4217256a8b768445c67c840629974f9d8c07", func := "isochron/isochronlaw12.DelayMeets", spec := "delayMeets", unfollowed := true, recurses := true, named := ["math/bits.divideError", "math/bits.overflowError"], apart := false }
def DelayMeetsSaid : Prop := delayMeetsRow.holds Try.pinned (OpenSpec.ofChange delayMeetsSpec)

/-- ITS FALSE NEIGHBOUR: 'it returns false'. Refute it at one input. -/
def delayMeetsWrong : ChangeSpec := { name := "delayMeets", fn := fun _ => fun
  | [d1, d2, d3, d4, d5] => { results := [.lit (.bool false)], args := [d1, d2, d3, d4, d5] }
  | _ => none }
def DelayMeetsWrongFalsely : Prop := delayMeetsRow.holds Try.pinned (OpenSpec.ofChange delayMeetsWrong)

/-- 'isochronlaw12.DelayLimits': WHATEVER THE INPUT: true; the input reads as it did. -/
def delayLimitsSpec : ChangeSpec := { name := "delayLimits", fn := fun _ => fun
  | [d1, d2, d3, d4] => { results := [.lit (.bool true)], args := [d1, d2, d3, d4] }
  | _ => none }
def delayLimitsRow : OpenClaim := { program := "ytelpjmmkaakceaa", sum := "3decd192e96aa2bf06556861178e4217256a8b768445c67c840629974f9d8c07", func := "isochron/isochronlaw12.DelayLimits", spec := "delayLimits", unfollowed := true, recurses := true, named := ["math/bits.divideError", "math/bits.overflowError"], apart := false }
def DelayLimitsSaid : Prop := delayLimitsRow.holds Try.pinned (OpenSpec.ofChange delayLimitsSpec)

/-- ITS FALSE NEIGHBOUR: 'it returns false'. Refute it at one input. -/
def delayLimitsWrong : ChangeSpec := { name := "delayLimits", fn := fun _ => fun
  | [d1, d2, d3, d4] => { results := [.lit (.bool false)], args := [d1, d2, d3, d4] }
  | _ => none }
def DelayLimitsWrongFalsely : Prop := delayLimitsRow.holds Try.pinned (OpenSpec.ofChange delayLimitsWrong)

/-- 'isochronlaw12.DelayNear': WHATEVER THE INPUT: true; the input reads as it did. -/
def delayNearSpec : ChangeSpec := { name := "delayNear", fn := fun _ => fun
  | [d1, d2] => { results := [.lit (.bool true)], args := [d1, d2] }
  | _ => none }
def delayNearRow : OpenClaim := { program := "ytelpjmmkaakceaa", sum := "3decd192e96aa2bf06556861178e4217256a8b768445c67c840629974f9d8c07", func := "isochron/isochronlaw12.DelayNear", spec := "delayNear", unfollowed := true, recurses := true, named := ["math/bits.divideError", "math/bits.overflowError"], apart := false }
def DelayNearSaid : Prop := delayNearRow.holds Try.pinned (OpenSpec.ofChange delayNearSpec)

/-- ITS FALSE NEIGHBOUR: 'it returns false'. Refute it at one input. -/
def delayNearWrong : ChangeSpec := { name := "delayNear", fn := fun _ => fun
  | [d1, d2] => { results := [.lit (.bool false)], args := [d1, d2] }
  | _ => none }
def DelayNearWrongFalsely : Prop := delayNearRow.holds Try.pinned (OpenSpec.ofChange delayNearWrong)

/-- 'isochronlaw12.DelayRates': WHATEVER THE INPUT: true; the input reads as it did. -/
def delayRatesSpec : ChangeSpec := { name := "delayRates", fn := fun _ => fun
  | [d1, d2] => { results := [.lit (.bool true)], args := [d1, d2] }
  | _ => none }
def delayRatesRow : OpenClaim := { program := "ytelpjmmkaakceaa", sum := "3decd192e96aa2bf06556861178e4217256a8b768445c67c840629974f9d8c07", func := "isochron/isochronlaw12.DelayRates", spec := "delayRates", unfollowed := true, recurses := true, named := ["math/bits.divideError", "math/bits.overflowError"], apart := false }
def DelayRatesSaid : Prop := delayRatesRow.holds Try.pinned (OpenSpec.ofChange delayRatesSpec)

/-- ITS FALSE NEIGHBOUR: 'it returns false'. Refute it at one input. -/
def delayRatesWrong : ChangeSpec := { name := "delayRates", fn := fun _ => fun
  | [d1, d2] => { results := [.lit (.bool false)], args := [d1, d2] }
  | _ => none }
def DelayRatesWrongFalsely : Prop := delayRatesRow.holds Try.pinned (OpenSpec.ofChange delayRatesWrong)

/-- 'isochronlaw12.DelayMoves': WHATEVER THE INPUT: true; the input reads as it did. -/
def delayMovesSpec : ChangeSpec := { name := "delayMoves", fn := fun _ => fun
  | [d1, d2, d3, d4] => { results := [.lit (.bool true)], args := [d1, d2, d3, d4] }
  | _ => none }
def delayMovesRow : OpenClaim := { program := "ytelpjmmkaakceaa", sum := "3decd192e96aa2bf06556861178e4217256a8b768445c67c840629974f9d8c07", func := "isochron/isochronlaw12.DelayMoves", spec := "delayMoves", unfollowed := true, recurses := true, named := ["math/bits.divideError", "math/bits.overflowError"], apart := false }
def DelayMovesSaid : Prop := delayMovesRow.holds Try.pinned (OpenSpec.ofChange delayMovesSpec)

/-- ITS FALSE NEIGHBOUR: 'it returns false'. Refute it at one input. -/
def delayMovesWrong : ChangeSpec := { name := "delayMoves", fn := fun _ => fun
  | [d1, d2, d3, d4] => { results := [.lit (.bool false)], args := [d1, d2, d3, d4] }
  | _ => none }
def DelayMovesWrongFalsely : Prop := delayMovesRow.holds Try.pinned (OpenSpec.ofChange delayMovesWrong)

/-- 'isochronlaw12.DelayKnown': WHATEVER THE INPUT: true; the input reads as it did. -/
def delayKnownSpec : ChangeSpec := { name := "delayKnown", fn := fun _ => fun
  | [] => { results := [.lit (.bool true)], args := [] }
  | _ => none }
def delayKnownRow : OpenClaim := { program := "ytelpjmmkaakceaa", sum := "3decd192e96aa2bf06556861178e4217256a8b768445c67c840629974f9d8c07", func := "isochron/isochronlaw12.DelayKnown", spec := "delayKnown", unfollowed := true, recurses := true, named := ["math/bits.divideError", "math/bits.overflowError"], apart := false }
def DelayKnownSaid : Prop := delayKnownRow.holds Try.pinned (OpenSpec.ofChange delayKnownSpec)

/-- ITS FALSE NEIGHBOUR: 'it returns false'. Refute it at one input. -/
def delayKnownWrong : ChangeSpec := { name := "delayKnown", fn := fun _ => fun
  | [] => { results := [.lit (.bool false)], args := [] }
  | _ => none }
def DelayKnownWrongFalsely : Prop := delayKnownRow.holds Try.pinned (OpenSpec.ofChange delayKnownWrong)

/- THE SECOND FORM. 'bulk': how many values and letters a reading holds, each counted each time it is reached (what is shared counts as often as it is met; a slice's spare places count too). A statement '..UptoSaid' is the law's where the arguments, and the package variables that the reading takes, are together of bulk at most 1048576: NARROWER than '..Said'. Prove '..Said' where nothing that the law and all that it calls make is longer than what came in: it says more and counts as full. Else prove '..UptoSaid'. A law counts once. -/
mutual
def uptoBulk {H : Type} : DataW H → Nat
  | .lit (.string bytes) => bytes.length + 1
  | .lit _ => 1
  | .nil => 1
  | .ptr d => uptoBulk d + 1
  | .slice elems spare => uptoBulkAll elems + uptoBulkAll spare + 1
  | .agg parts => uptoBulkAll parts + 1
  | .iface _ d => uptoBulk d + 1
  | .map entries => uptoBulkEntries entries + 1
  | .held _ => 1
def uptoBulkAll {H : Type} : List (DataW H) → Nat
  | [] => 0
  | d :: r => uptoBulk d + uptoBulkAll r
def uptoBulkEntries {H : Type} : List (Lit × DataW H) → Nat
  | [] => 0
  | x :: r => uptoBulkEntry x + uptoBulkEntries r
def uptoBulkEntry {H : Type} : Lit × DataW H → Nat
  | (.string bytes, d) => bytes.length + uptoBulk d + 1
  | (_, d) => uptoBulk d + 1
 end
def uptoSmall : (H : Type) → List (DataW H) → Bool := fun _ ds => decide (uptoBulkAll ds ≤ 1048576)
def OpenSpec.upto (s : _root_.Go.ChangeSpec) : _root_.Go.OpenSpec := { _root_.Go.OpenSpec.ofChange s with cond := some uptoSmall }

/-- 'isochronlaw12.DelayChecks', WHERE WHAT IT READS IS OF BULK AT MOST 1048576: true; the input reads as it did. -/
def delayChecksUptoRow : OpenClaim := { program := "ytelpjmmkaakceaa", sum := "3decd192e96aa2bf06556861178e4217256a8b768445c67c840629974f9d8c07", func := "isochron/isochronlaw12.DelayChecks", spec := "delayChecks", unfollowed := true, recurses := true, named := ["math/bits.divideError", "math/bits.overflowError"], apart := false, narrowed := true }
def DelayChecksUptoSaid : Prop := delayChecksUptoRow.holds Try.pinned (OpenSpec.upto delayChecksSpec)

/-- 'isochronlaw12.DelayRatios', WHERE WHAT IT READS IS OF BULK AT MOST 1048576: true; the input reads as it did. -/
def delayRatiosUptoRow : OpenClaim := { program := "ytelpjmmkaakceaa", sum := "3decd192e96aa2bf06556861178e4217256a8b768445c67c840629974f9d8c07", func := "isochron/isochronlaw12.DelayRatios", spec := "delayRatios", unfollowed := true, recurses := true, named := ["math/bits.divideError", "math/bits.overflowError"], apart := false, narrowed := true }
def DelayRatiosUptoSaid : Prop := delayRatiosUptoRow.holds Try.pinned (OpenSpec.upto delayRatiosSpec)

/-- 'isochronlaw12.DelayMeets', WHERE WHAT IT READS IS OF BULK AT MOST 1048576: true; the input reads as it did. -/
def delayMeetsUptoRow : OpenClaim := { program := "ytelpjmmkaakceaa", sum := "3decd192e96aa2bf06556861178e4217256a8b768445c67c840629974f9d8c07", func := "isochron/isochronlaw12.DelayMeets", spec := "delayMeets", unfollowed := true, recurses := true, named := ["math/bits.divideError", "math/bits.overflowError"], apart := false, narrowed := true }
def DelayMeetsUptoSaid : Prop := delayMeetsUptoRow.holds Try.pinned (OpenSpec.upto delayMeetsSpec)

/-- 'isochronlaw12.DelayLimits', WHERE WHAT IT READS IS OF BULK AT MOST 1048576: true; the input reads as it did. -/
def delayLimitsUptoRow : OpenClaim := { program := "ytelpjmmkaakceaa", sum := "3decd192e96aa2bf06556861178e4217256a8b768445c67c840629974f9d8c07", func := "isochron/isochronlaw12.DelayLimits", spec := "delayLimits", unfollowed := true, recurses := true, named := ["math/bits.divideError", "math/bits.overflowError"], apart := false, narrowed := true }
def DelayLimitsUptoSaid : Prop := delayLimitsUptoRow.holds Try.pinned (OpenSpec.upto delayLimitsSpec)

/-- 'isochronlaw12.DelayNear', WHERE WHAT IT READS IS OF BULK AT MOST 1048576: true; the input reads as it did. -/
def delayNearUptoRow : OpenClaim := { program := "ytelpjmmkaakceaa", sum := "3decd192e96aa2bf06556861178e4217256a8b768445c67c840629974f9d8c07", func := "isochron/isochronlaw12.DelayNear", spec := "delayNear", unfollowed := true, recurses := true, named := ["math/bits.divideError", "math/bits.overflowError"], apart := false, narrowed := true }
def DelayNearUptoSaid : Prop := delayNearUptoRow.holds Try.pinned (OpenSpec.upto delayNearSpec)

/-- 'isochronlaw12.DelayRates', WHERE WHAT IT READS IS OF BULK AT MOST 1048576: true; the input reads as it did. -/
def delayRatesUptoRow : OpenClaim := { program := "ytelpjmmkaakceaa", sum := "3decd192e96aa2bf06556861178e4217256a8b768445c67c840629974f9d8c07", func := "isochron/isochronlaw12.DelayRates", spec := "delayRates", unfollowed := true, recurses := true, named := ["math/bits.divideError", "math/bits.overflowError"], apart := false, narrowed := true }
def DelayRatesUptoSaid : Prop := delayRatesUptoRow.holds Try.pinned (OpenSpec.upto delayRatesSpec)

/-- 'isochronlaw12.DelayMoves', WHERE WHAT IT READS IS OF BULK AT MOST 1048576: true; the input reads as it did. -/
def delayMovesUptoRow : OpenClaim := { program := "ytelpjmmkaakceaa", sum := "3decd192e96aa2bf06556861178e4217256a8b768445c67c840629974f9d8c07", func := "isochron/isochronlaw12.DelayMoves", spec := "delayMoves", unfollowed := true, recurses := true, named := ["math/bits.divideError", "math/bits.overflowError"], apart := false, narrowed := true }
def DelayMovesUptoSaid : Prop := delayMovesUptoRow.holds Try.pinned (OpenSpec.upto delayMovesSpec)

/-- 'isochronlaw12.DelayKnown', WHERE WHAT IT READS IS OF BULK AT MOST 1048576: true; the input reads as it did. -/
def delayKnownUptoRow : OpenClaim := { program := "ytelpjmmkaakceaa", sum := "3decd192e96aa2bf06556861178e4217256a8b768445c67c840629974f9d8c07", func := "isochron/isochronlaw12.DelayKnown", spec := "delayKnown", unfollowed := true, recurses := true, named := ["math/bits.divideError", "math/bits.overflowError"], apart := false, narrowed := true }
def DelayKnownUptoSaid : Prop := delayKnownUptoRow.holds Try.pinned (OpenSpec.upto delayKnownSpec)

end Rows
end Go.Proofs.Ytelpjmmkaakceaa
