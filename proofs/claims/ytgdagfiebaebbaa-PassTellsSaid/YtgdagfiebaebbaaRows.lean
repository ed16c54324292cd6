/-
  No cell of these rows narrows 'for every input' (looked for: loops, veiled, ifaces, maps, wideKeys, modest, calm, conditions, laid).
  DERIVED. THE GIVEN ROWS OF THIS SEAT. 8 by the template 'for every input the law returns true; each argument reads behind the call as it read before'; 0 by the template 'total and deterministic' (their statements: YtgdagfiebaebbaaTotals.lean).
  GIVEN WITH THE SEED: the statements are not yours to turn. If you find one false, say at which input.
  Laid BY PROGRAM, IN A SANDBOX (cutbox-rows.mjs): the forced cells as the released guide's own fill.sh prints them over the translation 8d346843914ea680… (all of the seat's roots in one cut). By AI agents, Wed Nov 11 2026. No macro, syntax, notation, axiom, sorry.
-/
import Derived.Test.YtgdagfiebaebbaaChecked
import GoSem.Claim
import GoSem.ClaimJoined
import GoSem.ClaimMapViews
import Derived.JoinedTies
import Derived.KernelRfl
namespace Go.Proofs.Ytgdagfiebaebbaa
/- THE CELL 'sum', in the pinned program and in every row, IS THE sha256 OF THE DUMP (.gsa) THAT YtgdagfiebaebbaaProg.lean LOADS. Nothing in Lean hashes anything: it is a label: what it is worth is what the hold of that sum in a sandbox is worth. -/
noncomputable def Try.pinned : Pinned := { name := "ytgdagfiebaebbaa", sum := "8d346843914ea680612cb5b96c20ff3c44a32b07551333f4574fd18b15e26776", checked := Try.checked }
namespace Rows
def none {H : Type} : Left H := { results := [], args := [] }

/-- 'isochronlaw14.PassMoves': WHATEVER THE INPUT: true; the input reads as it did. -/
def passMovesSpec : ChangeSpec := { name := "passMoves", fn := fun _ => fun
  | [d1, d2, d3, d4, d5] => { results := [.lit (.bool true)], args := [d1, d2, d3, d4, d5] }
  | _ => none }
def passMovesRow : OpenClaim := { program := "ytgdagfiebaebbaa", sum := "8d346843914ea680612cb5b96c20ff3c44a32b07551333f4574fd18b15e26776", func := "isochron/isochronlaw14.PassMoves", spec := "passMoves", unfollowed := true, recurses := true, named := ["math/bits.divideError", "math/bits.overflowError"], apart := false }
def PassMovesSaid : Prop := passMovesRow.holds Try.pinned (OpenSpec.ofChange passMovesSpec)

/-- ITS FALSE NEIGHBOUR: 'it returns false'. Refute it at one input. -/
def passMovesWrong : ChangeSpec := { name := "passMoves", fn := fun _ => fun
  | [d1, d2, d3, d4, d5] => { results := [.lit (.bool false)], args := [d1, d2, d3, d4, d5] }
  | _ => none }
def PassMovesWrongFalsely : Prop := passMovesRow.holds Try.pinned (OpenSpec.ofChange passMovesWrong)

/-- 'isochronlaw14.PassSets': WHATEVER THE INPUT: true; the input reads as it did. -/
def passSetsSpec : ChangeSpec := { name := "passSets", fn := fun _ => fun
  | [d1, d2, d3] => { results := [.lit (.bool true)], args := [d1, d2, d3] }
  | _ => none }
def passSetsRow : OpenClaim := { program := "ytgdagfiebaebbaa", sum := "8d346843914ea680612cb5b96c20ff3c44a32b07551333f4574fd18b15e26776", func := "isochron/isochronlaw14.PassSets", spec := "passSets", unfollowed := true, recurses := true, named := ["math/bits.divideError", "math/bits.overflowError"], apart := false }
def PassSetsSaid : Prop := passSetsRow.holds Try.pinned (OpenSpec.ofChange passSetsSpec)

/-- ITS FALSE NEIGHBOUR: 'it returns false'. Refute it at one input. -/
def passSetsWrong : ChangeSpec := { name := "passSets", fn := fun _ => fun
  | [d1, d2, d3] => { results := [.lit (.bool false)], args := [d1, d2, d3] }
  | _ => none }
def PassSetsWrongFalsely : Prop := passSetsRow.holds Try.pinned (OpenSpec.ofChange passSetsWrong)

/-- 'isochronlaw14.PassTells': WHATEVER THE INPUT: true; the input reads as it did. -/
def passTellsSpec : ChangeSpec := { name := "passTells", fn := fun _ => fun
  | [d1, d2, d3, d4, d5, d6, d7] => { results := [.lit (.bool true)], args := [d1, d2, d3, d4, d5, d6, d7] }
  | _ => none }
def passTellsRow : OpenClaim := { program := "ytgdagfiebaebbaa", sum := "8d346843914ea680612cb5b96c20ff3c44a32b07551333f4574fd18b15e26776", func := "isochron/isochronlaw14.PassTells", spec := "passTells", unfollowed := true, recurses := true, named := ["math/bits.divideError", "math/bits.overflowError"], apart := false }
def PassTellsSaid : Prop := passTellsRow.holds Try.pinned (OpenSpec.ofChange passTellsSpec)

/-- ITS FALSE NEIGHBOUR: 'it returns false'. Refute it at one input. -/
def passTellsWrong : ChangeSpec := { name := "passTells", fn := fun _ => fun
  | [d1, d2, d3, d4, d5, d6, d7] => { results := [.lit (.bool false)], args := [d1, d2, d3, d4, d5, d6, d7] }
  | _ => none }
def PassTellsWrongFalsely : Prop := passTellsRow.holds Try.pinned (OpenSpec.ofChange passTellsWrong)

/-- 'isochronlaw14.PassLimits': WHATEVER THE INPUT: true; the input reads as it did. -/
def passLimitsSpec : ChangeSpec := { name := "passLimits", fn := fun _ => fun
  | [d1, d2, d3, d4] => { results := [.lit (.bool true)], args := [d1, d2, d3, d4] }
  | _ => none }
def passLimitsRow : OpenClaim := { program := "ytgdagfiebaebbaa", sum := "8d346843914ea680612cb5b96c20ff3c44a32b07551333f4574fd18b15e26776", func := "isochron/isochronlaw14.PassLimits", spec := "passLimits", unfollowed := true, recurses := true, named := ["math/bits.divideError", "math/bits.overflowError"], apart := false }
def PassLimitsSaid : Prop := passLimitsRow.holds Try.pinned (OpenSpec.ofChange passLimitsSpec)

/-- ITS FALSE NEIGHBOUR: 'it returns false'. Refute it at one input. -/
def passLimitsWrong : ChangeSpec := { name := "passLimits", fn := fun _ => fun
  | [d1, d2, d3, d4] => { results := [.lit (.bool false)], args := [d1, d2, d3, d4] }
  | _ => none }
def PassLimitsWrongFalsely : Prop := passLimitsRow.holds Try.pinned (OpenSpec.ofChange passLimitsWrong)

/-- 'isochronlaw14.PassBack': WHATEVER THE INPUT: true; the input reads as it did. -/
def passBackSpec : ChangeSpec := { name := "passBack", fn := fun _ => fun
  | [d1, d2, d3, d4, d5] => { results := [.lit (.bool true)], args := [d1, d2, d3, d4, d5] }
  | _ => none }
def passBackRow : OpenClaim := { program := "ytgdagfiebaebbaa", sum := "8d346843914ea680612cb5b96c20ff3c44a32b07551333f4574fd18b15e26776", func := "isochron/isochronlaw14.PassBack", spec := "passBack", unfollowed := true, recurses := true, named := ["math/bits.divideError", "math/bits.overflowError"], apart := false }
def PassBackSaid : Prop := passBackRow.holds Try.pinned (OpenSpec.ofChange passBackSpec)

/-- ITS FALSE NEIGHBOUR: 'it returns false'. Refute it at one input. -/
def passBackWrong : ChangeSpec := { name := "passBack", fn := fun _ => fun
  | [d1, d2, d3, d4, d5] => { results := [.lit (.bool false)], args := [d1, d2, d3, d4, d5] }
  | _ => none }
def PassBackWrongFalsely : Prop := passBackRow.holds Try.pinned (OpenSpec.ofChange passBackWrong)

/-- 'isochronlaw14.PassKnown': WHATEVER THE INPUT: true; the input reads as it did. -/
def passKnownSpec : ChangeSpec := { name := "passKnown", fn := fun _ => fun
  | [] => { results := [.lit (.bool true)], args := [] }
  | _ => none }
def passKnownRow : OpenClaim := { program := "ytgdagfiebaebbaa", sum := "8d346843914ea680612cb5b96c20ff3c44a32b07551333f4574fd18b15e26776", func := "isochron/isochronlaw14.PassKnown", spec := "passKnown", unfollowed := true, recurses := true, named := ["math/bits.divideError", "math/bits.overflowError"], apart := false }
def PassKnownSaid : Prop := passKnownRow.holds Try.pinned (OpenSpec.ofChange passKnownSpec)

/-- ITS FALSE NEIGHBOUR: 'it returns false'. Refute it at one input. -/
def passKnownWrong : ChangeSpec := { name := "passKnown", fn := fun _ => fun
  | [] => { results := [.lit (.bool false)], args := [] }
  | _ => none }
def PassKnownWrongFalsely : Prop := passKnownRow.holds Try.pinned (OpenSpec.ofChange passKnownWrong)

/-- 'isochronlaw14.PassStays': WHATEVER THE INPUT: true; the input reads as it did. -/
def passStaysSpec : ChangeSpec := { name := "passStays", fn := fun _ => fun
  | [d1, d2, d3] => { results := [.lit (.bool true)], args := [d1, d2, d3] }
  | _ => none }
def passStaysRow : OpenClaim := { program := "ytgdagfiebaebbaa", sum := "8d346843914ea680612cb5b96c20ff3c44a32b07551333f4574fd18b15e26776", func := "isochron/isochronlaw14.PassStays", spec := "passStays", unfollowed := true, recurses := true, named := ["math/bits.divideError", "math/bits.overflowError"], apart := false }
def PassStaysSaid : Prop := passStaysRow.holds Try.pinned (OpenSpec.ofChange passStaysSpec)

/-- ITS FALSE NEIGHBOUR: 'it returns false'. Refute it at one input. -/
def passStaysWrong : ChangeSpec := { name := "passStays", fn := fun _ => fun
  | [d1, d2, d3] => { results := [.lit (.bool false)], args := [d1, d2, d3] }
  | _ => none }
def PassStaysWrongFalsely : Prop := passStaysRow.holds Try.pinned (OpenSpec.ofChange passStaysWrong)

/-- 'isochronlaw14.PassHolds': WHATEVER THE INPUT: true; the input reads as it did. -/
def passHoldsSpec : ChangeSpec := { name := "passHolds", fn := fun _ => fun
  | [d1, d2, d3] => { results := [.lit (.bool true)], args := [d1, d2, d3] }
  | _ => none }
def passHoldsRow : OpenClaim := { program := "ytgdagfiebaebbaa", sum := "8d346843914ea680612cb5b96c20ff3c44a32b07551333f4574fd18b15e26776", func := "isochron/isochronlaw14.PassHolds", spec := "passHolds", unfollowed := true, recurses := true, named := ["math/bits.divideError", "math/bits.overflowError"], apart := false }
def PassHoldsSaid : Prop := passHoldsRow.holds Try.pinned (OpenSpec.ofChange passHoldsSpec)

/-- ITS FALSE NEIGHBOUR: 'it returns false'. Refute it at one input. -/
def passHoldsWrong : ChangeSpec := { name := "passHolds", fn := fun _ => fun
  | [d1, d2, d3] => { results := [.lit (.bool false)], args := [d1, d2, d3] }
  | _ => none }
def PassHoldsWrongFalsely : Prop := passHoldsRow.holds Try.pinned (OpenSpec.ofChange passHoldsWrong)

/- THE SECOND FORM. 'bulk': how many values and letters a reading holds, each counted each time it is reached (what is shared counts as often as it is met; a slice's spare places count too). A statement '..UptoSaid' is the law's where the arguments, and the package variables that the reading takes, are together of bulk at most 1048576: NARROWER than '..Said'. Prove '..Said' where nothing that the law and all that it calls make is longer than what came in: it says more and counts as full. Else prove '..UptoSaid'. A law counts once. -/
mutual
def uptoBulk {H : Type} : DataW H → Nat
  | .lit (.string bytes) => bytes.length + 1
  | .lit _ => 1
  | .nil => 1
  | .ptr d => uptoBulk d + 1
  | .slice elems spare => uptoBulkAll elems + uptoBulkAll spare + 1
  | .agg parts => uptoBulkAll parts + 1
  | .iface _ d => uptoBulk d + 1
  | .map entries => uptoBulkEntries entries + 1
  | .held _ => 1
def uptoBulkAll {H : Type} : List (DataW H) → Nat
  | [] => 0
  | d :: r => uptoBulk d + uptoBulkAll r
def uptoBulkEntries {H : Type} : List (Lit × DataW H) → Nat
  | [] => 0
  | x :: r => uptoBulkEntry x + uptoBulkEntries r
def uptoBulkEntry {H : Type} : Lit × DataW H → Nat
  | (.string bytes, d) => bytes.length + uptoBulk d + 1
  | (_, d) => uptoBulk d + 1
 end
def uptoSmall : (H : Type) → List (DataW H) → Bool := fun _ ds => decide (uptoBulkAll ds ≤ 1048576)
def OpenSpec.upto (s : _root_.Go.ChangeSpec) : _root_.Go.OpenSpec := { _root_.Go.OpenSpec.ofChange s with cond := some uptoSmall }

/-- 'isochronlaw14.PassMoves', WHERE WHAT IT READS IS OF BULK AT MOST 1048576: true; the input reads as it did. -/
def passMovesUptoRow : OpenClaim := { program := "ytgdagfiebaebbaa", sum := "8d346843914ea680612cb5b96c20ff3c44a32b07551333f4574fd18b15e26776", func := "isochron/isochronlaw14.PassMoves", spec := "passMoves", unfollowed := true, recurses := true, named := ["math/bits.divideError", "math/bits.overflowError"], apart := false, narrowed := true }
def PassMovesUptoSaid : Prop := passMovesUptoRow.holds Try.pinned (OpenSpec.upto passMovesSpec)

/-- 'isochronlaw14.PassSets', WHERE WHAT IT READS IS OF BULK AT MOST 1048576: true; the input reads as it did. -/
def passSetsUptoRow : OpenClaim := { program := "ytgdagfiebaebbaa", sum := "8d346843914ea680612cb5b96c20ff3c44a32b07551333f4574fd18b15e26776", func := "isochron/isochronlaw14.PassSets", spec := "passSets", unfollowed := true, recurses := true, named := ["math/bits.divideError", "math/bits.overflowError"], apart := false, narrowed := true }
def PassSetsUptoSaid : Prop := passSetsUptoRow.holds Try.pinned (OpenSpec.upto passSetsSpec)

/-- 'isochronlaw14.PassTells', WHERE WHAT IT READS IS OF BULK AT MOST 1048576: true; the input reads as it did. -/
def passTellsUptoRow : OpenClaim := { program := "ytgdagfiebaebbaa", sum := "8d346843914ea680612cb5b96c20ff3c44a32b07551333f4574fd18b15e26776", func := "isochron/isochronlaw14.PassTells", spec := "passTells", unfollowed := true, recurses := true, named := ["math/bits.divideError", "math/bits.overflowError"], apart := false, narrowed := true }
def PassTellsUptoSaid : Prop := passTellsUptoRow.holds Try.pinned (OpenSpec.upto passTellsSpec)

/-- 'isochronlaw14.PassLimits', WHERE WHAT IT READS IS OF BULK AT MOST 1048576: true; the input reads as it did. -/
def passLimitsUptoRow : OpenClaim := { program := "ytgdagfiebaebbaa", sum := "8d346843914ea680612cb5b96c20ff3c44a32b07551333f4574fd18b15e26776", func := "isochron/isochronlaw14.PassLimits", spec := "passLimits", unfollowed := true, recurses := true, named := ["math/bits.divideError", "math/bits.overflowError"], apart := false, narrowed := true }
def PassLimitsUptoSaid : Prop := passLimitsUptoRow.holds Try.pinned (OpenSpec.upto passLimitsSpec)

/-- 'isochronlaw14.PassBack', WHERE WHAT IT READS IS OF BULK AT MOST 1048576: true; the input reads as it did. -/
def passBackUptoRow : OpenClaim := { program := "ytgdagfiebaebbaa", sum := "8d346843914ea680612cb5b96c20ff3c44a32b07551333f4574fd18b15e26776", func := "isochron/isochronlaw14.PassBack", spec := "passBack", unfollowed := true, recurses := true, named := ["math/bits.divideError", "math/bits.overflowError"], apart := false, narrowed := true }
def PassBackUptoSaid : Prop := passBackUptoRow.holds Try.pinned (OpenSpec.upto passBackSpec)

/-- 'isochronlaw14.PassKnown', WHERE WHAT IT READS IS OF BULK AT MOST 1048576: true; the input reads as it did. -/
def passKnownUptoRow : OpenClaim := { program := "ytgdagfiebaebbaa", sum := "8d346843914ea680612cb5b96c20ff3c44a32b07551333f4574fd18b15e26776", func := "isochron/isochronlaw14.PassKnown", spec := "passKnown", unfollowed := true, recurses := true, named := ["math/bits.divideError", "math/bits.overflowError"], apart := false, narrowed := true }
def PassKnownUptoSaid : Prop := passKnownUptoRow.holds Try.pinned (OpenSpec.upto passKnownSpec)

/-- 'isochronlaw14.PassStays', WHERE WHAT IT READS IS OF BULK AT MOST 1048576: true; the input reads as it did. -/
def passStaysUptoRow : OpenClaim := { program := "ytgdagfiebaebbaa", sum := "8d346843914ea680612cb5b96c20ff3c44a32b07551333f4574fd18b15e26776", func := "isochron/isochronlaw14.PassStays", spec := "passStays", unfollowed := true, recurses := true, named := ["math/bits.divideError", "math/bits.overflowError"], apart := false, narrowed := true }
def PassStaysUptoSaid : Prop := passStaysUptoRow.holds Try.pinned (OpenSpec.upto passStaysSpec)

/-- 'isochronlaw14.PassHolds', WHERE WHAT IT READS IS OF BULK AT MOST 1048576: true; the input reads as it did. -/
def passHoldsUptoRow : OpenClaim := { program := "ytgdagfiebaebbaa", sum := "8d346843914ea680612cb5b96c20ff3c44a32b07551333f4574fd18b15e26776", func := "isochron/isochronlaw14.PassHolds", spec := "passHolds", unfollowed := true, recurses := true, named := ["math/bits.divideError", "math/bits.overflowError"], apart := false, narrowed := true }
def PassHoldsUptoSaid : Prop := passHoldsUptoRow.holds Try.pinned (OpenSpec.upto passHoldsSpec)

end Rows
end Go.Proofs.Ytgdagfiebaebbaa
