/-
  No cell of these rows narrows 'for every input' (looked for: loops, veiled, ifaces, maps, wideKeys, modest, calm, conditions, laid).
  DERIVED. THE GIVEN ROWS OF THIS SEAT. 8 by the template 'for every input the law returns true; each argument reads behind the call as it read before'; 0 by the template 'total and deterministic' (their statements: YtkbepdhggfijbaaTotals.lean).
  GIVEN WITH THE SEED: the statements are not yours to turn. If you find one false, say at which input.
  Laid BY PROGRAM, IN A SANDBOX (cutbox-rows.mjs): the forced cells as the released guide's own fill.sh prints them over the translation 492f0d752a1077db… (all of the seat's roots in one cut). By AI agents, Wed Nov 11 2026. No macro, syntax, notation, axiom, sorry.
-/
import Derived.Test.YtkbepdhggfijbaaChecked
import GoSem.Claim
import GoSem.ClaimJoined
import GoSem.ClaimMapViews
import Derived.JoinedTies
import Derived.KernelRfl
namespace Go.Proofs.Ytkbepdhggfijbaa
/- THE CELL 'sum', in the pinned program and in every row, IS THE sha256 OF THE DUMP (.gsa) THAT YtkbepdhggfijbaaProg.lean LOADS. Nothing in Lean hashes anything: it is a label: what it is worth is what the hold of that sum in a sandbox is worth. -/
noncomputable def Try.pinned : Pinned := { name := "ytkbepdhggfijbaa", sum := "492f0d752a1077db23e5a660946a6ccad230269e027e94968014739ec0e18965", checked := Try.checked }
namespace Rows
def none {H : Type} : Left H := { results := [], args := [] }

/-- 'isochronlaw13.ServoTimes': WHATEVER THE INPUT: true; the input reads as it did. -/
def servoTimesSpec : ChangeSpec := { name := "servoTimes", fn := fun _ => fun
  | [d1, d2, d3] => { results := [.lit (.bool true)], args := [d1, d2, d3] }
  | _ => none }
def servoTimesRow : OpenClaim := { program := "ytkbepdhggfijbaa", sum := "492f0d752a1077db23e5a660946a6ccad230269e027e94968014739ec0e18965", func := "isochron/isochronlaw13.ServoTimes", spec := "servoTimes", unfollowed := true, recurses := true, named := ["math/bits.divideError", "math/bits.overflowError"], apart := false }
def ServoTimesSaid : Prop := servoTimesRow.holds Try.pinned (OpenSpec.ofChange servoTimesSpec)

/-- ITS FALSE NEIGHBOUR: 'it returns false'. Refute it at one input. -/
def servoTimesWrong : ChangeSpec := { name := "servoTimes", fn := fun _ => fun
  | [d1, d2, d3] => { results := [.lit (.bool false)], args := [d1, d2, d3] }
  | _ => none }
def ServoTimesWrongFalsely : Prop := servoTimesRow.holds Try.pinned (OpenSpec.ofChange servoTimesWrong)

/-- 'isochronlaw13.ServoWhens': WHATEVER THE INPUT: true; the input reads as it did. -/
def servoWhensSpec : ChangeSpec := { name := "servoWhens", fn := fun _ => fun
  | [d1, d2, d3] => { results := [.lit (.bool true)], args := [d1, d2, d3] }
  | _ => none }
def servoWhensRow : OpenClaim := { program := "ytkbepdhggfijbaa", sum := "492f0d752a1077db23e5a660946a6ccad230269e027e94968014739ec0e18965", func := "isochron/isochronlaw13.ServoWhens", spec := "servoWhens", unfollowed := true, recurses := true, named := ["math/bits.divideError", "math/bits.overflowError"], apart := false }
def ServoWhensSaid : Prop := servoWhensRow.holds Try.pinned (OpenSpec.ofChange servoWhensSpec)

/-- ITS FALSE NEIGHBOUR: 'it returns false'. Refute it at one input. -/
def servoWhensWrong : ChangeSpec := { name := "servoWhens", fn := fun _ => fun
  | [d1, d2, d3] => { results := [.lit (.bool false)], args := [d1, d2, d3] }
  | _ => none }
def ServoWhensWrongFalsely : Prop := servoWhensRow.holds Try.pinned (OpenSpec.ofChange servoWhensWrong)

/-- 'isochronlaw13.ServoSyncs': WHATEVER THE INPUT: true; the input reads as it did. -/
def servoSyncsSpec : ChangeSpec := { name := "servoSyncs", fn := fun _ => fun
  | [d1, d2, d3, d4, d5] => { results := [.lit (.bool true)], args := [d1, d2, d3, d4, d5] }
  | _ => none }
def servoSyncsRow : OpenClaim := { program := "ytkbepdhggfijbaa", sum := "492f0d752a1077db23e5a660946a6ccad230269e027e94968014739ec0e18965", func := "isochron/isochronlaw13.ServoSyncs", spec := "servoSyncs", unfollowed := true, recurses := true, named := ["math/bits.divideError", "math/bits.overflowError"], apart := false }
def ServoSyncsSaid : Prop := servoSyncsRow.holds Try.pinned (OpenSpec.ofChange servoSyncsSpec)

/-- ITS FALSE NEIGHBOUR: 'it returns false'. Refute it at one input. -/
def servoSyncsWrong : ChangeSpec := { name := "servoSyncs", fn := fun _ => fun
  | [d1, d2, d3, d4, d5] => { results := [.lit (.bool false)], args := [d1, d2, d3, d4, d5] }
  | _ => none }
def ServoSyncsWrongFalsely : Prop := servoSyncsRow.holds Try.pinned (OpenSpec.ofChange servoSyncsWrong)

/-- 'isochronlaw13.ServoLimits': WHATEVER THE INPUT: true; the input reads as it did. -/
def servoLimitsSpec : ChangeSpec := { name := "servoLimits", fn := fun _ => fun
  | [d1, d2, d3] => { results := [.lit (.bool true)], args := [d1, d2, d3] }
  | _ => none }
def servoLimitsRow : OpenClaim := { program := "ytkbepdhggfijbaa", sum := "492f0d752a1077db23e5a660946a6ccad230269e027e94968014739ec0e18965", func := "isochron/isochronlaw13.ServoLimits", spec := "servoLimits", unfollowed := true, recurses := true, named := ["math/bits.divideError", "math/bits.overflowError"], apart := false }
def ServoLimitsSaid : Prop := servoLimitsRow.holds Try.pinned (OpenSpec.ofChange servoLimitsSpec)

/-- ITS FALSE NEIGHBOUR: 'it returns false'. Refute it at one input. -/
def servoLimitsWrong : ChangeSpec := { name := "servoLimits", fn := fun _ => fun
  | [d1, d2, d3] => { results := [.lit (.bool false)], args := [d1, d2, d3] }
  | _ => none }
def ServoLimitsWrongFalsely : Prop := servoLimitsRow.holds Try.pinned (OpenSpec.ofChange servoLimitsWrong)

/-- 'isochronlaw13.ServoBack': WHATEVER THE INPUT: true; the input reads as it did. -/
def servoBackSpec : ChangeSpec := { name := "servoBack", fn := fun _ => fun
  | [d1, d2, d3] => { results := [.lit (.bool true)], args := [d1, d2, d3] }
  | _ => none }
def servoBackRow : OpenClaim := { program := "ytkbepdhggfijbaa", sum := "492f0d752a1077db23e5a660946a6ccad230269e027e94968014739ec0e18965", func := "isochron/isochronlaw13.ServoBack", spec := "servoBack", unfollowed := true, recurses := true, named := ["math/bits.divideError", "math/bits.overflowError"], apart := false }
def ServoBackSaid : Prop := servoBackRow.holds Try.pinned (OpenSpec.ofChange servoBackSpec)

/-- ITS FALSE NEIGHBOUR: 'it returns false'. Refute it at one input. -/
def servoBackWrong : ChangeSpec := { name := "servoBack", fn := fun _ => fun
  | [d1, d2, d3] => { results := [.lit (.bool false)], args := [d1, d2, d3] }
  | _ => none }
def ServoBackWrongFalsely : Prop := servoBackRow.holds Try.pinned (OpenSpec.ofChange servoBackWrong)

/-- 'isochronlaw13.ServoChains': WHATEVER THE INPUT: true; the input reads as it did. -/
def servoChainsSpec : ChangeSpec := { name := "servoChains", fn := fun _ => fun
  | [d1, d2, d3] => { results := [.lit (.bool true)], args := [d1, d2, d3] }
  | _ => none }
def servoChainsRow : OpenClaim := { program := "ytkbepdhggfijbaa", sum := "492f0d752a1077db23e5a660946a6ccad230269e027e94968014739ec0e18965", func := "isochron/isochronlaw13.ServoChains", spec := "servoChains", unfollowed := true, recurses := true, named := ["math/bits.divideError", "math/bits.overflowError"], apart := false }
def ServoChainsSaid : Prop := servoChainsRow.holds Try.pinned (OpenSpec.ofChange servoChainsSpec)

/-- ITS FALSE NEIGHBOUR: 'it returns false'. Refute it at one input. -/
def servoChainsWrong : ChangeSpec := { name := "servoChains", fn := fun _ => fun
  | [d1, d2, d3] => { results := [.lit (.bool false)], args := [d1, d2, d3] }
  | _ => none }
def ServoChainsWrongFalsely : Prop := servoChainsRow.holds Try.pinned (OpenSpec.ofChange servoChainsWrong)

/-- 'isochronlaw13.ServoKnown': WHATEVER THE INPUT: true; the input reads as it did. -/
def servoKnownSpec : ChangeSpec := { name := "servoKnown", fn := fun _ => fun
  | [] => { results := [.lit (.bool true)], args := [] }
  | _ => none }
def servoKnownRow : OpenClaim := { program := "ytkbepdhggfijbaa", sum := "492f0d752a1077db23e5a660946a6ccad230269e027e94968014739ec0e18965", func := "isochron/isochronlaw13.ServoKnown", spec := "servoKnown", unfollowed := true, recurses := true, named := ["math/bits.divideError", "math/bits.overflowError"], apart := false }
def ServoKnownSaid : Prop := servoKnownRow.holds Try.pinned (OpenSpec.ofChange servoKnownSpec)

/-- ITS FALSE NEIGHBOUR: 'it returns false'. Refute it at one input. -/
def servoKnownWrong : ChangeSpec := { name := "servoKnown", fn := fun _ => fun
  | [] => { results := [.lit (.bool false)], args := [] }
  | _ => none }
def ServoKnownWrongFalsely : Prop := servoKnownRow.holds Try.pinned (OpenSpec.ofChange servoKnownWrong)

/-- 'isochronlaw13.ServoHolds': WHATEVER THE INPUT: true; the input reads as it did. -/
def servoHoldsSpec : ChangeSpec := { name := "servoHolds", fn := fun _ => fun
  | [d1, d2] => { results := [.lit (.bool true)], args := [d1, d2] }
  | _ => none }
def servoHoldsRow : OpenClaim := { program := "ytkbepdhggfijbaa", sum := "492f0d752a1077db23e5a660946a6ccad230269e027e94968014739ec0e18965", func := "isochron/isochronlaw13.ServoHolds", spec := "servoHolds", unfollowed := true, recurses := true, named := ["math/bits.divideError", "math/bits.overflowError"], apart := false }
def ServoHoldsSaid : Prop := servoHoldsRow.holds Try.pinned (OpenSpec.ofChange servoHoldsSpec)

/-- ITS FALSE NEIGHBOUR: 'it returns false'. Refute it at one input. -/
def servoHoldsWrong : ChangeSpec := { name := "servoHolds", fn := fun _ => fun
  | [d1, d2] => { results := [.lit (.bool false)], args := [d1, d2] }
  | _ => none }
def ServoHoldsWrongFalsely : Prop := servoHoldsRow.holds Try.pinned (OpenSpec.ofChange servoHoldsWrong)

/- THE SECOND FORM. 'bulk': how many values and letters a reading holds, each counted each time it is reached (what is shared counts as often as it is met; a slice's spare places count too). A statement '..UptoSaid' is the law's where the arguments, and the package variables that the reading takes, are together of bulk at most 1048576: NARROWER than '..Said'. Prove '..Said' where nothing that the law and all that it calls make is longer than what came in: it says more and counts as full. Else prove '..UptoSaid'. A law counts once. -/
mutual
def uptoBulk {H : Type} : DataW H → Nat
  | .lit (.string bytes) => bytes.length + 1
  | .lit _ => 1
  | .nil => 1
  | .ptr d => uptoBulk d + 1
  | .slice elems spare => uptoBulkAll elems + uptoBulkAll spare + 1
  | .agg parts => uptoBulkAll parts + 1
  | .iface _ d => uptoBulk d + 1
  | .map entries => uptoBulkEntries entries + 1
  | .held _ => 1
def uptoBulkAll {H : Type} : List (DataW H) → Nat
  | [] => 0
  | d :: r => uptoBulk d + uptoBulkAll r
def uptoBulkEntries {H : Type} : List (Lit × DataW H) → Nat
  | [] => 0
  | x :: r => uptoBulkEntry x + uptoBulkEntries r
def uptoBulkEntry {H : Type} : Lit × DataW H → Nat
  | (.string bytes, d) => bytes.length + uptoBulk d + 1
  | (_, d) => uptoBulk d + 1
 end
def uptoSmall : (H : Type) → List (DataW H) → Bool := fun _ ds => decide (uptoBulkAll ds ≤ 1048576)
def OpenSpec.upto (s : _root_.Go.ChangeSpec) : _root_.Go.OpenSpec := { _root_.Go.OpenSpec.ofChange s with cond := some uptoSmall }

/-- 'isochronlaw13.ServoTimes', WHERE WHAT IT READS IS OF BULK AT MOST 1048576: true; the input reads as it did. -/
def servoTimesUptoRow : OpenClaim := { program := "ytkbepdhggfijbaa", sum := "492f0d752a1077db23e5a660946a6ccad230269e027e94968014739ec0e18965", func := "isochron/isochronlaw13.ServoTimes", spec := "servoTimes", unfollowed := true, recurses := true, named := ["math/bits.divideError", "math/bits.overflowError"], apart := false, narrowed := true }
def ServoTimesUptoSaid : Prop := servoTimesUptoRow.holds Try.pinned (OpenSpec.upto servoTimesSpec)

/-- 'isochronlaw13.ServoWhens', WHERE WHAT IT READS IS OF BULK AT MOST 1048576: true; the input reads as it did. -/
def servoWhensUptoRow : OpenClaim := { program := "ytkbepdhggfijbaa", sum := "492f0d752a1077db23e5a660946a6ccad230269e027e94968014739ec0e18965", func := "isochron/isochronlaw13.ServoWhens", spec := "servoWhens", unfollowed := true, recurses := true, named := ["math/bits.divideError", "math/bits.overflowError"], apart := false, narrowed := true }
def ServoWhensUptoSaid : Prop := servoWhensUptoRow.holds Try.pinned (OpenSpec.upto servoWhensSpec)

/-- 'isochronlaw13.ServoSyncs', WHERE WHAT IT READS IS OF BULK AT MOST 1048576: true; the input reads as it did. -/
def servoSyncsUptoRow : OpenClaim := { program := "ytkbepdhggfijbaa", sum := "492f0d752a1077db23e5a660946a6ccad230269e027e94968014739ec0e18965", func := "isochron/isochronlaw13.ServoSyncs", spec := "servoSyncs", unfollowed := true, recurses := true, named := ["math/bits.divideError", "math/bits.overflowError"], apart := false, narrowed := true }
def ServoSyncsUptoSaid : Prop := servoSyncsUptoRow.holds Try.pinned (OpenSpec.upto servoSyncsSpec)

/-- 'isochronlaw13.ServoLimits', WHERE WHAT IT READS IS OF BULK AT MOST 1048576: true; the input reads as it did. -/
def servoLimitsUptoRow : OpenClaim := { program := "ytkbepdhggfijbaa", sum := "492f0d752a1077db23e5a660946a6ccad230269e027e94968014739ec0e18965", func := "isochron/isochronlaw13.ServoLimits", spec := "servoLimits", unfollowed := true, recurses := true, named := ["math/bits.divideError", "math/bits.overflowError"], apart := false, narrowed := true }
def ServoLimitsUptoSaid : Prop := servoLimitsUptoRow.holds Try.pinned (OpenSpec.upto servoLimitsSpec)

/-- 'isochronlaw13.ServoBack', WHERE WHAT IT READS IS OF BULK AT MOST 1048576: true; the input reads as it did. -/
def servoBackUptoRow : OpenClaim := { program := "ytkbepdhggfijbaa", sum := "492f0d752a1077db23e5a660946a6ccad230269e027e94968014739ec0e18965", func := "isochron/isochronlaw13.ServoBack", spec := "servoBack", unfollowed := true, recurses := true, named := ["math/bits.divideError", "math/bits.overflowError"], apart := false, narrowed := true }
def ServoBackUptoSaid : Prop := servoBackUptoRow.holds Try.pinned (OpenSpec.upto servoBackSpec)

/-- 'isochronlaw13.ServoChains', WHERE WHAT IT READS IS OF BULK AT MOST 1048576: true; the input reads as it did. -/
def servoChainsUptoRow : OpenClaim := { program := "ytkbepdhggfijbaa", sum := "492f0d752a1077db23e5a660946a6ccad230269e027e94968014739ec0e18965", func := "isochron/isochronlaw13.ServoChains", spec := "servoChains", unfollowed := true, recurses := true, named := ["math/bits.divideError", "math/bits.overflowError"], apart := false, narrowed := true }
def ServoChainsUptoSaid : Prop := servoChainsUptoRow.holds Try.pinned (OpenSpec.upto servoChainsSpec)

/-- 'isochronlaw13.ServoKnown', WHERE WHAT IT READS IS OF BULK AT MOST 1048576: true; the input reads as it did. -/
def servoKnownUptoRow : OpenClaim := { program := "ytkbepdhggfijbaa", sum := "492f0d752a1077db23e5a660946a6ccad230269e027e94968014739ec0e18965", func := "isochron/isochronlaw13.ServoKnown", spec := "servoKnown", unfollowed := true, recurses := true, named := ["math/bits.divideError", "math/bits.overflowError"], apart := false, narrowed := true }
def ServoKnownUptoSaid : Prop := servoKnownUptoRow.holds Try.pinned (OpenSpec.upto servoKnownSpec)

/-- 'isochronlaw13.ServoHolds', WHERE WHAT IT READS IS OF BULK AT MOST 1048576: true; the input reads as it did. -/
def servoHoldsUptoRow : OpenClaim := { program := "ytkbepdhggfijbaa", sum := "492f0d752a1077db23e5a660946a6ccad230269e027e94968014739ec0e18965", func := "isochron/isochronlaw13.ServoHolds", spec := "servoHolds", unfollowed := true, recurses := true, named := ["math/bits.divideError", "math/bits.overflowError"], apart := false, narrowed := true }
def ServoHoldsUptoSaid : Prop := servoHoldsUptoRow.holds Try.pinned (OpenSpec.upto servoHoldsSpec)

end Rows
end Go.Proofs.Ytkbepdhggfijbaa
