/- ServoLimits: the walk of the law. -/
import Derived.Test.YtkbepdhggfijbaaWorks13
import Derived.Test.YtkbepdhggfijbaaRef13b
namespace Go.Proofs.Ytkbepdhggfijbaa
open Go.RowKit Go.Shelf

set_option maxRecDepth 100000 in
set_option maxHeartbeats 1000000 in
theorem slaw4_walk (e x r : Int) (w : World) :
    Calls Try.prog 6 #[.int .i64 e, .int .i64 x, .int .i64 r] w fun e' w' => e' = .returned (.bool true) ∧ Below w.heap.size w w' := by
  have HL := Lib.hid fun w => rlimits_any e x r w
  cases h : limB e x r
  · rw [h] at HL
    have HB := Lib.hid fun w => Calls.at2 (v' := 0) (e' := 2) (sbound_any e x r w) (by unfold sbV; rw [h]; rfl) (by unfold sbE; rw [h]; rfl)
    clear h
    go_enter Try.func6, Try.ntmps6
    go_wp2_with fail
    refine (works13 _).mono ?_
    rintro e w1 ⟨rfl, hb1⟩
    go_wp2_with fail
    refine (HB.out _).mono ?_
    rintro e w2 ⟨rfl, hb2⟩
    have H2 := hb1.trans (hb2.mono hb1.size)
    go_wp2_with fail
    refine (HL.out _).mono ?_
    rintro e w3 ⟨rfl, rfl⟩
    go_wp2
    go_ret
    exact ⟨rfl, H2⟩
  · rw [h] at HL
    have HR := Lib.hid fun w => rbound_any e x r w h
    have HB := Lib.hid fun w => Calls.at2 (v' := sbV e x r) (e' := 0) (sbound_any e x r w) rfl (by unfold sbE; rw [h]; rfl)
    clear h
    generalize sbV e x r = v at *
    go_enter Try.func6, Try.ntmps6
    go_wp2_with fail
    refine (works13 _).mono ?_
    rintro e w1 ⟨rfl, hb1⟩
    go_wp2_with fail
    refine (HB.out _).mono ?_
    rintro e w2 ⟨rfl, hb2⟩
    have H2 := hb1.trans (hb2.mono hb1.size)
    go_wp2_with fail
    refine (HL.out _).mono ?_
    rintro e w3 ⟨rfl, rfl⟩
    go_wp2_with fail
    refine (HR.out _).mono ?_
    rintro e w4 ⟨rfl, hb4⟩
    have H4 := H2.trans (hb4.mono H2.size)
    go_wp2
    go_ret
    exact ⟨rfl, H4⟩
end Go.Proofs.Ytkbepdhggfijbaa
