/- PassLimits: the walk of the law. -/
import Derived.Test.YtgdagfiebaebbaaWorks14
namespace Go.Proofs.Ytgdagfiebaebbaa
open Go.RowKit

set_option maxRecDepth 100000 in
set_option maxHeartbeats 8000000 in
theorem plaw4_walk (e g d u : Int) (w : World) : Calls Try.prog 6 #[.int .i64 e, .int .i64 g, .int .i64 d, .int .i64 u] w fun r w' => r = .returned (.bool true) ∧ Below w.heap.size w w' := by
  have KW := Lib.hid fun w => works_any w
  have KL := Lib.hid fun w => rlimits_any e g d u w
  cases h : limB e g d u
  · have KB := Lib.hid fun w => pbound_no e g d u w h
    rw [h] at KL
    clear h
    go_enter Try.func6, Try.ntmps6
    go_wp2_with fail
    refine (KW.out _).mono ?_
    rintro r w1 ⟨rfl, hb1⟩
    go_wp2_with fail
    refine (KB.out _).mono ?_
    rintro r w2 ⟨rfl, hb2⟩
    go_wp2_with fail
    refine (KL.out _).mono ?_
    rintro r w3 ⟨rfl, rfl⟩
    go_wp2
    go_ret
    exact ⟨rfl, hb1.trans (hb2.mono hb1.size)⟩
  · have KB := Lib.hid fun w => pbound_ok e g d u w h
    have KR := Lib.hid fun w => rbound14_any e g d u w h
    rw [h] at KL
    generalize bndV e g d u = n at *
    clear h
    go_enter Try.func6, Try.ntmps6
    go_wp2_with fail
    refine (KW.out _).mono ?_
    rintro r w1 ⟨rfl, hb1⟩
    go_wp2_with fail
    refine (KB.out _).mono ?_
    rintro r w2 ⟨rfl, hb2⟩
    go_wp2_with fail
    refine (KL.out _).mono ?_
    rintro r w3 ⟨rfl, rfl⟩
    go_wp2_with fail
    refine (KR.out _).mono ?_
    rintro r w3 ⟨rfl, rfl⟩
    go_wp2
    go_ret
    exact ⟨rfl, hb1.trans (hb2.mono hb1.size)⟩
end Go.Proofs.Ytgdagfiebaebbaa
