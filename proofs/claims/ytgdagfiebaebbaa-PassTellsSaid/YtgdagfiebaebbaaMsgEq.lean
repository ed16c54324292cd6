/- Comparing two messages. -/
import Derived.Test.YtgdagfiebaebbaaFld8
namespace Go.Proofs.Ytgdagfiebaebbaa
open Go.RowKit

def allEq (a b : Nat → Int) : Bool := (List.range 17).all fun j => a j == b j
theorem ite_and {x y : Int} {c : Bool} {X : Result Bool} {W : World} (h : X = .ok c W) : (if x = y then X else .ok false W) = .ok (x == y && c) W := by
  by_cases e : x = y
  · rw [if_pos e, h, beq_iff_eq.2 e, Bool.true_and]
  · have e' : (x == y) = false := by simpa using e
    rw [if_neg e, e', Bool.false_and]
set_option maxRecDepth 100000 in
set_option maxHeartbeats 1000000 in
theorem msg_eq (a b : Nat → Int) (W : World) : (Op.equalIn 10000 46 (.agg #[.int .i64 (a 0), .int .i64 (a 1), .int .i64 (a 2), .int .i64 (a 3), .int .i64 (a 4), .int .i64 (a 5), .int .i64 (a 6), .int .i64 (a 7), .int .i64 (a 8), .int .i64 (a 9), .int .i64 (a 10), .int .i64 (a 11), .int .i64 (a 12), .int .i64 (a 13), .int .i64 (a 14), .int .i64 (a 15), .int .i64 (a 16)]) (.agg #[.int .i64 (b 0), .int .i64 (b 1), .int .i64 (b 2), .int .i64 (b 3), .int .i64 (b 4), .int .i64 (b 5), .int .i64 (b 6), .int .i64 (b 7), .int .i64 (b 8), .int .i64 (b 9), .int .i64 (b 10), .int .i64 (b 11), .int .i64 (b 12), .int .i64 (b 13), .int .i64 (b 14), .int .i64 (b 15), .int .i64 (b 16)])).run Try.prog W = .ok (allEq a b) W := by
  rw [run_equalIn_struct W 9999 46 _ _ (by kernel_rfl) (by kernel_rfl)]
  go_simp
  unfold allEq
  simp only [show List.range 17 = [0, 1, 2, 3, 4, 5, 6, 7, 8, 9, 10, 11, 12, 13, 14, 15, 16] from rfl, List.all_cons, List.all_nil]
  iterate 16 refine ite_and ?_
  by_cases e : a 16 = b 16
  · simp [e]
  · simp [e]
end Go.Proofs.Ytgdagfiebaebbaa
