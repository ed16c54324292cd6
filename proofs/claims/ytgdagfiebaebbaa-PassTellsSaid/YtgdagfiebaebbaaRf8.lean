/- The reference of layer 10: Right says what ptp.Check says. -/
import Derived.Test.YtgdagfiebaebbaaRf2
import Derived.Test.YtgdagfiebaebbaaRf3
import Derived.Test.YtgdagfiebaebbaaRf4
import Derived.Test.YtgdagfiebaebbaaRf5
import Derived.Test.YtgdagfiebaebbaaRf6
import Derived.Test.YtgdagfiebaebbaaRf7
namespace Go.Proofs.Ytgdagfiebaebbaa
open Go.RowKit
set_option linter.unusedSimpArgs false

theorem chk_of {v : Nat → Int} {l : List Fd} (h : optF (v 0) = some l) : (chkM v == 0) = (allOk v (allF l) && allEq (zeroed v (allF l)) (fun _ => 0)) := by
  unfold chkM
  rw [h]
  dsimp only
  cases allOk v (allF l) && allEq (zeroed v (allF l)) (fun _ => 0) <;> rfl
theorem chk_r0 {v : Nat → Int} (h : v 0 = 0) : (chkM v == 0) = right0 (v 1) (v 2) (v 3) (v 4) (v 5) (v 6) (v 7) (v 8) (v 9) (v 10) (v 11) (v 12) (v 13) (v 14) (v 15) (v 16) := by
  rw [chk_of (l := []) (by unfold optF; rw [h]; rfl), Bool.eq_iff_iff]
  simp only [allOk, allEq, zeroed, allF, headA, headB, timeF, stepsF, respF, annF, followF, masterF, idF, Fd.ok, right0, inB, portB, masterB, show List.range 17 = [0, 1, 2, 3, 4, 5, 6, 7, 8, 9, 10, 11, 12, 13, 14, 15, 16] from rfl, List.all_cons, List.all_nil, List.any_cons, List.any_nil, List.cons_append, List.nil_append, Nat.reduceAdd, Nat.reduceBEq, Bool.or_false, Bool.or_true, Bool.true_or, Bool.false_or, if_true, if_false, Bool.false_eq_true, Bool.and_true, Bool.and_eq_true, decide_eq_true_eq, beq_iff_eq, reduceIte, beq_self_eq_true, Nat.reduceEqDiff, true_and, h]
  constructor <;> intro q <;> (repeat' apply And.intro) <;> omega
theorem chk_r2 {v : Nat → Int} (h : v 0 = 2) : (chkM v == 0) = right2 (v 1) (v 2) (v 3) (v 4) (v 5) (v 6) (v 7) (v 8) (v 9) (v 10) (v 11) (v 12) (v 13) (v 14) (v 15) (v 16) := by
  rw [chk_of (l := []) (by unfold optF; rw [h]; rfl), Bool.eq_iff_iff]
  simp only [allOk, allEq, zeroed, allF, headA, headB, timeF, stepsF, respF, annF, followF, masterF, idF, Fd.ok, right2, inB, portB, masterB, show List.range 17 = [0, 1, 2, 3, 4, 5, 6, 7, 8, 9, 10, 11, 12, 13, 14, 15, 16] from rfl, List.all_cons, List.all_nil, List.any_cons, List.any_nil, List.cons_append, List.nil_append, Nat.reduceAdd, Nat.reduceBEq, Bool.or_false, Bool.or_true, Bool.true_or, Bool.false_or, if_true, if_false, Bool.false_eq_true, Bool.and_true, Bool.and_eq_true, decide_eq_true_eq, beq_iff_eq, reduceIte, beq_self_eq_true, Nat.reduceEqDiff, true_and, h]
  constructor <;> intro q <;> (repeat' apply And.intro) <;> omega
theorem chk_r3 {v : Nat → Int} (h : v 0 = 3) : (chkM v == 0) = right3 (v 1) (v 2) (v 3) (v 4) (v 5) (v 6) (v 7) (v 8) (v 9) (v 10) (v 11) (v 12) (v 13) (v 14) (v 15) (v 16) := by
  rw [chk_of (l := respF) (by unfold optF; rw [h]; rfl), Bool.eq_iff_iff]
  simp only [allOk, allEq, zeroed, allF, headA, headB, timeF, stepsF, respF, annF, followF, masterF, idF, Fd.ok, right3, inB, portB, masterB, show List.range 17 = [0, 1, 2, 3, 4, 5, 6, 7, 8, 9, 10, 11, 12, 13, 14, 15, 16] from rfl, List.all_cons, List.all_nil, List.any_cons, List.any_nil, List.cons_append, List.nil_append, Nat.reduceAdd, Nat.reduceBEq, Bool.or_false, Bool.or_true, Bool.true_or, Bool.false_or, if_true, if_false, Bool.false_eq_true, Bool.and_true, Bool.and_eq_true, decide_eq_true_eq, beq_iff_eq, reduceIte, beq_self_eq_true, Nat.reduceEqDiff, true_and, h]
  constructor <;> intro q <;> (repeat' apply And.intro) <;> omega
theorem chk_r8 {v : Nat → Int} (h : v 0 = 8) : (chkM v == 0) = right8 (v 1) (v 2) (v 3) (v 4) (v 5) (v 6) (v 7) (v 8) (v 9) (v 10) (v 11) (v 12) (v 13) (v 14) (v 15) (v 16) := by
  rw [chk_of (l := followF) (by unfold optF; rw [h]; rfl), Bool.eq_iff_iff]
  simp only [allOk, allEq, zeroed, allF, headA, headB, timeF, stepsF, respF, annF, followF, masterF, idF, Fd.ok, right8, inB, portB, masterB, show List.range 17 = [0, 1, 2, 3, 4, 5, 6, 7, 8, 9, 10, 11, 12, 13, 14, 15, 16] from rfl, List.all_cons, List.all_nil, List.any_cons, List.any_nil, List.cons_append, List.nil_append, Nat.reduceAdd, Nat.reduceBEq, Bool.or_false, Bool.or_true, Bool.true_or, Bool.false_or, if_true, if_false, Bool.false_eq_true, Bool.and_true, Bool.and_eq_true, decide_eq_true_eq, beq_iff_eq, reduceIte, beq_self_eq_true, Nat.reduceEqDiff, true_and, h]
  constructor <;> intro q <;> (repeat' apply And.intro) <;> omega
theorem chk_r10 {v : Nat → Int} (h : v 0 = 10) : (chkM v == 0) = right10 (v 1) (v 2) (v 3) (v 4) (v 5) (v 6) (v 7) (v 8) (v 9) (v 10) (v 11) (v 12) (v 13) (v 14) (v 15) (v 16) := by
  rw [chk_of (l := respF) (by unfold optF; rw [h]; rfl), Bool.eq_iff_iff]
  simp only [allOk, allEq, zeroed, allF, headA, headB, timeF, stepsF, respF, annF, followF, masterF, idF, Fd.ok, right10, inB, portB, masterB, show List.range 17 = [0, 1, 2, 3, 4, 5, 6, 7, 8, 9, 10, 11, 12, 13, 14, 15, 16] from rfl, List.all_cons, List.all_nil, List.any_cons, List.any_nil, List.cons_append, List.nil_append, Nat.reduceAdd, Nat.reduceBEq, Bool.or_false, Bool.or_true, Bool.true_or, Bool.false_or, if_true, if_false, Bool.false_eq_true, Bool.and_true, Bool.and_eq_true, decide_eq_true_eq, beq_iff_eq, reduceIte, beq_self_eq_true, Nat.reduceEqDiff, true_and, h]
  constructor <;> intro q <;> (repeat' apply And.intro) <;> omega
theorem chk_r11 {v : Nat → Int} (h : v 0 = 11) : (chkM v == 0) = right11 (v 1) (v 2) (v 3) (v 4) (v 5) (v 6) (v 7) (v 8) (v 9) (v 10) (v 11) (v 12) (v 13) (v 14) (v 15) (v 16) := by
  rw [chk_of (l := annF) (by unfold optF; rw [h]; rfl), Bool.eq_iff_iff]
  simp only [allOk, allEq, zeroed, allF, headA, headB, timeF, stepsF, respF, annF, followF, masterF, idF, Fd.ok, right11, inB, portB, masterB, show List.range 17 = [0, 1, 2, 3, 4, 5, 6, 7, 8, 9, 10, 11, 12, 13, 14, 15, 16] from rfl, List.all_cons, List.all_nil, List.any_cons, List.any_nil, List.cons_append, List.nil_append, Nat.reduceAdd, Nat.reduceBEq, Bool.or_false, Bool.or_true, Bool.true_or, Bool.false_or, if_true, if_false, Bool.false_eq_true, Bool.and_true, Bool.and_eq_true, decide_eq_true_eq, beq_iff_eq, reduceIte, beq_self_eq_true, Nat.reduceEqDiff, true_and, h]
  constructor <;> intro q <;> (repeat' apply And.intro) <;> omega
theorem rright10_any (v : Nat → Int) (w : World) : Calls Try.prog 47 #[msgV v] w fun e w' => e = .returned (.bool (chkM v == 0)) ∧ Below w.heap.size w w' := by
  unfold msgV
  by_cases h0 : v 0 = 0
  · rw [chk_r0 h0, h0]
    exact rright_0 (v 1) (v 2) (v 3) (v 4) (v 5) (v 6) (v 7) (v 8) (v 9) (v 10) (v 11) (v 12) (v 13) (v 14) (v 15) (v 16) w
  · have g0 := h0
    by_cases h2 : v 0 = 2
    · rw [chk_r2 h2, h2]
      exact rright_2 (v 1) (v 2) (v 3) (v 4) (v 5) (v 6) (v 7) (v 8) (v 9) (v 10) (v 11) (v 12) (v 13) (v 14) (v 15) (v 16) w
    · have g2 := h2
      by_cases h3 : v 0 = 3
      · rw [chk_r3 h3, h3]
        exact rright_3 (v 1) (v 2) (v 3) (v 4) (v 5) (v 6) (v 7) (v 8) (v 9) (v 10) (v 11) (v 12) (v 13) (v 14) (v 15) (v 16) w
      · have g3 := h3
        by_cases h8 : v 0 = 8
        · rw [chk_r8 h8, h8]
          exact rright_8 (v 1) (v 2) (v 3) (v 4) (v 5) (v 6) (v 7) (v 8) (v 9) (v 10) (v 11) (v 12) (v 13) (v 14) (v 15) (v 16) w
        · have g8 := h8
          by_cases h10 : v 0 = 10
          · rw [chk_r10 h10, h10]
            exact rright_10 (v 1) (v 2) (v 3) (v 4) (v 5) (v 6) (v 7) (v 8) (v 9) (v 10) (v 11) (v 12) (v 13) (v 14) (v 15) (v 16) w
          · have g10 := h10
            by_cases h11 : v 0 = 11
            · rw [chk_r11 h11, h11]
              exact rright_11 (v 1) (v 2) (v 3) (v 4) (v 5) (v 6) (v 7) (v 8) (v 9) (v 10) (v 11) (v 12) (v 13) (v 14) (v 15) (v 16) w
            · have g11 := h11
              have e : (chkM v == 0) = false := by unfold chkM optF; rw [if_neg h0, if_neg h2, if_neg h8, if_neg h3, if_neg h10, if_neg h11]; rfl
              rw [e]
              exact rright_no (v 0) (v 1) (v 2) (v 3) (v 4) (v 5) (v 6) (v 7) (v 8) (v 9) (v 10) (v 11) (v 12) (v 13) (v 14) (v 15) (v 16) h0 h2 h3 h10 h8 h11 w
end Go.Proofs.Ytgdagfiebaebbaa
