/- The chapter's examples of the layer clock hold. -/
import Derived.Test.YtphinhebnekmlaaClock3
import Derived.Test.YtphinhebnekmlaaClock5
namespace Go.Proofs.Ytphinhebnekmlaa
open Go.RowKit Go.Shelf

theorem first_of {o p l : Int} {k : Nat} (h : okC o p = true) (hk : k ≤ 1099511627777) (h1 : k = 0 ∨ atC o p ((k : Int) - 1) < l) (h2 : k = 1099511627777 ∨ l ≤ atC o p k) : First o p l k := by
  refine ⟨hk, fun i hi => ⟨fun g => ?_, fun g => ?_⟩⟩
  · rcases Nat.lt_or_ge i k with q | q
    · rcases h1 with rfl | h1
      · omega
      · have := atC_le h (show (i : Int) ≤ (k : Int) - 1 by omega); omega
    · exact q
  · rcases h2 with rfl | h2
    · omega
    · exact Int.le_trans h2 (atC_le h (by omega))
theorem Calls.at2 {f : Nat} {args : Array Value} {w : World} {v e v' e' : Int} (h : Calls Try.prog f args w fun x w' => x = .returned (.tuple #[.int .i64 v, .int .i64 e]) ∧ Below w.heap.size w w') (hv : v = v') (he : e = e') :
    Calls Try.prog f args w fun x w' => x = .returned (.tuple #[.int .i64 v', .int .i64 e']) ∧ Below w.heap.size w w' := by subst hv he; exact h
theorem Calls.at1 {f : Nat} {args : Array Value} {w : World} {v v' : Int} (h : Calls Try.prog f args w fun x w' => x = .returned (.int .i64 v) ∧ Below w.heap.size w w') (hv : v = v') :
    Calls Try.prog f args w fun x w' => x = .returned (.int .i64 v') ∧ Below w.heap.size w w' := by subst hv; exact h
set_option maxRecDepth 100000 in
set_option maxHeartbeats 1000000 in
theorem works09 (w : World) : Calls Try.prog 10 #[] w fun e w' => e = .returned (.bool true) ∧ Below w.heap.size w w' := by
  have K1 := Lib.hid fun w => Calls.at2 (v' := 10006) (e' := 0) (local_any 5 100000 10000 w) (by decide +kernel) (by decide +kernel)
  have K2 := Lib.hid fun w => Calls.at2 (v' := 9998) (e' := 0) (local_any 0 (-100000) 9999 w) (by decide +kernel) (by decide +kernel)
  have K3 := Lib.hid fun w => Calls.at2 (v' := 10000) (e' := 0) (true_any 0 (-100000) 9999 10000 w (fun h => first_of h (by omega) (Or.inr (by decide +kernel)) (Or.inr (by decide +kernel)))) (by decide +kernel) (by decide +kernel)
  have K4 := Lib.hid fun w => Calls.at2 (v' := 0) (e' := 0) (true_any 50 0 20 0 w (fun h => first_of h (by omega) (Or.inl rfl) (Or.inr (by decide +kernel)))) (by decide +kernel) (by decide +kernel)
  have K5 := Lib.hid fun w => Calls.at2 (v' := 5001) (e' := 0) (elapsed_any 7 200000 0 5000 w) (by decide +kernel) (by decide +kernel)
  have K6 := Lib.hid fun w => Calls.at2 (v' := 3) (e' := 0) (offset_any 5 0 2 0 9 w) (by decide +kernel) (by decide +kernel)
  have K7 := Lib.hid fun w => Calls.at2 (v' := 1) (e' := 0) (bound_any 200000 1 w) (by decide +kernel) (by decide +kernel)
  have K8 := Lib.hid fun w => Calls.at2 (v' := 1) (e' := 0) (bound_any 100000 10000 w) (by decide +kernel) (by decide +kernel)
  have K9 := Lib.hid fun w => Calls.at2 (v' := 0) (e' := 2) (local_any 0 0 (-1) w) (by decide +kernel) (by decide +kernel)
  have K10 := Lib.hid fun w => Calls.at2 (v' := 0) (e' := 4) (true_any 0 0 1099511627777 1099511627777 w (fun h => first_of h (by omega) (Or.inr (by decide +kernel)) (Or.inl rfl))) (by decide +kernel) (by decide +kernel)
  have K11 := Lib.hid fun w => Calls.at1 (v' := 190) (check_any 0 200001 w) (by decide +kernel)
  go_enter Try.func10, Try.ntmps10
  go_wp2_with fail
  refine (K1.out _).mono ?_; rintro e w1 ⟨rfl, hb1⟩
  go_wp2_with fail
  refine (K2.out _).mono ?_; rintro e w2 ⟨rfl, hb2⟩
  have H2 := hb1.trans (hb2.mono hb1.size)
  go_wp2_with fail
  refine (K3.out _).mono ?_; rintro e w3 ⟨rfl, hb3⟩
  have H3 := H2.trans (hb3.mono H2.size)
  go_wp2_with fail
  refine (K4.out _).mono ?_; rintro e w4 ⟨rfl, hb4⟩
  have H4 := H3.trans (hb4.mono H3.size)
  go_wp2_with fail
  refine (K5.out _).mono ?_; rintro e w5 ⟨rfl, hb5⟩
  have H5 := H4.trans (hb5.mono H4.size)
  go_wp2_with fail
  refine (K6.out _).mono ?_; rintro e w6 ⟨rfl, hb6⟩
  have H6 := H5.trans (hb6.mono H5.size)
  go_wp2_with fail
  refine (K7.out _).mono ?_; rintro e w7 ⟨rfl, hb7⟩
  have H7 := H6.trans (hb7.mono H6.size)
  go_wp2_with fail
  refine (K8.out _).mono ?_; rintro e w8 ⟨rfl, hb8⟩
  have H8 := H7.trans (hb8.mono H7.size)
  go_wp2_with fail
  refine (K9.out _).mono ?_; rintro e w9 ⟨rfl, hb9⟩
  have H9 := H8.trans (hb9.mono H8.size)
  go_wp2_with fail
  refine (K10.out _).mono ?_; rintro e w10 ⟨rfl, hb10⟩
  have H10 := H9.trans (hb10.mono H9.size)
  go_wp2_with fail
  refine (K11.out _).mono ?_; rintro e w11 ⟨rfl, hb11⟩
  have H11 := H10.trans (hb11.mono H10.size)
  go_wp2
  go_ret
  exact ⟨rfl, H11⟩
end Go.Proofs.Ytphinhebnekmlaa
