/- The reference of layer 10: in, Port, Master, Size. -/
import Derived.Test.YtgdagfiebaebbaaChk2
namespace Go.Proofs.Ytgdagfiebaebbaa
open Go.RowKit

def inB (lo hi n : Int) : Bool := decide (lo ≤ n) && decide (n ≤ hi)
set_option maxRecDepth 100000 in
set_option maxHeartbeats 4000000 in
theorem rin_any (n lo hi : Int) (w : World) : Calls Try.prog 60 #[.int .i64 n, .int .i64 lo, .int .i64 hi] w fun e w' => e = .returned (.bool (inB lo hi n)) ∧ w' = w := by
  by_cases h1 : lo ≤ n
  · by_cases h2 : n ≤ hi
    · rw [show inB lo hi n = true from by simp [inB, h1, h2]]
      go_enter Try.func60, Try.ntmps60
      go_wp2
      go_ret
      exact ⟨rfl, rfl⟩
    · rw [show inB lo hi n = false from by simp [inB, h1, h2]]
      go_enter Try.func60, Try.ntmps60
      go_wp2
      go_ret
      exact ⟨rfl, rfl⟩
  · rw [show inB lo hi n = false from by simp [inB, h1]]
    go_enter Try.func60, Try.ntmps60
    go_wp2
    go_ret
    exact ⟨rfl, rfl⟩
def portB (i p : Int) : Bool := (inB 0 281474976710655 i && inB 1 65535 p)
set_option maxRecDepth 100000 in
set_option maxHeartbeats 4000000 in
theorem rport_any (i p : Int) (w : World) : Calls Try.prog 61 #[.agg #[.int .i64 i, .int .i64 p]] w fun e w' => e = .returned (.bool (portB i p)) ∧ Below w.heap.size w w' := by
  have HB : Below w.heap.size w (w.alloc (.cells #[.int .i64 i, .int .i64 p] 42)) := (Below.refl _ _).alloc (Nat.le_refl _) _
  unfold portB
  have K0 := Lib.hid fun w => rin_any i 0 281474976710655 w
  have K1 := Lib.hid fun w => rin_any p 1 65535 w
  generalize inB 0 281474976710655 i = x0 at *
  generalize inB 1 65535 p = x1 at *
  cases x0
  · go_enter Try.func61, Try.ntmps61
    go_wp2_with fail
    refine (K0.out _).mono ?_
    rintro e w1 ⟨rfl, rfl⟩
    go_wp2
    go_ret
    exact ⟨rfl, HB⟩
  · go_enter Try.func61, Try.ntmps61
    go_wp2_with fail
    refine (K0.out _).mono ?_
    rintro e w1 ⟨rfl, rfl⟩
    go_wp2_with fail
    refine (K1.out _).mono ?_
    rintro e w1 ⟨rfl, rfl⟩
    go_wp2
    go_ret
    exact ⟨rfl, HB⟩
def masterB (p1 cl ac va p2 id : Int) : Bool := (inB 0 255 p1 && (inB 0 255 cl && (inB 0 255 ac && (inB 0 65535 va && (inB 0 255 p2 && inB 0 281474976710655 id)))))
set_option maxRecDepth 100000 in
set_option maxHeartbeats 4000000 in
theorem rmaster_any (p1 cl ac va p2 id : Int) (w : World) : Calls Try.prog 62 #[.agg #[.int .i64 p1, .int .i64 cl, .int .i64 ac, .int .i64 va, .int .i64 p2, .int .i64 id]] w fun e w' => e = .returned (.bool (masterB p1 cl ac va p2 id)) ∧ Below w.heap.size w w' := by
  have HB : Below w.heap.size w (w.alloc (.cells #[.int .i64 p1, .int .i64 cl, .int .i64 ac, .int .i64 va, .int .i64 p2, .int .i64 id] 44)) := (Below.refl _ _).alloc (Nat.le_refl _) _
  unfold masterB
  have K0 := Lib.hid fun w => rin_any p1 0 255 w
  have K1 := Lib.hid fun w => rin_any cl 0 255 w
  have K2 := Lib.hid fun w => rin_any ac 0 255 w
  have K3 := Lib.hid fun w => rin_any va 0 65535 w
  have K4 := Lib.hid fun w => rin_any p2 0 255 w
  have K5 := Lib.hid fun w => rin_any id 0 281474976710655 w
  generalize inB 0 255 p1 = x0 at *
  generalize inB 0 255 cl = x1 at *
  generalize inB 0 255 ac = x2 at *
  generalize inB 0 65535 va = x3 at *
  generalize inB 0 255 p2 = x4 at *
  generalize inB 0 281474976710655 id = x5 at *
  cases x0
  · go_enter Try.func62, Try.ntmps62
    go_wp2_with fail
    refine (K0.out _).mono ?_
    rintro e w1 ⟨rfl, rfl⟩
    go_wp2
    go_ret
    exact ⟨rfl, HB⟩
  · cases x1
    · go_enter Try.func62, Try.ntmps62
      go_wp2_with fail
      refine (K0.out _).mono ?_
      rintro e w1 ⟨rfl, rfl⟩
      go_wp2_with fail
      refine (K1.out _).mono ?_
      rintro e w1 ⟨rfl, rfl⟩
      go_wp2
      go_ret
      exact ⟨rfl, HB⟩
    · cases x2
      · go_enter Try.func62, Try.ntmps62
        go_wp2_with fail
        refine (K0.out _).mono ?_
        rintro e w1 ⟨rfl, rfl⟩
        go_wp2_with fail
        refine (K1.out _).mono ?_
        rintro e w1 ⟨rfl, rfl⟩
        go_wp2_with fail
        refine (K2.out _).mono ?_
        rintro e w1 ⟨rfl, rfl⟩
        go_wp2
        go_ret
        exact ⟨rfl, HB⟩
      · cases x3
        · go_enter Try.func62, Try.ntmps62
          go_wp2_with fail
          refine (K0.out _).mono ?_
          rintro e w1 ⟨rfl, rfl⟩
          go_wp2_with fail
          refine (K1.out _).mono ?_
          rintro e w1 ⟨rfl, rfl⟩
          go_wp2_with fail
          refine (K2.out _).mono ?_
          rintro e w1 ⟨rfl, rfl⟩
          go_wp2_with fail
          refine (K3.out _).mono ?_
          rintro e w1 ⟨rfl, rfl⟩
          go_wp2
          go_ret
          exact ⟨rfl, HB⟩
        · cases x4
          · go_enter Try.func62, Try.ntmps62
            go_wp2_with fail
            refine (K0.out _).mono ?_
            rintro e w1 ⟨rfl, rfl⟩
            go_wp2_with fail
            refine (K1.out _).mono ?_
            rintro e w1 ⟨rfl, rfl⟩
            go_wp2_with fail
            refine (K2.out _).mono ?_
            rintro e w1 ⟨rfl, rfl⟩
            go_wp2_with fail
            refine (K3.out _).mono ?_
            rintro e w1 ⟨rfl, rfl⟩
            go_wp2_with fail
            refine (K4.out _).mono ?_
            rintro e w1 ⟨rfl, rfl⟩
            go_wp2
            go_ret
            exact ⟨rfl, HB⟩
          · go_enter Try.func62, Try.ntmps62
            go_wp2_with fail
            refine (K0.out _).mono ?_
            rintro e w1 ⟨rfl, rfl⟩
            go_wp2_with fail
            refine (K1.out _).mono ?_
            rintro e w1 ⟨rfl, rfl⟩
            go_wp2_with fail
            refine (K2.out _).mono ?_
            rintro e w1 ⟨rfl, rfl⟩
            go_wp2_with fail
            refine (K3.out _).mono ?_
            rintro e w1 ⟨rfl, rfl⟩
            go_wp2_with fail
            refine (K4.out _).mono ?_
            rintro e w1 ⟨rfl, rfl⟩
            go_wp2_with fail
            refine (K5.out _).mono ?_
            rintro e w1 ⟨rfl, rfl⟩
            go_wp2
            go_ret
            exact ⟨rfl, HB⟩
set_option maxRecDepth 100000 in
set_option maxHeartbeats 4000000 in
theorem rsize_0 (w : World) : Calls Try.prog 59 #[.int .i64 0] w fun e w' => e = .returned (.int .i64 22) ∧ w' = w := by
  go_enter Try.func59, Try.ntmps59
  go_wp2
  go_ret
  exact ⟨rfl, rfl⟩
set_option maxRecDepth 100000 in
set_option maxHeartbeats 4000000 in
theorem rsize_2 (w : World) : Calls Try.prog 59 #[.int .i64 2] w fun e w' => e = .returned (.int .i64 22) ∧ w' = w := by
  go_enter Try.func59, Try.ntmps59
  go_wp2
  go_ret
  exact ⟨rfl, rfl⟩
set_option maxRecDepth 100000 in
set_option maxHeartbeats 4000000 in
theorem rsize_3 (w : World) : Calls Try.prog 59 #[.int .i64 3] w fun e w' => e = .returned (.int .i64 38) ∧ w' = w := by
  go_enter Try.func59, Try.ntmps59
  go_wp2
  go_ret
  exact ⟨rfl, rfl⟩
set_option maxRecDepth 100000 in
set_option maxHeartbeats 4000000 in
theorem rsize_10 (w : World) : Calls Try.prog 59 #[.int .i64 10] w fun e w' => e = .returned (.int .i64 38) ∧ w' = w := by
  go_enter Try.func59, Try.ntmps59
  go_wp2
  go_ret
  exact ⟨rfl, rfl⟩
set_option maxRecDepth 100000 in
set_option maxHeartbeats 4000000 in
theorem rsize_8 (w : World) : Calls Try.prog 59 #[.int .i64 8] w fun e w' => e = .returned (.int .i64 34) ∧ w' = w := by
  go_enter Try.func59, Try.ntmps59
  go_wp2
  go_ret
  exact ⟨rfl, rfl⟩
set_option maxRecDepth 100000 in
set_option maxHeartbeats 4000000 in
theorem rsize_11 (w : World) : Calls Try.prog 59 #[.int .i64 11] w fun e w' => e = .returned (.int .i64 36) ∧ w' = w := by
  go_enter Try.func59, Try.ntmps59
  go_wp2
  go_ret
  exact ⟨rfl, rfl⟩
set_option maxRecDepth 100000 in
set_option maxHeartbeats 4000000 in
theorem rsize_no {k : Int} (h0 : ¬ k = 0) (h2 : ¬ k = 2) (h3 : ¬ k = 3) (h10 : ¬ k = 10) (h8 : ¬ k = 8) (h11 : ¬ k = 11) (w : World) : Calls Try.prog 59 #[.int .i64 k] w fun e w' => e = .returned (.int .i64 0) ∧ w' = w := by
  have e0 : (k == 0) = false := by simpa using h0
  have e2 : (k == 2) = false := by simpa using h2
  have e3 : (k == 3) = false := by simpa using h3
  have e10 : (k == 10) = false := by simpa using h10
  have e8 : (k == 8) = false := by simpa using h8
  have e11 : (k == 11) = false := by simpa using h11
  go_enter Try.func59, Try.ntmps59
  go_wp2
  go_ret
  exact ⟨rfl, rfl⟩
set_option maxRecDepth 100000 in
set_option maxHeartbeats 4000000 in
theorem port_zero (i p : Int) (W : World) : (Op.equalIn 10000 42 (.agg #[.int .i64 i, .int .i64 p]) (.agg #[.int .i64 0, .int .i64 0])).run Try.prog W = .ok ((i == 0 && p == 0)) W := by
  rw [run_equalIn_struct W 9999 42 _ _ (by kernel_rfl) (by kernel_rfl)]
  go_simp
  iterate 1 refine ite_and ?_
  by_cases e : p = 0
  · simp [e]
  · simp [e]
set_option maxRecDepth 100000 in
set_option maxHeartbeats 4000000 in
theorem master_zero (p1 cl ac va p2 id : Int) (W : World) : (Op.equalIn 10000 44 (.agg #[.int .i64 p1, .int .i64 cl, .int .i64 ac, .int .i64 va, .int .i64 p2, .int .i64 id]) (.agg #[.int .i64 0, .int .i64 0, .int .i64 0, .int .i64 0, .int .i64 0, .int .i64 0])).run Try.prog W = .ok ((p1 == 0 && (cl == 0 && (ac == 0 && (va == 0 && (p2 == 0 && id == 0)))))) W := by
  rw [run_equalIn_struct W 9999 44 _ _ (by kernel_rfl) (by kernel_rfl)]
  go_simp
  iterate 5 refine ite_and ?_
  by_cases e : id = 0
  · simp [e]
  · simp [e]
end Go.Proofs.Ytgdagfiebaebbaa
