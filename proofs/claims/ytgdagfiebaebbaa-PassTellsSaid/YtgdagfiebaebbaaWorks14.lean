/- The chapter's examples: works. -/
import Derived.Test.YtgdagfiebaebbaaRMsg
namespace Go.Proofs.Ytgdagfiebaebbaa
open Go.RowKit

theorem Calls.atV {f : Nat} {args : Array Value} {w : World} {v v' : Value} (h : Calls Try.prog f args w fun x w' => x = .returned v ∧ Below w.heap.size w w') (hv : v = v') :
    Calls Try.prog f args w fun x w' => x = .returned v' ∧ Below w.heap.size w w' := by subst hv; exact h
theorem calls_gen {P : Program} {f : Nat} {args : Array Value} {W : World} {Q : Ending → World → Prop} (h : ∀ w, w = W → Calls P f args w Q) : Calls P f args W Q := h _ rfl
theorem setCells_ne {w : World} {b C : Nat} (o : Nat) (h : b ≠ C) (vs : List Value) : (w.setCells C 0 vs).cell? ⟨b, o, none⟩ = w.cell? ⟨b, o, none⟩ := World.cell?_setCells_out C vs 0 w _ (fun e _ => absurd e h)
theorem servo_same (o c p : Int) (W : World) : (Op.equalIn 10000 37 (.agg #[.int .i64 o, .int .i64 c, .int .i64 p]) (.agg #[.int .i64 o, .int .i64 c, .int .i64 p])).run Try.prog W = .ok true W := by
  rw [run_equalIn_struct W 9999 37 _ _ (by kernel_rfl) (by kernel_rfl)]
  go_simp
set_option maxRecDepth 100000 in
set_option maxHeartbeats 8000000 in
theorem works_any (w : World) : Calls Try.prog 11 #[] w fun e w' => e = .returned (.bool true) ∧ Below w.heap.size w w' := by
  have K1 : Hid (∀ w, Calls Try.prog 13 #[.agg #[.int .i64 1000, .int .i64 5, .int .i64 1000000], .int .i64 2000, .int .i64 (-500000)] w fun e w' => e = .returned (.tuple #[.agg #[.int .i64 1000, .int .i64 2006, .int .i64 500000], .int .i64 0]) ∧ Below w.heap.size w w') := Lib.hid fun w => Calls.atV (parrive_any 1000 5 1000000 2000 (-500000) w) (by kernel_rfl)
  have K2 : Hid (∀ w, Calls Try.prog 15 #[.agg #[.int .i64 1000, .int .i64 5, .int .i64 1000000], .int .i64 3000] w fun e w' => e = .returned (.tuple #[.agg #[.int .i64 1000, .int .i64 3008, .int .i64 1000000], .int .i64 0]) ∧ Below w.heap.size w w') := Lib.hid fun w => Calls.atV (pleave_any 1000 5 1000000 3000 w) (by kernel_rfl)
  have K3 : Hid (∀ w, Calls Try.prog 15 #[.agg #[.int .i64 1000, .int .i64 5, .int .i64 1000000], .int .i64 0] w fun e w' => e = .returned (.tuple #[.agg #[.int .i64 1000, .int .i64 5, .int .i64 1000000], .int .i64 0]) ∧ Below w.heap.size w w') := Lib.hid fun w => Calls.atV (pleave_any 1000 5 1000000 0 w) (by kernel_rfl)
  have K4 : Hid (∀ w, Calls Try.prog 19 #[.agg #[.int .i64 1000, .int .i64 5, .int .i64 1000000], .int .i64 7] w fun e w' => e = .returned (.tuple #[.agg #[.int .i64 7, .int .i64 1005, .int .i64 1000000], .int .i64 0]) ∧ Below w.heap.size w w') := Lib.hid fun w => Calls.atV (pset_any 1000 5 1000000 7 w) (by kernel_rfl)
  have K5 : Hid (∀ w, Calls Try.prog 21 #[.agg #[.int .i64 1000, .int .i64 5, .int .i64 1000000], .int .i64 0, .agg #[.int .i64 1, .int .i64 1], .int .i64 9] w fun e w' => e = .returned (.tuple #[.agg #[.int .i64 8, .int .i64 0, .int .i64 5, .int .i64 1, .int .i64 1, .int .i64 9, .int .i64 1000, .int .i64 1000000, .int .i64 0, .int .i64 0, .int .i64 0, .int .i64 0, .int .i64 0, .int .i64 0, .int .i64 0, .int .i64 0, .int .i64 0], .int .i64 0]) ∧ Below w.heap.size w w') := Lib.hid fun w => Calls.atV (pmsg_any 1000 5 1000000 0 1 1 9 w) (by kernel_rfl)
  have K6 : Hid (∀ w, Calls Try.prog 24 #[.agg #[.int .i64 8, .int .i64 0, .int .i64 5, .int .i64 1, .int .i64 1, .int .i64 9, .int .i64 1000, .int .i64 1000000, .int .i64 0, .int .i64 0, .int .i64 0, .int .i64 0, .int .i64 0, .int .i64 0, .int .i64 0, .int .i64 0, .int .i64 0]] w fun e w' => e = .returned (.tuple #[.agg #[.int .i64 1000, .int .i64 5, .int .i64 1000000], .int .i64 0]) ∧ Below w.heap.size w w') := Lib.hid fun w => Calls.atV (pof_any (mk8 1000 5 1000000 0 1 1 9) w) (by kernel_rfl)
  have K7 : Hid (∀ w, Calls Try.prog 26 #[.int .i64 1, .int .i64 2, .int .i64 10, .int .i64 0] w fun e w' => e = .returned (.tuple #[.int .i64 6, .int .i64 0]) ∧ Below w.heap.size w w') := Lib.hid fun w => Calls.atV (pbound_ok 1 2 10 0 w (by decide +kernel)) (by kernel_rfl)
  have K8 : Hid (∀ w, Calls Try.prog 26 #[.int .i64 0, .int .i64 0, .int .i64 10000, .int .i64 400000] w fun e w' => e = .returned (.tuple #[.int .i64 12, .int .i64 0]) ∧ Below w.heap.size w w') := Lib.hid fun w => Calls.atV (pbound_ok 0 0 10000 400000 w (by decide +kernel)) (by kernel_rfl)
  have K9 : Hid (∀ w, Calls Try.prog 15 #[.agg #[.int .i64 1000, .int .i64 5, .int .i64 1000000], .int .i64 (-1)] w fun e w' => e = .returned (.tuple #[.agg #[.int .i64 0, .int .i64 0, .int .i64 0], .int .i64 2]) ∧ Below w.heap.size w w') := Lib.hid fun w => Calls.atV (pleave_any 1000 5 1000000 (-1) w) (by kernel_rfl)
  have K10 : Hid (∀ w, Calls Try.prog 13 #[.agg #[.int .i64 0, .int .i64 4398046511104, .int .i64 0], .int .i64 1, .int .i64 0] w fun e w' => e = .returned (.tuple #[.agg #[.int .i64 0, .int .i64 0, .int .i64 0], .int .i64 6]) ∧ Below w.heap.size w w') := Lib.hid fun w => Calls.atV (parrive_any 0 4398046511104 0 1 0 w) (by kernel_rfl)
  have K11 : Hid (∀ w, Calls Try.prog 17 #[.agg #[.int .i64 0, .int .i64 0, .int .i64 8388609]] w fun e w' => e = .returned (.int .i64 240) ∧ Below w.heap.size w w') := Lib.hid fun w => Calls.atV (pcheck_false (o := 0) (c := 0) (p := 8388609) (by decide +kernel) w) (by kernel_rfl)
  have Q2006 := fun W => info_same 1000 2006 500000 W
  have Q3008 := fun W => info_same 1000 3008 1000000 W
  have Q5 := fun W => info_same 1000 5 1000000 W
  have QS := fun W => servo_same 7 1005 1000000 W
  go_enter Try.func11, Try.ntmps11
  go_wp2_with fail
  refine (K1.out _).mono ?_
  rintro e w1 ⟨rfl, hb1⟩
  have hz1_0 : w.heap.size < w1.heap.size := by have := hb1.size; simp at this; omega
  have s1_0_0 : w1.cell? ⟨w.heap.size, 0, none⟩ = some (.int .i64 1000) := (hb1.cell (p := ⟨w.heap.size, 0, none⟩) (by simp <;> omega)).trans (by go_simp)
  have s1_0_1 : w1.cell? ⟨w.heap.size, 1, none⟩ = some (.int .i64 5) := (hb1.cell (p := ⟨w.heap.size, 1, none⟩) (by simp <;> omega)).trans (by go_simp)
  have s1_0_2 : w1.cell? ⟨w.heap.size, 2, none⟩ = some (.int .i64 1000000) := (hb1.cell (p := ⟨w.heap.size, 2, none⟩) (by simp <;> omega)).trans (by go_simp)
  have H1 : Below w.heap.size w w1 := below_step hb1 ((Below.refl _ _).alloc (Nat.le_refl _) _)
  clear hb1
  go_wp2_with fail
  refine (K2.out _).mono ?_
  rintro e w2 ⟨rfl, hb2⟩
  have hz2_0 : w.heap.size < w2.heap.size := by have := hb2.size; simp at this; omega
  have s2_0_0 : w2.cell? ⟨w.heap.size, 0, none⟩ = some (.int .i64 1000) := (hb2.cell (p := ⟨w.heap.size, 0, none⟩) (by simp <;> omega)).trans (by go_simp)
  have s2_0_1 : w2.cell? ⟨w.heap.size, 1, none⟩ = some (.int .i64 5) := (hb2.cell (p := ⟨w.heap.size, 1, none⟩) (by simp <;> omega)).trans (by go_simp)
  have s2_0_2 : w2.cell? ⟨w.heap.size, 2, none⟩ = some (.int .i64 1000000) := (hb2.cell (p := ⟨w.heap.size, 2, none⟩) (by simp <;> omega)).trans (by go_simp)
  have hz2_1 : w1.heap.size < w2.heap.size := by have := hb2.size; simp at this; omega
  have s2_1_0 : w2.cell? ⟨w1.heap.size, 0, none⟩ = some (.int .i64 1000) := (hb2.cell (p := ⟨w1.heap.size, 0, none⟩) (by simp <;> omega)).trans (by go_simp)
  have s2_1_1 : w2.cell? ⟨w1.heap.size, 1, none⟩ = some (.int .i64 2006) := (hb2.cell (p := ⟨w1.heap.size, 1, none⟩) (by simp <;> omega)).trans (by go_simp)
  have s2_1_2 : w2.cell? ⟨w1.heap.size, 2, none⟩ = some (.int .i64 500000) := (hb2.cell (p := ⟨w1.heap.size, 2, none⟩) (by simp <;> omega)).trans (by go_simp)
  have H2 : Below w.heap.size w w2 := below_step hb2 (H1.alloc H1.size _)
  clear hz1_0 s1_0_0 s1_0_1 s1_0_2 hb2 H1
  go_wp2_with fail
  refine (K3.out _).mono ?_
  rintro e w3 ⟨rfl, hb3⟩
  have hz3_0 : w.heap.size < w3.heap.size := by have := hb3.size; simp at this; omega
  have s3_0_0 : w3.cell? ⟨w.heap.size, 0, none⟩ = some (.int .i64 1000) := (hb3.cell (p := ⟨w.heap.size, 0, none⟩) (by simp <;> omega)).trans (by go_simp)
  have s3_0_1 : w3.cell? ⟨w.heap.size, 1, none⟩ = some (.int .i64 5) := (hb3.cell (p := ⟨w.heap.size, 1, none⟩) (by simp <;> omega)).trans (by go_simp)
  have s3_0_2 : w3.cell? ⟨w.heap.size, 2, none⟩ = some (.int .i64 1000000) := (hb3.cell (p := ⟨w.heap.size, 2, none⟩) (by simp <;> omega)).trans (by go_simp)
  have hz3_1 : w1.heap.size < w3.heap.size := by have := hb3.size; simp at this; omega
  have s3_1_0 : w3.cell? ⟨w1.heap.size, 0, none⟩ = some (.int .i64 1000) := (hb3.cell (p := ⟨w1.heap.size, 0, none⟩) (by simp <;> omega)).trans (by go_simp)
  have s3_1_1 : w3.cell? ⟨w1.heap.size, 1, none⟩ = some (.int .i64 2006) := (hb3.cell (p := ⟨w1.heap.size, 1, none⟩) (by simp <;> omega)).trans (by go_simp)
  have s3_1_2 : w3.cell? ⟨w1.heap.size, 2, none⟩ = some (.int .i64 500000) := (hb3.cell (p := ⟨w1.heap.size, 2, none⟩) (by simp <;> omega)).trans (by go_simp)
  have hz3_2 : w2.heap.size < w3.heap.size := by have := hb3.size; simp at this; omega
  have s3_2_0 : w3.cell? ⟨w2.heap.size, 0, none⟩ = some (.int .i64 1000) := (hb3.cell (p := ⟨w2.heap.size, 0, none⟩) (by simp <;> omega)).trans (by go_simp)
  have s3_2_1 : w3.cell? ⟨w2.heap.size, 1, none⟩ = some (.int .i64 3008) := (hb3.cell (p := ⟨w2.heap.size, 1, none⟩) (by simp <;> omega)).trans (by go_simp)
  have s3_2_2 : w3.cell? ⟨w2.heap.size, 2, none⟩ = some (.int .i64 1000000) := (hb3.cell (p := ⟨w2.heap.size, 2, none⟩) (by simp <;> omega)).trans (by go_simp)
  have H3 : Below w.heap.size w w3 := below_step hb3 (H2.alloc H2.size _)
  clear hz2_0 s2_0_0 s2_0_1 s2_0_2 hz2_1 s2_1_0 s2_1_1 s2_1_2 hb3 H2
  go_wp2_with fail
  refine (K4.out _).mono ?_
  rintro e w4 ⟨rfl, hb4⟩
  have hz4_0 : w.heap.size < w4.heap.size := by have := hb4.size; simp at this; omega
  have s4_0_0 : w4.cell? ⟨w.heap.size, 0, none⟩ = some (.int .i64 1000) := (hb4.cell (p := ⟨w.heap.size, 0, none⟩) (by simp <;> omega)).trans (by go_simp)
  have s4_0_1 : w4.cell? ⟨w.heap.size, 1, none⟩ = some (.int .i64 5) := (hb4.cell (p := ⟨w.heap.size, 1, none⟩) (by simp <;> omega)).trans (by go_simp)
  have s4_0_2 : w4.cell? ⟨w.heap.size, 2, none⟩ = some (.int .i64 1000000) := (hb4.cell (p := ⟨w.heap.size, 2, none⟩) (by simp <;> omega)).trans (by go_simp)
  have hz4_1 : w1.heap.size < w4.heap.size := by have := hb4.size; simp at this; omega
  have s4_1_0 : w4.cell? ⟨w1.heap.size, 0, none⟩ = some (.int .i64 1000) := (hb4.cell (p := ⟨w1.heap.size, 0, none⟩) (by simp <;> omega)).trans (by go_simp)
  have s4_1_1 : w4.cell? ⟨w1.heap.size, 1, none⟩ = some (.int .i64 2006) := (hb4.cell (p := ⟨w1.heap.size, 1, none⟩) (by simp <;> omega)).trans (by go_simp)
  have s4_1_2 : w4.cell? ⟨w1.heap.size, 2, none⟩ = some (.int .i64 500000) := (hb4.cell (p := ⟨w1.heap.size, 2, none⟩) (by simp <;> omega)).trans (by go_simp)
  have hz4_2 : w2.heap.size < w4.heap.size := by have := hb4.size; simp at this; omega
  have s4_2_0 : w4.cell? ⟨w2.heap.size, 0, none⟩ = some (.int .i64 1000) := (hb4.cell (p := ⟨w2.heap.size, 0, none⟩) (by simp <;> omega)).trans (by go_simp)
  have s4_2_1 : w4.cell? ⟨w2.heap.size, 1, none⟩ = some (.int .i64 3008) := (hb4.cell (p := ⟨w2.heap.size, 1, none⟩) (by simp <;> omega)).trans (by go_simp)
  have s4_2_2 : w4.cell? ⟨w2.heap.size, 2, none⟩ = some (.int .i64 1000000) := (hb4.cell (p := ⟨w2.heap.size, 2, none⟩) (by simp <;> omega)).trans (by go_simp)
  have hz4_3 : w3.heap.size < w4.heap.size := by have := hb4.size; simp at this; omega
  have s4_3_0 : w4.cell? ⟨w3.heap.size, 0, none⟩ = some (.int .i64 1000) := (hb4.cell (p := ⟨w3.heap.size, 0, none⟩) (by simp <;> omega)).trans (by go_simp)
  have s4_3_1 : w4.cell? ⟨w3.heap.size, 1, none⟩ = some (.int .i64 5) := (hb4.cell (p := ⟨w3.heap.size, 1, none⟩) (by simp <;> omega)).trans (by go_simp)
  have s4_3_2 : w4.cell? ⟨w3.heap.size, 2, none⟩ = some (.int .i64 1000000) := (hb4.cell (p := ⟨w3.heap.size, 2, none⟩) (by simp <;> omega)).trans (by go_simp)
  have H4 : Below w.heap.size w w4 := below_step hb4 (H3.alloc H3.size _)
  clear hz3_0 s3_0_0 s3_0_1 s3_0_2 hz3_1 s3_1_0 s3_1_1 s3_1_2 hz3_2 s3_2_0 s3_2_1 s3_2_2 hb4 H3
  go_wp2_with fail
  refine (K5.out _).mono ?_
  rintro e w5 ⟨rfl, hb5⟩
  have hz5_0 : w.heap.size < w5.heap.size := by have := hb5.size; simp at this; omega
  have s5_0_0 : w5.cell? ⟨w.heap.size, 0, none⟩ = some (.int .i64 1000) := (hb5.cell (p := ⟨w.heap.size, 0, none⟩) (by simp <;> omega)).trans (by go_simp)
  have s5_0_1 : w5.cell? ⟨w.heap.size, 1, none⟩ = some (.int .i64 5) := (hb5.cell (p := ⟨w.heap.size, 1, none⟩) (by simp <;> omega)).trans (by go_simp)
  have s5_0_2 : w5.cell? ⟨w.heap.size, 2, none⟩ = some (.int .i64 1000000) := (hb5.cell (p := ⟨w.heap.size, 2, none⟩) (by simp <;> omega)).trans (by go_simp)
  have hz5_1 : w1.heap.size < w5.heap.size := by have := hb5.size; simp at this; omega
  have s5_1_0 : w5.cell? ⟨w1.heap.size, 0, none⟩ = some (.int .i64 1000) := (hb5.cell (p := ⟨w1.heap.size, 0, none⟩) (by simp <;> omega)).trans (by go_simp)
  have s5_1_1 : w5.cell? ⟨w1.heap.size, 1, none⟩ = some (.int .i64 2006) := (hb5.cell (p := ⟨w1.heap.size, 1, none⟩) (by simp <;> omega)).trans (by go_simp)
  have s5_1_2 : w5.cell? ⟨w1.heap.size, 2, none⟩ = some (.int .i64 500000) := (hb5.cell (p := ⟨w1.heap.size, 2, none⟩) (by simp <;> omega)).trans (by go_simp)
  have hz5_2 : w2.heap.size < w5.heap.size := by have := hb5.size; simp at this; omega
  have s5_2_0 : w5.cell? ⟨w2.heap.size, 0, none⟩ = some (.int .i64 1000) := (hb5.cell (p := ⟨w2.heap.size, 0, none⟩) (by simp <;> omega)).trans (by go_simp)
  have s5_2_1 : w5.cell? ⟨w2.heap.size, 1, none⟩ = some (.int .i64 3008) := (hb5.cell (p := ⟨w2.heap.size, 1, none⟩) (by simp <;> omega)).trans (by go_simp)
  have s5_2_2 : w5.cell? ⟨w2.heap.size, 2, none⟩ = some (.int .i64 1000000) := (hb5.cell (p := ⟨w2.heap.size, 2, none⟩) (by simp <;> omega)).trans (by go_simp)
  have hz5_3 : w3.heap.size < w5.heap.size := by have := hb5.size; simp at this; omega
  have s5_3_0 : w5.cell? ⟨w3.heap.size, 0, none⟩ = some (.int .i64 1000) := (hb5.cell (p := ⟨w3.heap.size, 0, none⟩) (by simp <;> omega)).trans (by go_simp)
  have s5_3_1 : w5.cell? ⟨w3.heap.size, 1, none⟩ = some (.int .i64 5) := (hb5.cell (p := ⟨w3.heap.size, 1, none⟩) (by simp <;> omega)).trans (by go_simp)
  have s5_3_2 : w5.cell? ⟨w3.heap.size, 2, none⟩ = some (.int .i64 1000000) := (hb5.cell (p := ⟨w3.heap.size, 2, none⟩) (by simp <;> omega)).trans (by go_simp)
  have hz5_4 : w4.heap.size < w5.heap.size := by have := hb5.size; simp at this; omega
  have s5_4_0 : w5.cell? ⟨w4.heap.size, 0, none⟩ = some (.int .i64 7) := (hb5.cell (p := ⟨w4.heap.size, 0, none⟩) (by simp <;> omega)).trans (by go_simp)
  have s5_4_1 : w5.cell? ⟨w4.heap.size, 1, none⟩ = some (.int .i64 1005) := (hb5.cell (p := ⟨w4.heap.size, 1, none⟩) (by simp <;> omega)).trans (by go_simp)
  have s5_4_2 : w5.cell? ⟨w4.heap.size, 2, none⟩ = some (.int .i64 1000000) := (hb5.cell (p := ⟨w4.heap.size, 2, none⟩) (by simp <;> omega)).trans (by go_simp)
  have H5 : Below w.heap.size w w5 := below_step hb5 (H4.alloc H4.size _)
  clear hz4_0 s4_0_0 s4_0_1 s4_0_2 hz4_1 s4_1_0 s4_1_1 s4_1_2 hz4_2 s4_2_0 s4_2_1 s4_2_2 hz4_3 s4_3_0 s4_3_1 s4_3_2 hb5 H4
  go_wp2_with (first | (refine wpList_store_mid (by exact rfl) _ _ _ (by exact rfl) _ _ _ (by exact rfl) (by exact rfl) (by exact there_msg (msg_at _ _ zero17)) (by kernel_rfl) (by kernel_rfl) ?_) | (refine wpList_load_mid (by exact rfl) _ _ (by exact rfl) _ _ (by exact rfl) (msgL (mk8 1000 5 1000000 0 1 1 9)) _ (by exact range_msg (MsgAt.setCells (msg_at _ _ zero17) (mk8 1000 5 1000000 0 1 1 9))) Try.underlying46 (by exact rfl) (by kernel_rfl) ?_))
  refine calls_gen ?_
  rintro w6 hg
  have s6_0_0 : w6.cell? ⟨w.heap.size, 0, none⟩ = some (.int .i64 1000) := by rw [hg]; exact (setCells_ne _ (Nat.ne_of_lt hz5_0) _).trans ((World.cell?_alloc_lt _ _ _ hz5_0).trans s5_0_0)
  have s6_0_1 : w6.cell? ⟨w.heap.size, 1, none⟩ = some (.int .i64 5) := by rw [hg]; exact (setCells_ne _ (Nat.ne_of_lt hz5_0) _).trans ((World.cell?_alloc_lt _ _ _ hz5_0).trans s5_0_1)
  have s6_0_2 : w6.cell? ⟨w.heap.size, 2, none⟩ = some (.int .i64 1000000) := by rw [hg]; exact (setCells_ne _ (Nat.ne_of_lt hz5_0) _).trans ((World.cell?_alloc_lt _ _ _ hz5_0).trans s5_0_2)
  have s6_1_0 : w6.cell? ⟨w1.heap.size, 0, none⟩ = some (.int .i64 1000) := by rw [hg]; exact (setCells_ne _ (Nat.ne_of_lt hz5_1) _).trans ((World.cell?_alloc_lt _ _ _ hz5_1).trans s5_1_0)
  have s6_1_1 : w6.cell? ⟨w1.heap.size, 1, none⟩ = some (.int .i64 2006) := by rw [hg]; exact (setCells_ne _ (Nat.ne_of_lt hz5_1) _).trans ((World.cell?_alloc_lt _ _ _ hz5_1).trans s5_1_1)
  have s6_1_2 : w6.cell? ⟨w1.heap.size, 2, none⟩ = some (.int .i64 500000) := by rw [hg]; exact (setCells_ne _ (Nat.ne_of_lt hz5_1) _).trans ((World.cell?_alloc_lt _ _ _ hz5_1).trans s5_1_2)
  have s6_2_0 : w6.cell? ⟨w2.heap.size, 0, none⟩ = some (.int .i64 1000) := by rw [hg]; exact (setCells_ne _ (Nat.ne_of_lt hz5_2) _).trans ((World.cell?_alloc_lt _ _ _ hz5_2).trans s5_2_0)
  have s6_2_1 : w6.cell? ⟨w2.heap.size, 1, none⟩ = some (.int .i64 3008) := by rw [hg]; exact (setCells_ne _ (Nat.ne_of_lt hz5_2) _).trans ((World.cell?_alloc_lt _ _ _ hz5_2).trans s5_2_1)
  have s6_2_2 : w6.cell? ⟨w2.heap.size, 2, none⟩ = some (.int .i64 1000000) := by rw [hg]; exact (setCells_ne _ (Nat.ne_of_lt hz5_2) _).trans ((World.cell?_alloc_lt _ _ _ hz5_2).trans s5_2_2)
  have s6_3_0 : w6.cell? ⟨w3.heap.size, 0, none⟩ = some (.int .i64 1000) := by rw [hg]; exact (setCells_ne _ (Nat.ne_of_lt hz5_3) _).trans ((World.cell?_alloc_lt _ _ _ hz5_3).trans s5_3_0)
  have s6_3_1 : w6.cell? ⟨w3.heap.size, 1, none⟩ = some (.int .i64 5) := by rw [hg]; exact (setCells_ne _ (Nat.ne_of_lt hz5_3) _).trans ((World.cell?_alloc_lt _ _ _ hz5_3).trans s5_3_1)
  have s6_3_2 : w6.cell? ⟨w3.heap.size, 2, none⟩ = some (.int .i64 1000000) := by rw [hg]; exact (setCells_ne _ (Nat.ne_of_lt hz5_3) _).trans ((World.cell?_alloc_lt _ _ _ hz5_3).trans s5_3_2)
  have s6_4_0 : w6.cell? ⟨w4.heap.size, 0, none⟩ = some (.int .i64 7) := by rw [hg]; exact (setCells_ne _ (Nat.ne_of_lt hz5_4) _).trans ((World.cell?_alloc_lt _ _ _ hz5_4).trans s5_4_0)
  have s6_4_1 : w6.cell? ⟨w4.heap.size, 1, none⟩ = some (.int .i64 1005) := by rw [hg]; exact (setCells_ne _ (Nat.ne_of_lt hz5_4) _).trans ((World.cell?_alloc_lt _ _ _ hz5_4).trans s5_4_1)
  have s6_4_2 : w6.cell? ⟨w4.heap.size, 2, none⟩ = some (.int .i64 1000000) := by rw [hg]; exact (setCells_ne _ (Nat.ne_of_lt hz5_4) _).trans ((World.cell?_alloc_lt _ _ _ hz5_4).trans s5_4_2)
  have HX : Below w5.heap.size w5 w6 := by rw [hg]; exact (below_alloc _ _).trans (below_setCells _ _ (Nat.le_refl _) _ _ _)
  have hz6_0 := Nat.lt_of_lt_of_le hz5_0 HX.size
  have hz6_1 := Nat.lt_of_lt_of_le hz5_1 HX.size
  have hz6_2 := Nat.lt_of_lt_of_le hz5_2 HX.size
  have hz6_3 := Nat.lt_of_lt_of_le hz5_3 HX.size
  have hz6_4 := Nat.lt_of_lt_of_le hz5_4 HX.size
  have H6 := below_step HX H5
  clear hg HX hz5_0 s5_0_0 s5_0_1 s5_0_2 hz5_1 s5_1_0 s5_1_1 s5_1_2 hz5_2 s5_2_0 s5_2_1 s5_2_2 hz5_3 s5_3_0 s5_3_1 s5_3_2 hz5_4 s5_4_0 s5_4_1 s5_4_2 H5
  refine (K6.out _).mono ?_
  rintro e w7 ⟨rfl, hb7⟩
  have hz7_0 := Nat.lt_of_lt_of_le hz6_0 hb7.size
  have s7_0_0 := (hb7.cell (p := ⟨w.heap.size, 0, none⟩) hz6_0).trans s6_0_0
  have s7_0_1 := (hb7.cell (p := ⟨w.heap.size, 1, none⟩) hz6_0).trans s6_0_1
  have s7_0_2 := (hb7.cell (p := ⟨w.heap.size, 2, none⟩) hz6_0).trans s6_0_2
  have hz7_1 := Nat.lt_of_lt_of_le hz6_1 hb7.size
  have s7_1_0 := (hb7.cell (p := ⟨w1.heap.size, 0, none⟩) hz6_1).trans s6_1_0
  have s7_1_1 := (hb7.cell (p := ⟨w1.heap.size, 1, none⟩) hz6_1).trans s6_1_1
  have s7_1_2 := (hb7.cell (p := ⟨w1.heap.size, 2, none⟩) hz6_1).trans s6_1_2
  have hz7_2 := Nat.lt_of_lt_of_le hz6_2 hb7.size
  have s7_2_0 := (hb7.cell (p := ⟨w2.heap.size, 0, none⟩) hz6_2).trans s6_2_0
  have s7_2_1 := (hb7.cell (p := ⟨w2.heap.size, 1, none⟩) hz6_2).trans s6_2_1
  have s7_2_2 := (hb7.cell (p := ⟨w2.heap.size, 2, none⟩) hz6_2).trans s6_2_2
  have hz7_3 := Nat.lt_of_lt_of_le hz6_3 hb7.size
  have s7_3_0 := (hb7.cell (p := ⟨w3.heap.size, 0, none⟩) hz6_3).trans s6_3_0
  have s7_3_1 := (hb7.cell (p := ⟨w3.heap.size, 1, none⟩) hz6_3).trans s6_3_1
  have s7_3_2 := (hb7.cell (p := ⟨w3.heap.size, 2, none⟩) hz6_3).trans s6_3_2
  have hz7_4 := Nat.lt_of_lt_of_le hz6_4 hb7.size
  have s7_4_0 := (hb7.cell (p := ⟨w4.heap.size, 0, none⟩) hz6_4).trans s6_4_0
  have s7_4_1 := (hb7.cell (p := ⟨w4.heap.size, 1, none⟩) hz6_4).trans s6_4_1
  have s7_4_2 := (hb7.cell (p := ⟨w4.heap.size, 2, none⟩) hz6_4).trans s6_4_2
  have H7 := H6.trans (hb7.mono H6.size)
  clear hz6_0 s6_0_0 s6_0_1 s6_0_2 hz6_1 s6_1_0 s6_1_1 s6_1_2 hz6_2 s6_2_0 s6_2_1 s6_2_2 hz6_3 s6_3_0 s6_3_1 s6_3_2 hz6_4 s6_4_0 s6_4_1 s6_4_2 hb7 H6
  go_wp2_with fail
  refine (K7.out _).mono ?_
  rintro e w8 ⟨rfl, hb8⟩
  have hz8_0 : w.heap.size < w8.heap.size := by have := hb8.size; simp at this; omega
  have s8_0_0 : w8.cell? ⟨w.heap.size, 0, none⟩ = some (.int .i64 1000) := (hb8.cell (p := ⟨w.heap.size, 0, none⟩) (by simp <;> omega)).trans (by go_simp)
  have s8_0_1 : w8.cell? ⟨w.heap.size, 1, none⟩ = some (.int .i64 5) := (hb8.cell (p := ⟨w.heap.size, 1, none⟩) (by simp <;> omega)).trans (by go_simp)
  have s8_0_2 : w8.cell? ⟨w.heap.size, 2, none⟩ = some (.int .i64 1000000) := (hb8.cell (p := ⟨w.heap.size, 2, none⟩) (by simp <;> omega)).trans (by go_simp)
  have hz8_1 : w1.heap.size < w8.heap.size := by have := hb8.size; simp at this; omega
  have s8_1_0 : w8.cell? ⟨w1.heap.size, 0, none⟩ = some (.int .i64 1000) := (hb8.cell (p := ⟨w1.heap.size, 0, none⟩) (by simp <;> omega)).trans (by go_simp)
  have s8_1_1 : w8.cell? ⟨w1.heap.size, 1, none⟩ = some (.int .i64 2006) := (hb8.cell (p := ⟨w1.heap.size, 1, none⟩) (by simp <;> omega)).trans (by go_simp)
  have s8_1_2 : w8.cell? ⟨w1.heap.size, 2, none⟩ = some (.int .i64 500000) := (hb8.cell (p := ⟨w1.heap.size, 2, none⟩) (by simp <;> omega)).trans (by go_simp)
  have hz8_2 : w2.heap.size < w8.heap.size := by have := hb8.size; simp at this; omega
  have s8_2_0 : w8.cell? ⟨w2.heap.size, 0, none⟩ = some (.int .i64 1000) := (hb8.cell (p := ⟨w2.heap.size, 0, none⟩) (by simp <;> omega)).trans (by go_simp)
  have s8_2_1 : w8.cell? ⟨w2.heap.size, 1, none⟩ = some (.int .i64 3008) := (hb8.cell (p := ⟨w2.heap.size, 1, none⟩) (by simp <;> omega)).trans (by go_simp)
  have s8_2_2 : w8.cell? ⟨w2.heap.size, 2, none⟩ = some (.int .i64 1000000) := (hb8.cell (p := ⟨w2.heap.size, 2, none⟩) (by simp <;> omega)).trans (by go_simp)
  have hz8_3 : w3.heap.size < w8.heap.size := by have := hb8.size; simp at this; omega
  have s8_3_0 : w8.cell? ⟨w3.heap.size, 0, none⟩ = some (.int .i64 1000) := (hb8.cell (p := ⟨w3.heap.size, 0, none⟩) (by simp <;> omega)).trans (by go_simp)
  have s8_3_1 : w8.cell? ⟨w3.heap.size, 1, none⟩ = some (.int .i64 5) := (hb8.cell (p := ⟨w3.heap.size, 1, none⟩) (by simp <;> omega)).trans (by go_simp)
  have s8_3_2 : w8.cell? ⟨w3.heap.size, 2, none⟩ = some (.int .i64 1000000) := (hb8.cell (p := ⟨w3.heap.size, 2, none⟩) (by simp <;> omega)).trans (by go_simp)
  have hz8_4 : w4.heap.size < w8.heap.size := by have := hb8.size; simp at this; omega
  have s8_4_0 : w8.cell? ⟨w4.heap.size, 0, none⟩ = some (.int .i64 7) := (hb8.cell (p := ⟨w4.heap.size, 0, none⟩) (by simp <;> omega)).trans (by go_simp)
  have s8_4_1 : w8.cell? ⟨w4.heap.size, 1, none⟩ = some (.int .i64 1005) := (hb8.cell (p := ⟨w4.heap.size, 1, none⟩) (by simp <;> omega)).trans (by go_simp)
  have s8_4_2 : w8.cell? ⟨w4.heap.size, 2, none⟩ = some (.int .i64 1000000) := (hb8.cell (p := ⟨w4.heap.size, 2, none⟩) (by simp <;> omega)).trans (by go_simp)
  have hz8_5 : w7.heap.size < w8.heap.size := by have := hb8.size; simp at this; omega
  have s8_5_0 : w8.cell? ⟨w7.heap.size, 0, none⟩ = some (.int .i64 1000) := (hb8.cell (p := ⟨w7.heap.size, 0, none⟩) (by simp <;> omega)).trans (by go_simp)
  have s8_5_1 : w8.cell? ⟨w7.heap.size, 1, none⟩ = some (.int .i64 5) := (hb8.cell (p := ⟨w7.heap.size, 1, none⟩) (by simp <;> omega)).trans (by go_simp)
  have s8_5_2 : w8.cell? ⟨w7.heap.size, 2, none⟩ = some (.int .i64 1000000) := (hb8.cell (p := ⟨w7.heap.size, 2, none⟩) (by simp <;> omega)).trans (by go_simp)
  have H8 : Below w.heap.size w w8 := below_step hb8 (H7.alloc H7.size _)
  clear hz7_0 s7_0_0 s7_0_1 s7_0_2 hz7_1 s7_1_0 s7_1_1 s7_1_2 hz7_2 s7_2_0 s7_2_1 s7_2_2 hz7_3 s7_3_0 s7_3_1 s7_3_2 hz7_4 s7_4_0 s7_4_1 s7_4_2 hb8 H7
  go_wp2_with fail
  refine (K8.out _).mono ?_
  rintro e w9 ⟨rfl, hb9⟩
  have hz9_0 := Nat.lt_of_lt_of_le hz8_0 hb9.size
  have s9_0_0 := (hb9.cell (p := ⟨w.heap.size, 0, none⟩) hz8_0).trans s8_0_0
  have s9_0_1 := (hb9.cell (p := ⟨w.heap.size, 1, none⟩) hz8_0).trans s8_0_1
  have s9_0_2 := (hb9.cell (p := ⟨w.heap.size, 2, none⟩) hz8_0).trans s8_0_2
  have hz9_1 := Nat.lt_of_lt_of_le hz8_1 hb9.size
  have s9_1_0 := (hb9.cell (p := ⟨w1.heap.size, 0, none⟩) hz8_1).trans s8_1_0
  have s9_1_1 := (hb9.cell (p := ⟨w1.heap.size, 1, none⟩) hz8_1).trans s8_1_1
  have s9_1_2 := (hb9.cell (p := ⟨w1.heap.size, 2, none⟩) hz8_1).trans s8_1_2
  have hz9_2 := Nat.lt_of_lt_of_le hz8_2 hb9.size
  have s9_2_0 := (hb9.cell (p := ⟨w2.heap.size, 0, none⟩) hz8_2).trans s8_2_0
  have s9_2_1 := (hb9.cell (p := ⟨w2.heap.size, 1, none⟩) hz8_2).trans s8_2_1
  have s9_2_2 := (hb9.cell (p := ⟨w2.heap.size, 2, none⟩) hz8_2).trans s8_2_2
  have hz9_3 := Nat.lt_of_lt_of_le hz8_3 hb9.size
  have s9_3_0 := (hb9.cell (p := ⟨w3.heap.size, 0, none⟩) hz8_3).trans s8_3_0
  have s9_3_1 := (hb9.cell (p := ⟨w3.heap.size, 1, none⟩) hz8_3).trans s8_3_1
  have s9_3_2 := (hb9.cell (p := ⟨w3.heap.size, 2, none⟩) hz8_3).trans s8_3_2
  have hz9_4 := Nat.lt_of_lt_of_le hz8_4 hb9.size
  have s9_4_0 := (hb9.cell (p := ⟨w4.heap.size, 0, none⟩) hz8_4).trans s8_4_0
  have s9_4_1 := (hb9.cell (p := ⟨w4.heap.size, 1, none⟩) hz8_4).trans s8_4_1
  have s9_4_2 := (hb9.cell (p := ⟨w4.heap.size, 2, none⟩) hz8_4).trans s8_4_2
  have hz9_5 := Nat.lt_of_lt_of_le hz8_5 hb9.size
  have s9_5_0 := (hb9.cell (p := ⟨w7.heap.size, 0, none⟩) hz8_5).trans s8_5_0
  have s9_5_1 := (hb9.cell (p := ⟨w7.heap.size, 1, none⟩) hz8_5).trans s8_5_1
  have s9_5_2 := (hb9.cell (p := ⟨w7.heap.size, 2, none⟩) hz8_5).trans s8_5_2
  have H9 := H8.trans (hb9.mono H8.size)
  clear hz8_0 s8_0_0 s8_0_1 s8_0_2 hz8_1 s8_1_0 s8_1_1 s8_1_2 hz8_2 s8_2_0 s8_2_1 s8_2_2 hz8_3 s8_3_0 s8_3_1 s8_3_2 hz8_4 s8_4_0 s8_4_1 s8_4_2 hz8_5 s8_5_0 s8_5_1 s8_5_2 hb9 H8
  go_wp2_with fail
  refine (K9.out _).mono ?_
  rintro e w10 ⟨rfl, hb10⟩
  have hz10_0 := Nat.lt_of_lt_of_le hz9_0 hb10.size
  have s10_0_0 := (hb10.cell (p := ⟨w.heap.size, 0, none⟩) hz9_0).trans s9_0_0
  have s10_0_1 := (hb10.cell (p := ⟨w.heap.size, 1, none⟩) hz9_0).trans s9_0_1
  have s10_0_2 := (hb10.cell (p := ⟨w.heap.size, 2, none⟩) hz9_0).trans s9_0_2
  have hz10_1 := Nat.lt_of_lt_of_le hz9_1 hb10.size
  have s10_1_0 := (hb10.cell (p := ⟨w1.heap.size, 0, none⟩) hz9_1).trans s9_1_0
  have s10_1_1 := (hb10.cell (p := ⟨w1.heap.size, 1, none⟩) hz9_1).trans s9_1_1
  have s10_1_2 := (hb10.cell (p := ⟨w1.heap.size, 2, none⟩) hz9_1).trans s9_1_2
  have hz10_2 := Nat.lt_of_lt_of_le hz9_2 hb10.size
  have s10_2_0 := (hb10.cell (p := ⟨w2.heap.size, 0, none⟩) hz9_2).trans s9_2_0
  have s10_2_1 := (hb10.cell (p := ⟨w2.heap.size, 1, none⟩) hz9_2).trans s9_2_1
  have s10_2_2 := (hb10.cell (p := ⟨w2.heap.size, 2, none⟩) hz9_2).trans s9_2_2
  have hz10_3 := Nat.lt_of_lt_of_le hz9_3 hb10.size
  have s10_3_0 := (hb10.cell (p := ⟨w3.heap.size, 0, none⟩) hz9_3).trans s9_3_0
  have s10_3_1 := (hb10.cell (p := ⟨w3.heap.size, 1, none⟩) hz9_3).trans s9_3_1
  have s10_3_2 := (hb10.cell (p := ⟨w3.heap.size, 2, none⟩) hz9_3).trans s9_3_2
  have hz10_4 := Nat.lt_of_lt_of_le hz9_4 hb10.size
  have s10_4_0 := (hb10.cell (p := ⟨w4.heap.size, 0, none⟩) hz9_4).trans s9_4_0
  have s10_4_1 := (hb10.cell (p := ⟨w4.heap.size, 1, none⟩) hz9_4).trans s9_4_1
  have s10_4_2 := (hb10.cell (p := ⟨w4.heap.size, 2, none⟩) hz9_4).trans s9_4_2
  have hz10_5 := Nat.lt_of_lt_of_le hz9_5 hb10.size
  have s10_5_0 := (hb10.cell (p := ⟨w7.heap.size, 0, none⟩) hz9_5).trans s9_5_0
  have s10_5_1 := (hb10.cell (p := ⟨w7.heap.size, 1, none⟩) hz9_5).trans s9_5_1
  have s10_5_2 := (hb10.cell (p := ⟨w7.heap.size, 2, none⟩) hz9_5).trans s9_5_2
  have H10 := H9.trans (hb10.mono H9.size)
  clear hz9_0 s9_0_0 s9_0_1 s9_0_2 hz9_1 s9_1_0 s9_1_1 s9_1_2 hz9_2 s9_2_0 s9_2_1 s9_2_2 hz9_3 s9_3_0 s9_3_1 s9_3_2 hz9_4 s9_4_0 s9_4_1 s9_4_2 hz9_5 s9_5_0 s9_5_1 s9_5_2 hb10 H9
  go_wp2_with fail
  refine (K10.out _).mono ?_
  rintro e w11 ⟨rfl, hb11⟩
  have hz11_0 : w.heap.size < w11.heap.size := by have := hb11.size; simp at this; omega
  have s11_0_0 : w11.cell? ⟨w.heap.size, 0, none⟩ = some (.int .i64 1000) := (hb11.cell (p := ⟨w.heap.size, 0, none⟩) (by simp <;> omega)).trans (by go_simp)
  have s11_0_1 : w11.cell? ⟨w.heap.size, 1, none⟩ = some (.int .i64 5) := (hb11.cell (p := ⟨w.heap.size, 1, none⟩) (by simp <;> omega)).trans (by go_simp)
  have s11_0_2 : w11.cell? ⟨w.heap.size, 2, none⟩ = some (.int .i64 1000000) := (hb11.cell (p := ⟨w.heap.size, 2, none⟩) (by simp <;> omega)).trans (by go_simp)
  have hz11_1 : w1.heap.size < w11.heap.size := by have := hb11.size; simp at this; omega
  have s11_1_0 : w11.cell? ⟨w1.heap.size, 0, none⟩ = some (.int .i64 1000) := (hb11.cell (p := ⟨w1.heap.size, 0, none⟩) (by simp <;> omega)).trans (by go_simp)
  have s11_1_1 : w11.cell? ⟨w1.heap.size, 1, none⟩ = some (.int .i64 2006) := (hb11.cell (p := ⟨w1.heap.size, 1, none⟩) (by simp <;> omega)).trans (by go_simp)
  have s11_1_2 : w11.cell? ⟨w1.heap.size, 2, none⟩ = some (.int .i64 500000) := (hb11.cell (p := ⟨w1.heap.size, 2, none⟩) (by simp <;> omega)).trans (by go_simp)
  have hz11_2 : w2.heap.size < w11.heap.size := by have := hb11.size; simp at this; omega
  have s11_2_0 : w11.cell? ⟨w2.heap.size, 0, none⟩ = some (.int .i64 1000) := (hb11.cell (p := ⟨w2.heap.size, 0, none⟩) (by simp <;> omega)).trans (by go_simp)
  have s11_2_1 : w11.cell? ⟨w2.heap.size, 1, none⟩ = some (.int .i64 3008) := (hb11.cell (p := ⟨w2.heap.size, 1, none⟩) (by simp <;> omega)).trans (by go_simp)
  have s11_2_2 : w11.cell? ⟨w2.heap.size, 2, none⟩ = some (.int .i64 1000000) := (hb11.cell (p := ⟨w2.heap.size, 2, none⟩) (by simp <;> omega)).trans (by go_simp)
  have hz11_3 : w3.heap.size < w11.heap.size := by have := hb11.size; simp at this; omega
  have s11_3_0 : w11.cell? ⟨w3.heap.size, 0, none⟩ = some (.int .i64 1000) := (hb11.cell (p := ⟨w3.heap.size, 0, none⟩) (by simp <;> omega)).trans (by go_simp)
  have s11_3_1 : w11.cell? ⟨w3.heap.size, 1, none⟩ = some (.int .i64 5) := (hb11.cell (p := ⟨w3.heap.size, 1, none⟩) (by simp <;> omega)).trans (by go_simp)
  have s11_3_2 : w11.cell? ⟨w3.heap.size, 2, none⟩ = some (.int .i64 1000000) := (hb11.cell (p := ⟨w3.heap.size, 2, none⟩) (by simp <;> omega)).trans (by go_simp)
  have hz11_4 : w4.heap.size < w11.heap.size := by have := hb11.size; simp at this; omega
  have s11_4_0 : w11.cell? ⟨w4.heap.size, 0, none⟩ = some (.int .i64 7) := (hb11.cell (p := ⟨w4.heap.size, 0, none⟩) (by simp <;> omega)).trans (by go_simp)
  have s11_4_1 : w11.cell? ⟨w4.heap.size, 1, none⟩ = some (.int .i64 1005) := (hb11.cell (p := ⟨w4.heap.size, 1, none⟩) (by simp <;> omega)).trans (by go_simp)
  have s11_4_2 : w11.cell? ⟨w4.heap.size, 2, none⟩ = some (.int .i64 1000000) := (hb11.cell (p := ⟨w4.heap.size, 2, none⟩) (by simp <;> omega)).trans (by go_simp)
  have hz11_5 : w7.heap.size < w11.heap.size := by have := hb11.size; simp at this; omega
  have s11_5_0 : w11.cell? ⟨w7.heap.size, 0, none⟩ = some (.int .i64 1000) := (hb11.cell (p := ⟨w7.heap.size, 0, none⟩) (by simp <;> omega)).trans (by go_simp)
  have s11_5_1 : w11.cell? ⟨w7.heap.size, 1, none⟩ = some (.int .i64 5) := (hb11.cell (p := ⟨w7.heap.size, 1, none⟩) (by simp <;> omega)).trans (by go_simp)
  have s11_5_2 : w11.cell? ⟨w7.heap.size, 2, none⟩ = some (.int .i64 1000000) := (hb11.cell (p := ⟨w7.heap.size, 2, none⟩) (by simp <;> omega)).trans (by go_simp)
  have H11 : Below w.heap.size w w11 := below_step hb11 (H10.alloc H10.size _)
  clear hz10_0 s10_0_0 s10_0_1 s10_0_2 hz10_1 s10_1_0 s10_1_1 s10_1_2 hz10_2 s10_2_0 s10_2_1 s10_2_2 hz10_3 s10_3_0 s10_3_1 s10_3_2 hz10_4 s10_4_0 s10_4_1 s10_4_2 hz10_5 s10_5_0 s10_5_1 s10_5_2 hb11 H10
  go_wp2_with fail
  refine (K11.out _).mono ?_
  rintro e w12 ⟨rfl, hb12⟩
  have hz12_0 : w.heap.size < w12.heap.size := by have := hb12.size; simp at this; omega
  have s12_0_0 : w12.cell? ⟨w.heap.size, 0, none⟩ = some (.int .i64 1000) := (hb12.cell (p := ⟨w.heap.size, 0, none⟩) (by simp <;> omega)).trans (by go_simp)
  have s12_0_1 : w12.cell? ⟨w.heap.size, 1, none⟩ = some (.int .i64 5) := (hb12.cell (p := ⟨w.heap.size, 1, none⟩) (by simp <;> omega)).trans (by go_simp)
  have s12_0_2 : w12.cell? ⟨w.heap.size, 2, none⟩ = some (.int .i64 1000000) := (hb12.cell (p := ⟨w.heap.size, 2, none⟩) (by simp <;> omega)).trans (by go_simp)
  have hz12_1 : w1.heap.size < w12.heap.size := by have := hb12.size; simp at this; omega
  have s12_1_0 : w12.cell? ⟨w1.heap.size, 0, none⟩ = some (.int .i64 1000) := (hb12.cell (p := ⟨w1.heap.size, 0, none⟩) (by simp <;> omega)).trans (by go_simp)
  have s12_1_1 : w12.cell? ⟨w1.heap.size, 1, none⟩ = some (.int .i64 2006) := (hb12.cell (p := ⟨w1.heap.size, 1, none⟩) (by simp <;> omega)).trans (by go_simp)
  have s12_1_2 : w12.cell? ⟨w1.heap.size, 2, none⟩ = some (.int .i64 500000) := (hb12.cell (p := ⟨w1.heap.size, 2, none⟩) (by simp <;> omega)).trans (by go_simp)
  have hz12_2 : w2.heap.size < w12.heap.size := by have := hb12.size; simp at this; omega
  have s12_2_0 : w12.cell? ⟨w2.heap.size, 0, none⟩ = some (.int .i64 1000) := (hb12.cell (p := ⟨w2.heap.size, 0, none⟩) (by simp <;> omega)).trans (by go_simp)
  have s12_2_1 : w12.cell? ⟨w2.heap.size, 1, none⟩ = some (.int .i64 3008) := (hb12.cell (p := ⟨w2.heap.size, 1, none⟩) (by simp <;> omega)).trans (by go_simp)
  have s12_2_2 : w12.cell? ⟨w2.heap.size, 2, none⟩ = some (.int .i64 1000000) := (hb12.cell (p := ⟨w2.heap.size, 2, none⟩) (by simp <;> omega)).trans (by go_simp)
  have hz12_3 : w3.heap.size < w12.heap.size := by have := hb12.size; simp at this; omega
  have s12_3_0 : w12.cell? ⟨w3.heap.size, 0, none⟩ = some (.int .i64 1000) := (hb12.cell (p := ⟨w3.heap.size, 0, none⟩) (by simp <;> omega)).trans (by go_simp)
  have s12_3_1 : w12.cell? ⟨w3.heap.size, 1, none⟩ = some (.int .i64 5) := (hb12.cell (p := ⟨w3.heap.size, 1, none⟩) (by simp <;> omega)).trans (by go_simp)
  have s12_3_2 : w12.cell? ⟨w3.heap.size, 2, none⟩ = some (.int .i64 1000000) := (hb12.cell (p := ⟨w3.heap.size, 2, none⟩) (by simp <;> omega)).trans (by go_simp)
  have hz12_4 : w4.heap.size < w12.heap.size := by have := hb12.size; simp at this; omega
  have s12_4_0 : w12.cell? ⟨w4.heap.size, 0, none⟩ = some (.int .i64 7) := (hb12.cell (p := ⟨w4.heap.size, 0, none⟩) (by simp <;> omega)).trans (by go_simp)
  have s12_4_1 : w12.cell? ⟨w4.heap.size, 1, none⟩ = some (.int .i64 1005) := (hb12.cell (p := ⟨w4.heap.size, 1, none⟩) (by simp <;> omega)).trans (by go_simp)
  have s12_4_2 : w12.cell? ⟨w4.heap.size, 2, none⟩ = some (.int .i64 1000000) := (hb12.cell (p := ⟨w4.heap.size, 2, none⟩) (by simp <;> omega)).trans (by go_simp)
  have hz12_5 : w7.heap.size < w12.heap.size := by have := hb12.size; simp at this; omega
  have s12_5_0 : w12.cell? ⟨w7.heap.size, 0, none⟩ = some (.int .i64 1000) := (hb12.cell (p := ⟨w7.heap.size, 0, none⟩) (by simp <;> omega)).trans (by go_simp)
  have s12_5_1 : w12.cell? ⟨w7.heap.size, 1, none⟩ = some (.int .i64 5) := (hb12.cell (p := ⟨w7.heap.size, 1, none⟩) (by simp <;> omega)).trans (by go_simp)
  have s12_5_2 : w12.cell? ⟨w7.heap.size, 2, none⟩ = some (.int .i64 1000000) := (hb12.cell (p := ⟨w7.heap.size, 2, none⟩) (by simp <;> omega)).trans (by go_simp)
  have H12 : Below w.heap.size w w12 := below_step hb12 (H11.alloc H11.size _)
  clear hz11_0 s11_0_0 s11_0_1 s11_0_2 hz11_1 s11_1_0 s11_1_1 s11_1_2 hz11_2 s11_2_0 s11_2_1 s11_2_2 hz11_3 s11_3_0 s11_3_1 s11_3_2 hz11_4 s11_4_0 s11_4_1 s11_4_2 hz11_5 s11_5_0 s11_5_1 s11_5_2 hb12 H11
  go_wp2
  go_ret
  exact ⟨rfl, H12⟩
end Go.Proofs.Ytgdagfiebaebbaa
