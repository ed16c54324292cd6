/- PassSets: the walk of the law. -/
import Derived.Test.YtgdagfiebaebbaaWorks14
import Derived.Test.YtgdagfiebaebbaaPass11
namespace Go.Proofs.Ytgdagfiebaebbaa
open Go.RowKit

set_option maxRecDepth 100000 in
set_option maxHeartbeats 8000000 in
theorem plaw2_walk (o c p x y z d : Int) (w : World) : Calls Try.prog 4 #[.agg #[.int .i64 o, .int .i64 c, .int .i64 p], .agg #[.int .i64 x, .int .i64 y, .int .i32 z], .int .i64 d] w fun e w' => e = .returned (.bool true) ∧ Below w.heap.size w w' := by
  have KW := Lib.hid fun w => works_any w
  have KI := Lib.hid fun w => rinfo_any x y z w
  generalize x.tmod 4398046511105 = o2 at *
  generalize y.tmod 4398046511105 = c2 at *
  generalize z.tmod 8388609 = p2 at *
  have ER : ∀ k : Nat, k < 2 → ∃ a b q : Int, ∀ W, (Instr.index 28 (.agg #[.int .i64 o, .int .i64 c, .int .i64 p, .int .i64 o2, .int .i64 c2, .int .i64 p2]) (.int .i64 k)).run Try.prog W = .ok (.agg #[.int .i64 a, .int .i64 b, .int .i64 q]) W := fun k hk => by
    match k, hk with
    | 0, _ => exact ⟨o, c, p, fun _ => (by kernel_rfl)⟩
    | 1, _ => exact ⟨o2, c2, p2, fun _ => (by kernel_rfl)⟩
  have ER := Lib.hid ER
  go_enter Try.func4, Try.ntmps4
  go_wp2_with fail
  refine (KW.out _).mono ?_
  rintro e w1 ⟨rfl, hb1⟩
  have hz1_0 : w.heap.size < w1.heap.size := by have := hb1.size; simp at this; omega
  have s1_0_0 : w1.cell? ⟨w.heap.size, 0, none⟩ = some (.int .i64 o) := (hb1.cell (p := ⟨w.heap.size, 0, none⟩) (by simp <;> omega)).trans (by go_simp)
  have s1_0_1 : w1.cell? ⟨w.heap.size, 1, none⟩ = some (.int .i64 c) := (hb1.cell (p := ⟨w.heap.size, 1, none⟩) (by simp <;> omega)).trans (by go_simp)
  have s1_0_2 : w1.cell? ⟨w.heap.size, 2, none⟩ = some (.int .i64 p) := (hb1.cell (p := ⟨w.heap.size, 2, none⟩) (by simp <;> omega)).trans (by go_simp)
  have hz1_1 : w.heap.size + 1 < w1.heap.size := by have := hb1.size; simp at this; omega
  have s1_1_0 : w1.cell? ⟨w.heap.size + 1, 0, none⟩ = some (.int .i64 x) := (hb1.cell (p := ⟨w.heap.size + 1, 0, none⟩) (by simp <;> omega)).trans (by go_simp)
  have s1_1_1 : w1.cell? ⟨w.heap.size + 1, 1, none⟩ = some (.int .i64 y) := (hb1.cell (p := ⟨w.heap.size + 1, 1, none⟩) (by simp <;> omega)).trans (by go_simp)
  have s1_1_2 : w1.cell? ⟨w.heap.size + 1, 2, none⟩ = some (.int .i32 z) := (hb1.cell (p := ⟨w.heap.size + 1, 2, none⟩) (by simp <;> omega)).trans (by go_simp)
  have H1 : Below w.heap.size w w1 := (((Below.refl _ _).alloc (Nat.le_refl _) _).alloc (by simp <;> omega) _).trans (hb1.mono (by simp <;> omega))
  clear hb1
  go_wp2_with fail
  have F0 := Bw.cell hz1_0 s1_0_0
  have F1 := Bw.cell hz1_0 s1_0_1
  have F2 := Bw.cell hz1_0 s1_0_2
  have F3 := Bw.cell hz1_1 s1_1_0
  have F4 := Bw.cell hz1_1 s1_1_1
  have F5 := Bw.cell hz1_1 s1_1_2
  refine wp_region_bw (by kernel_rfl) (by kernel_rfl) ?_
  repeat (go_big_quiet_step ((first | (go_at_call 12; exact Calls.bw_of (KI.out _)))))
  refine wpQuiet_nil ?_
  rintro w2 ⟨⟨_, hb2⟩, rfl⟩
  clear F0 F1 F2 F3 F4 F5
  have hz2_0 := Nat.lt_of_lt_of_le hz1_0 hb2.size
  have s2_0_0 := (hb2.cell (p := ⟨w.heap.size, 0, none⟩) hz1_0).trans s1_0_0
  have s2_0_1 := (hb2.cell (p := ⟨w.heap.size, 1, none⟩) hz1_0).trans s1_0_1
  have s2_0_2 := (hb2.cell (p := ⟨w.heap.size, 2, none⟩) hz1_0).trans s1_0_2
  have hz2_1 := Nat.lt_of_lt_of_le hz1_1 hb2.size
  have s2_1_0 := (hb2.cell (p := ⟨w.heap.size + 1, 0, none⟩) hz1_1).trans s1_1_0
  have s2_1_1 := (hb2.cell (p := ⟨w.heap.size + 1, 1, none⟩) hz1_1).trans s1_1_1
  have s2_1_2 := (hb2.cell (p := ⟨w.heap.size + 1, 2, none⟩) hz1_1).trans s1_1_2
  have H2 := H1.trans (hb2.mono H1.size)
  clear hz1_0 s1_0_0 s1_0_1 s1_0_2 hz1_1 s1_1_0 s1_1_1 s1_1_2 hb2 H1
  clear hz2_0 s2_0_0 s2_0_1 s2_0_2 hz2_1 s2_1_0 s2_1_1 s2_1_2
  go_wp2_with fail
  go_loopw [19] (fun i wr => ∃ k : Nat, k ≤ 2 ∧ i = .int .i64 k ∧ Below w2.heap.size w2 wr) (fun i _ => 2 - (intOf i).toNat)
  case atStart => exact ⟨0, Nat.zero_le _, rfl, Below.refl _ _⟩
  case round =>
    obtain ⟨k, hk, rfl, hB⟩ := hrel
    by_cases hlt : k < 2
    · obtain ⟨a, b, q, hix⟩ := ER.out k hlt
      have hlt' : (k : Int) < 2 := by omega
      have KA := Lib.hid fun w => pset_any a b q d w
      have RA := Lib.hid fun w => rset_any a b q d w
      generalize setV a b q d = A at *
      obtain ⟨ao, ac, ap, ae⟩ := A
      unfold Res.info at KA RA
      dsimp only at KA RA
      have QA := fun W => servo_same ao ac ap W
      have n1 : (ae != ae) = false := by simp
      go_wp2_with fail
      refine (KA.out _).mono ?_
      rintro e w21 ⟨rfl, hb21⟩
      have hz21_0 : wr.heap.size < w21.heap.size := by have := hb21.size; simp at this; omega
      have s21_0_0 : w21.cell? ⟨wr.heap.size, 0, none⟩ = some (.int .i64 a) := (hb21.cell (p := ⟨wr.heap.size, 0, none⟩) (by simp <;> omega)).trans (by go_simp)
      have s21_0_1 : w21.cell? ⟨wr.heap.size, 1, none⟩ = some (.int .i64 b) := (hb21.cell (p := ⟨wr.heap.size, 1, none⟩) (by simp <;> omega)).trans (by go_simp)
      have s21_0_2 : w21.cell? ⟨wr.heap.size, 2, none⟩ = some (.int .i64 q) := (hb21.cell (p := ⟨wr.heap.size, 2, none⟩) (by simp <;> omega)).trans (by go_simp)
      have H21 : Below w2.heap.size w2 w21 := (hB.alloc hB.size _).trans (hb21.mono (by have := hB.size; simp <;> omega))
      clear hb21
      go_wp2_with fail
      refine (RA.out _).mono ?_
      rintro e w22 ⟨rfl, hb22⟩
      have hz22_0 : wr.heap.size < w22.heap.size := by have := hb22.size; simp at this; omega
      have s22_0_0 : w22.cell? ⟨wr.heap.size, 0, none⟩ = some (.int .i64 a) := (hb22.cell (p := ⟨wr.heap.size, 0, none⟩) (by simp <;> omega)).trans (by go_simp)
      have s22_0_1 : w22.cell? ⟨wr.heap.size, 1, none⟩ = some (.int .i64 b) := (hb22.cell (p := ⟨wr.heap.size, 1, none⟩) (by simp <;> omega)).trans (by go_simp)
      have s22_0_2 : w22.cell? ⟨wr.heap.size, 2, none⟩ = some (.int .i64 q) := (hb22.cell (p := ⟨wr.heap.size, 2, none⟩) (by simp <;> omega)).trans (by go_simp)
      have hz22_1 : w21.heap.size < w22.heap.size := by have := hb22.size; simp at this; omega
      have s22_1_0 : w22.cell? ⟨w21.heap.size, 0, none⟩ = some (.int .i64 ao) := (hb22.cell (p := ⟨w21.heap.size, 0, none⟩) (by simp <;> omega)).trans (by go_simp)
      have s22_1_1 : w22.cell? ⟨w21.heap.size, 1, none⟩ = some (.int .i64 ac) := (hb22.cell (p := ⟨w21.heap.size, 1, none⟩) (by simp <;> omega)).trans (by go_simp)
      have s22_1_2 : w22.cell? ⟨w21.heap.size, 2, none⟩ = some (.int .i64 ap) := (hb22.cell (p := ⟨w21.heap.size, 2, none⟩) (by simp <;> omega)).trans (by go_simp)
      have H22 : Below w2.heap.size w2 w22 := (H21.alloc H21.size _).trans (hb22.mono (by have := H21.size; simp <;> omega))
      clear hz21_0 s21_0_0 s21_0_1 s21_0_2 hb22 H21
      go_wp2
      go_roundw
      case rel => exact ⟨k + 1, by omega, by rw [Int.natCast_succ], (H22.alloc H22.size _)⟩
      case measure => simp [intOf]; omega
    · have hge : ¬ (k : Int) < 2 := by omega
      go_wp2
      go_ret
      exact ⟨rfl, (H2.trans (hB.mono H2.size))⟩
end Go.Proofs.Ytgdagfiebaebbaa
