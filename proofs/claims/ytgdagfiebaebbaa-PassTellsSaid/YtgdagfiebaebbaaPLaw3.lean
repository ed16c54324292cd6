/- PassTells: the walk of the law. -/
import Derived.Test.YtgdagfiebaebbaaRdm
import Derived.Test.YtgdagfiebaebbaaPLaw5
namespace Go.Proofs.Ytgdagfiebaebbaa
open Go.RowKit

set_option maxRecDepth 100000 in
set_option maxHeartbeats 8000000 in
theorem plaw3_walk (o c p x y z dom sid sport seq : Int) (mv : Nat → Int) (kd dm co ti id ot po sq st pp r0 r1 r2 r3 va : Int) (hkd : 0 ≤ kd ∧ kd ≤ 255) (w : World) : Calls Try.prog 5 #[.agg #[.int .i64 o, .int .i64 c, .int .i64 p], .agg #[.int .i64 x, .int .i64 y, .int .i32 z], .int .i64 dom, .agg #[.int .i64 sid, .int .i64 sport], .int .i64 seq, msgV mv, .agg #[.int .u8 kd, .int .u8 dm, .int .i64 co, .int .i64 ti, .int .u64 id, .int .u64 ot, .int .u16 po, .int .u16 sq, .int .u16 st, .int .i32 pp, .int .u8 r0, .int .u8 r1, .int .u8 r2, .int .u8 r3, .int .u16 va]] w fun e w' => e = .returned (.bool true) ∧ Below w.heap.size w w' := by
  have KW := Lib.hid fun w => works_any w
  have KI := Lib.hid fun w => rinfo_any x y z w
  obtain ⟨dv, KD⟩ := rdm_any kd dm co ti id ot po sq st pp r0 r1 r2 r3 va hkd
  have KD := Lib.hid KD
  unfold msgV at KD ⊢
  generalize x.tmod 4398046511105 = o2 at *
  generalize y.tmod 4398046511105 = c2 at *
  generalize z.tmod 8388609 = p2 at *
  clear hkd
  have ER : ∀ k : Nat, k < 2 → ∃ a b q : Int, ∀ W, (Instr.index 28 (.agg #[.int .i64 o, .int .i64 c, .int .i64 p, .int .i64 o2, .int .i64 c2, .int .i64 p2]) (.int .i64 k)).run Try.prog W = .ok (.agg #[.int .i64 a, .int .i64 b, .int .i64 q]) W := fun k hk => by
    match k, hk with
    | 0, _ => exact ⟨o, c, p, fun _ => (by kernel_rfl)⟩
    | 1, _ => exact ⟨o2, c2, p2, fun _ => (by kernel_rfl)⟩
  have ER := Lib.hid ER
  have EM : ∀ k : Nat, k < 2 → ∃ u : Nat → Int, ∀ W, (Instr.index 55 (.agg #[.int .i64 (mv 0), .int .i64 (mv 1), .int .i64 (mv 2), .int .i64 (mv 3), .int .i64 (mv 4), .int .i64 (mv 5), .int .i64 (mv 6), .int .i64 (mv 7), .int .i64 (mv 8), .int .i64 (mv 9), .int .i64 (mv 10), .int .i64 (mv 11), .int .i64 (mv 12), .int .i64 (mv 13), .int .i64 (mv 14), .int .i64 (mv 15), .int .i64 (mv 16), .int .i64 (dv 0), .int .i64 (dv 1), .int .i64 (dv 2), .int .i64 (dv 3), .int .i64 (dv 4), .int .i64 (dv 5), .int .i64 (dv 6), .int .i64 (dv 7), .int .i64 (dv 8), .int .i64 (dv 9), .int .i64 (dv 10), .int .i64 (dv 11), .int .i64 (dv 12), .int .i64 (dv 13), .int .i64 (dv 14), .int .i64 (dv 15), .int .i64 (dv 16)]) (.int .i64 k)).run Try.prog W = .ok (.agg #[.int .i64 (u 0), .int .i64 (u 1), .int .i64 (u 2), .int .i64 (u 3), .int .i64 (u 4), .int .i64 (u 5), .int .i64 (u 6), .int .i64 (u 7), .int .i64 (u 8), .int .i64 (u 9), .int .i64 (u 10), .int .i64 (u 11), .int .i64 (u 12), .int .i64 (u 13), .int .i64 (u 14), .int .i64 (u 15), .int .i64 (u 16)]) W := fun k hk => by
    match k, hk with
    | 0, _ => exact ⟨mv, fun _ => (by kernel_rfl)⟩
    | 1, _ => exact ⟨dv, fun _ => (by kernel_rfl)⟩
  have EM := Lib.hid EM
  go_enter Try.func5, Try.ntmps5
  go_wp2_with fail
  refine (KW.out _).mono ?_
  rintro e w1 ⟨rfl, hb1⟩
  have hz1_0 : w.heap.size < w1.heap.size := by have := hb1.size; simp at this; omega
  have s1_0_0 : w1.cell? ⟨w.heap.size, 0, none⟩ = some (.int .i64 o) := (hb1.cell (p := ⟨w.heap.size, 0, none⟩) (by simp <;> omega)).trans (by go_simp)
  have s1_0_1 : w1.cell? ⟨w.heap.size, 1, none⟩ = some (.int .i64 c) := (hb1.cell (p := ⟨w.heap.size, 1, none⟩) (by simp <;> omega)).trans (by go_simp)
  have s1_0_2 : w1.cell? ⟨w.heap.size, 2, none⟩ = some (.int .i64 p) := (hb1.cell (p := ⟨w.heap.size, 2, none⟩) (by simp <;> omega)).trans (by go_simp)
  have hz1_1 : w.heap.size + 1 < w1.heap.size := by have := hb1.size; simp at this; omega
  have s1_1_0 : w1.cell? ⟨w.heap.size + 1, 0, none⟩ = some (.int .i64 x) := (hb1.cell (p := ⟨w.heap.size + 1, 0, none⟩) (by simp <;> omega)).trans (by go_simp)
  have s1_1_1 : w1.cell? ⟨w.heap.size + 1, 1, none⟩ = some (.int .i64 y) := (hb1.cell (p := ⟨w.heap.size + 1, 1, none⟩) (by simp <;> omega)).trans (by go_simp)
  have s1_1_2 : w1.cell? ⟨w.heap.size + 1, 2, none⟩ = some (.int .i32 z) := (hb1.cell (p := ⟨w.heap.size + 1, 2, none⟩) (by simp <;> omega)).trans (by go_simp)
  have hz1_2 : w.heap.size + 2 < w1.heap.size := by have := hb1.size; simp at this; omega
  have s1_2_0 : w1.cell? ⟨w.heap.size + 2, 0, none⟩ = some (.int .i64 sid) := (hb1.cell (p := ⟨w.heap.size + 2, 0, none⟩) (by simp <;> omega)).trans (by go_simp)
  have s1_2_1 : w1.cell? ⟨w.heap.size + 2, 1, none⟩ = some (.int .i64 sport) := (hb1.cell (p := ⟨w.heap.size + 2, 1, none⟩) (by simp <;> omega)).trans (by go_simp)
  have hz1_3 : w.heap.size + 3 < w1.heap.size := by have := hb1.size; simp at this; omega
  have s1_3_0 : w1.cell? ⟨w.heap.size + 3, 0, none⟩ = some (.int .i64 (mv 0)) := (hb1.cell (p := ⟨w.heap.size + 3, 0, none⟩) (by simp <;> omega)).trans (by go_simp)
  have s1_3_1 : w1.cell? ⟨w.heap.size + 3, 1, none⟩ = some (.int .i64 (mv 1)) := (hb1.cell (p := ⟨w.heap.size + 3, 1, none⟩) (by simp <;> omega)).trans (by go_simp)
  have s1_3_2 : w1.cell? ⟨w.heap.size + 3, 2, none⟩ = some (.int .i64 (mv 2)) := (hb1.cell (p := ⟨w.heap.size + 3, 2, none⟩) (by simp <;> omega)).trans (by go_simp)
  have s1_3_3 : w1.cell? ⟨w.heap.size + 3, 3, none⟩ = some (.int .i64 (mv 3)) := (hb1.cell (p := ⟨w.heap.size + 3, 3, none⟩) (by simp <;> omega)).trans (by go_simp)
  have s1_3_4 : w1.cell? ⟨w.heap.size + 3, 4, none⟩ = some (.int .i64 (mv 4)) := (hb1.cell (p := ⟨w.heap.size + 3, 4, none⟩) (by simp <;> omega)).trans (by go_simp)
  have s1_3_5 : w1.cell? ⟨w.heap.size + 3, 5, none⟩ = some (.int .i64 (mv 5)) := (hb1.cell (p := ⟨w.heap.size + 3, 5, none⟩) (by simp <;> omega)).trans (by go_simp)
  have s1_3_6 : w1.cell? ⟨w.heap.size + 3, 6, none⟩ = some (.int .i64 (mv 6)) := (hb1.cell (p := ⟨w.heap.size + 3, 6, none⟩) (by simp <;> omega)).trans (by go_simp)
  have s1_3_7 : w1.cell? ⟨w.heap.size + 3, 7, none⟩ = some (.int .i64 (mv 7)) := (hb1.cell (p := ⟨w.heap.size + 3, 7, none⟩) (by simp <;> omega)).trans (by go_simp)
  have s1_3_8 : w1.cell? ⟨w.heap.size + 3, 8, none⟩ = some (.int .i64 (mv 8)) := (hb1.cell (p := ⟨w.heap.size + 3, 8, none⟩) (by simp <;> omega)).trans (by go_simp)
  have s1_3_9 : w1.cell? ⟨w.heap.size + 3, 9, none⟩ = some (.int .i64 (mv 9)) := (hb1.cell (p := ⟨w.heap.size + 3, 9, none⟩) (by simp <;> omega)).trans (by go_simp)
  have s1_3_10 : w1.cell? ⟨w.heap.size + 3, 10, none⟩ = some (.int .i64 (mv 10)) := (hb1.cell (p := ⟨w.heap.size + 3, 10, none⟩) (by simp <;> omega)).trans (by go_simp)
  have s1_3_11 : w1.cell? ⟨w.heap.size + 3, 11, none⟩ = some (.int .i64 (mv 11)) := (hb1.cell (p := ⟨w.heap.size + 3, 11, none⟩) (by simp <;> omega)).trans (by go_simp)
  have s1_3_12 : w1.cell? ⟨w.heap.size + 3, 12, none⟩ = some (.int .i64 (mv 12)) := (hb1.cell (p := ⟨w.heap.size + 3, 12, none⟩) (by simp <;> omega)).trans (by go_simp)
  have s1_3_13 : w1.cell? ⟨w.heap.size + 3, 13, none⟩ = some (.int .i64 (mv 13)) := (hb1.cell (p := ⟨w.heap.size + 3, 13, none⟩) (by simp <;> omega)).trans (by go_simp)
  have s1_3_14 : w1.cell? ⟨w.heap.size + 3, 14, none⟩ = some (.int .i64 (mv 14)) := (hb1.cell (p := ⟨w.heap.size + 3, 14, none⟩) (by simp <;> omega)).trans (by go_simp)
  have s1_3_15 : w1.cell? ⟨w.heap.size + 3, 15, none⟩ = some (.int .i64 (mv 15)) := (hb1.cell (p := ⟨w.heap.size + 3, 15, none⟩) (by simp <;> omega)).trans (by go_simp)
  have s1_3_16 : w1.cell? ⟨w.heap.size + 3, 16, none⟩ = some (.int .i64 (mv 16)) := (hb1.cell (p := ⟨w.heap.size + 3, 16, none⟩) (by simp <;> omega)).trans (by go_simp)
  have hz1_4 : w.heap.size + 4 < w1.heap.size := by have := hb1.size; simp at this; omega
  have s1_4_0 : w1.cell? ⟨w.heap.size + 4, 0, none⟩ = some (.int .u8 kd) := (hb1.cell (p := ⟨w.heap.size + 4, 0, none⟩) (by simp <;> omega)).trans (by go_simp)
  have s1_4_1 : w1.cell? ⟨w.heap.size + 4, 1, none⟩ = some (.int .u8 dm) := (hb1.cell (p := ⟨w.heap.size + 4, 1, none⟩) (by simp <;> omega)).trans (by go_simp)
  have s1_4_2 : w1.cell? ⟨w.heap.size + 4, 2, none⟩ = some (.int .i64 co) := (hb1.cell (p := ⟨w.heap.size + 4, 2, none⟩) (by simp <;> omega)).trans (by go_simp)
  have s1_4_3 : w1.cell? ⟨w.heap.size + 4, 3, none⟩ = some (.int .i64 ti) := (hb1.cell (p := ⟨w.heap.size + 4, 3, none⟩) (by simp <;> omega)).trans (by go_simp)
  have s1_4_4 : w1.cell? ⟨w.heap.size + 4, 4, none⟩ = some (.int .u64 id) := (hb1.cell (p := ⟨w.heap.size + 4, 4, none⟩) (by simp <;> omega)).trans (by go_simp)
  have s1_4_5 : w1.cell? ⟨w.heap.size + 4, 5, none⟩ = some (.int .u64 ot) := (hb1.cell (p := ⟨w.heap.size + 4, 5, none⟩) (by simp <;> omega)).trans (by go_simp)
  have s1_4_6 : w1.cell? ⟨w.heap.size + 4, 6, none⟩ = some (.int .u16 po) := (hb1.cell (p := ⟨w.heap.size + 4, 6, none⟩) (by simp <;> omega)).trans (by go_simp)
  have s1_4_7 : w1.cell? ⟨w.heap.size + 4, 7, none⟩ = some (.int .u16 sq) := (hb1.cell (p := ⟨w.heap.size + 4, 7, none⟩) (by simp <;> omega)).trans (by go_simp)
  have s1_4_8 : w1.cell? ⟨w.heap.size + 4, 8, none⟩ = some (.int .u16 st) := (hb1.cell (p := ⟨w.heap.size + 4, 8, none⟩) (by simp <;> omega)).trans (by go_simp)
  have s1_4_9 : w1.cell? ⟨w.heap.size + 4, 9, none⟩ = some (.int .i32 pp) := (hb1.cell (p := ⟨w.heap.size + 4, 9, none⟩) (by simp <;> omega)).trans (by go_simp)
  have s1_4_10 : w1.cell? ⟨w.heap.size + 4, 10, none⟩ = some (.int .u8 r0) := (hb1.cell (p := ⟨w.heap.size + 4, 10, none⟩) (by simp <;> omega)).trans (by go_simp)
  have s1_4_11 : w1.cell? ⟨w.heap.size + 4, 11, none⟩ = some (.int .u8 r1) := (hb1.cell (p := ⟨w.heap.size + 4, 11, none⟩) (by simp <;> omega)).trans (by go_simp)
  have s1_4_12 : w1.cell? ⟨w.heap.size + 4, 12, none⟩ = some (.int .u8 r2) := (hb1.cell (p := ⟨w.heap.size + 4, 12, none⟩) (by simp <;> omega)).trans (by go_simp)
  have s1_4_13 : w1.cell? ⟨w.heap.size + 4, 13, none⟩ = some (.int .u8 r3) := (hb1.cell (p := ⟨w.heap.size + 4, 13, none⟩) (by simp <;> omega)).trans (by go_simp)
  have s1_4_14 : w1.cell? ⟨w.heap.size + 4, 14, none⟩ = some (.int .u16 va) := (hb1.cell (p := ⟨w.heap.size + 4, 14, none⟩) (by simp <;> omega)).trans (by go_simp)
  have H1 : Below w.heap.size w w1 := ((((((Below.refl _ _).alloc (Nat.le_refl _) _).alloc (by simp <;> omega) _).alloc (by simp <;> omega) _).alloc (by simp <;> omega) _).alloc (by simp <;> omega) _).trans (hb1.mono (by simp <;> omega))
  clear hb1
  go_wp2_with fail
  have F0 := Bw.cell hz1_0 s1_0_0
  have F1 := Bw.cell hz1_0 s1_0_1
  have F2 := Bw.cell hz1_0 s1_0_2
  have F3 := Bw.cell hz1_1 s1_1_0
  have F4 := Bw.cell hz1_1 s1_1_1
  have F5 := Bw.cell hz1_1 s1_1_2
  refine wp_region_bw (by kernel_rfl) (by kernel_rfl) ?_
  repeat (go_big_quiet_step ((first | (go_at_call 12; exact Calls.bw_of (KI.out _)))))
  refine wpQuiet_nil ?_
  rintro w2 ⟨⟨_, hb2⟩, rfl⟩
  clear F0 F1 F2 F3 F4 F5
  have hz2_0 := Nat.lt_of_lt_of_le hz1_0 hb2.size
  have s2_0_0 := (hb2.cell (p := ⟨w.heap.size, 0, none⟩) hz1_0).trans s1_0_0
  have s2_0_1 := (hb2.cell (p := ⟨w.heap.size, 1, none⟩) hz1_0).trans s1_0_1
  have s2_0_2 := (hb2.cell (p := ⟨w.heap.size, 2, none⟩) hz1_0).trans s1_0_2
  have hz2_1 := Nat.lt_of_lt_of_le hz1_1 hb2.size
  have s2_1_0 := (hb2.cell (p := ⟨w.heap.size + 1, 0, none⟩) hz1_1).trans s1_1_0
  have s2_1_1 := (hb2.cell (p := ⟨w.heap.size + 1, 1, none⟩) hz1_1).trans s1_1_1
  have s2_1_2 := (hb2.cell (p := ⟨w.heap.size + 1, 2, none⟩) hz1_1).trans s1_1_2
  have hz2_2 := Nat.lt_of_lt_of_le hz1_2 hb2.size
  have s2_2_0 := (hb2.cell (p := ⟨w.heap.size + 2, 0, none⟩) hz1_2).trans s1_2_0
  have s2_2_1 := (hb2.cell (p := ⟨w.heap.size + 2, 1, none⟩) hz1_2).trans s1_2_1
  have hz2_3 := Nat.lt_of_lt_of_le hz1_3 hb2.size
  have s2_3_0 := (hb2.cell (p := ⟨w.heap.size + 3, 0, none⟩) hz1_3).trans s1_3_0
  have s2_3_1 := (hb2.cell (p := ⟨w.heap.size + 3, 1, none⟩) hz1_3).trans s1_3_1
  have s2_3_2 := (hb2.cell (p := ⟨w.heap.size + 3, 2, none⟩) hz1_3).trans s1_3_2
  have s2_3_3 := (hb2.cell (p := ⟨w.heap.size + 3, 3, none⟩) hz1_3).trans s1_3_3
  have s2_3_4 := (hb2.cell (p := ⟨w.heap.size + 3, 4, none⟩) hz1_3).trans s1_3_4
  have s2_3_5 := (hb2.cell (p := ⟨w.heap.size + 3, 5, none⟩) hz1_3).trans s1_3_5
  have s2_3_6 := (hb2.cell (p := ⟨w.heap.size + 3, 6, none⟩) hz1_3).trans s1_3_6
  have s2_3_7 := (hb2.cell (p := ⟨w.heap.size + 3, 7, none⟩) hz1_3).trans s1_3_7
  have s2_3_8 := (hb2.cell (p := ⟨w.heap.size + 3, 8, none⟩) hz1_3).trans s1_3_8
  have s2_3_9 := (hb2.cell (p := ⟨w.heap.size + 3, 9, none⟩) hz1_3).trans s1_3_9
  have s2_3_10 := (hb2.cell (p := ⟨w.heap.size + 3, 10, none⟩) hz1_3).trans s1_3_10
  have s2_3_11 := (hb2.cell (p := ⟨w.heap.size + 3, 11, none⟩) hz1_3).trans s1_3_11
  have s2_3_12 := (hb2.cell (p := ⟨w.heap.size + 3, 12, none⟩) hz1_3).trans s1_3_12
  have s2_3_13 := (hb2.cell (p := ⟨w.heap.size + 3, 13, none⟩) hz1_3).trans s1_3_13
  have s2_3_14 := (hb2.cell (p := ⟨w.heap.size + 3, 14, none⟩) hz1_3).trans s1_3_14
  have s2_3_15 := (hb2.cell (p := ⟨w.heap.size + 3, 15, none⟩) hz1_3).trans s1_3_15
  have s2_3_16 := (hb2.cell (p := ⟨w.heap.size + 3, 16, none⟩) hz1_3).trans s1_3_16
  have hz2_4 := Nat.lt_of_lt_of_le hz1_4 hb2.size
  have s2_4_0 := (hb2.cell (p := ⟨w.heap.size + 4, 0, none⟩) hz1_4).trans s1_4_0
  have s2_4_1 := (hb2.cell (p := ⟨w.heap.size + 4, 1, none⟩) hz1_4).trans s1_4_1
  have s2_4_2 := (hb2.cell (p := ⟨w.heap.size + 4, 2, none⟩) hz1_4).trans s1_4_2
  have s2_4_3 := (hb2.cell (p := ⟨w.heap.size + 4, 3, none⟩) hz1_4).trans s1_4_3
  have s2_4_4 := (hb2.cell (p := ⟨w.heap.size + 4, 4, none⟩) hz1_4).trans s1_4_4
  have s2_4_5 := (hb2.cell (p := ⟨w.heap.size + 4, 5, none⟩) hz1_4).trans s1_4_5
  have s2_4_6 := (hb2.cell (p := ⟨w.heap.size + 4, 6, none⟩) hz1_4).trans s1_4_6
  have s2_4_7 := (hb2.cell (p := ⟨w.heap.size + 4, 7, none⟩) hz1_4).trans s1_4_7
  have s2_4_8 := (hb2.cell (p := ⟨w.heap.size + 4, 8, none⟩) hz1_4).trans s1_4_8
  have s2_4_9 := (hb2.cell (p := ⟨w.heap.size + 4, 9, none⟩) hz1_4).trans s1_4_9
  have s2_4_10 := (hb2.cell (p := ⟨w.heap.size + 4, 10, none⟩) hz1_4).trans s1_4_10
  have s2_4_11 := (hb2.cell (p := ⟨w.heap.size + 4, 11, none⟩) hz1_4).trans s1_4_11
  have s2_4_12 := (hb2.cell (p := ⟨w.heap.size + 4, 12, none⟩) hz1_4).trans s1_4_12
  have s2_4_13 := (hb2.cell (p := ⟨w.heap.size + 4, 13, none⟩) hz1_4).trans s1_4_13
  have s2_4_14 := (hb2.cell (p := ⟨w.heap.size + 4, 14, none⟩) hz1_4).trans s1_4_14
  have H2 := H1.trans (hb2.mono H1.size)
  clear hz1_0 s1_0_0 s1_0_1 s1_0_2 hz1_1 s1_1_0 s1_1_1 s1_1_2 hz1_2 s1_2_0 s1_2_1 hz1_3 s1_3_0 s1_3_1 s1_3_2 s1_3_3 s1_3_4 s1_3_5 s1_3_6 s1_3_7 s1_3_8 s1_3_9 s1_3_10 s1_3_11 s1_3_12 s1_3_13 s1_3_14 s1_3_15 s1_3_16 hz1_4 s1_4_0 s1_4_1 s1_4_2 s1_4_3 s1_4_4 s1_4_5 s1_4_6 s1_4_7 s1_4_8 s1_4_9 s1_4_10 s1_4_11 s1_4_12 s1_4_13 s1_4_14 hb2 H1
  clear hz2_0 s2_0_0 s2_0_1 s2_0_2 hz2_1 s2_1_0 s2_1_1 s2_1_2
  go_wp2_with fail
  go_loopw [33] (fun i wr => ∃ k : Nat, k ≤ 2 ∧ i = .int .i64 k ∧ Below w2.heap.size w2 wr) (fun i _ => 2 - (intOf i).toNat)
  case atStart => exact ⟨0, Nat.zero_le _, rfl, Below.refl _ _⟩
  case round =>
    obtain ⟨k, hk, rfl, hB⟩ := hrel
    by_cases hlt : k < 2
    · as_aux_lemma =>
        obtain ⟨a, b, q, hix⟩ := ER.out k hlt
        have hlt' : (k : Int) < 2 := by omega
        have KA := Lib.hid fun w => pmsg_any a b q dom sid sport seq w
        have RA := Lib.hid fun w => rmsg_any a b q dom sid sport seq w
        generalize mmV a b q dom sid sport seq = A at *
        obtain ⟨u, ae⟩ := A
        unfold msgV at KA RA
        dsimp only at KA RA
        have QM : ∀ W, (Op.equalIn 10000 46 (.agg #[.int .i64 (u 0), .int .i64 (u 1), .int .i64 (u 2), .int .i64 (u 3), .int .i64 (u 4), .int .i64 (u 5), .int .i64 (u 6), .int .i64 (u 7), .int .i64 (u 8), .int .i64 (u 9), .int .i64 (u 10), .int .i64 (u 11), .int .i64 (u 12), .int .i64 (u 13), .int .i64 (u 14), .int .i64 (u 15), .int .i64 (u 16)]) (.agg #[.int .i64 (u 0), .int .i64 (u 1), .int .i64 (u 2), .int .i64 (u 3), .int .i64 (u 4), .int .i64 (u 5), .int .i64 (u 6), .int .i64 (u 7), .int .i64 (u 8), .int .i64 (u 9), .int .i64 (u 10), .int .i64 (u 11), .int .i64 (u 12), .int .i64 (u 13), .int .i64 (u 14), .int .i64 (u 15), .int .i64 (u 16)])).run Try.prog W = .ok true W := fun W => (msg_eq u u W).trans (by rw [allEq_self])
        have n1 : (ae != ae) = false := by simp
        have r_s2_2_0 := (hB.cell (p := ⟨w.heap.size + 2, 0, none⟩) hz2_2).trans s2_2_0
        have r_s2_2_1 := (hB.cell (p := ⟨w.heap.size + 2, 1, none⟩) hz2_2).trans s2_2_1
        have r_hz2_2 := Nat.lt_of_lt_of_le hz2_2 hB.size
        go_wp2_with fail
        refine (KA.out _).mono ?_
        rintro e w21 ⟨rfl, hb21⟩
        have hz21_0 : w.heap.size + 2 < w21.heap.size := by have := hb21.size; simp at this; omega
        have s21_0_0 : w21.cell? ⟨w.heap.size + 2, 0, none⟩ = some (.int .i64 sid) := (hb21.cell (p := ⟨w.heap.size + 2, 0, none⟩) (by simp <;> omega)).trans (by go_simp)
        have s21_0_1 : w21.cell? ⟨w.heap.size + 2, 1, none⟩ = some (.int .i64 sport) := (hb21.cell (p := ⟨w.heap.size + 2, 1, none⟩) (by simp <;> omega)).trans (by go_simp)
        have hz21_1 : wr.heap.size < w21.heap.size := by have := hb21.size; simp at this; omega
        have s21_1_0 : w21.cell? ⟨wr.heap.size, 0, none⟩ = some (.int .i64 a) := (hb21.cell (p := ⟨wr.heap.size, 0, none⟩) (by simp <;> omega)).trans (by go_simp)
        have s21_1_1 : w21.cell? ⟨wr.heap.size, 1, none⟩ = some (.int .i64 b) := (hb21.cell (p := ⟨wr.heap.size, 1, none⟩) (by simp <;> omega)).trans (by go_simp)
        have s21_1_2 : w21.cell? ⟨wr.heap.size, 2, none⟩ = some (.int .i64 q) := (hb21.cell (p := ⟨wr.heap.size, 2, none⟩) (by simp <;> omega)).trans (by go_simp)
        have H21 : Below w2.heap.size w2 w21 := (hB.alloc hB.size _).trans (hb21.mono (by have := hB.size; simp <;> omega))
        clear r_hz2_2 r_s2_2_0 r_s2_2_1 hb21
        go_wp2_with (refine wpList_store_mid (by exact rfl) 46 _ _ (by exact rfl) _ _ _ (by exact rfl) (by exact rfl) (by exact there_msg (msg_at _ _ zero17)) (by kernel_rfl) (by kernel_rfl) ?_; refine list_gen ?_; intro w22 hg; have s22_0_0 : w22.cell? ⟨w.heap.size + 2, 0, none⟩ = some (.int .i64 sid) := (by (rw [hg]; exact (setCells_ne _ (Nat.ne_of_lt hz21_0) _).trans ((World.cell?_alloc_lt _ _ _ hz21_0).trans s21_0_0))); have s22_0_1 : w22.cell? ⟨w.heap.size + 2, 1, none⟩ = some (.int .i64 sport) := (by (rw [hg]; exact (setCells_ne _ (Nat.ne_of_lt hz21_0) _).trans ((World.cell?_alloc_lt _ _ _ hz21_0).trans s21_0_1))); have s22_1_0 : w22.cell? ⟨wr.heap.size, 0, none⟩ = some (.int .i64 a) := (by (rw [hg]; exact (setCells_ne _ (Nat.ne_of_lt hz21_1) _).trans ((World.cell?_alloc_lt _ _ _ hz21_1).trans s21_1_0))); have s22_1_1 : w22.cell? ⟨wr.heap.size, 1, none⟩ = some (.int .i64 b) := (by (rw [hg]; exact (setCells_ne _ (Nat.ne_of_lt hz21_1) _).trans ((World.cell?_alloc_lt _ _ _ hz21_1).trans s21_1_1))); have s22_1_2 : w22.cell? ⟨wr.heap.size, 2, none⟩ = some (.int .i64 q) := (by (rw [hg]; exact (setCells_ne _ (Nat.ne_of_lt hz21_1) _).trans ((World.cell?_alloc_lt _ _ _ hz21_1).trans s21_1_2))); have m22_0 : Hid (MsgAt w22 (w21.heap.size) u) := Lib.hid (by rw [hg]; exact (MsgAt.setCells (msg_at _ _ zero17) u)); have HX : Below w21.heap.size w21 w22 := (by (rw [hg]; exact (below_alloc _ _).trans (below_setCells _ _ (Nat.le_refl _) _ _ _))); have hz22_0 := Nat.lt_of_lt_of_le hz21_0 HX.size; have hz22_1 := Nat.lt_of_lt_of_le hz21_1 HX.size; have H22 := below_step HX H21; clear hg HX hz21_0 s21_0_0 s21_0_1 hz21_1 s21_1_0 s21_1_1 s21_1_2 H21)
        refine (RA.out _).mono ?_
        rintro e w23 ⟨rfl, hb23⟩
        have m23_0 : Hid (MsgAt w23 (w21.heap.size) u) := Lib.hid (m22_0.out.below hb23)
        have hz23_0 := Nat.lt_of_lt_of_le hz22_0 hb23.size
        have s23_0_0 := (hb23.cell (p := ⟨w.heap.size + 2, 0, none⟩) hz22_0).trans s22_0_0
        have s23_0_1 := (hb23.cell (p := ⟨w.heap.size + 2, 1, none⟩) hz22_0).trans s22_0_1
        have hz23_1 := Nat.lt_of_lt_of_le hz22_1 hb23.size
        have s23_1_0 := (hb23.cell (p := ⟨wr.heap.size, 0, none⟩) hz22_1).trans s22_1_0
        have s23_1_1 := (hb23.cell (p := ⟨wr.heap.size, 1, none⟩) hz22_1).trans s22_1_1
        have s23_1_2 := (hb23.cell (p := ⟨wr.heap.size, 2, none⟩) hz22_1).trans s22_1_2
        have H23 := H22.trans (hb23.mono H22.size)
        clear hz22_0 s22_0_0 s22_0_1 hz22_1 s22_1_0 s22_1_1 s22_1_2 hb23 H22
        clear m22_0
        go_wp2_with (refine wpList_store_mid (by exact rfl) 46 _ _ (by exact rfl) _ _ _ (by exact rfl) (by exact rfl) (by exact there_msg (msg_at _ _ zero17)) (by kernel_rfl) (by kernel_rfl) ?_; refine list_gen ?_; intro w24 hg; have s24_0_0 : w24.cell? ⟨w.heap.size + 2, 0, none⟩ = some (.int .i64 sid) := (by (rw [hg]; exact (setCells_ne _ (Nat.ne_of_lt hz23_0) _).trans ((World.cell?_alloc_lt _ _ _ hz23_0).trans s23_0_0))); have s24_0_1 : w24.cell? ⟨w.heap.size + 2, 1, none⟩ = some (.int .i64 sport) := (by (rw [hg]; exact (setCells_ne _ (Nat.ne_of_lt hz23_0) _).trans ((World.cell?_alloc_lt _ _ _ hz23_0).trans s23_0_1))); have s24_1_0 : w24.cell? ⟨wr.heap.size, 0, none⟩ = some (.int .i64 a) := (by (rw [hg]; exact (setCells_ne _ (Nat.ne_of_lt hz23_1) _).trans ((World.cell?_alloc_lt _ _ _ hz23_1).trans s23_1_0))); have s24_1_1 : w24.cell? ⟨wr.heap.size, 1, none⟩ = some (.int .i64 b) := (by (rw [hg]; exact (setCells_ne _ (Nat.ne_of_lt hz23_1) _).trans ((World.cell?_alloc_lt _ _ _ hz23_1).trans s23_1_1))); have s24_1_2 : w24.cell? ⟨wr.heap.size, 2, none⟩ = some (.int .i64 q) := (by (rw [hg]; exact (setCells_ne _ (Nat.ne_of_lt hz23_1) _).trans ((World.cell?_alloc_lt _ _ _ hz23_1).trans s23_1_2))); have m24_0 : Hid (MsgAt w24 (w21.heap.size) u) := Lib.hid (by rw [hg]; exact (m23_0.out.below (below_alloc _ _)).apart (Nat.ne_of_lt (cell_lt (m23_0.out 0 (by decide)).1)) _); have m24_1 : Hid (MsgAt w24 (w23.heap.size) u) := Lib.hid (by rw [hg]; exact (MsgAt.setCells (msg_at _ _ zero17) u)); have HX : Below w23.heap.size w23 w24 := (by (rw [hg]; exact (below_alloc _ _).trans (below_setCells _ _ (Nat.le_refl _) _ _ _))); have hz24_0 := Nat.lt_of_lt_of_le hz23_0 HX.size; have hz24_1 := Nat.lt_of_lt_of_le hz23_1 HX.size; have H24 := below_step HX H23; clear hg HX hz23_0 s23_0_0 s23_0_1 hz23_1 s23_1_0 s23_1_1 s23_1_2 H23 m23_0; have c0_0 : w24.cell? ⟨w21.heap.size, 0, none⟩ = some (.int .i64 (u 0)) := (m24_0.out 0 (by decide)).1; have c0_1 : w24.cell? ⟨w21.heap.size, 1, none⟩ = some (.int .i64 (u 1)) := (m24_0.out 1 (by decide)).1; have c0_2 : w24.cell? ⟨w21.heap.size, 2, none⟩ = some (.int .i64 (u 2)) := (m24_0.out 2 (by decide)).1; have c0_3 : w24.cell? ⟨w21.heap.size, 3, none⟩ = some (.int .i64 (u 3)) := (m24_0.out 3 (by decide)).1; have c0_4 : w24.cell? ⟨w21.heap.size, 4, none⟩ = some (.int .i64 (u 4)) := (m24_0.out 4 (by decide)).1; have c0_5 : w24.cell? ⟨w21.heap.size, 5, none⟩ = some (.int .i64 (u 5)) := (m24_0.out 5 (by decide)).1; have c0_6 : w24.cell? ⟨w21.heap.size, 6, none⟩ = some (.int .i64 (u 6)) := (m24_0.out 6 (by decide)).1; have c0_7 : w24.cell? ⟨w21.heap.size, 7, none⟩ = some (.int .i64 (u 7)) := (m24_0.out 7 (by decide)).1; have c0_8 : w24.cell? ⟨w21.heap.size, 8, none⟩ = some (.int .i64 (u 8)) := (m24_0.out 8 (by decide)).1; have c0_9 : w24.cell? ⟨w21.heap.size, 9, none⟩ = some (.int .i64 (u 9)) := (m24_0.out 9 (by decide)).1; have c0_10 : w24.cell? ⟨w21.heap.size, 10, none⟩ = some (.int .i64 (u 10)) := (m24_0.out 10 (by decide)).1; have c0_11 : w24.cell? ⟨w21.heap.size, 11, none⟩ = some (.int .i64 (u 11)) := (m24_0.out 11 (by decide)).1; have c0_12 : w24.cell? ⟨w21.heap.size, 12, none⟩ = some (.int .i64 (u 12)) := (m24_0.out 12 (by decide)).1; have c0_13 : w24.cell? ⟨w21.heap.size, 13, none⟩ = some (.int .i64 (u 13)) := (m24_0.out 13 (by decide)).1; have c0_14 : w24.cell? ⟨w21.heap.size, 14, none⟩ = some (.int .i64 (u 14)) := (m24_0.out 14 (by decide)).1; have c0_15 : w24.cell? ⟨w21.heap.size, 15, none⟩ = some (.int .i64 (u 15)) := (m24_0.out 15 (by decide)).1; have c0_16 : w24.cell? ⟨w21.heap.size, 16, none⟩ = some (.int .i64 (u 16)) := (m24_0.out 16 (by decide)).1; have c1_0 : w24.cell? ⟨w23.heap.size, 0, none⟩ = some (.int .i64 (u 0)) := (m24_1.out 0 (by decide)).1; have c1_1 : w24.cell? ⟨w23.heap.size, 1, none⟩ = some (.int .i64 (u 1)) := (m24_1.out 1 (by decide)).1; have c1_2 : w24.cell? ⟨w23.heap.size, 2, none⟩ = some (.int .i64 (u 2)) := (m24_1.out 2 (by decide)).1; have c1_3 : w24.cell? ⟨w23.heap.size, 3, none⟩ = some (.int .i64 (u 3)) := (m24_1.out 3 (by decide)).1; have c1_4 : w24.cell? ⟨w23.heap.size, 4, none⟩ = some (.int .i64 (u 4)) := (m24_1.out 4 (by decide)).1; have c1_5 : w24.cell? ⟨w23.heap.size, 5, none⟩ = some (.int .i64 (u 5)) := (m24_1.out 5 (by decide)).1; have c1_6 : w24.cell? ⟨w23.heap.size, 6, none⟩ = some (.int .i64 (u 6)) := (m24_1.out 6 (by decide)).1; have c1_7 : w24.cell? ⟨w23.heap.size, 7, none⟩ = some (.int .i64 (u 7)) := (m24_1.out 7 (by decide)).1; have c1_8 : w24.cell? ⟨w23.heap.size, 8, none⟩ = some (.int .i64 (u 8)) := (m24_1.out 8 (by decide)).1; have c1_9 : w24.cell? ⟨w23.heap.size, 9, none⟩ = some (.int .i64 (u 9)) := (m24_1.out 9 (by decide)).1; have c1_10 : w24.cell? ⟨w23.heap.size, 10, none⟩ = some (.int .i64 (u 10)) := (m24_1.out 10 (by decide)).1; have c1_11 : w24.cell? ⟨w23.heap.size, 11, none⟩ = some (.int .i64 (u 11)) := (m24_1.out 11 (by decide)).1; have c1_12 : w24.cell? ⟨w23.heap.size, 12, none⟩ = some (.int .i64 (u 12)) := (m24_1.out 12 (by decide)).1; have c1_13 : w24.cell? ⟨w23.heap.size, 13, none⟩ = some (.int .i64 (u 13)) := (m24_1.out 13 (by decide)).1; have c1_14 : w24.cell? ⟨w23.heap.size, 14, none⟩ = some (.int .i64 (u 14)) := (m24_1.out 14 (by decide)).1; have c1_15 : w24.cell? ⟨w23.heap.size, 15, none⟩ = some (.int .i64 (u 15)) := (m24_1.out 15 (by decide)).1; have c1_16 : w24.cell? ⟨w23.heap.size, 16, none⟩ = some (.int .i64 (u 16)) := (m24_1.out 16 (by decide)).1)
        go_roundw
        case rel => exact ⟨k + 1, by omega, by rw [Int.natCast_succ], H24⟩
        case measure => simp [intOf]; omega
    · have hge : ¬ (k : Int) < 2 := by omega
      have Hr := H2.trans (hB.mono H2.size)
      have r_s2_3_0 := (hB.cell (p := ⟨w.heap.size + 3, 0, none⟩) hz2_3).trans s2_3_0
      have r_s2_3_1 := (hB.cell (p := ⟨w.heap.size + 3, 1, none⟩) hz2_3).trans s2_3_1
      have r_s2_3_2 := (hB.cell (p := ⟨w.heap.size + 3, 2, none⟩) hz2_3).trans s2_3_2
      have r_s2_3_3 := (hB.cell (p := ⟨w.heap.size + 3, 3, none⟩) hz2_3).trans s2_3_3
      have r_s2_3_4 := (hB.cell (p := ⟨w.heap.size + 3, 4, none⟩) hz2_3).trans s2_3_4
      have r_s2_3_5 := (hB.cell (p := ⟨w.heap.size + 3, 5, none⟩) hz2_3).trans s2_3_5
      have r_s2_3_6 := (hB.cell (p := ⟨w.heap.size + 3, 6, none⟩) hz2_3).trans s2_3_6
      have r_s2_3_7 := (hB.cell (p := ⟨w.heap.size + 3, 7, none⟩) hz2_3).trans s2_3_7
      have r_s2_3_8 := (hB.cell (p := ⟨w.heap.size + 3, 8, none⟩) hz2_3).trans s2_3_8
      have r_s2_3_9 := (hB.cell (p := ⟨w.heap.size + 3, 9, none⟩) hz2_3).trans s2_3_9
      have r_s2_3_10 := (hB.cell (p := ⟨w.heap.size + 3, 10, none⟩) hz2_3).trans s2_3_10
      have r_s2_3_11 := (hB.cell (p := ⟨w.heap.size + 3, 11, none⟩) hz2_3).trans s2_3_11
      have r_s2_3_12 := (hB.cell (p := ⟨w.heap.size + 3, 12, none⟩) hz2_3).trans s2_3_12
      have r_s2_3_13 := (hB.cell (p := ⟨w.heap.size + 3, 13, none⟩) hz2_3).trans s2_3_13
      have r_s2_3_14 := (hB.cell (p := ⟨w.heap.size + 3, 14, none⟩) hz2_3).trans s2_3_14
      have r_s2_3_15 := (hB.cell (p := ⟨w.heap.size + 3, 15, none⟩) hz2_3).trans s2_3_15
      have r_s2_3_16 := (hB.cell (p := ⟨w.heap.size + 3, 16, none⟩) hz2_3).trans s2_3_16
      have r_hz2_3 := Nat.lt_of_lt_of_le hz2_3 hB.size
      have r_s2_4_0 := (hB.cell (p := ⟨w.heap.size + 4, 0, none⟩) hz2_4).trans s2_4_0
      have r_s2_4_1 := (hB.cell (p := ⟨w.heap.size + 4, 1, none⟩) hz2_4).trans s2_4_1
      have r_s2_4_2 := (hB.cell (p := ⟨w.heap.size + 4, 2, none⟩) hz2_4).trans s2_4_2
      have r_s2_4_3 := (hB.cell (p := ⟨w.heap.size + 4, 3, none⟩) hz2_4).trans s2_4_3
      have r_s2_4_4 := (hB.cell (p := ⟨w.heap.size + 4, 4, none⟩) hz2_4).trans s2_4_4
      have r_s2_4_5 := (hB.cell (p := ⟨w.heap.size + 4, 5, none⟩) hz2_4).trans s2_4_5
      have r_s2_4_6 := (hB.cell (p := ⟨w.heap.size + 4, 6, none⟩) hz2_4).trans s2_4_6
      have r_s2_4_7 := (hB.cell (p := ⟨w.heap.size + 4, 7, none⟩) hz2_4).trans s2_4_7
      have r_s2_4_8 := (hB.cell (p := ⟨w.heap.size + 4, 8, none⟩) hz2_4).trans s2_4_8
      have r_s2_4_9 := (hB.cell (p := ⟨w.heap.size + 4, 9, none⟩) hz2_4).trans s2_4_9
      have r_s2_4_10 := (hB.cell (p := ⟨w.heap.size + 4, 10, none⟩) hz2_4).trans s2_4_10
      have r_s2_4_11 := (hB.cell (p := ⟨w.heap.size + 4, 11, none⟩) hz2_4).trans s2_4_11
      have r_s2_4_12 := (hB.cell (p := ⟨w.heap.size + 4, 12, none⟩) hz2_4).trans s2_4_12
      have r_s2_4_13 := (hB.cell (p := ⟨w.heap.size + 4, 13, none⟩) hz2_4).trans s2_4_13
      have r_s2_4_14 := (hB.cell (p := ⟨w.heap.size + 4, 14, none⟩) hz2_4).trans s2_4_14
      have r_hz2_4 := Nat.lt_of_lt_of_le hz2_4 hB.size
      go_wp2_with fail
      have F0 := Bw.cell r_hz2_3 r_s2_3_0
      have F1 := Bw.cell r_hz2_3 r_s2_3_1
      have F2 := Bw.cell r_hz2_3 r_s2_3_2
      have F3 := Bw.cell r_hz2_3 r_s2_3_3
      have F4 := Bw.cell r_hz2_3 r_s2_3_4
      have F5 := Bw.cell r_hz2_3 r_s2_3_5
      have F6 := Bw.cell r_hz2_3 r_s2_3_6
      have F7 := Bw.cell r_hz2_3 r_s2_3_7
      have F8 := Bw.cell r_hz2_3 r_s2_3_8
      have F9 := Bw.cell r_hz2_3 r_s2_3_9
      have F10 := Bw.cell r_hz2_3 r_s2_3_10
      have F11 := Bw.cell r_hz2_3 r_s2_3_11
      have F12 := Bw.cell r_hz2_3 r_s2_3_12
      have F13 := Bw.cell r_hz2_3 r_s2_3_13
      have F14 := Bw.cell r_hz2_3 r_s2_3_14
      have F15 := Bw.cell r_hz2_3 r_s2_3_15
      have F16 := Bw.cell r_hz2_3 r_s2_3_16
      have F17 := Bw.cell r_hz2_4 r_s2_4_0
      have F18 := Bw.cell r_hz2_4 r_s2_4_1
      have F19 := Bw.cell r_hz2_4 r_s2_4_2
      have F20 := Bw.cell r_hz2_4 r_s2_4_3
      have F21 := Bw.cell r_hz2_4 r_s2_4_4
      have F22 := Bw.cell r_hz2_4 r_s2_4_5
      have F23 := Bw.cell r_hz2_4 r_s2_4_6
      have F24 := Bw.cell r_hz2_4 r_s2_4_7
      have F25 := Bw.cell r_hz2_4 r_s2_4_8
      have F26 := Bw.cell r_hz2_4 r_s2_4_9
      have F27 := Bw.cell r_hz2_4 r_s2_4_10
      have F28 := Bw.cell r_hz2_4 r_s2_4_11
      have F29 := Bw.cell r_hz2_4 r_s2_4_12
      have F30 := Bw.cell r_hz2_4 r_s2_4_13
      have F31 := Bw.cell r_hz2_4 r_s2_4_14
      refine wp_region_bw (by kernel_rfl) (by kernel_rfl) ?_
      repeat (go_big_quiet_step ((first | (go_at_call 23; exact Calls.bw_of (KD.out _)))))
      refine wpQuiet_nil ?_
      rintro w41 ⟨⟨_, hb41⟩, rfl⟩
      clear F0 F1 F2 F3 F4 F5 F6 F7 F8 F9 F10 F11 F12 F13 F14 F15 F16 F17 F18 F19 F20 F21 F22 F23 F24 F25 F26 F27 F28 F29 F30 F31
      have hz41_0 := Nat.lt_of_lt_of_le r_hz2_3 hb41.size
      have s41_0_0 := (hb41.cell (p := ⟨w.heap.size + 3, 0, none⟩) r_hz2_3).trans r_s2_3_0
      have s41_0_1 := (hb41.cell (p := ⟨w.heap.size + 3, 1, none⟩) r_hz2_3).trans r_s2_3_1
      have s41_0_2 := (hb41.cell (p := ⟨w.heap.size + 3, 2, none⟩) r_hz2_3).trans r_s2_3_2
      have s41_0_3 := (hb41.cell (p := ⟨w.heap.size + 3, 3, none⟩) r_hz2_3).trans r_s2_3_3
      have s41_0_4 := (hb41.cell (p := ⟨w.heap.size + 3, 4, none⟩) r_hz2_3).trans r_s2_3_4
      have s41_0_5 := (hb41.cell (p := ⟨w.heap.size + 3, 5, none⟩) r_hz2_3).trans r_s2_3_5
      have s41_0_6 := (hb41.cell (p := ⟨w.heap.size + 3, 6, none⟩) r_hz2_3).trans r_s2_3_6
      have s41_0_7 := (hb41.cell (p := ⟨w.heap.size + 3, 7, none⟩) r_hz2_3).trans r_s2_3_7
      have s41_0_8 := (hb41.cell (p := ⟨w.heap.size + 3, 8, none⟩) r_hz2_3).trans r_s2_3_8
      have s41_0_9 := (hb41.cell (p := ⟨w.heap.size + 3, 9, none⟩) r_hz2_3).trans r_s2_3_9
      have s41_0_10 := (hb41.cell (p := ⟨w.heap.size + 3, 10, none⟩) r_hz2_3).trans r_s2_3_10
      have s41_0_11 := (hb41.cell (p := ⟨w.heap.size + 3, 11, none⟩) r_hz2_3).trans r_s2_3_11
      have s41_0_12 := (hb41.cell (p := ⟨w.heap.size + 3, 12, none⟩) r_hz2_3).trans r_s2_3_12
      have s41_0_13 := (hb41.cell (p := ⟨w.heap.size + 3, 13, none⟩) r_hz2_3).trans r_s2_3_13
      have s41_0_14 := (hb41.cell (p := ⟨w.heap.size + 3, 14, none⟩) r_hz2_3).trans r_s2_3_14
      have s41_0_15 := (hb41.cell (p := ⟨w.heap.size + 3, 15, none⟩) r_hz2_3).trans r_s2_3_15
      have s41_0_16 := (hb41.cell (p := ⟨w.heap.size + 3, 16, none⟩) r_hz2_3).trans r_s2_3_16
      have hz41_1 := Nat.lt_of_lt_of_le r_hz2_4 hb41.size
      have s41_1_0 := (hb41.cell (p := ⟨w.heap.size + 4, 0, none⟩) r_hz2_4).trans r_s2_4_0
      have s41_1_1 := (hb41.cell (p := ⟨w.heap.size + 4, 1, none⟩) r_hz2_4).trans r_s2_4_1
      have s41_1_2 := (hb41.cell (p := ⟨w.heap.size + 4, 2, none⟩) r_hz2_4).trans r_s2_4_2
      have s41_1_3 := (hb41.cell (p := ⟨w.heap.size + 4, 3, none⟩) r_hz2_4).trans r_s2_4_3
      have s41_1_4 := (hb41.cell (p := ⟨w.heap.size + 4, 4, none⟩) r_hz2_4).trans r_s2_4_4
      have s41_1_5 := (hb41.cell (p := ⟨w.heap.size + 4, 5, none⟩) r_hz2_4).trans r_s2_4_5
      have s41_1_6 := (hb41.cell (p := ⟨w.heap.size + 4, 6, none⟩) r_hz2_4).trans r_s2_4_6
      have s41_1_7 := (hb41.cell (p := ⟨w.heap.size + 4, 7, none⟩) r_hz2_4).trans r_s2_4_7
      have s41_1_8 := (hb41.cell (p := ⟨w.heap.size + 4, 8, none⟩) r_hz2_4).trans r_s2_4_8
      have s41_1_9 := (hb41.cell (p := ⟨w.heap.size + 4, 9, none⟩) r_hz2_4).trans r_s2_4_9
      have s41_1_10 := (hb41.cell (p := ⟨w.heap.size + 4, 10, none⟩) r_hz2_4).trans r_s2_4_10
      have s41_1_11 := (hb41.cell (p := ⟨w.heap.size + 4, 11, none⟩) r_hz2_4).trans r_s2_4_11
      have s41_1_12 := (hb41.cell (p := ⟨w.heap.size + 4, 12, none⟩) r_hz2_4).trans r_s2_4_12
      have s41_1_13 := (hb41.cell (p := ⟨w.heap.size + 4, 13, none⟩) r_hz2_4).trans r_s2_4_13
      have s41_1_14 := (hb41.cell (p := ⟨w.heap.size + 4, 14, none⟩) r_hz2_4).trans r_s2_4_14
      have H41 := Hr.trans (hb41.mono Hr.size)
      clear r_hz2_3 r_s2_3_0 r_s2_3_1 r_s2_3_2 r_s2_3_3 r_s2_3_4 r_s2_3_5 r_s2_3_6 r_s2_3_7 r_s2_3_8 r_s2_3_9 r_s2_3_10 r_s2_3_11 r_s2_3_12 r_s2_3_13 r_s2_3_14 r_s2_3_15 r_s2_3_16 r_hz2_4 r_s2_4_0 r_s2_4_1 r_s2_4_2 r_s2_4_3 r_s2_4_4 r_s2_4_5 r_s2_4_6 r_s2_4_7 r_s2_4_8 r_s2_4_9 r_s2_4_10 r_s2_4_11 r_s2_4_12 r_s2_4_13 r_s2_4_14 hb41
      clear hz41_0 s41_0_0 s41_0_1 s41_0_2 s41_0_3 s41_0_4 s41_0_5 s41_0_6 s41_0_7 s41_0_8 s41_0_9 s41_0_10 s41_0_11 s41_0_12 s41_0_13 s41_0_14 s41_0_15 s41_0_16 hz41_1 s41_1_0 s41_1_1 s41_1_2 s41_1_3 s41_1_4 s41_1_5 s41_1_6 s41_1_7 s41_1_8 s41_1_9 s41_1_10 s41_1_11 s41_1_12 s41_1_13 s41_1_14
      go_wp2_with fail
      have hB1 := hB
      go_loopw [65] (fun i wi => ∃ j : Nat, j ≤ 2 ∧ i = .int .i64 j ∧ Below w41.heap.size w41 wi) (fun i _ => 2 - (intOf i).toNat)
      case atStart => exact ⟨0, Nat.zero_le _, rfl, Below.refl _ _⟩
      case round =>
        obtain ⟨j, hj, rfl, hBi⟩ := hrel
        by_cases hjt : j < 2
        · obtain ⟨u, hjx⟩ := EM.out j hjt
          have hjt' : (j : Int) < 2 := by omega
          have KO := Lib.hid fun w => pof_any u w
          have RO := Lib.hid fun w => rof_any u w
          generalize ofV u = A at *
          obtain ⟨ao, ac, ap, ae⟩ := A
          unfold msgV at KO RO
          unfold Res.info at KO RO
          dsimp only at KO RO
          have QI := fun W => info_same ao ac ap W
          have n1 : (ae != ae) = false := by simp
          go_wp2_with (first | (refine wpList_store_mid (by exact rfl) 46 _ _ (by exact rfl) _ _ _ (by exact rfl) (by exact rfl) (by exact there_msg (msg_at _ _ zero17)) (by kernel_rfl) (by kernel_rfl) ?_) | (refine wpList_load_mid (by exact rfl) 46 _ (by exact rfl) _ _ (by exact rfl) (msgL u) _ (by exact range_msg (MsgAt.setCells (msg_at _ _ zero17) u)) Try.underlying46 (by exact rfl) (by kernel_rfl) ?_))
          refine calls_gen ?_
          rintro w61 hg
          have m61_0 : Hid (MsgAt w61 (wr.heap.size) u) := Lib.hid (by rw [hg]; exact (MsgAt.setCells (msg_at _ _ zero17) u))
          have HX : Below wr.heap.size wr w61 := by rw [hg]; exact (below_alloc _ _).trans (below_setCells _ _ (Nat.le_refl _) _ _ _)
          have H61 := below_step HX hBi
          clear hg HX
          refine (KO.out _).mono ?_
          rintro e w62 ⟨rfl, hb62⟩
          have m62_0 : Hid (MsgAt w62 (wr.heap.size) u) := Lib.hid (m61_0.out.below hb62)
          have H62 := H61.trans (hb62.mono H61.size)
          clear hb62 H61
          clear m61_0
          go_wp2_with ((refine wpList_load_mid (by exact rfl) 46 _ (by exact rfl) _ _ (by exact rfl) (msgL u) _ (by exact range_msg (m62_0.out.below (below_alloc _ _))) Try.underlying46 (by exact rfl) (by kernel_rfl) ?_))
          refine (RO.out _).mono ?_
          rintro e w63 ⟨rfl, hb63⟩
          have m63_0 : Hid (MsgAt w63 (wr.heap.size) u) := Lib.hid ((m62_0.out.below (below_alloc _ _)).below hb63)
          have hz63_0 : w62.heap.size < w63.heap.size := by have := hb63.size; simp at this; omega
          have s63_0_0 : w63.cell? ⟨w62.heap.size, 0, none⟩ = some (.int .i64 ao) := (hb63.cell (p := ⟨w62.heap.size, 0, none⟩) (by simp <;> omega)).trans (by go_simp)
          have s63_0_1 : w63.cell? ⟨w62.heap.size, 1, none⟩ = some (.int .i64 ac) := (hb63.cell (p := ⟨w62.heap.size, 1, none⟩) (by simp <;> omega)).trans (by go_simp)
          have s63_0_2 : w63.cell? ⟨w62.heap.size, 2, none⟩ = some (.int .i64 ap) := (hb63.cell (p := ⟨w62.heap.size, 2, none⟩) (by simp <;> omega)).trans (by go_simp)
          have H63 : Below w41.heap.size w41 w63 := (H62.alloc H62.size _).trans (hb63.mono (by have := H62.size; simp <;> omega))
          clear hb63 H62
          clear m62_0
          go_wp2
          go_roundw
          case rel => exact ⟨j + 1, by omega, by rw [Int.natCast_succ], (H63.alloc H63.size _)⟩
          case measure => simp [intOf]; omega
        · have hge : ¬ (j : Int) < 2 := by omega
          go_wp2
          go_ret
          exact ⟨rfl, H41.trans (hBi.mono H41.size)⟩
theorem plaw3_walk2 (o c p x y z dom sid sport seq m0 m1 m2 m3 m4 m5 m6 m7 m8 m9 m10 m11 m12 m13 m14 m15 m16 kd dm co ti id ot po sq st pp r0 r1 r2 r3 va : Int) (hkd : 0 ≤ kd ∧ kd ≤ 255) (w : World) : Calls Try.prog 5 #[.agg #[.int .i64 o, .int .i64 c, .int .i64 p], .agg #[.int .i64 x, .int .i64 y, .int .i32 z], .int .i64 dom, .agg #[.int .i64 sid, .int .i64 sport], .int .i64 seq, .agg #[.int .i64 m0, .int .i64 m1, .int .i64 m2, .int .i64 m3, .int .i64 m4, .int .i64 m5, .int .i64 m6, .int .i64 m7, .int .i64 m8, .int .i64 m9, .int .i64 m10, .int .i64 m11, .int .i64 m12, .int .i64 m13, .int .i64 m14, .int .i64 m15, .int .i64 m16], .agg #[.int .u8 kd, .int .u8 dm, .int .i64 co, .int .i64 ti, .int .u64 id, .int .u64 ot, .int .u16 po, .int .u16 sq, .int .u16 st, .int .i32 pp, .int .u8 r0, .int .u8 r1, .int .u8 r2, .int .u8 r3, .int .u16 va]] w fun e w' => e = .returned (.bool true) ∧ Below w.heap.size w w' :=
  plaw3_walk o c p x y z dom sid sport seq (fun j => [m0, m1, m2, m3, m4, m5, m6, m7, m8, m9, m10, m11, m12, m13, m14, m15, m16].getD j 0) kd dm co ti id ot po sq st pp r0 r1 r2 r3 va hkd w
end Go.Proofs.Ytgdagfiebaebbaa
