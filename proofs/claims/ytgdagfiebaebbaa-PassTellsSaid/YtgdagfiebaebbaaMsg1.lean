/- The package pass: Message and Of: what they compute; the reference's Message and Of are in the next text. -/
import Derived.Test.YtgdagfiebaebbaaChk2
namespace Go.Proofs.Ytgdagfiebaebbaa
open Go.RowKit

theorem chkM_two (v : Nat → Int) : chkM v = 0 ∨ chkM v = 200 := by
  unfold chkM
  split
  · exact .inr rfl
  · split
    · exact .inl rfl
    · exact .inr rfl
/-- The message that carries information. -/
def mk8 (o c p dom sid sport seq : Int) : Nat → Int
  | 0 => 8
  | 1 => dom
  | 2 => c
  | 3 => sid
  | 4 => sport
  | 5 => seq
  | 6 => o
  | 7 => p
  | _ => 0
def zero17 : Nat → Int := fun _ => 0
structure ResM where
  m : Nat → Int
  e : Int
def mmV (o c p dom sid sport seq : Int) : ResM := if okI o c p = false then ⟨zero17, 240⟩ else if chkM (mk8 o c p dom sid sport seq) = 0 then ⟨mk8 o c p dom sid sport seq, 0⟩ else ⟨zero17, 200⟩
def ofV (v : Nat → Int) : Res := if chkM v = 0 then (if v 0 = 8 then ⟨v 6, v 2, v 7, 0⟩ else ⟨0, 0, 0, 200⟩) else ⟨0, 0, 0, 200⟩
set_option maxRecDepth 100000 in
set_option maxHeartbeats 4000000 in
theorem pof_any (v : Nat → Int) (w : World) : Calls Try.prog 24 #[msgV v] w fun e w' => e = .returned (.tuple #[(ofV v).info, .int .i64 (ofV v).e]) ∧ Below w.heap.size w w' := by
  have KM := Lib.hid fun w => pchk_any v w
  unfold msgV at KM ⊢
  by_cases h : chkM v = 0
  · rw [h] at KM
    by_cases h8 : v 0 = 8
    · have e0 : ofV v = ⟨v 6, v 2, v 7, 0⟩ := by unfold ofV; rw [if_pos h, if_pos h8]
      rw [e0]
      unfold Res.info
      dsimp only
      rw [h8] at KM ⊢
      clear h e0 h8
      go_enter Try.func24, Try.ntmps24
      go_wp2_with fail
      refine (KM.out _).mono ?_
      rintro e w1 ⟨rfl, hb1⟩
      have hz1_0 : w.heap.size < w1.heap.size := by have := hb1.size; simp at this; omega
      have s1_0_0 : w1.cell? ⟨w.heap.size, 0, none⟩ = some (.int .i64 8) := (hb1.cell (p := ⟨w.heap.size, 0, none⟩) (by simp <;> omega)).trans (by go_simp)
      have s1_0_1 : w1.cell? ⟨w.heap.size, 1, none⟩ = some (.int .i64 (v 1)) := (hb1.cell (p := ⟨w.heap.size, 1, none⟩) (by simp <;> omega)).trans (by go_simp)
      have s1_0_2 : w1.cell? ⟨w.heap.size, 2, none⟩ = some (.int .i64 (v 2)) := (hb1.cell (p := ⟨w.heap.size, 2, none⟩) (by simp <;> omega)).trans (by go_simp)
      have s1_0_3 : w1.cell? ⟨w.heap.size, 3, none⟩ = some (.int .i64 (v 3)) := (hb1.cell (p := ⟨w.heap.size, 3, none⟩) (by simp <;> omega)).trans (by go_simp)
      have s1_0_4 : w1.cell? ⟨w.heap.size, 4, none⟩ = some (.int .i64 (v 4)) := (hb1.cell (p := ⟨w.heap.size, 4, none⟩) (by simp <;> omega)).trans (by go_simp)
      have s1_0_5 : w1.cell? ⟨w.heap.size, 5, none⟩ = some (.int .i64 (v 5)) := (hb1.cell (p := ⟨w.heap.size, 5, none⟩) (by simp <;> omega)).trans (by go_simp)
      have s1_0_6 : w1.cell? ⟨w.heap.size, 6, none⟩ = some (.int .i64 (v 6)) := (hb1.cell (p := ⟨w.heap.size, 6, none⟩) (by simp <;> omega)).trans (by go_simp)
      have s1_0_7 : w1.cell? ⟨w.heap.size, 7, none⟩ = some (.int .i64 (v 7)) := (hb1.cell (p := ⟨w.heap.size, 7, none⟩) (by simp <;> omega)).trans (by go_simp)
      have s1_0_8 : w1.cell? ⟨w.heap.size, 8, none⟩ = some (.int .i64 (v 8)) := (hb1.cell (p := ⟨w.heap.size, 8, none⟩) (by simp <;> omega)).trans (by go_simp)
      have s1_0_9 : w1.cell? ⟨w.heap.size, 9, none⟩ = some (.int .i64 (v 9)) := (hb1.cell (p := ⟨w.heap.size, 9, none⟩) (by simp <;> omega)).trans (by go_simp)
      have s1_0_10 : w1.cell? ⟨w.heap.size, 10, none⟩ = some (.int .i64 (v 10)) := (hb1.cell (p := ⟨w.heap.size, 10, none⟩) (by simp <;> omega)).trans (by go_simp)
      have s1_0_11 : w1.cell? ⟨w.heap.size, 11, none⟩ = some (.int .i64 (v 11)) := (hb1.cell (p := ⟨w.heap.size, 11, none⟩) (by simp <;> omega)).trans (by go_simp)
      have s1_0_12 : w1.cell? ⟨w.heap.size, 12, none⟩ = some (.int .i64 (v 12)) := (hb1.cell (p := ⟨w.heap.size, 12, none⟩) (by simp <;> omega)).trans (by go_simp)
      have s1_0_13 : w1.cell? ⟨w.heap.size, 13, none⟩ = some (.int .i64 (v 13)) := (hb1.cell (p := ⟨w.heap.size, 13, none⟩) (by simp <;> omega)).trans (by go_simp)
      have s1_0_14 : w1.cell? ⟨w.heap.size, 14, none⟩ = some (.int .i64 (v 14)) := (hb1.cell (p := ⟨w.heap.size, 14, none⟩) (by simp <;> omega)).trans (by go_simp)
      have s1_0_15 : w1.cell? ⟨w.heap.size, 15, none⟩ = some (.int .i64 (v 15)) := (hb1.cell (p := ⟨w.heap.size, 15, none⟩) (by simp <;> omega)).trans (by go_simp)
      have s1_0_16 : w1.cell? ⟨w.heap.size, 16, none⟩ = some (.int .i64 (v 16)) := (hb1.cell (p := ⟨w.heap.size, 16, none⟩) (by simp <;> omega)).trans (by go_simp)
      have hz1_1 : w.heap.size + 1 < w1.heap.size := by have := hb1.size; simp at this; omega
      have s1_1_0 : w1.cell? ⟨w.heap.size + 1, 0, none⟩ = some (.int .i64 0) := (hb1.cell (p := ⟨w.heap.size + 1, 0, none⟩) (by simp <;> omega)).trans (by go_simp)
      have s1_1_1 : w1.cell? ⟨w.heap.size + 1, 1, none⟩ = some (.int .i64 0) := (hb1.cell (p := ⟨w.heap.size + 1, 1, none⟩) (by simp <;> omega)).trans (by go_simp)
      have s1_1_2 : w1.cell? ⟨w.heap.size + 1, 2, none⟩ = some (.int .i64 0) := (hb1.cell (p := ⟨w.heap.size + 1, 2, none⟩) (by simp <;> omega)).trans (by go_simp)
      have z1_1_0 : w1.frozen? ⟨w.heap.size + 1, 0, none⟩ = false := (hb1.frozen (p := ⟨w.heap.size + 1, 0, none⟩) (by simp <;> omega)).trans (by go_simp)
      have z1_1_1 : w1.frozen? ⟨w.heap.size + 1, 1, none⟩ = false := (hb1.frozen (p := ⟨w.heap.size + 1, 1, none⟩) (by simp <;> omega)).trans (by go_simp)
      have z1_1_2 : w1.frozen? ⟨w.heap.size + 1, 2, none⟩ = false := (hb1.frozen (p := ⟨w.heap.size + 1, 2, none⟩) (by simp <;> omega)).trans (by go_simp)
      have H1 : Below w.heap.size w w1 := (((Below.refl _ _).alloc (Nat.le_refl _) _).alloc (by simp <;> omega) _).trans (hb1.mono (by simp <;> omega))
      clear hb1
      go_wp2
      refine bodyPost_ret (v := .tuple #[.agg #[.int .i64 (v 6), .int .i64 (v 2), .int .i64 (v 7)], .int .i64 0]) (by simp [results, Try.results24, go_sem, s1_1_0, s1_1_1, s1_1_2]) rfl ⟨rfl, ?_⟩
      exact (((H1.setCell (by simp <;> omega) _).setCell (by simp <;> omega) _).setCell (by simp <;> omega) _)
    · have e0 : ofV v = ⟨0, 0, 0, 200⟩ := by unfold ofV; rw [if_pos h, if_neg h8]
      rw [e0]
      unfold Res.info
      dsimp only
      clear h e0
      go_enter Try.func24, Try.ntmps24
      go_wp2_with fail
      refine (KM.out _).mono ?_
      rintro e w1 ⟨rfl, hb1⟩
      have hz1_0 : w.heap.size < w1.heap.size := by have := hb1.size; simp at this; omega
      have s1_0_0 : w1.cell? ⟨w.heap.size, 0, none⟩ = some (.int .i64 (v 0)) := (hb1.cell (p := ⟨w.heap.size, 0, none⟩) (by simp <;> omega)).trans (by go_simp)
      have s1_0_1 : w1.cell? ⟨w.heap.size, 1, none⟩ = some (.int .i64 (v 1)) := (hb1.cell (p := ⟨w.heap.size, 1, none⟩) (by simp <;> omega)).trans (by go_simp)
      have s1_0_2 : w1.cell? ⟨w.heap.size, 2, none⟩ = some (.int .i64 (v 2)) := (hb1.cell (p := ⟨w.heap.size, 2, none⟩) (by simp <;> omega)).trans (by go_simp)
      have s1_0_3 : w1.cell? ⟨w.heap.size, 3, none⟩ = some (.int .i64 (v 3)) := (hb1.cell (p := ⟨w.heap.size, 3, none⟩) (by simp <;> omega)).trans (by go_simp)
      have s1_0_4 : w1.cell? ⟨w.heap.size, 4, none⟩ = some (.int .i64 (v 4)) := (hb1.cell (p := ⟨w.heap.size, 4, none⟩) (by simp <;> omega)).trans (by go_simp)
      have s1_0_5 : w1.cell? ⟨w.heap.size, 5, none⟩ = some (.int .i64 (v 5)) := (hb1.cell (p := ⟨w.heap.size, 5, none⟩) (by simp <;> omega)).trans (by go_simp)
      have s1_0_6 : w1.cell? ⟨w.heap.size, 6, none⟩ = some (.int .i64 (v 6)) := (hb1.cell (p := ⟨w.heap.size, 6, none⟩) (by simp <;> omega)).trans (by go_simp)
      have s1_0_7 : w1.cell? ⟨w.heap.size, 7, none⟩ = some (.int .i64 (v 7)) := (hb1.cell (p := ⟨w.heap.size, 7, none⟩) (by simp <;> omega)).trans (by go_simp)
      have s1_0_8 : w1.cell? ⟨w.heap.size, 8, none⟩ = some (.int .i64 (v 8)) := (hb1.cell (p := ⟨w.heap.size, 8, none⟩) (by simp <;> omega)).trans (by go_simp)
      have s1_0_9 : w1.cell? ⟨w.heap.size, 9, none⟩ = some (.int .i64 (v 9)) := (hb1.cell (p := ⟨w.heap.size, 9, none⟩) (by simp <;> omega)).trans (by go_simp)
      have s1_0_10 : w1.cell? ⟨w.heap.size, 10, none⟩ = some (.int .i64 (v 10)) := (hb1.cell (p := ⟨w.heap.size, 10, none⟩) (by simp <;> omega)).trans (by go_simp)
      have s1_0_11 : w1.cell? ⟨w.heap.size, 11, none⟩ = some (.int .i64 (v 11)) := (hb1.cell (p := ⟨w.heap.size, 11, none⟩) (by simp <;> omega)).trans (by go_simp)
      have s1_0_12 : w1.cell? ⟨w.heap.size, 12, none⟩ = some (.int .i64 (v 12)) := (hb1.cell (p := ⟨w.heap.size, 12, none⟩) (by simp <;> omega)).trans (by go_simp)
      have s1_0_13 : w1.cell? ⟨w.heap.size, 13, none⟩ = some (.int .i64 (v 13)) := (hb1.cell (p := ⟨w.heap.size, 13, none⟩) (by simp <;> omega)).trans (by go_simp)
      have s1_0_14 : w1.cell? ⟨w.heap.size, 14, none⟩ = some (.int .i64 (v 14)) := (hb1.cell (p := ⟨w.heap.size, 14, none⟩) (by simp <;> omega)).trans (by go_simp)
      have s1_0_15 : w1.cell? ⟨w.heap.size, 15, none⟩ = some (.int .i64 (v 15)) := (hb1.cell (p := ⟨w.heap.size, 15, none⟩) (by simp <;> omega)).trans (by go_simp)
      have s1_0_16 : w1.cell? ⟨w.heap.size, 16, none⟩ = some (.int .i64 (v 16)) := (hb1.cell (p := ⟨w.heap.size, 16, none⟩) (by simp <;> omega)).trans (by go_simp)
      have hz1_1 : w.heap.size + 1 < w1.heap.size := by have := hb1.size; simp at this; omega
      have s1_1_0 : w1.cell? ⟨w.heap.size + 1, 0, none⟩ = some (.int .i64 0) := (hb1.cell (p := ⟨w.heap.size + 1, 0, none⟩) (by simp <;> omega)).trans (by go_simp)
      have s1_1_1 : w1.cell? ⟨w.heap.size + 1, 1, none⟩ = some (.int .i64 0) := (hb1.cell (p := ⟨w.heap.size + 1, 1, none⟩) (by simp <;> omega)).trans (by go_simp)
      have s1_1_2 : w1.cell? ⟨w.heap.size + 1, 2, none⟩ = some (.int .i64 0) := (hb1.cell (p := ⟨w.heap.size + 1, 2, none⟩) (by simp <;> omega)).trans (by go_simp)
      have z1_1_0 : w1.frozen? ⟨w.heap.size + 1, 0, none⟩ = false := (hb1.frozen (p := ⟨w.heap.size + 1, 0, none⟩) (by simp <;> omega)).trans (by go_simp)
      have z1_1_1 : w1.frozen? ⟨w.heap.size + 1, 1, none⟩ = false := (hb1.frozen (p := ⟨w.heap.size + 1, 1, none⟩) (by simp <;> omega)).trans (by go_simp)
      have z1_1_2 : w1.frozen? ⟨w.heap.size + 1, 2, none⟩ = false := (hb1.frozen (p := ⟨w.heap.size + 1, 2, none⟩) (by simp <;> omega)).trans (by go_simp)
      have H1 : Below w.heap.size w w1 := (((Below.refl _ _).alloc (Nat.le_refl _) _).alloc (by simp <;> omega) _).trans (hb1.mono (by simp <;> omega))
      clear hb1
      go_wp2
      refine bodyPost_ret (v := .tuple #[.agg #[.int .i64 0, .int .i64 0, .int .i64 0], .int .i64 200]) (by simp [results, Try.results24, go_sem, s1_1_0, s1_1_1, s1_1_2]) rfl ⟨rfl, ?_⟩
      exact (((H1.setCell (by simp <;> omega) _).setCell (by simp <;> omega) _).setCell (by simp <;> omega) _)
  · have h2 := (chkM_two v).resolve_left h
    rw [h2] at KM
    have e0 : ofV v = ⟨0, 0, 0, 200⟩ := by unfold ofV; rw [if_neg h]
    rw [e0]
    unfold Res.info
    dsimp only
    clear h h2 e0
    go_enter Try.func24, Try.ntmps24
    go_wp2_with fail
    refine (KM.out _).mono ?_
    rintro e w1 ⟨rfl, hb1⟩
    have hz1_0 : w.heap.size < w1.heap.size := by have := hb1.size; simp at this; omega
    have s1_0_0 : w1.cell? ⟨w.heap.size, 0, none⟩ = some (.int .i64 (v 0)) := (hb1.cell (p := ⟨w.heap.size, 0, none⟩) (by simp <;> omega)).trans (by go_simp)
    have s1_0_1 : w1.cell? ⟨w.heap.size, 1, none⟩ = some (.int .i64 (v 1)) := (hb1.cell (p := ⟨w.heap.size, 1, none⟩) (by simp <;> omega)).trans (by go_simp)
    have s1_0_2 : w1.cell? ⟨w.heap.size, 2, none⟩ = some (.int .i64 (v 2)) := (hb1.cell (p := ⟨w.heap.size, 2, none⟩) (by simp <;> omega)).trans (by go_simp)
    have s1_0_3 : w1.cell? ⟨w.heap.size, 3, none⟩ = some (.int .i64 (v 3)) := (hb1.cell (p := ⟨w.heap.size, 3, none⟩) (by simp <;> omega)).trans (by go_simp)
    have s1_0_4 : w1.cell? ⟨w.heap.size, 4, none⟩ = some (.int .i64 (v 4)) := (hb1.cell (p := ⟨w.heap.size, 4, none⟩) (by simp <;> omega)).trans (by go_simp)
    have s1_0_5 : w1.cell? ⟨w.heap.size, 5, none⟩ = some (.int .i64 (v 5)) := (hb1.cell (p := ⟨w.heap.size, 5, none⟩) (by simp <;> omega)).trans (by go_simp)
    have s1_0_6 : w1.cell? ⟨w.heap.size, 6, none⟩ = some (.int .i64 (v 6)) := (hb1.cell (p := ⟨w.heap.size, 6, none⟩) (by simp <;> omega)).trans (by go_simp)
    have s1_0_7 : w1.cell? ⟨w.heap.size, 7, none⟩ = some (.int .i64 (v 7)) := (hb1.cell (p := ⟨w.heap.size, 7, none⟩) (by simp <;> omega)).trans (by go_simp)
    have s1_0_8 : w1.cell? ⟨w.heap.size, 8, none⟩ = some (.int .i64 (v 8)) := (hb1.cell (p := ⟨w.heap.size, 8, none⟩) (by simp <;> omega)).trans (by go_simp)
    have s1_0_9 : w1.cell? ⟨w.heap.size, 9, none⟩ = some (.int .i64 (v 9)) := (hb1.cell (p := ⟨w.heap.size, 9, none⟩) (by simp <;> omega)).trans (by go_simp)
    have s1_0_10 : w1.cell? ⟨w.heap.size, 10, none⟩ = some (.int .i64 (v 10)) := (hb1.cell (p := ⟨w.heap.size, 10, none⟩) (by simp <;> omega)).trans (by go_simp)
    have s1_0_11 : w1.cell? ⟨w.heap.size, 11, none⟩ = some (.int .i64 (v 11)) := (hb1.cell (p := ⟨w.heap.size, 11, none⟩) (by simp <;> omega)).trans (by go_simp)
    have s1_0_12 : w1.cell? ⟨w.heap.size, 12, none⟩ = some (.int .i64 (v 12)) := (hb1.cell (p := ⟨w.heap.size, 12, none⟩) (by simp <;> omega)).trans (by go_simp)
    have s1_0_13 : w1.cell? ⟨w.heap.size, 13, none⟩ = some (.int .i64 (v 13)) := (hb1.cell (p := ⟨w.heap.size, 13, none⟩) (by simp <;> omega)).trans (by go_simp)
    have s1_0_14 : w1.cell? ⟨w.heap.size, 14, none⟩ = some (.int .i64 (v 14)) := (hb1.cell (p := ⟨w.heap.size, 14, none⟩) (by simp <;> omega)).trans (by go_simp)
    have s1_0_15 : w1.cell? ⟨w.heap.size, 15, none⟩ = some (.int .i64 (v 15)) := (hb1.cell (p := ⟨w.heap.size, 15, none⟩) (by simp <;> omega)).trans (by go_simp)
    have s1_0_16 : w1.cell? ⟨w.heap.size, 16, none⟩ = some (.int .i64 (v 16)) := (hb1.cell (p := ⟨w.heap.size, 16, none⟩) (by simp <;> omega)).trans (by go_simp)
    have hz1_1 : w.heap.size + 1 < w1.heap.size := by have := hb1.size; simp at this; omega
    have s1_1_0 : w1.cell? ⟨w.heap.size + 1, 0, none⟩ = some (.int .i64 0) := (hb1.cell (p := ⟨w.heap.size + 1, 0, none⟩) (by simp <;> omega)).trans (by go_simp)
    have s1_1_1 : w1.cell? ⟨w.heap.size + 1, 1, none⟩ = some (.int .i64 0) := (hb1.cell (p := ⟨w.heap.size + 1, 1, none⟩) (by simp <;> omega)).trans (by go_simp)
    have s1_1_2 : w1.cell? ⟨w.heap.size + 1, 2, none⟩ = some (.int .i64 0) := (hb1.cell (p := ⟨w.heap.size + 1, 2, none⟩) (by simp <;> omega)).trans (by go_simp)
    have z1_1_0 : w1.frozen? ⟨w.heap.size + 1, 0, none⟩ = false := (hb1.frozen (p := ⟨w.heap.size + 1, 0, none⟩) (by simp <;> omega)).trans (by go_simp)
    have z1_1_1 : w1.frozen? ⟨w.heap.size + 1, 1, none⟩ = false := (hb1.frozen (p := ⟨w.heap.size + 1, 1, none⟩) (by simp <;> omega)).trans (by go_simp)
    have z1_1_2 : w1.frozen? ⟨w.heap.size + 1, 2, none⟩ = false := (hb1.frozen (p := ⟨w.heap.size + 1, 2, none⟩) (by simp <;> omega)).trans (by go_simp)
    have H1 : Below w.heap.size w w1 := (((Below.refl _ _).alloc (Nat.le_refl _) _).alloc (by simp <;> omega) _).trans (hb1.mono (by simp <;> omega))
    clear hb1
    go_wp2
    refine bodyPost_ret (v := .tuple #[.agg #[.int .i64 0, .int .i64 0, .int .i64 0], .int .i64 200]) (by simp [results, Try.results24, go_sem, s1_1_0, s1_1_1, s1_1_2]) rfl ⟨rfl, ?_⟩
    exact (((H1.setCell (by simp <;> omega) _).setCell (by simp <;> omega) _).setCell (by simp <;> omega) _)
end Go.Proofs.Ytgdagfiebaebbaa
