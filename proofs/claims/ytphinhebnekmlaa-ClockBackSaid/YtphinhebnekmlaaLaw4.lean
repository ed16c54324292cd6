/- ClockBack, ClockDrifts: the walks of the laws. -/
import Derived.Test.YtphinhebnekmlaaOut09
namespace Go.Proofs.Ytphinhebnekmlaa
open Go.RowKit Go.Shelf

set_option maxRecDepth 100000 in
set_option maxHeartbeats 1000000 in
theorem law4_walk (x y at' : Int) (w : World) :
    Calls Try.prog 6 #[.agg #[.int .i64 x, .int .i32 y], .int .i64 at'] w fun e w' => e = .returned (.bool true) ∧ Below w.heap.size w w' := by
  have HD := Lib.hid fun w => draft_any x y w
  have ho := okD x y
  have HT := Lib.hid fun w => time_any at' w
  obtain ⟨t0, t1⟩ := timeV_bd at'
  generalize dO x = o at *
  generalize dP y = p at *
  generalize timeV at' = t at *
  obtain ⟨k, hk⟩ := first_ex (atC o p t) ho
  obtain ⟨b1, b2, b3⟩ := back_law ho t0 t1 hk
  have L1 := Lib.hid fun w => Calls.at2 (local_any o p t w) (loc_ok ho ((inT_iff t).2 ⟨t0, t1⟩)).1 (loc_ok ho ((inT_iff t).2 ⟨t0, t1⟩)).2
  have L2 := Lib.hid fun w => Calls.at2 (true_any o p (atC o p t) k w (fun _ => hk)) (tru_ok ho (by omega)).1 (tru_ok ho (by omega)).2
  have ik : inT k = true := (inT_iff k).2 ⟨by omega, by omega⟩
  have L3 := Lib.hid fun w => Calls.at2 (local_any o p k w) ((loc_ok ho ik).1.trans b2.symm) (loc_ok ho ik).2
  have L4 : Hid (k ≠ 0 → ∀ w, Calls Try.prog 12 #[.agg #[.int .i64 o, .int .i64 p], .int .i64 ((k : Int) - 1)] w fun e w' => e = .returned (.tuple #[.int .i64 (atC o p ((k : Int) - 1)), .int .i64 0]) ∧ Below w.heap.size w w') := Lib.hid fun hz w =>
    have ik1 : inT ((k : Int) - 1) = true := (inT_iff _).2 ⟨by omega, by omega⟩
    Calls.at2 (local_any o p ((k : Int) - 1) w) (loc_ok ho ik1).1 (loc_ok ho ik1).2
  have hlim := atC_lim ho t0 t1
  have hkn : (k : Int) ≤ 1099511627776 := by omega
  clear hk ho b2
  generalize atC o p t = l at *
  generalize atC o p ((k : Int) - 1) = m at *
  go_enter Try.func6, Try.ntmps6
  go_wp2_with fail
  refine (works09 _).mono ?_
  rintro e w1 ⟨rfl, hb1⟩
  have H1 : Below w.heap.size w w1 := ((Below.refl _ _).alloc (Nat.le_refl _) _).trans (hb1.mono (by simp <;> omega))
  have hz : w.heap.size < w1.heap.size := by have := hb1.size; simp at this; omega
  have k1 : w1.cell? ⟨w.heap.size, 0, none⟩ = some (.int .i64 x) := (hb1.cell (p := ⟨w.heap.size, 0, none⟩) (by simp)).trans (by go_simp)
  have k2 : w1.cell? ⟨w.heap.size, 1, none⟩ = some (.int .i32 y) := (hb1.cell (p := ⟨w.heap.size, 1, none⟩) (by simp)).trans (by go_simp)
  clear hb1
  go_wp2_with fail
  refine (HD.out _).mono ?_
  rintro e w2 ⟨rfl, hb2⟩
  have H2 := H1.trans (hb2.mono H1.size)
  clear k1 k2
  go_wp2_with fail
  refine (HT.out _).mono ?_
  rintro e w2' ⟨rfl, rfl⟩
  go_wp2_with fail
  refine (L1.out _).mono ?_
  rintro e w3 ⟨rfl, hb3⟩
  have hz3 : w2'.heap.size < w3.heap.size := by have := hb3.size; simp at this; omega
  have j1 : w3.cell? ⟨w2'.heap.size, 0, none⟩ = some (.int .i64 o) := (hb3.cell (p := ⟨w2'.heap.size, 0, none⟩) (by simp)).trans (by go_simp)
  have j2 : w3.cell? ⟨w2'.heap.size, 1, none⟩ = some (.int .i64 p) := (hb3.cell (p := ⟨w2'.heap.size, 1, none⟩) (by simp)).trans (by go_simp)
  have H3 := (H2.alloc H2.size (.cells #[.int .i64 o, .int .i64 p] 23)).trans (hb3.mono (by have := H2.size; simp; omega))
  clear hb3
  go_wp2_with fail
  refine (L2.out _).mono ?_
  rintro e w4 ⟨rfl, hb4⟩
  have H4 := H3.trans (hb4.mono H3.size)
  have hz4 := Nat.lt_of_lt_of_le hz3 hb4.size
  have i1 := (hb4.cell (p := ⟨w2'.heap.size, 0, none⟩) hz3).trans j1
  have i2 := (hb4.cell (p := ⟨w2'.heap.size, 1, none⟩) hz3).trans j2
  clear hb4 j1 j2
  go_wp2_with fail
  refine (L3.out _).mono ?_
  rintro e w5 ⟨rfl, hb5⟩
  have H5 := H4.trans (hb5.mono H4.size)
  have hz5 := Nat.lt_of_lt_of_le hz4 hb5.size
  have j1 := (hb5.cell (p := ⟨w2'.heap.size, 0, none⟩) hz4).trans i1
  have j2 := (hb5.cell (p := ⟨w2'.heap.size, 1, none⟩) hz4).trans i2
  clear hb5 i1 i2
  have c1 : ¬ t < (k : Int) := by omega
  have c2 : ¬ (k : Int) < 0 := by omega
  have c3 : ¬ l < l := by omega
  by_cases hk0 : k = 0
  · subst hk0
    go_wp2
    go_ret
    exact ⟨rfl, H5⟩
  · have hk1 : (((k : Int)) == 0) = false := by rw [beq_eq_false_iff_ne]; omega
    have b4 := b3 hk0
    have L4' := Lib.hid (L4.out hk0)
    clear b3 hk0
    go_wp2_with fail
    refine (L4'.out _).mono ?_
    rintro e w6 ⟨rfl, hb6⟩
    go_wp2
    go_ret
    exact ⟨rfl, H5.trans (hb6.mono H5.size)⟩
end Go.Proofs.Ytphinhebnekmlaa
