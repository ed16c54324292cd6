/- The reference of layer 10: Right. -/
import Derived.Test.YtgdagfiebaebbaaRf1
namespace Go.Proofs.Ytgdagfiebaebbaa
open Go.RowKit

def right3 (d c sid sp sq t p rid rp m0 m1 m2 m3 m4 m5 st : Int) : Bool := ((inB 0 127 d) && ((inB (-4398046511104) 4398046511104 c) && ((portB sid sp) && ((inB 0 65535 sq) && ((inB (-4398046511104) 4398046511104 t) && ((p == 0) && ((portB rid rp) && (((m0 == 0 && (m1 == 0 && (m2 == 0 && (m3 == 0 && (m4 == 0 && m5 == 0)))))) && (st == 0)))))))))
set_option maxRecDepth 100000 in
set_option maxHeartbeats 4000000 in
theorem rright_3 (d c sid sp sq t p rid rp m0 m1 m2 m3 m4 m5 st : Int) (w : World) : Calls Try.prog 47 #[.agg #[.int .i64 3, .int .i64 d, .int .i64 c, .int .i64 sid, .int .i64 sp, .int .i64 sq, .int .i64 t, .int .i64 p, .int .i64 rid, .int .i64 rp, .int .i64 m0, .int .i64 m1, .int .i64 m2, .int .i64 m3, .int .i64 m4, .int .i64 m5, .int .i64 st]] w fun e w' => e = .returned (.bool (right3 d c sid sp sq t p rid rp m0 m1 m2 m3 m4 m5 st)) ∧ Below w.heap.size w w' := by
  unfold right3
  have KS := Lib.hid fun w => rsize_3 w
  have K0 := Lib.hid fun w => rin_any d 0 127 w
  have K1 := Lib.hid fun w => rin_any c (-4398046511104) 4398046511104 w
  have K2 := Lib.hid fun w => rport_any sid sp w
  have K3 := Lib.hid fun w => rin_any sq 0 65535 w
  have K4 := Lib.hid fun w => rin_any t (-4398046511104) 4398046511104 w
  have K5 := Lib.hid fun w => rin_any 0 (-8388608) 8388608 w
  rw [show inB (-8388608) 8388608 0 = true from rfl] at K5
  have K6 := Lib.hid fun w => rport_any rid rp w
  have Q7 := fun W => master_zero m0 m1 m2 m3 m4 m5 W
  generalize (inB 0 127 d) = x0 at *
  generalize (inB (-4398046511104) 4398046511104 c) = x1 at *
  generalize (portB sid sp) = x2 at *
  generalize (inB 0 65535 sq) = x3 at *
  generalize (inB (-4398046511104) 4398046511104 t) = x4 at *
  generalize (portB rid rp) = x6 at *
  generalize (m0 == 0 && (m1 == 0 && (m2 == 0 && (m3 == 0 && (m4 == 0 && m5 == 0))))) = x7 at *
  obtain ⟨x5, q5⟩ : ∃ x, x = (p == 0) := ⟨_, rfl⟩
  rw [← q5]
  obtain ⟨x8, q8⟩ : ∃ x, x = (st == 0) := ⟨_, rfl⟩
  rw [← q8]
  go_enter Try.func47, Try.ntmps47
  go_wp2_with fail
  refine (KS.out _).mono ?_
  rintro e w1' ⟨rfl, rfl⟩
  cases x0
  · go_wp2_with fail
    refine (K0.out _).mono ?_
    rintro e w1' ⟨rfl, rfl⟩
    go_wp2
    go_ret
    exact ⟨rfl, ((Below.refl _ _).alloc (Nat.le_refl _) _)⟩
  · go_wp2_with fail
    refine (K0.out _).mono ?_
    rintro e w1' ⟨rfl, rfl⟩
    cases x1
    · go_wp2_with fail
      refine (K1.out _).mono ?_
      rintro e w1' ⟨rfl, rfl⟩
      go_wp2
      go_ret
      exact ⟨rfl, ((Below.refl _ _).alloc (Nat.le_refl _) _)⟩
    · go_wp2_with fail
      refine (K1.out _).mono ?_
      rintro e w1' ⟨rfl, rfl⟩
      cases x2
      · go_wp2_with fail
        refine (K2.out _).mono ?_
        rintro e w1 ⟨rfl, hb1⟩
        have hz1_0 : w.heap.size < w1.heap.size := by have := hb1.size; simp at this; omega
        have s1_0_0 : w1.cell? ⟨w.heap.size, 0, none⟩ = some (.int .i64 3) := (hb1.cell (p := ⟨w.heap.size, 0, none⟩) (by simp <;> omega)).trans (by go_simp)
        have s1_0_1 : w1.cell? ⟨w.heap.size, 1, none⟩ = some (.int .i64 d) := (hb1.cell (p := ⟨w.heap.size, 1, none⟩) (by simp <;> omega)).trans (by go_simp)
        have s1_0_2 : w1.cell? ⟨w.heap.size, 2, none⟩ = some (.int .i64 c) := (hb1.cell (p := ⟨w.heap.size, 2, none⟩) (by simp <;> omega)).trans (by go_simp)
        have s1_0_3 : w1.cell? ⟨w.heap.size, 3, none⟩ = some (.int .i64 sid) := (hb1.cell (p := ⟨w.heap.size, 3, none⟩) (by simp <;> omega)).trans (by go_simp)
        have s1_0_4 : w1.cell? ⟨w.heap.size, 4, none⟩ = some (.int .i64 sp) := (hb1.cell (p := ⟨w.heap.size, 4, none⟩) (by simp <;> omega)).trans (by go_simp)
        have s1_0_5 : w1.cell? ⟨w.heap.size, 5, none⟩ = some (.int .i64 sq) := (hb1.cell (p := ⟨w.heap.size, 5, none⟩) (by simp <;> omega)).trans (by go_simp)
        have s1_0_6 : w1.cell? ⟨w.heap.size, 6, none⟩ = some (.int .i64 t) := (hb1.cell (p := ⟨w.heap.size, 6, none⟩) (by simp <;> omega)).trans (by go_simp)
        have s1_0_7 : w1.cell? ⟨w.heap.size, 7, none⟩ = some (.int .i64 p) := (hb1.cell (p := ⟨w.heap.size, 7, none⟩) (by simp <;> omega)).trans (by go_simp)
        have s1_0_8 : w1.cell? ⟨w.heap.size, 8, none⟩ = some (.int .i64 rid) := (hb1.cell (p := ⟨w.heap.size, 8, none⟩) (by simp <;> omega)).trans (by go_simp)
        have s1_0_9 : w1.cell? ⟨w.heap.size, 9, none⟩ = some (.int .i64 rp) := (hb1.cell (p := ⟨w.heap.size, 9, none⟩) (by simp <;> omega)).trans (by go_simp)
        have s1_0_10 : w1.cell? ⟨w.heap.size, 10, none⟩ = some (.int .i64 m0) := (hb1.cell (p := ⟨w.heap.size, 10, none⟩) (by simp <;> omega)).trans (by go_simp)
        have s1_0_11 : w1.cell? ⟨w.heap.size, 11, none⟩ = some (.int .i64 m1) := (hb1.cell (p := ⟨w.heap.size, 11, none⟩) (by simp <;> omega)).trans (by go_simp)
        have s1_0_12 : w1.cell? ⟨w.heap.size, 12, none⟩ = some (.int .i64 m2) := (hb1.cell (p := ⟨w.heap.size, 12, none⟩) (by simp <;> omega)).trans (by go_simp)
        have s1_0_13 : w1.cell? ⟨w.heap.size, 13, none⟩ = some (.int .i64 m3) := (hb1.cell (p := ⟨w.heap.size, 13, none⟩) (by simp <;> omega)).trans (by go_simp)
        have s1_0_14 : w1.cell? ⟨w.heap.size, 14, none⟩ = some (.int .i64 m4) := (hb1.cell (p := ⟨w.heap.size, 14, none⟩) (by simp <;> omega)).trans (by go_simp)
        have s1_0_15 : w1.cell? ⟨w.heap.size, 15, none⟩ = some (.int .i64 m5) := (hb1.cell (p := ⟨w.heap.size, 15, none⟩) (by simp <;> omega)).trans (by go_simp)
        have s1_0_16 : w1.cell? ⟨w.heap.size, 16, none⟩ = some (.int .i64 st) := (hb1.cell (p := ⟨w.heap.size, 16, none⟩) (by simp <;> omega)).trans (by go_simp)
        have H1 : Below w.heap.size w w1 := ((Below.refl _ _).alloc (Nat.le_refl _) _).trans (hb1.mono (by simp <;> omega))
        clear hb1
        go_wp2
        go_ret
        exact ⟨rfl, H1⟩
      · go_wp2_with fail
        refine (K2.out _).mono ?_
        rintro e w1 ⟨rfl, hb1⟩
        have hz1_0 : w.heap.size < w1.heap.size := by have := hb1.size; simp at this; omega
        have s1_0_0 : w1.cell? ⟨w.heap.size, 0, none⟩ = some (.int .i64 3) := (hb1.cell (p := ⟨w.heap.size, 0, none⟩) (by simp <;> omega)).trans (by go_simp)
        have s1_0_1 : w1.cell? ⟨w.heap.size, 1, none⟩ = some (.int .i64 d) := (hb1.cell (p := ⟨w.heap.size, 1, none⟩) (by simp <;> omega)).trans (by go_simp)
        have s1_0_2 : w1.cell? ⟨w.heap.size, 2, none⟩ = some (.int .i64 c) := (hb1.cell (p := ⟨w.heap.size, 2, none⟩) (by simp <;> omega)).trans (by go_simp)
        have s1_0_3 : w1.cell? ⟨w.heap.size, 3, none⟩ = some (.int .i64 sid) := (hb1.cell (p := ⟨w.heap.size, 3, none⟩) (by simp <;> omega)).trans (by go_simp)
        have s1_0_4 : w1.cell? ⟨w.heap.size, 4, none⟩ = some (.int .i64 sp) := (hb1.cell (p := ⟨w.heap.size, 4, none⟩) (by simp <;> omega)).trans (by go_simp)
        have s1_0_5 : w1.cell? ⟨w.heap.size, 5, none⟩ = some (.int .i64 sq) := (hb1.cell (p := ⟨w.heap.size, 5, none⟩) (by simp <;> omega)).trans (by go_simp)
        have s1_0_6 : w1.cell? ⟨w.heap.size, 6, none⟩ = some (.int .i64 t) := (hb1.cell (p := ⟨w.heap.size, 6, none⟩) (by simp <;> omega)).trans (by go_simp)
        have s1_0_7 : w1.cell? ⟨w.heap.size, 7, none⟩ = some (.int .i64 p) := (hb1.cell (p := ⟨w.heap.size, 7, none⟩) (by simp <;> omega)).trans (by go_simp)
        have s1_0_8 : w1.cell? ⟨w.heap.size, 8, none⟩ = some (.int .i64 rid) := (hb1.cell (p := ⟨w.heap.size, 8, none⟩) (by simp <;> omega)).trans (by go_simp)
        have s1_0_9 : w1.cell? ⟨w.heap.size, 9, none⟩ = some (.int .i64 rp) := (hb1.cell (p := ⟨w.heap.size, 9, none⟩) (by simp <;> omega)).trans (by go_simp)
        have s1_0_10 : w1.cell? ⟨w.heap.size, 10, none⟩ = some (.int .i64 m0) := (hb1.cell (p := ⟨w.heap.size, 10, none⟩) (by simp <;> omega)).trans (by go_simp)
        have s1_0_11 : w1.cell? ⟨w.heap.size, 11, none⟩ = some (.int .i64 m1) := (hb1.cell (p := ⟨w.heap.size, 11, none⟩) (by simp <;> omega)).trans (by go_simp)
        have s1_0_12 : w1.cell? ⟨w.heap.size, 12, none⟩ = some (.int .i64 m2) := (hb1.cell (p := ⟨w.heap.size, 12, none⟩) (by simp <;> omega)).trans (by go_simp)
        have s1_0_13 : w1.cell? ⟨w.heap.size, 13, none⟩ = some (.int .i64 m3) := (hb1.cell (p := ⟨w.heap.size, 13, none⟩) (by simp <;> omega)).trans (by go_simp)
        have s1_0_14 : w1.cell? ⟨w.heap.size, 14, none⟩ = some (.int .i64 m4) := (hb1.cell (p := ⟨w.heap.size, 14, none⟩) (by simp <;> omega)).trans (by go_simp)
        have s1_0_15 : w1.cell? ⟨w.heap.size, 15, none⟩ = some (.int .i64 m5) := (hb1.cell (p := ⟨w.heap.size, 15, none⟩) (by simp <;> omega)).trans (by go_simp)
        have s1_0_16 : w1.cell? ⟨w.heap.size, 16, none⟩ = some (.int .i64 st) := (hb1.cell (p := ⟨w.heap.size, 16, none⟩) (by simp <;> omega)).trans (by go_simp)
        have H1 : Below w.heap.size w w1 := ((Below.refl _ _).alloc (Nat.le_refl _) _).trans (hb1.mono (by simp <;> omega))
        clear hb1
        cases x3
        · go_wp2_with fail
          refine (K3.out _).mono ?_
          rintro e w2' ⟨rfl, rfl⟩
          go_wp2
          go_ret
          exact ⟨rfl, H1⟩
        · go_wp2_with fail
          refine (K3.out _).mono ?_
          rintro e w2' ⟨rfl, rfl⟩
          cases x4
          · go_wp2_with fail
            refine (K4.out _).mono ?_
            rintro e w2' ⟨rfl, rfl⟩
            go_wp2
            go_ret
            exact ⟨rfl, H1⟩
          · go_wp2_with fail
            refine (K4.out _).mono ?_
            rintro e w2' ⟨rfl, rfl⟩
            cases x5
            · replace q5 := q5.symm
              have g5 : (p != 0) = true := by simp [bne, q5]
              go_wp2
              go_ret
              exact ⟨rfl, H1⟩
            · have g5 := eq_of_beq q5.symm
              clear q5
              subst g5
              go_wp2_with fail
              refine (K5.out _).mono ?_
              rintro e w2' ⟨rfl, rfl⟩
              cases x6
              · go_wp2_with fail
                refine (K6.out _).mono ?_
                rintro e w2 ⟨rfl, hb2⟩
                have hz2_0 := Nat.lt_of_lt_of_le hz1_0 hb2.size
                have s2_0_0 := (hb2.cell (p := ⟨w.heap.size, 0, none⟩) hz1_0).trans s1_0_0
                have s2_0_1 := (hb2.cell (p := ⟨w.heap.size, 1, none⟩) hz1_0).trans s1_0_1
                have s2_0_2 := (hb2.cell (p := ⟨w.heap.size, 2, none⟩) hz1_0).trans s1_0_2
                have s2_0_3 := (hb2.cell (p := ⟨w.heap.size, 3, none⟩) hz1_0).trans s1_0_3
                have s2_0_4 := (hb2.cell (p := ⟨w.heap.size, 4, none⟩) hz1_0).trans s1_0_4
                have s2_0_5 := (hb2.cell (p := ⟨w.heap.size, 5, none⟩) hz1_0).trans s1_0_5
                have s2_0_6 := (hb2.cell (p := ⟨w.heap.size, 6, none⟩) hz1_0).trans s1_0_6
                have s2_0_7 := (hb2.cell (p := ⟨w.heap.size, 7, none⟩) hz1_0).trans s1_0_7
                have s2_0_8 := (hb2.cell (p := ⟨w.heap.size, 8, none⟩) hz1_0).trans s1_0_8
                have s2_0_9 := (hb2.cell (p := ⟨w.heap.size, 9, none⟩) hz1_0).trans s1_0_9
                have s2_0_10 := (hb2.cell (p := ⟨w.heap.size, 10, none⟩) hz1_0).trans s1_0_10
                have s2_0_11 := (hb2.cell (p := ⟨w.heap.size, 11, none⟩) hz1_0).trans s1_0_11
                have s2_0_12 := (hb2.cell (p := ⟨w.heap.size, 12, none⟩) hz1_0).trans s1_0_12
                have s2_0_13 := (hb2.cell (p := ⟨w.heap.size, 13, none⟩) hz1_0).trans s1_0_13
                have s2_0_14 := (hb2.cell (p := ⟨w.heap.size, 14, none⟩) hz1_0).trans s1_0_14
                have s2_0_15 := (hb2.cell (p := ⟨w.heap.size, 15, none⟩) hz1_0).trans s1_0_15
                have s2_0_16 := (hb2.cell (p := ⟨w.heap.size, 16, none⟩) hz1_0).trans s1_0_16
                have H2 := H1.trans (hb2.mono H1.size)
                clear hz1_0 s1_0_0 s1_0_1 s1_0_2 s1_0_3 s1_0_4 s1_0_5 s1_0_6 s1_0_7 s1_0_8 s1_0_9 s1_0_10 s1_0_11 s1_0_12 s1_0_13 s1_0_14 s1_0_15 s1_0_16 hb2 H1
                go_wp2
                go_ret
                exact ⟨rfl, H2⟩
              · go_wp2_with fail
                refine (K6.out _).mono ?_
                rintro e w2 ⟨rfl, hb2⟩
                have hz2_0 := Nat.lt_of_lt_of_le hz1_0 hb2.size
                have s2_0_0 := (hb2.cell (p := ⟨w.heap.size, 0, none⟩) hz1_0).trans s1_0_0
                have s2_0_1 := (hb2.cell (p := ⟨w.heap.size, 1, none⟩) hz1_0).trans s1_0_1
                have s2_0_2 := (hb2.cell (p := ⟨w.heap.size, 2, none⟩) hz1_0).trans s1_0_2
                have s2_0_3 := (hb2.cell (p := ⟨w.heap.size, 3, none⟩) hz1_0).trans s1_0_3
                have s2_0_4 := (hb2.cell (p := ⟨w.heap.size, 4, none⟩) hz1_0).trans s1_0_4
                have s2_0_5 := (hb2.cell (p := ⟨w.heap.size, 5, none⟩) hz1_0).trans s1_0_5
                have s2_0_6 := (hb2.cell (p := ⟨w.heap.size, 6, none⟩) hz1_0).trans s1_0_6
                have s2_0_7 := (hb2.cell (p := ⟨w.heap.size, 7, none⟩) hz1_0).trans s1_0_7
                have s2_0_8 := (hb2.cell (p := ⟨w.heap.size, 8, none⟩) hz1_0).trans s1_0_8
                have s2_0_9 := (hb2.cell (p := ⟨w.heap.size, 9, none⟩) hz1_0).trans s1_0_9
                have s2_0_10 := (hb2.cell (p := ⟨w.heap.size, 10, none⟩) hz1_0).trans s1_0_10
                have s2_0_11 := (hb2.cell (p := ⟨w.heap.size, 11, none⟩) hz1_0).trans s1_0_11
                have s2_0_12 := (hb2.cell (p := ⟨w.heap.size, 12, none⟩) hz1_0).trans s1_0_12
                have s2_0_13 := (hb2.cell (p := ⟨w.heap.size, 13, none⟩) hz1_0).trans s1_0_13
                have s2_0_14 := (hb2.cell (p := ⟨w.heap.size, 14, none⟩) hz1_0).trans s1_0_14
                have s2_0_15 := (hb2.cell (p := ⟨w.heap.size, 15, none⟩) hz1_0).trans s1_0_15
                have s2_0_16 := (hb2.cell (p := ⟨w.heap.size, 16, none⟩) hz1_0).trans s1_0_16
                have H2 := H1.trans (hb2.mono H1.size)
                clear hz1_0 s1_0_0 s1_0_1 s1_0_2 s1_0_3 s1_0_4 s1_0_5 s1_0_6 s1_0_7 s1_0_8 s1_0_9 s1_0_10 s1_0_11 s1_0_12 s1_0_13 s1_0_14 s1_0_15 s1_0_16 hb2 H1
                cases x7
                · go_wp2
                  go_ret
                  exact ⟨rfl, H2⟩
                · cases x8
                  · replace q8 := q8.symm
                    have g8 : (st != 0) = true := by simp [bne, q8]
                    go_wp2
                    go_ret
                    exact ⟨rfl, H2⟩
                  · have g8 := eq_of_beq q8.symm
                    clear q8
                    subst g8
                    go_wp2
                    go_ret
                    exact ⟨rfl, H2⟩
end Go.Proofs.Ytgdagfiebaebbaa
