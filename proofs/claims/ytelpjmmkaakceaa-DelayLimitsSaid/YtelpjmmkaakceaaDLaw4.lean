/- DelayLimits: the walk of the law. -/
import Derived.Test.YtelpjmmkaakceaaWorks12
namespace Go.Proofs.Ytelpjmmkaakceaa
open Go.RowKit Go.Shelf

theorem db_no {p d n : Int} (h : dbOk p d n = false) : dbV p d n = 0 ∧ dbE p d n = 2 := by unfold dbV dbE; rw [h]; exact ⟨rfl, rfl⟩
theorem db_in {p d n : Int} (h : dbOk p d n = true) : dbE p d n = 0 := by unfold dbE; rw [h]; rfl
theorem rb_no {y : Int} (h : rbOk y = false) : rbV y = 0 ∧ rbE y = 2 := by unfold rbV rbE; rw [h]; exact ⟨rfl, rfl⟩
theorem rb_in {y : Int} (h : rbOk y = true) : rbE y = 0 := by unfold rbE; rw [h]; rfl
set_option maxRecDepth 100000 in
set_option maxHeartbeats 4000000 in
theorem dlaw4_walk (p d n y : Int) (w : World) :
    Calls Try.prog 6 #[.int .i64 p, .int .i64 d, .int .i64 n, .int .i64 y] w fun e w' => e = .returned (.bool true) ∧ Below w.heap.size w w' := by
  by_cases p1 : 0 ≤ p
  · by_cases p2 : p ≤ 200000
    · cases ht : timedB 0 d n
      · have hdb : dbOk p d n = false := by unfold dbOk; rw [ht]; simp
        have K1 := Lib.hid fun w => Calls.at2 (delayBound_any p d n w) (db_no hdb).1 (db_no hdb).2
        have KT := Lib.hid fun w => rtimed_b ht w
        clear hdb ht
        by_cases y1 : 1 ≤ y
        · by_cases y2 : y ≤ 4398046511104
          · have hy : rbOk y = true := by unfold rbOk; simp [y1, y2]
            have R1 := Lib.hid fun w => Calls.at2 (ratioBound_any y w) rfl (rb_in hy)
            have R2 := Lib.hid fun w => rratioBound_any hy w
            clear hy
            generalize rbV y = z at *
            go_enter Try.func6, Try.ntmps6
            go_wp2_with fail
            refine (works12 _).mono ?_
            rintro e w1 ⟨rfl, hb1⟩
            have H1 : Below w.heap.size w w1 := (Below.refl _ _).trans (hb1.mono (by simp <;> omega))
            clear hb1
            go_wp2_with fail
            refine (K1.out _).mono ?_
            rintro e w2 ⟨rfl, hb2⟩
            have H2 := H1.trans (hb2.mono H1.size)
            clear hb2 H1
            go_wp2_with fail
            refine (KT.out _).mono ?_
            rintro e w3' ⟨rfl, rfl⟩
            go_wp2_with fail
            refine (R1.out _).mono ?_
            rintro e w3 ⟨rfl, hb3⟩
            have H3 := H2.trans (hb3.mono H2.size)
            clear hb3 H2
            go_wp2_with fail
            refine (R2.out _).mono ?_
            rintro e w4' ⟨rfl, rfl⟩
            go_wp2
            go_ret
            exact ⟨rfl, H3⟩
          · have hy : rbOk y = false := by unfold rbOk; simp [y2]
            have R1 := Lib.hid fun w => Calls.at2 (ratioBound_any y w) (rb_no hy).1 (rb_no hy).2
            have y3 : 4398046511104 < y := by omega
            clear hy y2
            go_enter Try.func6, Try.ntmps6
            go_wp2_with fail
            refine (works12 _).mono ?_
            rintro e w1 ⟨rfl, hb1⟩
            have H1 : Below w.heap.size w w1 := (Below.refl _ _).trans (hb1.mono (by simp <;> omega))
            clear hb1
            go_wp2_with fail
            refine (K1.out _).mono ?_
            rintro e w2 ⟨rfl, hb2⟩
            have H2 := H1.trans (hb2.mono H1.size)
            clear hb2 H1
            go_wp2_with fail
            refine (KT.out _).mono ?_
            rintro e w3' ⟨rfl, rfl⟩
            go_wp2_with fail
            refine (R1.out _).mono ?_
            rintro e w3 ⟨rfl, hb3⟩
            have H3 := H2.trans (hb3.mono H2.size)
            clear hb3 H2
            go_wp2
            go_ret
            exact ⟨rfl, H3⟩
        · have hy : rbOk y = false := by unfold rbOk; simp [y1]
          have R1 := Lib.hid fun w => Calls.at2 (ratioBound_any y w) (rb_no hy).1 (rb_no hy).2
          have y3 : y < 1 := by omega
          clear hy y1
          go_enter Try.func6, Try.ntmps6
          go_wp2_with fail
          refine (works12 _).mono ?_
          rintro e w1 ⟨rfl, hb1⟩
          have H1 : Below w.heap.size w w1 := (Below.refl _ _).trans (hb1.mono (by simp <;> omega))
          clear hb1
          go_wp2_with fail
          refine (K1.out _).mono ?_
          rintro e w2 ⟨rfl, hb2⟩
          have H2 := H1.trans (hb2.mono H1.size)
          clear hb2 H1
          go_wp2_with fail
          refine (KT.out _).mono ?_
          rintro e w3' ⟨rfl, rfl⟩
          go_wp2_with fail
          refine (R1.out _).mono ?_
          rintro e w3 ⟨rfl, hb3⟩
          have H3 := H2.trans (hb3.mono H2.size)
          clear hb3 H2
          go_wp2
          go_ret
          exact ⟨rfl, H3⟩
      · have hdb : dbOk p d n = true := by unfold dbOk; rw [ht]; simp [p1, p2]
        have K1 := Lib.hid fun w => Calls.at2 (delayBound_any p d n w) rfl (db_in hdb)
        have K2 := Lib.hid fun w => rdelayBound_any hdb w
        have KT := Lib.hid fun w => rtimed_b ht w
        clear hdb ht
        generalize dbV p d n = v at *
        by_cases y1 : 1 ≤ y
        · by_cases y2 : y ≤ 4398046511104
          · have hy : rbOk y = true := by unfold rbOk; simp [y1, y2]
            have R1 := Lib.hid fun w => Calls.at2 (ratioBound_any y w) rfl (rb_in hy)
            have R2 := Lib.hid fun w => rratioBound_any hy w
            clear hy
            generalize rbV y = z at *
            go_enter Try.func6, Try.ntmps6
            go_wp2_with fail
            refine (works12 _).mono ?_
            rintro e w1 ⟨rfl, hb1⟩
            have H1 : Below w.heap.size w w1 := (Below.refl _ _).trans (hb1.mono (by simp <;> omega))
            clear hb1
            go_wp2_with fail
            refine (K1.out _).mono ?_
            rintro e w2 ⟨rfl, hb2⟩
            have H2 := H1.trans (hb2.mono H1.size)
            clear hb2 H1
            go_wp2_with fail
            refine (KT.out _).mono ?_
            rintro e w3' ⟨rfl, rfl⟩
            go_wp2_with fail
            refine (K2.out _).mono ?_
            rintro e w3' ⟨rfl, rfl⟩
            go_wp2_with fail
            refine (R1.out _).mono ?_
            rintro e w3 ⟨rfl, hb3⟩
            have H3 := H2.trans (hb3.mono H2.size)
            clear hb3 H2
            go_wp2_with fail
            refine (R2.out _).mono ?_
            rintro e w4' ⟨rfl, rfl⟩
            go_wp2
            go_ret
            exact ⟨rfl, H3⟩
          · have hy : rbOk y = false := by unfold rbOk; simp [y2]
            have R1 := Lib.hid fun w => Calls.at2 (ratioBound_any y w) (rb_no hy).1 (rb_no hy).2
            have y3 : 4398046511104 < y := by omega
            clear hy y2
            go_enter Try.func6, Try.ntmps6
            go_wp2_with fail
            refine (works12 _).mono ?_
            rintro e w1 ⟨rfl, hb1⟩
            have H1 : Below w.heap.size w w1 := (Below.refl _ _).trans (hb1.mono (by simp <;> omega))
            clear hb1
            go_wp2_with fail
            refine (K1.out _).mono ?_
            rintro e w2 ⟨rfl, hb2⟩
            have H2 := H1.trans (hb2.mono H1.size)
            clear hb2 H1
            go_wp2_with fail
            refine (KT.out _).mono ?_
            rintro e w3' ⟨rfl, rfl⟩
            go_wp2_with fail
            refine (K2.out _).mono ?_
            rintro e w3' ⟨rfl, rfl⟩
            go_wp2_with fail
            refine (R1.out _).mono ?_
            rintro e w3 ⟨rfl, hb3⟩
            have H3 := H2.trans (hb3.mono H2.size)
            clear hb3 H2
            go_wp2
            go_ret
            exact ⟨rfl, H3⟩
        · have hy : rbOk y = false := by unfold rbOk; simp [y1]
          have R1 := Lib.hid fun w => Calls.at2 (ratioBound_any y w) (rb_no hy).1 (rb_no hy).2
          have y3 : y < 1 := by omega
          clear hy y1
          go_enter Try.func6, Try.ntmps6
          go_wp2_with fail
          refine (works12 _).mono ?_
          rintro e w1 ⟨rfl, hb1⟩
          have H1 : Below w.heap.size w w1 := (Below.refl _ _).trans (hb1.mono (by simp <;> omega))
          clear hb1
          go_wp2_with fail
          refine (K1.out _).mono ?_
          rintro e w2 ⟨rfl, hb2⟩
          have H2 := H1.trans (hb2.mono H1.size)
          clear hb2 H1
          go_wp2_with fail
          refine (KT.out _).mono ?_
          rintro e w3' ⟨rfl, rfl⟩
          go_wp2_with fail
          refine (K2.out _).mono ?_
          rintro e w3' ⟨rfl, rfl⟩
          go_wp2_with fail
          refine (R1.out _).mono ?_
          rintro e w3 ⟨rfl, hb3⟩
          have H3 := H2.trans (hb3.mono H2.size)
          clear hb3 H2
          go_wp2
          go_ret
          exact ⟨rfl, H3⟩
    · have hdb : dbOk p d n = false := by unfold dbOk; simp [p2]
      have K1 := Lib.hid fun w => Calls.at2 (delayBound_any p d n w) (db_no hdb).1 (db_no hdb).2
      have p3 : 200000 < p := by omega
      clear hdb p2
      by_cases y1 : 1 ≤ y
      · by_cases y2 : y ≤ 4398046511104
        · have hy : rbOk y = true := by unfold rbOk; simp [y1, y2]
          have R1 := Lib.hid fun w => Calls.at2 (ratioBound_any y w) rfl (rb_in hy)
          have R2 := Lib.hid fun w => rratioBound_any hy w
          clear hy
          generalize rbV y = z at *
          go_enter Try.func6, Try.ntmps6
          go_wp2_with fail
          refine (works12 _).mono ?_
          rintro e w1 ⟨rfl, hb1⟩
          have H1 : Below w.heap.size w w1 := (Below.refl _ _).trans (hb1.mono (by simp <;> omega))
          clear hb1
          go_wp2_with fail
          refine (K1.out _).mono ?_
          rintro e w2 ⟨rfl, hb2⟩
          have H2 := H1.trans (hb2.mono H1.size)
          clear hb2 H1
          go_wp2_with fail
          refine (R1.out _).mono ?_
          rintro e w3 ⟨rfl, hb3⟩
          have H3 := H2.trans (hb3.mono H2.size)
          clear hb3 H2
          go_wp2_with fail
          refine (R2.out _).mono ?_
          rintro e w4' ⟨rfl, rfl⟩
          go_wp2
          go_ret
          exact ⟨rfl, H3⟩
        · have hy : rbOk y = false := by unfold rbOk; simp [y2]
          have R1 := Lib.hid fun w => Calls.at2 (ratioBound_any y w) (rb_no hy).1 (rb_no hy).2
          have y3 : 4398046511104 < y := by omega
          clear hy y2
          go_enter Try.func6, Try.ntmps6
          go_wp2_with fail
          refine (works12 _).mono ?_
          rintro e w1 ⟨rfl, hb1⟩
          have H1 : Below w.heap.size w w1 := (Below.refl _ _).trans (hb1.mono (by simp <;> omega))
          clear hb1
          go_wp2_with fail
          refine (K1.out _).mono ?_
          rintro e w2 ⟨rfl, hb2⟩
          have H2 := H1.trans (hb2.mono H1.size)
          clear hb2 H1
          go_wp2_with fail
          refine (R1.out _).mono ?_
          rintro e w3 ⟨rfl, hb3⟩
          have H3 := H2.trans (hb3.mono H2.size)
          clear hb3 H2
          go_wp2
          go_ret
          exact ⟨rfl, H3⟩
      · have hy : rbOk y = false := by unfold rbOk; simp [y1]
        have R1 := Lib.hid fun w => Calls.at2 (ratioBound_any y w) (rb_no hy).1 (rb_no hy).2
        have y3 : y < 1 := by omega
        clear hy y1
        go_enter Try.func6, Try.ntmps6
        go_wp2_with fail
        refine (works12 _).mono ?_
        rintro e w1 ⟨rfl, hb1⟩
        have H1 : Below w.heap.size w w1 := (Below.refl _ _).trans (hb1.mono (by simp <;> omega))
        clear hb1
        go_wp2_with fail
        refine (K1.out _).mono ?_
        rintro e w2 ⟨rfl, hb2⟩
        have H2 := H1.trans (hb2.mono H1.size)
        clear hb2 H1
        go_wp2_with fail
        refine (R1.out _).mono ?_
        rintro e w3 ⟨rfl, hb3⟩
        have H3 := H2.trans (hb3.mono H2.size)
        clear hb3 H2
        go_wp2
        go_ret
        exact ⟨rfl, H3⟩
  · have hdb : dbOk p d n = false := by unfold dbOk; simp [p1]
    have K1 := Lib.hid fun w => Calls.at2 (delayBound_any p d n w) (db_no hdb).1 (db_no hdb).2
    have p3 : p < 0 := by omega
    clear hdb p1
    by_cases y1 : 1 ≤ y
    · by_cases y2 : y ≤ 4398046511104
      · have hy : rbOk y = true := by unfold rbOk; simp [y1, y2]
        have R1 := Lib.hid fun w => Calls.at2 (ratioBound_any y w) rfl (rb_in hy)
        have R2 := Lib.hid fun w => rratioBound_any hy w
        clear hy
        generalize rbV y = z at *
        go_enter Try.func6, Try.ntmps6
        go_wp2_with fail
        refine (works12 _).mono ?_
        rintro e w1 ⟨rfl, hb1⟩
        have H1 : Below w.heap.size w w1 := (Below.refl _ _).trans (hb1.mono (by simp <;> omega))
        clear hb1
        go_wp2_with fail
        refine (K1.out _).mono ?_
        rintro e w2 ⟨rfl, hb2⟩
        have H2 := H1.trans (hb2.mono H1.size)
        clear hb2 H1
        go_wp2_with fail
        refine (R1.out _).mono ?_
        rintro e w3 ⟨rfl, hb3⟩
        have H3 := H2.trans (hb3.mono H2.size)
        clear hb3 H2
        go_wp2_with fail
        refine (R2.out _).mono ?_
        rintro e w4' ⟨rfl, rfl⟩
        go_wp2
        go_ret
        exact ⟨rfl, H3⟩
      · have hy : rbOk y = false := by unfold rbOk; simp [y2]
        have R1 := Lib.hid fun w => Calls.at2 (ratioBound_any y w) (rb_no hy).1 (rb_no hy).2
        have y3 : 4398046511104 < y := by omega
        clear hy y2
        go_enter Try.func6, Try.ntmps6
        go_wp2_with fail
        refine (works12 _).mono ?_
        rintro e w1 ⟨rfl, hb1⟩
        have H1 : Below w.heap.size w w1 := (Below.refl _ _).trans (hb1.mono (by simp <;> omega))
        clear hb1
        go_wp2_with fail
        refine (K1.out _).mono ?_
        rintro e w2 ⟨rfl, hb2⟩
        have H2 := H1.trans (hb2.mono H1.size)
        clear hb2 H1
        go_wp2_with fail
        refine (R1.out _).mono ?_
        rintro e w3 ⟨rfl, hb3⟩
        have H3 := H2.trans (hb3.mono H2.size)
        clear hb3 H2
        go_wp2
        go_ret
        exact ⟨rfl, H3⟩
    · have hy : rbOk y = false := by unfold rbOk; simp [y1]
      have R1 := Lib.hid fun w => Calls.at2 (ratioBound_any y w) (rb_no hy).1 (rb_no hy).2
      have y3 : y < 1 := by omega
      clear hy y1
      go_enter Try.func6, Try.ntmps6
      go_wp2_with fail
      refine (works12 _).mono ?_
      rintro e w1 ⟨rfl, hb1⟩
      have H1 : Below w.heap.size w w1 := (Below.refl _ _).trans (hb1.mono (by simp <;> omega))
      clear hb1
      go_wp2_with fail
      refine (K1.out _).mono ?_
      rintro e w2 ⟨rfl, hb2⟩
      have H2 := H1.trans (hb2.mono H1.size)
      clear hb2 H1
      go_wp2_with fail
      refine (R1.out _).mono ?_
      rintro e w3 ⟨rfl, hb3⟩
      have H3 := H2.trans (hb3.mono H2.size)
      clear hb3 H2
      go_wp2
      go_ret
      exact ⟨rfl, H3⟩
end Go.Proofs.Ytelpjmmkaakceaa
