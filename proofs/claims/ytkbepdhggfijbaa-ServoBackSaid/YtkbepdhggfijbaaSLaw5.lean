/- ServoBack: the walk of the law. -/
import Derived.Test.YtkbepdhggfijbaaWorks13
import Derived.Test.YtkbepdhggfijbaaRef13b
namespace Go.Proofs.Ytkbepdhggfijbaa
open Go.RowKit Go.Shelf

theorem conv_u64 (t : Int) : IntKind.u64.wrap t = t % 18446744073709551616 := IntKind.wrap_u64 t
def spanV (x m : Int) : Int := x % 18446744073709551616 % m
theorem spanV_bd (x : Int) {m : Int} (hm : 1 ≤ m) : 0 ≤ spanV x m ∧ spanV x m ≤ m - 1 := by
  unfold spanV
  have h1 := Int.emod_nonneg (x % 18446744073709551616) (show m ≠ 0 by omega)
  have h2 := Int.emod_lt_of_pos (x % 18446744073709551616) (show 0 < m by omega)
  omega
/-- When returns the first local time at which a time is reached. -/
theorem sback_law {L M p l : Int} {k : Nat} (h0 : -4398046511104 ≤ l) (h1 : l ≤ 4398046511104) (hk : FirstS L M p (atS L M p l) k) :
    (k : Int) - 4398046511104 ≤ l ∧ atS L M p l ≤ atS L M p ((k : Int) - 4398046511104) ∧ (k ≠ 0 → atS L M p ((k : Int) - 4398046511104 - 1) < atS L M p l) := by
  have g1 := (hk.at h0 h1).1 (Int.le_refl _)
  refine ⟨g1, (hk.at (by omega) (by omega)).2 (Int.le_refl _), fun hz => ?_⟩
  have := hk.at (l := (k : Int) - 4398046511104 - 1) (by omega) (by omega)
  have q : ¬ atS L M p l ≤ atS L M p ((k : Int) - 4398046511104 - 1) := fun q => by have := this.1 q; omega
  omega
theorem st_ok {l : Int} (h0 : -4398046511104 ≤ l) (h1 : l ≤ 4398046511104) : stamp l = true := (stamp_iff l).2 ⟨h0, h1⟩
set_option maxRecDepth 100000 in
set_option maxHeartbeats 1000000 in
theorem slaw5_walk (x y z at' more : Int) (w : World) :
    Calls Try.prog 7 #[.agg #[.int .i64 x, .int .i64 y, .int .i32 z], .int .i64 at', .int .i64 more] w fun e w' => e = .returned (.bool true) ∧ Below w.heap.size w w' := by
  have HD := Lib.hid fun w => draftS_any x y z w
  have ho := okSD x y z
  generalize dT x = L at *
  generalize dT y = M at *
  generalize dR z = p at *
  have e0 := conv_u64 at'
  obtain ⟨a0, a1⟩ := spanV_bd at' (show (1 : Int) ≤ 8796093022209 by omega)
  have eA : at' % 18446744073709551616 % 8796093022209 = spanV at' 8796093022209 := rfl
  generalize spanV at' 8796093022209 = A at *
  obtain ⟨u, hu⟩ : ∃ u, at' % 18446744073709551616 = u := ⟨_, rfl⟩
  have hu0 : 0 ≤ u := by omega
  have hu1 : u ≤ 18446744073709551615 := by omega
  rw [hu] at e0 eA
  have e2 := conv_u64 more
  obtain ⟨l, hl⟩ : ∃ l, A - 4398046511104 = l := ⟨_, rfl⟩
  have t0 : -4398046511104 ≤ l := by omega
  have t1 : l ≤ 4398046511104 := by omega
  have hn := spanV_bd more (show 1 ≤ 4398046511104 - l + 1 by omega)
  have hN : more % 18446744073709551616 % (4398046511104 - l + 1) = spanV more (4398046511104 - l + 1) := rfl
  generalize spanV more (4398046511104 - l + 1) = n at *
  obtain ⟨v, hv⟩ : ∃ v, more % 18446744073709551616 = v := ⟨_, rfl⟩
  have hv0 : 0 ≤ v := by omega
  have hv1 : v ≤ 18446744073709551615 := by omega
  rw [hv] at e2 hN
  obtain ⟨n0, n1⟩ := hn
  obtain ⟨k, hk⟩ := firstS_ex (atS L M p l) ho
  obtain ⟨b1, b2, b3⟩ := sback_law t0 t1 hk
  have hge := atS_le ho (show l ≤ l + n by omega)
  have hkn : k ≠ 8796093022209 := by omega
  have T1 := Lib.hid fun w => Calls.at2 (time_s L M p l w) (tm_ok ho (st_ok t0 t1)).1 (tm_ok ho (st_ok t0 t1)).2
  have T2 := Lib.hid fun w => Calls.at2 (time_s L M p (l + n) w) (tm_ok ho (st_ok (by omega) (by omega))).1 (tm_ok ho (st_ok (by omega) (by omega))).2
  have T3 := Lib.hid fun w => Calls.at2 (when_any L M p (atS L M p l) k w (fun _ => hk)) (wh_ok ho hkn).1 (wh_ok ho hkn).2
  have T4 := Lib.hid fun w => Calls.at2 (time_s L M p ((k : Int) - 4398046511104) w) (tm_ok ho (st_ok (by omega) (by omega))).1 (tm_ok ho (st_ok (by omega) (by omega))).2
  have T5 : Hid (k ≠ 0 → ∀ w, Calls Try.prog 13 #[.agg #[.int .i64 L, .int .i64 M, .int .i64 p], .int .i64 ((k : Int) - 4398046511104 - 1)] w fun e w' => e = .returned (.tuple #[.int .i64 (atS L M p ((k : Int) - 4398046511104 - 1)), .int .i64 0]) ∧ Below w.heap.size w w') := Lib.hid fun hz w =>
    Calls.at2 (time_s L M p ((k : Int) - 4398046511104 - 1) w) (tm_ok ho (st_ok (by omega) (by omega))).1 (tm_ok ho (st_ok (by omega) (by omega))).2
  obtain ⟨q, hq⟩ : ∃ q, (k : Int) - 4398046511104 = q := ⟨_, rfl⟩
  have hq0 : -4398046511104 ≤ q := by omega
  have hb3 : q ≠ -4398046511104 → atS L M p (q - 1) < atS L M p l := fun g => by rw [hq] at b3; exact b3 (by omega)
  have T5' : Hid (q ≠ -4398046511104 → ∀ w, Calls Try.prog 13 #[.agg #[.int .i64 L, .int .i64 M, .int .i64 p], .int .i64 (q - 1)] w fun e w' => e = .returned (.tuple #[.int .i64 (atS L M p (q - 1)), .int .i64 0]) ∧ Below w.heap.size w w') := Lib.hid fun g => by have := T5.out (by omega); rwa [hq] at this
  rw [hq] at T3 T4 b1 b2
  clear b3 T5 hk hkn hu hv ho hq
  generalize atS L M p l = m1 at *
  generalize atS L M p (l + n) = m2 at *
  generalize atS L M p q = m3 at *
  generalize atS L M p (q - 1) = m4 at *
  have hmz : ((4398046511104 - l + 1 : Int) == 0) = false := by rw [beq_eq_false_iff_ne]; omega
  go_enter Try.func7, Try.ntmps7
  go_wp2_with fail
  refine (works13 _).mono ?_
  rintro e w1 ⟨rfl, hb1⟩
  have H1 : Below w.heap.size w w1 := ((Below.refl _ _).alloc (Nat.le_refl _) _).trans (hb1.mono (by simp <;> omega))
  have hz : w.heap.size < w1.heap.size := by have := hb1.size; simp at this; omega
  have k1 : w1.cell? ⟨w.heap.size, 0, none⟩ = some (.int .i64 x) := (hb1.cell (p := ⟨w.heap.size, 0, none⟩) (by simp)).trans (by go_simp)
  have k2 : w1.cell? ⟨w.heap.size, 1, none⟩ = some (.int .i64 y) := (hb1.cell (p := ⟨w.heap.size, 1, none⟩) (by simp)).trans (by go_simp)
  have k3 : w1.cell? ⟨w.heap.size, 2, none⟩ = some (.int .i32 z) := (hb1.cell (p := ⟨w.heap.size, 2, none⟩) (by simp)).trans (by go_simp)
  clear hb1
  go_wp2_with fail
  refine (HD.out _).mono ?_
  rintro e w2 ⟨rfl, hb2⟩
  have H2 := H1.trans (hb2.mono H1.size)
  clear k1 k2 k3
  go_wp2_with fail
  refine (T1.out _).mono ?_
  rintro e v1 ⟨rfl, hb1⟩
  have hz1 : w2.heap.size < v1.heap.size := by have := hb1.size; simp at this; omega
  have s1_0 : v1.cell? ⟨w2.heap.size, 0, none⟩ = some (.int .i64 L) := (hb1.cell (p := ⟨w2.heap.size, 0, none⟩) (by simp)).trans (by go_simp)
  have s1_1 : v1.cell? ⟨w2.heap.size, 1, none⟩ = some (.int .i64 M) := (hb1.cell (p := ⟨w2.heap.size, 1, none⟩) (by simp)).trans (by go_simp)
  have s1_2 : v1.cell? ⟨w2.heap.size, 2, none⟩ = some (.int .i64 p) := (hb1.cell (p := ⟨w2.heap.size, 2, none⟩) (by simp)).trans (by go_simp)
  have H3 : Below w.heap.size w v1 := (H2.alloc H2.size (.cells #[.int .i64 L, .int .i64 M, .int .i64 p] 23)).trans (hb1.mono (by have := H2.size; simp; omega))
  clear hb1
  go_wp2_with fail
  refine (T2.out _).mono ?_
  rintro e v2 ⟨rfl, hb2⟩
  have hz2 := Nat.lt_of_lt_of_le hz1 hb2.size
  have s2_0 := (hb2.cell (p := ⟨w2.heap.size, 0, none⟩) hz1).trans s1_0
  have s2_1 := (hb2.cell (p := ⟨w2.heap.size, 1, none⟩) hz1).trans s1_1
  have s2_2 := (hb2.cell (p := ⟨w2.heap.size, 2, none⟩) hz1).trans s1_2
  have H4 := H3.trans (hb2.mono H3.size)
  clear hb2 s1_0 s1_1 s1_2 hz1
  go_wp2_with fail
  refine (T3.out _).mono ?_
  rintro e v3 ⟨rfl, hb3⟩
  have hz3 := Nat.lt_of_lt_of_le hz2 hb3.size
  have s3_0 := (hb3.cell (p := ⟨w2.heap.size, 0, none⟩) hz2).trans s2_0
  have s3_1 := (hb3.cell (p := ⟨w2.heap.size, 1, none⟩) hz2).trans s2_1
  have s3_2 := (hb3.cell (p := ⟨w2.heap.size, 2, none⟩) hz2).trans s2_2
  have H5 := H4.trans (hb3.mono H4.size)
  clear hb3 s2_0 s2_1 s2_2 hz2
  go_wp2_with fail
  refine (T4.out _).mono ?_
  rintro e v4 ⟨rfl, hb4⟩
  have hz4 := Nat.lt_of_lt_of_le hz3 hb4.size
  have s4_0 := (hb4.cell (p := ⟨w2.heap.size, 0, none⟩) hz3).trans s3_0
  have s4_1 := (hb4.cell (p := ⟨w2.heap.size, 1, none⟩) hz3).trans s3_1
  have s4_2 := (hb4.cell (p := ⟨w2.heap.size, 2, none⟩) hz3).trans s3_2
  have H6 := H5.trans (hb4.mono H5.size)
  clear hb4 s3_0 s3_1 s3_2 hz3
  have c1 : ¬ m2 < m1 := by omega
  have c2 : ¬ l < q := by omega
  have c3 : ¬ q < -4398046511104 := by omega
  have c4 : ¬ m3 < m1 := by omega
  by_cases hk0 : q = -4398046511104
  · subst hk0
    go_wp2
    go_ret
    exact ⟨rfl, H6⟩
  · have hk1 : (q == -4398046511104) = false := by rw [beq_eq_false_iff_ne]; exact hk0
    have b4 := hb3 hk0
    have T6 := Lib.hid (T5'.out hk0)
    clear hb3 hk0
    go_wp2_with fail
    refine (T6.out _).mono ?_
    rintro e w6 ⟨rfl, hb6⟩
    go_wp2
    go_ret
    exact ⟨rfl, H6.trans (hb6.mono H6.size)⟩
end Go.Proofs.Ytkbepdhggfijbaa
