/- ClockDrifts: the walk of the law. -/
import Derived.Test.YtphinhebnekmlaaOut09
namespace Go.Proofs.Ytphinhebnekmlaa
open Go.RowKit Go.Shelf

/-- A number of ticks that still fit. -/
def longV (x m : Int) : Int := x % 18446744073709551616 % m
theorem longV_bd (x : Int) {m : Int} (hm : 1 ≤ m) : 0 ≤ longV x m ∧ longV x m ≤ m - 1 := by
  unfold longV
  have h1 := Int.emod_nonneg (x % 18446744073709551616) (show m ≠ 0 by omega)
  have h2 := Int.emod_lt_of_pos (x % 18446744073709551616) (show 0 < m by omega)
  omega
set_option maxRecDepth 100000 in
set_option maxHeartbeats 1000000 in
theorem law5_walk (x y at' long : Int) (w : World) :
    Calls Try.prog 7 #[.agg #[.int .i64 x, .int .i32 y], .int .i64 at', .int .i64 long] w fun e w' => e = .returned (.bool true) ∧ Below w.heap.size w w' := by
  have HD := Lib.hid fun w => draft_any x y w
  have ho := okD x y
  have HT := Lib.hid fun w => time_any at' w
  obtain ⟨t0, t1⟩ := timeV_bd at'
  generalize dO x = o at *
  generalize dP y = p at *
  generalize timeV at' = t at *
  have e0 := conv_u64 long
  have hn := longV_bd long (show 1 ≤ 1099511627776 - t + 1 by omega)
  have hN : long % 18446744073709551616 % (1099511627776 - t + 1) = longV long (1099511627776 - t + 1) := rfl
  generalize longV long (1099511627776 - t + 1) = n at *
  obtain ⟨u, hu⟩ : ∃ u, long % 18446744073709551616 = u := ⟨_, rfl⟩
  have hu0 : 0 ≤ u := by omega
  have hu1 : u ≤ 18446744073709551615 := by omega
  rw [hu] at e0 hN
  have hokE : okE t n = true := (okE_iff t n).2 (by omega)
  have L1 := Lib.hid fun w => Calls.at2 (elapsed_any o p t n w) (el_ok ho hokE).1 (el_ok ho hokE).2
  have hp := (okC_iff o p).1 ho
  have hokB : okB (max p (-p)) n = true := (okB_iff _ _).2 (by omega)
  have hbv : bndV (max p (-p)) n = -((-n) * max p (-p) / 1000000000) ∧ bndE (max p (-p)) n = 0 := by unfold bndV bndE; rw [hokB]; exact ⟨rfl, rfl⟩
  have L2 := Lib.hid fun w => Calls.at2 (bound_any (max p (-p)) n w) hbv.1 hbv.2
  have hdr := drift_law o p t n (by omega)
  have hge : 0 ≤ atC o p (t + n) - atC o p t := by have := atC_le ho (show t ≤ t + n by omega); omega
  have l1 := atC_lim ho (show 0 ≤ t + n by omega) (by omega)
  have l2 := atC_lim ho t0 t1
  generalize atC o p (t + n) - atC o p t = q at *
  have hmb := mul_bd (A := 1099511627776) (B := 200000) (a := -n) (b := max p (-p)) (by omega) (by omega) (by omega) (by omega)
  have b0 : -1099511627776 ≤ -((-n) * max p (-p) / 1000000000) := by omega
  have b1 : -((-n) * max p (-p) / 1000000000) ≤ 1099511627776 := by omega
  clear hmb hbv hokB hokE ho hu
  generalize -((-n) * max p (-p) / 1000000000) = b at *
  obtain ⟨hdr1, hdr2⟩ := hdr
  have hn0 := hn.1
  have hn1 := hn.2
  have hmz : ((1099511627776 - t + 1 : Int) == 0) = false := by rw [beq_eq_false_iff_ne]; omega
  clear hn
  go_enter Try.func7, Try.ntmps7
  go_wp2_with fail
  refine (works09 _).mono ?_
  rintro e w1 ⟨rfl, hb1⟩
  have H1 : Below w.heap.size w w1 := ((Below.refl _ _).alloc (Nat.le_refl _) _).trans (hb1.mono (by simp <;> omega))
  have hz : w.heap.size < w1.heap.size := by have := hb1.size; simp at this; omega
  have k1 : w1.cell? ⟨w.heap.size, 0, none⟩ = some (.int .i64 x) := (hb1.cell (p := ⟨w.heap.size, 0, none⟩) (by simp)).trans (by go_simp)
  have k2 : w1.cell? ⟨w.heap.size, 1, none⟩ = some (.int .i32 y) := (hb1.cell (p := ⟨w.heap.size, 1, none⟩) (by simp)).trans (by go_simp)
  clear hb1
  go_wp2_with fail
  refine (HD.out _).mono ?_
  rintro e w2 ⟨rfl, hb2⟩
  have H2 := H1.trans (hb2.mono H1.size)
  clear k1 k2
  go_wp2_with fail
  refine (HT.out _).mono ?_
  rintro e w2' ⟨rfl, rfl⟩
  go_wp2_with fail
  refine (L1.out _).mono ?_
  rintro e w3 ⟨rfl, hb3⟩
  have hz3 : w2'.heap.size < w3.heap.size := by have := hb3.size; simp at this; omega
  have j1 : w3.cell? ⟨w2'.heap.size, 0, none⟩ = some (.int .i64 o) := (hb3.cell (p := ⟨w2'.heap.size, 0, none⟩) (by simp)).trans (by go_simp)
  have j2 : w3.cell? ⟨w2'.heap.size, 1, none⟩ = some (.int .i64 p) := (hb3.cell (p := ⟨w2'.heap.size, 1, none⟩) (by simp)).trans (by go_simp)
  have H3 := (H2.alloc H2.size (.cells #[.int .i64 o, .int .i64 p] 23)).trans (hb3.mono (by have := H2.size; simp; omega))
  clear hb3
  go_wp2_with fail
  refine (L2.out _).mono ?_
  rintro e w4 ⟨rfl, hb4⟩
  have H4 := H3.trans (hb4.mono H3.size)
  go_wp2
  go_ret
  exact ⟨rfl, H4⟩
end Go.Proofs.Ytphinhebnekmlaa
