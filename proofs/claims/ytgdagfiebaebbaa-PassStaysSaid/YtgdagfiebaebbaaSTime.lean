/- The package servo: Time. -/
import Derived.Test.YtgdagfiebaebbaaServo
import Derived.Test.YtgdagfiebaebbaaPass11
namespace Go.Proofs.Ytgdagfiebaebbaa
open Go.RowKit

theorem atS_lim {L M p l : Int} (h : okS L M p = true) (h0 : -4398046511104 ≤ l) (h1 : l ≤ 4398046511104) : -17592186044416 ≤ atS L M p l ∧ atS L M p l ≤ 17592186044416 := by
  rw [okS_iff] at h
  have hb := mul_bdS (A := 8796093022208) (B := 8388608) (a := l - L) (b := p) (by omega) (by omega) (by omega) (by omega)
  unfold atS
  omega
def tmE (L M p l : Int) : Int := if okS L M p then (if stamp l then 0 else 2) else 230
def tmV (L M p l : Int) : Int := if okS L M p && stamp l then atS L M p l else 0
theorem tm_bad {L M p l : Int} (h : okS L M p = false) : tmV L M p l = 0 ∧ tmE L M p l = 230 := by unfold tmV tmE; rw [h]; exact ⟨rfl, rfl⟩
theorem tm_out {L M p l : Int} (h : okS L M p = true) (h2 : stamp l = false) : tmV L M p l = 0 ∧ tmE L M p l = 2 := by unfold tmV tmE; rw [h, h2]; exact ⟨rfl, rfl⟩
theorem tm_ok {L M p l : Int} (h : okS L M p = true) (h2 : stamp l = true) : tmV L M p l = atS L M p l ∧ tmE L M p l = 0 := by unfold tmV tmE; rw [h, h2]; exact ⟨rfl, rfl⟩
theorem scheck_no {L M p : Int} (h : okS L M p = false) (w : World) : Calls Try.prog 45 #[.agg #[.int .i64 L, .int .i64 M, .int .i64 p]] w fun e w' => e = .returned (.int .i64 230) ∧ Below w.heap.size w w' := by
  have := scheck_any L M p w
  rwa [chkS_no h] at this
theorem scheck_ok {L M p : Int} (h : okS L M p = true) (w : World) : Calls Try.prog 45 #[.agg #[.int .i64 L, .int .i64 M, .int .i64 p]] w fun e w' => e = .returned (.int .i64 0) ∧ Below w.heap.size w w' := by
  have := scheck_any L M p w
  rwa [chkS_ok h] at this
theorem holds1 (l : Int) (w : World) : Calls Try.prog 49 #[.agg #[.int .i64 l, .int .i64 4398046511104, .int .i64 0, .int .i64 0, .int .i64 0, .int .i64 0]] w fun e w' => e = .returned (.bool (stamp l)) ∧ Below w.heap.size w w' := by
  have := holds_any l 4398046511104 0 0 0 0 w (by omega) (by omega) (by omega) (by omega) (by omega) (by omega)
  have e : lim3 l 4398046511104 0 0 0 0 = stamp l := by unfold lim3 stamp; rw [show lim 0 0 = true from by decide]; simp
  rwa [e] at this
set_option maxHeartbeats 400000 in
theorem time_s (L M p l : Int) (w : World) :
    Calls Try.prog 29 #[.agg #[.int .i64 L, .int .i64 M, .int .i64 p], .int .i64 l] w fun e w' => e = .returned (.tuple #[.int .i64 (tmV L M p l), .int .i64 (tmE L M p l)]) ∧ Below w.heap.size w w' := by
  cases h : okS L M p
  · have HL := Lib.hid (tm_bad (l := l) h)
    have HK := Lib.hid (scheck_no h)
    clear h
    go_enter Try.func29, Try.ntmps29
    go_wp2_with (go_at_call 45; refine (HK.out _).mono ?_; rintro e w' ⟨rfl, hb⟩)
    go_ret2
    exact ⟨ret_int2 HL.out.1.symm HL.out.2.symm, ((Below.refl _ _).alloc (Nat.le_refl _) _).trans (hb.mono (by simp <;> omega))⟩
  · have HK := Lib.hid (scheck_ok h)
    cases h2 : stamp l
    · have HL := Lib.hid (tm_out h h2)
      have HH := Lib.hid fun w => holds1 l w
      rw [h2] at HH
      clear h h2
      go_enter Try.func29, Try.ntmps29
      go_wp2_with (first
        | (go_at_call 45; refine (HK.out _).mono ?_; rintro e w' ⟨rfl, hb⟩)
        | (go_at_call 49; refine (HH.out _).mono ?_; rintro e w2 ⟨rfl, hb2⟩))
      go_ret2
      exact ⟨ret_int2 HL.out.1.symm HL.out.2.symm, (((Below.refl _ _).alloc (Nat.le_refl _) _).trans (hb.mono (by simp <;> omega))).trans (hb2.mono (by have := hb.size; simp at this; omega))⟩
    · have HL := Lib.hid (tm_ok h h2)
      have HH := Lib.hid fun w => holds1 l w
      rw [h2] at HH
      rw [stamp_iff] at h2
      have HS := Lib.hid fun w => sat_any L M p l w h h2.1 h2.2
      clear h h2
      go_enter Try.func29, Try.ntmps29
      go_wp2_with fail
      refine (HK.out _).mono ?_
      rintro e w1 ⟨rfl, hb1⟩
      have hz1 : w.heap.size < w1.heap.size := by have := hb1.size; simp at this; omega
      have k1 : w1.cell? ⟨w.heap.size, 0, none⟩ = some (.int .i64 L) := (hb1.cell (p := ⟨w.heap.size, 0, none⟩) (by simp)).trans (by go_simp)
      have k2 : w1.cell? ⟨w.heap.size, 1, none⟩ = some (.int .i64 M) := (hb1.cell (p := ⟨w.heap.size, 1, none⟩) (by simp)).trans (by go_simp)
      have k3 : w1.cell? ⟨w.heap.size, 2, none⟩ = some (.int .i64 p) := (hb1.cell (p := ⟨w.heap.size, 2, none⟩) (by simp)).trans (by go_simp)
      have H1 : Below w.heap.size w w1 := ((Below.refl _ _).alloc (Nat.le_refl _) _).trans (hb1.mono (by simp <;> omega))
      clear hb1
      go_wp2_with fail
      refine (HH.out _).mono ?_
      rintro e w2 ⟨rfl, hb2⟩
      have j1 := (hb2.cell (p := ⟨w.heap.size, 0, none⟩) hz1).trans k1
      have j2 := (hb2.cell (p := ⟨w.heap.size, 1, none⟩) hz1).trans k2
      have j3 := (hb2.cell (p := ⟨w.heap.size, 2, none⟩) hz1).trans k3
      have H2 := H1.trans (hb2.mono H1.size)
      clear hb2 k1 k2 k3
      go_wp2_with fail
      refine (HS.out _).mono ?_
      rintro e w3 ⟨rfl, hb3⟩
      go_wp2
      go_ret2
      exact ⟨ret_int2 HL.out.1.symm HL.out.2.symm, H2.trans (hb3.mono H2.size)⟩

end Go.Proofs.Ytgdagfiebaebbaa
