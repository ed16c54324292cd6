/- The package pass: add, and the closures of Arrive and Leave: what they do. -/
import Derived.Test.YtgdagfiebaebbaaPass2
import Derived.Test.YtgdagfiebaebbaaClock
namespace Go.Proofs.Ytgdagfiebaebbaa
open Go.RowKit

/-- Information in a block. -/
structure InfoAt (w : World) (b : Nat) (o c p : Int) : Prop where
  c0 : w.cell? ⟨b, 0, none⟩ = some (.int .i64 o)
  c1 : w.cell? ⟨b, 1, none⟩ = some (.int .i64 c)
  c2 : w.cell? ⟨b, 2, none⟩ = some (.int .i64 p)
  f0 : w.frozen? ⟨b, 0, none⟩ = false
  f1 : w.frozen? ⟨b, 1, none⟩ = false
  f2 : w.frozen? ⟨b, 2, none⟩ = false
theorem InfoAt.lt {w : World} {b : Nat} {o c p : Int} (h : InfoAt w b o c p) : b < w.heap.size := cell_lt h.c0
theorem InfoAt.below {w w' : World} {b : Nat} {o c p : Int} (h : InfoAt w b o c p) (hb : Below w.heap.size w w') : InfoAt w' b o c p :=
  ⟨(hb.cell (p := ⟨b, 0, none⟩) h.lt).trans h.c0, (hb.cell (p := ⟨b, 1, none⟩) h.lt).trans h.c1, (hb.cell (p := ⟨b, 2, none⟩) h.lt).trans h.c2, (hb.frozen (p := ⟨b, 0, none⟩) h.lt).trans h.f0, (hb.frozen (p := ⟨b, 1, none⟩) h.lt).trans h.f1, (hb.frozen (p := ⟨b, 2, none⟩) h.lt).trans h.f2⟩
/-- The ticks of the other clock in x ticks. -/
def tickV (x p : Int) : Int := x + x * p / 1000000000
theorem tick_bd {x p : Int} (hx : -4398046511104 ≤ x ∧ x ≤ 4398046511104) (hp : -16777216 ≤ p ∧ p ≤ 16777216) :
    md x p 1000000000 = x * p / 1000000000 ∧ mdOk x p 1000000000 = true ∧ -73786976295 ≤ x * p / 1000000000 ∧ x * p / 1000000000 ≤ 73786976295 := by
  have hb := mul_bd (A := 4398046511104) (B := 16777216) (a := x) (b := p) hx.1 hx.2 hp.1 hp.2
  have hm : mdOk x p 1000000000 = true := by
    unfold mdOk
    simp only [Bool.and_eq_true, inR_iff, decide_eq_true_eq]
    omega
  exact ⟨by unfold md; rw [if_pos hm], hm, by omega, by omega⟩
theorem info_set1 {w : World} {b : Nat} {o c p c' : Int} (h : InfoAt w b o c p) : InfoAt (w.setCell ⟨b, 1, none⟩ (.int .i64 c')) b o c' p := by
  obtain ⟨h0, h1, h2, f0, f1, f2⟩ := h
  exact ⟨by go_simp, by go_simp, by go_simp, by go_simp, by go_simp, by go_simp⟩
theorem info_set2 {w : World} {b : Nat} {o c p p' : Int} (h : InfoAt w b o c p) : InfoAt (w.setCell ⟨b, 2, none⟩ (.int .i64 p')) b o c p' := by
  obtain ⟨h0, h1, h2, f0, f1, f2⟩ := h
  exact ⟨by go_simp, by go_simp, by go_simp, by go_simp, by go_simp, by go_simp⟩
set_option maxHeartbeats 1000000 in
theorem add_any (b : Nat) (o c p x : Int) (w : World) (h : InfoAt w b o c p) (hx : -4398046511104 ≤ x ∧ x ≤ 4398046511104) (hp : -16777216 ≤ p ∧ p ≤ 16777216) (hc : -4398046511104 ≤ c ∧ c ≤ 4398046511104) :
    Calls Try.prog 37 #[.pointer (some ⟨b, 0, none⟩), .int .i64 x] w fun e w' => e = .returned (.tuple #[]) ∧ Below b w w' ∧ InfoAt w' b o (c + tickV x p) p := by
  obtain ⟨q1, q2, q3, q4⟩ := tick_bd hx hp
  have K := Lib.hid fun w => muldiv_any x p 1000000000 w
  rw [q1, q2] at K
  have HT : tickV x p = x + x * p / 1000000000 := rfl
  rw [HT]
  clear HT q1 q2
  generalize x * p / 1000000000 = q at *
  obtain ⟨x0, x1⟩ := hx
  obtain ⟨y0, y1⟩ := hc
  have hz := h.lt
  have h2 := h.c2
  have HI := Lib.hid h
  clear h hp
  go_enter Try.func37, Try.ntmps37
  go_wp2_with fail
  refine (K.out _).mono ?_
  rintro e w1 ⟨rfl, hb⟩
  have h1 := HI.out.below hb
  have H := (Below.refl b w).trans (hb.mono (Nat.le_of_lt hz))
  have hz1 := h1.lt
  have e1 := h1.c1
  have e2 := h1.f1
  have HI2 := Lib.hid fun v => info_set1 (c' := v) h1
  clear hb h1 HI h2
  go_wp2
  exact bodyPost_end (v := .tuple #[]) (by simp [results, Try.results37, go_sem]) rfl ⟨rfl, H.setCell (Nat.le_refl _) _, HI2.out _⟩
end Go.Proofs.Ytgdagfiebaebbaa
