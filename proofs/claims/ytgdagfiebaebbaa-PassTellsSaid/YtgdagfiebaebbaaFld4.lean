/- The package ptp: right: whether all fields are within their limits. -/
import Derived.Test.YtgdagfiebaebbaaFld3
namespace Go.Proofs.Ytgdagfiebaebbaa
open Go.RowKit

/-- A message in a block. -/
def MsgAt (w : World) (B : Nat) (v : Nat → Int) : Prop := ∀ j, j < 17 → w.cell? ⟨B, j, none⟩ = some (.int .i64 (v j)) ∧ w.frozen? ⟨B, j, none⟩ = false
theorem MsgAt.below {w w' : World} {B : Nat} {v : Nat → Int} (h : MsgAt w B v) (hb : Below w.heap.size w w') : MsgAt w' B v := fun j hj => by
  have hlt := cell_lt (h j hj).1
  exact ⟨(hb.cell (p := ⟨B, j, none⟩) hlt).trans (h j hj).1, (hb.frozen (p := ⟨B, j, none⟩) hlt).trans (h j hj).2⟩
theorem MsgAt.belX {w w' : World} {B M : Nat} {v : Nat → Int} (h : MsgAt w B v) (hb : BelX M w.heap.size w w') (hne : B ≠ M) : MsgAt w' B v := fun j hj => by
  have hlt := cell_lt (h j hj).1
  exact ⟨(hb.cell (p := ⟨B, j, none⟩) hlt hne).trans (h j hj).1, (hb.frozen (p := ⟨B, j, none⟩) hlt hne).trans (h j hj).2⟩
def Fd.ok (v : Nat → Int) (f : Fd) : Bool := decide (f.lo ≤ v f.k) && decide (v f.k ≤ f.hi)
/-- A cell that holds a truth value. -/
def BoolAt (w : World) (M : Nat) (x : Bool) : Prop := w.cell? ⟨M, 0, none⟩ = some (.bool x) ∧ w.frozen? ⟨M, 0, none⟩ = false
theorem BoolAt.below {w w' : World} {M : Nat} {x : Bool} (h : BoolAt w M x) (hb : Below w.heap.size w w') : BoolAt w' M x := by
  have hlt := cell_lt h.1
  exact ⟨(hb.cell (p := ⟨M, 0, none⟩) hlt).trans h.1, (hb.frozen (p := ⟨M, 0, none⟩) hlt).trans h.2⟩
theorem BoolAt.set {w : World} {M : Nat} {x : Bool} (h : BoolAt w M x) (y : Bool) : BoolAt (w.setCell ⟨M, 0, none⟩ (.bool y)) M y := by
  obtain ⟨h1, h2⟩ := h
  exact ⟨by go_simp, by go_simp⟩
set_option maxRecDepth 100000 in
set_option maxHeartbeats 1000000 in
theorem right1_any (B M k : Nat) (s lo hi v : Int) (x : Bool) (w : World) (hc : w.cell? ⟨B, k, none⟩ = some (.int .i64 v)) (hM : BoolAt w M x) :
    Calls Try.prog 77 #[.agg #[.pointer (some ⟨B, k, none⟩), .int .i64 s, .int .i64 lo, .int .i64 hi], .pointer (some ⟨M, 0, none⟩)] w fun e w' => e = .returned (.tuple #[]) ∧ BoolAt w' M (x && (decide (lo ≤ v) && decide (v ≤ hi))) ∧ BelX M w.heap.size w w' := by
  have hzB := cell_lt hc
  have hzM := cell_lt hM.1
  cases x
  · rw [Bool.false_and]
    go_enter Try.func77, Try.ntmps77
    go_wp2_with fail
    refine wp_gen ?_
    rintro w1 hg
    have b0 : Below w.heap.size w w1 := by rw [hg]; exact (Below.refl _ _).alloc (Nat.le_refl _) _
    have r0 : w1.cell? ⟨w.heap.size, 0, none⟩ = some (.pointer (some ⟨B, k, none⟩)) := by rw [hg]; go_simp
    have r1 : w1.cell? ⟨w.heap.size, 2, none⟩ = some (.int .i64 lo) := by rw [hg]; go_simp
    have r2 : w1.cell? ⟨w.heap.size, 3, none⟩ = some (.int .i64 hi) := by rw [hg]; go_simp
    clear hg
    have c1 := (b0.cell (p := ⟨B, k, none⟩) hzB).trans hc
    have hM1 := hM.below b0
    obtain ⟨m0, m1⟩ := id hM1
    have HF := Lib.hid (hM1.set false)
    have HX : Hid (BelX M w.heap.size w (w1.setCell ⟨M, 0, none⟩ (.bool false))) := Lib.hid ⟨b0.os, b0.tape, b0.output, by simpa [World.setCell] using b0.size, fun j hj hne => (Below.heap_setCell w1 ⟨M, 0, none⟩ _ j hne).trans (b0.block j hj)⟩
    clear hM hc hM1 b0
    go_region
    all_goals (try go_wp2)
    all_goals exact bodyPost_end (v := .tuple #[]) (by simp [results, Try.results77, go_sem]) rfl ⟨rfl, HF.out, ⟨HX.out.os, HX.out.tape, HX.out.output, HX.out.size, HX.out.block⟩⟩
  · rw [Bool.true_and]
    by_cases d1 : lo ≤ v
    · by_cases d2 : v ≤ hi
      · have D1 := decide_eq_true d1
        have D2 := decide_eq_true d2
        rw [D1, D2, Bool.and_self]
        go_enter Try.func77, Try.ntmps77
        go_wp2_with fail
        refine wp_gen ?_
        rintro w1 hg
        have b0 : Below w.heap.size w w1 := by rw [hg]; exact (Below.refl _ _).alloc (Nat.le_refl _) _
        have r0 : w1.cell? ⟨w.heap.size, 0, none⟩ = some (.pointer (some ⟨B, k, none⟩)) := by rw [hg]; go_simp
        have r1 : w1.cell? ⟨w.heap.size, 2, none⟩ = some (.int .i64 lo) := by rw [hg]; go_simp
        have r2 : w1.cell? ⟨w.heap.size, 3, none⟩ = some (.int .i64 hi) := by rw [hg]; go_simp
        clear hg
        have c1 := (b0.cell (p := ⟨B, k, none⟩) hzB).trans hc
        have hM1 := hM.below b0
        obtain ⟨m0, m1⟩ := id hM1
        have HF := Lib.hid (hM1.set true)
        have HX : Hid (BelX M w.heap.size w (w1.setCell ⟨M, 0, none⟩ (.bool true))) := Lib.hid ⟨b0.os, b0.tape, b0.output, by simpa [World.setCell] using b0.size, fun j hj hne => (Below.heap_setCell w1 ⟨M, 0, none⟩ _ j hne).trans (b0.block j hj)⟩
        clear hM hc hM1 b0
        go_region
        all_goals (try go_wp2)
        all_goals exact bodyPost_end (v := .tuple #[]) (by simp [results, Try.results77, go_sem]) rfl ⟨rfl, HF.out, ⟨HX.out.os, HX.out.tape, HX.out.output, HX.out.size, HX.out.block⟩⟩
      · have D1 := decide_eq_true d1
        have D2 := decide_eq_false d2
        rw [D1, D2, Bool.and_false]
        have d3 : hi < v := by omega
        go_enter Try.func77, Try.ntmps77
        go_wp2_with fail
        refine wp_gen ?_
        rintro w1 hg
        have b0 : Below w.heap.size w w1 := by rw [hg]; exact (Below.refl _ _).alloc (Nat.le_refl _) _
        have r0 : w1.cell? ⟨w.heap.size, 0, none⟩ = some (.pointer (some ⟨B, k, none⟩)) := by rw [hg]; go_simp
        have r1 : w1.cell? ⟨w.heap.size, 2, none⟩ = some (.int .i64 lo) := by rw [hg]; go_simp
        have r2 : w1.cell? ⟨w.heap.size, 3, none⟩ = some (.int .i64 hi) := by rw [hg]; go_simp
        clear hg
        have c1 := (b0.cell (p := ⟨B, k, none⟩) hzB).trans hc
        have hM1 := hM.below b0
        obtain ⟨m0, m1⟩ := id hM1
        have HF := Lib.hid (hM1.set false)
        have HX : Hid (BelX M w.heap.size w (w1.setCell ⟨M, 0, none⟩ (.bool false))) := Lib.hid ⟨b0.os, b0.tape, b0.output, by simpa [World.setCell] using b0.size, fun j hj hne => (Below.heap_setCell w1 ⟨M, 0, none⟩ _ j hne).trans (b0.block j hj)⟩
        clear hM hc hM1 b0
        go_region
        all_goals (try go_wp2)
        all_goals exact bodyPost_end (v := .tuple #[]) (by simp [results, Try.results77, go_sem]) rfl ⟨rfl, HF.out, ⟨HX.out.os, HX.out.tape, HX.out.output, HX.out.size, HX.out.block⟩⟩
    · have D1 := decide_eq_false d1
      rw [D1, Bool.false_and]
      have d3 : v < lo := by omega
      go_enter Try.func77, Try.ntmps77
      go_wp2_with fail
      refine wp_gen ?_
      rintro w1 hg
      have b0 : Below w.heap.size w w1 := by rw [hg]; exact (Below.refl _ _).alloc (Nat.le_refl _) _
      have r0 : w1.cell? ⟨w.heap.size, 0, none⟩ = some (.pointer (some ⟨B, k, none⟩)) := by rw [hg]; go_simp
      have r1 : w1.cell? ⟨w.heap.size, 2, none⟩ = some (.int .i64 lo) := by rw [hg]; go_simp
      have r2 : w1.cell? ⟨w.heap.size, 3, none⟩ = some (.int .i64 hi) := by rw [hg]; go_simp
      clear hg
      have c1 := (b0.cell (p := ⟨B, k, none⟩) hzB).trans hc
      have hM1 := hM.below b0
      obtain ⟨m0, m1⟩ := id hM1
      have HF := Lib.hid (hM1.set false)
      have HX : Hid (BelX M w.heap.size w (w1.setCell ⟨M, 0, none⟩ (.bool false))) := Lib.hid ⟨b0.os, b0.tape, b0.output, by simpa [World.setCell] using b0.size, fun j hj hne => (Below.heap_setCell w1 ⟨M, 0, none⟩ _ j hne).trans (b0.block j hj)⟩
      clear hM hc hM1 b0
      go_region
      all_goals (try go_wp2)
      all_goals exact bodyPost_end (v := .tuple #[]) (by simp [results, Try.results77, go_sem]) rfl ⟨rfl, HF.out, ⟨HX.out.os, HX.out.tape, HX.out.output, HX.out.size, HX.out.block⟩⟩
end Go.Proofs.Ytgdagfiebaebbaa
