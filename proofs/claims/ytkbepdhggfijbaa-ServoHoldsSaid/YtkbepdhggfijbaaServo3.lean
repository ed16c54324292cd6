/- The package servo: Sync, Bound. -/
import Derived.Test.YtkbepdhggfijbaaServo2
import Derived.Deep.RegionHeld3
namespace Go.Proofs.Ytkbepdhggfijbaa
open Go.RowKit Go.Shelf

def syE (L M p l m r : Int) : Int := if okS L M p then (if decide (l < L) || !okS l m r then 2 else 0) else 230
def syOk (L M p l m r : Int) : Bool := okS L M p && (!(decide (l < L)) && okS l m r)
def syD (L M p l m r : Int) : Int := if syOk L M p l m r then m - atS L M p l else 0
def syX (L M p l m r x : Int) : Int := if syOk L M p l m r then x else 0
/-- What Sync hands back: the next servo, the difference, the error. -/
def syV (L M p l m r : Int) : Value := .tuple #[.agg #[.int .i64 (syX L M p l m r l), .int .i64 (syX L M p l m r m), .int .i64 (syX L M p l m r r)], .int .i64 (syD L M p l m r), .int .i64 (syE L M p l m r)]
theorem sy_bad {L M p l m r : Int} (h : okS L M p = false) : syV L M p l m r = .tuple #[.agg #[.int .i64 0, .int .i64 0, .int .i64 0], .int .i64 0, .int .i64 230] := by
  unfold syV syX syD syE syOk; rw [h]; rfl
theorem sy_out {L M p l m r : Int} (h : okS L M p = true) (h2 : (decide (l < L) || !okS l m r) = true) : syV L M p l m r = .tuple #[.agg #[.int .i64 0, .int .i64 0, .int .i64 0], .int .i64 0, .int .i64 2] := by
  have : syOk L M p l m r = false := by
    unfold syOk; rw [h]
    cases a : decide (l < L) <;> cases b : okS l m r <;> simp_all
  unfold syV syX syD syE; rw [h, this, h2]; rfl
theorem sy_ok {L M p l m r : Int} (h : okS L M p = true) (h1 : ¬ l < L) (h2 : okS l m r = true) : syV L M p l m r = .tuple #[.agg #[.int .i64 l, .int .i64 m, .int .i64 r], .int .i64 (m - atS L M p l), .int .i64 0] := by
  have e : decide (l < L) = false := by simp; omega
  unfold syV syX syD syE syOk; rw [h, e, h2]; rfl
theorem ret_val {a b : Value} (h : a = b) : Ending.returned a = .returned b := by rw [h]
set_option maxRecDepth 100000 in
set_option maxHeartbeats 800000 in
theorem sync_any (L M p l m r : Int) (w : World) :
    Calls Try.prog 19 #[.agg #[.int .i64 L, .int .i64 M, .int .i64 p], .int .i64 l, .int .i64 m, .int .i64 r] w fun e w' => e = .returned (syV L M p l m r) ∧ Below w.heap.size w w' := by
  cases h : okS L M p
  · have HL := Lib.hid (sy_bad (l := l) (m := m) (r := r) h)
    have HK := Lib.hid (scheck_no h)
    clear h
    go_enter Try.func19, Try.ntmps19
    go_wp2_with fail
    refine (HK.out _).mono ?_
    rintro e w1 ⟨rfl, hb1⟩
    obtain ⟨hcl, hfr⟩ := bcell hb1
    have hz1 : w.heap.size + 1 < w1.heap.size := by have := hb1.size; simp at this; omega
    have hz0 : w.heap.size < w1.heap.size := by omega
    have k1 : w1.cell? ⟨w.heap.size, 0, none⟩ = some (.int .i64 L) := (hcl _ 0 (by simp <;> omega)).trans (by go_simp)
    have k2 : w1.cell? ⟨w.heap.size, 1, none⟩ = some (.int .i64 M) := (hcl _ 1 (by simp <;> omega)).trans (by go_simp)
    have k3 : w1.cell? ⟨w.heap.size, 2, none⟩ = some (.int .i64 p) := (hcl _ 2 (by simp <;> omega)).trans (by go_simp)
    have k4 : w1.cell? ⟨w.heap.size + 1, 0, none⟩ = some (.int .i64 0) := (hcl _ 0 (by simp <;> omega)).trans (by go_simp)
    have k5 : w1.cell? ⟨w.heap.size + 1, 1, none⟩ = some (.int .i64 0) := (hcl _ 1 (by simp <;> omega)).trans (by go_simp)
    have k6 : w1.cell? ⟨w.heap.size + 1, 2, none⟩ = some (.int .i64 0) := (hcl _ 2 (by simp <;> omega)).trans (by go_simp)
    have f1 : w1.frozen? ⟨w.heap.size + 1, 0, none⟩ = false := (hfr _ 0 (by simp <;> omega)).trans (by go_simp)
    have f2 : w1.frozen? ⟨w.heap.size + 1, 1, none⟩ = false := (hfr _ 1 (by simp <;> omega)).trans (by go_simp)
    have f3 : w1.frozen? ⟨w.heap.size + 1, 2, none⟩ = false := (hfr _ 2 (by simp <;> omega)).trans (by go_simp)
    have H1 : Below w.heap.size w w1 := (((Below.refl _ _).alloc (Nat.le_refl _) _).alloc (by simp) _).trans (hb1.mono (by simp <;> omega))
    clear hb1 hcl hfr
    go_wp2
    refine bodyPost_ret (v := .tuple #[.agg #[.int .i64 0, .int .i64 0, .int .i64 0], .int .i64 0, .int .i64 230]) (by simp [results, Try.results19, go_sem, k4, k5, k6]) rfl ⟨ret_val HL.out.symm, ?_⟩
    exact ((H1.setCell (by simp) _).setCell (by simp) _).setCell (by simp) _
  · have HK := Lib.hid (scheck_ok h)
    by_cases h1 : l < L
    · have HL := Lib.hid (sy_out (l := l) (m := m) (r := r) h (by simp [h1]))
      clear h
      go_enter Try.func19, Try.ntmps19
      go_wp2_with fail
      refine (HK.out _).mono ?_
      rintro e w1 ⟨rfl, hb1⟩
      obtain ⟨hcl, hfr⟩ := bcell hb1
      have hz1 : w.heap.size + 1 < w1.heap.size := by have := hb1.size; simp at this; omega
      have hz0 : w.heap.size < w1.heap.size := by omega
      have k1 : w1.cell? ⟨w.heap.size, 0, none⟩ = some (.int .i64 L) := (hcl _ 0 (by simp <;> omega)).trans (by go_simp)
      have k2 : w1.cell? ⟨w.heap.size, 1, none⟩ = some (.int .i64 M) := (hcl _ 1 (by simp <;> omega)).trans (by go_simp)
      have k3 : w1.cell? ⟨w.heap.size, 2, none⟩ = some (.int .i64 p) := (hcl _ 2 (by simp <;> omega)).trans (by go_simp)
      have k4 : w1.cell? ⟨w.heap.size + 1, 0, none⟩ = some (.int .i64 0) := (hcl _ 0 (by simp <;> omega)).trans (by go_simp)
      have k5 : w1.cell? ⟨w.heap.size + 1, 1, none⟩ = some (.int .i64 0) := (hcl _ 1 (by simp <;> omega)).trans (by go_simp)
      have k6 : w1.cell? ⟨w.heap.size + 1, 2, none⟩ = some (.int .i64 0) := (hcl _ 2 (by simp <;> omega)).trans (by go_simp)
      have f1 : w1.frozen? ⟨w.heap.size + 1, 0, none⟩ = false := (hfr _ 0 (by simp <;> omega)).trans (by go_simp)
      have f2 : w1.frozen? ⟨w.heap.size + 1, 1, none⟩ = false := (hfr _ 1 (by simp <;> omega)).trans (by go_simp)
      have f3 : w1.frozen? ⟨w.heap.size + 1, 2, none⟩ = false := (hfr _ 2 (by simp <;> omega)).trans (by go_simp)
      have H1 : Below w.heap.size w w1 := (((Below.refl _ _).alloc (Nat.le_refl _) _).alloc (by simp) _).trans (hb1.mono (by simp <;> omega))
      clear hb1 hcl hfr
      go_wp2
      refine bodyPost_ret (v := .tuple #[.agg #[.int .i64 0, .int .i64 0, .int .i64 0], .int .i64 0, .int .i64 2]) (by simp [results, Try.results19, go_sem, k4, k5, k6, hz1]) rfl ⟨ret_val HL.out.symm, ?_⟩
      exact (((H1.setCell (by simp) _).setCell (by simp) _).setCell (by simp) _).alloc (by have := H1.size; simpa using this) _
    · cases h2 : okS l m r
      · have HL := Lib.hid (sy_out (l := l) (m := m) (r := r) h (by rw [h2]; simp))
        have HN := Lib.hid (scheck_no h2)
        clear h h2
        go_enter Try.func19, Try.ntmps19
        go_wp2_with fail
        refine (HK.out _).mono ?_
        rintro e w1 ⟨rfl, hb1⟩
        obtain ⟨hcl, hfr⟩ := bcell hb1
        have hz1 : w.heap.size + 1 < w1.heap.size := by have := hb1.size; simp at this; omega
        have hz0 : w.heap.size < w1.heap.size := by omega
        have k1 : w1.cell? ⟨w.heap.size, 0, none⟩ = some (.int .i64 L) := (hcl _ 0 (by simp <;> omega)).trans (by go_simp)
        have k2 : w1.cell? ⟨w.heap.size, 1, none⟩ = some (.int .i64 M) := (hcl _ 1 (by simp <;> omega)).trans (by go_simp)
        have k3 : w1.cell? ⟨w.heap.size, 2, none⟩ = some (.int .i64 p) := (hcl _ 2 (by simp <;> omega)).trans (by go_simp)
        have k4 : w1.cell? ⟨w.heap.size + 1, 0, none⟩ = some (.int .i64 0) := (hcl _ 0 (by simp <;> omega)).trans (by go_simp)
        have k5 : w1.cell? ⟨w.heap.size + 1, 1, none⟩ = some (.int .i64 0) := (hcl _ 1 (by simp <;> omega)).trans (by go_simp)
        have k6 : w1.cell? ⟨w.heap.size + 1, 2, none⟩ = some (.int .i64 0) := (hcl _ 2 (by simp <;> omega)).trans (by go_simp)
        have f1 : w1.frozen? ⟨w.heap.size + 1, 0, none⟩ = false := (hfr _ 0 (by simp <;> omega)).trans (by go_simp)
        have f2 : w1.frozen? ⟨w.heap.size + 1, 1, none⟩ = false := (hfr _ 1 (by simp <;> omega)).trans (by go_simp)
        have f3 : w1.frozen? ⟨w.heap.size + 1, 2, none⟩ = false := (hfr _ 2 (by simp <;> omega)).trans (by go_simp)
        have H1 : Below w.heap.size w w1 := (((Below.refl _ _).alloc (Nat.le_refl _) _).alloc (by simp) _).trans (hb1.mono (by simp <;> omega))
        clear hb1 hcl hfr
        go_wp2_with fail
        refine (HN.out _).mono ?_
        rintro e w2 ⟨rfl, hb2⟩
        have hw1 : w1.heap.size < w2.heap.size := by have := hb2.size; simp at this; omega
        have H2 : Below w.heap.size w w2 := (H1.alloc H1.size (.cells #[.int .i64 l, .int .i64 m, .int .i64 r] 23)).trans (hb2.mono (by have := H1.size; simp; omega))
        have hz2 : w.heap.size + 1 < w2.heap.size := by omega
        have k4 := (hb2.cell (p := ⟨w.heap.size + 1, 0, none⟩) (by simp <;> omega)).trans (show _ = some (Value.int .i64 0) by go_simp)
        have k5 := (hb2.cell (p := ⟨w.heap.size + 1, 1, none⟩) (by simp <;> omega)).trans (show _ = some (Value.int .i64 0) by go_simp)
        have k6 := (hb2.cell (p := ⟨w.heap.size + 1, 2, none⟩) (by simp <;> omega)).trans (show _ = some (Value.int .i64 0) by go_simp)
        have f1 := (hb2.frozen (p := ⟨w.heap.size + 1, 0, none⟩) (by simp <;> omega)).trans (show _ = false by go_simp)
        have f2 := (hb2.frozen (p := ⟨w.heap.size + 1, 1, none⟩) (by simp <;> omega)).trans (show _ = false by go_simp)
        have f3 := (hb2.frozen (p := ⟨w.heap.size + 1, 2, none⟩) (by simp <;> omega)).trans (show _ = false by go_simp)
        clear hb2
        go_wp2
        refine bodyPost_ret (v := .tuple #[.agg #[.int .i64 0, .int .i64 0, .int .i64 0], .int .i64 0, .int .i64 2]) (by simp [results, Try.results19, go_sem, k4, k5, k6]) rfl ⟨ret_val HL.out.symm, ?_⟩
        exact ((H2.setCell (by simp) _).setCell (by simp) _).setCell (by simp) _
      · have HL := Lib.hid (sy_ok h h1 h2)
        have HN := Lib.hid (scheck_ok h2)
        have h3 := (okS_iff l m r).1 h2
        have HA := Lib.hid fun w => sat_any L M p l w h h3.1.1 h3.1.2
        have hlim := atS_lim h h3.1.1 h3.1.2
        generalize atS L M p l = a at *
        obtain ⟨-, h3m, -⟩ := h3
        have hsub : IntKind.i64.wrap (m - a) = m - a := IntWalk.i64_in _ (by omega)
        clear h h2
        go_enter Try.func19, Try.ntmps19
        go_wp2_with fail
        refine (HK.out _).mono ?_
        rintro e w1 ⟨rfl, hb1⟩
        obtain ⟨hcl, hfr⟩ := bcell hb1
        have hz1 : w.heap.size + 1 < w1.heap.size := by have := hb1.size; simp at this; omega
        have hz0 : w.heap.size < w1.heap.size := by omega
        have k1 : w1.cell? ⟨w.heap.size, 0, none⟩ = some (.int .i64 L) := (hcl _ 0 (by simp <;> omega)).trans (by go_simp)
        have k2 : w1.cell? ⟨w.heap.size, 1, none⟩ = some (.int .i64 M) := (hcl _ 1 (by simp <;> omega)).trans (by go_simp)
        have k3 : w1.cell? ⟨w.heap.size, 2, none⟩ = some (.int .i64 p) := (hcl _ 2 (by simp <;> omega)).trans (by go_simp)
        have k4 : w1.cell? ⟨w.heap.size + 1, 0, none⟩ = some (.int .i64 0) := (hcl _ 0 (by simp <;> omega)).trans (by go_simp)
        have k5 : w1.cell? ⟨w.heap.size + 1, 1, none⟩ = some (.int .i64 0) := (hcl _ 1 (by simp <;> omega)).trans (by go_simp)
        have k6 : w1.cell? ⟨w.heap.size + 1, 2, none⟩ = some (.int .i64 0) := (hcl _ 2 (by simp <;> omega)).trans (by go_simp)
        have f1 : w1.frozen? ⟨w.heap.size + 1, 0, none⟩ = false := (hfr _ 0 (by simp <;> omega)).trans (by go_simp)
        have f2 : w1.frozen? ⟨w.heap.size + 1, 1, none⟩ = false := (hfr _ 1 (by simp <;> omega)).trans (by go_simp)
        have f3 : w1.frozen? ⟨w.heap.size + 1, 2, none⟩ = false := (hfr _ 2 (by simp <;> omega)).trans (by go_simp)
        have H1 : Below w.heap.size w w1 := (((Below.refl _ _).alloc (Nat.le_refl _) _).alloc (by simp) _).trans (hb1.mono (by simp <;> omega))
        clear hb1 hcl hfr
        go_wp2_with fail
        refine (HN.out _).mono ?_
        rintro e w2 ⟨rfl, hb2⟩
        have hw1 : w1.heap.size < w2.heap.size := by have := hb2.size; simp at this; omega
        have H2 : Below w.heap.size w w2 := (H1.alloc H1.size (.cells #[.int .i64 l, .int .i64 m, .int .i64 r] 23)).trans (hb2.mono (by have := H1.size; simp; omega))
        have hz2 : w.heap.size + 1 < w2.heap.size := by omega
        have hz20 : w.heap.size < w2.heap.size := by omega
        have j1 := (hb2.cell (p := ⟨w.heap.size, 0, none⟩) (by simp <;> omega)).trans (show _ = some (Value.int .i64 L) by go_simp)
        have j2 := (hb2.cell (p := ⟨w.heap.size, 1, none⟩) (by simp <;> omega)).trans (show _ = some (Value.int .i64 M) by go_simp)
        have j3 := (hb2.cell (p := ⟨w.heap.size, 2, none⟩) (by simp <;> omega)).trans (show _ = some (Value.int .i64 p) by go_simp)
        have j4 := (hb2.cell (p := ⟨w.heap.size + 1, 0, none⟩) (by simp <;> omega)).trans (show _ = some (Value.int .i64 0) by go_simp)
        have j5 := (hb2.cell (p := ⟨w.heap.size + 1, 1, none⟩) (by simp <;> omega)).trans (show _ = some (Value.int .i64 0) by go_simp)
        have j6 := (hb2.cell (p := ⟨w.heap.size + 1, 2, none⟩) (by simp <;> omega)).trans (show _ = some (Value.int .i64 0) by go_simp)
        have j7 := (hb2.cell (p := ⟨w1.heap.size, 0, none⟩) (by simp)).trans (show _ = some (Value.int .i64 l) by go_simp)
        have j8 := (hb2.cell (p := ⟨w1.heap.size, 1, none⟩) (by simp)).trans (show _ = some (Value.int .i64 m) by go_simp)
        have j9 := (hb2.cell (p := ⟨w1.heap.size, 2, none⟩) (by simp)).trans (show _ = some (Value.int .i64 r) by go_simp)
        have g1 := (hb2.frozen (p := ⟨w.heap.size + 1, 0, none⟩) (by simp <;> omega)).trans (show _ = false by go_simp)
        have g2 := (hb2.frozen (p := ⟨w.heap.size + 1, 1, none⟩) (by simp <;> omega)).trans (show _ = false by go_simp)
        have g3 := (hb2.frozen (p := ⟨w.heap.size + 1, 2, none⟩) (by simp <;> omega)).trans (show _ = false by go_simp)
        clear hb2 k1 k2 k3 k4 k5 k6 f1 f2 f3
        go_wp2_with fail
        have hne1 : ¬ w1.heap.size = w.heap.size + 1 := by omega
        have hne2 : ¬ w.heap.size + 1 = w1.heap.size := by omega
        go_region_held3 (fun w' => w'.cell? ⟨w.heap.size, 0, none⟩ = some (.int .i64 L) ∧ w'.cell? ⟨w.heap.size, 1, none⟩ = some (.int .i64 M) ∧ w'.cell? ⟨w.heap.size, 2, none⟩ = some (.int .i64 p) ∧ w'.cell? ⟨w1.heap.size, 0, none⟩ = some (.int .i64 l) ∧ w'.cell? ⟨w1.heap.size, 1, none⟩ = some (.int .i64 m) ∧ w'.cell? ⟨w1.heap.size, 2, none⟩ = some (.int .i64 r))
          (first
            | exact ⟨j1, j2, j3, j7, j8, j9⟩
            | exact ⟨(hb.cell (p := ⟨w.heap.size, 0, none⟩) hz20).trans j1, (hb.cell (p := ⟨w.heap.size, 1, none⟩) hz20).trans j2, (hb.cell (p := ⟨w.heap.size, 2, none⟩) hz20).trans j3, (hb.cell (p := ⟨w1.heap.size, 0, none⟩) hw1).trans j7, (hb.cell (p := ⟨w1.heap.size, 1, none⟩) hw1).trans j8, (hb.cell (p := ⟨w1.heap.size, 2, none⟩) hw1).trans j9⟩
            | go_keep)
          ((go_at_call 27; refine (HA.out _).mono ?_; rintro e w3 ⟨rfl, hb⟩; have k4 := (hb.cell (p := ⟨w.heap.size + 1, 0, none⟩) hz2).trans j4; have k5 := (hb.cell (p := ⟨w.heap.size + 1, 1, none⟩) hz2).trans j5; have k6 := (hb.cell (p := ⟨w.heap.size + 1, 2, none⟩) hz2).trans j6; have f1 := (hb.frozen (p := ⟨w.heap.size + 1, 0, none⟩) hz2).trans g1; have f2 := (hb.frozen (p := ⟨w.heap.size + 1, 1, none⟩) hz2).trans g2; have f3 := (hb.frozen (p := ⟨w.heap.size + 1, 2, none⟩) hz2).trans g3; have H3 := H2.drew.trans (hb.mono H2.size)))
        go_wp2
        refine bodyPost_ret (v := .tuple #[.agg #[.int .i64 l, .int .i64 m, .int .i64 r], .int .i64 (m - a), .int .i64 0]) (by simp [results, Try.results19, go_sem, k4, k5, k6]) rfl ⟨ret_val HL.out.symm, ?_⟩
        exact ((H3.setCell (by simp) _).setCell (by simp) _).setCell (by simp) _
/-! ### Bound -/
def limB (e x r : Int) : Bool := decide (0 ≤ e) && (decide (0 ≤ x) && (decide (0 ≤ r) && lim3 e 4398046511104 x 4398046511104 r 8388608))
theorem limB_iff (e x r : Int) : limB e x r = true ↔ (0 ≤ e ∧ e ≤ 4398046511104) ∧ (0 ≤ x ∧ x ≤ 4398046511104) ∧ 0 ≤ r ∧ r ≤ 8388608 := by
  simp only [limB, lim3, lim, Bool.and_eq_true, decide_eq_true_eq]; omega
def sbV (e x r : Int) : Int := if limB e x r then e - (-x) * (r + 82) / 1000000000 + 3 else 0
def sbE (e x r : Int) : Int := if limB e x r then 0 else 2
set_option maxHeartbeats 800000 in
theorem sbound_any (e x r : Int) (w : World) :
    Calls Try.prog 21 #[.int .i64 e, .int .i64 x, .int .i64 r] w fun e' w' => e' = .returned (.tuple #[.int .i64 (sbV e x r), .int .i64 (sbE e x r)]) ∧ Below w.heap.size w w' := by
  have HH := Lib.hid fun w => holds_any e 4398046511104 x 4398046511104 r 8388608 w (by omega) (by omega) (by omega) (by omega) (by omega) (by omega)
  cases h : limB e x r
  · have HV : Hid (sbV e x r = 0 ∧ sbE e x r = 2) := Lib.hid (by unfold sbV sbE; rw [h]; exact ⟨rfl, rfl⟩)
    by_cases h1 : e < 0
    · clear h
      go_enter Try.func21, Try.ntmps21
      go_wp2
      go_ret2
      exact ⟨ret_int2 HV.out.1.symm HV.out.2.symm, Below.refl _ _⟩
    · by_cases h2 : x < 0
      · clear h
        go_enter Try.func21, Try.ntmps21
        go_wp2
        go_ret2
        exact ⟨ret_int2 HV.out.1.symm HV.out.2.symm, Below.refl _ _⟩
      · by_cases h3 : r < 0
        · clear h
          go_enter Try.func21, Try.ntmps21
          go_wp2
          go_ret2
          exact ⟨ret_int2 HV.out.1.symm HV.out.2.symm, Below.refl _ _⟩
        · have h4 : lim3 e 4398046511104 x 4398046511104 r 8388608 = false := by
            cases q : lim3 e 4398046511104 x 4398046511104 r 8388608
            · rfl
            · unfold limB at h
              rw [q, show decide (0 ≤ e) = true by simp; omega, show decide (0 ≤ x) = true by simp; omega, show decide (0 ≤ r) = true by simp; omega] at h
              cases h
          rw [h4] at HH
          clear h h4
          go_enter Try.func21, Try.ntmps21
          go_wp2_with (go_at_call 26; refine (HH.out _).mono ?_; rintro e w' ⟨rfl, hb⟩)
          go_ret2
          exact ⟨ret_int2 HV.out.1.symm HV.out.2.symm, hb⟩
  · have HV : sbV e x r = e - (-x) * (r + 82) / 1000000000 + 3 ∧ sbE e x r = 0 := by unfold sbV sbE; rw [h]; exact ⟨rfl, rfl⟩
    have h4 : lim3 e 4398046511104 x 4398046511104 r 8388608 = true := by
      unfold limB at h; simp only [Bool.and_eq_true] at h; exact h.2.2.2
    rw [h4] at HH
    rw [limB_iff] at h
    obtain ⟨⟨h1, h1'⟩, ⟨h2, h2'⟩, h3, h3'⟩ := h
    obtain ⟨q1, q2, hm⟩ := part_bd (x := -x) (p := r + 82) (by omega) (by omega) (by omega) (by omega)
    generalize -x * (r + 82) / 1000000000 = q at *
    have HM := Lib.hid hm
    have HV := Lib.hid HV
    clear h4 hm
    go_enter Try.func21, Try.ntmps21
    go_wp2_with (first
      | (go_at_call 26; refine (HH.out _).mono ?_; rintro e w' ⟨rfl, hb⟩)
      | (go_at_call 32; refine (muldiv_any _ _ _ _).mono ?_; rintro e w2 ⟨rfl, hb2⟩; rw [HM.out]))
    go_ret2
    exact ⟨ret_int2 HV.out.1.symm HV.out.2.symm, hb.trans (hb2.mono hb.size)⟩
end Go.Proofs.Ytkbepdhggfijbaa
