/- The reference of the layer servo: Sync. -/
import Derived.Test.YtkbepdhggfijbaaRef13b
import Derived.Deep.RegionHeld3
namespace Go.Proofs.Ytkbepdhggfijbaa
open Go.RowKit Go.Shelf

set_option maxRecDepth 100000 in
set_option maxHeartbeats 800000 in
theorem rsync_any (L M p l m r : Int) (w : World) :
    Calls Try.prog 20 #[.agg #[.int .i64 L, .int .i64 M, .int .i64 p], .int .i64 l, .int .i64 m, .int .i64 r] w fun e w' => e = .returned (syV L M p l m r) ∧ Below w.heap.size w w' := by
  cases h : okS L M p
  · have HL := Lib.hid (sy_bad (l := l) (m := m) (r := r) h)
    have HK := Lib.hid (rright_no h)
    clear h
    go_enter Try.func20, Try.ntmps20
    go_wp2_with fail
    refine (HK.out _).mono ?_
    rintro e w1 ⟨rfl, hb1⟩
    have hz12 : w.heap.size + 2 < w1.heap.size := by have := hb1.size; simp at this; omega
    have hz11 : w.heap.size + 1 < w1.heap.size := by omega
    have hz10 : w.heap.size < w1.heap.size := by omega
    have k0 : w1.cell? ⟨w.heap.size, 0, none⟩ = some (.int .i64 L) := (hb1.cell (p := ⟨w.heap.size, 0, none⟩) (by simp <;> omega)).trans (by go_simp)
    have k1 : w1.cell? ⟨w.heap.size, 1, none⟩ = some (.int .i64 M) := (hb1.cell (p := ⟨w.heap.size, 1, none⟩) (by simp <;> omega)).trans (by go_simp)
    have k2 : w1.cell? ⟨w.heap.size, 2, none⟩ = some (.int .i64 p) := (hb1.cell (p := ⟨w.heap.size, 2, none⟩) (by simp <;> omega)).trans (by go_simp)
    have k3 : w1.cell? ⟨w.heap.size + 1, 0, none⟩ = some (.int .i64 0) := (hb1.cell (p := ⟨w.heap.size + 1, 0, none⟩) (by simp <;> omega)).trans (by go_simp)
    have k4 : w1.cell? ⟨w.heap.size + 1, 1, none⟩ = some (.int .i64 0) := (hb1.cell (p := ⟨w.heap.size + 1, 1, none⟩) (by simp <;> omega)).trans (by go_simp)
    have k5 : w1.cell? ⟨w.heap.size + 1, 2, none⟩ = some (.int .i64 0) := (hb1.cell (p := ⟨w.heap.size + 1, 2, none⟩) (by simp <;> omega)).trans (by go_simp)
    have k6 : w1.cell? ⟨w.heap.size + 2, 0, none⟩ = some (.int .i64 l) := (hb1.cell (p := ⟨w.heap.size + 2, 0, none⟩) (by simp <;> omega)).trans (by go_simp)
    have k7 : w1.cell? ⟨w.heap.size + 2, 1, none⟩ = some (.int .i64 m) := (hb1.cell (p := ⟨w.heap.size + 2, 1, none⟩) (by simp <;> omega)).trans (by go_simp)
    have k8 : w1.cell? ⟨w.heap.size + 2, 2, none⟩ = some (.int .i64 r) := (hb1.cell (p := ⟨w.heap.size + 2, 2, none⟩) (by simp <;> omega)).trans (by go_simp)
    have f0 : w1.frozen? ⟨w.heap.size + 1, 0, none⟩ = false := (hb1.frozen (p := ⟨w.heap.size + 1, 0, none⟩) (by simp <;> omega)).trans (by go_simp)
    have f1 : w1.frozen? ⟨w.heap.size + 1, 1, none⟩ = false := (hb1.frozen (p := ⟨w.heap.size + 1, 1, none⟩) (by simp <;> omega)).trans (by go_simp)
    have f2 : w1.frozen? ⟨w.heap.size + 1, 2, none⟩ = false := (hb1.frozen (p := ⟨w.heap.size + 1, 2, none⟩) (by simp <;> omega)).trans (by go_simp)
    have H1 : Below w.heap.size w w1 := ((((Below.refl _ _).alloc (Nat.le_refl _) _).alloc (by simp) _).alloc (by simp; omega) _).trans (hb1.mono (by simp <;> omega))
    clear hb1
    go_wp2
    refine bodyPost_ret (v := .tuple #[.agg #[.int .i64 0, .int .i64 0, .int .i64 0], .int .i64 0, .int .i64 230]) (by simp [results, Try.results20, go_sem, k3, k4, k5]) rfl ⟨ret_val HL.out.symm, ?_⟩
    exact ((H1.setCell (by simp) _).setCell (by simp) _).setCell (by simp) _
  · have HK := Lib.hid (rright_ok h)
    by_cases h1 : l < L
    · have HL := Lib.hid (sy_out (l := l) (m := m) (r := r) h (by simp [h1]))
      clear h
      go_enter Try.func20, Try.ntmps20
      go_wp2_with fail
      refine (HK.out _).mono ?_
      rintro e w1 ⟨rfl, hb1⟩
      have hz12 : w.heap.size + 2 < w1.heap.size := by have := hb1.size; simp at this; omega
      have hz11 : w.heap.size + 1 < w1.heap.size := by omega
      have hz10 : w.heap.size < w1.heap.size := by omega
      have k0 : w1.cell? ⟨w.heap.size, 0, none⟩ = some (.int .i64 L) := (hb1.cell (p := ⟨w.heap.size, 0, none⟩) (by simp <;> omega)).trans (by go_simp)
      have k1 : w1.cell? ⟨w.heap.size, 1, none⟩ = some (.int .i64 M) := (hb1.cell (p := ⟨w.heap.size, 1, none⟩) (by simp <;> omega)).trans (by go_simp)
      have k2 : w1.cell? ⟨w.heap.size, 2, none⟩ = some (.int .i64 p) := (hb1.cell (p := ⟨w.heap.size, 2, none⟩) (by simp <;> omega)).trans (by go_simp)
      have k3 : w1.cell? ⟨w.heap.size + 1, 0, none⟩ = some (.int .i64 0) := (hb1.cell (p := ⟨w.heap.size + 1, 0, none⟩) (by simp <;> omega)).trans (by go_simp)
      have k4 : w1.cell? ⟨w.heap.size + 1, 1, none⟩ = some (.int .i64 0) := (hb1.cell (p := ⟨w.heap.size + 1, 1, none⟩) (by simp <;> omega)).trans (by go_simp)
      have k5 : w1.cell? ⟨w.heap.size + 1, 2, none⟩ = some (.int .i64 0) := (hb1.cell (p := ⟨w.heap.size + 1, 2, none⟩) (by simp <;> omega)).trans (by go_simp)
      have k6 : w1.cell? ⟨w.heap.size + 2, 0, none⟩ = some (.int .i64 l) := (hb1.cell (p := ⟨w.heap.size + 2, 0, none⟩) (by simp <;> omega)).trans (by go_simp)
      have k7 : w1.cell? ⟨w.heap.size + 2, 1, none⟩ = some (.int .i64 m) := (hb1.cell (p := ⟨w.heap.size + 2, 1, none⟩) (by simp <;> omega)).trans (by go_simp)
      have k8 : w1.cell? ⟨w.heap.size + 2, 2, none⟩ = some (.int .i64 r) := (hb1.cell (p := ⟨w.heap.size + 2, 2, none⟩) (by simp <;> omega)).trans (by go_simp)
      have f0 : w1.frozen? ⟨w.heap.size + 1, 0, none⟩ = false := (hb1.frozen (p := ⟨w.heap.size + 1, 0, none⟩) (by simp <;> omega)).trans (by go_simp)
      have f1 : w1.frozen? ⟨w.heap.size + 1, 1, none⟩ = false := (hb1.frozen (p := ⟨w.heap.size + 1, 1, none⟩) (by simp <;> omega)).trans (by go_simp)
      have f2 : w1.frozen? ⟨w.heap.size + 1, 2, none⟩ = false := (hb1.frozen (p := ⟨w.heap.size + 1, 2, none⟩) (by simp <;> omega)).trans (by go_simp)
      have H1 : Below w.heap.size w w1 := ((((Below.refl _ _).alloc (Nat.le_refl _) _).alloc (by simp) _).alloc (by simp; omega) _).trans (hb1.mono (by simp <;> omega))
      clear hb1
      go_wp2
      refine bodyPost_ret (v := .tuple #[.agg #[.int .i64 0, .int .i64 0, .int .i64 0], .int .i64 0, .int .i64 2]) (by simp [results, Try.results20, go_sem, k3, k4, k5]) rfl ⟨ret_val HL.out.symm, ?_⟩
      exact ((H1.setCell (by simp) _).setCell (by simp) _).setCell (by simp) _
    · cases h2 : okS l m r
      · have HL := Lib.hid (sy_out (l := l) (m := m) (r := r) h (by rw [h2]; simp))
        have HN := Lib.hid (rright_no h2)
        clear h h2
        go_enter Try.func20, Try.ntmps20
        go_wp2_with fail
        refine (HK.out _).mono ?_
        rintro e w1 ⟨rfl, hb1⟩
        have hz12 : w.heap.size + 2 < w1.heap.size := by have := hb1.size; simp at this; omega
        have hz11 : w.heap.size + 1 < w1.heap.size := by omega
        have hz10 : w.heap.size < w1.heap.size := by omega
        have k0 : w1.cell? ⟨w.heap.size, 0, none⟩ = some (.int .i64 L) := (hb1.cell (p := ⟨w.heap.size, 0, none⟩) (by simp <;> omega)).trans (by go_simp)
        have k1 : w1.cell? ⟨w.heap.size, 1, none⟩ = some (.int .i64 M) := (hb1.cell (p := ⟨w.heap.size, 1, none⟩) (by simp <;> omega)).trans (by go_simp)
        have k2 : w1.cell? ⟨w.heap.size, 2, none⟩ = some (.int .i64 p) := (hb1.cell (p := ⟨w.heap.size, 2, none⟩) (by simp <;> omega)).trans (by go_simp)
        have k3 : w1.cell? ⟨w.heap.size + 1, 0, none⟩ = some (.int .i64 0) := (hb1.cell (p := ⟨w.heap.size + 1, 0, none⟩) (by simp <;> omega)).trans (by go_simp)
        have k4 : w1.cell? ⟨w.heap.size + 1, 1, none⟩ = some (.int .i64 0) := (hb1.cell (p := ⟨w.heap.size + 1, 1, none⟩) (by simp <;> omega)).trans (by go_simp)
        have k5 : w1.cell? ⟨w.heap.size + 1, 2, none⟩ = some (.int .i64 0) := (hb1.cell (p := ⟨w.heap.size + 1, 2, none⟩) (by simp <;> omega)).trans (by go_simp)
        have k6 : w1.cell? ⟨w.heap.size + 2, 0, none⟩ = some (.int .i64 l) := (hb1.cell (p := ⟨w.heap.size + 2, 0, none⟩) (by simp <;> omega)).trans (by go_simp)
        have k7 : w1.cell? ⟨w.heap.size + 2, 1, none⟩ = some (.int .i64 m) := (hb1.cell (p := ⟨w.heap.size + 2, 1, none⟩) (by simp <;> omega)).trans (by go_simp)
        have k8 : w1.cell? ⟨w.heap.size + 2, 2, none⟩ = some (.int .i64 r) := (hb1.cell (p := ⟨w.heap.size + 2, 2, none⟩) (by simp <;> omega)).trans (by go_simp)
        have f0 : w1.frozen? ⟨w.heap.size + 1, 0, none⟩ = false := (hb1.frozen (p := ⟨w.heap.size + 1, 0, none⟩) (by simp <;> omega)).trans (by go_simp)
        have f1 : w1.frozen? ⟨w.heap.size + 1, 1, none⟩ = false := (hb1.frozen (p := ⟨w.heap.size + 1, 1, none⟩) (by simp <;> omega)).trans (by go_simp)
        have f2 : w1.frozen? ⟨w.heap.size + 1, 2, none⟩ = false := (hb1.frozen (p := ⟨w.heap.size + 1, 2, none⟩) (by simp <;> omega)).trans (by go_simp)
        have H1 : Below w.heap.size w w1 := ((((Below.refl _ _).alloc (Nat.le_refl _) _).alloc (by simp) _).alloc (by simp; omega) _).trans (hb1.mono (by simp <;> omega))
        clear hb1
        go_wp2_with fail
        refine (HN.out _).mono ?_
        rintro e w2 ⟨rfl, hb2⟩
        have hz22 := Nat.lt_of_lt_of_le hz12 hb2.size
        have hz21 := Nat.lt_of_lt_of_le hz11 hb2.size
        have hz20 := Nat.lt_of_lt_of_le hz10 hb2.size
        have j0 := (hb2.cell (p := ⟨w.heap.size, 0, none⟩) hz10).trans k0
        have j1 := (hb2.cell (p := ⟨w.heap.size, 1, none⟩) hz10).trans k1
        have j2 := (hb2.cell (p := ⟨w.heap.size, 2, none⟩) hz10).trans k2
        have j3 := (hb2.cell (p := ⟨w.heap.size + 1, 0, none⟩) hz11).trans k3
        have j4 := (hb2.cell (p := ⟨w.heap.size + 1, 1, none⟩) hz11).trans k4
        have j5 := (hb2.cell (p := ⟨w.heap.size + 1, 2, none⟩) hz11).trans k5
        have j6 := (hb2.cell (p := ⟨w.heap.size + 2, 0, none⟩) hz12).trans k6
        have j7 := (hb2.cell (p := ⟨w.heap.size + 2, 1, none⟩) hz12).trans k7
        have j8 := (hb2.cell (p := ⟨w.heap.size + 2, 2, none⟩) hz12).trans k8
        have g0 := (hb2.frozen (p := ⟨w.heap.size + 1, 0, none⟩) hz11).trans f0
        have g1 := (hb2.frozen (p := ⟨w.heap.size + 1, 1, none⟩) hz11).trans f1
        have g2 := (hb2.frozen (p := ⟨w.heap.size + 1, 2, none⟩) hz11).trans f2
        have H2 := H1.trans (hb2.mono H1.size)
        clear hb2 k0 k1 k2 k3 k4 k5 k6 k7 k8 f0 f1 f2
        go_wp2
        refine bodyPost_ret (v := .tuple #[.agg #[.int .i64 0, .int .i64 0, .int .i64 0], .int .i64 0, .int .i64 2]) (by simp [results, Try.results20, go_sem, j3, j4, j5]) rfl ⟨ret_val HL.out.symm, ?_⟩
        exact ((H2.setCell (by simp) _).setCell (by simp) _).setCell (by simp) _
      · have HL := Lib.hid (sy_ok h h1 h2)
        have HN := Lib.hid (rright_ok h2)
        have h3 := (okS_iff l m r).1 h2
        have HA := Lib.hid fun w => rat_any L M p l w h h3.1.1 h3.1.2
        have hlim := atS_lim h h3.1.1 h3.1.2
        generalize atS L M p l = a at *
        obtain ⟨-, h3m, -⟩ := h3
        have hsub : IntKind.i64.wrap (m - a) = m - a := IntWalk.i64_in _ (by omega)
        clear h h2
        go_enter Try.func20, Try.ntmps20
        go_wp2_with fail
        refine (HK.out _).mono ?_
        rintro e w1 ⟨rfl, hb1⟩
        have hz12 : w.heap.size + 2 < w1.heap.size := by have := hb1.size; simp at this; omega
        have hz11 : w.heap.size + 1 < w1.heap.size := by omega
        have hz10 : w.heap.size < w1.heap.size := by omega
        have k0 : w1.cell? ⟨w.heap.size, 0, none⟩ = some (.int .i64 L) := (hb1.cell (p := ⟨w.heap.size, 0, none⟩) (by simp <;> omega)).trans (by go_simp)
        have k1 : w1.cell? ⟨w.heap.size, 1, none⟩ = some (.int .i64 M) := (hb1.cell (p := ⟨w.heap.size, 1, none⟩) (by simp <;> omega)).trans (by go_simp)
        have k2 : w1.cell? ⟨w.heap.size, 2, none⟩ = some (.int .i64 p) := (hb1.cell (p := ⟨w.heap.size, 2, none⟩) (by simp <;> omega)).trans (by go_simp)
        have k3 : w1.cell? ⟨w.heap.size + 1, 0, none⟩ = some (.int .i64 0) := (hb1.cell (p := ⟨w.heap.size + 1, 0, none⟩) (by simp <;> omega)).trans (by go_simp)
        have k4 : w1.cell? ⟨w.heap.size + 1, 1, none⟩ = some (.int .i64 0) := (hb1.cell (p := ⟨w.heap.size + 1, 1, none⟩) (by simp <;> omega)).trans (by go_simp)
        have k5 : w1.cell? ⟨w.heap.size + 1, 2, none⟩ = some (.int .i64 0) := (hb1.cell (p := ⟨w.heap.size + 1, 2, none⟩) (by simp <;> omega)).trans (by go_simp)
        have k6 : w1.cell? ⟨w.heap.size + 2, 0, none⟩ = some (.int .i64 l) := (hb1.cell (p := ⟨w.heap.size + 2, 0, none⟩) (by simp <;> omega)).trans (by go_simp)
        have k7 : w1.cell? ⟨w.heap.size + 2, 1, none⟩ = some (.int .i64 m) := (hb1.cell (p := ⟨w.heap.size + 2, 1, none⟩) (by simp <;> omega)).trans (by go_simp)
        have k8 : w1.cell? ⟨w.heap.size + 2, 2, none⟩ = some (.int .i64 r) := (hb1.cell (p := ⟨w.heap.size + 2, 2, none⟩) (by simp <;> omega)).trans (by go_simp)
        have f0 : w1.frozen? ⟨w.heap.size + 1, 0, none⟩ = false := (hb1.frozen (p := ⟨w.heap.size + 1, 0, none⟩) (by simp <;> omega)).trans (by go_simp)
        have f1 : w1.frozen? ⟨w.heap.size + 1, 1, none⟩ = false := (hb1.frozen (p := ⟨w.heap.size + 1, 1, none⟩) (by simp <;> omega)).trans (by go_simp)
        have f2 : w1.frozen? ⟨w.heap.size + 1, 2, none⟩ = false := (hb1.frozen (p := ⟨w.heap.size + 1, 2, none⟩) (by simp <;> omega)).trans (by go_simp)
        have H1 : Below w.heap.size w w1 := ((((Below.refl _ _).alloc (Nat.le_refl _) _).alloc (by simp) _).alloc (by simp; omega) _).trans (hb1.mono (by simp <;> omega))
        clear hb1
        go_wp2_with fail
        refine (HN.out _).mono ?_
        rintro e w2 ⟨rfl, hb2⟩
        have hz22 := Nat.lt_of_lt_of_le hz12 hb2.size
        have hz21 := Nat.lt_of_lt_of_le hz11 hb2.size
        have hz20 := Nat.lt_of_lt_of_le hz10 hb2.size
        have j0 := (hb2.cell (p := ⟨w.heap.size, 0, none⟩) hz10).trans k0
        have j1 := (hb2.cell (p := ⟨w.heap.size, 1, none⟩) hz10).trans k1
        have j2 := (hb2.cell (p := ⟨w.heap.size, 2, none⟩) hz10).trans k2
        have j3 := (hb2.cell (p := ⟨w.heap.size + 1, 0, none⟩) hz11).trans k3
        have j4 := (hb2.cell (p := ⟨w.heap.size + 1, 1, none⟩) hz11).trans k4
        have j5 := (hb2.cell (p := ⟨w.heap.size + 1, 2, none⟩) hz11).trans k5
        have j6 := (hb2.cell (p := ⟨w.heap.size + 2, 0, none⟩) hz12).trans k6
        have j7 := (hb2.cell (p := ⟨w.heap.size + 2, 1, none⟩) hz12).trans k7
        have j8 := (hb2.cell (p := ⟨w.heap.size + 2, 2, none⟩) hz12).trans k8
        have g0 := (hb2.frozen (p := ⟨w.heap.size + 1, 0, none⟩) hz11).trans f0
        have g1 := (hb2.frozen (p := ⟨w.heap.size + 1, 1, none⟩) hz11).trans f1
        have g2 := (hb2.frozen (p := ⟨w.heap.size + 1, 2, none⟩) hz11).trans f2
        have H2 := H1.trans (hb2.mono H1.size)
        clear hb2 k0 k1 k2 k3 k4 k5 k6 k7 k8 f0 f1 f2
        go_wp2_with fail
        go_region_held3 (fun w' => w'.cell? ⟨w.heap.size, 0, none⟩ = some (.int .i64 L) ∧ w'.cell? ⟨w.heap.size, 1, none⟩ = some (.int .i64 M) ∧ w'.cell? ⟨w.heap.size, 2, none⟩ = some (.int .i64 p) ∧ w'.cell? ⟨w.heap.size + 2, 0, none⟩ = some (.int .i64 l) ∧ w'.cell? ⟨w.heap.size + 2, 1, none⟩ = some (.int .i64 m) ∧ w'.cell? ⟨w.heap.size + 2, 2, none⟩ = some (.int .i64 r))
          (first
            | exact ⟨j0, j1, j2, j6, j7, j8⟩
            | exact ⟨(hb.cell (p := ⟨w.heap.size, 0, none⟩) hz20).trans j0, (hb.cell (p := ⟨w.heap.size, 1, none⟩) hz20).trans j1, (hb.cell (p := ⟨w.heap.size, 2, none⟩) hz20).trans j2, (hb.cell (p := ⟨w.heap.size + 2, 0, none⟩) hz22).trans j6, (hb.cell (p := ⟨w.heap.size + 2, 1, none⟩) hz22).trans j7, (hb.cell (p := ⟨w.heap.size + 2, 2, none⟩) hz22).trans j8⟩
            | go_keep)
          ((go_at_call 29; refine (HA.out _).mono ?_; rintro e w3 ⟨rfl, hb⟩; have k3 := (hb.cell (p := ⟨w.heap.size + 1, 0, none⟩) hz21).trans j3; have k4 := (hb.cell (p := ⟨w.heap.size + 1, 1, none⟩) hz21).trans j4; have k5 := (hb.cell (p := ⟨w.heap.size + 1, 2, none⟩) hz21).trans j5; have f0 := (hb.frozen (p := ⟨w.heap.size + 1, 0, none⟩) hz21).trans g0; have f1 := (hb.frozen (p := ⟨w.heap.size + 1, 1, none⟩) hz21).trans g1; have f2 := (hb.frozen (p := ⟨w.heap.size + 1, 2, none⟩) hz21).trans g2; have H3 := H2.drew.trans (hb.mono H2.size)))
        go_wp2
        refine bodyPost_ret (v := .tuple #[.agg #[.int .i64 l, .int .i64 m, .int .i64 r], .int .i64 (m - a), .int .i64 0]) (by simp [results, Try.results20, go_sem, k3, k4, k5]) rfl ⟨ret_val HL.out.symm, ?_⟩
        exact ((H3.setCell (by simp) _).setCell (by simp) _).setCell (by simp) _
end Go.Proofs.Ytkbepdhggfijbaa
