/- The package num: Add, Sub, Mul, FloorDiv, CeilDiv, Mod: what they compute. -/
import Derived.Test.YtikojcakkmmebaaDoorNum
namespace Go.Proofs.YtikojcakkmmebaaDoor
open Go.RowKit

theorem floor_of' (a b : Int) (hb : 0 < b) : a / b = if a.tmod b < 0 then a.tdiv b - 1 else a.tdiv b := by
  have e := Int.mul_tdiv_add_tmod a b
  rw [Int.mul_comm] at e
  split
  · have m1 : -b < a.tmod b := by
      have := Int.tmod_lt_of_pos (-a) hb
      rw [Int.neg_tmod] at this; omega
    refine ediv_eq hb ?_ ?_
    · rw [Int.sub_mul]; omega
    · rw [Int.add_mul, Int.sub_mul]; omega
  · have m1 := Int.tmod_lt_of_pos a hb
    refine ediv_eq hb ?_ ?_
    · omega
    · rw [Int.add_mul]; omega
theorem tdiv_in {a b : Int} (h0 : -1125899906842624 ≤ a) (h1 : a ≤ 1125899906842624) : -1125899906842624 ≤ a.tdiv b ∧ a.tdiv b ≤ 1125899906842624 := by
  have h := Int.natAbs_tdiv a b
  have := Nat.div_le_self a.natAbs b.natAbs
  have e : (a.tdiv b).natAbs = a.natAbs / b.natAbs := h
  omega
def sumOk (a b : Int) : Bool := inR a && inR b && inR (a + b)
def sumV (a b : Int) : Int := if sumOk a b then a + b else 0
def difOk (a b : Int) : Bool := inR a && inR b && inR (a - b)
def difV (a b : Int) : Int := if difOk a b then a - b else 0
def dvOk (a b : Int) : Bool := inR a && inR b && decide (1 ≤ b)
def dvV (a b : Int) : Int := if dvOk a b then a / b else 0
def clV (a b : Int) : Int := if dvOk a b then -(-a / b) else 0
def mdV (a b : Int) : Int := if dvOk a b then a - a / b * b else 0
theorem fit_is {n v : Int} {ok : Bool} (hv : v = if ok then n else 0) (ho : ok = inR n) : fitI n = v ∧ inR n = ok := by
  subst hv; rw [ho]; exact ⟨rfl, rfl⟩

set_option maxHeartbeats 400000 in
theorem add_any (a b : Int) (w : World) :
    Calls Tryd.prog 26 #[.int .i64 a, .int .i64 b] w fun e w' => e = .returned (.tuple #[.int .i64 (sumV a b), .bool (sumOk a b)]) ∧ Below w.heap.size w w' := by
  cases hr : inR a && inR b
  · have H : Hid (sumV a b = 0 ∧ sumOk a b = false) := Lib.hid (by unfold sumV sumOk; rw [hr]; exact ⟨rfl, rfl⟩)
    have HR := Lib.hid hr
    clear hr
    go_enter Tryd.func26, Tryd.ntmps26
    go_wp2_with (go_at_call 33; refine (within2 a b _ _ (by simp [World.cell?_alloc_new]) (by simp [World.cell?_alloc_new])).mono ?_; rintro e w' ⟨rfl, rfl⟩; rw [HR.out])
    go_ret2
    exact ⟨ret_ib H.out.1.symm H.out.2.symm, (Below.refl _ _).alloc (Nat.le_refl _) _⟩
  · have H : Hid (fitI (a + b) = sumV a b ∧ inR (a + b) = sumOk a b) := Lib.hid (fit_is rfl (by unfold sumOk; rw [hr]; rfl))
    have HR := Lib.hid hr
    rw [Bool.and_eq_true, inR_iff, inR_iff] at hr
    obtain ⟨⟨a0, a1⟩, b0, b1⟩ := hr
    go_enter Tryd.func26, Tryd.ntmps26
    go_wp2_with (first
      | (go_at_call 33; refine (within2 a b _ _ (by simp [World.cell?_alloc_new]) (by simp [World.cell?_alloc_new])).mono ?_; rintro e w' ⟨rfl, rfl⟩; rw [HR.out])
      | (go_at_call 38; refine (fit_any (a + b) _).mono ?_; rintro e w' ⟨rfl, hb⟩))
    go_ret2
    exact ⟨ret_ib H.out.1 H.out.2, ((Below.refl _ _).alloc (Nat.le_refl _) _).trans (hb.mono (by simp))⟩
set_option maxHeartbeats 400000 in
theorem sub_any (a b : Int) (w : World) :
    Calls Tryd.prog 28 #[.int .i64 a, .int .i64 b] w fun e w' => e = .returned (.tuple #[.int .i64 (difV a b), .bool (difOk a b)]) ∧ Below w.heap.size w w' := by
  cases hr : inR a && inR b
  · have H : Hid (difV a b = 0 ∧ difOk a b = false) := Lib.hid (by unfold difV difOk; rw [hr]; exact ⟨rfl, rfl⟩)
    have HR := Lib.hid hr
    clear hr
    go_enter Tryd.func28, Tryd.ntmps28
    go_wp2_with (go_at_call 33; refine (within2 a b _ _ (by simp [World.cell?_alloc_new]) (by simp [World.cell?_alloc_new])).mono ?_; rintro e w' ⟨rfl, rfl⟩; rw [HR.out])
    go_ret2
    exact ⟨ret_ib H.out.1.symm H.out.2.symm, (Below.refl _ _).alloc (Nat.le_refl _) _⟩
  · have H : Hid (fitI (a - b) = difV a b ∧ inR (a - b) = difOk a b) := Lib.hid (fit_is rfl (by unfold difOk; rw [hr]; rfl))
    have HR := Lib.hid hr
    rw [Bool.and_eq_true, inR_iff, inR_iff] at hr
    obtain ⟨⟨a0, a1⟩, b0, b1⟩ := hr
    go_enter Tryd.func28, Tryd.ntmps28
    go_wp2_with (first
      | (go_at_call 33; refine (within2 a b _ _ (by simp [World.cell?_alloc_new]) (by simp [World.cell?_alloc_new])).mono ?_; rintro e w' ⟨rfl, rfl⟩; rw [HR.out])
      | (go_at_call 38; refine (fit_any (a - b) _).mono ?_; rintro e w' ⟨rfl, hb⟩))
    go_ret2
    exact ⟨ret_ib H.out.1 H.out.2, ((Below.refl _ _).alloc (Nat.le_refl _) _).trans (hb.mono (by simp))⟩
set_option maxHeartbeats 400000 in
theorem mul_any (a b : Int) (w : World) :
    Calls Tryd.prog 30 #[.int .i64 a, .int .i64 b] w fun e w' => e = .returned (.tuple #[.int .i64 (md a b 1), .bool (mdOk a b 1)]) ∧ Below w.heap.size w w' := by
  go_enter Tryd.func30, Tryd.ntmps30
  go_wp2_with (go_at_call 19; refine (muldiv_any a b 1 _).mono ?_; rintro e w' ⟨rfl, hb⟩)
  go_ret2
  exact ⟨rfl, hb⟩
set_option maxHeartbeats 400000 in
theorem floordiv_any (a b : Int) (w : World) :
    Calls Tryd.prog 12 #[.int .i64 a, .int .i64 b] w fun e w' => e = .returned (.tuple #[.int .i64 (dvV a b), .bool (dvOk a b)]) ∧ Below w.heap.size w w' := by
  cases hr : inR a && inR b
  · have H : Hid (dvV a b = 0 ∧ dvOk a b = false) := Lib.hid (by unfold dvV dvOk; rw [hr]; exact ⟨rfl, rfl⟩)
    have HR := Lib.hid hr
    clear hr
    go_enter Tryd.func12, Tryd.ntmps12
    go_wp2_with (go_at_call 33; refine (within2 a b _ _ (by simp [World.cell?_alloc_new]) (by simp [World.cell?_alloc_new])).mono ?_; rintro e w' ⟨rfl, rfl⟩; rw [HR.out])
    go_ret2
    exact ⟨ret_ib H.out.1.symm H.out.2.symm, (Below.refl _ _).alloc (Nat.le_refl _) _⟩
  · by_cases hb : 1 ≤ b
    · have H : Hid (dvV a b = a / b ∧ dvOk a b = true) := Lib.hid (by unfold dvV dvOk; rw [hr]; simp [hb])
      have HR := Lib.hid hr
      have HF := Lib.hid (floor_of' a b (by omega))
      rw [Bool.and_eq_true, inR_iff, inR_iff] at hr
      obtain ⟨⟨a0, a1⟩, b0, b1⟩ := hr
      obtain ⟨q0, q1⟩ := tdiv_in (b := b) a0 a1
      have hbn : (b == 0) = false := by simp; omega
      by_cases hm : a.tmod b < 0
      · have HF2 : Hid (a.tdiv b - 1 = a / b) := Lib.hid (by rw [HF.out, if_pos hm])
        clear HF
        by_cases ha : 0 ≤ a
        · exfalso
          have := Int.tmod_nonneg b ha
          omega
        · generalize hqq : a.tdiv b = q at *
          generalize hrr : a.tmod b = r at *
          have HQ := Lib.hid hqq
          have HRR := Lib.hid hrr
          go_enter Tryd.func12, Tryd.ntmps12
          go_wp2_with (go_at_call 33; refine (within2 a b _ _ (by simp [World.cell?_alloc_new]) (by simp [World.cell?_alloc_new])).mono ?_; rintro e w' ⟨rfl, rfl⟩; rw [HR.out])
          go_ret2
          exact ⟨ret_ib (HF2.out.trans H.out.1.symm) H.out.2.symm, (Below.refl _ _).alloc (Nat.le_refl _) _⟩
      · have HF2 : Hid (a.tdiv b = a / b) := Lib.hid (by rw [HF.out, if_neg hm])
        clear HF
        by_cases ha : 0 ≤ a
        · have hm2 := Int.emod_nonneg a (show b ≠ 0 by omega)
          have hm3 := Int.emod_lt_of_pos a (show 0 < b by omega)
          go_enter Tryd.func12, Tryd.ntmps12
          go_wp2_with (go_at_call 33; refine (within2 a b _ _ (by simp [World.cell?_alloc_new]) (by simp [World.cell?_alloc_new])).mono ?_; rintro e w' ⟨rfl, rfl⟩; rw [HR.out])
          go_ret2
          exact ⟨ret_ib (HF2.out.trans H.out.1.symm) H.out.2.symm, (Below.refl _ _).alloc (Nat.le_refl _) _⟩
        · generalize hqq : a.tdiv b = q at *
          generalize hrr : a.tmod b = r at *
          have HQ := Lib.hid hqq
          have HRR := Lib.hid hrr
          go_enter Tryd.func12, Tryd.ntmps12
          go_wp2_with (go_at_call 33; refine (within2 a b _ _ (by simp [World.cell?_alloc_new]) (by simp [World.cell?_alloc_new])).mono ?_; rintro e w' ⟨rfl, rfl⟩; rw [HR.out])
          go_ret2
          exact ⟨ret_ib (HF2.out.trans H.out.1.symm) H.out.2.symm, (Below.refl _ _).alloc (Nat.le_refl _) _⟩
    · have H : Hid (dvV a b = 0 ∧ dvOk a b = false) := Lib.hid (by unfold dvV dvOk; rw [hr]; simp [hb])
      have HR := Lib.hid hr
      clear hr
      go_enter Tryd.func12, Tryd.ntmps12
      go_wp2_with (go_at_call 33; refine (within2 a b _ _ (by simp [World.cell?_alloc_new]) (by simp [World.cell?_alloc_new])).mono ?_; rintro e w' ⟨rfl, rfl⟩; rw [HR.out])
      go_ret2
      exact ⟨ret_ib H.out.1.symm H.out.2.symm, (Below.refl _ _).alloc (Nat.le_refl _) _⟩
theorem div_bd {a b : Int} (h : dvOk a b = true) : -1125899906842624 ≤ a / b ∧ a / b ≤ 1125899906842624 := by
  unfold dvOk at h
  rw [Bool.and_eq_true, Bool.and_eq_true, inR_iff, inR_iff, decide_eq_true_eq] at h
  obtain ⟨⟨⟨a0, a1⟩, _⟩, hb⟩ := h
  have ht := tdiv_in (b := b) a0 a1
  have hf := floor_of' a b (by omega)
  split at hf
  · have h3 : a.tdiv b - 1 = a / b := hf.symm
    have h5 : -1125899906842624 * b ≤ a := by
      have := Int.mul_le_mul_of_nonneg_left (show 1 ≤ b by omega) (show (0 : Int) ≤ 1125899906842624 by omega)
      omega
    have := (Int.le_ediv_iff_mul_le (show 0 < b by omega)).2 h5
    omega
  · omega
theorem dvV_bd (a b : Int) : -1125899906842624 ≤ dvV a b ∧ dvV a b ≤ 1125899906842624 := by
  unfold dvV
  split
  · rename_i h; exact div_bd h
  · omega
theorem inR_neg (a : Int) : inR (-a) = inR a := by
  rw [Bool.eq_iff_iff, inR_iff, inR_iff]; omega
theorem cl_of {a b : Int} (h : inR a = true) : -(dvV (-a) b) = clV a b ∧ dvOk (-a) b = dvOk a b := by
  have e : dvOk (-a) b = dvOk a b := by unfold dvOk; rw [inR_neg]
  unfold dvV clV
  rw [e]
  refine ⟨?_, rfl⟩
  split <;> simp
set_option maxHeartbeats 400000 in
theorem ceildiv_any (a b : Int) (w : World) :
    Calls Tryd.prog 14 #[.int .i64 a, .int .i64 b] w fun e w' => e = .returned (.tuple #[.int .i64 (clV a b), .bool (dvOk a b)]) ∧ Below w.heap.size w w' := by
  cases hr : inR a
  · have H : Hid (clV a b = 0 ∧ dvOk a b = false) := Lib.hid (by unfold clV dvOk; rw [hr]; exact ⟨rfl, rfl⟩)
    have HR := Lib.hid hr
    clear hr
    go_enter Tryd.func14, Tryd.ntmps14
    go_wp2_with (go_at_call 33; refine (within1 a _ _ (by simp [World.cell?_alloc_new])).mono ?_; rintro e w' ⟨rfl, rfl⟩; rw [HR.out])
    go_ret2
    exact ⟨ret_ib H.out.1.symm H.out.2.symm, (Below.refl _ _).alloc (Nat.le_refl _) _⟩
  · have H := Lib.hid (cl_of (b := b) hr)
    have HR := Lib.hid hr
    rw [inR_iff] at hr
    have HF := Lib.hid fun w => floordiv_any (-a) b w
    obtain ⟨q0, q1⟩ := dvV_bd (-a) b
    obtain ⟨a0, a1⟩ := hr
    generalize dvV (-a) b = q at *
    generalize dvOk (-a) b = k at *
    go_enter Tryd.func14, Tryd.ntmps14
    go_wp2_with (first
      | (go_at_call 33; refine (within1 a _ _ (by simp [World.cell?_alloc_new])).mono ?_; rintro e w' ⟨rfl, rfl⟩; rw [HR.out])
      | (go_at_call 12; refine (HF.out _).mono ?_; rintro e w' ⟨rfl, hb⟩))
    go_ret2
    exact ⟨ret_ib H.out.1 H.out.2, ((Below.refl _ _).alloc (Nat.le_refl _) _).trans (hb.mono (by simp))⟩
set_option maxHeartbeats 400000 in
theorem mod_any (a b : Int) (w : World) :
    Calls Tryd.prog 16 #[.int .i64 a, .int .i64 b] w fun e w' => e = .returned (.tuple #[.int .i64 (mdV a b), .bool (dvOk a b)]) ∧ Below w.heap.size w w' := by
  have HF := Lib.hid fun w => floordiv_any a b w
  cases h : dvOk a b
  · have H : Hid (mdV a b = 0) := Lib.hid (by unfold mdV; rw [h]; rfl)
    rw [h] at HF
    clear h
    go_enter Tryd.func16, Tryd.ntmps16
    go_wp2_with (go_at_call 12; refine (HF.out _).mono ?_; rintro e w' ⟨rfl, hb⟩)
    go_ret2
    exact ⟨ret_ib H.out.symm rfl, hb⟩
  · have H : Hid (a - a / b * b = mdV a b) := Lib.hid (by unfold mdV; rw [h]; rfl)
    have hv : dvV a b = a / b := by unfold dvV; rw [h]; rfl
    obtain ⟨q0, q1⟩ := div_bd h
    rw [h, hv] at HF
    unfold dvOk at h
    rw [Bool.and_eq_true, Bool.and_eq_true, inR_iff, inR_iff, decide_eq_true_eq] at h
    obtain ⟨⟨⟨a0, a1⟩, b0, b1⟩, hb⟩ := h
    obtain ⟨r0, r1⟩ := ediv_bd a (show 0 < b by omega)
    clear hv
    generalize a / b = q at *
    obtain ⟨m, hm⟩ : ∃ m, q * b = m := ⟨_, rfl⟩
    rw [hm] at H r0 r1
    have e1 : IntKind.i64.wrap (q * b) = m := by rw [hm]; exact IntWalk.i64_in _ (by omega)
    clear hm
    go_enter Tryd.func16, Tryd.ntmps16
    go_wp2_with (go_at_call 12; refine (HF.out _).mono ?_; rintro e w' ⟨rfl, hb⟩)
    go_ret2
    exact ⟨ret_ib H.out rfl, hb⟩
end Go.Proofs.YtikojcakkmmebaaDoor
