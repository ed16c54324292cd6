/- The package clock: checked, Local, Elapsed, Offset, Bound. -/
import Derived.Test.YtgdagfiebaebbaaClock
import Derived.Deep.RegionWith
import Derived.Shelf.Abstract
namespace Go.Proofs.Ytgdagfiebaebbaa
open Go.RowKit Go.Shelf

/-- The reading of a clock, as a function value. -/
def dialV (o p : Int) : Value := .func (.func 70) #[.agg #[.int .i64 o, .int .i64 p]] #[]
def inT (t : Int) : Bool := decide (0 ≤ t) && decide (t ≤ 1099511627776)
theorem inT_iff (t : Int) : inT t = true ↔ 0 ≤ t ∧ t ≤ 1099511627776 := by simp [inT]
theorem chk_ok {o p : Int} (h : okC o p = true) : chkC o p = 0 := by unfold chkC; rw [if_pos h]
theorem chk_no {o p : Int} (h : okC o p = false) : chkC o p = 190 := by unfold chkC; rw [h]; rfl

set_option maxHeartbeats 400000 in
theorem checked_bad (o p : Int) (f : Value) (ts : Value) (w : World) (h : okC o p = false) :
    Calls Try.prog 51 #[.agg #[.int .i64 o, .int .i64 p], f, ts] w fun e w' => e = .returned (.tuple #[.int .i64 0, .int .i64 190]) ∧ Below w.heap.size w w' := by
  have HK := Lib.hid (chk_no h)
  clear h
  go_enter Try.func51, Try.ntmps51
  go_wp2_with (go_at_call 68; refine (check_any _ _ _).mono ?_; rintro e w' ⟨rfl, hb⟩; rw [HK.out]; obtain ⟨hcl, hfr⟩ := bcell hb)
  go_ret2
  exact ⟨rfl, ((Below.refl _ _).alloc (Nat.le_refl _) _).trans (hb.mono (by simp))⟩
set_option maxHeartbeats 400000 in
theorem checked_out (o p t : Int) (f : Value) (b : Nat) (w : World) (h : okC o p = true) (ht : inT t = false) (hbw : b < w.heap.size) (hc : w.cell? ⟨b, 0, none⟩ = some (.int .i64 t)) :
    Calls Try.prog 51 #[.agg #[.int .i64 o, .int .i64 p], f, .slice (some ⟨b, 0, none⟩) 1 1] w fun e w' => e = .returned (.tuple #[.int .i64 0, .int .i64 2]) ∧ Below w.heap.size w w' := by
  have HK := Lib.hid (chk_ok h)
  have HT : ¬ (0 ≤ t ∧ t ≤ 1099511627776) := fun k => by rw [← inT_iff, ht] at k; cases k
  clear h ht
  go_enter Try.func51, Try.ntmps51
  go_wp2_with (go_at_call 68; refine (check_any _ _ _).mono ?_; rintro e w' ⟨rfl, hb⟩; rw [HK.out]; obtain ⟨hcl, hfr⟩ := bcell hb)
  refine wp_loop_rounds 2 ?_
  rw [rounds_succ]
  by_cases h1 : 0 ≤ t
  · have h2 : ¬ t ≤ 1099511627776 := by omega
    go_wp2
    go_ret2
    exact ⟨rfl, ((Below.refl _ _).alloc (Nat.le_refl _) _).trans (hb.mono (by simp))⟩
  · go_wp2
    go_ret2
    exact ⟨rfl, ((Below.refl _ _).alloc (Nat.le_refl _) _).trans (hb.mono (by simp))⟩
set_option maxHeartbeats 400000 in
/-- A call of checked that comes to the function handed over. -/
theorem checked_one (o p t r : Int) (g : Nat) (cb : Array Value) (b : Nat) (w : World) (h : okC o p = true) (ht : inT t = true) (hbw : b < w.heap.size) (hc : w.cell? ⟨b, 0, none⟩ = some (.int .i64 t))
    (eg : ∀ args w, (callFunc g args).run Try.prog w = .ok (.enter g args) w)
    (hf : ∀ W, Below w.heap.size w W → Calls Try.prog g (#[dialV o p] ++ cb) W fun e w' => e = .returned (.int .i64 r) ∧ Below W.heap.size W w') :
    Calls Try.prog 51 #[.agg #[.int .i64 o, .int .i64 p], .func (.func g) #[] cb, .slice (some ⟨b, 0, none⟩) 1 1] w fun e w' => e = .returned (.tuple #[.int .i64 r, .int .i64 0]) ∧ Below w.heap.size w w' := by
  have HK := Lib.hid (chk_ok h)
  have HF := Lib.hid hf
  rw [inT_iff] at ht
  obtain ⟨ht0, ht1⟩ := ht
  clear h hf
  go_enter Try.func51, Try.ntmps51
  go_wp2_with (go_at_call 68; refine (check_any _ _ _).mono ?_; rintro e w' ⟨rfl, hb⟩; rw [HK.out]; obtain ⟨hcl, hfr⟩ := bcell hb)
  have HW : Below w.heap.size w w' := ((Below.refl _ _).alloc (Nat.le_refl _) _).trans (hb.mono (by simp))
  refine wp_loop_rounds 2 ?_
  rw [rounds_succ]
  go_wp2
  rw [rounds_succ]
  go_wp2_with fail
  refine (HF.out _ HW).mono ?_
  rintro e w'' ⟨rfl, hb2⟩
  go_wp2
  go_ret2
  exact ⟨rfl, HW.trans (hb2.mono HW.size)⟩
/-- A call of checked without times. -/
theorem checked_none (o p r : Int) (g : Nat) (cb : Array Value) (w : World) (h : okC o p = true)
    (eg : ∀ args w, (callFunc g args).run Try.prog w = .ok (.enter g args) w)
    (hf : ∀ W, Below w.heap.size w W → Calls Try.prog g (#[dialV o p] ++ cb) W fun e w' => e = .returned (.int .i64 r) ∧ Below W.heap.size W w') :
    Calls Try.prog 51 #[.agg #[.int .i64 o, .int .i64 p], .func (.func g) #[] cb, .slice none 0 0] w fun e w' => e = .returned (.tuple #[.int .i64 r, .int .i64 0]) ∧ Below w.heap.size w w' := by
  have HK := Lib.hid (chk_ok h)
  have HF := Lib.hid hf
  clear h hf
  go_enter Try.func51, Try.ntmps51
  go_wp2_with (go_at_call 68; refine (check_any _ _ _).mono ?_; rintro e w' ⟨rfl, hb⟩; rw [HK.out]; obtain ⟨hcl, hfr⟩ := bcell hb)
  have HW : Below w.heap.size w w' := ((Below.refl _ _).alloc (Nat.le_refl _) _).trans (hb.mono (by simp))
  refine wp_loop_rounds 1 ?_
  rw [rounds_succ]
  go_wp2_with fail
  refine (HF.out _ HW).mono ?_
  rintro e w'' ⟨rfl, hb2⟩
  go_wp2
  go_ret2
  exact ⟨rfl, HW.trans (hb2.mono HW.size)⟩

/-! ### Local -/
def locE (o p t : Int) : Int := if okC o p then (if inT t then 0 else 2) else 190
def locV (o p t : Int) : Int := if okC o p && inT t then atC o p t else 0
theorem loc_bad {o p t : Int} (h : okC o p = false) : locV o p t = 0 ∧ locE o p t = 190 := by unfold locV locE; rw [h]; exact ⟨rfl, rfl⟩
theorem loc_out {o p t : Int} (h : okC o p = true) (h2 : inT t = false) : locV o p t = 0 ∧ locE o p t = 2 := by unfold locV locE; rw [h, h2]; exact ⟨rfl, rfl⟩
theorem loc_ok {o p t : Int} (h : okC o p = true) (h2 : inT t = true) : locV o p t = atC o p t ∧ locE o p t = 0 := by unfold locV locE; rw [h, h2]; exact ⟨rfl, rfl⟩
set_option maxHeartbeats 400000 in
theorem local_fn (o p t : Int) (b : Nat) (W : World) (h : okC o p = true) (h0 : 0 ≤ t) (h1 : t ≤ 1099511627776) (hc : W.cell? ⟨b, 0, none⟩ = some (.int .i64 t)) :
    Calls Try.prog 52 #[.func (.func 70) #[.agg #[.int .i64 o, .int .i64 p]] #[], .pointer (some ⟨b, 0, none⟩)] W fun e w' => e = .returned (.int .i64 (atC o p t)) ∧ Below W.heap.size W w' := by
  have HD := Lib.hid fun w => dial_any o p t w h (by omega) (by omega)
  clear h
  go_enter Try.func52, Try.ntmps52
  go_wp2_with (go_at_call 70; refine (HD.out _).mono ?_; rintro e w'' ⟨rfl, hb2⟩)
  go_ret
  exact ⟨rfl, hb2⟩
set_option maxHeartbeats 400000 in
theorem local_any (o p t : Int) (w : World) :
    Calls Try.prog 31 #[.agg #[.int .i64 o, .int .i64 p], .int .i64 t] w fun e w' => e = .returned (.tuple #[.int .i64 (locV o p t), .int .i64 (locE o p t)]) ∧ Below w.heap.size w w' := by
  cases h : okC o p
  · have HL := Lib.hid (loc_bad (t := t) h)
    have HB := Lib.hid fun f ts w => checked_bad o p f ts w h
    clear h
    go_enter Try.func31, Try.ntmps31
    go_wp2_with (go_at_call 51; refine (HB.out _ _ _).mono ?_; rintro e w' ⟨rfl, hb⟩)
    go_ret2
    exact ⟨ret_int2 HL.out.1.symm HL.out.2.symm, ((((Below.refl _ _).alloc (Nat.le_refl _) _).alloc (by simp) _).alloc (by simp; omega) _).trans (hb.mono (by simp; omega))⟩
  · cases h2 : inT t
    · have HL := Lib.hid (loc_out h h2)
      have HB := Lib.hid fun f b w => checked_out o p t f b w h h2
      clear h h2
      go_enter Try.func31, Try.ntmps31
      go_wp2_with fail
      refine (HB.out _ _ _ (by simp <;> omega) (by go_simp)).mono ?_
      rintro e w' ⟨rfl, hb⟩
      go_wp2
      go_ret2
      exact ⟨ret_int2 HL.out.1.symm HL.out.2.symm, ((((Below.refl _ _).alloc (Nat.le_refl _) _).alloc (by simp) _).alloc (by simp; omega) _).trans (hb.mono (by simp; omega))⟩
    · have HL := Lib.hid (loc_ok h h2)
      have HB := Lib.hid fun b c w hb hc hf => checked_one o p t (atC o p t) 52 #[.pointer (some ⟨c, 0, none⟩)] b w h h2 hb hc (enters_of Try.func52 (by kernel_rfl) rfl) hf
      rw [inT_iff] at h2
      have HD := Lib.hid fun b W => local_fn o p t b W h h2.1 h2.2
      clear h h2
      go_enter Try.func31, Try.ntmps31
      go_wp2_with fail
      refine (HB.out _ _ _ (by simp <;> omega) (by go_simp) (fun W hW => HD.out _ _ ((hW.cell (p := ⟨w.heap.size + 1, 0, none⟩) (by simp <;> omega)).trans (by go_simp)))).mono ?_
      rintro e w' ⟨rfl, hb⟩
      go_wp2
      go_ret2
      exact ⟨ret_int2 HL.out.1.symm HL.out.2.symm, ((((Below.refl _ _).alloc (Nat.le_refl _) _).alloc (by simp) _).alloc (by simp; omega) _).trans (hb.mono (by simp; omega))⟩
end Go.Proofs.Ytgdagfiebaebbaa
