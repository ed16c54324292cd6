/- The reference of the layer clock: True, Elapsed, Offset, Bound: what they compute. -/
import Derived.Test.YtphinhebnekmlaaRef09
import Derived.Test.YtphinhebnekmlaaClock3
import Derived.Test.YtphinhebnekmlaaClock5
namespace Go.Proofs.Ytphinhebnekmlaa
open Go.RowKit Go.Shelf

theorem First.at {o p l : Int} {k : Nat} (h : First o p l k) {t : Int} (h0 : 0 ≤ t) (h1 : t ≤ 1099511627776) : l ≤ atC o p t ↔ (k : Int) ≤ t := by
  have := h.2 t.toNat (by omega)
  rw [show ((t.toNat : Nat) : Int) = t by omega] at this
  rw [this]; omega
set_option maxHeartbeats 1000000 in
theorem refTrue_any (o p l : Int) (k : Nat) (w : World) (hk : okC o p = true → First o p l k) :
    Calls Try.prog 17 #[.agg #[.int .i64 o, .int .i64 p], .int .i64 l] w fun e w' => e = .returned (.tuple #[.int .i64 (truV o p k), .int .i64 (truE o p k)]) ∧ Below w.heap.size w w' := by
  cases h : okC o p
  · have HL := Lib.hid (tru_bad (k := k) h)
    have HR : Hid (∀ w : World, Calls Try.prog 14 #[.agg #[.int .i64 o, .int .i64 p]] w fun e w' => e = .returned (.bool false) ∧ Below w.heap.size w w') := Lib.hid fun w => by
      have := refRight_any o p w
      rwa [h] at this
    clear h hk
    go_enter Try.func17, Try.ntmps17
    go_wp2_with (go_at_call 14; refine (HR.out _).mono ?_; rintro e w' ⟨rfl, hb⟩)
    go_ret2
    exact ⟨ret_int2 HL.out.1.symm HL.out.2.symm, ((Below.refl _ _).alloc (Nat.le_refl _) _).trans (hb.mono (by simp <;> omega))⟩
  · have HF := Lib.hid (hk h)
    have HR : Hid (∀ w : World, Calls Try.prog 14 #[.agg #[.int .i64 o, .int .i64 p]] w fun e w' => e = .returned (.bool true) ∧ Below w.heap.size w w') := Lib.hid fun w => by
      have := refRight_any o p w
      rwa [h] at this
    have HA := Lib.hid fun t h0 h1 w => refAt_any o p t w h h0 h1
    have hkn := HF.out.1
    by_cases h2 : k = 1099511627777
    · have HL := Lib.hid (tru_none h h2)
      have hlt : atC o p 1099511627776 < l := by
        have := HF.out.at (t := 1099511627776) (by omega) (by omega)
        omega
      clear hk h h2 hkn
      go_enter Try.func17, Try.ntmps17
      go_wp2_with (first
        | (go_at_call 14; refine (HR.out _).mono ?_; rintro e w' ⟨rfl, hb⟩; obtain ⟨hcl, hfr⟩ := bcell hb)
        | (go_at_call 27; refine (HA.out _ (by omega) (by omega) _).mono ?_; rintro e w2 ⟨rfl, hb2⟩))
      go_ret2
      exact ⟨ret_int2 HL.out.1.symm HL.out.2.symm, (((Below.refl _ _).alloc (Nat.le_refl _) _).trans (hb.mono (by simp <;> omega))).trans (hb2.mono (by have := hb.size; simp at this; omega))⟩
    · have HL := Lib.hid (tru_ok h h2)
      have hlt : ¬ atC o p 1099511627776 < l := by
        have := HF.out.at (t := 1099511627776) (by omega) (by omega)
        omega
      clear hk h
      go_enter Try.func17, Try.ntmps17
      go_wp2_with (first
        | (go_at_call 14; refine (HR.out _).mono ?_; rintro e w' ⟨rfl, hb⟩; obtain ⟨hcl, hfr⟩ := bcell hb)
        | (go_at_call 27; refine (HA.out _ (by omega) (by omega) _).mono ?_; rintro e w2 ⟨rfl, hb2⟩))
      have hz : w.heap.size < w'.heap.size := by have := hb.size; simp at this; omega
      have hz2 : w.heap.size < w2.heap.size := Nat.lt_of_lt_of_le hz hb2.size
      have k1 : w2.cell? ⟨w.heap.size, 0, none⟩ = some (.int .i64 o) := (hb2.cell (p := ⟨w.heap.size, 0, none⟩) hz).trans ((hcl _ 0 (by simp <;> omega)).trans (by go_simp))
      have k2 : w2.cell? ⟨w.heap.size, 1, none⟩ = some (.int .i64 p) := (hb2.cell (p := ⟨w.heap.size, 1, none⟩) hz).trans ((hcl _ 1 (by simp <;> omega)).trans (by go_simp))
      have HW : Below w.heap.size w w2 := (((Below.refl _ _).alloc (Nat.le_refl _) _).trans (hb.mono (by simp <;> omega))).trans (hb2.mono (by omega))
      clear hcl hfr hb hb2 hz hlt HR
      go_loopw [6, 7] (fun a b wr => ∃ lo hi : Int, a = .int .i64 lo ∧ b = .int .i64 hi ∧ -1 ≤ lo ∧ lo < k ∧ (k : Int) ≤ hi ∧ hi ≤ 1099511627776 ∧ Below w2.heap.size w2 wr) (fun a b _ => (intOf b - intOf a).toNat)
      case atStart => exact ⟨-1, 1099511627776, rfl, rfl, by omega, by omega, by omega, by omega, Below.refl _ _⟩
      case round =>
        obtain ⟨lo, hi, rfl, rfl, g1, g2, g3, g4, hB⟩ := hrel
        have j1 := (hB.cell (p := ⟨w.heap.size, 0, none⟩) hz2).trans k1
        have j2 := (hB.cell (p := ⟨w.heap.size, 1, none⟩) hz2).trans k2
        by_cases hgo : 1 < hi - lo
        · have hAT := HF.out.at (t := lo + (hi - lo) / 2) (by omega) (by omega)
          have HAm := Lib.hid fun w => HA.out (lo + (hi - lo) / 2) (by omega) (by omega) w
          generalize atC o p (lo + (hi - lo) / 2) = am at hAT HAm
          by_cases hm : (k : Int) ≤ lo + (hi - lo) / 2
          · have hm' : l ≤ am := hAT.2 hm
            clear hAT
            go_wp2_with (go_at_call 27; refine (HAm.out _).mono ?_; rintro e w3 ⟨rfl, hb3⟩)
            go_roundw
            case rel => exact ⟨lo, lo + (hi - lo) / 2, rfl, rfl, by omega, by omega, by omega, by omega, hB.trans (hb3.mono hB.size)⟩
            case measure => simp [intOf]; omega
          · have hm' : ¬ l ≤ am := fun q => hm (hAT.1 q)
            clear hAT
            go_wp2_with (go_at_call 27; refine (HAm.out _).mono ?_; rintro e w3 ⟨rfl, hb3⟩)
            go_roundw
            case rel => exact ⟨lo + (hi - lo) / 2, hi, rfl, rfl, by omega, by omega, by omega, by omega, hB.trans (hb3.mono hB.size)⟩
            case measure => simp [intOf]; omega
        · have HE : Hid (hi = (k : Int)) := Lib.hid (by omega)
          go_wp2
          go_ret2
          exact ⟨ret_int2 (HE.out.trans HL.out.1.symm) HL.out.2.symm, HW.trans (hB.mono HW.size)⟩
/-! ### Elapsed -/
set_option maxHeartbeats 1000000 in
theorem refElapsed_any (o p t d : Int) (w : World) :
    Calls Try.prog 19 #[.agg #[.int .i64 o, .int .i64 p], .int .i64 t, .int .i64 d] w fun e w' => e = .returned (.tuple #[.int .i64 (elV o p t d), .int .i64 (elE o p t d)]) ∧ Below w.heap.size w w' := by
  cases h : okC o p
  · have HL := Lib.hid (el_bad (t := t) (d := d) h)
    have HR : Hid (∀ w : World, Calls Try.prog 14 #[.agg #[.int .i64 o, .int .i64 p]] w fun e w' => e = .returned (.bool false) ∧ Below w.heap.size w w') := Lib.hid fun w => by
      have := refRight_any o p w
      rwa [h] at this
    clear h
    go_enter Try.func19, Try.ntmps19
    go_wp2_with (go_at_call 14; refine (HR.out _).mono ?_; rintro e w' ⟨rfl, hb⟩)
    go_ret2
    exact ⟨ret_int2 HL.out.1.symm HL.out.2.symm, ((Below.refl _ _).alloc (Nat.le_refl _) _).trans (hb.mono (by simp <;> omega))⟩
  · have HR : Hid (∀ w : World, Calls Try.prog 14 #[.agg #[.int .i64 o, .int .i64 p]] w fun e w' => e = .returned (.bool true) ∧ Below w.heap.size w w') := Lib.hid fun w => by
      have := refRight_any o p w
      rwa [h] at this
    cases h2 : okE t d
    · have HL := Lib.hid (el_out h h2)
      have hn : ¬ (((0 ≤ t ∧ t ≤ 1099511627776) ∧ 0 ≤ d ∧ d ≤ 1099511627776) ∧ 0 ≤ t + d ∧ t + d ≤ 1099511627776) := fun k => by rw [← okE_iff, h2] at k; cases k
      clear h h2
      by_cases h3 : t < 0
      · clear hn
        go_enter Try.func19, Try.ntmps19
        go_wp2_with (go_at_call 14; refine (HR.out _).mono ?_; rintro e w' ⟨rfl, hb⟩)
        go_ret2
        exact ⟨ret_int2 HL.out.1.symm HL.out.2.symm, ((Below.refl _ _).alloc (Nat.le_refl _) _).trans (hb.mono (by simp <;> omega))⟩
      · by_cases h4 : 1099511627776 < t
        · clear hn
          go_enter Try.func19, Try.ntmps19
          go_wp2_with (go_at_call 14; refine (HR.out _).mono ?_; rintro e w' ⟨rfl, hb⟩)
          go_ret2
          exact ⟨ret_int2 HL.out.1.symm HL.out.2.symm, ((Below.refl _ _).alloc (Nat.le_refl _) _).trans (hb.mono (by simp <;> omega))⟩
        · by_cases h5 : d < 0
          · clear hn
            go_enter Try.func19, Try.ntmps19
            go_wp2_with (go_at_call 14; refine (HR.out _).mono ?_; rintro e w' ⟨rfl, hb⟩)
            go_ret2
            exact ⟨ret_int2 HL.out.1.symm HL.out.2.symm, ((Below.refl _ _).alloc (Nat.le_refl _) _).trans (hb.mono (by simp <;> omega))⟩
          · have h6 : 1099511627776 - t < d := by omega
            clear hn
            go_enter Try.func19, Try.ntmps19
            go_wp2_with (go_at_call 14; refine (HR.out _).mono ?_; rintro e w' ⟨rfl, hb⟩)
            go_ret2
            exact ⟨ret_int2 HL.out.1.symm HL.out.2.symm, ((Below.refl _ _).alloc (Nat.le_refl _) _).trans (hb.mono (by simp <;> omega))⟩
    · have HL := el_ok h h2
      rw [okE_iff] at h2
      obtain ⟨⟨⟨g1, g2⟩, g3, g4⟩, g5, g6⟩ := h2
      have l1 := atC_lim h g5 g6
      have l2 := atC_lim h g1 g2
      have HA1 := Lib.hid fun w => refAt_any o p (t + d) w h (by omega) (by omega)
      have HA2 := Lib.hid fun w => refAt_any o p t w h (by omega) (by omega)
      generalize atC o p (t + d) = xe at *
      generalize atC o p t = xt at *
      have HL := Lib.hid HL
      have hsub : IntKind.i64.wrap (xe - xt) = xe - xt := IntWalk.i64_in _ (by omega)
      have hadd : IntKind.i64.wrap (t + d) = t + d := IntWalk.i64_in _ (by omega)
      have h3 : ¬ t < 0 := by omega
      have h4 : ¬ 1099511627776 < t := by omega
      have h5 : ¬ d < 0 := by omega
      have h6 : ¬ 1099511627776 - t < d := by omega
      clear h
      go_enter Try.func19, Try.ntmps19
      go_wp2_with (go_at_call 14; refine (HR.out _).mono ?_; rintro e w' ⟨rfl, hb⟩)
      have hz : w.heap.size < w'.heap.size := by have := hb.size; simp at this; omega
      have f1 := Bw.cell hz ((hb.cell (p := ⟨w.heap.size, 0, none⟩) (by simp)).trans (show _ = some (.int .i64 o) by go_simp))
      have f2 := Bw.cell hz ((hb.cell (p := ⟨w.heap.size, 1, none⟩) (by simp)).trans (show _ = some (.int .i64 p) by go_simp))
      refine wp_region_bw (by kernel_rfl) (by kernel_rfl) ?_
      repeat (go_big_quiet_step ((first
        | (go_at_call_of 27 (Value.int .i64 (t + d)); exact Calls.bw_of (HA1.out _))
        | (go_at_call_of 27 (Value.int .i64 t); exact Calls.bw_of (HA2.out _)))))
      refine wpQuiet_nil ?_
      rintro _ ⟨⟨w4, hw4⟩, rfl⟩
      go_wp2
      go_ret2
      exact ⟨ret_int2 HL.out.1.symm HL.out.2.symm, (((Below.refl _ _).alloc (Nat.le_refl _) _).trans (hb.mono (by simp <;> omega))).trans (hw4.mono (by omega))⟩
/-! ### Offset -/
set_option maxHeartbeats 1000000 in
theorem refOffset_any (o1 p1 o2 p2 t : Int) (w : World) :
    Calls Try.prog 21 #[.agg #[.int .i64 o1, .int .i64 p1], .agg #[.int .i64 o2, .int .i64 p2], .int .i64 t] w fun e w' => e = .returned (.tuple #[.int .i64 (offV o1 p1 o2 p2 t), .int .i64 (offE o1 p1 o2 p2 t)]) ∧ Below w.heap.size w w' := by
  cases h : okC o1 p1
  · have HL : Hid (offV o1 p1 o2 p2 t = 0 ∧ offE o1 p1 o2 p2 t = 190) := Lib.hid (by unfold offV offE; rw [h]; exact ⟨rfl, rfl⟩)
    have HR1 : Hid (∀ w : World, Calls Try.prog 14 #[.agg #[.int .i64 o1, .int .i64 p1]] w fun e w' => e = .returned (.bool false) ∧ Below w.heap.size w w') := Lib.hid fun w => by
      have := refRight_any o1 p1 w
      rwa [h] at this
    clear h
    go_enter Try.func21, Try.ntmps21
    go_wp2_with (go_at_call 14; refine (HR1.out _).mono ?_; rintro e w' ⟨rfl, hb⟩)
    go_ret2
    exact ⟨ret_int2 HL.out.1.symm HL.out.2.symm, (((Below.refl _ _).alloc (Nat.le_refl _) _).alloc (by simp) _).trans (hb.mono (by simp <;> omega))⟩
  · have HR1 : Hid (∀ w : World, Calls Try.prog 14 #[.agg #[.int .i64 o1, .int .i64 p1]] w fun e w' => e = .returned (.bool true) ∧ Below w.heap.size w w') := Lib.hid fun w => by
      have := refRight_any o1 p1 w
      rwa [h] at this
    cases h1 : okC o2 p2
    · have HL : Hid (offV o1 p1 o2 p2 t = 0 ∧ offE o1 p1 o2 p2 t = 190) := Lib.hid (by unfold offV offE locE; rw [h, h1]; exact ⟨rfl, rfl⟩)
      have HR2 : Hid (∀ w : World, Calls Try.prog 14 #[.agg #[.int .i64 o2, .int .i64 p2]] w fun e w' => e = .returned (.bool false) ∧ Below w.heap.size w w') := Lib.hid fun w => by
        have := refRight_any o2 p2 w
        rwa [h1] at this
      clear h h1
      go_enter Try.func21, Try.ntmps21
      go_wp2_with fail
      refine (HR1.out _).mono ?_
      rintro e w1 ⟨rfl, hb1⟩
      have hz : w.heap.size + 1 < w1.heap.size := by have := hb1.size; simp at this; omega
      have k1 : w1.cell? ⟨w.heap.size, 0, none⟩ = some (.int .i64 o1) := (hb1.cell (p := ⟨w.heap.size, 0, none⟩) (by simp <;> omega)).trans (by go_simp)
      have k2 : w1.cell? ⟨w.heap.size, 1, none⟩ = some (.int .i64 p1) := (hb1.cell (p := ⟨w.heap.size, 1, none⟩) (by simp <;> omega)).trans (by go_simp)
      have k3 : w1.cell? ⟨w.heap.size + 1, 0, none⟩ = some (.int .i64 o2) := (hb1.cell (p := ⟨w.heap.size + 1, 0, none⟩) (by simp <;> omega)).trans (by go_simp)
      have k4 : w1.cell? ⟨w.heap.size + 1, 1, none⟩ = some (.int .i64 p2) := (hb1.cell (p := ⟨w.heap.size + 1, 1, none⟩) (by simp <;> omega)).trans (by go_simp)
      have HW1 : Below w.heap.size w w1 := (((Below.refl _ _).alloc (Nat.le_refl _) _).alloc (by simp) _).trans (hb1.mono (by simp <;> omega))
      clear hb1
      go_wp2_with fail
      refine (HR2.out _).mono ?_
      rintro e w2 ⟨rfl, hb2⟩
      have HW2 := HW1.trans (hb2.mono HW1.size)
      go_wp2
      go_ret2
      exact ⟨ret_int2 HL.out.1.symm HL.out.2.symm, HW2⟩
    · have HR2 : Hid (∀ w : World, Calls Try.prog 14 #[.agg #[.int .i64 o2, .int .i64 p2]] w fun e w' => e = .returned (.bool true) ∧ Below w.heap.size w w') := Lib.hid fun w => by
        have := refRight_any o2 p2 w
        rwa [h1] at this
      cases h2 : inT t
      · have HL : Hid (offV o1 p1 o2 p2 t = 0 ∧ offE o1 p1 o2 p2 t = 2) := Lib.hid (by unfold offV offE locE; rw [h, h1, h2]; exact ⟨rfl, rfl⟩)
        have hn : ¬ (0 ≤ t ∧ t ≤ 1099511627776) := fun k => by rw [← inT_iff, h2] at k; cases k
        clear h h1 h2
        by_cases h3 : t < 0
        · clear hn
          go_enter Try.func21, Try.ntmps21
          go_wp2_with fail
          refine (HR1.out _).mono ?_
          rintro e w1 ⟨rfl, hb1⟩
          have hz : w.heap.size + 1 < w1.heap.size := by have := hb1.size; simp at this; omega
          have k1 : w1.cell? ⟨w.heap.size, 0, none⟩ = some (.int .i64 o1) := (hb1.cell (p := ⟨w.heap.size, 0, none⟩) (by simp <;> omega)).trans (by go_simp)
          have k2 : w1.cell? ⟨w.heap.size, 1, none⟩ = some (.int .i64 p1) := (hb1.cell (p := ⟨w.heap.size, 1, none⟩) (by simp <;> omega)).trans (by go_simp)
          have k3 : w1.cell? ⟨w.heap.size + 1, 0, none⟩ = some (.int .i64 o2) := (hb1.cell (p := ⟨w.heap.size + 1, 0, none⟩) (by simp <;> omega)).trans (by go_simp)
          have k4 : w1.cell? ⟨w.heap.size + 1, 1, none⟩ = some (.int .i64 p2) := (hb1.cell (p := ⟨w.heap.size + 1, 1, none⟩) (by simp <;> omega)).trans (by go_simp)
          have HW1 : Below w.heap.size w w1 := (((Below.refl _ _).alloc (Nat.le_refl _) _).alloc (by simp) _).trans (hb1.mono (by simp <;> omega))
          clear hb1
          go_wp2_with fail
          refine (HR2.out _).mono ?_
          rintro e w2 ⟨rfl, hb2⟩
          have HW2 := HW1.trans (hb2.mono HW1.size)
          go_wp2
          go_ret2
          exact ⟨ret_int2 HL.out.1.symm HL.out.2.symm, HW2⟩
        · have h4 : 1099511627776 < t := by omega
          clear hn
          go_enter Try.func21, Try.ntmps21
          go_wp2_with fail
          refine (HR1.out _).mono ?_
          rintro e w1 ⟨rfl, hb1⟩
          have hz : w.heap.size + 1 < w1.heap.size := by have := hb1.size; simp at this; omega
          have k1 : w1.cell? ⟨w.heap.size, 0, none⟩ = some (.int .i64 o1) := (hb1.cell (p := ⟨w.heap.size, 0, none⟩) (by simp <;> omega)).trans (by go_simp)
          have k2 : w1.cell? ⟨w.heap.size, 1, none⟩ = some (.int .i64 p1) := (hb1.cell (p := ⟨w.heap.size, 1, none⟩) (by simp <;> omega)).trans (by go_simp)
          have k3 : w1.cell? ⟨w.heap.size + 1, 0, none⟩ = some (.int .i64 o2) := (hb1.cell (p := ⟨w.heap.size + 1, 0, none⟩) (by simp <;> omega)).trans (by go_simp)
          have k4 : w1.cell? ⟨w.heap.size + 1, 1, none⟩ = some (.int .i64 p2) := (hb1.cell (p := ⟨w.heap.size + 1, 1, none⟩) (by simp <;> omega)).trans (by go_simp)
          have HW1 : Below w.heap.size w w1 := (((Below.refl _ _).alloc (Nat.le_refl _) _).alloc (by simp) _).trans (hb1.mono (by simp <;> omega))
          clear hb1
          go_wp2_with fail
          refine (HR2.out _).mono ?_
          rintro e w2 ⟨rfl, hb2⟩
          have HW2 := HW1.trans (hb2.mono HW1.size)
          go_wp2
          go_ret2
          exact ⟨ret_int2 HL.out.1.symm HL.out.2.symm, HW2⟩
      · have HL : offV o1 p1 o2 p2 t = atC o1 p1 t - atC o2 p2 t ∧ offE o1 p1 o2 p2 t = 0 := by unfold offV offE locE; rw [h, h1, h2]; exact ⟨rfl, rfl⟩
        rw [inT_iff] at h2
        obtain ⟨g1, g2⟩ := h2
        have l1 := atC_lim h g1 g2
        have l2 := atC_lim h1 g1 g2
        have HA1 := Lib.hid fun w => refAt_any o1 p1 t w h (by omega) (by omega)
        have HA2 := Lib.hid fun w => refAt_any o2 p2 t w h1 (by omega) (by omega)
        generalize atC o1 p1 t = x1 at *
        generalize atC o2 p2 t = x2 at *
        have HL := Lib.hid HL
        have hsub : IntKind.i64.wrap (x1 - x2) = x1 - x2 := IntWalk.i64_in _ (by omega)
        clear h h1
        go_enter Try.func21, Try.ntmps21
        go_wp2_with fail
        refine (HR1.out _).mono ?_
        rintro e w1 ⟨rfl, hb1⟩
        have hz : w.heap.size + 1 < w1.heap.size := by have := hb1.size; simp at this; omega
        have k1 : w1.cell? ⟨w.heap.size, 0, none⟩ = some (.int .i64 o1) := (hb1.cell (p := ⟨w.heap.size, 0, none⟩) (by simp <;> omega)).trans (by go_simp)
        have k2 : w1.cell? ⟨w.heap.size, 1, none⟩ = some (.int .i64 p1) := (hb1.cell (p := ⟨w.heap.size, 1, none⟩) (by simp <;> omega)).trans (by go_simp)
        have k3 : w1.cell? ⟨w.heap.size + 1, 0, none⟩ = some (.int .i64 o2) := (hb1.cell (p := ⟨w.heap.size + 1, 0, none⟩) (by simp <;> omega)).trans (by go_simp)
        have k4 : w1.cell? ⟨w.heap.size + 1, 1, none⟩ = some (.int .i64 p2) := (hb1.cell (p := ⟨w.heap.size + 1, 1, none⟩) (by simp <;> omega)).trans (by go_simp)
        have HW1 : Below w.heap.size w w1 := (((Below.refl _ _).alloc (Nat.le_refl _) _).alloc (by simp) _).trans (hb1.mono (by simp <;> omega))
        clear hb1
        go_wp2_with fail
        refine (HR2.out _).mono ?_
        rintro e w2 ⟨rfl, hb2⟩
        have HW2 := HW1.trans (hb2.mono HW1.size)
        have hz2 : w.heap.size + 1 < w2.heap.size := Nat.lt_of_lt_of_le hz hb2.size
        have hz20 : w.heap.size < w2.heap.size := by omega
        have f1 := Bw.cell hz20 ((hb2.cell (p := ⟨w.heap.size, 0, none⟩) (show w.heap.size < w1.heap.size by omega)).trans k1)
        have f2 := Bw.cell hz20 ((hb2.cell (p := ⟨w.heap.size, 1, none⟩) (show w.heap.size < w1.heap.size by omega)).trans k2)
        have f3 := Bw.cell hz2 ((hb2.cell (p := ⟨w.heap.size + 1, 0, none⟩) hz).trans k3)
        have f4 := Bw.cell hz2 ((hb2.cell (p := ⟨w.heap.size + 1, 1, none⟩) hz).trans k4)
        clear k1 k2 k3 k4
        go_wp2_with fail
        refine wp_region_bw (by kernel_rfl) (by kernel_rfl) ?_
        repeat (go_big_quiet_step ((first
          | (go_at_call_of 27 (Value.agg #[.int .i64 o1, .int .i64 p1]); exact Calls.bw_of (HA1.out _))
          | (go_at_call_of 27 (Value.agg #[.int .i64 o2, .int .i64 p2]); exact Calls.bw_of (HA2.out _)))))
        refine wpQuiet_nil ?_
        rintro _ ⟨⟨w4, hw4⟩, rfl⟩
        go_wp2
        go_ret2
        exact ⟨ret_int2 HL.out.1.symm HL.out.2.symm, HW2.trans (hw4.mono HW2.size)⟩
/-! ### Bound -/
set_option maxHeartbeats 400000 in
theorem drift_any (p d : Int) (w : World) (hp0 : 0 ≤ p) (hp1 : p ≤ 200000) (hd0 : 0 ≤ d) (hd1 : d ≤ 1099511627776) :
    Calls Try.prog 36 #[.int .i64 p, .int .i64 d] w fun e w' => e = .returned (.int .i64 (-((-d) * p / 1000000000))) ∧ w' = w := by
  have hb := mul_bd (A := 1099511627776) (B := 200000) (a := -d) (b := p) (by omega) (by omega) (by omega) (by omega)
  have HF := Lib.hid fun w => floor_any ((-d) * p) 1000000000 w (by omega) (by omega) (by omega) (by omega)
  have q1 : -1125899906842624 ≤ (-d) * p / 1000000000 := by omega
  have q2 : (-d) * p / 1000000000 ≤ 1125899906842624 := by omega
  generalize (-d) * p / 1000000000 = q at *
  obtain ⟨m, hm⟩ : ∃ m, (-d) * p = m := ⟨_, rfl⟩
  have hm2 : IntKind.i64.wrap ((-d) * p) = m := by rw [hm]; exact IntWalk.i64_in _ (by omega)
  rw [hm] at HF
  clear hb hm
  go_enter Try.func36, Try.ntmps36
  go_wp2_with (go_at_call 37; refine (HF.out _).mono ?_; rintro e w' ⟨rfl, rfl⟩)
  go_ret
  exact ⟨rfl, rfl⟩
set_option maxHeartbeats 400000 in
theorem refBound_any (p d : Int) (w : World) :
    Calls Try.prog 23 #[.int .i64 p, .int .i64 d] w fun e w' => e = .returned (.tuple #[.int .i64 (bndV p d), .int .i64 (bndE p d)]) ∧ w' = w := by
  cases h : okB p d
  · have HV : Hid (bndV p d = 0 ∧ bndE p d = 2) := Lib.hid (by unfold bndV bndE; rw [h]; exact ⟨rfl, rfl⟩)
    have hn : ¬ ((0 ≤ p ∧ p ≤ 200000) ∧ 0 ≤ d ∧ d ≤ 1099511627776) := fun k => by rw [← okB_iff, h] at k; cases k
    clear h
    by_cases h1 : p < 0
    · clear hn
      go_enter Try.func23, Try.ntmps23
      go_wp2
      go_ret2
      exact ⟨ret_int2 HV.out.1.symm HV.out.2.symm, rfl⟩
    · by_cases h2 : 200000 < p
      · clear hn
        go_enter Try.func23, Try.ntmps23
        go_wp2
        go_ret2
        exact ⟨ret_int2 HV.out.1.symm HV.out.2.symm, rfl⟩
      · by_cases h3 : d < 0
        · clear hn
          go_enter Try.func23, Try.ntmps23
          go_wp2
          go_ret2
          exact ⟨ret_int2 HV.out.1.symm HV.out.2.symm, rfl⟩
        · have h4 : 1099511627776 < d := by omega
          clear hn
          go_enter Try.func23, Try.ntmps23
          go_wp2
          go_ret2
          exact ⟨ret_int2 HV.out.1.symm HV.out.2.symm, rfl⟩
  · have HV : Hid (bndV p d = -((-d) * p / 1000000000) ∧ bndE p d = 0) := Lib.hid (by unfold bndV bndE; rw [h]; exact ⟨rfl, rfl⟩)
    rw [okB_iff] at h
    obtain ⟨⟨h1, h2⟩, h3, h4⟩ := h
    have HD := Lib.hid fun w => drift_any p d w h1 h2 h3 h4
    generalize -((-d) * p / 1000000000) = q at *
    go_enter Try.func23, Try.ntmps23
    go_wp2_with (go_at_call 36; refine (HD.out _).mono ?_; rintro e w' ⟨rfl, rfl⟩)
    go_ret2
    exact ⟨ret_int2 HV.out.1.symm HV.out.2.symm, rfl⟩
end Go.Proofs.Ytphinhebnekmlaa
