/- The package clock: Offset. -/
import Derived.Test.YtphinhebnekmlaaClock4
import Derived.Laws.EntriesVeiled
namespace Go.Proofs.Ytphinhebnekmlaa
open Go.RowKit Go.Shelf

set_option maxHeartbeats 800000 in
theorem offset_fn (o1 p1 o2 p2 t x y : Int) (b1 b2 : Nat) (W : World) (h : okC o1 p1 = true) (h' : okC o2 p2 = true) (ht0 : 0 ≤ t) (ht1 : t ≤ 1099511627776)
    (hb1 : b1 < W.heap.size) (hb2 : b2 < W.heap.size) (hc1 : W.cell? ⟨b1, 0, none⟩ = some (.func (.func 33) #[.agg #[.int .i64 o1, .int .i64 p1]] #[])) (hc2 : W.cell? ⟨b2, 0, none⟩ = some (.int .i64 t)) (hx : atC o1 p1 t = x) (hy : atC o2 p2 t = y) :
    Calls Try.prog 34 #[.func (.func 33) #[.agg #[.int .i64 o2, .int .i64 p2]] #[], .pointer (some ⟨b1, 0, none⟩), .pointer (some ⟨b2, 0, none⟩)] W fun e w' => e = .returned (.int .i64 (x - y)) ∧ Below W.heap.size W w' := by
  have l1 := atC_lim h ht0 ht1
  have l2 := atC_lim h' ht0 ht1
  rw [hx] at l1
  rw [hy] at l2
  have HD1 := Lib.hid fun w => dial_any o1 p1 t w h (by omega) (by omega)
  have HD2 := Lib.hid fun w => dial_any o2 p2 t w h' (by omega) (by omega)
  rw [hx] at HD1
  rw [hy] at HD2
  have hsub : IntKind.i64.wrap (x - y) = x - y := IntWalk.i64_in _ (by omega)
  clear h h' hx hy
  go_enter Try.func34, Try.ntmps34
  go_wp2
  go_region_held3 (fun w' => w'.cell? ⟨b1, 0, none⟩ = some (.func (.func 33) #[.agg #[.int .i64 o1, .int .i64 p1]] #[]) ∧ w'.cell? ⟨b2, 0, none⟩ = some (.int .i64 t) ∧ Below W.heap.size W w')
    (first
      | exact ⟨hc1, hc2, (Below.refl _ _).drew⟩
      | exact held2' (by assumption) hb hb1 hb2)
    (first
      | (go_at_call_of 33 (Value.agg #[.int .i64 o1, .int .i64 p1]); refine (HD1.out _).mono ?_; rintro e w' ⟨rfl, hb⟩; have hS := (held2' (by assumption) hb hb1 hb2).2.2)
      | (go_at_call_of 33 (Value.agg #[.int .i64 o2, .int .i64 p2]); refine (HD2.out _).mono ?_; rintro e w' ⟨rfl, hb⟩; have hS := (held2' (by assumption) hb hb1 hb2).2.2))
  go_wp2
  go_ret
  exact ⟨rfl, hS⟩
def offE (o1 p1 o2 p2 t : Int) : Int := if okC o1 p1 then locE o2 p2 t else 190
def offV (o1 p1 o2 p2 t : Int) : Int := if okC o1 p1 && (okC o2 p2 && inT t) then atC o1 p1 t - atC o2 p2 t else 0
set_option maxHeartbeats 800000 in
theorem offset_any (o1 p1 o2 p2 t : Int) (w : World) :
    Calls Try.prog 20 #[.agg #[.int .i64 o1, .int .i64 p1], .agg #[.int .i64 o2, .int .i64 p2], .int .i64 t] w fun e w' => e = .returned (.tuple #[.int .i64 (offV o1 p1 o2 p2 t), .int .i64 (offE o1 p1 o2 p2 t)]) ∧ Below w.heap.size w w' := by
  cases h : okC o1 p1
  · have HK := Lib.hid (chk_no h)
    have HV : Hid (offV o1 p1 o2 p2 t = 0 ∧ offE o1 p1 o2 p2 t = 190) := Lib.hid (by unfold offV offE; rw [h]; exact ⟨rfl, rfl⟩)
    clear h
    go_enter Try.func20, Try.ntmps20
    go_wp2_with (go_at_call 15; refine (check_any _ _ _).mono ?_; rintro e w' ⟨rfl, hb⟩; rw [HK.out]; obtain ⟨hcl, hfr⟩ := bcell hb)
    go_ret2
    exact ⟨ret_int2 HV.out.1.symm HV.out.2.symm, ((((Below.refl _ _).alloc (Nat.le_refl _) _).alloc (by simp <;> omega) _).alloc (by simp <;> omega) _).trans (hb.mono (by simp <;> omega))⟩
  · have HK := Lib.hid (chk_ok h)
    have HE : ∃ v e : Int, offV o1 p1 o2 p2 t = v ∧ offE o1 p1 o2 p2 t = e ∧ Hid (∀ (bf bt : Nat) (W : World), bf < W.heap.size → bt < W.heap.size → W.cell? ⟨bf, 0, none⟩ = some (.func (.func 33) #[.agg #[.int .i64 o1, .int .i64 p1]] #[]) → W.cell? ⟨bt, 0, none⟩ = some (.int .i64 t) →
        ∀ b : Nat, b < W.heap.size → W.cell? ⟨b, 0, none⟩ = some (.int .i64 t) →
        Calls Try.prog 25 #[.agg #[.int .i64 o2, .int .i64 p2], .func (.func 34) #[] #[.pointer (some ⟨bf, 0, none⟩), .pointer (some ⟨bt, 0, none⟩)], .slice (some ⟨b, 0, none⟩) 1 1] W fun e' w' => e' = .returned (.tuple #[.int .i64 v, .int .i64 e]) ∧ Below W.heap.size W w') := by
      unfold offV offE locE
      rw [h]
      cases h1 : okC o2 p2
      · exact ⟨0, 190, rfl, rfl, Lib.hid fun bt be W h2 h3 h4 h5 b h6 h7 => checked_bad o2 p2 _ _ W h1⟩
      · cases h2 : inT t
        · exact ⟨0, 2, rfl, rfl, Lib.hid fun bt be W h3 h4 h5 h6 b h7 h8 => checked_out o2 p2 t _ b W h1 h2 h7 h8⟩
        · refine ⟨atC o1 p1 t - atC o2 p2 t, 0, rfl, rfl, Lib.hid fun bf bt W h3 h4 h5 h6 b h7 h8 => ?_⟩
          have h9 := h2
          rw [inT_iff] at h9
          exact checked_one o2 p2 t _ 34 _ b W h1 h2 h7 h8 (enters_of Try.func34 (by kernel_rfl) rfl)
            (fun W1 hW => offset_fn o1 p1 o2 p2 t _ _ bf bt W1 h h1 h9.1 h9.2 (Nat.lt_of_lt_of_le h3 hW.size) (Nat.lt_of_lt_of_le h4 hW.size) ((hW.cell (p := ⟨bf, 0, none⟩) h3).trans h5) ((hW.cell (p := ⟨bt, 0, none⟩) h4).trans h6) rfl rfl)
    obtain ⟨v, e, hv, he, HC⟩ := HE
    rw [hv, he]
    clear hv he h
    go_enter Try.func20, Try.ntmps20
    go_wp2_with (go_at_call 15; refine (check_any _ _ _).mono ?_; rintro e w' ⟨rfl, hb⟩; rw [HK.out]; obtain ⟨hcl, hfr⟩ := bcell hb; have hz : w.heap.size + 1 + 1 < w'.heap.size := (by have := hb.size; simp at this; omega); have hz1 : w.heap.size + 1 < w'.heap.size := (by omega); have hz0 : w.heap.size < w'.heap.size := (by omega); have k1 : w'.cell? ⟨w.heap.size, 0, none⟩ = some (.int .i64 o1) := (hcl (w.heap.size) 0 (by simp <;> omega)).trans (by go_simp); have k2 : w'.cell? ⟨w.heap.size, 1, none⟩ = some (.int .i64 p1) := (hcl (w.heap.size) 1 (by simp <;> omega)).trans (by go_simp); have k3 : w'.cell? ⟨w.heap.size + 1, 0, none⟩ = some (.int .i64 o2) := (hcl (w.heap.size + 1) 0 (by simp <;> omega)).trans (by go_simp); have k4 : w'.cell? ⟨w.heap.size + 1, 1, none⟩ = some (.int .i64 p2) := (hcl (w.heap.size + 1) 1 (by simp <;> omega)).trans (by go_simp); have k5 : w'.cell? ⟨w.heap.size + 1 + 1, 0, none⟩ = some (.int .i64 t) := (hcl (w.heap.size + 1 + 1) 0 (by simp <;> omega)).trans (by go_simp); clear hcl hfr)

    have HW : Below w.heap.size w w' := ((((Below.refl _ _).alloc (Nat.le_refl _) _).alloc (by simp <;> omega) _).alloc (by simp <;> omega) _).trans (hb.mono (by simp <;> omega))
    refine (HC.out _ _ _ (by simp <;> omega) (by simp <;> omega) (by go_simp) (by go_simp) _ (by simp <;> omega) (by go_simp)).mono ?_
    rintro e' w2 ⟨rfl, hb2⟩
    go_wp2
    go_ret2
    exact ⟨rfl, ((HW.alloc (by omega) _).alloc (by simp <;> omega) _).trans (hb2.mono (by simp <;> omega))⟩
end Go.Proofs.Ytphinhebnekmlaa
