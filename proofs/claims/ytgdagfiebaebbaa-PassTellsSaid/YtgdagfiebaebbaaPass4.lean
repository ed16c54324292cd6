/- The package pass: the closures of Arrive and Leave: what they do. -/
import Derived.Test.YtgdagfiebaebbaaPass3
namespace Go.Proofs.Ytgdagfiebaebbaa
open Go.RowKit

set_option maxRecDepth 100000 in
set_option maxHeartbeats 1000000 in
theorem leave1_any (b bx : Nat) (o c p x : Int) (w : World) (h : InfoAt w b o c p) (hbx : w.cell? ⟨bx, 0, none⟩ = some (.int .i64 x)) (hx : -4398046511104 ≤ x ∧ x ≤ 4398046511104) (hp : -16777216 ≤ p ∧ p ≤ 16777216) (hc : -4398046511104 ≤ c ∧ c ≤ 4398046511104) :
    Calls Try.prog 42 #[.pointer (some ⟨b, 0, none⟩), .pointer (some ⟨bx, 0, none⟩)] w fun e w' => e = .returned (.int .i64 0) ∧ Below b w w' ∧ InfoAt w' b o (c + tickV x p) p := by
  have K := Lib.hid (add_any b o c p x w h hx hp hc)
  clear h hx hp hc
  go_enter Try.func42, Try.ntmps42
  go_wp2_with fail
  refine K.out.mono ?_
  rintro e w1 ⟨rfl, hb, hI⟩
  go_wp2
  go_ret
  exact ⟨rfl, hb, hI⟩
set_option maxRecDepth 100000 in
set_option maxHeartbeats 1000000 in
theorem arrive1_any (b bd br : Nat) (o c p d r : Int) (w : World) (h : InfoAt w b o c p) (hbd : w.cell? ⟨bd, 0, none⟩ = some (.int .i64 d)) (hbr : w.cell? ⟨br, 0, none⟩ = some (.int .i64 r)) (hne : bd ≠ b) (hne2 : br ≠ b)
    (hd : -4398046511104 ≤ d ∧ d ≤ 4398046511104) (hr : -8388608 ≤ r ∧ r ≤ 8388608) (hp : -8388608 ≤ p ∧ p ≤ 8388608) (hc : -4398046511104 ≤ c ∧ c ≤ 4398046511104) :
    Calls Try.prog 36 #[.pointer (some ⟨b, 0, none⟩), .pointer (some ⟨br, 0, none⟩), .pointer (some ⟨bd, 0, none⟩)] w fun e w' => e = .returned (.int .i64 0) ∧ Below b w w' ∧ InfoAt w' b o (c + tickV d (p + r)) (p + r) := by
  have K := Lib.hid fun w h => add_any b o c (p + r) d w h hd (by omega) hc
  have hz := h.lt
  have hs : IntKind.i64.wrap (p + r) = p + r := IntWalk.i64_in _ (by omega)
  clear hd hr hp hc
  go_enter Try.func36, Try.ntmps36
  go_wp2_with fail
  refine wp_region_put (R := Unit) [5, 6, 7, 8, 9, 10, 11, 12, 13, 14]
    (fun _ => [.pointer (some ⟨b, 0, none⟩), .pointer (some ⟨b, 0, none⟩), .pointer (some ⟨b, 0, none⟩), .pointer (some ⟨b, 2, none⟩), .int .i64 p, .int .i64 r, .int .i64 (p + r), .pointer (some ⟨b, 0, none⟩), .pointer (some ⟨b, 0, none⟩), .pointer (some ⟨b, 2, none⟩)])
    (fun L _ wx => Below b w wx ∧ InfoAt wx b o c (if L 10 then p + r else p) ∧ wx.cell? ⟨bd, 0, none⟩ = some (.int .i64 d) ∧ wx.cell? ⟨br, 0, none⟩ = some (.int .i64 r) ∧ (L 10 = true → L 4 = true))
    (by kernel_rfl) (by kernel_rfl) (by kernel_rfl) () ?_ ?_ ?_
  · exact ⟨(Below.refl _ _).drew, h.below (Below.refl _ _).drew, by simpa using hbd, by simpa using hbr, fun h => absurd h (by decide)⟩
  · refine ⟨?_, ?_, ?_, ?_, ?_, ?_, ?_, ?_, ?_, ?_, ?_, trivial⟩
    all_goals
      rintro L ⟨⟩ wx K' hLi hdep ⟨hB, hI, k1, k2, h10⟩ hK
      have hc2 := hI.c2
      have hf2 := hI.f2
      simp only [putAll, Act.put, List.setIfInBounds_toArray, List.set_cons_succ, List.set_cons_zero] at hK ⊢
    · go_simp
      exact hK () wx ⟨hB, by simpa using hI, k1, k2, by simpa using h10⟩
    · go_simp
      exact hK () wx ⟨hB, by simpa using hI, k1, k2, by simpa using h10⟩
    · go_simp
      exact hK () wx ⟨hB, by simpa using hI, k1, k2, by simpa using h10⟩
    · go_simp
      exact hK () wx ⟨hB, by simpa using hI, k1, k2, by simpa using h10⟩
    · have hn : L 10 = false := by
        cases e : L 10
        · rfl
        · rw [h10 e] at hLi; cases hLi
      rw [hn] at hc2
      simp only [Bool.false_eq_true, if_false] at hc2
      go_simp
      exact hK () wx ⟨hB, by simpa using hI, k1, k2, by simp [hn]⟩
    · go_simp
      exact hK () wx ⟨hB, by simpa using hI, k1, k2, by simpa using h10⟩
    · go_simp
      exact hK () wx ⟨hB, by simpa using hI, k1, k2, by simpa using h10⟩
    · go_simp
      exact hK () wx ⟨hB, by simpa using hI, k1, k2, by simpa using h10⟩
    · go_simp
      exact hK () wx ⟨hB, by simpa using hI, k1, k2, by simpa using h10⟩
    · go_simp
      exact hK () wx ⟨hB, by simpa using hI, k1, k2, by simpa using h10⟩
    · have h4 : L 4 = true := hdep ⟨4, .phase⟩ (by simp) rfl
      go_simp
      refine hK () _ ⟨hB.setCell (Nat.le_refl _) _, ?_, (World.cell?_setCell_other _ _ _ _ (fun e => hne (congrArg Addr.block e).symm)).trans k1, (World.cell?_setCell_other _ _ _ _ (fun e => hne2 (congrArg Addr.block e).symm)).trans k2, fun _ => by simp [h4]⟩
      simpa using info_set2 hI
  rintro ⟨⟩ wx ⟨hB, hI, k1, k2, _⟩
  simp only [if_true] at hI
  have K := Lib.hid (K.out _ hI)
  simp only [putAll, Act.put, List.setIfInBounds_toArray, List.set_cons_succ, List.set_cons_zero]
  go_wp2_with fail
  refine K.out.mono ?_
  rintro e w1 ⟨rfl, hb, hI2⟩
  go_wp2
  go_ret
  exact ⟨rfl, hB.trans hb, hI2⟩
end Go.Proofs.Ytgdagfiebaebbaa
