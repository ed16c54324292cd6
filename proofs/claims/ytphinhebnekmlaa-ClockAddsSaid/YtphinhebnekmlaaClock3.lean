/- The package clock: True. -/
import Derived.Test.YtphinhebnekmlaaClock2
import Derived.Test.YtphinhebnekmlaaSearch
import Derived.Deep.RegionWith
import Derived.Deep.RegionHeld3
namespace Go.Proofs.Ytphinhebnekmlaa
open Go.RowKit Go.Shelf

theorem exists_first (P : Nat → Prop) [DecidablePred P] (hm : ∀ i, P i → P (i + 1)) (n : Nat) : ∃ k, k ≤ n ∧ ∀ i, i < n → (P i ↔ k ≤ i) := by
  induction n with
  | zero => exact ⟨0, Nat.le_refl _, fun i h => absurd h (Nat.not_lt_zero _)⟩
  | succ n ih =>
    obtain ⟨k, hk, h⟩ := ih
    by_cases hkn : k = n
    · subst hkn
      by_cases hp : P k
      · exact ⟨k, by omega, fun i hi => by
          rcases Nat.lt_or_ge i k with g | g
          · exact h i g
          · obtain rfl : i = k := by omega
            exact ⟨fun _ => Nat.le_refl _, fun _ => hp⟩⟩
      · exact ⟨k + 1, by omega, fun i hi => by
          rcases Nat.lt_or_ge i k with g | g
          · exact ⟨fun q => absurd ((h i g).1 q) (by omega), fun q => absurd q (by omega)⟩
          · obtain rfl : i = k := by omega
            exact ⟨fun q => absurd q hp, fun q => absurd q (by omega)⟩⟩
    · exact ⟨k, by omega, fun i hi => by
        rcases Nat.lt_or_ge i n with g | g
        · exact h i g
        · obtain rfl : i = n := by omega
          obtain ⟨m, rfl⟩ : ∃ m, i = m + 1 := ⟨i - 1, by omega⟩
          exact ⟨fun _ => by omega, fun _ => hm m ((h m (by omega)).2 (by omega))⟩⟩
theorem atC_mono {o p : Int} (h : okC o p = true) (t : Int) : atC o p t ≤ atC o p (t + 1) := by
  rw [okC_iff] at h
  unfold atC
  have : (t + 1) * p = t * p + p := by rw [Int.add_mul, Int.one_mul]
  rw [this]
  omega
theorem atC_mono' {o p : Int} (h : okC o p = true) (s : Int) (n : Nat) : atC o p s ≤ atC o p (s + n) := by
  induction n with
  | zero => simp
  | succ n ih => exact Int.le_trans ih (by have := atC_mono h (s + n); rwa [show s + ((n + 1 : Nat) : Int) = s + n + 1 by omega])
theorem atC_le {o p : Int} (h : okC o p = true) {s t : Int} (hst : s ≤ t) : atC o p s ≤ atC o p t := by
  have := atC_mono' h s (t - s).toNat
  rwa [show s + ((t - s).toNat : Int) = t by omega] at this
/-- 'k' is the first true time at which the clock shows l (1 + MaxTime where there is none). -/
def First (o p l : Int) (k : Nat) : Prop := k ≤ 1099511627777 ∧ ∀ i : Nat, i < 1099511627777 → (l ≤ atC o p i ↔ k ≤ i)
theorem first_ex {o p : Int} (l : Int) (h : okC o p = true) : ∃ k, First o p l k :=
  exists_first (fun i : Nat => l ≤ atC o p i) (fun i hi => Int.le_trans hi (by have := atC_mono h i; simpa using this)) 1099511627777

theorem held2 {W w1 w2 : World} {b1 b2 : Nat} {v1 v2 : Value} (h : w1.cell? ⟨b1, 0, none⟩ = some v1 ∧ w1.cell? ⟨b2, 0, none⟩ = some v2 ∧ Below W.heap.size W w1) (hb : Below w1.heap.size w1 w2)
    (h1 : b1 < W.heap.size) (h2 : b2 < W.heap.size) : w2.cell? ⟨b1, 0, none⟩ = some v1 ∧ w2.cell? ⟨b2, 0, none⟩ = some v2 ∧ Below W.heap.size W w2 :=
  ⟨(hb.cell (p := ⟨b1, 0, none⟩) (Nat.lt_of_lt_of_le h1 h.2.2.size)).trans h.1, (hb.cell (p := ⟨b2, 0, none⟩) (Nat.lt_of_lt_of_le h2 h.2.2.size)).trans h.2.1, h.2.2.trans (hb.mono h.2.2.size)⟩
set_option maxHeartbeats 800000 in
theorem less_fn (o p l : Int) (t k bf bl : Nat) (W : World) (h : okC o p = true) (h1 : t < 1099511627777) (hk : l ≤ atC o p t ↔ k ≤ t)
    (hbf : bf < W.heap.size) (hbl : bl < W.heap.size)
    (hcf : W.cell? ⟨bf, 0, none⟩ = some (dialV o p)) (hcb : W.cell? ⟨bl, 0, none⟩ = some (.int .i64 l)) :
    Calls Try.prog 31 #[.int .i64 t, .pointer (some ⟨bf, 0, none⟩), .pointer (some ⟨bl, 0, none⟩)] W fun e w' => e = .returned (.bool (decide (k ≤ t))) ∧ Below W.heap.size W w' := by
  have HD := Lib.hid fun w => dial_any o p t w h (by omega) (by omega)
  unfold dialV at hcf
  have HR : Hid (decide (l ≤ atC o p t) = decide (k ≤ t)) := Lib.hid (by simp [hk])
  clear hk h
  generalize decide (k ≤ t) = r at *
  generalize atC o p t = a at *
  go_enter Try.func31, Try.ntmps31
  go_wp2
  go_region_held3 (fun w' => w'.cell? ⟨bf, 0, none⟩ = some (.func (.func 33) #[.agg #[.int .i64 o, .int .i64 p]] #[]) ∧ w'.cell? ⟨bl, 0, none⟩ = some (.int .i64 l) ∧ Below W.heap.size W w')
    (first
      | exact ⟨hcf, hcb, (Below.refl _ _).drew⟩
      | exact held2 (by assumption) hb hbf hbl)
    ((go_at_call 33; refine (HD.out _).mono ?_; rintro e w' ⟨rfl, hb⟩))
  go_wp2
  go_ret
  exact ⟨ret_bool HR.out, ((Below.refl _ _).drew).trans hb⟩
set_option maxHeartbeats 800000 in
theorem true_fn (o p l : Int) (k bl : Nat) (W : World) (h : okC o p = true) (hk : First o p l k) (hbl : bl < W.heap.size) (hcb : W.cell? ⟨bl, 0, none⟩ = some (.int .i64 l)) :
    Calls Try.prog 29 #[.func (.func 33) #[.agg #[.int .i64 o, .int .i64 p]] #[], .pointer (some ⟨bl, 0, none⟩)] W fun e w' => e = .returned (.int .i64 k) ∧ Below W.heap.size W w' := by
  have HS := Lib.hid fun cb w hf => search_any 31 cb 1099511627777 1099511627777 k w (by omega) (by omega) hk.1 (enters_of Try.func31 (by kernel_rfl) rfl) hf
  have HL := Lib.hid fun (i : Nat) (hi : i < 1099511627777) b1 w h1 h2 h3 h4 => less_fn o p l i k b1 bl w h hi (hk.2 i hi) h1 h2 h3 h4
  clear h hk
  go_enter Try.func29, Try.ntmps29
  go_wp2_with fail
  refine (HS.out _ _ (by exact fun W1 hW i hi => HL.out i hi _ _ (Nat.lt_of_lt_of_le (by simp) hW.size) (Nat.lt_of_lt_of_le (by simp <;> omega) hW.size) ((hW.cell (p := ⟨W.heap.size, 0, none⟩) (by simp)).trans (by simp [dialV])) ((hW.cell (p := ⟨bl, 0, none⟩) (by simp <;> omega)).trans (by go_simp)))).mono ?_
  rintro e w' ⟨rfl, hb⟩
  go_wp2
  go_ret
  exact ⟨rfl, ((Below.refl _ _).alloc (Nat.le_refl _) _).trans (hb.mono (by simp))⟩
/-- What True returns: 'k' the first time. -/
def truE (o p : Int) (k : Nat) : Int := if okC o p then (if k = 1099511627777 then 4 else 0) else 190
def truV (o p : Int) (k : Nat) : Int := if okC o p then (if k = 1099511627777 then 0 else k) else 0
theorem tru_bad {o p : Int} {k : Nat} (h : okC o p = false) : truV o p k = 0 ∧ truE o p k = 190 := by unfold truV truE; rw [h]; exact ⟨rfl, rfl⟩
theorem tru_none {o p : Int} {k : Nat} (h : okC o p = true) (h2 : k = 1099511627777) : truV o p k = 0 ∧ truE o p k = 4 := by unfold truV truE; rw [h]; simp [h2]
theorem tru_ok {o p : Int} {k : Nat} (h : okC o p = true) (h2 : k ≠ 1099511627777) : truV o p k = k ∧ truE o p k = 0 := by unfold truV truE; rw [h]; simp [h2]
set_option maxHeartbeats 800000 in
theorem true_any (o p l : Int) (k : Nat) (w : World) (hk : okC o p = true → First o p l k) :
    Calls Try.prog 16 #[.agg #[.int .i64 o, .int .i64 p], .int .i64 l] w fun e w' => e = .returned (.tuple #[.int .i64 (truV o p k), .int .i64 (truE o p k)]) ∧ Below w.heap.size w w' := by
  cases h : okC o p
  · have HL := Lib.hid (tru_bad (k := k) h)
    have HB := Lib.hid fun f ts w => checked_bad o p f ts w h
    clear h hk
    go_enter Try.func16, Try.ntmps16
    go_wp2_with (go_at_call 25; refine (HB.out _ _ _).mono ?_; rintro e w' ⟨rfl, hb⟩)
    go_ret2
    exact ⟨ret_int2 HL.out.1.symm HL.out.2.symm, (((Below.refl _ _).alloc (Nat.le_refl _) _).alloc (by simp) _).trans (hb.mono (by simp; omega))⟩
  · have hk1 := hk h
    have hkn := hk1.1
    have HB := Lib.hid fun c w hf => checked_none o p k 29 #[.pointer (some ⟨c, 0, none⟩)] w h (enters_of Try.func29 (by kernel_rfl) rfl) hf
    have HT := Lib.hid fun bl w hb hc => true_fn o p l k bl w h hk1 hb hc
    by_cases h2 : k = 1099511627777
    · have HL := Lib.hid (tru_none h h2)
      have h3 : (1099511627776 : Int) < (k : Int) := by omega
      clear hk hk1 h h2
      go_enter Try.func16, Try.ntmps16
      go_wp2_with fail
      refine (HB.out _ _ (by exact fun W hW => HT.out _ _ (Nat.lt_of_lt_of_le (by simp <;> omega) hW.size) ((hW.cell (p := ⟨w.heap.size + 1, 0, none⟩) (by simp <;> omega)).trans (by go_simp)))).mono ?_
      rintro e w' ⟨rfl, hb⟩
      go_wp2
      go_ret2
      exact ⟨ret_int2 HL.out.1.symm HL.out.2.symm, (((Below.refl _ _).alloc (Nat.le_refl _) _).alloc (by simp) _).trans (hb.mono (by simp; omega))⟩
    · have HL := Lib.hid (tru_ok h h2)
      have h3 : ¬ (1099511627776 : Int) < (k : Int) := by omega
      clear hk hk1 h h2
      go_enter Try.func16, Try.ntmps16
      go_wp2_with fail
      refine (HB.out _ _ (by exact fun W hW => HT.out _ _ (Nat.lt_of_lt_of_le (by simp <;> omega) hW.size) ((hW.cell (p := ⟨w.heap.size + 1, 0, none⟩) (by simp <;> omega)).trans (by go_simp)))).mono ?_
      rintro e w' ⟨rfl, hb⟩
      go_wp2
      go_ret2
      exact ⟨ret_int2 HL.out.1.symm HL.out.2.symm, (((Below.refl _ _).alloc (Nat.le_refl _) _).alloc (by simp) _).trans (hb.mono (by simp; omega))⟩
end Go.Proofs.Ytphinhebnekmlaa
