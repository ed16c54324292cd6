/- The package servo: Time, When, Sync, Bound. -/
import Derived.Test.YtkbepdhggfijbaaServo
import Derived.Test.YtkbepdhggfijbaaSearch
import Derived.Test.YtkbepdhggfijbaaTail
import Derived.Laws.EntriesVeiled
namespace Go.Proofs.Ytkbepdhggfijbaa
open Go.RowKit Go.Shelf

theorem atS_lim {L M p l : Int} (h : okS L M p = true) (h0 : -4398046511104 ≤ l) (h1 : l ≤ 4398046511104) : -17592186044416 ≤ atS L M p l ∧ atS L M p l ≤ 17592186044416 := by
  rw [okS_iff] at h
  have hb := mul_bdS (A := 8796093022208) (B := 8388608) (a := l - L) (b := p) (by omega) (by omega) (by omega) (by omega)
  unfold atS
  omega
def tmE (L M p l : Int) : Int := if okS L M p then (if stamp l then 0 else 2) else 230
def tmV (L M p l : Int) : Int := if okS L M p && stamp l then atS L M p l else 0
theorem tm_bad {L M p l : Int} (h : okS L M p = false) : tmV L M p l = 0 ∧ tmE L M p l = 230 := by unfold tmV tmE; rw [h]; exact ⟨rfl, rfl⟩
theorem tm_out {L M p l : Int} (h : okS L M p = true) (h2 : stamp l = false) : tmV L M p l = 0 ∧ tmE L M p l = 2 := by unfold tmV tmE; rw [h, h2]; exact ⟨rfl, rfl⟩
theorem tm_ok {L M p l : Int} (h : okS L M p = true) (h2 : stamp l = true) : tmV L M p l = atS L M p l ∧ tmE L M p l = 0 := by unfold tmV tmE; rw [h, h2]; exact ⟨rfl, rfl⟩
theorem scheck_no {L M p : Int} (h : okS L M p = false) (w : World) : Calls Try.prog 15 #[.agg #[.int .i64 L, .int .i64 M, .int .i64 p]] w fun e w' => e = .returned (.int .i64 230) ∧ Below w.heap.size w w' := by
  have := scheck_any L M p w
  rwa [chkS_no h] at this
theorem scheck_ok {L M p : Int} (h : okS L M p = true) (w : World) : Calls Try.prog 15 #[.agg #[.int .i64 L, .int .i64 M, .int .i64 p]] w fun e w' => e = .returned (.int .i64 0) ∧ Below w.heap.size w w' := by
  have := scheck_any L M p w
  rwa [chkS_ok h] at this
theorem holds1 (l : Int) (w : World) : Calls Try.prog 26 #[.agg #[.int .i64 l, .int .i64 4398046511104, .int .i64 0, .int .i64 0, .int .i64 0, .int .i64 0]] w fun e w' => e = .returned (.bool (stamp l)) ∧ Below w.heap.size w w' := by
  have := holds_any l 4398046511104 0 0 0 0 w (by omega) (by omega) (by omega) (by omega) (by omega) (by omega)
  have e : lim3 l 4398046511104 0 0 0 0 = stamp l := by unfold lim3 stamp; rw [show lim 0 0 = true from by decide]; simp
  rwa [e] at this
set_option maxHeartbeats 400000 in
theorem time_s (L M p l : Int) (w : World) :
    Calls Try.prog 13 #[.agg #[.int .i64 L, .int .i64 M, .int .i64 p], .int .i64 l] w fun e w' => e = .returned (.tuple #[.int .i64 (tmV L M p l), .int .i64 (tmE L M p l)]) ∧ Below w.heap.size w w' := by
  cases h : okS L M p
  · have HL := Lib.hid (tm_bad (l := l) h)
    have HK := Lib.hid (scheck_no h)
    clear h
    go_enter Try.func13, Try.ntmps13
    go_wp2_with (go_at_call 15; refine (HK.out _).mono ?_; rintro e w' ⟨rfl, hb⟩)
    go_ret2
    exact ⟨ret_int2 HL.out.1.symm HL.out.2.symm, ((Below.refl _ _).alloc (Nat.le_refl _) _).trans (hb.mono (by simp <;> omega))⟩
  · have HK := Lib.hid (scheck_ok h)
    cases h2 : stamp l
    · have HL := Lib.hid (tm_out h h2)
      have HH := Lib.hid fun w => holds1 l w
      rw [h2] at HH
      clear h h2
      go_enter Try.func13, Try.ntmps13
      go_wp2_with (first
        | (go_at_call 15; refine (HK.out _).mono ?_; rintro e w' ⟨rfl, hb⟩)
        | (go_at_call 26; refine (HH.out _).mono ?_; rintro e w2 ⟨rfl, hb2⟩))
      go_ret2
      exact ⟨ret_int2 HL.out.1.symm HL.out.2.symm, (((Below.refl _ _).alloc (Nat.le_refl _) _).trans (hb.mono (by simp <;> omega))).trans (hb2.mono (by have := hb.size; simp at this; omega))⟩
    · have HL := Lib.hid (tm_ok h h2)
      have HH := Lib.hid fun w => holds1 l w
      rw [h2] at HH
      rw [stamp_iff] at h2
      have HS := Lib.hid fun w => sat_any L M p l w h h2.1 h2.2
      clear h h2
      go_enter Try.func13, Try.ntmps13
      go_wp2_with fail
      refine (HK.out _).mono ?_
      rintro e w1 ⟨rfl, hb1⟩
      have hz1 : w.heap.size < w1.heap.size := by have := hb1.size; simp at this; omega
      have k1 : w1.cell? ⟨w.heap.size, 0, none⟩ = some (.int .i64 L) := (hb1.cell (p := ⟨w.heap.size, 0, none⟩) (by simp)).trans (by go_simp)
      have k2 : w1.cell? ⟨w.heap.size, 1, none⟩ = some (.int .i64 M) := (hb1.cell (p := ⟨w.heap.size, 1, none⟩) (by simp)).trans (by go_simp)
      have k3 : w1.cell? ⟨w.heap.size, 2, none⟩ = some (.int .i64 p) := (hb1.cell (p := ⟨w.heap.size, 2, none⟩) (by simp)).trans (by go_simp)
      have H1 : Below w.heap.size w w1 := ((Below.refl _ _).alloc (Nat.le_refl _) _).trans (hb1.mono (by simp <;> omega))
      clear hb1
      go_wp2_with fail
      refine (HH.out _).mono ?_
      rintro e w2 ⟨rfl, hb2⟩
      have j1 := (hb2.cell (p := ⟨w.heap.size, 0, none⟩) hz1).trans k1
      have j2 := (hb2.cell (p := ⟨w.heap.size, 1, none⟩) hz1).trans k2
      have j3 := (hb2.cell (p := ⟨w.heap.size, 2, none⟩) hz1).trans k3
      have H2 := H1.trans (hb2.mono H1.size)
      clear hb2 k1 k2 k3
      go_wp2_with fail
      refine (HS.out _).mono ?_
      rintro e w3 ⟨rfl, hb3⟩
      go_wp2
      go_ret2
      exact ⟨ret_int2 HL.out.1.symm HL.out.2.symm, H2.trans (hb3.mono H2.size)⟩

/-! ### When -/
theorem atS_mono {L M p : Int} (h : okS L M p = true) (l : Int) : atS L M p l ≤ atS L M p (l + 1) := by
  rw [okS_iff] at h
  unfold atS
  have : (l + 1 - L) * p = (l - L) * p + p := by rw [show l + 1 - L = (l - L) + 1 by omega, Int.add_mul, Int.one_mul]
  rw [this]
  omega
theorem atS_le {L M p : Int} (h : okS L M p = true) {s t : Int} (hst : s ≤ t) : atS L M p s ≤ atS L M p t := by
  have key : ∀ n : Nat, atS L M p s ≤ atS L M p (s + n) := fun n => by
    induction n with
    | zero => simp
    | succ n ih => exact Int.le_trans ih (by have := atS_mono h (s + n); rwa [show s + ((n + 1 : Nat) : Int) = s + n + 1 by omega])
  have := key (t - s).toNat
  rwa [show s + ((t - s).toNat : Int) = t by omega] at this
theorem exists_firstS (P : Nat → Prop) [DecidablePred P] (hm : ∀ i, P i → P (i + 1)) (n : Nat) : ∃ k, k ≤ n ∧ ∀ i, i < n → (P i ↔ k ≤ i) := by
  induction n with
  | zero => exact ⟨0, Nat.le_refl _, fun i h => absurd h (Nat.not_lt_zero _)⟩
  | succ n ih =>
    obtain ⟨k, hk, h⟩ := ih
    by_cases hkn : k = n
    · subst hkn
      by_cases hp : P k
      · exact ⟨k, by omega, fun i hi => by
          rcases Nat.lt_or_ge i k with g | g
          · exact h i g
          · obtain rfl : i = k := by omega
            exact ⟨fun _ => Nat.le_refl _, fun _ => hp⟩⟩
      · exact ⟨k + 1, by omega, fun i hi => by
          rcases Nat.lt_or_ge i k with g | g
          · exact ⟨fun q => absurd ((h i g).1 q) (by omega), fun q => absurd q (by omega)⟩
          · obtain rfl : i = k := by omega
            exact ⟨fun q => absurd q hp, fun q => absurd q (by omega)⟩⟩
    · exact ⟨k, by omega, fun i hi => by
        rcases Nat.lt_or_ge i n with g | g
        · exact h i g
        · obtain rfl : i = n := by omega
          obtain ⟨m, rfl⟩ : ∃ m, i = m + 1 := ⟨i - 1, by omega⟩
          exact ⟨fun _ => by omega, fun _ => hm m ((h m (by omega)).2 (by omega))⟩⟩
/-- 'k' counts the local times (from the least valid one on) at which the servo's time is still less than m. -/
def FirstS (L M p m : Int) (k : Nat) : Prop := k ≤ 8796093022209 ∧ ∀ i : Nat, i < 8796093022209 → (m ≤ atS L M p ((i : Int) - 4398046511104) ↔ k ≤ i)
theorem firstS_ex {L M p : Int} (m : Int) (h : okS L M p = true) : ∃ k, FirstS L M p m k :=
  exists_firstS (fun i : Nat => m ≤ atS L M p ((i : Int) - 4398046511104)) (fun i hi => Int.le_trans hi (by
    have := atS_mono h ((i : Int) - 4398046511104)
    rwa [show (i : Int) - 4398046511104 + 1 = ((i + 1 : Nat) : Int) - 4398046511104 by omega] at this)) 8796093022209
theorem FirstS.at {L M p m : Int} {k : Nat} (h : FirstS L M p m k) {l : Int} (h0 : -4398046511104 ≤ l) (h1 : l ≤ 4398046511104) : m ≤ atS L M p l ↔ (k : Int) - 4398046511104 ≤ l := by
  have := h.2 (l + 4398046511104).toNat (by omega)
  rw [show (((l + 4398046511104).toNat : Nat) : Int) - 4398046511104 = l by omega] at this
  rw [this]; omega
set_option maxHeartbeats 800000 in
theorem sless_fn (L M p m : Int) (t k bf bl : Nat) (W : World) (h : okS L M p = true) (h1 : t < 8796093022209) (hk : m ≤ atS L M p ((t : Int) - 4398046511104) ↔ k ≤ t)
    (hbf : bf < W.heap.size) (hbl : bl < W.heap.size)
    (hcf : W.cell? ⟨bf, 0, none⟩ = some (.func (.func 27) #[.agg #[.int .i64 L, .int .i64 M, .int .i64 p]] #[])) (hcb : W.cell? ⟨bl, 0, none⟩ = some (.int .i64 m)) :
    Calls Try.prog 31 #[.int .i64 t, .pointer (some ⟨bf, 0, none⟩), .pointer (some ⟨bl, 0, none⟩)] W fun e w' => e = .returned (.bool (decide (k ≤ t))) ∧ Below W.heap.size W w' := by
  have HD := Lib.hid fun w => sat_any L M p ((t : Int) - 4398046511104) w h (by omega) (by omega)
  have HR : Hid (decide (m ≤ atS L M p ((t : Int) - 4398046511104)) = decide (k ≤ t)) := Lib.hid (by simp [hk])
  have hsub : IntKind.i64.wrap ((t : Int) - 4398046511104) = (t : Int) - 4398046511104 := IntWalk.i64_in _ (by omega)
  have ht : (t : Int) < 8796093022209 := by omega
  clear hk h h1
  generalize decide (k ≤ t) = r at *
  generalize atS L M p ((t : Int) - 4398046511104) = a at *
  go_enter Try.func31, Try.ntmps31
  go_wp2
  have f1 := Bw.cell hbf hcf
  have f2 := Bw.cell hbl hcb
  clear hcf hcb
  refine wp_region_bw (by kernel_rfl) (by kernel_rfl) ?_
  repeat (go_big_quiet_step ((go_at_call 27; exact Calls.bw_of (HD.out _))))
  refine wpQuiet_nil ?_
  rintro _ ⟨⟨w4, hw4⟩, rfl⟩
  go_wp2
  go_ret
  exact ⟨ret_bool HR.out, hw4⟩
def whE (L M p : Int) (k : Nat) : Int := if okS L M p then (if k = 8796093022209 then 4 else 0) else 230
def whV (L M p : Int) (k : Nat) : Int := if okS L M p then (if k = 8796093022209 then 0 else (k : Int) - 4398046511104) else 0
theorem wh_bad {L M p : Int} {k : Nat} (h : okS L M p = false) : whV L M p k = 0 ∧ whE L M p k = 230 := by unfold whV whE; rw [h]; exact ⟨rfl, rfl⟩
theorem wh_none {L M p : Int} {k : Nat} (h : okS L M p = true) (h2 : k = 8796093022209) : whV L M p k = 0 ∧ whE L M p k = 4 := by unfold whV whE; rw [h]; simp [h2]
theorem wh_ok {L M p : Int} {k : Nat} (h : okS L M p = true) (h2 : k ≠ 8796093022209) : whV L M p k = (k : Int) - 4398046511104 ∧ whE L M p k = 0 := by unfold whV whE; rw [h]; simp [h2]
set_option maxHeartbeats 800000 in
theorem when_any (L M p m : Int) (k : Nat) (w : World) (hk : okS L M p = true → FirstS L M p m k) :
    Calls Try.prog 17 #[.agg #[.int .i64 L, .int .i64 M, .int .i64 p], .int .i64 m] w fun e w' => e = .returned (.tuple #[.int .i64 (whV L M p k), .int .i64 (whE L M p k)]) ∧ Below w.heap.size w w' := by
  cases h : okS L M p
  · have HL := Lib.hid (wh_bad (k := k) h)
    have HK := Lib.hid (scheck_no h)
    clear h hk
    go_enter Try.func17, Try.ntmps17
    go_wp2_with (go_at_call 15; refine (HK.out _).mono ?_; rintro e w' ⟨rfl, hb⟩)
    go_ret2
    exact ⟨ret_int2 HL.out.1.symm HL.out.2.symm, (((Below.refl _ _).alloc (Nat.le_refl _) _).alloc (by simp) _).trans (hb.mono (by simp <;> omega))⟩
  · have HK := Lib.hid (scheck_ok h)
    have hk1 := hk h
    have hkn := hk1.1
    have HS := Lib.hid fun cb w hf => search_any 31 cb 8796093022209 8796093022209 k w (by omega) (by omega) hk1.1 (enters_of Try.func31 (by kernel_rfl) rfl) hf
    have HF := Lib.hid fun (i : Nat) (hi : i < 8796093022209) b1 b2 w h1 h2 h3 h4 => sless_fn L M p m i k b1 b2 w h hi (hk1.2 i hi) h1 h2 h3 h4
    have HLL : ∃ v e : Int, whV L M p k = v ∧ whE L M p k = e ∧ Hid ((k = 8796093022209 ∧ v = 0 ∧ e = 4) ∨ (k ≠ 8796093022209 ∧ v = (k : Int) - 4398046511104 ∧ e = 0)) := by
      by_cases h2 : k = 8796093022209
      · exact ⟨0, 4, (wh_none h h2).1, (wh_none h h2).2, Or.inl ⟨h2, rfl, rfl⟩⟩
      · exact ⟨_, 0, (wh_ok h h2).1, (wh_ok h h2).2, Or.inr ⟨h2, rfl, rfl⟩⟩
    obtain ⟨v, e, hv, he, HV⟩ := HLL
    rw [hv, he]
    clear hv he hk hk1 h
    go_enter Try.func17, Try.ntmps17
    go_wp2_with fail
    refine (HK.out _).mono ?_
    rintro e1 w1 ⟨rfl, hb1⟩
    have hz1 : w.heap.size + 1 < w1.heap.size := by have := hb1.size; simp at this; omega
    have hz0 : w.heap.size < w1.heap.size := by omega
    have k1 : w1.cell? ⟨w.heap.size, 0, none⟩ = some (.int .i64 L) := (hb1.cell (p := ⟨w.heap.size, 0, none⟩) (by simp <;> omega)).trans (by go_simp)
    have k2 : w1.cell? ⟨w.heap.size, 1, none⟩ = some (.int .i64 M) := (hb1.cell (p := ⟨w.heap.size, 1, none⟩) (by simp <;> omega)).trans (by go_simp)
    have k3 : w1.cell? ⟨w.heap.size, 2, none⟩ = some (.int .i64 p) := (hb1.cell (p := ⟨w.heap.size, 2, none⟩) (by simp <;> omega)).trans (by go_simp)
    have k4 : w1.cell? ⟨w.heap.size + 1, 0, none⟩ = some (.int .i64 m) := (hb1.cell (p := ⟨w.heap.size + 1, 0, none⟩) (by simp <;> omega)).trans (by go_simp)
    have H1 : Below w.heap.size w w1 := (((Below.refl _ _).alloc (Nat.le_refl _) _).alloc (by simp) _).trans (hb1.mono (by simp <;> omega))
    clear hb1
    go_wp2_with fail
    refine (HS.out _ _ (by exact fun W hW i hi => HF.out i hi _ _ _ (Nat.lt_of_lt_of_le (by simp) hW.size) (Nat.lt_of_lt_of_le (by simp <;> omega) hW.size) ((hW.cell (p := ⟨w1.heap.size, 0, none⟩) (by simp)).trans (by go_simp)) ((hW.cell (p := ⟨w.heap.size + 1, 0, none⟩) (by simp <;> omega)).trans (by go_simp)))).mono ?_
    rintro e2 w2 ⟨rfl, hb2⟩
    have H2 : Below w.heap.size w w2 := (H1.alloc H1.size (.cells #[.func (.func 27) #[.agg #[.int .i64 L, .int .i64 M, .int .i64 p]] #[]] 62)).trans (hb2.mono (by have := H1.size; simp; omega))
    by_cases hmx : (8796093022208 : Int) < k
    · go_wp2
      go_ret2
      exact ⟨by rcases HV.out with ⟨a, rfl, rfl⟩ | ⟨a, _, _⟩; rfl; omega, H2⟩
    · go_wp2
      go_ret2
      exact ⟨by rcases HV.out with ⟨a, _, _⟩ | ⟨a, rfl, rfl⟩; omega; rfl, H2⟩
end Go.Proofs.Ytkbepdhggfijbaa
