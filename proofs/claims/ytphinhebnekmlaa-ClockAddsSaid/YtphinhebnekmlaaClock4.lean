/- The package clock: Elapsed, Offset, Bound. -/
import Derived.Test.YtphinhebnekmlaaClock2
import Derived.Deep.RegionHeld3
namespace Go.Proofs.Ytphinhebnekmlaa
open Go.RowKit Go.Shelf

theorem held2' {W w1 w2 : World} {b1 b2 : Nat} {v1 v2 : Value} (h : w1.cell? ⟨b1, 0, none⟩ = some v1 ∧ w1.cell? ⟨b2, 0, none⟩ = some v2 ∧ Below W.heap.size W w1) (hb : Below w1.heap.size w1 w2)
    (h1 : b1 < W.heap.size) (h2 : b2 < W.heap.size) : w2.cell? ⟨b1, 0, none⟩ = some v1 ∧ w2.cell? ⟨b2, 0, none⟩ = some v2 ∧ Below W.heap.size W w2 :=
  ⟨(hb.cell (p := ⟨b1, 0, none⟩) (Nat.lt_of_lt_of_le h1 h.2.2.size)).trans h.1, (hb.cell (p := ⟨b2, 0, none⟩) (Nat.lt_of_lt_of_le h2 h.2.2.size)).trans h.2.1, h.2.2.trans (hb.mono h.2.2.size)⟩
theorem atC_lim {o p t : Int} (h : okC o p = true) (h0 : 0 ≤ t) (h1 : t ≤ 1099511627776) : -4398046511104 ≤ atC o p t ∧ atC o p t ≤ 4398046511104 := by
  rw [okC_iff] at h
  have hb := mul_bd (A := 1099511627776) (B := 200000) (a := t) (b := p) (by omega) h1 (by omega) (by omega)
  unfold atC
  omega
set_option maxHeartbeats 800000 in
theorem elapsed_fn (o p e t be bt : Int) (b1 b2 : Nat) (W : World) (h : okC o p = true) (he0 : 0 ≤ e) (he1 : e ≤ 1099511627776) (ht0 : 0 ≤ t) (ht1 : t ≤ 1099511627776)
    (hb1 : b1 < W.heap.size) (hb2 : b2 < W.heap.size) (hc1 : W.cell? ⟨b1, 0, none⟩ = some (.int .i64 e)) (hc2 : W.cell? ⟨b2, 0, none⟩ = some (.int .i64 t)) (hbe : atC o p e = be) (hbt : atC o p t = bt) :
    Calls Try.prog 32 #[.func (.func 33) #[.agg #[.int .i64 o, .int .i64 p]] #[], .pointer (some ⟨b1, 0, none⟩), .pointer (some ⟨b2, 0, none⟩)] W fun e w' => e = .returned (.int .i64 (be - bt)) ∧ Below W.heap.size W w' := by
  have l1 := atC_lim h he0 he1
  have l2 := atC_lim h ht0 ht1
  rw [hbe] at l1
  rw [hbt] at l2
  have HD1 := Lib.hid fun w => dial_any o p e w h (by omega) (by omega)
  have HD2 := Lib.hid fun w => dial_any o p t w h (by omega) (by omega)
  rw [hbe] at HD1
  rw [hbt] at HD2
  have hsub : IntKind.i64.wrap (be - bt) = be - bt := IntWalk.i64_in _ (by omega)
  clear h hbe hbt
  go_enter Try.func32, Try.ntmps32
  go_wp2
  go_region_held3 (fun w' => w'.cell? ⟨b1, 0, none⟩ = some (.int .i64 e) ∧ w'.cell? ⟨b2, 0, none⟩ = some (.int .i64 t) ∧ Below W.heap.size W w')
    (first
      | exact ⟨hc1, hc2, (Below.refl _ _).drew⟩
      | exact held2' (by assumption) hb hb1 hb2)
    (first
      | (go_at_call_of 33 (Value.int .i64 e); refine (HD1.out _).mono ?_; rintro e w' ⟨rfl, hb⟩; have hS := (held2' (by assumption) hb hb1 hb2).2.2)
      | (go_at_call_of 33 (Value.int .i64 t); refine (HD2.out _).mono ?_; rintro e w' ⟨rfl, hb⟩; have hS := (held2' (by assumption) hb hb1 hb2).2.2))
  go_wp2
  go_ret
  exact ⟨rfl, hS⟩
set_option maxHeartbeats 400000 in
theorem bound_in (p d : Int) (w : World) (hp0 : 0 ≤ p) (hp1 : p ≤ 200000) (hd0 : 0 ≤ d) (hd1 : d ≤ 1099511627776) :
    Calls Try.prog 22 #[.int .i64 p, .int .i64 d] w fun e w' => e = .returned (.tuple #[.int .i64 (-((-d) * p / 1000000000)), .int .i64 0]) ∧ Below w.heap.size w w' := by
  have hb := mul_bd (A := 1099511627776) (B := 200000) (a := -d) (b := p) (by omega) (by omega) (by omega) (by omega)
  have q1 : -1125899906842624 ≤ (-d) * p / 1000000000 := by omega
  have q2 : (-d) * p / 1000000000 ≤ 1125899906842624 := by omega
  have hm : md (-d) p 1000000000 = (-d) * p / 1000000000 := md_ok (by rw [inR_iff]; omega) (by rw [inR_iff]; omega) (by rw [inR_iff]; omega) (by omega) (by rw [inR_iff]; exact ⟨q1, q2⟩)
  obtain ⟨q, hq⟩ : ∃ q, (-d) * p / 1000000000 = q := ⟨_, rfl⟩
  rw [hq] at q1 q2 hm ⊢
  have HM := Lib.hid hm
  clear hm hq hb
  go_enter Try.func22, Try.ntmps22
  go_wp2_with (first
    | (go_at_call 35; refine (muldiv_any _ _ _ _).mono ?_; rintro e w' ⟨rfl, hb⟩; rw [HM.out])
    | (go_at_call 28; go_in))
  go_ret2
  exact ⟨rfl, hb⟩
/-- What Bound returns. -/
def okB (p d : Int) : Bool := decide (0 ≤ p) && decide (p ≤ 200000) && (decide (0 ≤ d) && decide (d ≤ 1099511627776))
def bndV (p d : Int) : Int := if okB p d then -((-d) * p / 1000000000) else 0
def bndE (p d : Int) : Int := if okB p d then 0 else 2
theorem okB_iff (p d : Int) : okB p d = true ↔ (0 ≤ p ∧ p ≤ 200000) ∧ 0 ≤ d ∧ d ≤ 1099511627776 := by simp [okB]
set_option maxHeartbeats 400000 in
theorem bound_any (p d : Int) (w : World) :
    Calls Try.prog 22 #[.int .i64 p, .int .i64 d] w fun e w' => e = .returned (.tuple #[.int .i64 (bndV p d), .int .i64 (bndE p d)]) ∧ Below w.heap.size w w' := by
  cases h : okB p d
  · have HV : Hid (bndV p d = 0 ∧ bndE p d = 2) := Lib.hid (by unfold bndV bndE; rw [h]; exact ⟨rfl, rfl⟩)
    have hn : ¬ ((0 ≤ p ∧ p ≤ 200000) ∧ 0 ≤ d ∧ d ≤ 1099511627776) := fun k => by rw [← okB_iff, h] at k; cases k
    clear h
    by_cases h1 : 0 ≤ p
    · by_cases h2 : p ≤ 200000
      · by_cases h3 : 0 ≤ d
        · have h4 : ¬ d ≤ 1099511627776 := by omega
          clear hn
          go_enter Try.func22, Try.ntmps22
          go_wp2
          go_ret2
          exact ⟨ret_int2 HV.out.1.symm HV.out.2.symm, Below.refl _ _⟩
        · clear hn
          go_enter Try.func22, Try.ntmps22
          go_wp2
          go_ret2
          exact ⟨ret_int2 HV.out.1.symm HV.out.2.symm, Below.refl _ _⟩
      · clear hn
        go_enter Try.func22, Try.ntmps22
        go_wp2
        go_ret2
        exact ⟨ret_int2 HV.out.1.symm HV.out.2.symm, Below.refl _ _⟩
    · clear hn
      go_enter Try.func22, Try.ntmps22
      go_wp2
      go_ret2
      exact ⟨ret_int2 HV.out.1.symm HV.out.2.symm, Below.refl _ _⟩
  · have HV : bndV p d = -((-d) * p / 1000000000) ∧ bndE p d = 0 := by unfold bndV bndE; rw [h]; exact ⟨rfl, rfl⟩
    rw [okB_iff] at h
    rw [HV.1, HV.2]
    exact bound_in p d w h.1.1 h.1.2 h.2.1 h.2.2
/-! ### Elapsed -/
def okE (t d : Int) : Bool := inT t && inT d && inT (t + d)
def elE (o p t d : Int) : Int := if okC o p then (if okE t d then 0 else 2) else 190
def elV (o p t d : Int) : Int := if okC o p && okE t d then atC o p (t + d) - atC o p t else 0
theorem el_bad {o p t d : Int} (h : okC o p = false) : elV o p t d = 0 ∧ elE o p t d = 190 := by unfold elV elE; rw [h]; exact ⟨rfl, rfl⟩
theorem el_out {o p t d : Int} (h : okC o p = true) (h2 : okE t d = false) : elV o p t d = 0 ∧ elE o p t d = 2 := by unfold elV elE; rw [h, h2]; exact ⟨rfl, rfl⟩
theorem el_ok {o p t d : Int} (h : okC o p = true) (h2 : okE t d = true) : elV o p t d = atC o p (t + d) - atC o p t ∧ elE o p t d = 0 := by unfold elV elE; rw [h, h2]; exact ⟨rfl, rfl⟩
theorem okE_iff (t d : Int) : okE t d = true ↔ ((0 ≤ t ∧ t ≤ 1099511627776) ∧ 0 ≤ d ∧ d ≤ 1099511627776) ∧ 0 ≤ t + d ∧ t + d ≤ 1099511627776 := by simp [okE, inT]
/-- Elapsed, behind the look at its times: 'e' is the end (-1 where the times are not valid). -/
def endT (t d : Int) : Int := if 0 ≤ t ∧ t ≤ 1099511627776 ∧ 0 ≤ d ∧ d ≤ 1099511627776 then t + d else -1
set_option maxHeartbeats 1000000 in
theorem elapsed_any (o p t d : Int) (w : World) :
    Calls Try.prog 18 #[.agg #[.int .i64 o, .int .i64 p], .int .i64 t, .int .i64 d] w fun e w' => e = .returned (.tuple #[.int .i64 (elV o p t d), .int .i64 (elE o p t d)]) ∧ Below w.heap.size w w' := by
  have HE : ∃ v e : Int, elV o p t d = v ∧ elE o p t d = e ∧ Hid (∀ (bt be : Nat) (W : World), bt < W.heap.size → be < W.heap.size → W.cell? ⟨bt, 0, none⟩ = some (.int .i64 t) → W.cell? ⟨be, 0, none⟩ = some (.int .i64 (endT t d)) →
      ∀ b : Nat, b < W.heap.size → W.cell? ⟨b, 0, none⟩ = some (.int .i64 (endT t d)) →
      Calls Try.prog 25 #[.agg #[.int .i64 o, .int .i64 p], .func (.func 32) #[] #[.pointer (some ⟨be, 0, none⟩), .pointer (some ⟨bt, 0, none⟩)], .slice (some ⟨b, 0, none⟩) 1 1] W fun e' w' => e' = .returned (.tuple #[.int .i64 v, .int .i64 e]) ∧ Below W.heap.size W w') := by
    cases h : okC o p
    · exact ⟨0, 190, (el_bad h).1, (el_bad h).2, Lib.hid fun bt be W h1 h2 h3 h4 b h5 h6 => checked_bad o p _ _ W h⟩
    · cases h2 : okE t d
      · refine ⟨0, 2, (el_out h h2).1, (el_out h h2).2, Lib.hid fun bt be W h3 h4 h5 h6 b h7 h8 => checked_out o p (endT t d) _ b W h ?_ h7 h8⟩
        have hn : ¬ (((0 ≤ t ∧ t ≤ 1099511627776) ∧ 0 ≤ d ∧ d ≤ 1099511627776) ∧ 0 ≤ t + d ∧ t + d ≤ 1099511627776) := fun k => by rw [← okE_iff, h2] at k; cases k
        cases h9 : inT (endT t d)
        · rfl
        · rw [inT_iff] at h9
          unfold endT at h9
          split at h9 <;> omega
      · refine ⟨atC o p (t + d) - atC o p t, 0, (el_ok h h2).1, (el_ok h h2).2, Lib.hid fun bt be W h3 h4 h5 h6 b h7 h8 => ?_⟩
        rw [okE_iff] at h2
        have he : endT t d = t + d := by unfold endT; rw [if_pos (by omega)]
        rw [he] at h6 h8
        exact checked_one o p (t + d) _ 32 _ b W h (by rw [inT_iff]; exact h2.2) h7 h8 (enters_of Try.func32 (by kernel_rfl) rfl)
          (fun W1 hW => elapsed_fn o p (t + d) t _ _ be bt W1 h h2.2.1 h2.2.2 h2.1.1.1 h2.1.1.2 (Nat.lt_of_lt_of_le h4 hW.size) (Nat.lt_of_lt_of_le h3 hW.size) ((hW.cell (p := ⟨be, 0, none⟩) h4).trans h6) ((hW.cell (p := ⟨bt, 0, none⟩) h3).trans h5) rfl rfl)
  obtain ⟨v, e, hv, he, HC⟩ := HE
  rw [hv, he]
  clear hv he
  have HN : Hid (∀ q, (0 ≤ t ∧ t ≤ 1099511627776 ∧ 0 ≤ d ∧ d ≤ 1099511627776 → t + d = q) → (¬ (0 ≤ t ∧ t ≤ 1099511627776 ∧ 0 ≤ d ∧ d ≤ 1099511627776) → -1 = q) → endT t d = q) := Lib.hid fun q h1 h2 => by
    unfold endT; split
    · exact h1 (by assumption)
    · exact h2 (by assumption)
  by_cases h1 : 0 ≤ t
  · by_cases h2 : t ≤ 1099511627776
    · by_cases h3 : 0 ≤ d
      · by_cases h4 : d ≤ 1099511627776
        · have H := Lib.hid (HN.out (t + d) (fun _ => rfl) (fun k => absurd ⟨h1, h2, h3, h4⟩ k))
          clear HN
          rw [H.out] at HC
          clear H
          go_enter Try.func18, Try.ntmps18
          go_wp2_with (go_at_call 28; go_in)
          refine (HC.out _ _ _ (by simp <;> omega) (by simp <;> omega) (by go_simp) (by go_simp) _ (by simp <;> omega) (by go_simp)).mono ?_
          rintro e' w' ⟨rfl, hb⟩
          go_wp2
          go_ret2
          exact ⟨rfl, (((((Below.refl _ _).alloc (Nat.le_refl _) _).alloc (by simp <;> omega) _).alloc (by simp <;> omega) _).alloc (by simp <;> omega) _).trans (hb.mono (by simp <;> omega))⟩
        · have H := Lib.hid (HN.out (-1) (fun k => absurd k (by omega)) (fun _ => rfl))
          clear HN
          rw [H.out] at HC
          clear H
          go_enter Try.func18, Try.ntmps18
          go_wp2_with (go_at_call 28; go_in)
          refine (HC.out _ _ _ (by simp <;> omega) (by simp <;> omega) (by go_simp) (by go_simp) _ (by simp <;> omega) (by go_simp)).mono ?_
          rintro e' w' ⟨rfl, hb⟩
          go_wp2
          go_ret2
          exact ⟨rfl, (((((Below.refl _ _).alloc (Nat.le_refl _) _).alloc (by simp <;> omega) _).alloc (by simp <;> omega) _).alloc (by simp <;> omega) _).trans (hb.mono (by simp <;> omega))⟩
      · have H := Lib.hid (HN.out (-1) (fun k => absurd k (by omega)) (fun _ => rfl))
        clear HN
        rw [H.out] at HC
        clear H
        go_enter Try.func18, Try.ntmps18
        go_wp2_with (go_at_call 28; go_in)
        refine (HC.out _ _ _ (by simp <;> omega) (by simp <;> omega) (by go_simp) (by go_simp) _ (by simp <;> omega) (by go_simp)).mono ?_
        rintro e' w' ⟨rfl, hb⟩
        go_wp2
        go_ret2
        exact ⟨rfl, (((((Below.refl _ _).alloc (Nat.le_refl _) _).alloc (by simp <;> omega) _).alloc (by simp <;> omega) _).alloc (by simp <;> omega) _).trans (hb.mono (by simp <;> omega))⟩
    · have H := Lib.hid (HN.out (-1) (fun k => absurd k (by omega)) (fun _ => rfl))
      clear HN
      rw [H.out] at HC
      clear H
      go_enter Try.func18, Try.ntmps18
      go_wp2_with (go_at_call 28; go_in)
      refine (HC.out _ _ _ (by simp <;> omega) (by simp <;> omega) (by go_simp) (by go_simp) _ (by simp <;> omega) (by go_simp)).mono ?_
      rintro e' w' ⟨rfl, hb⟩
      go_wp2
      go_ret2
      exact ⟨rfl, (((((Below.refl _ _).alloc (Nat.le_refl _) _).alloc (by simp <;> omega) _).alloc (by simp <;> omega) _).alloc (by simp <;> omega) _).trans (hb.mono (by simp <;> omega))⟩
  · have H := Lib.hid (HN.out (-1) (fun k => absurd k (by omega)) (fun _ => rfl))
    clear HN
    rw [H.out] at HC
    clear H
    go_enter Try.func18, Try.ntmps18
    go_wp2_with (go_at_call 28; go_in)
    refine (HC.out _ _ _ (by simp <;> omega) (by simp <;> omega) (by go_simp) (by go_simp) _ (by simp <;> omega) (by go_simp)).mono ?_
    rintro e' w' ⟨rfl, hb⟩
    go_wp2
    go_ret2
    exact ⟨rfl, (((((Below.refl _ _).alloc (Nat.le_refl _) _).alloc (by simp <;> omega) _).alloc (by simp <;> omega) _).alloc (by simp <;> omega) _).trans (hb.mono (by simp <;> omega))⟩
end Go.Proofs.Ytphinhebnekmlaa
