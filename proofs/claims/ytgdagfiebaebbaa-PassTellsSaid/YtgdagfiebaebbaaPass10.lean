/- The reference of the layer pass: Set, Limits, Bound, the draft; and Bound of the package. -/
import Derived.Test.YtgdagfiebaebbaaPass9
namespace Go.Proofs.Ytgdagfiebaebbaa
open Go.RowKit

theorem sL_ok {n : Int} : (sL n).ok = true ↔ stamp n = true := (rstamp14_any_iff n).trans (stamp_iff n).symm
theorem set_bad {o c p l : Int} (h : okI o c p = false) : setV o c p l = ⟨0, 0, 0, 240⟩ := by unfold setV schV; rw [h]; simp
theorem set_arg {o c p l : Int} (h : okI o c p = true) (h2 : (sL l).ok = false) : setV o c p l = ⟨0, 0, 0, 2⟩ := by
  have e : lmsOk [sL l] = false := by unfold lmsOk; rw [h2]; rfl
  unfold setV schV; rw [h, e]; simp
theorem set_run {o c p l : Int} (h : okI o c p = true) (h2 : (sL l).ok = true) : setV o c p l = if okS l (o + c) p = true then ⟨l, o + c, p, 0⟩ else ⟨0, 0, 0, 6⟩ := by
  have e : lmsOk [sL l] = true := by unfold lmsOk; rw [h2]; rfl
  unfold setV schV chkS; rw [h, e]
  cases h9 : okS l (o + c) p <;> simp [h9]
theorem okS_sum {o c p l : Int} (h : okI o c p = true) (h2 : (sL l).ok = true) : okS l (o + c) p = (sL (o + c)).ok := by
  have g := (okI_iff _ _ _).1 h
  have g2 := (rstamp14_any_iff l).1 h2
  cases h3 : (sL (o + c)).ok
  · cases h4 : okS l (o + c) p
    · rfl
    · have h5 := (okS_iff _ _ _).1 h4
      have h6 := (rstamp14_any_iff (o + c)).2 (by omega)
      rw [h6] at h3; cases h3
  · have h6 := (rstamp14_any_iff (o + c)).1 h3
    exact (okS_iff _ _ _).2 (by omega)
set_option maxRecDepth 100000 in
set_option maxHeartbeats 2000000 in
theorem rset_any (o c p x : Int) (w : World) : Calls Try.prog 20 #[.agg #[.int .i64 o, .int .i64 c, .int .i64 p], .int .i64 x] w fun e w' => e = .returned (.tuple #[(setV o c p x).info, .int .i64 (setV o c p x).e]) ∧ Below w.heap.size w w' := by
  have HK := Lib.hid fun w => rright14_any o c p w
  have HS := Lib.hid fun w => rstamp14_any x w
  have HT := Lib.hid fun w => rstamp14_any (o + c) w
  cases h : okI o c p
  · rw [set_bad h]
    rw [h] at HK
    clear h
    unfold Res.info
    dsimp only
    go_enter Try.func20, Try.ntmps20
    go_wp2_with fail
    refine (HK.out _).mono ?_
    rintro e w1 ⟨rfl, hb1⟩
    have hz1_0 : w.heap.size < w1.heap.size := by have := hb1.size; simp at this; omega
    have s1_0_0 : w1.cell? ⟨w.heap.size, 0, none⟩ = some (.int .i64 o) := (hb1.cell (p := ⟨w.heap.size, 0, none⟩) (by simp <;> omega)).trans (by go_simp)
    have s1_0_1 : w1.cell? ⟨w.heap.size, 1, none⟩ = some (.int .i64 c) := (hb1.cell (p := ⟨w.heap.size, 1, none⟩) (by simp <;> omega)).trans (by go_simp)
    have s1_0_2 : w1.cell? ⟨w.heap.size, 2, none⟩ = some (.int .i64 p) := (hb1.cell (p := ⟨w.heap.size, 2, none⟩) (by simp <;> omega)).trans (by go_simp)
    have hz1_1 : w.heap.size + 1 < w1.heap.size := by have := hb1.size; simp at this; omega
    have s1_1_0 : w1.cell? ⟨w.heap.size + 1, 0, none⟩ = some (.int .i64 0) := (hb1.cell (p := ⟨w.heap.size + 1, 0, none⟩) (by simp <;> omega)).trans (by go_simp)
    have s1_1_1 : w1.cell? ⟨w.heap.size + 1, 1, none⟩ = some (.int .i64 0) := (hb1.cell (p := ⟨w.heap.size + 1, 1, none⟩) (by simp <;> omega)).trans (by go_simp)
    have s1_1_2 : w1.cell? ⟨w.heap.size + 1, 2, none⟩ = some (.int .i64 0) := (hb1.cell (p := ⟨w.heap.size + 1, 2, none⟩) (by simp <;> omega)).trans (by go_simp)
    have z1_1_0 : w1.frozen? ⟨w.heap.size + 1, 0, none⟩ = false := (hb1.frozen (p := ⟨w.heap.size + 1, 0, none⟩) (by simp <;> omega)).trans (by go_simp)
    have z1_1_1 : w1.frozen? ⟨w.heap.size + 1, 1, none⟩ = false := (hb1.frozen (p := ⟨w.heap.size + 1, 1, none⟩) (by simp <;> omega)).trans (by go_simp)
    have z1_1_2 : w1.frozen? ⟨w.heap.size + 1, 2, none⟩ = false := (hb1.frozen (p := ⟨w.heap.size + 1, 2, none⟩) (by simp <;> omega)).trans (by go_simp)
    have H1 : Below w.heap.size w w1 := (((Below.refl _ _).alloc (Nat.le_refl _) _).alloc (by simp <;> omega) _).trans (hb1.mono (by simp <;> omega))
    clear hb1
    go_wp2
    refine bodyPost_ret (v := .tuple #[.agg #[.int .i64 0, .int .i64 0, .int .i64 0], .int .i64 240]) (by simp [results, Try.results20, go_sem, s1_1_0, s1_1_1, s1_1_2]) rfl ⟨rfl, ?_⟩
    exact ((H1.setCell (by simp <;> omega) _).setCell (by simp <;> omega) _).setCell (by simp <;> omega) _
  · cases h2 : (sL x).ok
    · rw [set_arg h h2]
      rw [h] at HK
      rw [h2] at HS
      clear h h2
      unfold Res.info
      dsimp only
      go_enter Try.func20, Try.ntmps20
      go_wp2_with fail
      refine (HK.out _).mono ?_
      rintro e w1 ⟨rfl, hb1⟩
      have hz1_0 : w.heap.size < w1.heap.size := by have := hb1.size; simp at this; omega
      have s1_0_0 : w1.cell? ⟨w.heap.size, 0, none⟩ = some (.int .i64 o) := (hb1.cell (p := ⟨w.heap.size, 0, none⟩) (by simp <;> omega)).trans (by go_simp)
      have s1_0_1 : w1.cell? ⟨w.heap.size, 1, none⟩ = some (.int .i64 c) := (hb1.cell (p := ⟨w.heap.size, 1, none⟩) (by simp <;> omega)).trans (by go_simp)
      have s1_0_2 : w1.cell? ⟨w.heap.size, 2, none⟩ = some (.int .i64 p) := (hb1.cell (p := ⟨w.heap.size, 2, none⟩) (by simp <;> omega)).trans (by go_simp)
      have hz1_1 : w.heap.size + 1 < w1.heap.size := by have := hb1.size; simp at this; omega
      have s1_1_0 : w1.cell? ⟨w.heap.size + 1, 0, none⟩ = some (.int .i64 0) := (hb1.cell (p := ⟨w.heap.size + 1, 0, none⟩) (by simp <;> omega)).trans (by go_simp)
      have s1_1_1 : w1.cell? ⟨w.heap.size + 1, 1, none⟩ = some (.int .i64 0) := (hb1.cell (p := ⟨w.heap.size + 1, 1, none⟩) (by simp <;> omega)).trans (by go_simp)
      have s1_1_2 : w1.cell? ⟨w.heap.size + 1, 2, none⟩ = some (.int .i64 0) := (hb1.cell (p := ⟨w.heap.size + 1, 2, none⟩) (by simp <;> omega)).trans (by go_simp)
      have z1_1_0 : w1.frozen? ⟨w.heap.size + 1, 0, none⟩ = false := (hb1.frozen (p := ⟨w.heap.size + 1, 0, none⟩) (by simp <;> omega)).trans (by go_simp)
      have z1_1_1 : w1.frozen? ⟨w.heap.size + 1, 1, none⟩ = false := (hb1.frozen (p := ⟨w.heap.size + 1, 1, none⟩) (by simp <;> omega)).trans (by go_simp)
      have z1_1_2 : w1.frozen? ⟨w.heap.size + 1, 2, none⟩ = false := (hb1.frozen (p := ⟨w.heap.size + 1, 2, none⟩) (by simp <;> omega)).trans (by go_simp)
      have H1 : Below w.heap.size w w1 := (((Below.refl _ _).alloc (Nat.le_refl _) _).alloc (by simp <;> omega) _).trans (hb1.mono (by simp <;> omega))
      clear hb1
      go_wp2_with fail
      refine (HS.out _).mono ?_
      rintro e w2' ⟨rfl, hq⟩
      obtain rfl := hq.symm
      go_wp2
      refine bodyPost_ret (v := .tuple #[.agg #[.int .i64 0, .int .i64 0, .int .i64 0], .int .i64 2]) (by simp [results, Try.results20, go_sem, s1_1_0, s1_1_1, s1_1_2]) rfl ⟨rfl, ?_⟩
      exact ((H1.setCell (by simp <;> omega) _).setCell (by simp <;> omega) _).setCell (by simp <;> omega) _
    · obtain ⟨⟨i1, i2⟩, ⟨i3, i4⟩, i5⟩ := (okI_iff _ _ _).1 h
      have z0 : IntKind.i64.wrap (o + c) = o + c := IntWalk.i64_in _ (by omega)
      rw [set_run h h2, okS_sum h h2]
      rw [h] at HK
      rw [h2] at HS
      clear h h2 i1 i2 i3 i4 i5
      obtain ⟨m, hm⟩ : ∃ m, o + c = m := ⟨_, rfl⟩
      have z1 : IntKind.i64.wrap (o + c) = m := z0.trans hm
      rw [hm] at HT ⊢
      clear hm z0
      cases h3 : (sL m).ok
      · rw [h3] at HT
        rw [if_neg (by decide)]
        clear h3
        unfold Res.info
        dsimp only
        go_enter Try.func20, Try.ntmps20
        go_wp2_with fail
        refine (HK.out _).mono ?_
        rintro e w1 ⟨rfl, hb1⟩
        have hz1_0 : w.heap.size < w1.heap.size := by have := hb1.size; simp at this; omega
        have s1_0_0 : w1.cell? ⟨w.heap.size, 0, none⟩ = some (.int .i64 o) := (hb1.cell (p := ⟨w.heap.size, 0, none⟩) (by simp <;> omega)).trans (by go_simp)
        have s1_0_1 : w1.cell? ⟨w.heap.size, 1, none⟩ = some (.int .i64 c) := (hb1.cell (p := ⟨w.heap.size, 1, none⟩) (by simp <;> omega)).trans (by go_simp)
        have s1_0_2 : w1.cell? ⟨w.heap.size, 2, none⟩ = some (.int .i64 p) := (hb1.cell (p := ⟨w.heap.size, 2, none⟩) (by simp <;> omega)).trans (by go_simp)
        have hz1_1 : w.heap.size + 1 < w1.heap.size := by have := hb1.size; simp at this; omega
        have s1_1_0 : w1.cell? ⟨w.heap.size + 1, 0, none⟩ = some (.int .i64 0) := (hb1.cell (p := ⟨w.heap.size + 1, 0, none⟩) (by simp <;> omega)).trans (by go_simp)
        have s1_1_1 : w1.cell? ⟨w.heap.size + 1, 1, none⟩ = some (.int .i64 0) := (hb1.cell (p := ⟨w.heap.size + 1, 1, none⟩) (by simp <;> omega)).trans (by go_simp)
        have s1_1_2 : w1.cell? ⟨w.heap.size + 1, 2, none⟩ = some (.int .i64 0) := (hb1.cell (p := ⟨w.heap.size + 1, 2, none⟩) (by simp <;> omega)).trans (by go_simp)
        have z1_1_0 : w1.frozen? ⟨w.heap.size + 1, 0, none⟩ = false := (hb1.frozen (p := ⟨w.heap.size + 1, 0, none⟩) (by simp <;> omega)).trans (by go_simp)
        have z1_1_1 : w1.frozen? ⟨w.heap.size + 1, 1, none⟩ = false := (hb1.frozen (p := ⟨w.heap.size + 1, 1, none⟩) (by simp <;> omega)).trans (by go_simp)
        have z1_1_2 : w1.frozen? ⟨w.heap.size + 1, 2, none⟩ = false := (hb1.frozen (p := ⟨w.heap.size + 1, 2, none⟩) (by simp <;> omega)).trans (by go_simp)
        have H1 : Below w.heap.size w w1 := (((Below.refl _ _).alloc (Nat.le_refl _) _).alloc (by simp <;> omega) _).trans (hb1.mono (by simp <;> omega))
        clear hb1
        go_wp2_with fail
        refine (HS.out _).mono ?_
        rintro e w2' ⟨rfl, hq⟩
        obtain rfl := hq.symm
        go_wp2_with fail
        refine (HT.out _).mono ?_
        rintro e w2' ⟨rfl, hq⟩
        obtain rfl := hq.symm
        go_wp2
        refine bodyPost_ret (v := .tuple #[.agg #[.int .i64 0, .int .i64 0, .int .i64 0], .int .i64 6]) (by simp [results, Try.results20, go_sem, s1_1_0, s1_1_1, s1_1_2]) rfl ⟨rfl, ?_⟩
        exact ((H1.setCell (by simp <;> omega) _).setCell (by simp <;> omega) _).setCell (by simp <;> omega) _
      · rw [h3] at HT
        rw [if_pos rfl]
        clear h3
        unfold Res.info
        dsimp only
        go_enter Try.func20, Try.ntmps20
        go_wp2_with fail
        refine (HK.out _).mono ?_
        rintro e w1 ⟨rfl, hb1⟩
        have hz1_0 : w.heap.size < w1.heap.size := by have := hb1.size; simp at this; omega
        have s1_0_0 : w1.cell? ⟨w.heap.size, 0, none⟩ = some (.int .i64 o) := (hb1.cell (p := ⟨w.heap.size, 0, none⟩) (by simp <;> omega)).trans (by go_simp)
        have s1_0_1 : w1.cell? ⟨w.heap.size, 1, none⟩ = some (.int .i64 c) := (hb1.cell (p := ⟨w.heap.size, 1, none⟩) (by simp <;> omega)).trans (by go_simp)
        have s1_0_2 : w1.cell? ⟨w.heap.size, 2, none⟩ = some (.int .i64 p) := (hb1.cell (p := ⟨w.heap.size, 2, none⟩) (by simp <;> omega)).trans (by go_simp)
        have hz1_1 : w.heap.size + 1 < w1.heap.size := by have := hb1.size; simp at this; omega
        have s1_1_0 : w1.cell? ⟨w.heap.size + 1, 0, none⟩ = some (.int .i64 0) := (hb1.cell (p := ⟨w.heap.size + 1, 0, none⟩) (by simp <;> omega)).trans (by go_simp)
        have s1_1_1 : w1.cell? ⟨w.heap.size + 1, 1, none⟩ = some (.int .i64 0) := (hb1.cell (p := ⟨w.heap.size + 1, 1, none⟩) (by simp <;> omega)).trans (by go_simp)
        have s1_1_2 : w1.cell? ⟨w.heap.size + 1, 2, none⟩ = some (.int .i64 0) := (hb1.cell (p := ⟨w.heap.size + 1, 2, none⟩) (by simp <;> omega)).trans (by go_simp)
        have z1_1_0 : w1.frozen? ⟨w.heap.size + 1, 0, none⟩ = false := (hb1.frozen (p := ⟨w.heap.size + 1, 0, none⟩) (by simp <;> omega)).trans (by go_simp)
        have z1_1_1 : w1.frozen? ⟨w.heap.size + 1, 1, none⟩ = false := (hb1.frozen (p := ⟨w.heap.size + 1, 1, none⟩) (by simp <;> omega)).trans (by go_simp)
        have z1_1_2 : w1.frozen? ⟨w.heap.size + 1, 2, none⟩ = false := (hb1.frozen (p := ⟨w.heap.size + 1, 2, none⟩) (by simp <;> omega)).trans (by go_simp)
        have H1 : Below w.heap.size w w1 := (((Below.refl _ _).alloc (Nat.le_refl _) _).alloc (by simp <;> omega) _).trans (hb1.mono (by simp <;> omega))
        clear hb1
        go_wp2_with fail
        refine (HS.out _).mono ?_
        rintro e w2' ⟨rfl, hq⟩
        obtain rfl := hq.symm
        go_wp2_with fail
        refine (HT.out _).mono ?_
        rintro e w2' ⟨rfl, hq⟩
        obtain rfl := hq.symm
        go_wp2
        refine bodyPost_ret (v := .tuple #[.agg #[.int .i64 x, .int .i64 m, .int .i64 p], .int .i64 0]) (by simp [results, Try.results20, go_sem, s1_1_0, s1_1_1, s1_1_2]) rfl ⟨rfl, ?_⟩
        exact ((H1.setCell (by simp <;> omega) _).setCell (by simp <;> omega) _).setCell (by simp <;> omega) _
def mL (n : Int) : Lm := ⟨n, 0, 4398046511104⟩
def nL (n : Int) : Lm := ⟨n, 0, 8388608⟩
def limB (e g d u : Int) : Bool := lmsOk [mL e, mL g, mL d, nL u]
theorem mL_ok (n : Int) : (mL n).ok = (decide (0 ≤ n) && (sL n).ok) := by
  have h : ∀ {a b : Bool}, (a = true ↔ b = true) → a = b := fun {a b} h => by cases a <;> cases b <;> simp_all
  refine h ?_
  unfold Lm.ok
  simp only [Bool.and_eq_true, decide_eq_true_eq]
  show (0 ≤ n ∧ n ≤ 4398046511104) ↔ (0 ≤ n ∧ -4398046511104 ≤ n ∧ n ≤ 4398046511104)
  omega
theorem nL_ok (n : Int) : (nL n).ok = (decide (0 ≤ n) && (rL n).ok) := by
  have h : ∀ {a b : Bool}, (a = true ↔ b = true) → a = b := fun {a b} h => by cases a <;> cases b <;> simp_all
  refine h ?_
  unfold Lm.ok
  simp only [Bool.and_eq_true, decide_eq_true_eq]
  show (0 ≤ n ∧ n ≤ 8388608) ↔ (0 ≤ n ∧ -8388608 ≤ n ∧ n ≤ 8388608)
  omega
theorem limB_iff (e g d u : Int) : limB e g d u = true ↔ (0 ≤ e ∧ e ≤ 4398046511104) ∧ (0 ≤ g ∧ g ≤ 4398046511104) ∧ (0 ≤ d ∧ d ≤ 4398046511104) ∧ (0 ≤ u ∧ u ≤ 8388608) := by
  simp only [limB, lmsOk, Lm.ok, Bool.and_eq_true, Bool.and_true, decide_eq_true_eq]
  exact Iff.rfl
set_option maxRecDepth 100000 in
set_option maxHeartbeats 2000000 in
theorem rlimits_any (e g d u : Int) (w : World) : Calls Try.prog 27 #[.int .i64 e, .int .i64 g, .int .i64 d, .int .i64 u] w fun r w' => r = .returned (.bool (limB e g d u)) ∧ w' = w := by
  have hb : limB e g d u = ((mL e).ok && ((mL g).ok && ((mL d).ok && ((nL u).ok && true)))) := rfl
  rw [mL_ok, mL_ok, mL_ok, nL_ok, Bool.and_true] at hb
  rw [hb]
  clear hb
  have K0 := Lib.hid fun w => rstamp14_any e w
  have K1 := Lib.hid fun w => rstamp14_any g w
  have K2 := Lib.hid fun w => rstamp14_any d w
  have K3 := Lib.hid fun w => rratio14_any u w
  generalize (sL e).ok = k0 at *
  generalize (sL g).ok = k1 at *
  generalize (sL d).ok = k2 at *
  generalize (rL u).ok = k3 at *
  by_cases h0 : 0 ≤ e
  · have d0 := decide_eq_true h0
    rw [d0, Bool.true_and]
    cases k0
    · rw [Bool.false_and]
      go_enter Try.func27, Try.ntmps27
      go_wp2_with fail
      refine (K0.out _).mono ?_
      rintro r w1 ⟨rfl, rfl⟩
      go_wp2
      go_ret
      exact ⟨rfl, rfl⟩
    · rw [Bool.true_and]
      by_cases h1 : 0 ≤ g
      · have d1 := decide_eq_true h1
        rw [d1, Bool.true_and]
        cases k1
        · rw [Bool.false_and]
          go_enter Try.func27, Try.ntmps27
          go_wp2_with fail
          refine (K0.out _).mono ?_
          rintro r w1 ⟨rfl, rfl⟩
          go_wp2_with fail
          refine (K1.out _).mono ?_
          rintro r w1 ⟨rfl, rfl⟩
          go_wp2
          go_ret
          exact ⟨rfl, rfl⟩
        · rw [Bool.true_and]
          by_cases h2 : 0 ≤ d
          · have d2 := decide_eq_true h2
            rw [d2, Bool.true_and]
            cases k2
            · rw [Bool.false_and]
              go_enter Try.func27, Try.ntmps27
              go_wp2_with fail
              refine (K0.out _).mono ?_
              rintro r w1 ⟨rfl, rfl⟩
              go_wp2_with fail
              refine (K1.out _).mono ?_
              rintro r w1 ⟨rfl, rfl⟩
              go_wp2_with fail
              refine (K2.out _).mono ?_
              rintro r w1 ⟨rfl, rfl⟩
              go_wp2
              go_ret
              exact ⟨rfl, rfl⟩
            · rw [Bool.true_and]
              by_cases h3 : 0 ≤ u
              · have d3 := decide_eq_true h3
                rw [d3, Bool.true_and]
                go_enter Try.func27, Try.ntmps27
                go_wp2_with fail
                refine (K0.out _).mono ?_
                rintro r w1 ⟨rfl, rfl⟩
                go_wp2_with fail
                refine (K1.out _).mono ?_
                rintro r w1 ⟨rfl, rfl⟩
                go_wp2_with fail
                refine (K2.out _).mono ?_
                rintro r w1 ⟨rfl, rfl⟩
                go_wp2_with fail
                refine (K3.out _).mono ?_
                rintro r w1 ⟨rfl, rfl⟩
                go_wp2
                go_ret
                exact ⟨rfl, rfl⟩
              · have h3 : u < 0 := by omega
                rw [decide_eq_false (by omega), Bool.false_and]
                go_enter Try.func27, Try.ntmps27
                go_wp2_with fail
                refine (K0.out _).mono ?_
                rintro r w1 ⟨rfl, rfl⟩
                go_wp2_with fail
                refine (K1.out _).mono ?_
                rintro r w1 ⟨rfl, rfl⟩
                go_wp2_with fail
                refine (K2.out _).mono ?_
                rintro r w1 ⟨rfl, rfl⟩
                go_wp2
                go_ret
                exact ⟨rfl, rfl⟩
          · have h2 : d < 0 := by omega
            rw [decide_eq_false (by omega), Bool.false_and, Bool.false_and]
            go_enter Try.func27, Try.ntmps27
            go_wp2_with fail
            refine (K0.out _).mono ?_
            rintro r w1 ⟨rfl, rfl⟩
            go_wp2_with fail
            refine (K1.out _).mono ?_
            rintro r w1 ⟨rfl, rfl⟩
            go_wp2
            go_ret
            exact ⟨rfl, rfl⟩
      · have h1 : g < 0 := by omega
        rw [decide_eq_false (by omega), Bool.false_and, Bool.false_and]
        go_enter Try.func27, Try.ntmps27
        go_wp2_with fail
        refine (K0.out _).mono ?_
        rintro r w1 ⟨rfl, rfl⟩
        go_wp2
        go_ret
        exact ⟨rfl, rfl⟩
  · have h0 : e < 0 := by omega
    rw [decide_eq_false (by omega), Bool.false_and, Bool.false_and]
    go_enter Try.func27, Try.ntmps27
    go_wp2
    go_ret
    exact ⟨rfl, rfl⟩
def bndV (e g d u : Int) : Int := e + g - (-d - g) * (u + 600000) / 1000000000 + 2
set_option maxHeartbeats 1000000 in
theorem rbound14_any (e g d u : Int) (w : World) (h : limB e g d u = true) : Calls Try.prog 28 #[.int .i64 e, .int .i64 g, .int .i64 d, .int .i64 u] w fun r w' => r = .returned (.int .i64 (bndV e g d u)) ∧ w' = w := by
  obtain ⟨⟨a1, a2⟩, ⟨b1, b2⟩, ⟨c1, c2⟩, ⟨e1, e2⟩⟩ := (limB_iff _ _ _ _).1 h
  have KP := Lib.hid fun w => part_any (-d - g) (u + 600000) w (by omega) (by omega) (by omega) (by omega)
  obtain ⟨q1, q2, -⟩ := part_bd (x := -d - g) (p := u + 600000) (by omega) (by omega) (by omega) (by omega)
  unfold bndV
  generalize (-d - g) * (u + 600000) / 1000000000 = q at *
  have z1 : IntKind.i64.wrap (e + g) = e + g := IntWalk.i64_in _ (by omega)
  have z2 : IntKind.i64.wrap (-d) = -d := IntWalk.i64_in _ (by omega)
  have z3 : IntKind.i64.wrap (-d - g) = -d - g := IntWalk.i64_in _ (by omega)
  have z4 : IntKind.i64.wrap (u + 600000) = u + 600000 := IntWalk.i64_in _ (by omega)
  have z5 : IntKind.i64.wrap (e + g - q) = e + g - q := IntWalk.i64_in _ (by omega)
  have z6 : IntKind.i64.wrap (e + g - q + 2) = e + g - q + 2 := IntWalk.i64_in _ (by omega)
  clear h
  go_enter Try.func28, Try.ntmps28
  go_wp2_with fail
  refine (KP.out _).mono ?_
  rintro r w1 ⟨rfl, rfl⟩
  go_wp2
  go_ret
  exact ⟨rfl, rfl⟩
theorem lms_four (w : World) (T : TypeId) (e g d u : Int) : LmsAt (w.alloc (.cells #[.int .i64 e, .int .i64 0, .int .i64 4398046511104, .int .i64 g, .int .i64 0, .int .i64 4398046511104, .int .i64 d, .int .i64 0, .int .i64 4398046511104, .int .i64 u, .int .i64 0, .int .i64 8388608] T)) w.heap.size [mL e, mL g, mL d, nL u] := fun k hk => by
  match k, hk with
  | 0, _ => exact ⟨by go_simp <;> rfl, by go_simp <;> rfl, by go_simp <;> rfl⟩
  | 1, _ => exact ⟨by go_simp <;> rfl, by go_simp <;> rfl, by go_simp <;> rfl⟩
  | 2, _ => exact ⟨by go_simp <;> rfl, by go_simp <;> rfl, by go_simp <;> rfl⟩
  | 3, _ => exact ⟨by go_simp <;> rfl, by go_simp <;> rfl, by go_simp <;> rfl⟩
set_option maxRecDepth 100000 in
set_option maxHeartbeats 1000000 in
theorem pbound_no (e g d u : Int) (w : World) (h : limB e g d u = false) : Calls Try.prog 26 #[.int .i64 e, .int .i64 g, .int .i64 d, .int .i64 u] w fun r w' => r = .returned (.tuple #[.int .i64 0, .int .i64 2]) ∧ Below w.heap.size w w' := by
  have KW := Lib.hid fun b w (hl : LmsAt w b [mL e, mL g, mL d, nL u]) => (show Calls Try.prog 33 #[.slice (some ⟨b, 0, none⟩) 4 4] w fun r w' => r = .returned (.bool false) ∧ Below w.heap.size w w' by
    have := pwithin_any b 4 _ w rfl (by omega) (Lib.hid hl)
    rw [show lmsOk [mL e, mL g, mL d, nL u] = false from h] at this
    exact this)
  have HB : Below w.heap.size w (w.alloc (.cells #[.int .i64 e, .int .i64 0, .int .i64 4398046511104, .int .i64 g, .int .i64 0, .int .i64 4398046511104, .int .i64 d, .int .i64 0, .int .i64 4398046511104, .int .i64 u, .int .i64 0, .int .i64 8388608] 81)) := (Below.refl _ _).alloc (Nat.le_refl _) _
  clear h
  go_enter Try.func26, Try.ntmps26
  go_wp2_with fail
  refine (KW.out _ _ (lms_four _ _ e g d u)).mono ?_
  rintro r w1 ⟨rfl, hb⟩
  have H1 := HB.trans (hb.mono (by simp))
  go_wp2
  exact bodyPost_ret (v := .tuple #[.int .i64 0, .int .i64 2]) (by simp [results, Try.results26, go_sem]) rfl ⟨rfl, H1⟩
set_option maxRecDepth 100000 in
set_option maxHeartbeats 1000000 in
theorem pbound_ok (e g d u : Int) (w : World) (h : limB e g d u = true) : Calls Try.prog 26 #[.int .i64 e, .int .i64 g, .int .i64 d, .int .i64 u] w fun r w' => r = .returned (.tuple #[.int .i64 (bndV e g d u), .int .i64 0]) ∧ Below w.heap.size w w' := by
  have KW := Lib.hid fun b w (hl : LmsAt w b [mL e, mL g, mL d, nL u]) => (show Calls Try.prog 33 #[.slice (some ⟨b, 0, none⟩) 4 4] w fun r w' => r = .returned (.bool true) ∧ Below w.heap.size w w' by
    have := pwithin_any b 4 _ w rfl (by omega) (Lib.hid hl)
    rw [show lmsOk [mL e, mL g, mL d, nL u] = true from h] at this
    exact this)
  have HB : Below w.heap.size w (w.alloc (.cells #[.int .i64 e, .int .i64 0, .int .i64 4398046511104, .int .i64 g, .int .i64 0, .int .i64 4398046511104, .int .i64 d, .int .i64 0, .int .i64 4398046511104, .int .i64 u, .int .i64 0, .int .i64 8388608] 81)) := (Below.refl _ _).alloc (Nat.le_refl _) _
  obtain ⟨⟨a1, a2⟩, ⟨b1, b2⟩, ⟨c1, c2⟩, ⟨e1, e2⟩⟩ := (limB_iff _ _ _ _).1 h
  obtain ⟨q1, q2, q3⟩ := part_bd (x := -d - g) (p := u + 600000) (by omega) (by omega) (by omega) (by omega)
  have KP := Lib.hid fun w => muldiv_any (-d - g) (u + 600000) 1000000000 w
  rw [q3] at KP
  generalize mdOk (-d - g) (u + 600000) 1000000000 = kk at *
  unfold bndV
  generalize (-d - g) * (u + 600000) / 1000000000 = q at *
  have z1 : IntKind.i64.wrap (e + g) = e + g := IntWalk.i64_in _ (by omega)
  have z2 : IntKind.i64.wrap (-d) = -d := IntWalk.i64_in _ (by omega)
  have z3 : IntKind.i64.wrap (-d - g) = -d - g := IntWalk.i64_in _ (by omega)
  have z4 : IntKind.i64.wrap (u + 600000) = u + 600000 := IntWalk.i64_in _ (by omega)
  have z5 : IntKind.i64.wrap (e + g - q) = e + g - q := IntWalk.i64_in _ (by omega)
  have z6 : IntKind.i64.wrap (e + g - q + 2) = e + g - q + 2 := IntWalk.i64_in _ (by omega)
  clear q3
  clear h
  go_enter Try.func26, Try.ntmps26
  go_wp2_with fail
  refine (KW.out _ _ (lms_four _ _ e g d u)).mono ?_
  rintro r w1 ⟨rfl, hb⟩
  have H1 := HB.trans (hb.mono (by simp))
  clear hb HB
  go_wp2_with fail
  refine (KP.out _).mono ?_
  rintro r w2 ⟨rfl, hb⟩
  have H2 := H1.trans (hb.mono H1.size)
  go_wp2
  exact bodyPost_ret (v := .tuple #[.int .i64 (e + g - q + 2), .int .i64 0]) (by simp [results, Try.results26, go_sem]) rfl ⟨rfl, H2⟩
end Go.Proofs.Ytgdagfiebaebbaa
