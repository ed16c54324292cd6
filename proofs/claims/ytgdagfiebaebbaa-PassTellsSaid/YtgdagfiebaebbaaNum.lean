/- The package num: within, fit, abs, MulDiv: what they compute. -/
import Derived.Test.YtgdagfiebaebbaaBits
namespace Go.Proofs.Ytgdagfiebaebbaa
open Go.RowKit

set_option maxHeartbeats 400000 in
theorem within_any (b n : Nat) (zs : List Int) (w : World) (hn : zs.length = n) (hm : n ≤ 1000) (hc : ∀ k, k < n → w.cell? ⟨b, k, none⟩ = some (.int .i64 (zs[k]?.getD 0))) :
    Calls Try.prog 63 #[.slice (some ⟨b, 0, none⟩) n n] w fun e w' => e = .returned (.bool (allR zs)) ∧ w = w' := by
  have HC := Lib.hid hc
  have HN := Lib.hid hn
  clear hc hn
  go_enter Try.func63, Try.ntmps63
  go_wp2
  go_loop [7] (fun i => ∃ k : Nat, k ≤ n ∧ i = .int .i64 k ∧ Hid (allR (zs.take k) = true)) (fun i => n - (intOf i).toNat)
  case atStart => exact ⟨0, Nat.zero_le _, rfl, rfl⟩
  case round =>
    obtain ⟨k, hk, rfl, HA⟩ := hrel
    by_cases hlt : k < n
    · have hcell := HC.out k hlt
      have HS := Lib.hid (allR_snoc zs k (by have := HN.out; omega))
      generalize zs[k]?.getD 0 = z at hcell HS
      by_cases h1 : z < -1125899906842624
      · have HR : Hid (allR zs = false) := Lib.hid (allR_out HS.out (by simp [inR]; omega))
        go_wp2
        go_ret
        exact ⟨ret_bool HR.out.symm, rfl⟩
      · by_cases h2 : 1125899906842624 < z
        · have HR : Hid (allR zs = false) := Lib.hid (allR_out HS.out (by simp [inR]; omega))
          go_wp2
          go_ret
          exact ⟨ret_bool HR.out.symm, rfl⟩
        · have HR : Hid (allR (zs.take (k+1)) = true) := Lib.hid (by rw [HS.out, HA.out]; simp [inR]; omega)
          go_wp2
          go_round
          case rel => exact ⟨k + 1, by omega, by go_num, HR⟩
          case measure => simp [intOf]; omega
    · have HR : Hid (allR zs = true) := Lib.hid (by have := HA.out; rwa [List.take_of_length_le (by have := HN.out; omega)] at this)
      go_wp2
      go_ret
      exact ⟨ret_bool HR.out.symm, rfl⟩

theorem within1 (a : Int) (b : Nat) (w : World) (h0 : w.cell? ⟨b, 0, none⟩ = some (.int .i64 a)) :
    Calls Try.prog 63 #[.slice (some ⟨b, 0, none⟩) 1 1] w fun e w' => e = .returned (.bool (inR a)) ∧ w = w' := by
  have := within_any b 1 [a] w rfl (by omega) (fun k hk => by obtain rfl : k = 0 := by omega
                                                              exact h0)
  simpa [allR] using this
theorem within2 (a1 a2 : Int) (b : Nat) (w : World) (h0 : w.cell? ⟨b, 0, none⟩ = some (.int .i64 a1)) (h1 : w.cell? ⟨b, 1, none⟩ = some (.int .i64 a2)) :
    Calls Try.prog 63 #[.slice (some ⟨b, 0, none⟩) 2 2] w fun e w' => e = .returned (.bool (inR a1 && inR a2)) ∧ w = w' := by
  have := within_any b 2 [a1, a2] w rfl (by omega) (fun k hk => by
    rcases (by omega : k = 0 ∨ k = 1) with rfl | rfl
    · exact h0
    · exact h1)
  simpa [allR] using this
theorem within3 (a1 a2 a3 : Int) (b : Nat) (w : World) (h0 : w.cell? ⟨b, 0, none⟩ = some (.int .i64 a1)) (h1 : w.cell? ⟨b, 1, none⟩ = some (.int .i64 a2)) (h2 : w.cell? ⟨b, 2, none⟩ = some (.int .i64 a3)) :
    Calls Try.prog 63 #[.slice (some ⟨b, 0, none⟩) 3 3] w fun e w' => e = .returned (.bool (inR a1 && (inR a2 && inR a3))) ∧ w = w' := by
  have := within_any b 3 [a1, a2, a3] w rfl (by omega) (fun k hk => by
    rcases (by omega : k = 0 ∨ k = 1 ∨ k = 2) with rfl | rfl | rfl
    · exact h0
    · exact h1
    · exact h2)
  simpa [allR] using this

/-- fit: the number itself where it is in range. -/
def fitI (n : Int) : Int := if inR n then n else 0
set_option maxHeartbeats 400000 in
theorem fit_any (n : Int) (w : World) :
    Calls Try.prog 67 #[.int .i64 n] w fun e w' => e = .returned (.tuple #[.int .i64 (fitI n), .bool (inR n)]) ∧ Below w.heap.size w w' := by
  cases h : inR n
  · have H := Lib.hid h
    clear h
    go_enter Try.func67, Try.ntmps67
    go_wp2_with (go_at_call 63; refine (within1 n _ _ (by simp [World.cell?_alloc_new])).mono ?_; rintro e w' ⟨rfl, rfl⟩; rw [H.out])
    go_ret2
    exact ⟨ret_ib (by unfold fitI; rw [H.out]; rfl) rfl, (Below.refl _ _).alloc (Nat.le_refl _) _⟩
  · have H := Lib.hid h
    clear h
    go_enter Try.func67, Try.ntmps67
    go_wp2_with (go_at_call 63; refine (within1 n _ _ (by simp [World.cell?_alloc_new])).mono ?_; rintro e w' ⟨rfl, rfl⟩; rw [H.out])
    go_ret2
    exact ⟨ret_ib (by unfold fitI; rw [H.out]; rfl) rfl, (Below.refl _ _).alloc (Nat.le_refl _) _⟩

def absI (x : Int) : Int := if x < 0 then -x else x
set_option maxHeartbeats 400000 in
theorem abs_any (x : Int) (w : World) (hx0 : -1125899906842624 ≤ x) (hx : x ≤ 1125899906842624) :
    Calls Try.prog 65 #[.int .i64 x] w fun e w' => e = .returned (.int .u64 (absI x)) ∧ w = w' := by
  by_cases h : x < -x
  · go_enter Try.func65, Try.ntmps65
    go_wp2
    go_ret
    exact ⟨ret_int (by unfold absI; split <;> omega), rfl⟩
  · go_enter Try.func65, Try.ntmps65
    go_wp2
    go_ret
    exact ⟨ret_int (by unfold absI; split <;> omega), rfl⟩
/-- MulDiv: the floor of a * b / c, where all is in range. -/
def mdOk (a b c : Int) : Bool := inR a && (inR b && inR c) && decide (1 ≤ c) && inR (a * b / c)
def md (a b c : Int) : Int := if mdOk a b c then a * b / c else 0
theorem inR_iff (n : Int) : inR n = true ↔ -1125899906842624 ≤ n ∧ n ≤ 1125899906842624 := by simp [inR]
theorem md_no {a b c : Int} (h : mdOk a b c = false) : md a b c = 0 := by unfold md; rw [h]; rfl
theorem absI_bd (a : Int) (h : inR a = true) : 0 ≤ absI a ∧ absI a ≤ 1125899906842624 := by
  rw [inR_iff] at h; unfold absI; split <;> omega
/-- The product of the absolute values, as high and low halves. -/
theorem div64_p (p c : Int) (w : World) (h0 : 0 ≤ p) (h1 : p / 18446744073709551616 < c) (hc : c ≤ 1125899906842624) :
    Calls Try.prog 66 #[.int .u64 (p / 18446744073709551616), .int .u64 (p % 18446744073709551616), .int .u64 c] w fun e w' => e = .returned (.tuple #[.int .u64 (p / c), .int .u64 (p % c)]) ∧ ∃ n, w' = w.drewN n := by
  have := div64_any (p / 18446744073709551616) (p % 18446744073709551616) c w (by omega) h1 (by omega) (by omega) (by omega)
  rwa [show p / 18446744073709551616 * 18446744073709551616 + p % 18446744073709551616 = p by omega] at this
/-- The floor by the absolute values. -/
theorem floor_same (a b c : Int) (hs : (a < 0) = (b < 0)) : a * b / c = absI a * absI b / c := by
  unfold absI
  by_cases h : a < 0
  · have h2 : b < 0 := by rw [← hs]; exact h
    rw [if_pos h, if_pos h2, Int.neg_mul_neg]
  · have h2 : ¬ b < 0 := by rw [← hs]; exact h
    rw [if_neg h, if_neg h2]
theorem floor_diff (a b c : Int) (hc : 1 ≤ c) (hs : (a < 0) ≠ (b < 0)) : a * b / c = -(absI a * absI b / c) - (if 0 < absI a * absI b % c then 1 else 0) := by
  have e : a * b = -(absI a * absI b) := by
    unfold absI
    by_cases h : a < 0
    · have h2 : ¬ b < 0 := fun h2 => hs (propext ⟨fun _ => h2, fun _ => h⟩)
      rw [if_pos h, if_neg h2, Int.neg_mul, Int.neg_neg]
    · have h2 : b < 0 := by
        by_cases h2 : b < 0
        · exact h2
        · exact absurd (propext ⟨fun k => absurd k h, fun k => absurd k h2⟩) hs
      rw [if_neg h, if_pos h2, Int.mul_neg, Int.neg_neg]
  rw [e]
  generalize absI a * absI b = p
  have e := Int.mul_ediv_add_emod p c
  have m0 := Int.emod_nonneg p (show c ≠ 0 by omega)
  have m1 := Int.emod_lt_of_pos p (show 0 < c by omega)
  rw [Int.mul_comm] at e
  split
  · refine ediv_eq (by omega) ?_ ?_
    · rw [Int.sub_mul, Int.neg_mul]; omega
    · rw [Int.add_mul, Int.sub_mul, Int.neg_mul]; omega
  · refine ediv_eq (by omega) ?_ ?_
    · rw [Int.sub_mul, Int.neg_mul]; omega
    · rw [Int.add_mul, Int.sub_mul, Int.neg_mul]; omega
theorem md_big {a b c : Int} (hc : 1 ≤ c) (h : 1125899906842624 < absI a * absI b / c) : inR (a * b / c) = false := by
  cases e : inR (a * b / c)
  · rfl
  · rw [inR_iff] at e
    exfalso
    by_cases hs : (a < 0) = (b < 0)
    · rw [floor_same a b c hs] at e; omega
    · rw [floor_diff a b c hc hs] at e; split at e <;> omega
theorem md_huge {a b c : Int} (hc : 1 ≤ c) (h : c ≤ absI a * absI b / 18446744073709551616) : inR (a * b / c) = false := by
  refine md_big hc ?_
  generalize absI a * absI b = p at *
  have : 18446744073709551616 ≤ p / c := (Int.le_ediv_iff_mul_le (by omega)).2 (by omega)
  omega
theorem mdOk_all {a b c : Int} (ha : (inR a && (inR b && inR c)) = true) (hc : 1 ≤ c) : mdOk a b c = inR (a * b / c) := by
  unfold mdOk; rw [ha]; simp [hc]
theorem md_fit {a b c n : Int} (hm : mdOk a b c = inR (a * b / c)) (hn : a * b / c = n) : fitI n = md a b c ∧ inR n = mdOk a b c := by
  unfold md fitI; rw [hm, hn]; exact ⟨rfl, rfl⟩
set_option maxHeartbeats 1000000 in
theorem muldiv_any (a b c : Int) (w : World) :
    Calls Try.prog 48 #[.int .i64 a, .int .i64 b, .int .i64 c] w fun e w' => e = .returned (.tuple #[.int .i64 (md a b c), .bool (mdOk a b c)]) ∧ Below w.heap.size w w' := by
  cases hr : inR a && (inR b && inR c)
  · have H : Hid (mdOk a b c = false) := Lib.hid (by unfold mdOk; rw [hr]; rfl)
    have HR := Lib.hid hr
    clear hr
    go_enter Try.func48, Try.ntmps48
    go_wp2_with (go_at_call 63; refine (within3 a b c _ _ (by simp [World.cell?_alloc_new]) (by simp [World.cell?_alloc_new]) (by simp [World.cell?_alloc_new])).mono ?_; rintro e w' ⟨rfl, rfl⟩; rw [HR.out])
    go_ret2
    exact ⟨ret_ib (md_no H.out).symm H.out.symm, (Below.refl _ _).alloc (Nat.le_refl _) _⟩
  · by_cases hc : 1 ≤ c
    · have HR := Lib.hid hr
      simp only [Bool.and_eq_true] at hr
      obtain ⟨ra, rb, rc⟩ := hr
      have bA := absI_bd a ra
      have bB := absI_bd b rb
      rw [inR_iff] at ra rb rc
      have HM := Lib.hid (mdOk_all HR.out hc)
      have hp0 : 0 ≤ absI a * absI b := Int.mul_nonneg bA.1 bB.1
      have HF1 : Hid ((a < 0) = (b < 0) → a * b / c = absI a * absI b / c) := Lib.hid (floor_same a b c)
      have HF2 : Hid ((a < 0) ≠ (b < 0) → a * b / c = -(absI a * absI b / c) - (if 0 < absI a * absI b % c then 1 else 0)) := Lib.hid (floor_diff a b c hc)
      have HB1 : Hid (1125899906842624 < absI a * absI b / c → inR (a * b / c) = false) := Lib.hid (md_big hc)
      have HB2 : Hid (c ≤ absI a * absI b / 18446744073709551616 → inR (a * b / c) = false) := Lib.hid (md_huge hc)
      obtain ⟨x, hx⟩ : ∃ x, absI a = x := ⟨_, rfl⟩
      obtain ⟨y, hy⟩ : ∃ y, absI b = y := ⟨_, rfl⟩
      rw [hx, hy] at HF1 HF2 HB1 HB2 hp0
      rw [hx] at bA
      rw [hy] at bB
      have CM : Hid (∀ w : World, Calls Try.prog 64 #[.int .u64 x, .int .u64 y] w fun e w' => e = .returned (.tuple #[.int .u64 (x * y / 18446744073709551616), .int .u64 (x * y % 18446744073709551616)]) ∧ w = w') :=
        Lib.hid fun w => mul64_any x y w (by omega) (by omega) (by omega) (by omega)
      by_cases h1 : c ≤ x * y / 18446744073709551616
      · have H : Hid (mdOk a b c = false) := Lib.hid (by rw [HM.out]; exact HB2.out h1)
        generalize x * y / 18446744073709551616 = hi at *
        generalize x * y % 18446744073709551616 = lo at *
        clear HF1 HF2 HB1
        go_enter Try.func48, Try.ntmps48
        go_wp2_with (first
            | (go_at_call 63; refine (within3 a b c _ _ (by simp [World.cell?_alloc_new]) (by simp [World.cell?_alloc_new]) (by simp [World.cell?_alloc_new])).mono ?_; rintro e w' ⟨rfl, rfl⟩; rw [HR.out])
            | (go_at_call 65; refine (abs_any _ _ (by omega) (by omega)).mono ?_; rintro e w' ⟨rfl, rfl⟩)
            | (go_at_call 64; refine (CM.out _).mono ?_; rintro e w' ⟨rfl, rfl⟩))
        go_ret2
        exact ⟨ret_ib (md_no H.out).symm H.out.symm, (Below.refl _ _).alloc (Nat.le_refl _) _⟩
      · have hd1 := Int.ediv_nonneg hp0 (show 0 ≤ c by omega)
        have hd2 := Int.emod_nonneg (x * y) (show c ≠ 0 by omega)
        have hd3 := Int.emod_lt_of_pos (x * y) (show 0 < c by omega)
        have CD : Hid (∀ w : World, Calls Try.prog 66 #[.int .u64 (x * y / 18446744073709551616), .int .u64 (x * y % 18446744073709551616), .int .u64 c] w fun e w' => e = .returned (.tuple #[.int .u64 (x * y / c), .int .u64 (x * y % c)]) ∧ ∃ n, w' = w.drewN n) :=
          Lib.hid fun w => div64_p (x * y) c w hp0 (by omega) (by omega)
        clear HB2
        generalize x * y / 18446744073709551616 = hi at *
        generalize x * y % 18446744073709551616 = lo at *
        generalize x * y / c = q at *
        generalize x * y % c = r at *
        clear hp0
        by_cases h2 : 1125899906842624 < q
        · have H : Hid (mdOk a b c = false) := Lib.hid (by rw [HM.out]; exact HB1.out h2)
          clear HF1 HF2
          go_enter Try.func48, Try.ntmps48
          go_wp2_with (first
              | (go_at_call 63; refine (within3 a b c _ _ (by simp [World.cell?_alloc_new]) (by simp [World.cell?_alloc_new]) (by simp [World.cell?_alloc_new])).mono ?_; rintro e w' ⟨rfl, rfl⟩; rw [HR.out])
              | (go_at_call 65; refine (abs_any _ _ (by omega) (by omega)).mono ?_; rintro e w' ⟨rfl, rfl⟩)
              | (go_at_call 64; refine (CM.out _).mono ?_; rintro e w' ⟨rfl, rfl⟩)
              | (go_at_call 66; refine (CD.out _).mono ?_; rintro e w' ⟨rfl, nq, rfl⟩))
          go_ret2
          exact ⟨ret_ib (md_no H.out).symm H.out.symm, ((Below.refl _ _).alloc (Nat.le_refl _) _).trans (below_drewN _ _ _)⟩
        · clear HB1
          by_cases sa : a < 0
          · by_cases sb : b < 0
            · have HF := Lib.hid (md_fit HM.out (HF1.out (by simp [sa, sb])))
              clear HF1 HF2
              have sab : decide (a < 0) = true := by simpa using sa
              have sbb : decide (b < 0) = true := by simpa using sb
              go_enter Try.func48, Try.ntmps48
              go_wp2_with (first
                  | (go_at_call 63; refine (within3 a b c _ _ (by simp [World.cell?_alloc_new]) (by simp [World.cell?_alloc_new]) (by simp [World.cell?_alloc_new])).mono ?_; rintro e w' ⟨rfl, rfl⟩; rw [HR.out])
                  | (go_at_call 65; refine (abs_any _ _ (by omega) (by omega)).mono ?_; rintro e w' ⟨rfl, rfl⟩)
                  | (go_at_call 64; refine (CM.out _).mono ?_; rintro e w' ⟨rfl, rfl⟩)
                  | (go_at_call 66; refine (CD.out _).mono ?_; rintro e w' ⟨rfl, nq, rfl⟩)
                  | (go_at_call 67; refine (fit_any _ _).mono ?_; rintro e w' ⟨rfl, hb⟩))
              go_ret2
              exact ⟨ret_ib HF.out.1 HF.out.2, (((Below.refl _ _).alloc (Nat.le_refl _) _).trans (below_drewN _ _ _)).trans (hb.mono (by simp))⟩
            · have G := HF2.out (by simp [sa, sb])
              by_cases hr0 : 0 < r
              · rw [if_pos hr0] at G
                have HF := Lib.hid (md_fit HM.out G)
                clear HF1 HF2 G
                have sab : decide (a < 0) = true := by simpa using sa
                have sbb : decide (b < 0) = false := by simpa using sb
                go_enter Try.func48, Try.ntmps48
                go_wp2_with (first
                    | (go_at_call 63; refine (within3 a b c _ _ (by simp [World.cell?_alloc_new]) (by simp [World.cell?_alloc_new]) (by simp [World.cell?_alloc_new])).mono ?_; rintro e w' ⟨rfl, rfl⟩; rw [HR.out])
                    | (go_at_call 65; refine (abs_any _ _ (by omega) (by omega)).mono ?_; rintro e w' ⟨rfl, rfl⟩)
                    | (go_at_call 64; refine (CM.out _).mono ?_; rintro e w' ⟨rfl, rfl⟩)
                    | (go_at_call 66; refine (CD.out _).mono ?_; rintro e w' ⟨rfl, nq, rfl⟩)
                    | (go_at_call 67; refine (fit_any _ _).mono ?_; rintro e w' ⟨rfl, hb⟩))
                go_ret2
                exact ⟨ret_ib HF.out.1 HF.out.2, (((Below.refl _ _).alloc (Nat.le_refl _) _).trans (below_drewN _ _ _)).trans (hb.mono (by simp))⟩
              · rw [if_neg hr0, Int.sub_zero] at G
                have HF := Lib.hid (md_fit HM.out G)
                clear HF1 HF2 G
                have sab : decide (a < 0) = true := by simpa using sa
                have sbb : decide (b < 0) = false := by simpa using sb
                go_enter Try.func48, Try.ntmps48
                go_wp2_with (first
                    | (go_at_call 63; refine (within3 a b c _ _ (by simp [World.cell?_alloc_new]) (by simp [World.cell?_alloc_new]) (by simp [World.cell?_alloc_new])).mono ?_; rintro e w' ⟨rfl, rfl⟩; rw [HR.out])
                    | (go_at_call 65; refine (abs_any _ _ (by omega) (by omega)).mono ?_; rintro e w' ⟨rfl, rfl⟩)
                    | (go_at_call 64; refine (CM.out _).mono ?_; rintro e w' ⟨rfl, rfl⟩)
                    | (go_at_call 66; refine (CD.out _).mono ?_; rintro e w' ⟨rfl, nq, rfl⟩)
                    | (go_at_call 67; refine (fit_any _ _).mono ?_; rintro e w' ⟨rfl, hb⟩))
                go_ret2
                exact ⟨ret_ib HF.out.1 HF.out.2, (((Below.refl _ _).alloc (Nat.le_refl _) _).trans (below_drewN _ _ _)).trans (hb.mono (by simp))⟩
          · by_cases sb : b < 0
            · have G := HF2.out (by simp [sa, sb])
              by_cases hr0 : 0 < r
              · rw [if_pos hr0] at G
                have HF := Lib.hid (md_fit HM.out G)
                clear HF1 HF2 G
                have sab : decide (a < 0) = false := by simpa using sa
                have sbb : decide (b < 0) = true := by simpa using sb
                go_enter Try.func48, Try.ntmps48
                go_wp2_with (first
                    | (go_at_call 63; refine (within3 a b c _ _ (by simp [World.cell?_alloc_new]) (by simp [World.cell?_alloc_new]) (by simp [World.cell?_alloc_new])).mono ?_; rintro e w' ⟨rfl, rfl⟩; rw [HR.out])
                    | (go_at_call 65; refine (abs_any _ _ (by omega) (by omega)).mono ?_; rintro e w' ⟨rfl, rfl⟩)
                    | (go_at_call 64; refine (CM.out _).mono ?_; rintro e w' ⟨rfl, rfl⟩)
                    | (go_at_call 66; refine (CD.out _).mono ?_; rintro e w' ⟨rfl, nq, rfl⟩)
                    | (go_at_call 67; refine (fit_any _ _).mono ?_; rintro e w' ⟨rfl, hb⟩))
                go_ret2
                exact ⟨ret_ib HF.out.1 HF.out.2, (((Below.refl _ _).alloc (Nat.le_refl _) _).trans (below_drewN _ _ _)).trans (hb.mono (by simp))⟩
              · rw [if_neg hr0, Int.sub_zero] at G
                have HF := Lib.hid (md_fit HM.out G)
                clear HF1 HF2 G
                have sab : decide (a < 0) = false := by simpa using sa
                have sbb : decide (b < 0) = true := by simpa using sb
                go_enter Try.func48, Try.ntmps48
                go_wp2_with (first
                    | (go_at_call 63; refine (within3 a b c _ _ (by simp [World.cell?_alloc_new]) (by simp [World.cell?_alloc_new]) (by simp [World.cell?_alloc_new])).mono ?_; rintro e w' ⟨rfl, rfl⟩; rw [HR.out])
                    | (go_at_call 65; refine (abs_any _ _ (by omega) (by omega)).mono ?_; rintro e w' ⟨rfl, rfl⟩)
                    | (go_at_call 64; refine (CM.out _).mono ?_; rintro e w' ⟨rfl, rfl⟩)
                    | (go_at_call 66; refine (CD.out _).mono ?_; rintro e w' ⟨rfl, nq, rfl⟩)
                    | (go_at_call 67; refine (fit_any _ _).mono ?_; rintro e w' ⟨rfl, hb⟩))
                go_ret2
                exact ⟨ret_ib HF.out.1 HF.out.2, (((Below.refl _ _).alloc (Nat.le_refl _) _).trans (below_drewN _ _ _)).trans (hb.mono (by simp))⟩
            · have HF := Lib.hid (md_fit HM.out (HF1.out (by simp [sa, sb])))
              clear HF1 HF2
              have sab : decide (a < 0) = false := by simpa using sa
              have sbb : decide (b < 0) = false := by simpa using sb
              go_enter Try.func48, Try.ntmps48
              go_wp2_with (first
                  | (go_at_call 63; refine (within3 a b c _ _ (by simp [World.cell?_alloc_new]) (by simp [World.cell?_alloc_new]) (by simp [World.cell?_alloc_new])).mono ?_; rintro e w' ⟨rfl, rfl⟩; rw [HR.out])
                  | (go_at_call 65; refine (abs_any _ _ (by omega) (by omega)).mono ?_; rintro e w' ⟨rfl, rfl⟩)
                  | (go_at_call 64; refine (CM.out _).mono ?_; rintro e w' ⟨rfl, rfl⟩)
                  | (go_at_call 66; refine (CD.out _).mono ?_; rintro e w' ⟨rfl, nq, rfl⟩)
                  | (go_at_call 67; refine (fit_any _ _).mono ?_; rintro e w' ⟨rfl, hb⟩))
              go_ret2
              exact ⟨ret_ib HF.out.1 HF.out.2, (((Below.refl _ _).alloc (Nat.le_refl _) _).trans (below_drewN _ _ _)).trans (hb.mono (by simp))⟩
    · have H : Hid (mdOk a b c = false) := Lib.hid (by unfold mdOk; simp [hc])
      have HR := Lib.hid hr
      clear hr
      go_enter Try.func48, Try.ntmps48
      go_wp2_with (go_at_call 63; refine (within3 a b c _ _ (by simp [World.cell?_alloc_new]) (by simp [World.cell?_alloc_new]) (by simp [World.cell?_alloc_new])).mono ?_; rintro e w' ⟨rfl, rfl⟩; rw [HR.out])
      go_ret2
      exact ⟨ret_ib (md_no H.out).symm H.out.symm, (Below.refl _ _).alloc (Nat.le_refl _) _⟩
end Go.Proofs.Ytgdagfiebaebbaa
