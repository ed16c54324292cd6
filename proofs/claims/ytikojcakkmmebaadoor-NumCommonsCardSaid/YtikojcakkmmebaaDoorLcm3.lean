/- The reference of the layer num: Mul and Lcm. -/
import Derived.Test.YtikojcakkmmebaaDoorLcm2
namespace Go.Proofs.YtikojcakkmmebaaDoor
open Go.RowKit

set_option maxHeartbeats 400000 in
theorem rmul_any (a b : Int) (w : World) :
    Calls Tryd.prog 31 #[.int .i64 a, .int .i64 b] w fun e w' => e = .returned (.tuple #[.int .i64 (md a b 1), .bool (mdOk a b 1)]) ∧ Below w.heap.size w w' := by
  go_enter Tryd.func31, Tryd.ntmps31
  go_wp2_with (go_at_call 20; refine (rmuldiv_any a b 1 _).mono ?_; rintro e w' ⟨rfl, hb⟩)
  go_ret2
  exact ⟨rfl, hb⟩
theorem foldl_stuck (l : List Int) {s : Int × Bool} (h : s.2 = false) : l.foldl lcmStep s = s := by
  induction l generalizing s with
  | nil => rfl
  | cons x l ih =>
    have e : lcmStep s x = s := by unfold lcmStep; rw [h]; rfl
    show l.foldl lcmStep (lcmStep s x) = s
    rw [e]; exact ih h
theorem lcm_stuck {zs : List Int} (hp : lcmPos zs = true) {k : Nat} (hk : k ≤ zs.length) (h : (lcmAt zs k).2 = false) : lcmP zs = (0, false) := by
  have e : lcmP zs = lcmAt zs k := by
    rw [← lcmAt_all hp]
    unfold lcmAt at *
    rw [List.take_of_length_le (Nat.le_refl _)]
    conv => lhs; rw [← List.take_append_drop k zs, List.foldl_append]
    exact foldl_stuck _ h
  have ho := lcmAt_ok hp k hk
  rw [e]
  generalize lcmAt zs k = s at *
  obtain ⟨n, ok⟩ := s
  simp only at h
  subst h
  unfold LcmOk at ho
  simp at ho
  rw [ho]
set_option maxRecDepth 100000 in
set_option maxHeartbeats 2000000 in
theorem rlcm_any (zs : List Int) (n c b o : Nat) (w : World) (hn : zs.length = n) (hm : n ≤ 1000000) (hL : Hid (IntsAt w b o zs)) :
    Calls Tryd.prog 24 #[.slice (some ⟨b, o, none⟩) n c] w fun e w' => e = .returned (.tuple #[.int .i64 (lcmP zs).1, .bool (lcmP zs).2]) ∧ Below w.heap.size w w' := by
  have HN := Lib.hid hn
  have hn1 : (n : Int) ≤ 1000000 := by omega
  clear hn
  go_enter Tryd.func24, Tryd.ntmps24
  go_wp2_with fail
  go_loopw [5] (fun i wr => ∃ k : Nat, k ≤ n ∧ i = .int .i64 k ∧ Below w.heap.size w wr ∧ Hid (∀ j, j < k → inR (zs[j]?.getD 0) = true ∧ 1 ≤ zs[j]?.getD 0)) (fun i _ => n - (intOf i).toNat)
  case atStart => exact ⟨0, Nat.zero_le _, rfl, Below.refl _ _, Lib.hid fun j hj => by omega⟩
  case round =>
    obtain ⟨k, hk, rfl, hB, hpos⟩ := hrel
    have hk1 : (k : Int) ≤ n := by omega
    by_cases hlt : k < n
    · have HX : Hid (k < zs.length) := Lib.hid (by rw [HN.out]; exact hlt)
      have hcw := hL.out k HX.out
      have hbw : b < w.heap.size := cell_lt hcw
      have hcell := (hB.cell (p := ⟨b, o + k, none⟩) hbw).trans hcw
      clear hcw
      have hlt' : (k : Int) < n := by omega
      have HP2 : Hid (inR (zs[k]?.getD 0) = true → 1 ≤ zs[k]?.getD 0 → ∀ j, j < k + 1 → inR (zs[j]?.getD 0) = true ∧ 1 ≤ zs[j]?.getD 0) := Lib.hid fun h1 h2 j hj => by
        rcases Nat.lt_or_ge j k with g | g
        · exact hpos.out j g
        · obtain rfl : j = k := by omega
          exact ⟨h1, h2⟩
      have HO : Hid (inR (zs[k]?.getD 0) = false ∨ zs[k]?.getD 0 < 1 → lcmP zs = (0, false)) := Lib.hid fun h => by unfold lcmP; rw [lcmPos_out HX.out h]; rfl
      generalize zs[k]?.getD 0 = x at *
      cases hr : inR x
      · have HR := Lib.hid (HO.out (Or.inl hr))
        have HI := Lib.hid (rin_no hr)
        clear HO HP2 hpos hr
        go_wp2_with (go_at_call 34; refine (HI.out _).mono ?_; rintro e w' ⟨rfl, rfl⟩)
        go_ret2
        exact ⟨ret_ib (by rw [HR.out]) (by rw [HR.out]), hB⟩
      · have HI := Lib.hid (rin_ok hr)
        by_cases h1 : 1 ≤ x
        · have HP3 := Lib.hid (HP2.out hr h1)
          clear HO HP2 hpos hr
          go_wp2_with (go_at_call 34; refine (HI.out _).mono ?_; rintro e w' ⟨rfl, rfl⟩)
          go_roundw
          case rel => exact ⟨k + 1, by omega, by go_num, hB, HP3⟩
          case measure => simp [intOf]; omega
        · have HR := Lib.hid (HO.out (Or.inr (by omega)))
          have h1' : x < 1 := by omega
          clear HO HP2 hpos hr h1
          go_wp2_with (go_at_call 34; refine (HI.out _).mono ?_; rintro e w' ⟨rfl, rfl⟩)
          go_ret2
          exact ⟨ret_ib (by rw [HR.out]) (by rw [HR.out]), hB⟩
    · obtain rfl : k = n := by omega
      have HPOS : Hid (lcmPos zs = true) := Lib.hid (lcmPos_all fun j hj => hpos.out j (by rw [HN.out] at hj; exact hj))
      have HA := Lib.hid (lcmAt_all HPOS.out)
      clear hpos hlt
      go_wp2_with fail
      go_loopw [4, 6] (fun m i wx => ∃ j : Nat, j ≤ k ∧ i = .int .i64 j ∧ m = .int .i64 (lcmAt zs j).1 ∧ Hid ((lcmAt zs j).2 = true) ∧ Below w.heap.size w wx) (fun _ i _ => k - (intOf i).toNat)
      case atStart => exact ⟨0, Nat.zero_le _, rfl, rfl, Lib.hid rfl, hB⟩
      case round =>
        clear hB
        obtain ⟨j, hj, rfl, rfl, hok, hB⟩ := hrel
        have hj1 : (j : Int) ≤ k := by omega
        by_cases hlt : j < k
        · have HX : Hid (j < zs.length) := Lib.hid (by rw [HN.out]; exact hlt)
          have hcw := hL.out j HX.out
          have hbw : b < w.heap.size := cell_lt hcw
          have hcell := (hB.cell (p := ⟨b, o + j, none⟩) hbw).trans hcw
          have hbx := Nat.lt_of_lt_of_le hbw hB.size
          clear hcw
          have hlt' : (j : Int) < k := by omega
          have hS := lcmAt_succ HX.out
          have HST := Lib.hid fun h => lcm_stuck HPOS.out (k := j + 1) (by have := HX.out; omega) h
          have hOK := lcmAt_ok HPOS.out j (by have := HX.out; omega)
          have hXX := lcmPos_at HPOS.out HX.out
          generalize zs[j]?.getD 0 = x at *
          obtain ⟨s', hs'⟩ : ∃ s', lcmAt zs (j + 1) = s' := ⟨_, rfl⟩
          rw [hs'] at hS HST
          have HSE := Lib.hid hs'
          clear hs'
          generalize lcmAt zs j = s at *
          obtain ⟨m, t⟩ := s
          obtain rfl : t = true := hok.out
          unfold LcmOk at hOK
          simp only [if_true] at hOK
          obtain ⟨g1, g2, g3, g4⟩ := gcdV_pos hOK hXX
          have HG := Lib.hid fun w => rgcd_any m x w
          have HM := Lib.hid fun w => rmul_any m (x / gcdV m x) w
          have et : x.tdiv (gcdV m x) = x / gcdV m x := Int.tdiv_eq_ediv_of_nonneg (by omega)
          have HS1 : Hid (md m (x / gcdV m x) 1 = s'.1 ∧ mdOk m (x / gcdV m x) 1 = s'.2) := Lib.hid (by rw [hS]; exact ⟨rfl, rfl⟩)
          clear hS hok
          generalize x / gcdV m x = q at *
          generalize gcdV m x = g at *
          generalize md m q 1 = n2 at *
          generalize mdOk m q 1 = k2 at *
          have hgn : ¬ g = 0 := by omega
          have hg0 : (g == 0) = false := by simp; omega
          have ew : IntKind.i64.wrap q = q := IntWalk.i64_in _ (by omega)
          have f1 := Bw.cell hbx hcell
          go_wp2_with fail
          refine wp_region_bw (by kernel_rfl) (by kernel_rfl) ?_
          repeat (go_big_quiet_step ((first | (go_at_call 22; exact Calls.bw_of (HG.out _)) | (go_at_call 31; exact Calls.bw_of (HM.out _)))))
          refine wpQuiet_nil ?_
          rintro _ ⟨⟨wy, hwy⟩, rfl⟩
          cases k2
          · have HE := Lib.hid (HST.out HS1.out.2.symm)
            go_wp2
            go_ret2
            exact ⟨ret_ib (by rw [HE.out]) (by rw [HE.out]), hB.trans (hwy.mono hB.size)⟩
          · go_wp2
            go_roundw
            case rel => exact ⟨j + 1, by omega, by go_num, by rw [HSE.out, HS1.out.1], Lib.hid (by rw [HSE.out]; exact HS1.out.2.symm), hB.trans (hwy.mono hB.size)⟩
            case measure => simp [intOf]; omega
        · obtain rfl : j = k := by omega
          have HAL : Hid ((lcmAt zs j).1 = (lcmP zs).1 ∧ true = (lcmP zs).2) := Lib.hid (by
            have e : lcmAt zs j = lcmP zs := by rw [← HA.out, HN.out]
            rw [← e]; exact ⟨rfl, hok.out.symm⟩)
          clear hlt
          go_wp2
          go_ret2
          exact ⟨ret_ib HAL.out.1 HAL.out.2, hB⟩
theorem rlcm_nil (w : World) :
    Calls Tryd.prog 24 #[.slice none 0 0] w fun e w' => e = .returned (.tuple #[.int .i64 1, .bool true]) ∧ Below w.heap.size w w' := by
  go_enter Tryd.func24, Tryd.ntmps24
  go_wp2_with fail
  refine wp_loop_rounds 1 ?_
  rw [rounds_succ]
  go_wp2_with fail
  refine wp_loop_rounds 1 ?_
  rw [rounds_succ]
  go_wp2
  go_ret2
  exact ⟨rfl, Below.refl _ _⟩
end Go.Proofs.YtikojcakkmmebaaDoor
