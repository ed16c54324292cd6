/- Lcm of the package num, and of its reference: the loops. -/
import Derived.Test.YtikojcakkmmebaaDoorLcm
namespace Go.Proofs.YtikojcakkmmebaaDoor
open Go.RowKit

/-- The two captured variables of Lcm. -/
def Cap (B : Nat) (w : World) (s : Int × Bool) : Prop :=
  w.cell? ⟨B + 1, 0, none⟩ = some (.bool s.2) ∧ w.cell? ⟨B, 0, none⟩ = some (.int .i64 s.1) ∧ w.frozen? ⟨B + 1, 0, none⟩ = false ∧ w.frozen? ⟨B, 0, none⟩ = false
theorem Cap.below {B : Nat} {w w' : World} {s : Int × Bool} (h : Cap B w s) (hb : Below w.heap.size w w') : Cap B w' s :=
  ⟨(hb.cell (p := ⟨B + 1, 0, none⟩) (cell_lt h.1)).trans h.1, (hb.cell (p := ⟨B, 0, none⟩) (cell_lt h.2.1)).trans h.2.1, (hb.frozen (p := ⟨B + 1, 0, none⟩) (cell_lt h.1)).trans h.2.2.1, (hb.frozen (p := ⟨B, 0, none⟩) (cell_lt h.2.1)).trans h.2.2.2⟩

set_option maxRecDepth 100000 in
set_option maxHeartbeats 2000000 in
theorem lcm_any (zs : List Int) (n c b o : Nat) (w : World) (hT : Hid (Tab w)) (hn : zs.length = n) (hm : n ≤ 1000000) (hL : Hid (IntsAt w b o zs)) :
    Calls Tryd.prog 23 #[.slice (some ⟨b, o, none⟩) n c] w fun e w' => e = .returned (.tuple #[.int .i64 (lcmP zs).1, .bool (lcmP zs).2]) ∧ Below w.heap.size w w' := by
  have HN := Lib.hid hn
  have hgw : 2 < w.heap.size := cell_lt (hT.out 0 (by decide))
  have hn1 : (n : Int) ≤ 1000000 := by omega
  clear hn
  go_enter Tryd.func23, Tryd.ntmps23
  go_wp2_with fail
  go_loopw [14] (fun i wr => ∃ k : Nat, k ≤ n ∧ i = .int .i64 k ∧ Below w.heap.size w wr ∧ Hid (Tab wr) ∧ Cap w.heap.size wr (1, true) ∧ Hid (∀ j, j < k → inR (zs[j]?.getD 0) = true ∧ 1 ≤ zs[j]?.getD 0)) (fun i _ => n - (intOf i).toNat)
  case atStart =>
    refine ⟨0, Nat.zero_le _, rfl, ((Below.refl _ _).alloc (Nat.le_refl _) _).alloc (by simp) _, Tab.alloc (Tab.alloc hT _) _, ?_, Lib.hid fun j hj => by omega⟩
    exact ⟨by go_simp, by go_simp, by go_simp, by go_simp⟩
  case round =>
    obtain ⟨k, hk, rfl, hB, hTr, hcap, hpos⟩ := hrel
    have hk1 : (k : Int) ≤ n := by omega
    by_cases hlt : k < n
    · have HX : Hid (k < zs.length) := Lib.hid (by rw [HN.out]; exact hlt)
      have hcw := hL.out k HX.out
      have hbw : b < w.heap.size := cell_lt hcw
      have hcell := (hB.cell (p := ⟨b, o + k, none⟩) hbw).trans hcw
      clear hcw
      have hlt' : (k : Int) < n := by omega
      have HP2 : Hid (inR (zs[k]?.getD 0) = true → 1 ≤ zs[k]?.getD 0 → ∀ j, j < k + 1 → inR (zs[j]?.getD 0) = true ∧ 1 ≤ zs[j]?.getD 0) := Lib.hid fun h1 h2 j hj => by
        rcases Nat.lt_or_ge j k with g | g
        · exact hpos.out j g
        · obtain rfl : j = k := by omega
          exact ⟨h1, h2⟩
      have HO : Hid (inR (zs[k]?.getD 0) = false ∨ zs[k]?.getD 0 < 1 → lcmP zs = (0, false)) := Lib.hid fun h => by unfold lcmP; rw [lcmPos_out HX.out h]; rfl
      generalize zs[k]?.getD 0 = x at *
      cases hr : inR x
      · have HR := Lib.hid (HO.out (Or.inl hr))
        have HX2 := Lib.hid hr
        clear HO HP2 hpos hr
        go_wp2_with (go_at_call 33; refine (within1 x _ _ (by simp [World.cell?_alloc_new])).mono ?_; rintro e w' ⟨rfl, rfl⟩; rw [HX2.out])
        go_ret2
        exact ⟨ret_ib (by rw [HR.out]) (by rw [HR.out]), hB.alloc hB.size _⟩
      · have HX2 := Lib.hid hr
        by_cases h1 : 1 ≤ x
        · have HP3 := Lib.hid (HP2.out hr h1)
          clear HO HP2 hpos hr
          go_wp2_with (go_at_call 33; refine (within1 x _ _ (by simp [World.cell?_alloc_new])).mono ?_; rintro e w' ⟨rfl, rfl⟩; rw [HX2.out])
          go_roundw
          case rel => exact ⟨k + 1, by omega, by go_num, hB.alloc hB.size _, Tab.alloc hTr _, hcap.below ((Below.refl _ _).alloc (Nat.le_refl _) _), HP3⟩
          case measure => simp [intOf]; omega
        · have HR := Lib.hid (HO.out (Or.inr (by omega)))
          have h1' : x < 1 := by omega
          clear HO HP2 hpos hr h1
          go_wp2_with (go_at_call 33; refine (within1 x _ _ (by simp [World.cell?_alloc_new])).mono ?_; rintro e w' ⟨rfl, rfl⟩; rw [HX2.out])
          go_ret2
          exact ⟨ret_ib (by rw [HR.out]) (by rw [HR.out]), hB.alloc hB.size _⟩
    · obtain rfl : k = n := by omega
      have HPOS : Hid (lcmPos zs = true) := Lib.hid (lcmPos_all fun j hj => hpos.out j (by rw [HN.out] at hj; exact hj))
      have HA := Lib.hid (lcmAt_all HPOS.out)
      clear hpos hlt
      go_wp2_with fail
      go_loopw [29] (fun i wx => ∃ j : Nat, j ≤ k ∧ i = .int .i64 j ∧ Below w.heap.size w wx ∧ Hid (Tab wx) ∧ Cap w.heap.size wx (lcmAt zs j)) (fun i _ => k - (intOf i).toNat)
      case atStart => exact ⟨0, Nat.zero_le _, rfl, hB, hTr, hcap⟩
      case round =>
        clear hB hTr hcap
        obtain ⟨j, hj, rfl, hB, hTr, hcap⟩ := hrel
        have hj1 : (j : Int) ≤ k := by omega
        by_cases hlt : j < k
        · have HX : Hid (j < zs.length) := Lib.hid (by rw [HN.out]; exact hlt)
          have hcw := hL.out j HX.out
          have hbw : b < w.heap.size := cell_lt hcw
          have hcell := (hB.cell (p := ⟨b, o + j, none⟩) hbw).trans hcw
          clear hcw
          have hlt' : (j : Int) < k := by omega
          have HS := Lib.hid (lcmAt_succ HX.out)
          have HOK := Lib.hid (lcmAt_ok HPOS.out j (by have := HX.out; omega))
          have HXX := Lib.hid (lcmPos_at HPOS.out HX.out)
          generalize zs[j]?.getD 0 = x at *
          generalize lcmAt zs j = s at *
          obtain ⟨c1, c2, f1, f2⟩ := hcap
          have C := Lib.hid (lcmfn_any x s (w.heap.size + 1) w.heap.size w.heap.size _ hTr HXX.out HOK.out hgw (by omega) (by omega) (by omega) c1 c2 f1 f2)
          go_wp2_with fail
          refine C.out.mono ?_
          rintro e wy ⟨rfl, hb, hTy, d1, d2, e1, e2⟩
          clear c1 c2 f1 f2
          go_wp2
          go_roundw
          case rel => exact ⟨j + 1, by omega, by go_num, hB.trans hb, hTy, by rw [HS.out]; exact ⟨d1, d2, e1, e2⟩⟩
          case measure => simp [intOf]; omega
        · obtain rfl : j = k := by omega
          have HAL : Hid (lcmAt zs j = lcmP zs) := Lib.hid (by rw [← HA.out, HN.out])
          obtain ⟨c1, c2, f1, f2⟩ := hcap
          rw [HAL.out] at c1 c2
          clear hlt
          go_wp2
          go_quiet (fail)
          go_wp2
          go_ret2
          exact ⟨rfl, hB.trans (below_drewN _ _ _)⟩
theorem lcm_nil (w : World) :
    Calls Tryd.prog 23 #[.slice none 0 0] w fun e w' => e = .returned (.tuple #[.int .i64 1, .bool true]) ∧ Below w.heap.size w w' := by
  go_enter Tryd.func23, Tryd.ntmps23
  go_wp2_with fail
  refine wp_loop_rounds 1 ?_
  rw [rounds_succ]
  go_wp2_with fail
  refine wp_loop_rounds 1 ?_
  rw [rounds_succ]
  go_wp2_with fail
  go_quiet (fail)
  go_wp2
  go_ret2
  exact ⟨rfl, (((Below.refl _ _).alloc (Nat.le_refl _) _).alloc (by simp) _).trans (below_drewN _ _ _)⟩
end Go.Proofs.YtikojcakkmmebaaDoor
