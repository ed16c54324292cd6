/- NumCommons: the walk of the law. -/
import Derived.Test.YtikojcakkmmebaaDoorWorks01
import Derived.Test.YtikojcakkmmebaaDoorNear
import Derived.Test.YtikojcakkmmebaaDoorLcm3
import Derived.Test.YtikojcakkmmebaaDoorApp
namespace Go.Proofs.YtikojcakkmmebaaDoor
open Go.RowKit

def smallV (x : Int) : Int := 1 + x % 18446744073709551616 % 60
theorem wp_gen {P : Program} {c : Code} {Q : Exit → Act → World → Prop} {a : Act} {W : World} (h : ∀ w, w = W → c.wp P Q a w) : c.wp P Q a W := h _ rfl
theorem u_mod (x : Int) {m : Int} (hm : 1 ≤ m ∧ m ≤ 1125899906842624) : ∃ u n : Int, IntKind.u64.wrap x = u ∧ u.tmod m = n ∧ u % m = n ∧ 0 ≤ u ∧ u ≤ 18446744073709551615 ∧ 0 ≤ n ∧ n < m ∧ IntKind.i64.wrap n = n ∧ IntKind.u64.wrap n = n ∧ x % 18446744073709551616 % m = n := by
  have h0 := Int.emod_nonneg (x % 18446744073709551616) (show m ≠ 0 by omega)
  have h1 := Int.emod_lt_of_pos (x % 18446744073709551616) (show 0 < m by omega)
  exact ⟨x % 18446744073709551616, x % 18446744073709551616 % m, IntKind.wrap_u64 x, Int.tmod_eq_emod_of_nonneg (by omega), rfl, by omega, by omega, h0, h1, IntWalk.i64_in _ (by omega), IntWalk.u64_in _ (by omega), rfl⟩
/-- The made slice, of which the first k numbers are set. -/
def SmallAt (w : World) (D n k : Nat) (ys : List Int) : Prop :=
  D < w.heap.size ∧ (∀ j, j < n → w.cell? ⟨D, j, none⟩ = some (.int .i64 (if j < k then smallV (ys[j]?.getD 0) else 0))) ∧ ∀ j, j < n → w.frozen? ⟨D, j, none⟩ = false
theorem SmallAt.below {w w' : World} {D n k : Nat} {ys : List Int} (h : SmallAt w D n k ys) (hb : Below w.heap.size w w') : SmallAt w' D n k ys :=
  ⟨Nat.lt_of_lt_of_le h.1 hb.size, fun j hj => (hb.cell (p := ⟨D, j, none⟩) h.1).trans (h.2.1 j hj), fun j hj => (hb.frozen (p := ⟨D, j, none⟩) h.1).trans (h.2.2 j hj)⟩
theorem SmallAt.step {w : World} {D n k : Nat} {ys : List Int} (h : SmallAt w D n k ys) (hk : k < n) : SmallAt (w.setCell ⟨D, k, none⟩ (.int .i64 (smallV (ys[k]?.getD 0)))) D n (k + 1) ys := by
  obtain ⟨h1, h2, h3⟩ := h
  refine ⟨by simpa [World.setCell] using h1, fun j hj => ?_, fun j hj => ?_⟩
  · have hc := h2 j hj
    by_cases e : j = k
    · subst e
      rw [if_pos (by omega)]
      go_simp
    · have e2 : (if j < k + 1 then smallV (ys[j]?.getD 0) else 0) = (if j < k then smallV (ys[j]?.getD 0) else 0) := by
        by_cases hjk : j < k
        · rw [if_pos hjk, if_pos (by omega)]
        · rw [if_neg hjk, if_neg (by omega)]
      rw [e2, ← hc]
      refine World.cell?_setCell_other _ _ _ _ ?_
      intro e'
      exact e (congrArg Addr.off e').symm
  · have hf := h3 j hj
    go_simp
theorem SmallAt.start {w : World} {B D n c : Nat} {ys : List Int} (h : w.ownsRow B 3 1 (.slice (some ⟨D, 0, none⟩) n c) n (madeCells (Value.int .i64 0).cells (n * 1)).toList) : SmallAt w D n 0 ys := by
  refine ⟨(h.lt D rfl).2, fun j hj => ?_, fun j hj => h.frozenAt j⟩
  rw [if_neg (Nat.not_lt_zero j), h.cellAt j (by omega)]
  simp [madeCells, hj, Value.cells, Nat.mod_one]
theorem SmallAt.done {w : World} {D n : Nat} {ys : List Int} (h : SmallAt w D n n ys) (hy : ys.length = n) : IntsAt w D 0 (ys.map smallV) := fun j hj => by
  have hj' : j < n := by simpa [hy] using hj
  rw [Nat.zero_add, h.2.1 j hj', if_pos hj']
  simp [hy, hj']
set_option maxRecDepth 100000 in
set_option maxHeartbeats 4000000 in
theorem nlaw8_walk (n1 n2 p1 p2 : Int) (hp1 : 0 ≤ p1 ∧ p1 ≤ 255) (hp2 : 0 ≤ p2 ∧ p2 ≤ 255) (b o len cap n : Nat) (ys : List Int) (w : World) (hT : Hid (Tab w)) (hlc : len ≤ cap) (hn : (n : Int) = min (len : Int) 12) (hy : ys.length = n) (hL : Hid (IntsAt w b o ys)) :
    Calls Tryd.prog 5 #[.agg #[.int .i64 n1, .int .i64 n2], .agg #[.int .u8 p1, .int .u8 p2], .slice (some ⟨b, o, none⟩) len cap] w fun e w' => e = .returned (.bool true) ∧ Below w.heap.size w w' := by
  have hn12 : n ≤ 12 := by omega
  have hnc : n ≤ cap := by omega
  have HN := Lib.hid hn
  have HY := Lib.hid hy
  have mx : ∀ W, (Builtin.min_ #[3, 3] 3 #[.int .i64 len, .int .i64 12]).run Tryd.prog W = .ok (.int .i64 n) W := fun W => by
    have := @run_min_int2 Tryd.prog W #[3, 3] 3 .i64 .i64 len 12
    rw [this]; congr 2; split <;> omega
  clear hn hy
  have HN1 := Lib.hid fun w => near_any n1 p1 hp1 w
  have HN2 := Lib.hid fun w => near_any n2 p2 hp2 w
  generalize nearV n1 p1 = f1 at *
  generalize nearV n2 p2 = f2 at *
  obtain ⟨v1, a1, ea1, ea2, _, ea4, ea5, ea6, ea7, ea8, ea9, _⟩ := u_mod n1 (m := 3000) (by omega)
  obtain ⟨v2, a2, eb1, eb2, _, eb4, eb5, eb6, eb7, eb8, eb9, _⟩ := u_mod n2 (m := 3000) (by omega)
  have eb10 : IntKind.i64.wrap (-a2) = -a2 := IntWalk.i64_in _ (by omega)
  have G0 := Lib.hid fun w hT => gcd_any n1 n2 w hT
  have Q0 := Lib.hid fun w => rgcd_any n1 n2 w
  have G1 := Lib.hid fun w hT => gcd_any f1 f2 w hT
  have Q1 := Lib.hid fun w => rgcd_any f1 f2 w
  have G2 := Lib.hid fun w hT => gcd_any a1 (-a2) w hT
  have Q2 := Lib.hid fun w => rgcd_any a1 (-a2) w
  generalize gcdV n1 n2 = g0 at *
  generalize gcdV f1 f2 = g1 at *
  generalize gcdV a1 (-a2) = g2 at *
  have ne0 : (g0 != g0) = false := by simp
  have ne1 : (g1 != g1) = false := by simp
  have ne2 : (g2 != g2) = false := by simp
  have ix0 : ∀ W, (Instr.index 26 (.agg #[.int .i64 n1, .int .i64 n2, .int .i64 f1, .int .i64 f2, .int .i64 a1, .int .i64 (-a2)]) (.int .i64 0)).run Tryd.prog W = .ok (.agg #[.int .i64 n1, .int .i64 n2]) W := fun _ => by kernel_rfl
  have ix1 : ∀ W, (Instr.index 26 (.agg #[.int .i64 n1, .int .i64 n2, .int .i64 f1, .int .i64 f2, .int .i64 a1, .int .i64 (-a2)]) (.int .i64 1)).run Tryd.prog W = .ok (.agg #[.int .i64 f1, .int .i64 f2]) W := fun _ => by kernel_rfl
  have ix2 : ∀ W, (Instr.index 26 (.agg #[.int .i64 n1, .int .i64 n2, .int .i64 f1, .int .i64 f2, .int .i64 a1, .int .i64 (-a2)]) (.int .i64 2)).run Tryd.prog W = .ok (.agg #[.int .i64 a1, .int .i64 (-a2)]) W := fun _ => by kernel_rfl
  have hgw : 2 < w.heap.size := cell_lt (hT.out 0 (by decide))
  obtain ⟨i0, hi, hz0, hz1, hz2⟩ := info_parts infoI
  go_enter Tryd.func5, Tryd.ntmps5
  go_wp2_with (refine wpList_make_full _ rfl _ _ _ rfl (w.heap.size + 2) 3 i0 (.int .i64 0) 1 Tryd.underlying36 hi hz0 hz1 .i64 .i64 n n n rfl rfl rfl rfl (by rw [hz2]; omega) (by unfold maxLen; omega) (by simp) ?_; intro w1 hown1 hgrow1)
  have hb1 := ((Below.refl ((w.alloc (.cells #[.int .i64 n1, .int .i64 n2] 22)).alloc (.cells #[.int .u8 p1, .int .u8 p2] 23)).heap.size _).grown hgrow1 (Nat.le_refl _) (fun k h => by cases h))
  have hS1 : SmallAt w1 (w.heap.size + 1 + 1) n 0 ys := SmallAt.start (by simpa using hown1)
  clear hown1 hgrow1
  have hz1_0 : w.heap.size < w1.heap.size := by have := hb1.size; simp at this; omega
  have s1_0_0 : w1.cell? ⟨w.heap.size, 0, none⟩ = some (.int .i64 n1) := (hb1.cell (p := ⟨w.heap.size, 0, none⟩) (by simp <;> omega)).trans (by go_simp)
  have s1_0_1 : w1.cell? ⟨w.heap.size, 1, none⟩ = some (.int .i64 n2) := (hb1.cell (p := ⟨w.heap.size, 1, none⟩) (by simp <;> omega)).trans (by go_simp)
  have hz1_1 : w.heap.size + 1 < w1.heap.size := by have := hb1.size; simp at this; omega
  have s1_1_0 : w1.cell? ⟨w.heap.size + 1, 0, none⟩ = some (.int .u8 p1) := (hb1.cell (p := ⟨w.heap.size + 1, 0, none⟩) (by simp <;> omega)).trans (by go_simp)
  have s1_1_1 : w1.cell? ⟨w.heap.size + 1, 1, none⟩ = some (.int .u8 p2) := (hb1.cell (p := ⟨w.heap.size + 1, 1, none⟩) (by simp <;> omega)).trans (by go_simp)
  have H1 : Below w.heap.size w w1 := (((Below.refl _ _).alloc (Nat.le_refl _) _).alloc (by simp <;> omega) _).trans (hb1.mono (by simp <;> omega))
  have T1 := Tab.below (Tab.alloc (Tab.alloc hT _) _) hb1
  clear hb1
  go_loopw [8] (fun i wr => ∃ k : Nat, k ≤ n ∧ i = .int .i64 k ∧ Below (w.heap.size + 1 + 1) w1 wr ∧ Hid (Tab wr) ∧ SmallAt wr (w.heap.size + 1 + 1) n k ys) (fun i _ => n - (intOf i).toNat)
  case atStart => exact ⟨0, Nat.zero_le _, rfl, Below.refl _ _, T1, hS1⟩
  case round =>
    obtain ⟨k, hk, rfl, hB, hTr, hS⟩ := hrel
    clear hS1
    by_cases hlt : k < n
    · have HX : Hid (k < ys.length) := Lib.hid (by rw [HY.out]; exact hlt)
      have hcw := hL.out k HX.out
      have hbw : b < w.heap.size := cell_lt hcw
      have hcell := (hB.cell (p := ⟨b, o + k, none⟩) (by simp; omega)).trans ((H1.cell (p := ⟨b, o + k, none⟩) hbw).trans hcw)
      clear hcw
      have hlt' : (k : Int) < n := by omega
      have hk12 : (k : Int) ≤ 12 := by omega
      have hsc := hS.2.1 k hlt
      rw [if_neg (Nat.lt_irrefl k)] at hsc
      have hsf := hS.2.2 k hlt
      have HS2 := Lib.hid (hS.step hlt)
      generalize ys[k]?.getD 0 = x at *
      obtain ⟨u, r, e1, e2, e3, u0, u1, r0, r1, r2, r3, r4⟩ := u_mod x (m := 60) (by omega)
      have hv : smallV x = 1 + r := by unfold smallV; rw [r4]
      rw [hv] at HS2
      clear hS hv r4 HX
      go_wp2
      go_roundw
      case rel => exact ⟨k + 1, by omega, by go_num, hB.setCell (by simp) _, Tab.set hTr (by omega), HS2.out⟩
      case measure => simp [intOf]; omega
    · have hkn : n = k := by omega
      subst hkn
      have hS2 := Lib.hid (hS.done HY.out)
      have H2 := H1.trans (hB.mono (by omega))
      have hz2_0 := Nat.lt_of_lt_of_le hz1_0 hB.size
      have hz2_1 := Nat.lt_of_lt_of_le hz1_1 hB.size
      have s2_0_0 := (hB.cell (p := ⟨w.heap.size, 0, none⟩) (by simp; omega)).trans s1_0_0
      have s2_0_1 := (hB.cell (p := ⟨w.heap.size, 1, none⟩) (by simp; omega)).trans s1_0_1
      have s2_1_0 := (hB.cell (p := ⟨w.heap.size + 1, 0, none⟩) (by simp)).trans s1_1_0
      have s2_1_1 := (hB.cell (p := ⟨w.heap.size + 1, 1, none⟩) (by simp)).trans s1_1_1
      clear hB hS hlt
      go_wp2_with fail
      have F0 := Bw.cell hz2_0 s2_0_0
      have F1 := Bw.cell hz2_0 s2_0_1
      have F2 := Bw.cell hz2_1 s2_1_0
      have F3 := Bw.cell hz2_1 s2_1_1
      refine wp_region_bw (by kernel_rfl) (by kernel_rfl) ?_
      repeat (go_big_quiet_step ((first | (go_at_call_of 11 n1; exact (Calls.bw_same (HN1.out _))) | (go_at_call_of 11 n2; exact (Calls.bw_same (HN2.out _))))))
      refine wpQuiet_nil ?_
      rintro w11 ⟨⟨_, hb11⟩, rfl⟩
      clear F0 F1 F2 F3
      have hz11_0 := Nat.lt_of_lt_of_le hz2_0 hb11.size
      have s11_0_0 := (hb11.cell (p := ⟨w.heap.size, 0, none⟩) hz2_0).trans s2_0_0
      have s11_0_1 := (hb11.cell (p := ⟨w.heap.size, 1, none⟩) hz2_0).trans s2_0_1
      have hz11_1 := Nat.lt_of_lt_of_le hz2_1 hb11.size
      have s11_1_0 := (hb11.cell (p := ⟨w.heap.size + 1, 0, none⟩) hz2_1).trans s2_1_0
      have s11_1_1 := (hb11.cell (p := ⟨w.heap.size + 1, 1, none⟩) hz2_1).trans s2_1_1
      have H11 : Below wr.heap.size wr w11 := (Below.refl _ _).trans (hb11.mono (by simp <;> omega))
      have T11 := Tab.below hTr hb11
      clear hz2_0 s2_0_0 s2_0_1 hz2_1 s2_1_0 s2_1_1 hb11
      go_wp2_with fail
      refine wp_loop_rounds 4 ?_
      rw [rounds_succ]
      go_wp2_with fail
      refine wp_gen ?_
      rintro w12 hg12
      have hz12_0 : w.heap.size < w12.heap.size := by rw [hg12]; simp <;> omega
      have s12_0_0 : w12.cell? ⟨w.heap.size, 0, none⟩ = some (.int .i64 n1) := by rw [hg12]; go_simp
      have s12_0_1 : w12.cell? ⟨w.heap.size, 1, none⟩ = some (.int .i64 n2) := by rw [hg12]; go_simp
      have hz12_1 : w11.heap.size < w12.heap.size := by rw [hg12]; simp <;> omega
      have s12_1_0 : w12.cell? ⟨w11.heap.size, 0, none⟩ = some (.int .i64 n1) := by rw [hg12]; go_simp
      have s12_1_1 : w12.cell? ⟨w11.heap.size, 1, none⟩ = some (.int .i64 n2) := by rw [hg12]; go_simp
      have H12 : Below wr.heap.size wr w12 := by rw [hg12]; exact (H11.alloc H11.size _)
      have T12 : Hid (Tab w12) := by rw [hg12]; exact (Tab.alloc T11 _)
      clear hz11_0 s11_0_0 s11_0_1 T11 H11
      clear hg12
      have R1 := Lib.hid fun (p : Bw w12) => Calls.bw_of (p := p) (G0.out p.w (Tab.below T12 p.h))
      have R2 := Lib.hid fun (p : Bw w12) => Calls.bw_of (p := p) (Q0.out p.w)
      have F0 := Bw.cell hz12_0 s12_0_0
      have F1 := Bw.cell hz12_0 s12_0_1
      have F2 := Bw.cell hz12_1 s12_1_0
      have F3 := Bw.cell hz12_1 s12_1_1
      refine wp_region_bw (by kernel_rfl) (by kernel_rfl) ?_
      repeat (go_big_quiet_step ((first | (go_at_call 21; exact (R1.out _)) | (go_at_call 22; exact (R2.out _)))))
      refine wpQuiet_nil ?_
      rintro w13 ⟨⟨_, hb13⟩, rfl⟩
      clear F0 F1 F2 F3
      have hz13_0 := Nat.lt_of_lt_of_le hz12_0 hb13.size
      have s13_0_0 := (hb13.cell (p := ⟨w.heap.size, 0, none⟩) hz12_0).trans s12_0_0
      have s13_0_1 := (hb13.cell (p := ⟨w.heap.size, 1, none⟩) hz12_0).trans s12_0_1
      have hz13_1 := Nat.lt_of_lt_of_le hz12_1 hb13.size
      have s13_1_0 := (hb13.cell (p := ⟨w11.heap.size, 0, none⟩) hz12_1).trans s12_1_0
      have s13_1_1 := (hb13.cell (p := ⟨w11.heap.size, 1, none⟩) hz12_1).trans s12_1_1
      have H13 := H12.trans (hb13.mono H12.size)
      have T13 := Tab.below T12 hb13
      clear hz12_0 s12_0_0 s12_0_1 hz12_1 s12_1_0 s12_1_1 hb13 T12 H12
      clear R1 R2
      go_wp2_with fail
      rw [rounds_succ]
      go_wp2_with fail
      refine wp_gen ?_
      rintro w14 hg14
      have hz14_0 : w.heap.size < w14.heap.size := by rw [hg14]; simp <;> omega
      have s14_0_0 : w14.cell? ⟨w.heap.size, 0, none⟩ = some (.int .i64 n1) := by rw [hg14]; go_simp
      have s14_0_1 : w14.cell? ⟨w.heap.size, 1, none⟩ = some (.int .i64 n2) := by rw [hg14]; go_simp
      have hz14_1 : w13.heap.size < w14.heap.size := by rw [hg14]; simp <;> omega
      have s14_1_0 : w14.cell? ⟨w13.heap.size, 0, none⟩ = some (.int .i64 f1) := by rw [hg14]; go_simp
      have s14_1_1 : w14.cell? ⟨w13.heap.size, 1, none⟩ = some (.int .i64 f2) := by rw [hg14]; go_simp
      have H14 : Below wr.heap.size wr w14 := by rw [hg14]; exact (H13.alloc H13.size _)
      have T14 : Hid (Tab w14) := by rw [hg14]; exact (Tab.alloc T13 _)
      clear hz13_0 s13_0_0 s13_0_1 T13 H13
      clear hg14
      have R1 := Lib.hid fun (p : Bw w14) => Calls.bw_of (p := p) (G1.out p.w (Tab.below T14 p.h))
      have R2 := Lib.hid fun (p : Bw w14) => Calls.bw_of (p := p) (Q1.out p.w)
      have F0 := Bw.cell hz14_0 s14_0_0
      have F1 := Bw.cell hz14_0 s14_0_1
      have F2 := Bw.cell hz14_1 s14_1_0
      have F3 := Bw.cell hz14_1 s14_1_1
      refine wp_region_bw (by kernel_rfl) (by kernel_rfl) ?_
      repeat (go_big_quiet_step ((first | (go_at_call 21; exact (R1.out _)) | (go_at_call 22; exact (R2.out _)))))
      refine wpQuiet_nil ?_
      rintro w15 ⟨⟨_, hb15⟩, rfl⟩
      clear F0 F1 F2 F3
      have hz15_0 := Nat.lt_of_lt_of_le hz14_0 hb15.size
      have s15_0_0 := (hb15.cell (p := ⟨w.heap.size, 0, none⟩) hz14_0).trans s14_0_0
      have s15_0_1 := (hb15.cell (p := ⟨w.heap.size, 1, none⟩) hz14_0).trans s14_0_1
      have hz15_1 := Nat.lt_of_lt_of_le hz14_1 hb15.size
      have s15_1_0 := (hb15.cell (p := ⟨w13.heap.size, 0, none⟩) hz14_1).trans s14_1_0
      have s15_1_1 := (hb15.cell (p := ⟨w13.heap.size, 1, none⟩) hz14_1).trans s14_1_1
      have H15 := H14.trans (hb15.mono H14.size)
      have T15 := Tab.below T14 hb15
      clear hz14_0 s14_0_0 s14_0_1 hz14_1 s14_1_0 s14_1_1 hb15 T14 H14
      clear R1 R2
      go_wp2_with fail
      rw [rounds_succ]
      go_wp2_with fail
      refine wp_gen ?_
      rintro w16 hg16
      have hz16_0 : w.heap.size < w16.heap.size := by rw [hg16]; simp <;> omega
      have s16_0_0 : w16.cell? ⟨w.heap.size, 0, none⟩ = some (.int .i64 n1) := by rw [hg16]; go_simp
      have s16_0_1 : w16.cell? ⟨w.heap.size, 1, none⟩ = some (.int .i64 n2) := by rw [hg16]; go_simp
      have hz16_1 : w15.heap.size < w16.heap.size := by rw [hg16]; simp <;> omega
      have s16_1_0 : w16.cell? ⟨w15.heap.size, 0, none⟩ = some (.int .i64 a1) := by rw [hg16]; go_simp
      have s16_1_1 : w16.cell? ⟨w15.heap.size, 1, none⟩ = some (.int .i64 (-a2)) := by rw [hg16]; go_simp
      have H16 : Below wr.heap.size wr w16 := by rw [hg16]; exact (H15.alloc H15.size _)
      have T16 : Hid (Tab w16) := by rw [hg16]; exact (Tab.alloc T15 _)
      clear hz15_0 s15_0_0 s15_0_1 T15 H15
      clear hg16
      have R1 := Lib.hid fun (p : Bw w16) => Calls.bw_of (p := p) (G2.out p.w (Tab.below T16 p.h))
      have R2 := Lib.hid fun (p : Bw w16) => Calls.bw_of (p := p) (Q2.out p.w)
      have F0 := Bw.cell hz16_0 s16_0_0
      have F1 := Bw.cell hz16_0 s16_0_1
      have F2 := Bw.cell hz16_1 s16_1_0
      have F3 := Bw.cell hz16_1 s16_1_1
      refine wp_region_bw (by kernel_rfl) (by kernel_rfl) ?_
      repeat (go_big_quiet_step ((first | (go_at_call 21; exact (R1.out _)) | (go_at_call 22; exact (R2.out _)))))
      refine wpQuiet_nil ?_
      rintro w17 ⟨⟨_, hb17⟩, rfl⟩
      clear F0 F1 F2 F3
      have hz17_0 := Nat.lt_of_lt_of_le hz16_0 hb17.size
      have s17_0_0 := (hb17.cell (p := ⟨w.heap.size, 0, none⟩) hz16_0).trans s16_0_0
      have s17_0_1 := (hb17.cell (p := ⟨w.heap.size, 1, none⟩) hz16_0).trans s16_0_1
      have hz17_1 := Nat.lt_of_lt_of_le hz16_1 hb17.size
      have s17_1_0 := (hb17.cell (p := ⟨w15.heap.size, 0, none⟩) hz16_1).trans s16_1_0
      have s17_1_1 := (hb17.cell (p := ⟨w15.heap.size, 1, none⟩) hz16_1).trans s16_1_1
      have H17 := H16.trans (hb17.mono H16.size)
      have T17 := Tab.below T16 hb17
      clear hz16_0 s16_0_0 s16_0_1 hz16_1 s16_1_0 s16_1_1 hb17 T16 H16
      clear R1 R2
      go_wp2_with fail
      rw [rounds_succ]
      go_wp2_with fail
      have hS3 := IntsAt.below hS2 H17
      have hn13 : (ys.map smallV).length = n := by rw [List.length_map]; exact HY.out
      obtain ⟨zs, hzs⟩ : ∃ zs, ys.map smallV = zs := ⟨_, rfl⟩
      rw [hzs] at hS3 hn13
      clear hzs hS2
      refine wp_region_put (R := Value × Value × Value × Value × Value) [82, 83, 84, 85, 86, 87, 88, 89, 90, 91, 92]
        (fun r => [.slice (some ⟨b, o, none⟩) n cap, .slice (some ⟨w.heap.size + 1 + 1, 0, none⟩) n n, r.1, .slice (some ⟨w.heap.size + 1 + 1, 0, none⟩) n n, r.2.1, .pointer (some ⟨w.heap.size, 0, none⟩), .int .i64 n1, r.2.2.1, r.2.2.2.1, r.2.2.2.2, .int .i64 0])
        (fun L r wx => AppI w17 n (zs.map (Value.int .i64)) n1 (L 2) (L 4) (L 7) (L 8) r.1 r.2.1 r.2.2.1 r.2.2.2.1 wx ∧ (L 9 = true → L 8 = true ∧ r.2.2.2.2 = .agg #[.slice (some ⟨b, o, none⟩) n cap, .slice (some ⟨w.heap.size + 1 + 1, 0, none⟩) n n, r.2.2.2.1]))
        (by kernel_rfl) (by kernel_rfl) (by kernel_rfl) (undef, undef, undef, undef, undef) ?_ ?_ ?_
      · exact ⟨AppI.start _ _ _ _ _ _ _ _, fun h => absurd h (by decide)⟩
      · refine ⟨?_, ?_, ?_, ?_, ?_, ?_, ?_, ?_, ?_, ?_, ?_, trivial⟩
        all_goals
          rintro L ⟨r1, r2, r3, r4, r5⟩ wx K hLi hdep ⟨hI, h9⟩ hK
          have hc := (hI.bel.cell (p := ⟨w.heap.size, 0, none⟩) hz17_0).trans s17_0_0
          simp only [putAll, Act.put, List.setIfInBounds_toArray, List.set_cons_succ, List.set_cons_zero] at hK ⊢
        · go_simp
          exact hK (r1, r2, r3, r4, r5) wx ⟨by simpa using hI, by simpa using h9⟩
        · go_simp
          exact hK (r1, r2, r3, r4, r5) wx ⟨by simpa using hI, by simpa using h9⟩
        · go_simp
          rw [hLi] at hI
          exact hK (_, r2, r3, r4, r5) _ ⟨by simpa using hI.op2, by simpa using h9⟩
        · go_simp
          exact hK (r1, r2, r3, r4, r5) wx ⟨by simpa using hI, by simpa using h9⟩
        · have h2 : L 2 = true := hdep ⟨2, .data⟩ (by simp) rfl
          rw [hLi, h2] at hI
          refine wp_append_at _ _ rfl w17.heap.size r1 0 [] rfl (hI.a rfl rfl) ⟨w.heap.size + 1 + 1, 0, none⟩ n n (zs.map (Value.int .i64)) rfl (by rw [List.length_map]; exact hn13) (cells_of hS3.out hI.bel) (one_of zs) (by omega) hI.bel.size ?_
          · intro v' w' q1 q2 q3
            have hI' := hI.op4 q1 q2 q3
            simp only [Act.put, List.setIfInBounds_toArray, List.set_cons_succ, List.set_cons_zero]
            exact hK (r1, v', r3, r4, r5) w' ⟨by simpa [h2] using hI', by simpa using h9⟩
        · go_simp
          exact hK (r1, r2, r3, r4, r5) wx ⟨by simpa using hI, by simpa using h9⟩
        · go_simp
          exact hK (r1, r2, r3, r4, r5) wx ⟨by simpa using hI, by simpa using h9⟩
        · go_simp
          rw [hLi] at hI
          exact hK (r1, r2, _, r4, r5) _ ⟨by simpa using hI.op7, by simpa using h9⟩
        · have h4 : L 4 = true := hdep ⟨4, .data⟩ (by simp) rfl
          have h7 : L 7 = true := hdep ⟨7, .data⟩ (by simp) rfl
          rw [hLi, h4, h7] at hI
          obtain ⟨g, rfl, hg, hgc, _⟩ := hI.c rfl
          refine wp_append_at _ _ rfl w17.heap.size r2 n (zs.map (Value.int .i64)) rfl (hI.b rfl rfl) ⟨g, 0, none⟩ 1 1 [.int .i64 n1] rfl rfl ?_ ?_ (by omega) hI.bel.size ?_
          · intro j u hj
            match j, hj with
            | 0, hj => simp at hj; subst hj; simpa [Addr.add] using hgc
          · intro u hu; simp at hu; subst hu; rfl
          · intro v' w' q1 q2 q3
            have hI' := hI.op8 q1 q2
            simp only [Act.put, List.setIfInBounds_toArray, List.set_cons_succ, List.set_cons_zero]
            exact hK (r1, r2, _, v', r5) w' ⟨by simpa [h4, h7] using hI', fun h => by have := (h9 (by simpa using h)).1; rw [hLi] at this; cases this⟩
        · have h8 : L 8 = true := hdep ⟨8, .data⟩ (by simp) rfl
          rw [h8] at hI
          obtain ⟨g, c4, hv⟩ := hI.val
          simp only at hv
          subst hv
          go_simp
          exact hK (r1, r2, r3, _, _) wx ⟨by simpa [h8] using hI, fun _ => ⟨by simp [h8], rfl⟩⟩
        · go_simp
          exact hK (r1, r2, r3, r4, r5) wx ⟨by simpa using hI, by simpa using h9⟩
      rintro ⟨r1, r2, r3, r4, r5⟩ wa ⟨hI, h9⟩
      obtain ⟨g, c3, hr4, hG⟩ := hI.done
      simp only at hr4
      subst hr4
      have hr5 := (h9 rfl).2
      simp only at hr5
      subst hr5
      clear h9
      simp only [putAll, Act.put, List.setIfInBounds_toArray, List.set_cons_succ, List.set_cons_zero]
      have hba := hI.bel
      clear hI
      have hG := Lib.hid hG
      have Hx := H2.trans (H17.mono H2.size)
      have Ha := Hx.trans (hba.mono Hx.size)
      have Ta := Tab.below T17 hba
      have iy0 : ∀ W, (Instr.index 38 (.agg #[.slice (some ⟨b, o, none⟩) n cap, .slice (some ⟨w.heap.size + 1 + 1, 0, none⟩) n n, .slice (some ⟨g, 0, none⟩) (n + 1) c3]) (.int .i64 0)).run Tryd.prog W = .ok (.slice (some ⟨b, o, none⟩) n cap) W := fun _ => by kernel_rfl
      have iy1 : ∀ W, (Instr.index 38 (.agg #[.slice (some ⟨b, o, none⟩) n cap, .slice (some ⟨w.heap.size + 1 + 1, 0, none⟩) n n, .slice (some ⟨g, 0, none⟩) (n + 1) c3]) (.int .i64 1)).run Tryd.prog W = .ok (.slice (some ⟨w.heap.size + 1 + 1, 0, none⟩) n n) W := fun _ => by kernel_rfl
      have iy2 : ∀ W, (Instr.index 38 (.agg #[.slice (some ⟨b, o, none⟩) n cap, .slice (some ⟨w.heap.size + 1 + 1, 0, none⟩) n n, .slice (some ⟨g, 0, none⟩) (n + 1) c3]) (.int .i64 2)).run Tryd.prog W = .ok (.slice (some ⟨g, 0, none⟩) (n + 1) c3) W := fun _ => by kernel_rfl
      have hL2 := IntsAt.below hL Ha
      have hS4 := IntsAt.below hS3 hba
      have hn14 : (zs ++ [n1]).length = n + 1 := by simp [hn13]
      have HN3 := Lib.hid hn13
      have HN4 := Lib.hid hn14
      clear hn13 hn14 hba Hx
      go_wp2_with fail
      refine wp_loop_rounds 4 ?_
      rw [rounds_succ]
      go_wp2_with fail
      refine (lcm_any ys n cap b o _ (by exact Ta) (by exact HY.out) (by omega) (by exact hL2)).mono ?_
      rintro e w21 ⟨rfl, hb21⟩
      have H21 : Below wa.heap.size wa w21 := (Below.refl _ _).trans (hb21.mono (by simp <;> omega))
      have T21 := Tab.below Ta hb21
      clear hb21
      go_wp2_with fail
      refine (rlcm_any ys n cap b o _ (by exact HY.out) (by omega) (by exact IntsAt.below hL2 H21)).mono ?_
      rintro e w22 ⟨rfl, hb22⟩
      have H22 := H21.trans (hb22.mono H21.size)
      have T22 := Tab.below T21 hb22
      clear hb22 T21 H21
      go_wp2_with fail
      rw [rounds_succ]
      go_wp2_with fail
      refine (lcm_any zs n n (w.heap.size + 1 + 1) 0 _ (by exact T22) (by exact HN3.out) (by omega) (by exact IntsAt.below hS4 H22)).mono ?_
      rintro e w23 ⟨rfl, hb23⟩
      have H23 := H22.trans (hb23.mono H22.size)
      have T23 := Tab.below T22 hb23
      clear hb23 T22 H22
      go_wp2_with fail
      refine (rlcm_any zs n n (w.heap.size + 1 + 1) 0 _ (by exact HN3.out) (by omega) (by exact IntsAt.below hS4 H23)).mono ?_
      rintro e w24 ⟨rfl, hb24⟩
      have H24 := H23.trans (hb24.mono H23.size)
      have T24 := Tab.below T23 hb24
      clear hb24 T23 H23
      go_wp2_with fail
      rw [rounds_succ]
      go_wp2_with fail
      refine (lcm_any (zs ++ [n1]) (n + 1) c3 g 0 _ (by exact T24) (by exact HN4.out) (by omega) (by exact IntsAt.below hG H24)).mono ?_
      rintro e w25 ⟨rfl, hb25⟩
      have H25 := H24.trans (hb25.mono H24.size)
      have T25 := Tab.below T24 hb25
      clear hb25 T24 H24
      go_wp2_with fail
      refine (rlcm_any (zs ++ [n1]) (n + 1) c3 g 0 _ (by exact HN4.out) (by omega) (by exact IntsAt.below hG H25)).mono ?_
      rintro e w26 ⟨rfl, hb26⟩
      have H26 := H25.trans (hb26.mono H25.size)
      have T26 := Tab.below T25 hb26
      clear hb26 T25 H25
      go_wp2_with fail
      rw [rounds_succ]
      go_wp2_with fail
      refine (works01 _ (by exact T26)).mono ?_
      rintro e w27 ⟨rfl, hb27⟩
      have H27 := H26.trans (hb27.mono H26.size)
      have T27 := Tab.below T26 hb27
      clear hb27 T26 H26
      go_wp2
      go_ret
      exact ⟨rfl, Ha.trans (H27.mono Ha.size)⟩
end Go.Proofs.YtikojcakkmmebaaDoor
