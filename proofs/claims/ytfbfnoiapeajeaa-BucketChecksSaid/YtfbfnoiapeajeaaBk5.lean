/- The reference of bucket: Least: what it computes. -/
import Derived.Test.YtfbfnoiapeajeaaBk4
namespace Go.Proofs.Ytfbfnoiapeajeaa
open Go.RowKit

theorem dem_step (r best : Int) {l : Tr} {k : Nat} (hk : k < l.length) : demV r best (l.drop k) = demV r (demG r (l[k]).1 0 best (l.drop k)) (l.drop (k + 1)) := by
  rw [List.drop_eq_getElem_cons hk]
  generalize l[k] = x
  obtain ⟨a, s⟩ := x
  rw [demV]
theorem demg_step (r a0 sum best : Int) {l : Tr} {k : Nat} (hk : k < l.length) : demG r a0 sum best (l.drop k) = demG r a0 (sum + (l[k]).2) (max best (sum + (l[k]).2 - r * ((l[k]).1 - a0) / 1048576)) (l.drop (k + 1)) := by
  rw [List.drop_eq_getElem_cons hk]
  generalize l[k] = x
  obtain ⟨a, s⟩ := x
  rw [demG]
def eL (r : Int) (l : Tr) : Int := if 1 ≤ r ∧ r ≤ 2097152 then if okT l then if demand r l ≤ 1048576 then 0 else 6 else 131 else 2
def lstV (r : Int) (l : Tr) : Int := if 1 ≤ r ∧ r ≤ 2097152 then if okT l then if demand r l ≤ 1048576 then demand r l else 0 else 0 else 0
theorem max_two {P : Program} {w : World} {ts : Array TypeId} {t : TypeId} {a b M : Int} (h : max a b = M) : (Builtin.max_ ts t #[.int .i64 a, .int .i64 b]).run P w = .ok (.int .i64 M) w := by
  have := @run_max_int2 P w ts t .i64 .i64 a b
  rw [this]; congr 2; split <;> omega
set_option maxRecDepth 100000 in
set_option maxHeartbeats 4000000 in
theorem rleast_any (r : Int) (a : Option Addr) (n cap : Nat) (l : Tr) (w : World) (hn : l.length = n) (hm : n ≤ 1000) (hc : Hid (TrA w a l)) :
    Calls Try.prog 28 #[.int .i64 r, .slice a n cap] w fun e w' => e = .returned (.tuple #[.int .i64 (lstV r l), .int .i64 (eL r l)]) ∧ Below w.heap.size w w' := by
  have K1 := Lib.hid fun w hc => rtrace_any a n cap l w hn hm hc
  have HN := Lib.hid hn
  unfold lstV eL
  by_cases r1 : 1 ≤ r
  case neg =>
    rw [if_neg (show ¬ (1 ≤ r ∧ r ≤ 2097152) by omega), if_neg (show ¬ (1 ≤ r ∧ r ≤ 2097152) by omega)]
    clear hn
    go_enter Try.func28, Try.ntmps28
    go_wp2
    go_ret2
    exact ⟨rfl, Below.refl _ _⟩
  by_cases r2 : r ≤ 2097152
  case neg =>
    rw [if_neg (show ¬ (1 ≤ r ∧ r ≤ 2097152) by omega), if_neg (show ¬ (1 ≤ r ∧ r ≤ 2097152) by omega)]
    clear hn
    go_enter Try.func28, Try.ntmps28
    go_wp2
    go_ret2
    exact ⟨rfl, Below.refl _ _⟩
  rw [if_pos (show 1 ≤ r ∧ r ≤ 2097152 from ⟨r1, r2⟩), if_pos (show 1 ≤ r ∧ r ≤ 2097152 from ⟨r1, r2⟩)]
  cases ht : okT l
  · rw [ht] at K1
    simp only [Bool.false_eq_true, if_false]
    clear hn ht
    go_enter Try.func28, Try.ntmps28
    go_wp2_with fail
    refine (K1.out _ hc).mono ?_
    rintro e w1 ⟨rfl, hb⟩
    go_wp2
    go_ret2
    exact ⟨rfl, hb⟩
  rw [ht] at K1
  simp only [if_true]
  obtain ⟨hl, hch⟩ := okT_iff.1 ht
  have HM := Lib.hid (chain_mono l 0 hch)
  have hn1 : (n : Int) ≤ 200 := by omega
  obtain ⟨X, hX⟩ : ∃ X, (if demand r l ≤ 1048576 then demand r l else 0) = X := ⟨_, rfl⟩
  obtain ⟨Y, hY⟩ : ∃ Y : Int, (if demand r l ≤ 1048576 then 0 else 6) = Y := ⟨_, rfl⟩
  rw [hX, hY]
  have HG : Hid (∀ d, demand r l = d → (if d ≤ 1048576 then d else 0) = X ∧ (if d ≤ 1048576 then 0 else 6) = Y) := Lib.hid fun d h => by rw [← h]; exact ⟨hX, hY⟩
  clear hX hY
  clear hn hl hch ht
  go_enter Try.func28, Try.ntmps28
  go_wp2_with fail
  refine (K1.out _ hc).mono ?_
  rintro e w1 ⟨rfl, hb⟩
  have hc : Hid (TrA w1 a l) := Lib.hid (hc.out.below hb (Nat.le_refl _))
  have H1 := hb
  clear hb
  go_wp2_with fail
  go_loopw [6, 7] (fun be i wr => ∃ (k : Nat) (best : Int), k ≤ n ∧ be = .int .i64 best ∧ i = .int .i64 k ∧ 1 ≤ best ∧ best ≤ 209715200 ∧ Below w1.heap.size w1 wr ∧ Hid (demand r l = demV r best (l.drop k))) (fun _ i _ => n - (intOf i).toNat)
  case atStart => exact ⟨0, 1, Nat.zero_le _, rfl, rfl, by omega, by omega, Below.refl _ _, Lib.hid (by rw [List.drop_zero]; rfl)⟩
  case round =>
    obtain ⟨k, best, hk, rfl, rfl, hb1, hb2, hB, hpos⟩ := hrel
    by_cases hlt : k < n
    · have HX : k < l.length := by rw [HN.out]; exact hlt
      obtain ⟨bb, o, rfl, hbw, c1, c2⟩ := hc.out.get hB HX
      have hlt' : (k : Int) < n := by omega
      have m1 := HM.out k HX
      have HS := Lib.hid (hpos.out.trans (dem_step r best HX))
      have HM2 : Hid (∀ j (hj : j < l.length), k ≤ j → (l[k]).1 ≤ (l[j]).1) := Lib.hid m1.2.2.2.2
      obtain ⟨m2, m3, _, _, _⟩ := m1
      generalize l[k] = x at *
      obtain ⟨p, s⟩ := x
      simp only at c1 c2 HS HM2 m2 m3
      clear c2 hpos
      go_wp2_with fail
      obtain ⟨wo, rfl⟩ : ∃ wo : World, wo = wr := ⟨_, rfl⟩
      have HS0 : Hid (demand r l = demV r (demG r p 0 best (l.drop k)) (l.drop (k + 1))) := HS
      clear HS
      go_loopw [6, 8, 9] (fun be su ji wi => ∃ (j : Nat) (sum bst : Int), k ≤ j ∧ j ≤ n ∧ be = .int .i64 bst ∧ su = .int .i64 sum ∧ ji = .int .i64 j ∧ 0 ≤ sum ∧ sum ≤ j * 1048576 ∧ 1 ≤ bst ∧ bst ≤ 209715200 ∧ Below wo.heap.size wo wi ∧ Hid (demG r p 0 best (l.drop k) = demG r p sum bst (l.drop j))) (fun _ _ ji _ => n - (intOf ji).toNat)
      case atStart => exact ⟨k, 0, best, Nat.le_refl _, hk, rfl, rfl, rfl, Int.le_refl _, by omega, hb1, hb2, Below.refl _ _, Lib.hid rfl⟩
      case round =>
        obtain ⟨j, sum, bst, hkj, hj, rfl, rfl, rfl, hs0, hs1, hb3, hb4, hBi, hw⟩ := hrel
        have hB2 := hB.trans (hBi.mono (by have := hB.size; simpa using this))
        by_cases hjt : j < n
        · have HXj : j < l.length := by rw [HN.out]; exact hjt
          obtain ⟨_, _, e0, _, d1, d2⟩ := hc.out.get hB2 HXj
          obtain ⟨rfl, rfl⟩ : bb = _ ∧ o = _ := by simpa using e0
          clear e0
          have hjt' : (j : Int) < n := by omega
          have hbn := cell_lt d1
          have e3 := (hBi.cell (p := ⟨bb, o + k * 2, none⟩) (cell_lt c1)).trans c1
          have m4 := HM.out j HXj
          have m5 := HM2.out j HXj hkj
          have HW := Lib.hid (hw.out.trans (demg_step r p sum bst HXj))
          obtain ⟨_, m6, m7, m8, _⟩ := m4
          generalize l[j] = y at *
          obtain ⟨q, u⟩ := y
          simp only at d1 d2 HW m5 m6 m7 m8
          obtain ⟨v1, v2⟩ := rate_bd r1 r2 (show 0 ≤ q - p by omega) (by omega)
          have i3 : IntKind.i64.wrap (q - p) = q - p := IntWalk.i64_in _ (by omega)
          have i4 : IntKind.i64.wrap (r * (q - p)) = r * (q - p) := IntWalk.i64_in _ (by omega)
          obtain ⟨D, hD, hD1, hD2⟩ : ∃ D, r * (q - p) / 1048576 = D ∧ 0 ≤ D ∧ D ≤ 2199023255552 := ⟨_, rfl, by omega, by omega⟩
          have i5 : (r * (q - p)).tdiv 1048576 = D := by rw [Int.tdiv_eq_ediv_of_nonneg v1]; exact hD
          have i6 : IntKind.i64.wrap (sum + u - D) = sum + u - D := IntWalk.i64_in _ (by omega)
          have i7 : IntKind.i64.wrap D = D := IntWalk.i64_in _ (by omega)
          obtain ⟨M, hM⟩ : ∃ M, max bst (sum + u - D) = M := ⟨_, rfl⟩
          have hM1 : 1 ≤ M ∧ M ≤ 209715200 := by omega
          have mx : ∀ W, (Builtin.max_ #[3, 3] 3 #[.int .i64 bst, .int .i64 (sum + u - D)]).run Try.prog W = .ok (.int .i64 M) W := fun W => max_two hM
          rw [hD, hM] at HW
          clear hw HX HXj HM2 hM
          go_wp2_with fail
          have F0 := Bw.cell hbn d1
          have F1 := Bw.cell hbn e3
          refine wp_region_bw (by kernel_rfl) (by kernel_rfl) ?_
          repeat (go_big_quiet_step (fail))
          refine wpQuiet_nil ?_
          rintro w3 ⟨⟨_, hb3'⟩, rfl⟩
          clear F0 F1 i3 i4 i5 i6 i7 mx
          go_wp2
          go_roundw
          case rel => exact ⟨j + 1, sum + u, M, by omega, by omega, rfl, rfl, by go_num, by omega, by omega, hM1.1, hM1.2, hBi.trans (hb3'.mono hBi.size), HW⟩
          case measure => (simp [intOf] <;> omega)
        · have HR := Lib.hid (HS0.out.trans (by rw [hw.out, List.drop_eq_nil_of_le (i := j) (by have := HN.out; omega), demG]))
          have hjt' : ¬ (j : Int) < n := by omega
          clear HS0 hw HX HM2
          go_wp2
          go_roundw
          case rel => exact ⟨k + 1, bst, by omega, rfl, by go_num, hb3, hb4, hB2, HR⟩
          case measure => (simp [intOf] <;> omega)
    · have HR := Lib.hid (HG.out best (by rw [hpos.out, List.drop_eq_nil_of_le (by have := HN.out; omega), demV]))
      have hlt' : ¬ (k : Int) < n := by omega
      have H2 := H1.trans (hB.mono H1.size)
      clear hpos HG
      by_cases hq : best ≤ 1048576
      · rw [if_pos hq, if_pos hq] at HR
        go_wp2
        go_ret2
        exact ⟨ret_int2 HR.out.1 HR.out.2, H2⟩
      · rw [if_neg hq, if_neg hq] at HR
        go_wp2
        go_ret2
        exact ⟨ret_int2 HR.out.1 HR.out.2, H2⟩
end Go.Proofs.Ytfbfnoiapeajeaa
