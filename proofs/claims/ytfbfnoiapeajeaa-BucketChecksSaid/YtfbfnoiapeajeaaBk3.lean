/- The reference of bucket: Fits: what it computes. -/
import Derived.Test.YtfbfnoiapeajeaaBk2
namespace Go.Proofs.Ytfbfnoiapeajeaa
open Go.RowKit

theorem fits_step (b r : Int) {l : Tr} {k : Nat} (hk : k < l.length) : fitsB b r (l.drop k) = (winB b r (l[k]).1 0 (l.drop k) && fitsB b r (l.drop (k + 1))) := by
  rw [List.drop_eq_getElem_cons hk]
  generalize l[k] = x
  obtain ⟨a, s⟩ := x
  rw [fitsB]
theorem win_step (b r a0 sum : Int) {l : Tr} {k : Nat} (hk : k < l.length) : winB b r a0 sum (l.drop k) = (!decide (r * ((l[k]).1 - a0) < (sum + (l[k]).2 - b) * 1048576) && winB b r a0 (sum + (l[k]).2) (l.drop (k + 1))) := by
  rw [List.drop_eq_getElem_cons hk]
  generalize l[k] = x
  obtain ⟨a, s⟩ := x
  rw [winB]
theorem rate_bd {r d : Int} (h1 : 1 ≤ r) (h2 : r ≤ 2097152) (h3 : 0 ≤ d) (h4 : d ≤ 1099511627776) : 0 ≤ r * d ∧ r * d ≤ 2305843009213693952 :=
  ⟨Int.mul_nonneg (by omega) h3, Int.le_trans (Int.mul_le_mul h2 h4 h3 (by omega)) (by omega)⟩
set_option maxRecDepth 100000 in
set_option maxHeartbeats 4000000 in
theorem fits_any (b r : Int) (a : Option Addr) (n cap : Nat) (l : Tr) (w : World) (hn : l.length = n) (hb : okB b r = true) (ht : okT l = true) (hc : Hid (TrA w a l)) :
    Calls Try.prog 36 #[.agg #[.int .i64 b, .int .i64 r], .slice a n cap] w fun e w' => e = .returned (.bool (fitsB b r l)) ∧ Below w.heap.size w w' := by
  rw [okB_iff] at hb
  rw [okT_iff] at ht
  obtain ⟨⟨b1, b2⟩, r1, r2⟩ := hb
  obtain ⟨hl, hch⟩ := ht
  have HM := Lib.hid (chain_mono l 0 hch)
  have hn1 : (n : Int) ≤ 200 := by omega
  have HN := Lib.hid hn
  have hc : Hid (TrA (w.alloc (.cells #[.int .i64 b, .int .i64 r] 23)) a l) := Lib.hid (hc.out.below ((Below.refl _ _).alloc (Nat.le_refl _) _) (Nat.le_refl _))
  clear hn hl hch
  go_enter Try.func36, Try.ntmps36
  go_wp2_with fail
  go_loopw [5] (fun i wr => ∃ k : Nat, k ≤ n ∧ i = .int .i64 k ∧ Below (w.heap.size + 1) (w.alloc (.cells #[.int .i64 b, .int .i64 r] 23)) wr ∧ Hid (fitsB b r l = fitsB b r (l.drop k))) (fun i _ => n - (intOf i).toNat)
  case atStart => exact ⟨0, Nat.zero_le _, rfl, Below.refl _ _, Lib.hid (by rw [List.drop_zero])⟩
  case round =>
    obtain ⟨k, hk, rfl, hB, hpos⟩ := hrel
    by_cases hlt : k < n
    · have HX : k < l.length := by rw [HN.out]; exact hlt
      obtain ⟨bb, o, rfl, hbw, c1, c2⟩ := hc.out.get (by simpa using hB) HX
      have hlt' : (k : Int) < n := by omega
      have m1 := HM.out k HX
      have HS := Lib.hid (fits_step b r HX)
      have HM2 : Hid (∀ j (hj : j < l.length), k ≤ j → (l[k]).1 ≤ (l[j]).1) := Lib.hid m1.2.2.2.2
      obtain ⟨m2, m3, _, _, _⟩ := m1
      have HK : Hid (l[k] = ((l[k]).1, (l[k]).2)) := Lib.hid rfl
      generalize l[k] = x at *
      obtain ⟨p, s⟩ := x
      simp only at c1 c2 HS HM2 m2 m3
      clear c2 HK
      go_wp2_with fail
      obtain ⟨wo, rfl⟩ : ∃ wo : World, wo = wr := ⟨_, rfl⟩
      go_loopw [6, 7] (fun su ji wi => ∃ (j : Nat) (sum : Int), k ≤ j ∧ j ≤ n ∧ su = .int .i64 sum ∧ ji = .int .i64 j ∧ 0 ≤ sum ∧ sum ≤ j * 1048576 ∧ Below wo.heap.size wo wi ∧ Hid (winB b r p 0 (l.drop k) = winB b r p sum (l.drop j))) (fun _ ji _ => n - (intOf ji).toNat)
      case atStart => exact ⟨k, 0, Nat.le_refl _, hk, rfl, rfl, Int.le_refl _, by omega, Below.refl _ _, Lib.hid rfl⟩
      case round =>
        obtain ⟨j, sum, hkj, hj, rfl, rfl, hs0, hs1, hBi, hw⟩ := hrel
        have hB2 := hB.trans (hBi.mono (by have := hB.size; simpa using this))
        by_cases hjt : j < n
        · have HXj : j < l.length := by rw [HN.out]; exact hjt
          obtain ⟨_, _, e0, _, d1, d2⟩ := hc.out.get (by simpa using hB2) HXj
          obtain ⟨rfl, rfl⟩ : bb = _ ∧ o = _ := by simpa using e0
          clear e0
          have hjt' : (j : Int) < n := by omega
          have hbn := cell_lt d1
          have e1 := (hB2.cell (p := ⟨w.heap.size, 0, none⟩) (by simp)).trans (show _ = some (.int .i64 b) by go_simp)
          have e2 := (hB2.cell (p := ⟨w.heap.size, 1, none⟩) (by simp)).trans (show _ = some (.int .i64 r) by go_simp)
          have e3 := (hBi.cell (p := ⟨bb, o + k * 2, none⟩) (cell_lt c1)).trans c1
          have m4 := HM.out j HXj
          have m5 := HM2.out j HXj hkj
          have HW := Lib.hid (win_step b r p sum HXj)
          obtain ⟨_, m6, m7, m8, _⟩ := m4
          generalize l[j] = y at *
          obtain ⟨q, u⟩ := y
          simp only at d1 d2 HW m5 m6 m7 m8
          obtain ⟨v1, v2⟩ := rate_bd r1 r2 (show 0 ≤ q - p by omega) (by omega)
          have i1 : IntKind.i64.wrap (sum + u - b) = sum + u - b := IntWalk.i64_in _ (by omega)
          have i2 : IntKind.i64.wrap ((sum + u - b) * 1048576) = (sum + u - b) * 1048576 := IntWalk.i64_in _ (by omega)
          have i3 : IntKind.i64.wrap (q - p) = q - p := IntWalk.i64_in _ (by omega)
          have i4 : IntKind.i64.wrap (r * (q - p)) = r * (q - p) := IntWalk.i64_in _ (by omega)
          by_cases hd : r * (q - p) < (sum + u - b) * 1048576
          · have HR : Hid (fitsB b r l = false) := Lib.hid (by rw [hpos.out, HS.out, hw.out, HW.out]; simp [hd])
            clear HS HW hw hpos HX HXj HM2
            go_wp2_with fail
            go_quiet (fail)
            go_wp2
            go_ret
            exact ⟨ret_bool HR.out.symm, ((Below.refl _ _).alloc (Nat.le_refl _) _).trans ((hB2.trans (below_drewN _ _ _)).mono (by omega))⟩
          · have HR := Lib.hid (hw.out.trans (HW.out.trans (by rw [decide_eq_false hd, Bool.not_false, Bool.true_and])))
            clear HS HW hw hpos HX HXj HM2
            go_wp2_with fail
            go_quiet (fail)
            go_wp2
            go_roundw
            case rel => exact ⟨j + 1, sum + u, by omega, by omega, rfl, by go_num, by omega, by omega, hBi.trans (below_drewN _ _ _), HR⟩
            case measure => (simp [intOf] <;> omega)
        · have HR := Lib.hid (hpos.out.trans (HS.out.trans (by rw [hw.out, List.drop_eq_nil_of_le (i := j) (by have := HN.out; omega), winB, Bool.true_and])))
          have hjt' : ¬ (j : Int) < n := by omega
          clear HS hw hpos HX HM2
          go_wp2
          go_roundw
          case rel => exact ⟨k + 1, by omega, by go_num, hB2, HR⟩
          case measure => (simp [intOf] <;> omega)
    · have HR : Hid (fitsB b r l = true) := Lib.hid (by rw [hpos.out, List.drop_eq_nil_of_le (by have := HN.out; omega)]; rfl)
      have hlt' : ¬ (k : Int) < n := by omega
      clear hpos
      go_wp2
      go_ret
      exact ⟨ret_bool HR.out.symm, ((Below.refl _ _).alloc (Nat.le_refl _) _).trans (hB.mono (by omega))⟩
end Go.Proofs.Ytfbfnoiapeajeaa
