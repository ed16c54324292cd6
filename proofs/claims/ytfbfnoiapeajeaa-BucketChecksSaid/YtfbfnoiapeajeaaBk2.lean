/- The package bucket and its reference: what the checks of traces compute. -/
import Derived.Test.YtfbfnoiapeajeaaBk1
namespace Go.Proofs.Ytfbfnoiapeajeaa
open Go.RowKit

theorem chain_step {l : Tr} {k : Nat} {t : Int} (hk : k < l.length) (h : chainB 0 l = chainB t (l.drop k)) :
    ((t ≤ (l[k]).1 ∧ (l[k]).1 ≤ 1099511627776) ∧ 1 ≤ (l[k]).2 ∧ (l[k]).2 ≤ 1048576 → chainB 0 l = chainB (l[k]).1 (l.drop (k + 1))) ∧
    (¬ ((t ≤ (l[k]).1 ∧ (l[k]).1 ≤ 1099511627776) ∧ 1 ≤ (l[k]).2 ∧ (l[k]).2 ≤ 1048576) → chainB 0 l = false) := by
  rw [List.drop_eq_getElem_cons hk] at h
  generalize l[k] = x at *
  obtain ⟨a, s⟩ := x
  simp only at *
  constructor
  · intro g
    rw [h, chainB]
    simp [g]
  · intro g
    rw [h]
    cases e : chainB t ((a, s) :: l.drop (k + 1))
    · rfl
    · exact absurd (chainB_cons.1 e).1 g
theorem okT_long {l : Tr} (h : 200 < l.length) : okT l = false := by
  unfold okT
  have : ¬ l.length ≤ 200 := by omega
  simp [this]
theorem okT_short {l : Tr} (h : l.length ≤ 200) : okT l = chainB 0 l := by
  unfold okT
  simp [h]
set_option maxRecDepth 100000 in
set_option maxHeartbeats 2000000 in
theorem btrace_any (a : Option Addr) (n cap : Nat) (l : Tr) (w : World) (hn : l.length = n) (hm : n ≤ 1000) (hc : Hid (TrA w a l)) :
    Calls Try.prog 18 #[.slice a n cap] w fun e w' => e = .returned (.int .i64 (eT l)) ∧ Below w.heap.size w w' := by
  by_cases hlong : 200 < n
  · have HE : Hid (eT l = 131) := Lib.hid (by unfold eT; rw [okT_long (by omega)]; rfl)
    clear hn hc
    go_enter Try.func18, Try.ntmps18
    go_wp2
    go_ret
    exact ⟨ret_int HE.out.symm, Below.refl _ _⟩
  have HE : Hid (∀ b, chainB 0 l = b → eT l = if b then 0 else 131) := Lib.hid fun b h => by unfold eT; rw [okT_short (by omega), h]
  have HN := Lib.hid hn
  have hn1 : (n : Int) ≤ 200 := by omega
  clear hn hlong
  go_enter Try.func18, Try.ntmps18
  go_wp2_with fail
  go_loopw [3, 11] (fun t i wr => ∃ (k : Nat) (last : Int), k ≤ n ∧ i = .int .i64 k ∧ t = .int .i64 last ∧ Below w.heap.size w wr ∧ Hid (chainB 0 l = chainB last (l.drop k))) (fun _ i _ => n - (intOf i).toNat)
  case atStart => exact ⟨0, 0, Nat.zero_le _, rfl, rfl, Below.refl _ _, Lib.hid (by rw [List.drop_zero])⟩
  case round =>
    obtain ⟨k, last, hk, rfl, rfl, hB, hpos⟩ := hrel
    by_cases hlt : k < n
    · have HX : k < l.length := by rw [HN.out]; exact hlt
      obtain ⟨b, o, rfl, hbw, c1, c2⟩ := hc.out.get hB HX
      have HS := Lib.hid (chain_step HX hpos.out)
      have hlt' : (k : Int) < n := by omega
      clear hpos
      generalize l[k] = x at *
      obtain ⟨p, s⟩ := x
      simp only at c1 c2 HS
      by_cases d1 : last ≤ p ∧ p ≤ 1099511627776
      · have K1 := Lib.hid fun w => between_yes p last 1099511627776 w d1.1 d1.2
        by_cases d2 : 1 ≤ s ∧ s ≤ 1048576
        · have K2 := Lib.hid fun w => between_yes s 1 1048576 w d2.1 d2.2
          have HP := Lib.hid (HS.out.1 ⟨d1, d2⟩)
          clear HS HX d1 d2
          go_wp2_with fail
          refine (K1.out _).mono ?_
          rintro e w1 ⟨rfl, rfl⟩
          go_wp2_with fail
          refine (K2.out _).mono ?_
          rintro e w1 ⟨rfl, rfl⟩
          go_wp2
          go_roundw
          case rel => exact ⟨k + 1, p, by omega, by go_num, rfl, hB.alloc hB.size _, HP⟩
          case measure => simp [intOf]; omega
        · have K2 := Lib.hid fun w => between_no s 1 1048576 w (by omega)
          have HR := Lib.hid (HE.out _ (HS.out.2 fun h => d2 h.2))
          clear HS HX d1 d2
          go_wp2_with fail
          refine (K1.out _).mono ?_
          rintro e w1 ⟨rfl, rfl⟩
          go_wp2_with fail
          refine (K2.out _).mono ?_
          rintro e w1 ⟨rfl, rfl⟩
          go_wp2
          go_ret
          exact ⟨ret_int HR.out.symm, hB.alloc hB.size _⟩
      · have K1 := Lib.hid fun w => between_no p last 1099511627776 w (by omega)
        have HR := Lib.hid (HE.out _ (HS.out.2 fun h => d1 h.1))
        clear HS HX d1
        go_wp2_with fail
        refine (K1.out _).mono ?_
        rintro e w1 ⟨rfl, rfl⟩
        go_wp2
        go_ret
        exact ⟨ret_int HR.out.symm, hB.alloc hB.size _⟩
    · have HR : Hid (eT l = 0) := Lib.hid (HE.out true (by rw [hpos.out, List.drop_eq_nil_of_le (by have := HN.out; omega)]; rfl))
      have hlt' : ¬ (k : Int) < n := by omega
      clear hpos
      go_wp2
      go_ret
      exact ⟨ret_int HR.out.symm, hB⟩
set_option maxRecDepth 100000 in
set_option maxHeartbeats 2000000 in
theorem rtrace_any (a : Option Addr) (n cap : Nat) (l : Tr) (w : World) (hn : l.length = n) (hm : n ≤ 1000) (hc : Hid (TrA w a l)) :
    Calls Try.prog 35 #[.slice a n cap] w fun e w' => e = .returned (.bool (okT l)) ∧ Below w.heap.size w w' := by
  by_cases hlong : 200 < n
  · have HE : Hid (okT l = false) := Lib.hid (okT_long (by omega))
    clear hn hc
    go_enter Try.func35, Try.ntmps35
    go_wp2
    go_ret
    exact ⟨ret_bool HE.out.symm, Below.refl _ _⟩
  have HE : Hid (okT l = chainB 0 l) := Lib.hid (okT_short (by omega))
  have HN := Lib.hid hn
  have hn1 : (n : Int) ≤ 200 := by omega
  clear hn hlong
  go_enter Try.func35, Try.ntmps35
  go_wp2_with fail
  go_loopw [3, 4] (fun t i wr => ∃ (k : Nat) (last : Int), k ≤ n ∧ i = .int .i64 k ∧ t = .int .i64 last ∧ Below w.heap.size w wr ∧ Hid (chainB 0 l = chainB last (l.drop k))) (fun _ i _ => n - (intOf i).toNat)
  case atStart => exact ⟨0, 0, Nat.zero_le _, rfl, rfl, Below.refl _ _, Lib.hid (by rw [List.drop_zero])⟩
  case round =>
    obtain ⟨k, last, hk, rfl, rfl, hB, hpos⟩ := hrel
    by_cases hlt : k < n
    · have HX : k < l.length := by rw [HN.out]; exact hlt
      obtain ⟨b, o, rfl, hbw, c1, c2⟩ := hc.out.get hB HX
      have HS := Lib.hid (chain_step HX hpos.out)
      have hlt' : (k : Int) < n := by omega
      clear hpos
      generalize l[k] = x at *
      obtain ⟨p, s⟩ := x
      simp only at c1 c2 HS
      by_cases d1 : last ≤ p
      · by_cases d2 : p ≤ 1099511627776
        · by_cases d3 : 1 ≤ s
          · by_cases d4 : s ≤ 1048576
            · have HP := Lib.hid (HS.out.1 ⟨⟨d1, d2⟩, d3, d4⟩)
              clear HS HX
              go_wp2
              go_roundw
              case rel => exact ⟨k + 1, p, by omega, by go_num, rfl, hB, HP⟩
              case measure => simp [intOf]; omega
            · have HR := Lib.hid (HE.out.trans (HS.out.2 fun h => d4 h.2.2))
              clear HS HX
              go_wp2
              go_ret
              exact ⟨ret_bool HR.out.symm, hB⟩
          · have HR := Lib.hid (HE.out.trans (HS.out.2 fun h => d3 h.2.1))
            clear HS HX
            go_wp2
            go_ret
            exact ⟨ret_bool HR.out.symm, hB⟩
        · have HR := Lib.hid (HE.out.trans (HS.out.2 fun h => d2 h.1.2))
          clear HS HX
          go_wp2
          go_ret
          exact ⟨ret_bool HR.out.symm, hB⟩
      · have HR := Lib.hid (HE.out.trans (HS.out.2 fun h => d1 h.1.1))
        clear HS HX
        go_wp2
        go_ret
        exact ⟨ret_bool HR.out.symm, hB⟩
    · have HR : Hid (okT l = true) := Lib.hid (by rw [HE.out, hpos.out, List.drop_eq_nil_of_le (by have := HN.out; omega)]; rfl)
      have hlt' : ¬ (k : Int) < n := by omega
      clear hpos
      go_wp2
      go_ret
      exact ⟨ret_bool HR.out.symm, hB⟩
set_option maxHeartbeats 1000000 in
theorem rctrace_any (a : Option Addr) (n cap : Nat) (l : Tr) (w : World) (hn : l.length = n) (hm : n ≤ 1000) (hc : Hid (TrA w a l)) :
    Calls Try.prog 20 #[.slice a n cap] w fun e w' => e = .returned (.int .i64 (eT l)) ∧ Below w.heap.size w w' := by
  have K := Lib.hid (rtrace_any a n cap l w hn hm hc)
  clear hn hm hc
  unfold eT
  cases h : okT l
  all_goals
    rw [h] at K
    clear h
    go_enter Try.func20, Try.ntmps20
    go_wp2_with fail
    refine K.out.mono ?_
    rintro e w1 ⟨rfl, hb⟩
    go_wp2
    go_ret
    exact ⟨rfl, hb⟩
def eBT (b r : Int) (l : Tr) : Int := if okB b r then eT l else 130
set_option maxHeartbeats 1000000 in
theorem both_any (b r : Int) (a : Option Addr) (n cap : Nat) (l : Tr) (w : World) (hn : l.length = n) (hm : n ≤ 1000) (hc : Hid (TrA w a l)) :
    Calls Try.prog 37 #[.agg #[.int .i64 b, .int .i64 r], .slice a n cap] w fun e w' => e = .returned (.int .i64 (eBT b r l)) ∧ Below w.heap.size w w' := by
  have K := Lib.hid fun w => rright_any b r w
  have K2 := Lib.hid fun w hc => rctrace_any a n cap l w hn hm hc
  clear hn hm
  unfold eBT
  cases h : okB b r
  · rw [h] at K
    clear h
    go_enter Try.func37, Try.ntmps37
    go_wp2_with fail
    refine (K.out _).mono ?_
    rintro e w1 ⟨rfl, hb⟩
    have HB := ((Below.refl _ w).alloc (Nat.le_refl _) _).trans (hb.mono (by simp))
    go_wp2
    go_ret
    exact ⟨rfl, HB⟩
  · rw [h] at K
    clear h
    go_enter Try.func37, Try.ntmps37
    go_wp2_with fail
    refine (K.out _).mono ?_
    rintro e w1 ⟨rfl, hb⟩
    have HB := ((Below.refl _ w).alloc (Nat.le_refl _) _).trans (hb.mono (by simp))
    go_wp2_with fail
    refine (K2.out _ (Lib.hid (hc.out.below HB (Nat.le_refl _)))).mono ?_
    rintro e w2 ⟨rfl, hb2⟩
    go_wp2
    go_ret
    exact ⟨rfl, HB.trans (hb2.mono HB.size)⟩
end Go.Proofs.Ytfbfnoiapeajeaa
