/- The package bucket: Least: what it computes. -/
import Derived.Test.YtfbfnoiapeajeaaBk10
import Derived.Test.YtfbfnoiapeajeaaBk5
namespace Go.Proofs.Ytfbfnoiapeajeaa
open Go.RowKit

set_option maxHeartbeats 1000000 in
theorem least1_any (m r : Int) (a : Option Addr) (n cap : Nat) (l : Tr) (b1 b2 : Nat) (w : World) (hn : l.length = n) (hm : n ≤ 1000) (hc : Hid (TrA w a l)) (h1 : w.cell? ⟨b1, 0, none⟩ = some (.int .i64 r)) (h2 : w.cell? ⟨b2, 0, none⟩ = some (.slice a n cap)) :
    Calls Try.prog 39 #[.int .i64 m, .pointer (some ⟨b1, 0, none⟩), .pointer (some ⟨b2, 0, none⟩)] w fun e w' => e = .returned (.bool (confV m r l)) ∧ Below w.heap.size w w' := by
  have K := Lib.hid (bconforms_any m r a n cap l w hn hm hc)
  clear hn hm hc
  generalize confV m r l = c at *
  generalize eBT m r l = e0 at *
  go_enter Try.func39, Try.ntmps39
  go_wp2_with fail
  refine K.out.mono ?_
  rintro e w1 ⟨rfl, hb⟩
  go_wp2
  go_ret
  exact ⟨rfl, hb⟩
theorem conf_demand {m r : Int} {l : Tr} (m1 : 1 ≤ m) (m2 : m ≤ 1048576) (r1 : 1 ≤ r) (r2 : r ≤ 2097152) (ht : okT l = true) : confV m r l = decide (demand r l ≤ m) := by
  unfold confV okBT
  rw [okB_iff.2 ⟨⟨m1, m2⟩, r1, r2⟩, ht, Bool.true_and, Bool.true_and]
  have := demand_le (r := r) m1 l
  cases h : fitsB m r l
  · rw [h] at this; simp at this; simp; omega
  · rw [h] at this; simp at this; simp [this]
set_option maxRecDepth 100000 in
set_option maxHeartbeats 2000000 in
theorem bleast_any (r : Int) (a : Option Addr) (n cap : Nat) (l : Tr) (w : World) (hn : l.length = n) (hm : n ≤ 1000) (hc : Hid (TrA w a l)) :
    Calls Try.prog 27 #[.int .i64 r, .slice a n cap] w fun e w' => e = .returned (.tuple #[.int .i64 (lstV r l), .int .i64 (eL r l)]) ∧ Below w.heap.size w w' := by
  have K1 := Lib.hid fun w hc => btrace_any a n cap l w hn hm hc
  have hA : Below w.heap.size w ((w.alloc (.cells #[.int .i64 r] 3)).alloc (.cells #[.slice a n cap] 42)) := ((Below.refl _ _).alloc (Nat.le_refl _) _).alloc (by simp) _
  have hc1 : Hid (TrA ((w.alloc (.cells #[.int .i64 r] 3)).alloc (.cells #[.slice a n cap] 42)) a l) := Lib.hid (hc.out.below hA (Nat.le_refl _))
  unfold lstV eL
  by_cases hr : 1 ≤ r ∧ r ≤ 2097152
  case neg =>
    rw [if_neg hr, if_neg hr]
    have K2 := Lib.hid fun w => between_no r 1 2097152 w (by omega)
    clear hn hr
    go_enter Try.func27, Try.ntmps27
    go_wp2_with fail
    refine (K2.out _).mono ?_
    rintro e w2 ⟨rfl, rfl⟩
    go_wp2
    go_ret2
    exact ⟨rfl, hA⟩
  rw [if_pos hr, if_pos hr]
  have K2 := Lib.hid fun w => between_yes r 1 2097152 w hr.1 hr.2
  unfold eT at K1
  cases ht : okT l
  · rw [ht] at K1
    simp only [Bool.false_eq_true, if_false] at K1 ⊢
    clear hn hr ht
    go_enter Try.func27, Try.ntmps27
    go_wp2_with fail
    refine (K2.out _).mono ?_
    rintro e w2 ⟨rfl, rfl⟩
    go_wp2_with fail
    refine (K1.out _ hc1).mono ?_
    rintro e w1 ⟨rfl, hb⟩
    have HB := hA.trans (hb.mono (by simp; omega))
    clear hb
    go_wp2
    go_ret2
    exact ⟨rfl, HB⟩
  rw [ht] at K1
  simp only [if_true] at K1 ⊢
  have K3 := Lib.hid fun m (m1 : 1 ≤ m) (m2 : m ≤ 1048576) w b1 b2 hc h1 h2 => least1_any m r a n cap l b1 b2 w hn hm hc h1 h2
  have K4 : Hid (∀ m (m1 : 1 ≤ m) (m2 : m ≤ 1048576) w b1 b2, Hid (TrA w a l) → w.cell? ⟨b1, 0, none⟩ = some (.int .i64 r) → w.cell? ⟨b2, 0, none⟩ = some (.slice a n cap) → Calls Try.prog 39 #[.int .i64 m, .pointer (some ⟨b1, 0, none⟩), .pointer (some ⟨b2, 0, none⟩)] w fun e w' => e = .returned (.bool (decide (demand r l ≤ m))) ∧ Below w.heap.size w w') := Lib.hid fun m m1 m2 w b1 b2 hc h1 h2 => by
    rw [← conf_demand m1 m2 hr.1 hr.2 ht]
    exact K3.out m m1 m2 w b1 b2 hc h1 h2
  have hD := demand_ge r l
  generalize demand r l = D at *
  obtain ⟨X, hX⟩ : ∃ X, (if D ≤ 1048576 then D else 0) = X := ⟨_, rfl⟩
  obtain ⟨Y, hY⟩ : ∃ Y : Int, (if D ≤ 1048576 then 0 else 6) = Y := ⟨_, rfl⟩
  rw [hX, hY]
  have HX := Lib.hid (And.intro hX hY)
  clear hn hr ht K3 hX hY
  go_enter Try.func27, Try.ntmps27
  go_wp2_with fail
  refine (K2.out _).mono ?_
  rintro e w2 ⟨rfl, rfl⟩
  go_wp2_with fail
  refine (K1.out _ hc1).mono ?_
  rintro e w1 ⟨rfl, hb⟩
  have H1 := hA.trans (hb.mono (by simp; omega))
  have hz : w.heap.size + 1 < w1.heap.size := by have := hb.size; simp at this; omega
  have x1 : w1.cell? ⟨w.heap.size, 0, none⟩ = some (.int .i64 r) := (hb.cell (p := ⟨w.heap.size, 0, none⟩) (by simp; omega)).trans (by go_simp)
  have x2 : w1.cell? ⟨w.heap.size + 1, 0, none⟩ = some (.slice a n cap) := (hb.cell (p := ⟨w.heap.size + 1, 0, none⟩) (by simp)).trans (by go_simp)
  clear hb
  go_wp2_with fail
  refine (K4.out 1048576 (by omega) (by omega) _ _ _ (Lib.hid (hc.out.below H1 (Nat.le_refl _))) x1 x2).mono ?_
  rintro e w3 ⟨rfl, hb3⟩
  have H3 := H1.trans (hb3.mono H1.size)
  have y1 := (hb3.cell (p := ⟨w.heap.size, 0, none⟩) (by simp; omega)).trans x1
  have y2 := (hb3.cell (p := ⟨w.heap.size + 1, 0, none⟩) hz).trans x2
  have hz3 := Nat.lt_of_lt_of_le hz hb3.size
  clear hb3 x1 x2 H1 hz
  by_cases hq : D ≤ 1048576
  case neg =>
    have HR := Lib.hid (show (0 : Int) = X ∧ (6 : Int) = Y by have := HX.out; rw [if_neg hq, if_neg hq] at this; exact this)
    have hq' : decide (D ≤ 1048576) = false := decide_eq_false hq
    clear HX
    go_wp2
    go_ret2
    exact ⟨ret_int2 HR.out.1 HR.out.2, H3⟩
  have HR := Lib.hid (show D = X ∧ (0 : Int) = Y by have := HX.out; rw [if_pos hq, if_pos hq] at this; exact this)
  have hq' : decide (D ≤ 1048576) = true := decide_eq_true hq
  clear HX
  go_wp2_with fail
  clear hq'
  go_loopw [8, 9] (fun lo hi wr => ∃ (p q : Int), lo = .int .i64 p ∧ hi = .int .i64 q ∧ 0 ≤ p ∧ p < D ∧ D ≤ q ∧ q ≤ 1048576 ∧ Below w3.heap.size w3 wr) (fun lo hi _ => (intOf hi - intOf lo).toNat)
  case atStart => exact ⟨0, 1048576, rfl, rfl, by omega, by omega, by omega, by omega, Below.refl _ _⟩
  case round =>
    obtain ⟨p, q, rfl, rfl, p1, p2, q1, q2, hB⟩ := hrel
    have H4 := H3.trans (hB.mono H3.size)
    by_cases hpq : 1 < q - p
    · have z1 := (hB.cell (p := ⟨w.heap.size, 0, none⟩) (by simp; omega)).trans y1
      have z2 := (hB.cell (p := ⟨w.heap.size + 1, 0, none⟩) hz3).trans y2
      have K := Lib.hid (K4.out ((p + q) / 2) (by omega) (by omega) _ _ _ (Lib.hid (hc.out.below H4 (Nat.le_refl _))) z1 z2)
      by_cases hd : D ≤ (p + q) / 2
      · have hd' : decide (D ≤ (p + q) / 2) = true := decide_eq_true hd
        go_wp2_with fail
        refine K.out.mono ?_
        rintro e w5 ⟨rfl, hb5⟩
        go_wp2
        go_roundw
        case rel => exact ⟨p, (p + q) / 2, rfl, rfl, p1, p2, hd, by omega, hB.trans (hb5.mono hB.size)⟩
        case measure => simp [intOf]; omega
      · have hd' : decide (D ≤ (p + q) / 2) = false := decide_eq_false hd
        go_wp2_with fail
        refine K.out.mono ?_
        rintro e w5 ⟨rfl, hb5⟩
        go_wp2
        go_roundw
        case rel => exact ⟨(p + q) / 2, q, rfl, rfl, by omega, by omega, q1, q2, hB.trans (hb5.mono hB.size)⟩
        case measure => simp [intOf]; omega
    · have hqD : q = D := by omega
      have HR2 := Lib.hid (show q = X by rw [hqD]; exact HR.out.1)
      clear hqD
      go_wp2
      go_ret2
      exact ⟨ret_int2 HR2.out HR.out.2, H4⟩
end Go.Proofs.Ytfbfnoiapeajeaa
