/- The package bucket and its reference: First, Conforms, Within: what they compute. -/
import Derived.Test.YtfbfnoiapeajeaaBk7
import Derived.Test.YtfbfnoiapeajeaaNum
namespace Go.Proofs.Ytfbfnoiapeajeaa
open Go.RowKit

set_option maxRecDepth 100000 in
set_option maxHeartbeats 2000000 in
theorem bfirst_any (b r : Int) (a : Option Addr) (n cap : Nat) (l : Tr) (w : World) (hn : l.length = n) (hm : n ≤ 1000) (hc : Hid (TrA w a l)) :
    Calls Try.prog 25 #[.agg #[.int .i64 b, .int .i64 r], .slice a n cap] w fun e w' => e = .returned (.tuple #[.int .i64 (fstV b r l), .int .i64 (eBT b r l)]) ∧ Below w.heap.size w w' := by
  unfold fstV okBT eBT
  cases hb : okB b r
  · have K1 := Lib.hid fun w => bcheck_any b r w
    have e1 : eB b r = 130 := by unfold eB; rw [hb]; rfl
    rw [e1] at K1
    simp only [Bool.false_and, Bool.false_eq_true, if_false]
    clear hn hb e1
    go_enter Try.func25, Try.ntmps25
    go_wp2_with fail
    refine (K1.out _).mono ?_
    rintro e w1 ⟨rfl, hb1⟩
    have H1 : Below w.heap.size w w1 := ((((Below.refl _ _).alloc (Nat.le_refl _) _).alloc (by simp) _).alloc (by simp; omega) _).trans (hb1.mono (by simp; omega))
    have x3 : w1.cell? ⟨w.heap.size + 1, 0, none⟩ = some (.int .i64 0) := (hb1.cell (p := ⟨w.heap.size + 1, 0, none⟩) (by simp)).trans (by go_simp)
    have x4 : w1.cell? ⟨w.heap.size + 1 + 1, 0, none⟩ = some (.int .i64 0) := (hb1.cell (p := ⟨w.heap.size + 1 + 1, 0, none⟩) (by simp)).trans (by go_simp)
    have x5 : w1.frozen? ⟨w.heap.size + 1, 0, none⟩ = false := (hb1.frozen (p := ⟨w.heap.size + 1, 0, none⟩) (by simp)).trans (by go_simp)
    have x6 : w1.frozen? ⟨w.heap.size + 1 + 1, 0, none⟩ = false := (hb1.frozen (p := ⟨w.heap.size + 1 + 1, 0, none⟩) (by simp)).trans (by go_simp)
    clear hb1
    go_wp2
    refine bodyPost_ret (v := .tuple #[.int .i64 0, .int .i64 130]) (by simp [results, Try.results25, go_sem] <;> go_simp) rfl ⟨rfl, ?_⟩
    exact (H1.setCell (by simp) _).setCell (by simp; omega) _
  · cases ht : okT l
    · have K1 := Lib.hid fun w => bcheck_any b r w
      have K2 := Lib.hid fun w hc => btrace_any a n cap l w hn hm hc
      have e1 : eB b r = 0 := by unfold eB; rw [hb]; rfl
      have e2 : eT l = 131 := by unfold eT; rw [ht]; rfl
      rw [e1] at K1
      rw [e2] at K2
      simp only [Bool.true_and, Bool.false_eq_true, if_false, if_true]
      rw [e2]
      clear hn hb ht e1 e2
      go_enter Try.func25, Try.ntmps25
      go_wp2_with fail
      refine (K1.out _).mono ?_
      rintro e w1 ⟨rfl, hb1⟩
      have H1 : Below w.heap.size w w1 := ((((Below.refl _ _).alloc (Nat.le_refl _) _).alloc (by simp) _).alloc (by simp; omega) _).trans (hb1.mono (by simp; omega))
      have hz1 : w.heap.size + 1 + 1 < w1.heap.size := by have := hb1.size; simp at this; omega
      have x3 : w1.cell? ⟨w.heap.size + 1, 0, none⟩ = some (.int .i64 0) := (hb1.cell (p := ⟨w.heap.size + 1, 0, none⟩) (by simp)).trans (by go_simp)
      have x4 : w1.cell? ⟨w.heap.size + 1 + 1, 0, none⟩ = some (.int .i64 0) := (hb1.cell (p := ⟨w.heap.size + 1 + 1, 0, none⟩) (by simp)).trans (by go_simp)
      have x5 : w1.frozen? ⟨w.heap.size + 1, 0, none⟩ = false := (hb1.frozen (p := ⟨w.heap.size + 1, 0, none⟩) (by simp)).trans (by go_simp)
      have x6 : w1.frozen? ⟨w.heap.size + 1 + 1, 0, none⟩ = false := (hb1.frozen (p := ⟨w.heap.size + 1 + 1, 0, none⟩) (by simp)).trans (by go_simp)
      clear hb1
      go_wp2_with fail
      refine (K2.out _ (Lib.hid (hc.out.below H1 (Nat.le_refl _)))).mono ?_
      rintro e w2 ⟨rfl, hb2⟩
      have H2 := H1.trans (hb2.mono H1.size)
      have y3 := (hb2.cell (p := ⟨w.heap.size + 1, 0, none⟩) (by simp; omega)).trans x3
      have y4 := (hb2.cell (p := ⟨w.heap.size + 1 + 1, 0, none⟩) hz1).trans x4
      have y5 := (hb2.frozen (p := ⟨w.heap.size + 1, 0, none⟩) (by simp; omega)).trans x5
      have y6 := (hb2.frozen (p := ⟨w.heap.size + 1 + 1, 0, none⟩) hz1).trans x6
      clear hb2 x3 x4 x5 x6 H1 hz1
      go_wp2
      refine bodyPost_ret (v := .tuple #[.int .i64 0, .int .i64 131]) (by simp [results, Try.results25, go_sem] <;> go_simp) rfl ⟨rfl, ?_⟩
      exact (H2.setCell (by simp) _).setCell (by simp; omega) _
    · have e2 : eT l = 0 := by unfold eT; rw [ht]; rfl
      simp only [Bool.true_and, if_true]
      rw [e2]
      exact bfirst_ok b r a n cap l w hn hm hc hb ht
set_option maxHeartbeats 1000000 in
theorem bconforms_any (b r : Int) (a : Option Addr) (n cap : Nat) (l : Tr) (w : World) (hn : l.length = n) (hm : n ≤ 1000) (hc : Hid (TrA w a l)) :
    Calls Try.prog 23 #[.agg #[.int .i64 b, .int .i64 r], .slice a n cap] w fun e w' => e = .returned (.tuple #[.bool (confV b r l), .int .i64 (eBT b r l)]) ∧ Below w.heap.size w w' := by
  have K := Lib.hid fun w hc => bfirst_any b r a n cap l w hn hm hc
  have hv : decide (fstV b r l < 0) = confV b r l := by
    unfold fstV confV
    cases h : okBT b r l
    · rfl
    · obtain ⟨_, h1, h2⟩ := eBT_ok h
      rw [if_pos rfl, Bool.true_and]
      exact first_fits (by have := okB_iff.1 h1; omega) (okT_iff.1 h2).2
  have hB : Below w.heap.size w (w.alloc (.cells #[.int .i64 b, .int .i64 r] 23)) := (Below.refl _ _).alloc (Nat.le_refl _) _
  have hc1 : Hid (TrA (w.alloc (.cells #[.int .i64 b, .int .i64 r] 23)) a l) := Lib.hid (hc.out.below hB (Nat.le_refl _))
  generalize confV b r l = c at *
  generalize fstV b r l = f at *
  generalize eBT b r l = e0 at *
  clear hn hc
  subst hv
  go_enter Try.func23, Try.ntmps23
  go_wp2_with fail
  refine (K.out _ hc1).mono ?_
  rintro e w1 ⟨rfl, hb⟩
  have HB := hB.trans (hb.mono (by simp))
  clear hb
  go_wp2
  go_ret2
  exact ⟨rfl, HB⟩
/-- Within. -/
def wOk (t : Int) : Bool := decide (0 ≤ t) && decide (t ≤ 1099511627776)
def wV (b r t : Int) : Int := if okB b r && wOk t then b + r * t / 1048576 else 0
def wE (b r t : Int) : Int := if okB b r then if wOk t then 0 else 2 else 130
set_option maxHeartbeats 1000000 in
theorem rwithin_any (b r t : Int) (w : World) :
    Calls Try.prog 14 #[.agg #[.int .i64 b, .int .i64 r], .int .i64 t] w fun e w' => e = .returned (.tuple #[.int .i64 (wV b r t), .int .i64 (wE b r t)]) ∧ Below w.heap.size w w' := by
  have K := Lib.hid fun w => rright_any b r w
  have hB : Below w.heap.size w (w.alloc (.cells #[.int .i64 b, .int .i64 r] 23)) := (Below.refl _ _).alloc (Nat.le_refl _) _
  unfold wV wE
  cases hb : okB b r
  · rw [hb] at K
    simp only [Bool.false_and, Bool.false_eq_true, if_false]
    clear hb
    go_enter Try.func14, Try.ntmps14
    go_wp2_with fail
    refine (K.out _).mono ?_
    rintro e w1 ⟨rfl, hb⟩
    have HB := hB.trans (hb.mono (by simp))
    clear hb
    go_wp2
    go_ret2
    exact ⟨rfl, HB⟩
  · rw [hb] at K
    obtain ⟨⟨b1, b2⟩, r1, r2⟩ := okB_iff.1 hb
    clear hb
    by_cases t1 : 0 ≤ t
    · by_cases t2 : t ≤ 1099511627776
      · have ht : wOk t = true := by simp [wOk, t1, t2]
        simp only [ht, Bool.true_and, if_true]
        obtain ⟨v1, v2⟩ := rate_bd r1 r2 t1 t2
        clear ht
        go_enter Try.func14, Try.ntmps14
        go_wp2_with fail
        refine (K.out _).mono ?_
        rintro e w1 ⟨rfl, hb⟩
        have e1 := (hb.cell (p := ⟨w.heap.size, 0, none⟩) (by simp)).trans (show _ = some (.int .i64 b) by go_simp)
        have e2 := (hb.cell (p := ⟨w.heap.size, 1, none⟩) (by simp)).trans (show _ = some (.int .i64 r) by go_simp)
        have HB := hB.trans (hb.mono (by simp))
        clear hb
        go_wp2
        go_ret2
        exact ⟨rfl, HB⟩
      · have ht : wOk t = false := by simp [wOk, t2]
        simp only [ht, Bool.and_false, Bool.false_eq_true, if_false, if_true]
        clear ht
        go_enter Try.func14, Try.ntmps14
        go_wp2_with fail
        refine (K.out _).mono ?_
        rintro e w1 ⟨rfl, hb⟩
        have HB := hB.trans (hb.mono (by simp))
        clear hb
        go_wp2
        go_ret2
        exact ⟨rfl, HB⟩
    · have ht : wOk t = false := by simp [wOk, t1]
      simp only [ht, Bool.and_false, Bool.false_eq_true, if_false, if_true]
      clear ht
      go_enter Try.func14, Try.ntmps14
      go_wp2_with fail
      refine (K.out _).mono ?_
      rintro e w1 ⟨rfl, hb⟩
      have HB := hB.trans (hb.mono (by simp))
      clear hb
      go_wp2
      go_ret2
      exact ⟨rfl, HB⟩
theorem rt_md {r t : Int} (r1 : 1 ≤ r) (r2 : r ≤ 2097152) (t1 : 0 ≤ t) (t2 : t ≤ 1099511627776) : md r t 1048576 = r * t / 1048576 := by
  obtain ⟨v1, v2⟩ := rate_bd r1 r2 t1 t2
  have hq : inR (r * t / 1048576) = true := by rw [inR_iff]; omega
  have e1 : inR r = true := by rw [inR_iff]; omega
  have e2 : inR t = true := by rw [inR_iff]; omega
  have e3 : inR 1048576 = true := by decide
  unfold md mdOk; rw [e1, e2, e3, hq]; simp
set_option maxHeartbeats 1000000 in
theorem bwithin_any (b r t : Int) (w : World) :
    Calls Try.prog 13 #[.agg #[.int .i64 b, .int .i64 r], .int .i64 t] w fun e w' => e = .returned (.tuple #[.int .i64 (wV b r t), .int .i64 (wE b r t)]) ∧ Below w.heap.size w w' := by
  have K := Lib.hid fun w => bcheck_any b r w
  have hB : Below w.heap.size w (w.alloc (.cells #[.int .i64 b, .int .i64 r] 23)) := (Below.refl _ _).alloc (Nat.le_refl _) _
  unfold wV wE
  unfold eB at K
  cases hb : okB b r
  · rw [hb] at K
    simp only [Bool.false_and, Bool.false_eq_true, if_false] at K ⊢
    clear hb
    go_enter Try.func13, Try.ntmps13
    go_wp2_with fail
    refine (K.out _).mono ?_
    rintro e w1 ⟨rfl, hb⟩
    have HB := hB.trans (hb.mono (by simp))
    clear hb
    go_wp2
    go_ret2
    exact ⟨rfl, HB⟩
  · rw [hb] at K
    simp only [if_true] at K
    obtain ⟨⟨b1, b2⟩, r1, r2⟩ := okB_iff.1 hb
    clear hb
    by_cases t1 : 0 ≤ t ∧ t ≤ 1099511627776
    · have ht : wOk t = true := by simp [wOk, t1]
      simp only [ht, Bool.true_and, if_true]
      obtain ⟨v1, v2⟩ := rate_bd r1 r2 t1.1 t1.2
      have HM := Lib.hid fun w => muldiv_any r t 1048576 w
      rw [rt_md r1 r2 t1.1 t1.2] at HM
      have K2 := Lib.hid fun w => between_yes t 0 1099511627776 w t1.1 t1.2
      have hq : 0 ≤ r * t / 1048576 ∧ r * t / 1048576 ≤ 2199023255552 := by omega
      generalize r * t / 1048576 = q at *
      generalize mdOk r t 1048576 = mo at *
      clear ht v1 v2 t1
      go_enter Try.func13, Try.ntmps13
      go_wp2_with fail
      refine (K.out _).mono ?_
      rintro e w1 ⟨rfl, hb⟩
      have e1 := (hb.cell (p := ⟨w.heap.size, 0, none⟩) (by simp)).trans (show _ = some (.int .i64 b) by go_simp)
      have e2 := (hb.cell (p := ⟨w.heap.size, 1, none⟩) (by simp)).trans (show _ = some (.int .i64 r) by go_simp)
      have HB := hB.trans (hb.mono (by simp))
      have hz := cell_lt e1
      clear hb
      go_wp2_with fail
      refine (K2.out _).mono ?_
      rintro e w2 ⟨rfl, rfl⟩
      go_wp2_with fail
      refine (HM.out _).mono ?_
      rintro e w3 ⟨rfl, hb3⟩
      have e3 := (hb3.cell (p := ⟨w.heap.size, 0, none⟩) hz).trans e1
      have HB3 := HB.trans (hb3.mono HB.size)
      clear hb3
      go_wp2
      go_ret2
      exact ⟨rfl, HB3⟩
    · have ht : wOk t = false := by unfold wOk; rw [← Bool.decide_and]; exact decide_eq_false t1
      simp only [ht, Bool.and_false, Bool.false_eq_true, if_false, if_true]
      have K2 := Lib.hid fun w => between_no t 0 1099511627776 w (by omega)
      clear ht t1
      go_enter Try.func13, Try.ntmps13
      go_wp2_with fail
      refine (K.out _).mono ?_
      rintro e w1 ⟨rfl, hb⟩
      have HB := hB.trans (hb.mono (by simp))
      clear hb
      go_wp2_with fail
      refine (K2.out _).mono ?_
      rintro e w2 ⟨rfl, rfl⟩
      go_wp2
      go_ret2
      exact ⟨rfl, HB⟩
end Go.Proofs.Ytfbfnoiapeajeaa
