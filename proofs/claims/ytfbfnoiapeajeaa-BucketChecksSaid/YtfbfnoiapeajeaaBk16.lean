/- The laws of bucket: trace, fits, first: what they compute. -/
import Derived.Test.YtfbfnoiapeajeaaBk15
import Derived.Deep.RegionHeld3
import Derived.Deep.AppendLies
namespace Go.Proofs.Ytfbfnoiapeajeaa
open Go.RowKit

/-- Numbers lie at an address. -/
def IntsA (w : World) (a : Option Addr) (zs : List Int) : Prop := ∀ k (h : k < zs.length), ∃ b o, a = some ⟨b, o, none⟩ ∧ w.cell? ⟨b, o + k, none⟩ = some (.int .i64 zs[k])
theorem IntsA.get {w w' : World} {a : Option Addr} {zs : List Int} (h : IntsA w a zs) (hb : Below w.heap.size w w') {k : Nat} (hk : k < zs.length) : ∃ b o, a = some ⟨b, o, none⟩ ∧ b < w.heap.size ∧ w'.cell? ⟨b, o + k, none⟩ = some (.int .i64 zs[k]) := by
  obtain ⟨b, o, e, h1⟩ := h k hk
  exact ⟨b, o, e, cell_lt h1, (hb.cell (p := ⟨b, o + k, none⟩) (cell_lt h1)).trans h1⟩
theorem TrOwn.form {w : World} {base : Nat} {v : Value} {l : Tr} (h : TrOwn w base v l) : ∃ a n c, v = .slice a n c := by
  obtain ⟨a, c, e, _⟩ := h.see
  exact ⟨_, _, _, e⟩
def pairsN (zs : List Int) : Nat → Tr
  | 0 => []
  | k + 1 => pairsN zs k ++ [(zs[2 * k]?.getD 0, zs[2 * k + 1]?.getD 0)]
theorem pairsN_length (zs : List Int) : ∀ k, (pairsN zs k).length = k
  | 0 => rfl
  | k + 1 => by simp [pairsN, pairsN_length zs k]
def pairsV (zs : List Int) : Tr := pairsN zs (zs.length / 2)
/-- An append of one arrival in the middle of a region. -/
structure AppO (N : Nat) (w0 : World) (v : Value) (m : Tr) (x : Int × Int) (l1 l2 : Bool) (vs vn : Value) (wx : World) : Prop where
  bel : Below N w0 wx
  le : w0.heap.size ≤ wx.heap.size
  a : l2 = false → TrOwn wx N v m
  c : l1 = true → ∃ g, vs = .slice (some ⟨g, 0, none⟩) 1 1 ∧ g < wx.heap.size ∧ TrA wx (some ⟨g, 0, none⟩) [x] ∧ (l2 = false → v.ownBlock ≠ some g)
  d : l2 = true → TrOwn wx N vn (m ++ [x])
theorem AppO.one {N : Nat} {w0 wx : World} {v : Value} {m : Tr} {x : Int × Int} {l2 : Bool} {vs vn : Value} (hN : N ≤ wx.heap.size) (h : AppO N w0 v m x false l2 vs vn wx) :
    AppO N w0 v m x true l2 (.slice (some ⟨wx.heap.size, 0, none⟩) 1 1) vn (wx.alloc (.cells #[.int .i64 x.1, .int .i64 x.2] 30)) := by
  refine ⟨h.bel.alloc hN _, by have := h.le; simp; omega, fun p => World.ownsRow.alloc (h.a p) _, fun _ => ⟨wx.heap.size, rfl, by simp, tra_one _ _ _, fun p e => ?_⟩, fun p => World.ownsRow.alloc (h.d p) _⟩
  have := (World.ownsRow.lt (h.a p) _ e).2; omega
theorem AppO.two {N : Nat} {w0 wx w' : World} {v : Value} {m : Tr} {x : Int × Int} {vs vn v' : Value} (hN : N ≤ wx.heap.size) (h : AppO N w0 v m x true false vs vn wx)
    (h1 : TrOwn w' N v' (m ++ [x])) (h2 : wx.grownBy w' v.ownBlock) : AppO N w0 v m x true true vs v' w' := by
  have ha := h.a rfl
  have hs := h2.size
  refine ⟨h.bel.grown h2 hN (fun k e => (World.ownsRow.lt ha k e).1), by have := h.le; omega, fun p => (by cases p), fun _ => ?_, fun _ => h1⟩
  obtain ⟨g, e, hlt, hc, g1⟩ := h.c rfl
  exact ⟨g, e, by omega, hc.grown h2 (fun q e => by cases e; exact fun e => g1 rfl e.symm), fun p => (by cases p)⟩
set_option maxRecDepth 100000 in
set_option maxHeartbeats 4000000 in
theorem trace_any (a : Option Addr) (n cap : Nat) (zs : List Int) (w : World) (hn : zs.length = n) (hm : n ≤ 100) (hc : Hid (IntsA w a zs)) :
    Calls Try.prog 31 #[.slice a n cap] w (RetTr w (pairsV zs)) := by
  have HN := Lib.hid hn
  have hn1 : (n : Int) ≤ 100 := by omega
  have HP : Hid (∀ k, n / 2 = k → pairsV zs = pairsN zs k) := Lib.hid fun k h => by unfold pairsV; rw [hn, h]
  obtain ⟨i0, hi, hz0, hz1, hz2⟩ := info_parts infoA
  clear hn
  go_enter Try.func31, Try.ntmps31
  go_wp2_with fail
  go_loopw [3, 4] (fun v i wr => ∃ k j : Nat, Hid (j = 2 * k) ∧ j ≤ n ∧ i = .int .i64 j ∧ TrOwn wr w.heap.size v (pairsN zs k) ∧ Below w.heap.size w wr) (fun _ i _ => n - (intOf i).toNat)
  case atStart => exact ⟨0, 0, Lib.hid rfl, Nat.zero_le _, rfl, TrOwn.nil _ _, Below.refl _ _⟩
  case round =>
    obtain ⟨k, j, hjk, hj, rfl, hO, hB⟩ := hrel
    have hB0 := hB.size
    by_cases hlt : j + 1 < n
    · have HX1 : j < zs.length := by rw [HN.out]; omega
      have HX2 : j + 1 < zs.length := by rw [HN.out]; exact hlt
      obtain ⟨b, o, rfl, hbw, c1⟩ := hc.out.get hB HX1
      obtain ⟨_, _, e0, _, c2⟩ := hc.out.get hB HX2
      obtain ⟨rfl, rfl⟩ : b = _ ∧ o = _ := by simpa using e0
      have HK : Hid (pairsN zs (k + 1) = pairsN zs k ++ [(zs[j], zs[j + 1])]) := Lib.hid (by rw [pairsN, ← hjk.out, List.getElem?_eq_getElem HX1, List.getElem?_eq_getElem HX2]; rfl)
      have hlt' : (j : Int) + 1 < n := by omega
      have i0' : (0 : Int) ≤ j := by omega
      have i1 : IntKind.i64.wrap ((j : Int) + 1) = (j : Int) + 1 := IntWalk.i64_in _ (by omega)
      have i2 : (0 : Int) ≤ (j : Int) + 1 := by omega
      have i3 : ((j : Int) + 1).toNat = j + 1 := by omega
      have hbr : b < wr.heap.size := cell_lt c1
      have hlen := pairsN_length zs k
      generalize pairsN zs k = m at *
      generalize zs[j] = p at *
      generalize zs[j + 1] = q at *
      clear e0 HX1 HX2
      have hv := hO.form
      obtain ⟨oa, on, oc, rfl⟩ := hv
      have hO := Lib.hid hO
      have hmk : m.length ≤ 100 := by have := hjk.out; omega
      have hmk := Lib.hid hmk
      have hlen := Lib.hid hlen
      have av : (Value.slice oa on oc).ownBlock ≠ some b := fun e => by have := (World.ownsRow.lt hO.out _ e).1; omega
      have hj1 : (j : Int) < n := by omega
      go_wp2_with fail
      go_region_held3 (fun w' => w'.cell? ⟨b, o + j, none⟩ = some (.int .i64 p) ∧ w'.cell? ⟨b, o + (j + 1), none⟩ = some (.int .i64 q))
        (first
          | go_keep
          | (go_split_ands
             refine ⟨?_, ?_⟩
             · (rw [hgrow.cell_far _ (by simp; omega) (Ne.symm av)]; assumption)
             · (rw [hgrow.cell_far _ (by simp; omega) (Ne.symm av)]; assumption)))
        ((refine step_append_lies _ (by rfl) _ _ _ (by rfl) w.heap.size 30 i0 _ 2 16 Try.underlying42 hi hz0 hz1 hz2 rfl (by omega) (.slice oa on oc) m.length (flat m) (by rfl) ((World.ownsRow.alloc hO.out _).drew)
            ⟨wr.heap.size, 0, none⟩ 1 1 [.int .i64 p, .int .i64 q] (by rfl) (by rfl) (World.news_of_block (cs := #[.int .i64 p, .int .i64 q]) (t := 30) (fr := (0, 0)) (heap_alloc_new wr _)) (by simp [Value.oneCell'])
            (by omega) (by unfold maxLen; have := hmk.out; omega) (by have := hmk.out; omega) (by simp; omega) (wr.heap.size + 1) (by simp) ?_; intro gg cap2 w1 hown1 hgrow hat hlt))
      have hD : TrOwn w1 w.heap.size (.slice (some ⟨gg, 0, none⟩) (m.length + 1) cap2) (m ++ [(p, q)]) := by
        unfold TrOwn
        rw [flat_append, List.length_append]
        exact hown1
      have hba : Below w.heap.size wr w1 := ((Below.refl _ wr).alloc hB0 _).drew.grown hgrow (by simp; omega) (fun k e => (World.ownsRow.lt hO.out k e).1)
      clear hown1 hgrow hat hlt
      rw [← HK.out] at hD
      have hD := Lib.hid hD
      have hBa := hB.trans hba
      clear i0' i1 i2 i3 hba
      go_wp2
      go_roundw
      case rel => exact ⟨k + 1, j + 2, Lib.hid (by have := hjk.out; omega), by omega, by go_num, by have := hD.out; rw [hlen.out] at this; exact this, hBa⟩
      case measure => simp [intOf]; omega
    · have hlt' : ¬ (j : Int) + 1 < n := by omega
      have hPV := HP.out k (by have := hjk.out; omega)
      obtain ⟨oa, oc, hve, o1, o2, o3, o4⟩ := hO.see
      have hsp := Lib.hid (hO.spot hve)
      subst hve
      rw [← hPV] at o1 o3 ⊢
      have o2 := Lib.hid o2
      have o3 := Lib.hid o3
      have o4 := Lib.hid o4
      clear hO hPV
      go_wp2
      go_ret
      exact ⟨oa, oc, rfl, o1, o2.out, o3, o4.out, hB, hsp.out⟩
set_option maxHeartbeats 1000000 in
theorem fits2_any (b r : Int) (a : Option Addr) (n cap : Nat) (l : Tr) (w : World) (hn : l.length = n) (hm : n ≤ 1000) (hc : Hid (TrA w a l)) :
    Calls Try.prog 30 #[.agg #[.int .i64 b, .int .i64 r], .slice a n cap] w fun e w' => e = .returned (.bool (confV b r l)) ∧ Below w.heap.size w w' := by
  have K := Lib.hid fun w hc => bconforms_any b r a n cap l w hn hm hc
  have hB : Below w.heap.size w (w.alloc (.cells #[.int .i64 b, .int .i64 r] 23)) := (Below.refl _ _).alloc (Nat.le_refl _) _
  have hc1 : Hid (TrA (w.alloc (.cells #[.int .i64 b, .int .i64 r] 23)) a l) := Lib.hid (hc.out.below hB (Nat.le_refl _))
  have he : confV b r l = true → eBT b r l = 0 := fun h => by
    unfold confV at h
    rw [Bool.and_eq_true] at h
    exact (eBT_ok h.1).1
  cases hf : confV b r l
  · rw [hf] at K
    clear hn hc he hf
    generalize eBT b r l = e0 at *
    go_enter Try.func30, Try.ntmps30
    go_wp2_with fail
    refine (K.out _ hc1).mono ?_
    rintro e w1 ⟨rfl, hb⟩
    have HB := hB.trans (hb.mono (by simp))
    clear hb
    go_wp2
    go_ret
    exact ⟨rfl, HB⟩
  · rw [hf, he hf] at K
    clear hn hc he hf
    go_enter Try.func30, Try.ntmps30
    go_wp2_with fail
    refine (K.out _ hc1).mono ?_
    rintro e w1 ⟨rfl, hb⟩
    have HB := hB.trans (hb.mono (by simp))
    clear hb
    go_wp2
    go_ret
    exact ⟨rfl, HB⟩
def fisV (b r : Int) (l : Tr) (m : Int) : Bool := okBT b r l && decide (firstV b r l = m)
set_option maxHeartbeats 1000000 in
theorem first2_any (b r : Int) (a : Option Addr) (n cap : Nat) (l : Tr) (m : Int) (w : World) (hn : l.length = n) (hm : n ≤ 1000) (hc : Hid (TrA w a l)) :
    Calls Try.prog 29 #[.agg #[.int .i64 b, .int .i64 r], .slice a n cap, .int .i64 m] w fun e w' => e = .returned (.bool (fisV b r l m)) ∧ Below w.heap.size w w' := by
  have K := Lib.hid fun w hc => bfirst_any b r a n cap l w hn hm hc
  have hB : Below w.heap.size w (w.alloc (.cells #[.int .i64 b, .int .i64 r] 23)) := (Below.refl _ _).alloc (Nat.le_refl _) _
  have hc1 : Hid (TrA (w.alloc (.cells #[.int .i64 b, .int .i64 r] 23)) a l) := Lib.hid (hc.out.below hB (Nat.le_refl _))
  unfold fisV
  unfold fstV at K
  cases hf : okBT b r l
  · have hE : (eBT b r l == 0) = false := by rcases eBT_bad hf with e | e <;> rw [e] <;> rfl
    generalize eBT b r l = x at *
    rw [hf] at K
    simp only [Bool.false_eq_true, if_false, Bool.false_and] at K ⊢
    clear hn hc hf
    by_cases hm0 : (0 : Int) = m
    · have hq : ((0 : Int) == m) = true := by simpa using hm0
      go_enter Try.func29, Try.ntmps29
      go_wp2_with fail
      refine (K.out _ hc1).mono ?_
      rintro e w1 ⟨rfl, hb⟩
      have HB := hB.trans (hb.mono (by simp))
      clear hb hm0
      go_wp2
      go_ret
      exact ⟨rfl, HB⟩
    · have hq : ((0 : Int) == m) = false := by simpa using hm0
      go_enter Try.func29, Try.ntmps29
      go_wp2_with fail
      refine (K.out _ hc1).mono ?_
      rintro e w1 ⟨rfl, hb⟩
      have HB := hB.trans (hb.mono (by simp))
      clear hb hm0
      go_wp2
      go_ret
      exact ⟨rfl, HB⟩
  · rw [hf, (eBT_ok hf).1] at K
    simp only [if_true, Bool.true_and] at K ⊢
    clear hn hc hf
    generalize firstV b r l = f at *
    by_cases hm0 : f = m
    · have hq : (f == m) = true := by simpa using hm0
      have hd : decide (f = m) = true := by simpa using hm0
      rw [hd]
      clear hd
      go_enter Try.func29, Try.ntmps29
      go_wp2_with fail
      refine (K.out _ hc1).mono ?_
      rintro e w1 ⟨rfl, hb⟩
      have HB := hB.trans (hb.mono (by simp))
      clear hb hm0
      go_wp2
      go_ret
      exact ⟨rfl, HB⟩
    · have hq : (f == m) = false := by simpa using hm0
      have hd : decide (f = m) = false := by simpa using hm0
      rw [hd]
      clear hd
      go_enter Try.func29, Try.ntmps29
      go_wp2_with fail
      refine (K.out _ hc1).mono ?_
      rintro e w1 ⟨rfl, hb⟩
      have HB := hB.trans (hb.mono (by simp))
      clear hb hm0
      go_wp2
      go_ret
      exact ⟨rfl, HB⟩
end Go.Proofs.Ytfbfnoiapeajeaa
