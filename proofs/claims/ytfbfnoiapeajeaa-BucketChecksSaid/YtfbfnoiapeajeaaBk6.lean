/- The package bucket: the iterator over the levels. -/
import Derived.RangeFuncNested
import Derived.RangeFuncBound
import Derived.RangeFuncCalls
import Derived.RangeFuncLeaves
import Derived.Shelf.Abstract
import Derived.Shelf.RegionOpen
import Derived.WalkKit
import Derived.OwnWalkIn
import Derived.TacticsInMore
import Derived.LoopNIn
import Derived.LoopIn
import Derived.Test.YtfbfnoiapeajeaaBk4
namespace Go.Proofs.Ytfbfnoiapeajeaa
open Go.RowKit Go.Shelf
attribute [local go_sem] Oper.semAt_some

/-- The level and the last time ahead of arrival k. -/
def stN (b r : Int) (l : Tr) : Nat → Int × Int
  | 0 => (b * 1048576, 0)
  | k + 1 => (lvlV b r (stN b r l k).1 (stN b r l k).2 (l[k]?.getD (0, 0)).1 (l[k]?.getD (0, 0)).2, (l[k]?.getD (0, 0)).1)
def lvN (b r : Int) (l : Tr) (k : Nat) : Int := (stN b r l k).1
def laN (b r : Int) (l : Tr) (k : Nat) : Int := (stN b r l k).2
theorem lvN_zero (b r : Int) (l : Tr) : lvN b r l 0 = b * 1048576 := rfl
theorem lvN_succ (b r : Int) (l : Tr) (k : Nat) : lvN b r l (k + 1) = lvlV b r (lvN b r l k) (laN b r l k) (l[k]?.getD (0, 0)).1 (l[k]?.getD (0, 0)).2 := rfl
theorem laN_succ (b r : Int) (l : Tr) (k : Nat) : laN b r l (k + 1) = (l[k]?.getD (0, 0)).1 := rfl
theorem laN_bd {b r : Int} {l : Tr} (hc : chainB 0 l = true) : ∀ (k : Nat) (h : k < l.length), 0 ≤ laN b r l k ∧ laN b r l k ≤ (l[k]).1
  | 0, h => ⟨Int.le_refl _, (chain_mono l 0 hc 0 h).1⟩
  | k + 1, h => by
    have := chain_mono l 0 hc k (by omega)
    rw [laN_succ, List.getElem?_eq_getElem (by omega), Option.getD_some]
    exact ⟨this.1, this.2.2.2.2 (k + 1) h (by omega)⟩
theorem lvN_bd {b r : Int} {l : Tr} (hb : okB b r = true) (hc : chainB 0 l = true) : ∀ (k : Nat), k ≤ l.length → -(k * 1099511627776 : Int) ≤ lvN b r l k ∧ lvN b r l k ≤ b * 1048576
  | 0, _ => by
    have := (okB_iff.1 hb).1
    rw [lvN_zero]; omega
  | k + 1, h => by
    obtain ⟨h1, h2⟩ := lvN_bd hb hc k (by omega)
    obtain ⟨h3, h4⟩ := laN_bd (b := b) (r := r) hc k (by omega)
    obtain ⟨_, _, h5, h6, _⟩ := chain_mono l 0 hc k (by omega)
    have hb' := okB_iff.1 hb
    rw [lvN_succ, List.getElem?_eq_getElem (by omega), Option.getD_some]
    unfold lvlV
    have h7 : 0 ≤ r * ((l[k]).1 - laN b r l k) := Int.mul_nonneg (by omega) (by omega)
    omega
/-- The first negative level, from round k on. -/
theorem firstG_cut (b r : Int) (l : Tr) : ∀ (k : Nat), k ≤ l.length → (∀ j, j < k → 0 ≤ lvN b r l (j + 1)) → firstV b r l = firstG b r (lvN b r l k) (laN b r l k) k (l.drop k)
  | 0, _, _ => rfl
  | k + 1, h, hj => by
    rw [firstG_cut b r l k (by omega) fun j h => hj j (by omega), List.drop_eq_getElem_cons (show k < l.length by omega)]
    have e := hj k (by omega)
    rw [lvN_succ, List.getElem?_eq_getElem (by omega), Option.getD_some] at e
    rw [lvN_succ, laN_succ, List.getElem?_eq_getElem (by omega), Option.getD_some]
    generalize l[k] = x at *
    obtain ⟨a, s⟩ := x
    rw [firstG, if_neg (by simp only at e ⊢; omega)]
    rfl
theorem first_none {b r : Int} {l : Tr} (hj : ∀ j, j < l.length → 0 ≤ lvN b r l (j + 1)) : firstV b r l = -1 := by
  rw [firstG_cut b r l l.length (Nat.le_refl _) hj, List.drop_length, firstG]
theorem first_some {b r : Int} {l : Tr} {k : Nat} (hk : k < l.length) (hj : ∀ j, j < k → 0 ≤ lvN b r l (j + 1)) (h : lvN b r l (k + 1) < 0) : firstV b r l = k := by
  rw [firstG_cut b r l k (by omega) hj, List.drop_eq_getElem_cons hk]
  rw [lvN_succ, List.getElem?_eq_getElem hk, Option.getD_some] at h
  generalize l[k] = x at *
  obtain ⟨a, s⟩ := x
  rw [firstG, if_pos h]
def upto {α : Type} (f : Nat → α) (k : Nat) : List α := (List.range k).map f
theorem upto_succ {α : Type} (f : Nat → α) (k : Nat) : upto f (k + 1) = upto f k ++ [f k] := by simp [upto, List.range_succ]
theorem upto_length {α : Type} (f : Nat → α) (k : Nat) : (upto f k).length = k := by simp [upto]
/-- What the iterator yields in round k. -/
def yV (b r : Int) (l : Tr) (k : Nat) : Nat × Int := (k, lvN b r l (k + 1))

set_option maxRecDepth 100000 in
set_option maxHeartbeats 2000000 in
theorem levels1_in (F : Fence) (n : Nat) (hf : F.fn 45) (hro : F.round = none) (hn1 : 1 ≤ n) (lp Bb Bs n₀ : Nat) (b r : Int) (a : Option Addr) (len cap : Nat) (l : Tr) (hb : okB b r = true) (ht : okT l = true) (hlen : l.length = len)
    (J Jx : List (Nat × Int) → World → Prop)
    (hY : ∀ pre x W, J pre W → pre.length < len → YieldAt F (n - 1) Try.prog lp #[.int .i64 (x.1 : Int), .int .i64 x.2] W fun e W' =>
      (e = .returned (.bool true) ∧ J (pre ++ [x]) W' ∧ Below n₀ W W') ∨ (e = .returned (.bool false) ∧ Jx (pre ++ [x]) W'))
    (W : World) (hJ : AbidesFrom W.heap.size J) (hBb : Bb < n₀) (hn0 : n₀ ≤ W.heap.size) (hB0 : W.cell? ⟨Bb, 0, none⟩ = some (.int .i64 b)) (hB1 : W.cell? ⟨Bb, 1, none⟩ = some (.int .i64 r)) (hBs : W.cell? ⟨Bs, 0, none⟩ = some (.slice a len cap))
    (hc : Hid (∀ k (h : k < l.length), ∃ bb o, a = some ⟨bb, o, none⟩ ∧ bb < n₀ ∧ W.cell? ⟨bb, o + k * 2, none⟩ = some (.int .i64 (l[k]).1) ∧ W.cell? ⟨bb, o + k * 2 + 1, none⟩ = some (.int .i64 (l[k]).2)))
    (h0 : J [] W) :
    CallsIn F n Try.prog 45 #[.func (.yield lp) #[] #[], .pointer (some ⟨Bb, 0, none⟩), .pointer (some ⟨Bs, 0, none⟩)] W fun e W' => (∃ v, e = .returned v) ∧
      ((∃ ys, ys = upto (yV b r l) len ∧ J ys W') ∨ (∃ pre, (∃ k, k ≤ len ∧ pre = upto (yV b r l) k) ∧ Jx pre W')) := by
  have hch := (okT_iff.1 ht).2
  have hln : (len : Int) ≤ 200 := by have := (okT_iff.1 ht).1; omega
  have HL := Lib.hid fun k h => laN_bd (b := b) (r := r) hch k h
  have HV := Lib.hid fun k h => lvN_bd hb hch k h
  have HM := Lib.hid (chain_mono l 0 hch)
  have HN := Lib.hid hlen
  obtain ⟨⟨b1, b2⟩, r1, r2⟩ := okB_iff.1 hb
  clear hb ht hch hlen
  refine callsIn_of_wp Try.func45 rfl hf ?_ hro
  simp only [Try.ntmps45, List.size_toArray, List.length_cons, List.length_nil, Nat.reduceAdd, Nat.reduceSub, Array.replicate_succ, Array.replicate_zero, List.push_toArray, List.append_toArray, List.nil_append, List.cons_append]
  gi_wp2
  gi_loopw [5, 6, 15] (fun lv la i wr => ∃ (k : Nat) (v t : Int), k ≤ len ∧ lv = .int .i64 v ∧ la = .int .i64 t ∧ i = .int .i64 k ∧ Hid (v = lvN b r l k ∧ t = laN b r l k) ∧ J (upto (yV b r l) k) wr ∧ Below n₀ W wr ∧ W.heap.size ≤ wr.heap.size)
    (fun _ _ i _ => len - (intOf i).toNat)
  case atStart => exact ⟨0, b * 1048576, 0, Nat.zero_le _, rfl, rfl, rfl, Lib.hid ⟨rfl, rfl⟩, h0, Below.refl _ _, Nat.le_refl _⟩
  case round =>
    obtain ⟨k, v, t, hk, rfl, rfl, rfl, hvt, hJs, hnx, hsz⟩ := hrel
    by_cases hlt : k < len
    · have HX : k < l.length := by rw [HN.out]; exact hlt
      obtain ⟨bb, o, rfl, hbb, c1, c2⟩ := hc.out k HX
      have d1 := (hnx.cell (p := ⟨bb, o + k * 2, none⟩) hbb).trans c1
      have d2 := (hnx.cell (p := ⟨bb, o + k * 2 + 1, none⟩) hbb).trans c2
      have g1 := (hnx.cell (p := ⟨Bb, 1, none⟩) hBb).trans hB1
      have hlt' : (k : Int) < len := by omega
      obtain ⟨m1, m2, m3, m4, _⟩ := HM.out k HX
      have q1 := HL.out k HX
      have q2 := HV.out k (Nat.le_of_lt HX)
      rw [← hvt.out.2] at q1
      rw [← hvt.out.1] at q2
      have HQ : Hid (lvlV b r v t (l[k]).1 (l[k]).2 = lvN b r l (k + 1) ∧ (l[k]).1 = laN b r l (k + 1)) := Lib.hid (by rw [lvN_succ, laN_succ, List.getElem?_eq_getElem HX, Option.getD_some, hvt.out.1, hvt.out.2]; exact ⟨rfl, rfl⟩)
      clear c1 c2 hvt
      generalize l[k] = x at *
      obtain ⟨p, s⟩ := x
      simp only at d1 d2 m1 m2 m3 m4 q1 q2 HQ
      obtain ⟨z1, z2⟩ := rate_bd r1 r2 (show 0 ≤ p - t by omega) (by omega)
      obtain ⟨V, hV⟩ : ∃ V, min (b * 1048576) (v + r * (p - t)) = V := ⟨_, rfl⟩
      have hV1 : V - s * 1048576 = lvlV b r v t p s := by unfold lvlV; rw [hV]
      have hV2 : -220000000000000 ≤ V ∧ V ≤ 1099511627776 := by omega
      have mn : ∀ W, (Builtin.min_ #[3, 3] 3 #[.int .i64 (b * 1048576), .int .i64 (v + r * (p - t))]).run Try.prog W = .ok (.int .i64 V) W := fun W => by
        have := @run_min_int2 Try.prog W #[3, 3] 3 .i64 .i64 (b * 1048576) (v + r * (p - t))
        rw [this]; congr 2; split <;> omega
      have HQ2 : Hid (V - s * 1048576 = lvN b r l (k + 1) ∧ p = laN b r l (k + 1)) := Lib.hid (by rw [hV1]; exact HQ.out)
      clear hV1 hV HQ HX
      have hJ1 : J (upto (yV b r l) k) (wr.alloc (.cells #[.int .i64 p, .int .i64 s] 30)) := hJ _ _ _ none hJs (World.grownBy_alloc _ _ _) (fun r e => by cases e)
      have g2 : (wr.alloc (.cells #[.int .i64 p, .int .i64 s] 30)).cell? ⟨Bb, 1, none⟩ = some (.int .i64 r) := ((Below.refl wr.heap.size wr).alloc (Nat.le_refl _) _ |>.cell (p := ⟨Bb, 1, none⟩) (by simp; omega)).trans g1
      clear g1
      obtain ⟨fn, tmps, assign, body, hy, hR⟩ := hY _ (k, V - s * 1048576) _ hJ1 (by rw [upto_length]; exact hlt)
      dsimp only at hy
      gi_wp2
      refine hR.mono ?_
      rintro e W3 (⟨rfl, hJ3, hk3⟩ | ⟨rfl, hJx3⟩)
      · gi_wp2
        go_roundw
        case rel => exact ⟨k + 1, V - s * 1048576, p, by omega, rfl, rfl, by go_num, HQ2, by rw [upto_succ, yV, ← HQ2.out.1]; exact hJ3, (hnx.alloc (by omega) _).trans hk3, by have := hk3.size; simp at this; omega⟩
        case measure => simp [intOf]; omega
      · gi_wp2
        refine bodyPost_ret (results_none rfl _ _ _) rfl ?_
        exact ⟨⟨_, rfl⟩, .inr ⟨_, ⟨k + 1, by omega, rfl⟩, by rw [upto_succ, yV, ← HQ2.out.1]; exact hJx3⟩⟩
    · obtain rfl : k = len := by omega
      gi_wp2
      go_end0
      exact ⟨⟨_, rfl⟩, .inl ⟨_, rfl, hJs⟩⟩
end Go.Proofs.Ytfbfnoiapeajeaa
