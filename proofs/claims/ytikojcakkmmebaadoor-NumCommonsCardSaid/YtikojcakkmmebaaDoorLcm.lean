/- The package num and its reference: Lcm: what they compute. -/
import Derived.Test.YtikojcakkmmebaaDoorRef01c
import Derived.Test.YtikojcakkmmebaaDoorRegion
namespace Go.Proofs.YtikojcakkmmebaaDoor
open Go.RowKit

/-- Integers that lie in a row of cells. -/
def IntsAt (w : World) (b o : Nat) (zs : List Int) : Prop := ∀ k, k < zs.length → w.cell? ⟨b, o + k, none⟩ = some (.int .i64 (zs[k]?.getD 0))
theorem IntsAt.below {w w' : World} {b o : Nat} {zs : List Int} (h : Hid (IntsAt w b o zs)) (hb : Below w.heap.size w w') : Hid (IntsAt w' b o zs) :=
  Lib.hid fun k hk => (hb.cell (p := ⟨b, o + k, none⟩) (cell_lt (h.out k hk))).trans (h.out k hk)

def lcmStep (s : Int × Bool) (x : Int) : Int × Bool := if s.2 then (md s.1 (x / gcdV s.1 x) 1, mdOk s.1 (x / gcdV s.1 x) 1) else s
def lcmPos (zs : List Int) : Bool := zs.all fun x => inR x && decide (1 ≤ x)
def lcmP (zs : List Int) : Int × Bool := if lcmPos zs then zs.foldl lcmStep (1, true) else (0, false)
/-- What holds of the pair while it is computed. -/
def LcmOk (s : Int × Bool) : Prop := if s.2 then 1 ≤ s.1 ∧ s.1 ≤ 1125899906842624 else s.1 = 0

theorem gcdV_pos {n x : Int} (hn : 1 ≤ n ∧ n ≤ 1125899906842624) (hx : 1 ≤ x ∧ x ≤ 1125899906842624) :
    1 ≤ gcdV n x ∧ gcdV n x ≤ x ∧ 1 ≤ x / gcdV n x ∧ x / gcdV n x ≤ x := by
  have e : gcdV n x = (Nat.gcd n.natAbs x.natAbs : Int) := by
    unfold gcdV; rw [if_pos]
    rw [Bool.and_eq_true, inR_iff, inR_iff]; omega
  rw [e]
  have h1 : 0 < Nat.gcd n.natAbs x.natAbs := Nat.gcd_pos_of_pos_right _ (by omega)
  have h2 : Nat.gcd n.natAbs x.natAbs ≤ x.natAbs := Nat.gcd_le_right _ (by omega)
  generalize Nat.gcd n.natAbs x.natAbs = g at *
  have h3 : (1 : Int) ≤ x / g := (Int.le_ediv_iff_mul_le (by omega)).2 (by omega)
  have h4 : x / (g : Int) ≤ x := Int.ediv_le_self _ (by omega)
  omega
theorem lcmStep_ok {s : Int × Bool} {x : Int} (h : LcmOk s) (hx : 1 ≤ x ∧ x ≤ 1125899906842624) : LcmOk (lcmStep s x) := by
  obtain ⟨n, ok⟩ := s
  cases ok
  · exact h
  · unfold LcmOk at h
    simp only [if_true] at h
    obtain ⟨g1, g2, g3, g4⟩ := gcdV_pos h hx
    show LcmOk (md n (x / gcdV n x) 1, mdOk n (x / gcdV n x) 1)
    unfold LcmOk md
    cases hm : mdOk n (x / gcdV n x) 1
    · simp
    · simp only [if_true, Int.ediv_one]
      unfold mdOk at hm
      simp only [Bool.and_eq_true] at hm
      have hr := hm.2
      rw [inR_iff, Int.ediv_one] at hr
      refine ⟨?_, hr.2⟩
      have := Int.mul_le_mul h.1 g3 (by omega) (by omega)
      omega
theorem lcmPos_at {zs : List Int} (h : lcmPos zs = true) {k : Nat} (hk : k < zs.length) : 1 ≤ zs[k]?.getD 0 ∧ zs[k]?.getD 0 ≤ 1125899906842624 := by
  have := List.all_eq_true.1 h zs[k] (List.getElem_mem hk)
  rw [Bool.and_eq_true, inR_iff, decide_eq_true_eq] at this
  rw [List.getElem?_eq_getElem hk]
  simp only [Option.getD_some]
  omega
theorem lcmPos_out {zs : List Int} {k : Nat} (hk : k < zs.length) (h : inR (zs[k]?.getD 0) = false ∨ zs[k]?.getD 0 < 1) : lcmPos zs = false := by
  rw [List.getElem?_eq_getElem hk] at h
  simp only [Option.getD_some] at h
  cases hp : lcmPos zs
  · rfl
  · have := List.all_eq_true.1 hp zs[k] (List.getElem_mem hk)
    rw [Bool.and_eq_true, decide_eq_true_eq] at this
    rcases h with h | h
    · rw [h] at this; cases this.1
    · omega
theorem lcmPos_all {zs : List Int} (h : ∀ k, k < zs.length → inR (zs[k]?.getD 0) = true ∧ 1 ≤ zs[k]?.getD 0) : lcmPos zs = true := by
  refine List.all_eq_true.2 fun x hx => ?_
  obtain ⟨k, hk, rfl⟩ := List.getElem_of_mem hx
  have := h k hk
  rw [List.getElem?_eq_getElem hk] at this
  simp only [Option.getD_some] at this
  rw [this.1]; simpa using this.2
/-- The pair after k of the numbers. -/
def lcmAt (zs : List Int) (k : Nat) : Int × Bool := (zs.take k).foldl lcmStep (1, true)
theorem lcmAt_succ {zs : List Int} {k : Nat} (hk : k < zs.length) : lcmAt zs (k + 1) = lcmStep (lcmAt zs k) (zs[k]?.getD 0) := by
  unfold lcmAt
  rw [List.take_succ_eq_append_getElem hk, List.foldl_append, List.getElem?_eq_getElem hk]
  rfl
theorem lcmAt_ok {zs : List Int} (h : lcmPos zs = true) : ∀ k, k ≤ zs.length → LcmOk (lcmAt zs k)
  | 0, _ => by unfold LcmOk lcmAt; simp
  | k + 1, hk => by rw [lcmAt_succ (by omega)]; exact lcmStep_ok (lcmAt_ok h k (by omega)) (lcmPos_at h (by omega))
theorem lcmAt_all {zs : List Int} (h : lcmPos zs = true) : lcmAt zs zs.length = lcmP zs := by
  unfold lcmAt lcmP; rw [h, List.take_of_length_le (Nat.le_refl _)]; rfl

/-! ### the closure that takes one number more -/
set_option maxRecDepth 100000 in
set_option maxHeartbeats 1000000 in
theorem lcmfn_on (x n : Int) (bo bn B : Nat) (w : World) (hT : Hid (Tab w)) (hx : 1 ≤ x ∧ x ≤ 1125899906842624) (hn : 1 ≤ n ∧ n ≤ 1125899906842624)
    (hB : 2 < B) (ho : B ≤ bo) (hb : B ≤ bn) (hne : bo ≠ bn) (c1 : w.cell? ⟨bo, 0, none⟩ = some (.bool true)) (c2 : w.cell? ⟨bn, 0, none⟩ = some (.int .i64 n)) (f1 : w.frozen? ⟨bo, 0, none⟩ = false) (f2 : w.frozen? ⟨bn, 0, none⟩ = false) :
    Calls Tryd.prog 42 #[.int .i64 x, .pointer (some ⟨bo, 0, none⟩), .pointer (some ⟨bn, 0, none⟩)] w fun e w' => e = .returned (.tuple #[]) ∧ Below B w w' ∧ Hid (Tab w') ∧
      w'.cell? ⟨bo, 0, none⟩ = some (.bool (lcmStep (n, true) x).2) ∧ w'.cell? ⟨bn, 0, none⟩ = some (.int .i64 (lcmStep (n, true) x).1) ∧ w'.frozen? ⟨bo, 0, none⟩ = false ∧ w'.frozen? ⟨bn, 0, none⟩ = false := by
  obtain ⟨g1, g2, g3, g4⟩ := gcdV_pos hn hx
  have HG := Lib.hid fun w h => gcd_any n x w h
  have HS : Hid ((lcmStep (n, true) x).1 = md n (x / gcdV n x) 1 ∧ (lcmStep (n, true) x).2 = mdOk n (x / gcdV n x) 1) := Lib.hid ⟨rfl, rfl⟩
  have HM := Lib.hid fun w => mul_any n (x / gcdV n x) w
  have et : x.tdiv (gcdV n x) = x / gcdV n x := Int.tdiv_eq_ediv_of_nonneg (by omega)
  generalize x / gcdV n x = q at *
  generalize gcdV n x = g at *
  have hg0 : (g == 0) = false := by simp; omega
  have hgn : ¬ g = 0 := by omega
  have ew : IntKind.i64.wrap q = q := IntWalk.i64_in _ (by omega)
  generalize md n q 1 = n2 at *
  generalize mdOk n q 1 = k2 at *
  have C1 := Lib.hid c1
  have C2 := Lib.hid c2
  have l1 := cell_lt c1
  have l2 := cell_lt c2
  have hBw : B ≤ w.heap.size := by omega
  clear hn g1 g2
  go_enter Tryd.func42, Tryd.ntmps42
  go_wp2_with fail
  clear c1 c2
  refine wp_region_put (R := Unit) [6, 7, 8, 9, 10, 11, 12, 5, 13, 14]
    (fun _ => [.int .i64 n, .int .i64 x, .int .i64 n, .int .i64 x, .int .i64 g, .int .i64 q, .tuple #[.int .i64 n2, .bool k2], .tuple #[.int .i64 n2, .bool k2], .int .i64 n2, .bool k2])
    (fun L _ wx => Below B w wx ∧ Hid (Tab wx) ∧ (bo < wx.heap.size ∧ bn < wx.heap.size) ∧ wx.cell? ⟨bo, 0, none⟩ = some (.bool (if L 11 then k2 else true)) ∧ wx.cell? ⟨bn, 0, none⟩ = some (.int .i64 (if L 10 then n2 else n)) ∧ wx.frozen? ⟨bo, 0, none⟩ = false ∧ wx.frozen? ⟨bn, 0, none⟩ = false ∧ (L 10 = true → L 0 = true ∧ L 2 = true))
    (by kernel_rfl) (by kernel_rfl) (by kernel_rfl) () ?_ ?_ ?_
  · exact ⟨(Below.refl _ _).drew, Tab.drew hT, ⟨l1, l2⟩, C1.out, C2.out, f1, f2, fun h => absurd h (by decide)⟩
  · refine ⟨?_, ?_, ?_, ?_, ?_, ?_, ?_, ?_, ?_, ?_, ?_, ?_, trivial⟩
    all_goals
      rintro L ⟨⟩ wx K hLi hdep ⟨hBx, hTx, hl, d1, d2, e1, e2, hLL⟩ hK
      simp only [putAll, Act.put, List.setIfInBounds_toArray, List.set_cons_succ, List.set_cons_zero] at hK ⊢
    · have h10 : L 10 = false := by
        cases h : L 10
        · rfl
        · rw [(hLL h).1] at hLi; cases hLi
      rw [h10] at d2
      go_simp
      exact hK () wx ⟨hBx, hTx, hl, by simpa using d1, by simpa [h10] using d2, e1, e2, by simp [h10]⟩
    · go_simp
      exact hK () wx ⟨hBx, hTx, hl, by simpa using d1, by simpa using d2, e1, e2, fun h => by have := hLL (by simpa using h); simp [this.1, this.2]⟩
    · have h10 : L 10 = false := by
        cases h : L 10
        · rfl
        · rw [(hLL h).2] at hLi; cases hLi
      rw [h10] at d2
      go_simp
      exact hK () wx ⟨hBx, hTx, hl, by simpa using d1, by simpa [h10] using d2, e1, e2, by simp [h10]⟩
    · go_simp
      exact hK () wx ⟨hBx, hTx, hl, by simpa using d1, by simpa using d2, e1, e2, fun h => by have := hLL (by simpa using h); simp [this.1, this.2]⟩
    · go_simp
      refine (HG.out _ (by exact hTx)).mono ?_
      rintro e w' ⟨rfl, hb'⟩
      exact hK () w' ⟨hBx.trans (hb'.mono (Nat.le_trans hBw hBx.size)), Tab.below hTx hb', ⟨Nat.lt_of_lt_of_le hl.1 hb'.size, Nat.lt_of_lt_of_le hl.2 hb'.size⟩, by simpa using (hb'.cell (p := ⟨bo, 0, none⟩) hl.1).trans d1, by simpa using (hb'.cell (p := ⟨bn, 0, none⟩) hl.2).trans d2, (hb'.frozen (p := ⟨bo, 0, none⟩) hl.1).trans e1, (hb'.frozen (p := ⟨bn, 0, none⟩) hl.2).trans e2, fun h => by have := hLL (by simpa using h); simp [this.1, this.2]⟩
    · go_simp
      exact hK () wx ⟨hBx, hTx, hl, by simpa using d1, by simpa using d2, e1, e2, fun h => by have := hLL (by simpa using h); simp [this.1, this.2]⟩
    · go_simp
      refine (HM.out _).mono ?_
      rintro e w' ⟨rfl, hb'⟩
      exact hK () w' ⟨hBx.trans (hb'.mono (Nat.le_trans hBw hBx.size)), Tab.below hTx hb', ⟨Nat.lt_of_lt_of_le hl.1 hb'.size, Nat.lt_of_lt_of_le hl.2 hb'.size⟩, by simpa using (hb'.cell (p := ⟨bo, 0, none⟩) hl.1).trans d1, by simpa using (hb'.cell (p := ⟨bn, 0, none⟩) hl.2).trans d2, (hb'.frozen (p := ⟨bo, 0, none⟩) hl.1).trans e1, (hb'.frozen (p := ⟨bn, 0, none⟩) hl.2).trans e2, fun h => by have := hLL (by simpa using h); simp [this.1, this.2]⟩
    · go_simp
      exact hK () wx ⟨hBx, hTx, hl, by simpa using d1, by simpa using d2, e1, e2, fun h => by have := hLL (by simpa using h); simp [this.1, this.2]⟩
    · go_simp
      exact hK () wx ⟨hBx, hTx, hl, by simpa using d1, by simpa using d2, e1, e2, fun h => by have := hLL (by simpa using h); simp [this.1, this.2]⟩
    · go_simp
      exact hK () wx ⟨hBx, hTx, hl, by simpa using d1, by simpa using d2, e1, e2, fun h => by have := hLL (by simpa using h); simp [this.1, this.2]⟩
    · have h0 : L 0 = true := hdep ⟨0, .phase⟩ (by simp) rfl
      have h2 : L 2 = true := hdep ⟨2, .phase⟩ (by simp) rfl
      go_simp
      refine hK () _ ⟨hBx.setCell hb _, Tab.set hTx (show 2 < bn by omega), by simpa [World.setCell] using hl, ?_, by go_simp, by go_simp, by go_simp, by simp [h0, h2]⟩
      go_simp
    · go_simp
      refine hK () _ ⟨hBx.setCell ho _, Tab.set hTx (show 2 < bo by omega), by simpa [World.setCell] using hl, by go_simp, ?_, by go_simp, by go_simp, fun h => by have := hLL (by simpa using h); simp [this.1, this.2]⟩
      go_simp
  · rintro ⟨⟩ wx ⟨hBx, hTx, hl, d1, d2, e1, e2, _⟩
    simp only [putAll, Act.put, List.setIfInBounds_toArray, List.set_cons_succ, List.set_cons_zero]
    simp only [if_true] at d1 d2
    go_wp2
    exact bodyPost_end (v := .tuple #[]) (by simp [results, Tryd.results42, go_sem]) rfl ⟨rfl, hBx, hTx, by rw [HS.out.2]; exact d1, by rw [HS.out.1]; exact d2, e1, e2⟩
theorem lcmfn_off (x : Int) (bo bn B : Nat) (w : World) (hT : Hid (Tab w)) (n : Int) (c1 : w.cell? ⟨bo, 0, none⟩ = some (.bool false)) (c2 : w.cell? ⟨bn, 0, none⟩ = some (.int .i64 n)) (f1 : w.frozen? ⟨bo, 0, none⟩ = false) (f2 : w.frozen? ⟨bn, 0, none⟩ = false) :
    Calls Tryd.prog 42 #[.int .i64 x, .pointer (some ⟨bo, 0, none⟩), .pointer (some ⟨bn, 0, none⟩)] w fun e w' => e = .returned (.tuple #[]) ∧ Below B w w' ∧ Hid (Tab w') ∧
      w'.cell? ⟨bo, 0, none⟩ = some (.bool (lcmStep (n, false) x).2) ∧ w'.cell? ⟨bn, 0, none⟩ = some (.int .i64 (lcmStep (n, false) x).1) ∧ w'.frozen? ⟨bo, 0, none⟩ = false ∧ w'.frozen? ⟨bn, 0, none⟩ = false := by
  have C2 := Lib.hid c2
  have C1 := Lib.hid c1
  go_enter Tryd.func42, Tryd.ntmps42
  go_wp2
  exact bodyPost_end (v := .tuple #[]) (by simp [results, Tryd.results42, go_sem]) rfl ⟨rfl, Below.refl _ _, hT, C1.out, C2.out, f1, f2⟩
theorem lcmfn_any (x : Int) (s : Int × Bool) (bo bn B : Nat) (w : World) (hT : Hid (Tab w)) (hx : 1 ≤ x ∧ x ≤ 1125899906842624) (hs : LcmOk s)
    (hB : 2 < B) (ho : B ≤ bo) (hb : B ≤ bn) (hne : bo ≠ bn) (c1 : w.cell? ⟨bo, 0, none⟩ = some (.bool s.2)) (c2 : w.cell? ⟨bn, 0, none⟩ = some (.int .i64 s.1)) (f1 : w.frozen? ⟨bo, 0, none⟩ = false) (f2 : w.frozen? ⟨bn, 0, none⟩ = false) :
    Calls Tryd.prog 42 #[.int .i64 x, .pointer (some ⟨bo, 0, none⟩), .pointer (some ⟨bn, 0, none⟩)] w fun e w' => e = .returned (.tuple #[]) ∧ Below B w w' ∧ Hid (Tab w') ∧
      w'.cell? ⟨bo, 0, none⟩ = some (.bool (lcmStep s x).2) ∧ w'.cell? ⟨bn, 0, none⟩ = some (.int .i64 (lcmStep s x).1) ∧ w'.frozen? ⟨bo, 0, none⟩ = false ∧ w'.frozen? ⟨bn, 0, none⟩ = false := by
  obtain ⟨n, ok⟩ := s
  cases ok
  · exact lcmfn_off x bo bn B w hT n c1 c2 f1 f2
  · exact lcmfn_on x n bo bn B w hT hx (by unfold LcmOk at hs; simpa using hs) hB ho hb hne c1 c2 f1 f2
end Go.Proofs.YtikojcakkmmebaaDoor
