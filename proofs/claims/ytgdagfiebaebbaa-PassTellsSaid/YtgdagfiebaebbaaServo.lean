/- The package servo: holds, Check, the state's time. -/
import Derived.Test.YtgdagfiebaebbaaNum
import Derived.WalkMore
namespace Go.Proofs.Ytgdagfiebaebbaa
open Go.RowKit

theorem mul_bdS {a b A B : Int} (h1 : -A ≤ a) (h2 : a ≤ A) (h3 : -B ≤ b) (h4 : b ≤ B) : -(A * B) ≤ a * b ∧ a * b ≤ A * B := by
  have hA : 0 ≤ A := by omega
  have hB : 0 ≤ B := by omega
  have e : (a * b).natAbs ≤ (A * B).natAbs := by
    rw [Int.natAbs_mul, Int.natAbs_mul]
    exact Nat.mul_le_mul (by omega) (by omega)
  have := Int.mul_nonneg hA hB
  omega
theorem md_okS {a b c : Int} (h : inR a = true) (h' : inR b = true) (h'' : inR c = true) (hc : 1 ≤ c) (hq : inR (a * b / c) = true) : md a b c = a * b / c := by
  unfold md mdOk; rw [h, h', h'', hq]; simp [hc]
def lim (n t : Int) : Bool := decide (-t ≤ n) && decide (n ≤ t)
theorem lim_iff (n t : Int) : lim n t = true ↔ -t ≤ n ∧ n ≤ t := by simp [lim]
def lim3 (n1 t1 n2 t2 n3 t3 : Int) : Bool := lim n1 t1 && (lim n2 t2 && lim n3 t3)
def LimTo (k : Nat) (n1 t1 n2 t2 n3 t3 : Int) : Prop := (1 ≤ k → lim n1 t1 = true) ∧ (2 ≤ k → lim n2 t2 = true) ∧ (3 ≤ k → lim n3 t3 = true)
set_option maxRecDepth 100000 in
set_option maxHeartbeats 1000000 in
theorem holds_any (n1 t1 n2 t2 n3 t3 : Int) (w : World) (h1 : 0 ≤ t1) (h1' : t1 ≤ 4398046511104) (h2 : 0 ≤ t2) (h2' : t2 ≤ 4398046511104) (h3 : 0 ≤ t3) (h3' : t3 ≤ 4398046511104) :
    Calls Try.prog 49 #[.agg #[.int .i64 n1, .int .i64 t1, .int .i64 n2, .int .i64 t2, .int .i64 n3, .int .i64 t3]] w fun e w' => e = .returned (.bool (lim3 n1 t1 n2 t2 n3 t3)) ∧ Below w.heap.size w w' := by
  go_enter Try.func49, Try.ntmps49
  go_wp2_with fail
  go_step3
  go_wp2_with fail
  go_step3
  go_wp2_with fail
  go_loopw [3, 7] (fun b i wr => ∃ k : Nat, k ≤ 3 ∧ b = .bool true ∧ i = .int .i64 k ∧ Below w.heap.size w wr ∧ Hid (LimTo k n1 t1 n2 t2 n3 t3)) (fun _ i _ => 3 - (intOf i).toNat)
  case atStart => exact ⟨0, by omega, rfl, rfl, (Below.refl _ _).alloc (Nat.le_refl _) _, ⟨fun q => by omega, fun q => by omega, fun q => by omega⟩⟩
  case round =>
    obtain ⟨k, hk, rfl, rfl, hB, HL⟩ := hrel
    have hcase : (k = 3 ∧ lim3 n1 t1 n2 t2 n3 t3 = true) ∨ ∃ nn tt : Int, k < 3 ∧ 0 ≤ tt ∧ tt ≤ 4398046511104 ∧ (lim nn tt = false → lim3 n1 t1 n2 t2 n3 t3 = false) ∧ (lim nn tt = true → LimTo (k + 1) n1 t1 n2 t2 n3 t3) ∧
        ∀ W, (Instr.index 103 (.agg #[.int .i64 n1, .int .i64 t1, .int .i64 n2, .int .i64 t2, .int .i64 n3, .int .i64 t3]) (.int .i64 k)).run Try.prog W = .ok (.agg #[.int .i64 nn, .int .i64 tt]) W := by
      obtain ⟨a1, a2, a3⟩ := HL.out
      rcases (by omega : k = 0 ∨ k = 1 ∨ k = 2 ∨ k = 3) with rfl | rfl | rfl | rfl
      · exact Or.inr ⟨n1, t1, by omega, h1, h1', fun q => by unfold lim3; rw [q]; rfl, fun q => ⟨fun _ => q, fun g => by omega, fun g => by omega⟩, fun _ => by kernel_rfl⟩
      · exact Or.inr ⟨n2, t2, by omega, h2, h2', fun q => by unfold lim3; rw [q]; simp, fun q => ⟨fun _ => a1 (by omega), fun _ => q, fun g => by omega⟩, fun _ => by kernel_rfl⟩
      · exact Or.inr ⟨n3, t3, by omega, h3, h3', fun q => by unfold lim3; rw [q]; simp, fun q => ⟨fun _ => a1 (by omega), fun _ => a2 (by omega), fun _ => q⟩, fun _ => by kernel_rfl⟩
      · exact Or.inl ⟨rfl, by unfold lim3; rw [a1 (by omega), a2 (by omega), a3 (by omega)]; rfl⟩
    clear HL
    rcases hcase with ⟨rfl, hT⟩ | ⟨nn, tt, hk2, ht0, ht1, hno, hyes, hix⟩
    · have HT := Lib.hid hT
      clear hT
      go_wp2
      try rw [Exit.noGoto_ret]
      go_ret
      exact ⟨ret_bool HT.out.symm, hB⟩
    · have HN := Lib.hid hno
      have HY := Lib.hid hyes
      clear hno hyes
      by_cases c1 : -tt ≤ nn
      · by_cases c2 : nn ≤ tt
        · have HX := Lib.hid (HY.out ((lim_iff _ _).2 ⟨c1, c2⟩))
          clear HN HY
          go_wp2
          go_roundw
          case rel => exact ⟨k + 1, by omega, rfl, by go_num, hB.alloc hB.size _, HX⟩
          case measure => simp [intOf]; omega
        · have HX := Lib.hid (HN.out (by cases q : lim nn tt; rfl; rw [lim_iff] at q; omega))
          clear HN HY
          go_wp2
          try rw [Exit.noGoto_ret]
          go_ret
          exact ⟨ret_bool HX.out.symm, hB.alloc hB.size _⟩
      · have HX := Lib.hid (HN.out (by cases q : lim nn tt; rfl; rw [lim_iff] at q; omega))
        clear HN HY
        go_wp2
        try rw [Exit.noGoto_ret]
        go_ret
        exact ⟨ret_bool HX.out.symm, hB.alloc hB.size _⟩
def stamp (n : Int) : Bool := lim n 4398046511104
def ratio (n : Int) : Bool := lim n 8388608
theorem stamp_iff (n : Int) : stamp n = true ↔ -4398046511104 ≤ n ∧ n ≤ 4398046511104 := lim_iff n _
theorem ratio_iff (n : Int) : ratio n = true ↔ -8388608 ≤ n ∧ n ≤ 8388608 := lim_iff n _
def okS (l m p : Int) : Bool := stamp l && (stamp m && ratio p)
theorem okS_iff (l m p : Int) : okS l m p = true ↔ (-4398046511104 ≤ l ∧ l ≤ 4398046511104) ∧ (-4398046511104 ≤ m ∧ m ≤ 4398046511104) ∧ -8388608 ≤ p ∧ p ≤ 8388608 := by
  unfold okS; rw [Bool.and_eq_true, Bool.and_eq_true, stamp_iff, stamp_iff, ratio_iff]
def chkS (l m p : Int) : Int := if okS l m p then 0 else 230
theorem chkS_ok {l m p : Int} (h : okS l m p = true) : chkS l m p = 0 := by unfold chkS; rw [h]; rfl
theorem chkS_no {l m p : Int} (h : okS l m p = false) : chkS l m p = 230 := by unfold chkS; rw [h]; rfl
set_option maxHeartbeats 400000 in
theorem scheck_any (l m p : Int) (w : World) :
    Calls Try.prog 45 #[.agg #[.int .i64 l, .int .i64 m, .int .i64 p]] w fun e w' => e = .returned (.int .i64 (chkS l m p)) ∧ Below w.heap.size w w' := by
  have HH : Hid (∀ w : World, Calls Try.prog 49 #[.agg #[.int .i64 l, .int .i64 4398046511104, .int .i64 m, .int .i64 4398046511104, .int .i64 p, .int .i64 8388608]] w fun e w' => e = .returned (.bool (okS l m p)) ∧ Below w.heap.size w w') :=
    Lib.hid fun w => holds_any l 4398046511104 m 4398046511104 p 8388608 w (by omega) (by omega) (by omega) (by omega) (by omega) (by omega)
  cases h : okS l m p
  · rw [h] at HH
    have HV := Lib.hid (chkS_no h)
    clear h
    go_enter Try.func45, Try.ntmps45
    go_wp2_with (go_at_call 49; refine (HH.out _).mono ?_; rintro e w' ⟨rfl, hb⟩)
    go_ret
    exact ⟨ret_int HV.out.symm, ((Below.refl _ _).alloc (Nat.le_refl _) _).trans (hb.mono (by simp <;> omega))⟩
  · rw [h] at HH
    have HV := Lib.hid (chkS_ok h)
    clear h
    go_enter Try.func45, Try.ntmps45
    go_wp2_with (go_at_call 49; refine (HH.out _).mono ?_; rintro e w' ⟨rfl, hb⟩)
    go_ret
    exact ⟨ret_int HV.out.symm, ((Below.refl _ _).alloc (Nat.le_refl _) _).trans (hb.mono (by simp <;> omega))⟩
/-- The grandmaster's time at a local time. -/
def atS (L M p l : Int) : Int := M + (l - L) + (l - L) * p / 1000000000
theorem part_bd {x p : Int} (h1 : -17592186044416 ≤ x) (h2 : x ≤ 17592186044416) (h3 : -16777216 ≤ p) (h4 : p ≤ 16777216) :
    -1125899906842624 ≤ x * p / 1000000000 ∧ x * p / 1000000000 ≤ 1125899906842624 ∧ md x p 1000000000 = x * p / 1000000000 := by
  have hb := mul_bdS (A := 17592186044416) (B := 16777216) h1 h2 h3 h4
  have q1 : -1125899906842624 ≤ x * p / 1000000000 := by omega
  have q2 : x * p / 1000000000 ≤ 1125899906842624 := by omega
  exact ⟨q1, q2, md_okS (by rw [inR_iff]; omega) (by rw [inR_iff]; omega) (by rw [inR_iff]; omega) (by omega) (by rw [inR_iff]; exact ⟨q1, q2⟩)⟩
set_option maxHeartbeats 400000 in
theorem sat_any (L M p l : Int) (w : World) (h : okS L M p = true) (h0 : -4398046511104 ≤ l) (h1 : l ≤ 4398046511104) :
    Calls Try.prog 50 #[.agg #[.int .i64 L, .int .i64 M, .int .i64 p], .int .i64 l] w fun e w' => e = .returned (.int .i64 (atS L M p l)) ∧ Below w.heap.size w w' := by
  rw [okS_iff] at h
  obtain ⟨g1, g2, g3⟩ := h
  obtain ⟨q1, q2, hm⟩ := part_bd (x := l - L) (p := p) (by omega) (by omega) (by omega) (by omega)
  have HA : Hid (M + (l - L) + (l - L) * p / 1000000000 = atS L M p l) := Lib.hid rfl
  obtain ⟨q, hq⟩ : ∃ q, (l - L) * p / 1000000000 = q := ⟨_, rfl⟩
  rw [hq] at q1 q2 hm HA
  have HM := Lib.hid hm
  clear hm hq
  go_enter Try.func50, Try.ntmps50
  go_wp2_with (go_at_call 48; refine (muldiv_any _ _ _ _).mono ?_; rintro e w' ⟨rfl, hb⟩; rw [HM.out]; obtain ⟨hcl, hfr⟩ := bcell hb)
  go_ret
  exact ⟨ret_int HA.out, ((Below.refl _ _).alloc (Nat.le_refl _) _).trans (hb.mono (by simp))⟩
end Go.Proofs.Ytgdagfiebaebbaa
