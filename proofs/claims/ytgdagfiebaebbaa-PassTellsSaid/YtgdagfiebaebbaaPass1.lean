/- The package pass: limits: what stamp, ratio and within compute. -/
import Derived.Test.YtgdagfiebaebbaaNum
namespace Go.Proofs.Ytgdagfiebaebbaa
open Go.RowKit

theorem cell_lt {w : World} {b o : Nat} {v : Value} (h : w.cell? ⟨b, o, none⟩ = some v) : b < w.heap.size := World.block_lt_of_cell? w _ h
/-- A number and its limits. -/
structure Lm where
  n : Int
  lo : Int
  hi : Int
def Lm.ok (l : Lm) : Bool := decide (l.lo ≤ l.n) && decide (l.n ≤ l.hi)
def Lm.v (l : Lm) : Value := .agg #[.int .i64 l.n, .int .i64 l.lo, .int .i64 l.hi]
def lmsOk : List Lm → Bool
  | [] => true
  | l :: r => l.ok && lmsOk r
theorem lmsOk_iff {l : List Lm} : lmsOk l = true ↔ ∀ k (h : k < l.length), (l[k]).ok = true := by
  induction l with
  | nil => simp [lmsOk]
  | cons a r ih =>
    rw [lmsOk, Bool.and_eq_true, ih]
    constructor
    · rintro ⟨h1, h2⟩ k hk
      cases k with
      | zero => exact h1
      | succ k => exact h2 k (by simpa using hk)
    · intro h
      exact ⟨h 0 (by simp), fun k hk => h (k + 1) (by simpa using hk)⟩
/-- The limits lie in a block, three cells each. -/
def LmsAt (w : World) (b : Nat) (l : List Lm) : Prop := ∀ k (h : k < l.length), w.cell? ⟨b, k * 3, none⟩ = some (.int .i64 (l[k]).n) ∧ w.cell? ⟨b, k * 3 + 1, none⟩ = some (.int .i64 (l[k]).lo) ∧ w.cell? ⟨b, k * 3 + 2, none⟩ = some (.int .i64 (l[k]).hi)
set_option maxHeartbeats 1000000 in
theorem pstamp_any (x : Int) (w : World) :
    Calls Try.prog 34 #[.int .i64 x] w fun e w' => e = .returned (.agg #[.int .i64 x, .int .i64 (-4398046511104), .int .i64 4398046511104]) ∧ Below w.heap.size w w' := by
  go_enter Try.func34, Try.ntmps34
  go_wp2
  refine bodyPost_ret (v := .agg #[.int .i64 x, .int .i64 (-4398046511104), .int .i64 4398046511104]) (by simp [results, Try.results34, go_sem]) rfl ⟨rfl, ?_⟩
  exact (Below.refl _ _).alloc (Nat.le_refl _) _
set_option maxHeartbeats 1000000 in
theorem pratio_any (x : Int) (w : World) :
    Calls Try.prog 35 #[.int .i64 x] w fun e w' => e = .returned (.agg #[.int .i64 x, .int .i64 (-8388608), .int .i64 8388608]) ∧ Below w.heap.size w w' := by
  go_enter Try.func35, Try.ntmps35
  go_wp2
  refine bodyPost_ret (v := .agg #[.int .i64 x, .int .i64 (-8388608), .int .i64 8388608]) (by simp [results, Try.results35, go_sem]) rfl ⟨rfl, ?_⟩
  exact (Below.refl _ _).alloc (Nat.le_refl _) _
set_option maxRecDepth 100000 in
set_option maxHeartbeats 2000000 in
theorem pwithin_any (b n : Nat) (l : List Lm) (w : World) (hn : l.length = n) (hm : n ≤ 1000) (hc : Hid (LmsAt w b l)) :
    Calls Try.prog 33 #[.slice (some ⟨b, 0, none⟩) n n] w fun e w' => e = .returned (.bool (lmsOk l)) ∧ Below w.heap.size w w' := by
  have HN := Lib.hid hn
  have hn1 : (n : Int) ≤ 1000 := by omega
  clear hn
  go_enter Try.func33, Try.ntmps33
  go_wp2_with fail
  go_loopw [7] (fun i wr => ∃ k : Nat, k ≤ n ∧ i = .int .i64 k ∧ Below w.heap.size w wr ∧ Hid (∀ j (h : j < l.length), j < k → (l[j]).ok = true)) (fun i _ => n - (intOf i).toNat)
  case atStart => exact ⟨0, Nat.zero_le _, rfl, Below.refl _ _, Lib.hid fun j _ hj => by omega⟩
  case round =>
    obtain ⟨k, hk, rfl, hB, hpos⟩ := hrel
    by_cases hlt : k < n
    · have HX : k < l.length := by rw [HN.out]; exact hlt
      obtain ⟨q1, q2, q3⟩ := hc.out k HX
      have hbw : b < w.heap.size := cell_lt q1
      have c1 := (hB.cell (p := ⟨b, k * 3, none⟩) hbw).trans q1
      have c2 := (hB.cell (p := ⟨b, k * 3 + 1, none⟩) hbw).trans q2
      have c3 := (hB.cell (p := ⟨b, k * 3 + 2, none⟩) hbw).trans q3
      clear q1 q2 q3
      have hlt' : (k : Int) < n := by omega
      have HP : Hid ((l[k]).ok = true → ∀ j (h : j < l.length), j < k + 1 → (l[j]).ok = true) := Lib.hid fun h j hj hj2 => by
        rcases Nat.lt_or_ge j k with g | g
        · exact hpos.out j hj g
        · obtain rfl : j = k := by omega
          exact h
      have HO : Hid ((l[k]).ok = false → lmsOk l = false) := Lib.hid fun h => by
        cases e : lmsOk l
        · rfl
        · rw [lmsOk_iff.1 e k HX] at h; cases h
      unfold Lm.ok at HP HO
      generalize l[k] = x at *
      obtain ⟨a, lo, hi⟩ := x
      simp only at c1 c2 c3 HP HO
      by_cases d1 : lo ≤ a
      · by_cases d2 : a ≤ hi
        · have HP2 := Lib.hid (HP.out (by simp [d1, d2]))
          clear HP HO hpos HX
          go_wp2
          go_roundw
          case rel => exact ⟨k + 1, by omega, by go_num, hB.alloc hB.size _, HP2⟩
          case measure => simp [intOf]; omega
        · have HR := Lib.hid (HO.out (by simp [d2]))
          have d3 : hi < a := by omega
          clear HP HO hpos HX d2
          go_wp2
          go_ret
          exact ⟨ret_bool HR.out.symm, hB.alloc hB.size _⟩
      · have HR := Lib.hid (HO.out (by simp [d1]))
        have d3 : a < lo := by omega
        clear HP HO hpos HX d1
        go_wp2
        go_ret
        exact ⟨ret_bool HR.out.symm, hB.alloc hB.size _⟩
    · have HR : Hid (lmsOk l = true) := Lib.hid (lmsOk_iff.2 fun j hj => hpos.out j hj (by have := HN.out; omega))
      have hlt' : ¬ (k : Int) < n := by omega
      clear hpos
      go_wp2
      go_ret
      exact ⟨ret_bool HR.out.symm, hB⟩
end Go.Proofs.Ytgdagfiebaebbaa
