/- The package bucket and its reference: what the checks compute. -/
import Derived.Test.YtfbfnoiapeajeaaBMath
namespace Go.Proofs.Ytfbfnoiapeajeaa
open Go.RowKit

theorem cell_lt {w : World} {b o : Nat} {v : Value} (h : w.cell? ⟨b, o, none⟩ = some v) : b < w.heap.size := World.block_lt_of_cell? w _ h
/-- A trace lies at an address (none at all: an empty one). -/
def TrA (w : World) (a : Option Addr) (l : Tr) : Prop := ∀ k (h : k < l.length), ∃ b o, a = some ⟨b, o, none⟩ ∧ w.cell? ⟨b, o + k * 2, none⟩ = some (.int .i64 (l[k]).1) ∧ w.cell? ⟨b, o + k * 2 + 1, none⟩ = some (.int .i64 (l[k]).2)
theorem TrA.below {w w' : World} {B : Nat} {a : Option Addr} {l : Tr} (h : TrA w a l) (hb : Below B w w') (hB : w.heap.size ≤ B) : TrA w' a l := fun k hk => by
  obtain ⟨b, o, e, h1, h2⟩ := h k hk
  have hl := Nat.lt_of_lt_of_le (cell_lt h1) hB
  exact ⟨b, o, e, (hb.cell (p := ⟨b, o + k * 2, none⟩) hl).trans h1, (hb.cell (p := ⟨b, o + k * 2 + 1, none⟩) hl).trans h2⟩
theorem TrA.take {w : World} {a : Option Addr} {l : Tr} (h : TrA w a l) (n : Nat) : TrA w a (l.take n) := fun k hk => by
  have hk2 : k < l.length := by rw [List.length_take] at hk; omega
  obtain ⟨b, o, e, h1, h2⟩ := h k hk2
  exact ⟨b, o, e, by rw [List.getElem_take]; exact h1, by rw [List.getElem_take]; exact h2⟩
theorem TrA.nil (w : World) : TrA w none [] := fun k hk => by simp at hk
/-- The cells of arrival k in a later world. -/
theorem TrA.get {w w' : World} {a : Option Addr} {l : Tr} (h : TrA w a l) (hb : Below w.heap.size w w') {k : Nat} (hk : k < l.length) : ∃ b o, a = some ⟨b, o, none⟩ ∧ b < w.heap.size ∧ w'.cell? ⟨b, o + k * 2, none⟩ = some (.int .i64 (l[k]).1) ∧ w'.cell? ⟨b, o + k * 2 + 1, none⟩ = some (.int .i64 (l[k]).2) := by
  obtain ⟨b, o, e, h1, h2⟩ := h k hk
  have hl := cell_lt h1
  exact ⟨b, o, e, hl, (hb.cell (p := ⟨b, o + k * 2, none⟩) hl).trans h1, (hb.cell (p := ⟨b, o + k * 2 + 1, none⟩) hl).trans h2⟩
set_option maxHeartbeats 400000 in
theorem between_yes (n lo hi : Int) (w : World) (h1 : lo ≤ n) (h2 : n ≤ hi) :
    Calls Try.prog 33 #[.int .i64 n, .int .i64 lo, .int .i64 hi] w fun e w' => e = .returned (.bool true) ∧ w' = w := by
  go_enter Try.func33, Try.ntmps33
  go_wp2
  go_ret
  exact ⟨rfl, rfl⟩
set_option maxHeartbeats 400000 in
theorem between_no (n lo hi : Int) (w : World) (h : n < lo ∨ hi < n) :
    Calls Try.prog 33 #[.int .i64 n, .int .i64 lo, .int .i64 hi] w fun e w' => e = .returned (.bool false) ∧ w' = w := by
  rcases h with h | h
  · have h' : ¬ lo ≤ n := by omega
    go_enter Try.func33, Try.ntmps33
    go_wp2
    go_ret
    exact ⟨rfl, rfl⟩
  · have h' : ¬ n ≤ hi := by omega
    by_cases h2 : lo ≤ n
    · go_enter Try.func33, Try.ntmps33
      go_wp2
      go_ret
      exact ⟨rfl, rfl⟩
    · go_enter Try.func33, Try.ntmps33
      go_wp2
      go_ret
      exact ⟨rfl, rfl⟩
def eB (b r : Int) : Int := if okB b r then 0 else 130
def eT (l : Tr) : Int := if okT l then 0 else 131
set_option maxHeartbeats 1000000 in
theorem bcheck_any (b r : Int) (w : World) :
    Calls Try.prog 15 #[.agg #[.int .i64 b, .int .i64 r]] w fun e w' => e = .returned (.int .i64 (eB b r)) ∧ Below w.heap.size w w' := by
  have HB : Below w.heap.size w (w.alloc (.cells #[.int .i64 b, .int .i64 r] 23)) := (Below.refl _ _).alloc (Nat.le_refl _) _
  by_cases h1 : 1 ≤ b ∧ b ≤ 1048576
  · by_cases h2 : 1 ≤ r ∧ r ≤ 2097152
    · have HE : Hid (eB b r = 0) := Lib.hid (by unfold eB; rw [if_pos (okB_iff.2 ⟨h1, h2⟩)])
      have K1 := Lib.hid fun w => between_yes b 1 1048576 w h1.1 h1.2
      have K2 := Lib.hid fun w => between_yes r 1 2097152 w h2.1 h2.2
      clear h1 h2
      go_enter Try.func15, Try.ntmps15
      go_wp2_with fail
      refine (K1.out _).mono ?_
      rintro e w1 ⟨rfl, rfl⟩
      go_wp2_with fail
      refine (K2.out _).mono ?_
      rintro e w1 ⟨rfl, rfl⟩
      go_wp2
      go_ret
      exact ⟨ret_int HE.out.symm, HB⟩
    · have HE : Hid (eB b r = 130) := Lib.hid (by unfold eB; rw [if_neg (by rw [okB_iff]; omega)])
      have K1 := Lib.hid fun w => between_yes b 1 1048576 w h1.1 h1.2
      have K2 := Lib.hid fun w => between_no r 1 2097152 w (by omega)
      clear h1 h2
      go_enter Try.func15, Try.ntmps15
      go_wp2_with fail
      refine (K1.out _).mono ?_
      rintro e w1 ⟨rfl, rfl⟩
      go_wp2_with fail
      refine (K2.out _).mono ?_
      rintro e w1 ⟨rfl, rfl⟩
      go_wp2
      go_ret
      exact ⟨ret_int HE.out.symm, HB⟩
  · have HE : Hid (eB b r = 130) := Lib.hid (by unfold eB; rw [if_neg (by rw [okB_iff]; omega)])
    have K1 := Lib.hid fun w => between_no b 1 1048576 w (by omega)
    clear h1
    go_enter Try.func15, Try.ntmps15
    go_wp2_with fail
    refine (K1.out _).mono ?_
    rintro e w1 ⟨rfl, rfl⟩
    go_wp2
    go_ret
    exact ⟨ret_int HE.out.symm, HB⟩
set_option maxHeartbeats 1000000 in
theorem rright_any (b r : Int) (w : World) :
    Calls Try.prog 32 #[.agg #[.int .i64 b, .int .i64 r]] w fun e w' => e = .returned (.bool (okB b r)) ∧ Below w.heap.size w w' := by
  have HB : Below w.heap.size w (w.alloc (.cells #[.int .i64 b, .int .i64 r] 23)) := (Below.refl _ _).alloc (Nat.le_refl _) _
  by_cases h : (1 ≤ b ∧ b ≤ 1048576) ∧ 1 ≤ r ∧ r ≤ 2097152
  · have HE : Hid (okB b r = true) := Lib.hid (okB_iff.2 h)
    obtain ⟨⟨h1, h2⟩, h3, h4⟩ := h
    go_enter Try.func32, Try.ntmps32
    go_wp2
    go_ret
    exact ⟨ret_bool HE.out.symm, HB⟩
  · have HE : Hid (okB b r = false) := Lib.hid (by cases e : okB b r; rfl; exact absurd (okB_iff.1 e) h)
    by_cases h1 : 1 ≤ b
    · by_cases h2 : b ≤ 1048576
      · by_cases h3 : 1 ≤ r
        · have h4 : ¬ r ≤ 2097152 := by omega
          clear h
          go_enter Try.func32, Try.ntmps32
          go_wp2
          go_ret
          exact ⟨ret_bool HE.out.symm, HB⟩
        · clear h
          go_enter Try.func32, Try.ntmps32
          go_wp2
          go_ret
          exact ⟨ret_bool HE.out.symm, HB⟩
      · clear h
        go_enter Try.func32, Try.ntmps32
        go_wp2
        go_ret
        exact ⟨ret_bool HE.out.symm, HB⟩
    · clear h
      go_enter Try.func32, Try.ntmps32
      go_wp2
      go_ret
      exact ⟨ret_bool HE.out.symm, HB⟩
set_option maxHeartbeats 1000000 in
theorem rcheck_any (b r : Int) (w : World) :
    Calls Try.prog 16 #[.agg #[.int .i64 b, .int .i64 r]] w fun e w' => e = .returned (.int .i64 (eB b r)) ∧ Below w.heap.size w w' := by
  have K := Lib.hid fun w => rright_any b r w
  unfold eB
  cases h : okB b r
  all_goals
    rw [h] at K
    clear h
    go_enter Try.func16, Try.ntmps16
    go_wp2_with fail
    refine (K.out _).mono ?_
    rintro e w1 ⟨rfl, hb⟩
    have HB := ((Below.refl _ w).alloc (Nat.le_refl _) _).trans (hb.mono (by simp))
    go_wp2
    go_ret
    exact ⟨rfl, HB⟩
end Go.Proofs.Ytfbfnoiapeajeaa
