/- The package delay: Meet: what it computes. -/
import Derived.Test.YtelpjmmkaakceaaDelay3
import Derived.Laws.EntriesVeiled
namespace Go.Proofs.Ytelpjmmkaakceaa
open Go.RowKit Go.Shelf

set_option maxHeartbeats 400000 in
theorem reading_any (o p t : Int) (w : World) :
    Calls Try.prog 36 #[.agg #[.int .i64 o, .int .i64 p], .int .i64 t] w fun e w' => e = .returned (.int .i64 (locV o p t)) ∧ Below w.heap.size w w' := by
  have HL := Lib.hid fun w => local_any o p t w
  generalize locV o p t = v at *
  generalize locE o p t = x at *
  go_enter Try.func36, Try.ntmps36
  go_wp2_with fail
  refine (HL.out _).mono ?_
  rintro e w1 ⟨rfl, hb1⟩
  go_wp2
  go_ret
  exact ⟨rfl, ((Below.refl _ _).alloc (Nat.le_refl _) _).trans (hb1.mono (by simp <;> omega))⟩
theorem enters_rd : ∀ args w, (callFunc 36 args).run Try.prog w = .ok (.enter 36 args) w := enters_of Try.func36 (by kernel_rfl) rfl
/-- The times, and whose clock reads them. -/
def mtT (t d n : Int) (j : Nat) : Int := if j = 0 then t else if j = 1 then t + d else if j = 2 then t + d + n else t + 2 * d + n
def mtO (a b : Int) (j : Nat) : Int := if j = 0 ∨ j = 3 then a else b
def fnR (o p : Int) : Value := .func (.func 36) #[.agg #[.int .i64 o, .int .i64 p]] #[]
structure MeetAt (B Z : Nat) (o1 p1 o2 p2 t d n : Int) (k : Nat) (w : World) : Prop where
  tm : ∀ j, j < 4 → w.cell? ⟨B, j, none⟩ = some (.int .i64 (mtT t d n j))
  fn : ∀ j, j < 4 → w.cell? ⟨B + 1, j, none⟩ = some (fnR (mtO o1 o2 j) (mtO p1 p2 j))
  st : ∀ j, j < 4 → w.cell? ⟨B + 2, j, none⟩ = some (.int .i64 (if j < k then locV (mtO o1 o2 j) (mtO p1 p2 j) (mtT t d n j) else 0))
  sf : ∀ j, j < 4 → w.frozen? ⟨B + 2, j, none⟩ = false
  zc : ∀ j, j < 4 → w.cell? ⟨Z, j, none⟩ = some (.int .i64 0)
  zf : ∀ j, j < 4 → w.frozen? ⟨Z, j, none⟩ = false
theorem MeetAt.below {B Z : Nat} {o1 p1 o2 p2 t d n : Int} {k : Nat} {w w' : World} (h : MeetAt B Z o1 p1 o2 p2 t d n k w) (hb : Below w.heap.size w w') : MeetAt B Z o1 p1 o2 p2 t d n k w' :=
  ⟨fun j hj => (hb.cell (p := ⟨B, j, none⟩) (cell_lt (h.tm j hj))).trans (h.tm j hj), fun j hj => (hb.cell (p := ⟨B + 1, j, none⟩) (cell_lt (h.fn j hj))).trans (h.fn j hj),
   fun j hj => (hb.cell (p := ⟨B + 2, j, none⟩) (cell_lt (h.st j hj))).trans (h.st j hj), fun j hj => (hb.frozen (p := ⟨B + 2, j, none⟩) (cell_lt (h.st j hj))).trans (h.sf j hj),
   fun j hj => (hb.cell (p := ⟨Z, j, none⟩) (cell_lt (h.zc j hj))).trans (h.zc j hj), fun j hj => (hb.frozen (p := ⟨Z, j, none⟩) (cell_lt (h.zc j hj))).trans (h.zf j hj)⟩
theorem MeetAt.set {B Z : Nat} {o1 p1 o2 p2 t d n : Int} {k : Nat} {w : World} (h : MeetAt B Z o1 p1 o2 p2 t d n k w) (hk : k < 4) (hZ : Z ≠ B + 2) :
    MeetAt B Z o1 p1 o2 p2 t d n (k + 1) (w.setCell ⟨B + 2, k, none⟩ (.int .i64 (locV (mtO o1 o2 k) (mtO p1 p2 k) (mtT t d n k)))) := by
  have oth : ∀ b, b ≠ B + 2 → ∀ j, (w.setCell ⟨B + 2, k, none⟩ (.int .i64 (locV (mtO o1 o2 k) (mtO p1 p2 k) (mtT t d n k)))).cell? ⟨b, j, none⟩ = w.cell? ⟨b, j, none⟩ := fun b hb j =>
    World.cell?_of_block (w := w) (Below.heap_setCell w ⟨B + 2, k, none⟩ _ b hb)
  have othf : ∀ b, b ≠ B + 2 → ∀ j, (w.setCell ⟨B + 2, k, none⟩ (.int .i64 (locV (mtO o1 o2 k) (mtO p1 p2 k) (mtT t d n k)))).frozen? ⟨b, j, none⟩ = w.frozen? ⟨b, j, none⟩ := fun b hb j =>
    World.frozen?_of_block (w := w) (Below.heap_setCell w ⟨B + 2, k, none⟩ _ b hb)
  refine ⟨fun j hj => (oth _ (by omega) j).trans (h.tm j hj), fun j hj => (oth _ (by omega) j).trans (h.fn j hj), fun j hj => ?_, fun j hj => ?_, fun j hj => (oth _ hZ j).trans (h.zc j hj), fun j hj => (othf _ hZ j).trans (h.zf j hj)⟩
  · by_cases e : j = k
    · subst e
      rw [if_pos (by omega)]
      have hc := h.st j hj
      go_simp
    · have hc := h.st j hj
      have e2 : (if j < k + 1 then locV (mtO o1 o2 j) (mtO p1 p2 j) (mtT t d n j) else 0) = (if j < k then locV (mtO o1 o2 j) (mtO p1 p2 j) (mtT t d n j) else 0) := by
        by_cases hjk : j < k
        · rw [if_pos hjk, if_pos (by omega)]
        · rw [if_neg hjk, if_neg (by omega)]
      rw [e2, ← hc]
      refine World.cell?_setCell_other _ _ _ _ ?_
      intro e'
      exact e (congrArg Addr.off e').symm
  · have hf := h.sf j hj
    go_simp

theorem mem_four {P : Nat → Prop} (h0 : P 0) (h1 : P 1) (h2 : P 2) (h3 : P 3) : ∀ j, j < 4 → P j := fun j hj => by
  rcases (by omega : j = 0 ∨ j = 1 ∨ j = 2 ∨ j = 3) with rfl | rfl | rfl | rfl
  · exact h0
  · exact h1
  · exact h2
  · exact h3
theorem meetAt_start (W : World) (Z : Nat) (o1 p1 o2 p2 t d n : Int) (T1 T2 : TypeId) (hz : Z < W.heap.size) (hc : ∀ j, j < 4 → W.cell? ⟨Z, j, none⟩ = some (.int .i64 0)) (hf : ∀ j, j < 4 → W.frozen? ⟨Z, j, none⟩ = false) :
    MeetAt W.heap.size Z o1 p1 o2 p2 t d n 0 (((W.alloc (.cells #[.int .i64 t, .int .i64 (t + d), .int .i64 (t + d + n), .int .i64 (t + 2 * d + n)] T1)).alloc (.cells #[fnR o1 p1, fnR o2 p2, fnR o2 p2, fnR o1 p1] T2)).alloc (.cells #[.int .i64 0, .int .i64 0, .int .i64 0, .int .i64 0] T1)) := by
  have hb : Below W.heap.size W (((W.alloc (.cells #[.int .i64 t, .int .i64 (t + d), .int .i64 (t + d + n), .int .i64 (t + 2 * d + n)] T1)).alloc (.cells #[fnR o1 p1, fnR o2 p2, fnR o2 p2, fnR o1 p1] T2)).alloc (.cells #[.int .i64 0, .int .i64 0, .int .i64 0, .int .i64 0] T1)) :=
    (((Below.refl _ _).alloc (Nat.le_refl _) _).alloc (by simp) _).alloc (by simp <;> omega) _
  refine ⟨mem_four ?_ ?_ ?_ ?_, mem_four ?_ ?_ ?_ ?_, mem_four ?_ ?_ ?_ ?_, mem_four ?_ ?_ ?_ ?_, fun j hj => (hb.cell (p := ⟨Z, j, none⟩) hz).trans (hc j hj), fun j hj => (hb.frozen (p := ⟨Z, j, none⟩) hz).trans (hf j hj)⟩
  · show _ = some (Value.int .i64 t); go_simp
  · show _ = some (Value.int .i64 (t + d)); go_simp
  · show _ = some (Value.int .i64 (t + d + n)); go_simp
  · show _ = some (Value.int .i64 (t + 2 * d + n)); go_simp
  · show _ = some (fnR o1 p1); go_simp
  · show _ = some (fnR o2 p2); go_simp
  · show _ = some (fnR o2 p2); go_simp
  · show _ = some (fnR o1 p1); go_simp
  all_goals first | (show _ = some (Value.int .i64 0); go_simp) | go_simp
/-- What Meet returns. -/
def metOk (o1 p1 o2 p2 t d n : Int) : Bool := okC o1 p1 && okC o2 p2 && timedB t d n
def metE (o1 p1 o2 p2 t d n : Int) : Int := if okC o1 p1 && okC o2 p2 then (if timedB t d n then 0 else 2) else 190
def metV (o1 p1 o2 p2 t d n : Int) (j : Nat) : Int := if metOk o1 p1 o2 p2 t d n then locV (mtO o1 o2 j) (mtO p1 p2 j) (mtT t d n j) else 0
theorem chkC_ok {o p : Int} (h : okC o p = true) (w : World) : Calls Try.prog 34 #[.agg #[.int .i64 o, .int .i64 p]] w fun e w' => e = .returned (.int .i64 0) ∧ Below w.heap.size w w' := by
  have := check_any o p w
  rwa [chk_ok h] at this
theorem chkC_no {o p : Int} (h : okC o p = false) (w : World) : Calls Try.prog 34 #[.agg #[.int .i64 o, .int .i64 p]] w fun e w' => e = .returned (.int .i64 190) ∧ Below w.heap.size w w' := by
  have := check_any o p w
  rwa [chk_no h] at this
theorem ret_x {a b c d e : Int} {a' b' c' d' e' : Int} (h1 : a = a') (h2 : b = b') (h3 : c = c') (h4 : d = d') (h5 : e = e') :
    Ending.returned (.tuple #[.agg #[.int .i64 a, .int .i64 b, .int .i64 c, .int .i64 d], .int .i64 e]) = .returned (.tuple #[.agg #[.int .i64 a', .int .i64 b', .int .i64 c', .int .i64 d'], .int .i64 e']) := by subst h1 h2 h3 h4 h5; rfl
set_option maxRecDepth 100000 in
set_option maxHeartbeats 4000000 in
theorem meet_any (o1 p1 o2 p2 t d n : Int) (w : World) :
    Calls Try.prog 19 #[.agg #[.int .i64 o1, .int .i64 p1], .agg #[.int .i64 o2, .int .i64 p2], .int .i64 t, .int .i64 d, .int .i64 n] w fun e w' =>
      e = .returned (.tuple #[.agg #[.int .i64 (metV o1 p1 o2 p2 t d n 0), .int .i64 (metV o1 p1 o2 p2 t d n 1), .int .i64 (metV o1 p1 o2 p2 t d n 2), .int .i64 (metV o1 p1 o2 p2 t d n 3)], .int .i64 (metE o1 p1 o2 p2 t d n)]) ∧ Below w.heap.size w w' := by
  have i0 : ∀ W, (Instr.index 37 (.agg #[.int .i64 o1, .int .i64 p1, .int .i64 o2, .int .i64 p2]) (.int .i64 0)).run Try.prog W = .ok (.agg #[.int .i64 o1, .int .i64 p1]) W := fun _ => by kernel_rfl
  have i1 : ∀ W, (Instr.index 37 (.agg #[.int .i64 o1, .int .i64 p1, .int .i64 o2, .int .i64 p2]) (.int .i64 1)).run Try.prog W = .ok (.agg #[.int .i64 o2, .int .i64 p2]) W := fun _ => by kernel_rfl
  cases ha : okC o1 p1
  · have HE : Hid (metE o1 p1 o2 p2 t d n = 190) := Lib.hid (by unfold metE; rw [ha]; rfl)
    have HV : Hid (∀ j, metV o1 p1 o2 p2 t d n j = 0) := Lib.hid fun j => by unfold metV metOk; rw [ha]; rfl
    have HC := Lib.hid (chkC_no ha)
    clear ha
    go_enter Try.func19, Try.ntmps19
    go_wp2_with fail
    refine wp_loop_rounds 1 ?_
    rw [rounds_succ]
    go_wp2_with fail
    refine (HC.out _).mono ?_
    rintro e w1 ⟨rfl, hb1⟩
    have hz1_0 : w.heap.size < w1.heap.size := by have := hb1.size; simp at this; omega
    have s1_0_0 : w1.cell? ⟨w.heap.size, 0, none⟩ = some (.int .i64 o1) := (hb1.cell (p := ⟨w.heap.size, 0, none⟩) (by simp <;> omega)).trans (by go_simp)
    have s1_0_1 : w1.cell? ⟨w.heap.size, 1, none⟩ = some (.int .i64 p1) := (hb1.cell (p := ⟨w.heap.size, 1, none⟩) (by simp <;> omega)).trans (by go_simp)
    have hz1_1 : w.heap.size + 1 < w1.heap.size := by have := hb1.size; simp at this; omega
    have s1_1_0 : w1.cell? ⟨w.heap.size + 1, 0, none⟩ = some (.int .i64 o2) := (hb1.cell (p := ⟨w.heap.size + 1, 0, none⟩) (by simp <;> omega)).trans (by go_simp)
    have s1_1_1 : w1.cell? ⟨w.heap.size + 1, 1, none⟩ = some (.int .i64 p2) := (hb1.cell (p := ⟨w.heap.size + 1, 1, none⟩) (by simp <;> omega)).trans (by go_simp)
    have hz1_2 : w.heap.size + 2 < w1.heap.size := by have := hb1.size; simp at this; omega
    have s1_2_0 : w1.cell? ⟨w.heap.size + 2, 0, none⟩ = some (.int .i64 0) := (hb1.cell (p := ⟨w.heap.size + 2, 0, none⟩) (by simp <;> omega)).trans (by go_simp)
    have s1_2_1 : w1.cell? ⟨w.heap.size + 2, 1, none⟩ = some (.int .i64 0) := (hb1.cell (p := ⟨w.heap.size + 2, 1, none⟩) (by simp <;> omega)).trans (by go_simp)
    have s1_2_2 : w1.cell? ⟨w.heap.size + 2, 2, none⟩ = some (.int .i64 0) := (hb1.cell (p := ⟨w.heap.size + 2, 2, none⟩) (by simp <;> omega)).trans (by go_simp)
    have s1_2_3 : w1.cell? ⟨w.heap.size + 2, 3, none⟩ = some (.int .i64 0) := (hb1.cell (p := ⟨w.heap.size + 2, 3, none⟩) (by simp <;> omega)).trans (by go_simp)
    have z1_2_0 : w1.frozen? ⟨w.heap.size + 2, 0, none⟩ = false := (hb1.frozen (p := ⟨w.heap.size + 2, 0, none⟩) (by simp <;> omega)).trans (by go_simp)
    have z1_2_1 : w1.frozen? ⟨w.heap.size + 2, 1, none⟩ = false := (hb1.frozen (p := ⟨w.heap.size + 2, 1, none⟩) (by simp <;> omega)).trans (by go_simp)
    have z1_2_2 : w1.frozen? ⟨w.heap.size + 2, 2, none⟩ = false := (hb1.frozen (p := ⟨w.heap.size + 2, 2, none⟩) (by simp <;> omega)).trans (by go_simp)
    have z1_2_3 : w1.frozen? ⟨w.heap.size + 2, 3, none⟩ = false := (hb1.frozen (p := ⟨w.heap.size + 2, 3, none⟩) (by simp <;> omega)).trans (by go_simp)
    have H1 : Below w.heap.size w w1 := (((((Below.refl _ _).alloc (Nat.le_refl _) _).alloc (by simp <;> omega) _).alloc (by simp <;> omega) _).alloc (by simp <;> omega) _).trans (hb1.mono (by simp <;> omega))
    clear hb1
    go_wp2_with fail
    exact bodyPost_ret (v := .tuple #[.agg #[.int .i64 0, .int .i64 0, .int .i64 0, .int .i64 0], .int .i64 190]) (by simp [results, Try.results19, go_sem, s1_2_0, s1_2_1, s1_2_2, s1_2_3]) rfl ⟨ret_x (HV.out 0).symm (HV.out 1).symm (HV.out 2).symm (HV.out 3).symm HE.out.symm, (((H1.setCell (by simp <;> omega) _).setCell (by simp <;> omega) _).setCell (by simp <;> omega) _).setCell (by simp <;> omega) _⟩
  · have HA := Lib.hid (chkC_ok ha)
    cases hb : okC o2 p2
    · have HE : Hid (metE o1 p1 o2 p2 t d n = 190) := Lib.hid (by unfold metE; rw [ha, hb]; rfl)
      have HV : Hid (∀ j, metV o1 p1 o2 p2 t d n j = 0) := Lib.hid fun j => by unfold metV metOk; rw [ha, hb]; rfl
      have HB := Lib.hid (chkC_no hb)
      clear ha hb
      go_enter Try.func19, Try.ntmps19
      go_wp2_with fail
      refine wp_loop_rounds 2 ?_
      rw [rounds_succ]
      go_wp2_with fail
      refine (HA.out _).mono ?_
      rintro e w1 ⟨rfl, hb1⟩
      have hz1_0 : w.heap.size < w1.heap.size := by have := hb1.size; simp at this; omega
      have s1_0_0 : w1.cell? ⟨w.heap.size, 0, none⟩ = some (.int .i64 o1) := (hb1.cell (p := ⟨w.heap.size, 0, none⟩) (by simp <;> omega)).trans (by go_simp)
      have s1_0_1 : w1.cell? ⟨w.heap.size, 1, none⟩ = some (.int .i64 p1) := (hb1.cell (p := ⟨w.heap.size, 1, none⟩) (by simp <;> omega)).trans (by go_simp)
      have hz1_1 : w.heap.size + 1 < w1.heap.size := by have := hb1.size; simp at this; omega
      have s1_1_0 : w1.cell? ⟨w.heap.size + 1, 0, none⟩ = some (.int .i64 o2) := (hb1.cell (p := ⟨w.heap.size + 1, 0, none⟩) (by simp <;> omega)).trans (by go_simp)
      have s1_1_1 : w1.cell? ⟨w.heap.size + 1, 1, none⟩ = some (.int .i64 p2) := (hb1.cell (p := ⟨w.heap.size + 1, 1, none⟩) (by simp <;> omega)).trans (by go_simp)
      have hz1_2 : w.heap.size + 2 < w1.heap.size := by have := hb1.size; simp at this; omega
      have s1_2_0 : w1.cell? ⟨w.heap.size + 2, 0, none⟩ = some (.int .i64 0) := (hb1.cell (p := ⟨w.heap.size + 2, 0, none⟩) (by simp <;> omega)).trans (by go_simp)
      have s1_2_1 : w1.cell? ⟨w.heap.size + 2, 1, none⟩ = some (.int .i64 0) := (hb1.cell (p := ⟨w.heap.size + 2, 1, none⟩) (by simp <;> omega)).trans (by go_simp)
      have s1_2_2 : w1.cell? ⟨w.heap.size + 2, 2, none⟩ = some (.int .i64 0) := (hb1.cell (p := ⟨w.heap.size + 2, 2, none⟩) (by simp <;> omega)).trans (by go_simp)
      have s1_2_3 : w1.cell? ⟨w.heap.size + 2, 3, none⟩ = some (.int .i64 0) := (hb1.cell (p := ⟨w.heap.size + 2, 3, none⟩) (by simp <;> omega)).trans (by go_simp)
      have z1_2_0 : w1.frozen? ⟨w.heap.size + 2, 0, none⟩ = false := (hb1.frozen (p := ⟨w.heap.size + 2, 0, none⟩) (by simp <;> omega)).trans (by go_simp)
      have z1_2_1 : w1.frozen? ⟨w.heap.size + 2, 1, none⟩ = false := (hb1.frozen (p := ⟨w.heap.size + 2, 1, none⟩) (by simp <;> omega)).trans (by go_simp)
      have z1_2_2 : w1.frozen? ⟨w.heap.size + 2, 2, none⟩ = false := (hb1.frozen (p := ⟨w.heap.size + 2, 2, none⟩) (by simp <;> omega)).trans (by go_simp)
      have z1_2_3 : w1.frozen? ⟨w.heap.size + 2, 3, none⟩ = false := (hb1.frozen (p := ⟨w.heap.size + 2, 3, none⟩) (by simp <;> omega)).trans (by go_simp)
      have H1 : Below w.heap.size w w1 := (((((Below.refl _ _).alloc (Nat.le_refl _) _).alloc (by simp <;> omega) _).alloc (by simp <;> omega) _).alloc (by simp <;> omega) _).trans (hb1.mono (by simp <;> omega))
      clear hb1
      go_wp2_with fail
      rw [rounds_succ]
      go_wp2_with fail
      refine (HB.out _).mono ?_
      rintro e w2 ⟨rfl, hb2⟩
      have hz2_0 : w.heap.size < w2.heap.size := by have := hb2.size; simp at this; omega
      have s2_0_0 : w2.cell? ⟨w.heap.size, 0, none⟩ = some (.int .i64 o1) := (hb2.cell (p := ⟨w.heap.size, 0, none⟩) (by simp <;> omega)).trans (by go_simp)
      have s2_0_1 : w2.cell? ⟨w.heap.size, 1, none⟩ = some (.int .i64 p1) := (hb2.cell (p := ⟨w.heap.size, 1, none⟩) (by simp <;> omega)).trans (by go_simp)
      have hz2_1 : w.heap.size + 1 < w2.heap.size := by have := hb2.size; simp at this; omega
      have s2_1_0 : w2.cell? ⟨w.heap.size + 1, 0, none⟩ = some (.int .i64 o2) := (hb2.cell (p := ⟨w.heap.size + 1, 0, none⟩) (by simp <;> omega)).trans (by go_simp)
      have s2_1_1 : w2.cell? ⟨w.heap.size + 1, 1, none⟩ = some (.int .i64 p2) := (hb2.cell (p := ⟨w.heap.size + 1, 1, none⟩) (by simp <;> omega)).trans (by go_simp)
      have hz2_2 : w.heap.size + 2 < w2.heap.size := by have := hb2.size; simp at this; omega
      have s2_2_0 : w2.cell? ⟨w.heap.size + 2, 0, none⟩ = some (.int .i64 0) := (hb2.cell (p := ⟨w.heap.size + 2, 0, none⟩) (by simp <;> omega)).trans (by go_simp)
      have s2_2_1 : w2.cell? ⟨w.heap.size + 2, 1, none⟩ = some (.int .i64 0) := (hb2.cell (p := ⟨w.heap.size + 2, 1, none⟩) (by simp <;> omega)).trans (by go_simp)
      have s2_2_2 : w2.cell? ⟨w.heap.size + 2, 2, none⟩ = some (.int .i64 0) := (hb2.cell (p := ⟨w.heap.size + 2, 2, none⟩) (by simp <;> omega)).trans (by go_simp)
      have s2_2_3 : w2.cell? ⟨w.heap.size + 2, 3, none⟩ = some (.int .i64 0) := (hb2.cell (p := ⟨w.heap.size + 2, 3, none⟩) (by simp <;> omega)).trans (by go_simp)
      have z2_2_0 : w2.frozen? ⟨w.heap.size + 2, 0, none⟩ = false := (hb2.frozen (p := ⟨w.heap.size + 2, 0, none⟩) (by simp <;> omega)).trans (by go_simp)
      have z2_2_1 : w2.frozen? ⟨w.heap.size + 2, 1, none⟩ = false := (hb2.frozen (p := ⟨w.heap.size + 2, 1, none⟩) (by simp <;> omega)).trans (by go_simp)
      have z2_2_2 : w2.frozen? ⟨w.heap.size + 2, 2, none⟩ = false := (hb2.frozen (p := ⟨w.heap.size + 2, 2, none⟩) (by simp <;> omega)).trans (by go_simp)
      have z2_2_3 : w2.frozen? ⟨w.heap.size + 2, 3, none⟩ = false := (hb2.frozen (p := ⟨w.heap.size + 2, 3, none⟩) (by simp <;> omega)).trans (by go_simp)
      have H2 : Below w.heap.size w w2 := (H1.alloc H1.size _).trans (hb2.mono (by have := H1.size; simp <;> omega))
      clear hz1_0 s1_0_0 s1_0_1 hz1_1 s1_1_0 s1_1_1 hz1_2 s1_2_0 s1_2_1 s1_2_2 s1_2_3 z1_2_0 z1_2_1 z1_2_2 z1_2_3 hb2 H1
      go_wp2_with fail
      exact bodyPost_ret (v := .tuple #[.agg #[.int .i64 0, .int .i64 0, .int .i64 0, .int .i64 0], .int .i64 190]) (by simp [results, Try.results19, go_sem, s2_2_0, s2_2_1, s2_2_2, s2_2_3]) rfl ⟨ret_x (HV.out 0).symm (HV.out 1).symm (HV.out 2).symm (HV.out 3).symm HE.out.symm, (((H2.setCell (by simp <;> omega) _).setCell (by simp <;> omega) _).setCell (by simp <;> omega) _).setCell (by simp <;> omega) _⟩
    · have HB := Lib.hid (chkC_ok hb)
      have HT := Lib.hid fun w => timed_any t d n w
      cases ht : timedB t d n
      · have HE : Hid (metE o1 p1 o2 p2 t d n = 2) := Lib.hid (by unfold metE; rw [ha, hb, ht]; rfl)
        have HV : Hid (∀ j, metV o1 p1 o2 p2 t d n j = 0) := Lib.hid fun j => by unfold metV metOk; rw [ha, hb, ht]; rfl
        rw [ht] at HT
        clear ha hb ht
        go_enter Try.func19, Try.ntmps19
        go_wp2_with fail
        refine wp_loop_rounds 3 ?_
        rw [rounds_succ]
        go_wp2_with fail
        refine (HA.out _).mono ?_
        rintro e w1 ⟨rfl, hb1⟩
        have hz1_0 : w.heap.size < w1.heap.size := by have := hb1.size; simp at this; omega
        have s1_0_0 : w1.cell? ⟨w.heap.size, 0, none⟩ = some (.int .i64 o1) := (hb1.cell (p := ⟨w.heap.size, 0, none⟩) (by simp <;> omega)).trans (by go_simp)
        have s1_0_1 : w1.cell? ⟨w.heap.size, 1, none⟩ = some (.int .i64 p1) := (hb1.cell (p := ⟨w.heap.size, 1, none⟩) (by simp <;> omega)).trans (by go_simp)
        have hz1_1 : w.heap.size + 1 < w1.heap.size := by have := hb1.size; simp at this; omega
        have s1_1_0 : w1.cell? ⟨w.heap.size + 1, 0, none⟩ = some (.int .i64 o2) := (hb1.cell (p := ⟨w.heap.size + 1, 0, none⟩) (by simp <;> omega)).trans (by go_simp)
        have s1_1_1 : w1.cell? ⟨w.heap.size + 1, 1, none⟩ = some (.int .i64 p2) := (hb1.cell (p := ⟨w.heap.size + 1, 1, none⟩) (by simp <;> omega)).trans (by go_simp)
        have hz1_2 : w.heap.size + 2 < w1.heap.size := by have := hb1.size; simp at this; omega
        have s1_2_0 : w1.cell? ⟨w.heap.size + 2, 0, none⟩ = some (.int .i64 0) := (hb1.cell (p := ⟨w.heap.size + 2, 0, none⟩) (by simp <;> omega)).trans (by go_simp)
        have s1_2_1 : w1.cell? ⟨w.heap.size + 2, 1, none⟩ = some (.int .i64 0) := (hb1.cell (p := ⟨w.heap.size + 2, 1, none⟩) (by simp <;> omega)).trans (by go_simp)
        have s1_2_2 : w1.cell? ⟨w.heap.size + 2, 2, none⟩ = some (.int .i64 0) := (hb1.cell (p := ⟨w.heap.size + 2, 2, none⟩) (by simp <;> omega)).trans (by go_simp)
        have s1_2_3 : w1.cell? ⟨w.heap.size + 2, 3, none⟩ = some (.int .i64 0) := (hb1.cell (p := ⟨w.heap.size + 2, 3, none⟩) (by simp <;> omega)).trans (by go_simp)
        have z1_2_0 : w1.frozen? ⟨w.heap.size + 2, 0, none⟩ = false := (hb1.frozen (p := ⟨w.heap.size + 2, 0, none⟩) (by simp <;> omega)).trans (by go_simp)
        have z1_2_1 : w1.frozen? ⟨w.heap.size + 2, 1, none⟩ = false := (hb1.frozen (p := ⟨w.heap.size + 2, 1, none⟩) (by simp <;> omega)).trans (by go_simp)
        have z1_2_2 : w1.frozen? ⟨w.heap.size + 2, 2, none⟩ = false := (hb1.frozen (p := ⟨w.heap.size + 2, 2, none⟩) (by simp <;> omega)).trans (by go_simp)
        have z1_2_3 : w1.frozen? ⟨w.heap.size + 2, 3, none⟩ = false := (hb1.frozen (p := ⟨w.heap.size + 2, 3, none⟩) (by simp <;> omega)).trans (by go_simp)
        have H1 : Below w.heap.size w w1 := (((((Below.refl _ _).alloc (Nat.le_refl _) _).alloc (by simp <;> omega) _).alloc (by simp <;> omega) _).alloc (by simp <;> omega) _).trans (hb1.mono (by simp <;> omega))
        clear hb1
        go_wp2_with fail
        rw [rounds_succ]
        go_wp2_with fail
        refine (HB.out _).mono ?_
        rintro e w2 ⟨rfl, hb2⟩
        have hz2_0 : w.heap.size < w2.heap.size := by have := hb2.size; simp at this; omega
        have s2_0_0 : w2.cell? ⟨w.heap.size, 0, none⟩ = some (.int .i64 o1) := (hb2.cell (p := ⟨w.heap.size, 0, none⟩) (by simp <;> omega)).trans (by go_simp)
        have s2_0_1 : w2.cell? ⟨w.heap.size, 1, none⟩ = some (.int .i64 p1) := (hb2.cell (p := ⟨w.heap.size, 1, none⟩) (by simp <;> omega)).trans (by go_simp)
        have hz2_1 : w.heap.size + 1 < w2.heap.size := by have := hb2.size; simp at this; omega
        have s2_1_0 : w2.cell? ⟨w.heap.size + 1, 0, none⟩ = some (.int .i64 o2) := (hb2.cell (p := ⟨w.heap.size + 1, 0, none⟩) (by simp <;> omega)).trans (by go_simp)
        have s2_1_1 : w2.cell? ⟨w.heap.size + 1, 1, none⟩ = some (.int .i64 p2) := (hb2.cell (p := ⟨w.heap.size + 1, 1, none⟩) (by simp <;> omega)).trans (by go_simp)
        have hz2_2 : w.heap.size + 2 < w2.heap.size := by have := hb2.size; simp at this; omega
        have s2_2_0 : w2.cell? ⟨w.heap.size + 2, 0, none⟩ = some (.int .i64 0) := (hb2.cell (p := ⟨w.heap.size + 2, 0, none⟩) (by simp <;> omega)).trans (by go_simp)
        have s2_2_1 : w2.cell? ⟨w.heap.size + 2, 1, none⟩ = some (.int .i64 0) := (hb2.cell (p := ⟨w.heap.size + 2, 1, none⟩) (by simp <;> omega)).trans (by go_simp)
        have s2_2_2 : w2.cell? ⟨w.heap.size + 2, 2, none⟩ = some (.int .i64 0) := (hb2.cell (p := ⟨w.heap.size + 2, 2, none⟩) (by simp <;> omega)).trans (by go_simp)
        have s2_2_3 : w2.cell? ⟨w.heap.size + 2, 3, none⟩ = some (.int .i64 0) := (hb2.cell (p := ⟨w.heap.size + 2, 3, none⟩) (by simp <;> omega)).trans (by go_simp)
        have z2_2_0 : w2.frozen? ⟨w.heap.size + 2, 0, none⟩ = false := (hb2.frozen (p := ⟨w.heap.size + 2, 0, none⟩) (by simp <;> omega)).trans (by go_simp)
        have z2_2_1 : w2.frozen? ⟨w.heap.size + 2, 1, none⟩ = false := (hb2.frozen (p := ⟨w.heap.size + 2, 1, none⟩) (by simp <;> omega)).trans (by go_simp)
        have z2_2_2 : w2.frozen? ⟨w.heap.size + 2, 2, none⟩ = false := (hb2.frozen (p := ⟨w.heap.size + 2, 2, none⟩) (by simp <;> omega)).trans (by go_simp)
        have z2_2_3 : w2.frozen? ⟨w.heap.size + 2, 3, none⟩ = false := (hb2.frozen (p := ⟨w.heap.size + 2, 3, none⟩) (by simp <;> omega)).trans (by go_simp)
        have H2 : Below w.heap.size w w2 := (H1.alloc H1.size _).trans (hb2.mono (by have := H1.size; simp <;> omega))
        clear hz1_0 s1_0_0 s1_0_1 hz1_1 s1_1_0 s1_1_1 hz1_2 s1_2_0 s1_2_1 s1_2_2 s1_2_3 z1_2_0 z1_2_1 z1_2_2 z1_2_3 hb2 H1
        go_wp2_with fail
        rw [rounds_succ]
        go_wp2_with fail
        refine (HT.out _).mono ?_
        rintro e w3 ⟨rfl, hb3⟩
        have hz3_0 := Nat.lt_of_lt_of_le hz2_0 hb3.size
        have s3_0_0 := (hb3.cell (p := ⟨w.heap.size, 0, none⟩) hz2_0).trans s2_0_0
        have s3_0_1 := (hb3.cell (p := ⟨w.heap.size, 1, none⟩) hz2_0).trans s2_0_1
        have hz3_1 := Nat.lt_of_lt_of_le hz2_1 hb3.size
        have s3_1_0 := (hb3.cell (p := ⟨w.heap.size + 1, 0, none⟩) hz2_1).trans s2_1_0
        have s3_1_1 := (hb3.cell (p := ⟨w.heap.size + 1, 1, none⟩) hz2_1).trans s2_1_1
        have hz3_2 := Nat.lt_of_lt_of_le hz2_2 hb3.size
        have s3_2_0 := (hb3.cell (p := ⟨w.heap.size + 2, 0, none⟩) hz2_2).trans s2_2_0
        have s3_2_1 := (hb3.cell (p := ⟨w.heap.size + 2, 1, none⟩) hz2_2).trans s2_2_1
        have s3_2_2 := (hb3.cell (p := ⟨w.heap.size + 2, 2, none⟩) hz2_2).trans s2_2_2
        have s3_2_3 := (hb3.cell (p := ⟨w.heap.size + 2, 3, none⟩) hz2_2).trans s2_2_3
        have z3_2_0 := (hb3.frozen (p := ⟨w.heap.size + 2, 0, none⟩) hz2_2).trans z2_2_0
        have z3_2_1 := (hb3.frozen (p := ⟨w.heap.size + 2, 1, none⟩) hz2_2).trans z2_2_1
        have z3_2_2 := (hb3.frozen (p := ⟨w.heap.size + 2, 2, none⟩) hz2_2).trans z2_2_2
        have z3_2_3 := (hb3.frozen (p := ⟨w.heap.size + 2, 3, none⟩) hz2_2).trans z2_2_3
        have H3 := H2.trans (hb3.mono H2.size)
        clear hz2_0 s2_0_0 s2_0_1 hz2_1 s2_1_0 s2_1_1 hz2_2 s2_2_0 s2_2_1 s2_2_2 s2_2_3 z2_2_0 z2_2_1 z2_2_2 z2_2_3 hb3 H2
        go_wp2_with fail
        exact bodyPost_ret (v := .tuple #[.agg #[.int .i64 0, .int .i64 0, .int .i64 0, .int .i64 0], .int .i64 2]) (by simp [results, Try.results19, go_sem, s3_2_0, s3_2_1, s3_2_2, s3_2_3]) rfl ⟨ret_x (HV.out 0).symm (HV.out 1).symm (HV.out 2).symm (HV.out 3).symm HE.out.symm, (((H3.setCell (by simp <;> omega) _).setCell (by simp <;> omega) _).setCell (by simp <;> omega) _).setCell (by simp <;> omega) _⟩
      · have HE : Hid (metE o1 p1 o2 p2 t d n = 0) := Lib.hid (by unfold metE; rw [ha, hb, ht]; rfl)
        have HV : Hid (∀ j, metV o1 p1 o2 p2 t d n j = locV (mtO o1 o2 j) (mtO p1 p2 j) (mtT t d n j)) := Lib.hid fun j => by unfold metV metOk; rw [ha, hb, ht]; rfl
        rw [ht] at HT
        rw [timedB_iff] at ht
        obtain ⟨⟨t0, t1⟩, ⟨d0, d1⟩, ⟨n0, n1⟩, s1⟩ := ht
        clear ha hb
        go_enter Try.func19, Try.ntmps19
        go_wp2_with fail
        refine wp_loop_rounds 3 ?_
        rw [rounds_succ]
        go_wp2_with fail
        refine (HA.out _).mono ?_
        rintro e w1 ⟨rfl, hb1⟩
        have hz1_0 : w.heap.size < w1.heap.size := by have := hb1.size; simp at this; omega
        have s1_0_0 : w1.cell? ⟨w.heap.size, 0, none⟩ = some (.int .i64 o1) := (hb1.cell (p := ⟨w.heap.size, 0, none⟩) (by simp <;> omega)).trans (by go_simp)
        have s1_0_1 : w1.cell? ⟨w.heap.size, 1, none⟩ = some (.int .i64 p1) := (hb1.cell (p := ⟨w.heap.size, 1, none⟩) (by simp <;> omega)).trans (by go_simp)
        have hz1_1 : w.heap.size + 1 < w1.heap.size := by have := hb1.size; simp at this; omega
        have s1_1_0 : w1.cell? ⟨w.heap.size + 1, 0, none⟩ = some (.int .i64 o2) := (hb1.cell (p := ⟨w.heap.size + 1, 0, none⟩) (by simp <;> omega)).trans (by go_simp)
        have s1_1_1 : w1.cell? ⟨w.heap.size + 1, 1, none⟩ = some (.int .i64 p2) := (hb1.cell (p := ⟨w.heap.size + 1, 1, none⟩) (by simp <;> omega)).trans (by go_simp)
        have hz1_2 : w.heap.size + 2 < w1.heap.size := by have := hb1.size; simp at this; omega
        have s1_2_0 : w1.cell? ⟨w.heap.size + 2, 0, none⟩ = some (.int .i64 0) := (hb1.cell (p := ⟨w.heap.size + 2, 0, none⟩) (by simp <;> omega)).trans (by go_simp)
        have s1_2_1 : w1.cell? ⟨w.heap.size + 2, 1, none⟩ = some (.int .i64 0) := (hb1.cell (p := ⟨w.heap.size + 2, 1, none⟩) (by simp <;> omega)).trans (by go_simp)
        have s1_2_2 : w1.cell? ⟨w.heap.size + 2, 2, none⟩ = some (.int .i64 0) := (hb1.cell (p := ⟨w.heap.size + 2, 2, none⟩) (by simp <;> omega)).trans (by go_simp)
        have s1_2_3 : w1.cell? ⟨w.heap.size + 2, 3, none⟩ = some (.int .i64 0) := (hb1.cell (p := ⟨w.heap.size + 2, 3, none⟩) (by simp <;> omega)).trans (by go_simp)
        have z1_2_0 : w1.frozen? ⟨w.heap.size + 2, 0, none⟩ = false := (hb1.frozen (p := ⟨w.heap.size + 2, 0, none⟩) (by simp <;> omega)).trans (by go_simp)
        have z1_2_1 : w1.frozen? ⟨w.heap.size + 2, 1, none⟩ = false := (hb1.frozen (p := ⟨w.heap.size + 2, 1, none⟩) (by simp <;> omega)).trans (by go_simp)
        have z1_2_2 : w1.frozen? ⟨w.heap.size + 2, 2, none⟩ = false := (hb1.frozen (p := ⟨w.heap.size + 2, 2, none⟩) (by simp <;> omega)).trans (by go_simp)
        have z1_2_3 : w1.frozen? ⟨w.heap.size + 2, 3, none⟩ = false := (hb1.frozen (p := ⟨w.heap.size + 2, 3, none⟩) (by simp <;> omega)).trans (by go_simp)
        have H1 : Below w.heap.size w w1 := (((((Below.refl _ _).alloc (Nat.le_refl _) _).alloc (by simp <;> omega) _).alloc (by simp <;> omega) _).alloc (by simp <;> omega) _).trans (hb1.mono (by simp <;> omega))
        clear hb1
        go_wp2_with fail
        rw [rounds_succ]
        go_wp2_with fail
        refine (HB.out _).mono ?_
        rintro e w2 ⟨rfl, hb2⟩
        have hz2_0 : w.heap.size < w2.heap.size := by have := hb2.size; simp at this; omega
        have s2_0_0 : w2.cell? ⟨w.heap.size, 0, none⟩ = some (.int .i64 o1) := (hb2.cell (p := ⟨w.heap.size, 0, none⟩) (by simp <;> omega)).trans (by go_simp)
        have s2_0_1 : w2.cell? ⟨w.heap.size, 1, none⟩ = some (.int .i64 p1) := (hb2.cell (p := ⟨w.heap.size, 1, none⟩) (by simp <;> omega)).trans (by go_simp)
        have hz2_1 : w.heap.size + 1 < w2.heap.size := by have := hb2.size; simp at this; omega
        have s2_1_0 : w2.cell? ⟨w.heap.size + 1, 0, none⟩ = some (.int .i64 o2) := (hb2.cell (p := ⟨w.heap.size + 1, 0, none⟩) (by simp <;> omega)).trans (by go_simp)
        have s2_1_1 : w2.cell? ⟨w.heap.size + 1, 1, none⟩ = some (.int .i64 p2) := (hb2.cell (p := ⟨w.heap.size + 1, 1, none⟩) (by simp <;> omega)).trans (by go_simp)
        have hz2_2 : w.heap.size + 2 < w2.heap.size := by have := hb2.size; simp at this; omega
        have s2_2_0 : w2.cell? ⟨w.heap.size + 2, 0, none⟩ = some (.int .i64 0) := (hb2.cell (p := ⟨w.heap.size + 2, 0, none⟩) (by simp <;> omega)).trans (by go_simp)
        have s2_2_1 : w2.cell? ⟨w.heap.size + 2, 1, none⟩ = some (.int .i64 0) := (hb2.cell (p := ⟨w.heap.size + 2, 1, none⟩) (by simp <;> omega)).trans (by go_simp)
        have s2_2_2 : w2.cell? ⟨w.heap.size + 2, 2, none⟩ = some (.int .i64 0) := (hb2.cell (p := ⟨w.heap.size + 2, 2, none⟩) (by simp <;> omega)).trans (by go_simp)
        have s2_2_3 : w2.cell? ⟨w.heap.size + 2, 3, none⟩ = some (.int .i64 0) := (hb2.cell (p := ⟨w.heap.size + 2, 3, none⟩) (by simp <;> omega)).trans (by go_simp)
        have z2_2_0 : w2.frozen? ⟨w.heap.size + 2, 0, none⟩ = false := (hb2.frozen (p := ⟨w.heap.size + 2, 0, none⟩) (by simp <;> omega)).trans (by go_simp)
        have z2_2_1 : w2.frozen? ⟨w.heap.size + 2, 1, none⟩ = false := (hb2.frozen (p := ⟨w.heap.size + 2, 1, none⟩) (by simp <;> omega)).trans (by go_simp)
        have z2_2_2 : w2.frozen? ⟨w.heap.size + 2, 2, none⟩ = false := (hb2.frozen (p := ⟨w.heap.size + 2, 2, none⟩) (by simp <;> omega)).trans (by go_simp)
        have z2_2_3 : w2.frozen? ⟨w.heap.size + 2, 3, none⟩ = false := (hb2.frozen (p := ⟨w.heap.size + 2, 3, none⟩) (by simp <;> omega)).trans (by go_simp)
        have H2 : Below w.heap.size w w2 := (H1.alloc H1.size _).trans (hb2.mono (by have := H1.size; simp <;> omega))
        clear hz1_0 s1_0_0 s1_0_1 hz1_1 s1_1_0 s1_1_1 hz1_2 s1_2_0 s1_2_1 s1_2_2 s1_2_3 z1_2_0 z1_2_1 z1_2_2 z1_2_3 hb2 H1
        go_wp2_with fail
        rw [rounds_succ]
        go_wp2_with fail
        refine (HT.out _).mono ?_
        rintro e w3 ⟨rfl, hb3⟩
        have hz3_0 := Nat.lt_of_lt_of_le hz2_0 hb3.size
        have s3_0_0 := (hb3.cell (p := ⟨w.heap.size, 0, none⟩) hz2_0).trans s2_0_0
        have s3_0_1 := (hb3.cell (p := ⟨w.heap.size, 1, none⟩) hz2_0).trans s2_0_1
        have hz3_1 := Nat.lt_of_lt_of_le hz2_1 hb3.size
        have s3_1_0 := (hb3.cell (p := ⟨w.heap.size + 1, 0, none⟩) hz2_1).trans s2_1_0
        have s3_1_1 := (hb3.cell (p := ⟨w.heap.size + 1, 1, none⟩) hz2_1).trans s2_1_1
        have hz3_2 := Nat.lt_of_lt_of_le hz2_2 hb3.size
        have s3_2_0 := (hb3.cell (p := ⟨w.heap.size + 2, 0, none⟩) hz2_2).trans s2_2_0
        have s3_2_1 := (hb3.cell (p := ⟨w.heap.size + 2, 1, none⟩) hz2_2).trans s2_2_1
        have s3_2_2 := (hb3.cell (p := ⟨w.heap.size + 2, 2, none⟩) hz2_2).trans s2_2_2
        have s3_2_3 := (hb3.cell (p := ⟨w.heap.size + 2, 3, none⟩) hz2_2).trans s2_2_3
        have z3_2_0 := (hb3.frozen (p := ⟨w.heap.size + 2, 0, none⟩) hz2_2).trans z2_2_0
        have z3_2_1 := (hb3.frozen (p := ⟨w.heap.size + 2, 1, none⟩) hz2_2).trans z2_2_1
        have z3_2_2 := (hb3.frozen (p := ⟨w.heap.size + 2, 2, none⟩) hz2_2).trans z2_2_2
        have z3_2_3 := (hb3.frozen (p := ⟨w.heap.size + 2, 3, none⟩) hz2_2).trans z2_2_3
        have H3 := H2.trans (hb3.mono H2.size)
        clear hz2_0 s2_0_0 s2_0_1 hz2_1 s2_1_0 s2_1_1 hz2_2 s2_2_0 s2_2_1 s2_2_2 s2_2_3 z2_2_0 z2_2_1 z2_2_2 z2_2_3 hb3 H2
        go_wp2_with fail
        have F0 := Bw.cell hz3_0 s3_0_0
        have F1 := Bw.cell hz3_0 s3_0_1
        have F2 := Bw.cell hz3_1 s3_1_0
        have F3 := Bw.cell hz3_1 s3_1_1
        have F4 := Bw.cell hz3_2 s3_2_0
        have F5 := Bw.cell hz3_2 s3_2_1
        have F6 := Bw.cell hz3_2 s3_2_2
        have F7 := Bw.cell hz3_2 s3_2_3
        refine wp_region_bw (by kernel_rfl) (by kernel_rfl) ?_
        repeat (go_big_quiet_step (fail))
        refine wpQuiet_nil ?_
        rintro w4 ⟨⟨_, hb4⟩, rfl⟩
        clear F0 F1 F2 F3 F4 F5 F6 F7
        have hz4_0 := Nat.lt_of_lt_of_le hz3_0 hb4.size
        have s4_0_0 := (hb4.cell (p := ⟨w.heap.size, 0, none⟩) hz3_0).trans s3_0_0
        have s4_0_1 := (hb4.cell (p := ⟨w.heap.size, 1, none⟩) hz3_0).trans s3_0_1
        have hz4_1 := Nat.lt_of_lt_of_le hz3_1 hb4.size
        have s4_1_0 := (hb4.cell (p := ⟨w.heap.size + 1, 0, none⟩) hz3_1).trans s3_1_0
        have s4_1_1 := (hb4.cell (p := ⟨w.heap.size + 1, 1, none⟩) hz3_1).trans s3_1_1
        have hz4_2 := Nat.lt_of_lt_of_le hz3_2 hb4.size
        have s4_2_0 := (hb4.cell (p := ⟨w.heap.size + 2, 0, none⟩) hz3_2).trans s3_2_0
        have s4_2_1 := (hb4.cell (p := ⟨w.heap.size + 2, 1, none⟩) hz3_2).trans s3_2_1
        have s4_2_2 := (hb4.cell (p := ⟨w.heap.size + 2, 2, none⟩) hz3_2).trans s3_2_2
        have s4_2_3 := (hb4.cell (p := ⟨w.heap.size + 2, 3, none⟩) hz3_2).trans s3_2_3
        have z4_2_0 := (hb4.frozen (p := ⟨w.heap.size + 2, 0, none⟩) hz3_2).trans z3_2_0
        have z4_2_1 := (hb4.frozen (p := ⟨w.heap.size + 2, 1, none⟩) hz3_2).trans z3_2_1
        have z4_2_2 := (hb4.frozen (p := ⟨w.heap.size + 2, 2, none⟩) hz3_2).trans z3_2_2
        have z4_2_3 := (hb4.frozen (p := ⟨w.heap.size + 2, 3, none⟩) hz3_2).trans z3_2_3
        have H4 := H3.trans (hb4.mono H3.size)
        clear hz3_0 s3_0_0 s3_0_1 hz3_1 s3_1_0 s3_1_1 hz3_2 s3_2_0 s3_2_1 s3_2_2 s3_2_3 z3_2_0 z3_2_1 z3_2_2 z3_2_3 hb4 H3
        have HMA := meetAt_start w4 (w.heap.size + 2) o1 p1 o2 p2 t d n 71 72 (by omega) (mem_four s4_2_0 s4_2_1 s4_2_2 s4_2_3) (mem_four z4_2_0 z4_2_1 z4_2_2 z4_2_3)
        have hwz : w.heap.size + 2 < w4.heap.size := by omega
        have H5 : Below w.heap.size w (((w4.alloc (.cells #[.int .i64 t, .int .i64 (t + d), .int .i64 (t + d + n), .int .i64 (t + 2 * d + n)] 71)).alloc (.cells #[fnR o1 p1, fnR o2 p2, fnR o2 p2, fnR o1 p1] 72)).alloc (.cells #[.int .i64 0, .int .i64 0, .int .i64 0, .int .i64 0] 71)) := (((H4.alloc H4.size _).alloc (by have := H4.size; simp <;> omega) _).alloc (by have := H4.size; simp <;> omega) _)
        have hBw : w.heap.size ≤ w4.heap.size := H4.size
        go_wp2_with fail
        clear s4_0_0 s4_0_1 s4_1_0 s4_1_1 s4_2_0 s4_2_1 s4_2_2 s4_2_3 z4_2_0 z4_2_1 z4_2_2 z4_2_3
        go_loopw [67] (fun i wr => ∃ k : Nat, k ≤ 4 ∧ i = .int .i64 k ∧ Below w.heap.size w wr ∧ MeetAt w4.heap.size (w.heap.size + 2) o1 p1 o2 p2 t d n k wr) (fun i _ => 4 - (intOf i).toNat)
        case atStart => exact ⟨0, by omega, rfl, H5, HMA⟩
        case round =>
          clear H5 HMA HA HB HT i0 i1
          obtain ⟨k, hk, rfl, hB, hM⟩ := hrel
          have hk1 : (k : Int) ≤ 4 := by omega
          rcases (by omega : k < 4 ∨ k = 4) with hlt | rfl
          · have hlt1 : (k : Int) < 4 := by omega
            have HR := Lib.hid fun w => reading_any (mtO o1 o2 k) (mtO p1 p2 k) (mtT t d n k) w
            have eg := enters_rd
            have hMl := Lib.hid hlt
            obtain ⟨o, ho⟩ : ∃ o, mtO o1 o2 k = o := ⟨_, rfl⟩
            obtain ⟨p, hp⟩ : ∃ p, mtO p1 p2 k = p := ⟨_, rfl⟩
            obtain ⟨q, hq⟩ : ∃ q, mtT t d n k = q := ⟨_, rfl⟩
            have HOP : Hid (mtO o1 o2 k = o ∧ mtO p1 p2 k = p ∧ mtT t d n k = q) := Lib.hid ⟨ho, hp, hq⟩
            rw [ho, hp, hq] at HR
            clear ho hp hq
            generalize hv : locV o p q = v at HR
            have HV2 : Hid (locV (mtO o1 o2 k) (mtO p1 p2 k) (mtT t d n k) = v) := Lib.hid (by rw [HOP.out.1, HOP.out.2.1, HOP.out.2.2]; exact hv)
            clear hv
            go_wp2_with fail
            refine wp_region_put (R := Unit) [70, 71, 72, 73, 74, 75, 76, 77, 78]
              (fun _ => [.int .i64 k, .int .i64 k, .pointer (some ⟨w4.heap.size + 1, k, none⟩), .func (.func 36) #[.agg #[.int .i64 o, .int .i64 p]] #[], .int .i64 k, .pointer (some ⟨w4.heap.size, k, none⟩), .int .i64 q, .int .i64 v, .pointer (some ⟨w4.heap.size + 1 + 1, k, none⟩)])
              (fun L _ wx => Below w.heap.size w wx ∧ MeetAt w4.heap.size (w.heap.size + 2) o1 p1 o2 p2 t d n (if L 9 then k + 1 else k) wx)
              (by kernel_rfl) (by kernel_rfl) (by kernel_rfl) () ?_ ?_ ?_
            · exact ⟨hB.drew, hM.below (Below.refl _ _).drew⟩
            · refine ⟨?_, ?_, ?_, ?_, ?_, ?_, ?_, ?_, ?_, ?_, trivial⟩
              all_goals
                rintro L ⟨⟩ wx K hLi hdep ⟨hBx, hMx⟩ hK
                have c1 : wx.cell? ⟨w4.heap.size, k, none⟩ = some (.int .i64 q) := by have := hMx.tm k hMl.out; rwa [HOP.out.2.2] at this
                have c2 : wx.cell? ⟨w4.heap.size + 1, k, none⟩ = some (.func (.func 36) #[.agg #[.int .i64 o, .int .i64 p]] #[]) := by have := hMx.fn k hMl.out; rw [HOP.out.1, HOP.out.2.1] at this; exact this
                simp only [putAll, Act.put, List.setIfInBounds_toArray, List.set_cons_succ, List.set_cons_zero] at hK ⊢
                go_simp
              · exact hK () wx ⟨hBx, by simpa using hMx⟩
              · exact hK () wx ⟨hBx, by simpa using hMx⟩
              · exact hK () wx ⟨hBx, by simpa using hMx⟩
              · exact hK () wx ⟨hBx, by simpa using hMx⟩
              · exact hK () wx ⟨hBx, by simpa using hMx⟩
              · exact hK () wx ⟨hBx, by simpa using hMx⟩
              · exact hK () wx ⟨hBx, by simpa using hMx⟩
              · refine (HR.out _).mono ?_
                rintro e w' ⟨rfl, hb'⟩
                exact hK () w' ⟨hBx.trans (hb'.mono hBx.size), by simpa using hMx.below hb'⟩
              · exact hK () wx ⟨hBx, by simpa using hMx⟩
              · rw [hLi] at hMx
                simp only [Bool.false_eq_true, if_false] at hMx
                have c3 : wx.cell? ⟨w4.heap.size + 1 + 1, k, none⟩ = some (.int .i64 0) := by have := hMx.st k hMl.out; simpa using this
                have c4 : wx.frozen? ⟨w4.heap.size + 1 + 1, k, none⟩ = false := hMx.sf k hMl.out
                go_simp
                refine hK () _ ⟨hBx.setCell (by simp <;> omega) _, ?_⟩
                have := hMx.set hMl.out (by omega)
                rw [HV2.out] at this
                simpa using this
            · rintro ⟨⟩ wy ⟨hBy, hMy⟩
              simp only [putAll, Act.put, List.setIfInBounds_toArray, List.set_cons_succ, List.set_cons_zero]
              go_wp2
              go_roundw
              case rel => exact ⟨k + 1, by omega, by go_num, hBy, by simpa using hMy⟩
              case measure => simp [intOf]; omega
          · have c0 : wr.cell? ⟨w4.heap.size + 1 + 1, 0, none⟩ = some (.int .i64 (locV (mtO o1 o2 0) (mtO p1 p2 0) (mtT t d n 0))) := hM.st 0 (by omega)
            have c1 : wr.cell? ⟨w4.heap.size + 1 + 1, 1, none⟩ = some (.int .i64 (locV (mtO o1 o2 1) (mtO p1 p2 1) (mtT t d n 1))) := hM.st 1 (by omega)
            have c2 : wr.cell? ⟨w4.heap.size + 1 + 1, 2, none⟩ = some (.int .i64 (locV (mtO o1 o2 2) (mtO p1 p2 2) (mtT t d n 2))) := hM.st 2 (by omega)
            have c3 : wr.cell? ⟨w4.heap.size + 1 + 1, 3, none⟩ = some (.int .i64 (locV (mtO o1 o2 3) (mtO p1 p2 3) (mtT t d n 3))) := hM.st 3 (by omega)
            have y0 : wr.cell? ⟨w.heap.size + 1 + 1, 0, none⟩ = some (.int .i64 0) := hM.zc 0 (by omega)
            have y1 : wr.cell? ⟨w.heap.size + 1 + 1, 1, none⟩ = some (.int .i64 0) := hM.zc 1 (by omega)
            have y2 : wr.cell? ⟨w.heap.size + 1 + 1, 2, none⟩ = some (.int .i64 0) := hM.zc 2 (by omega)
            have y3 : wr.cell? ⟨w.heap.size + 1 + 1, 3, none⟩ = some (.int .i64 0) := hM.zc 3 (by omega)
            have x0 : wr.frozen? ⟨w.heap.size + 1 + 1, 0, none⟩ = false := hM.zf 0 (by omega)
            have x1 : wr.frozen? ⟨w.heap.size + 1 + 1, 1, none⟩ = false := hM.zf 1 (by omega)
            have x2 : wr.frozen? ⟨w.heap.size + 1 + 1, 2, none⟩ = false := hM.zf 2 (by omega)
            have x3 : wr.frozen? ⟨w.heap.size + 1 + 1, 3, none⟩ = false := hM.zf 3 (by omega)
            have HV0 := HV.out 0
            have HV1 := HV.out 1
            have HV3 := HV.out 2
            have HV4 := HV.out 3
            have G := Lib.hid (And.intro HV0 (And.intro HV1 (And.intro HV3 HV4)))
            clear HV0 HV1 HV3 HV4 HV
            generalize locV (mtO o1 o2 0) (mtO p1 p2 0) (mtT t d n 0) = r0 at *
            generalize locV (mtO o1 o2 1) (mtO p1 p2 1) (mtT t d n 1) = r1 at *
            generalize locV (mtO o1 o2 2) (mtO p1 p2 2) (mtT t d n 2) = r2 at *
            generalize locV (mtO o1 o2 3) (mtO p1 p2 3) (mtT t d n 3) = r3 at *
            go_wp2_with fail
            exact bodyPost_ret (v := .tuple #[.agg #[.int .i64 r0, .int .i64 r1, .int .i64 r2, .int .i64 r3], .int .i64 0]) (by simp [results, Try.results19, go_sem, y0, y1, y2, y3]) rfl ⟨ret_x G.out.1.symm G.out.2.1.symm G.out.2.2.1.symm G.out.2.2.2.symm HE.out.symm, (((hB.setCell (by simp <;> omega) _).setCell (by simp <;> omega) _).setCell (by simp <;> omega) _).setCell (by simp <;> omega) _⟩
end Go.Proofs.Ytelpjmmkaakceaa
