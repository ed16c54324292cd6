/- The package pass: what Set does to information, and changed, of a servo. -/
import Derived.Test.YtgdagfiebaebbaaPass6
import Derived.Test.YtgdagfiebaebbaaServo
namespace Go.Proofs.Ytgdagfiebaebbaa
open Go.RowKit

set_option maxRecDepth 100000 in
set_option maxHeartbeats 1000000 in
theorem set1_any (b bx : Nat) (o c p x : Int) (w : World) (h : InfoAt w b o c p) (hbx : w.cell? ⟨bx, 0, none⟩ = some (.int .i64 x)) (ho : -4398046511104 ≤ o ∧ o ≤ 4398046511104) (hc : -4398046511104 ≤ c ∧ c ≤ 4398046511104) :
    Calls Try.prog 44 #[.pointer (some ⟨b, 0, none⟩), .pointer (some ⟨bx, 0, none⟩)] w fun e w' => e = .returned (.agg #[.int .i64 x, .int .i64 (o + c), .int .i64 p]) ∧ Below w.heap.size w w' := by
  have hs : IntKind.i64.wrap (o + c) = o + c := IntWalk.i64_in _ (by omega)
  have hz := h.lt
  have hz2 := cell_lt hbx
  obtain ⟨c0, c1, c2, _, _, _⟩ := h
  clear ho hc
  go_enter Try.func44, Try.ntmps44
  go_wp2_with fail
  refine wp_gen ?_
  rintro w1 hw
  have b0 : Below w.heap.size w w1 := by rw [hw]; exact (Below.refl _ _).alloc (Nat.le_refl _) _
  have hzw : w.heap.size < w1.heap.size := by rw [hw]; simp
  have r0 : w1.cell? ⟨w.heap.size, 0, none⟩ = some (.int .i64 0) := by rw [hw]; go_simp
  have r1 : w1.cell? ⟨w.heap.size, 1, none⟩ = some (.int .i64 0) := by rw [hw]; go_simp
  have r2 : w1.cell? ⟨w.heap.size, 2, none⟩ = some (.int .i64 0) := by rw [hw]; go_simp
  have z0 : w1.frozen? ⟨w.heap.size, 0, none⟩ = false := by rw [hw]; go_simp
  have z1 : w1.frozen? ⟨w.heap.size, 1, none⟩ = false := by rw [hw]; go_simp
  have z2 : w1.frozen? ⟨w.heap.size, 2, none⟩ = false := by rw [hw]; go_simp
  have d0 := (b0.cell (p := ⟨b, 0, none⟩) hz).trans c0
  have d1 := (b0.cell (p := ⟨b, 1, none⟩) hz).trans c1
  have d2 := (b0.cell (p := ⟨b, 2, none⟩) hz).trans c2
  have d3 := (b0.cell (p := ⟨bx, 0, none⟩) hz2).trans hbx
  clear hw
  go_region
  all_goals (try go_wp2)
  all_goals
    refine bodyPost_ret (v := .agg #[.int .i64 x, .int .i64 (o + c), .int .i64 p]) (by simp [results, Try.results44, go_sem, r0, r1, r2]) rfl ⟨rfl, ?_⟩
    first | exact ((b0.drew.setCell (Nat.le_refl _) _).setCell (Nat.le_refl _) _).setCell (Nat.le_refl _) _ | exact ((b0.setCell (Nat.le_refl _) _).setCell (Nat.le_refl _) _).setCell (Nat.le_refl _) _
set_option maxHeartbeats 1000000 in
theorem schanged_bad {o c p : Int} (h : okI o c p = false) (k : Bool) (f : Value) (w : World) :
    Calls Try.prog 43 #[.agg #[.int .i64 o, .int .i64 c, .int .i64 p], .bool k, f] w fun e w' => e = .returned (.tuple #[.agg #[.int .i64 0, .int .i64 0, .int .i64 0], .agg #[.int .i64 0, .int .i64 0, .int .i64 0], .int .i64 240]) ∧ Below w.heap.size w w' := by
  have HK := Lib.hid fun w => pcheck_false h w
  clear h
  go_enter Try.func43, Try.ntmps43
  go_wp2_with fail
  refine (HK.out _).mono ?_
  rintro e w1 ⟨rfl, hb1⟩
  have hz1_0 : w.heap.size < w1.heap.size := by have := hb1.size; simp at this; omega
  have s1_0_0 : w1.cell? ⟨w.heap.size, 0, none⟩ = some (.int .i64 o) := (hb1.cell (p := ⟨w.heap.size, 0, none⟩) (by simp <;> omega)).trans (by go_simp)
  have s1_0_1 : w1.cell? ⟨w.heap.size, 1, none⟩ = some (.int .i64 c) := (hb1.cell (p := ⟨w.heap.size, 1, none⟩) (by simp <;> omega)).trans (by go_simp)
  have s1_0_2 : w1.cell? ⟨w.heap.size, 2, none⟩ = some (.int .i64 p) := (hb1.cell (p := ⟨w.heap.size, 2, none⟩) (by simp <;> omega)).trans (by go_simp)
  have hz1_1 : w.heap.size + 1 < w1.heap.size := by have := hb1.size; simp at this; omega
  have s1_1_0 : w1.cell? ⟨w.heap.size + 1, 0, none⟩ = some (.int .i64 0) := (hb1.cell (p := ⟨w.heap.size + 1, 0, none⟩) (by simp <;> omega)).trans (by go_simp)
  have s1_1_1 : w1.cell? ⟨w.heap.size + 1, 1, none⟩ = some (.int .i64 0) := (hb1.cell (p := ⟨w.heap.size + 1, 1, none⟩) (by simp <;> omega)).trans (by go_simp)
  have s1_1_2 : w1.cell? ⟨w.heap.size + 1, 2, none⟩ = some (.int .i64 0) := (hb1.cell (p := ⟨w.heap.size + 1, 2, none⟩) (by simp <;> omega)).trans (by go_simp)
  have z1_1_0 : w1.frozen? ⟨w.heap.size + 1, 0, none⟩ = false := (hb1.frozen (p := ⟨w.heap.size + 1, 0, none⟩) (by simp <;> omega)).trans (by go_simp)
  have z1_1_1 : w1.frozen? ⟨w.heap.size + 1, 1, none⟩ = false := (hb1.frozen (p := ⟨w.heap.size + 1, 1, none⟩) (by simp <;> omega)).trans (by go_simp)
  have z1_1_2 : w1.frozen? ⟨w.heap.size + 1, 2, none⟩ = false := (hb1.frozen (p := ⟨w.heap.size + 1, 2, none⟩) (by simp <;> omega)).trans (by go_simp)
  have hz1_2 : w.heap.size + 2 < w1.heap.size := by have := hb1.size; simp at this; omega
  have s1_2_0 : w1.cell? ⟨w.heap.size + 2, 0, none⟩ = some (.int .i64 0) := (hb1.cell (p := ⟨w.heap.size + 2, 0, none⟩) (by simp <;> omega)).trans (by go_simp)
  have s1_2_1 : w1.cell? ⟨w.heap.size + 2, 1, none⟩ = some (.int .i64 0) := (hb1.cell (p := ⟨w.heap.size + 2, 1, none⟩) (by simp <;> omega)).trans (by go_simp)
  have s1_2_2 : w1.cell? ⟨w.heap.size + 2, 2, none⟩ = some (.int .i64 0) := (hb1.cell (p := ⟨w.heap.size + 2, 2, none⟩) (by simp <;> omega)).trans (by go_simp)
  have z1_2_0 : w1.frozen? ⟨w.heap.size + 2, 0, none⟩ = false := (hb1.frozen (p := ⟨w.heap.size + 2, 0, none⟩) (by simp <;> omega)).trans (by go_simp)
  have z1_2_1 : w1.frozen? ⟨w.heap.size + 2, 1, none⟩ = false := (hb1.frozen (p := ⟨w.heap.size + 2, 1, none⟩) (by simp <;> omega)).trans (by go_simp)
  have z1_2_2 : w1.frozen? ⟨w.heap.size + 2, 2, none⟩ = false := (hb1.frozen (p := ⟨w.heap.size + 2, 2, none⟩) (by simp <;> omega)).trans (by go_simp)
  have H1 : Below w.heap.size w w1 := ((((Below.refl _ _).alloc (Nat.le_refl _) _).alloc (by simp <;> omega) _).alloc (by simp <;> omega) _).trans (hb1.mono (by simp <;> omega))
  clear hb1
  go_wp2
  refine bodyPost_ret (v := .tuple #[.agg #[.int .i64 0, .int .i64 0, .int .i64 0], .agg #[.int .i64 0, .int .i64 0, .int .i64 0], .int .i64 240]) (by simp [results, Try.results43, go_sem, s1_1_0, s1_1_1, s1_1_2, s1_2_0, s1_2_1, s1_2_2]) rfl ⟨rfl, ?_⟩
  exact (((((H1.setCell (by simp) _).setCell (by simp) _).setCell (by simp) _).setCell (by simp <;> omega) _).setCell (by simp <;> omega) _).setCell (by simp <;> omega) _
set_option maxHeartbeats 1000000 in
theorem schanged_arg {o c p : Int} (h : okI o c p = true) (f : Value) (w : World) :
    Calls Try.prog 43 #[.agg #[.int .i64 o, .int .i64 c, .int .i64 p], .bool false, f] w fun e w' => e = .returned (.tuple #[.agg #[.int .i64 0, .int .i64 0, .int .i64 0], .agg #[.int .i64 0, .int .i64 0, .int .i64 0], .int .i64 2]) ∧ Below w.heap.size w w' := by
  have HK := Lib.hid fun w => pcheck_true h w
  clear h
  go_enter Try.func43, Try.ntmps43
  go_wp2_with fail
  refine (HK.out _).mono ?_
  rintro e w1 ⟨rfl, hb1⟩
  have hz1_0 : w.heap.size < w1.heap.size := by have := hb1.size; simp at this; omega
  have s1_0_0 : w1.cell? ⟨w.heap.size, 0, none⟩ = some (.int .i64 o) := (hb1.cell (p := ⟨w.heap.size, 0, none⟩) (by simp <;> omega)).trans (by go_simp)
  have s1_0_1 : w1.cell? ⟨w.heap.size, 1, none⟩ = some (.int .i64 c) := (hb1.cell (p := ⟨w.heap.size, 1, none⟩) (by simp <;> omega)).trans (by go_simp)
  have s1_0_2 : w1.cell? ⟨w.heap.size, 2, none⟩ = some (.int .i64 p) := (hb1.cell (p := ⟨w.heap.size, 2, none⟩) (by simp <;> omega)).trans (by go_simp)
  have hz1_1 : w.heap.size + 1 < w1.heap.size := by have := hb1.size; simp at this; omega
  have s1_1_0 : w1.cell? ⟨w.heap.size + 1, 0, none⟩ = some (.int .i64 0) := (hb1.cell (p := ⟨w.heap.size + 1, 0, none⟩) (by simp <;> omega)).trans (by go_simp)
  have s1_1_1 : w1.cell? ⟨w.heap.size + 1, 1, none⟩ = some (.int .i64 0) := (hb1.cell (p := ⟨w.heap.size + 1, 1, none⟩) (by simp <;> omega)).trans (by go_simp)
  have s1_1_2 : w1.cell? ⟨w.heap.size + 1, 2, none⟩ = some (.int .i64 0) := (hb1.cell (p := ⟨w.heap.size + 1, 2, none⟩) (by simp <;> omega)).trans (by go_simp)
  have z1_1_0 : w1.frozen? ⟨w.heap.size + 1, 0, none⟩ = false := (hb1.frozen (p := ⟨w.heap.size + 1, 0, none⟩) (by simp <;> omega)).trans (by go_simp)
  have z1_1_1 : w1.frozen? ⟨w.heap.size + 1, 1, none⟩ = false := (hb1.frozen (p := ⟨w.heap.size + 1, 1, none⟩) (by simp <;> omega)).trans (by go_simp)
  have z1_1_2 : w1.frozen? ⟨w.heap.size + 1, 2, none⟩ = false := (hb1.frozen (p := ⟨w.heap.size + 1, 2, none⟩) (by simp <;> omega)).trans (by go_simp)
  have hz1_2 : w.heap.size + 2 < w1.heap.size := by have := hb1.size; simp at this; omega
  have s1_2_0 : w1.cell? ⟨w.heap.size + 2, 0, none⟩ = some (.int .i64 0) := (hb1.cell (p := ⟨w.heap.size + 2, 0, none⟩) (by simp <;> omega)).trans (by go_simp)
  have s1_2_1 : w1.cell? ⟨w.heap.size + 2, 1, none⟩ = some (.int .i64 0) := (hb1.cell (p := ⟨w.heap.size + 2, 1, none⟩) (by simp <;> omega)).trans (by go_simp)
  have s1_2_2 : w1.cell? ⟨w.heap.size + 2, 2, none⟩ = some (.int .i64 0) := (hb1.cell (p := ⟨w.heap.size + 2, 2, none⟩) (by simp <;> omega)).trans (by go_simp)
  have z1_2_0 : w1.frozen? ⟨w.heap.size + 2, 0, none⟩ = false := (hb1.frozen (p := ⟨w.heap.size + 2, 0, none⟩) (by simp <;> omega)).trans (by go_simp)
  have z1_2_1 : w1.frozen? ⟨w.heap.size + 2, 1, none⟩ = false := (hb1.frozen (p := ⟨w.heap.size + 2, 1, none⟩) (by simp <;> omega)).trans (by go_simp)
  have z1_2_2 : w1.frozen? ⟨w.heap.size + 2, 2, none⟩ = false := (hb1.frozen (p := ⟨w.heap.size + 2, 2, none⟩) (by simp <;> omega)).trans (by go_simp)
  have H1 : Below w.heap.size w w1 := ((((Below.refl _ _).alloc (Nat.le_refl _) _).alloc (by simp <;> omega) _).alloc (by simp <;> omega) _).trans (hb1.mono (by simp <;> omega))
  clear hb1
  go_wp2
  refine bodyPost_ret (v := .tuple #[.agg #[.int .i64 0, .int .i64 0, .int .i64 0], .agg #[.int .i64 0, .int .i64 0, .int .i64 0], .int .i64 2]) (by simp [results, Try.results43, go_sem, s1_1_0, s1_1_1, s1_1_2, s1_2_0, s1_2_1, s1_2_2]) rfl ⟨rfl, ?_⟩
  exact (((((H1.setCell (by simp) _).setCell (by simp) _).setCell (by simp) _).setCell (by simp <;> omega) _).setCell (by simp <;> omega) _).setCell (by simp <;> omega) _
set_option maxRecDepth 100000 in
set_option maxHeartbeats 1000000 in
theorem schanged_same {o c p s0 s1 s2 : Int} (h : okI o c p = true) (g : Nat) (cb : Array Value) (w : World)
    (eg : ∀ args w, (callFunc g args).run Try.prog w = .ok (.enter g args) w)
    (hf : ∀ W b, Below w.heap.size w W → w.heap.size ≤ b → InfoAt W b o c p → Calls Try.prog g (#[.pointer (some ⟨b, 0, none⟩)] ++ cb) W fun e w' => e = .returned (.agg #[.int .i64 s0, .int .i64 s1, .int .i64 s2]) ∧ Below W.heap.size W w') :
    Calls Try.prog 43 #[.agg #[.int .i64 o, .int .i64 c, .int .i64 p], .bool true, .func (.func g) #[] cb] w fun e w' => e = .returned (.tuple #[.agg #[.int .i64 s0, .int .i64 s1, .int .i64 s2], .agg #[.int .i64 o, .int .i64 c, .int .i64 p], .int .i64 0]) ∧ Below w.heap.size w w' := by
  have HK := Lib.hid fun w => pcheck_true h w
  have HF := Lib.hid hf
  clear h hf
  have hne := info_same o c p
  go_enter Try.func43, Try.ntmps43
  go_wp2_with fail
  refine (HK.out _).mono ?_
  rintro e w1 ⟨rfl, hb1⟩
  have hz1_0 : w.heap.size < w1.heap.size := by have := hb1.size; simp at this; omega
  have s1_0_0 : w1.cell? ⟨w.heap.size, 0, none⟩ = some (.int .i64 o) := (hb1.cell (p := ⟨w.heap.size, 0, none⟩) (by simp <;> omega)).trans (by go_simp)
  have s1_0_1 : w1.cell? ⟨w.heap.size, 1, none⟩ = some (.int .i64 c) := (hb1.cell (p := ⟨w.heap.size, 1, none⟩) (by simp <;> omega)).trans (by go_simp)
  have s1_0_2 : w1.cell? ⟨w.heap.size, 2, none⟩ = some (.int .i64 p) := (hb1.cell (p := ⟨w.heap.size, 2, none⟩) (by simp <;> omega)).trans (by go_simp)
  have hz1_1 : w.heap.size + 1 < w1.heap.size := by have := hb1.size; simp at this; omega
  have s1_1_0 : w1.cell? ⟨w.heap.size + 1, 0, none⟩ = some (.int .i64 0) := (hb1.cell (p := ⟨w.heap.size + 1, 0, none⟩) (by simp <;> omega)).trans (by go_simp)
  have s1_1_1 : w1.cell? ⟨w.heap.size + 1, 1, none⟩ = some (.int .i64 0) := (hb1.cell (p := ⟨w.heap.size + 1, 1, none⟩) (by simp <;> omega)).trans (by go_simp)
  have s1_1_2 : w1.cell? ⟨w.heap.size + 1, 2, none⟩ = some (.int .i64 0) := (hb1.cell (p := ⟨w.heap.size + 1, 2, none⟩) (by simp <;> omega)).trans (by go_simp)
  have z1_1_0 : w1.frozen? ⟨w.heap.size + 1, 0, none⟩ = false := (hb1.frozen (p := ⟨w.heap.size + 1, 0, none⟩) (by simp <;> omega)).trans (by go_simp)
  have z1_1_1 : w1.frozen? ⟨w.heap.size + 1, 1, none⟩ = false := (hb1.frozen (p := ⟨w.heap.size + 1, 1, none⟩) (by simp <;> omega)).trans (by go_simp)
  have z1_1_2 : w1.frozen? ⟨w.heap.size + 1, 2, none⟩ = false := (hb1.frozen (p := ⟨w.heap.size + 1, 2, none⟩) (by simp <;> omega)).trans (by go_simp)
  have hz1_2 : w.heap.size + 2 < w1.heap.size := by have := hb1.size; simp at this; omega
  have s1_2_0 : w1.cell? ⟨w.heap.size + 2, 0, none⟩ = some (.int .i64 0) := (hb1.cell (p := ⟨w.heap.size + 2, 0, none⟩) (by simp <;> omega)).trans (by go_simp)
  have s1_2_1 : w1.cell? ⟨w.heap.size + 2, 1, none⟩ = some (.int .i64 0) := (hb1.cell (p := ⟨w.heap.size + 2, 1, none⟩) (by simp <;> omega)).trans (by go_simp)
  have s1_2_2 : w1.cell? ⟨w.heap.size + 2, 2, none⟩ = some (.int .i64 0) := (hb1.cell (p := ⟨w.heap.size + 2, 2, none⟩) (by simp <;> omega)).trans (by go_simp)
  have z1_2_0 : w1.frozen? ⟨w.heap.size + 2, 0, none⟩ = false := (hb1.frozen (p := ⟨w.heap.size + 2, 0, none⟩) (by simp <;> omega)).trans (by go_simp)
  have z1_2_1 : w1.frozen? ⟨w.heap.size + 2, 1, none⟩ = false := (hb1.frozen (p := ⟨w.heap.size + 2, 1, none⟩) (by simp <;> omega)).trans (by go_simp)
  have z1_2_2 : w1.frozen? ⟨w.heap.size + 2, 2, none⟩ = false := (hb1.frozen (p := ⟨w.heap.size + 2, 2, none⟩) (by simp <;> omega)).trans (by go_simp)
  have H1 : Below w.heap.size w w1 := ((((Below.refl _ _).alloc (Nat.le_refl _) _).alloc (by simp <;> omega) _).alloc (by simp <;> omega) _).trans (hb1.mono (by simp <;> omega))
  clear hb1
  have hz1k := hz1_1
  have hz2k := hz1_2
  go_wp2_with fail
  have hI0 : InfoAt (w1.alloc (.cells #[.int .i64 o, .int .i64 c, .int .i64 p] 85)) w1.heap.size o c p := ⟨by go_simp, by go_simp, by go_simp, by go_simp, by go_simp, by go_simp⟩
  refine (HF.out _ _ (H1.alloc H1.size _) H1.size hI0).mono ?_
  rintro e w2 ⟨rfl, hb0⟩
  have hI := hI0.below hb0
  clear hI0
  have hb2 : Below w1.heap.size w1 w2 := ((Below.refl _ _).alloc (Nat.le_refl _) _).trans (hb0.mono (by simp))
  clear hb0
  have hz2_0 := Nat.lt_of_lt_of_le hz1_0 hb2.size
  have s2_0_0 := (hb2.cell (p := ⟨w.heap.size, 0, none⟩) hz1_0).trans s1_0_0
  have s2_0_1 := (hb2.cell (p := ⟨w.heap.size, 1, none⟩) hz1_0).trans s1_0_1
  have s2_0_2 := (hb2.cell (p := ⟨w.heap.size, 2, none⟩) hz1_0).trans s1_0_2
  have hz2_1 := Nat.lt_of_lt_of_le hz1_1 hb2.size
  have s2_1_0 := (hb2.cell (p := ⟨w.heap.size + 1, 0, none⟩) hz1_1).trans s1_1_0
  have s2_1_1 := (hb2.cell (p := ⟨w.heap.size + 1, 1, none⟩) hz1_1).trans s1_1_1
  have s2_1_2 := (hb2.cell (p := ⟨w.heap.size + 1, 2, none⟩) hz1_1).trans s1_1_2
  have z2_1_0 := (hb2.frozen (p := ⟨w.heap.size + 1, 0, none⟩) hz1_1).trans z1_1_0
  have z2_1_1 := (hb2.frozen (p := ⟨w.heap.size + 1, 1, none⟩) hz1_1).trans z1_1_1
  have z2_1_2 := (hb2.frozen (p := ⟨w.heap.size + 1, 2, none⟩) hz1_1).trans z1_1_2
  have hz2_2 := Nat.lt_of_lt_of_le hz1_2 hb2.size
  have s2_2_0 := (hb2.cell (p := ⟨w.heap.size + 2, 0, none⟩) hz1_2).trans s1_2_0
  have s2_2_1 := (hb2.cell (p := ⟨w.heap.size + 2, 1, none⟩) hz1_2).trans s1_2_1
  have s2_2_2 := (hb2.cell (p := ⟨w.heap.size + 2, 2, none⟩) hz1_2).trans s1_2_2
  have z2_2_0 := (hb2.frozen (p := ⟨w.heap.size + 2, 0, none⟩) hz1_2).trans z1_2_0
  have z2_2_1 := (hb2.frozen (p := ⟨w.heap.size + 2, 1, none⟩) hz1_2).trans z1_2_1
  have z2_2_2 := (hb2.frozen (p := ⟨w.heap.size + 2, 2, none⟩) hz1_2).trans z1_2_2
  have H2 := H1.trans (hb2.mono H1.size)
  clear hz1_0 s1_0_0 s1_0_1 s1_0_2 hz1_1 s1_1_0 s1_1_1 s1_1_2 hz1_2 s1_2_0 s1_2_1 s1_2_2 z1_1_0 z1_1_1 z1_1_2 z1_2_0 z1_2_1 z1_2_2 hb2 H1
  go_wp2_with fail
  have hI := ((hI.three (b' := w.heap.size + 1) (x := .int .i64 s0) (y := .int .i64 s1) (z := .int .i64 s2) (by omega)))
  refine wp_gen ?_
  rintro w3 hg3
  rw [← hg3] at hI
  have hz3_0 : w.heap.size < w3.heap.size := by rw [hg3]; simpa [World.setCell] using hz2_0
  have s3_0_0 : w3.cell? ⟨w.heap.size, 0, none⟩ = some (.int .i64 o) := by rw [hg3]; go_simp
  have s3_0_1 : w3.cell? ⟨w.heap.size, 1, none⟩ = some (.int .i64 c) := by rw [hg3]; go_simp
  have s3_0_2 : w3.cell? ⟨w.heap.size, 2, none⟩ = some (.int .i64 p) := by rw [hg3]; go_simp
  have hz3_1 : w.heap.size + 1 < w3.heap.size := by rw [hg3]; simpa [World.setCell] using hz2_1
  have s3_1_0 : w3.cell? ⟨w.heap.size + 1, 0, none⟩ = some (.int .i64 s0) := by rw [hg3]; go_simp
  have s3_1_1 : w3.cell? ⟨w.heap.size + 1, 1, none⟩ = some (.int .i64 s1) := by rw [hg3]; go_simp
  have s3_1_2 : w3.cell? ⟨w.heap.size + 1, 2, none⟩ = some (.int .i64 s2) := by rw [hg3]; go_simp
  have z3_1_0 : w3.frozen? ⟨w.heap.size + 1, 0, none⟩ = false := by rw [hg3]; go_simp
  have z3_1_1 : w3.frozen? ⟨w.heap.size + 1, 1, none⟩ = false := by rw [hg3]; go_simp
  have z3_1_2 : w3.frozen? ⟨w.heap.size + 1, 2, none⟩ = false := by rw [hg3]; go_simp
  have hz3_2 : w.heap.size + 2 < w3.heap.size := by rw [hg3]; simpa [World.setCell] using hz2_2
  have s3_2_0 : w3.cell? ⟨w.heap.size + 2, 0, none⟩ = some (.int .i64 0) := by rw [hg3]; go_simp
  have s3_2_1 : w3.cell? ⟨w.heap.size + 2, 1, none⟩ = some (.int .i64 0) := by rw [hg3]; go_simp
  have s3_2_2 : w3.cell? ⟨w.heap.size + 2, 2, none⟩ = some (.int .i64 0) := by rw [hg3]; go_simp
  have z3_2_0 : w3.frozen? ⟨w.heap.size + 2, 0, none⟩ = false := by rw [hg3]; go_simp
  have z3_2_1 : w3.frozen? ⟨w.heap.size + 2, 1, none⟩ = false := by rw [hg3]; go_simp
  have z3_2_2 : w3.frozen? ⟨w.heap.size + 2, 2, none⟩ = false := by rw [hg3]; go_simp
  have H3 : Below w.heap.size w w3 := by rw [hg3]; exact ((H2.setCell (by simp) _).setCell (by simp) _).setCell (by simp) _
  clear hg3 hz2_0 s2_0_0 s2_0_1 s2_0_2 hz2_1 s2_1_0 s2_1_1 s2_1_2 hz2_2 s2_2_0 s2_2_1 s2_2_2 z2_1_0 z2_1_1 z2_1_2 z2_2_0 z2_2_1 z2_2_2 H2
  have e0 := hI.c0
  have e1 := hI.c1
  have e2 := hI.c2
  have hz9 := hI.lt
  go_wp2_with fail
  have F0 := Bw.cell hz3_0 s3_0_0
  have F1 := Bw.cell hz3_0 s3_0_1
  have F2 := Bw.cell hz3_0 s3_0_2
  have F3 := Bw.cell hz3_1 s3_1_0
  have F4 := Bw.cell hz3_1 s3_1_1
  have F5 := Bw.cell hz3_1 s3_1_2
  have F6 := Bw.cell hz3_2 s3_2_0
  have F7 := Bw.cell hz3_2 s3_2_1
  have F8 := Bw.cell hz3_2 s3_2_2
  have F9 := Bw.cell hz9 e0
  have F10 := Bw.cell hz9 e1
  have F11 := Bw.cell hz9 e2
  refine wp_region_bw (by kernel_rfl) (by kernel_rfl) ?_
  repeat (go_big_quiet_step (fail))
  refine wpQuiet_nil ?_
  rintro w4 ⟨⟨_, hb4⟩, rfl⟩
  clear F0 F1 F2 F3 F4 F5 F6 F7 F8 F9 F10 F11
  have hbI := hb4
  have hz4_0 := Nat.lt_of_lt_of_le hz3_0 hb4.size
  have s4_0_0 := (hb4.cell (p := ⟨w.heap.size, 0, none⟩) hz3_0).trans s3_0_0
  have s4_0_1 := (hb4.cell (p := ⟨w.heap.size, 1, none⟩) hz3_0).trans s3_0_1
  have s4_0_2 := (hb4.cell (p := ⟨w.heap.size, 2, none⟩) hz3_0).trans s3_0_2
  have hz4_1 := Nat.lt_of_lt_of_le hz3_1 hb4.size
  have s4_1_0 := (hb4.cell (p := ⟨w.heap.size + 1, 0, none⟩) hz3_1).trans s3_1_0
  have s4_1_1 := (hb4.cell (p := ⟨w.heap.size + 1, 1, none⟩) hz3_1).trans s3_1_1
  have s4_1_2 := (hb4.cell (p := ⟨w.heap.size + 1, 2, none⟩) hz3_1).trans s3_1_2
  have z4_1_0 := (hb4.frozen (p := ⟨w.heap.size + 1, 0, none⟩) hz3_1).trans z3_1_0
  have z4_1_1 := (hb4.frozen (p := ⟨w.heap.size + 1, 1, none⟩) hz3_1).trans z3_1_1
  have z4_1_2 := (hb4.frozen (p := ⟨w.heap.size + 1, 2, none⟩) hz3_1).trans z3_1_2
  have hz4_2 := Nat.lt_of_lt_of_le hz3_2 hb4.size
  have s4_2_0 := (hb4.cell (p := ⟨w.heap.size + 2, 0, none⟩) hz3_2).trans s3_2_0
  have s4_2_1 := (hb4.cell (p := ⟨w.heap.size + 2, 1, none⟩) hz3_2).trans s3_2_1
  have s4_2_2 := (hb4.cell (p := ⟨w.heap.size + 2, 2, none⟩) hz3_2).trans s3_2_2
  have z4_2_0 := (hb4.frozen (p := ⟨w.heap.size + 2, 0, none⟩) hz3_2).trans z3_2_0
  have z4_2_1 := (hb4.frozen (p := ⟨w.heap.size + 2, 1, none⟩) hz3_2).trans z3_2_1
  have z4_2_2 := (hb4.frozen (p := ⟨w.heap.size + 2, 2, none⟩) hz3_2).trans z3_2_2
  have hz4_3 := Nat.lt_of_lt_of_le hz9 hb4.size
  have s4_3_0 := (hb4.cell (p := ⟨w1.heap.size, 0, none⟩) hz9).trans e0
  have s4_3_1 := (hb4.cell (p := ⟨w1.heap.size, 1, none⟩) hz9).trans e1
  have s4_3_2 := (hb4.cell (p := ⟨w1.heap.size, 2, none⟩) hz9).trans e2
  have H4 := H3.trans (hb4.mono H3.size)
  clear hz3_0 s3_0_0 s3_0_1 s3_0_2 hz3_1 s3_1_0 s3_1_1 s3_1_2 hz3_2 s3_2_0 s3_2_1 s3_2_2 hz9 e0 e1 e2 z3_1_0 z3_1_1 z3_1_2 z3_2_0 z3_2_1 z3_2_2 hb4 H3
  go_wp2_with fail
  have hIb : InfoAt w4 w1.heap.size o c p := hI.below hbI
  have hZb : InfoAt w4 (w.heap.size + 2) 0 0 0 := ⟨s4_2_0, s4_2_1, s4_2_2, z4_2_0, z4_2_1, z4_2_2⟩
  have k0 := hIb.c0
  have k1 := hIb.c1
  have k2 := hIb.c2
  clear hI hbI
  have hne1 : w1.heap.size ≠ w.heap.size + 1 := Nat.ne_of_gt hz1k
  have hne2 : w1.heap.size ≠ w.heap.size + 2 := Nat.ne_of_gt hz2k
  refine wp_region_put (R := Unit) [46, 47, 48, 49, 50, 8]
    (fun _ => [.agg #[.int .i64 s0, .int .i64 s1, .int .i64 s2], .pointer (some ⟨w1.heap.size, 0, none⟩), .pointer (some ⟨w1.heap.size, 0, none⟩), .pointer (some ⟨w1.heap.size, 0, none⟩), .agg #[.int .i64 o, .int .i64 c, .int .i64 p], .int .i64 0])
    (fun L _ wx => Below w.heap.size w4 wx ∧ InfoAt wx w1.heap.size o c p ∧ InfoAt wx (w.heap.size + 1) s0 s1 s2 ∧ InfoAt wx (w.heap.size + 2) (if L 6 then o else 0) (if L 6 then c else 0) (if L 6 then p else 0))
    (by kernel_rfl) (by kernel_rfl) (by kernel_rfl) () ?_ ?_ ?_
  · exact ⟨(Below.refl _ _).drew, hIb.below (Below.refl _ _).drew, InfoAt.below ⟨s4_1_0, s4_1_1, s4_1_2, z4_1_0, z4_1_1, z4_1_2⟩ (Below.refl _ _).drew, by simpa using hZb.below (Below.refl _ _).drew⟩
  · simp only [putAll, Act.put, List.setIfInBounds_toArray, List.set_cons_succ, List.set_cons_zero]
    refine ⟨?_, ?_, ?_, ?_, ?_, ?_, ?_, ?_, trivial⟩
    all_goals
      rintro L ⟨⟩ wx K hLi hdep ⟨hB, h1, h2, h3⟩ hK
      obtain ⟨a0, a1, a2, _, _, _⟩ := id h1
      obtain ⟨b0, b1, b2, g0, g1, g2⟩ := id h2
      obtain ⟨d0, d1, d2, j0, j1, j2⟩ := id h3
    · go_simp
      exact hK () wx ⟨hB, h1, h2, by simpa using h3⟩
    · go_simp
      exact hK () wx ⟨hB, h1, h2, by simpa using h3⟩
    · go_simp
      exact hK () wx ⟨hB, h1, h2, by simpa using h3⟩
    · go_simp
      exact hK () wx ⟨hB, h1, h2, by simpa using h3⟩
    · go_simp
      exact hK () wx ⟨hB, h1, h2, by simpa using h3⟩
    · go_simp
      exact hK () _ ⟨((hB.setCell (by simp) _).setCell (by simp) _).setCell (by simp) _, h1.three (fun e => hne1 e.symm), h2.all s0 s1 s2, by simpa using h3.three (by omega)⟩
    · have h4 : L 4 = true := hdep ⟨4, .data⟩ (by simp) rfl
      go_simp
      exact hK () _ ⟨((hB.setCell (by simp <;> omega) _).setCell (by simp <;> omega) _).setCell (by simp <;> omega) _, h1.three (fun e => hne2 e.symm), h2.three (by omega), by simpa using h3.all o c p⟩
    · go_simp
      exact hK () wx ⟨hB, h1, h2, by simpa using h3⟩
  rintro ⟨⟩ w9 ⟨hB9, _, h2, h3⟩
  simp only [if_true] at h3
  simp only [putAll, Act.put, List.setIfInBounds_toArray, List.set_cons_succ, List.set_cons_zero]
  go_wp2
  refine bodyPost_ret (v := .tuple #[.agg #[.int .i64 s0, .int .i64 s1, .int .i64 s2], .agg #[.int .i64 o, .int .i64 c, .int .i64 p], .int .i64 0]) (by simp [results, Try.results43, go_sem, h2.c0, h2.c1, h2.c2, h3.c0, h3.c1, h3.c2]) rfl ⟨rfl, ?_⟩
  exact H4.trans hB9
end Go.Proofs.Ytgdagfiebaebbaa
