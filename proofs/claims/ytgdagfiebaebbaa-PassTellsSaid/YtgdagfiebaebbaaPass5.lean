/- The package pass: changed, of a number: what it computes. -/
import Derived.Test.YtgdagfiebaebbaaInfoEq
namespace Go.Proofs.Ytgdagfiebaebbaa
open Go.RowKit

theorem InfoAt.all {w : World} {b : Nat} {o c p : Int} (h : InfoAt w b o c p) (o' c' p' : Int) : InfoAt (((w.setCell ⟨b, 0, none⟩ (.int .i64 o')).setCell ⟨b, 1, none⟩ (.int .i64 c')).setCell ⟨b, 2, none⟩ (.int .i64 p')) b o' c' p' := by
  obtain ⟨h0, h1, h2, f0, f1, f2⟩ := h
  exact ⟨by go_simp, by go_simp, by go_simp, by go_simp, by go_simp, by go_simp⟩
theorem InfoAt.other {w : World} {b : Nat} {o c p : Int} (h : InfoAt w b o c p) {b' k : Nat} {v : Value} (hne : b' ≠ b) : InfoAt (w.setCell ⟨b', k, none⟩ v) b o c p := by
  have e : ∀ j, (w.setCell ⟨b', k, none⟩ v).cell? ⟨b, j, none⟩ = w.cell? ⟨b, j, none⟩ := fun j => World.cell?_of_block (w := w) (Below.heap_setCell w ⟨b', k, none⟩ _ b (fun q => hne q.symm))
  have f : ∀ j, (w.setCell ⟨b', k, none⟩ v).frozen? ⟨b, j, none⟩ = w.frozen? ⟨b, j, none⟩ := fun j => World.frozen?_of_block (w := w) (Below.heap_setCell w ⟨b', k, none⟩ _ b (fun q => hne q.symm))
  exact ⟨(e 0).trans h.c0, (e 1).trans h.c1, (e 2).trans h.c2, (f 0).trans h.f0, (f 1).trans h.f1, (f 2).trans h.f2⟩
theorem InfoAt.three {w : World} {b : Nat} {o c p : Int} (h : InfoAt w b o c p) {b' : Nat} {x y z : Value} (hne : b' ≠ b) : InfoAt (((w.setCell ⟨b', 0, none⟩ x).setCell ⟨b', 1, none⟩ y).setCell ⟨b', 2, none⟩ z) b o c p := ((h.other hne).other hne).other hne
theorem wp_gen {P : Program} {c : Code} {Q : Exit → Act → World → Prop} {a : Act} {W : World} (h : ∀ w, w = W → c.wp P Q a w) : c.wp P Q a W := h _ rfl
set_option maxHeartbeats 1000000 in
theorem changed_bad {o c p : Int} (h : okI o c p = false) (k : Bool) (f : Value) (w : World) :
    Calls Try.prog 32 #[.agg #[.int .i64 o, .int .i64 c, .int .i64 p], .bool k, f] w fun e w' => e = .returned (.tuple #[.int .i64 0, .agg #[.int .i64 0, .int .i64 0, .int .i64 0], .int .i64 240]) ∧ Below w.heap.size w w' := by
  have HK := Lib.hid fun w => pcheck_false h w
  clear h
  go_enter Try.func32, Try.ntmps32
  go_wp2_with fail
  refine (HK.out _).mono ?_
  rintro e w1 ⟨rfl, hb1⟩
  have hz1_0 : w.heap.size < w1.heap.size := by have := hb1.size; simp at this; omega
  have s1_0_0 : w1.cell? ⟨w.heap.size, 0, none⟩ = some (.int .i64 o) := (hb1.cell (p := ⟨w.heap.size, 0, none⟩) (by simp <;> omega)).trans (by go_simp)
  have s1_0_1 : w1.cell? ⟨w.heap.size, 1, none⟩ = some (.int .i64 c) := (hb1.cell (p := ⟨w.heap.size, 1, none⟩) (by simp <;> omega)).trans (by go_simp)
  have s1_0_2 : w1.cell? ⟨w.heap.size, 2, none⟩ = some (.int .i64 p) := (hb1.cell (p := ⟨w.heap.size, 2, none⟩) (by simp <;> omega)).trans (by go_simp)
  have hz1_1 : w.heap.size + 1 < w1.heap.size := by have := hb1.size; simp at this; omega
  have s1_1_0 : w1.cell? ⟨w.heap.size + 1, 0, none⟩ = some (.int .i64 0) := (hb1.cell (p := ⟨w.heap.size + 1, 0, none⟩) (by simp <;> omega)).trans (by go_simp)
  have s1_1_1 : w1.cell? ⟨w.heap.size + 1, 1, none⟩ = some (.int .i64 0) := (hb1.cell (p := ⟨w.heap.size + 1, 1, none⟩) (by simp <;> omega)).trans (by go_simp)
  have s1_1_2 : w1.cell? ⟨w.heap.size + 1, 2, none⟩ = some (.int .i64 0) := (hb1.cell (p := ⟨w.heap.size + 1, 2, none⟩) (by simp <;> omega)).trans (by go_simp)
  have z1_1_0 : w1.frozen? ⟨w.heap.size + 1, 0, none⟩ = false := (hb1.frozen (p := ⟨w.heap.size + 1, 0, none⟩) (by simp <;> omega)).trans (by go_simp)
  have z1_1_1 : w1.frozen? ⟨w.heap.size + 1, 1, none⟩ = false := (hb1.frozen (p := ⟨w.heap.size + 1, 1, none⟩) (by simp <;> omega)).trans (by go_simp)
  have z1_1_2 : w1.frozen? ⟨w.heap.size + 1, 2, none⟩ = false := (hb1.frozen (p := ⟨w.heap.size + 1, 2, none⟩) (by simp <;> omega)).trans (by go_simp)
  have H1 : Below w.heap.size w w1 := (((Below.refl _ _).alloc (Nat.le_refl _) _).alloc (by simp <;> omega) _).trans (hb1.mono (by simp <;> omega))
  clear hb1
  go_wp2
  refine bodyPost_ret (v := .tuple #[.int .i64 0, .agg #[.int .i64 0, .int .i64 0, .int .i64 0], .int .i64 240]) (by simp [results, Try.results32, go_sem, s1_1_0, s1_1_1, s1_1_2]) rfl ⟨rfl, ?_⟩
  exact ((H1.setCell (by simp) _).setCell (by simp) _).setCell (by simp) _
set_option maxHeartbeats 1000000 in
theorem changed_arg {o c p : Int} (h : okI o c p = true) (f : Value) (w : World) :
    Calls Try.prog 32 #[.agg #[.int .i64 o, .int .i64 c, .int .i64 p], .bool false, f] w fun e w' => e = .returned (.tuple #[.int .i64 0, .agg #[.int .i64 0, .int .i64 0, .int .i64 0], .int .i64 2]) ∧ Below w.heap.size w w' := by
  have HK := Lib.hid fun w => pcheck_true h w
  clear h
  go_enter Try.func32, Try.ntmps32
  go_wp2_with fail
  refine (HK.out _).mono ?_
  rintro e w1 ⟨rfl, hb1⟩
  have hz1_0 : w.heap.size < w1.heap.size := by have := hb1.size; simp at this; omega
  have s1_0_0 : w1.cell? ⟨w.heap.size, 0, none⟩ = some (.int .i64 o) := (hb1.cell (p := ⟨w.heap.size, 0, none⟩) (by simp <;> omega)).trans (by go_simp)
  have s1_0_1 : w1.cell? ⟨w.heap.size, 1, none⟩ = some (.int .i64 c) := (hb1.cell (p := ⟨w.heap.size, 1, none⟩) (by simp <;> omega)).trans (by go_simp)
  have s1_0_2 : w1.cell? ⟨w.heap.size, 2, none⟩ = some (.int .i64 p) := (hb1.cell (p := ⟨w.heap.size, 2, none⟩) (by simp <;> omega)).trans (by go_simp)
  have hz1_1 : w.heap.size + 1 < w1.heap.size := by have := hb1.size; simp at this; omega
  have s1_1_0 : w1.cell? ⟨w.heap.size + 1, 0, none⟩ = some (.int .i64 0) := (hb1.cell (p := ⟨w.heap.size + 1, 0, none⟩) (by simp <;> omega)).trans (by go_simp)
  have s1_1_1 : w1.cell? ⟨w.heap.size + 1, 1, none⟩ = some (.int .i64 0) := (hb1.cell (p := ⟨w.heap.size + 1, 1, none⟩) (by simp <;> omega)).trans (by go_simp)
  have s1_1_2 : w1.cell? ⟨w.heap.size + 1, 2, none⟩ = some (.int .i64 0) := (hb1.cell (p := ⟨w.heap.size + 1, 2, none⟩) (by simp <;> omega)).trans (by go_simp)
  have z1_1_0 : w1.frozen? ⟨w.heap.size + 1, 0, none⟩ = false := (hb1.frozen (p := ⟨w.heap.size + 1, 0, none⟩) (by simp <;> omega)).trans (by go_simp)
  have z1_1_1 : w1.frozen? ⟨w.heap.size + 1, 1, none⟩ = false := (hb1.frozen (p := ⟨w.heap.size + 1, 1, none⟩) (by simp <;> omega)).trans (by go_simp)
  have z1_1_2 : w1.frozen? ⟨w.heap.size + 1, 2, none⟩ = false := (hb1.frozen (p := ⟨w.heap.size + 1, 2, none⟩) (by simp <;> omega)).trans (by go_simp)
  have H1 : Below w.heap.size w w1 := (((Below.refl _ _).alloc (Nat.le_refl _) _).alloc (by simp <;> omega) _).trans (hb1.mono (by simp <;> omega))
  clear hb1
  go_wp2
  refine bodyPost_ret (v := .tuple #[.int .i64 0, .agg #[.int .i64 0, .int .i64 0, .int .i64 0], .int .i64 2]) (by simp [results, Try.results32, go_sem, s1_1_0, s1_1_1, s1_1_2]) rfl ⟨rfl, ?_⟩
  exact ((H1.setCell (by simp) _).setCell (by simp) _).setCell (by simp) _
set_option maxRecDepth 100000 in
set_option maxHeartbeats 1000000 in
theorem changed_run {o c p c' p' : Int} (h : okI o c p = true) (g : Nat) (cb : Array Value) (w : World)
    (eg : ∀ args w, (callFunc g args).run Try.prog w = .ok (.enter g args) w)
    (hf : ∀ W b, Below w.heap.size w W → w.heap.size ≤ b → InfoAt W b o c p → Calls Try.prog g (#[.pointer (some ⟨b, 0, none⟩)] ++ cb) W fun e w' => e = .returned (.int .i64 0) ∧ Below b W w' ∧ InfoAt w' b o c' p')
    (hch : ¬ (c' = c ∧ p' = p)) (hok : okI o c' p' = true) :
    Calls Try.prog 32 #[.agg #[.int .i64 o, .int .i64 c, .int .i64 p], .bool true, .func (.func g) #[] cb] w fun e w' => e = .returned (.tuple #[.int .i64 0, .agg #[.int .i64 o, .int .i64 c', .int .i64 p'], .int .i64 0]) ∧ Below w.heap.size w w' := by
  have HK := Lib.hid fun w => pcheck_true h w
  have HF := Lib.hid hf
  have HQ := Lib.hid fun w => pcheck_true hok w
  clear h hf hok
  have hne := info_other (o := o) hch
  go_enter Try.func32, Try.ntmps32
  go_wp2_with fail
  refine (HK.out _).mono ?_
  rintro e w1 ⟨rfl, hb1⟩
  have hz1_0 : w.heap.size < w1.heap.size := by have := hb1.size; simp at this; omega
  have s1_0_0 : w1.cell? ⟨w.heap.size, 0, none⟩ = some (.int .i64 o) := (hb1.cell (p := ⟨w.heap.size, 0, none⟩) (by simp <;> omega)).trans (by go_simp)
  have s1_0_1 : w1.cell? ⟨w.heap.size, 1, none⟩ = some (.int .i64 c) := (hb1.cell (p := ⟨w.heap.size, 1, none⟩) (by simp <;> omega)).trans (by go_simp)
  have s1_0_2 : w1.cell? ⟨w.heap.size, 2, none⟩ = some (.int .i64 p) := (hb1.cell (p := ⟨w.heap.size, 2, none⟩) (by simp <;> omega)).trans (by go_simp)
  have hz1_1 : w.heap.size + 1 < w1.heap.size := by have := hb1.size; simp at this; omega
  have s1_1_0 : w1.cell? ⟨w.heap.size + 1, 0, none⟩ = some (.int .i64 0) := (hb1.cell (p := ⟨w.heap.size + 1, 0, none⟩) (by simp <;> omega)).trans (by go_simp)
  have s1_1_1 : w1.cell? ⟨w.heap.size + 1, 1, none⟩ = some (.int .i64 0) := (hb1.cell (p := ⟨w.heap.size + 1, 1, none⟩) (by simp <;> omega)).trans (by go_simp)
  have s1_1_2 : w1.cell? ⟨w.heap.size + 1, 2, none⟩ = some (.int .i64 0) := (hb1.cell (p := ⟨w.heap.size + 1, 2, none⟩) (by simp <;> omega)).trans (by go_simp)
  have z1_1_0 : w1.frozen? ⟨w.heap.size + 1, 0, none⟩ = false := (hb1.frozen (p := ⟨w.heap.size + 1, 0, none⟩) (by simp <;> omega)).trans (by go_simp)
  have z1_1_1 : w1.frozen? ⟨w.heap.size + 1, 1, none⟩ = false := (hb1.frozen (p := ⟨w.heap.size + 1, 1, none⟩) (by simp <;> omega)).trans (by go_simp)
  have z1_1_2 : w1.frozen? ⟨w.heap.size + 1, 2, none⟩ = false := (hb1.frozen (p := ⟨w.heap.size + 1, 2, none⟩) (by simp <;> omega)).trans (by go_simp)
  have H1 : Below w.heap.size w w1 := (((Below.refl _ _).alloc (Nat.le_refl _) _).alloc (by simp <;> omega) _).trans (hb1.mono (by simp <;> omega))
  clear hb1
  go_wp2_with fail
  have hI0 : InfoAt (w1.alloc (.cells #[.int .i64 o, .int .i64 c, .int .i64 p] 85)) w1.heap.size o c p := ⟨by go_simp, by go_simp, by go_simp, by go_simp, by go_simp, by go_simp⟩
  refine (HF.out _ _ (H1.alloc H1.size _) H1.size hI0).mono ?_
  rintro e w2 ⟨rfl, hb0, hI⟩
  clear hI0
  have hb2 : Below w1.heap.size w1 w2 := ((Below.refl _ _).alloc (Nat.le_refl _) _).trans hb0
  clear hb0
  have hz2_0 := Nat.lt_of_lt_of_le hz1_0 hb2.size
  have s2_0_0 := (hb2.cell (p := ⟨w.heap.size, 0, none⟩) hz1_0).trans s1_0_0
  have s2_0_1 := (hb2.cell (p := ⟨w.heap.size, 1, none⟩) hz1_0).trans s1_0_1
  have s2_0_2 := (hb2.cell (p := ⟨w.heap.size, 2, none⟩) hz1_0).trans s1_0_2
  have hz2_1 := Nat.lt_of_lt_of_le hz1_1 hb2.size
  have s2_1_0 := (hb2.cell (p := ⟨w.heap.size + 1, 0, none⟩) hz1_1).trans s1_1_0
  have s2_1_1 := (hb2.cell (p := ⟨w.heap.size + 1, 1, none⟩) hz1_1).trans s1_1_1
  have s2_1_2 := (hb2.cell (p := ⟨w.heap.size + 1, 2, none⟩) hz1_1).trans s1_1_2
  have z2_1_0 := (hb2.frozen (p := ⟨w.heap.size + 1, 0, none⟩) hz1_1).trans z1_1_0
  have z2_1_1 := (hb2.frozen (p := ⟨w.heap.size + 1, 1, none⟩) hz1_1).trans z1_1_1
  have z2_1_2 := (hb2.frozen (p := ⟨w.heap.size + 1, 2, none⟩) hz1_1).trans z1_1_2
  have H2 := H1.trans (hb2.mono H1.size)
  clear hz1_0 s1_0_0 s1_0_1 s1_0_2 hz1_1 s1_1_0 s1_1_1 s1_1_2 z1_1_0 z1_1_1 z1_1_2 hb2 H1
  have e0 := hI.c0
  have e1 := hI.c1
  have e2 := hI.c2
  have hz3 := hI.lt
  go_wp2_with fail
  have F0 := Bw.cell hz2_0 s2_0_0
  have F1 := Bw.cell hz2_0 s2_0_1
  have F2 := Bw.cell hz2_0 s2_0_2
  have F3 := Bw.cell hz2_1 s2_1_0
  have F4 := Bw.cell hz2_1 s2_1_1
  have F5 := Bw.cell hz2_1 s2_1_2
  have F6 := Bw.cell hz3 e0
  have F7 := Bw.cell hz3 e1
  have F8 := Bw.cell hz3 e2
  refine wp_region_bw (by kernel_rfl) (by kernel_rfl) ?_
  repeat (go_big_quiet_step ((first | (go_at_call 17; exact (Calls.bw_of (HQ.out _))))))
  refine wpQuiet_nil ?_
  rintro w3 ⟨⟨_, hb3⟩, rfl⟩
  clear F0 F1 F2 F3 F4 F5 F6 F7 F8
  have hbI := hb3
  have hz3_0 := Nat.lt_of_lt_of_le hz2_0 hb3.size
  have s3_0_0 := (hb3.cell (p := ⟨w.heap.size, 0, none⟩) hz2_0).trans s2_0_0
  have s3_0_1 := (hb3.cell (p := ⟨w.heap.size, 1, none⟩) hz2_0).trans s2_0_1
  have s3_0_2 := (hb3.cell (p := ⟨w.heap.size, 2, none⟩) hz2_0).trans s2_0_2
  have hz3_1 := Nat.lt_of_lt_of_le hz2_1 hb3.size
  have s3_1_0 := (hb3.cell (p := ⟨w.heap.size + 1, 0, none⟩) hz2_1).trans s2_1_0
  have s3_1_1 := (hb3.cell (p := ⟨w.heap.size + 1, 1, none⟩) hz2_1).trans s2_1_1
  have s3_1_2 := (hb3.cell (p := ⟨w.heap.size + 1, 2, none⟩) hz2_1).trans s2_1_2
  have z3_1_0 := (hb3.frozen (p := ⟨w.heap.size + 1, 0, none⟩) hz2_1).trans z2_1_0
  have z3_1_1 := (hb3.frozen (p := ⟨w.heap.size + 1, 1, none⟩) hz2_1).trans z2_1_1
  have z3_1_2 := (hb3.frozen (p := ⟨w.heap.size + 1, 2, none⟩) hz2_1).trans z2_1_2
  have hz3_2 := Nat.lt_of_lt_of_le hz3 hb3.size
  have s3_2_0 := (hb3.cell (p := ⟨w1.heap.size, 0, none⟩) hz3).trans e0
  have s3_2_1 := (hb3.cell (p := ⟨w1.heap.size, 1, none⟩) hz3).trans e1
  have s3_2_2 := (hb3.cell (p := ⟨w1.heap.size, 2, none⟩) hz3).trans e2
  have H3 := H2.trans (hb3.mono H2.size)
  clear hz2_0 s2_0_0 s2_0_1 s2_0_2 hz2_1 s2_1_0 s2_1_1 s2_1_2 hz3 e0 e1 e2 z2_1_0 z2_1_1 z2_1_2 hb3 H2
  go_wp2_with fail
  have hIb : InfoAt w3 w1.heap.size o c' p' := hI.below hbI
  have hZb : InfoAt w3 (w.heap.size + 1) 0 0 0 := ⟨s3_1_0, s3_1_1, s3_1_2, z3_1_0, z3_1_1, z3_1_2⟩
  have k0 := hIb.c0
  have k1 := hIb.c1
  have k2 := hIb.c2
  clear hI hbI
  go_upto_region 10 with fail
  go_region
  all_goals (try go_wp2)
  all_goals
    refine bodyPost_ret (v := .tuple #[.int .i64 0, .agg #[.int .i64 o, .int .i64 c', .int .i64 p'], .int .i64 0]) (by simp [results, Try.results32, go_sem, s3_1_0, s3_1_1, s3_1_2]) rfl ⟨rfl, ?_⟩
    first | exact ((H3.drew.setCell (Nat.le_succ _) _).setCell (Nat.le_succ _) _).setCell (Nat.le_succ _) _ | exact ((H3.setCell (Nat.le_succ _) _).setCell (Nat.le_succ _) _).setCell (Nat.le_succ _) _
set_option maxRecDepth 100000 in
set_option maxHeartbeats 1000000 in
theorem changed_same {o c p : Int} (h : okI o c p = true) (g : Nat) (cb : Array Value) (w : World)
    (eg : ∀ args w, (callFunc g args).run Try.prog w = .ok (.enter g args) w)
    (hf : ∀ W b, Below w.heap.size w W → w.heap.size ≤ b → InfoAt W b o c p → Calls Try.prog g (#[.pointer (some ⟨b, 0, none⟩)] ++ cb) W fun e w' => e = .returned (.int .i64 0) ∧ Below b W w' ∧ InfoAt w' b o c p)
 :
    Calls Try.prog 32 #[.agg #[.int .i64 o, .int .i64 c, .int .i64 p], .bool true, .func (.func g) #[] cb] w fun e w' => e = .returned (.tuple #[.int .i64 0, .agg #[.int .i64 o, .int .i64 c, .int .i64 p], .int .i64 0]) ∧ Below w.heap.size w w' := by
  have HK := Lib.hid fun w => pcheck_true h w
  have HF := Lib.hid hf
  clear h hf
  have hne := info_same o c p
  go_enter Try.func32, Try.ntmps32
  go_wp2_with fail
  refine (HK.out _).mono ?_
  rintro e w1 ⟨rfl, hb1⟩
  have hz1_0 : w.heap.size < w1.heap.size := by have := hb1.size; simp at this; omega
  have s1_0_0 : w1.cell? ⟨w.heap.size, 0, none⟩ = some (.int .i64 o) := (hb1.cell (p := ⟨w.heap.size, 0, none⟩) (by simp <;> omega)).trans (by go_simp)
  have s1_0_1 : w1.cell? ⟨w.heap.size, 1, none⟩ = some (.int .i64 c) := (hb1.cell (p := ⟨w.heap.size, 1, none⟩) (by simp <;> omega)).trans (by go_simp)
  have s1_0_2 : w1.cell? ⟨w.heap.size, 2, none⟩ = some (.int .i64 p) := (hb1.cell (p := ⟨w.heap.size, 2, none⟩) (by simp <;> omega)).trans (by go_simp)
  have hz1_1 : w.heap.size + 1 < w1.heap.size := by have := hb1.size; simp at this; omega
  have s1_1_0 : w1.cell? ⟨w.heap.size + 1, 0, none⟩ = some (.int .i64 0) := (hb1.cell (p := ⟨w.heap.size + 1, 0, none⟩) (by simp <;> omega)).trans (by go_simp)
  have s1_1_1 : w1.cell? ⟨w.heap.size + 1, 1, none⟩ = some (.int .i64 0) := (hb1.cell (p := ⟨w.heap.size + 1, 1, none⟩) (by simp <;> omega)).trans (by go_simp)
  have s1_1_2 : w1.cell? ⟨w.heap.size + 1, 2, none⟩ = some (.int .i64 0) := (hb1.cell (p := ⟨w.heap.size + 1, 2, none⟩) (by simp <;> omega)).trans (by go_simp)
  have z1_1_0 : w1.frozen? ⟨w.heap.size + 1, 0, none⟩ = false := (hb1.frozen (p := ⟨w.heap.size + 1, 0, none⟩) (by simp <;> omega)).trans (by go_simp)
  have z1_1_1 : w1.frozen? ⟨w.heap.size + 1, 1, none⟩ = false := (hb1.frozen (p := ⟨w.heap.size + 1, 1, none⟩) (by simp <;> omega)).trans (by go_simp)
  have z1_1_2 : w1.frozen? ⟨w.heap.size + 1, 2, none⟩ = false := (hb1.frozen (p := ⟨w.heap.size + 1, 2, none⟩) (by simp <;> omega)).trans (by go_simp)
  have H1 : Below w.heap.size w w1 := (((Below.refl _ _).alloc (Nat.le_refl _) _).alloc (by simp <;> omega) _).trans (hb1.mono (by simp <;> omega))
  clear hb1
  go_wp2_with fail
  have hI0 : InfoAt (w1.alloc (.cells #[.int .i64 o, .int .i64 c, .int .i64 p] 85)) w1.heap.size o c p := ⟨by go_simp, by go_simp, by go_simp, by go_simp, by go_simp, by go_simp⟩
  refine (HF.out _ _ (H1.alloc H1.size _) H1.size hI0).mono ?_
  rintro e w2 ⟨rfl, hb0, hI⟩
  clear hI0
  have hb2 : Below w1.heap.size w1 w2 := ((Below.refl _ _).alloc (Nat.le_refl _) _).trans hb0
  clear hb0
  have hz2_0 := Nat.lt_of_lt_of_le hz1_0 hb2.size
  have s2_0_0 := (hb2.cell (p := ⟨w.heap.size, 0, none⟩) hz1_0).trans s1_0_0
  have s2_0_1 := (hb2.cell (p := ⟨w.heap.size, 1, none⟩) hz1_0).trans s1_0_1
  have s2_0_2 := (hb2.cell (p := ⟨w.heap.size, 2, none⟩) hz1_0).trans s1_0_2
  have hz2_1 := Nat.lt_of_lt_of_le hz1_1 hb2.size
  have s2_1_0 := (hb2.cell (p := ⟨w.heap.size + 1, 0, none⟩) hz1_1).trans s1_1_0
  have s2_1_1 := (hb2.cell (p := ⟨w.heap.size + 1, 1, none⟩) hz1_1).trans s1_1_1
  have s2_1_2 := (hb2.cell (p := ⟨w.heap.size + 1, 2, none⟩) hz1_1).trans s1_1_2
  have z2_1_0 := (hb2.frozen (p := ⟨w.heap.size + 1, 0, none⟩) hz1_1).trans z1_1_0
  have z2_1_1 := (hb2.frozen (p := ⟨w.heap.size + 1, 1, none⟩) hz1_1).trans z1_1_1
  have z2_1_2 := (hb2.frozen (p := ⟨w.heap.size + 1, 2, none⟩) hz1_1).trans z1_1_2
  have H2 := H1.trans (hb2.mono H1.size)
  clear hz1_0 s1_0_0 s1_0_1 s1_0_2 hz1_1 s1_1_0 s1_1_1 s1_1_2 z1_1_0 z1_1_1 z1_1_2 hb2 H1
  have e0 := hI.c0
  have e1 := hI.c1
  have e2 := hI.c2
  have hz3 := hI.lt
  go_wp2_with fail
  have F0 := Bw.cell hz2_0 s2_0_0
  have F1 := Bw.cell hz2_0 s2_0_1
  have F2 := Bw.cell hz2_0 s2_0_2
  have F3 := Bw.cell hz2_1 s2_1_0
  have F4 := Bw.cell hz2_1 s2_1_1
  have F5 := Bw.cell hz2_1 s2_1_2
  have F6 := Bw.cell hz3 e0
  have F7 := Bw.cell hz3 e1
  have F8 := Bw.cell hz3 e2
  refine wp_region_bw (by kernel_rfl) (by kernel_rfl) ?_
  repeat (go_big_quiet_step (fail))
  refine wpQuiet_nil ?_
  rintro w3 ⟨⟨_, hb3⟩, rfl⟩
  clear F0 F1 F2 F3 F4 F5 F6 F7 F8
  have hbI := hb3
  have hz3_0 := Nat.lt_of_lt_of_le hz2_0 hb3.size
  have s3_0_0 := (hb3.cell (p := ⟨w.heap.size, 0, none⟩) hz2_0).trans s2_0_0
  have s3_0_1 := (hb3.cell (p := ⟨w.heap.size, 1, none⟩) hz2_0).trans s2_0_1
  have s3_0_2 := (hb3.cell (p := ⟨w.heap.size, 2, none⟩) hz2_0).trans s2_0_2
  have hz3_1 := Nat.lt_of_lt_of_le hz2_1 hb3.size
  have s3_1_0 := (hb3.cell (p := ⟨w.heap.size + 1, 0, none⟩) hz2_1).trans s2_1_0
  have s3_1_1 := (hb3.cell (p := ⟨w.heap.size + 1, 1, none⟩) hz2_1).trans s2_1_1
  have s3_1_2 := (hb3.cell (p := ⟨w.heap.size + 1, 2, none⟩) hz2_1).trans s2_1_2
  have z3_1_0 := (hb3.frozen (p := ⟨w.heap.size + 1, 0, none⟩) hz2_1).trans z2_1_0
  have z3_1_1 := (hb3.frozen (p := ⟨w.heap.size + 1, 1, none⟩) hz2_1).trans z2_1_1
  have z3_1_2 := (hb3.frozen (p := ⟨w.heap.size + 1, 2, none⟩) hz2_1).trans z2_1_2
  have hz3_2 := Nat.lt_of_lt_of_le hz3 hb3.size
  have s3_2_0 := (hb3.cell (p := ⟨w1.heap.size, 0, none⟩) hz3).trans e0
  have s3_2_1 := (hb3.cell (p := ⟨w1.heap.size, 1, none⟩) hz3).trans e1
  have s3_2_2 := (hb3.cell (p := ⟨w1.heap.size, 2, none⟩) hz3).trans e2
  have H3 := H2.trans (hb3.mono H2.size)
  clear hz2_0 s2_0_0 s2_0_1 s2_0_2 hz2_1 s2_1_0 s2_1_1 s2_1_2 hz3 e0 e1 e2 z2_1_0 z2_1_1 z2_1_2 hb3 H2
  go_wp2_with fail
  have hIb : InfoAt w3 w1.heap.size o c p := hI.below hbI
  have hZb : InfoAt w3 (w.heap.size + 1) 0 0 0 := ⟨s3_1_0, s3_1_1, s3_1_2, z3_1_0, z3_1_1, z3_1_2⟩
  have k0 := hIb.c0
  have k1 := hIb.c1
  have k2 := hIb.c2
  clear hI hbI
  go_upto_region 10 with fail
  go_region
  all_goals (try go_wp2)
  all_goals
    refine bodyPost_ret (v := .tuple #[.int .i64 0, .agg #[.int .i64 o, .int .i64 c, .int .i64 p], .int .i64 0]) (by simp [results, Try.results32, go_sem, s3_1_0, s3_1_1, s3_1_2]) rfl ⟨rfl, ?_⟩
    first | exact ((H3.drew.setCell (Nat.le_succ _) _).setCell (Nat.le_succ _) _).setCell (Nat.le_succ _) _ | exact ((H3.setCell (Nat.le_succ _) _).setCell (Nat.le_succ _) _).setCell (Nat.le_succ _) _
set_option maxRecDepth 100000 in
set_option maxHeartbeats 1000000 in
theorem changed_big {o c p c' p' : Int} (h : okI o c p = true) (g : Nat) (cb : Array Value) (w : World)
    (eg : ∀ args w, (callFunc g args).run Try.prog w = .ok (.enter g args) w)
    (hf : ∀ W b, Below w.heap.size w W → w.heap.size ≤ b → InfoAt W b o c p → Calls Try.prog g (#[.pointer (some ⟨b, 0, none⟩)] ++ cb) W fun e w' => e = .returned (.int .i64 0) ∧ Below b W w' ∧ InfoAt w' b o c' p')
    (hch : ¬ (c' = c ∧ p' = p)) (hok : okI o c' p' = false) :
    Calls Try.prog 32 #[.agg #[.int .i64 o, .int .i64 c, .int .i64 p], .bool true, .func (.func g) #[] cb] w fun e w' => e = .returned (.tuple #[.int .i64 0, .agg #[.int .i64 0, .int .i64 0, .int .i64 0], .int .i64 6]) ∧ Below w.heap.size w w' := by
  have HK := Lib.hid fun w => pcheck_true h w
  have HF := Lib.hid hf
  have HQ := Lib.hid fun w => pcheck_false hok w
  clear h hf hok
  have hne := info_other (o := o) hch
  go_enter Try.func32, Try.ntmps32
  go_wp2_with fail
  refine (HK.out _).mono ?_
  rintro e w1 ⟨rfl, hb1⟩
  have hz1_0 : w.heap.size < w1.heap.size := by have := hb1.size; simp at this; omega
  have s1_0_0 : w1.cell? ⟨w.heap.size, 0, none⟩ = some (.int .i64 o) := (hb1.cell (p := ⟨w.heap.size, 0, none⟩) (by simp <;> omega)).trans (by go_simp)
  have s1_0_1 : w1.cell? ⟨w.heap.size, 1, none⟩ = some (.int .i64 c) := (hb1.cell (p := ⟨w.heap.size, 1, none⟩) (by simp <;> omega)).trans (by go_simp)
  have s1_0_2 : w1.cell? ⟨w.heap.size, 2, none⟩ = some (.int .i64 p) := (hb1.cell (p := ⟨w.heap.size, 2, none⟩) (by simp <;> omega)).trans (by go_simp)
  have hz1_1 : w.heap.size + 1 < w1.heap.size := by have := hb1.size; simp at this; omega
  have s1_1_0 : w1.cell? ⟨w.heap.size + 1, 0, none⟩ = some (.int .i64 0) := (hb1.cell (p := ⟨w.heap.size + 1, 0, none⟩) (by simp <;> omega)).trans (by go_simp)
  have s1_1_1 : w1.cell? ⟨w.heap.size + 1, 1, none⟩ = some (.int .i64 0) := (hb1.cell (p := ⟨w.heap.size + 1, 1, none⟩) (by simp <;> omega)).trans (by go_simp)
  have s1_1_2 : w1.cell? ⟨w.heap.size + 1, 2, none⟩ = some (.int .i64 0) := (hb1.cell (p := ⟨w.heap.size + 1, 2, none⟩) (by simp <;> omega)).trans (by go_simp)
  have z1_1_0 : w1.frozen? ⟨w.heap.size + 1, 0, none⟩ = false := (hb1.frozen (p := ⟨w.heap.size + 1, 0, none⟩) (by simp <;> omega)).trans (by go_simp)
  have z1_1_1 : w1.frozen? ⟨w.heap.size + 1, 1, none⟩ = false := (hb1.frozen (p := ⟨w.heap.size + 1, 1, none⟩) (by simp <;> omega)).trans (by go_simp)
  have z1_1_2 : w1.frozen? ⟨w.heap.size + 1, 2, none⟩ = false := (hb1.frozen (p := ⟨w.heap.size + 1, 2, none⟩) (by simp <;> omega)).trans (by go_simp)
  have H1 : Below w.heap.size w w1 := (((Below.refl _ _).alloc (Nat.le_refl _) _).alloc (by simp <;> omega) _).trans (hb1.mono (by simp <;> omega))
  clear hb1
  go_wp2_with fail
  have hI0 : InfoAt (w1.alloc (.cells #[.int .i64 o, .int .i64 c, .int .i64 p] 85)) w1.heap.size o c p := ⟨by go_simp, by go_simp, by go_simp, by go_simp, by go_simp, by go_simp⟩
  refine (HF.out _ _ (H1.alloc H1.size _) H1.size hI0).mono ?_
  rintro e w2 ⟨rfl, hb0, hI⟩
  clear hI0
  have hb2 : Below w1.heap.size w1 w2 := ((Below.refl _ _).alloc (Nat.le_refl _) _).trans hb0
  clear hb0
  have hz2_0 := Nat.lt_of_lt_of_le hz1_0 hb2.size
  have s2_0_0 := (hb2.cell (p := ⟨w.heap.size, 0, none⟩) hz1_0).trans s1_0_0
  have s2_0_1 := (hb2.cell (p := ⟨w.heap.size, 1, none⟩) hz1_0).trans s1_0_1
  have s2_0_2 := (hb2.cell (p := ⟨w.heap.size, 2, none⟩) hz1_0).trans s1_0_2
  have hz2_1 := Nat.lt_of_lt_of_le hz1_1 hb2.size
  have s2_1_0 := (hb2.cell (p := ⟨w.heap.size + 1, 0, none⟩) hz1_1).trans s1_1_0
  have s2_1_1 := (hb2.cell (p := ⟨w.heap.size + 1, 1, none⟩) hz1_1).trans s1_1_1
  have s2_1_2 := (hb2.cell (p := ⟨w.heap.size + 1, 2, none⟩) hz1_1).trans s1_1_2
  have z2_1_0 := (hb2.frozen (p := ⟨w.heap.size + 1, 0, none⟩) hz1_1).trans z1_1_0
  have z2_1_1 := (hb2.frozen (p := ⟨w.heap.size + 1, 1, none⟩) hz1_1).trans z1_1_1
  have z2_1_2 := (hb2.frozen (p := ⟨w.heap.size + 1, 2, none⟩) hz1_1).trans z1_1_2
  have H2 := H1.trans (hb2.mono H1.size)
  clear hz1_0 s1_0_0 s1_0_1 s1_0_2 hz1_1 s1_1_0 s1_1_1 s1_1_2 z1_1_0 z1_1_1 z1_1_2 hb2 H1
  have e0 := hI.c0
  have e1 := hI.c1
  have e2 := hI.c2
  have hz3 := hI.lt
  go_wp2_with fail
  have F0 := Bw.cell hz2_0 s2_0_0
  have F1 := Bw.cell hz2_0 s2_0_1
  have F2 := Bw.cell hz2_0 s2_0_2
  have F3 := Bw.cell hz2_1 s2_1_0
  have F4 := Bw.cell hz2_1 s2_1_1
  have F5 := Bw.cell hz2_1 s2_1_2
  have F6 := Bw.cell hz3 e0
  have F7 := Bw.cell hz3 e1
  have F8 := Bw.cell hz3 e2
  refine wp_region_bw (by kernel_rfl) (by kernel_rfl) ?_
  repeat (go_big_quiet_step ((first | (go_at_call 17; exact (Calls.bw_of (HQ.out _))))))
  refine wpQuiet_nil ?_
  rintro w3 ⟨⟨_, hb3⟩, rfl⟩
  clear F0 F1 F2 F3 F4 F5 F6 F7 F8
  have hbI := hb3
  have hz3_0 := Nat.lt_of_lt_of_le hz2_0 hb3.size
  have s3_0_0 := (hb3.cell (p := ⟨w.heap.size, 0, none⟩) hz2_0).trans s2_0_0
  have s3_0_1 := (hb3.cell (p := ⟨w.heap.size, 1, none⟩) hz2_0).trans s2_0_1
  have s3_0_2 := (hb3.cell (p := ⟨w.heap.size, 2, none⟩) hz2_0).trans s2_0_2
  have hz3_1 := Nat.lt_of_lt_of_le hz2_1 hb3.size
  have s3_1_0 := (hb3.cell (p := ⟨w.heap.size + 1, 0, none⟩) hz2_1).trans s2_1_0
  have s3_1_1 := (hb3.cell (p := ⟨w.heap.size + 1, 1, none⟩) hz2_1).trans s2_1_1
  have s3_1_2 := (hb3.cell (p := ⟨w.heap.size + 1, 2, none⟩) hz2_1).trans s2_1_2
  have z3_1_0 := (hb3.frozen (p := ⟨w.heap.size + 1, 0, none⟩) hz2_1).trans z2_1_0
  have z3_1_1 := (hb3.frozen (p := ⟨w.heap.size + 1, 1, none⟩) hz2_1).trans z2_1_1
  have z3_1_2 := (hb3.frozen (p := ⟨w.heap.size + 1, 2, none⟩) hz2_1).trans z2_1_2
  have hz3_2 := Nat.lt_of_lt_of_le hz3 hb3.size
  have s3_2_0 := (hb3.cell (p := ⟨w1.heap.size, 0, none⟩) hz3).trans e0
  have s3_2_1 := (hb3.cell (p := ⟨w1.heap.size, 1, none⟩) hz3).trans e1
  have s3_2_2 := (hb3.cell (p := ⟨w1.heap.size, 2, none⟩) hz3).trans e2
  have H3 := H2.trans (hb3.mono H2.size)
  clear hz2_0 s2_0_0 s2_0_1 s2_0_2 hz2_1 s2_1_0 s2_1_1 s2_1_2 hz3 e0 e1 e2 z2_1_0 z2_1_1 z2_1_2 hb3 H2
  go_wp2_with fail
  go_wp2
  refine bodyPost_ret (v := .tuple #[.int .i64 0, .agg #[.int .i64 0, .int .i64 0, .int .i64 0], .int .i64 6]) (by simp [results, Try.results32, go_sem] <;> go_simp) rfl ⟨rfl, ?_⟩
  have HS := ((H3.setCell (p := ⟨w.heap.size + 1, 0, none⟩) (Nat.le_succ w.heap.size) (.int .i64 0)).setCell (p := ⟨w.heap.size + 1, 1, none⟩) (Nat.le_succ w.heap.size) (.int .i64 0)).setCell (p := ⟨w.heap.size + 1, 2, none⟩) (Nat.le_succ w.heap.size) (.int .i64 0)
  exact HS.alloc HS.size _
end Go.Proofs.Ytgdagfiebaebbaa
