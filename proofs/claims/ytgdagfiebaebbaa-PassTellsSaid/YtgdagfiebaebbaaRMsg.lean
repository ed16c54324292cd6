/- The package pass: the reference of layer 14: Message. -/
import Derived.Test.YtgdagfiebaebbaaMsg3
import Derived.Test.YtgdagfiebaebbaaRf8
namespace Go.Proofs.Ytgdagfiebaebbaa
open Go.RowKit

theorem rright14_f {o c p : Int} (h : okI o c p = false) (w : World) : Calls Try.prog 18 #[.agg #[.int .i64 o, .int .i64 c, .int .i64 p]] w fun e w' => e = .returned (.bool false) ∧ Below w.heap.size w w' := by
  have := rright14_any o c p w
  rwa [h] at this
theorem rright14_t {o c p : Int} (h : okI o c p = true) (w : World) : Calls Try.prog 18 #[.agg #[.int .i64 o, .int .i64 c, .int .i64 p]] w fun e w' => e = .returned (.bool true) ∧ Below w.heap.size w w' := by
  have := rright14_any o c p w
  rwa [h] at this
set_option maxRecDepth 100000 in
set_option maxHeartbeats 4000000 in
theorem rmsg_bad (o c p dom sid sport seq : Int) (w : World) (h : okI o c p = false) : Calls Try.prog 22 #[.agg #[.int .i64 o, .int .i64 c, .int .i64 p], .int .i64 dom, .agg #[.int .i64 sid, .int .i64 sport], .int .i64 seq] w fun e w' => e = .returned (.tuple #[.agg #[.int .i64 0, .int .i64 0, .int .i64 0, .int .i64 0, .int .i64 0, .int .i64 0, .int .i64 0, .int .i64 0, .int .i64 0, .int .i64 0, .int .i64 0, .int .i64 0, .int .i64 0, .int .i64 0, .int .i64 0, .int .i64 0, .int .i64 0], .int .i64 240]) ∧ Below w.heap.size w w' := by
  have HK := Lib.hid fun w => rright14_f h w
  clear h
  go_enter Try.func22, Try.ntmps22
  go_wp2_with fail
  refine (HK.out _).mono ?_
  rintro e w1 ⟨rfl, hb1⟩
  have m1 : MsgAt w1 (w.heap.size + 1 + 1) zero17 := by
    have := (msg_at _ 46 zero17).below hb1
    simpa using this
  have m1 := Lib.hid m1
  have l1 : w.heap.size + 1 + 1 < w1.heap.size := by have := hb1.size; simp at this; omega
  have hz1_0 : w.heap.size < w1.heap.size := by have := hb1.size; simp at this; omega
  have s1_0_0 : w1.cell? ⟨w.heap.size, 0, none⟩ = some (.int .i64 o) := (hb1.cell (p := ⟨w.heap.size, 0, none⟩) (by simp <;> omega)).trans (by go_simp)
  have s1_0_1 : w1.cell? ⟨w.heap.size, 1, none⟩ = some (.int .i64 c) := (hb1.cell (p := ⟨w.heap.size, 1, none⟩) (by simp <;> omega)).trans (by go_simp)
  have s1_0_2 : w1.cell? ⟨w.heap.size, 2, none⟩ = some (.int .i64 p) := (hb1.cell (p := ⟨w.heap.size, 2, none⟩) (by simp <;> omega)).trans (by go_simp)
  have hz1_1 : w.heap.size + 1 < w1.heap.size := by have := hb1.size; simp at this; omega
  have s1_1_0 : w1.cell? ⟨w.heap.size + 1, 0, none⟩ = some (.int .i64 sid) := (hb1.cell (p := ⟨w.heap.size + 1, 0, none⟩) (by simp <;> omega)).trans (by go_simp)
  have s1_1_1 : w1.cell? ⟨w.heap.size + 1, 1, none⟩ = some (.int .i64 sport) := (hb1.cell (p := ⟨w.heap.size + 1, 1, none⟩) (by simp <;> omega)).trans (by go_simp)
  have H1 : Below w.heap.size w w1 := ((((Below.refl _ _).alloc (Nat.le_refl _) _).alloc (by simp <;> omega) _).alloc (by simp <;> omega) _).trans (hb1.mono (by simp <;> omega))
  clear hb1
  go_wp2_with (first | (refine wpList_store_mid (by exact rfl) _ _ _ (by exact rfl) _ _ _ (by exact rfl) (by exact rfl) (by exact there_msg m1.out) (by kernel_rfl) (by kernel_rfl) ?_))
  refine post_gen ?_
  rintro W9 hW
  have m9 : MsgAt W9 (w.heap.size + 1 + 1) zero17 := by rw [hW]; exact MsgAt.setCells m1.out zero17
  have HB9 : Below w.heap.size w W9 := H1.trans (by rw [hW]; exact below_setCells _ _ (by omega) _ _ _)
  clear hW
  exact bodyPost_ret (results_cell_tmp rfl _ rfl (load_msg m9)) rfl ⟨rfl, HB9⟩
set_option maxRecDepth 100000 in
set_option maxHeartbeats 4000000 in
theorem rmsg_ok (o c p dom sid sport seq : Int) (w : World) (h : okI o c p = true) (h2 : chkM (mk8 o c p dom sid sport seq) = 0) : Calls Try.prog 22 #[.agg #[.int .i64 o, .int .i64 c, .int .i64 p], .int .i64 dom, .agg #[.int .i64 sid, .int .i64 sport], .int .i64 seq] w fun e w' => e = .returned (.tuple #[.agg #[.int .i64 8, .int .i64 dom, .int .i64 c, .int .i64 sid, .int .i64 sport, .int .i64 seq, .int .i64 o, .int .i64 p, .int .i64 0, .int .i64 0, .int .i64 0, .int .i64 0, .int .i64 0, .int .i64 0, .int .i64 0, .int .i64 0, .int .i64 0], .int .i64 0]) ∧ Below w.heap.size w w' := by
  have HK := Lib.hid fun w => rright14_t h w
  have KM := Lib.hid fun w => rright10_any (mk8 o c p dom sid sport seq) w
  rw [h2] at KM
  clear h h2
  go_enter Try.func22, Try.ntmps22
  go_wp2_with fail
  refine (HK.out _).mono ?_
  rintro e w1 ⟨rfl, hb1⟩
  have m1 : MsgAt w1 (w.heap.size + 1 + 1) zero17 := by
    have := (msg_at _ 46 zero17).below hb1
    simpa using this
  have m1 := Lib.hid m1
  have l1 : w.heap.size + 1 + 1 < w1.heap.size := by have := hb1.size; simp at this; omega
  have hz1_0 : w.heap.size < w1.heap.size := by have := hb1.size; simp at this; omega
  have s1_0_0 : w1.cell? ⟨w.heap.size, 0, none⟩ = some (.int .i64 o) := (hb1.cell (p := ⟨w.heap.size, 0, none⟩) (by simp <;> omega)).trans (by go_simp)
  have s1_0_1 : w1.cell? ⟨w.heap.size, 1, none⟩ = some (.int .i64 c) := (hb1.cell (p := ⟨w.heap.size, 1, none⟩) (by simp <;> omega)).trans (by go_simp)
  have s1_0_2 : w1.cell? ⟨w.heap.size, 2, none⟩ = some (.int .i64 p) := (hb1.cell (p := ⟨w.heap.size, 2, none⟩) (by simp <;> omega)).trans (by go_simp)
  have hz1_1 : w.heap.size + 1 < w1.heap.size := by have := hb1.size; simp at this; omega
  have s1_1_0 : w1.cell? ⟨w.heap.size + 1, 0, none⟩ = some (.int .i64 sid) := (hb1.cell (p := ⟨w.heap.size + 1, 0, none⟩) (by simp <;> omega)).trans (by go_simp)
  have s1_1_1 : w1.cell? ⟨w.heap.size + 1, 1, none⟩ = some (.int .i64 sport) := (hb1.cell (p := ⟨w.heap.size + 1, 1, none⟩) (by simp <;> omega)).trans (by go_simp)
  have H1 : Below w.heap.size w w1 := ((((Below.refl _ _).alloc (Nat.le_refl _) _).alloc (by simp <;> omega) _).alloc (by simp <;> omega) _).trans (hb1.mono (by simp <;> omega))
  clear hb1
  go_wp2_with (first | (refine wpList_store_mid (by exact rfl) _ _ _ (by exact rfl) _ _ _ (by exact rfl) (by exact rfl) (by exact there_msg (msg_at _ _ zero17)) (by kernel_rfl) (by kernel_rfl) ?_) | (refine wpList_load_mid (by exact rfl) _ _ (by exact rfl) _ _ (by exact rfl) (msgL (mk8 o c p dom sid sport seq)) _ (by exact range_msg (MsgAt.setCells (msg_at _ _ zero17) (mk8 o c p dom sid sport seq))) Try.underlying46 (by exact rfl) (by kernel_rfl) ?_))
  refine (KM.out _).mono ?_
  rintro e w2 ⟨rfl, hb2⟩
  have m2 := Lib.hid (((m1.out.below (below_alloc _ _)).apart (Nat.ne_of_lt l1) _).below hb2)
  have m3 : MsgAt w2 w1.heap.size (mk8 o c p dom sid sport seq) := (MsgAt.setCells (msg_at _ _ zero17) (mk8 o c p dom sid sport seq)).below hb2
  have m3 := Lib.hid m3
  have H2 : Below w.heap.size w w2 := below_step hb2 ((H1.alloc H1.size _).trans (below_setCells w1.heap.size w.heap.size (by omega) _ _ 0))
  clear hb2 m1
  go_wp2_with (first | (refine wpList_store_mid (by exact rfl) _ _ _ (by exact rfl) _ _ _ (by exact rfl) (by exact rfl) (by exact there_msg m2.out) (by kernel_rfl) (by kernel_rfl) ?_) | (refine wpList_load_mid (by exact rfl) _ _ (by exact rfl) _ _ (by exact rfl) (msgL (mk8 o c p dom sid sport seq)) _ (by exact range_msg m3.out) Try.underlying46 (by exact rfl) (by kernel_rfl) ?_))
  refine post_gen ?_
  rintro W9 hW
  have m9 : MsgAt W9 (w.heap.size + 1 + 1) (mk8 o c p dom sid sport seq) := by rw [hW]; exact MsgAt.setCells m2.out (mk8 o c p dom sid sport seq)
  have HB9 : Below w.heap.size w W9 := H2.trans (by rw [hW]; exact below_setCells _ _ (by omega) _ _ _)
  clear hW
  exact bodyPost_ret (results_cell_tmp rfl _ rfl (load_msg m9)) rfl ⟨rfl, HB9⟩
set_option maxRecDepth 100000 in
set_option maxHeartbeats 4000000 in
theorem rmsg_no (o c p dom sid sport seq : Int) (w : World) (h : okI o c p = true) (h2 : chkM (mk8 o c p dom sid sport seq) = 200) : Calls Try.prog 22 #[.agg #[.int .i64 o, .int .i64 c, .int .i64 p], .int .i64 dom, .agg #[.int .i64 sid, .int .i64 sport], .int .i64 seq] w fun e w' => e = .returned (.tuple #[.agg #[.int .i64 0, .int .i64 0, .int .i64 0, .int .i64 0, .int .i64 0, .int .i64 0, .int .i64 0, .int .i64 0, .int .i64 0, .int .i64 0, .int .i64 0, .int .i64 0, .int .i64 0, .int .i64 0, .int .i64 0, .int .i64 0, .int .i64 0], .int .i64 200]) ∧ Below w.heap.size w w' := by
  have HK := Lib.hid fun w => rright14_t h w
  have KM := Lib.hid fun w => rright10_any (mk8 o c p dom sid sport seq) w
  rw [h2] at KM
  clear h h2
  go_enter Try.func22, Try.ntmps22
  go_wp2_with fail
  refine (HK.out _).mono ?_
  rintro e w1 ⟨rfl, hb1⟩
  have m1 : MsgAt w1 (w.heap.size + 1 + 1) zero17 := by
    have := (msg_at _ 46 zero17).below hb1
    simpa using this
  have m1 := Lib.hid m1
  have l1 : w.heap.size + 1 + 1 < w1.heap.size := by have := hb1.size; simp at this; omega
  have hz1_0 : w.heap.size < w1.heap.size := by have := hb1.size; simp at this; omega
  have s1_0_0 : w1.cell? ⟨w.heap.size, 0, none⟩ = some (.int .i64 o) := (hb1.cell (p := ⟨w.heap.size, 0, none⟩) (by simp <;> omega)).trans (by go_simp)
  have s1_0_1 : w1.cell? ⟨w.heap.size, 1, none⟩ = some (.int .i64 c) := (hb1.cell (p := ⟨w.heap.size, 1, none⟩) (by simp <;> omega)).trans (by go_simp)
  have s1_0_2 : w1.cell? ⟨w.heap.size, 2, none⟩ = some (.int .i64 p) := (hb1.cell (p := ⟨w.heap.size, 2, none⟩) (by simp <;> omega)).trans (by go_simp)
  have hz1_1 : w.heap.size + 1 < w1.heap.size := by have := hb1.size; simp at this; omega
  have s1_1_0 : w1.cell? ⟨w.heap.size + 1, 0, none⟩ = some (.int .i64 sid) := (hb1.cell (p := ⟨w.heap.size + 1, 0, none⟩) (by simp <;> omega)).trans (by go_simp)
  have s1_1_1 : w1.cell? ⟨w.heap.size + 1, 1, none⟩ = some (.int .i64 sport) := (hb1.cell (p := ⟨w.heap.size + 1, 1, none⟩) (by simp <;> omega)).trans (by go_simp)
  have H1 : Below w.heap.size w w1 := ((((Below.refl _ _).alloc (Nat.le_refl _) _).alloc (by simp <;> omega) _).alloc (by simp <;> omega) _).trans (hb1.mono (by simp <;> omega))
  clear hb1
  go_wp2_with (first | (refine wpList_store_mid (by exact rfl) _ _ _ (by exact rfl) _ _ _ (by exact rfl) (by exact rfl) (by exact there_msg (msg_at _ _ zero17)) (by kernel_rfl) (by kernel_rfl) ?_) | (refine wpList_load_mid (by exact rfl) _ _ (by exact rfl) _ _ (by exact rfl) (msgL (mk8 o c p dom sid sport seq)) _ (by exact range_msg (MsgAt.setCells (msg_at _ _ zero17) (mk8 o c p dom sid sport seq))) Try.underlying46 (by exact rfl) (by kernel_rfl) ?_))
  refine (KM.out _).mono ?_
  rintro e w2 ⟨rfl, hb2⟩
  have m2 := Lib.hid (((m1.out.below (below_alloc _ _)).apart (Nat.ne_of_lt l1) _).below hb2)
  have m3 : MsgAt w2 w1.heap.size (mk8 o c p dom sid sport seq) := (MsgAt.setCells (msg_at _ _ zero17) (mk8 o c p dom sid sport seq)).below hb2
  have m3 := Lib.hid m3
  have H2 : Below w.heap.size w w2 := below_step hb2 ((H1.alloc H1.size _).trans (below_setCells w1.heap.size w.heap.size (by omega) _ _ 0))
  clear hb2 m1
  go_wp2_with (first | (refine wpList_store_mid (by exact rfl) _ _ _ (by exact rfl) _ _ _ (by exact rfl) (by exact rfl) (by exact there_msg m2.out) (by kernel_rfl) (by kernel_rfl) ?_))
  refine post_gen ?_
  rintro W9 hW
  have m9 : MsgAt W9 (w.heap.size + 1 + 1) zero17 := by rw [hW]; exact MsgAt.setCells m2.out zero17
  have HB9 : Below w.heap.size w W9 := H2.trans (by rw [hW]; exact below_setCells _ _ (by omega) _ _ _)
  clear hW
  exact bodyPost_ret (results_cell_tmp rfl _ rfl (load_msg m9)) rfl ⟨rfl, HB9⟩
theorem rmsg_any (o c p dom sid sport seq : Int) (w : World) : Calls Try.prog 22 #[.agg #[.int .i64 o, .int .i64 c, .int .i64 p], .int .i64 dom, .agg #[.int .i64 sid, .int .i64 sport], .int .i64 seq] w fun e w' => e = .returned (.tuple #[msgV (mmV o c p dom sid sport seq).m, .int .i64 (mmV o c p dom sid sport seq).e]) ∧ Below w.heap.size w w' := by
  unfold mmV
  cases h : okI o c p
  · exact rmsg_bad o c p dom sid sport seq w h
  · rcases chkM_two (mk8 o c p dom sid sport seq) with h2 | h2
    · rw [if_neg (by decide), if_pos h2]
      exact rmsg_ok o c p dom sid sport seq w h h2
    · rw [if_neg (by decide), if_neg (by rw [h2]; decide)]
      exact rmsg_no o c p dom sid sport seq w h h2
set_option maxRecDepth 100000 in
set_option maxHeartbeats 4000000 in
theorem rof_any (v : Nat → Int) (w : World) : Calls Try.prog 25 #[msgV v] w fun e w' => e = .returned (.tuple #[(ofV v).info, .int .i64 (ofV v).e]) ∧ Below w.heap.size w w' := by
  have KM := Lib.hid fun w => rright10_any v w
  unfold msgV at KM ⊢
  by_cases h : chkM v = 0
  · rw [h] at KM
    by_cases h8 : v 0 = 8
    · have e0 : ofV v = ⟨v 6, v 2, v 7, 0⟩ := by unfold ofV; rw [if_pos h, if_pos h8]
      rw [e0]
      unfold Res.info
      dsimp only
      rw [h8] at KM ⊢
      clear h e0 h8
      go_enter Try.func25, Try.ntmps25
      go_wp2_with fail
      refine (KM.out _).mono ?_
      rintro e w1 ⟨rfl, hb1⟩
      have hz1_0 : w.heap.size < w1.heap.size := by have := hb1.size; simp at this; omega
      have s1_0_0 : w1.cell? ⟨w.heap.size, 0, none⟩ = some (.int .i64 8) := (hb1.cell (p := ⟨w.heap.size, 0, none⟩) (by simp <;> omega)).trans (by go_simp)
      have s1_0_1 : w1.cell? ⟨w.heap.size, 1, none⟩ = some (.int .i64 (v 1)) := (hb1.cell (p := ⟨w.heap.size, 1, none⟩) (by simp <;> omega)).trans (by go_simp)
      have s1_0_2 : w1.cell? ⟨w.heap.size, 2, none⟩ = some (.int .i64 (v 2)) := (hb1.cell (p := ⟨w.heap.size, 2, none⟩) (by simp <;> omega)).trans (by go_simp)
      have s1_0_3 : w1.cell? ⟨w.heap.size, 3, none⟩ = some (.int .i64 (v 3)) := (hb1.cell (p := ⟨w.heap.size, 3, none⟩) (by simp <;> omega)).trans (by go_simp)
      have s1_0_4 : w1.cell? ⟨w.heap.size, 4, none⟩ = some (.int .i64 (v 4)) := (hb1.cell (p := ⟨w.heap.size, 4, none⟩) (by simp <;> omega)).trans (by go_simp)
      have s1_0_5 : w1.cell? ⟨w.heap.size, 5, none⟩ = some (.int .i64 (v 5)) := (hb1.cell (p := ⟨w.heap.size, 5, none⟩) (by simp <;> omega)).trans (by go_simp)
      have s1_0_6 : w1.cell? ⟨w.heap.size, 6, none⟩ = some (.int .i64 (v 6)) := (hb1.cell (p := ⟨w.heap.size, 6, none⟩) (by simp <;> omega)).trans (by go_simp)
      have s1_0_7 : w1.cell? ⟨w.heap.size, 7, none⟩ = some (.int .i64 (v 7)) := (hb1.cell (p := ⟨w.heap.size, 7, none⟩) (by simp <;> omega)).trans (by go_simp)
      have s1_0_8 : w1.cell? ⟨w.heap.size, 8, none⟩ = some (.int .i64 (v 8)) := (hb1.cell (p := ⟨w.heap.size, 8, none⟩) (by simp <;> omega)).trans (by go_simp)
      have s1_0_9 : w1.cell? ⟨w.heap.size, 9, none⟩ = some (.int .i64 (v 9)) := (hb1.cell (p := ⟨w.heap.size, 9, none⟩) (by simp <;> omega)).trans (by go_simp)
      have s1_0_10 : w1.cell? ⟨w.heap.size, 10, none⟩ = some (.int .i64 (v 10)) := (hb1.cell (p := ⟨w.heap.size, 10, none⟩) (by simp <;> omega)).trans (by go_simp)
      have s1_0_11 : w1.cell? ⟨w.heap.size, 11, none⟩ = some (.int .i64 (v 11)) := (hb1.cell (p := ⟨w.heap.size, 11, none⟩) (by simp <;> omega)).trans (by go_simp)
      have s1_0_12 : w1.cell? ⟨w.heap.size, 12, none⟩ = some (.int .i64 (v 12)) := (hb1.cell (p := ⟨w.heap.size, 12, none⟩) (by simp <;> omega)).trans (by go_simp)
      have s1_0_13 : w1.cell? ⟨w.heap.size, 13, none⟩ = some (.int .i64 (v 13)) := (hb1.cell (p := ⟨w.heap.size, 13, none⟩) (by simp <;> omega)).trans (by go_simp)
      have s1_0_14 : w1.cell? ⟨w.heap.size, 14, none⟩ = some (.int .i64 (v 14)) := (hb1.cell (p := ⟨w.heap.size, 14, none⟩) (by simp <;> omega)).trans (by go_simp)
      have s1_0_15 : w1.cell? ⟨w.heap.size, 15, none⟩ = some (.int .i64 (v 15)) := (hb1.cell (p := ⟨w.heap.size, 15, none⟩) (by simp <;> omega)).trans (by go_simp)
      have s1_0_16 : w1.cell? ⟨w.heap.size, 16, none⟩ = some (.int .i64 (v 16)) := (hb1.cell (p := ⟨w.heap.size, 16, none⟩) (by simp <;> omega)).trans (by go_simp)
      have hz1_1 : w.heap.size + 1 < w1.heap.size := by have := hb1.size; simp at this; omega
      have s1_1_0 : w1.cell? ⟨w.heap.size + 1, 0, none⟩ = some (.int .i64 0) := (hb1.cell (p := ⟨w.heap.size + 1, 0, none⟩) (by simp <;> omega)).trans (by go_simp)
      have s1_1_1 : w1.cell? ⟨w.heap.size + 1, 1, none⟩ = some (.int .i64 0) := (hb1.cell (p := ⟨w.heap.size + 1, 1, none⟩) (by simp <;> omega)).trans (by go_simp)
      have s1_1_2 : w1.cell? ⟨w.heap.size + 1, 2, none⟩ = some (.int .i64 0) := (hb1.cell (p := ⟨w.heap.size + 1, 2, none⟩) (by simp <;> omega)).trans (by go_simp)
      have z1_1_0 : w1.frozen? ⟨w.heap.size + 1, 0, none⟩ = false := (hb1.frozen (p := ⟨w.heap.size + 1, 0, none⟩) (by simp <;> omega)).trans (by go_simp)
      have z1_1_1 : w1.frozen? ⟨w.heap.size + 1, 1, none⟩ = false := (hb1.frozen (p := ⟨w.heap.size + 1, 1, none⟩) (by simp <;> omega)).trans (by go_simp)
      have z1_1_2 : w1.frozen? ⟨w.heap.size + 1, 2, none⟩ = false := (hb1.frozen (p := ⟨w.heap.size + 1, 2, none⟩) (by simp <;> omega)).trans (by go_simp)
      have H1 : Below w.heap.size w w1 := (((Below.refl _ _).alloc (Nat.le_refl _) _).alloc (by simp <;> omega) _).trans (hb1.mono (by simp <;> omega))
      clear hb1
      go_wp2
      refine bodyPost_ret (v := .tuple #[.agg #[.int .i64 (v 6), .int .i64 (v 2), .int .i64 (v 7)], .int .i64 0]) (by simp [results, Try.results25, go_sem, s1_1_0, s1_1_1, s1_1_2]) rfl ⟨rfl, ?_⟩
      exact (((H1.setCell (by simp <;> omega) _).setCell (by simp <;> omega) _).setCell (by simp <;> omega) _)
    · have e0 : ofV v = ⟨0, 0, 0, 200⟩ := by unfold ofV; rw [if_pos h, if_neg h8]
      rw [e0]
      unfold Res.info
      dsimp only
      have n8 : (v 0 != 8) = true := by simp [bne, h8]
      clear h e0
      go_enter Try.func25, Try.ntmps25
      go_wp2_with fail
      refine (KM.out _).mono ?_
      rintro e w1 ⟨rfl, hb1⟩
      have hz1_0 : w.heap.size < w1.heap.size := by have := hb1.size; simp at this; omega
      have s1_0_0 : w1.cell? ⟨w.heap.size, 0, none⟩ = some (.int .i64 (v 0)) := (hb1.cell (p := ⟨w.heap.size, 0, none⟩) (by simp <;> omega)).trans (by go_simp)
      have s1_0_1 : w1.cell? ⟨w.heap.size, 1, none⟩ = some (.int .i64 (v 1)) := (hb1.cell (p := ⟨w.heap.size, 1, none⟩) (by simp <;> omega)).trans (by go_simp)
      have s1_0_2 : w1.cell? ⟨w.heap.size, 2, none⟩ = some (.int .i64 (v 2)) := (hb1.cell (p := ⟨w.heap.size, 2, none⟩) (by simp <;> omega)).trans (by go_simp)
      have s1_0_3 : w1.cell? ⟨w.heap.size, 3, none⟩ = some (.int .i64 (v 3)) := (hb1.cell (p := ⟨w.heap.size, 3, none⟩) (by simp <;> omega)).trans (by go_simp)
      have s1_0_4 : w1.cell? ⟨w.heap.size, 4, none⟩ = some (.int .i64 (v 4)) := (hb1.cell (p := ⟨w.heap.size, 4, none⟩) (by simp <;> omega)).trans (by go_simp)
      have s1_0_5 : w1.cell? ⟨w.heap.size, 5, none⟩ = some (.int .i64 (v 5)) := (hb1.cell (p := ⟨w.heap.size, 5, none⟩) (by simp <;> omega)).trans (by go_simp)
      have s1_0_6 : w1.cell? ⟨w.heap.size, 6, none⟩ = some (.int .i64 (v 6)) := (hb1.cell (p := ⟨w.heap.size, 6, none⟩) (by simp <;> omega)).trans (by go_simp)
      have s1_0_7 : w1.cell? ⟨w.heap.size, 7, none⟩ = some (.int .i64 (v 7)) := (hb1.cell (p := ⟨w.heap.size, 7, none⟩) (by simp <;> omega)).trans (by go_simp)
      have s1_0_8 : w1.cell? ⟨w.heap.size, 8, none⟩ = some (.int .i64 (v 8)) := (hb1.cell (p := ⟨w.heap.size, 8, none⟩) (by simp <;> omega)).trans (by go_simp)
      have s1_0_9 : w1.cell? ⟨w.heap.size, 9, none⟩ = some (.int .i64 (v 9)) := (hb1.cell (p := ⟨w.heap.size, 9, none⟩) (by simp <;> omega)).trans (by go_simp)
      have s1_0_10 : w1.cell? ⟨w.heap.size, 10, none⟩ = some (.int .i64 (v 10)) := (hb1.cell (p := ⟨w.heap.size, 10, none⟩) (by simp <;> omega)).trans (by go_simp)
      have s1_0_11 : w1.cell? ⟨w.heap.size, 11, none⟩ = some (.int .i64 (v 11)) := (hb1.cell (p := ⟨w.heap.size, 11, none⟩) (by simp <;> omega)).trans (by go_simp)
      have s1_0_12 : w1.cell? ⟨w.heap.size, 12, none⟩ = some (.int .i64 (v 12)) := (hb1.cell (p := ⟨w.heap.size, 12, none⟩) (by simp <;> omega)).trans (by go_simp)
      have s1_0_13 : w1.cell? ⟨w.heap.size, 13, none⟩ = some (.int .i64 (v 13)) := (hb1.cell (p := ⟨w.heap.size, 13, none⟩) (by simp <;> omega)).trans (by go_simp)
      have s1_0_14 : w1.cell? ⟨w.heap.size, 14, none⟩ = some (.int .i64 (v 14)) := (hb1.cell (p := ⟨w.heap.size, 14, none⟩) (by simp <;> omega)).trans (by go_simp)
      have s1_0_15 : w1.cell? ⟨w.heap.size, 15, none⟩ = some (.int .i64 (v 15)) := (hb1.cell (p := ⟨w.heap.size, 15, none⟩) (by simp <;> omega)).trans (by go_simp)
      have s1_0_16 : w1.cell? ⟨w.heap.size, 16, none⟩ = some (.int .i64 (v 16)) := (hb1.cell (p := ⟨w.heap.size, 16, none⟩) (by simp <;> omega)).trans (by go_simp)
      have hz1_1 : w.heap.size + 1 < w1.heap.size := by have := hb1.size; simp at this; omega
      have s1_1_0 : w1.cell? ⟨w.heap.size + 1, 0, none⟩ = some (.int .i64 0) := (hb1.cell (p := ⟨w.heap.size + 1, 0, none⟩) (by simp <;> omega)).trans (by go_simp)
      have s1_1_1 : w1.cell? ⟨w.heap.size + 1, 1, none⟩ = some (.int .i64 0) := (hb1.cell (p := ⟨w.heap.size + 1, 1, none⟩) (by simp <;> omega)).trans (by go_simp)
      have s1_1_2 : w1.cell? ⟨w.heap.size + 1, 2, none⟩ = some (.int .i64 0) := (hb1.cell (p := ⟨w.heap.size + 1, 2, none⟩) (by simp <;> omega)).trans (by go_simp)
      have z1_1_0 : w1.frozen? ⟨w.heap.size + 1, 0, none⟩ = false := (hb1.frozen (p := ⟨w.heap.size + 1, 0, none⟩) (by simp <;> omega)).trans (by go_simp)
      have z1_1_1 : w1.frozen? ⟨w.heap.size + 1, 1, none⟩ = false := (hb1.frozen (p := ⟨w.heap.size + 1, 1, none⟩) (by simp <;> omega)).trans (by go_simp)
      have z1_1_2 : w1.frozen? ⟨w.heap.size + 1, 2, none⟩ = false := (hb1.frozen (p := ⟨w.heap.size + 1, 2, none⟩) (by simp <;> omega)).trans (by go_simp)
      have H1 : Below w.heap.size w w1 := (((Below.refl _ _).alloc (Nat.le_refl _) _).alloc (by simp <;> omega) _).trans (hb1.mono (by simp <;> omega))
      clear hb1
      go_wp2
      refine bodyPost_ret (v := .tuple #[.agg #[.int .i64 0, .int .i64 0, .int .i64 0], .int .i64 200]) (by simp [results, Try.results25, go_sem, s1_1_0, s1_1_1, s1_1_2]) rfl ⟨rfl, ?_⟩
      exact (((H1.setCell (by simp <;> omega) _).setCell (by simp <;> omega) _).setCell (by simp <;> omega) _)
  · have h2 := (chkM_two v).resolve_left h
    rw [h2] at KM
    have e0 : ofV v = ⟨0, 0, 0, 200⟩ := by unfold ofV; rw [if_neg h]
    rw [e0]
    unfold Res.info
    dsimp only
    clear h h2 e0
    go_enter Try.func25, Try.ntmps25
    go_wp2_with fail
    refine (KM.out _).mono ?_
    rintro e w1 ⟨rfl, hb1⟩
    have hz1_0 : w.heap.size < w1.heap.size := by have := hb1.size; simp at this; omega
    have s1_0_0 : w1.cell? ⟨w.heap.size, 0, none⟩ = some (.int .i64 (v 0)) := (hb1.cell (p := ⟨w.heap.size, 0, none⟩) (by simp <;> omega)).trans (by go_simp)
    have s1_0_1 : w1.cell? ⟨w.heap.size, 1, none⟩ = some (.int .i64 (v 1)) := (hb1.cell (p := ⟨w.heap.size, 1, none⟩) (by simp <;> omega)).trans (by go_simp)
    have s1_0_2 : w1.cell? ⟨w.heap.size, 2, none⟩ = some (.int .i64 (v 2)) := (hb1.cell (p := ⟨w.heap.size, 2, none⟩) (by simp <;> omega)).trans (by go_simp)
    have s1_0_3 : w1.cell? ⟨w.heap.size, 3, none⟩ = some (.int .i64 (v 3)) := (hb1.cell (p := ⟨w.heap.size, 3, none⟩) (by simp <;> omega)).trans (by go_simp)
    have s1_0_4 : w1.cell? ⟨w.heap.size, 4, none⟩ = some (.int .i64 (v 4)) := (hb1.cell (p := ⟨w.heap.size, 4, none⟩) (by simp <;> omega)).trans (by go_simp)
    have s1_0_5 : w1.cell? ⟨w.heap.size, 5, none⟩ = some (.int .i64 (v 5)) := (hb1.cell (p := ⟨w.heap.size, 5, none⟩) (by simp <;> omega)).trans (by go_simp)
    have s1_0_6 : w1.cell? ⟨w.heap.size, 6, none⟩ = some (.int .i64 (v 6)) := (hb1.cell (p := ⟨w.heap.size, 6, none⟩) (by simp <;> omega)).trans (by go_simp)
    have s1_0_7 : w1.cell? ⟨w.heap.size, 7, none⟩ = some (.int .i64 (v 7)) := (hb1.cell (p := ⟨w.heap.size, 7, none⟩) (by simp <;> omega)).trans (by go_simp)
    have s1_0_8 : w1.cell? ⟨w.heap.size, 8, none⟩ = some (.int .i64 (v 8)) := (hb1.cell (p := ⟨w.heap.size, 8, none⟩) (by simp <;> omega)).trans (by go_simp)
    have s1_0_9 : w1.cell? ⟨w.heap.size, 9, none⟩ = some (.int .i64 (v 9)) := (hb1.cell (p := ⟨w.heap.size, 9, none⟩) (by simp <;> omega)).trans (by go_simp)
    have s1_0_10 : w1.cell? ⟨w.heap.size, 10, none⟩ = some (.int .i64 (v 10)) := (hb1.cell (p := ⟨w.heap.size, 10, none⟩) (by simp <;> omega)).trans (by go_simp)
    have s1_0_11 : w1.cell? ⟨w.heap.size, 11, none⟩ = some (.int .i64 (v 11)) := (hb1.cell (p := ⟨w.heap.size, 11, none⟩) (by simp <;> omega)).trans (by go_simp)
    have s1_0_12 : w1.cell? ⟨w.heap.size, 12, none⟩ = some (.int .i64 (v 12)) := (hb1.cell (p := ⟨w.heap.size, 12, none⟩) (by simp <;> omega)).trans (by go_simp)
    have s1_0_13 : w1.cell? ⟨w.heap.size, 13, none⟩ = some (.int .i64 (v 13)) := (hb1.cell (p := ⟨w.heap.size, 13, none⟩) (by simp <;> omega)).trans (by go_simp)
    have s1_0_14 : w1.cell? ⟨w.heap.size, 14, none⟩ = some (.int .i64 (v 14)) := (hb1.cell (p := ⟨w.heap.size, 14, none⟩) (by simp <;> omega)).trans (by go_simp)
    have s1_0_15 : w1.cell? ⟨w.heap.size, 15, none⟩ = some (.int .i64 (v 15)) := (hb1.cell (p := ⟨w.heap.size, 15, none⟩) (by simp <;> omega)).trans (by go_simp)
    have s1_0_16 : w1.cell? ⟨w.heap.size, 16, none⟩ = some (.int .i64 (v 16)) := (hb1.cell (p := ⟨w.heap.size, 16, none⟩) (by simp <;> omega)).trans (by go_simp)
    have hz1_1 : w.heap.size + 1 < w1.heap.size := by have := hb1.size; simp at this; omega
    have s1_1_0 : w1.cell? ⟨w.heap.size + 1, 0, none⟩ = some (.int .i64 0) := (hb1.cell (p := ⟨w.heap.size + 1, 0, none⟩) (by simp <;> omega)).trans (by go_simp)
    have s1_1_1 : w1.cell? ⟨w.heap.size + 1, 1, none⟩ = some (.int .i64 0) := (hb1.cell (p := ⟨w.heap.size + 1, 1, none⟩) (by simp <;> omega)).trans (by go_simp)
    have s1_1_2 : w1.cell? ⟨w.heap.size + 1, 2, none⟩ = some (.int .i64 0) := (hb1.cell (p := ⟨w.heap.size + 1, 2, none⟩) (by simp <;> omega)).trans (by go_simp)
    have z1_1_0 : w1.frozen? ⟨w.heap.size + 1, 0, none⟩ = false := (hb1.frozen (p := ⟨w.heap.size + 1, 0, none⟩) (by simp <;> omega)).trans (by go_simp)
    have z1_1_1 : w1.frozen? ⟨w.heap.size + 1, 1, none⟩ = false := (hb1.frozen (p := ⟨w.heap.size + 1, 1, none⟩) (by simp <;> omega)).trans (by go_simp)
    have z1_1_2 : w1.frozen? ⟨w.heap.size + 1, 2, none⟩ = false := (hb1.frozen (p := ⟨w.heap.size + 1, 2, none⟩) (by simp <;> omega)).trans (by go_simp)
    have H1 : Below w.heap.size w w1 := (((Below.refl _ _).alloc (Nat.le_refl _) _).alloc (by simp <;> omega) _).trans (hb1.mono (by simp <;> omega))
    clear hb1
    go_wp2
    refine bodyPost_ret (v := .tuple #[.agg #[.int .i64 0, .int .i64 0, .int .i64 0], .int .i64 200]) (by simp [results, Try.results25, go_sem, s1_1_0, s1_1_1, s1_1_2]) rfl ⟨rfl, ?_⟩
    exact (((H1.setCell (by simp <;> omega) _).setCell (by simp <;> omega) _).setCell (by simp <;> omega) _)
end Go.Proofs.Ytgdagfiebaebbaa
