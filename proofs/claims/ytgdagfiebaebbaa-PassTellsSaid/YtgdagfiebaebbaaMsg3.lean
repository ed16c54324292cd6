/- The package pass: Message: what it computes. -/
import Derived.Test.YtgdagfiebaebbaaMsg2
namespace Go.Proofs.Ytgdagfiebaebbaa
open Go.RowKit

theorem below_step {w W w2 : World} (h2 : Below W.heap.size W w2) (h1 : Below w.heap.size w W) : Below w.heap.size w w2 := h1.trans (h2.mono h1.size)
theorem below_alloc (w : World) (x : Obj) : Below w.heap.size w (w.alloc x) := (Below.refl _ _).alloc (Nat.le_refl _) x
set_option maxRecDepth 100000 in
set_option maxHeartbeats 4000000 in
theorem pmsg_bad (o c p dom sid sport seq : Int) (w : World) (h : okI o c p = false) : Calls Try.prog 21 #[.agg #[.int .i64 o, .int .i64 c, .int .i64 p], .int .i64 dom, .agg #[.int .i64 sid, .int .i64 sport], .int .i64 seq] w fun e w' => e = .returned (.tuple #[.agg #[.int .i64 0, .int .i64 0, .int .i64 0, .int .i64 0, .int .i64 0, .int .i64 0, .int .i64 0, .int .i64 0, .int .i64 0, .int .i64 0, .int .i64 0, .int .i64 0, .int .i64 0, .int .i64 0, .int .i64 0, .int .i64 0, .int .i64 0], .int .i64 240]) ∧ Below w.heap.size w w' := by
  have HK := Lib.hid fun w => pcheck_false h w
  clear h
  go_enter Try.func21, Try.ntmps21
  go_wp2_with fail
  refine (HK.out _).mono ?_
  rintro e w1 ⟨rfl, hb1⟩
  have m1 : MsgAt w1 (w.heap.size + 1 + 1) zero17 := by
    have := (msg_at _ 46 zero17).below hb1
    simpa using this
  have m1 := Lib.hid m1
  have l1 : w.heap.size + 1 + 1 < w1.heap.size := by have := hb1.size; simp at this; omega
  have hz1_0 : w.heap.size < w1.heap.size := by have := hb1.size; simp at this; omega
  have s1_0_0 : w1.cell? ⟨w.heap.size, 0, none⟩ = some (.int .i64 o) := (hb1.cell (p := ⟨w.heap.size, 0, none⟩) (by simp <;> omega)).trans (by go_simp)
  have s1_0_1 : w1.cell? ⟨w.heap.size, 1, none⟩ = some (.int .i64 c) := (hb1.cell (p := ⟨w.heap.size, 1, none⟩) (by simp <;> omega)).trans (by go_simp)
  have s1_0_2 : w1.cell? ⟨w.heap.size, 2, none⟩ = some (.int .i64 p) := (hb1.cell (p := ⟨w.heap.size, 2, none⟩) (by simp <;> omega)).trans (by go_simp)
  have hz1_1 : w.heap.size + 1 < w1.heap.size := by have := hb1.size; simp at this; omega
  have s1_1_0 : w1.cell? ⟨w.heap.size + 1, 0, none⟩ = some (.int .i64 sid) := (hb1.cell (p := ⟨w.heap.size + 1, 0, none⟩) (by simp <;> omega)).trans (by go_simp)
  have s1_1_1 : w1.cell? ⟨w.heap.size + 1, 1, none⟩ = some (.int .i64 sport) := (hb1.cell (p := ⟨w.heap.size + 1, 1, none⟩) (by simp <;> omega)).trans (by go_simp)
  have H1 : Below w.heap.size w w1 := ((((Below.refl _ _).alloc (Nat.le_refl _) _).alloc (by simp <;> omega) _).alloc (by simp <;> omega) _).trans (hb1.mono (by simp <;> omega))
  clear hb1
  go_wp2_with (first | (refine wpList_store_mid (by exact rfl) _ _ _ (by exact rfl) _ _ _ (by exact rfl) (by exact rfl) (by exact there_msg m1.out) (by kernel_rfl) (by kernel_rfl) ?_))
  refine post_gen ?_
  rintro W9 hW
  have m9 : MsgAt W9 (w.heap.size + 1 + 1) zero17 := by rw [hW]; exact MsgAt.setCells m1.out zero17
  have HB9 : Below w.heap.size w W9 := H1.trans (by rw [hW]; exact below_setCells _ _ (by omega) _ _ _)
  clear hW
  exact bodyPost_ret (results_cell_tmp rfl _ rfl (load_msg m9)) rfl ⟨rfl, HB9⟩
set_option maxRecDepth 100000 in
set_option maxHeartbeats 4000000 in
theorem pmsg_ok (o c p dom sid sport seq : Int) (w : World) (h : okI o c p = true) (h2 : chkM (mk8 o c p dom sid sport seq) = 0) : Calls Try.prog 21 #[.agg #[.int .i64 o, .int .i64 c, .int .i64 p], .int .i64 dom, .agg #[.int .i64 sid, .int .i64 sport], .int .i64 seq] w fun e w' => e = .returned (.tuple #[.agg #[.int .i64 8, .int .i64 dom, .int .i64 c, .int .i64 sid, .int .i64 sport, .int .i64 seq, .int .i64 o, .int .i64 p, .int .i64 0, .int .i64 0, .int .i64 0, .int .i64 0, .int .i64 0, .int .i64 0, .int .i64 0, .int .i64 0, .int .i64 0], .int .i64 0]) ∧ Below w.heap.size w w' := by
  have HK := Lib.hid fun w => pcheck_true h w
  have KM := Lib.hid fun w => pchk_any (mk8 o c p dom sid sport seq) w
  rw [h2] at KM
  clear h h2
  go_enter Try.func21, Try.ntmps21
  go_wp2_with fail
  refine (HK.out _).mono ?_
  rintro e w1 ⟨rfl, hb1⟩
  have m1 : MsgAt w1 (w.heap.size + 1 + 1) zero17 := by
    have := (msg_at _ 46 zero17).below hb1
    simpa using this
  have m1 := Lib.hid m1
  have l1 : w.heap.size + 1 + 1 < w1.heap.size := by have := hb1.size; simp at this; omega
  have hz1_0 : w.heap.size < w1.heap.size := by have := hb1.size; simp at this; omega
  have s1_0_0 : w1.cell? ⟨w.heap.size, 0, none⟩ = some (.int .i64 o) := (hb1.cell (p := ⟨w.heap.size, 0, none⟩) (by simp <;> omega)).trans (by go_simp)
  have s1_0_1 : w1.cell? ⟨w.heap.size, 1, none⟩ = some (.int .i64 c) := (hb1.cell (p := ⟨w.heap.size, 1, none⟩) (by simp <;> omega)).trans (by go_simp)
  have s1_0_2 : w1.cell? ⟨w.heap.size, 2, none⟩ = some (.int .i64 p) := (hb1.cell (p := ⟨w.heap.size, 2, none⟩) (by simp <;> omega)).trans (by go_simp)
  have hz1_1 : w.heap.size + 1 < w1.heap.size := by have := hb1.size; simp at this; omega
  have s1_1_0 : w1.cell? ⟨w.heap.size + 1, 0, none⟩ = some (.int .i64 sid) := (hb1.cell (p := ⟨w.heap.size + 1, 0, none⟩) (by simp <;> omega)).trans (by go_simp)
  have s1_1_1 : w1.cell? ⟨w.heap.size + 1, 1, none⟩ = some (.int .i64 sport) := (hb1.cell (p := ⟨w.heap.size + 1, 1, none⟩) (by simp <;> omega)).trans (by go_simp)
  have H1 : Below w.heap.size w w1 := ((((Below.refl _ _).alloc (Nat.le_refl _) _).alloc (by simp <;> omega) _).alloc (by simp <;> omega) _).trans (hb1.mono (by simp <;> omega))
  clear hb1
  go_wp2_with (first | (refine wpList_store_mid (by exact rfl) _ _ _ (by exact rfl) _ _ _ (by exact rfl) (by exact rfl) (by exact there_msg (msg_at _ _ zero17)) (by kernel_rfl) (by kernel_rfl) ?_) | (refine wpList_load_mid (by exact rfl) _ _ (by exact rfl) _ _ (by exact rfl) (msgL (mk8 o c p dom sid sport seq)) _ (by exact range_msg (MsgAt.setCells (msg_at _ _ zero17) (mk8 o c p dom sid sport seq))) Try.underlying46 (by exact rfl) (by kernel_rfl) ?_))
  refine (KM.out _).mono ?_
  rintro e w2 ⟨rfl, hb2⟩
  have m2 := Lib.hid (((m1.out.below (below_alloc _ _)).apart (Nat.ne_of_lt l1) _).below hb2)
  have m3 : MsgAt w2 w1.heap.size (mk8 o c p dom sid sport seq) := (MsgAt.setCells (msg_at _ _ zero17) (mk8 o c p dom sid sport seq)).below hb2
  have m3 := Lib.hid m3
  have H2 : Below w.heap.size w w2 := below_step hb2 ((H1.alloc H1.size _).trans (below_setCells w1.heap.size w.heap.size (by omega) _ _ 0))
  clear hb2 m1
  go_wp2_with (first | (refine wpList_store_mid (by exact rfl) _ _ _ (by exact rfl) _ _ _ (by exact rfl) (by exact rfl) (by exact there_msg m2.out) (by kernel_rfl) (by kernel_rfl) ?_) | (refine wpList_load_mid (by exact rfl) _ _ (by exact rfl) _ _ (by exact rfl) (msgL (mk8 o c p dom sid sport seq)) _ (by exact range_msg m3.out) Try.underlying46 (by exact rfl) (by kernel_rfl) ?_))
  refine post_gen ?_
  rintro W9 hW
  have m9 : MsgAt W9 (w.heap.size + 1 + 1) (mk8 o c p dom sid sport seq) := by rw [hW]; exact MsgAt.setCells m2.out (mk8 o c p dom sid sport seq)
  have HB9 : Below w.heap.size w W9 := H2.trans (by rw [hW]; exact below_setCells _ _ (by omega) _ _ _)
  clear hW
  exact bodyPost_ret (results_cell_tmp rfl _ rfl (load_msg m9)) rfl ⟨rfl, HB9⟩
set_option maxRecDepth 100000 in
set_option maxHeartbeats 4000000 in
theorem pmsg_no (o c p dom sid sport seq : Int) (w : World) (h : okI o c p = true) (h2 : chkM (mk8 o c p dom sid sport seq) = 200) : Calls Try.prog 21 #[.agg #[.int .i64 o, .int .i64 c, .int .i64 p], .int .i64 dom, .agg #[.int .i64 sid, .int .i64 sport], .int .i64 seq] w fun e w' => e = .returned (.tuple #[.agg #[.int .i64 0, .int .i64 0, .int .i64 0, .int .i64 0, .int .i64 0, .int .i64 0, .int .i64 0, .int .i64 0, .int .i64 0, .int .i64 0, .int .i64 0, .int .i64 0, .int .i64 0, .int .i64 0, .int .i64 0, .int .i64 0, .int .i64 0], .int .i64 200]) ∧ Below w.heap.size w w' := by
  have HK := Lib.hid fun w => pcheck_true h w
  have KM := Lib.hid fun w => pchk_any (mk8 o c p dom sid sport seq) w
  rw [h2] at KM
  clear h h2
  go_enter Try.func21, Try.ntmps21
  go_wp2_with fail
  refine (HK.out _).mono ?_
  rintro e w1 ⟨rfl, hb1⟩
  have m1 : MsgAt w1 (w.heap.size + 1 + 1) zero17 := by
    have := (msg_at _ 46 zero17).below hb1
    simpa using this
  have m1 := Lib.hid m1
  have l1 : w.heap.size + 1 + 1 < w1.heap.size := by have := hb1.size; simp at this; omega
  have hz1_0 : w.heap.size < w1.heap.size := by have := hb1.size; simp at this; omega
  have s1_0_0 : w1.cell? ⟨w.heap.size, 0, none⟩ = some (.int .i64 o) := (hb1.cell (p := ⟨w.heap.size, 0, none⟩) (by simp <;> omega)).trans (by go_simp)
  have s1_0_1 : w1.cell? ⟨w.heap.size, 1, none⟩ = some (.int .i64 c) := (hb1.cell (p := ⟨w.heap.size, 1, none⟩) (by simp <;> omega)).trans (by go_simp)
  have s1_0_2 : w1.cell? ⟨w.heap.size, 2, none⟩ = some (.int .i64 p) := (hb1.cell (p := ⟨w.heap.size, 2, none⟩) (by simp <;> omega)).trans (by go_simp)
  have hz1_1 : w.heap.size + 1 < w1.heap.size := by have := hb1.size; simp at this; omega
  have s1_1_0 : w1.cell? ⟨w.heap.size + 1, 0, none⟩ = some (.int .i64 sid) := (hb1.cell (p := ⟨w.heap.size + 1, 0, none⟩) (by simp <;> omega)).trans (by go_simp)
  have s1_1_1 : w1.cell? ⟨w.heap.size + 1, 1, none⟩ = some (.int .i64 sport) := (hb1.cell (p := ⟨w.heap.size + 1, 1, none⟩) (by simp <;> omega)).trans (by go_simp)
  have H1 : Below w.heap.size w w1 := ((((Below.refl _ _).alloc (Nat.le_refl _) _).alloc (by simp <;> omega) _).alloc (by simp <;> omega) _).trans (hb1.mono (by simp <;> omega))
  clear hb1
  go_wp2_with (first | (refine wpList_store_mid (by exact rfl) _ _ _ (by exact rfl) _ _ _ (by exact rfl) (by exact rfl) (by exact there_msg (msg_at _ _ zero17)) (by kernel_rfl) (by kernel_rfl) ?_) | (refine wpList_load_mid (by exact rfl) _ _ (by exact rfl) _ _ (by exact rfl) (msgL (mk8 o c p dom sid sport seq)) _ (by exact range_msg (MsgAt.setCells (msg_at _ _ zero17) (mk8 o c p dom sid sport seq))) Try.underlying46 (by exact rfl) (by kernel_rfl) ?_))
  refine (KM.out _).mono ?_
  rintro e w2 ⟨rfl, hb2⟩
  have m2 := Lib.hid (((m1.out.below (below_alloc _ _)).apart (Nat.ne_of_lt l1) _).below hb2)
  have m3 : MsgAt w2 w1.heap.size (mk8 o c p dom sid sport seq) := (MsgAt.setCells (msg_at _ _ zero17) (mk8 o c p dom sid sport seq)).below hb2
  have m3 := Lib.hid m3
  have H2 : Below w.heap.size w w2 := below_step hb2 ((H1.alloc H1.size _).trans (below_setCells w1.heap.size w.heap.size (by omega) _ _ 0))
  clear hb2 m1
  go_wp2_with (first | (refine wpList_store_mid (by exact rfl) _ _ _ (by exact rfl) _ _ _ (by exact rfl) (by exact rfl) (by exact there_msg m2.out) (by kernel_rfl) (by kernel_rfl) ?_))
  refine post_gen ?_
  rintro W9 hW
  have m9 : MsgAt W9 (w.heap.size + 1 + 1) zero17 := by rw [hW]; exact MsgAt.setCells m2.out zero17
  have HB9 : Below w.heap.size w W9 := H2.trans (by rw [hW]; exact below_setCells _ _ (by omega) _ _ _)
  clear hW
  exact bodyPost_ret (results_cell_tmp rfl _ rfl (load_msg m9)) rfl ⟨rfl, HB9⟩
theorem pmsg_any (o c p dom sid sport seq : Int) (w : World) : Calls Try.prog 21 #[.agg #[.int .i64 o, .int .i64 c, .int .i64 p], .int .i64 dom, .agg #[.int .i64 sid, .int .i64 sport], .int .i64 seq] w fun e w' => e = .returned (.tuple #[msgV (mmV o c p dom sid sport seq).m, .int .i64 (mmV o c p dom sid sport seq).e]) ∧ Below w.heap.size w w' := by
  unfold mmV
  cases h : okI o c p
  · exact pmsg_bad o c p dom sid sport seq w h
  · rcases chkM_two (mk8 o c p dom sid sport seq) with h2 | h2
    · rw [if_neg (by decide), if_pos h2]
      exact pmsg_ok o c p dom sid sport seq w h h2
    · rw [if_neg (by decide), if_neg (by rw [h2]; decide)]
      exact pmsg_no o c p dom sid sport seq w h h2
end Go.Proofs.Ytgdagfiebaebbaa
