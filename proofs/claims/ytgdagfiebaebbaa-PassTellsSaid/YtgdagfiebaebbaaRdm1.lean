/- The message of a draft: a kind. -/
import Derived.Test.YtgdagfiebaebbaaRdm0
namespace Go.Proofs.Ytgdagfiebaebbaa
open Go.RowKit

set_option maxRecDepth 100000 in
set_option maxHeartbeats 8000000 in
theorem rdm_0 (kd dm co ti id ot po sq st pp r0 r1 r2 r3 va : Int) (k : Nat) (ek : kd.tmod 6 = k) (hk : k < 6) (hix : ∀ W, (Instr.index 97 (.agg #[.int .i64 0, .int .i64 2, .int .i64 3, .int .i64 8, .int .i64 10, .int .i64 11]) (.int .u8 k)).run Try.prog W = .ok (.int .i64 0) W) (w : World) : Calls Try.prog 23 #[.agg #[.int .u8 kd, .int .u8 dm, .int .i64 co, .int .i64 ti, .int .u64 id, .int .u64 ot, .int .u16 po, .int .u16 sq, .int .u16 st, .int .i32 pp, .int .u8 r0, .int .u8 r1, .int .u8 r2, .int .u8 r3, .int .u16 va]] w fun e w' => e = .returned (msgV (updM (updM (fun j => [0, wrap64 (dm.tmod 128), co.tmod 4398046511105, 0, 0, wrap64 sq, 0, 0, 0, 0, 0, 0, 0, 0, 0, 0, 0].getD j 0) 3 (wrap64 (id.tmod 281474976710656))) 4 (wrap64 (1 + wrap64 (po.tmod 65535))))) ∧ Below w.heap.size w w' := by
  have ew : IntKind.u8.wrap (k : Int) = k := by rw [IntKind.wrap_u8]; omega
  clear hk
  go_enter Try.func23, Try.ntmps23
  go_wp2_with fail
  refine wp_gen ?_
  rintro w1 hg
  have mR : Hid (MsgAt w1 (w.heap.size + 1) zero17) := Lib.hid (by rw [hg]; have := msg_at (w.alloc (.cells #[.int .u8 kd, .int .u8 dm, .int .i64 co, .int .i64 ti, .int .u64 id, .int .u64 ot, .int .u16 po, .int .u16 sq, .int .u16 st, .int .i32 pp, .int .u8 r0, .int .u8 r1, .int .u8 r2, .int .u8 r3, .int .u16 va] 51)) 46 zero17; rw [show ((w.alloc (.cells #[.int .u8 kd, .int .u8 dm, .int .i64 co, .int .i64 ti, .int .u64 id, .int .u64 ot, .int .u16 po, .int .u16 sq, .int .u16 st, .int .i32 pp, .int .u8 r0, .int .u8 r1, .int .u8 r2, .int .u8 r3, .int .u16 va] 51))).heap.size = w.heap.size + 1 from by simp] at this; exact this)
  have hz1_0 : w.heap.size < w1.heap.size := by rw [hg]; simp <;> omega
  have s1_0_0 : w1.cell? ⟨w.heap.size, 0, none⟩ = some (.int .u8 kd) := by rw [hg]; go_simp
  have s1_0_1 : w1.cell? ⟨w.heap.size, 1, none⟩ = some (.int .u8 dm) := by rw [hg]; go_simp
  have s1_0_2 : w1.cell? ⟨w.heap.size, 2, none⟩ = some (.int .i64 co) := by rw [hg]; go_simp
  have s1_0_3 : w1.cell? ⟨w.heap.size, 3, none⟩ = some (.int .i64 ti) := by rw [hg]; go_simp
  have s1_0_4 : w1.cell? ⟨w.heap.size, 4, none⟩ = some (.int .u64 id) := by rw [hg]; go_simp
  have s1_0_5 : w1.cell? ⟨w.heap.size, 5, none⟩ = some (.int .u64 ot) := by rw [hg]; go_simp
  have s1_0_6 : w1.cell? ⟨w.heap.size, 6, none⟩ = some (.int .u16 po) := by rw [hg]; go_simp
  have s1_0_7 : w1.cell? ⟨w.heap.size, 7, none⟩ = some (.int .u16 sq) := by rw [hg]; go_simp
  have s1_0_8 : w1.cell? ⟨w.heap.size, 8, none⟩ = some (.int .u16 st) := by rw [hg]; go_simp
  have s1_0_9 : w1.cell? ⟨w.heap.size, 9, none⟩ = some (.int .i32 pp) := by rw [hg]; go_simp
  have s1_0_10 : w1.cell? ⟨w.heap.size, 10, none⟩ = some (.int .u8 r0) := by rw [hg]; go_simp
  have s1_0_11 : w1.cell? ⟨w.heap.size, 11, none⟩ = some (.int .u8 r1) := by rw [hg]; go_simp
  have s1_0_12 : w1.cell? ⟨w.heap.size, 12, none⟩ = some (.int .u8 r2) := by rw [hg]; go_simp
  have s1_0_13 : w1.cell? ⟨w.heap.size, 13, none⟩ = some (.int .u8 r3) := by rw [hg]; go_simp
  have s1_0_14 : w1.cell? ⟨w.heap.size, 14, none⟩ = some (.int .u16 va) := by rw [hg]; go_simp
  have H1 : Below w.heap.size w w1 := by rw [hg]; exact (((Below.refl _ _).alloc (Nat.le_refl _) _).alloc (by simp <;> omega) _)
  have l1 : w.heap.size + 1 < w1.heap.size := by rw [hg]; simp <;> omega
  clear hg
  go_region
  refine then_gen ?_
  rintro w2 hg
  have mB : Hid (MsgAt w2 w1.heap.size (fun j => [0, wrap64 (dm.tmod 128), co.tmod 4398046511105, 0, 0, wrap64 sq, 0, 0, 0, 0, 0, 0, 0, 0, 0, 0, 0].getD j 0)) := Lib.hid (by rw [hg]; exact (msg_at w1 _ (fun j => [0, wrap64 (dm.tmod 128), co.tmod 4398046511105, 0, 0, wrap64 sq, 0, 0, 0, 0, 0, 0, 0, 0, 0, 0, 0].getD j 0)).drew)
  have mR2 : Hid (MsgAt w2 (w.heap.size + 1) zero17) := Lib.hid (by rw [hg]; exact (mR.out.below (below_alloc _ _)).drew)
  have d0 : w2.cell? ⟨w.heap.size, 0, none⟩ = some (.int .u8 kd) := by rw [hg]; go_simp
  have d1 : w2.cell? ⟨w.heap.size, 1, none⟩ = some (.int .u8 dm) := by rw [hg]; go_simp
  have d2 : w2.cell? ⟨w.heap.size, 2, none⟩ = some (.int .i64 co) := by rw [hg]; go_simp
  have d3 : w2.cell? ⟨w.heap.size, 3, none⟩ = some (.int .i64 ti) := by rw [hg]; go_simp
  have d4 : w2.cell? ⟨w.heap.size, 4, none⟩ = some (.int .u64 id) := by rw [hg]; go_simp
  have d5 : w2.cell? ⟨w.heap.size, 5, none⟩ = some (.int .u64 ot) := by rw [hg]; go_simp
  have d6 : w2.cell? ⟨w.heap.size, 6, none⟩ = some (.int .u16 po) := by rw [hg]; go_simp
  have d7 : w2.cell? ⟨w.heap.size, 7, none⟩ = some (.int .u16 sq) := by rw [hg]; go_simp
  have d8 : w2.cell? ⟨w.heap.size, 8, none⟩ = some (.int .u16 st) := by rw [hg]; go_simp
  have d9 : w2.cell? ⟨w.heap.size, 9, none⟩ = some (.int .i32 pp) := by rw [hg]; go_simp
  have d10 : w2.cell? ⟨w.heap.size, 10, none⟩ = some (.int .u8 r0) := by rw [hg]; go_simp
  have d11 : w2.cell? ⟨w.heap.size, 11, none⟩ = some (.int .u8 r1) := by rw [hg]; go_simp
  have d12 : w2.cell? ⟨w.heap.size, 12, none⟩ = some (.int .u8 r2) := by rw [hg]; go_simp
  have d13 : w2.cell? ⟨w.heap.size, 13, none⟩ = some (.int .u8 r3) := by rw [hg]; go_simp
  have d14 : w2.cell? ⟨w.heap.size, 14, none⟩ = some (.int .u16 va) := by rw [hg]; go_simp
  have lz : w.heap.size < w1.heap.size := by omega
  have H2 : Below w.heap.size w w2 := by rw [hg]; exact (H1.alloc H1.size _).drew
  have k0 : w2.cell? ⟨w1.heap.size, 0, none⟩ = some (.int .i64 0) := (mB.out 0 (by decide)).1
  have k3 := mB.out 3 (by decide)
  have n3 := k3.1
  have f3 := k3.2
  clear k3
  dsimp only [List.getD_cons_succ, List.getD_cons_zero] at n3
  have k4 := mB.out 4 (by decide)
  have n4 := k4.1
  have f4 := k4.2
  clear k4
  dsimp only [List.getD_cons_succ, List.getD_cons_zero] at n4
  have k5 := mB.out 5 (by decide)
  have n5 := k5.1
  have f5 := k5.2
  clear k5
  dsimp only [List.getD_cons_succ, List.getD_cons_zero] at n5
  have k6 := mB.out 6 (by decide)
  have n6 := k6.1
  have f6 := k6.2
  clear k6
  dsimp only [List.getD_cons_succ, List.getD_cons_zero] at n6
  have k7 := mB.out 7 (by decide)
  have n7 := k7.1
  have f7 := k7.2
  clear k7
  dsimp only [List.getD_cons_succ, List.getD_cons_zero] at n7
  have k8 := mB.out 8 (by decide)
  have n8 := k8.1
  have f8 := k8.2
  clear k8
  dsimp only [List.getD_cons_succ, List.getD_cons_zero] at n8
  have k9 := mB.out 9 (by decide)
  have n9 := k9.1
  have f9 := k9.2
  clear k9
  dsimp only [List.getD_cons_succ, List.getD_cons_zero] at n9
  have k10 := mB.out 10 (by decide)
  have n10 := k10.1
  have f10 := k10.2
  clear k10
  dsimp only [List.getD_cons_succ, List.getD_cons_zero] at n10
  have k11 := mB.out 11 (by decide)
  have n11 := k11.1
  have f11 := k11.2
  clear k11
  dsimp only [List.getD_cons_succ, List.getD_cons_zero] at n11
  have k12 := mB.out 12 (by decide)
  have n12 := k12.1
  have f12 := k12.2
  clear k12
  dsimp only [List.getD_cons_succ, List.getD_cons_zero] at n12
  have k13 := mB.out 13 (by decide)
  have n13 := k13.1
  have f13 := k13.2
  clear k13
  dsimp only [List.getD_cons_succ, List.getD_cons_zero] at n13
  have k14 := mB.out 14 (by decide)
  have n14 := k14.1
  have f14 := k14.2
  clear k14
  dsimp only [List.getD_cons_succ, List.getD_cons_zero] at n14
  have k15 := mB.out 15 (by decide)
  have n15 := k15.1
  have f15 := k15.2
  clear k15
  dsimp only [List.getD_cons_succ, List.getD_cons_zero] at n15
  have k16 := mB.out 16 (by decide)
  have n16 := k16.1
  have f16 := k16.2
  clear k16
  dsimp only [List.getD_cons_succ, List.getD_cons_zero] at n16
  clear hz1_0 s1_0_0 s1_0_1 s1_0_2 s1_0_3 s1_0_4 s1_0_5 s1_0_6 s1_0_7 s1_0_8 s1_0_9 s1_0_10 s1_0_11 s1_0_12 s1_0_13 s1_0_14 mR hg H1
  go_wp2_with (first | (refine wpList_store_mid (by exact rfl) _ _ _ (by exact rfl) _ _ _ (by exact rfl) (by exact rfl) (by exact there_msg (MsgAt.away (MsgAt.away mR2.out (by omega) 3 _) (by omega) 4 _)) (by kernel_rfl) (by kernel_rfl) ?_) | (refine wpList_load_mid (by exact rfl) _ _ (by exact rfl) _ _ (by exact rfl) _ _ (by exact range_msg (MsgAt.put (MsgAt.put mB.out 3 _ (by decide)) 4 _ (by decide))) Try.underlying46 (by exact rfl) (by kernel_rfl) ?_))
  refine post_gen ?_
  rintro W9 hW
  have m9 : MsgAt W9 (w.heap.size + 1) (updM (updM (fun j => [0, wrap64 (dm.tmod 128), co.tmod 4398046511105, 0, 0, wrap64 sq, 0, 0, 0, 0, 0, 0, 0, 0, 0, 0, 0].getD j 0) 3 (wrap64 (id.tmod 281474976710656))) 4 (wrap64 (1 + wrap64 (po.tmod 65535)))) := by rw [hW]; exact MsgAt.setCells (MsgAt.away (MsgAt.away mR2.out (by omega) 3 _) (by omega) 4 _) _
  have HB9 : Below w.heap.size w W9 := Below.trans ((H2.setCell (p := ⟨w1.heap.size, 3, none⟩) (by simp <;> omega) _).setCell (p := ⟨w1.heap.size, 4, none⟩) (by simp <;> omega) _) (by rw [hW]; exact below_setCells _ _ (by omega) _ _ _)
  clear hW
  exact bodyPost_ret (results_cell1 rfl _ rfl (load_msg m9)) rfl ⟨rfl, HB9⟩
end Go.Proofs.Ytgdagfiebaebbaa
