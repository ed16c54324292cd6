/- PassBack: the walk of the law. -/
import Derived.Test.YtgdagfiebaebbaaWorks14
import Derived.Test.YtgdagfiebaebbaaPass11
namespace Go.Proofs.Ytgdagfiebaebbaa
open Go.RowKit

theorem tmodN (x m : Int) (h : 0 ≤ x) (hm : 0 < m) : 0 ≤ x.tmod m ∧ x.tmod m ≤ m - 1 := by
  rw [Int.tmod_eq_emod_of_nonneg h]
  exact ⟨Int.emod_nonneg _ (by omega), by have := Int.emod_lt_of_pos x hm; omega⟩
theorem chk8 {o c p dom sid sport seq : Int} (h : okI o c p = true) (h1 : 0 ≤ dom ∧ dom ≤ 127) (h2 : 0 ≤ sid ∧ sid ≤ 281474976710655) (h3 : 1 ≤ sport ∧ sport ≤ 65535) (h4 : 0 ≤ seq ∧ seq ≤ 65535) : chkM (mk8 o c p dom sid sport seq) = 0 := by
  obtain ⟨a1, a2, a3⟩ := (okI_iff _ _ _).1 h
  refine eq_of_beq ?_
  rw [chk_r8 rfl]
  simp only [mk8, right8, inB, portB, Bool.and_eq_true, decide_eq_true_eq, beq_iff_eq]
  simp only [and_true, true_and]
  omega
theorem list_gen {P : Program} {ops : Array Oper} {rest : List Oper} {a : Act} {W : World} {Q : Exit → Act → World → Prop} (h : ∀ w, w = W → wpList P ops Q rest a w) : wpList P ops Q rest a W := h _ rfl
theorem allEq_self (v : Nat → Int) : allEq v v = true := by simp [allEq]
set_option maxRecDepth 100000 in
set_option maxHeartbeats 8000000 in
theorem plaw5_walk (x y z dom id port seq : Int) (hd : 0 ≤ dom ∧ dom ≤ 255) (hi : 0 ≤ id ∧ id ≤ 18446744073709551615) (hp : 0 ≤ port ∧ port ≤ 65535) (hq : 0 ≤ seq ∧ seq ≤ 65535) (w : World) : Calls Try.prog 7 #[.agg #[.int .i64 x, .int .i64 y, .int .i32 z], .int .u8 dom, .int .u64 id, .int .u16 port, .int .u16 seq] w fun e w' => e = .returned (.bool true) ∧ Below w.heap.size w w' := by
  have KW := Lib.hid fun w => works_any w
  have KI := Lib.hid fun w => rinfo_any x y z w
  have b1 := tmodP_bd x 4398046511105 (by omega)
  have b2 := tmodP_bd y 4398046511105 (by omega)
  have b3 := tmodP_bd z 8388609 (by omega)
  have hok : okI (x.tmod 4398046511105) (y.tmod 4398046511105) (z.tmod 8388609) = true := (okI_iff _ _ _).2 (by omega)
  generalize x.tmod 4398046511105 = o at *
  generalize y.tmod 4398046511105 = c at *
  generalize z.tmod 8388609 = p at *
  obtain ⟨d1, d2⟩ := tmodN dom 128 hd.1 (by omega)
  obtain ⟨i1, i2⟩ := tmodN id 281474976710656 hi.1 (by omega)
  obtain ⟨p1, p2⟩ := tmodN port 65535 hp.1 (by omega)
  obtain ⟨dm, hdm⟩ : ∃ v, dom.tmod 128 = v := ⟨_, rfl⟩
  obtain ⟨sid, hsid⟩ : ∃ v, id.tmod 281474976710656 = v := ⟨_, rfl⟩
  obtain ⟨sp, hsp⟩ : ∃ v, port.tmod 65535 = v := ⟨_, rfl⟩
  rw [hdm] at d1 d2
  rw [hsid] at i1 i2
  rw [hsp] at p1 p2
  have e1 : IntKind.u8.wrap dm = dm := by rw [IntKind.wrap_u8]; omega
  have e2 : IntKind.i64.wrap dm = dm := IntWalk.i64_in _ (by omega)
  have e3 : IntKind.u64.wrap sid = sid := by rw [IntKind.wrap_u64]; omega
  have e4 : IntKind.i64.wrap sid = sid := IntWalk.i64_in _ (by omega)
  have e5 : IntKind.u16.wrap sp = sp := by rw [IntKind.wrap_u16]; omega
  have e6 : IntKind.i64.wrap sp = sp := IntWalk.i64_in _ (by omega)
  have e7 : IntKind.i64.wrap (1 + sp) = 1 + sp := IntWalk.i64_in _ (by omega)
  have e8 : IntKind.i64.wrap seq = seq := IntWalk.i64_in _ (by omega)
  have hchk := chk8 (dom := dm) (sid := sid) (sport := 1 + sp) (seq := seq) hok (by omega) (by omega) (by omega) (by omega)
  have em : mmV o c p dm sid (1 + sp) seq = ⟨mk8 o c p dm sid (1 + sp) seq, 0⟩ := by unfold mmV; rw [if_neg (by rw [hok]; decide), if_pos hchk]
  have eo : ofV (mk8 o c p dm sid (1 + sp) seq) = ⟨o, c, p, 0⟩ := by unfold ofV; rw [if_pos hchk, if_pos (show mk8 o c p dm sid (1 + sp) seq 0 = 8 from rfl)]; rfl
  have KM : Hid (∀ w, Calls Try.prog 21 #[.agg #[.int .i64 o, .int .i64 c, .int .i64 p], .int .i64 dm, .agg #[.int .i64 sid, .int .i64 (1 + sp)], .int .i64 seq] w fun e w' => e = .returned (.tuple #[.agg #[.int .i64 8, .int .i64 dm, .int .i64 c, .int .i64 sid, .int .i64 (1 + sp), .int .i64 seq, .int .i64 o, .int .i64 p, .int .i64 0, .int .i64 0, .int .i64 0, .int .i64 0, .int .i64 0, .int .i64 0, .int .i64 0, .int .i64 0, .int .i64 0], .int .i64 0]) ∧ Below w.heap.size w w') := Lib.hid fun w => Calls.atV (pmsg_any o c p dm sid (1 + sp) seq w) (by rw [em]; rfl)
  have KO : Hid (∀ w, Calls Try.prog 24 #[.agg #[.int .i64 8, .int .i64 dm, .int .i64 c, .int .i64 sid, .int .i64 (1 + sp), .int .i64 seq, .int .i64 o, .int .i64 p, .int .i64 0, .int .i64 0, .int .i64 0, .int .i64 0, .int .i64 0, .int .i64 0, .int .i64 0, .int .i64 0, .int .i64 0]] w fun e w' => e = .returned (.tuple #[.agg #[.int .i64 o, .int .i64 c, .int .i64 p], .int .i64 0]) ∧ Below w.heap.size w w') := Lib.hid fun w => Calls.atV (pof_any (mk8 o c p dm sid (1 + sp) seq) w) (by rw [eo]; rfl)
  have QI := fun W => info_same o c p W
  have QM : ∀ W, (Op.equalIn 10000 46 (.agg #[.int .i64 8, .int .i64 dm, .int .i64 c, .int .i64 sid, .int .i64 (1 + sp), .int .i64 seq, .int .i64 o, .int .i64 p, .int .i64 0, .int .i64 0, .int .i64 0, .int .i64 0, .int .i64 0, .int .i64 0, .int .i64 0, .int .i64 0, .int .i64 0]) (.agg #[.int .i64 8, .int .i64 dm, .int .i64 c, .int .i64 sid, .int .i64 (1 + sp), .int .i64 seq, .int .i64 o, .int .i64 p, .int .i64 0, .int .i64 0, .int .i64 0, .int .i64 0, .int .i64 0, .int .i64 0, .int .i64 0, .int .i64 0, .int .i64 0])).run Try.prog W = .ok true W := fun W => (msg_eq (mk8 o c p dm sid (1 + sp) seq) (mk8 o c p dm sid (1 + sp) seq) W).trans (by rw [allEq_self])
  clear hok hchk em eo b1 b2 b3
  go_enter Try.func7, Try.ntmps7
  go_wp2_with fail
  refine (KW.out _).mono ?_
  rintro e w1 ⟨rfl, hb1⟩
  have hz1_0 : w.heap.size < w1.heap.size := by have := hb1.size; simp at this; omega
  have s1_0_0 : w1.cell? ⟨w.heap.size, 0, none⟩ = some (.int .i64 x) := (hb1.cell (p := ⟨w.heap.size, 0, none⟩) (by simp <;> omega)).trans (by go_simp)
  have s1_0_1 : w1.cell? ⟨w.heap.size, 1, none⟩ = some (.int .i64 y) := (hb1.cell (p := ⟨w.heap.size, 1, none⟩) (by simp <;> omega)).trans (by go_simp)
  have s1_0_2 : w1.cell? ⟨w.heap.size, 2, none⟩ = some (.int .i32 z) := (hb1.cell (p := ⟨w.heap.size, 2, none⟩) (by simp <;> omega)).trans (by go_simp)
  have H1 : Below w.heap.size w w1 := ((Below.refl _ _).alloc (Nat.le_refl _) _).trans (hb1.mono (by simp <;> omega))
  clear hb1
  go_wp2_with fail
  refine (KI.out _).mono ?_
  rintro e w2 ⟨rfl, hb2⟩
  have hz2_0 := Nat.lt_of_lt_of_le hz1_0 hb2.size
  have s2_0_0 := (hb2.cell (p := ⟨w.heap.size, 0, none⟩) hz1_0).trans s1_0_0
  have s2_0_1 := (hb2.cell (p := ⟨w.heap.size, 1, none⟩) hz1_0).trans s1_0_1
  have s2_0_2 := (hb2.cell (p := ⟨w.heap.size, 2, none⟩) hz1_0).trans s1_0_2
  have H2 := H1.trans (hb2.mono H1.size)
  clear hz1_0 s1_0_0 s1_0_1 s1_0_2 hb2 H1
  go_wp2_with fail
  refine (KM.out _).mono ?_
  rintro e w3 ⟨rfl, hb3⟩
  have hz3_0 : w2.heap.size < w3.heap.size := by have := hb3.size; simp at this; omega
  have s3_0_0 : w3.cell? ⟨w2.heap.size, 0, none⟩ = some (.int .i64 o) := (hb3.cell (p := ⟨w2.heap.size, 0, none⟩) (by simp <;> omega)).trans (by go_simp)
  have s3_0_1 : w3.cell? ⟨w2.heap.size, 1, none⟩ = some (.int .i64 c) := (hb3.cell (p := ⟨w2.heap.size, 1, none⟩) (by simp <;> omega)).trans (by go_simp)
  have s3_0_2 : w3.cell? ⟨w2.heap.size, 2, none⟩ = some (.int .i64 p) := (hb3.cell (p := ⟨w2.heap.size, 2, none⟩) (by simp <;> omega)).trans (by go_simp)
  have hz3_1 : w2.heap.size + 1 < w3.heap.size := by have := hb3.size; simp at this; omega
  have s3_1_0 : w3.cell? ⟨w2.heap.size + 1, 0, none⟩ = some (.int .i64 sid) := (hb3.cell (p := ⟨w2.heap.size + 1, 0, none⟩) (by simp <;> omega)).trans (by go_simp)
  have s3_1_1 : w3.cell? ⟨w2.heap.size + 1, 1, none⟩ = some (.int .i64 (1 + sp)) := (hb3.cell (p := ⟨w2.heap.size + 1, 1, none⟩) (by simp <;> omega)).trans (by go_simp)
  have H3 : Below w.heap.size w w3 := ((H2.alloc H2.size _).alloc (by have := H2.size; simp <;> omega) _).trans (hb3.mono (by have := H2.size; simp <;> omega))
  clear hb3 H2
  go_wp2_with (first | (refine wpList_store_mid (by exact rfl) _ _ _ (by exact rfl) _ _ _ (by exact rfl) (by exact rfl) (by exact there_msg (msg_at _ _ zero17)) (by kernel_rfl) (by kernel_rfl) ?_) | (refine wpList_load_mid (by exact rfl) _ _ (by exact rfl) _ _ (by exact rfl) (msgL (mk8 o c p dm sid (1 + sp) seq)) _ (by exact range_msg (MsgAt.setCells (msg_at _ _ zero17) (mk8 o c p dm sid (1 + sp) seq))) Try.underlying46 (by exact rfl) (by kernel_rfl) ?_))
  refine calls_gen ?_
  rintro w4 hg
  have s4_0_0 : w4.cell? ⟨w2.heap.size, 0, none⟩ = some (.int .i64 o) := by rw [hg]; exact (setCells_ne _ (Nat.ne_of_lt hz3_0) _).trans ((World.cell?_alloc_lt _ _ _ hz3_0).trans s3_0_0)
  have s4_0_1 : w4.cell? ⟨w2.heap.size, 1, none⟩ = some (.int .i64 c) := by rw [hg]; exact (setCells_ne _ (Nat.ne_of_lt hz3_0) _).trans ((World.cell?_alloc_lt _ _ _ hz3_0).trans s3_0_1)
  have s4_0_2 : w4.cell? ⟨w2.heap.size, 2, none⟩ = some (.int .i64 p) := by rw [hg]; exact (setCells_ne _ (Nat.ne_of_lt hz3_0) _).trans ((World.cell?_alloc_lt _ _ _ hz3_0).trans s3_0_2)
  have s4_1_0 : w4.cell? ⟨w2.heap.size + 1, 0, none⟩ = some (.int .i64 sid) := by rw [hg]; exact (setCells_ne _ (Nat.ne_of_lt hz3_1) _).trans ((World.cell?_alloc_lt _ _ _ hz3_1).trans s3_1_0)
  have s4_1_1 : w4.cell? ⟨w2.heap.size + 1, 1, none⟩ = some (.int .i64 (1 + sp)) := by rw [hg]; exact (setCells_ne _ (Nat.ne_of_lt hz3_1) _).trans ((World.cell?_alloc_lt _ _ _ hz3_1).trans s3_1_1)
  have m4_0 : Hid (MsgAt w4 (w3.heap.size) (mk8 o c p dm sid (1 + sp) seq)) := Lib.hid (by rw [hg]; exact (MsgAt.setCells (msg_at _ _ zero17) (mk8 o c p dm sid (1 + sp) seq)))
  have HX : Below w3.heap.size w3 w4 := by rw [hg]; exact (below_alloc _ _).trans (below_setCells _ _ (Nat.le_refl _) _ _ _)
  have hz4_0 := Nat.lt_of_lt_of_le hz3_0 HX.size
  have hz4_1 := Nat.lt_of_lt_of_le hz3_1 HX.size
  have H4 := below_step HX H3
  clear hg HX hz3_0 s3_0_0 s3_0_1 s3_0_2 hz3_1 s3_1_0 s3_1_1 H3
  refine (KO.out _).mono ?_
  rintro e w5 ⟨rfl, hb5⟩
  have m5_0 : Hid (MsgAt w5 (w3.heap.size) (mk8 o c p dm sid (1 + sp) seq)) := Lib.hid (m4_0.out.below hb5)
  have hz5_0 := Nat.lt_of_lt_of_le hz4_0 hb5.size
  have s5_0_0 := (hb5.cell (p := ⟨w2.heap.size, 0, none⟩) hz4_0).trans s4_0_0
  have s5_0_1 := (hb5.cell (p := ⟨w2.heap.size, 1, none⟩) hz4_0).trans s4_0_1
  have s5_0_2 := (hb5.cell (p := ⟨w2.heap.size, 2, none⟩) hz4_0).trans s4_0_2
  have hz5_1 := Nat.lt_of_lt_of_le hz4_1 hb5.size
  have s5_1_0 := (hb5.cell (p := ⟨w2.heap.size + 1, 0, none⟩) hz4_1).trans s4_1_0
  have s5_1_1 := (hb5.cell (p := ⟨w2.heap.size + 1, 1, none⟩) hz4_1).trans s4_1_1
  have H5 := H4.trans (hb5.mono H4.size)
  clear hz4_0 s4_0_0 s4_0_1 s4_0_2 hz4_1 s4_1_0 s4_1_1 hb5 H4
  clear m4_0
  have c0 : w5.cell? ⟨w3.heap.size, 0, none⟩ = some (.int .i64 8) := (m5_0.out 0 (by decide)).1
  have c1 : w5.cell? ⟨w3.heap.size, 1, none⟩ = some (.int .i64 dm) := (m5_0.out 1 (by decide)).1
  have c3 : w5.cell? ⟨w3.heap.size, 3, none⟩ = some (.int .i64 sid) := (m5_0.out 3 (by decide)).1
  have c4 : w5.cell? ⟨w3.heap.size, 4, none⟩ = some (.int .i64 (1 + sp)) := (m5_0.out 4 (by decide)).1
  have c5 : w5.cell? ⟨w3.heap.size, 5, none⟩ = some (.int .i64 seq) := (m5_0.out 5 (by decide)).1
  have n0 : w3.heap.size < w5.heap.size := cell_lt c0
  go_wp2_with fail
  refine (KM.out _).mono ?_
  rintro e w6 ⟨rfl, hb6⟩
  have m6_0 : Hid (MsgAt w6 (w3.heap.size) (mk8 o c p dm sid (1 + sp) seq)) := Lib.hid ((m5_0.out.below (below_alloc _ _)).below hb6)
  have hz6_0 : w2.heap.size < w6.heap.size := by have := hb6.size; simp at this; omega
  have s6_0_0 : w6.cell? ⟨w2.heap.size, 0, none⟩ = some (.int .i64 o) := (hb6.cell (p := ⟨w2.heap.size, 0, none⟩) (by simp <;> omega)).trans (by go_simp)
  have s6_0_1 : w6.cell? ⟨w2.heap.size, 1, none⟩ = some (.int .i64 c) := (hb6.cell (p := ⟨w2.heap.size, 1, none⟩) (by simp <;> omega)).trans (by go_simp)
  have s6_0_2 : w6.cell? ⟨w2.heap.size, 2, none⟩ = some (.int .i64 p) := (hb6.cell (p := ⟨w2.heap.size, 2, none⟩) (by simp <;> omega)).trans (by go_simp)
  have hz6_1 : w2.heap.size + 1 < w6.heap.size := by have := hb6.size; simp at this; omega
  have s6_1_0 : w6.cell? ⟨w2.heap.size + 1, 0, none⟩ = some (.int .i64 sid) := (hb6.cell (p := ⟨w2.heap.size + 1, 0, none⟩) (by simp <;> omega)).trans (by go_simp)
  have s6_1_1 : w6.cell? ⟨w2.heap.size + 1, 1, none⟩ = some (.int .i64 (1 + sp)) := (hb6.cell (p := ⟨w2.heap.size + 1, 1, none⟩) (by simp <;> omega)).trans (by go_simp)
  have hz6_2 : w5.heap.size < w6.heap.size := by have := hb6.size; simp at this; omega
  have s6_2_0 : w6.cell? ⟨w5.heap.size, 0, none⟩ = some (.int .i64 o) := (hb6.cell (p := ⟨w5.heap.size, 0, none⟩) (by simp <;> omega)).trans (by go_simp)
  have s6_2_1 : w6.cell? ⟨w5.heap.size, 1, none⟩ = some (.int .i64 c) := (hb6.cell (p := ⟨w5.heap.size, 1, none⟩) (by simp <;> omega)).trans (by go_simp)
  have s6_2_2 : w6.cell? ⟨w5.heap.size, 2, none⟩ = some (.int .i64 p) := (hb6.cell (p := ⟨w5.heap.size, 2, none⟩) (by simp <;> omega)).trans (by go_simp)
  have H6 : Below w.heap.size w w6 := (H5.alloc H5.size _).trans (hb6.mono (by have := H5.size; simp <;> omega))
  clear hz5_0 s5_0_0 s5_0_1 s5_0_2 hz5_1 s5_1_0 s5_1_1 hb6 H5
  clear m5_0
  clear c0 c1 c3 c4 c5 n0
  go_wp2_with (refine wpList_store_mid (by exact rfl) _ _ _ (by exact rfl) _ _ _ (by exact rfl) (by exact rfl) (by exact there_msg (msg_at _ _ zero17)) (by kernel_rfl) (by kernel_rfl) ?_; refine list_gen ?_; intro w7 hg; have s7_0_0 : w7.cell? ⟨w2.heap.size, 0, none⟩ = some (.int .i64 o) := (by (rw [hg]; exact (setCells_ne _ (Nat.ne_of_lt hz6_0) _).trans ((World.cell?_alloc_lt _ _ _ hz6_0).trans s6_0_0))); have s7_0_1 : w7.cell? ⟨w2.heap.size, 1, none⟩ = some (.int .i64 c) := (by (rw [hg]; exact (setCells_ne _ (Nat.ne_of_lt hz6_0) _).trans ((World.cell?_alloc_lt _ _ _ hz6_0).trans s6_0_1))); have s7_0_2 : w7.cell? ⟨w2.heap.size, 2, none⟩ = some (.int .i64 p) := (by (rw [hg]; exact (setCells_ne _ (Nat.ne_of_lt hz6_0) _).trans ((World.cell?_alloc_lt _ _ _ hz6_0).trans s6_0_2))); have s7_1_0 : w7.cell? ⟨w2.heap.size + 1, 0, none⟩ = some (.int .i64 sid) := (by (rw [hg]; exact (setCells_ne _ (Nat.ne_of_lt hz6_1) _).trans ((World.cell?_alloc_lt _ _ _ hz6_1).trans s6_1_0))); have s7_1_1 : w7.cell? ⟨w2.heap.size + 1, 1, none⟩ = some (.int .i64 (1 + sp)) := (by (rw [hg]; exact (setCells_ne _ (Nat.ne_of_lt hz6_1) _).trans ((World.cell?_alloc_lt _ _ _ hz6_1).trans s6_1_1))); have s7_2_0 : w7.cell? ⟨w5.heap.size, 0, none⟩ = some (.int .i64 o) := (by (rw [hg]; exact (setCells_ne _ (Nat.ne_of_lt hz6_2) _).trans ((World.cell?_alloc_lt _ _ _ hz6_2).trans s6_2_0))); have s7_2_1 : w7.cell? ⟨w5.heap.size, 1, none⟩ = some (.int .i64 c) := (by (rw [hg]; exact (setCells_ne _ (Nat.ne_of_lt hz6_2) _).trans ((World.cell?_alloc_lt _ _ _ hz6_2).trans s6_2_1))); have s7_2_2 : w7.cell? ⟨w5.heap.size, 2, none⟩ = some (.int .i64 p) := (by (rw [hg]; exact (setCells_ne _ (Nat.ne_of_lt hz6_2) _).trans ((World.cell?_alloc_lt _ _ _ hz6_2).trans s6_2_2))); have m7_0 : Hid (MsgAt w7 (w3.heap.size) (mk8 o c p dm sid (1 + sp) seq)) := Lib.hid (by rw [hg]; exact (m6_0.out.below (below_alloc _ _)).apart (Nat.ne_of_lt (cell_lt (m6_0.out 0 (by decide)).1)) _); have m7_1 : Hid (MsgAt w7 (w6.heap.size) (mk8 o c p dm sid (1 + sp) seq)) := Lib.hid (by rw [hg]; exact (MsgAt.setCells (msg_at _ _ zero17) (mk8 o c p dm sid (1 + sp) seq))); have HX : Below w6.heap.size w6 w7 := (by (rw [hg]; exact (below_alloc _ _).trans (below_setCells _ _ (Nat.le_refl _) _ _ _))); have hz7_0 := Nat.lt_of_lt_of_le hz6_0 HX.size; have hz7_1 := Nat.lt_of_lt_of_le hz6_1 HX.size; have hz7_2 := Nat.lt_of_lt_of_le hz6_2 HX.size; have H7 := below_step HX H6; clear hg HX hz6_0 s6_0_0 s6_0_1 s6_0_2 hz6_1 s6_1_0 s6_1_1 hz6_2 s6_2_0 s6_2_1 s6_2_2 H6 m6_0; have c0_0 : w7.cell? ⟨w3.heap.size, 0, none⟩ = some (.int .i64 8) := (m7_0.out 0 (by decide)).1; have c0_1 : w7.cell? ⟨w3.heap.size, 1, none⟩ = some (.int .i64 dm) := (m7_0.out 1 (by decide)).1; have c0_2 : w7.cell? ⟨w3.heap.size, 2, none⟩ = some (.int .i64 c) := (m7_0.out 2 (by decide)).1; have c0_3 : w7.cell? ⟨w3.heap.size, 3, none⟩ = some (.int .i64 sid) := (m7_0.out 3 (by decide)).1; have c0_4 : w7.cell? ⟨w3.heap.size, 4, none⟩ = some (.int .i64 (1 + sp)) := (m7_0.out 4 (by decide)).1; have c0_5 : w7.cell? ⟨w3.heap.size, 5, none⟩ = some (.int .i64 seq) := (m7_0.out 5 (by decide)).1; have c0_6 : w7.cell? ⟨w3.heap.size, 6, none⟩ = some (.int .i64 o) := (m7_0.out 6 (by decide)).1; have c0_7 : w7.cell? ⟨w3.heap.size, 7, none⟩ = some (.int .i64 p) := (m7_0.out 7 (by decide)).1; have c0_8 : w7.cell? ⟨w3.heap.size, 8, none⟩ = some (.int .i64 0) := (m7_0.out 8 (by decide)).1; have c0_9 : w7.cell? ⟨w3.heap.size, 9, none⟩ = some (.int .i64 0) := (m7_0.out 9 (by decide)).1; have c0_10 : w7.cell? ⟨w3.heap.size, 10, none⟩ = some (.int .i64 0) := (m7_0.out 10 (by decide)).1; have c0_11 : w7.cell? ⟨w3.heap.size, 11, none⟩ = some (.int .i64 0) := (m7_0.out 11 (by decide)).1; have c0_12 : w7.cell? ⟨w3.heap.size, 12, none⟩ = some (.int .i64 0) := (m7_0.out 12 (by decide)).1; have c0_13 : w7.cell? ⟨w3.heap.size, 13, none⟩ = some (.int .i64 0) := (m7_0.out 13 (by decide)).1; have c0_14 : w7.cell? ⟨w3.heap.size, 14, none⟩ = some (.int .i64 0) := (m7_0.out 14 (by decide)).1; have c0_15 : w7.cell? ⟨w3.heap.size, 15, none⟩ = some (.int .i64 0) := (m7_0.out 15 (by decide)).1; have c0_16 : w7.cell? ⟨w3.heap.size, 16, none⟩ = some (.int .i64 0) := (m7_0.out 16 (by decide)).1; have c1_0 : w7.cell? ⟨w6.heap.size, 0, none⟩ = some (.int .i64 8) := (m7_1.out 0 (by decide)).1; have c1_1 : w7.cell? ⟨w6.heap.size, 1, none⟩ = some (.int .i64 dm) := (m7_1.out 1 (by decide)).1; have c1_2 : w7.cell? ⟨w6.heap.size, 2, none⟩ = some (.int .i64 c) := (m7_1.out 2 (by decide)).1; have c1_3 : w7.cell? ⟨w6.heap.size, 3, none⟩ = some (.int .i64 sid) := (m7_1.out 3 (by decide)).1; have c1_4 : w7.cell? ⟨w6.heap.size, 4, none⟩ = some (.int .i64 (1 + sp)) := (m7_1.out 4 (by decide)).1; have c1_5 : w7.cell? ⟨w6.heap.size, 5, none⟩ = some (.int .i64 seq) := (m7_1.out 5 (by decide)).1; have c1_6 : w7.cell? ⟨w6.heap.size, 6, none⟩ = some (.int .i64 o) := (m7_1.out 6 (by decide)).1; have c1_7 : w7.cell? ⟨w6.heap.size, 7, none⟩ = some (.int .i64 p) := (m7_1.out 7 (by decide)).1; have c1_8 : w7.cell? ⟨w6.heap.size, 8, none⟩ = some (.int .i64 0) := (m7_1.out 8 (by decide)).1; have c1_9 : w7.cell? ⟨w6.heap.size, 9, none⟩ = some (.int .i64 0) := (m7_1.out 9 (by decide)).1; have c1_10 : w7.cell? ⟨w6.heap.size, 10, none⟩ = some (.int .i64 0) := (m7_1.out 10 (by decide)).1; have c1_11 : w7.cell? ⟨w6.heap.size, 11, none⟩ = some (.int .i64 0) := (m7_1.out 11 (by decide)).1; have c1_12 : w7.cell? ⟨w6.heap.size, 12, none⟩ = some (.int .i64 0) := (m7_1.out 12 (by decide)).1; have c1_13 : w7.cell? ⟨w6.heap.size, 13, none⟩ = some (.int .i64 0) := (m7_1.out 13 (by decide)).1; have c1_14 : w7.cell? ⟨w6.heap.size, 14, none⟩ = some (.int .i64 0) := (m7_1.out 14 (by decide)).1; have c1_15 : w7.cell? ⟨w6.heap.size, 15, none⟩ = some (.int .i64 0) := (m7_1.out 15 (by decide)).1; have c1_16 : w7.cell? ⟨w6.heap.size, 16, none⟩ = some (.int .i64 0) := (m7_1.out 16 (by decide)).1)
  go_ret
  exact ⟨rfl, H7⟩
end Go.Proofs.Ytgdagfiebaebbaa
