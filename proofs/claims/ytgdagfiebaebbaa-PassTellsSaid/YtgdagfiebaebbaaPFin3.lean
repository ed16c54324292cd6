/- PassTells: Message and Of agree with the reference: the law returns true for every input, and its arguments read as before. -/
import Derived.Test.YtgdagfiebaebbaaFrame
import Derived.Test.YtgdagfiebaebbaaPLaw3
namespace Go.Proofs.Ytgdagfiebaebbaa.passTells
open Go.ChangeShapes Go.WideShapes Go.ChangeAt Go.RowKit Go.Joins

theorem readable : ∀ t ∈ Try.f5.params.toList, Try.prog.readableRec t = true ∧ t < Try.prog.types.size := by
  rw [Try.params5]
  intro t ht
  simp only [List.mem_cons, List.not_mem_nil, or_false] at ht
  rcases ht with rfl | rfl | rfl | rfl | rfl | rfl | rfl
  all_goals exact ⟨by kernel_rfl, of_decide_eq_true (by kernel_rfl)⟩
theorem split2 {cs : Array Value} (h : cs.size = 2) : ∃ c0 c1, cs = #[c0, c1] := by
  obtain ⟨l⟩ := cs
  match l, h with
  | [c0, c1], _ => exact ⟨c0, c1, rfl⟩
theorem split3 {cs : Array Value} (h : cs.size = 3) : ∃ c0 c1 c2, cs = #[c0, c1, c2] := by
  obtain ⟨l⟩ := cs
  match l, h with
  | [c0, c1, c2], _ => exact ⟨c0, c1, c2, rfl⟩
theorem split15 {cs : Array Value} (h : cs.size = 15) : ∃ c0 c1 c2 c3 c4 c5 c6 c7 c8 c9 c10 c11 c12 c13 c14, cs = #[c0, c1, c2, c3, c4, c5, c6, c7, c8, c9, c10, c11, c12, c13, c14] := by
  obtain ⟨l⟩ := cs
  match l, h with
  | [c0, c1, c2, c3, c4, c5, c6, c7, c8, c9, c10, c11, c12, c13, c14], _ => exact ⟨c0, c1, c2, c3, c4, c5, c6, c7, c8, c9, c10, c11, c12, c13, c14, rfl⟩
theorem split17 {cs : Array Value} (h : cs.size = 17) : ∃ c0 c1 c2 c3 c4 c5 c6 c7 c8 c9 c10 c11 c12 c13 c14 c15 c16, cs = #[c0, c1, c2, c3, c4, c5, c6, c7, c8, c9, c10, c11, c12, c13, c14, c15, c16] := by
  obtain ⟨l⟩ := cs
  match l, h with
  | [c0, c1, c2, c3, c4, c5, c6, c7, c8, c9, c10, c11, c12, c13, c14, c15, c16], _ => exact ⟨c0, c1, c2, c3, c4, c5, c6, c7, c8, c9, c10, c11, c12, c13, c14, c15, c16, rfl⟩
set_option maxRecDepth 100000 in
set_option maxHeartbeats 1000000 in
theorem lifted (os : Os) (started : os.Started) (H : Type) (enc : TypeId × Value → H) :
    ReturnsInHanded {} Try.checked os 5 .any (Rows.passTellsSpec.pre6 enc Try.prog Try.f5 Rows.passTellsRow.domain false) (Rows.passTellsSpec.post enc Try.prog Try.f5 false true false false) := by
  refine returnsInHanded_of_change (C := Try.checked) own started (by kernel_rfl) Try.func5
    (ChangeSpec.witness6 (enc := enc) (C := Try.checked) false ⟨#[], #[.agg #[.int .i64 0, .int .i64 0, .int .i64 0], .agg #[.int .i64 0, .int .i64 0, .int .i32 0], .int .i64 0, .agg #[.int .i64 0, .int .i64 0], .int .i64 0, .agg #[.int .i64 0, .int .i64 0, .int .i64 0, .int .i64 0, .int .i64 0, .int .i64 0, .int .i64 0, .int .i64 0, .int .i64 0, .int .i64 0, .int .i64 0, .int .i64 0, .int .i64 0, .int .i64 0, .int .i64 0, .int .i64 0, .int .i64 0], .agg #[.int .u8 0, .int .u8 0, .int .i64 0, .int .i64 0, .int .u64 0, .int .u64 0, .int .u16 0, .int .u16 0, .int .u16 0, .int .i32 0, .int .u8 0, .int .u8 0, .int .u8 0, .int .u8 0, .int .u16 0]], []⟩ 8 (by kernel_rfl) (by kernel_rfl) (by kernel_rfl) (by kernel_rfl)) ?_
  intro W base args ds gs before hval0 hW hcnd _
  have hval : ∀ (j : Nat) t v, Try.f5.params[j]? = some t → args[j]? = some v → Value.okWide Try.prog W .any base t v := hval0
  have hW' := hW
  obtain ⟨p, q, hA0, hV, rfl, hfz, hnd⟩ := hW
  have hA : DataW.TrodAll enc Try.prog W 0 (fun _ => true) true Try.f5.params.toList args.toList ds p := hA0
  rw [Try.params5] at hA hval
  obtain ⟨v0, vs0, d0, ds0, p0, q0, hargs, rfl, rfl, h0, r0⟩ := trodAll_cons hA
  obtain ⟨v1, vs1, d1, ds1, p1, q1, rfl, rfl, rfl, h1, r1⟩ := trodAll_cons r0
  obtain ⟨v2, vs2, d2, ds2, p2, q2, rfl, rfl, rfl, h2, r2⟩ := trodAll_cons r1
  obtain ⟨v3, vs3, d3, ds3, p3, q3, rfl, rfl, rfl, h3, r3⟩ := trodAll_cons r2
  obtain ⟨v4, vs4, d4, ds4, p4, q4, rfl, rfl, rfl, h4, r4⟩ := trodAll_cons r3
  obtain ⟨v5, vs5, d5, ds5, p5, q5, rfl, rfl, rfl, h5, r5⟩ := trodAll_cons r4
  obtain ⟨v6, vs6, d6, ds6, p6, q6, rfl, rfl, rfl, h6, r6⟩ := trodAll_cons r5
  obtain ⟨rfl, rfl, rfl⟩ := trodAll_nil r6
  obtain rfl : args = #[v0, v1, v2, v3, v4, v5, v6] := by cases args; simp_all
  obtain ⟨rfl, rfl⟩ := trodVars_none hV
  obtain ⟨cs0, rfl, hs0, hr0⟩ := row_struct Try.underlying23 (hval 0 23 v0 rfl rfl)
  obtain ⟨c0_0, c0_1, c0_2, rfl⟩ := split3 (hs0.trans (by kernel_rfl))
  obtain ⟨x0_0, rfl, b0_0⟩ := row_int (i := 0) (ts := [3, 3, 3]) hr0 (by kernel_rfl) rfl Try.underlying3 rfl
  obtain ⟨x0_1, rfl, b0_1⟩ := row_int (i := 1) (ts := [3, 3, 3]) hr0 (by kernel_rfl) rfl Try.underlying3 rfl
  obtain ⟨x0_2, rfl, b0_2⟩ := row_int (i := 2) (ts := [3, 3, 3]) hr0 (by kernel_rfl) rfl Try.underlying3 rfl
  obtain ⟨cs1, rfl, hs1, hr1⟩ := row_struct Try.underlying25 (hval 1 25 v1 rfl rfl)
  obtain ⟨c1_0, c1_1, c1_2, rfl⟩ := split3 (hs1.trans (by kernel_rfl))
  obtain ⟨x1_0, rfl, b1_0⟩ := row_int (i := 0) (ts := [2, 2, 21]) hr1 (by kernel_rfl) rfl Try.underlying2 rfl
  obtain ⟨x1_1, rfl, b1_1⟩ := row_int (i := 1) (ts := [2, 2, 21]) hr1 (by kernel_rfl) rfl Try.underlying2 rfl
  obtain ⟨x1_2, rfl, b1_2⟩ := row_int (i := 2) (ts := [2, 2, 21]) hr1 (by kernel_rfl) rfl Try.underlying21 rfl
  obtain ⟨x2, rfl, b2⟩ := val_int Try.underlying3 (hval 2 3 v2 rfl rfl)
  obtain ⟨cs3, rfl, hs3, hr3⟩ := row_struct Try.underlying42 (hval 3 42 v3 rfl rfl)
  obtain ⟨c3_0, c3_1, rfl⟩ := split2 (hs3.trans (by kernel_rfl))
  obtain ⟨x3_0, rfl, b3_0⟩ := row_int (i := 0) (ts := [3, 3]) hr3 (by kernel_rfl) rfl Try.underlying3 rfl
  obtain ⟨x3_1, rfl, b3_1⟩ := row_int (i := 1) (ts := [3, 3]) hr3 (by kernel_rfl) rfl Try.underlying3 rfl
  obtain ⟨x4, rfl, b4⟩ := val_int Try.underlying3 (hval 4 3 v4 rfl rfl)
  obtain ⟨cs5, rfl, hs5, hr5⟩ := row_struct Try.underlying46 (hval 5 46 v5 rfl rfl)
  obtain ⟨c5_0, c5_1, c5_2, c5_3, c5_4, c5_5, c5_6, c5_7, c5_8, c5_9, c5_10, c5_11, c5_12, c5_13, c5_14, c5_15, c5_16, rfl⟩ := split17 (hs5.trans (by kernel_rfl))
  obtain ⟨x5_0, rfl, b5_0⟩ := row_int (i := 0) (ts := [3, 3, 3, 3, 3, 3, 3, 3, 3, 3, 3, 3, 3, 3, 3, 3, 3]) hr5 (by kernel_rfl) rfl Try.underlying3 rfl
  obtain ⟨x5_1, rfl, b5_1⟩ := row_int (i := 1) (ts := [3, 3, 3, 3, 3, 3, 3, 3, 3, 3, 3, 3, 3, 3, 3, 3, 3]) hr5 (by kernel_rfl) rfl Try.underlying3 rfl
  obtain ⟨x5_2, rfl, b5_2⟩ := row_int (i := 2) (ts := [3, 3, 3, 3, 3, 3, 3, 3, 3, 3, 3, 3, 3, 3, 3, 3, 3]) hr5 (by kernel_rfl) rfl Try.underlying3 rfl
  obtain ⟨x5_3, rfl, b5_3⟩ := row_int (i := 3) (ts := [3, 3, 3, 3, 3, 3, 3, 3, 3, 3, 3, 3, 3, 3, 3, 3, 3]) hr5 (by kernel_rfl) rfl Try.underlying3 rfl
  obtain ⟨x5_4, rfl, b5_4⟩ := row_int (i := 4) (ts := [3, 3, 3, 3, 3, 3, 3, 3, 3, 3, 3, 3, 3, 3, 3, 3, 3]) hr5 (by kernel_rfl) rfl Try.underlying3 rfl
  obtain ⟨x5_5, rfl, b5_5⟩ := row_int (i := 5) (ts := [3, 3, 3, 3, 3, 3, 3, 3, 3, 3, 3, 3, 3, 3, 3, 3, 3]) hr5 (by kernel_rfl) rfl Try.underlying3 rfl
  obtain ⟨x5_6, rfl, b5_6⟩ := row_int (i := 6) (ts := [3, 3, 3, 3, 3, 3, 3, 3, 3, 3, 3, 3, 3, 3, 3, 3, 3]) hr5 (by kernel_rfl) rfl Try.underlying3 rfl
  obtain ⟨x5_7, rfl, b5_7⟩ := row_int (i := 7) (ts := [3, 3, 3, 3, 3, 3, 3, 3, 3, 3, 3, 3, 3, 3, 3, 3, 3]) hr5 (by kernel_rfl) rfl Try.underlying3 rfl
  obtain ⟨x5_8, rfl, b5_8⟩ := row_int (i := 8) (ts := [3, 3, 3, 3, 3, 3, 3, 3, 3, 3, 3, 3, 3, 3, 3, 3, 3]) hr5 (by kernel_rfl) rfl Try.underlying3 rfl
  obtain ⟨x5_9, rfl, b5_9⟩ := row_int (i := 9) (ts := [3, 3, 3, 3, 3, 3, 3, 3, 3, 3, 3, 3, 3, 3, 3, 3, 3]) hr5 (by kernel_rfl) rfl Try.underlying3 rfl
  obtain ⟨x5_10, rfl, b5_10⟩ := row_int (i := 10) (ts := [3, 3, 3, 3, 3, 3, 3, 3, 3, 3, 3, 3, 3, 3, 3, 3, 3]) hr5 (by kernel_rfl) rfl Try.underlying3 rfl
  obtain ⟨x5_11, rfl, b5_11⟩ := row_int (i := 11) (ts := [3, 3, 3, 3, 3, 3, 3, 3, 3, 3, 3, 3, 3, 3, 3, 3, 3]) hr5 (by kernel_rfl) rfl Try.underlying3 rfl
  obtain ⟨x5_12, rfl, b5_12⟩ := row_int (i := 12) (ts := [3, 3, 3, 3, 3, 3, 3, 3, 3, 3, 3, 3, 3, 3, 3, 3, 3]) hr5 (by kernel_rfl) rfl Try.underlying3 rfl
  obtain ⟨x5_13, rfl, b5_13⟩ := row_int (i := 13) (ts := [3, 3, 3, 3, 3, 3, 3, 3, 3, 3, 3, 3, 3, 3, 3, 3, 3]) hr5 (by kernel_rfl) rfl Try.underlying3 rfl
  obtain ⟨x5_14, rfl, b5_14⟩ := row_int (i := 14) (ts := [3, 3, 3, 3, 3, 3, 3, 3, 3, 3, 3, 3, 3, 3, 3, 3, 3]) hr5 (by kernel_rfl) rfl Try.underlying3 rfl
  obtain ⟨x5_15, rfl, b5_15⟩ := row_int (i := 15) (ts := [3, 3, 3, 3, 3, 3, 3, 3, 3, 3, 3, 3, 3, 3, 3, 3, 3]) hr5 (by kernel_rfl) rfl Try.underlying3 rfl
  obtain ⟨x5_16, rfl, b5_16⟩ := row_int (i := 16) (ts := [3, 3, 3, 3, 3, 3, 3, 3, 3, 3, 3, 3, 3, 3, 3, 3, 3]) hr5 (by kernel_rfl) rfl Try.underlying3 rfl
  obtain ⟨cs6, rfl, hs6, hr6⟩ := row_struct Try.underlying51 (hval 6 51 v6 rfl rfl)
  obtain ⟨c6_0, c6_1, c6_2, c6_3, c6_4, c6_5, c6_6, c6_7, c6_8, c6_9, c6_10, c6_11, c6_12, c6_13, c6_14, rfl⟩ := split15 (hs6.trans (by kernel_rfl))
  obtain ⟨x6_0, rfl, b6_0⟩ := row_int (i := 0) (ts := [5, 5, 2, 2, 47, 47, 48, 48, 48, 21, 5, 5, 5, 5, 48]) hr6 (by kernel_rfl) rfl Try.underlying5 rfl
  obtain ⟨x6_1, rfl, b6_1⟩ := row_int (i := 1) (ts := [5, 5, 2, 2, 47, 47, 48, 48, 48, 21, 5, 5, 5, 5, 48]) hr6 (by kernel_rfl) rfl Try.underlying5 rfl
  obtain ⟨x6_2, rfl, b6_2⟩ := row_int (i := 2) (ts := [5, 5, 2, 2, 47, 47, 48, 48, 48, 21, 5, 5, 5, 5, 48]) hr6 (by kernel_rfl) rfl Try.underlying2 rfl
  obtain ⟨x6_3, rfl, b6_3⟩ := row_int (i := 3) (ts := [5, 5, 2, 2, 47, 47, 48, 48, 48, 21, 5, 5, 5, 5, 48]) hr6 (by kernel_rfl) rfl Try.underlying2 rfl
  obtain ⟨x6_4, rfl, b6_4⟩ := row_int (i := 4) (ts := [5, 5, 2, 2, 47, 47, 48, 48, 48, 21, 5, 5, 5, 5, 48]) hr6 (by kernel_rfl) rfl Try.underlying47 rfl
  obtain ⟨x6_5, rfl, b6_5⟩ := row_int (i := 5) (ts := [5, 5, 2, 2, 47, 47, 48, 48, 48, 21, 5, 5, 5, 5, 48]) hr6 (by kernel_rfl) rfl Try.underlying47 rfl
  obtain ⟨x6_6, rfl, b6_6⟩ := row_int (i := 6) (ts := [5, 5, 2, 2, 47, 47, 48, 48, 48, 21, 5, 5, 5, 5, 48]) hr6 (by kernel_rfl) rfl Try.underlying48 rfl
  obtain ⟨x6_7, rfl, b6_7⟩ := row_int (i := 7) (ts := [5, 5, 2, 2, 47, 47, 48, 48, 48, 21, 5, 5, 5, 5, 48]) hr6 (by kernel_rfl) rfl Try.underlying48 rfl
  obtain ⟨x6_8, rfl, b6_8⟩ := row_int (i := 8) (ts := [5, 5, 2, 2, 47, 47, 48, 48, 48, 21, 5, 5, 5, 5, 48]) hr6 (by kernel_rfl) rfl Try.underlying48 rfl
  obtain ⟨x6_9, rfl, b6_9⟩ := row_int (i := 9) (ts := [5, 5, 2, 2, 47, 47, 48, 48, 48, 21, 5, 5, 5, 5, 48]) hr6 (by kernel_rfl) rfl Try.underlying21 rfl
  obtain ⟨x6_10, rfl, b6_10⟩ := row_int (i := 10) (ts := [5, 5, 2, 2, 47, 47, 48, 48, 48, 21, 5, 5, 5, 5, 48]) hr6 (by kernel_rfl) rfl Try.underlying5 rfl
  obtain ⟨x6_11, rfl, b6_11⟩ := row_int (i := 11) (ts := [5, 5, 2, 2, 47, 47, 48, 48, 48, 21, 5, 5, 5, 5, 48]) hr6 (by kernel_rfl) rfl Try.underlying5 rfl
  obtain ⟨x6_12, rfl, b6_12⟩ := row_int (i := 12) (ts := [5, 5, 2, 2, 47, 47, 48, 48, 48, 21, 5, 5, 5, 5, 48]) hr6 (by kernel_rfl) rfl Try.underlying5 rfl
  obtain ⟨x6_13, rfl, b6_13⟩ := row_int (i := 13) (ts := [5, 5, 2, 2, 47, 47, 48, 48, 48, 21, 5, 5, 5, 5, 48]) hr6 (by kernel_rfl) rfl Try.underlying5 rfl
  obtain ⟨x6_14, rfl, b6_14⟩ := row_int (i := 14) (ts := [5, 5, 2, 2, 47, 47, 48, 48, 48, 21, 5, 5, 5, 5, 48]) hr6 (by kernel_rfl) rfl Try.underlying48 rfl
  refine (plaw3_walk2 x0_0 x0_1 x0_2 x1_0 x1_1 x1_2 x2 x3_0 x3_1 x4 x5_0 x5_1 x5_2 x5_3 x5_4 x5_5 x5_6 x5_7 x5_8 x5_9 x5_10 x5_11 x5_12 x5_13 x5_14 x5_15 x5_16 x6_0 x6_1 x6_2 x6_3 x6_4 x6_5 x6_6 x6_7 x6_8 x6_9 x6_10 x6_11 x6_12 x6_13 x6_14 (has_u8 b6_0) W).mono fun e W' ⟨he, hb⟩ => ?_
  subst he
  exact ⟨_, rfl, law_post rfl rfl hW' rfl rfl rfl readable hb⟩
theorem over : Rows.passTellsRow.holds Try.pinned (OpenSpec.ofChange Rows.passTellsSpec) :=
  OpenClaim.holds_of_wide 5 Try.f5 rfl rfl rfl rfl rfl rfl rfl ⟨rfl, rfl, rfl, rfl, rfl⟩ rfl rfl rfl rfl rfl (by kernel_rfl) Try.func5 (by kernel_rfl)
    (of_decide_eq_true (by kernel_rfl)) (by unfold Func.isWrapper; first | (rw [if_pos (by decide +kernel)]; kernel_rfl) | (rw [if_neg (by decide +kernel)]; exact ⟨rfl, rfl⟩))
    (fun os started H enc _ => lifted os started H enc)
theorem proved : Rows.PassTellsSaid := over
#print axioms proved
end Go.Proofs.Ytgdagfiebaebbaa.passTells
