/- PassHolds: information that arrives over a link is wrong by at most Bound: the law returns true for every input, and its arguments read as before. -/
import Derived.Test.YtgdagfiebaebbaaFrame
import Derived.Test.YtgdagfiebaebbaaPLaw8
namespace Go.Proofs.Ytgdagfiebaebbaa.passHolds
open Go.ChangeShapes Go.WideShapes Go.ChangeAt Go.RowKit Go.Joins

theorem readable : ∀ t ∈ Try.f10.params.toList, Try.prog.readableRec t = true ∧ t < Try.prog.types.size := by
  rw [Try.params10]
  intro t ht
  simp only [List.mem_cons, List.not_mem_nil, or_false] at ht
  rcases ht with rfl | rfl | rfl
  all_goals exact ⟨by kernel_rfl, of_decide_eq_true (by kernel_rfl)⟩
theorem split4 {cs : Array Value} (h : cs.size = 4) : ∃ c0 c1 c2 c3, cs = #[c0, c1, c2, c3] := by
  obtain ⟨l⟩ := cs
  match l, h with
  | [c0, c1, c2, c3], _ => exact ⟨c0, c1, c2, c3, rfl⟩
theorem split5 {cs : Array Value} (h : cs.size = 5) : ∃ c0 c1 c2 c3 c4, cs = #[c0, c1, c2, c3, c4] := by
  obtain ⟨l⟩ := cs
  match l, h with
  | [c0, c1, c2, c3, c4], _ => exact ⟨c0, c1, c2, c3, c4, rfl⟩
set_option maxRecDepth 100000 in
set_option maxHeartbeats 1000000 in
theorem lifted (os : Os) (started : os.Started) (H : Type) (enc : TypeId × Value → H) :
    ReturnsInHanded {} Try.checked os 10 .any (Rows.passHoldsSpec.pre6 enc Try.prog Try.f10 Rows.passHoldsRow.domain false) (Rows.passHoldsSpec.post enc Try.prog Try.f10 false true false false) := by
  refine returnsInHanded_of_change (C := Try.checked) own started (by kernel_rfl) Try.func10
    (ChangeSpec.witness6 (enc := enc) (C := Try.checked) false ⟨#[], #[.agg #[.int .i64 0, .int .i32 0, .int .i64 0, .int .i32 0], .agg #[.int .u32 0, .int .u16 0, .int .i16 0, .int .i16 0, .int .i16 0], .int .i32 0], []⟩ 8 (by kernel_rfl) (by kernel_rfl) (by kernel_rfl) (by kernel_rfl)) ?_
  intro W base args ds gs before hval0 hW hcnd _
  have hval : ∀ (j : Nat) t v, Try.f10.params[j]? = some t → args[j]? = some v → Value.okWide Try.prog W .any base t v := hval0
  have hW' := hW
  obtain ⟨p, q, hA0, hV, rfl, hfz, hnd⟩ := hW
  have hA : DataW.TrodAll enc Try.prog W 0 (fun _ => true) true Try.f10.params.toList args.toList ds p := hA0
  rw [Try.params10] at hA hval
  obtain ⟨v0, vs0, d0, ds0, p0, q0, hargs, rfl, rfl, h0, r0⟩ := trodAll_cons hA
  obtain ⟨v1, vs1, d1, ds1, p1, q1, rfl, rfl, rfl, h1, r1⟩ := trodAll_cons r0
  obtain ⟨v2, vs2, d2, ds2, p2, q2, rfl, rfl, rfl, h2, r2⟩ := trodAll_cons r1
  obtain ⟨rfl, rfl, rfl⟩ := trodAll_nil r2
  obtain rfl : args = #[v0, v1, v2] := by cases args; simp_all
  obtain ⟨rfl, rfl⟩ := trodVars_none hV
  obtain ⟨cs0, rfl, hs0, hr0⟩ := row_array Try.underlying68 (hval 0 68 v0 rfl rfl)
  obtain ⟨c0_0, c0_1, c0_2, c0_3, rfl⟩ := split4 (hs0.trans (by kernel_rfl))
  obtain ⟨x0_0, rfl, b0_0⟩ := row_int (i := 0) (ts := [2, 21, 2, 21]) hr0 (by kernel_rfl) rfl Try.underlying2 rfl
  obtain ⟨x0_1, rfl, b0_1⟩ := row_int (i := 1) (ts := [2, 21, 2, 21]) hr0 (by kernel_rfl) rfl Try.underlying21 rfl
  obtain ⟨x0_2, rfl, b0_2⟩ := row_int (i := 2) (ts := [2, 21, 2, 21]) hr0 (by kernel_rfl) rfl Try.underlying2 rfl
  obtain ⟨x0_3, rfl, b0_3⟩ := row_int (i := 3) (ts := [2, 21, 2, 21]) hr0 (by kernel_rfl) rfl Try.underlying21 rfl
  obtain ⟨cs1, rfl, hs1, hr1⟩ := row_struct Try.underlying71 (hval 1 71 v1 rfl rfl)
  obtain ⟨c1_0, c1_1, c1_2, c1_3, c1_4, rfl⟩ := split5 (hs1.trans (by kernel_rfl))
  obtain ⟨x1_0, rfl, b1_0⟩ := row_int (i := 0) (ts := [63, 48, 69, 69, 69]) hr1 (by kernel_rfl) rfl Try.underlying63 rfl
  obtain ⟨x1_1, rfl, b1_1⟩ := row_int (i := 1) (ts := [63, 48, 69, 69, 69]) hr1 (by kernel_rfl) rfl Try.underlying48 rfl
  obtain ⟨x1_2, rfl, b1_2⟩ := row_int (i := 2) (ts := [63, 48, 69, 69, 69]) hr1 (by kernel_rfl) rfl Try.underlying69 rfl
  obtain ⟨x1_3, rfl, b1_3⟩ := row_int (i := 3) (ts := [63, 48, 69, 69, 69]) hr1 (by kernel_rfl) rfl Try.underlying69 rfl
  obtain ⟨x1_4, rfl, b1_4⟩ := row_int (i := 4) (ts := [63, 48, 69, 69, 69]) hr1 (by kernel_rfl) rfl Try.underlying69 rfl
  obtain ⟨x2, rfl, b2⟩ := val_int Try.underlying21 (hval 2 21 v2 rfl rfl)
  refine (plaw8_walk x0_0 x0_1 x0_2 x0_3 x1_0 x1_1 x1_2 x1_3 x1_4 x2 (has_u32 b1_0) (has_u16 b1_1) (has_i16 b1_2) (has_i16 b1_3) (has_i16 b1_4) W).mono fun e W' ⟨he, hb⟩ => ?_
  subst he
  exact ⟨_, rfl, law_post rfl rfl hW' rfl rfl rfl readable hb⟩
theorem over : Rows.passHoldsRow.holds Try.pinned (OpenSpec.ofChange Rows.passHoldsSpec) :=
  OpenClaim.holds_of_wide 10 Try.f10 rfl rfl rfl rfl rfl rfl rfl ⟨rfl, rfl, rfl, rfl, rfl⟩ rfl rfl rfl rfl rfl (by kernel_rfl) Try.func10 (by kernel_rfl)
    (of_decide_eq_true (by kernel_rfl)) (by unfold Func.isWrapper; first | (rw [if_pos (by decide +kernel)]; kernel_rfl) | (rw [if_neg (by decide +kernel)]; exact ⟨rfl, rfl⟩))
    (fun os started H enc _ => lifted os started H enc)
theorem proved : Rows.PassHoldsSaid := over
#print axioms proved
end Go.Proofs.Ytgdagfiebaebbaa.passHolds
