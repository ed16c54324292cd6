/- BucketChecks: Check, CheckTrace, Within and Sum return what the chapter specifies: the law returns true for every input, and its arguments read as before. -/
import Derived.Test.YtfbfnoiapeajeaaFrame
import Derived.Test.YtfbfnoiapeajeaaBOpen
import Derived.Test.YtfbfnoiapeajeaaBk23
namespace Go.Proofs.Ytfbfnoiapeajeaa.bucketChecks
open Go.ChangeShapes Go.WideShapes Go.ChangeAt Go.RowKit Go.Joins

theorem readable : ∀ t ∈ Try.f3.params.toList, Try.prog.readableRec t = true ∧ t < Try.prog.types.size := by
  rw [Try.params3]
  intro t ht
  simp only [List.mem_cons, List.not_mem_nil, or_false] at ht
  rcases ht with rfl | rfl | rfl | rfl | rfl
  all_goals exact ⟨by kernel_rfl, of_decide_eq_true (by kernel_rfl)⟩
theorem split2 {cs : Array Value} (h : cs.size = 2) : ∃ c0 c1, cs = #[c0, c1] := by
  obtain ⟨l⟩ := cs
  match l, h with
  | [c0, c1], _ => exact ⟨c0, c1, rfl⟩
set_option maxRecDepth 100000 in
set_option maxHeartbeats 1000000 in
theorem lifted (os : Os) (started : os.Started) (H : Type) (enc : TypeId × Value → H) :
    ReturnsInHanded {} Try.checked os 3 .any (Rows.bucketChecksSpec.pre6 enc Try.prog Try.f3 Rows.bucketChecksRow.domain false) (Rows.bucketChecksSpec.post enc Try.prog Try.f3 false true false false) := by
  refine returnsInHanded_of_change (C := Try.checked) own started (by kernel_rfl) Try.func3
    (ChangeSpec.witness6 (enc := enc) (C := Try.checked) false ⟨#[], #[.agg #[.int .i64 0, .int .i64 0], .agg #[.int .u32 0, .int .u32 0, .slice none 0 0, .slice none 0 0], .slice none 0 0, .agg #[.int .i64 0, .int .i64 0], .int .i64 0], []⟩ 8 (by kernel_rfl) (by kernel_rfl) (by kernel_rfl) (by kernel_rfl)) ?_
  intro W base args ds gs before hval0 hW hcnd _
  have hval : ∀ (j : Nat) t v, Try.f3.params[j]? = some t → args[j]? = some v → Value.okWide Try.prog W .any base t v := hval0
  have hW' := hW
  obtain ⟨p, q, hA0, hV, rfl, hfz, hnd⟩ := hW
  have hA : DataW.TrodAll enc Try.prog W 0 (fun _ => true) true Try.f3.params.toList args.toList ds p := hA0
  rw [Try.params3] at hA hval
  obtain ⟨v0, vs0, d0, ds0, p0, q0, hargs, rfl, rfl, h0, r0⟩ := trodAll_cons hA
  obtain ⟨v1, vs1, d1, ds1, p1, q1, rfl, rfl, rfl, h1, r1⟩ := trodAll_cons r0
  obtain ⟨v2, vs2, d2, ds2, p2, q2, rfl, rfl, rfl, h2, r2⟩ := trodAll_cons r1
  obtain ⟨v3, vs3, d3, ds3, p3, q3, rfl, rfl, rfl, h3, r3⟩ := trodAll_cons r2
  obtain ⟨v4, vs4, d4, ds4, p4, q4, rfl, rfl, rfl, h4, r4⟩ := trodAll_cons r3
  obtain ⟨rfl, rfl, rfl⟩ := trodAll_nil r4
  obtain rfl : args = #[v0, v1, v2, v3, v4] := by cases args; simp_all
  obtain ⟨rfl, rfl⟩ := trodVars_none hV
  obtain ⟨cs0, rfl, hs0, hr0⟩ := row_struct Try.underlying23 (hval 0 23 v0 rfl rfl)
  obtain ⟨c0_0, c0_1, rfl⟩ := split2 (hs0.trans (by kernel_rfl))
  obtain ⟨x0_0, rfl, b0_0⟩ := row_int (i := 0) (ts := [3, 3]) hr0 (by kernel_rfl) rfl Try.underlying3 rfl
  obtain ⟨x0_1, rfl, b0_1⟩ := row_int (i := 1) (ts := [3, 3]) hr0 (by kernel_rfl) rfl Try.underlying3 rfl
  obtain ⟨x1, y1, ga1, sa1, gn1, gc1, sn1, sc1, gaps1, sizes1, rfl, D1⟩ := open_draft (hval 1 27 v1 rfl rfl) h1
  obtain ⟨ao2, len2, cap2, rfl⟩ := okWide_slice Try.underlying28 (hval 2 28 v2 rfl rfl)
  have hsl2 := hval 2 28 _ rfl rfl
  obtain ⟨fuel2, hf2⟩ := h2
  obtain ⟨l2, hl2, hc2, _, hn2, hs2, T2⟩ := open_tr Try.underlying28 Try.underlying23 (by kernel_rfl) cells_bu Try.underlying3 Try.underlying3 hsl2 hf2
  obtain ⟨cs3, rfl, hs3, hr3⟩ := row_struct Try.underlying30 (hval 3 30 v3 rfl rfl)
  obtain ⟨c3_0, c3_1, rfl⟩ := split2 (hs3.trans (by kernel_rfl))
  obtain ⟨x3_0, rfl, b3_0⟩ := row_int (i := 0) (ts := [3, 3]) hr3 (by kernel_rfl) rfl Try.underlying3 rfl
  obtain ⟨x3_1, rfl, b3_1⟩ := row_int (i := 1) (ts := [3, 3]) hr3 (by kernel_rfl) rfl Try.underlying3 rfl
  obtain ⟨x4, rfl, b4⟩ := val_int Try.underlying3 (hval 4 3 v4 rfl rfl)
  refine (blaw3_walk x0_0 x0_1 x1 y1 ga1 sa1 gn1 gc1 sn1 sc1 gaps1 sizes1 ao2 len2 cap2 l2 x3_0 x3_1 x4 W (Lib.hid D1) hl2 hc2 hn2 hs2 (Lib.hid T2)).mono fun e W' ⟨he, hb⟩ => ?_
  subst he
  exact ⟨_, rfl, law_post rfl rfl hW' rfl rfl rfl readable hb⟩
theorem over : Rows.bucketChecksRow.holds Try.pinned (OpenSpec.ofChange Rows.bucketChecksSpec) :=
  OpenClaim.holds_of_wide 3 Try.f3 rfl rfl rfl rfl rfl rfl rfl ⟨rfl, rfl, rfl, rfl, rfl⟩ rfl rfl rfl rfl rfl (by kernel_rfl) Try.func3 (by kernel_rfl)
    (of_decide_eq_true (by kernel_rfl)) (by unfold Func.isWrapper; first | (rw [if_pos (by decide +kernel)]; kernel_rfl) | (rw [if_neg (by decide +kernel)]; exact ⟨rfl, rfl⟩))
    (fun os started H enc _ => lifted os started H enc)
theorem proved : Rows.BucketChecksSaid := over
#print axioms proved
end Go.Proofs.Ytfbfnoiapeajeaa.bucketChecks
