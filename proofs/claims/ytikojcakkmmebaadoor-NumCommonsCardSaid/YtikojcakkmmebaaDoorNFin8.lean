/- NumCommons: Gcd and Lcm return what the chapter specifies: the law returns true for every input, and its arguments read as before. -/
import Derived.Test.YtikojcakkmmebaaDoorFrameT
import Derived.Test.YtikojcakkmmebaaDoorNLaw9
import Derived.ChangeSlices
namespace Go.Proofs.YtikojcakkmmebaaDoor.numCommons
open Go.ChangeShapes Go.WideShapes Go.ChangeAt Go.RowKit Go.Joins

theorem readable : ∀ t ∈ Tryd.f5.params.toList, Tryd.prog.readableRec t = true ∧ t < Tryd.prog.types.size := by
  rw [Tryd.params5]
  intro t ht
  simp only [List.mem_cons, List.not_mem_nil, or_false] at ht
  rcases ht with rfl | rfl | rfl
  all_goals exact ⟨by kernel_rfl, of_decide_eq_true (by kernel_rfl)⟩
theorem split2 {cs : Array Value} (h : cs.size = 2) : ∃ c0 c1, cs = #[c0, c1] := by
  obtain ⟨l⟩ := cs
  match l, h with
  | [c0, c1], _ => exact ⟨c0, c1, rfl⟩
theorem slice_spot {P : Program} {w : World} {r : Reach} {base : Nat} {t e : TypeId} {a : Addr} {len cap : Nat} (ht : P.underlying t = some (.slice e)) (h : Value.okWide P w r base t (.slice (some a) len cap)) : a.spot = none := by
  simp only [Value.okWide, ht, Cell.okWide, Cell.ok, World.has] at h
  exact h.2.2.2.1
theorem cells_ints : Tryd.prog.cellsOf 3 = 1 := by kernel_rfl
theorem ints_at {W : World} {b o n : Nat} {zs : List Int} (h : ∀ i, i < zs.length → W.cell? ((⟨b, o, none⟩ : Addr).add i) = some (.int .i64 (zs.getD i 0))) : IntsAt W b o (zs.take n) := fun k hk => by
  have hk2 : k < n ∧ k < zs.length := by simp at hk; omega
  have e := h k hk2.2
  have e2 : ((⟨b, o, none⟩ : Addr).add k) = ⟨b, o + k, none⟩ := by
    by_cases h0 : k = 0
    · subst h0; simp [Addr.add]
    · simp [Addr.add, h0]
  rw [e2] at e
  rw [e, List.getElem?_take_of_lt hk2.1, List.getD_eq_getElem?_getD]
set_option maxRecDepth 100000 in
set_option maxHeartbeats 1000000 in
theorem lifted (os : Os) (started : os.Started) (H : Type) (enc : TypeId × Value → H) :
    ReturnsInHanded {} Tryd.checked os 5 .any (fun w args => (Rows.numCommonsSpec.pre enc Tryd.prog Tryd.f5 [] false w args ∧ laidMetH Tryd.prog laidL w) ∧ sizedMet enc Tryd.prog Tryd.f5 (OpenSpec.ofChange Rows.numCommonsSpec) false w args) (Rows.numCommonsSpec.post enc Tryd.prog Tryd.f5 false true false false) := by
  refine returnsInHanded_of_change_and (C := Tryd.checked) (X := fun w _ => laidMetH Tryd.prog laidL w) (fun _ _ _ hh h => h.of_heap hh) own started (by kernel_rfl) Tryd.func5
    (ChangeSpec.witness_shaped (enc := enc) (C := Tryd.checked) (os := os) (X := fun w _ => laidMetH Tryd.prog laidL w) false (World.doorLaid Tryd.prog 400 os) #[.agg #[.int .i64 0, .int .i64 0], .agg #[.int .u8 0, .int .u8 0], .slice none 0 0] 8 rfl (World.shaped_of_RefB (by kernel_rfl) (by kernel_rfl)) (by kernel_rfl) (by kernel_rfl) (by kernel_rfl) (door_met os _)) ?_
  intro W base args ds gs before hval0 hW _ _ hL _
  have hTab := tab_of_laid hL
  have hval : ∀ (j : Nat) t v, Tryd.f5.params[j]? = some t → args[j]? = some v → Value.okWide Tryd.prog W .any base t v := hval0
  have hW' := hW
  obtain ⟨p, q, hA0, hV, rfl, hfz, hnd⟩ := hW
  have hA : DataW.TrodAll enc Tryd.prog W 0 (fun _ => true) true Tryd.f5.params.toList args.toList ds p := hA0
  rw [Tryd.params5] at hA hval
  obtain ⟨v0, vs0, d0, ds0, p0, q0, hargs, rfl, rfl, h0, r0⟩ := trodAll_cons hA
  obtain ⟨v1, vs1, d1, ds1, p1, q1, rfl, rfl, rfl, h1, r1⟩ := trodAll_cons r0
  obtain ⟨v2, vs2, d2, ds2, p2, q2, rfl, rfl, rfl, h2, r2⟩ := trodAll_cons r1
  obtain ⟨rfl, rfl, rfl⟩ := trodAll_nil r2
  obtain rfl : args = #[v0, v1, v2] := by cases args; simp_all
  obtain ⟨rfl, rfl⟩ := trodVars_none hV
  obtain ⟨cs0, rfl, hs0, hr0⟩ := row_array Tryd.underlying22 (hval 0 22 v0 rfl rfl)
  obtain ⟨c0_0, c0_1, rfl⟩ := split2 (hs0.trans (by kernel_rfl))
  obtain ⟨x0_0, rfl, b0_0⟩ := row_int (i := 0) (ts := [3, 3]) hr0 (by kernel_rfl) rfl Tryd.underlying3 rfl
  obtain ⟨x0_1, rfl, b0_1⟩ := row_int (i := 1) (ts := [3, 3]) hr0 (by kernel_rfl) rfl Tryd.underlying3 rfl
  obtain ⟨cs1, rfl, hs1, hr1⟩ := row_array Tryd.underlying23 (hval 1 23 v1 rfl rfl)
  obtain ⟨c1_0, c1_1, rfl⟩ := split2 (hs1.trans (by kernel_rfl))
  obtain ⟨x1_0, rfl, b1_0⟩ := row_int (i := 0) (ts := [5, 5]) hr1 (by kernel_rfl) rfl Tryd.underlying5 rfl
  obtain ⟨x1_1, rfl, b1_1⟩ := row_int (i := 1) (ts := [5, 5]) hr1 (by kernel_rfl) rfl Tryd.underlying5 rfl
  obtain ⟨ao2, len2, cap2, rfl⟩ := okWide_slice Tryd.underlying36 (hval 2 36 v2 rfl rfl)
  have hsl2 := hval 2 36 _ rfl rfl
  obtain ⟨fuel2, hf2⟩ := h2
  rcases open_ints Tryd.underlying36 Tryd.underlying3 cells_ints hf2 with ⟨hcs, _⟩ | ⟨a, len', cap', zs, hcs, _, hl, _, hz, _, hcell, _⟩
  · obtain ⟨rfl, rfl, rfl⟩ : ao2 = none ∧ len2 = 0 ∧ cap2 = 0 := by simpa [Value.cells] using hcs
    refine (nlaw8_nil x0_0 x0_1 x1_0 x1_1 (has_u8 b1_0) (has_u8 b1_1) W hTab).mono fun e W' ⟨he, hb⟩ => ?_
    subst he
    exact ⟨_, rfl, law_post rfl rfl hW' rfl rfl rfl readable hb⟩
  · obtain ⟨rfl, rfl, rfl⟩ : ao2 = some a ∧ len2 = len' ∧ cap2 = cap' := by simpa [Value.cells] using hcs
    have hsp := slice_spot Tryd.underlying36 hsl2
    obtain ⟨bb, oo, sp⟩ := a
    simp only at hsp
    subst hsp
    simp only [if_true] at hz
    refine (nlaw8_walk x0_0 x0_1 x1_0 x1_1 (has_u8 b1_0) (has_u8 b1_1) bb oo len2 cap2 (min len2 12) (zs.take (min len2 12)) W hTab hl (by omega) (by rw [List.length_take]; omega) (Lib.hid (ints_at hcell))).mono fun e W' ⟨he, hb⟩ => ?_
    subst he
    exact ⟨_, rfl, law_post rfl rfl hW' rfl rfl rfl readable hb⟩
theorem over : Rows.numCommonsRow.holds Tryd.pinned (OpenSpec.ofChange Rows.numCommonsSpec) :=
  OpenClaim.holds_of_wide 5 Tryd.f5 rfl rfl rfl rfl rfl rfl rfl ⟨rfl, rfl, rfl, rfl, rfl⟩ rfl rfl rfl rfl rfl (by kernel_rfl) Tryd.func5 (by kernel_rfl)
    (of_decide_eq_true (by kernel_rfl)) (by unfold Func.isWrapper; first | (rw [if_pos (by decide +kernel)]; kernel_rfl) | (rw [if_neg (by decide +kernel)]; exact ⟨rfl, rfl⟩))
    (fun os started H enc _ => lifted os started H enc)
theorem proved : Rows.NumCommonsCardSaid :=
  Claim7.holds_tied_plain_at .later [] [.data] true Rows.numCommonsCard.stood.harness false
    over (fun _ h => by cases h) (by kernel_rfl) (fun _ h => by cases h) numCommons_row_tie rfl ⟨rfl, rfl⟩ (by kernel_rfl) rfl
    (fun f fn hf hfn => by
      obtain rfl : f = 5 := Option.some.inj ((show Tryd.prog.funcNamed "isochron/isochronlaw01.NumCommons" = some 5 by kernel_rfl).symm.trans hf) |>.symm
      obtain rfl : fn = Tryd.f5 := (Option.some.inj (Tryd.func5.symm.trans hfn)).symm
      exact ⟨by kernel_rfl, fun j t ht => by
        rw [Tryd.params5] at ht
        have hm : t ∈ [22, 23, 36] := by simpa using Array.mem_of_getElem? ht
        have hall : ([22, 23, 36].all fun u => !Tryd.prog.wantsStandIn u) = true := by kernel_rfl
        exact (show Tryd.prog.wantsStandIn t = false by simpa using List.all_eq_true.1 hall t hm)⟩)
    (by kernel_rfl)
#print axioms proved
end Go.Proofs.YtikojcakkmmebaaDoor.numCommons
