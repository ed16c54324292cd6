/- The package ptp: Check: what it computes. -/
import Derived.Test.YtgdagfiebaebbaaMsgEq
namespace Go.Proofs.Ytgdagfiebaebbaa
open Go.RowKit

/-- The fields of a kind, if it is one. -/
def optF (κ : Int) : Option (List Fd) := if κ = 0 then some [] else if κ = 2 then some [] else if κ = 8 then some followF else if κ = 3 then some respF else if κ = 10 then some respF else if κ = 11 then some annF else none
def allF (l : List Fd) : List Fd := headA ++ (headB ++ l)
def zeroed (v : Nat → Int) (l : List Fd) : Nat → Int := fun j => if l.any (fun f => f.k == j) then 0 else v j
theorem zero_take {v : Nat → Int} {l : List Fd} {k : Nat} (h : k < l.length) : zeroed v (l.take (k + 1)) = fun j => if j = (l[k]).k then 0 else zeroed v (l.take k) j := by
  have e : l.take (k + 1) = l.take k ++ [l[k]] := List.take_succ_eq_append_getElem h
  funext j
  unfold zeroed
  rw [e, List.any_append]
  by_cases h1 : j = (l[k]).k
  · simp [h1]
  · have h2 : ¬ (l[k]).k = j := fun q => h1 q.symm
    simp [h1, h2]
def chkM (v : Nat → Int) : Int := match optF (v 0) with
  | none => 200
  | some l => if allOk v (allF l) && allEq (zeroed v (allF l)) (fun _ => 0) then 0 else 200
theorem msg_at (w : World) (T : TypeId) (v : Nat → Int) : MsgAt (w.alloc (.cells #[.int .i64 (v 0), .int .i64 (v 1), .int .i64 (v 2), .int .i64 (v 3), .int .i64 (v 4), .int .i64 (v 5), .int .i64 (v 6), .int .i64 (v 7), .int .i64 (v 8), .int .i64 (v 9), .int .i64 (v 10), .int .i64 (v 11), .int .i64 (v 12), .int .i64 (v 13), .int .i64 (v 14), .int .i64 (v 15), .int .i64 (v 16)] T)) w.heap.size v := fun j hj => by
  match j, hj with
  | 0, _ => exact ⟨by go_simp <;> rfl, by go_simp⟩
  | 1, _ => exact ⟨by go_simp <;> rfl, by go_simp⟩
  | 2, _ => exact ⟨by go_simp <;> rfl, by go_simp⟩
  | 3, _ => exact ⟨by go_simp <;> rfl, by go_simp⟩
  | 4, _ => exact ⟨by go_simp <;> rfl, by go_simp⟩
  | 5, _ => exact ⟨by go_simp <;> rfl, by go_simp⟩
  | 6, _ => exact ⟨by go_simp <;> rfl, by go_simp⟩
  | 7, _ => exact ⟨by go_simp <;> rfl, by go_simp⟩
  | 8, _ => exact ⟨by go_simp <;> rfl, by go_simp⟩
  | 9, _ => exact ⟨by go_simp <;> rfl, by go_simp⟩
  | 10, _ => exact ⟨by go_simp <;> rfl, by go_simp⟩
  | 11, _ => exact ⟨by go_simp <;> rfl, by go_simp⟩
  | 12, _ => exact ⟨by go_simp <;> rfl, by go_simp⟩
  | 13, _ => exact ⟨by go_simp <;> rfl, by go_simp⟩
  | 14, _ => exact ⟨by go_simp <;> rfl, by go_simp⟩
  | 15, _ => exact ⟨by go_simp <;> rfl, by go_simp⟩
  | 16, _ => exact ⟨by go_simp <;> rfl, by go_simp⟩
  | (n + 17), h => exact absurd h (by omega)
set_option maxRecDepth 100000 in
set_option maxHeartbeats 2000000 in
theorem chk_none (v : Nat → Int) (w : World) (h : optF (v 0) = none) : Calls Try.prog 46 #[.agg #[.int .i64 (v 0), .int .i64 (v 1), .int .i64 (v 2), .int .i64 (v 3), .int .i64 (v 4), .int .i64 (v 5), .int .i64 (v 6), .int .i64 (v 7), .int .i64 (v 8), .int .i64 (v 9), .int .i64 (v 10), .int .i64 (v 11), .int .i64 (v 12), .int .i64 (v 13), .int .i64 (v 14), .int .i64 (v 15), .int .i64 (v 16)]] w fun e w' => e = .returned (.int .i64 200) ∧ Below w.heap.size w w' := by
  obtain ⟨Z, hZ⟩ : ∃ Z, ∀ w, (zeroValue 115).run Try.prog w = .ok Z w := ⟨_, fun w => rfl⟩
  have HLK : Hid (∀ wx r, wx.heap[r]? = some (.map kindsE 6) → (Instr.lookup 117 (.map (some r)) (.int .i64 (v 0)) true).run Try.prog wx = .ok (.tuple #[Z, .bool false]) wx) := Lib.hid fun wx r hr => by
    refine run_lookn _ _ _ r 6 kindsE (v 0) Z Try.underlying117 Try.underlying3 hr (hZ wx) ?_
    rw [find_kind]
    unfold optF at h
    repeat' split at h
    all_goals first | (cases h; done) | simp_all
  clear h hZ
  go_enter Try.func46, Try.ntmps46
  have hm0 := (msg_at w 46 v)
  have hm0 := Lib.hid hm0
  go_wp2_with fail
  refine wp_gen ?_
  rintro w1 hg1
  have hm1 : Hid (MsgAt w1 w.heap.size v) := Lib.hid (by rw [hg1]; exact hm0.out.below ((Below.refl _ _).alloc (Nat.le_refl _) _))
  have hz1_0 : w.heap.size < w1.heap.size := by rw [hg1]; simp <;> omega
  have s1_0_0 : w1.cell? ⟨w.heap.size, 0, none⟩ = some (.int .i64 (v 0)) := by rw [hg1]; go_simp
  have hz1_1 : w.heap.size + 1 < w1.heap.size := by rw [hg1]; simp <;> omega
  have s1_1_0 : w1.cell? ⟨w.heap.size + 1, 0, none⟩ = some (.pointer (some ⟨w.heap.size, 0, none⟩)) := by rw [hg1]; go_simp
  have H1 : Below w.heap.size w w1 := by rw [hg1]; exact (((Below.refl _ _).alloc (Nat.le_refl _) _).alloc (by simp <;> omega) _)
  clear hg1 hm0
  refine wp_region_gput (R := Nat) [11, 12, 13, 14, 10, 15, 16, 4, 5]
    (fun rr => [.map (some rr), .pointer (some ⟨w.heap.size, 0, none⟩), .int .i64 (v 0), .tuple #[Z, .bool false], .tuple #[Z, .bool false], Z, .bool false, Z, .bool false])
    (fun L rr wx => Below w1.heap.size w1 wx ∧ (L 0 = true → wx.heap[rr]? = some (.map kindsE 6)))
    (by kernel_rfl) (by kernel_rfl) (by kernel_rfl) (0) ?_ ?_ ?_
  · exact ⟨(Below.refl _ _).drew, fun h => absurd h (by decide)⟩
  · simp only [putAll, Act.put, List.setIfInBounds_toArray, List.set_cons_succ, List.set_cons_zero]
    refine ⟨?_, ?_, ?_, ?_, ?_, ?_, ?_, ?_, ?_, trivial⟩
    all_goals
      rintro L r wx K hLi hdep ⟨hB, h0⟩ hK
      try dsimp only at h0
      have hBs := hB.size
      have f0 := (hB.cell (p := ⟨w.heap.size, 0, none⟩) hz1_0).trans s1_0_0
      have f1 := (hB.cell (p := ⟨w.heap.size + 1, 0, none⟩) hz1_1).trans s1_1_0
    · refine .inl ⟨by rfl, ?_⟩
      go_simp
      refine (kinds_any wx).mono ?_
      rintro e w' ⟨r9, rfl, h9, hb⟩
      exact hK (r9) w' ⟨(hB.trans (hb.mono hBs)), fun _ => h9⟩
    · refine .inl ⟨by rfl, ?_⟩
      go_simp
      exact hK (r) wx ⟨hB, by simpa using h0⟩
    · refine .inl ⟨by rfl, ?_⟩
      go_simp
      exact hK (r) wx ⟨hB, by simpa using h0⟩
    · have p0 := h0 (hdep ⟨0, .data⟩ (by simp) rfl)
      refine .inl ⟨by rfl, ?_⟩
      have hlk := HLK.out wx r p0
      go_simp
      exact hK (r) wx ⟨hB, by simpa using h0⟩
    · refine .inl ⟨by rfl, ?_⟩
      go_simp
      exact hK (r) wx ⟨hB, by simpa using h0⟩
    · refine .inl ⟨by rfl, ?_⟩
      go_simp
      exact hK (r) wx ⟨hB, by simpa using h0⟩
    · refine .inl ⟨by rfl, ?_⟩
      go_simp
      exact hK (r) wx ⟨hB, by simpa using h0⟩
    · refine .inl ⟨by rfl, ?_⟩
      go_simp
      exact hK (r) wx ⟨hB, by simpa using h0⟩
    · refine .inl ⟨by rfl, ?_⟩
      go_simp
      exact hK (r) wx ⟨hB, by simpa using h0⟩
  rintro r w2 ⟨hb2, q0⟩
  have hbM := hb2
  replace q0 := q0 rfl
  try dsimp only at q0
  simp only [putAll, Act.put, List.setIfInBounds_toArray, List.set_cons_succ, List.set_cons_zero]
  have hz2_0 := Nat.lt_of_lt_of_le hz1_0 hb2.size
  have s2_0_0 := (hb2.cell (p := ⟨w.heap.size, 0, none⟩) hz1_0).trans s1_0_0
  have hz2_1 := Nat.lt_of_lt_of_le hz1_1 hb2.size
  have s2_1_0 := (hb2.cell (p := ⟨w.heap.size + 1, 0, none⟩) hz1_1).trans s1_1_0
  have H2 := H1.trans (hb2.mono H1.size)
  clear hz1_0 s1_0_0 hz1_1 s1_1_0 hb2 H1
  clear q0
  go_wp2
  go_ret
  exact ⟨rfl, H2⟩
set_option maxRecDepth 100000 in
set_option maxHeartbeats 4000000 in
theorem chk_some (v : Nat → Int) (l : List Fd) (g : Nat) (w : World) (hlen : l.length ≤ 20) (hk : ∀ f ∈ l, f.k < 17)
    (eg : ∀ args w, (callFunc g args).run Try.prog w = .ok (.enter g args) w)
    (hf : ∀ B w, Calls Try.prog g #[.agg #[.pointer (some ⟨B, 0, none⟩)]] w (RetFs w B l))
    (hlk : ∃ i, Instr.findNow (.int .i64) (.int .i64 (v 0)) kindsE.toList 0 = some (some (i, .func (.func g) #[] #[]))) :
    Calls Try.prog 46 #[.agg #[.int .i64 (v 0), .int .i64 (v 1), .int .i64 (v 2), .int .i64 (v 3), .int .i64 (v 4), .int .i64 (v 5), .int .i64 (v 6), .int .i64 (v 7), .int .i64 (v 8), .int .i64 (v 9), .int .i64 (v 10), .int .i64 (v 11), .int .i64 (v 12), .int .i64 (v 13), .int .i64 (v 14), .int .i64 (v 15), .int .i64 (v 16)]] w fun e w' => e = .returned (.int .i64 (if allOk v (allF l) && allEq (zeroed v (allF l)) (fun _ => 0) then 0 else 200)) ∧ Below w.heap.size w w' := by
  obtain ⟨i, hlk⟩ := hlk
  have HLK : Hid (∀ wx r, wx.heap[r]? = some (.map kindsE 6) → (Instr.lookup 117 (.map (some r)) (.int .i64 (v 0)) true).run Try.prog wx = .ok (.tuple #[.func (.func g) #[] #[], .bool true]) wx) := Lib.hid fun wx r hr =>
    run_look _ _ _ r 6 kindsE (v 0) i _ Try.underlying117 Try.underlying3 hr hlk
  have HL : Hid (0 < (allF l).length ∧ (allF l).length ≤ 100 ∧ (∀ f ∈ allF l, f.k < 17)) := Lib.hid ⟨by simp [allF, headA], by simp [allF, headA, headB]; omega, fun f hf => by
    unfold allF at hf
    simp only [List.mem_append] at hf
    rcases hf with hf | hf | hf
    · simp only [headA, List.mem_cons, List.mem_nil_iff, or_false] at hf
      rcases hf with rfl | rfl <;> decide
    · simp only [headB, List.mem_cons, List.mem_nil_iff, or_false] at hf
      rcases hf with rfl | rfl | rfl | rfl <;> decide
    · exact hk f hf⟩
  have HFL : [headA, headB, l].flatten = allF l := by simp [allF]
  have HR := Lib.hid fun s W (hS : SsA W w.heap.size (some ⟨s, 0, none⟩) [headA, headB, l]) (hm : MsgAt W w.heap.size v) => right_any w.heap.size v (some ⟨s, 0, none⟩) 3 3 [headA, headB, l] W rfl (by omega) (by rw [HFL]; exact HL.out.1) (by rw [HFL]; exact HL.out.2.1) (by rw [HFL]; exact HL.out.2.2) (Lib.hid hS) hm
  have HZ := Lib.hid fun s W (hS : SsA W w.heap.size (some ⟨s, 0, none⟩) [headA, headB, l]) (hm : MsgAt W w.heap.size v) => visit_any 58 #[] w.heap.size w.heap.size (some ⟨s, 0, none⟩) 3 3 [headA, headB, l] W (fun k W => MsgAt W w.heap.size (zeroed v ([headA, headB, l].flatten.take k))) (fun _ _ => by kernel_rfl) rfl (by omega) (by rw [HFL]; exact HL.out.1) (by rw [HFL]; exact HL.out.2.1) (Lib.hid hS) (cell_lt (hm 0 (by omega)).1) hm
    (fun k W W' h _ hb => h.below hb)
    (fun k W hk2 h _ => by
      have hkk := HL.out.2.2 _ (by rw [← HFL]; exact List.getElem_mem hk2)
      rw [zero_take hk2]
      exact check1_any w.heap.size ([headA, headB, l].flatten[k]).k ([headA, headB, l].flatten[k]).s ([headA, headB, l].flatten[k]).lo ([headA, headB, l].flatten[k]).hi _ W h hkk)
  rw [show [headA, headB, l].flatten.take [headA, headB, l].flatten.length = [headA, headB, l].flatten from List.take_length] at HZ
  rw [HFL] at HR HZ
  have heq := fun W => msg_eq (zeroed v (allF l)) (fun _ => 0) W
  try dsimp only at heq
  generalize zeroed v (allF l) = z at *
  generalize allOk v (allF l) = ro at *
  generalize allEq z (fun _ => 0) = re at *
  have HF := Lib.hid (hf w.heap.size)
  clear HL HFL hf hlk hk
  go_enter Try.func46, Try.ntmps46
  have hm0 := (msg_at w 46 v)
  have hm0 := Lib.hid hm0
  go_wp2_with fail
  refine wp_gen ?_
  rintro w1 hg1
  have hm1 : Hid (MsgAt w1 w.heap.size v) := Lib.hid (by rw [hg1]; exact hm0.out.below ((Below.refl _ _).alloc (Nat.le_refl _) _))
  have hz1_0 : w.heap.size < w1.heap.size := by rw [hg1]; simp <;> omega
  have s1_0_0 : w1.cell? ⟨w.heap.size, 0, none⟩ = some (.int .i64 (v 0)) := by rw [hg1]; go_simp
  have hz1_1 : w.heap.size + 1 < w1.heap.size := by rw [hg1]; simp <;> omega
  have s1_1_0 : w1.cell? ⟨w.heap.size + 1, 0, none⟩ = some (.pointer (some ⟨w.heap.size, 0, none⟩)) := by rw [hg1]; go_simp
  have H1 : Below w.heap.size w w1 := by rw [hg1]; exact (((Below.refl _ _).alloc (Nat.le_refl _) _).alloc (by simp <;> omega) _)
  clear hg1 hm0
  refine wp_region_gput (R := Nat) [11, 12, 13, 14, 10, 15, 16, 4, 5]
    (fun rr => [.map (some rr), .pointer (some ⟨w.heap.size, 0, none⟩), .int .i64 (v 0), .tuple #[.func (.func g) #[] #[], .bool true], .tuple #[.func (.func g) #[] #[], .bool true], .func (.func g) #[] #[], .bool true, .func (.func g) #[] #[], .bool true])
    (fun L rr wx => Below w1.heap.size w1 wx ∧ (L 0 = true → wx.heap[rr]? = some (.map kindsE 6)))
    (by kernel_rfl) (by kernel_rfl) (by kernel_rfl) (0) ?_ ?_ ?_
  · exact ⟨(Below.refl _ _).drew, fun h => absurd h (by decide)⟩
  · simp only [putAll, Act.put, List.setIfInBounds_toArray, List.set_cons_succ, List.set_cons_zero]
    refine ⟨?_, ?_, ?_, ?_, ?_, ?_, ?_, ?_, ?_, trivial⟩
    all_goals
      rintro L r wx K hLi hdep ⟨hB, h0⟩ hK
      try dsimp only at h0
      have hBs := hB.size
      have f0 := (hB.cell (p := ⟨w.heap.size, 0, none⟩) hz1_0).trans s1_0_0
      have f1 := (hB.cell (p := ⟨w.heap.size + 1, 0, none⟩) hz1_1).trans s1_1_0
    · refine .inl ⟨by rfl, ?_⟩
      go_simp
      refine (kinds_any wx).mono ?_
      rintro e w' ⟨r9, rfl, h9, hb⟩
      exact hK (r9) w' ⟨(hB.trans (hb.mono hBs)), fun _ => h9⟩
    · refine .inl ⟨by rfl, ?_⟩
      go_simp
      exact hK (r) wx ⟨hB, by simpa using h0⟩
    · refine .inl ⟨by rfl, ?_⟩
      go_simp
      exact hK (r) wx ⟨hB, by simpa using h0⟩
    · have p0 := h0 (hdep ⟨0, .data⟩ (by simp) rfl)
      refine .inl ⟨by rfl, ?_⟩
      have hlk := HLK.out wx r p0
      go_simp
      exact hK (r) wx ⟨hB, by simpa using h0⟩
    · refine .inl ⟨by rfl, ?_⟩
      go_simp
      exact hK (r) wx ⟨hB, by simpa using h0⟩
    · refine .inl ⟨by rfl, ?_⟩
      go_simp
      exact hK (r) wx ⟨hB, by simpa using h0⟩
    · refine .inl ⟨by rfl, ?_⟩
      go_simp
      exact hK (r) wx ⟨hB, by simpa using h0⟩
    · refine .inl ⟨by rfl, ?_⟩
      go_simp
      exact hK (r) wx ⟨hB, by simpa using h0⟩
    · refine .inl ⟨by rfl, ?_⟩
      go_simp
      exact hK (r) wx ⟨hB, by simpa using h0⟩
  rintro r w2 ⟨hb2, q0⟩
  have hbM := hb2
  replace q0 := q0 rfl
  try dsimp only at q0
  simp only [putAll, Act.put, List.setIfInBounds_toArray, List.set_cons_succ, List.set_cons_zero]
  have hz2_0 := Nat.lt_of_lt_of_le hz1_0 hb2.size
  have s2_0_0 := (hb2.cell (p := ⟨w.heap.size, 0, none⟩) hz1_0).trans s1_0_0
  have hz2_1 := Nat.lt_of_lt_of_le hz1_1 hb2.size
  have s2_1_0 := (hb2.cell (p := ⟨w.heap.size + 1, 0, none⟩) hz1_1).trans s1_1_0
  have H2 := H1.trans (hb2.mono H1.size)
  clear hz1_0 s1_0_0 hz1_1 s1_1_0 hb2 H1
  clear q0
  have hm2 := Lib.hid (hm1.out.below hbM)
  clear hm1 hbM
  go_wp2_with fail
  refine (common_any w.heap.size _).mono ?_
  rintro e w3 ⟨a1, a2, c2, rfl, f1, f2, n1, n2, hb3⟩
  have hbM := hb3
  have hz3_0 := Nat.lt_of_lt_of_le hz2_0 hb3.size
  have s3_0_0 := (hb3.cell (p := ⟨w.heap.size, 0, none⟩) hz2_0).trans s2_0_0
  have hz3_1 := Nat.lt_of_lt_of_le hz2_1 hb3.size
  have s3_1_0 := (hb3.cell (p := ⟨w.heap.size + 1, 0, none⟩) hz2_1).trans s2_1_0
  have H3 := H2.trans (hb3.mono H2.size)
  clear hz2_0 s2_0_0 hz2_1 s2_1_0 hb3 H2
  have hm3 := Lib.hid (hm2.out.below hbM)
  clear hm2 hbM
  go_wp2_with fail
  refine (HF.out _).mono ?_
  rintro e w4 ⟨v4, rfl, hO, hb4⟩
  have hbM := hb4
  have hz4_0 := Nat.lt_of_lt_of_le hz3_0 hb4.size
  have s4_0_0 := (hb4.cell (p := ⟨w.heap.size, 0, none⟩) hz3_0).trans s3_0_0
  have hz4_1 := Nat.lt_of_lt_of_le hz3_1 hb4.size
  have s4_1_0 := (hb4.cell (p := ⟨w.heap.size + 1, 0, none⟩) hz3_1).trans s3_1_0
  have H4 := H3.trans (hb4.mono H3.size)
  clear hz3_0 s3_0_0 hz3_1 s3_1_0 hb4 H3
  obtain ⟨a3, c3, rfl, h31, h32, _, _⟩ := hO.see
  have hm4 := Lib.hid (hm3.out.below hbM)
  have f1 := Lib.hid (f1.below hbM)
  have f2 := Lib.hid (f2.below hbM)
  have h32 := Lib.hid h32
  have n2 := Lib.hid n2
  have h31 := Lib.hid h31
  have n1 := Lib.hid n1
  clear hm3 hbM hO
  have hal := fun o => (Below.refl w4.heap.size w4).alloc (Nat.le_refl _) o
  go_wp2_with fail
  refine (HR.out _ _ (ss_three w4 w.heap.size _ a1 a2 a3 2 2 4 c2 l.length c3 headA headB l f1.out f2.out h32.out rfl rfl rfl (fun e => absurd e n1.out) n2.out h31.out) (hm4.out.below (hal _))).mono ?_
  rintro e w5 ⟨rfl, hb5⟩
  have hbM := (hal _).trans (hb5.mono (hal _).size)
  have f1 := Lib.hid (f1.out.below hbM)
  have f2 := Lib.hid (f2.out.below hbM)
  have h32 := Lib.hid (h32.out.below hbM)
  have hm5 := Lib.hid (hm4.out.below hbM)
  have H5 := H4.trans (hbM.mono H4.size)
  clear hb5 hbM hal hm4
  cases ro
  · go_wp2
    go_ret
    exact ⟨by simp, H5⟩
  · have hal := fun o => (Below.refl w5.heap.size w5).alloc (Nat.le_refl _) o
    go_wp2_with fail
    refine (HZ.out _ _ (ss_three w5 w.heap.size _ a1 a2 a3 2 2 4 c2 l.length c3 headA headB l f1.out f2.out h32.out rfl rfl rfl (fun e => absurd e n1.out) n2.out h31.out) (hm5.out.below (hal _))).mono ?_
    rintro e w6 ⟨rfl, hm6, hX⟩
    have H6 := H5.trans (((hal _).mono H5.size).trans ((hX.mono (Nat.le_trans H5.size (hal _).size)).below (Nat.le_refl _)))
    clear hal hX hm5
    have m0 := (hm6 0 (by omega)).1
    have m1 := (hm6 1 (by omega)).1
    have m2 := (hm6 2 (by omega)).1
    have m3 := (hm6 3 (by omega)).1
    have m4 := (hm6 4 (by omega)).1
    have m5 := (hm6 5 (by omega)).1
    have m6 := (hm6 6 (by omega)).1
    have m7 := (hm6 7 (by omega)).1
    have m8 := (hm6 8 (by omega)).1
    have m9 := (hm6 9 (by omega)).1
    have m10 := (hm6 10 (by omega)).1
    have m11 := (hm6 11 (by omega)).1
    have m12 := (hm6 12 (by omega)).1
    have m13 := (hm6 13 (by omega)).1
    have m14 := (hm6 14 (by omega)).1
    have m15 := (hm6 15 (by omega)).1
    have m16 := (hm6 16 (by omega)).1
    clear hm6
    cases re
    · go_wp2
      go_ret
      exact ⟨by simp, H6⟩
    · go_wp2
      go_ret
      exact ⟨by simp, H6⟩
end Go.Proofs.Ytgdagfiebaebbaa
