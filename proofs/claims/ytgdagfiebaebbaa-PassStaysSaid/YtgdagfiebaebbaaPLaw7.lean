/- PassStays: the walk of the law. -/
import Derived.Test.YtgdagfiebaebbaaWorks14
import Derived.Test.YtgdagfiebaebbaaSTime
namespace Go.Proofs.Ytgdagfiebaebbaa
open Go.RowKit

theorem tdiv4 (x : Int) (h1 : -4398046511104 ≤ x) (h2 : x ≤ 4398046511104) : -1099511627776 ≤ x.tdiv 4 ∧ x.tdiv 4 ≤ 1099511627776 := by
  rcases Int.le_total 0 x with h | h
  · rw [Int.tdiv_eq_ediv_of_nonneg h]; omega
  · have e : x.tdiv 4 = -((-x).tdiv 4) := by rw [Int.neg_tdiv, Int.neg_neg]
    rw [e, Int.tdiv_eq_ediv_of_nonneg (by omega)]; omega
theorem stay_bd {x p : Int} (hx : 0 ≤ x ∧ x ≤ 4294967295) (hp : -8388608 ≤ p ∧ p ≤ 8388608) : -36028798 ≤ x * p / 1000000000 ∧ x * p / 1000000000 ≤ 36028798 := by
  obtain ⟨h1, h2⟩ := mul_bdS (a := x) (b := p) (A := 4294967295) (B := 8388608) (by omega) hx.2 hp.1 hp.2
  omega
/-- The plain law: the servo that information sets shows, after a stay, the time of the information. -/
theorem stays_law {o c p l x : Int} (ho : -1099511627776 ≤ o ∧ o ≤ 1099511627776) (hc : -1099511627776 ≤ c ∧ c ≤ 1099511627776) (hp : -8388608 ≤ p ∧ p ≤ 8388608) (hl : -1099511627775 ≤ l ∧ l ≤ 1099511627775) (hx : 0 ≤ x ∧ x ≤ 4294967295) :
    setV o c p l = ⟨l, o + c, p, 0⟩ ∧ leaV o c p x = ⟨o, c + tickV x p, p, 0⟩ ∧ tmV l (o + c) p (l + x) = o + (c + tickV x p) ∧ tmE l (o + c) p (l + x) = 0 ∧ -2199023255552 ≤ c + tickV x p ∧ c + tickV x p ≤ 2199023255552 := by
  obtain ⟨b1, b2⟩ := stay_bd hx hp
  have ok1 : okI o c p = true := (okI_iff _ _ _).2 (by omega)
  have e1 : schV o c p l = ⟨l, o + c, p, 0⟩ := by
    unfold schV
    rw [ok1, show lmsOk [sL l] = true by (simp only [lmsOk, Lm.ok, Bool.and_eq_true, Bool.and_true, decide_eq_true_eq]; simp only [sL]; omega), if_neg (by decide), if_neg (by decide)]
  have okS1 : okS l (o + c) p = true := (okS_iff _ _ _).2 (by omega)
  refine ⟨?_, ?_, ?_, ?_, ?_, ?_⟩
  · unfold setV
    rw [e1]
    dsimp only
    rw [if_neg (fun h => h.2 (chkS_ok okS1))]
  · unfold leaV chV
    rw [ok1, show lmsOk [xL x] = true by (simp only [lmsOk, Lm.ok, Bool.and_eq_true, Bool.and_true, decide_eq_true_eq]; simp only [xL]; omega), if_neg (by decide), if_neg (by decide), if_pos ((okI_iff _ _ _).2 (by unfold tickV; omega))]
  · rw [(tm_ok okS1 ((stamp_iff _).2 (by omega))).1]
    unfold atS tickV
    rw [show l + x - l = x by omega]
    omega
  · exact (tm_ok okS1 ((stamp_iff _).2 (by omega))).2
  · unfold tickV; omega
  · unfold tickV; omega
set_option maxRecDepth 100000 in
set_option maxHeartbeats 8000000 in
theorem plaw7_walk (x y z local0 stay : Int) (hs : 0 ≤ stay ∧ stay ≤ 4294967295) (w : World) : Calls Try.prog 9 #[.agg #[.int .i64 x, .int .i64 y, .int .i32 z], .int .i64 local0, .int .u32 stay] w fun e w' => e = .returned (.bool true) ∧ Below w.heap.size w w' := by
  have KW := Lib.hid fun w => works_any w
  have KI := Lib.hid fun w => rinfo_any x y z w
  have b1 := tmodP_bd x 4398046511105 (by omega)
  have b2 := tmodP_bd y 4398046511105 (by omega)
  have b3 := tmodP_bd z 8388609 (by omega)
  have b4 := tmodP_bd local0 1099511627776 (by omega)
  generalize x.tmod 4398046511105 = o0 at *
  generalize y.tmod 4398046511105 = c0 at *
  generalize z.tmod 8388609 = p at *
  have d1 := tdiv4 o0 (by omega) (by omega)
  have d2 := tdiv4 c0 (by omega) (by omega)
  obtain ⟨o, ho⟩ : ∃ v, o0.tdiv 4 = v := ⟨_, rfl⟩
  obtain ⟨c, hc⟩ : ∃ v, c0.tdiv 4 = v := ⟨_, rfl⟩
  obtain ⟨l, hl⟩ : ∃ v, local0.tmod 1099511627776 = v := ⟨_, rfl⟩
  rw [ho] at d1
  rw [hc] at d2
  rw [hl] at b4
  have e1 : IntKind.i64.wrap o = o := IntWalk.i64_in _ (by omega)
  have e2 : IntKind.i64.wrap c = c := IntWalk.i64_in _ (by omega)
  have e3 : IntKind.i64.wrap l = l := IntWalk.i64_in _ (by omega)
  have e4 : IntKind.i64.wrap stay = stay := IntWalk.i64_in _ (by omega)
  have e5 : IntKind.i64.wrap (l + stay) = l + stay := IntWalk.i64_in _ (by omega)
  obtain ⟨s1, s2, s3, s4, s5, s6⟩ := stays_law (o := o) (c := c) (p := p) (l := l) (x := stay) d1 d2 (by omega) (by omega) hs
  have KS : Hid (∀ w, Calls Try.prog 19 #[.agg #[.int .i64 o, .int .i64 c, .int .i64 p], .int .i64 l] w fun e w' => e = .returned (.tuple #[.agg #[.int .i64 l, .int .i64 (o + c), .int .i64 p], .int .i64 0]) ∧ Below w.heap.size w w') := Lib.hid fun w => Calls.atV (pset_any o c p l w) (by rw [s1]; rfl)
  have KL : Hid (∀ w, Calls Try.prog 15 #[.agg #[.int .i64 o, .int .i64 c, .int .i64 p], .int .i64 stay] w fun e w' => e = .returned (.tuple #[.agg #[.int .i64 o, .int .i64 (c + tickV stay p), .int .i64 p], .int .i64 0]) ∧ Below w.heap.size w w') := Lib.hid fun w => Calls.atV (pleave_any o c p stay w) (by rw [s2]; rfl)
  have KT : Hid (∀ w, Calls Try.prog 29 #[.agg #[.int .i64 l, .int .i64 (o + c), .int .i64 p], .int .i64 (l + stay)] w fun e w' => e = .returned (.tuple #[.int .i64 (o + (c + tickV stay p)), .int .i64 0]) ∧ Below w.heap.size w w') := Lib.hid fun w => Calls.atV (time_s l (o + c) p (l + stay) w) (by rw [s3, s4])
  generalize c + tickV stay p = c' at *
  have e6 : IntKind.i64.wrap (o + c') = o + c' := IntWalk.i64_in _ (by omega)
  clear s1 s2 s3 s4 s5 s6 b1 b2 b3 b4 d1 d2 hs
  go_enter Try.func9, Try.ntmps9
  go_wp2_with fail
  refine (KW.out _).mono ?_
  rintro e w1 ⟨rfl, hb1⟩
  have hz1_0 : w.heap.size < w1.heap.size := by have := hb1.size; simp at this; omega
  have s1_0_0 : w1.cell? ⟨w.heap.size, 0, none⟩ = some (.int .i64 x) := (hb1.cell (p := ⟨w.heap.size, 0, none⟩) (by simp <;> omega)).trans (by go_simp)
  have s1_0_1 : w1.cell? ⟨w.heap.size, 1, none⟩ = some (.int .i64 y) := (hb1.cell (p := ⟨w.heap.size, 1, none⟩) (by simp <;> omega)).trans (by go_simp)
  have s1_0_2 : w1.cell? ⟨w.heap.size, 2, none⟩ = some (.int .i32 z) := (hb1.cell (p := ⟨w.heap.size, 2, none⟩) (by simp <;> omega)).trans (by go_simp)
  have H1 : Below w.heap.size w w1 := ((Below.refl _ _).alloc (Nat.le_refl _) _).trans (hb1.mono (by simp <;> omega))
  clear hb1
  go_wp2_with fail
  refine (KI.out _).mono ?_
  rintro e w2 ⟨rfl, hb2⟩
  have hz2_0 := Nat.lt_of_lt_of_le hz1_0 hb2.size
  have s2_0_0 := (hb2.cell (p := ⟨w.heap.size, 0, none⟩) hz1_0).trans s1_0_0
  have s2_0_1 := (hb2.cell (p := ⟨w.heap.size, 1, none⟩) hz1_0).trans s1_0_1
  have s2_0_2 := (hb2.cell (p := ⟨w.heap.size, 2, none⟩) hz1_0).trans s1_0_2
  have H2 := H1.trans (hb2.mono H1.size)
  clear hz1_0 s1_0_0 s1_0_1 s1_0_2 hb2 H1
  go_wp2_with fail
  refine (KS.out _).mono ?_
  rintro e w3 ⟨rfl, hb3⟩
  have hz3_0 : w2.heap.size < w3.heap.size := by have := hb3.size; simp at this; omega
  have s3_0_0 : w3.cell? ⟨w2.heap.size, 0, none⟩ = some (.int .i64 o) := (hb3.cell (p := ⟨w2.heap.size, 0, none⟩) (by simp <;> omega)).trans (by go_simp)
  have s3_0_1 : w3.cell? ⟨w2.heap.size, 1, none⟩ = some (.int .i64 c) := (hb3.cell (p := ⟨w2.heap.size, 1, none⟩) (by simp <;> omega)).trans (by go_simp)
  have s3_0_2 : w3.cell? ⟨w2.heap.size, 2, none⟩ = some (.int .i64 p) := (hb3.cell (p := ⟨w2.heap.size, 2, none⟩) (by simp <;> omega)).trans (by go_simp)
  have H3 : Below w.heap.size w w3 := (H2.alloc H2.size _).trans (hb3.mono (by have := H2.size; simp <;> omega))
  clear hb3 H2
  go_wp2_with fail
  refine (KL.out _).mono ?_
  rintro e w4 ⟨rfl, hb4⟩
  have hz4_0 : w2.heap.size < w4.heap.size := by have := hb4.size; simp at this; omega
  have s4_0_0 : w4.cell? ⟨w2.heap.size, 0, none⟩ = some (.int .i64 o) := (hb4.cell (p := ⟨w2.heap.size, 0, none⟩) (by simp <;> omega)).trans (by go_simp)
  have s4_0_1 : w4.cell? ⟨w2.heap.size, 1, none⟩ = some (.int .i64 c) := (hb4.cell (p := ⟨w2.heap.size, 1, none⟩) (by simp <;> omega)).trans (by go_simp)
  have s4_0_2 : w4.cell? ⟨w2.heap.size, 2, none⟩ = some (.int .i64 p) := (hb4.cell (p := ⟨w2.heap.size, 2, none⟩) (by simp <;> omega)).trans (by go_simp)
  have hz4_1 : w3.heap.size < w4.heap.size := by have := hb4.size; simp at this; omega
  have s4_1_0 : w4.cell? ⟨w3.heap.size, 0, none⟩ = some (.int .i64 l) := (hb4.cell (p := ⟨w3.heap.size, 0, none⟩) (by simp <;> omega)).trans (by go_simp)
  have s4_1_1 : w4.cell? ⟨w3.heap.size, 1, none⟩ = some (.int .i64 (o + c)) := (hb4.cell (p := ⟨w3.heap.size, 1, none⟩) (by simp <;> omega)).trans (by go_simp)
  have s4_1_2 : w4.cell? ⟨w3.heap.size, 2, none⟩ = some (.int .i64 p) := (hb4.cell (p := ⟨w3.heap.size, 2, none⟩) (by simp <;> omega)).trans (by go_simp)
  have H4 : Below w.heap.size w w4 := (H3.alloc H3.size _).trans (hb4.mono (by have := H3.size; simp <;> omega))
  clear hz3_0 s3_0_0 s3_0_1 s3_0_2 hb4 H3
  go_wp2_with fail
  refine (KT.out _).mono ?_
  rintro e w5 ⟨rfl, hb5⟩
  have hz5_0 : w2.heap.size < w5.heap.size := by have := hb5.size; simp at this; omega
  have s5_0_0 : w5.cell? ⟨w2.heap.size, 0, none⟩ = some (.int .i64 o) := (hb5.cell (p := ⟨w2.heap.size, 0, none⟩) (by simp <;> omega)).trans (by go_simp)
  have s5_0_1 : w5.cell? ⟨w2.heap.size, 1, none⟩ = some (.int .i64 c) := (hb5.cell (p := ⟨w2.heap.size, 1, none⟩) (by simp <;> omega)).trans (by go_simp)
  have s5_0_2 : w5.cell? ⟨w2.heap.size, 2, none⟩ = some (.int .i64 p) := (hb5.cell (p := ⟨w2.heap.size, 2, none⟩) (by simp <;> omega)).trans (by go_simp)
  have hz5_1 : w3.heap.size < w5.heap.size := by have := hb5.size; simp at this; omega
  have s5_1_0 : w5.cell? ⟨w3.heap.size, 0, none⟩ = some (.int .i64 l) := (hb5.cell (p := ⟨w3.heap.size, 0, none⟩) (by simp <;> omega)).trans (by go_simp)
  have s5_1_1 : w5.cell? ⟨w3.heap.size, 1, none⟩ = some (.int .i64 (o + c)) := (hb5.cell (p := ⟨w3.heap.size, 1, none⟩) (by simp <;> omega)).trans (by go_simp)
  have s5_1_2 : w5.cell? ⟨w3.heap.size, 2, none⟩ = some (.int .i64 p) := (hb5.cell (p := ⟨w3.heap.size, 2, none⟩) (by simp <;> omega)).trans (by go_simp)
  have hz5_2 : w4.heap.size < w5.heap.size := by have := hb5.size; simp at this; omega
  have s5_2_0 : w5.cell? ⟨w4.heap.size, 0, none⟩ = some (.int .i64 o) := (hb5.cell (p := ⟨w4.heap.size, 0, none⟩) (by simp <;> omega)).trans (by go_simp)
  have s5_2_1 : w5.cell? ⟨w4.heap.size, 1, none⟩ = some (.int .i64 c') := (hb5.cell (p := ⟨w4.heap.size, 1, none⟩) (by simp <;> omega)).trans (by go_simp)
  have s5_2_2 : w5.cell? ⟨w4.heap.size, 2, none⟩ = some (.int .i64 p) := (hb5.cell (p := ⟨w4.heap.size, 2, none⟩) (by simp <;> omega)).trans (by go_simp)
  have H5 : Below w.heap.size w w5 := (H4.alloc H4.size _).trans (hb5.mono (by have := H4.size; simp <;> omega))
  clear hz4_0 s4_0_0 s4_0_1 s4_0_2 hz4_1 s4_1_0 s4_1_1 s4_1_2 hb5 H4
  go_wp2
  go_ret
  exact ⟨rfl, H5⟩
end Go.Proofs.Ytgdagfiebaebbaa
