/- ServoChains: the walk of the law. -/
import Derived.Test.YtkbepdhggfijbaaWorks13
import Derived.Test.YtkbepdhggfijbaaRef13b
namespace Go.Proofs.Ytkbepdhggfijbaa
open Go.RowKit Go.Shelf

theorem tdiv4_bd {a : Int} (h0 : -4398046511104 ≤ a) (h1 : a ≤ 4398046511104) : -1099511627776 ≤ a.tdiv 4 ∧ a.tdiv 4 ≤ 1099511627776 := by
  rcases Int.le_total 0 a with g | g
  · rw [Int.tdiv_eq_ediv_of_nonneg g]; omega
  · have e : a.tdiv 4 = -((-a).tdiv 4) := by rw [Int.neg_tdiv, Int.neg_neg]
    rw [e, Int.tdiv_eq_ediv_of_nonneg (by omega)]; omega
/-- Setting a servo to its own time changes no later time by more than one tick. -/
theorem chain_law (L M p f g : Int) : 0 ≤ atS L M p (L + f + g) - atS (L + f) (atS L M p (L + f)) p (L + f + g) ∧ atS L M p (L + f + g) - atS (L + f) (atS L M p (L + f)) p (L + f + g) ≤ 1 := by
  unfold atS
  have e1 : L + f + g - L = f + g := by omega
  have e2 : L + f - L = f := by omega
  have e3 : L + f + g - (L + f) = g := by omega
  rw [e1, e2, e3, Int.add_mul]
  generalize f * p = A
  generalize g * p = B
  omega
theorem chain_ok {L M p f : Int} (h : -1099511627776 ≤ L) (h' : L ≤ 1099511627776) (hm : -1099511627776 ≤ M) (hm' : M ≤ 1099511627776) (hp : -8388608 ≤ p) (hp' : p ≤ 8388608) (hf : 0 ≤ f) (hf' : f ≤ 4294967295) :
    okS L M p = true ∧ okS (L + f) (atS L M p (L + f)) p = true := by
  have hb := mul_bdS (A := 4294967295) (B := 8388608) (a := f) (b := p) (by omega) (by omega) hp hp'
  have e2 : L + f - L = f := by omega
  refine ⟨(okS_iff _ _ _).2 (by omega), (okS_iff _ _ _).2 ?_⟩
  unfold atS
  rw [e2]
  generalize f * p = A at *
  omega
theorem st_ok {l : Int} (h0 : -4398046511104 ≤ l) (h1 : l ≤ 4398046511104) : stamp l = true := (stamp_iff l).2 ⟨h0, h1⟩
set_option maxRecDepth 100000 in
set_option maxHeartbeats 1000000 in
theorem slaw6_walk (x y z f g : Int) (hf : 0 ≤ f ∧ f ≤ 4294967295) (hg : 0 ≤ g ∧ g ≤ 4294967295) (w : World) :
    Calls Try.prog 8 #[.agg #[.int .i64 x, .int .i64 y, .int .i32 z], .int .u32 f, .int .u32 g] w fun e w' => e = .returned (.bool true) ∧ Below w.heap.size w w' := by
  obtain ⟨hf0, hf1⟩ := hf
  obtain ⟨hg0, hg1⟩ := hg
  have HD := Lib.hid fun w => draftS_any x y z w
  have ho := (okS_iff _ _ _).1 (okSD x y z)
  generalize dT x = L0 at *
  generalize dT y = M0 at *
  generalize dR z = p at *
  obtain ⟨⟨o1, o2⟩, ⟨o3, o4⟩, o5, o6⟩ := ho
  obtain ⟨q1, q2⟩ := tdiv4_bd o1 o2
  obtain ⟨q3, q4⟩ := tdiv4_bd o3 o4
  obtain ⟨L, hL⟩ : ∃ L, L0.tdiv 4 = L := ⟨_, rfl⟩
  obtain ⟨M, hM⟩ : ∃ M, M0.tdiv 4 = M := ⟨_, rfl⟩
  rw [hL] at q1 q2
  rw [hM] at q3 q4
  obtain ⟨k1, k2⟩ := chain_ok (f := f) q1 q2 q3 q4 o5 o6 hf0 hf1
  obtain ⟨c1, c2⟩ := chain_law L M p f g
  have T1 := Lib.hid fun w => Calls.at2 (time_s L M p (L + f) w) (tm_ok k1 (st_ok (by omega) (by omega))).1 (tm_ok k1 (st_ok (by omega) (by omega))).2
  have T2 := Lib.hid fun w => Calls.atV (sync_any L M p (L + f) (atS L M p (L + f)) p w) ((sy_ok k1 (by omega) k2).trans (by rw [Int.sub_self]))
  have T3 := Lib.hid fun w => Calls.at2 (time_s L M p (L + f + g) w) (tm_ok k1 (st_ok (by omega) (by omega))).1 (tm_ok k1 (st_ok (by omega) (by omega))).2
  have T4 := Lib.hid fun w => Calls.at2 (time_s (L + f) (atS L M p (L + f)) p (L + f + g) w) (tm_ok k2 (st_ok (by omega) (by omega))).1 (tm_ok k2 (st_ok (by omega) (by omega))).2
  have b1 := atS_lim k1 (show -4398046511104 ≤ L + f + g by omega) (by omega)
  have b2 := atS_lim k2 (show -4398046511104 ≤ L + f + g by omega) (by omega)
  clear k1 k2
  generalize atS (L + f) (atS L M p (L + f)) p (L + f + g) = b at *
  generalize atS L M p (L + f + g) = a at *
  generalize atS L M p (L + f) = m at *
  have hab : IntKind.i64.wrap (a - b) = a - b := IntWalk.i64_in _ (by omega)
  go_enter Try.func8, Try.ntmps8
  go_wp2_with fail
  refine (works13 _).mono ?_
  rintro e w1 ⟨rfl, hb1⟩
  have H1 : Below w.heap.size w w1 := ((Below.refl _ _).alloc (Nat.le_refl _) _).trans (hb1.mono (by simp <;> omega))
  have hz : w.heap.size < w1.heap.size := by have := hb1.size; simp at this; omega
  have k1 : w1.cell? ⟨w.heap.size, 0, none⟩ = some (.int .i64 x) := (hb1.cell (p := ⟨w.heap.size, 0, none⟩) (by simp)).trans (by go_simp)
  have k2 : w1.cell? ⟨w.heap.size, 1, none⟩ = some (.int .i64 y) := (hb1.cell (p := ⟨w.heap.size, 1, none⟩) (by simp)).trans (by go_simp)
  have k3 : w1.cell? ⟨w.heap.size, 2, none⟩ = some (.int .i32 z) := (hb1.cell (p := ⟨w.heap.size, 2, none⟩) (by simp)).trans (by go_simp)
  clear hb1
  go_wp2_with fail
  refine (HD.out _).mono ?_
  rintro e w2 ⟨rfl, hb2⟩
  have H2 := H1.trans (hb2.mono H1.size)
  clear k1 k2 k3
  go_wp2_with fail
  refine (T1.out _).mono ?_
  rintro e v1 ⟨rfl, hb1⟩
  have hz1 : w2.heap.size < v1.heap.size := by have := hb1.size; simp at this; omega
  have s1_0 : v1.cell? ⟨w2.heap.size, 0, none⟩ = some (.int .i64 L) := (hb1.cell (p := ⟨w2.heap.size, 0, none⟩) (by simp)).trans (by go_simp)
  have s1_1 : v1.cell? ⟨w2.heap.size, 1, none⟩ = some (.int .i64 M) := (hb1.cell (p := ⟨w2.heap.size, 1, none⟩) (by simp)).trans (by go_simp)
  have s1_2 : v1.cell? ⟨w2.heap.size, 2, none⟩ = some (.int .i64 p) := (hb1.cell (p := ⟨w2.heap.size, 2, none⟩) (by simp)).trans (by go_simp)
  have H3 : Below w.heap.size w v1 := (H2.alloc H2.size (.cells #[.int .i64 L, .int .i64 M, .int .i64 p] 23)).trans (hb1.mono (by have := H2.size; simp; omega))
  clear hb1
  go_wp2_with fail
  refine (T2.out _).mono ?_
  rintro e v2 ⟨rfl, hb2⟩
  have hz2 := Nat.lt_of_lt_of_le hz1 hb2.size
  have s2_0 := (hb2.cell (p := ⟨w2.heap.size, 0, none⟩) hz1).trans s1_0
  have s2_1 := (hb2.cell (p := ⟨w2.heap.size, 1, none⟩) hz1).trans s1_1
  have s2_2 := (hb2.cell (p := ⟨w2.heap.size, 2, none⟩) hz1).trans s1_2
  have H4 := H3.trans (hb2.mono H3.size)
  clear hb2 s1_0 s1_1 s1_2 hz1
  go_wp2_with fail
  refine (T3.out _).mono ?_
  rintro e v3 ⟨rfl, hb3⟩
  have hz3 : v2.heap.size < v3.heap.size := by have := hb3.size; simp at this; omega
  have x1_0 : v3.cell? ⟨v2.heap.size, 0, none⟩ = some (.int .i64 (L + f)) := (hb3.cell (p := ⟨v2.heap.size, 0, none⟩) (by simp)).trans (by go_simp)
  have x1_1 : v3.cell? ⟨v2.heap.size, 1, none⟩ = some (.int .i64 m) := (hb3.cell (p := ⟨v2.heap.size, 1, none⟩) (by simp)).trans (by go_simp)
  have x1_2 : v3.cell? ⟨v2.heap.size, 2, none⟩ = some (.int .i64 p) := (hb3.cell (p := ⟨v2.heap.size, 2, none⟩) (by simp)).trans (by go_simp)
  have H5 : Below w.heap.size w v3 := (H4.alloc H4.size _).trans (hb3.mono (by have := H4.size; simp; omega))
  clear hb3 s2_0 s2_1 s2_2 hz2
  go_wp2_with fail
  refine (T4.out _).mono ?_
  rintro e v4 ⟨rfl, hb4⟩
  have H6 := H5.trans (hb4.mono H5.size)
  go_wp2
  go_ret
  exact ⟨rfl, H6⟩
end Go.Proofs.Ytkbepdhggfijbaa
