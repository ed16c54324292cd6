/- The package ptp: the fields of a response and of an announcement. -/
import Derived.Test.YtgdagfiebaebbaaFld6
namespace Go.Proofs.Ytgdagfiebaebbaa
open Go.RowKit

def timeF : List Fd := [⟨6, 8, -4398046511104, 4398046511104⟩]
def stepsF : List Fd := [⟨16, 2, 0, 65535⟩]
def respF : List Fd := timeF ++ idF 8
def annF : List Fd := masterF 10 ++ stepsF
set_option maxRecDepth 100000 in
set_option maxHeartbeats 4000000 in
theorem resp_any (B : Nat) (w : World) : Calls Try.prog 73 #[.agg #[.pointer (some ⟨B, 0, none⟩)]] w (RetFs w B respF) := by
  go_enter Try.func73, Try.ntmps73
  go_wp2_with fail
  refine wp_gen ?_
  rintro w1 hg1
  have hz1_0 : w.heap.size < w1.heap.size := by rw [hg1]; simp <;> omega
  have s1_0_0 : w1.cell? ⟨w.heap.size, 0, none⟩ = some (.pointer (some ⟨B, 0, none⟩)) := by rw [hg1]; go_simp
  have H1 : Below w.heap.size w w1 := by rw [hg1]; exact ((Below.refl _ _).alloc (Nat.le_refl _) _)
  clear hg1
  have HK1 := H1.size
  refine wp_region_gput (R := Nat × (Option Addr) × Nat × (Option Addr) × Nat × Value) [3, 4, 5, 6, 7, 8, 9, 10, 11, 12, 13, 14, 2]
    (fun rr => [.pointer (some ⟨w.heap.size, 0, none⟩), .pointer (some ⟨B, 0, none⟩), .pointer (some ⟨B, 0, none⟩), .pointer (some ⟨B, 6, none⟩), .agg #[.pointer (some ⟨B, 6, none⟩), .int .i64 8, .int .i64 (-4398046511104), .int .i64 4398046511104], .slice (some ⟨rr.1, 0, none⟩) 1 1, .pointer (some ⟨w.heap.size, 0, none⟩), .pointer (some ⟨B, 0, none⟩), .pointer (some ⟨B, 0, none⟩), .pointer (some ⟨B, 8, none⟩), .slice rr.2.1 2 rr.2.2.1, .slice rr.2.2.2.1 3 rr.2.2.2.2.1, rr.2.2.2.2.2])
    (fun L rr wx => Below w1.heap.size w1 wx ∧ (L 5 = true → (L 11 = false → FsOwn wx w1.heap.size B (.slice (some ⟨rr.1, 0, none⟩) 1 1) timeF)) ∧ (L 10 = true → (L 11 = false → FsA wx B rr.2.1 (idF 8) ∧ (rr.2.1 = none → rr.2.2.1 = 0))) ∧ (L 11 = true → FsOwn wx w1.heap.size B (.slice rr.2.2.2.1 3 rr.2.2.2.2.1) respF) ∧ (L 12 = true → L 11 = true ∧ rr.2.2.2.2.2 = .slice rr.2.2.2.1 3 rr.2.2.2.2.1))
    (by kernel_rfl) (by kernel_rfl) (by kernel_rfl) (0, none, 0, none, 0, undef) ?_ ?_ ?_
  · exact ⟨(Below.refl _ _).drew, fun h => absurd h (by decide), fun h => absurd h (by decide), fun h => absurd h (by decide), fun h => absurd h (by decide)⟩
  · simp only [putAll, Act.put, List.setIfInBounds_toArray, List.set_cons_succ, List.set_cons_zero]
    refine ⟨?_, ?_, ?_, ?_, ?_, ?_, ?_, ?_, ?_, ?_, ?_, ?_, ?_, trivial⟩
    all_goals
      rintro L ⟨s1, va, vc, ca, cc, rb⟩ wx K hLi hdep ⟨hB, h5, h10, h11, h12⟩ hK
      try dsimp only at h5 h10 h11 h12
      have hBs := hB.size
      have f0 := (hB.cell (p := ⟨w.heap.size, 0, none⟩) hz1_0).trans s1_0_0
    · refine .inl ⟨by rfl, ?_⟩
      go_simp
      exact hK (s1, va, vc, ca, cc, rb) wx ⟨hB, by simpa using h5, by simpa using h10, by simpa using h11, by simpa using h12⟩
    · refine .inl ⟨by rfl, ?_⟩
      go_simp
      exact hK (s1, va, vc, ca, cc, rb) wx ⟨hB, by simpa using h5, by simpa using h10, by simpa using h11, by simpa using h12⟩
    · refine .inl ⟨by rfl, ?_⟩
      go_simp
      exact hK (s1, va, vc, ca, cc, rb) wx ⟨hB, by simpa using h5, by simpa using h10, by simpa using h11, by simpa using h12⟩
    · refine .inl ⟨by rfl, ?_⟩
      go_simp
      exact hK (s1, va, vc, ca, cc, rb) wx ⟨hB, by simpa using h5, by simpa using h10, by simpa using h11, by simpa using h12⟩
    · refine .inl ⟨by rfl, ?_⟩
      go_simp
      exact hK (s1, va, vc, ca, cc, rb) wx ⟨hB, by simpa using h5, by simpa using h10, by simpa using h11, by simpa using h12⟩
    · refine .inl ⟨by rfl, ?_⟩
      go_simp
      have hbA := fun o => (Below.refl wx.heap.size wx).alloc (Nat.le_refl _) o
      exact hK (wx.heap.size, va, vc, ca, cc, rb) _ ⟨(hB.alloc hBs _), fun _ => fun _ => (FsOwn.make wx B timeF 1 rfl (by omega) _ rfl).mono hBs, fun h => fun hh => ⟨((((h10 (by simpa using h))) (by simpa using hh)).1).below (hbA _), (((h10 (by simpa using h))) (by simpa using hh)).2⟩, fun h => ((h11 (by simpa using h))).below (hbA _), by simpa using h12⟩
    · refine .inl ⟨by rfl, ?_⟩
      go_simp
      exact hK (s1, va, vc, ca, cc, rb) wx ⟨hB, by simpa using h5, by simpa using h10, by simpa using h11, by simpa using h12⟩
    · refine .inl ⟨by rfl, ?_⟩
      go_simp
      exact hK (s1, va, vc, ca, cc, rb) wx ⟨hB, by simpa using h5, by simpa using h10, by simpa using h11, by simpa using h12⟩
    · refine .inl ⟨by rfl, ?_⟩
      go_simp
      exact hK (s1, va, vc, ca, cc, rb) wx ⟨hB, by simpa using h5, by simpa using h10, by simpa using h11, by simpa using h12⟩
    · refine .inl ⟨by rfl, ?_⟩
      go_simp
      exact hK (s1, va, vc, ca, cc, rb) wx ⟨hB, by simpa using h5, by simpa using h10, by simpa using h11, by simpa using h12⟩
    · refine .inl ⟨by rfl, ?_⟩
      go_simp
      refine (id_any B 8 wx).mono ?_
      rintro e w' ⟨v, rfl, hO, hb⟩
      obtain ⟨a9, c9, rfl, h91, h92, _, _⟩ := hO.see
      exact hK (s1, a9, c9, ca, cc, rb) w' ⟨(hB.trans (hb.mono hBs)), fun h => fun hh => (((h5 (by simpa using h))) (by simpa using hh)).below hb, fun _ => fun _ => ⟨h92, h91⟩, fun h => ((h11 (by simpa using h))).below hb, by simpa using h12⟩
    · refine .inl ⟨by rfl, ?_⟩
      have d1 := h5 (hdep ⟨5, .data⟩ (by simp) rfl) hLi
      have d2 := h10 (hdep ⟨10, .data⟩ (by simp) rfl) hLi
      refine wp_apndF _ _ rfl w1.heap.size B (.slice (some ⟨s1, 0, none⟩) 1 1) timeF (idF 8) rfl d1 va vc rfl d2.2 d2.1 (by decide) hBs ?_
      intro v' w' g1 g2 _
      obtain ⟨a9, c9, rfl, h91, h92, _, _⟩ := g1.see
      have g1 := Lib.hid g1
      simp only [Act.put, List.setIfInBounds_toArray, List.set_cons_succ, List.set_cons_zero]
      exact hK (s1, va, vc, a9, c9, rb) w' ⟨hB.grown g2 hBs (fun k e => (World.ownsRow.lt d1 _ e).1), fun _ hh => absurd hh (by simp), fun _ hh => absurd hh (by simp), fun _ => g1.out, fun h => absurd ((h12 (by simpa using h)).1) (by simp [hLi])⟩
    · have d11 := hdep ⟨11, .data⟩ (by simp) rfl
      refine .inl ⟨by rfl, ?_⟩
      go_simp
      exact hK (s1, va, vc, ca, cc, _) wx ⟨hB, by simpa using h5, by simpa using h10, by simpa using h11, fun _ => ⟨by simp [d11], rfl⟩⟩
  rintro ⟨s1, va, vc, ca, cc, rb⟩ w2 ⟨hb2, q5, q10, q11, q12⟩
  replace q5 := q5 rfl
  replace q10 := q10 rfl
  replace q11 := q11 rfl
  replace q12 := q12 rfl
  try dsimp only at q5 q10 q11 q12
  simp only [putAll, Act.put, List.setIfInBounds_toArray, List.set_cons_succ, List.set_cons_zero]
  have hz2_0 := Nat.lt_of_lt_of_le hz1_0 hb2.size
  have s2_0_0 := (hb2.cell (p := ⟨w.heap.size, 0, none⟩) hz1_0).trans s1_0_0
  have H2 := H1.trans (hb2.mono H1.size)
  clear hz1_0 s1_0_0 hb2 H1
  obtain ⟨_, rfl⟩ := q12
  have q11 := Lib.hid q11
  go_wp2
  go_ret
  exact ⟨_, rfl, q11.out.mono HK1, H2⟩
set_option maxRecDepth 100000 in
set_option maxHeartbeats 4000000 in
theorem ann_any (B : Nat) (w : World) : Calls Try.prog 74 #[.agg #[.pointer (some ⟨B, 0, none⟩)]] w (RetFs w B annF) := by
  go_enter Try.func74, Try.ntmps74
  go_wp2_with fail
  refine wp_gen ?_
  rintro w1 hg1
  have hz1_0 : w.heap.size < w1.heap.size := by rw [hg1]; simp <;> omega
  have s1_0_0 : w1.cell? ⟨w.heap.size, 0, none⟩ = some (.pointer (some ⟨B, 0, none⟩)) := by rw [hg1]; go_simp
  have H1 : Below w.heap.size w w1 := by rw [hg1]; exact ((Below.refl _ _).alloc (Nat.le_refl _) _)
  clear hg1
  have HK1 := H1.size
  refine wp_region_gput (R := Nat × (Option Addr) × Nat × (Option Addr) × Nat × Value) [3, 4, 5, 6, 7, 8, 9, 10, 11, 12, 13, 14, 2]
    (fun rr => [.pointer (some ⟨w.heap.size, 0, none⟩), .pointer (some ⟨B, 0, none⟩), .pointer (some ⟨B, 0, none⟩), .pointer (some ⟨B, 10, none⟩), .slice rr.2.1 6 rr.2.2.1, .pointer (some ⟨w.heap.size, 0, none⟩), .pointer (some ⟨B, 0, none⟩), .pointer (some ⟨B, 0, none⟩), .pointer (some ⟨B, 16, none⟩), .agg #[.pointer (some ⟨B, 16, none⟩), .int .i64 2, .int .i64 0, .int .i64 65535], .slice (some ⟨rr.1, 0, none⟩) 1 1, .slice rr.2.2.2.1 7 rr.2.2.2.2.1, rr.2.2.2.2.2])
    (fun L rr wx => Below w1.heap.size w1 wx ∧ (L 4 = true → (L 11 = false → FsOwn wx w1.heap.size B (.slice rr.2.1 6 rr.2.2.1) (masterF 10))) ∧ (L 10 = true → (L 11 = false → FsA wx B (some ⟨rr.1, 0, none⟩) stepsF)) ∧ (L 11 = true → FsOwn wx w1.heap.size B (.slice rr.2.2.2.1 7 rr.2.2.2.2.1) annF) ∧ (L 12 = true → L 11 = true ∧ rr.2.2.2.2.2 = .slice rr.2.2.2.1 7 rr.2.2.2.2.1))
    (by kernel_rfl) (by kernel_rfl) (by kernel_rfl) (0, none, 0, none, 0, undef) ?_ ?_ ?_
  · exact ⟨(Below.refl _ _).drew, fun h => absurd h (by decide), fun h => absurd h (by decide), fun h => absurd h (by decide), fun h => absurd h (by decide)⟩
  · simp only [putAll, Act.put, List.setIfInBounds_toArray, List.set_cons_succ, List.set_cons_zero]
    refine ⟨?_, ?_, ?_, ?_, ?_, ?_, ?_, ?_, ?_, ?_, ?_, ?_, ?_, trivial⟩
    all_goals
      rintro L ⟨s1, va, vc, ca, cc, rb⟩ wx K hLi hdep ⟨hB, h4, h10, h11, h12⟩ hK
      try dsimp only at h4 h10 h11 h12
      have hBs := hB.size
      have f0 := (hB.cell (p := ⟨w.heap.size, 0, none⟩) hz1_0).trans s1_0_0
    · refine .inl ⟨by rfl, ?_⟩
      go_simp
      exact hK (s1, va, vc, ca, cc, rb) wx ⟨hB, by simpa using h4, by simpa using h10, by simpa using h11, by simpa using h12⟩
    · refine .inl ⟨by rfl, ?_⟩
      go_simp
      exact hK (s1, va, vc, ca, cc, rb) wx ⟨hB, by simpa using h4, by simpa using h10, by simpa using h11, by simpa using h12⟩
    · refine .inl ⟨by rfl, ?_⟩
      go_simp
      exact hK (s1, va, vc, ca, cc, rb) wx ⟨hB, by simpa using h4, by simpa using h10, by simpa using h11, by simpa using h12⟩
    · refine .inl ⟨by rfl, ?_⟩
      go_simp
      exact hK (s1, va, vc, ca, cc, rb) wx ⟨hB, by simpa using h4, by simpa using h10, by simpa using h11, by simpa using h12⟩
    · refine .inl ⟨by rfl, ?_⟩
      go_simp
      refine (master_any B 10 wx).mono ?_
      rintro e w' ⟨v, rfl, hO, hb⟩
      obtain ⟨a9, c9, rfl, h91, h92, _, _⟩ := hO.see
      exact hK (s1, a9, c9, ca, cc, rb) w' ⟨(hB.trans (hb.mono hBs)), fun _ => fun _ => hO.mono hBs, fun h => fun hh => (((h10 (by simpa using h))) (by simpa using hh)).below hb, fun h => ((h11 (by simpa using h))).below hb, by simpa using h12⟩
    · refine .inl ⟨by rfl, ?_⟩
      go_simp
      exact hK (s1, va, vc, ca, cc, rb) wx ⟨hB, by simpa using h4, by simpa using h10, by simpa using h11, by simpa using h12⟩
    · refine .inl ⟨by rfl, ?_⟩
      go_simp
      exact hK (s1, va, vc, ca, cc, rb) wx ⟨hB, by simpa using h4, by simpa using h10, by simpa using h11, by simpa using h12⟩
    · refine .inl ⟨by rfl, ?_⟩
      go_simp
      exact hK (s1, va, vc, ca, cc, rb) wx ⟨hB, by simpa using h4, by simpa using h10, by simpa using h11, by simpa using h12⟩
    · refine .inl ⟨by rfl, ?_⟩
      go_simp
      exact hK (s1, va, vc, ca, cc, rb) wx ⟨hB, by simpa using h4, by simpa using h10, by simpa using h11, by simpa using h12⟩
    · refine .inl ⟨by rfl, ?_⟩
      go_simp
      exact hK (s1, va, vc, ca, cc, rb) wx ⟨hB, by simpa using h4, by simpa using h10, by simpa using h11, by simpa using h12⟩
    · refine .inl ⟨by rfl, ?_⟩
      go_simp
      have hbA := fun o => (Below.refl wx.heap.size wx).alloc (Nat.le_refl _) o
      exact hK (wx.heap.size, va, vc, ca, cc, rb) _ ⟨(hB.alloc hBs _), fun h => fun hh => (((h4 (by simpa using h))) (by simpa using hh)).below (hbA _), fun _ => fun _ => FsA.make wx B stepsF 1 rfl (by omega) _ rfl, fun h => ((h11 (by simpa using h))).below (hbA _), by simpa using h12⟩
    · refine .inl ⟨by rfl, ?_⟩
      have d1 := h4 (hdep ⟨4, .data⟩ (by simp) rfl) hLi
      have d2 := h10 (hdep ⟨10, .data⟩ (by simp) rfl) hLi
      refine wp_apndF _ _ rfl w1.heap.size B (.slice va 6 vc) (masterF 10) stepsF rfl d1 (some ⟨s1, 0, none⟩) 1 rfl (fun e => by cases e) d2 (by decide) hBs ?_
      intro v' w' g1 g2 _
      obtain ⟨a9, c9, rfl, h91, h92, _, _⟩ := g1.see
      have g1 := Lib.hid g1
      simp only [Act.put, List.setIfInBounds_toArray, List.set_cons_succ, List.set_cons_zero]
      exact hK (s1, va, vc, a9, c9, rb) w' ⟨hB.grown g2 hBs (fun k e => (World.ownsRow.lt d1 _ e).1), fun _ hh => absurd hh (by simp), fun _ hh => absurd hh (by simp), fun _ => g1.out, fun h => absurd ((h12 (by simpa using h)).1) (by simp [hLi])⟩
    · have d11 := hdep ⟨11, .data⟩ (by simp) rfl
      refine .inl ⟨by rfl, ?_⟩
      go_simp
      exact hK (s1, va, vc, ca, cc, _) wx ⟨hB, by simpa using h4, by simpa using h10, by simpa using h11, fun _ => ⟨by simp [d11], rfl⟩⟩
  rintro ⟨s1, va, vc, ca, cc, rb⟩ w2 ⟨hb2, q4, q10, q11, q12⟩
  replace q4 := q4 rfl
  replace q10 := q10 rfl
  replace q11 := q11 rfl
  replace q12 := q12 rfl
  try dsimp only at q4 q10 q11 q12
  simp only [putAll, Act.put, List.setIfInBounds_toArray, List.set_cons_succ, List.set_cons_zero]
  have hz2_0 := Nat.lt_of_lt_of_le hz1_0 hb2.size
  have s2_0_0 := (hb2.cell (p := ⟨w.heap.size, 0, none⟩) hz1_0).trans s1_0_0
  have H2 := H1.trans (hb2.mono H1.size)
  clear hz1_0 s1_0_0 hb2 H1
  obtain ⟨_, rfl⟩ := q12
  have q11 := Lib.hid q11
  go_wp2
  go_ret
  exact ⟨_, rfl, q11.out.mono HK1, H2⟩
end Go.Proofs.Ytgdagfiebaebbaa
