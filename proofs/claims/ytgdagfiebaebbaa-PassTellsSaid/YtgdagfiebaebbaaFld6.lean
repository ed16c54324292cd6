/- The package ptp: the fields of the header. -/
import Derived.Test.YtgdagfiebaebbaaFld5
namespace Go.Proofs.Ytgdagfiebaebbaa
open Go.RowKit

theorem FsA.make (w : World) (B : Nat) (l : List Fd) (n : Nat) (hn : l.length = n) (hm : n ≤ 100) (cells : Array Value) (hc : cells = (fcells B l).toArray) : FsA (w.alloc (.cells cells 125)) B (some ⟨w.heap.size, 0, none⟩) l := by
  obtain ⟨a, cap, e, _, h, _⟩ := (FsOwn.make w B l n hn hm cells hc).see
  cases e
  exact h
theorem ss_three (w : World) (B : Nat) (T : TypeId) (a1 a2 a3 : Option Addr) (n1 c1 n2 c2 n3 c3 : Nat) (l1 l2 l3 : List Fd) (h1 : FsA w B a1 l1) (h2 : FsA w B a2 l2) (h3 : FsA w B a3 l3) (e1 : l1.length = n1) (e2 : l2.length = n2) (e3 : l3.length = n3)
    (z1 : a1 = none → c1 = 0) (z2 : a2 = none → c2 = 0) (z3 : a3 = none → c3 = 0) : SsA (w.alloc (.cells #[.slice a1 n1 c1, .slice a2 n2 c2, .slice a3 n3 c3] T)) B (some ⟨w.heap.size, 0, none⟩) [l1, l2, l3] := fun k hk => by
  subst e1 e2 e3
  have hb := (Below.refl w.heap.size w).alloc (Nat.le_refl _) (.cells #[.slice a1 l1.length c1, .slice a2 l2.length c2, .slice a3 l3.length c3] T)
  match k, hk with
  | 0, _ => exact ⟨_, _, a1, c1, rfl, by go_simp <;> rfl, z1, h1.below hb⟩
  | 1, _ => exact ⟨_, _, a2, c2, rfl, by go_simp <;> rfl, z2, h2.below hb⟩
  | 2, _ => exact ⟨_, _, a3, c3, rfl, by go_simp <;> rfl, z3, h3.below hb⟩
def headA : List Fd := [⟨0, 1, 0, 255⟩, ⟨1, 1, 0, 127⟩]
def corrF : List Fd := [⟨2, 8, -4398046511104, 4398046511104⟩]
def seqF : List Fd := [⟨5, 2, 0, 65535⟩]
def headB : List Fd := [⟨2, 8, -4398046511104, 4398046511104⟩, ⟨3, 6, 0, 281474976710655⟩, ⟨4, 2, 1, 65535⟩, ⟨5, 2, 0, 65535⟩]
/-- The two slices of the header's fields. -/
def RetC (w : World) (B : Nat) (e : Ending) (w' : World) : Prop := ∃ a1 a2 c2, e = .returned (.tuple #[.slice a1 2 2, .slice a2 4 c2]) ∧ FsA w' B a1 headA ∧ FsA w' B a2 headB ∧ (a1 ≠ none) ∧ (a2 = none → c2 = 0) ∧ Below w.heap.size w w'
set_option maxRecDepth 100000 in
set_option maxHeartbeats 4000000 in
theorem common_any (B : Nat) (w : World) : Calls Try.prog 55 #[.agg #[.pointer (some ⟨B, 0, none⟩)]] w (RetC w B) := by
  have KC := Lib.hid fun s w (h : SsA w B (some ⟨s, 0, none⟩) [corrF, idF 3, seqF]) => concat_any B (some ⟨s, 0, none⟩) 3 3 [corrF, idF 3, seqF] w rfl (by omega) (by decide) (by decide) (Lib.hid h)
  go_enter Try.func55, Try.ntmps55
  go_wp2_with fail
  refine wp_gen ?_
  rintro w1 hg1
  have hz1_0 : w.heap.size < w1.heap.size := by rw [hg1]; simp <;> omega
  have s1_0_0 : w1.cell? ⟨w.heap.size, 0, none⟩ = some (.pointer (some ⟨B, 0, none⟩)) := by rw [hg1]; go_simp
  have H1 : Below w.heap.size w w1 := by rw [hg1]; exact ((Below.refl _ _).alloc (Nat.le_refl _) _)
  clear hg1
  refine wp_region_gput (R := Nat × Nat × Nat × Nat × (Option Addr) × Nat × (Option Addr) × Nat × Value × Value) [4, 5, 6, 7, 8, 9, 10, 11, 12, 13, 14, 15, 16, 17, 18, 19, 20, 21, 22, 23, 24, 25, 26, 27, 28, 29, 30, 31, 32, 33, 2, 3]
    (fun rr => [.pointer (some ⟨w.heap.size, 0, none⟩), .pointer (some ⟨B, 0, none⟩), .pointer (some ⟨B, 0, none⟩), .pointer (some ⟨B, 0, none⟩), .agg #[.pointer (some ⟨B, 0, none⟩), .int .i64 1, .int .i64 0, .int .i64 255], .pointer (some ⟨w.heap.size, 0, none⟩), .pointer (some ⟨B, 0, none⟩), .pointer (some ⟨B, 0, none⟩), .pointer (some ⟨B, 1, none⟩), .agg #[.pointer (some ⟨B, 1, none⟩), .int .i64 1, .int .i64 0, .int .i64 127], .slice (some ⟨rr.1, 0, none⟩) 2 2, .pointer (some ⟨w.heap.size, 0, none⟩), .pointer (some ⟨B, 0, none⟩), .pointer (some ⟨B, 0, none⟩), .pointer (some ⟨B, 2, none⟩), .agg #[.pointer (some ⟨B, 2, none⟩), .int .i64 8, .int .i64 (-4398046511104), .int .i64 4398046511104], .slice (some ⟨rr.2.1, 0, none⟩) 1 1, .pointer (some ⟨w.heap.size, 0, none⟩), .pointer (some ⟨B, 0, none⟩), .pointer (some ⟨B, 0, none⟩), .pointer (some ⟨B, 3, none⟩), .slice rr.2.2.2.2.1 2 rr.2.2.2.2.2.1, .pointer (some ⟨w.heap.size, 0, none⟩), .pointer (some ⟨B, 0, none⟩), .pointer (some ⟨B, 0, none⟩), .pointer (some ⟨B, 5, none⟩), .agg #[.pointer (some ⟨B, 5, none⟩), .int .i64 2, .int .i64 0, .int .i64 65535], .slice (some ⟨rr.2.2.1, 0, none⟩) 1 1, .slice (some ⟨rr.2.2.2.1, 0, none⟩) 3 3, .slice rr.2.2.2.2.2.2.1 4 rr.2.2.2.2.2.2.2.1, rr.2.2.2.2.2.2.2.2.1, rr.2.2.2.2.2.2.2.2.2])
    (fun L rr wx => Below w1.heap.size w1 wx ∧ (L 10 = true → FsA wx B (some ⟨rr.1, 0, none⟩) headA) ∧ (L 16 = true → FsA wx B (some ⟨rr.2.1, 0, none⟩) corrF) ∧ (L 21 = true → FsA wx B rr.2.2.2.2.1 (idF 3) ∧ (rr.2.2.2.2.1 = none → rr.2.2.2.2.2.1 = 0)) ∧ (L 27 = true → FsA wx B (some ⟨rr.2.2.1, 0, none⟩) seqF) ∧ (L 28 = true → SsA wx B (some ⟨rr.2.2.2.1, 0, none⟩) [corrF, idF 3, seqF]) ∧ (L 29 = true → FsA wx B rr.2.2.2.2.2.2.1 headB ∧ (rr.2.2.2.2.2.2.1 = none → rr.2.2.2.2.2.2.2.1 = 0)) ∧ (L 30 = true → L 10 = true ∧ rr.2.2.2.2.2.2.2.2.1 = .slice (some ⟨rr.1, 0, none⟩) 2 2) ∧ (L 31 = true → L 29 = true ∧ rr.2.2.2.2.2.2.2.2.2 = .slice rr.2.2.2.2.2.2.1 4 rr.2.2.2.2.2.2.2.1))
    (by kernel_rfl) (by kernel_rfl) (by kernel_rfl) (0, 0, 0, 0, none, 0, none, 0, undef, undef) ?_ ?_ ?_
  · exact ⟨(Below.refl _ _).drew, fun h => absurd h (by decide), fun h => absurd h (by decide), fun h => absurd h (by decide), fun h => absurd h (by decide), fun h => absurd h (by decide), fun h => absurd h (by decide), fun h => absurd h (by decide), fun h => absurd h (by decide)⟩
  · simp only [putAll, Act.put, List.setIfInBounds_toArray, List.set_cons_succ, List.set_cons_zero]
    refine ⟨?_, ?_, ?_, ?_, ?_, ?_, ?_, ?_, ?_, ?_, ?_, ?_, ?_, ?_, ?_, ?_, ?_, ?_, ?_, ?_, ?_, ?_, ?_, ?_, ?_, ?_, ?_, ?_, ?_, ?_, ?_, ?_, trivial⟩
    all_goals
      rintro L ⟨s1, s2, s3, s4, va, vc, ca, cc, ra, rb⟩ wx K hLi hdep ⟨hB, h10, h16, h21, h27, h28, h29, h30, h31⟩ hK
      try dsimp only at h10 h16 h21 h27 h28 h29 h30 h31
      have hBs := hB.size
      have f0 := (hB.cell (p := ⟨w.heap.size, 0, none⟩) hz1_0).trans s1_0_0
    · refine .inl ⟨by rfl, ?_⟩
      go_simp
      exact hK (s1, s2, s3, s4, va, vc, ca, cc, ra, rb) wx ⟨hB, by simpa using h10, by simpa using h16, by simpa using h21, by simpa using h27, by simpa using h28, by simpa using h29, by simpa using h30, by simpa using h31⟩
    · refine .inl ⟨by rfl, ?_⟩
      go_simp
      exact hK (s1, s2, s3, s4, va, vc, ca, cc, ra, rb) wx ⟨hB, by simpa using h10, by simpa using h16, by simpa using h21, by simpa using h27, by simpa using h28, by simpa using h29, by simpa using h30, by simpa using h31⟩
    · refine .inl ⟨by rfl, ?_⟩
      go_simp
      exact hK (s1, s2, s3, s4, va, vc, ca, cc, ra, rb) wx ⟨hB, by simpa using h10, by simpa using h16, by simpa using h21, by simpa using h27, by simpa using h28, by simpa using h29, by simpa using h30, by simpa using h31⟩
    · refine .inl ⟨by rfl, ?_⟩
      go_simp
      exact hK (s1, s2, s3, s4, va, vc, ca, cc, ra, rb) wx ⟨hB, by simpa using h10, by simpa using h16, by simpa using h21, by simpa using h27, by simpa using h28, by simpa using h29, by simpa using h30, by simpa using h31⟩
    · refine .inl ⟨by rfl, ?_⟩
      go_simp
      exact hK (s1, s2, s3, s4, va, vc, ca, cc, ra, rb) wx ⟨hB, by simpa using h10, by simpa using h16, by simpa using h21, by simpa using h27, by simpa using h28, by simpa using h29, by simpa using h30, by simpa using h31⟩
    · refine .inl ⟨by rfl, ?_⟩
      go_simp
      exact hK (s1, s2, s3, s4, va, vc, ca, cc, ra, rb) wx ⟨hB, by simpa using h10, by simpa using h16, by simpa using h21, by simpa using h27, by simpa using h28, by simpa using h29, by simpa using h30, by simpa using h31⟩
    · refine .inl ⟨by rfl, ?_⟩
      go_simp
      exact hK (s1, s2, s3, s4, va, vc, ca, cc, ra, rb) wx ⟨hB, by simpa using h10, by simpa using h16, by simpa using h21, by simpa using h27, by simpa using h28, by simpa using h29, by simpa using h30, by simpa using h31⟩
    · refine .inl ⟨by rfl, ?_⟩
      go_simp
      exact hK (s1, s2, s3, s4, va, vc, ca, cc, ra, rb) wx ⟨hB, by simpa using h10, by simpa using h16, by simpa using h21, by simpa using h27, by simpa using h28, by simpa using h29, by simpa using h30, by simpa using h31⟩
    · refine .inl ⟨by rfl, ?_⟩
      go_simp
      exact hK (s1, s2, s3, s4, va, vc, ca, cc, ra, rb) wx ⟨hB, by simpa using h10, by simpa using h16, by simpa using h21, by simpa using h27, by simpa using h28, by simpa using h29, by simpa using h30, by simpa using h31⟩
    · refine .inl ⟨by rfl, ?_⟩
      go_simp
      exact hK (s1, s2, s3, s4, va, vc, ca, cc, ra, rb) wx ⟨hB, by simpa using h10, by simpa using h16, by simpa using h21, by simpa using h27, by simpa using h28, by simpa using h29, by simpa using h30, by simpa using h31⟩
    · refine .inl ⟨by rfl, ?_⟩
      go_simp
      have hbA := fun o => (Below.refl wx.heap.size wx).alloc (Nat.le_refl _) o
      exact hK (wx.heap.size, s2, s3, s4, va, vc, ca, cc, ra, rb) _ ⟨(hB.alloc hBs _), fun _ => FsA.make wx B headA 2 rfl (by omega) _ rfl, fun h => ((h16 (by simpa using h))).below (hbA _), fun h => ⟨(((h21 (by simpa using h))).1).below (hbA _), ((h21 (by simpa using h))).2⟩, fun h => ((h27 (by simpa using h))).below (hbA _), fun h => ((h28 (by simpa using h))).below (hbA _), fun h => ⟨(((h29 (by simpa using h))).1).below (hbA _), ((h29 (by simpa using h))).2⟩, fun h => absurd ((h30 (by simpa using h)).1) (by simp [hLi]), by simpa using h31⟩
    · refine .inl ⟨by rfl, ?_⟩
      go_simp
      exact hK (s1, s2, s3, s4, va, vc, ca, cc, ra, rb) wx ⟨hB, by simpa using h10, by simpa using h16, by simpa using h21, by simpa using h27, by simpa using h28, by simpa using h29, by simpa using h30, by simpa using h31⟩
    · refine .inl ⟨by rfl, ?_⟩
      go_simp
      exact hK (s1, s2, s3, s4, va, vc, ca, cc, ra, rb) wx ⟨hB, by simpa using h10, by simpa using h16, by simpa using h21, by simpa using h27, by simpa using h28, by simpa using h29, by simpa using h30, by simpa using h31⟩
    · refine .inl ⟨by rfl, ?_⟩
      go_simp
      exact hK (s1, s2, s3, s4, va, vc, ca, cc, ra, rb) wx ⟨hB, by simpa using h10, by simpa using h16, by simpa using h21, by simpa using h27, by simpa using h28, by simpa using h29, by simpa using h30, by simpa using h31⟩
    · refine .inl ⟨by rfl, ?_⟩
      go_simp
      exact hK (s1, s2, s3, s4, va, vc, ca, cc, ra, rb) wx ⟨hB, by simpa using h10, by simpa using h16, by simpa using h21, by simpa using h27, by simpa using h28, by simpa using h29, by simpa using h30, by simpa using h31⟩
    · refine .inl ⟨by rfl, ?_⟩
      go_simp
      exact hK (s1, s2, s3, s4, va, vc, ca, cc, ra, rb) wx ⟨hB, by simpa using h10, by simpa using h16, by simpa using h21, by simpa using h27, by simpa using h28, by simpa using h29, by simpa using h30, by simpa using h31⟩
    · refine .inl ⟨by rfl, ?_⟩
      go_simp
      have hbA := fun o => (Below.refl wx.heap.size wx).alloc (Nat.le_refl _) o
      exact hK (s1, wx.heap.size, s3, s4, va, vc, ca, cc, ra, rb) _ ⟨(hB.alloc hBs _), fun h => ((h10 (by simpa using h))).below (hbA _), fun _ => FsA.make wx B corrF 1 rfl (by omega) _ rfl, fun h => ⟨(((h21 (by simpa using h))).1).below (hbA _), ((h21 (by simpa using h))).2⟩, fun h => ((h27 (by simpa using h))).below (hbA _), fun h => ((h28 (by simpa using h))).below (hbA _), fun h => ⟨(((h29 (by simpa using h))).1).below (hbA _), ((h29 (by simpa using h))).2⟩, by simpa using h30, by simpa using h31⟩
    · refine .inl ⟨by rfl, ?_⟩
      go_simp
      exact hK (s1, s2, s3, s4, va, vc, ca, cc, ra, rb) wx ⟨hB, by simpa using h10, by simpa using h16, by simpa using h21, by simpa using h27, by simpa using h28, by simpa using h29, by simpa using h30, by simpa using h31⟩
    · refine .inl ⟨by rfl, ?_⟩
      go_simp
      exact hK (s1, s2, s3, s4, va, vc, ca, cc, ra, rb) wx ⟨hB, by simpa using h10, by simpa using h16, by simpa using h21, by simpa using h27, by simpa using h28, by simpa using h29, by simpa using h30, by simpa using h31⟩
    · refine .inl ⟨by rfl, ?_⟩
      go_simp
      exact hK (s1, s2, s3, s4, va, vc, ca, cc, ra, rb) wx ⟨hB, by simpa using h10, by simpa using h16, by simpa using h21, by simpa using h27, by simpa using h28, by simpa using h29, by simpa using h30, by simpa using h31⟩
    · refine .inl ⟨by rfl, ?_⟩
      go_simp
      exact hK (s1, s2, s3, s4, va, vc, ca, cc, ra, rb) wx ⟨hB, by simpa using h10, by simpa using h16, by simpa using h21, by simpa using h27, by simpa using h28, by simpa using h29, by simpa using h30, by simpa using h31⟩
    · refine .inl ⟨by rfl, ?_⟩
      go_simp
      refine (id_any B 3 wx).mono ?_
      rintro e w' ⟨v, rfl, hO, hb⟩
      obtain ⟨a9, c9, rfl, h91, h92, _, _⟩ := hO.see
      exact hK (s1, s2, s3, s4, a9, c9, ca, cc, ra, rb) w' ⟨(hB.trans (hb.mono hBs)), fun h => ((h10 (by simpa using h))).below hb, fun h => ((h16 (by simpa using h))).below hb, fun _ => ⟨h92, h91⟩, fun h => ((h27 (by simpa using h))).below hb, fun h => ((h28 (by simpa using h))).below hb, fun h => ⟨(((h29 (by simpa using h))).1).below hb, ((h29 (by simpa using h))).2⟩, by simpa using h30, by simpa using h31⟩
    · refine .inl ⟨by rfl, ?_⟩
      go_simp
      exact hK (s1, s2, s3, s4, va, vc, ca, cc, ra, rb) wx ⟨hB, by simpa using h10, by simpa using h16, by simpa using h21, by simpa using h27, by simpa using h28, by simpa using h29, by simpa using h30, by simpa using h31⟩
    · refine .inl ⟨by rfl, ?_⟩
      go_simp
      exact hK (s1, s2, s3, s4, va, vc, ca, cc, ra, rb) wx ⟨hB, by simpa using h10, by simpa using h16, by simpa using h21, by simpa using h27, by simpa using h28, by simpa using h29, by simpa using h30, by simpa using h31⟩
    · refine .inl ⟨by rfl, ?_⟩
      go_simp
      exact hK (s1, s2, s3, s4, va, vc, ca, cc, ra, rb) wx ⟨hB, by simpa using h10, by simpa using h16, by simpa using h21, by simpa using h27, by simpa using h28, by simpa using h29, by simpa using h30, by simpa using h31⟩
    · refine .inl ⟨by rfl, ?_⟩
      go_simp
      exact hK (s1, s2, s3, s4, va, vc, ca, cc, ra, rb) wx ⟨hB, by simpa using h10, by simpa using h16, by simpa using h21, by simpa using h27, by simpa using h28, by simpa using h29, by simpa using h30, by simpa using h31⟩
    · refine .inl ⟨by rfl, ?_⟩
      go_simp
      exact hK (s1, s2, s3, s4, va, vc, ca, cc, ra, rb) wx ⟨hB, by simpa using h10, by simpa using h16, by simpa using h21, by simpa using h27, by simpa using h28, by simpa using h29, by simpa using h30, by simpa using h31⟩
    · refine .inl ⟨by rfl, ?_⟩
      go_simp
      have hbA := fun o => (Below.refl wx.heap.size wx).alloc (Nat.le_refl _) o
      exact hK (s1, s2, wx.heap.size, s4, va, vc, ca, cc, ra, rb) _ ⟨(hB.alloc hBs _), fun h => ((h10 (by simpa using h))).below (hbA _), fun h => ((h16 (by simpa using h))).below (hbA _), fun h => ⟨(((h21 (by simpa using h))).1).below (hbA _), ((h21 (by simpa using h))).2⟩, fun _ => FsA.make wx B seqF 1 rfl (by omega) _ rfl, fun h => ((h28 (by simpa using h))).below (hbA _), fun h => ⟨(((h29 (by simpa using h))).1).below (hbA _), ((h29 (by simpa using h))).2⟩, by simpa using h30, by simpa using h31⟩
    · have p16 := h16 (hdep ⟨16, .data⟩ (by simp) rfl)
      have p21 := h21 (hdep ⟨21, .data⟩ (by simp) rfl)
      have p27 := h27 (hdep ⟨27, .data⟩ (by simp) rfl)
      refine .inl ⟨by rfl, ?_⟩
      go_simp
      have hbA := fun o => (Below.refl wx.heap.size wx).alloc (Nat.le_refl _) o
      exact hK (s1, s2, s3, wx.heap.size, va, vc, ca, cc, ra, rb) _ ⟨(hB.alloc hBs _), fun h => ((h10 (by simpa using h))).below (hbA _), fun h => ((h16 (by simpa using h))).below (hbA _), fun h => ⟨(((h21 (by simpa using h))).1).below (hbA _), ((h21 (by simpa using h))).2⟩, fun h => ((h27 (by simpa using h))).below (hbA _), fun _ => ss_three wx B _ _ _ _ _ _ _ _ _ _ corrF (idF 3) seqF p16 p21.1 p27 rfl rfl rfl (fun e => by cases e) p21.2 (fun e => by cases e), fun h => ⟨(((h29 (by simpa using h))).1).below (hbA _), ((h29 (by simpa using h))).2⟩, by simpa using h30, by simpa using h31⟩
    · have p28 := h28 (hdep ⟨28, .data⟩ (by simp) rfl)
      refine .inl ⟨by rfl, ?_⟩
      go_simp
      refine (KC.out s4 wx p28).mono ?_
      rintro e w' ⟨v, rfl, hO, hb⟩
      obtain ⟨a9, c9, rfl, h91, h92, _, _⟩ := hO.see
      exact hK (s1, s2, s3, s4, va, vc, a9, c9, ra, rb) w' ⟨(hB.trans (hb.mono hBs)), fun h => ((h10 (by simpa using h))).below hb, fun h => ((h16 (by simpa using h))).below hb, fun h => ⟨(((h21 (by simpa using h))).1).below hb, ((h21 (by simpa using h))).2⟩, fun h => ((h27 (by simpa using h))).below hb, fun h => ((h28 (by simpa using h))).below hb, fun _ => ⟨h92, h91⟩, by simpa using h30, fun h => absurd ((h31 (by simpa using h)).1) (by simp [hLi])⟩
    · have d10 := hdep ⟨10, .data⟩ (by simp) rfl
      refine .inl ⟨by rfl, ?_⟩
      go_simp
      exact hK (s1, s2, s3, s4, va, vc, ca, cc, _, rb) wx ⟨hB, by simpa using h10, by simpa using h16, by simpa using h21, by simpa using h27, by simpa using h28, by simpa using h29, fun _ => ⟨by simp [d10], rfl⟩, by simpa using h31⟩
    · have d29 := hdep ⟨29, .data⟩ (by simp) rfl
      refine .inl ⟨by rfl, ?_⟩
      go_simp
      exact hK (s1, s2, s3, s4, va, vc, ca, cc, ra, _) wx ⟨hB, by simpa using h10, by simpa using h16, by simpa using h21, by simpa using h27, by simpa using h28, by simpa using h29, by simpa using h30, fun _ => ⟨by simp [d29], rfl⟩⟩
  rintro ⟨s1, s2, s3, s4, va, vc, ca, cc, ra, rb⟩ w2 ⟨hb2, q10, q16, q21, q27, q28, q29, q30, q31⟩
  replace q10 := q10 rfl
  replace q16 := q16 rfl
  replace q21 := q21 rfl
  replace q27 := q27 rfl
  replace q28 := q28 rfl
  replace q29 := q29 rfl
  replace q30 := q30 rfl
  replace q31 := q31 rfl
  try dsimp only at q10 q16 q21 q27 q28 q29 q30 q31
  simp only [putAll, Act.put, List.setIfInBounds_toArray, List.set_cons_succ, List.set_cons_zero]
  have hz2_0 := Nat.lt_of_lt_of_le hz1_0 hb2.size
  have s2_0_0 := (hb2.cell (p := ⟨w.heap.size, 0, none⟩) hz1_0).trans s1_0_0
  have H2 := H1.trans (hb2.mono H1.size)
  clear hz1_0 s1_0_0 hb2 H1
  obtain ⟨_, rfl⟩ := q30
  obtain ⟨_, rfl⟩ := q31
  go_wp2
  exact bodyPost_ret (v := .tuple #[.slice (some ⟨s1, 0, none⟩) 2 2, .slice ca 4 cc]) (by simp [results, Try.results55, go_sem]) rfl ⟨_, _, _, rfl, q10, q29.1, fun e => (by cases e), q29.2, H2⟩
end Go.Proofs.Ytgdagfiebaebbaa
