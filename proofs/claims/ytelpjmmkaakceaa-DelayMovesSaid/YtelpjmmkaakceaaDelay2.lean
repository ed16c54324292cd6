/- The package delay: Check: what it computes. -/
import Derived.Test.YtelpjmmkaakceaaDelay
namespace Go.Proofs.Ytelpjmmkaakceaa
open Go.RowKit Go.Shelf

/-- A time stamp, an exchange is valid. -/
def stampX (t : Int) : Bool := decide (-4398046511104 ≤ t) && decide (t ≤ 4398046511104)
def okX (t1 t2 t3 t4 : Int) : Bool := stampX t1 && stampX t2 && stampX t3 && stampX t4 && decide (t1 ≤ t4) && decide (t2 ≤ t3)
theorem okX_iff (t1 t2 t3 t4 : Int) : okX t1 t2 t3 t4 = true ↔ (-4398046511104 ≤ t1 ∧ t1 ≤ 4398046511104) ∧ (-4398046511104 ≤ t2 ∧ t2 ≤ 4398046511104) ∧ (-4398046511104 ≤ t3 ∧ t3 ≤ 4398046511104) ∧ (-4398046511104 ≤ t4 ∧ t4 ≤ 4398046511104) ∧ t1 ≤ t4 ∧ t2 ≤ t3 := by
  unfold okX stampX; simp only [Bool.and_eq_true, decide_eq_true_eq]; omega
def chkX (t1 t2 t3 t4 : Int) : Int := if okX t1 t2 t3 t4 then 0 else 220
theorem okX_lims (a0 a1 a2 a3 a4 : Nat) (t1 t2 t3 t4 : Int) : limsOk [⟨a0, t1, -4398046511104, 4398046511104⟩, ⟨a1, t2, -4398046511104, 4398046511104⟩, ⟨a2, t3, -4398046511104, 4398046511104⟩, ⟨a3, t4, t1, 4398046511104⟩, ⟨a4, t3, t2, 4398046511104⟩] = okX t1 t2 t3 t4 := by
  rw [Bool.eq_iff_iff, okX_iff]
  simp only [limsOk, Lim.ok, Bool.and_eq_true, decide_eq_true_eq, and_true]
  omega
/-- A check that is there when l is true. -/
def LimW (l : Bool) (f : Lim) (w : World) : Prop := l = true → f.at' w
theorem LimW.below {l : Bool} {f : Lim} {w w' : World} (h : LimW l f w) (hb : Below w.heap.size w w') : LimW l f w' := fun hl => Lim.below (h hl) hb
/-- Checks in the cells of a slice. -/
def LimsW (l : Bool) (b : Nat) (fs : List Lim) (w : World) : Prop := l = true → ∀ k, k < fs.length → ∃ h : k < fs.length, w.cell? ⟨b, k, none⟩ = some (fs[k]).v ∧ (fs[k]).at' w
theorem LimsW.below {l : Bool} {b : Nat} {fs : List Lim} {w w' : World} (h : LimsW l b fs w) (hb : Below w.heap.size w w') : LimsW l b fs w' := fun hl k hk =>
  let ⟨h1, h2, h3⟩ := h hl k hk
  ⟨h1, (hb.cell (p := ⟨b, k, none⟩) (cell_lt h2)).trans h2, Lim.below h3 hb⟩
theorem LimsW.made {l : Bool} (fs : List Lim) (w : World) (T : TypeId) (h : ∀ f ∈ fs, f.at' w) : LimsW l w.heap.size fs (w.alloc (.cells (fs.map Lim.v).toArray T)) := fun _ k hk =>
  ⟨hk, by simp [World.cell?_alloc_new, hk], Lim.below (h _ (List.getElem_mem hk)) ((Below.refl _ _).alloc (Nat.le_refl _) _)⟩

set_option maxRecDepth 100000 in
set_option maxHeartbeats 2000000 in
theorem checkX_any (t1 t2 t3 t4 : Int) (w : World) :
    Calls Try.prog 14 #[.agg #[.int .i64 t1, .int .i64 t2, .int .i64 t3, .int .i64 t4]] w fun e w' => e = .returned (.int .i64 (chkX t1 t2 t3 t4)) ∧ Below w.heap.size w w' := by
  have HL := Lib.hid fun a0 a1 a2 a3 a4 => okX_lims a0 a1 a2 a3 a4 t1 t2 t3 t4
  go_enter Try.func14, Try.ntmps14
  go_wp2_with fail
  refine wp_gen ?_
  rintro w1 hg1
  have hz : w.heap.size < w1.heap.size := by rw [hg1]; simp <;> omega
  have s1 : w1.cell? ⟨w.heap.size, 0, none⟩ = some (.int .i64 t1) := by rw [hg1]; go_simp
  have s2 : w1.cell? ⟨w.heap.size, 1, none⟩ = some (.int .i64 t2) := by rw [hg1]; go_simp
  have s3 : w1.cell? ⟨w.heap.size, 2, none⟩ = some (.int .i64 t3) := by rw [hg1]; go_simp
  have s4 : w1.cell? ⟨w.heap.size, 3, none⟩ = some (.int .i64 t4) := by rw [hg1]; go_simp
  have H1 : Below w.heap.size w w1 := by rw [hg1]; exact (Below.refl _ _).alloc (Nat.le_refl _) _
  clear hg1
  refine wp_region_put (R := Nat × Nat × Nat × Nat × Nat × Nat) [4, 5, 6, 7, 8, 9, 10, 11, 12, 13, 14, 15, 16, 17, 18, 19, 20, 21, 22, 23, 24, 25, 26, 27, 28, 29, 30, 31, 32, 33, 34, 35, 36]
    (fun r => [.pointer (some ⟨w.heap.size, 0, none⟩), .int .i64 t1, .int .i64 4398046511104, .int .i64 (-4398046511104), .int .i64 4398046511104, Lim.v ⟨r.1, t1, (-4398046511104), 4398046511104⟩, .pointer (some ⟨w.heap.size, 1, none⟩), .int .i64 t2, .int .i64 4398046511104, .int .i64 (-4398046511104), .int .i64 4398046511104, Lim.v ⟨r.2.1, t2, (-4398046511104), 4398046511104⟩, .pointer (some ⟨w.heap.size, 2, none⟩), .int .i64 t3, .int .i64 4398046511104, .int .i64 (-4398046511104), .int .i64 4398046511104, Lim.v ⟨r.2.2.1, t3, (-4398046511104), 4398046511104⟩, .pointer (some ⟨w.heap.size, 3, none⟩), .int .i64 t4, .pointer (some ⟨w.heap.size, 0, none⟩), .int .i64 t1, .int .i64 4398046511104, Lim.v ⟨r.2.2.2.1, t4, t1, 4398046511104⟩, .pointer (some ⟨w.heap.size, 2, none⟩), .int .i64 t3, .pointer (some ⟨w.heap.size, 1, none⟩), .int .i64 t2, .int .i64 4398046511104, Lim.v ⟨r.2.2.2.2.1, t3, t2, 4398046511104⟩, .slice (some ⟨r.2.2.2.2.2, 0, none⟩) 5 5, .bool (okX t1 t2 t3 t4), .bool (!okX t1 t2 t3 t4)])
    (fun L r wx => Below w1.heap.size w1 wx ∧ LimW (L 5) ⟨r.1, t1, (-4398046511104), 4398046511104⟩ wx ∧ LimW (L 11) ⟨r.2.1, t2, (-4398046511104), 4398046511104⟩ wx ∧ LimW (L 17) ⟨r.2.2.1, t3, (-4398046511104), 4398046511104⟩ wx ∧ LimW (L 23) ⟨r.2.2.2.1, t4, t1, 4398046511104⟩ wx ∧ LimW (L 29) ⟨r.2.2.2.2.1, t3, t2, 4398046511104⟩ wx ∧ (L 30 = true → L 5 = true ∧ L 11 = true ∧ L 17 = true ∧ L 23 = true ∧ L 29 = true) ∧ LimsW (L 30) r.2.2.2.2.2 [⟨r.1, t1, (-4398046511104), 4398046511104⟩, ⟨r.2.1, t2, (-4398046511104), 4398046511104⟩, ⟨r.2.2.1, t3, (-4398046511104), 4398046511104⟩, ⟨r.2.2.2.1, t4, t1, 4398046511104⟩, ⟨r.2.2.2.2.1, t3, t2, 4398046511104⟩] wx)
    (by kernel_rfl) (by kernel_rfl) (by kernel_rfl) (0, 0, 0, 0, 0, 0) ?_ ?_ ?_
  · exact ⟨(Below.refl _ _).drew, fun h => absurd h (by decide), fun h => absurd h (by decide), fun h => absurd h (by decide), fun h => absurd h (by decide), fun h => absurd h (by decide), fun h => absurd h (by decide), fun h => absurd h (by decide)⟩
  · refine ⟨?_, ?_, ?_, ?_, ?_, ?_, ?_, ?_, ?_, ?_, ?_, ?_, ?_, ?_, ?_, ?_, ?_, ?_, ?_, ?_, ?_, ?_, ?_, ?_, ?_, ?_, ?_, ?_, ?_, ?_, ?_, ?_, ?_, trivial⟩
    all_goals
      rintro L ⟨p0, p1, p2, p3, p4, p5⟩ wx K hLi hdep ⟨hB, O0, O1, O2, O3, O4, OW, O5⟩ hK
      have f1 := (hB.cell (p := ⟨w.heap.size, 0, none⟩) hz).trans s1
      have f2 := (hB.cell (p := ⟨w.heap.size, 1, none⟩) hz).trans s2
      have f3 := (hB.cell (p := ⟨w.heap.size, 2, none⟩) hz).trans s3
      have f4 := (hB.cell (p := ⟨w.heap.size, 3, none⟩) hz).trans s4
      simp only [putAll, Act.put, List.setIfInBounds_toArray, List.set_cons_succ, List.set_cons_zero] at hK ⊢
      go_simp
    · exact hK (p0, p1, p2, p3, p4, p5) wx ⟨hB, by simpa using O0, by simpa using O1, by simpa using O2, by simpa using O3, by simpa using O4, fun h => (by have := OW (by simpa using h); simp [this]), by simpa using O5⟩
    · exact hK (p0, p1, p2, p3, p4, p5) wx ⟨hB, by simpa using O0, by simpa using O1, by simpa using O2, by simpa using O3, by simpa using O4, fun h => (by have := OW (by simpa using h); simp [this]), by simpa using O5⟩
    · exact hK (p0, p1, p2, p3, p4, p5) wx ⟨hB, by simpa using O0, by simpa using O1, by simpa using O2, by simpa using O3, by simpa using O4, fun h => (by have := OW (by simpa using h); simp [this]), by simpa using O5⟩
    · exact hK (p0, p1, p2, p3, p4, p5) wx ⟨hB, by simpa using O0, by simpa using O1, by simpa using O2, by simpa using O3, by simpa using O4, fun h => (by have := OW (by simpa using h); simp [this]), by simpa using O5⟩
    · exact hK (p0, p1, p2, p3, p4, p5) wx ⟨hB, by simpa using O0, by simpa using O1, by simpa using O2, by simpa using O3, by simpa using O4, fun h => (by have := OW (by simpa using h); simp [this]), by simpa using O5⟩
    · have hn5 : L 30 = false := by
        cases h : L 30
        · rfl
        · have := OW h; simp [hLi] at this
      refine (in_any _ _ _ _).mono ?_
      rintro e w' ⟨rfl, hb, hat⟩
      exact hK (wx.heap.size, p1, p2, p3, p4, p5) w' ⟨hB.trans (hb.mono hB.size), fun _ => hat, by simpa using O1.below hb, by simpa using O2.below hb, by simpa using O3.below hb, by simpa using O4.below hb, fun h => by simp [hn5] at h, fun h => by simp [hn5] at h⟩
    · exact hK (p0, p1, p2, p3, p4, p5) wx ⟨hB, by simpa using O0, by simpa using O1, by simpa using O2, by simpa using O3, by simpa using O4, fun h => (by have := OW (by simpa using h); simp [this]), by simpa using O5⟩
    · exact hK (p0, p1, p2, p3, p4, p5) wx ⟨hB, by simpa using O0, by simpa using O1, by simpa using O2, by simpa using O3, by simpa using O4, fun h => (by have := OW (by simpa using h); simp [this]), by simpa using O5⟩
    · exact hK (p0, p1, p2, p3, p4, p5) wx ⟨hB, by simpa using O0, by simpa using O1, by simpa using O2, by simpa using O3, by simpa using O4, fun h => (by have := OW (by simpa using h); simp [this]), by simpa using O5⟩
    · exact hK (p0, p1, p2, p3, p4, p5) wx ⟨hB, by simpa using O0, by simpa using O1, by simpa using O2, by simpa using O3, by simpa using O4, fun h => (by have := OW (by simpa using h); simp [this]), by simpa using O5⟩
    · exact hK (p0, p1, p2, p3, p4, p5) wx ⟨hB, by simpa using O0, by simpa using O1, by simpa using O2, by simpa using O3, by simpa using O4, fun h => (by have := OW (by simpa using h); simp [this]), by simpa using O5⟩
    · have hn5 : L 30 = false := by
        cases h : L 30
        · rfl
        · have := OW h; simp [hLi] at this
      refine (in_any _ _ _ _).mono ?_
      rintro e w' ⟨rfl, hb, hat⟩
      exact hK (p0, wx.heap.size, p2, p3, p4, p5) w' ⟨hB.trans (hb.mono hB.size), by simpa using O0.below hb, fun _ => hat, by simpa using O2.below hb, by simpa using O3.below hb, by simpa using O4.below hb, fun h => by simp [hn5] at h, fun h => by simp [hn5] at h⟩
    · exact hK (p0, p1, p2, p3, p4, p5) wx ⟨hB, by simpa using O0, by simpa using O1, by simpa using O2, by simpa using O3, by simpa using O4, fun h => (by have := OW (by simpa using h); simp [this]), by simpa using O5⟩
    · exact hK (p0, p1, p2, p3, p4, p5) wx ⟨hB, by simpa using O0, by simpa using O1, by simpa using O2, by simpa using O3, by simpa using O4, fun h => (by have := OW (by simpa using h); simp [this]), by simpa using O5⟩
    · exact hK (p0, p1, p2, p3, p4, p5) wx ⟨hB, by simpa using O0, by simpa using O1, by simpa using O2, by simpa using O3, by simpa using O4, fun h => (by have := OW (by simpa using h); simp [this]), by simpa using O5⟩
    · exact hK (p0, p1, p2, p3, p4, p5) wx ⟨hB, by simpa using O0, by simpa using O1, by simpa using O2, by simpa using O3, by simpa using O4, fun h => (by have := OW (by simpa using h); simp [this]), by simpa using O5⟩
    · exact hK (p0, p1, p2, p3, p4, p5) wx ⟨hB, by simpa using O0, by simpa using O1, by simpa using O2, by simpa using O3, by simpa using O4, fun h => (by have := OW (by simpa using h); simp [this]), by simpa using O5⟩
    · have hn5 : L 30 = false := by
        cases h : L 30
        · rfl
        · have := OW h; simp [hLi] at this
      refine (in_any _ _ _ _).mono ?_
      rintro e w' ⟨rfl, hb, hat⟩
      exact hK (p0, p1, wx.heap.size, p3, p4, p5) w' ⟨hB.trans (hb.mono hB.size), by simpa using O0.below hb, by simpa using O1.below hb, fun _ => hat, by simpa using O3.below hb, by simpa using O4.below hb, fun h => by simp [hn5] at h, fun h => by simp [hn5] at h⟩
    · exact hK (p0, p1, p2, p3, p4, p5) wx ⟨hB, by simpa using O0, by simpa using O1, by simpa using O2, by simpa using O3, by simpa using O4, fun h => (by have := OW (by simpa using h); simp [this]), by simpa using O5⟩
    · exact hK (p0, p1, p2, p3, p4, p5) wx ⟨hB, by simpa using O0, by simpa using O1, by simpa using O2, by simpa using O3, by simpa using O4, fun h => (by have := OW (by simpa using h); simp [this]), by simpa using O5⟩
    · exact hK (p0, p1, p2, p3, p4, p5) wx ⟨hB, by simpa using O0, by simpa using O1, by simpa using O2, by simpa using O3, by simpa using O4, fun h => (by have := OW (by simpa using h); simp [this]), by simpa using O5⟩
    · exact hK (p0, p1, p2, p3, p4, p5) wx ⟨hB, by simpa using O0, by simpa using O1, by simpa using O2, by simpa using O3, by simpa using O4, fun h => (by have := OW (by simpa using h); simp [this]), by simpa using O5⟩
    · exact hK (p0, p1, p2, p3, p4, p5) wx ⟨hB, by simpa using O0, by simpa using O1, by simpa using O2, by simpa using O3, by simpa using O4, fun h => (by have := OW (by simpa using h); simp [this]), by simpa using O5⟩
    · have hn5 : L 30 = false := by
        cases h : L 30
        · rfl
        · have := OW h; simp [hLi] at this
      refine (in_any _ _ _ _).mono ?_
      rintro e w' ⟨rfl, hb, hat⟩
      exact hK (p0, p1, p2, wx.heap.size, p4, p5) w' ⟨hB.trans (hb.mono hB.size), by simpa using O0.below hb, by simpa using O1.below hb, by simpa using O2.below hb, fun _ => hat, by simpa using O4.below hb, fun h => by simp [hn5] at h, fun h => by simp [hn5] at h⟩
    · exact hK (p0, p1, p2, p3, p4, p5) wx ⟨hB, by simpa using O0, by simpa using O1, by simpa using O2, by simpa using O3, by simpa using O4, fun h => (by have := OW (by simpa using h); simp [this]), by simpa using O5⟩
    · exact hK (p0, p1, p2, p3, p4, p5) wx ⟨hB, by simpa using O0, by simpa using O1, by simpa using O2, by simpa using O3, by simpa using O4, fun h => (by have := OW (by simpa using h); simp [this]), by simpa using O5⟩
    · exact hK (p0, p1, p2, p3, p4, p5) wx ⟨hB, by simpa using O0, by simpa using O1, by simpa using O2, by simpa using O3, by simpa using O4, fun h => (by have := OW (by simpa using h); simp [this]), by simpa using O5⟩
    · exact hK (p0, p1, p2, p3, p4, p5) wx ⟨hB, by simpa using O0, by simpa using O1, by simpa using O2, by simpa using O3, by simpa using O4, fun h => (by have := OW (by simpa using h); simp [this]), by simpa using O5⟩
    · exact hK (p0, p1, p2, p3, p4, p5) wx ⟨hB, by simpa using O0, by simpa using O1, by simpa using O2, by simpa using O3, by simpa using O4, fun h => (by have := OW (by simpa using h); simp [this]), by simpa using O5⟩
    · have hn5 : L 30 = false := by
        cases h : L 30
        · rfl
        · have := OW h; simp [hLi] at this
      refine (in_any _ _ _ _).mono ?_
      rintro e w' ⟨rfl, hb, hat⟩
      exact hK (p0, p1, p2, p3, wx.heap.size, p5) w' ⟨hB.trans (hb.mono hB.size), by simpa using O0.below hb, by simpa using O1.below hb, by simpa using O2.below hb, by simpa using O3.below hb, fun _ => hat, fun h => by simp [hn5] at h, fun h => by simp [hn5] at h⟩
    · refine hK (p0, p1, p2, p3, p4, wx.heap.size) _ ⟨hB.alloc hB.size _, by simpa using O0.below ((Below.refl _ _).alloc (Nat.le_refl _) _), by simpa using O1.below ((Below.refl _ _).alloc (Nat.le_refl _) _), by simpa using O2.below ((Below.refl _ _).alloc (Nat.le_refl _) _), by simpa using O3.below ((Below.refl _ _).alloc (Nat.le_refl _) _), by simpa using O4.below ((Below.refl _ _).alloc (Nat.le_refl _) _), fun _ => ?_, ?_⟩
      · have q0 := hdep ⟨5, .data⟩ (by simp) rfl
        have q1 := hdep ⟨11, .data⟩ (by simp) rfl
        have q2 := hdep ⟨17, .data⟩ (by simp) rfl
        have q3 := hdep ⟨23, .data⟩ (by simp) rfl
        have q4 := hdep ⟨29, .data⟩ (by simp) rfl
        simp [q0, q1, q2, q3, q4]
      refine LimsW.made [⟨p0, t1, (-4398046511104), 4398046511104⟩, ⟨p1, t2, (-4398046511104), 4398046511104⟩, ⟨p2, t3, (-4398046511104), 4398046511104⟩, ⟨p3, t4, t1, 4398046511104⟩, ⟨p4, t3, t2, 4398046511104⟩] wx _ ?_
      have h0 := O0 (hdep ⟨5, .data⟩ (by simp) rfl)
      have h1 := O1 (hdep ⟨11, .data⟩ (by simp) rfl)
      have h2 := O2 (hdep ⟨17, .data⟩ (by simp) rfl)
      have h3 := O3 (hdep ⟨23, .data⟩ (by simp) rfl)
      have h4 := O4 (hdep ⟨29, .data⟩ (by simp) rfl)
      intro f hf
      simp only [List.mem_cons, List.not_mem_nil, or_false] at hf
      rcases hf with rfl | rfl | rfl | rfl | rfl
      · exact h0
      · exact h1
      · exact h2
      · exact h3
      · exact h4
    · have C := all_any p5 5 [⟨p0, t1, (-4398046511104), 4398046511104⟩, ⟨p1, t2, (-4398046511104), 4398046511104⟩, ⟨p2, t3, (-4398046511104), 4398046511104⟩, ⟨p3, t4, t1, 4398046511104⟩, ⟨p4, t3, t2, 4398046511104⟩] wx rfl (by omega) (O5 (hdep ⟨30, .data⟩ (by simp) rfl))
      rw [HL.out] at C
      refine C.mono ?_
      rintro e w' ⟨rfl, rfl⟩
      exact hK (p0, p1, p2, p3, p4, p5) wx ⟨hB, by simpa using O0, by simpa using O1, by simpa using O2, by simpa using O3, by simpa using O4, fun h => (by have := OW (by simpa using h); simp [this]), by simpa using O5⟩
    · exact hK (p0, p1, p2, p3, p4, p5) wx ⟨hB, by simpa using O0, by simpa using O1, by simpa using O2, by simpa using O3, by simpa using O4, fun h => (by have := OW (by simpa using h); simp [this]), by simpa using O5⟩
  · rintro ⟨p0, p1, p2, p3, p4, p5⟩ w2 ⟨hb2, -⟩
    simp only [putAll, Act.put, List.setIfInBounds_toArray, List.set_cons_succ, List.set_cons_zero]
    have H2 := H1.trans (hb2.mono H1.size)
    cases hok : okX t1 t2 t3 t4
    · have HV : Hid (chkX t1 t2 t3 t4 = 220) := Lib.hid (by unfold chkX; rw [hok]; rfl)
      go_wp2
      go_ret
      exact ⟨ret_int HV.out.symm, H2⟩
    · have HV : Hid (chkX t1 t2 t3 t4 = 0) := Lib.hid (by unfold chkX; rw [hok]; rfl)
      go_wp2
      go_ret
      exact ⟨ret_int HV.out.symm, H2⟩
end Go.Proofs.Ytelpjmmkaakceaa
