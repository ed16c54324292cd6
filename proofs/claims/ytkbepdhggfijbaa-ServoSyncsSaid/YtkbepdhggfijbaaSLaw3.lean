/- ServoSyncs: the walk of the law. -/
import Derived.Test.YtkbepdhggfijbaaWorks13
import Derived.Test.YtkbepdhggfijbaaRef13c
import Derived.Deep.RegionWith
import Derived.Deep.DeepCutAuto
namespace Go.Proofs.Ytkbepdhggfijbaa
open Go.RowKit Go.Shelf

set_option maxRecDepth 100000 in
set_option maxHeartbeats 1000000 in
theorem slaw3_walk (L M P x y z l m r : Int) (w : World) :
    Calls Try.prog 5 #[.agg #[.int .i64 L, .int .i64 M, .int .i64 P], .agg #[.int .i64 x, .int .i64 y, .int .i32 z], .int .i64 l, .int .i64 m, .int .i64 r] w fun e w' => e = .returned (.bool true) ∧ Below w.heap.size w w' := by
  have HD := Lib.hid fun w => draftS_any x y z w
  generalize dT x = o2 at *
  generalize dT y = p2 at *
  generalize dR z = q2 at *
  go_enter Try.func5, Try.ntmps5
  go_wp2_with fail
  refine (works13 _).mono ?_
  rintro e w1 ⟨rfl, hb1⟩
  have H1 : Below w.heap.size w w1 := (((Below.refl _ _).alloc (Nat.le_refl _) _).alloc (by simp <;> omega) _).trans (hb1.mono (by simp <;> omega))
  obtain ⟨hcl, hfr⟩ := bcell hb1
  have hz : w.heap.size + 1 < w1.heap.size := by have := hb1.size; simp at this; omega
  have k1 : w1.cell? ⟨w.heap.size, 0, none⟩ = some (.int .i64 L) := (hcl _ 0 (by simp <;> omega)).trans (by go_simp)
  have k2 : w1.cell? ⟨w.heap.size, 1, none⟩ = some (.int .i64 M) := (hcl _ 1 (by simp <;> omega)).trans (by go_simp)
  have k3 : w1.cell? ⟨w.heap.size, 2, none⟩ = some (.int .i64 P) := (hcl _ 2 (by simp <;> omega)).trans (by go_simp)
  have k4 : w1.cell? ⟨w.heap.size + 1, 0, none⟩ = some (.int .i64 x) := (hcl _ 0 (by simp <;> omega)).trans (by go_simp)
  have k5 : w1.cell? ⟨w.heap.size + 1, 1, none⟩ = some (.int .i64 y) := (hcl _ 1 (by simp <;> omega)).trans (by go_simp)
  have k6 : w1.cell? ⟨w.heap.size + 1, 2, none⟩ = some (.int .i32 z) := (hcl _ 2 (by simp <;> omega)).trans (by go_simp)
  clear hcl hfr hb1
  have hz0 : w.heap.size < w1.heap.size := by omega
  go_wp2_with fail
  have f1 := Bw.cell hz0 k1
  have f2 := Bw.cell hz0 k2
  have f3 := Bw.cell hz0 k3
  have f4 := Bw.cell hz k4
  have f5 := Bw.cell hz k5
  have f6 := Bw.cell hz k6
  clear k1 k2 k3 k4 k5 k6
  refine wp_region_bw (by kernel_rfl) (by kernel_rfl) ?_
  repeat (go_big_quiet_step ((go_at_call 12; exact Calls.bw_of (HD.out _))))
  refine wpQuiet_nil ?_
  rintro _ ⟨⟨w2, hw2⟩, rfl⟩
  go_wp2_with fail
  go_loopw [25] (fun i wr => ∃ k : Nat, k ≤ 2 ∧ i = .int .i64 k ∧ Below w.heap.size w wr) (fun i _ => 2 - (intOf i).toNat)
  case atStart => exact ⟨0, by omega, rfl, H1.trans (hw2.mono H1.size)⟩
  case round =>
    clear f1 f2 f3 f4 f5 f6 hz hz0 hw2 H1 HD
    obtain ⟨k, hk, rfl, hB⟩ := hrel
    have hcase : k = 2 ∨ ∃ oo pp qq : Int, k < 2 ∧ ∀ W, (Instr.index 28 (.agg #[.int .i64 L, .int .i64 M, .int .i64 P, .int .i64 o2, .int .i64 p2, .int .i64 q2]) (.int .i64 k)).run Try.prog W = .ok (.agg #[.int .i64 oo, .int .i64 pp, .int .i64 qq]) W := by
      rcases (by omega : k = 0 ∨ k = 1 ∨ k = 2) with rfl | rfl | rfl
      · exact Or.inr ⟨L, M, P, by omega, fun _ => by kernel_rfl⟩
      · exact Or.inr ⟨o2, p2, q2, by omega, fun _ => by kernel_rfl⟩
      · exact Or.inl rfl
    rcases hcase with rfl | ⟨oo, pp, qq, hk2, hix⟩
    · go_wp2
      go_ret
      exact ⟨rfl, hB⟩
    · obtain ⟨a1, a2, a3, d, e0, hsv⟩ : ∃ a1 a2 a3 d e0 : Int, syV oo pp qq l m r = .tuple #[.agg #[.int .i64 a1, .int .i64 a2, .int .i64 a3], .int .i64 d, .int .i64 e0] := ⟨_, _, _, _, _, rfl⟩
      have S1 := Lib.hid fun w => Calls.atV (sync_any oo pp qq l m r w) hsv
      have S2 := Lib.hid fun w => Calls.atV (rsync_any oo pp qq l m r w) hsv
      clear hsv
      go_wp2_with fail
      refine (S1.out _).mono ?_
      rintro e w2 ⟨rfl, hb2⟩
      have hz2 : wr.heap.size < w2.heap.size := by have := hb2.size; simp at this; omega
      have j1 : w2.cell? ⟨wr.heap.size, 0, none⟩ = some (.int .i64 oo) := (hb2.cell (p := ⟨wr.heap.size, 0, none⟩) (by simp)).trans (by go_simp)
      have j2 : w2.cell? ⟨wr.heap.size, 1, none⟩ = some (.int .i64 pp) := (hb2.cell (p := ⟨wr.heap.size, 1, none⟩) (by simp)).trans (by go_simp)
      have j3 : w2.cell? ⟨wr.heap.size, 2, none⟩ = some (.int .i64 qq) := (hb2.cell (p := ⟨wr.heap.size, 2, none⟩) (by simp)).trans (by go_simp)
      have hB2 : Below w.heap.size w w2 := (hB.alloc hB.size _).trans (hb2.mono (by simp; have := hB.size; omega))
      clear hb2
      go_wp2_with fail
      refine (S2.out _).mono ?_
      rintro e w3 ⟨rfl, hb3⟩
      have hz3 : w2.heap.size < w3.heap.size := by have := hb3.size; simp at this; omega
      have i1 : w3.cell? ⟨w2.heap.size, 0, none⟩ = some (.int .i64 a1) := (hb3.cell (p := ⟨w2.heap.size, 0, none⟩) (by simp)).trans (by go_simp)
      have i2 : w3.cell? ⟨w2.heap.size, 1, none⟩ = some (.int .i64 a2) := (hb3.cell (p := ⟨w2.heap.size, 1, none⟩) (by simp)).trans (by go_simp)
      have i3 : w3.cell? ⟨w2.heap.size, 2, none⟩ = some (.int .i64 a3) := (hb3.cell (p := ⟨w2.heap.size, 2, none⟩) (by simp)).trans (by go_simp)
      have hB3 : Below w.heap.size w w3 := (hB2.alloc hB2.size _).trans (hb3.mono (by simp; have := hB2.size; omega))
      clear hb3 j1 j2 j3 hz2
      go_wp2
      go_roundw
      case rel => exact ⟨k + 1, by omega, by go_num, hB3.alloc hB3.size _⟩
      case measure => simp [intOf]; omega
end Go.Proofs.Ytkbepdhggfijbaa
