/- ClockTrues: the walk of the law. -/
import Derived.Test.YtphinhebnekmlaaWorks09
import Derived.Test.YtphinhebnekmlaaRef09b
import Derived.Test.YtphinhebnekmlaaDraft09
import Derived.Deep.RegionWith
import Derived.Deep.DeepCutAuto
namespace Go.Proofs.Ytphinhebnekmlaa
open Go.RowKit Go.Shelf

set_option maxRecDepth 100000 in
set_option maxHeartbeats 1000000 in
theorem law2_walk (o p x y t : Int) (w : World)  :
    Calls Try.prog 4 #[.agg #[.int .i64 o, .int .i64 p], .agg #[.int .i64 x, .int .i32 y], .int .i64 t] w fun e w' => e = .returned (.bool true) ∧ Below w.heap.size w w' := by
  have HD := Lib.hid fun w => draft_any x y w
  have HO := Lib.hid (okD x y)
  generalize dO x = o2 at *
  generalize dP y = p2 at *
  go_enter Try.func4, Try.ntmps4
  go_wp2_with fail
  refine (works09 _).mono ?_
  rintro e w1 ⟨rfl, hb1⟩
  have H1 : Below w.heap.size w w1 := (((Below.refl _ _).alloc (Nat.le_refl _) _).alloc (by simp <;> omega) _).trans (hb1.mono (by simp <;> omega))
  obtain ⟨hcl, hfr⟩ := bcell hb1
  have hz : w.heap.size + 1 < w1.heap.size := by have := hb1.size; simp at this; omega
  have k1 : w1.cell? ⟨w.heap.size, 0, none⟩ = some (.int .i64 o) := (hcl _ 0 (by simp <;> omega)).trans (by go_simp)
  have k2 : w1.cell? ⟨w.heap.size, 1, none⟩ = some (.int .i64 p) := (hcl _ 1 (by simp <;> omega)).trans (by go_simp)
  have k3 : w1.cell? ⟨w.heap.size + 1, 0, none⟩ = some (.int .i64 x) := (hcl _ 0 (by simp <;> omega)).trans (by go_simp)
  have k4 : w1.cell? ⟨w.heap.size + 1, 1, none⟩ = some (.int .i32 y) := (hcl _ 1 (by simp <;> omega)).trans (by go_simp)
  clear hcl hfr hb1
  have hz0 : w.heap.size < w1.heap.size := by omega
  go_wp2_with fail
  have f1 := Bw.cell hz0 k1
  have f2 := Bw.cell hz0 k2
  have f3 := Bw.cell hz k3
  have f4 := Bw.cell hz k4
  clear k1 k2 k3 k4
  refine wp_region_bw (by kernel_rfl) (by kernel_rfl) ?_
  repeat (go_big_quiet_step ((go_at_call 11; exact Calls.bw_of (HD.out _))))
  refine wpQuiet_nil ?_
  rintro _ ⟨⟨w2, hw2⟩, rfl⟩
  go_wp2_with fail
  go_loopw [19] (fun i wr => ∃ k : Nat, k ≤ 2 ∧ i = .int .i64 k ∧ Below w.heap.size w wr) (fun i _ => 2 - (intOf i).toNat)
  case atStart => exact ⟨0, by omega, rfl, H1.trans (hw2.mono H1.size)⟩
  case round =>
    clear f1 f2 f3 f4 hz hz0 hw2 H1 HD
    obtain ⟨k, hk, rfl, hB⟩ := hrel
    have hcase : k = 2 ∨ ∃ oo pp : Int, k < 2 ∧ ∀ W, (Instr.index 28 (.agg #[.int .i64 o, .int .i64 p, .int .i64 o2, .int .i64 p2]) (.int .i64 k)).run Try.prog W = .ok (.agg #[.int .i64 oo, .int .i64 pp]) W := by
      rcases (by omega : k = 0 ∨ k = 1 ∨ k = 2) with rfl | rfl | rfl
      · exact Or.inr ⟨o, p, by omega, fun _ => by kernel_rfl⟩
      · exact Or.inr ⟨o2, p2, by omega, fun _ => by kernel_rfl⟩
      · exact Or.inl rfl
    rcases hcase with rfl | ⟨oo, pp, hk2, hix⟩
    · go_wp2
      go_ret
      exact ⟨rfl, hB⟩
    · obtain ⟨kf, hkf⟩ : ∃ kf, okC oo pp = true → First oo pp t kf := by
        cases h : okC oo pp
        · exact ⟨0, fun q => by cases q⟩
        · obtain ⟨kf, hkf⟩ := first_ex t h
          exact ⟨kf, fun _ => hkf⟩
      have HT := Lib.hid fun w => true_any oo pp t kf w hkf
      have HU := Lib.hid fun w => refTrue_any oo pp t kf w hkf
      clear hkf
      go_wp2_with fail
      refine (HT.out _).mono ?_
      rintro e w2 ⟨rfl, hb2⟩
      have hz2 : wr.heap.size < w2.heap.size := by have := hb2.size; simp at this; omega
      have j1 : w2.cell? ⟨wr.heap.size, 0, none⟩ = some (.int .i64 oo) := (hb2.cell (p := ⟨wr.heap.size, 0, none⟩) (by simp)).trans (by go_simp)
      have j2 : w2.cell? ⟨wr.heap.size, 1, none⟩ = some (.int .i64 pp) := (hb2.cell (p := ⟨wr.heap.size, 1, none⟩) (by simp)).trans (by go_simp)
      have hB2 : Below w.heap.size w w2 := (hB.alloc hB.size _).trans (hb2.mono (by simp; have := hB.size; omega))
      clear hb2
      go_wp2_with fail
      refine (HU.out _).mono ?_
      rintro e w3 ⟨rfl, hb3⟩
      have hB3 := hB2.trans (hb3.mono hB2.size)
      clear hb3 j1 j2 hz2
      go_wp2
      go_roundw
      case rel => exact ⟨k + 1, by omega, by go_num, hB3⟩
      case measure => simp [intOf]; omega
end Go.Proofs.Ytphinhebnekmlaa
