/- The clock of a draft. -/
import Derived.Test.YtgdagfiebaebbaaClock2
namespace Go.Proofs.Ytgdagfiebaebbaa
open Go.RowKit Go.Shelf

def dO (x : Int) : Int := x.tmod 1099511627777
def dP (y : Int) : Int := y.tmod 200001
theorem tmod_bd (a : Int) {b : Int} (hb : 0 < b) : -b < a.tmod b ∧ a.tmod b < b := by
  have h1 := Int.tmod_lt_of_pos a hb
  have h2 := Int.tmod_lt_of_pos (-a) hb
  rw [Int.neg_tmod] at h2
  omega
theorem okD (x y : Int) : okC (dO x) (dP y) = true := by
  have h1 := tmod_bd x (show (0 : Int) < 1099511627777 by omega)
  have h2 := tmod_bd y (show (0 : Int) < 200001 by omega)
  rw [okC_iff]; unfold dO dP; omega
set_option maxHeartbeats 400000 in
theorem draft_any (x y : Int) (w : World)  :
    Calls Try.prog 30 #[.agg #[.int .i64 x, .int .i32 y]] w fun e w' => e = .returned (.agg #[.int .i64 (dO x), .int .i64 (dP y)]) ∧ Below w.heap.size w w' := by
  have h1 := tmod_bd x (show (0 : Int) < 1099511627777 by omega)
  have h2 := tmod_bd y (show (0 : Int) < 200001 by omega)
  have e1 : x.tmod 1099511627777 = dO x := rfl
  have e2 : y.tmod 200001 = dP y := rfl
  rw [e1] at h1
  rw [e2] at h2
  go_enter Try.func30, Try.ntmps30
  go_wp2
  exact bodyPost_ret (v := .agg #[.int .i64 (dO x), .int .i64 (dP y)]) (by simp [results, Try.results30, go_sem]) rfl ⟨rfl, ((Below.refl _ _).alloc (Nat.le_refl _) _).alloc (by simp) _⟩
end Go.Proofs.Ytgdagfiebaebbaa
