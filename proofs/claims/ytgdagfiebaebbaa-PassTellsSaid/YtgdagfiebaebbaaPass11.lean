/- The reference of the layer pass: the information of a draft. -/
import Derived.Test.YtgdagfiebaebbaaPass10
namespace Go.Proofs.Ytgdagfiebaebbaa
open Go.RowKit

theorem tmodP_bd (a m : Int) (hm : 0 < m) : -(m - 1) ≤ a.tmod m ∧ a.tmod m ≤ m - 1 := by
  have h : (a.tmod m).natAbs = a.natAbs % m.natAbs := Int.natAbs_tmod a m
  have := Nat.mod_lt a.natAbs (y := m.natAbs) (by omega)
  omega
set_option maxRecDepth 100000 in
set_option maxHeartbeats 1000000 in
theorem rinfo_any (o c p : Int) (w : World) : Calls Try.prog 12 #[.agg #[.int .i64 o, .int .i64 c, .int .i32 p]] w fun e w' => e = .returned (.agg #[.int .i64 (o.tmod 4398046511105), .int .i64 (c.tmod 4398046511105), .int .i64 (p.tmod 8388609)]) ∧ Below w.heap.size w w' := by
  have b1 := tmodP_bd o 4398046511105 (by omega)
  have b2 := tmodP_bd c 4398046511105 (by omega)
  have b3 := tmodP_bd p 8388609 (by omega)
  obtain ⟨x, hx, x1, x2⟩ : ∃ x, o.tmod 4398046511105 = x ∧ -4398046511104 ≤ x ∧ x ≤ 4398046511104 := ⟨_, rfl, by omega, by omega⟩
  obtain ⟨y, hy, y1, y2⟩ : ∃ y, c.tmod 4398046511105 = y ∧ -4398046511104 ≤ y ∧ y ≤ 4398046511104 := ⟨_, rfl, by omega, by omega⟩
  obtain ⟨z, hz, z1, z2⟩ : ∃ z, p.tmod 8388609 = z ∧ -8388608 ≤ z ∧ z ≤ 8388608 := ⟨_, rfl, by omega, by omega⟩
  have e1 : IntKind.i64.wrap z = z := IntWalk.i64_in _ (by omega)
  have e2 : IntKind.i32.wrap z = z := IntKind.wrap_i32 z ▸ by omega
  rw [hx, hy, hz]
  clear b1 b2 b3
  go_enter Try.func12, Try.ntmps12
  go_wp2
  refine bodyPost_ret (v := .agg #[.int .i64 x, .int .i64 y, .int .i64 z]) (by simp [results, Try.results12, go_sem]) rfl ⟨rfl, ?_⟩
  first | exact ((Below.refl _ _).alloc (Nat.le_refl _) _).alloc (by simp) _ | exact ((((Below.refl _ _).alloc (Nat.le_refl _) _).alloc (by simp) _).setCell (by simp) _ |>.setCell (by simp) _).setCell (by simp) _
end Go.Proofs.Ytgdagfiebaebbaa
