/- near, of the laws of the layer num: some integer. -/
import Derived.Test.YtikojcakkmmebaaDoorWorks01
namespace Go.Proofs.YtikojcakkmmebaaDoor
open Go.RowKit

def nearV (n p : Int) : Int :=
  if p % 6 = 0 then n else if p % 6 = 1 then n % 18446744073709551616 % 9 - 4 else if p % 6 = 2 then 1125899906842624 + (n % 18446744073709551616 % 9 - 4)
  else if p % 6 = 3 then -1125899906842624 + (n % 18446744073709551616 % 9 - 4) else if p % 6 = 4 then 33554432 + (n % 18446744073709551616 % 9 - 4) else n % 18446744073709551616 % 2251799813685248
theorem near_val {n p : Int} (j : Int) (h : p % 6 = j) : nearV n p = if j = 0 then n else if j = 1 then n % 18446744073709551616 % 9 - 4 else if j = 2 then 1125899906842624 + (n % 18446744073709551616 % 9 - 4)
  else if j = 3 then -1125899906842624 + (n % 18446744073709551616 % 9 - 4) else if j = 4 then 33554432 + (n % 18446744073709551616 % 9 - 4) else n % 18446744073709551616 % 2251799813685248 := by unfold nearV; rw [h]
set_option maxHeartbeats 1000000 in
theorem near_any (n p : Int) (hp : 0 ≤ p ∧ p ≤ 255) (w : World) :
    Calls Tryd.prog 11 #[.int .i64 n, .int .u8 p] w fun e w' => e = .returned (.int .i64 (nearV n p)) ∧ w' = w := by
  obtain ⟨p0, p1⟩ := hp
  have e0 : IntKind.u64.wrap n = n % 18446744073709551616 := IntKind.wrap_u64 n
  have HV := fun j => Lib.hid (near_val (n := n) (p := p) j)
  obtain ⟨m, hm⟩ : ∃ m, n % 18446744073709551616 = m := ⟨_, rfl⟩
  have m0 : 0 ≤ m := by omega
  have m1 : m ≤ 18446744073709551615 := by omega
  rw [hm] at e0
  simp only [hm] at HV
  clear hm
  rcases (by omega : p % 6 = 0 ∨ p % 6 = 1 ∨ p % 6 = 2 ∨ p % 6 = 3 ∨ p % 6 = 4 ∨ p % 6 = 5) with h | h | h | h | h | h
  all_goals
    have H := Lib.hid ((HV _).out h)
    clear HV
    go_enter Tryd.func11, Tryd.ntmps11
    go_wp2
    go_ret
    exact ⟨ret_int (by rw [H.out]; rfl), rfl⟩
end Go.Proofs.YtikojcakkmmebaaDoor
