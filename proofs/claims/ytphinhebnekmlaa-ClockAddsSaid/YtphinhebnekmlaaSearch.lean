/- sort.Search: the first place from which on the function says true. -/
import Derived.Test.YtphinhebnekmlaaBase
import Derived.Shelf.Abstract
namespace Go.Proofs.Ytphinhebnekmlaa
open Go.RowKit Go.Shelf

set_option maxHeartbeats 800000 in
/-- 'k': the first place at which the function handed over says true ('n' where there is none). -/
theorem search_any (g : Nat) (cb : Array Value) (m : Int) (n k : Nat) (w : World) (hm : m = n) (hn : n ≤ 1152921504606846976) (hk : k ≤ n)
    (eg : ∀ args w, (callFunc g args).run Try.prog w = .ok (.enter g args) w)
    (hf : ∀ W, Below w.heap.size w W → ∀ i : Nat, i < n → Calls Try.prog g (#[.int .i64 i] ++ cb) W fun e w' => e = .returned (.bool (decide (k ≤ i))) ∧ Below W.heap.size W w') :
    Calls Try.prog 30 #[.int .i64 m, .func (.func g) #[] cb] w fun e w' => e = .returned (.int .i64 k) ∧ Below w.heap.size w w' := by
  subst hm
  have HF := Lib.hid hf
  clear hf
  go_enter Try.func30, Try.ntmps30
  go_wp2
  go_loopw [5, 6] (fun a b wr => ∃ lo hi : Nat, a = .int .i64 lo ∧ b = .int .i64 hi ∧ lo ≤ k ∧ k ≤ hi ∧ hi ≤ n ∧ Below w.heap.size w wr) (fun a b _ => (intOf b - intOf a).toNat)
  case atStart => exact ⟨0, n, rfl, rfl, Nat.zero_le _, hk, Nat.le_refl _, Below.refl _ _⟩
  case round =>
    obtain ⟨lo, hi, rfl, rfl, h1, h2, h3, hB⟩ := hrel
    by_cases hlt : lo < hi
    · have hc := HF.out _ hB ((lo + hi) / 2) (by omega)
      rw [show (((lo + hi) / 2 : Nat) : Int) = ((lo : Int) + (hi : Int)) / 2 by omega] at hc
      by_cases hm : k ≤ (lo + hi) / 2
      · rw [decide_eq_true hm] at hc
        have HC := Lib.hid hc
        clear hc
        go_wp2_with fail
        refine HC.out.mono ?_
        rintro e w1 ⟨rfl, hb⟩
        go_wp2
        go_roundw
        case rel => exact ⟨lo, (lo + hi) / 2, rfl, by go_num, by omega, by omega, by omega, hB.trans (hb.mono hB.size)⟩
        case measure => simp [intOf]; omega
      · rw [decide_eq_false hm] at hc
        have HC := Lib.hid hc
        clear hc
        go_wp2_with fail
        refine HC.out.mono ?_
        rintro e w1 ⟨rfl, hb⟩
        go_wp2
        go_roundw
        case rel => exact ⟨(lo + hi) / 2 + 1, hi, by go_num, rfl, by omega, by omega, by omega, hB.trans (hb.mono hB.size)⟩
        case measure => simp [intOf]; omega
    · have hlk : lo = k := by omega
      have HL : Hid ((lo : Int) = k) := Lib.hid (by omega)
      clear hlk
      go_wp2
      go_ret
      exact ⟨ret_int HL.out, hB⟩
end Go.Proofs.Ytphinhebnekmlaa
