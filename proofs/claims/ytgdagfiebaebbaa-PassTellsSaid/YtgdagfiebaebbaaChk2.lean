/- The package ptp: Check at every message. -/
import Derived.Test.YtgdagfiebaebbaaChk1
namespace Go.Proofs.Ytgdagfiebaebbaa
open Go.RowKit

def msgV (v : Nat → Int) : Value := .agg #[.int .i64 (v 0), .int .i64 (v 1), .int .i64 (v 2), .int .i64 (v 3), .int .i64 (v 4), .int .i64 (v 5), .int .i64 (v 6), .int .i64 (v 7), .int .i64 (v 8), .int .i64 (v 9), .int .i64 (v 10), .int .i64 (v 11), .int .i64 (v 12), .int .i64 (v 13), .int .i64 (v 14), .int .i64 (v 15), .int .i64 (v 16)]
theorem pchk_any (v : Nat → Int) (w : World) : Calls Try.prog 46 #[msgV v] w fun e w' => e = .returned (.int .i64 (chkM v)) ∧ Below w.heap.size w w' := by
  by_cases n0 : v 0 = 0
  · have e0 : optF (v 0) = some [] := by unfold optF; rw [n0]; rfl
    have e1 : chkM v = if allOk v (allF []) && allEq (zeroed v (allF [])) (fun _ => 0) then 0 else 200 := by unfold chkM; rw [e0]
    rw [e1]
    exact chk_some v [] 71 w (by decide) (by decide) (fun _ _ => by kernel_rfl) (fun B w => none_any B w) ⟨_, by rw [find_kind, n0]; rfl⟩
  · by_cases n2 : v 0 = 2
    · have e0 : optF (v 0) = some [] := by unfold optF; rw [n2]; rfl
      have e1 : chkM v = if allOk v (allF []) && allEq (zeroed v (allF [])) (fun _ => 0) then 0 else 200 := by unfold chkM; rw [e0]
      rw [e1]
      exact chk_some v [] 71 w (by decide) (by decide) (fun _ _ => by kernel_rfl) (fun B w => none_any B w) ⟨_, by rw [find_kind, n2]; rfl⟩
    · by_cases n8 : v 0 = 8
      · have e0 : optF (v 0) = some followF := by unfold optF; rw [n8]; rfl
        have e1 : chkM v = if allOk v (allF followF) && allEq (zeroed v (allF followF)) (fun _ => 0) then 0 else 200 := by unfold chkM; rw [e0]
        rw [e1]
        exact chk_some v followF 72 w (by decide) (by decide) (fun _ _ => by kernel_rfl) (fun B w => follow_any B w) ⟨_, by rw [find_kind, n8]; rfl⟩
      · by_cases n3 : v 0 = 3
        · have e0 : optF (v 0) = some respF := by unfold optF; rw [n3]; rfl
          have e1 : chkM v = if allOk v (allF respF) && allEq (zeroed v (allF respF)) (fun _ => 0) then 0 else 200 := by unfold chkM; rw [e0]
          rw [e1]
          exact chk_some v respF 73 w (by decide) (by decide) (fun _ _ => by kernel_rfl) (fun B w => resp_any B w) ⟨_, by rw [find_kind, n3]; rfl⟩
        · by_cases n10 : v 0 = 10
          · have e0 : optF (v 0) = some respF := by unfold optF; rw [n10]; rfl
            have e1 : chkM v = if allOk v (allF respF) && allEq (zeroed v (allF respF)) (fun _ => 0) then 0 else 200 := by unfold chkM; rw [e0]
            rw [e1]
            exact chk_some v respF 73 w (by decide) (by decide) (fun _ _ => by kernel_rfl) (fun B w => resp_any B w) ⟨_, by rw [find_kind, n10]; rfl⟩
          · by_cases n11 : v 0 = 11
            · have e0 : optF (v 0) = some annF := by unfold optF; rw [n11]; rfl
              have e1 : chkM v = if allOk v (allF annF) && allEq (zeroed v (allF annF)) (fun _ => 0) then 0 else 200 := by unfold chkM; rw [e0]
              rw [e1]
              exact chk_some v annF 74 w (by decide) (by decide) (fun _ _ => by kernel_rfl) (fun B w => ann_any B w) ⟨_, by rw [find_kind, n11]; rfl⟩
            · have e0 : optF (v 0) = none := by unfold optF; rw [if_neg n0, if_neg n2, if_neg n8, if_neg n3, if_neg n10, if_neg n11]
              have e1 : chkM v = 200 := by unfold chkM; rw [e0]
              rw [e1]
              exact chk_none v w e0
end Go.Proofs.Ytgdagfiebaebbaa
