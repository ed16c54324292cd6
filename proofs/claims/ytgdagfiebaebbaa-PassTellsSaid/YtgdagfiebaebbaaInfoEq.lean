/- Comparing two Infos. -/
import Derived.Test.YtgdagfiebaebbaaPass4
import Derived.Laws.StructEq
namespace Go.Proofs.Ytgdagfiebaebbaa
open Go.RowKit

theorem info_eq (o c p o' c' p' : Int) (W : World) : (Op.equalIn 10000 23 (.agg #[.int .i64 o', .int .i64 c', .int .i64 p']) (.agg #[.int .i64 o, .int .i64 c, .int .i64 p])).run Try.prog W = .ok (o' == o && (c' == c && p' == p)) W := by
  rw [run_equalIn_struct W 9999 23 _ _ (by kernel_rfl) (by kernel_rfl)]
  go_simp
  by_cases h1 : o' = o
  · by_cases h2 : c' = c
    · by_cases h3 : p' = p
      · simp [h1, h2, h3]
      · simp [h1, h2, h3]
    · simp [h1, h2]
  · simp [h1]
theorem info_other {o c p c' p' : Int} (h : ¬ (c' = c ∧ p' = p)) (W : World) : (Op.equalIn 10000 23 (.agg #[.int .i64 o, .int .i64 c', .int .i64 p']) (.agg #[.int .i64 o, .int .i64 c, .int .i64 p])).run Try.prog W = .ok false W := by
  rw [info_eq]
  congr 1
  by_cases h2 : c' = c
  · have h3 : ¬ p' = p := fun e => h ⟨h2, e⟩
    simp [h3]
  · simp [h2]
theorem info_same (o c p : Int) (W : World) : (Op.equalIn 10000 23 (.agg #[.int .i64 o, .int .i64 c, .int .i64 p]) (.agg #[.int .i64 o, .int .i64 c, .int .i64 p])).run Try.prog W = .ok true W := by
  rw [info_eq]
  simp
end Go.Proofs.Ytgdagfiebaebbaa
