/- DERIVED. Walks: the laws' helpers on slices (MoveS). -/
import Derived.Test.YtkoojngonldcbaaM1
namespace Go.Proofs.Ytkoojngonldcbaa
set_option linter.unusedVariables false
set_option linter.unusedSimpArgs false
open Go.RowKit
set_option maxRecDepth 100000

theorem i_MoveS : (Try.prog.info? 74).map (fun i => (i.zero, i.size, i.bytes)) = some (some (.agg #[.int .i64 0, .int .i64 0, .int .i64 0, .int .i64 0]), 4, 32) := by kernel_rfl

def markMov (k : Int) : Nat → List Value
  | 0 => []
  | n + 1 => markMov k n ++ [.int .i64 (k + 4 * n), .int .i64 (k + 4 * n + 1), .int .i64 (k + 4 * n + 2), .int .i64 (k + 4 * n + 3)]
theorem markMov_len (k : Int) : ∀ n, (markMov k n).length = n * 4
  | 0 => rfl
  | n + 1 => by rw [markMov, List.length_append, markMov_len k n, Nat.succ_mul]; rfl
theorem markMov_get (k : Int) : ∀ n j, j < n → (markMov k n)[j * 4]? = some (.int .i64 (k + 4 * j)) ∧ (markMov k n)[j * 4 + 1]? = some (.int .i64 (k + 4 * j + 1)) ∧ (markMov k n)[j * 4 + 2]? = some (.int .i64 (k + 4 * j + 2)) ∧ (markMov k n)[j * 4 + 3]? = some (.int .i64 (k + 4 * j + 3))
  | 0, _, h => absurd h (Nat.not_lt_zero _)
  | n + 1, j, h => by
    by_cases hj : j < n
    · have ih := markMov_get k n j hj
      have hl := markMov_len k n
      rw [markMov, List.getElem?_append_left (by omega), List.getElem?_append_left (by omega), List.getElem?_append_left (by omega), List.getElem?_append_left (by omega)]
      exact ih
    · have : j = n := by omega
      subst this
      have hl := markMov_len k j
      rw [markMov, List.getElem?_append_right (by omega), List.getElem?_append_right (by omega), List.getElem?_append_right (by omega), List.getElem?_append_right (by omega), hl]
      simp

end Go.Proofs.Ytkoojngonldcbaa
