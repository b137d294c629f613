/- DERIVED. Walks: the laws' helpers on slices (TermS). -/
import Derived.Test.YtkoojngonldcbaaM1
namespace Go.Proofs.Ytkoojngonldcbaa
set_option linter.unusedVariables false
set_option linter.unusedSimpArgs false
open Go.RowKit
set_option maxRecDepth 100000

theorem i_TermS : (Try.prog.info? 55).map (fun i => (i.zero, i.size, i.bytes)) = some (some (.agg #[.int .i64 0, .int .i64 0, .bool false]), 3, 24) := by kernel_rfl

def markTrm (k : Int) : Nat → List Value
  | 0 => []
  | n + 1 => markTrm k n ++ [.int .i64 (k + 3 * n), .int .i64 (k + 3 * n + 1), .bool ((k + 3 * n + 1 + 1) % 3 == 0)]
theorem markTrm_len (k : Int) : ∀ n, (markTrm k n).length = n * 3
  | 0 => rfl
  | n + 1 => by rw [markTrm, List.length_append, markTrm_len k n, Nat.succ_mul]; rfl
theorem markTrm_get (k : Int) : ∀ n j, j < n → (markTrm k n)[j * 3]? = some (.int .i64 (k + 3 * j)) ∧ (markTrm k n)[j * 3 + 1]? = some (.int .i64 (k + 3 * j + 1)) ∧ (markTrm k n)[j * 3 + 2]? = some (.bool ((k + 3 * j + 1 + 1) % 3 == 0))
  | 0, _, h => absurd h (Nat.not_lt_zero _)
  | n + 1, j, h => by
    by_cases hj : j < n
    · have ih := markTrm_get k n j hj
      have hl := markTrm_len k n
      rw [markTrm, List.getElem?_append_left (by omega), List.getElem?_append_left (by omega), List.getElem?_append_left (by omega)]
      exact ih
    · have : j = n := by omega
      subst this
      have hl := markTrm_len k j
      rw [markTrm, List.getElem?_append_right (by omega), List.getElem?_append_right (by omega), List.getElem?_append_right (by omega), hl]
      simp

end Go.Proofs.Ytkoojngonldcbaa
