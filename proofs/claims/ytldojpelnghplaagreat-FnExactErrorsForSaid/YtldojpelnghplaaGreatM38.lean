/- DERIVED. Walks: the code of a rule, a setting and moves. -/
import Derived.Test.YtldojpelnghplaaGreatM37
namespace Go.Proofs.YtldojpelnghplaaGreat
set_option linter.unusedVariables false
set_option linter.unusedSimpArgs false
open Go.RowKit
set_option maxRecDepth 100000

theorem codeRun_no {r : Rul} {s : Stg} {l : List Mov} (h : (isRule r && isStg s) = false) : codeRun r s l = 1 := by
  unfold codeRun; rw [h]; rfl
theorem codeRun_yes {r : Rul} {s : Stg} {l : List Mov} (h : isRule r = true) (h' : isStg s = true) : codeRun r s l = codeMoves l := by
  unfold codeRun; rw [h, h']; rfl

end Go.Proofs.YtldojpelnghplaaGreat
