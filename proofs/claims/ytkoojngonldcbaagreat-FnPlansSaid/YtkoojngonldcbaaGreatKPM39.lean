/- DERIVED. Walks: the first move that is not possible. -/
import Derived.Test.YtkoojngonldcbaaGreatKPM38
namespace Go.Proofs.YtkoojngonldcbaaGreat
set_option linter.unusedVariables false
set_option linter.unusedSimpArgs false
open Go.RowKit
set_option maxRecDepth 100000
theorem codeRun_cases (r : Rul) (s : Stg) (l : List Mov) : codeRun r s l = 0 ∨ codeRun r s l = 1 ∨ codeRun r s l = 3 := by
 unfold codeRun codeMoves
 split
 · split
   · split
     · exact .inl rfl
     · exact .inr (.inr rfl)
   · exact .inr (.inl rfl)
 · exact .inr (.inl rfl)
theorem allDone_yes {r : Rul} {s : Stg} {l : List Mov} {L : List Stg} (h : runSt r s l = L) (hd : L.length = l.length) : allDone r s l = true := by
 unfold allDone; rw [h, hd]; simp
theorem allDone_no {r : Rul} {s : Stg} {l : List Mov} {L : List Stg} (h : runSt r s l = L) (hd : L.length < l.length) : allDone r s l = false := by
 unfold allDone; rw [h]; simp; omega
end Go.Proofs.YtkoojngonldcbaaGreat
