/- DERIVED. Walks: how far slide and cursor go. -/
import Derived.Test.YtkoojngonldcbaaGreatKGM37
import Derived.Test.YtkoojngonldcbaaGreatKGBA
namespace Go.Proofs.YtkoojngonldcbaaGreat
set_option linter.unusedVariables false
set_option linter.unusedSimpArgs false
open Go.RowKit
set_option maxRecDepth 100000
def Trv (s : Stg) (L : List Stg) (A B : Int) (S : Stg) : Prop := trav s L = (A, B) ∧ lastSt s L = S ∧ isStg S = true ∧ 0 ≤ A ∧ A ≤ L.length * 2097152 ∧ 0 ≤ B ∧ B ≤ L.length * 2097152
theorem Trv.zero {s : Stg} (h : isStg s = true) : Trv s [] 0 0 s := ⟨rfl, rfl, h, by omega, by simp, by omega, by simp⟩
end Go.Proofs.YtkoojngonldcbaaGreat
