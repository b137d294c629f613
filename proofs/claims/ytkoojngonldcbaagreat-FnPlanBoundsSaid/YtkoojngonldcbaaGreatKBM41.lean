/- DERIVED. Walks: how far slide and cursor go. -/
import Derived.Test.YtkoojngonldcbaaGreatKBM37
import Derived.Test.YtkoojngonldcbaaGreatKBBA
namespace Go.Proofs.YtkoojngonldcbaaGreat
set_option linter.unusedVariables false
set_option linter.unusedSimpArgs false
open Go.RowKit
set_option maxRecDepth 100000
theorem isStg_bds {s : Stg} (h : isStg s = true) : -1048576 ≤ s.sh ∧ s.sh ≤ 1048576 ∧ 0 ≤ s.cu ∧ s.cu ≤ 1048576 := by
 unfold isStg at h
 simp [inR] at h
 omega
def Trv (s : Stg) (L : List Stg) (A B : Int) (S : Stg) : Prop := trav s L = (A, B) ∧ lastSt s L = S ∧ isStg S = true ∧ 0 ≤ A ∧ A ≤ L.length * 2097152 ∧ 0 ≤ B ∧ B ≤ L.length * 2097152
theorem Trv.zero {s : Stg} (h : isStg s = true) : Trv s [] 0 0 s := ⟨rfl, rfl, h, by omega, by simp, by omega, by simp⟩
theorem Trv.go {s : Stg} {L : List Stg} {A B : Int} {S : Stg} {x : Stg} (h : Trv s L A B S) (hx : isStg x = true) : Trv s (L ++ [x]) (A + max (x.sh - S.sh) (S.sh - x.sh)) (B + max (x.cu - S.cu) (S.cu - x.cu)) x := by
 obtain ⟨h1, h2, h3, h4, h5, h6, h7⟩ := h
 have b1 := isStg_bds h3
 have b2 := isStg_bds hx
 refine ⟨by rw [trav_snoc, h1, h2], lastSt_snoc _ _ _, hx, by omega, ?_, by omega, ?_⟩
 · simp only [List.length_append, List.length_cons, List.length_nil]; omega
 · simp only [List.length_append, List.length_cons, List.length_nil]; omega
end Go.Proofs.YtkoojngonldcbaaGreat
