/- DERIVED. Walks: the first move that is not possible. -/
import Derived.Test.YtldojpelnghplaaGreatM38
namespace Go.Proofs.YtldojpelnghplaaGreat
set_option linter.unusedVariables false
set_option linter.unusedSimpArgs false
open Go.RowKit
set_option maxRecDepth 100000

theorem codeRun_cases (r : Rul) (s : Stg) (l : List Mov) : codeRun r s l = 0 ∨ codeRun r s l = 1 ∨ codeRun r s l = 3 := by
  unfold codeRun codeMoves
  split
  · split
    · split
      · exact .inl rfl
      · exact .inr (.inr rfl)
    · exact .inr (.inl rfl)
  · exact .inr (.inl rfl)
theorem firstI_no {r : Rul} {s : Stg} {l : List Mov} {c : Int} (h : codeRun r s l = c) (hc : c ≠ 0) : firstI r s l = 0 := by
  unfold firstI; rw [h, if_neg hc]
theorem firstC_no {r : Rul} {s : Stg} {l : List Mov} {c : Int} (h : codeRun r s l = c) (hc : c ≠ 0) : firstC r s l = c := by
  unfold firstC; rw [h, if_neg hc]
theorem allDone_yes {r : Rul} {s : Stg} {l : List Mov} {L : List Stg} (h : runSt r s l = L) (hd : L.length = l.length) : allDone r s l = true := by
  unfold allDone; rw [h, hd]; simp
theorem allDone_no {r : Rul} {s : Stg} {l : List Mov} {L : List Stg} (h : runSt r s l = L) (hd : L.length < l.length) : allDone r s l = false := by
  unfold allDone; rw [h]; simp; omega
theorem firstI_done {r : Rul} {s : Stg} {l : List Mov} {L : List Stg} (h0 : codeRun r s l = 0) (h : runSt r s l = L) (hd : L.length = l.length) : firstI r s l = 0 := by
  unfold firstI; rw [h0, if_pos rfl, allDone_yes h hd]; rfl
theorem firstC_done {r : Rul} {s : Stg} {l : List Mov} {L : List Stg} (h0 : codeRun r s l = 0) (h : runSt r s l = L) (hd : L.length = l.length) : firstC r s l = 4 := by
  unfold firstC; rw [h0, if_pos rfl, allDone_yes h hd]; rfl
theorem firstI_stop {r : Rul} {s : Stg} {l : List Mov} {L : List Stg} (h0 : codeRun r s l = 0) (h : runSt r s l = L) (hd : L.length < l.length) : firstI r s l = L.length := by
  unfold firstI; rw [h0, if_pos rfl, allDone_no h hd, h]; rfl
theorem firstC_stop {r : Rul} {s : Stg} {l : List Mov} {L : List Stg} (h0 : codeRun r s l = 0) (h : runSt r s l = L) (hd : L.length < l.length) : firstC r s l = 0 := by
  unfold firstC; rw [h0, if_pos rfl, allDone_no h hd]; rfl

end Go.Proofs.YtldojpelnghplaaGreat
