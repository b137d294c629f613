/- DERIVED. Walks: moves that are run; one move. -/
import Derived.Test.YtldojpelnghplaaGreatM39
namespace Go.Proofs.YtldojpelnghplaaGreat
set_option linter.unusedVariables false
set_option linter.unusedSimpArgs false
open Go.RowKit
set_option maxRecDepth 100000

theorem runMv_no {r : Rul} {s : Stg} {l : List Mov} {c : Int} (h : codeRun r s l = c) (hc : c ≠ 0) : runMv r s l = ⟨0, 0⟩ := by
  unfold runMv; rw [h, if_neg hc]
theorem runC_no {r : Rul} {s : Stg} {l : List Mov} {c : Int} (h : codeRun r s l = c) (hc : c ≠ 0) : runC r s l = c := by
  unfold runC; rw [h, if_neg hc]
theorem runMv_done {r : Rul} {s : Stg} {l : List Mov} {L : List Stg} (h0 : codeRun r s l = 0) (h : runSt r s l = L) (hd : L.length = l.length) : runMv r s l = lastSt s L := by
  unfold runMv; rw [h0, if_pos rfl, allDone_yes h hd, h]; rfl
theorem runC_done {r : Rul} {s : Stg} {l : List Mov} {L : List Stg} (h0 : codeRun r s l = 0) (h : runSt r s l = L) (hd : L.length = l.length) : runC r s l = 0 := by
  unfold runC; rw [h0, if_pos rfl, allDone_yes h hd]; rfl
theorem runMv_stop {r : Rul} {s : Stg} {l : List Mov} {L : List Stg} (h0 : codeRun r s l = 0) (h : runSt r s l = L) (hd : L.length < l.length) : runMv r s l = ⟨0, 0⟩ := by
  unfold runMv; rw [h0, if_pos rfl, allDone_no h hd]; rfl
theorem runC_stop {r : Rul} {s : Stg} {l : List Mov} {L : List Stg} (h0 : codeRun r s l = 0) (h : runSt r s l = L) (hd : L.length < l.length) : runC r s l = 5 := by
  unfold runC; rw [h0, if_pos rfl, allDone_no h hd]; rfl
theorem lastSt_get : ∀ (s : Stg) (L : List Stg), 0 < L.length → L[L.length - 1]? = some (lastSt s L)
  | _, [], h => absurd h (Nat.lt_irrefl _)
  | s, [x], _ => rfl
  | s, x :: y :: l, _ => by
    have := lastSt_get x (y :: l) (by simp)
    rw [lastSt, ← this]
    rfl

end Go.Proofs.YtldojpelnghplaaGreat
