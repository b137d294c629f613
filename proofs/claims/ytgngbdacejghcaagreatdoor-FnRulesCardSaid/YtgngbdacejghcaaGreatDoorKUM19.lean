/- DERIVED. Walks: PlaceTransfer. -/
import Derived.Test.YtgngbdacejghcaaGreatDoorKUM18
import Derived.Test.YtgngbdacejghcaaGreatDoorKUPA
import Derived.Test.YtgngbdacejghcaaGreatDoorKUBA
namespace Go.Proofs.YtgngbdacejghcaaGreatDoor
set_option linter.unusedVariables false
set_option linter.unusedSimpArgs false
open Go.RowKit
set_option maxRecDepth 100000
theorem figs_lit {w : World} {k : Nat} {T : TypeId} {c : Array Value} (l : List Fig) (h : w.heap[k]? = some (.cells c T (0, 0))) (hc : c.toList = figs l) (hn : l.length ≤ 1048576) : IsFigs w (.slice (some ⟨k, 0, none⟩) l.length l.length) l := by
 refine ⟨figs_len l, hn, _, _, rfl, Nat.le_refl _, by omega, fun _ => ⟨k, 0, rfl, (Array.getElem?_eq_some_iff.1 h).1, fun j u hj => ?_⟩⟩
 rw [← hc] at hj
 rw [Nat.zero_add, (blk_at h).1]
 simpa using hj
end Go.Proofs.YtgngbdacejghcaaGreatDoor
