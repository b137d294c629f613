/- DERIVED. Small words for walks, the second part: blocks that stay, as they lie in the heap; cells that are set. -/
import Derived.Test.YtfhppnmbmdpjeaaB0
namespace Go.Proofs.Ytfhppnmbmdpjeaa
set_option linter.unusedVariables false
set_option linter.unusedSimpArgs false
open Go.RowKit

theorem kept1 {w w1 : World} {o0 : Obj} (h : Later (w.alloc o0) w1) :
    w1.heap[w.heap.size]? = some o0 := h.keep (heap_alloc_new _ _)

theorem kept2 {w w1 : World} {o0 o1 : Obj} (h : Later ((w.alloc o0).alloc o1) w1) :
    w1.heap[w.heap.size]? = some o0 ∧ w1.heap[w.heap.size + 1]? = some o1 := ⟨h.keep (heap_alloc_old _ _ (heap_alloc_new _ _)), h.keep (heap_alloc_new' _ _ (by simp))⟩

theorem kept3 {w w1 : World} {o0 o1 o2 : Obj} (h : Later (((w.alloc o0).alloc o1).alloc o2) w1) :
    w1.heap[w.heap.size]? = some o0 ∧ w1.heap[w.heap.size + 1]? = some o1 ∧ w1.heap[w.heap.size + 1 + 1]? = some o2 := ⟨h.keep (heap_alloc_old _ _ (heap_alloc_old _ _ (heap_alloc_new _ _))), h.keep (heap_alloc_old _ _ (heap_alloc_new' _ _ (by simp))), h.keep (heap_alloc_new' _ _ (by simp))⟩

theorem kept4 {w w1 : World} {o0 o1 o2 o3 : Obj} (h : Later ((((w.alloc o0).alloc o1).alloc o2).alloc o3) w1) :
    w1.heap[w.heap.size]? = some o0 ∧ w1.heap[w.heap.size + 1]? = some o1 ∧ w1.heap[w.heap.size + 1 + 1]? = some o2 ∧ w1.heap[w.heap.size + 1 + 1 + 1]? = some o3 := ⟨h.keep (heap_alloc_old _ _ (heap_alloc_old _ _ (heap_alloc_old _ _ (heap_alloc_new _ _)))), h.keep (heap_alloc_old _ _ (heap_alloc_old _ _ (heap_alloc_new' _ _ (by simp)))), h.keep (heap_alloc_old _ _ (heap_alloc_new' _ _ (by simp))), h.keep (heap_alloc_new' _ _ (by simp))⟩

theorem kept5 {w w1 : World} {o0 o1 o2 o3 o4 : Obj} (h : Later (((((w.alloc o0).alloc o1).alloc o2).alloc o3).alloc o4) w1) :
    w1.heap[w.heap.size]? = some o0 ∧ w1.heap[w.heap.size + 1]? = some o1 ∧ w1.heap[w.heap.size + 1 + 1]? = some o2 ∧ w1.heap[w.heap.size + 1 + 1 + 1]? = some o3 ∧ w1.heap[w.heap.size + 1 + 1 + 1 + 1]? = some o4 := ⟨h.keep (heap_alloc_old _ _ (heap_alloc_old _ _ (heap_alloc_old _ _ (heap_alloc_old _ _ (heap_alloc_new _ _))))), h.keep (heap_alloc_old _ _ (heap_alloc_old _ _ (heap_alloc_old _ _ (heap_alloc_new' _ _ (by simp))))), h.keep (heap_alloc_old _ _ (heap_alloc_old _ _ (heap_alloc_new' _ _ (by simp)))), h.keep (heap_alloc_old _ _ (heap_alloc_new' _ _ (by simp))), h.keep (heap_alloc_new' _ _ (by simp))⟩

theorem kept6 {w w1 : World} {o0 o1 o2 o3 o4 o5 : Obj} (h : Later ((((((w.alloc o0).alloc o1).alloc o2).alloc o3).alloc o4).alloc o5) w1) :
    w1.heap[w.heap.size]? = some o0 ∧ w1.heap[w.heap.size + 1]? = some o1 ∧ w1.heap[w.heap.size + 1 + 1]? = some o2 ∧ w1.heap[w.heap.size + 1 + 1 + 1]? = some o3 ∧ w1.heap[w.heap.size + 1 + 1 + 1 + 1]? = some o4 ∧ w1.heap[w.heap.size + 1 + 1 + 1 + 1 + 1]? = some o5 := ⟨h.keep (heap_alloc_old _ _ (heap_alloc_old _ _ (heap_alloc_old _ _ (heap_alloc_old _ _ (heap_alloc_old _ _ (heap_alloc_new _ _)))))), h.keep (heap_alloc_old _ _ (heap_alloc_old _ _ (heap_alloc_old _ _ (heap_alloc_old _ _ (heap_alloc_new' _ _ (by simp)))))), h.keep (heap_alloc_old _ _ (heap_alloc_old _ _ (heap_alloc_old _ _ (heap_alloc_new' _ _ (by simp))))), h.keep (heap_alloc_old _ _ (heap_alloc_old _ _ (heap_alloc_new' _ _ (by simp)))), h.keep (heap_alloc_old _ _ (heap_alloc_new' _ _ (by simp))), h.keep (heap_alloc_new' _ _ (by simp))⟩

theorem one_set {w : World} {k : Nat} {x : Value} {T : TypeId} (h : w.heap[k]? = some (.cells #[x] T (0, 0))) (a : Value) :
    (w.setCell ⟨k, 0, none⟩ a).heap[k]? = some (.cells #[a] T (0, 0)) := by
  rw [heap_setCell_same w k 0 _ T a h]
  rfl
theorem three_set {w : World} {k : Nat} {x y z : Value} {T : TypeId} (h : w.heap[k]? = some (.cells #[x, y, z] T (0, 0))) (a b c : Value) :
    (((w.setCell ⟨k, 0, none⟩ a).setCell ⟨k, 1, none⟩ b).setCell ⟨k, 2, none⟩ c).heap[k]? = some (.cells #[a, b, c] T (0, 0)) := by
  rw [heap_setCell_same _ k 2 _ T c (heap_setCell_same _ k 1 _ T b (heap_setCell_same w k 0 _ T a h))]
  rfl
theorem four_set {w : World} {k : Nat} {x y z u : Value} {T : TypeId} (h : w.heap[k]? = some (.cells #[x, y, z, u] T (0, 0))) (a b c d : Value) :
    ((((w.setCell ⟨k, 0, none⟩ a).setCell ⟨k, 1, none⟩ b).setCell ⟨k, 2, none⟩ c).setCell ⟨k, 3, none⟩ d).heap[k]? = some (.cells #[a, b, c, d] T (0, 0)) := by
  rw [heap_setCell_same _ k 3 _ T d (heap_setCell_same _ k 2 _ T c (heap_setCell_same _ k 1 _ T b (heap_setCell_same w k 0 _ T a h)))]
  rfl

theorem set_0of2 {w : World} {k : Nat} {x y : Value} {T : TypeId} (h : w.heap[k]? = some (.cells #[x, y] T (0, 0))) (a : Value) :
    (w.setCell ⟨k, 0, none⟩ a).heap[k]? = some (.cells #[a, y] T (0, 0)) := by
  rw [heap_setCell_same w k 0 _ T a h]
  rfl
theorem set_1of2 {w : World} {k : Nat} {x y : Value} {T : TypeId} (h : w.heap[k]? = some (.cells #[x, y] T (0, 0))) (a : Value) :
    (w.setCell ⟨k, 1, none⟩ a).heap[k]? = some (.cells #[x, a] T (0, 0)) := by
  rw [heap_setCell_same w k 1 _ T a h]
  rfl

end Go.Proofs.Ytfhppnmbmdpjeaa
