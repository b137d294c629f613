/- DERIVED. Small words for walks: a struct behind a pointer with a slice of its own, written by the call. -/
import Derived.Test.YtfhppnmbmdpjeaaB2
namespace Go.Proofs.Ytfhppnmbmdpjeaa
set_option linter.unusedVariables false
set_option linter.unusedSimpArgs false
open Go.RowKit

/-- From w to w' nothing has turned but block k and the row of q; q' has q's row or a new one. -/
structure PlGo (k : Nat) (q q' : Value) (w w' : World) : Prop where
  os : w'.os = w.os
  tape : w'.tape = w.tape
  output : w'.output = w.output
  size : w.heap.size ≤ w'.heap.size
  block : ∀ j, j < w.heap.size → j ≠ k → q.ownBlock ≠ some j → w'.heap[j]? = w.heap[j]?
  own : ∀ j, q'.ownBlock = some j → q.ownBlock = some j ∨ w.heap.size ≤ j

theorem PlGo.refl (k : Nat) (q : Value) (w : World) : PlGo k q q w w := ⟨rfl, rfl, rfl, Nat.le_refl _, fun _ _ _ _ => rfl, fun _ h => .inl h⟩
theorem PlGo.trans {k : Nat} {q q' q'' : Value} {a b c : World} (h : PlGo k q q' a b) (h' : PlGo k q' q'' b c) : PlGo k q q'' a c := by
  refine ⟨h'.os.trans h.os, h'.tape.trans h.tape, h'.output.trans h.output, Nat.le_trans h.size h'.size, fun j hj hk hq => ?_, fun j hj => ?_⟩
  · have hq' : q'.ownBlock ≠ some j := by
      intro e
      rcases h.own j e with e | e
      · exact hq e
      · omega
    exact (h'.block j (Nat.lt_of_lt_of_le hj h.size) hk hq').trans (h.block j hj hk hq)
  · rcases h'.own j hj with e | e
    · exact h.own j e
    · exact .inr (Nat.le_trans h.size e)
theorem PlGo.later {k : Nat} {q : Value} {w w' : World} (h : Later w w') : PlGo k q q w w' := ⟨h.os, h.tape, h.output, h.size, fun j hj _ _ => h.block j hj, fun _ h => .inl h⟩
theorem PlGo.keep {k : Nat} {q q' : Value} {w w' : World} (h : PlGo k q q' w w') {j : Nat} {x : Obj} (hx : w.heap[j]? = some x) (hk : j ≠ k) (hq : q.ownBlock ≠ some j) : w'.heap[j]? = some x :=
  (h.block j (Array.getElem?_eq_some_iff.1 hx).1 hk hq).trans hx
theorem PlGo.below {k B : Nat} {q q' : Value} {w w' : World} (h : PlGo k q q' w w') (hB : B ≤ w.heap.size) (hk : B ≤ k) (hq : ∀ j, q.ownBlock = some j → B ≤ j) : Below B w w' :=
  ⟨h.os, h.tape, h.output, h.size, fun j hj => h.block j (by omega) (by omega) (fun e => by have := hq j e; omega)⟩
theorem PlGo.setCell {k : Nat} {q : Value} (w : World) (o : Nat) (x : Value) : PlGo k q q w (w.setCell ⟨k, o, none⟩ x) :=
  ⟨rfl, rfl, rfl, by simp [World.setCell], fun j _ hk _ => Below.heap_setCell _ _ _ _ hk, fun _ h => .inl h⟩
theorem PlGo.grown {k : Nat} {q q' : Value} {w w' : World} (h : w.grownBy w' q.ownBlock) (hq : ∀ j, q'.ownBlock = some j → q.ownBlock = some j ∨ w.heap.size ≤ j) : PlGo k q q' w w' :=
  ⟨h.os, h.tape, h.output, h.size, fun j hj _ hq => h.block j hj (fun e => hq e.symm), hq⟩

/-- Seven cells. -/
theorem set_3of7 {w : World} {k : Nat} {a b c d e f g : Value} {T : TypeId} (h : w.heap[k]? = some (.cells #[a, b, c, d, e, f, g] T (0, 0))) (x : Value) :
    (w.setCell ⟨k, 3, none⟩ x).heap[k]? = some (.cells #[a, b, c, x, e, f, g] T (0, 0)) := by
  rw [heap_setCell_same w k 3 _ T x h]; rfl
theorem set_4of7 {w : World} {k : Nat} {a b c d e f g : Value} {T : TypeId} (h : w.heap[k]? = some (.cells #[a, b, c, d, e, f, g] T (0, 0))) (x : Value) :
    (w.setCell ⟨k, 4, none⟩ x).heap[k]? = some (.cells #[a, b, c, d, x, f, g] T (0, 0)) := by
  rw [heap_setCell_same w k 4 _ T x h]; rfl
theorem set_5of7 {w : World} {k : Nat} {a b c d e f g : Value} {T : TypeId} (h : w.heap[k]? = some (.cells #[a, b, c, d, e, f, g] T (0, 0))) (x : Value) :
    (w.setCell ⟨k, 5, none⟩ x).heap[k]? = some (.cells #[a, b, c, d, e, x, g] T (0, 0)) := by
  rw [heap_setCell_same w k 5 _ T x h]; rfl
theorem set_6of7 {w : World} {k : Nat} {a b c d e f g : Value} {T : TypeId} (h : w.heap[k]? = some (.cells #[a, b, c, d, e, f, g] T (0, 0))) (x : Value) :
    (w.setCell ⟨k, 6, none⟩ x).heap[k]? = some (.cells #[a, b, c, d, e, f, x] T (0, 0)) := by
  rw [heap_setCell_same w k 6 _ T x h]; rfl

end Go.Proofs.Ytfhppnmbmdpjeaa
