/- DERIVED. Walks: readings, the reference's. -/
import Derived.Test.YtgngbdacejghcaaGreatDoorKUP12
import Derived.Test.YtgngbdacejghcaaGreatDoorKUM34
import Derived.Test.YtgngbdacejghcaaGreatDoorKUPA
import Derived.Test.YtgngbdacejghcaaGreatDoorKUBA
namespace Go.Proofs.YtgngbdacejghcaaGreatDoor
set_option linter.unusedVariables false
set_option linter.unusedSimpArgs false
open Go.RowKit
set_option maxRecDepth 100000
def SoFar (s t lo k B M : Int) : Prop := (k = lo ∧ B = -1 ∧ M = 0) ∨ (lo < k ∧ 0 ≤ B ∧ IsNear s t lo k B ∧ aw s t B = M)
theorem SoFar.take {s t lo k B M A : Int} (h : SoFar s t lo k B M) (h0 : 0 ≤ lo) (hA : aw s t k = A) (hlt : B < 0 ∨ A < M) : SoFar s t lo (k + 1) k A := by
 rcases h with ⟨rfl, rfl, rfl⟩ | ⟨h1, h2, h3, h4⟩
 · exact .inr ⟨by omega, h0, near_one, hA⟩
 · refine .inr ⟨by omega, by omega, (near_snoc h3 (by omega)).1 (by omega), hA⟩
end Go.Proofs.YtgngbdacejghcaaGreatDoor
namespace Go.Proofs.YtgngbdacejghcaaGreatDoor
set_option linter.unusedVariables false
set_option linter.unusedSimpArgs false
open Go.RowKit
set_option maxRecDepth 100000
structure Ex (S : Nat → Prop) (w w' : World) : Prop where
 os : w'.os = w.os
 tape : w'.tape = w.tape
 output : w'.output = w.output
 size : w.heap.size ≤ w'.heap.size
 block : ∀ j, j < w.heap.size → ¬ S j → w'.heap[j]? = w.heap[j]?
theorem Ex.refl (S : Nat → Prop) (w : World) : Ex S w w := ⟨rfl, rfl, rfl, Nat.le_refl _, fun _ _ _ => rfl⟩
theorem Ex.trans {S : Nat → Prop} {a b c : World} (h : Ex S a b) (h' : Ex S b c) : Ex S a c :=
 ⟨h'.os.trans h.os, h'.tape.trans h.tape, h'.output.trans h.output, Nat.le_trans h.size h'.size, fun j hj hS => (h'.block j (Nat.lt_of_lt_of_le hj h.size) hS).trans (h.block j hj hS)⟩
theorem Ex.of {S : Nat → Prop} {w w' : World} (h : Later w w') : Ex S w w' := ⟨h.os, h.tape, h.output, h.size, fun j hj _ => h.block j hj⟩
theorem Ex.later {S : Nat → Prop} {a b c : World} (h : Ex S a b) (h' : Later b c) : Ex S a c := h.trans (.of h')
theorem Ex.keep {S : Nat → Prop} {w w' : World} (h : Ex S w w') {j : Nat} {x : Obj} (hx : w.heap[j]? = some x) (hS : ¬ S j) : w'.heap[j]? = some x :=
 (h.block j (Array.getElem?_eq_some_iff.1 hx).1 hS).trans hx
theorem Ex.below {S : Nat → Prop} {B : Nat} {w w' : World} (h : Ex S w w') (hB : B ≤ w.heap.size) (hS : ∀ j, S j → B ≤ j) : Below B w w' :=
 ⟨h.os, h.tape, h.output, h.size, fun j hj => h.block j (by omega) (fun e => by have := hS j e; omega)⟩
theorem Ex.setCell {S : Nat → Prop} (w : World) (k o : Nat) (x : Value) (hS : S k) : Ex S w (w.setCell ⟨k, o, none⟩ x) :=
 ⟨rfl, rfl, rfl, by simp [World.setCell], fun j _ hj => Below.heap_setCell _ _ _ _ (fun e => hj (e ▸ hS))⟩
theorem Ex.mono {S T : Nat → Prop} {w w' : World} (h : Ex S w w') (hST : ∀ j, S j → T j) : Ex T w w' := ⟨h.os, h.tape, h.output, h.size, fun j hj hT => h.block j hj (fun e => hT (hST j e))⟩
theorem Ex.drop {S T : Nat → Prop} {a b c : World} (h : Ex T a b) (h' : Ex S b c) (hST : ∀ j, S j → j < a.heap.size → T j) : Ex T a c :=
 ⟨h'.os.trans h.os, h'.tape.trans h.tape, h'.output.trans h.output, Nat.le_trans h.size h'.size, fun j hj hT => (h'.block j (Nat.lt_of_lt_of_le hj h.size) (fun e => hT (hST j e hj))).trans (h.block j hj hT)⟩
theorem Ex.all {S : Nat → Prop} {a b : World} (h : Ex S a b) (hS : ∀ j, S j → a.heap.size ≤ j) : Later a b := h.below (Nat.le_refl _) hS
def Two (a b : Nat) (j : Nat) : Prop := j = a ∨ j = b
def BestSt (w : World) (kL kB base : Nat) (s : List Int × Int) : Prop :=
 w.heap[kL]? = some (.cells #[.int .i64 s.2] 2 (0, 0)) ∧ ∃ a l k, w.heap[kB]? = some (.cells #[.slice a l k] 24 (0, 0)) ∧ w.ownsRow base 2 1 (.slice a l k) s.1.length (nums s.1)
theorem BestSt.later {w w' : World} {kL kB base : Nat} {s : List Int × Int} (h : BestSt w kL kB base s) (hL : Later w w') : BestSt w' kL kB base s := by
 obtain ⟨h1, a, l, k, h2, h3⟩ := h
 exact ⟨hL.keep h1, a, l, k, hL.keep h2, owns_later h3 hL⟩
end Go.Proofs.YtgngbdacejghcaaGreatDoor
