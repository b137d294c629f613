/- DERIVED. Small words: the best order so far, in its two blocks. -/
import Derived.Laws.EntriesVeiled
import Derived.Test.YtkoojngonldcbaaGreatKBPA
import Derived.Test.YtkoojngonldcbaaGreatKBBA
import Derived.Test.YtkoojngonldcbaaGreatKBP12
import Derived.Test.YtkoojngonldcbaaGreatKBM34
import Derived.Test.YtkoojngonldcbaaGreatKBM69
import Derived.Test.YtkoojngonldcbaaGreatKBM30a
namespace Go.Proofs.YtkoojngonldcbaaGreat
set_option linter.unusedVariables false
set_option linter.unusedSimpArgs false
open Go.RowKit
set_option maxRecDepth 100000
structure Ex (S : Nat → Prop) (w w' : World) : Prop where
 os : w'.os = w.os
 tape : w'.tape = w.tape
 output : w'.output = w.output
 size : w.heap.size ≤ w'.heap.size
 block : ∀ j, j < w.heap.size → ¬ S j → w'.heap[j]? = w.heap[j]?
theorem Ex.refl (S : Nat → Prop) (w : World) : Ex S w w := ⟨rfl, rfl, rfl, Nat.le_refl _, fun _ _ _ => rfl⟩
theorem Ex.trans {S : Nat → Prop} {a b c : World} (h : Ex S a b) (h' : Ex S b c) : Ex S a c :=
 ⟨h'.os.trans h.os, h'.tape.trans h.tape, h'.output.trans h.output, Nat.le_trans h.size h'.size, fun j hj hS => (h'.block j (Nat.lt_of_lt_of_le hj h.size) hS).trans (h.block j hj hS)⟩
theorem Ex.of {S : Nat → Prop} {w w' : World} (h : Later w w') : Ex S w w' := ⟨h.os, h.tape, h.output, h.size, fun j hj _ => h.block j hj⟩
theorem Ex.later {S : Nat → Prop} {a b c : World} (h : Ex S a b) (h' : Later b c) : Ex S a c := h.trans (.of h')
theorem Ex.keep {S : Nat → Prop} {w w' : World} (h : Ex S w w') {j : Nat} {x : Obj} (hx : w.heap[j]? = some x) (hS : ¬ S j) : w'.heap[j]? = some x :=
 (h.block j (Array.getElem?_eq_some_iff.1 hx).1 hS).trans hx
theorem Ex.below {S : Nat → Prop} {B : Nat} {w w' : World} (h : Ex S w w') (hB : B ≤ w.heap.size) (hS : ∀ j, S j → B ≤ j) : Below B w w' :=
 ⟨h.os, h.tape, h.output, h.size, fun j hj => h.block j (by omega) (fun e => by have := hS j e; omega)⟩
theorem Ex.setCell {S : Nat → Prop} (w : World) (k o : Nat) (x : Value) (hS : S k) : Ex S w (w.setCell ⟨k, o, none⟩ x) :=
 ⟨rfl, rfl, rfl, by simp [World.setCell], fun j _ hj => Below.heap_setCell _ _ _ _ (fun e => hj (e ▸ hS))⟩
theorem Ex.mono {S T : Nat → Prop} {w w' : World} (h : Ex S w w') (hST : ∀ j, S j → T j) : Ex T w w' := ⟨h.os, h.tape, h.output, h.size, fun j hj hT => h.block j hj (fun e => hT (hST j e))⟩
theorem Ex.drop {S T : Nat → Prop} {a b c : World} (h : Ex T a b) (h' : Ex S b c) (hST : ∀ j, S j → j < a.heap.size → T j) : Ex T a c :=
 ⟨h'.os.trans h.os, h'.tape.trans h.tape, h'.output.trans h.output, Nat.le_trans h.size h'.size, fun j hj hT => (h'.block j (Nat.lt_of_lt_of_le hj h.size) (fun e => hT (hST j e hj))).trans (h.block j hj hT)⟩
theorem Ex.all {S : Nat → Prop} {a b : World} (h : Ex S a b) (hS : ∀ j, S j → a.heap.size ≤ j) : Later a b := h.below (Nat.le_refl _) hS
def BestSt (w : World) (kL kB base : Nat) (s : List Int × Int) : Prop :=
 w.heap[kL]? = some (.cells #[.int .i64 s.2] 2 (0, 0)) ∧ ∃ a l k, w.heap[kB]? = some (.cells #[.slice a l k] 24 (0, 0)) ∧ w.ownsRow base 2 1 (.slice a l k) s.1.length (nums s.1)
theorem BestSt.later {w w' : World} {kL kB base : Nat} {s : List Int × Int} (h : BestSt w kL kB base s) (hL : Later w w') : BestSt w' kL kB base s := by
 obtain ⟨h1, a, l, k, h2, h3⟩ := h
 exact ⟨hL.keep h1, a, l, k, hL.keep h2, owns_later h3 hL⟩
end Go.Proofs.YtkoojngonldcbaaGreat
namespace Go.Proofs.YtkoojngonldcbaaGreat
set_option linter.unusedVariables false
set_option linter.unusedSimpArgs false
open Go.RowKit
set_option maxRecDepth 100000
def BestAt (w : World) (kL kB : Nat) (s t : Int) (o : Option Int) : Prop :=
 w.heap[kL]? = some (.cells #[.int .i64 (match o with | none => -1 | some n => aw s t n)] 2 (0, 0)) ∧
 w.heap[kB]? = some (.cells #[.int .i64 (match o with | none => 0 | some n => (atF n).d), .int .i64 (match o with | none => 0 | some n => (atF n).t)] 46 (0, 0))
end Go.Proofs.YtkoojngonldcbaaGreat
namespace Go.Proofs.YtkoojngonldcbaaGreat
set_option linter.unusedVariables false
set_option linter.unusedSimpArgs false
open Go.RowKit
set_option maxRecDepth 100000
structure SegRow (w : World) (kG kN : Nat) (A B tn : Int) (b off cap : Nat) : Prop where
 sg : w.heap[kG]? = some (.cells #[.slice (some ⟨b, off, none⟩) 2 cap] 24 (0, 0))
 row : RowAt w b off (nums [A, B])
 tn : w.heap[kN]? = some (.cells #[.int .i64 tn] 2 (0, 0))
theorem SegRow.later {w w' : World} {kG kN : Nat} {A B tn : Int} {b off cap : Nat} (h : SegRow w kG kN A B tn b off cap) (hL : Later w w') : SegRow w' kG kN A B tn b off cap :=
 ⟨hL.keep h.sg, h.row.later hL, hL.keep h.tn⟩
structure SegAt (w : World) (kS kF kG kN : Nat) (s A B tn : Int) (b off cap : Nat) : Prop where
 sc : w.heap[kS]? = some (.cells #[.int .i64 s] 2 (0, 0))
 fg : w.heap[kF]? = some (.cells #[.func (.func 135) #[] #[.pointer (some ⟨kG, 0, none⟩), .pointer (some ⟨kN, 0, none⟩)]] 150 (0, 0))
 rw : SegRow w kG kN A B tn b off cap
theorem SegAt.later {w w' : World} {kS kF kG kN : Nat} {s A B tn : Int} {b off cap : Nat} (h : SegAt w kS kF kG kN s A B tn b off cap) (hL : Later w w') : SegAt w' kS kF kG kN s A B tn b off cap :=
 ⟨hL.keep h.sc, hL.keep h.fg, h.rw.later hL⟩
end Go.Proofs.YtkoojngonldcbaaGreat
namespace Go.Proofs.YtkoojngonldcbaaGreat
set_option linter.unusedVariables false
set_option linter.unusedSimpArgs false
open Go.RowKit
set_option maxRecDepth 100000
theorem BestAt.later {w w' : World} {kL kB : Nat} {s t : Int} {o : Option Int} (h : BestAt w kL kB s t o) (hL : Later w w') : BestAt w' kL kB s t o := ⟨hL.keep h.1, hL.keep h.2⟩
theorem Later.ex {S : Nat → Prop} {a b c : World} (h : Later a b) (h' : Ex S b c) (hS : ∀ j, S j → a.heap.size ≤ j) : Later a c := Below.trans h (h'.below h.size hS)
theorem Ex.cell {S : Nat → Prop} {w w' : World} (h : Ex S w w') {p : Addr} (hp : p.block < w.heap.size) (hS : ¬ S p.block) : w'.cell? p = w.cell? p :=
 World.cell?_of_block (w := w) (h.block p.block hp hS)
theorem RowAt.ex {S : Nat → Prop} {w w' : World} {b off : Nat} {xs : List Value} (h : RowAt w b off xs) (hX : Ex S w w') (hS : ¬ S b) : RowAt w' b off xs :=
 ⟨Nat.lt_of_lt_of_le h.1 hX.size, fun j u hu => (hX.cell (p := ⟨b, off + j, none⟩) h.1 hS).trans (h.2 j u hu)⟩
theorem SegAt.ex {S : Nat → Prop} {w w' : World} {kS kF kG kN : Nat} {s A B tn : Int} {b off cap : Nat} (h : SegAt w kS kF kG kN s A B tn b off cap) (hX : Ex S w w') (h1 : ¬ S kS) (h2 : ¬ S kF) (h3 : ¬ S kG) (h4 : ¬ S kN) (h5 : ¬ S b) : SegAt w' kS kF kG kN s A B tn b off cap :=
 ⟨hX.keep h.sc h1, hX.keep h.fg h2, hX.keep h.rw.sg h3, h.rw.row.ex hX h5, hX.keep h.rw.tn h4⟩
def sgN (s : Int) : Nat := if s = 4 then 2 else 1
def sgP (s : Int) : Nat → Int
 | 0 => 0
 | 1 => if s = 4 then 2143 else 9000
 | _ => 9000
def SegsAt (w : World) (s : Int) (kq : Nat) (kr : Nat → Nat) : Prop := kq < w.heap.size ∧ ∀ y, y < sgN s → w.cell? ⟨kq, y, none⟩ = some (.slice (some ⟨kr y, 0, none⟩) 2 2) ∧ RowAt w (kr y) 0 (nums [1000 + sgP s y, 999 + sgP s (y + 1)])
theorem SegsAt.ex {S : Nat → Prop} {w w' : World} {s : Int} {kq : Nat} {kr : Nat → Nat} (h : SegsAt w s kq kr) (hX : Ex S w w') (h1 : ¬ S kq) (h2 : ∀ y, y < sgN s → ¬ S (kr y)) : SegsAt w' s kq kr :=
 ⟨Nat.lt_of_lt_of_le h.1 hX.size, fun y hy => ⟨(hX.cell (p := ⟨kq, y, none⟩) h.1 h1).trans (h.2 y hy).1, (h.2 y hy).2.ex hX (h2 y hy)⟩⟩
theorem InvO.bd {s t x : Int} {o : Option Int} (h : InvO s t x o) (hx : x ≤ 9000 * decN s) : ∀ b, o = some b → 0 ≤ b ∧ b < 9000 * decN s := by
 intro b hb
 subst hb
 have h1 := h.1
 have h2 := h.2.1
 exact ⟨h1, by omega⟩
end Go.Proofs.YtkoojngonldcbaaGreat
