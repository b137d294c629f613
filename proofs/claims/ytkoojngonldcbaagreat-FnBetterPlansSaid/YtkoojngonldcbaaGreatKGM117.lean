/- DERIVED. Plain words: the points of a scale rise strictly; the nearest figure. No program in sight. -/
import Derived.Laws.EntriesVeiled
import Derived.Test.YtkoojngonldcbaaGreatKGPA
import Derived.Test.YtkoojngonldcbaaGreatKGM34
import Derived.Test.YtkoojngonldcbaaGreatKGM93
import Derived.Test.YtkoojngonldcbaaGreatKGM22
import Derived.Test.YtkoojngonldcbaaGreatKGM17
import Derived.Test.YtkoojngonldcbaaGreatKGBA
import Derived.Test.YtkoojngonldcbaaGreatKGM13
import Derived.Test.YtkoojngonldcbaaGreatKGM107
namespace Go.Proofs.YtkoojngonldcbaaGreat
set_option linter.unusedVariables false
set_option linter.unusedSimpArgs false
set_option maxRecDepth 100000
def decN (s : Int) : Int := if s = 1 then 2 else if s = 2 then 3 else 1
def P (s n : Int) : Int := ptF s (atF n)
def aw (s t n : Int) : Int := max (P s n - t) (t - P s n)
def le3 (s t n m : Int) : Prop := aw s t n < aw s t m ∨ (aw s t n = aw s t m ∧ n ≤ m)
theorem le3_refl (s t n : Int) : le3 s t n n := .inr ⟨rfl, by omega⟩
theorem le3_trans {s t a b c : Int} (h : le3 s t a b) (h' : le3 s t b c) : le3 s t a c := by
  unfold le3 at *
  omega
def IsNear (s t a b n : Int) : Prop := a ≤ n ∧ n < b ∧ ∀ m, a ≤ m → m < b → le3 s t n m
def reach (s t n : Int) : Prop := if s = 3 then P s n ≤ t else t ≤ P s n
instance (s t n : Int) : Decidable (reach s t n) := by unfold reach; split <;> infer_instance
theorem near_snoc {s t a n k : Int} (hn : IsNear s t a k n) (hk : a ≤ k) : (aw s t k < aw s t n → IsNear s t a (k + 1) k) ∧ (¬ aw s t k < aw s t n → IsNear s t a (k + 1) n) := by
  obtain ⟨n1, n2, n3⟩ := hn
  constructor
  · intro hlt
    refine ⟨by omega, by omega, fun m m1 m2 => ?_⟩
    by_cases he : m = k
    · subst he; exact le3_refl s t m
    · exact le3_trans (.inl hlt) (n3 m m1 (by omega))
  · intro hlt
    refine ⟨n1, by omega, fun m m1 m2 => ?_⟩
    by_cases he : m = k
    · subst he; unfold le3; omega
    · exact n3 m m1 (by omega)
theorem near_one {s t a : Int} : IsNear s t a (a + 1) a := ⟨by omega, by omega, fun m h1 h2 => by rw [show m = a by omega]; exact le3_refl s t a⟩
def InvO (s t x : Int) : Option Int → Prop
  | none => x = 0
  | some n => IsNear s t 0 x n
end Go.Proofs.YtkoojngonldcbaaGreat
namespace Go.Proofs.YtkoojngonldcbaaGreat
set_option linter.unusedVariables false
set_option linter.unusedSimpArgs false
open Go.RowKit
set_option maxRecDepth 100000
def SoFar (s t lo k B M : Int) : Prop := (k = lo ∧ B = -1 ∧ M = 0) ∨ (lo < k ∧ 0 ≤ B ∧ IsNear s t lo k B ∧ aw s t B = M)
theorem SoFar.take {s t lo k B M A : Int} (h : SoFar s t lo k B M) (h0 : 0 ≤ lo) (hA : aw s t k = A) (hlt : B < 0 ∨ A < M) : SoFar s t lo (k + 1) k A := by
 rcases h with ⟨rfl, rfl, rfl⟩ | ⟨h1, h2, h3, h4⟩
 · exact .inr ⟨by omega, h0, near_one, hA⟩
 · refine .inr ⟨by omega, by omega, (near_snoc h3 (by omega)).1 (by omega), hA⟩
end Go.Proofs.YtkoojngonldcbaaGreat
namespace Go.Proofs.YtkoojngonldcbaaGreat
set_option linter.unusedVariables false
set_option linter.unusedSimpArgs false
open Go.RowKit
set_option maxRecDepth 100000
def BestAt (w : World) (kL kB : Nat) (s t : Int) (o : Option Int) : Prop :=
 w.heap[kL]? = some (.cells #[.int .i64 (match o with | none => -1 | some n => aw s t n)] 2 (0, 0)) ∧
 w.heap[kB]? = some (.cells #[.int .i64 (match o with | none => 0 | some n => (atF n).d), .int .i64 (match o with | none => 0 | some n => (atF n).t)] 46 (0, 0))
end Go.Proofs.YtkoojngonldcbaaGreat
namespace Go.Proofs.YtkoojngonldcbaaGreat
set_option linter.unusedVariables false
set_option linter.unusedSimpArgs false
open Go.RowKit
set_option maxRecDepth 100000
structure SegRow (w : World) (kG kN : Nat) (A B tn : Int) (b off cap : Nat) : Prop where
 sg : w.heap[kG]? = some (.cells #[.slice (some ⟨b, off, none⟩) 2 cap] 24 (0, 0))
 row : RowAt w b off (nums [A, B])
 tn : w.heap[kN]? = some (.cells #[.int .i64 tn] 2 (0, 0))
theorem SegRow.later {w w' : World} {kG kN : Nat} {A B tn : Int} {b off cap : Nat} (h : SegRow w kG kN A B tn b off cap) (hL : Later w w') : SegRow w' kG kN A B tn b off cap :=
 ⟨hL.keep h.sg, h.row.later hL, hL.keep h.tn⟩
structure SegAt (w : World) (kS kF kG kN : Nat) (s A B tn : Int) (b off cap : Nat) : Prop where
 sc : w.heap[kS]? = some (.cells #[.int .i64 s] 2 (0, 0))
 fg : w.heap[kF]? = some (.cells #[.func (.func 135) #[] #[.pointer (some ⟨kG, 0, none⟩), .pointer (some ⟨kN, 0, none⟩)]] 150 (0, 0))
 rw : SegRow w kG kN A B tn b off cap
theorem SegAt.later {w w' : World} {kS kF kG kN : Nat} {s A B tn : Int} {b off cap : Nat} (h : SegAt w kS kF kG kN s A B tn b off cap) (hL : Later w w') : SegAt w' kS kF kG kN s A B tn b off cap :=
 ⟨hL.keep h.sc, hL.keep h.fg, h.rw.later hL⟩
end Go.Proofs.YtkoojngonldcbaaGreat
namespace Go.Proofs.YtkoojngonldcbaaGreat
set_option linter.unusedVariables false
set_option linter.unusedSimpArgs false
open Go.RowKit
set_option maxRecDepth 100000
theorem BestAt.later {w w' : World} {kL kB : Nat} {s t : Int} {o : Option Int} (h : BestAt w kL kB s t o) (hL : Later w w') : BestAt w' kL kB s t o := ⟨hL.keep h.1, hL.keep h.2⟩
theorem Later.ex {S : Nat → Prop} {a b c : World} (h : Later a b) (h' : Ex S b c) (hS : ∀ j, S j → a.heap.size ≤ j) : Later a c := Below.trans h (h'.below h.size hS)
theorem Ex.cell {S : Nat → Prop} {w w' : World} (h : Ex S w w') {p : Addr} (hp : p.block < w.heap.size) (hS : ¬ S p.block) : w'.cell? p = w.cell? p :=
 World.cell?_of_block (w := w) (h.block p.block hp hS)
theorem RowAt.ex {S : Nat → Prop} {w w' : World} {b off : Nat} {xs : List Value} (h : RowAt w b off xs) (hX : Ex S w w') (hS : ¬ S b) : RowAt w' b off xs :=
 ⟨Nat.lt_of_lt_of_le h.1 hX.size, fun j u hu => (hX.cell (p := ⟨b, off + j, none⟩) h.1 hS).trans (h.2 j u hu)⟩
theorem SegAt.ex {S : Nat → Prop} {w w' : World} {kS kF kG kN : Nat} {s A B tn : Int} {b off cap : Nat} (h : SegAt w kS kF kG kN s A B tn b off cap) (hX : Ex S w w') (h1 : ¬ S kS) (h2 : ¬ S kF) (h3 : ¬ S kG) (h4 : ¬ S kN) (h5 : ¬ S b) : SegAt w' kS kF kG kN s A B tn b off cap :=
 ⟨hX.keep h.sc h1, hX.keep h.fg h2, hX.keep h.rw.sg h3, h.rw.row.ex hX h5, hX.keep h.rw.tn h4⟩
def sgN (s : Int) : Nat := if s = 4 then 2 else 1
def sgP (s : Int) : Nat → Int
 | 0 => 0
 | 1 => if s = 4 then 2143 else 9000
 | _ => 9000
def SegsAt (w : World) (s : Int) (kq : Nat) (kr : Nat → Nat) : Prop := kq < w.heap.size ∧ ∀ y, y < sgN s → w.cell? ⟨kq, y, none⟩ = some (.slice (some ⟨kr y, 0, none⟩) 2 2) ∧ RowAt w (kr y) 0 (nums [1000 + sgP s y, 999 + sgP s (y + 1)])
theorem SegsAt.ex {S : Nat → Prop} {w w' : World} {s : Int} {kq : Nat} {kr : Nat → Nat} (h : SegsAt w s kq kr) (hX : Ex S w w') (h1 : ¬ S kq) (h2 : ∀ y, y < sgN s → ¬ S (kr y)) : SegsAt w' s kq kr :=
 ⟨Nat.lt_of_lt_of_le h.1 hX.size, fun y hy => ⟨(hX.cell (p := ⟨kq, y, none⟩) h.1 h1).trans (h.2 y hy).1, (h.2 y hy).2.ex hX (h2 y hy)⟩⟩
theorem InvO.bd {s t x : Int} {o : Option Int} (h : InvO s t x o) (hx : x ≤ 9000 * decN s) : ∀ b, o = some b → 0 ≤ b ∧ b < 9000 * decN s := by
 intro b hb
 subst hb
 have h1 := h.1
 have h2 := h.2.1
 exact ⟨h1, by omega⟩
end Go.Proofs.YtkoojngonldcbaaGreat
namespace Go.Proofs.YtkoojngonldcbaaGreat
set_option linter.unusedVariables false
set_option linter.unusedSimpArgs false
open Go.RowKit
set_option maxRecDepth 100000
theorem own_trms_take' {w : World} {base n cap : Nat} {e : TypeId} {a : Option Addr} {l : List Trm} (ho : w.ownsRow base e 3 (.slice a n cap) n (trms l)) (hl : l.length = n) {k : Nat} (hk : k ≤ n) (h0 : 0 < k) : w.ownsRow base e 3 (.slice a k cap) (l.take k).length (trms (l.take k)) := by
 have h := own_take ho hk (fun e _ => absurd e (by omega))
 have e1 : (trms l).take (k * 3) = trms (l.take k) := flat_take Trm.cells 3 (fun _ => rfl) l k
 have e2 : (l.take k).length = k := by rw [List.length_take]; omega
 rw [e1] at h
 rw [e2]
 exact h
end Go.Proofs.YtkoojngonldcbaaGreat
