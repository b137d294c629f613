/- DERIVED. Walks: moves that are run. -/
import Derived.Test.YtkoojngonldcbaaGreatKGM36
import Derived.Test.YtkoojngonldcbaaGreatKGBA
import Derived.Test.YtkoojngonldcbaaGreatKGPA
namespace Go.Proofs.YtkoojngonldcbaaGreat
set_option linter.unusedVariables false
set_option linter.unusedSimpArgs false
open Go.RowKit
set_option maxRecDepth 100000
theorem owns_set {w : World} {base : Nat} {e : TypeId} {s : Nat} {v : Value} {n : Nat} {xs : List Value} (ho : w.ownsRow base e s v n xs) {k : Nat} (hk : k < base) (j : Nat) (x : Value) : (w.setCell ⟨k, j, none⟩ x).ownsRow base e s v n xs :=
 ho.kept (row := some k) (grown_setCell (grown_refl w (some k)) j x) (by
  cases h : v.ownBlock with
  | none => exact .inl rfl
  | some q =>
   refine .inr ?_
   have := (ho.lt q h).1
   simp
   omega)
theorem grown_keep {a b : World} {row : Option Nat} (h : a.grownBy b row) {k : Nat} {x : Obj} (hk : a.heap[k]? = some x) (hne : row ≠ some k) : b.heap[k]? = some x :=
 (h.block k (Array.getElem?_eq_some_iff.1 hk).1 (fun e => hne e.symm)).trans hk
theorem own_ne {w : World} {base : Nat} {e : TypeId} {s : Nat} {v : Value} {n : Nat} {xs : List Value} (ho : w.ownsRow base e s v n xs) {k : Nat} (hk : k < base ∨ w.heap.size ≤ k) : v.ownBlock ≠ some k := by
 intro h
 have := ho.lt k h
 omega
theorem w_implMoved (n : Int) (u v : Value) (st sd : List Int) (a b : Int) (m : Mov) (w : World) (h : IsNums w u st) (h' : IsNums w v sd) (hs : isStg ⟨a, b⟩ = true) (hm : isMove m = true) :
 Calls Tryz.prog 177 #[.agg #[.int .i64 n, u, v], .agg #[.int .i64 a, .int .i64 b], .agg #[.int .i64 m.k, .int .i64 m.s, .int .i64 m.f.d, .int .i64 m.f.t]] w fun e w' => e = .returned (.tuple #[.agg #[.int .i64 (mvS ⟨n, st, sd⟩ ⟨a, b⟩ m).sh, .int .i64 (mvS ⟨n, st, sd⟩ ⟨a, b⟩ m).cu], .bool (mvOk ⟨n, st, sd⟩ ⟨a, b⟩ m)]) ∧ Later w w' := by
 obtain ⟨k, s, ⟨d, t⟩⟩ := m
 rcases isMove_cases hm with ⟨k1, k2, h3, h4⟩ | ⟨k1, k2, h3, h4⟩
 · simp only at k1 k2 h3 h4
   have hb := isScaleN_bd h3
   rcases (show k = 0 ∨ k = 1 ∨ k = 2 by omega) with rfl | rfl | rfl
   · exact w_implMv0 n u v st sd a b s d t w h h' hs hb.1 hb.2 h4
   · exact w_implMv1 n u v st sd a b s d t w h h' hs hb.1 hb.2 h4
   · exact w_implMv2 n u v st sd a b s d t w h h' hs hb.1 hb.2 h4
 · simp only at k1 k2 h3 h4
   simp only [Fig.mk.injEq] at h4
   obtain ⟨rfl, rfl⟩ := h4
   subst h3
   rcases (show k = 3 ∨ k = 4 ∨ k = 5 ∨ k = 6 by omega) with rfl | rfl | rfl | rfl
   · exact w_implMv3 n u v st sd a b w h h' hs
   · exact w_implMv4 n u v st sd a b w h h' hs
   · exact w_implMv5 n u v st sd a b w h h' hs
   · exact w_implMv6 n u v st sd a b w h h' hs
theorem w_specMoved (n : Int) (u v : Value) (st sd : List Int) (a b : Int) (m : Mov) (w : World) (h : IsNums w u st) (h' : IsNums w v sd) (hs : isStg ⟨a, b⟩ = true) (hm : isMove m = true) :
 Calls Tryz.prog 127 #[.agg #[.int .i64 n, u, v], .agg #[.int .i64 a, .int .i64 b], .agg #[.int .i64 m.k, .int .i64 m.s, .int .i64 m.f.d, .int .i64 m.f.t]] w fun e w' => e = .returned (.tuple #[.agg #[.int .i64 (mvS ⟨n, st, sd⟩ ⟨a, b⟩ m).sh, .int .i64 (mvS ⟨n, st, sd⟩ ⟨a, b⟩ m).cu], .bool (mvOk ⟨n, st, sd⟩ ⟨a, b⟩ m)]) ∧ Later w w' := by
 obtain ⟨k, s, ⟨d, t⟩⟩ := m
 rcases isMove_cases hm with ⟨k1, k2, h3, h4⟩ | ⟨k1, k2, h3, h4⟩
 · simp only at k1 k2 h3 h4
   have hb := isScaleN_bd h3
   rcases (show k = 0 ∨ k = 1 ∨ k = 2 by omega) with rfl | rfl | rfl
   · exact w_specMv0 n u v st sd a b s d t w h h' hs hb.1 hb.2 h4
   · exact w_specMv1 n u v st sd a b s d t w h h' hs hb.1 hb.2 h4
   · exact w_specMv2 n u v st sd a b s d t w h h' hs hb.1 hb.2 h4
 · simp only at k1 k2 h3 h4
   simp only [Fig.mk.injEq] at h4
   obtain ⟨rfl, rfl⟩ := h4
   subst h3
   rcases (show k = 3 ∨ k = 4 ∨ k = 5 ∨ k = 6 by omega) with rfl | rfl | rfl | rfl
   · exact w_specMv3 n u v st sd a b w h h' hs
   · exact w_specMv4 n u v st sd a b w h h' hs
   · exact w_specMv5 n u v st sd a b w h h' hs
   · exact w_specMv6 n u v st sd a b w h h' hs
end Go.Proofs.YtkoojngonldcbaaGreat
