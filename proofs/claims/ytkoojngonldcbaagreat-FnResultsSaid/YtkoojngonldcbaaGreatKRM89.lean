/- DERIVED. Plain words: the orders of a chain's terms, and the first one of least cost. No program in sight. -/
import Derived.Test.YtkoojngonldcbaaGreatKRPA
import Derived.Test.YtkoojngonldcbaaGreatKRM10
import Derived.Test.YtkoojngonldcbaaGreatKRBA
namespace Go.Proofs.YtkoojngonldcbaaGreat
set_option linter.unusedVariables false
set_option linter.unusedSimpArgs false
set_option maxRecDepth 100000
structure GoodO (c : List Trm) (o : List Int) : Prop where
  range : ∀ k ∈ o, 0 ≤ k ∧ k < c.length
  head : headDv (orderedL c o) = false
theorem GoodO.nil (c : List Trm) : GoodO c [] := ⟨by simp, rfl⟩
end Go.Proofs.YtkoojngonldcbaaGreat
namespace Go.Proofs.YtkoojngonldcbaaGreat
set_option linter.unusedVariables false
set_option linter.unusedSimpArgs false
open Go.RowKit
set_option maxRecDepth 100000
theorem w_l01OwnS (ad : Addr) (k cap : Nat) (l : List Int) (w : World) (h : IsNums w (.slice (some ad) k cap) l) :
 Calls Tryz.prog 79 #[.slice (some ad) k cap] w fun e w' => ∃ a k c, e = .returned (.slice a k c) ∧ Later w w' ∧ w'.ownsRow w.heap.size 2 1 (.slice a k c) l.length (nums l) := by
 obtain ⟨h1, h2, a0, cap0, he, h4, h5, h6⟩ := h
 simp only [Value.slice.injEq] at he
 obtain ⟨rfl, rfl, rfl⟩ := he
 have HC := Lib.hid (show ∀ w2 : World, Later w w2 → ∀ j u, (nums l)[j]? = some u → w2.cell? (ad.add j) = some u from by
  intro w2 hL j u hj
  have hlt : j < (nums l).length := (List.getElem?_eq_some_iff.1 hj).1
  rw [nums_len] at hlt
  obtain ⟨b, off, hb, hr⟩ := h6 (by omega)
  simp only [Option.some.injEq] at hb
  subst hb
  exact (hr.later hL).add j u hj)
 clear h6
 go_enter Tryz.func79, Tryz.ntmps79
 go_wp2_with (at_builtin; refine app_Int64 rfl (.tmp 3) (.tmp 4) rfl w.heap.size _ [] rfl (own_empty (Nat.le_refl _) _ _) ad _ _ l rfl rfl (HC.out _ ((Later.refl _).alloc _)) (by simpa using h2) (by simp) ?_; intro v' w1 ho1 hg1)
 have hL1 : Later w w1 := Below.grown ((Later.refl w).alloc _) hg1 (by simp) fun q hq => by cases hq; exact Nat.le_refl _
 have ho2 : w1.ownsRow w.heap.size 2 1 v' l.length (nums l) := by simpa using ho1
 obtain ⟨a, k, e⟩ := isSl_of ho2
 subst e
 clear ho1 hg1
 go_ret
 exact ⟨_, _, _, rfl, hL1, ho2⟩
end Go.Proofs.YtkoojngonldcbaaGreat
