/- DERIVED. Walks: signed numbers read from text (the reference's). -/
import Derived.Lib.IndexLaws
import Derived.Lib.CountLaws
import Derived.Lib.Replace
import Derived.Shelf.Strings.Cut
import Derived.Shelf.Strings.Replace
import Derived.Shelf.Small.Strs
import Derived.Shelf.Strings.OnBuilder
import Derived.Shelf.Lays
import Derived.Test.YtgngbdacejghcaaGreatDoorKUD11
import Derived.Test.YtgngbdacejghcaaGreatDoorKUD13
import Derived.Test.YtgngbdacejghcaaGreatDoorKUD3
import Derived.Test.YtgngbdacejghcaaGreatDoorProg
import Derived.Test.YtgngbdacejghcaaGreatDoorKUD5
import Derived.Test.YtgngbdacejghcaaGreatDoorKUD12
namespace Go.Proofs.YtgngbdacejghcaaGreatDoor
set_option linter.unusedVariables false
set_option linter.unusedSimpArgs false
open Go.RowKit
set_option maxRecDepth 100000
set_option linter.unusedVariables false
theorem itoa_pos_nat {t : Int} (h : 0 ≤ t) : Lib.itoa t = Lib.decDigits t.toNat := by rw [Lib.itoa, if_neg (by omega)]
theorem itoa_neg_nat {t : Int} (h : t < 0) : Lib.itoa t = 45 :: Lib.decDigits t.natAbs := by rw [Lib.itoa, if_pos h]
end Go.Proofs.YtgngbdacejghcaaGreatDoor
namespace Go.Proofs.YtgngbdacejghcaaGreatDoor
set_option linter.unusedVariables false
set_option linter.unusedSimpArgs false
open Go.RowKit
set_option maxRecDepth 100000
set_option linter.unusedVariables false
theorem scZ_scB {s : Int} (h0 : 0 ≤ s) (h5 : s ≤ 5) : scZ (scB s) = s := by
 have hx : s = 0 ∨ s = 1 ∨ s = 2 ∨ s = 3 ∨ s = 4 ∨ s = 5 := by omega
 rcases hx with rfl | rfl | rfl | rfl | rfl | rfl <;> decide
end Go.Proofs.YtgngbdacejghcaaGreatDoor
namespace Go.Proofs.YtgngbdacejghcaaGreatDoor
set_option linter.unusedVariables false
set_option linter.unusedSimpArgs false
open Go.RowKit
set_option maxRecDepth 100000
set_option linter.unusedVariables false
theorem join_cc (a b : List UInt8) (r : List (List UInt8)) (c : UInt8) : Lib.join (a :: b :: r) [c] = a ++ c :: Lib.join (b :: r) [c] := by
 rw [Lib.join_cons, Lib.join_cons]
 simp [Lib.joinTail]
theorem spl_app {b : UInt8} : ∀ {x r : List UInt8}, b ∉ x → spl b (x ++ b :: r) = x :: spl b r
 | [], r, _ => by simp [spl]
 | c :: x, r, h => by
  have hc : ¬ c = b := fun e => h (by simp [e])
  have ih := spl_app (x := x) (r := r) (fun m => h (List.mem_cons_of_mem _ m))
  rw [List.cons_append]
  conv => lhs; unfold spl
  rw [if_neg hc, ih]
theorem spl_no {b : UInt8} {x : List UInt8} (h : b ∉ x) : spl b x = [x] := spl_miss fun k hk => h (List.mem_of_getElem? hk)
theorem spl_join (b : UInt8) : ∀ L : List (List UInt8), L ≠ [] → (∀ x ∈ L, b ∉ x) → spl b (Lib.join L [b]) = L
 | [], h, _ => absurd rfl h
 | [x], _, h => by rw [Lib.join_one, spl_no (h x (by simp))]
 | x :: y :: r, _, h => by
  rw [join_cc, spl_app (h x (by simp)), spl_join b (y :: r) (by simp) (fun z hz => h z (List.mem_cons_of_mem _ hz))]
theorem itoa_chars (t : Int) : ∀ x ∈ Lib.itoa t, x = 45 ∨ (48 ≤ x.toNat ∧ x.toNat ≤ 57) := by
 intro x hx
 by_cases h : t < 0
 · rw [itoa_neg_nat h] at hx
   rcases List.mem_cons.1 hx with h1 | h1
   · exact .inl h1
   · exact .inr (digits_all _ _ (Nat.lt_succ_self _) x h1)
 · rw [itoa_pos_nat (by omega)] at hx
   exact .inr (digits_all _ _ (Nat.lt_succ_self _) x hx)
theorem scB_no {s : Int} (h0 : 0 ≤ s) (h5 : s ≤ 5) : (32 : UInt8) ∉ scB s := by
 have hx : s = 0 ∨ s = 1 ∨ s = 2 ∨ s = 3 ∨ s = 4 ∨ s = 5 := by omega
 rcases hx with rfl | rfl | rfl | rfl | rfl | rfl <;> decide
end Go.Proofs.YtgngbdacejghcaaGreatDoor
