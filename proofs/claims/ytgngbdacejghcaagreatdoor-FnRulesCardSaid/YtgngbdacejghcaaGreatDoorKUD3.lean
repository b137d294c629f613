/- DERIVED. Walks: figures and chains as text. -/
import Derived.Test.YtgngbdacejghcaaGreatDoorKUD2
import Derived.Test.YtgngbdacejghcaaGreatDoorKUM1
namespace Go.Proofs.YtgngbdacejghcaaGreatDoor
set_option linter.unusedVariables false
set_option linter.unusedSimpArgs false
open Go.RowKit
set_option maxRecDepth 100000
set_option linter.unusedVariables false
theorem itoa_len {n : Int} (h0 : -9223372036854775808 ≤ n) (h1 : n ≤ 9223372036854775807) : (Lib.itoa n).length ≤ 20 := by
 unfold Lib.itoa
 split
 · have := dec_len (u := n.natAbs) (k := 18) (by omega)
   simp only [List.length_cons]; omega
 · have := dec_len (u := n.toNat) (k := 18) (by omega)
   omega
theorem itoa_nat (n : Nat) : Lib.itoa (n : Int) = Lib.decDigits n := by rw [Lib.itoa, if_neg (by omega)]; rfl
end Go.Proofs.YtgngbdacejghcaaGreatDoor
