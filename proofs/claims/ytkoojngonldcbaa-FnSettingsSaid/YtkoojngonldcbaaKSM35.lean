/- DERIVED. Walks: one move. -/
import Derived.Test.YtkoojngonldcbaaKSM34
import Derived.Test.YtkoojngonldcbaaKSBA
namespace Go.Proofs.Ytkoojngonldcbaa
set_option linter.unusedVariables false
set_option linter.unusedSimpArgs false
open Go.RowKit
set_option maxRecDepth 100000
theorem wp_name {P : Program} {c : Code} {Q : Exit → Act → World → Prop} {a : Act} {W : World} (h : ∀ u, u = W → Code.wp P c Q a u) : Code.wp P c Q a W := h W rfl
theorem w_l11On_st (n : Int) (u v : Value) (st sd : List Int) (w : World) (h : IsNums w u st) (h' : IsNums w v sd) :
 Calls Try.prog 185 #[.agg #[.int .i64 n, u, v], .bool false] w fun e w' => e = .returned u ∧ Later w w' := w_l11On n u v st sd false w h h'
theorem w_l11On_sl (n : Int) (u v : Value) (st sd : List Int) (w : World) (h : IsNums w u st) (h' : IsNums w v sd) :
 Calls Try.prog 185 #[.agg #[.int .i64 n, u, v], .bool true] w fun e w' => e = .returned v ∧ Later w w' := w_l11On n u v st sd true w h h'
end Go.Proofs.Ytkoojngonldcbaa
