/- DERIVED. Walks: the order of a scale. -/
import Derived.Test.YtfhppnmbmdpjeaaBA
namespace Go.Proofs.Ytfhppnmbmdpjeaa
set_option linter.unusedVariables false
set_option linter.unusedSimpArgs false
open Go.RowKit
set_option maxRecDepth 100000

theorem w_l17Order (s : Int) (w : World) : Calls Try.prog 126 #[.int .i64 s] w fun e w' => e = .returned (.int .i64 (ordScale s)) ∧ w = w' := by
  rcases ordScale_cases s with ⟨rfl, h⟩ | ⟨rfl, h⟩ | ⟨rfl, h⟩ | ⟨rfl, h⟩ | ⟨h0, h1, h2, h3, h⟩
  all_goals
    have HF := Lib.hid h
    clear h
    go_enter Try.func126, Try.ntmps126
    go_wp2
    go_ret
    exact ⟨by rw [HF.out]; rfl, rfl⟩

theorem w_orderOf (s : Int) (w : World) : Calls Try.prog 128 #[.int .i64 s] w fun e w' => e = .returned (.int .i64 (ordScale s)) ∧ w = w' := by
  rcases ordScale_cases s with ⟨rfl, h⟩ | ⟨rfl, h⟩ | ⟨rfl, h⟩ | ⟨rfl, h⟩ | ⟨h0, h1, h2, h3, h⟩
  all_goals
    have HF := Lib.hid h
    clear h
    go_enter Try.func128, Try.ntmps128
    go_wp2
    go_ret
    exact ⟨by rw [HF.out]; rfl, rfl⟩

end Go.Proofs.Ytfhppnmbmdpjeaa
