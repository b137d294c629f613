/- DERIVED. Walks: the order of a scale. -/
import Derived.Test.YtcnbnlmoohieoaaB0
namespace Go.Proofs.Ytcnbnlmoohieoaa
set_option linter.unusedVariables false
set_option linter.unusedSimpArgs false
open Go.RowKit
set_option maxRecDepth 100000

theorem w_l17Order (s : Int) (w : World) : Calls Try.prog 53 #[.int .i64 s] w fun e w' => e = .returned (.int .i64 (ordScale s)) ∧ w = w' := by
  rcases ordScale_cases s with ⟨rfl, h⟩ | ⟨rfl, h⟩ | ⟨rfl, h⟩ | ⟨rfl, h⟩ | ⟨h0, h1, h2, h3, h⟩
  all_goals
    have HF := Lib.hid h
    clear h
    go_enter Try.func53, Try.ntmps53
    go_wp2
    go_ret
    exact ⟨by rw [HF.out]; rfl, rfl⟩

theorem w_orderOf (s : Int) (w : World) : Calls Try.prog 54 #[.int .i64 s] w fun e w' => e = .returned (.int .i64 (ordScale s)) ∧ w = w' := by
  rcases ordScale_cases s with ⟨rfl, h⟩ | ⟨rfl, h⟩ | ⟨rfl, h⟩ | ⟨rfl, h⟩ | ⟨h0, h1, h2, h3, h⟩
  all_goals
    have HF := Lib.hid h
    clear h
    go_enter Try.func54, Try.ntmps54
    go_wp2
    go_ret
    exact ⟨by rw [HF.out]; rfl, rfl⟩

theorem w_specOrderOf (s : Int) (w : World) : Calls Try.prog 15 #[.int .i64 s] w fun e w' => e = .returned (.tuple #[.int .i64 (ordScale s), .int .i64 (codeOrd s)]) ∧ w = w' := by
  have hc : codeOrd s = if ordScale s = 0 then 2 else 0 := rfl
  rcases ordScale_cases s with ⟨-, h⟩ | ⟨-, h⟩ | ⟨-, h⟩ | ⟨-, h⟩ | ⟨-, -, -, -, h⟩
  all_goals
    rw [h] at hc
    simp at hc
    have HF := Lib.hid h
    have HC := Lib.hid hc
    clear h hc
    go_enter Try.func15, Try.ntmps15
    go_wp2_with (go_at_call 53; refine (w_l17Order _ _).mono ?_; rintro e w' ⟨rfl, rfl⟩; rw [HF.out])
    go_ret2
    exact ⟨by rw [HF.out, HC.out]; rfl, rfl⟩

theorem w_implOrderOf (s : Int) (w : World) : Calls Try.prog 16 #[.int .i64 s] w fun e w' => e = .returned (.tuple #[.int .i64 (ordScale s), .int .i64 (codeOrd s)]) ∧ w = w' := by
  have hc : codeOrd s = if ordScale s = 0 then 2 else 0 := rfl
  rcases ordScale_cases s with ⟨-, h⟩ | ⟨-, h⟩ | ⟨-, h⟩ | ⟨-, h⟩ | ⟨-, -, -, -, h⟩
  all_goals
    rw [h] at hc
    simp at hc
    have HF := Lib.hid h
    have HC := Lib.hid hc
    clear h hc
    go_enter Try.func16, Try.ntmps16
    go_wp2_with (go_at_call 54; refine (w_orderOf _ _).mono ?_; rintro e w' ⟨rfl, rfl⟩; rw [HF.out])
    go_ret2
    exact ⟨by rw [HF.out, HC.out]; rfl, rfl⟩

end Go.Proofs.Ytcnbnlmoohieoaa
