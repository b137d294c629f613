/- DERIVED. Walks: small functions on numbers, figures, terms and moves. -/
import Derived.Test.YtgngbdacejghcaaGreatDoorKVBA
namespace Go.Proofs.YtgngbdacejghcaaGreatDoor
set_option linter.unusedVariables false
set_option linter.unusedSimpArgs false
open Go.RowKit
theorem w_l01In (n lo hi : Int) (w : World) :
 Calls Tryz.prog 100 #[.int .i64 n, .int .i64 lo, .int .i64 hi] w fun e w' => e = .returned (.bool (inR n lo hi)) ∧ w = w' := by
 by_cases h1 : lo ≤ n <;> by_cases h2 : n ≤ hi
 all_goals
  go_enter Tryz.func100, Tryz.ntmps100
  go_wp2
  go_ret
  simp [inR, *]
theorem w_within (n lo hi : Int) (w : World) :
 Calls Tryz.prog 75 #[.int .i64 n, .int .i64 lo, .int .i64 hi] w fun e w' => e = .returned (.bool (inR n lo hi)) ∧ w = w' := by
 by_cases h1 : lo ≤ n <;> by_cases h2 : n ≤ hi
 all_goals
  go_enter Tryz.func75, Tryz.ntmps75
  go_wp2
  go_ret
  simp [inR, *]
theorem w_specIsFigure (d t : Int) (w : World) :
 Calls Tryz.prog 52 #[.agg #[.int .i64 d, .int .i64 t]] w fun e w' => e = .returned (.bool (isFig ⟨d, t⟩)) ∧ Later w w' := by
 simp only [isFig]
 go_enter Tryz.func52, Tryz.ntmps52
 go_wp2_with (go_at_call 100; refine (w_l01In _ _ _ _).mono ?_; rintro e w' ⟨rfl, rfl⟩)
 all_goals go_ret
 all_goals exact ⟨by simp [*], qla⟩
theorem w_implIsFigure (d t : Int) (w : World) :
 Calls Tryz.prog 46 #[.agg #[.int .i64 d, .int .i64 t]] w fun e w' => e = .returned (.bool (isFig ⟨d, t⟩)) ∧ Later w w' := by
 simp only [isFig]
 go_enter Tryz.func46, Tryz.ntmps46
 go_wp2_with (go_at_call 75; refine (w_within _ _ _ _).mono ?_; rintro e w' ⟨rfl, rfl⟩)
 all_goals go_ret
 all_goals exact ⟨by simp [*], qla⟩
end Go.Proofs.YtgngbdacejghcaaGreatDoor
