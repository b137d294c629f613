/- DERIVED. Walks: small functions on numbers, figures, terms and moves. -/
import Derived.Test.YtkoojngonldcbaaGreatKPBA
namespace Go.Proofs.YtkoojngonldcbaaGreat
set_option linter.unusedVariables false
set_option linter.unusedSimpArgs false
open Go.RowKit
theorem w_l01In (n lo hi : Int) (w : World) :
 Calls Tryz.prog 82 #[.int .i64 n, .int .i64 lo, .int .i64 hi] w fun e w' => e = .returned (.bool (inR n lo hi)) ∧ w = w' := by
 by_cases h1 : lo ≤ n <;> by_cases h2 : n ≤ hi
 all_goals
  go_enter Tryz.func82, Tryz.ntmps82
  go_wp2
  go_ret
  simp [inR, *]
theorem w_within (n lo hi : Int) (w : World) :
 Calls Tryz.prog 72 #[.int .i64 n, .int .i64 lo, .int .i64 hi] w fun e w' => e = .returned (.bool (inR n lo hi)) ∧ w = w' := by
 by_cases h1 : lo ≤ n <;> by_cases h2 : n ≤ hi
 all_goals
  go_enter Tryz.func72, Tryz.ntmps72
  go_wp2
  go_ret
  simp [inR, *]
theorem w_specIsFigure (d t : Int) (w : World) :
 Calls Tryz.prog 103 #[.agg #[.int .i64 d, .int .i64 t]] w fun e w' => e = .returned (.bool (isFig ⟨d, t⟩)) ∧ Later w w' := by
 simp only [isFig]
 go_enter Tryz.func103, Tryz.ntmps103
 go_wp2_with (go_at_call 82; refine (w_l01In _ _ _ _).mono ?_; rintro e w' ⟨rfl, rfl⟩)
 all_goals go_ret
 all_goals exact ⟨by simp [*], by (repeat (with_reducible first | exact Later.refl _ | refine qLa ?_ | refine qLd ?_ | refine qLe ?_ | refine qLs ?_ | refine qLt ?_ (by assumption)))⟩
theorem w_implIsFigure (d t : Int) (w : World) :
 Calls Tryz.prog 86 #[.agg #[.int .i64 d, .int .i64 t]] w fun e w' => e = .returned (.bool (isFig ⟨d, t⟩)) ∧ Later w w' := by
 simp only [isFig]
 go_enter Tryz.func86, Tryz.ntmps86
 go_wp2_with (go_at_call 72; refine (w_within _ _ _ _).mono ?_; rintro e w' ⟨rfl, rfl⟩)
 all_goals go_ret
 all_goals exact ⟨by simp [*], by (repeat (with_reducible first | exact Later.refl _ | refine qLa ?_ | refine qLd ?_ | refine qLe ?_ | refine qLs ?_ | refine qLt ?_ (by assumption)))⟩
end Go.Proofs.YtkoojngonldcbaaGreat
