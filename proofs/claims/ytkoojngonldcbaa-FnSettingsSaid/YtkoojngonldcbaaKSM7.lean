/- DERIVED. Walks: moves. -/
import Derived.Test.YtkoojngonldcbaaKSM1
namespace Go.Proofs.Ytkoojngonldcbaa
set_option linter.unusedVariables false
set_option linter.unusedSimpArgs false
open Go.RowKit
set_option maxRecDepth 100000
theorem w_specIsScale (s : Int) (w : World) : Calls Try.prog 200 #[.int .i64 s] w fun e w' => e = .returned (.bool (isScale s)) ∧ w = w' := by
 go_enter Try.func200, Try.ntmps200
 go_wp2_with (go_at_call 85; refine (w_l01In _ _ _ _).mono ?_; rintro e w' ⟨rfl, rfl⟩)
 go_ret
 exact ⟨rfl, rfl⟩
theorem w_implIsScale (s : Int) (w : World) : Calls Try.prog 178 #[.int .i64 s] w fun e w' => e = .returned (.bool (isScale s)) ∧ w = w' := by
 go_enter Try.func178, Try.ntmps178
 go_wp2_with (go_at_call 82; refine (w_within _ _ _ _).mono ?_; rintro e w' ⟨rfl, rfl⟩)
 go_ret
 exact ⟨rfl, rfl⟩
theorem w_l10Scale (s : Int) (w : World) : Calls Try.prog 211 #[.int .i64 s] w fun e w' => e = .returned (.bool (isScaleN s)) ∧ w = w' := by
 have h : isScaleN s = (isScale s && !(s == 5)) := rfl
 have H := Lib.hid h
 clear h
 go_enter Try.func211, Try.ntmps211
 go_wp2_with (go_at_call 200; refine (w_specIsScale _ _).mono ?_; rintro e w' ⟨rfl, rfl⟩)
 all_goals go_ret
 all_goals exact ⟨by (rw [H.out]; first | rfl | (simp [*]; done) | (simp_all [bne]; done) | (simp_all [bne] <;> grind)), rfl⟩
end Go.Proofs.Ytkoojngonldcbaa
