/- DERIVED. Walks: moves. -/
import Derived.Test.YtgngbdacejghcaaGreatDoorKUM1
namespace Go.Proofs.YtgngbdacejghcaaGreatDoor
set_option linter.unusedVariables false
set_option linter.unusedSimpArgs false
open Go.RowKit
set_option maxRecDepth 100000
theorem w_specIsScale (s : Int) (w : World) : Calls Tryz.prog 173 #[.int .i64 s] w fun e w' => e = .returned (.bool (isScale s)) ∧ w = w' := by
 go_enter Tryz.func173, Tryz.ntmps173
 go_wp2_with (go_at_call 100; refine (w_l01In _ _ _ _).mono ?_; rintro e w' ⟨rfl, rfl⟩)
 go_ret
 exact ⟨rfl, rfl⟩
theorem w_implIsScale (s : Int) (w : World) : Calls Tryz.prog 112 #[.int .i64 s] w fun e w' => e = .returned (.bool (isScale s)) ∧ w = w' := by
 go_enter Tryz.func112, Tryz.ntmps112
 go_wp2_with (go_at_call 75; refine (w_within _ _ _ _).mono ?_; rintro e w' ⟨rfl, rfl⟩)
 go_ret
 exact ⟨rfl, rfl⟩
theorem w_l10Scale (s : Int) (w : World) : Calls Tryz.prog 146 #[.int .i64 s] w fun e w' => e = .returned (.bool (isScaleN s)) ∧ w = w' := by
 have h : isScaleN s = (isScale s && !(s == 5)) := rfl
 have H := Lib.hid h
 clear h
 go_enter Tryz.func146, Tryz.ntmps146
 go_wp2_with (go_at_call 173; refine (w_specIsScale _ _).mono ?_; rintro e w' ⟨rfl, rfl⟩)
 all_goals go_ret
 all_goals exact ⟨by (rw [H.out]; first | rfl | (simp [*]; done) | (simp_all [bne]; done) | (simp_all [bne] <;> grind)), rfl⟩
end Go.Proofs.YtgngbdacejghcaaGreatDoor
