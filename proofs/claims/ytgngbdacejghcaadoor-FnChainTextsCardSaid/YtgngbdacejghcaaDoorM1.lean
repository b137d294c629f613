/- DERIVED. Walks: small functions on numbers, figures, terms and moves. -/
import Derived.Test.YtgngbdacejghcaaDoorBA
namespace Go.Proofs.YtgngbdacejghcaaDoor
set_option linter.unusedVariables false
set_option linter.unusedSimpArgs false
open Go.RowKit

theorem w_l01In (n lo hi : Int) (w : World) :
    Calls Tryd.prog 71 #[.int .i64 n, .int .i64 lo, .int .i64 hi] w fun e w' => e = .returned (.bool (inR n lo hi)) ∧ w = w' := by
  by_cases h1 : lo ≤ n <;> by_cases h2 : n ≤ hi
  all_goals
    go_enter Tryd.func71, Tryd.ntmps71
    go_wp2
    go_ret
    simp [inR, *]

theorem w_within (n lo hi : Int) (w : World) :
    Calls Tryd.prog 96 #[.int .i64 n, .int .i64 lo, .int .i64 hi] w fun e w' => e = .returned (.bool (inR n lo hi)) ∧ w = w' := by
  by_cases h1 : lo ≤ n <;> by_cases h2 : n ≤ hi
  all_goals
    go_enter Tryd.func96, Tryd.ntmps96
    go_wp2
    go_ret
    simp [inR, *]

theorem w_specIsFigure (d t : Int) (w : World) :
    Calls Tryd.prog 70 #[.agg #[.int .i64 d, .int .i64 t]] w fun e w' => e = .returned (.bool (isFig ⟨d, t⟩)) ∧ Later w w' := by
  simp only [isFig]
  go_enter Tryd.func70, Tryd.ntmps70
  go_wp2_with (go_at_call 71; refine (w_l01In _ _ _ _).mono ?_; rintro e w' ⟨rfl, rfl⟩)
  all_goals go_ret
  all_goals exact ⟨by simp [*], by (repeat (with_reducible first | exact Later.refl _ | refine Later.alloc ?_ _ | refine Later.drew ?_ | refine Later.drewN ?_ _ | refine Later.setCell ?_ (by simp; try omega) _ | refine Later.trans ?_ (by assumption)))⟩

theorem w_implIsFigure (d t : Int) (w : World) :
    Calls Tryd.prog 76 #[.agg #[.int .i64 d, .int .i64 t]] w fun e w' => e = .returned (.bool (isFig ⟨d, t⟩)) ∧ Later w w' := by
  simp only [isFig]
  go_enter Tryd.func76, Tryd.ntmps76
  go_wp2_with (go_at_call 96; refine (w_within _ _ _ _).mono ?_; rintro e w' ⟨rfl, rfl⟩)
  all_goals go_ret
  all_goals exact ⟨by simp [*], by (repeat (with_reducible first | exact Later.refl _ | refine Later.alloc ?_ _ | refine Later.drew ?_ | refine Later.drewN ?_ _ | refine Later.setCell ?_ (by simp; try omega) _ | refine Later.trans ?_ (by assumption)))⟩

theorem w_toFigure (d t : Int) (w : World) :
    Calls Tryd.prog 73 #[.agg #[.int .i64 d, .int .i64 t]] w fun e w' => e = .returned (.agg #[.int .i64 d, .int .i64 t]) ∧ Later w w' := by
  go_enter Tryd.func73, Tryd.ntmps73
  go_wp2
  refine bodyPost_ret (v := .agg #[.int .i64 d, .int .i64 t]) (by simp [results, Tryd.results73, go_sem]) rfl ⟨rfl, ?_⟩
  (repeat (with_reducible first | exact Later.refl _ | refine Later.alloc ?_ _ | refine Later.drew ?_ | refine Later.drewN ?_ _ | refine Later.setCell ?_ (by simp; try omega) _ | refine Later.trans ?_ (by assumption)))

theorem w_toTerm (d t : Int) (dv : Bool) (w : World) :
    Calls Tryd.prog 38 #[.agg #[.int .i64 d, .int .i64 t, .bool dv]] w fun e w' => e = .returned (.agg #[.int .i64 d, .int .i64 t, .bool dv]) ∧ Later w w' := by
  go_enter Tryd.func38, Tryd.ntmps38
  go_wp2_with (go_at_call 73; refine (w_toFigure _ _ _).mono ?_; rintro e w1 ⟨rfl, hL⟩; obtain ⟨⟨c0, f0, z0⟩, ⟨c1, f1, z1⟩, ⟨c2, f2, z2⟩⟩ := blk3 hL)
  refine bodyPost_ret (v := .agg #[.int .i64 d, .int .i64 t, .bool dv]) (by simp [results, Tryd.results38, go_sem, c1]) rfl ⟨rfl, ?_⟩
  (repeat (with_reducible first | exact Later.refl _ | refine Later.alloc ?_ _ | refine Later.drew ?_ | refine Later.drewN ?_ _ | refine Later.setCell ?_ (by simp; try omega) _ | refine Later.trans ?_ (by assumption)))

theorem w_toMove (k s d t : Int) (w : World) :
    Calls Tryd.prog 44 #[.agg #[.int .i64 k, .int .i64 s, .int .i64 d, .int .i64 t]] w fun e w' => e = .returned (.agg #[.int .i64 k, .int .i64 s, .int .i64 d, .int .i64 t]) ∧ Later w w' := by
  go_enter Tryd.func44, Tryd.ntmps44
  go_wp2_with fail
  refine (w_toFigure _ _ _).mono ?_
  rintro e w1 ⟨rfl, hL⟩
  obtain ⟨⟨c0, f0, z0⟩, ⟨c1, f1, z1⟩, ⟨c2, f2, z2⟩⟩ := blk3 hL
  go_wp2
  refine bodyPost_ret (v := .agg #[.int .i64 k, .int .i64 s, .int .i64 d, .int .i64 t]) (by simp [results, Tryd.results44, go_sem, c1]) rfl ⟨rfl, ?_⟩
  (repeat (with_reducible first | exact Later.refl _ | refine Later.alloc ?_ _ | refine Later.drew ?_ | refine Later.drewN ?_ _ | refine Later.setCell ?_ (by simp; try omega) _ | refine Later.trans ?_ (by assumption)))

theorem w_eqFigure (d t d' t' : Int) (w : World) :
    Calls Tryd.prog 78 #[.agg #[.int .i64 d, .int .i64 t], .agg #[.int .i64 d', .int .i64 t']] w fun e w' => e = .returned (.bool (eqFig ⟨d, t⟩ ⟨d', t'⟩)) ∧ Later w w' := by
  go_enter Tryd.func78, Tryd.ntmps78
  go_wp2
  all_goals go_ret
  all_goals exact ⟨by simp_all [eqFig, eqTrm] <;> grind, by (repeat (with_reducible first | exact Later.refl _ | refine Later.alloc ?_ _ | refine Later.drew ?_ | refine Later.drewN ?_ _ | refine Later.setCell ?_ (by simp; try omega) _ | refine Later.trans ?_ (by assumption)))⟩

theorem w_eqTerm (d t d' t' : Int) (dv dv' : Bool) (w : World) :
    Calls Tryd.prog 41 #[.agg #[.int .i64 d, .int .i64 t, .bool dv], .agg #[.int .i64 d', .int .i64 t', .bool dv']] w fun e w' => e = .returned (.bool (eqTrm ⟨⟨d, t⟩, dv⟩ ⟨⟨d', t'⟩, dv'⟩)) ∧ Later w w' := by
  go_enter Tryd.func41, Tryd.ntmps41
  go_wp2_with (go_at_call 78; refine (w_eqFigure _ _ _ _ _).mono ?_; rintro e w1 ⟨rfl, hL⟩; obtain ⟨⟨c0, f0, z0⟩, ⟨c1, f1, z1⟩⟩ := blk2 hL)
  all_goals go_ret
  all_goals exact ⟨by simp_all [eqFig, eqTrm] <;> grind, by (repeat (with_reducible first | exact Later.refl _ | refine Later.alloc ?_ _ | refine Later.drew ?_ | refine Later.drewN ?_ _ | refine Later.setCell ?_ (by simp; try omega) _ | refine Later.trans ?_ (by assumption)))⟩

theorem w_eqMove (k s d t k' s' d' t' : Int) (w : World) :
    Calls Tryd.prog 48 #[.agg #[.int .i64 k, .int .i64 s, .int .i64 d, .int .i64 t], .agg #[.int .i64 k', .int .i64 s', .int .i64 d', .int .i64 t']] w fun e w' => e = .returned (.bool (eqMov ⟨k, s, ⟨d, t⟩⟩ ⟨k', s', ⟨d', t'⟩⟩)) ∧ Later w w' := by
  go_enter Tryd.func48, Tryd.ntmps48
  go_wp2_with (go_at_call 78; refine (w_eqFigure _ _ _ _ _).mono ?_; rintro e w1 ⟨rfl, hL⟩)
  all_goals go_ret
  all_goals exact ⟨by simp_all [eqFig, eqMov] <;> grind, by (repeat (with_reducible first | exact Later.refl _ | refine Later.alloc ?_ _ | refine Later.drew ?_ | refine Later.drewN ?_ _ | refine Later.setCell ?_ (by simp; try omega) _ | refine Later.trans ?_ (by assumption)))⟩

theorem w_eqFigure_same (d t : Int) (w : World) :
    Calls Tryd.prog 78 #[.agg #[.int .i64 d, .int .i64 t], .agg #[.int .i64 d, .int .i64 t]] w fun e w' => e = .returned (.bool true) ∧ Later w w' :=
  (w_eqFigure d t d t w).mono fun _ _ ⟨h1, h2⟩ => ⟨by rw [h1]; simp [eqFig], h2⟩

end Go.Proofs.YtgngbdacejghcaaDoor
