/- DERIVED. Walks: small functions on numbers, figures, terms and moves. -/
import Derived.Test.YteangdeeijlijaaB0
namespace Go.Proofs.Yteangdeeijlijaa
set_option linter.unusedVariables false
set_option linter.unusedSimpArgs false
open Go.RowKit

theorem w_l01In (n lo hi : Int) (w : World) :
    Calls Try.prog 69 #[.int .i64 n, .int .i64 lo, .int .i64 hi] w fun e w' => e = .returned (.bool (inR n lo hi)) ∧ w = w' := by
  by_cases h1 : lo ≤ n <;> by_cases h2 : n ≤ hi
  all_goals
    go_enter Try.func69, Try.ntmps69
    go_wp2
    go_ret
    simp [inR, *]

theorem w_within (n lo hi : Int) (w : World) :
    Calls Try.prog 118 #[.int .i64 n, .int .i64 lo, .int .i64 hi] w fun e w' => e = .returned (.bool (inR n lo hi)) ∧ w = w' := by
  by_cases h1 : lo ≤ n <;> by_cases h2 : n ≤ hi
  all_goals
    go_enter Try.func118, Try.ntmps118
    go_wp2
    go_ret
    simp [inR, *]

theorem w_specIsFigure (d t : Int) (w : World) :
    Calls Try.prog 103 #[.agg #[.int .i64 d, .int .i64 t]] w fun e w' => e = .returned (.bool (isFig ⟨d, t⟩)) ∧ Later w w' := by
  simp only [isFig]
  go_enter Try.func103, Try.ntmps103
  go_wp2_with (go_at_call 69; refine (w_l01In _ _ _ _).mono ?_; rintro e w' ⟨rfl, rfl⟩)
  all_goals go_ret
  all_goals exact ⟨by simp [*], by (repeat (with_reducible first | exact Later.refl _ | refine Later.alloc ?_ _ | refine Later.drew ?_ | refine Later.drewN ?_ _ | refine Later.setCell ?_ (by simp; try omega) _ | refine Later.trans ?_ (by assumption)))⟩

theorem w_implIsFigure (d t : Int) (w : World) :
    Calls Try.prog 85 #[.agg #[.int .i64 d, .int .i64 t]] w fun e w' => e = .returned (.bool (isFig ⟨d, t⟩)) ∧ Later w w' := by
  simp only [isFig]
  go_enter Try.func85, Try.ntmps85
  go_wp2_with (go_at_call 118; refine (w_within _ _ _ _).mono ?_; rintro e w' ⟨rfl, rfl⟩)
  all_goals go_ret
  all_goals exact ⟨by simp [*], by (repeat (with_reducible first | exact Later.refl _ | refine Later.alloc ?_ _ | refine Later.drew ?_ | refine Later.drewN ?_ _ | refine Later.setCell ?_ (by simp; try omega) _ | refine Later.trans ?_ (by assumption)))⟩

theorem w_toFigure (d t : Int) (w : World) :
    Calls Try.prog 33 #[.agg #[.int .i64 d, .int .i64 t]] w fun e w' => e = .returned (.agg #[.int .i64 d, .int .i64 t]) ∧ Later w w' := by
  go_enter Try.func33, Try.ntmps33
  go_wp2
  refine bodyPost_ret (v := .agg #[.int .i64 d, .int .i64 t]) (by simp [results, Try.results33, go_sem]) rfl ⟨rfl, ?_⟩
  (repeat (with_reducible first | exact Later.refl _ | refine Later.alloc ?_ _ | refine Later.drew ?_ | refine Later.drewN ?_ _ | refine Later.setCell ?_ (by simp; try omega) _ | refine Later.trans ?_ (by assumption)))

theorem w_toTerm (d t : Int) (dv : Bool) (w : World) :
    Calls Try.prog 60 #[.agg #[.int .i64 d, .int .i64 t, .bool dv]] w fun e w' => e = .returned (.agg #[.int .i64 d, .int .i64 t, .bool dv]) ∧ Later w w' := by
  go_enter Try.func60, Try.ntmps60
  go_wp2_with (go_at_call 33; refine (w_toFigure _ _ _).mono ?_; rintro e w1 ⟨rfl, hL⟩; obtain ⟨⟨c0, f0, z0⟩, ⟨c1, f1, z1⟩, ⟨c2, f2, z2⟩⟩ := blk3 hL)
  refine bodyPost_ret (v := .agg #[.int .i64 d, .int .i64 t, .bool dv]) (by simp [results, Try.results60, go_sem, c1]) rfl ⟨rfl, ?_⟩
  (repeat (with_reducible first | exact Later.refl _ | refine Later.alloc ?_ _ | refine Later.drew ?_ | refine Later.drewN ?_ _ | refine Later.setCell ?_ (by simp; try omega) _ | refine Later.trans ?_ (by assumption)))

theorem w_toMove (k s d t : Int) (w : World) :
    Calls Try.prog 45 #[.agg #[.int .i64 k, .int .i64 s, .int .i64 d, .int .i64 t]] w fun e w' => e = .returned (.agg #[.int .i64 k, .int .i64 s, .int .i64 d, .int .i64 t]) ∧ Later w w' := by
  go_enter Try.func45, Try.ntmps45
  go_wp2_with fail
  refine (w_toFigure _ _ _).mono ?_
  rintro e w1 ⟨rfl, hL⟩
  obtain ⟨⟨c0, f0, z0⟩, ⟨c1, f1, z1⟩, ⟨c2, f2, z2⟩⟩ := blk3 hL
  go_wp2
  refine bodyPost_ret (v := .agg #[.int .i64 k, .int .i64 s, .int .i64 d, .int .i64 t]) (by simp [results, Try.results45, go_sem, c1]) rfl ⟨rfl, ?_⟩
  (repeat (with_reducible first | exact Later.refl _ | refine Later.alloc ?_ _ | refine Later.drew ?_ | refine Later.drewN ?_ _ | refine Later.setCell ?_ (by simp; try omega) _ | refine Later.trans ?_ (by assumption)))

theorem w_eqFigure (d t d' t' : Int) (w : World) :
    Calls Try.prog 23 #[.agg #[.int .i64 d, .int .i64 t], .agg #[.int .i64 d', .int .i64 t']] w fun e w' => e = .returned (.bool (eqFig ⟨d, t⟩ ⟨d', t'⟩)) ∧ Later w w' := by
  go_enter Try.func23, Try.ntmps23
  go_wp2
  all_goals go_ret
  all_goals exact ⟨by simp_all [eqFig, eqTrm] <;> grind, by (repeat (with_reducible first | exact Later.refl _ | refine Later.alloc ?_ _ | refine Later.drew ?_ | refine Later.drewN ?_ _ | refine Later.setCell ?_ (by simp; try omega) _ | refine Later.trans ?_ (by assumption)))⟩

theorem w_eqTerm (d t d' t' : Int) (dv dv' : Bool) (w : World) :
    Calls Try.prog 64 #[.agg #[.int .i64 d, .int .i64 t, .bool dv], .agg #[.int .i64 d', .int .i64 t', .bool dv']] w fun e w' => e = .returned (.bool (eqTrm ⟨⟨d, t⟩, dv⟩ ⟨⟨d', t'⟩, dv'⟩)) ∧ Later w w' := by
  go_enter Try.func64, Try.ntmps64
  go_wp2_with (go_at_call 23; refine (w_eqFigure _ _ _ _ _).mono ?_; rintro e w1 ⟨rfl, hL⟩; obtain ⟨⟨c0, f0, z0⟩, ⟨c1, f1, z1⟩⟩ := blk2 hL)
  all_goals go_ret
  all_goals exact ⟨by simp_all [eqFig, eqTrm] <;> grind, by (repeat (with_reducible first | exact Later.refl _ | refine Later.alloc ?_ _ | refine Later.drew ?_ | refine Later.drewN ?_ _ | refine Later.setCell ?_ (by simp; try omega) _ | refine Later.trans ?_ (by assumption)))⟩

theorem w_eqMove (k s d t k' s' d' t' : Int) (w : World) :
    Calls Try.prog 99 #[.agg #[.int .i64 k, .int .i64 s, .int .i64 d, .int .i64 t], .agg #[.int .i64 k', .int .i64 s', .int .i64 d', .int .i64 t']] w fun e w' => e = .returned (.bool (eqMov ⟨k, s, ⟨d, t⟩⟩ ⟨k', s', ⟨d', t'⟩⟩)) ∧ Later w w' := by
  go_enter Try.func99, Try.ntmps99
  go_wp2_with (go_at_call 23; refine (w_eqFigure _ _ _ _ _).mono ?_; rintro e w1 ⟨rfl, hL⟩)
  all_goals go_ret
  all_goals exact ⟨by simp_all [eqFig, eqMov] <;> grind, by (repeat (with_reducible first | exact Later.refl _ | refine Later.alloc ?_ _ | refine Later.drew ?_ | refine Later.drewN ?_ _ | refine Later.setCell ?_ (by simp; try omega) _ | refine Later.trans ?_ (by assumption)))⟩

theorem w_eqFigure_same (d t : Int) (w : World) :
    Calls Try.prog 23 #[.agg #[.int .i64 d, .int .i64 t], .agg #[.int .i64 d, .int .i64 t]] w fun e w' => e = .returned (.bool true) ∧ Later w w' :=
  (w_eqFigure d t d t w).mono fun _ _ ⟨h1, h2⟩ => ⟨by rw [h1]; simp [eqFig], h2⟩

theorem w_eqInterval_same (a b : Int) (w : World) :
    Calls Try.prog 19 #[.agg #[.int .i64 a, .int .i64 b], .agg #[.int .i64 a, .int .i64 b]] w fun e w' => e = .returned (.bool true) ∧ Later w w' := by
  go_enter Try.func19, Try.ntmps19
  go_wp2
  all_goals go_ret
  all_goals exact ⟨by simp_all, by (repeat (with_reducible first | exact Later.refl _ | refine Later.alloc ?_ _ | refine Later.drew ?_ | refine Later.drewN ?_ _ | refine Later.setCell ?_ (by simp; try omega) _ | refine Later.trans ?_ (by assumption)))⟩

theorem w_eqSetting_same (a b : Int) (w : World) :
    Calls Try.prog 47 #[.agg #[.int .i64 a, .int .i64 b], .agg #[.int .i64 a, .int .i64 b]] w fun e w' => e = .returned (.bool true) ∧ Later w w' := by
  go_enter Try.func47, Try.ntmps47
  go_wp2
  all_goals go_ret
  all_goals exact ⟨by simp_all, by (repeat (with_reducible first | exact Later.refl _ | refine Later.alloc ?_ _ | refine Later.drew ?_ | refine Later.drewN ?_ _ | refine Later.setCell ?_ (by simp; try omega) _ | refine Later.trans ?_ (by assumption)))⟩

end Go.Proofs.Yteangdeeijlijaa
