/- DERIVED. Walks: figures multiplied, divided, rounded. -/
import Derived.Test.YtldojpelnghplaaGreatM21
import Derived.Test.YtldojpelnghplaaGreatM19
namespace Go.Proofs.YtldojpelnghplaaGreat
set_option linter.unusedVariables false
set_option linter.unusedSimpArgs false
open Go.RowKit
set_option maxRecDepth 100000

theorem mul_fig {a c : Int} (h1 : 1000 ≤ a) (h2 : a ≤ 9999) (h3 : 1000 ≤ c) (h4 : c ≤ 9999) : 1000000 ≤ a * c ∧ a * c ≤ 99980001 := by
  have m1 := Int.mul_le_mul h1 h3 (by omega) (by omega)
  have m2 := Int.mul_le_mul h2 h4 (by omega) (by omega)
  omega

theorem w_l02Two (a b c d : Int) (w : World) :
    Calls Tryz.prog 106 #[.agg #[.int .i64 a, .int .i64 b], .agg #[.int .i64 c, .int .i64 d]] w fun e w' => e = .returned (.bool (isFig ⟨a, b⟩ && isFig ⟨c, d⟩)) ∧ Later w w' := by
  cases h1 : isFig ⟨a, b⟩ <;> cases h2 : isFig ⟨c, d⟩
  all_goals
    have H1 := Lib.hid h1
    have H2 := Lib.hid h2
    clear h1 h2
    go_enter Tryz.func106, Tryz.ntmps106
    go_wp2_with fail
    refine (w_specIsFigure _ _ _).mono ?_
    rintro e w1 ⟨rfl, hL⟩
    rw [H1.out]
    obtain ⟨⟨c0, f0, z0⟩, ⟨c1, f1, z1⟩⟩ := blk2 hL
    go_wp2_with (go_at_call 44; refine (w_specIsFigure _ _ _).mono ?_; rintro e w2 ⟨rfl, hL2⟩; rw [H2.out])
    go_ret
    exact ⟨rfl, by (repeat (with_reducible first | exact Later.refl _ | refine Later.alloc ?_ _ | refine Later.drew ?_ | refine Later.drewN ?_ _ | refine Later.setCell ?_ (by simp; try omega) _ | refine Later.trans ?_ (by assumption)))⟩

theorem w_ten3 (w : World) : Calls Tryz.prog 73 #[.int .i64 3] w fun e w' => e = .returned (.int .i64 1000) ∧ w = w' := by
  go_enter Tryz.func73, Tryz.ntmps73
  go_wp2
  go_loop [3, 5] (fun x i => (x = .int .i64 1 ∧ i = .int .i64 0) ∨ (x = .int .i64 10 ∧ i = .int .i64 1) ∨ (x = .int .i64 100 ∧ i = .int .i64 2) ∨ (x = .int .i64 1000 ∧ i = .int .i64 3)) (fun _ i => 3 - (intOf i).toNat)
  case atStart => exact .inl ⟨rfl, rfl⟩
  case round =>
    rcases hrel with ⟨rfl, rfl⟩ | ⟨rfl, rfl⟩ | ⟨rfl, rfl⟩ | ⟨rfl, rfl⟩
    · go_wp2
      go_round
      case rel => exact .inr (.inl ⟨rfl, rfl⟩)
      case measure => decide
    · go_wp2
      go_round
      case rel => exact .inr (.inr (.inl ⟨rfl, rfl⟩))
      case measure => decide
    · go_wp2
      go_round
      case rel => exact .inr (.inr (.inr ⟨rfl, rfl⟩))
      case measure => decide
    · go_wp2
      go_ret
      exact ⟨rfl, rfl⟩

theorem w_l01Ten3 (w : World) : Calls Tryz.prog 147 #[.int .i64 3] w fun e w' => e = .returned (.int .i64 1000) ∧ w = w' := by
  go_enter Tryz.func147, Tryz.ntmps147
  go_wp2
  go_loop [0, 3] (fun i x => (x = .int .i64 1 ∧ i = .int .i64 3) ∨ (x = .int .i64 10 ∧ i = .int .i64 2) ∨ (x = .int .i64 100 ∧ i = .int .i64 1) ∨ (x = .int .i64 1000 ∧ i = .int .i64 0)) (fun i _ => (intOf i).toNat)
  case atStart => exact .inl ⟨rfl, rfl⟩
  case round =>
    rcases hrel with ⟨rfl, rfl⟩ | ⟨rfl, rfl⟩ | ⟨rfl, rfl⟩ | ⟨rfl, rfl⟩
    · go_wp2
      go_round
      case rel => exact .inr (.inl ⟨rfl, rfl⟩)
      case measure => decide
    · go_wp2
      go_round
      case rel => exact .inr (.inr (.inl ⟨rfl, rfl⟩))
      case measure => decide
    · go_wp2
      go_round
      case rel => exact .inr (.inr (.inr ⟨rfl, rfl⟩))
      case measure => decide
    · go_wp2
      go_ret
      exact ⟨rfl, rfl⟩

end Go.Proofs.YtldojpelnghplaaGreat
