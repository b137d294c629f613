/- DERIVED. Walks: plans, how many moves, how many go the other way, how far they go. -/
import Derived.Test.YtkoojngonldcbaaGreatKPM56
import Derived.Test.YtkoojngonldcbaaGreatKPM59
import Derived.Test.YtkoojngonldcbaaGreatKPM41
namespace Go.Proofs.YtkoojngonldcbaaGreat
set_option linter.unusedVariables false
set_option linter.unusedSimpArgs false
open Go.RowKit
set_option maxRecDepth 100000
set_option maxHeartbeats 2000000 in
theorem w_implPlanFor (n : Int) (u v y : Value) (st sd : List Int) (c : List Trm) (w : World) (h : IsNums w u st) (h' : IsNums w v sd) (hy : IsTrms w y c) :
 Calls Tryz.prog 11 #[.agg #[.int .i64 n, u, v], y] w fun e w' => ∃ a l k, e = .returned (.tuple #[.slice a l k, .int .i64 (codePlan ⟨n, st, sd⟩ c)]) ∧ Later w w' ∧ w'.ownsRow w.heap.size 88 4 (.slice a l k) (planFor ⟨n, st, sd⟩ c).length (movs (planFor ⟨n, st, sd⟩ c)) := by
 have H := Lib.hid h
 have H' := Lib.hid h'
 have HY := Lib.hid hy
 obtain ⟨_, _, au, capu, rfl, _, _, _⟩ := h
 obtain ⟨_, _, av, capv, rfl, _, _, _⟩ := h'
 obtain ⟨_, _, ay, capy, rfl, _, _, _⟩ := hy
 obtain ⟨X, hX⟩ : ∃ x, codePlan ⟨n, st, sd⟩ c = x := ⟨_, rfl⟩
 have HX := Lib.hid hX
 by_cases h0 : X = 0
 rotate_left
 · have HF := Lib.hid (planFor_no hX h0)
   have hb : (X != 0) = true := by simp [h0]
   rw [hX]
   clear hX h0
   go_enter Tryz.func11, Tryz.ntmps11
   go_wp2_with fail
   refine (w_checkPlan _ _ _ _ _ _ _ _ (H.out.later ((Later.refl _).alloc _)) (H'.out.later ((Later.refl _).alloc _)) (HY.out.later ((Later.refl _).alloc _))).mono ?_
   rintro e w1 ⟨rfl, hL⟩
   rw [HX.out]
   go_wp2
   go_ret2
   exact ⟨none, 0, 0, rfl, by (repeat (with_reducible first | exact Later.refl _ | refine qLa ?_ | refine qLd ?_ | refine qLe ?_ | refine qLs ?_ | refine qLt ?_ (by assumption))), by rw [HF.out]; exact World.ownsRow_nil _ _ _ _⟩
 subst h0
 have hc := codePlan_0 hX
 have HF := Lib.hid (planFor_yes hX)
 have HC := Lib.hid hc.2.2
 have HCh := Lib.hid hc.2.1
 rw [hX]
 clear hX hc
 go_enter Tryz.func11, Tryz.ntmps11
 go_wp2_with fail
 refine (w_checkPlan _ _ _ _ _ _ _ _ (H.out.later ((Later.refl _).alloc _)) (H'.out.later ((Later.refl _).alloc _)) (HY.out.later ((Later.refl _).alloc _))).mono ?_
 rintro e w1 ⟨rfl, hL⟩
 rw [HX.out]
 obtain ⟨c0, f0, z0⟩ := blk1 hL
 go_wp2_with fail
 refine (w_usualPlan _ _ _ _ _ _ _ _ ((H.out.later ((Later.refl _).alloc _)).later hL) ((H'.out.later ((Later.refl _).alloc _)).later hL) ((HY.out.later ((Later.refl _).alloc _)).later hL) HC.out HCh.out).mono ?_
 rintro e w2 ⟨a2, l2, k2, rfl, hL2, ho2⟩
 have HO := Lib.hid ho2
 have HL := Lib.hid (show Later w w2 from by (repeat (with_reducible first | exact Later.refl _ | refine qLa ?_ | refine qLd ?_ | refine qLe ?_ | refine qLs ?_ | refine qLt ?_ (by assumption))))
 have hsz := hL.size
 simp only [World.size_alloc] at hsz
 clear hL hL2 ho2 c0 f0 z0
 go_wp2
 go_ret2
 exact ⟨a2, l2, k2, rfl, HL.out.alloc _, by rw [HF.out]; exact owns_base (HO.out.alloc _) (by omega)⟩
set_option maxHeartbeats 2000000 in
theorem w_specPlanFor (n : Int) (u v y : Value) (st sd : List Int) (c : List Trm) (w : World) (h : IsNums w u st) (h' : IsNums w v sd) (hy : IsTrms w y c) :
 Calls Tryz.prog 12 #[.agg #[.int .i64 n, u, v], y] w fun e w' => ∃ a l k, e = .returned (.tuple #[.slice a l k, .int .i64 (codePlan ⟨n, st, sd⟩ c)]) ∧ Later w w' ∧ w'.ownsRow w.heap.size 88 4 (.slice a l k) (planFor ⟨n, st, sd⟩ c).length (movs (planFor ⟨n, st, sd⟩ c)) := by
 have H := Lib.hid h
 have H' := Lib.hid h'
 have HY := Lib.hid hy
 obtain ⟨_, _, au, capu, rfl, _, _, _⟩ := h
 obtain ⟨_, _, av, capv, rfl, _, _, _⟩ := h'
 obtain ⟨_, _, ay, capy, rfl, _, _, _⟩ := hy
 obtain ⟨X, hX⟩ : ∃ x, codePlan ⟨n, st, sd⟩ c = x := ⟨_, rfl⟩
 have HX := Lib.hid hX
 by_cases h0 : X = 0
 rotate_left
 · have HF := Lib.hid (planFor_no hX h0)
   have hb : (X != 0) = true := by simp [h0]
   rw [hX]
   clear hX h0
   go_enter Tryz.func12, Tryz.ntmps12
   go_wp2_with fail
   refine (w_l14Code _ _ _ _ _ _ _ _ (H.out.later ((Later.refl _).alloc _)) (H'.out.later ((Later.refl _).alloc _)) (HY.out.later ((Later.refl _).alloc _))).mono ?_
   rintro e w1 ⟨rfl, hL⟩
   rw [HX.out]
   go_wp2
   go_ret2
   exact ⟨none, 0, 0, rfl, by (repeat (with_reducible first | exact Later.refl _ | refine qLa ?_ | refine qLd ?_ | refine qLe ?_ | refine qLs ?_ | refine qLt ?_ (by assumption))), by rw [HF.out]; exact World.ownsRow_nil _ _ _ _⟩
 subst h0
 have hc := codePlan_0 hX
 have HF := Lib.hid (planFor_yes hX)
 have HC := Lib.hid hc.2.2
 have HCh := Lib.hid hc.2.1
 rw [hX]
 clear hX hc
 go_enter Tryz.func12, Tryz.ntmps12
 go_wp2_with fail
 refine (w_l14Code _ _ _ _ _ _ _ _ (H.out.later ((Later.refl _).alloc _)) (H'.out.later ((Later.refl _).alloc _)) (HY.out.later ((Later.refl _).alloc _))).mono ?_
 rintro e w1 ⟨rfl, hL⟩
 rw [HX.out]
 obtain ⟨c0, f0, z0⟩ := blk1 hL
 go_wp2_with fail
 refine (w_l14Usual _ _ _ _ _ _ _ _ ((H.out.later ((Later.refl _).alloc _)).later hL) ((H'.out.later ((Later.refl _).alloc _)).later hL) ((HY.out.later ((Later.refl _).alloc _)).later hL) HC.out HCh.out).mono ?_
 rintro e w2 ⟨a2, l2, k2, rfl, hL2, ho2⟩
 have HO := Lib.hid ho2
 have HL := Lib.hid (show Later w w2 from by (repeat (with_reducible first | exact Later.refl _ | refine qLa ?_ | refine qLd ?_ | refine qLe ?_ | refine qLs ?_ | refine qLt ?_ (by assumption))))
 have hsz := hL.size
 simp only [World.size_alloc] at hsz
 clear hL hL2 ho2 c0 f0 z0
 go_wp2
 go_ret2
 exact ⟨a2, l2, k2, rfl, HL.out, by rw [HF.out]; exact owns_base HO.out (by omega)⟩
theorem w_implCountPlan (n : Int) (u v y : Value) (st sd : List Int) (c : List Trm) (w : World) (h : IsNums w u st) (h' : IsNums w v sd) (hy : IsTrms w y c) :
 Calls Tryz.prog 13 #[.agg #[.int .i64 n, u, v], y] w fun e w' => e = .returned (.tuple #[.int .i64 (countPlan ⟨n, st, sd⟩ c), .int .i64 (codePlan ⟨n, st, sd⟩ c)]) ∧ Later w w' := by
 have H := Lib.hid h
 have H' := Lib.hid h'
 have HY := Lib.hid hy
 obtain ⟨_, _, au, capu, rfl, _, _, _⟩ := h
 obtain ⟨_, _, av, capv, rfl, _, _, _⟩ := h'
 obtain ⟨_, _, ay, capy, rfl, _, _, _⟩ := hy
 go_enter Tryz.func13, Tryz.ntmps13
 go_wp2_with fail
 refine (w_implPlanFor _ _ _ _ _ _ _ _ (H.out.later ((Later.refl _).alloc _)) (H'.out.later ((Later.refl _).alloc _)) (HY.out.later ((Later.refl _).alloc _))).mono ?_
 rintro e w1 ⟨a2, l2, k2, rfl, hL, ho⟩
 obtain ⟨a3, k3, e3⟩ := isSl_of ho
 simp only [Value.slice.injEq] at e3
 obtain ⟨rfl, rfl, rfl⟩ := e3
 clear ho
 go_wp2
 go_ret2
 exact ⟨rfl, by (repeat (with_reducible first | exact Later.refl _ | refine qLa ?_ | refine qLd ?_ | refine qLe ?_ | refine qLs ?_ | refine qLt ?_ (by assumption)))⟩
set_option maxHeartbeats 1000000 in
theorem w_specCountPlan (n : Int) (u v y : Value) (st sd : List Int) (c : List Trm) (w : World) (h : IsNums w u st) (h' : IsNums w v sd) (hy : IsTrms w y c) :
 Calls Tryz.prog 14 #[.agg #[.int .i64 n, u, v], y] w fun e w' => e = .returned (.tuple #[.int .i64 (countPlan ⟨n, st, sd⟩ c), .int .i64 (codePlan ⟨n, st, sd⟩ c)]) ∧ Later w w' := by
 have H := Lib.hid h
 have H' := Lib.hid h'
 have HY := Lib.hid hy
 obtain ⟨_, _, au, capu, rfl, _, _, _⟩ := h
 obtain ⟨_, _, av, capv, rfl, _, _, _⟩ := h'
 obtain ⟨_, _, ay, capy, rfl, _, _, _⟩ := hy
 obtain ⟨X, hX⟩ : ∃ x, codePlan ⟨n, st, sd⟩ c = x := ⟨_, rfl⟩
 have HX := Lib.hid hX
 by_cases h0 : X = 0
 rotate_left
 · have HF := Lib.hid (show countPlan ⟨n, st, sd⟩ c = 0 from by unfold countPlan; rw [planFor_no hX h0]; rfl)
   have hb : (X != 0) = true := by simp [h0]
   rw [hX]
   clear hX h0
   go_enter Tryz.func14, Tryz.ntmps14
   go_wp2_with fail
   refine (w_l14Code _ _ _ _ _ _ _ _ (H.out.later ((Later.refl _).alloc _)) (H'.out.later ((Later.refl _).alloc _)) (HY.out.later ((Later.refl _).alloc _))).mono ?_
   rintro e w1 ⟨rfl, hL⟩
   rw [HX.out]
   go_wp2
   go_ret2
   exact ⟨by rw [HF.out]; rfl, by (repeat (with_reducible first | exact Later.refl _ | refine qLa ?_ | refine qLd ?_ | refine qLe ?_ | refine qLs ?_ | refine qLt ?_ (by assumption)))⟩
 subst h0
 have hc := codePlan_0 hX
 have HF := Lib.hid (show countPlan ⟨n, st, sd⟩ c = (planL c).length from by unfold countPlan; rw [planFor_yes hX])
 have HC := Lib.hid hc.2.2
 have HCh := Lib.hid hc.2.1
 rw [hX]
 clear hX hc
 go_enter Tryz.func14, Tryz.ntmps14
 go_wp2_with fail
 refine (w_l14Code _ _ _ _ _ _ _ _ (H.out.later ((Later.refl _).alloc _)) (H'.out.later ((Later.refl _).alloc _)) (HY.out.later ((Later.refl _).alloc _))).mono ?_
 rintro e w1 ⟨rfl, hL⟩
 rw [HX.out]
 obtain ⟨c0, f0, z0⟩ := blk1 hL
 go_wp2_with fail
 refine (w_l14Usual _ _ _ _ _ _ _ _ ((H.out.later ((Later.refl _).alloc _)).later hL) ((H'.out.later ((Later.refl _).alloc _)).later hL) ((HY.out.later ((Later.refl _).alloc _)).later hL) HC.out HCh.out).mono ?_
 rintro e w2 ⟨a2, l2, k2, rfl, hL2, ho2⟩
 obtain ⟨a3, k3, e3⟩ := isSl_of ho2
 simp only [Value.slice.injEq] at e3
 obtain ⟨rfl, rfl, rfl⟩ := e3
 clear ho2
 go_wp2
 go_ret2
 exact ⟨by rw [HF.out]; rfl, by (repeat (with_reducible first | exact Later.refl _ | refine qLa ?_ | refine qLd ?_ | refine qLe ?_ | refine qLs ?_ | refine qLt ?_ (by assumption)))⟩
end Go.Proofs.YtkoojngonldcbaaGreat
