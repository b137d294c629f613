/- The usual plan is a plan, and no order of the terms needs fewer moves than the best one: the law FnPlans. It returns true for all codes. No condition. -/
import Derived.Test.YtkoojngonldcbaaGreatRows
import Derived.Test.YtkoojngonldcbaaGreatKPO3
import Derived.Test.YtkoojngonldcbaaGreatKPM94
import Derived.Test.YtkoojngonldcbaaGreatKPM60
import Derived.Test.YtkoojngonldcbaaGreatKPM51
import Derived.Test.YtkoojngonldcbaaGreatKPM10
import Derived.Test.YtkoojngonldcbaaGreatKPMP
import Derived.Test.YtkoojngonldcbaaGreatKPMQ
import Derived.Test.YtkoojngonldcbaaGreatKPPQ
namespace Go.Proofs.YtkoojngonldcbaaGreat.lawPlans
set_option linter.unusedVariables false
set_option linter.unusedSimpArgs false
open Go.ChangeShapes Go.WideShapes Go.ChangeAt Go.RowKit
set_option linter.unusedVariables false
set_option maxRecDepth 100000
theorem btL_len7 (r : Rul) (c : List Trm) (h : c.length ≤ 7) : (btL r c).length ≤ 7 := by
 unfold btL
 split
 · refine best_len _ _ 7 (by simp) fun o ho => ?_
   have := lvs_len _ _ _ ho
   simp at this
   omega
 · simp
theorem plans_best {r : Rul} {c : List Trm} (h : codePlan r c = 0) : orderTerms c (btL r c) = (orderedL c (btL r c), 0) ∧ codePlan r (orderedL c (btL r c)) = 0 ∧ countPlan r (orderedL c (btL r c)) = btN r c ∧ btN r c ≤ countPlan r c := by
 obtain ⟨h1, h2, h3, h4⟩ := codePlan_0 h
 have hb : btL r c = (bestO (costB c) (lvs c c.length [])).1 := if_pos h
 have hn : btN r c = (bestO (costB c) (lvs c c.length [])).2 := if_pos h
 obtain ⟨b1, b2, b3⟩ := best_all (cost := costB c) (fun o => Int.natCast_nonneg _) h2
 rw [← hb] at b1 b2
 rw [← hn] at b2 b3
 have hch : isChain (orderedL c (btL r c)) = true := by
  cases hq : isChain (orderedL c (btL r c))
  · exfalso
    have e : (orderTerms c (btL r c)).2 = 0 := by rw [b1]
    unfold orderTerms at e
    rw [hq] at e
    repeat (split at e)
    all_goals simp_all
  · rfl
 have hcp : codePlan r (orderedL c (btL r c)) = 0 := codePlan_ok h1 hch h3 h4
 refine ⟨b1, hcp, ?_, ?_⟩
 · unfold countPlan
   rw [planFor_yes hcp, b2]
   rfl
 · unfold countPlan
   rw [planFor_yes h]
   have e : costB c (idO c.length) = ((planL c).length : Int) := by unfold costB; rw [orderedL_idO]
   omega
set_option maxHeartbeats 4000000 in
theorem walk (v0 : Value) (bs : List Int) (W : World) (r0 : Raw W v0 bs.length 1 (byts bs)) (hB : ∀ b ∈ bs, 0 ≤ b ∧ b ≤ 255) :
 Calls Tryz.prog 3 #[v0] W fun e w' => e = .returned (.bool true) ∧ Later W w' := by
 by_cases hb : bs.length ≤ 4096
 rotate_left
 · obtain ⟨_, x0, cap0, rfl, hcap0, hmax0, _⟩ := r0
   have hbg : decide ((4096 : Int) < (bs.length : Int)) = true := by simp; omega
   have HB := Lib.hid hbg
   clear hbg
   go_enter Tryz.func3, Tryz.ntmps3
   go_wp2_with fail
   refine (w_big _ _ _ (by omega) _).mono ?_
   rintro e w' ⟨rfl, rfl⟩
   rw [HB.out]
   go_wp2
   go_ret
   exact ⟨rfl, Later.refl _⟩
 have HC := Lib.hid (r0.reads (by omega))
 obtain ⟨_, x0, cap0, rfl, hcap0, hmax0, _⟩ := r0
 have hbg : decide ((4096 : Int) < (bs.length : Int)) = false := by simp; omega
 have HB := Lib.hid hbg
 clear hbg
 go_enter Tryz.func3, Tryz.ntmps3
 go_wp2_with fail
 refine (w_big _ _ _ (by omega) _).mono ?_
 rintro e w' ⟨rfl, rfl⟩
 rw [HB.out]
 go_wp2_with fail
 refine (w_DrawBestTerms _ bs _ ((HC.out.later (by repeat (with_reducible first | exact Later.refl _ | refine qLa ?_ | refine qLd ?_ | refine qLe ?_ | refine qLs ?_)))) hB hb).mono ?_
 rintro e w1 ⟨n, vu, vv, st, sd, vy, cc, rfl, hOu, hOv, hu5, hv5, hOy, hc7, hL⟩
 obtain ⟨au, capu, rfl⟩ := isSl_of hOu
 obtain ⟨av, capv, rfl⟩ := isSl_of hOv
 obtain ⟨ay, capy, rfl⟩ := isSl_of hOy
 have HW1 : Hid (Later W w1) := Lib.hid (Later.trans (by repeat (with_reducible first | exact Later.refl _ | refine qLa ?_ | refine qLd ?_ | refine qLe ?_ | refine qLs ?_)) hL)
 have hz1 := HW1.out.size
 have HOu_1 := Lib.hid hOu
 clear hOu
 have HOv_1 := Lib.hid hOv
 clear hOv
 have HOy_1 := Lib.hid hOy
 clear hOy
 clear hL
 have hbl := btL_len7 ⟨n, st, sd⟩ cc hc7
 have hpl := planFor_len ⟨n, st, sd⟩ cc
 go_wp2_with fail
 refine (w_implBestTerms n _ _ _ st sd cc _ (reads_of_owns (by repeat (with_reducible first | exact HOu_1.out | apply qOa | (apply qOs; case hk => first | assumption | exact qOn HOu_1.out (by first | omega | (simp; omega)) | exact qOl HOu_1.out (by omega)) | apply qOd | apply qOe)) (by omega)) (reads_of_owns (by repeat (with_reducible first | exact HOv_1.out | apply qOa | (apply qOs; case hk => first | assumption | exact qOn HOv_1.out (by first | omega | (simp; omega)) | exact qOl HOv_1.out (by omega)) | apply qOd | apply qOe)) (by omega)) (reads_of_owns (by repeat (with_reducible first | exact HOy_1.out | apply qOa | (apply qOs; case hk => first | assumption | exact qOn HOy_1.out (by first | omega | (simp; omega)) | exact qOl HOy_1.out (by omega)) | apply qOd | apply qOe)) (by omega))).mono ?_
 rintro e w2 ⟨ao, lo, ko, rfl, hL, hOo⟩
 have HW2 : Hid (Later W w2) := Lib.hid (Later.trans (by repeat (with_reducible first | exact HW1.out | refine qLa ?_ | refine qLd ?_ | refine qLe ?_ | refine qLs ?_)) hL)
 have hz2 := HW2.out.size
 have HOu_2 := Lib.hid (owns_later (by repeat (with_reducible first | exact HOu_1.out | apply qOa | (apply qOs; case hk => first | assumption | exact qOn HOu_1.out (by first | omega | (simp; omega)) | exact qOl HOu_1.out (by omega)) | apply qOd | apply qOe)) hL)
 have HOv_2 := Lib.hid (owns_later (by repeat (with_reducible first | exact HOv_1.out | apply qOa | (apply qOs; case hk => first | assumption | exact qOn HOv_1.out (by first | omega | (simp; omega)) | exact qOl HOv_1.out (by omega)) | apply qOd | apply qOe)) hL)
 have HOy_2 := Lib.hid (owns_later (by repeat (with_reducible first | exact HOy_1.out | apply qOa | (apply qOs; case hk => first | assumption | exact qOn HOy_1.out (by first | omega | (simp; omega)) | exact qOl HOy_1.out (by omega)) | apply qOd | apply qOe)) hL)
 have HK3_2 := Lib.hid (hL.keep (k := w1.heap.size) (by repeat (with_reducible first | exact HK3_1.out | exact heap_alloc_new _ _ | (apply qK; first | rfl | (simp; done)) | apply qKo | apply qk0 | apply qk1 | apply qk2 | apply qk3 | apply qk4 | apply qk5 | apply qk6 | apply qk7 | apply qk8 | (apply qKs; case hne => omega))))
 have HOo_2 := Lib.hid hOo
 clear hOo
 clear hL
 obtain ⟨c3, f3, z3_2⟩ := blk_at HK3_2.out
 go_wp2_with fail
 refine (w_specBestTerms n _ _ _ st sd cc _ (reads_of_owns (by repeat (with_reducible first | exact HOu_2.out | apply qOa | (apply qOs; case hk => first | assumption | exact qOn HOu_2.out (by first | omega | (simp; omega)) | exact qOl HOu_2.out (by omega)) | apply qOd | apply qOe)) (by omega)) (reads_of_owns (by repeat (with_reducible first | exact HOv_2.out | apply qOa | (apply qOs; case hk => first | assumption | exact qOn HOv_2.out (by first | omega | (simp; omega)) | exact qOl HOv_2.out (by omega)) | apply qOd | apply qOe)) (by omega)) (reads_of_owns (by repeat (with_reducible first | exact HOy_2.out | apply qOa | (apply qOs; case hk => first | assumption | exact qOn HOy_2.out (by first | omega | (simp; omega)) | exact qOl HOy_2.out (by omega)) | apply qOd | apply qOe)) (by omega))).mono ?_
 rintro e w3 ⟨am, lm, km, rfl, hL, hOm⟩
 have HW3 : Hid (Later W w3) := Lib.hid (Later.trans (by repeat (with_reducible first | exact HW2.out | refine qLa ?_ | refine qLd ?_ | refine qLe ?_ | refine qLs ?_)) hL)
 have hz3 := HW3.out.size
 have HOu_3 := Lib.hid (owns_later (by repeat (with_reducible first | exact HOu_2.out | apply qOa | (apply qOs; case hk => first | assumption | exact qOn HOu_2.out (by first | omega | (simp; omega)) | exact qOl HOu_2.out (by omega)) | apply qOd | apply qOe)) hL)
 have HOv_3 := Lib.hid (owns_later (by repeat (with_reducible first | exact HOv_2.out | apply qOa | (apply qOs; case hk => first | assumption | exact qOn HOv_2.out (by first | omega | (simp; omega)) | exact qOl HOv_2.out (by omega)) | apply qOd | apply qOe)) hL)
 have HOy_3 := Lib.hid (owns_later (by repeat (with_reducible first | exact HOy_2.out | apply qOa | (apply qOs; case hk => first | assumption | exact qOn HOy_2.out (by first | omega | (simp; omega)) | exact qOl HOy_2.out (by omega)) | apply qOd | apply qOe)) hL)
 have HOo_3 := Lib.hid (owns_later (by repeat (with_reducible first | exact HOo_2.out | apply qOa | (apply qOs; case hk => first | assumption | exact qOn HOo_2.out (by first | omega | (simp; omega)) | exact qOl HOo_2.out (by omega)) | apply qOd | apply qOe)) hL)
 have HK3_3 := Lib.hid (hL.keep (k := w1.heap.size) (by repeat (with_reducible first | exact HK3_2.out | exact heap_alloc_new _ _ | (apply qK; first | rfl | (simp; done)) | apply qKo | apply qk0 | apply qk1 | apply qk2 | apply qk3 | apply qk4 | apply qk5 | apply qk6 | apply qk7 | apply qk8 | (apply qKs; case hne => omega))))
 have HOm_3 := Lib.hid hOm
 clear hOm
 clear hL c3 f3
 obtain ⟨c3, f3, z3_3⟩ := blk_at HK3_3.out
 go_wp2_with fail
 refine (w_implPlanFor n _ _ _ st sd cc _ (reads_of_owns (by repeat (with_reducible first | exact HOu_3.out | apply qOa | (apply qOs; case hk => first | assumption | exact qOn HOu_3.out (by first | omega | (simp; omega)) | exact qOl HOu_3.out (by omega)) | apply qOd | apply qOe)) (by omega)) (reads_of_owns (by repeat (with_reducible first | exact HOv_3.out | apply qOa | (apply qOs; case hk => first | assumption | exact qOn HOv_3.out (by first | omega | (simp; omega)) | exact qOl HOv_3.out (by omega)) | apply qOd | apply qOe)) (by omega)) (reads_of_owns (by repeat (with_reducible first | exact HOy_3.out | apply qOa | (apply qOs; case hk => first | assumption | exact qOn HOy_3.out (by first | omega | (simp; omega)) | exact qOl HOy_3.out (by omega)) | apply qOd | apply qOe)) (by omega))).mono ?_
 rintro e w4 ⟨ap, lp, kp, rfl, hL, hOp⟩
 obtain ⟨_, _, hq⟩ := isSl_of hOp
 cases hq
 have HW4 : Hid (Later W w4) := Lib.hid (Later.trans (by repeat (with_reducible first | exact HW3.out | refine qLa ?_ | refine qLd ?_ | refine qLe ?_ | refine qLs ?_)) hL)
 have hz4 := HW4.out.size
 have HOu_4 := Lib.hid (owns_later (by repeat (with_reducible first | exact HOu_3.out | apply qOa | (apply qOs; case hk => first | assumption | exact qOn HOu_3.out (by first | omega | (simp; omega)) | exact qOl HOu_3.out (by omega)) | apply qOd | apply qOe)) hL)
 have HOv_4 := Lib.hid (owns_later (by repeat (with_reducible first | exact HOv_3.out | apply qOa | (apply qOs; case hk => first | assumption | exact qOn HOv_3.out (by first | omega | (simp; omega)) | exact qOl HOv_3.out (by omega)) | apply qOd | apply qOe)) hL)
 have HOy_4 := Lib.hid (owns_later (by repeat (with_reducible first | exact HOy_3.out | apply qOa | (apply qOs; case hk => first | assumption | exact qOn HOy_3.out (by first | omega | (simp; omega)) | exact qOl HOy_3.out (by omega)) | apply qOd | apply qOe)) hL)
 have HOo_4 := Lib.hid (owns_later (by repeat (with_reducible first | exact HOo_3.out | apply qOa | (apply qOs; case hk => first | assumption | exact qOn HOo_3.out (by first | omega | (simp; omega)) | exact qOl HOo_3.out (by omega)) | apply qOd | apply qOe)) hL)
 have HOm_4 := Lib.hid (owns_later (by repeat (with_reducible first | exact HOm_3.out | apply qOa | (apply qOs; case hk => first | assumption | exact qOn HOm_3.out (by first | omega | (simp; omega)) | exact qOl HOm_3.out (by omega)) | apply qOd | apply qOe)) hL)
 have HK3_4 := Lib.hid (hL.keep (k := w1.heap.size) (by repeat (with_reducible first | exact HK3_3.out | exact heap_alloc_new _ _ | (apply qK; first | rfl | (simp; done)) | apply qKo | apply qk0 | apply qk1 | apply qk2 | apply qk3 | apply qk4 | apply qk5 | apply qk6 | apply qk7 | apply qk8 | (apply qKs; case hne => omega))))
 have HOp_4 := Lib.hid hOp
 clear hOp
 clear hL c3 f3
 obtain ⟨c3, f3, z3_4⟩ := blk_at HK3_4.out
 go_wp2_with fail
 refine (w_specPlanFor n _ _ _ st sd cc _ (reads_of_owns (by repeat (with_reducible first | exact HOu_4.out | apply qOa | (apply qOs; case hk => first | assumption | exact qOn HOu_4.out (by first | omega | (simp; omega)) | exact qOl HOu_4.out (by omega)) | apply qOd | apply qOe)) (by omega)) (reads_of_owns (by repeat (with_reducible first | exact HOv_4.out | apply qOa | (apply qOs; case hk => first | assumption | exact qOn HOv_4.out (by first | omega | (simp; omega)) | exact qOl HOv_4.out (by omega)) | apply qOd | apply qOe)) (by omega)) (reads_of_owns (by repeat (with_reducible first | exact HOy_4.out | apply qOa | (apply qOs; case hk => first | assumption | exact qOn HOy_4.out (by first | omega | (simp; omega)) | exact qOl HOy_4.out (by omega)) | apply qOd | apply qOe)) (by omega))).mono ?_
 rintro e w5 ⟨aq, lq, kq, rfl, hL, hOq⟩
 obtain ⟨_, _, hq⟩ := isSl_of hOq
 cases hq
 have HW5 : Hid (Later W w5) := Lib.hid (Later.trans (by repeat (with_reducible first | exact HW4.out | refine qLa ?_ | refine qLd ?_ | refine qLe ?_ | refine qLs ?_)) hL)
 have hz5 := HW5.out.size
 have HOu_5 := Lib.hid (owns_later (by repeat (with_reducible first | exact HOu_4.out | apply qOa | (apply qOs; case hk => first | assumption | exact qOn HOu_4.out (by first | omega | (simp; omega)) | exact qOl HOu_4.out (by omega)) | apply qOd | apply qOe)) hL)
 have HOv_5 := Lib.hid (owns_later (by repeat (with_reducible first | exact HOv_4.out | apply qOa | (apply qOs; case hk => first | assumption | exact qOn HOv_4.out (by first | omega | (simp; omega)) | exact qOl HOv_4.out (by omega)) | apply qOd | apply qOe)) hL)
 have HOy_5 := Lib.hid (owns_later (by repeat (with_reducible first | exact HOy_4.out | apply qOa | (apply qOs; case hk => first | assumption | exact qOn HOy_4.out (by first | omega | (simp; omega)) | exact qOl HOy_4.out (by omega)) | apply qOd | apply qOe)) hL)
 have HOo_5 := Lib.hid (owns_later (by repeat (with_reducible first | exact HOo_4.out | apply qOa | (apply qOs; case hk => first | assumption | exact qOn HOo_4.out (by first | omega | (simp; omega)) | exact qOl HOo_4.out (by omega)) | apply qOd | apply qOe)) hL)
 have HOm_5 := Lib.hid (owns_later (by repeat (with_reducible first | exact HOm_4.out | apply qOa | (apply qOs; case hk => first | assumption | exact qOn HOm_4.out (by first | omega | (simp; omega)) | exact qOl HOm_4.out (by omega)) | apply qOd | apply qOe)) hL)
 have HOp_5 := Lib.hid (owns_later (by repeat (with_reducible first | exact HOp_4.out | apply qOa | (apply qOs; case hk => first | assumption | exact qOn HOp_4.out (by first | omega | (simp; omega)) | exact qOl HOp_4.out (by omega)) | apply qOd | apply qOe)) hL)
 have HK3_5 := Lib.hid (hL.keep (k := w1.heap.size) (by repeat (with_reducible first | exact HK3_4.out | exact heap_alloc_new _ _ | (apply qK; first | rfl | (simp; done)) | apply qKo | apply qk0 | apply qk1 | apply qk2 | apply qk3 | apply qk4 | apply qk5 | apply qk6 | apply qk7 | apply qk8 | (apply qKs; case hne => omega))))
 have HOq_5 := Lib.hid hOq
 clear hOq
 clear hL c3 f3
 obtain ⟨c3, f3, z3_5⟩ := blk_at HK3_5.out
 go_wp2_with fail
 refine (w_implCountPlan n _ _ _ st sd cc _ (reads_of_owns (by repeat (with_reducible first | exact HOu_5.out | apply qOa | (apply qOs; case hk => first | assumption | exact qOn HOu_5.out (by first | omega | (simp; omega)) | exact qOl HOu_5.out (by omega)) | apply qOd | apply qOe)) (by omega)) (reads_of_owns (by repeat (with_reducible first | exact HOv_5.out | apply qOa | (apply qOs; case hk => first | assumption | exact qOn HOv_5.out (by first | omega | (simp; omega)) | exact qOl HOv_5.out (by omega)) | apply qOd | apply qOe)) (by omega)) (reads_of_owns (by repeat (with_reducible first | exact HOy_5.out | apply qOa | (apply qOs; case hk => first | assumption | exact qOn HOy_5.out (by first | omega | (simp; omega)) | exact qOl HOy_5.out (by omega)) | apply qOd | apply qOe)) (by omega))).mono ?_
 rintro e w6 ⟨rfl, hL⟩
 have HW6 : Hid (Later W w6) := Lib.hid (Later.trans (by repeat (with_reducible first | exact HW5.out | refine qLa ?_ | refine qLd ?_ | refine qLe ?_ | refine qLs ?_)) hL)
 have hz6 := HW6.out.size
 have HOu_6 := Lib.hid (owns_later (by repeat (with_reducible first | exact HOu_5.out | apply qOa | (apply qOs; case hk => first | assumption | exact qOn HOu_5.out (by first | omega | (simp; omega)) | exact qOl HOu_5.out (by omega)) | apply qOd | apply qOe)) hL)
 have HOv_6 := Lib.hid (owns_later (by repeat (with_reducible first | exact HOv_5.out | apply qOa | (apply qOs; case hk => first | assumption | exact qOn HOv_5.out (by first | omega | (simp; omega)) | exact qOl HOv_5.out (by omega)) | apply qOd | apply qOe)) hL)
 have HOy_6 := Lib.hid (owns_later (by repeat (with_reducible first | exact HOy_5.out | apply qOa | (apply qOs; case hk => first | assumption | exact qOn HOy_5.out (by first | omega | (simp; omega)) | exact qOl HOy_5.out (by omega)) | apply qOd | apply qOe)) hL)
 have HOo_6 := Lib.hid (owns_later (by repeat (with_reducible first | exact HOo_5.out | apply qOa | (apply qOs; case hk => first | assumption | exact qOn HOo_5.out (by first | omega | (simp; omega)) | exact qOl HOo_5.out (by omega)) | apply qOd | apply qOe)) hL)
 have HOm_6 := Lib.hid (owns_later (by repeat (with_reducible first | exact HOm_5.out | apply qOa | (apply qOs; case hk => first | assumption | exact qOn HOm_5.out (by first | omega | (simp; omega)) | exact qOl HOm_5.out (by omega)) | apply qOd | apply qOe)) hL)
 have HOp_6 := Lib.hid (owns_later (by repeat (with_reducible first | exact HOp_5.out | apply qOa | (apply qOs; case hk => first | assumption | exact qOn HOp_5.out (by first | omega | (simp; omega)) | exact qOl HOp_5.out (by omega)) | apply qOd | apply qOe)) hL)
 have HOq_6 := Lib.hid (owns_later (by repeat (with_reducible first | exact HOq_5.out | apply qOa | (apply qOs; case hk => first | assumption | exact qOn HOq_5.out (by first | omega | (simp; omega)) | exact qOl HOq_5.out (by omega)) | apply qOd | apply qOe)) hL)
 have HK3_6 := Lib.hid (hL.keep (k := w1.heap.size) (by repeat (with_reducible first | exact HK3_5.out | exact heap_alloc_new _ _ | (apply qK; first | rfl | (simp; done)) | apply qKo | apply qk0 | apply qk1 | apply qk2 | apply qk3 | apply qk4 | apply qk5 | apply qk6 | apply qk7 | apply qk8 | (apply qKs; case hne => omega))))
 clear hL c3 f3
 obtain ⟨c3, f3, z3_6⟩ := blk_at HK3_6.out
 go_wp2_with fail
 refine (w_specCountPlan n _ _ _ st sd cc _ (reads_of_owns (by repeat (with_reducible first | exact HOu_6.out | apply qOa | (apply qOs; case hk => first | assumption | exact qOn HOu_6.out (by first | omega | (simp; omega)) | exact qOl HOu_6.out (by omega)) | apply qOd | apply qOe)) (by omega)) (reads_of_owns (by repeat (with_reducible first | exact HOv_6.out | apply qOa | (apply qOs; case hk => first | assumption | exact qOn HOv_6.out (by first | omega | (simp; omega)) | exact qOl HOv_6.out (by omega)) | apply qOd | apply qOe)) (by omega)) (reads_of_owns (by repeat (with_reducible first | exact HOy_6.out | apply qOa | (apply qOs; case hk => first | assumption | exact qOn HOy_6.out (by first | omega | (simp; omega)) | exact qOl HOy_6.out (by omega)) | apply qOd | apply qOe)) (by omega))).mono ?_
 rintro e w7 ⟨rfl, hL⟩
 have HW7 : Hid (Later W w7) := Lib.hid (Later.trans (by repeat (with_reducible first | exact HW6.out | refine qLa ?_ | refine qLd ?_ | refine qLe ?_ | refine qLs ?_)) hL)
 have hz7 := HW7.out.size
 have HOu_7 := Lib.hid (owns_later (by repeat (with_reducible first | exact HOu_6.out | apply qOa | (apply qOs; case hk => first | assumption | exact qOn HOu_6.out (by first | omega | (simp; omega)) | exact qOl HOu_6.out (by omega)) | apply qOd | apply qOe)) hL)
 have HOv_7 := Lib.hid (owns_later (by repeat (with_reducible first | exact HOv_6.out | apply qOa | (apply qOs; case hk => first | assumption | exact qOn HOv_6.out (by first | omega | (simp; omega)) | exact qOl HOv_6.out (by omega)) | apply qOd | apply qOe)) hL)
 have HOy_7 := Lib.hid (owns_later (by repeat (with_reducible first | exact HOy_6.out | apply qOa | (apply qOs; case hk => first | assumption | exact qOn HOy_6.out (by first | omega | (simp; omega)) | exact qOl HOy_6.out (by omega)) | apply qOd | apply qOe)) hL)
 have HOo_7 := Lib.hid (owns_later (by repeat (with_reducible first | exact HOo_6.out | apply qOa | (apply qOs; case hk => first | assumption | exact qOn HOo_6.out (by first | omega | (simp; omega)) | exact qOl HOo_6.out (by omega)) | apply qOd | apply qOe)) hL)
 have HOm_7 := Lib.hid (owns_later (by repeat (with_reducible first | exact HOm_6.out | apply qOa | (apply qOs; case hk => first | assumption | exact qOn HOm_6.out (by first | omega | (simp; omega)) | exact qOl HOm_6.out (by omega)) | apply qOd | apply qOe)) hL)
 have HOp_7 := Lib.hid (owns_later (by repeat (with_reducible first | exact HOp_6.out | apply qOa | (apply qOs; case hk => first | assumption | exact qOn HOp_6.out (by first | omega | (simp; omega)) | exact qOl HOp_6.out (by omega)) | apply qOd | apply qOe)) hL)
 have HOq_7 := Lib.hid (owns_later (by repeat (with_reducible first | exact HOq_6.out | apply qOa | (apply qOs; case hk => first | assumption | exact qOn HOq_6.out (by first | omega | (simp; omega)) | exact qOl HOq_6.out (by omega)) | apply qOd | apply qOe)) hL)
 have HK3_7 := Lib.hid (hL.keep (k := w1.heap.size) (by repeat (with_reducible first | exact HK3_6.out | exact heap_alloc_new _ _ | (apply qK; first | rfl | (simp; done)) | apply qKo | apply qk0 | apply qk1 | apply qk2 | apply qk3 | apply qk4 | apply qk5 | apply qk6 | apply qk7 | apply qk8 | (apply qKs; case hne => omega))))
 clear hL c3 f3
 obtain ⟨c3, f3, z3_7⟩ := blk_at HK3_7.out
 go_wp2_with fail
 refine (w_DrawIsPlanFor _ bs _ ((HC.out.later (by repeat (with_reducible first | exact HW7.out | refine qLa ?_ | refine qLd ?_ | refine qLe ?_ | refine qLs ?_)))) hB hb).mono ?_
 rintro e w8 ⟨n2, ve, vf, st2, sd2, vg, c2, vh, l2, rfl, hOe, hOf, he5, hf5, hOg, hg7, hOh, hh18, hL⟩
 obtain ⟨ae, cape, rfl⟩ := isSl_of hOe
 obtain ⟨af, capf, rfl⟩ := isSl_of hOf
 obtain ⟨ag, capg, rfl⟩ := isSl_of hOg
 obtain ⟨ah, caph, rfl⟩ := isSl_of hOh
 have HW8 : Hid (Later W w8) := Lib.hid (Later.trans (by repeat (with_reducible first | exact HW7.out | refine qLa ?_ | refine qLd ?_ | refine qLe ?_ | refine qLs ?_)) hL)
 have hz8 := HW8.out.size
 have HOu_8 := Lib.hid (owns_later (by repeat (with_reducible first | exact HOu_7.out | apply qOa | (apply qOs; case hk => first | assumption | exact qOn HOu_7.out (by first | omega | (simp; omega)) | exact qOl HOu_7.out (by omega)) | apply qOd | apply qOe)) hL)
 have HOv_8 := Lib.hid (owns_later (by repeat (with_reducible first | exact HOv_7.out | apply qOa | (apply qOs; case hk => first | assumption | exact qOn HOv_7.out (by first | omega | (simp; omega)) | exact qOl HOv_7.out (by omega)) | apply qOd | apply qOe)) hL)
 have HOy_8 := Lib.hid (owns_later (by repeat (with_reducible first | exact HOy_7.out | apply qOa | (apply qOs; case hk => first | assumption | exact qOn HOy_7.out (by first | omega | (simp; omega)) | exact qOl HOy_7.out (by omega)) | apply qOd | apply qOe)) hL)
 have HOo_8 := Lib.hid (owns_later (by repeat (with_reducible first | exact HOo_7.out | apply qOa | (apply qOs; case hk => first | assumption | exact qOn HOo_7.out (by first | omega | (simp; omega)) | exact qOl HOo_7.out (by omega)) | apply qOd | apply qOe)) hL)
 have HOm_8 := Lib.hid (owns_later (by repeat (with_reducible first | exact HOm_7.out | apply qOa | (apply qOs; case hk => first | assumption | exact qOn HOm_7.out (by first | omega | (simp; omega)) | exact qOl HOm_7.out (by omega)) | apply qOd | apply qOe)) hL)
 have HOp_8 := Lib.hid (owns_later (by repeat (with_reducible first | exact HOp_7.out | apply qOa | (apply qOs; case hk => first | assumption | exact qOn HOp_7.out (by first | omega | (simp; omega)) | exact qOl HOp_7.out (by omega)) | apply qOd | apply qOe)) hL)
 have HOq_8 := Lib.hid (owns_later (by repeat (with_reducible first | exact HOq_7.out | apply qOa | (apply qOs; case hk => first | assumption | exact qOn HOq_7.out (by first | omega | (simp; omega)) | exact qOl HOq_7.out (by omega)) | apply qOd | apply qOe)) hL)
 have HK3_8 := Lib.hid (hL.keep (k := w1.heap.size) (by repeat (with_reducible first | exact HK3_7.out | exact heap_alloc_new _ _ | (apply qK; first | rfl | (simp; done)) | apply qKo | apply qk0 | apply qk1 | apply qk2 | apply qk3 | apply qk4 | apply qk5 | apply qk6 | apply qk7 | apply qk8 | (apply qKs; case hne => omega))))
 have HOe_8 := Lib.hid hOe
 clear hOe
 have HOf_8 := Lib.hid hOf
 clear hOf
 have HOg_8 := Lib.hid hOg
 clear hOg
 have HOh_8 := Lib.hid hOh
 clear hOh
 clear hL c3 f3
 obtain ⟨c3, f3, z3_8⟩ := blk_at HK3_8.out
 go_wp2_with fail
 refine (w_implIsPlanFor n2 _ _ _ _ st2 sd2 c2 l2 _ (reads_of_owns (by repeat (with_reducible first | exact HOe_8.out | apply qOa | (apply qOs; case hk => first | assumption | exact qOn HOe_8.out (by first | omega | (simp; omega)) | exact qOl HOe_8.out (by omega)) | apply qOd | apply qOe)) (by omega)) (reads_of_owns (by repeat (with_reducible first | exact HOf_8.out | apply qOa | (apply qOs; case hk => first | assumption | exact qOn HOf_8.out (by first | omega | (simp; omega)) | exact qOl HOf_8.out (by omega)) | apply qOd | apply qOe)) (by omega)) (reads_of_owns (by repeat (with_reducible first | exact HOg_8.out | apply qOa | (apply qOs; case hk => first | assumption | exact qOn HOg_8.out (by first | omega | (simp; omega)) | exact qOl HOg_8.out (by omega)) | apply qOd | apply qOe)) (by omega)) (reads_of_owns (by repeat (with_reducible first | exact HOh_8.out | apply qOa | (apply qOs; case hk => first | assumption | exact qOn HOh_8.out (by first | omega | (simp; omega)) | exact qOl HOh_8.out (by omega)) | apply qOd | apply qOe)) (by omega))).mono ?_
 rintro e w9 ⟨rfl, hL⟩
 have HW9 : Hid (Later W w9) := Lib.hid (Later.trans (by repeat (with_reducible first | exact HW8.out | refine qLa ?_ | refine qLd ?_ | refine qLe ?_ | refine qLs ?_)) hL)
 have hz9 := HW9.out.size
 have HOu_9 := Lib.hid (owns_later (by repeat (with_reducible first | exact HOu_8.out | apply qOa | (apply qOs; case hk => first | assumption | exact qOn HOu_8.out (by first | omega | (simp; omega)) | exact qOl HOu_8.out (by omega)) | apply qOd | apply qOe)) hL)
 have HOv_9 := Lib.hid (owns_later (by repeat (with_reducible first | exact HOv_8.out | apply qOa | (apply qOs; case hk => first | assumption | exact qOn HOv_8.out (by first | omega | (simp; omega)) | exact qOl HOv_8.out (by omega)) | apply qOd | apply qOe)) hL)
 have HOy_9 := Lib.hid (owns_later (by repeat (with_reducible first | exact HOy_8.out | apply qOa | (apply qOs; case hk => first | assumption | exact qOn HOy_8.out (by first | omega | (simp; omega)) | exact qOl HOy_8.out (by omega)) | apply qOd | apply qOe)) hL)
 have HOo_9 := Lib.hid (owns_later (by repeat (with_reducible first | exact HOo_8.out | apply qOa | (apply qOs; case hk => first | assumption | exact qOn HOo_8.out (by first | omega | (simp; omega)) | exact qOl HOo_8.out (by omega)) | apply qOd | apply qOe)) hL)
 have HOm_9 := Lib.hid (owns_later (by repeat (with_reducible first | exact HOm_8.out | apply qOa | (apply qOs; case hk => first | assumption | exact qOn HOm_8.out (by first | omega | (simp; omega)) | exact qOl HOm_8.out (by omega)) | apply qOd | apply qOe)) hL)
 have HOp_9 := Lib.hid (owns_later (by repeat (with_reducible first | exact HOp_8.out | apply qOa | (apply qOs; case hk => first | assumption | exact qOn HOp_8.out (by first | omega | (simp; omega)) | exact qOl HOp_8.out (by omega)) | apply qOd | apply qOe)) hL)
 have HOq_9 := Lib.hid (owns_later (by repeat (with_reducible first | exact HOq_8.out | apply qOa | (apply qOs; case hk => first | assumption | exact qOn HOq_8.out (by first | omega | (simp; omega)) | exact qOl HOq_8.out (by omega)) | apply qOd | apply qOe)) hL)
 have HOe_9 := Lib.hid (owns_later (by repeat (with_reducible first | exact HOe_8.out | apply qOa | (apply qOs; case hk => first | assumption | exact qOn HOe_8.out (by first | omega | (simp; omega)) | exact qOl HOe_8.out (by omega)) | apply qOd | apply qOe)) hL)
 have HOf_9 := Lib.hid (owns_later (by repeat (with_reducible first | exact HOf_8.out | apply qOa | (apply qOs; case hk => first | assumption | exact qOn HOf_8.out (by first | omega | (simp; omega)) | exact qOl HOf_8.out (by omega)) | apply qOd | apply qOe)) hL)
 have HOg_9 := Lib.hid (owns_later (by repeat (with_reducible first | exact HOg_8.out | apply qOa | (apply qOs; case hk => first | assumption | exact qOn HOg_8.out (by first | omega | (simp; omega)) | exact qOl HOg_8.out (by omega)) | apply qOd | apply qOe)) hL)
 have HOh_9 := Lib.hid (owns_later (by repeat (with_reducible first | exact HOh_8.out | apply qOa | (apply qOs; case hk => first | assumption | exact qOn HOh_8.out (by first | omega | (simp; omega)) | exact qOl HOh_8.out (by omega)) | apply qOd | apply qOe)) hL)
 have HK3_9 := Lib.hid (hL.keep (k := w1.heap.size) (by repeat (with_reducible first | exact HK3_8.out | exact heap_alloc_new _ _ | (apply qK; first | rfl | (simp; done)) | apply qKo | apply qk0 | apply qk1 | apply qk2 | apply qk3 | apply qk4 | apply qk5 | apply qk6 | apply qk7 | apply qk8 | (apply qKs; case hne => omega))))
 have HK19_9 := Lib.hid (hL.keep (k := w8.heap.size) (by repeat (with_reducible first | exact HK19_8.out | exact heap_alloc_new _ _ | (apply qK; first | rfl | (simp; done)) | apply qKo | apply qk0 | apply qk1 | apply qk2 | apply qk3 | apply qk4 | apply qk5 | apply qk6 | apply qk7 | apply qk8 | (apply qKs; case hne => omega))))
 clear hL c3 f3
 obtain ⟨c3, f3, z3_9⟩ := blk_at HK3_9.out
 obtain ⟨c19, f19, z19_9⟩ := blk_at HK19_9.out
 go_wp2_with fail
 refine (w_specIsPlanFor n2 _ _ _ _ st2 sd2 c2 l2 _ (reads_of_owns (by repeat (with_reducible first | exact HOe_9.out | apply qOa | (apply qOs; case hk => first | assumption | exact qOn HOe_9.out (by first | omega | (simp; omega)) | exact qOl HOe_9.out (by omega)) | apply qOd | apply qOe)) (by omega)) (reads_of_owns (by repeat (with_reducible first | exact HOf_9.out | apply qOa | (apply qOs; case hk => first | assumption | exact qOn HOf_9.out (by first | omega | (simp; omega)) | exact qOl HOf_9.out (by omega)) | apply qOd | apply qOe)) (by omega)) (reads_of_owns (by repeat (with_reducible first | exact HOg_9.out | apply qOa | (apply qOs; case hk => first | assumption | exact qOn HOg_9.out (by first | omega | (simp; omega)) | exact qOl HOg_9.out (by omega)) | apply qOd | apply qOe)) (by omega)) (reads_of_owns (by repeat (with_reducible first | exact HOh_9.out | apply qOa | (apply qOs; case hk => first | assumption | exact qOn HOh_9.out (by first | omega | (simp; omega)) | exact qOl HOh_9.out (by omega)) | apply qOd | apply qOe)) (by omega))).mono ?_
 rintro e w10 ⟨rfl, hL⟩
 have HW10 : Hid (Later W w10) := Lib.hid (Later.trans (by repeat (with_reducible first | exact HW9.out | refine qLa ?_ | refine qLd ?_ | refine qLe ?_ | refine qLs ?_)) hL)
 have hz10 := HW10.out.size
 have HOu_10 := Lib.hid (owns_later (by repeat (with_reducible first | exact HOu_9.out | apply qOa | (apply qOs; case hk => first | assumption | exact qOn HOu_9.out (by first | omega | (simp; omega)) | exact qOl HOu_9.out (by omega)) | apply qOd | apply qOe)) hL)
 have HOv_10 := Lib.hid (owns_later (by repeat (with_reducible first | exact HOv_9.out | apply qOa | (apply qOs; case hk => first | assumption | exact qOn HOv_9.out (by first | omega | (simp; omega)) | exact qOl HOv_9.out (by omega)) | apply qOd | apply qOe)) hL)
 have HOy_10 := Lib.hid (owns_later (by repeat (with_reducible first | exact HOy_9.out | apply qOa | (apply qOs; case hk => first | assumption | exact qOn HOy_9.out (by first | omega | (simp; omega)) | exact qOl HOy_9.out (by omega)) | apply qOd | apply qOe)) hL)
 have HOo_10 := Lib.hid (owns_later (by repeat (with_reducible first | exact HOo_9.out | apply qOa | (apply qOs; case hk => first | assumption | exact qOn HOo_9.out (by first | omega | (simp; omega)) | exact qOl HOo_9.out (by omega)) | apply qOd | apply qOe)) hL)
 have HOm_10 := Lib.hid (owns_later (by repeat (with_reducible first | exact HOm_9.out | apply qOa | (apply qOs; case hk => first | assumption | exact qOn HOm_9.out (by first | omega | (simp; omega)) | exact qOl HOm_9.out (by omega)) | apply qOd | apply qOe)) hL)
 have HOp_10 := Lib.hid (owns_later (by repeat (with_reducible first | exact HOp_9.out | apply qOa | (apply qOs; case hk => first | assumption | exact qOn HOp_9.out (by first | omega | (simp; omega)) | exact qOl HOp_9.out (by omega)) | apply qOd | apply qOe)) hL)
 have HOq_10 := Lib.hid (owns_later (by repeat (with_reducible first | exact HOq_9.out | apply qOa | (apply qOs; case hk => first | assumption | exact qOn HOq_9.out (by first | omega | (simp; omega)) | exact qOl HOq_9.out (by omega)) | apply qOd | apply qOe)) hL)
 have HOe_10 := Lib.hid (owns_later (by repeat (with_reducible first | exact HOe_9.out | apply qOa | (apply qOs; case hk => first | assumption | exact qOn HOe_9.out (by first | omega | (simp; omega)) | exact qOl HOe_9.out (by omega)) | apply qOd | apply qOe)) hL)
 have HOf_10 := Lib.hid (owns_later (by repeat (with_reducible first | exact HOf_9.out | apply qOa | (apply qOs; case hk => first | assumption | exact qOn HOf_9.out (by first | omega | (simp; omega)) | exact qOl HOf_9.out (by omega)) | apply qOd | apply qOe)) hL)
 have HOg_10 := Lib.hid (owns_later (by repeat (with_reducible first | exact HOg_9.out | apply qOa | (apply qOs; case hk => first | assumption | exact qOn HOg_9.out (by first | omega | (simp; omega)) | exact qOl HOg_9.out (by omega)) | apply qOd | apply qOe)) hL)
 have HOh_10 := Lib.hid (owns_later (by repeat (with_reducible first | exact HOh_9.out | apply qOa | (apply qOs; case hk => first | assumption | exact qOn HOh_9.out (by first | omega | (simp; omega)) | exact qOl HOh_9.out (by omega)) | apply qOd | apply qOe)) hL)
 have HK3_10 := Lib.hid (hL.keep (k := w1.heap.size) (by repeat (with_reducible first | exact HK3_9.out | exact heap_alloc_new _ _ | (apply qK; first | rfl | (simp; done)) | apply qKo | apply qk0 | apply qk1 | apply qk2 | apply qk3 | apply qk4 | apply qk5 | apply qk6 | apply qk7 | apply qk8 | (apply qKs; case hne => omega))))
 have HK19_10 := Lib.hid (hL.keep (k := w8.heap.size) (by repeat (with_reducible first | exact HK19_9.out | exact heap_alloc_new _ _ | (apply qK; first | rfl | (simp; done)) | apply qKo | apply qk0 | apply qk1 | apply qk2 | apply qk3 | apply qk4 | apply qk5 | apply qk6 | apply qk7 | apply qk8 | (apply qKs; case hne => omega))))
 clear hL c3 f3 c19 f19
 obtain ⟨c3, f3, z3_10⟩ := blk_at HK3_10.out
 obtain ⟨c19, f19, z19_10⟩ := blk_at HK19_10.out
 clear HOe_10
 clear HOf_10
 clear HOg_10
 clear HOh_10
 go_wp2_with fail
 refine (w_likeIntsY _ _ (btL ⟨n, st, sd⟩ cc) _ (reads_of_owns (by repeat (with_reducible first | exact HOo_10.out | apply qOa | (apply qOs; case hk => first | assumption | exact qOn HOo_10.out (by first | omega | (simp; omega)) | exact qOl HOo_10.out (by omega)) | apply qOd | apply qOe)) (by omega)) (reads_of_owns (by repeat (with_reducible first | exact HOm_10.out | apply qOa | (apply qOs; case hk => first | assumption | exact qOn HOm_10.out (by first | omega | (simp; omega)) | exact qOl HOm_10.out (by omega)) | apply qOd | apply qOe)) (by omega))).mono ?_
 rintro e w11 ⟨rfl, hL⟩
 have HW11 : Hid (Later W w11) := Lib.hid (Later.trans (by repeat (with_reducible first | exact HW10.out | refine qLa ?_ | refine qLd ?_ | refine qLe ?_ | refine qLs ?_)) hL)
 have hz11 := HW11.out.size
 have HOu_11 := Lib.hid (owns_later (by repeat (with_reducible first | exact HOu_10.out | apply qOa | (apply qOs; case hk => first | assumption | exact qOn HOu_10.out (by first | omega | (simp; omega)) | exact qOl HOu_10.out (by omega)) | apply qOd | apply qOe)) hL)
 have HOv_11 := Lib.hid (owns_later (by repeat (with_reducible first | exact HOv_10.out | apply qOa | (apply qOs; case hk => first | assumption | exact qOn HOv_10.out (by first | omega | (simp; omega)) | exact qOl HOv_10.out (by omega)) | apply qOd | apply qOe)) hL)
 have HOy_11 := Lib.hid (owns_later (by repeat (with_reducible first | exact HOy_10.out | apply qOa | (apply qOs; case hk => first | assumption | exact qOn HOy_10.out (by first | omega | (simp; omega)) | exact qOl HOy_10.out (by omega)) | apply qOd | apply qOe)) hL)
 have HOo_11 := Lib.hid (owns_later (by repeat (with_reducible first | exact HOo_10.out | apply qOa | (apply qOs; case hk => first | assumption | exact qOn HOo_10.out (by first | omega | (simp; omega)) | exact qOl HOo_10.out (by omega)) | apply qOd | apply qOe)) hL)
 have HOm_11 := Lib.hid (owns_later (by repeat (with_reducible first | exact HOm_10.out | apply qOa | (apply qOs; case hk => first | assumption | exact qOn HOm_10.out (by first | omega | (simp; omega)) | exact qOl HOm_10.out (by omega)) | apply qOd | apply qOe)) hL)
 have HOp_11 := Lib.hid (owns_later (by repeat (with_reducible first | exact HOp_10.out | apply qOa | (apply qOs; case hk => first | assumption | exact qOn HOp_10.out (by first | omega | (simp; omega)) | exact qOl HOp_10.out (by omega)) | apply qOd | apply qOe)) hL)
 have HOq_11 := Lib.hid (owns_later (by repeat (with_reducible first | exact HOq_10.out | apply qOa | (apply qOs; case hk => first | assumption | exact qOn HOq_10.out (by first | omega | (simp; omega)) | exact qOl HOq_10.out (by omega)) | apply qOd | apply qOe)) hL)
 have HK3_11 := Lib.hid (hL.keep (k := w1.heap.size) (by repeat (with_reducible first | exact HK3_10.out | exact heap_alloc_new _ _ | (apply qK; first | rfl | (simp; done)) | apply qKo | apply qk0 | apply qk1 | apply qk2 | apply qk3 | apply qk4 | apply qk5 | apply qk6 | apply qk7 | apply qk8 | (apply qKs; case hne => omega))))
 have HK19_11 := Lib.hid (hL.keep (k := w8.heap.size) (by repeat (with_reducible first | exact HK19_10.out | exact heap_alloc_new _ _ | (apply qK; first | rfl | (simp; done)) | apply qKo | apply qk0 | apply qk1 | apply qk2 | apply qk3 | apply qk4 | apply qk5 | apply qk6 | apply qk7 | apply qk8 | (apply qKs; case hne => omega))))
 clear hL c3 f3 c19 f19
 obtain ⟨c3, f3, z3_11⟩ := blk_at HK3_11.out
 obtain ⟨c19, f19, z19_11⟩ := blk_at HK19_11.out
 go_wp2_with fail
 refine (w_likeMovesY _ _ (planFor ⟨n, st, sd⟩ cc) _ (reads_of_owns (by repeat (with_reducible first | exact HOp_11.out | apply qOa | (apply qOs; case hk => first | assumption | exact qOn HOp_11.out (by first | omega | (simp; omega)) | exact qOl HOp_11.out (by omega)) | apply qOd | apply qOe)) (by omega)) (reads_of_owns (by repeat (with_reducible first | exact HOq_11.out | apply qOa | (apply qOs; case hk => first | assumption | exact qOn HOq_11.out (by first | omega | (simp; omega)) | exact qOl HOq_11.out (by omega)) | apply qOd | apply qOe)) (by omega))).mono ?_
 rintro e w12 ⟨rfl, hL⟩
 have HW12 : Hid (Later W w12) := Lib.hid (Later.trans (by repeat (with_reducible first | exact HW11.out | refine qLa ?_ | refine qLd ?_ | refine qLe ?_ | refine qLs ?_)) hL)
 have hz12 := HW12.out.size
 have HOu_12 := Lib.hid (owns_later (by repeat (with_reducible first | exact HOu_11.out | apply qOa | (apply qOs; case hk => first | assumption | exact qOn HOu_11.out (by first | omega | (simp; omega)) | exact qOl HOu_11.out (by omega)) | apply qOd | apply qOe)) hL)
 have HOv_12 := Lib.hid (owns_later (by repeat (with_reducible first | exact HOv_11.out | apply qOa | (apply qOs; case hk => first | assumption | exact qOn HOv_11.out (by first | omega | (simp; omega)) | exact qOl HOv_11.out (by omega)) | apply qOd | apply qOe)) hL)
 have HOy_12 := Lib.hid (owns_later (by repeat (with_reducible first | exact HOy_11.out | apply qOa | (apply qOs; case hk => first | assumption | exact qOn HOy_11.out (by first | omega | (simp; omega)) | exact qOl HOy_11.out (by omega)) | apply qOd | apply qOe)) hL)
 have HOo_12 := Lib.hid (owns_later (by repeat (with_reducible first | exact HOo_11.out | apply qOa | (apply qOs; case hk => first | assumption | exact qOn HOo_11.out (by first | omega | (simp; omega)) | exact qOl HOo_11.out (by omega)) | apply qOd | apply qOe)) hL)
 have HOm_12 := Lib.hid (owns_later (by repeat (with_reducible first | exact HOm_11.out | apply qOa | (apply qOs; case hk => first | assumption | exact qOn HOm_11.out (by first | omega | (simp; omega)) | exact qOl HOm_11.out (by omega)) | apply qOd | apply qOe)) hL)
 have HOp_12 := Lib.hid (owns_later (by repeat (with_reducible first | exact HOp_11.out | apply qOa | (apply qOs; case hk => first | assumption | exact qOn HOp_11.out (by first | omega | (simp; omega)) | exact qOl HOp_11.out (by omega)) | apply qOd | apply qOe)) hL)
 have HOq_12 := Lib.hid (owns_later (by repeat (with_reducible first | exact HOq_11.out | apply qOa | (apply qOs; case hk => first | assumption | exact qOn HOq_11.out (by first | omega | (simp; omega)) | exact qOl HOq_11.out (by omega)) | apply qOd | apply qOe)) hL)
 have HK3_12 := Lib.hid (hL.keep (k := w1.heap.size) (by repeat (with_reducible first | exact HK3_11.out | exact heap_alloc_new _ _ | (apply qK; first | rfl | (simp; done)) | apply qKo | apply qk0 | apply qk1 | apply qk2 | apply qk3 | apply qk4 | apply qk5 | apply qk6 | apply qk7 | apply qk8 | (apply qKs; case hne => omega))))
 have HK19_12 := Lib.hid (hL.keep (k := w8.heap.size) (by repeat (with_reducible first | exact HK19_11.out | exact heap_alloc_new _ _ | (apply qK; first | rfl | (simp; done)) | apply qKo | apply qk0 | apply qk1 | apply qk2 | apply qk3 | apply qk4 | apply qk5 | apply qk6 | apply qk7 | apply qk8 | (apply qKs; case hne => omega))))
 clear hL c3 f3 c19 f19
 obtain ⟨c3, f3, z3_12⟩ := blk_at HK3_12.out
 obtain ⟨c19, f19, z19_12⟩ := blk_at HK19_12.out
 clear HOm_12
 clear HOq_12
 by_cases hcd : codePlan ⟨n, st, sd⟩ cc = 0
 · skip
   obtain ⟨hb1, hb2, hb3, hb4⟩ := plans_best hcd
   have HPL := Lib.hid (plan_is hcd)
   have HB1 := Lib.hid hb1
   have HB2 := Lib.hid hb2
   have HB3 := Lib.hid hb3
   have HB4 := Lib.hid hb4
   have HCD := Lib.hid hcd
   rw [hcd]
   clear hb1 hb2 hb3 hb4 hcd
   go_wp2_with fail
   refine (w_implIsPlanFor n _ _ _ _ st sd cc (planFor ⟨n, st, sd⟩ cc) _ (reads_of_owns (by repeat (with_reducible first | exact HOu_12.out | apply qOa | (apply qOs; case hk => first | assumption | exact qOn HOu_12.out (by first | omega | (simp; omega)) | exact qOl HOu_12.out (by omega)) | apply qOd | apply qOe)) (by omega)) (reads_of_owns (by repeat (with_reducible first | exact HOv_12.out | apply qOa | (apply qOs; case hk => first | assumption | exact qOn HOv_12.out (by first | omega | (simp; omega)) | exact qOl HOv_12.out (by omega)) | apply qOd | apply qOe)) (by omega)) (reads_of_owns (by repeat (with_reducible first | exact HOy_12.out | apply qOa | (apply qOs; case hk => first | assumption | exact qOn HOy_12.out (by first | omega | (simp; omega)) | exact qOl HOy_12.out (by omega)) | apply qOd | apply qOe)) (by omega)) (reads_of_owns (by repeat (with_reducible first | exact HOp_12.out | apply qOa | (apply qOs; case hk => first | assumption | exact qOn HOp_12.out (by first | omega | (simp; omega)) | exact qOl HOp_12.out (by omega)) | apply qOd | apply qOe)) (by omega))).mono ?_
   rintro e w13 ⟨rfl, hL⟩
   have HW13 : Hid (Later W w13) := Lib.hid (Later.trans (by repeat (with_reducible first | exact HW12.out | refine qLa ?_ | refine qLd ?_ | refine qLe ?_ | refine qLs ?_)) hL)
   have hz13 := HW13.out.size
   have HOu_13 := Lib.hid (owns_later (by repeat (with_reducible first | exact HOu_12.out | apply qOa | (apply qOs; case hk => first | assumption | exact qOn HOu_12.out (by first | omega | (simp; omega)) | exact qOl HOu_12.out (by omega)) | apply qOd | apply qOe)) hL)
   have HOv_13 := Lib.hid (owns_later (by repeat (with_reducible first | exact HOv_12.out | apply qOa | (apply qOs; case hk => first | assumption | exact qOn HOv_12.out (by first | omega | (simp; omega)) | exact qOl HOv_12.out (by omega)) | apply qOd | apply qOe)) hL)
   have HOy_13 := Lib.hid (owns_later (by repeat (with_reducible first | exact HOy_12.out | apply qOa | (apply qOs; case hk => first | assumption | exact qOn HOy_12.out (by first | omega | (simp; omega)) | exact qOl HOy_12.out (by omega)) | apply qOd | apply qOe)) hL)
   have HOo_13 := Lib.hid (owns_later (by repeat (with_reducible first | exact HOo_12.out | apply qOa | (apply qOs; case hk => first | assumption | exact qOn HOo_12.out (by first | omega | (simp; omega)) | exact qOl HOo_12.out (by omega)) | apply qOd | apply qOe)) hL)
   have HOp_13 := Lib.hid (owns_later (by repeat (with_reducible first | exact HOp_12.out | apply qOa | (apply qOs; case hk => first | assumption | exact qOn HOp_12.out (by first | omega | (simp; omega)) | exact qOl HOp_12.out (by omega)) | apply qOd | apply qOe)) hL)
   have HK3_13 := Lib.hid (hL.keep (k := w1.heap.size) (by repeat (with_reducible first | exact HK3_12.out | exact heap_alloc_new _ _ | (apply qK; first | rfl | (simp; done)) | apply qKo | apply qk0 | apply qk1 | apply qk2 | apply qk3 | apply qk4 | apply qk5 | apply qk6 | apply qk7 | apply qk8 | (apply qKs; case hne => omega))))
   have HK19_13 := Lib.hid (hL.keep (k := w8.heap.size) (by repeat (with_reducible first | exact HK19_12.out | exact heap_alloc_new _ _ | (apply qK; first | rfl | (simp; done)) | apply qKo | apply qk0 | apply qk1 | apply qk2 | apply qk3 | apply qk4 | apply qk5 | apply qk6 | apply qk7 | apply qk8 | (apply qKs; case hne => omega))))
   clear hL c3 f3 c19 f19
   obtain ⟨c3, f3, z3_13⟩ := blk_at HK3_13.out
   obtain ⟨c19, f19, z19_13⟩ := blk_at HK19_13.out
   rw [HPL.out, HCD.out]
   go_wp2_with fail
   refine (w_implOrderTerms _ _ cc (btL ⟨n, st, sd⟩ cc) _ (reads_of_owns (by repeat (with_reducible first | exact HOy_13.out | apply qOa | (apply qOs; case hk => first | assumption | exact qOn HOy_13.out (by first | omega | (simp; omega)) | exact qOl HOy_13.out (by omega)) | apply qOd | apply qOe)) (by omega)) (reads_of_owns (by repeat (with_reducible first | exact HOo_13.out | apply qOa | (apply qOs; case hk => first | assumption | exact qOn HOo_13.out (by first | omega | (simp; omega)) | exact qOl HOo_13.out (by omega)) | apply qOd | apply qOe)) (by omega))).mono ?_
   rintro e w14 ⟨b, rfl, hL, hOb⟩
   rw [HB1.out] at hOb ⊢
   have HW14 : Hid (Later W w14) := Lib.hid (Later.trans (by repeat (with_reducible first | exact HW13.out | refine qLa ?_ | refine qLd ?_ | refine qLe ?_ | refine qLs ?_)) hL)
   have hz14 := HW14.out.size
   have HOu_14 := Lib.hid (owns_later (by repeat (with_reducible first | exact HOu_13.out | apply qOa | (apply qOs; case hk => first | assumption | exact qOn HOu_13.out (by first | omega | (simp; omega)) | exact qOl HOu_13.out (by omega)) | apply qOd | apply qOe)) hL)
   have HOv_14 := Lib.hid (owns_later (by repeat (with_reducible first | exact HOv_13.out | apply qOa | (apply qOs; case hk => first | assumption | exact qOn HOv_13.out (by first | omega | (simp; omega)) | exact qOl HOv_13.out (by omega)) | apply qOd | apply qOe)) hL)
   have HOy_14 := Lib.hid (owns_later (by repeat (with_reducible first | exact HOy_13.out | apply qOa | (apply qOs; case hk => first | assumption | exact qOn HOy_13.out (by first | omega | (simp; omega)) | exact qOl HOy_13.out (by omega)) | apply qOd | apply qOe)) hL)
   have HOo_14 := Lib.hid (owns_later (by repeat (with_reducible first | exact HOo_13.out | apply qOa | (apply qOs; case hk => first | assumption | exact qOn HOo_13.out (by first | omega | (simp; omega)) | exact qOl HOo_13.out (by omega)) | apply qOd | apply qOe)) hL)
   have HOp_14 := Lib.hid (owns_later (by repeat (with_reducible first | exact HOp_13.out | apply qOa | (apply qOs; case hk => first | assumption | exact qOn HOp_13.out (by first | omega | (simp; omega)) | exact qOl HOp_13.out (by omega)) | apply qOd | apply qOe)) hL)
   have HK3_14 := Lib.hid (hL.keep (k := w1.heap.size) (by repeat (with_reducible first | exact HK3_13.out | exact heap_alloc_new _ _ | (apply qK; first | rfl | (simp; done)) | apply qKo | apply qk0 | apply qk1 | apply qk2 | apply qk3 | apply qk4 | apply qk5 | apply qk6 | apply qk7 | apply qk8 | (apply qKs; case hne => omega))))
   have HK19_14 := Lib.hid (hL.keep (k := w8.heap.size) (by repeat (with_reducible first | exact HK19_13.out | exact heap_alloc_new _ _ | (apply qK; first | rfl | (simp; done)) | apply qKo | apply qk0 | apply qk1 | apply qk2 | apply qk3 | apply qk4 | apply qk5 | apply qk6 | apply qk7 | apply qk8 | (apply qKs; case hne => omega))))
   have HOb_14 := Lib.hid hOb
   clear hOb
   clear hL c3 f3 c19 f19
   obtain ⟨c3, f3, z3_14⟩ := blk_at HK3_14.out
   obtain ⟨c19, f19, z19_14⟩ := blk_at HK19_14.out
   have hob : (orderedL cc (btL ⟨n, st, sd⟩ cc)).length ≤ 7 := by rw [orderedL_len]; exact hbl
   go_wp2_with fail
   refine (w_implCountPlan n _ _ _ st sd (orderedL cc (btL ⟨n, st, sd⟩ cc)) _ (reads_of_owns (by repeat (with_reducible first | exact HOu_14.out | apply qOa | (apply qOs; case hk => first | assumption | exact qOn HOu_14.out (by first | omega | (simp; omega)) | exact qOl HOu_14.out (by omega)) | apply qOd | apply qOe)) (by omega)) (reads_of_owns (by repeat (with_reducible first | exact HOv_14.out | apply qOa | (apply qOs; case hk => first | assumption | exact qOn HOv_14.out (by first | omega | (simp; omega)) | exact qOl HOv_14.out (by omega)) | apply qOd | apply qOe)) (by omega)) (reads_of_owns (by repeat (with_reducible first | exact HOb_14.out | apply qOa | (apply qOs; case hk => first | assumption | exact qOn HOb_14.out (by first | omega | (simp; omega)) | exact qOl HOb_14.out (by omega)) | apply qOd | apply qOe)) (by omega))).mono ?_
   rintro e w15 ⟨rfl, hL⟩
   have HW15 : Hid (Later W w15) := Lib.hid (Later.trans (by repeat (with_reducible first | exact HW14.out | refine qLa ?_ | refine qLd ?_ | refine qLe ?_ | refine qLs ?_)) hL)
   have hz15 := HW15.out.size
   have HOu_15 := Lib.hid (owns_later (by repeat (with_reducible first | exact HOu_14.out | apply qOa | (apply qOs; case hk => first | assumption | exact qOn HOu_14.out (by first | omega | (simp; omega)) | exact qOl HOu_14.out (by omega)) | apply qOd | apply qOe)) hL)
   have HOv_15 := Lib.hid (owns_later (by repeat (with_reducible first | exact HOv_14.out | apply qOa | (apply qOs; case hk => first | assumption | exact qOn HOv_14.out (by first | omega | (simp; omega)) | exact qOl HOv_14.out (by omega)) | apply qOd | apply qOe)) hL)
   have HOy_15 := Lib.hid (owns_later (by repeat (with_reducible first | exact HOy_14.out | apply qOa | (apply qOs; case hk => first | assumption | exact qOn HOy_14.out (by first | omega | (simp; omega)) | exact qOl HOy_14.out (by omega)) | apply qOd | apply qOe)) hL)
   have HOo_15 := Lib.hid (owns_later (by repeat (with_reducible first | exact HOo_14.out | apply qOa | (apply qOs; case hk => first | assumption | exact qOn HOo_14.out (by first | omega | (simp; omega)) | exact qOl HOo_14.out (by omega)) | apply qOd | apply qOe)) hL)
   have HOp_15 := Lib.hid (owns_later (by repeat (with_reducible first | exact HOp_14.out | apply qOa | (apply qOs; case hk => first | assumption | exact qOn HOp_14.out (by first | omega | (simp; omega)) | exact qOl HOp_14.out (by omega)) | apply qOd | apply qOe)) hL)
   have HOb_15 := Lib.hid (owns_later (by repeat (with_reducible first | exact HOb_14.out | apply qOa | (apply qOs; case hk => first | assumption | exact qOn HOb_14.out (by first | omega | (simp; omega)) | exact qOl HOb_14.out (by omega)) | apply qOd | apply qOe)) hL)
   have HK3_15 := Lib.hid (hL.keep (k := w1.heap.size) (by repeat (with_reducible first | exact HK3_14.out | exact heap_alloc_new _ _ | (apply qK; first | rfl | (simp; done)) | apply qKo | apply qk0 | apply qk1 | apply qk2 | apply qk3 | apply qk4 | apply qk5 | apply qk6 | apply qk7 | apply qk8 | (apply qKs; case hne => omega))))
   have HK19_15 := Lib.hid (hL.keep (k := w8.heap.size) (by repeat (with_reducible first | exact HK19_14.out | exact heap_alloc_new _ _ | (apply qK; first | rfl | (simp; done)) | apply qKo | apply qk0 | apply qk1 | apply qk2 | apply qk3 | apply qk4 | apply qk5 | apply qk6 | apply qk7 | apply qk8 | (apply qKs; case hne => omega))))
   clear hL c3 f3 c19 f19
   obtain ⟨c3, f3, z3_15⟩ := blk_at HK3_15.out
   obtain ⟨c19, f19, z19_15⟩ := blk_at HK19_15.out
   rw [HB2.out, HB3.out]
   have hk1 : countPlan ⟨n, st, sd⟩ cc = ((planFor ⟨n, st, sd⟩ cc).length : Int) := rfl
   have hk2 := HB4.out
   rw [hk1] at hk2 ⊢
   go_wp2
   go_ret
   exact ⟨rfl, (by repeat (with_reducible first | exact HW15.out | refine qLa ?_ | refine qLd ?_ | refine qLe ?_ | refine qLs ?_))⟩
 · skip
   have hcb : (codePlan ⟨n, st, sd⟩ cc != 0) = true := by simpa using hcd
   go_wp2
   go_ret
   exact ⟨rfl, (by repeat (with_reducible first | exact HW12.out | refine qLa ?_ | refine qLd ?_ | refine qLe ?_ | refine qLs ?_))⟩
theorem lifted (os : Os) (started : os.Started) (H : Type) (enc : TypeId × Value → H) :
 ReturnsInHanded {} Tryz.checked os 3 .any (Rows.fnPlansSpec.pre6 enc Tryz.prog Tryz.f3 Rows.fnPlansRow.domain false) (Rows.fnPlansSpec.post enc Tryz.prog Tryz.f3 false true false false) := by
 refine returnsInHanded_of_change (C := Tryz.checked) o_own started (by kernel_rfl) Tryz.func3
  (ChangeSpec.witness6 (enc := enc) (C := Tryz.checked) false ⟨#[], #[.slice none 0 0], []⟩ 8 (by kernel_rfl) (by kernel_rfl) (by kernel_rfl) (by kernel_rfl)) ?_
 intro W base args ds gs before hval0 hW hcnd _
 have hval : ∀ (j : Nat) t v, Tryz.f3.params[j]? = some t → args[j]? = some v → Value.okWide Tryz.prog W .any base t v := hval0
 have hW' := hW
 obtain ⟨p, q, hA0, hV, rfl, hfz, hnd⟩ := hW
 have hA : DataW.TrodAll enc Tryz.prog W 0 (fun _ => true) true Tryz.f3.params.toList args.toList ds p := hA0
 rw [Tryz.params3] at hA hval
 obtain ⟨v0, vs0, d0, ds0, p0, q0, hargs, rfl, rfl, h0, r0⟩ := trodAll_cons hA
 obtain ⟨rfl, rfl, rfl⟩ := trodAll_nil r0
 obtain rfl : args = #[v0] := by cases args; simp_all
 obtain ⟨rfl, rfl⟩ := trodVars_none hV
 obtain ⟨a0, len0, cap0, rfl⟩ := okWide_slice Tryz.underlying22 (hval 0 22 v0 rfl rfl)
 have k0 := h0
 have lt0 : ∀ x ∈ p0, x.block < W.heap.size := by obtain ⟨m, hm⟩ := k0; exact DataW.trod_lt m _ _ _ hm
 obtain ⟨l0, w0, hB0⟩ := o_bytes h0
 clear hA0 hval0
 refine (walk _ l0 W w0 hB0).mono fun e W' ⟨he, bel⟩ => ?_
 subst he
 exact ⟨_, rfl, _, _, _, [], _, [], hW', trodAll_mk1 (shut_bool Tryz.underlying4 _), (trodAll_cons_mk (Below.trod o_laidOut (by kernel_rfl) (of_decide_eq_true (by kernel_rfl)) k0 bel lt0) trodAll_mk0), rfl, bel.frame _, fun h => by cases h⟩
theorem over : Rows.fnPlansRow.holds Tryz.pinned (OpenSpec.ofChange Rows.fnPlansSpec) :=
 OpenClaim.holds_of_wide 3 Tryz.f3 rfl rfl rfl rfl rfl rfl rfl ⟨rfl, rfl, rfl, rfl, rfl⟩ rfl rfl rfl rfl rfl (by kernel_rfl) Tryz.func3 (by kernel_rfl)
  (of_decide_eq_true (by kernel_rfl)) (by unfold Func.isWrapper; first | (rw [if_pos (by decide +kernel)]; kernel_rfl) | (rw [if_neg (by decide +kernel)]; exact ⟨rfl, rfl⟩))
  (fun os started H enc _ => lifted os started H enc)
theorem proved : Rows.FnPlansSaid := over
#print axioms proved
end Go.Proofs.YtkoojngonldcbaaGreat.lawPlans
