/- The result of the usual plan without errors is within its span, and its digits are those of the chain up to rounding: the law FnResults. It returns true for all codes. No condition. -/
import Derived.Test.YtkoojngonldcbaaGreatRows
import Derived.Test.YtkoojngonldcbaaGreatKRM12
import Derived.Test.YtkoojngonldcbaaGreatKRM7
import Derived.Test.YtkoojngonldcbaaGreatKRM60
import Derived.Test.YtkoojngonldcbaaGreatKRM73
import Derived.Test.YtkoojngonldcbaaGreatKRM86
import Derived.Test.YtkoojngonldcbaaGreatKRM113
import Derived.Test.YtkoojngonldcbaaGreatKRM123
import Derived.Test.YtkoojngonldcbaaGreatKRP26
namespace Go.Proofs.YtkoojngonldcbaaGreat.lawResults
set_option linter.unusedVariables false
set_option linter.unusedSimpArgs false
open Go.ChangeShapes Go.WideShapes Go.ChangeAt Go.RowKit
set_option linter.unusedVariables false
set_option maxRecDepth 100000
theorem w_likeTermsY (v v' : Value) (ts : List Trm) (w : World) (h : IsTrms w v ts) (h' : IsTrms w v' ts) :
 Calls Tryz.prog 30 #[v, v'] w fun e w' => e = .returned (.bool true) ∧ Later w w' :=
 (w_likeTerms v v' ts ts w h h').mono fun e w' h => by simpa using h
theorem result_law2 {r : Rul} {c : List Trm} (h : codePlan r c = 0) : planTC r c = 0 ∧ 0 ≤ planTS r c ∧ 0 ≤ planTK r c ∧
 (wiC r c ⟨0, 0, 0⟩ ⟨(resF r c).d, (resF r c).t⟩ = 2 ∨ wiC r c ⟨0, 0, 0⟩ ⟨(resF r c).d, (resF r c).t⟩ = 4 ∨ (wiC r c ⟨0, 0, 0⟩ ⟨(resF r c).d, (resF r c).t⟩ = 0 ∧ wiB r c ⟨0, 0, 0⟩ ⟨(resF r c).d, (resF r c).t⟩ = true)) := by
 have e : resF r c = readF 0 (usualP c).s.cu := by unfold resF; rw [if_pos h]
 obtain ⟨h1, h2, h3, _, h5⟩ := result_law h
 rw [← e] at h5
 exact ⟨h1, h2, h3, h5⟩
set_option maxHeartbeats 4000000 in
theorem walk (v0 : Value) (bs : List Int) (W : World) (r0 : Raw W v0 bs.length 1 (byts bs)) (hB : ∀ b ∈ bs, 0 ≤ b ∧ b ≤ 255) :
 Calls Tryz.prog 4 #[v0] W fun e w' => e = .returned (.bool true) ∧ Later W w' := by
 by_cases hb : bs.length ≤ 4096
 rotate_left
 · obtain ⟨_, x0, cap0, rfl, hcap0, hmax0, _⟩ := r0
   have hbg : decide ((4096 : Int) < (bs.length : Int)) = true := by simp; omega
   have HB := Lib.hid hbg
   clear hbg
   go_enter Tryz.func4, Tryz.ntmps4
   go_wp2_with fail
   refine (w_big _ _ _ (by omega) _).mono ?_
   rintro e w' ⟨rfl, rfl⟩
   rw [HB.out]
   go_wp2
   go_ret
   exact ⟨rfl, Later.refl _⟩
 have HC := Lib.hid (r0.reads (by omega))
 obtain ⟨_, x0, cap0, rfl, hcap0, hmax0, _⟩ := r0
 have hbg : decide ((4096 : Int) < (bs.length : Int)) = false := by simp; omega
 have HB := Lib.hid hbg
 clear hbg
 go_enter Tryz.func4, Tryz.ntmps4
 go_wp2_with fail
 refine (w_big _ _ _ (by omega) _).mono ?_
 rintro e w' ⟨rfl, rfl⟩
 rw [HB.out]
 go_wp2_with fail
 refine (w_DrawResultOf _ bs _ ((HC.out.later qlh)) hB hb).mono ?_
 rintro e w1 ⟨n, vu, vv, st, sd, vy, cc, rfl, hOu, hOv, hu5, hv5, hOy, hc7, hL⟩
 obtain ⟨au, capu, rfl⟩ := isSl_of hOu
 obtain ⟨av, capv, rfl⟩ := isSl_of hOv
 obtain ⟨ay, capy, rfl⟩ := isSl_of hOy
 have HW1 : Hid (Later W w1) := Lib.hid (Later.trans qlh hL)
 have hz1 := HW1.out.size
 have HOu_1 := Lib.hid hOu
 clear hOu
 have HOv_1 := Lib.hid hOv
 clear hOv
 have HOy_1 := Lib.hid hOy
 clear hOy
 clear hL
 go_wp2_with fail
 refine (w_implResultOf n _ _ _ st sd cc _ (reads_of_owns (qoh HOu_1) (by omega)) (reads_of_owns (qoh HOv_1) (by omega)) (reads_of_owns (qoh HOy_1) (by omega))).mono ?_
 rintro e w2 ⟨rfl, hL⟩
 have HW2 : Hid (Later W w2) := Lib.hid (Later.trans qlh hL)
 have hz2 := HW2.out.size
 have HOu_2 := Lib.hid (owns_later (qoh HOu_1) hL)
 have HOv_2 := Lib.hid (owns_later (qoh HOv_1) hL)
 have HOy_2 := Lib.hid (owns_later (qoh HOy_1) hL)
 have HK3_2 := Lib.hid (hL.keep (k := w1.heap.size) qkh)
 clear hL
 obtain ⟨c3, f3, z3_2⟩ := blk_at HK3_2.out
 go_wp2_with fail
 refine (w_specResultOf n _ _ _ st sd cc _ (reads_of_owns (qoh HOu_2) (by omega)) (reads_of_owns (qoh HOv_2) (by omega)) (reads_of_owns (qoh HOy_2) (by omega))).mono ?_
 rintro e w3 ⟨rfl, hL⟩
 have HW3 : Hid (Later W w3) := Lib.hid (Later.trans qlh hL)
 have hz3 := HW3.out.size
 have HOu_3 := Lib.hid (owns_later (qoh HOu_2) hL)
 have HOv_3 := Lib.hid (owns_later (qoh HOv_2) hL)
 have HOy_3 := Lib.hid (owns_later (qoh HOy_2) hL)
 have HK3_3 := Lib.hid (hL.keep (k := w1.heap.size) qkh)
 have HK5_3 := Lib.hid (hL.keep (k := w2.heap.size) qkh)
 clear hL c3 f3
 obtain ⟨c3, f3, z3_3⟩ := blk_at HK3_3.out
 obtain ⟨c5, f5, z5_3⟩ := blk_at HK5_3.out
 go_wp2_with fail
 refine (w_implPlanTravel n _ _ _ st sd cc _ (reads_of_owns (qoh HOu_3) (by omega)) (reads_of_owns (qoh HOv_3) (by omega)) (reads_of_owns (qoh HOy_3) (by omega))).mono ?_
 rintro e w4 ⟨rfl, hL⟩
 have HW4 : Hid (Later W w4) := Lib.hid (Later.trans qlh hL)
 have hz4 := HW4.out.size
 have HOu_4 := Lib.hid (owns_later (qoh HOu_3) hL)
 have HOv_4 := Lib.hid (owns_later (qoh HOv_3) hL)
 have HOy_4 := Lib.hid (owns_later (qoh HOy_3) hL)
 have HK3_4 := Lib.hid (hL.keep (k := w1.heap.size) qkh)
 have HK5_4 := Lib.hid (hL.keep (k := w2.heap.size) qkh)
 have HK7_4 := Lib.hid (hL.keep (k := w3.heap.size) qkh)
 clear hL c3 f3 c5 f5
 obtain ⟨c3, f3, z3_4⟩ := blk_at HK3_4.out
 obtain ⟨c5, f5, z5_4⟩ := blk_at HK5_4.out
 obtain ⟨c7, f7, z7_4⟩ := blk_at HK7_4.out
 go_wp2_with fail
 refine (w_specPlanTravel n _ _ _ st sd cc _ (reads_of_owns (qoh HOu_4) (by omega)) (reads_of_owns (qoh HOv_4) (by omega)) (reads_of_owns (qoh HOy_4) (by omega))).mono ?_
 rintro e w5 ⟨rfl, hL⟩
 have HW5 : Hid (Later W w5) := Lib.hid (Later.trans qlh hL)
 have hz5 := HW5.out.size
 have HOu_5 := Lib.hid (owns_later (qoh HOu_4) hL)
 have HOv_5 := Lib.hid (owns_later (qoh HOv_4) hL)
 have HOy_5 := Lib.hid (owns_later (qoh HOy_4) hL)
 have HK3_5 := Lib.hid (hL.keep (k := w1.heap.size) qkh)
 have HK5_5 := Lib.hid (hL.keep (k := w2.heap.size) qkh)
 have HK7_5 := Lib.hid (hL.keep (k := w3.heap.size) qkh)
 clear hL c3 f3 c5 f5 c7 f7
 obtain ⟨c3, f3, z3_5⟩ := blk_at HK3_5.out
 obtain ⟨c5, f5, z5_5⟩ := blk_at HK5_5.out
 obtain ⟨c7, f7, z7_5⟩ := blk_at HK7_5.out
 go_wp2_with fail
 refine (w_implReverseMoves n _ _ _ st sd cc _ (reads_of_owns (qoh HOu_5) (by omega)) (reads_of_owns (qoh HOv_5) (by omega)) (reads_of_owns (qoh HOy_5) (by omega))).mono ?_
 rintro e w6 ⟨rfl, hL⟩
 have HW6 : Hid (Later W w6) := Lib.hid (Later.trans qlh hL)
 have hz6 := HW6.out.size
 have HOu_6 := Lib.hid (owns_later (qoh HOu_5) hL)
 have HOv_6 := Lib.hid (owns_later (qoh HOv_5) hL)
 have HOy_6 := Lib.hid (owns_later (qoh HOy_5) hL)
 have HK3_6 := Lib.hid (hL.keep (k := w1.heap.size) qkh)
 have HK5_6 := Lib.hid (hL.keep (k := w2.heap.size) qkh)
 have HK7_6 := Lib.hid (hL.keep (k := w3.heap.size) qkh)
 clear hL c3 f3 c5 f5 c7 f7
 obtain ⟨c3, f3, z3_6⟩ := blk_at HK3_6.out
 obtain ⟨c5, f5, z5_6⟩ := blk_at HK5_6.out
 obtain ⟨c7, f7, z7_6⟩ := blk_at HK7_6.out
 go_wp2_with fail
 refine (w_specReverseMoves n _ _ _ st sd cc _ (reads_of_owns (qoh HOu_6) (by omega)) (reads_of_owns (qoh HOv_6) (by omega)) (reads_of_owns (qoh HOy_6) (by omega))).mono ?_
 rintro e w7 ⟨rfl, hL⟩
 have HW7 : Hid (Later W w7) := Lib.hid (Later.trans qlh hL)
 have hz7 := HW7.out.size
 have HOu_7 := Lib.hid (owns_later (qoh HOu_6) hL)
 have HOv_7 := Lib.hid (owns_later (qoh HOv_6) hL)
 have HOy_7 := Lib.hid (owns_later (qoh HOy_6) hL)
 have HK3_7 := Lib.hid (hL.keep (k := w1.heap.size) qkh)
 have HK5_7 := Lib.hid (hL.keep (k := w2.heap.size) qkh)
 have HK7_7 := Lib.hid (hL.keep (k := w3.heap.size) qkh)
 clear hL c3 f3 c5 f5 c7 f7
 obtain ⟨c3, f3, z3_7⟩ := blk_at HK3_7.out
 obtain ⟨c5, f5, z5_7⟩ := blk_at HK5_7.out
 obtain ⟨c7, f7, z7_7⟩ := blk_at HK7_7.out
 go_wp2_with fail
 refine (w_DrawOrderTerms _ bs _ ((HC.out.later qlh)) hB hb).mono ?_
 rintro e w8 ⟨vx, lx, vo, os, rfl, hOx, h27, hOo, ho8, hL⟩
 obtain ⟨ax, capx, rfl⟩ := isSl_of hOx
 obtain ⟨ao, capo, rfl⟩ := isSl_of hOo
 have HW8 : Hid (Later W w8) := Lib.hid (Later.trans qlh hL)
 have hz8 := HW8.out.size
 have HOu_8 := Lib.hid (owns_later (qoh HOu_7) hL)
 have HOv_8 := Lib.hid (owns_later (qoh HOv_7) hL)
 have HOy_8 := Lib.hid (owns_later (qoh HOy_7) hL)
 have HK3_8 := Lib.hid (hL.keep (k := w1.heap.size) qkh)
 have HK5_8 := Lib.hid (hL.keep (k := w2.heap.size) qkh)
 have HK7_8 := Lib.hid (hL.keep (k := w3.heap.size) qkh)
 have HOx_8 := Lib.hid hOx
 clear hOx
 have HOo_8 := Lib.hid hOo
 clear hOo
 clear hL c3 f3 c5 f5 c7 f7
 obtain ⟨c3, f3, z3_8⟩ := blk_at HK3_8.out
 obtain ⟨c5, f5, z5_8⟩ := blk_at HK5_8.out
 obtain ⟨c7, f7, z7_8⟩ := blk_at HK7_8.out
 have hol : (orderTerms lx os).1.length ≤ 6 := orderTerms_len lx os
 go_wp2_with fail
 refine (w_implOrderTerms _ _ lx os _ (reads_of_owns (qoh HOx_8) (by omega)) (reads_of_owns (qoh HOo_8) (by omega))).mono ?_
 rintro e w9 ⟨vb, rfl, hL, hOb⟩
 have HW9 : Hid (Later W w9) := Lib.hid (Later.trans qlh hL)
 have hz9 := HW9.out.size
 have HOu_9 := Lib.hid (owns_later (qoh HOu_8) hL)
 have HOv_9 := Lib.hid (owns_later (qoh HOv_8) hL)
 have HOy_9 := Lib.hid (owns_later (qoh HOy_8) hL)
 have HOx_9 := Lib.hid (owns_later (qoh HOx_8) hL)
 have HOo_9 := Lib.hid (owns_later (qoh HOo_8) hL)
 have HK3_9 := Lib.hid (hL.keep (k := w1.heap.size) qkh)
 have HK5_9 := Lib.hid (hL.keep (k := w2.heap.size) qkh)
 have HK7_9 := Lib.hid (hL.keep (k := w3.heap.size) qkh)
 have HOb_9 := Lib.hid hOb
 clear hOb
 clear hL c3 f3 c5 f5 c7 f7
 obtain ⟨c3, f3, z3_9⟩ := blk_at HK3_9.out
 obtain ⟨c5, f5, z5_9⟩ := blk_at HK5_9.out
 obtain ⟨c7, f7, z7_9⟩ := blk_at HK7_9.out
 go_wp2_with fail
 refine (w_specOrderTerms _ _ lx os _ (reads_of_owns (qoh HOx_9) (by omega)) (reads_of_owns (qoh HOo_9) (by omega))).mono ?_
 rintro e w10 ⟨vm, rfl, hL, hOm⟩
 have HW10 : Hid (Later W w10) := Lib.hid (Later.trans qlh hL)
 have hz10 := HW10.out.size
 have HOu_10 := Lib.hid (owns_later (qoh HOu_9) hL)
 have HOv_10 := Lib.hid (owns_later (qoh HOv_9) hL)
 have HOy_10 := Lib.hid (owns_later (qoh HOy_9) hL)
 have HOx_10 := Lib.hid (owns_later (qoh HOx_9) hL)
 have HOo_10 := Lib.hid (owns_later (qoh HOo_9) hL)
 have HOb_10 := Lib.hid (owns_later (qoh HOb_9) hL)
 have HK3_10 := Lib.hid (hL.keep (k := w1.heap.size) qkh)
 have HK5_10 := Lib.hid (hL.keep (k := w2.heap.size) qkh)
 have HK7_10 := Lib.hid (hL.keep (k := w3.heap.size) qkh)
 have HOm_10 := Lib.hid hOm
 clear hOm
 clear hL c3 f3 c5 f5 c7 f7
 obtain ⟨c3, f3, z3_10⟩ := blk_at HK3_10.out
 obtain ⟨c5, f5, z5_10⟩ := blk_at HK5_10.out
 obtain ⟨c7, f7, z7_10⟩ := blk_at HK7_10.out
 go_wp2_with fail
 refine (w_likeTermsY _ _ _ _ (reads_of_owns (qoh HOb_10) (by omega)) (reads_of_owns (qoh HOm_10) (by omega))).mono ?_
 rintro e w11 ⟨rfl, hL⟩
 have HW11 : Hid (Later W w11) := Lib.hid (Later.trans qlh hL)
 have hz11 := HW11.out.size
 have HOu_11 := Lib.hid (owns_later (qoh HOu_10) hL)
 have HOv_11 := Lib.hid (owns_later (qoh HOv_10) hL)
 have HOy_11 := Lib.hid (owns_later (qoh HOy_10) hL)
 have HOx_11 := Lib.hid (owns_later (qoh HOx_10) hL)
 have HOo_11 := Lib.hid (owns_later (qoh HOo_10) hL)
 have HOb_11 := Lib.hid (owns_later (qoh HOb_10) hL)
 have HOm_11 := Lib.hid (owns_later (qoh HOm_10) hL)
 have HK3_11 := Lib.hid (hL.keep (k := w1.heap.size) qkh)
 have HK5_11 := Lib.hid (hL.keep (k := w2.heap.size) qkh)
 have HK7_11 := Lib.hid (hL.keep (k := w3.heap.size) qkh)
 clear hL c3 f3 c5 f5 c7 f7
 obtain ⟨c3, f3, z3_11⟩ := blk_at HK3_11.out
 obtain ⟨c5, f5, z5_11⟩ := blk_at HK5_11.out
 obtain ⟨c7, f7, z7_11⟩ := blk_at HK7_11.out
 clear HK7_11 c7 f7
 clear HOo_11
 clear HOm_11
 by_cases h5 : (orderTerms lx os).2 = 0
 case' pos =>
  obtain ⟨o1, o2, o3⟩ := order_law h5
  have O1 := Lib.hid o1
  have O2 := Lib.hid o2
  have O3 := Lib.hid o3
  clear o1 o2 o3
  go_wp2_with fail
  refine (w_implChainLog _ lx _ (reads_of_owns (qoh HOx_11) (by omega))).mono ?_
  rintro e w12 ⟨rfl, hL⟩
  have HW12 : Hid (Later W w12) := Lib.hid (Later.trans qlh hL)
  have hz12 := HW12.out.size
  have HOu_12 := Lib.hid (owns_later (qoh HOu_11) hL)
  have HOv_12 := Lib.hid (owns_later (qoh HOv_11) hL)
  have HOy_12 := Lib.hid (owns_later (qoh HOy_11) hL)
  have HOx_12 := Lib.hid (owns_later (qoh HOx_11) hL)
  have HOb_12 := Lib.hid (owns_later (qoh HOb_11) hL)
  have HK3_12 := Lib.hid (hL.keep (k := w1.heap.size) qkh)
  have HK5_12 := Lib.hid (hL.keep (k := w2.heap.size) qkh)
  clear hL c3 f3 c5 f5
  obtain ⟨c3, f3, z3_12⟩ := blk_at HK3_12.out
  obtain ⟨c5, f5, z5_12⟩ := blk_at HK5_12.out
  rw [O1.out]
  go_wp2_with fail
  refine (w_implChainLog _ (orderTerms lx os).1 _ (reads_of_owns (qoh HOb_12) (by omega))).mono ?_
  rintro e w13 ⟨rfl, hL⟩
  have HW13 : Hid (Later W w13) := Lib.hid (Later.trans qlh hL)
  have hz13 := HW13.out.size
  have HOu_13 := Lib.hid (owns_later (qoh HOu_12) hL)
  have HOv_13 := Lib.hid (owns_later (qoh HOv_12) hL)
  have HOy_13 := Lib.hid (owns_later (qoh HOy_12) hL)
  have HOx_13 := Lib.hid (owns_later (qoh HOx_12) hL)
  have HOb_13 := Lib.hid (owns_later (qoh HOb_12) hL)
  have HK3_13 := Lib.hid (hL.keep (k := w1.heap.size) qkh)
  have HK5_13 := Lib.hid (hL.keep (k := w2.heap.size) qkh)
  have HK25_13 := Lib.hid (hL.keep (k := w12.heap.size) qkh)
  clear hL c3 f3 c5 f5
  obtain ⟨c3, f3, z3_13⟩ := blk_at HK3_13.out
  obtain ⟨c5, f5, z5_13⟩ := blk_at HK5_13.out
  obtain ⟨c25, f25, z25_13⟩ := blk_at HK25_13.out
  rw [O2.out, O3.out]
  clear HOx_13
  clear HOb_13
  rename World => w50
  have HW50 := HW13
  have hz50 := hz13
  have HOu_50 := HOu_13
  have HOv_50 := HOv_13
  have HOy_50 := HOy_13
  have HK3_50 := HK3_13
  have z3_50 := z3_13
  have HK5_50 := HK5_13
  have z5_50 := z5_13
  clear HW13 HOu_13 HOv_13 HOy_13 HK3_13 HK5_13
 case' neg =>
  have h5b : ((orderTerms lx os).2 == 0) = false := by simpa using h5
  clear HOx_11
  clear HOb_11
  rename World => w50
  have HW50 := HW11
  have hz50 := hz11
  have HOu_50 := HOu_11
  have HOv_50 := HOv_11
  have HOy_50 := HOy_11
  have HK3_50 := HK3_11
  have z3_50 := z3_11
  have HK5_50 := HK5_11
  have z5_50 := z5_11
  clear HW11 HOu_11 HOv_11 HOy_11 HK3_11 HK5_11
 all_goals
  by_cases hp : codePlan ⟨n, st, sd⟩ cc = 0
  · skip
    have hpz : (codePlan ⟨n, st, sd⟩ cc != 0) = false := by simpa using hp
    obtain ⟨q1, q2, q3, q4⟩ := result_law2 hp
    have hq1 : (planTC ⟨n, st, sd⟩ cc == 0) = true := by simpa using q1
    have hge : decide (0 ≤ planTS ⟨n, st, sd⟩ cc) = true := by simpa using q2
    have hge2 : decide (0 ≤ planTK ⟨n, st, sd⟩ cc) = true := by simpa using q3
    have HQ := Lib.hid q4
    clear q1 q2 q3 q4
    go_wp2_with fail
    refine (w_implIsWithin n _ _ _ st sd cc 0 0 0 (resF ⟨n, st, sd⟩ cc).d (resF ⟨n, st, sd⟩ cc).t _ (reads_of_owns (qoh HOu_50) (by omega)) (reads_of_owns (qoh HOv_50) (by omega)) (reads_of_owns (qoh HOy_50) (by omega))).mono ?_
    rintro e w51 ⟨rfl, hL⟩
    have HW51 : Hid (Later W w51) := Lib.hid (Later.trans qlh hL)
    have hz51 := HW51.out.size
    have HOu_51 := Lib.hid (owns_later (qoh HOu_50) hL)
    have HOv_51 := Lib.hid (owns_later (qoh HOv_50) hL)
    have HOy_51 := Lib.hid (owns_later (qoh HOy_50) hL)
    have HK3_51 := Lib.hid (hL.keep (k := w1.heap.size) qkh)
    have HK5_51 := Lib.hid (hL.keep (k := w2.heap.size) qkh)
    clear hL c3 f3 c5 f5
    obtain ⟨c3, f3, z3_51⟩ := blk_at HK3_51.out
    obtain ⟨c5, f5, z5_51⟩ := blk_at HK5_51.out
    rcases HQ.out with hw | hw | ⟨hw, hwb⟩
    · rw [hw]
      go_wp2
      go_ret
      exact ⟨rfl, qlh⟩
    · rw [hw]
      go_wp2
      go_ret
      exact ⟨rfl, qlh⟩
    · rw [hw, hwb]
      go_wp2
      go_ret
      exact ⟨rfl, qlh⟩
  · skip
    have hpb : (codePlan ⟨n, st, sd⟩ cc != 0) = true := by simpa using hp
    go_wp2
    go_ret
    exact ⟨rfl, qlh⟩
theorem lifted (os : Os) (started : os.Started) (H : Type) (enc : TypeId × Value → H) :
 ReturnsInHanded {} Tryz.checked os 4 .any (Rows.fnResultsSpec.pre6 enc Tryz.prog Tryz.f4 Rows.fnResultsRow.domain false) (Rows.fnResultsSpec.post enc Tryz.prog Tryz.f4 false true false false) := by
 refine returnsInHanded_of_change (C := Tryz.checked) o_own started (by kernel_rfl) Tryz.func4
  (ChangeSpec.witness6 (enc := enc) (C := Tryz.checked) false ⟨#[], #[.slice none 0 0], []⟩ 8 (by kernel_rfl) (by kernel_rfl) (by kernel_rfl) (by kernel_rfl)) ?_
 intro W base args ds gs before hval0 hW hcnd _
 have hval : ∀ (j : Nat) t v, Tryz.f4.params[j]? = some t → args[j]? = some v → Value.okWide Tryz.prog W .any base t v := hval0
 have hW' := hW
 obtain ⟨p, q, hA0, hV, rfl, hfz, hnd⟩ := hW
 have hA : DataW.TrodAll enc Tryz.prog W 0 (fun _ => true) true Tryz.f4.params.toList args.toList ds p := hA0
 rw [Tryz.params4] at hA hval
 obtain ⟨v0, vs0, d0, ds0, p0, q0, hargs, rfl, rfl, h0, r0⟩ := trodAll_cons hA
 obtain ⟨rfl, rfl, rfl⟩ := trodAll_nil r0
 obtain rfl : args = #[v0] := by cases args; simp_all
 obtain ⟨rfl, rfl⟩ := trodVars_none hV
 obtain ⟨a0, len0, cap0, rfl⟩ := okWide_slice Tryz.underlying22 (hval 0 22 v0 rfl rfl)
 have k0 := h0
 have lt0 : ∀ x ∈ p0, x.block < W.heap.size := by obtain ⟨m, hm⟩ := k0; exact DataW.trod_lt m _ _ _ hm
 obtain ⟨l0, w0, hB0⟩ := o_bytes h0
 clear hA0 hval0
 refine (walk _ l0 W w0 hB0).mono fun e W' ⟨he, bel⟩ => ?_
 subst he
 exact ⟨_, rfl, _, _, _, [], _, [], hW', trodAll_mk1 (shut_bool Tryz.underlying4 _), (trodAll_cons_mk (Below.trod o_laidOut (by kernel_rfl) (of_decide_eq_true (by kernel_rfl)) k0 bel lt0) trodAll_mk0), rfl, bel.frame _, fun h => by cases h⟩
theorem over : Rows.fnResultsRow.holds Tryz.pinned (OpenSpec.ofChange Rows.fnResultsSpec) :=
 OpenClaim.holds_of_wide 4 Tryz.f4 rfl rfl rfl rfl rfl rfl rfl ⟨rfl, rfl, rfl, rfl, rfl⟩ rfl rfl rfl rfl rfl (by kernel_rfl) Tryz.func4 (by kernel_rfl)
  (of_decide_eq_true (by kernel_rfl)) (by unfold Func.isWrapper; first | (rw [if_pos (by decide +kernel)]; kernel_rfl) | (rw [if_neg (by decide +kernel)]; exact ⟨rfl, rfl⟩))
  (fun os started H enc _ => lifted os started H enc)
theorem proved : Rows.FnResultsSaid := over
#print axioms proved
end Go.Proofs.YtkoojngonldcbaaGreat.lawResults
