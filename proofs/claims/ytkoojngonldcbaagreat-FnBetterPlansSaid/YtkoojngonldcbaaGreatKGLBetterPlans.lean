/- No order of the terms has fewer units than the better plan, and the needed length is enough: the law FnBetterPlans. It returns true for all codes. No condition. -/
import Derived.Test.YtkoojngonldcbaaGreatRows
import Derived.Test.YtkoojngonldcbaaGreatKGP13
import Derived.Test.YtkoojngonldcbaaGreatKGM95
import Derived.Test.YtkoojngonldcbaaGreatKGM62
import Derived.Test.YtkoojngonldcbaaGreatKGM75
import Derived.Test.YtkoojngonldcbaaGreatKGM10
import Derived.Test.YtkoojngonldcbaaGreatKGM121
import Derived.Test.YtkoojngonldcbaaGreatKGP18
import Derived.Test.YtkoojngonldcbaaGreatKGP25
namespace Go.Proofs.YtkoojngonldcbaaGreat.lawBetterPlans
set_option linter.unusedVariables false
set_option linter.unusedSimpArgs false
open Go.ChangeShapes Go.WideShapes Go.ChangeAt Go.RowKit
set_option linter.unusedVariables false
set_option maxRecDepth 100000
theorem bpL_len7 (r : Rul) (c : List Trm) (e : Ers) (h : c.length ≤ 7) : (bpL r c e).length ≤ 7 := by
 unfold bpL
 split
 · refine best_len _ _ 7 (by simp) fun o ho => ?_
   have := lvs_len _ _ _ ho
   simp at this
   omega
 · simp
theorem better_law2 {r : Rul} {c : List Trm} {e : Ers} (h : codeBound r c e = 0) : orderTerms c (bpL r c e) = (orderedL c (bpL r c e), 0) ∧ codeBound r (orderedL c (bpL r c e)) e = 0 ∧ planUn r (orderedL c (bpL r c e)) e = bpN r c e ∧ bpN r c e ≤ planUn r c e := by
 have e1 : bpL r c e = (bestO (costU r.len c e) (lvs c c.length [])).1 := by unfold bpL; rw [if_pos h]
 have e2 : bpN r c e = (bestO (costU r.len c e) (lvs c c.length [])).2 := by unfold bpN; rw [if_pos h]
 rw [e1, e2]
 exact better_law h rfl
set_option maxHeartbeats 4000000 in
theorem walk (v0 : Value) (bs : List Int) (W : World) (r0 : Raw W v0 bs.length 1 (byts bs)) (hB : ∀ b ∈ bs, 0 ≤ b ∧ b ≤ 255) :
 Calls Tryz.prog 5 #[v0] W fun e w' => e = .returned (.bool true) ∧ Later W w' := by
 by_cases hb : bs.length ≤ 4096
 rotate_left
 · obtain ⟨_, x0, cap0, rfl, hcap0, hmax0, _⟩ := r0
   have hbg : decide ((4096 : Int) < (bs.length : Int)) = true := by simp; omega
   have HB := Lib.hid hbg
   clear hbg
   go_enter Tryz.func5, Tryz.ntmps5
   go_wp2_with fail
   refine (w_big _ _ _ (by omega) _).mono ?_
   rintro e w' ⟨rfl, rfl⟩
   rw [HB.out]
   go_wp2
   go_ret
   exact ⟨rfl, Later.refl _⟩
 have HC := Lib.hid (r0.reads (by omega))
 obtain ⟨_, x0, cap0, rfl, hcap0, hmax0, _⟩ := r0
 have hbg : decide ((4096 : Int) < (bs.length : Int)) = false := by simp; omega
 have HB := Lib.hid hbg
 clear hbg
 go_enter Tryz.func5, Tryz.ntmps5
 go_wp2_with fail
 refine (w_big _ _ _ (by omega) _).mono ?_
 rintro e w' ⟨rfl, rfl⟩
 rw [HB.out]
 go_wp2_with fail
 refine (w_DrawBetterPlan _ bs _ ((HC.out.later qlh)) hB hb).mono ?_
 rintro e w1 ⟨n, vu, vv, st, sd, vy, cc, r, rfl, hOu, hOv, hu5, hv5, hOy, hc7, hL⟩
 obtain ⟨au, capu, rfl⟩ := isSl_of hOu
 obtain ⟨av, capv, rfl⟩ := isSl_of hOv
 obtain ⟨ay, capy, rfl⟩ := isSl_of hOy
 have HW1 : Hid (Later W w1) := Lib.hid (Later.trans qlh hL)
 have hz1 := HW1.out.size
 have HOu_1 := Lib.hid hOu
 clear hOu
 have HOv_1 := Lib.hid hOv
 clear hOv
 have HOy_1 := Lib.hid hOy
 clear hOy
 clear hL
 have hbl := bpL_len7 ⟨n, st, sd⟩ cc ⟨r.en, r.pa, r.ey⟩ hc7
 go_wp2_with fail
 refine (w_implBetterPlan n _ _ _ st sd cc r.en r.pa r.ey _ (reads_of_owns (qoh HOu_1) (by omega)) (reads_of_owns (qoh HOv_1) (by omega)) (reads_of_owns (qoh HOy_1) (by omega))).mono ?_
 rintro e w2 ⟨ao, lo, ko, rfl, hL, hOo⟩
 have HW2 : Hid (Later W w2) := Lib.hid (Later.trans qlh hL)
 have hz2 := HW2.out.size
 have HOu_2 := Lib.hid (owns_later (qoh HOu_1) hL)
 have HOv_2 := Lib.hid (owns_later (qoh HOv_1) hL)
 have HOy_2 := Lib.hid (owns_later (qoh HOy_1) hL)
 have HK3_2 := Lib.hid (hL.keep (k := w1.heap.size) qkh)
 have HK5_2 := Lib.hid (hL.keep (k := w1.heap.size + 1) qkh)
 have HOo_2 := Lib.hid hOo
 clear hOo
 clear hL
 obtain ⟨c3, f3, z3_2⟩ := blk_at HK3_2.out
 obtain ⟨c5, f5, z5_2⟩ := blk_at HK5_2.out
 go_wp2_with fail
 refine (w_specBetterPlan n _ _ _ st sd cc r.en r.pa r.ey _ (reads_of_owns (qoh HOu_2) (by omega)) (reads_of_owns (qoh HOv_2) (by omega)) (reads_of_owns (qoh HOy_2) (by omega))).mono ?_
 rintro e w3 ⟨am, lm, km, rfl, hL, hOm⟩
 have HW3 : Hid (Later W w3) := Lib.hid (Later.trans qlh hL)
 have hz3 := HW3.out.size
 have HOu_3 := Lib.hid (owns_later (qoh HOu_2) hL)
 have HOv_3 := Lib.hid (owns_later (qoh HOv_2) hL)
 have HOy_3 := Lib.hid (owns_later (qoh HOy_2) hL)
 have HOo_3 := Lib.hid (owns_later (qoh HOo_2) hL)
 have HK3_3 := Lib.hid (hL.keep (k := w1.heap.size) qkh)
 have HK5_3 := Lib.hid (hL.keep (k := w1.heap.size + 1) qkh)
 have HOm_3 := Lib.hid hOm
 clear hOm
 clear hL c3 f3 c5 f5
 obtain ⟨c3, f3, z3_3⟩ := blk_at HK3_3.out
 obtain ⟨c5, f5, z5_3⟩ := blk_at HK5_3.out
 go_wp2_with fail
 refine (w_DrawLengthNeeded _ bs _ ((HC.out.later qlh)) hB hb).mono ?_
 rintro e w4 ⟨n2, ve, vf, st2, sd2, vg, cB, r2, x2, rfl, hOe, hOf, he5, hf5, hOg, hg7, hL⟩
 obtain ⟨ae, cape, rfl⟩ := isSl_of hOe
 obtain ⟨af, capf, rfl⟩ := isSl_of hOf
 obtain ⟨ag, capg, rfl⟩ := isSl_of hOg
 have HW4 : Hid (Later W w4) := Lib.hid (Later.trans qlh hL)
 have hz4 := HW4.out.size
 have HOu_4 := Lib.hid (owns_later (qoh HOu_3) hL)
 have HOv_4 := Lib.hid (owns_later (qoh HOv_3) hL)
 have HOy_4 := Lib.hid (owns_later (qoh HOy_3) hL)
 have HOo_4 := Lib.hid (owns_later (qoh HOo_3) hL)
 have HOm_4 := Lib.hid (owns_later (qoh HOm_3) hL)
 have HK3_4 := Lib.hid (hL.keep (k := w1.heap.size) qkh)
 have HK5_4 := Lib.hid (hL.keep (k := w1.heap.size + 1) qkh)
 have HOe_4 := Lib.hid hOe
 clear hOe
 have HOf_4 := Lib.hid hOf
 clear hOf
 have HOg_4 := Lib.hid hOg
 clear hOg
 clear hL c3 f3 c5 f5
 obtain ⟨c3, f3, z3_4⟩ := blk_at HK3_4.out
 obtain ⟨c5, f5, z5_4⟩ := blk_at HK5_4.out
 go_wp2_with fail
 refine (w_implLengthNeeded n2 _ _ _ st2 sd2 cB r2.en r2.pa r2.ey x2 _ (reads_of_owns (qoh HOe_4) (by omega)) (reads_of_owns (qoh HOf_4) (by omega)) (reads_of_owns (qoh HOg_4) (by omega))).mono ?_
 rintro e w5 ⟨rfl, hL⟩
 have HW5 : Hid (Later W w5) := Lib.hid (Later.trans qlh hL)
 have hz5 := HW5.out.size
 have HOu_5 := Lib.hid (owns_later (qoh HOu_4) hL)
 have HOv_5 := Lib.hid (owns_later (qoh HOv_4) hL)
 have HOy_5 := Lib.hid (owns_later (qoh HOy_4) hL)
 have HOo_5 := Lib.hid (owns_later (qoh HOo_4) hL)
 have HOm_5 := Lib.hid (owns_later (qoh HOm_4) hL)
 have HOe_5 := Lib.hid (owns_later (qoh HOe_4) hL)
 have HOf_5 := Lib.hid (owns_later (qoh HOf_4) hL)
 have HOg_5 := Lib.hid (owns_later (qoh HOg_4) hL)
 have HK3_5 := Lib.hid (hL.keep (k := w1.heap.size) qkh)
 have HK5_5 := Lib.hid (hL.keep (k := w1.heap.size + 1) qkh)
 have HK12_5 := Lib.hid (hL.keep (k := w4.heap.size) qkh)
 have HK14_5 := Lib.hid (hL.keep (k := w4.heap.size + 1) qkh)
 clear hL c3 f3 c5 f5
 obtain ⟨c3, f3, z3_5⟩ := blk_at HK3_5.out
 obtain ⟨c5, f5, z5_5⟩ := blk_at HK5_5.out
 obtain ⟨c12, f12, z12_5⟩ := blk_at HK12_5.out
 obtain ⟨c14, f14, z14_5⟩ := blk_at HK14_5.out
 go_wp2_with fail
 refine (w_specLengthNeeded n2 _ _ _ st2 sd2 cB r2.en r2.pa r2.ey x2 _ (reads_of_owns (qoh HOe_5) (by omega)) (reads_of_owns (qoh HOf_5) (by omega)) (reads_of_owns (qoh HOg_5) (by omega))).mono ?_
 rintro e w6 ⟨rfl, hL⟩
 have HW6 : Hid (Later W w6) := Lib.hid (Later.trans qlh hL)
 have hz6 := HW6.out.size
 have HOu_6 := Lib.hid (owns_later (qoh HOu_5) hL)
 have HOv_6 := Lib.hid (owns_later (qoh HOv_5) hL)
 have HOy_6 := Lib.hid (owns_later (qoh HOy_5) hL)
 have HOo_6 := Lib.hid (owns_later (qoh HOo_5) hL)
 have HOm_6 := Lib.hid (owns_later (qoh HOm_5) hL)
 have HOe_6 := Lib.hid (owns_later (qoh HOe_5) hL)
 have HOf_6 := Lib.hid (owns_later (qoh HOf_5) hL)
 have HOg_6 := Lib.hid (owns_later (qoh HOg_5) hL)
 have HK3_6 := Lib.hid (hL.keep (k := w1.heap.size) qkh)
 have HK5_6 := Lib.hid (hL.keep (k := w1.heap.size + 1) qkh)
 have HK12_6 := Lib.hid (hL.keep (k := w4.heap.size) qkh)
 have HK14_6 := Lib.hid (hL.keep (k := w4.heap.size + 1) qkh)
 clear hL c3 f3 c5 f5 c12 f12 c14 f14
 obtain ⟨c3, f3, z3_6⟩ := blk_at HK3_6.out
 obtain ⟨c5, f5, z5_6⟩ := blk_at HK5_6.out
 obtain ⟨c12, f12, z12_6⟩ := blk_at HK12_6.out
 obtain ⟨c14, f14, z14_6⟩ := blk_at HK14_6.out
 go_wp2_with fail
 refine (w_DrawErrorsFor _ bs _ ((HC.out.later qlh)) hB hb).mono ?_
 rintro e w7 ⟨n3, vp, vq, st3, sd3, vz, cA, r3, x3, rfl, hOp, hOq, hp5, hq5, hOz, hz7x, hL⟩
 obtain ⟨ap, capp, rfl⟩ := isSl_of hOp
 obtain ⟨aq, capq, rfl⟩ := isSl_of hOq
 obtain ⟨az, capz, rfl⟩ := isSl_of hOz
 have HW7 : Hid (Later W w7) := Lib.hid (Later.trans qlh hL)
 have hz7 := HW7.out.size
 have HOu_7 := Lib.hid (owns_later (qoh HOu_6) hL)
 have HOv_7 := Lib.hid (owns_later (qoh HOv_6) hL)
 have HOy_7 := Lib.hid (owns_later (qoh HOy_6) hL)
 have HOo_7 := Lib.hid (owns_later (qoh HOo_6) hL)
 have HOm_7 := Lib.hid (owns_later (qoh HOm_6) hL)
 have HOe_7 := Lib.hid (owns_later (qoh HOe_6) hL)
 have HOf_7 := Lib.hid (owns_later (qoh HOf_6) hL)
 have HOg_7 := Lib.hid (owns_later (qoh HOg_6) hL)
 have HK3_7 := Lib.hid (hL.keep (k := w1.heap.size) qkh)
 have HK5_7 := Lib.hid (hL.keep (k := w1.heap.size + 1) qkh)
 have HK12_7 := Lib.hid (hL.keep (k := w4.heap.size) qkh)
 have HK14_7 := Lib.hid (hL.keep (k := w4.heap.size + 1) qkh)
 have HOp_7 := Lib.hid hOp
 clear hOp
 have HOq_7 := Lib.hid hOq
 clear hOq
 have HOz_7 := Lib.hid hOz
 clear hOz
 clear hL c3 f3 c5 f5 c12 f12 c14 f14
 obtain ⟨c3, f3, z3_7⟩ := blk_at HK3_7.out
 obtain ⟨c5, f5, z5_7⟩ := blk_at HK5_7.out
 obtain ⟨c12, f12, z12_7⟩ := blk_at HK12_7.out
 obtain ⟨c14, f14, z14_7⟩ := blk_at HK14_7.out
 go_wp2_with fail
 refine (w_implErrorsFor n3 _ _ _ st3 sd3 cA r3.en r3.pa r3.ey x3 _ (reads_of_owns (qoh HOp_7) (by omega)) (reads_of_owns (qoh HOq_7) (by omega)) (reads_of_owns (qoh HOz_7) (by omega))).mono ?_
 rintro e w8 ⟨rfl, hL⟩
 have HW8 : Hid (Later W w8) := Lib.hid (Later.trans qlh hL)
 have hz8 := HW8.out.size
 have HOu_8 := Lib.hid (owns_later (qoh HOu_7) hL)
 have HOv_8 := Lib.hid (owns_later (qoh HOv_7) hL)
 have HOy_8 := Lib.hid (owns_later (qoh HOy_7) hL)
 have HOo_8 := Lib.hid (owns_later (qoh HOo_7) hL)
 have HOm_8 := Lib.hid (owns_later (qoh HOm_7) hL)
 have HOe_8 := Lib.hid (owns_later (qoh HOe_7) hL)
 have HOf_8 := Lib.hid (owns_later (qoh HOf_7) hL)
 have HOg_8 := Lib.hid (owns_later (qoh HOg_7) hL)
 have HOp_8 := Lib.hid (owns_later (qoh HOp_7) hL)
 have HOq_8 := Lib.hid (owns_later (qoh HOq_7) hL)
 have HOz_8 := Lib.hid (owns_later (qoh HOz_7) hL)
 have HK3_8 := Lib.hid (hL.keep (k := w1.heap.size) qkh)
 have HK5_8 := Lib.hid (hL.keep (k := w1.heap.size + 1) qkh)
 have HK12_8 := Lib.hid (hL.keep (k := w4.heap.size) qkh)
 have HK14_8 := Lib.hid (hL.keep (k := w4.heap.size + 1) qkh)
 have HK20_8 := Lib.hid (hL.keep (k := w7.heap.size) qkh)
 have HK22_8 := Lib.hid (hL.keep (k := w7.heap.size + 1) qkh)
 clear hL c3 f3 c5 f5 c12 f12 c14 f14
 obtain ⟨c3, f3, z3_8⟩ := blk_at HK3_8.out
 obtain ⟨c5, f5, z5_8⟩ := blk_at HK5_8.out
 obtain ⟨c12, f12, z12_8⟩ := blk_at HK12_8.out
 obtain ⟨c14, f14, z14_8⟩ := blk_at HK14_8.out
 obtain ⟨c20, f20, z20_8⟩ := blk_at HK20_8.out
 obtain ⟨c22, f22, z22_8⟩ := blk_at HK22_8.out
 go_wp2_with fail
 refine (w_specErrorsFor n3 _ _ _ st3 sd3 cA r3.en r3.pa r3.ey x3 _ (reads_of_owns (qoh HOp_8) (by omega)) (reads_of_owns (qoh HOq_8) (by omega)) (reads_of_owns (qoh HOz_8) (by omega))).mono ?_
 rintro e w9 ⟨rfl, hL⟩
 have HW9 : Hid (Later W w9) := Lib.hid (Later.trans qlh hL)
 have hz9 := HW9.out.size
 have HOu_9 := Lib.hid (owns_later (qoh HOu_8) hL)
 have HOv_9 := Lib.hid (owns_later (qoh HOv_8) hL)
 have HOy_9 := Lib.hid (owns_later (qoh HOy_8) hL)
 have HOo_9 := Lib.hid (owns_later (qoh HOo_8) hL)
 have HOm_9 := Lib.hid (owns_later (qoh HOm_8) hL)
 have HOe_9 := Lib.hid (owns_later (qoh HOe_8) hL)
 have HOf_9 := Lib.hid (owns_later (qoh HOf_8) hL)
 have HOg_9 := Lib.hid (owns_later (qoh HOg_8) hL)
 have HOp_9 := Lib.hid (owns_later (qoh HOp_8) hL)
 have HOq_9 := Lib.hid (owns_later (qoh HOq_8) hL)
 have HOz_9 := Lib.hid (owns_later (qoh HOz_8) hL)
 have HK3_9 := Lib.hid (hL.keep (k := w1.heap.size) qkh)
 have HK5_9 := Lib.hid (hL.keep (k := w1.heap.size + 1) qkh)
 have HK12_9 := Lib.hid (hL.keep (k := w4.heap.size) qkh)
 have HK14_9 := Lib.hid (hL.keep (k := w4.heap.size + 1) qkh)
 have HK20_9 := Lib.hid (hL.keep (k := w7.heap.size) qkh)
 have HK22_9 := Lib.hid (hL.keep (k := w7.heap.size + 1) qkh)
 clear hL c3 f3 c5 f5 c12 f12 c14 f14 c20 f20 c22 f22
 obtain ⟨c3, f3, z3_9⟩ := blk_at HK3_9.out
 obtain ⟨c5, f5, z5_9⟩ := blk_at HK5_9.out
 obtain ⟨c12, f12, z12_9⟩ := blk_at HK12_9.out
 obtain ⟨c14, f14, z14_9⟩ := blk_at HK14_9.out
 obtain ⟨c20, f20, z20_9⟩ := blk_at HK20_9.out
 obtain ⟨c22, f22, z22_9⟩ := blk_at HK22_9.out
 go_wp2_with fail
 refine (w_likeIntsY _ _ (bpL ⟨n, st, sd⟩ cc ⟨r.en, r.pa, r.ey⟩) _ (reads_of_owns (qoh HOo_9) (by omega)) (reads_of_owns (qoh HOm_9) (by omega))).mono ?_
 rintro e w10 ⟨rfl, hL⟩
 have HW10 : Hid (Later W w10) := Lib.hid (Later.trans qlh hL)
 have hz10 := HW10.out.size
 have HOu_10 := Lib.hid (owns_later (qoh HOu_9) hL)
 have HOv_10 := Lib.hid (owns_later (qoh HOv_9) hL)
 have HOy_10 := Lib.hid (owns_later (qoh HOy_9) hL)
 have HOo_10 := Lib.hid (owns_later (qoh HOo_9) hL)
 have HOm_10 := Lib.hid (owns_later (qoh HOm_9) hL)
 have HOe_10 := Lib.hid (owns_later (qoh HOe_9) hL)
 have HOf_10 := Lib.hid (owns_later (qoh HOf_9) hL)
 have HOg_10 := Lib.hid (owns_later (qoh HOg_9) hL)
 have HOp_10 := Lib.hid (owns_later (qoh HOp_9) hL)
 have HOq_10 := Lib.hid (owns_later (qoh HOq_9) hL)
 have HOz_10 := Lib.hid (owns_later (qoh HOz_9) hL)
 have HK3_10 := Lib.hid (hL.keep (k := w1.heap.size) qkh)
 have HK5_10 := Lib.hid (hL.keep (k := w1.heap.size + 1) qkh)
 have HK12_10 := Lib.hid (hL.keep (k := w4.heap.size) qkh)
 have HK14_10 := Lib.hid (hL.keep (k := w4.heap.size + 1) qkh)
 have HK20_10 := Lib.hid (hL.keep (k := w7.heap.size) qkh)
 have HK22_10 := Lib.hid (hL.keep (k := w7.heap.size + 1) qkh)
 clear hL c3 f3 c5 f5 c12 f12 c14 f14 c20 f20 c22 f22
 obtain ⟨c3, f3, z3_10⟩ := blk_at HK3_10.out
 obtain ⟨c5, f5, z5_10⟩ := blk_at HK5_10.out
 obtain ⟨c12, f12, z12_10⟩ := blk_at HK12_10.out
 obtain ⟨c14, f14, z14_10⟩ := blk_at HK14_10.out
 obtain ⟨c20, f20, z20_10⟩ := blk_at HK20_10.out
 obtain ⟨c22, f22, z22_10⟩ := blk_at HK22_10.out
 clear HOm_10
 by_cases hlen : codeLen ⟨n2, st2, sd2⟩ cB ⟨r2.en, r2.pa, r2.ey⟩ x2 = 0
 case' neg =>
  have hlb : (codeLen ⟨n2, st2, sd2⟩ cB ⟨r2.en, r2.pa, r2.ey⟩ x2 == 0) = false := by simpa using hlen
  clear HK12_10 c12 f12
  clear HK14_10 c14 f14
  clear HOe_10
  clear HOf_10
  clear HOg_10
  rename World => w50
  have HW50 := HW10
  have hz50 := hz10
  have HOu_50 := HOu_10
  have HOv_50 := HOv_10
  have HOy_50 := HOy_10
  have HOo_50 := HOo_10
  have HOp_50 := HOp_10
  have HOq_50 := HOq_10
  have HOz_50 := HOz_10
  have HK3_50 := HK3_10
  have z3_50 := z3_10
  have HK5_50 := HK5_10
  have z5_50 := z5_10
  have HK20_50 := HK20_10
  have z20_50 := z20_10
  have HK22_50 := HK22_10
  have z22_50 := z22_10
  clear HW10 HOu_10 HOv_10 HOy_10 HOo_10 HOp_10 HOq_10 HOz_10 HK3_10 HK5_10 HK20_10 HK22_10
 case' pos =>
  obtain ⟨L, hLn, l1, l2, lc, lu, lm⟩ := len_law hlen
  rw [hlen, hLn]
  have LC := Lib.hid lc
  obtain ⟨PU, hPU⟩ : ∃ x, planUn ⟨L, st2, sd2⟩ cB ⟨r2.en, r2.pa, r2.ey⟩ = x := ⟨_, rfl⟩
  have LU := Lib.hid hPU
  have hlu : decide (x2 < PU) = false := by rw [hPU] at lu; simp; omega
  clear lc lu hPU hLn
  go_wp2_with fail
  refine (w_implPlanUnits L _ _ _ st2 sd2 cB r2.en r2.pa r2.ey _ (reads_of_owns (qoh HOe_10) (by omega)) (reads_of_owns (qoh HOf_10) (by omega)) (reads_of_owns (qoh HOg_10) (by omega))).mono ?_
  rintro e w11 ⟨rfl, hL⟩
  have HW11 : Hid (Later W w11) := Lib.hid (Later.trans qlh hL)
  have hz11 := HW11.out.size
  have HOu_11 := Lib.hid (owns_later (qoh HOu_10) hL)
  have HOv_11 := Lib.hid (owns_later (qoh HOv_10) hL)
  have HOy_11 := Lib.hid (owns_later (qoh HOy_10) hL)
  have HOo_11 := Lib.hid (owns_later (qoh HOo_10) hL)
  have HOe_11 := Lib.hid (owns_later (qoh HOe_10) hL)
  have HOf_11 := Lib.hid (owns_later (qoh HOf_10) hL)
  have HOg_11 := Lib.hid (owns_later (qoh HOg_10) hL)
  have HOp_11 := Lib.hid (owns_later (qoh HOp_10) hL)
  have HOq_11 := Lib.hid (owns_later (qoh HOq_10) hL)
  have HOz_11 := Lib.hid (owns_later (qoh HOz_10) hL)
  have HK3_11 := Lib.hid (hL.keep (k := w1.heap.size) qkh)
  have HK5_11 := Lib.hid (hL.keep (k := w1.heap.size + 1) qkh)
  have HK12_11 := Lib.hid (hL.keep (k := w4.heap.size) qkh)
  have HK14_11 := Lib.hid (hL.keep (k := w4.heap.size + 1) qkh)
  have HK20_11 := Lib.hid (hL.keep (k := w7.heap.size) qkh)
  have HK22_11 := Lib.hid (hL.keep (k := w7.heap.size + 1) qkh)
  clear hL c3 f3 c5 f5 c12 f12 c14 f14 c20 f20 c22 f22
  obtain ⟨c3, f3, z3_11⟩ := blk_at HK3_11.out
  obtain ⟨c5, f5, z5_11⟩ := blk_at HK5_11.out
  obtain ⟨c12, f12, z12_11⟩ := blk_at HK12_11.out
  obtain ⟨c14, f14, z14_11⟩ := blk_at HK14_11.out
  obtain ⟨c20, f20, z20_11⟩ := blk_at HK20_11.out
  obtain ⟨c22, f22, z22_11⟩ := blk_at HK22_11.out
  rw [LC.out, LU.out]
  by_cases hmore : 1 < L
  case' neg =>
   have hmb : decide (1 < L) = false := by simpa using hmore
   clear lm
   clear HK12_11 c12 f12
   clear HK14_11 c14 f14
   clear HOe_11
   clear HOf_11
   clear HOg_11
   rename World => w40
   have HW40 := HW11
   have hz40 := hz11
   have HOu_40 := HOu_11
   have HOv_40 := HOv_11
   have HOy_40 := HOy_11
   have HOo_40 := HOo_11
   have HOp_40 := HOp_11
   have HOq_40 := HOq_11
   have HOz_40 := HOz_11
   have HK3_40 := HK3_11
   have z3_40 := z3_11
   have HK5_40 := HK5_11
   have z5_40 := z5_11
   have HK20_40 := HK20_11
   have z20_40 := z20_11
   have HK22_40 := HK22_11
   have z22_40 := z22_11
   clear HW11 HOu_11 HOv_11 HOy_11 HOo_11 HOp_11 HOq_11 HOz_11 HK3_11 HK5_11 HK20_11 HK22_11
  case' pos =>
   obtain ⟨mc, mu⟩ := lm hmore
   have hmb : decide (1 < L) = true := by simpa using hmore
   have wl : IntKind.i64.wrap (L - 1) = L - 1 := wrap_same (by omega) (by omega)
   have MC := Lib.hid mc
   obtain ⟨PW, hPW⟩ : ∃ x, planUn ⟨L - 1, st2, sd2⟩ cB ⟨r2.en, r2.pa, r2.ey⟩ = x := ⟨_, rfl⟩
   have MU := Lib.hid hPW
   have hmu : decide (PW ≤ x2) = false := by rw [hPW] at mu; simp; omega
   clear mc mu hPW lm
   go_wp2_with fail
   refine (w_implPlanUnits (L - 1) _ _ _ st2 sd2 cB r2.en r2.pa r2.ey _ (reads_of_owns (qoh HOe_11) (by omega)) (reads_of_owns (qoh HOf_11) (by omega)) (reads_of_owns (qoh HOg_11) (by omega))).mono ?_
   rintro e w12 ⟨rfl, hL⟩
   have HW12 : Hid (Later W w12) := Lib.hid (Later.trans qlh hL)
   have hz12 := HW12.out.size
   have HOu_12 := Lib.hid (owns_later (qoh HOu_11) hL)
   have HOv_12 := Lib.hid (owns_later (qoh HOv_11) hL)
   have HOy_12 := Lib.hid (owns_later (qoh HOy_11) hL)
   have HOo_12 := Lib.hid (owns_later (qoh HOo_11) hL)
   have HOe_12 := Lib.hid (owns_later (qoh HOe_11) hL)
   have HOf_12 := Lib.hid (owns_later (qoh HOf_11) hL)
   have HOg_12 := Lib.hid (owns_later (qoh HOg_11) hL)
   have HOp_12 := Lib.hid (owns_later (qoh HOp_11) hL)
   have HOq_12 := Lib.hid (owns_later (qoh HOq_11) hL)
   have HOz_12 := Lib.hid (owns_later (qoh HOz_11) hL)
   have HK3_12 := Lib.hid (hL.keep (k := w1.heap.size) qkh)
   have HK5_12 := Lib.hid (hL.keep (k := w1.heap.size + 1) qkh)
   have HK12_12 := Lib.hid (hL.keep (k := w4.heap.size) qkh)
   have HK14_12 := Lib.hid (hL.keep (k := w4.heap.size + 1) qkh)
   have HK20_12 := Lib.hid (hL.keep (k := w7.heap.size) qkh)
   have HK22_12 := Lib.hid (hL.keep (k := w7.heap.size + 1) qkh)
   clear hL c3 f3 c5 f5 c12 f12 c14 f14 c20 f20 c22 f22
   obtain ⟨c3, f3, z3_12⟩ := blk_at HK3_12.out
   obtain ⟨c5, f5, z5_12⟩ := blk_at HK5_12.out
   obtain ⟨c12, f12, z12_12⟩ := blk_at HK12_12.out
   obtain ⟨c14, f14, z14_12⟩ := blk_at HK14_12.out
   obtain ⟨c20, f20, z20_12⟩ := blk_at HK20_12.out
   obtain ⟨c22, f22, z22_12⟩ := blk_at HK22_12.out
   rw [MC.out, MU.out]
   clear HK12_12 c12 f12
   clear HK14_12 c14 f14
   clear HOe_12
   clear HOf_12
   clear HOg_12
   rename World => w40
   have HW40 := HW12
   have hz40 := hz12
   have HOu_40 := HOu_12
   have HOv_40 := HOv_12
   have HOy_40 := HOy_12
   have HOo_40 := HOo_12
   have HOp_40 := HOp_12
   have HOq_40 := HOq_12
   have HOz_40 := HOz_12
   have HK3_40 := HK3_12
   have z3_40 := z3_12
   have HK5_40 := HK5_12
   have z5_40 := z5_12
   have HK20_40 := HK20_12
   have z20_40 := z20_12
   have HK22_40 := HK22_12
   have z22_40 := z22_12
   clear HW12 HOu_12 HOv_12 HOy_12 HOo_12 HOp_12 HOq_12 HOz_12 HK3_12 HK5_12 HK20_12 HK22_12
  all_goals
   rename World => w50
   have HW50 := HW40
   have hz50 := hz40
   have HOu_50 := HOu_40
   have HOv_50 := HOv_40
   have HOy_50 := HOy_40
   have HOo_50 := HOo_40
   have HOp_50 := HOp_40
   have HOq_50 := HOq_40
   have HOz_50 := HOz_40
   have HK3_50 := HK3_40
   have z3_50 := z3_40
   have HK5_50 := HK5_40
   have z5_50 := z5_40
   have HK20_50 := HK20_40
   have z20_50 := z20_40
   have HK22_50 := HK22_40
   have z22_50 := z22_40
   clear HW40 HOu_40 HOv_40 HOy_40 HOo_40 HOp_40 HOq_40 HOz_40 HK3_40 HK5_40 HK20_40 HK22_40
 all_goals
  by_cases hq : efC ⟨n3, st3, sd3⟩ cA ⟨r3.en, r3.pa, r3.ey⟩ x3 = 0
  case' neg =>
   have hqb : (efC ⟨n3, st3, sd3⟩ cA ⟨r3.en, r3.pa, r3.ey⟩ x3 == 0) = false := by simpa using hq
   clear HK20_50 c20 f20
   clear HK22_50 c22 f22
   clear HOp_50
   clear HOq_50
   clear HOz_50
   rename World => w60
   have HW60 := HW50
   have hz60 := hz50
   have HOu_60 := HOu_50
   have HOv_60 := HOv_50
   have HOy_60 := HOy_50
   have HOo_60 := HOo_50
   have HK3_60 := HK3_50
   have z3_60 := z3_50
   have HK5_60 := HK5_50
   have z5_60 := z5_50
   clear HW50 HOu_50 HOv_50 HOy_50 HOo_50 HK3_50 HK5_50
  case' pos =>
   obtain ⟨k, hk, k1, k2, ke, kc, kv⟩ := errors_law hq
   rw [hq, hk]
   obtain ⟨p1, p2, p3, p4, p5, p6⟩ := isErs_bd ke
   simp only at p1 p2 p3 p4 p5 p6
   obtain ⟨pa0, pa9, pa1, pa2⟩ := part_bd p1 p2 k1 k2
   obtain ⟨pb0, pb9, pb1, pb2⟩ := part_bd p3 p4 k1 k2
   obtain ⟨pc0, pc9, pc1, pc2⟩ := part_bd p5 p6 k1 k2
   have KC := Lib.hid (show pbC ⟨n3, st3, sd3⟩ cA ⟨r3.en * k / 20, r3.pa * k / 20, r3.ey * k / 20⟩ = 0 from kc)
   obtain ⟨PV, hPV⟩ : ∃ x, pbV ⟨n3, st3, sd3⟩ cA ⟨r3.en * k / 20, r3.pa * k / 20, r3.ey * k / 20⟩ = x := ⟨_, rfl⟩
   have KV := Lib.hid hPV
   have hkv : decide (x3 < PV) = false := by have h : pbV ⟨n3, st3, sd3⟩ cA ⟨r3.en * k / 20, r3.pa * k / 20, r3.ey * k / 20⟩ ≤ x3 := kv; simp; omega
   clear hPV kc kv hk hq ke
   go_wp2_with fail
   refine (w_implPlanBound n3 _ _ _ st3 sd3 cA _ _ _ _ (reads_of_owns (qoh HOp_50) (by omega)) (reads_of_owns (qoh HOq_50) (by omega)) (reads_of_owns (qoh HOz_50) (by omega))).mono ?_
   rintro e w51 ⟨rfl, hL⟩
   have HW51 : Hid (Later W w51) := Lib.hid (Later.trans qlh hL)
   have hz51 := HW51.out.size
   have HOu_51 := Lib.hid (owns_later (qoh HOu_50) hL)
   have HOv_51 := Lib.hid (owns_later (qoh HOv_50) hL)
   have HOy_51 := Lib.hid (owns_later (qoh HOy_50) hL)
   have HOo_51 := Lib.hid (owns_later (qoh HOo_50) hL)
   have HOp_51 := Lib.hid (owns_later (qoh HOp_50) hL)
   have HOq_51 := Lib.hid (owns_later (qoh HOq_50) hL)
   have HOz_51 := Lib.hid (owns_later (qoh HOz_50) hL)
   have HK3_51 := Lib.hid (hL.keep (k := w1.heap.size) qkh)
   have HK5_51 := Lib.hid (hL.keep (k := w1.heap.size + 1) qkh)
   have HK20_51 := Lib.hid (hL.keep (k := w7.heap.size) qkh)
   have HK22_51 := Lib.hid (hL.keep (k := w7.heap.size + 1) qkh)
   clear hL c3 f3 c5 f5 c20 f20 c22 f22
   obtain ⟨c3, f3, z3_51⟩ := blk_at HK3_51.out
   obtain ⟨c5, f5, z5_51⟩ := blk_at HK5_51.out
   obtain ⟨c20, f20, z20_51⟩ := blk_at HK20_51.out
   obtain ⟨c22, f22, z22_51⟩ := blk_at HK22_51.out
   rw [KC.out, KV.out]
   clear HK20_51 c20 f20
   clear HK22_51 c22 f22
   clear HOp_51
   clear HOq_51
   clear HOz_51
   rename World => w60
   have HW60 := HW51
   have hz60 := hz51
   have HOu_60 := HOu_51
   have HOv_60 := HOv_51
   have HOy_60 := HOy_51
   have HOo_60 := HOo_51
   have HK3_60 := HK3_51
   have z3_60 := z3_51
   have HK5_60 := HK5_51
   have z5_60 := z5_51
   clear HW51 HOu_51 HOv_51 HOy_51 HOo_51 HK3_51 HK5_51
  all_goals
   by_cases hp : codeBound ⟨n, st, sd⟩ cc ⟨r.en, r.pa, r.ey⟩ = 0
   · skip
     have hpz : (codeBound ⟨n, st, sd⟩ cc ⟨r.en, r.pa, r.ey⟩ != 0) = false := by simpa using hp
     obtain ⟨b1, b2, b3, b4⟩ := better_law2 hp
     have B1 := Lib.hid b1
     have B2 := Lib.hid b2
     have B3 := Lib.hid b3
     have B0 := Lib.hid hp
     have hle : decide (bpN ⟨n, st, sd⟩ cc ⟨r.en, r.pa, r.ey⟩ ≤ planUn ⟨n, st, sd⟩ cc ⟨r.en, r.pa, r.ey⟩) = true := by simpa using b4
     have hob : (orderedL cc (bpL ⟨n, st, sd⟩ cc ⟨r.en, r.pa, r.ey⟩)).length ≤ 7 := by rw [orderedL_len]; exact hbl
     clear b1 b2 b3 b4 hp
     go_wp2_with fail
     refine (w_implPlanUnits n _ _ _ st sd cc r.en r.pa r.ey _ (reads_of_owns (qoh HOu_60) (by omega)) (reads_of_owns (qoh HOv_60) (by omega)) (reads_of_owns (qoh HOy_60) (by omega))).mono ?_
     rintro e w61 ⟨rfl, hL⟩
     have HW61 : Hid (Later W w61) := Lib.hid (Later.trans qlh hL)
     have hz61 := HW61.out.size
     have HOu_61 := Lib.hid (owns_later (qoh HOu_60) hL)
     have HOv_61 := Lib.hid (owns_later (qoh HOv_60) hL)
     have HOy_61 := Lib.hid (owns_later (qoh HOy_60) hL)
     have HOo_61 := Lib.hid (owns_later (qoh HOo_60) hL)
     have HK3_61 := Lib.hid (hL.keep (k := w1.heap.size) qkh)
     have HK5_61 := Lib.hid (hL.keep (k := w1.heap.size + 1) qkh)
     clear hL c3 f3 c5 f5
     obtain ⟨c3, f3, z3_61⟩ := blk_at HK3_61.out
     obtain ⟨c5, f5, z5_61⟩ := blk_at HK5_61.out
     rw [B0.out]
     go_wp2_with fail
     refine (w_implOrderTerms _ _ cc (bpL ⟨n, st, sd⟩ cc ⟨r.en, r.pa, r.ey⟩) _ (reads_of_owns (qoh HOy_61) (by omega)) (reads_of_owns (qoh HOo_61) (by omega))).mono ?_
     rintro e w62 ⟨b, rfl, hL, hOb⟩
     rw [B1.out] at hOb ⊢
     have HW62 : Hid (Later W w62) := Lib.hid (Later.trans qlh hL)
     have hz62 := HW62.out.size
     have HOu_62 := Lib.hid (owns_later (qoh HOu_61) hL)
     have HOv_62 := Lib.hid (owns_later (qoh HOv_61) hL)
     have HOy_62 := Lib.hid (owns_later (qoh HOy_61) hL)
     have HOo_62 := Lib.hid (owns_later (qoh HOo_61) hL)
     have HK3_62 := Lib.hid (hL.keep (k := w1.heap.size) qkh)
     have HK5_62 := Lib.hid (hL.keep (k := w1.heap.size + 1) qkh)
     have HOb_62 := Lib.hid hOb
     clear hOb
     clear hL c3 f3 c5 f5
     obtain ⟨c3, f3, z3_62⟩ := blk_at HK3_62.out
     obtain ⟨c5, f5, z5_62⟩ := blk_at HK5_62.out
     clear HOo_62
     go_wp2_with fail
     refine (w_implPlanUnits n _ _ _ st sd (orderedL cc (bpL ⟨n, st, sd⟩ cc ⟨r.en, r.pa, r.ey⟩)) r.en r.pa r.ey _ (reads_of_owns (qoh HOu_62) (by omega)) (reads_of_owns (qoh HOv_62) (by omega)) (reads_of_owns (qoh HOb_62) (by omega))).mono ?_
     rintro e w63 ⟨rfl, hL⟩
     have HW63 : Hid (Later W w63) := Lib.hid (Later.trans qlh hL)
     have hz63 := HW63.out.size
     have HOu_63 := Lib.hid (owns_later (qoh HOu_62) hL)
     have HOv_63 := Lib.hid (owns_later (qoh HOv_62) hL)
     have HOy_63 := Lib.hid (owns_later (qoh HOy_62) hL)
     have HOb_63 := Lib.hid (owns_later (qoh HOb_62) hL)
     have HK3_63 := Lib.hid (hL.keep (k := w1.heap.size) qkh)
     have HK5_63 := Lib.hid (hL.keep (k := w1.heap.size + 1) qkh)
     clear hL c3 f3 c5 f5
     obtain ⟨c3, f3, z3_63⟩ := blk_at HK3_63.out
     obtain ⟨c5, f5, z5_63⟩ := blk_at HK5_63.out
     rw [B2.out, B3.out]
     go_wp2
     go_ret
     exact ⟨rfl, qlh⟩
   · skip
     have hpb : (codeBound ⟨n, st, sd⟩ cc ⟨r.en, r.pa, r.ey⟩ != 0) = true := by simpa using hp
     go_wp2
     go_ret
     exact ⟨rfl, qlh⟩
theorem lifted (os : Os) (started : os.Started) (H : Type) (enc : TypeId × Value → H) :
 ReturnsInHanded {} Tryz.checked os 5 .any (Rows.fnBetterPlansSpec.pre6 enc Tryz.prog Tryz.f5 Rows.fnBetterPlansRow.domain false) (Rows.fnBetterPlansSpec.post enc Tryz.prog Tryz.f5 false true false false) := by
 refine returnsInHanded_of_change (C := Tryz.checked) o_own started (by kernel_rfl) Tryz.func5
  (ChangeSpec.witness6 (enc := enc) (C := Tryz.checked) false ⟨#[], #[.slice none 0 0], []⟩ 8 (by kernel_rfl) (by kernel_rfl) (by kernel_rfl) (by kernel_rfl)) ?_
 intro W base args ds gs before hval0 hW hcnd _
 have hval : ∀ (j : Nat) t v, Tryz.f5.params[j]? = some t → args[j]? = some v → Value.okWide Tryz.prog W .any base t v := hval0
 have hW' := hW
 obtain ⟨p, q, hA0, hV, rfl, hfz, hnd⟩ := hW
 have hA : DataW.TrodAll enc Tryz.prog W 0 (fun _ => true) true Tryz.f5.params.toList args.toList ds p := hA0
 rw [Tryz.params5] at hA hval
 obtain ⟨v0, vs0, d0, ds0, p0, q0, hargs, rfl, rfl, h0, r0⟩ := trodAll_cons hA
 obtain ⟨rfl, rfl, rfl⟩ := trodAll_nil r0
 obtain rfl : args = #[v0] := by cases args; simp_all
 obtain ⟨rfl, rfl⟩ := trodVars_none hV
 obtain ⟨a0, len0, cap0, rfl⟩ := okWide_slice Tryz.underlying22 (hval 0 22 v0 rfl rfl)
 have k0 := h0
 have lt0 : ∀ x ∈ p0, x.block < W.heap.size := by obtain ⟨m, hm⟩ := k0; exact DataW.trod_lt m _ _ _ hm
 obtain ⟨l0, w0, hB0⟩ := o_bytes h0
 clear hA0 hval0
 refine (walk _ l0 W w0 hB0).mono fun e W' ⟨he, bel⟩ => ?_
 subst he
 exact ⟨_, rfl, _, _, _, [], _, [], hW', trodAll_mk1 (shut_bool Tryz.underlying4 _), (trodAll_cons_mk (Below.trod o_laidOut (by kernel_rfl) (of_decide_eq_true (by kernel_rfl)) k0 bel lt0) trodAll_mk0), rfl, bel.frame _, fun h => by cases h⟩
theorem over : Rows.fnBetterPlansRow.holds Tryz.pinned (OpenSpec.ofChange Rows.fnBetterPlansSpec) :=
 OpenClaim.holds_of_wide 5 Tryz.f5 rfl rfl rfl rfl rfl rfl rfl ⟨rfl, rfl, rfl, rfl, rfl⟩ rfl rfl rfl rfl rfl (by kernel_rfl) Tryz.func5 (by kernel_rfl)
  (of_decide_eq_true (by kernel_rfl)) (by unfold Func.isWrapper; first | (rw [if_pos (by decide +kernel)]; kernel_rfl) | (rw [if_neg (by decide +kernel)]; exact ⟨rfl, rfl⟩))
  (fun os started H enc _ => lifted os started H enc)
theorem proved : Rows.FnBetterPlansSaid := over
#print axioms proved
end Go.Proofs.YtkoojngonldcbaaGreat.lawBetterPlans
