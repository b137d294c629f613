/- More errors give no smaller units and no narrower spans, and the value of the chain lies in the span: the law FnPlanBounds. It returns true for all codes. No condition. -/
import Derived.Test.YtkoojngonldcbaaGreatRows
import Derived.Test.YtkoojngonldcbaaGreatKBM1
import Derived.Test.YtkoojngonldcbaaGreatKBM61
import Derived.Test.YtkoojngonldcbaaGreatKBM71
import Derived.Test.YtkoojngonldcbaaGreatKBM72
import Derived.Test.YtkoojngonldcbaaGreatKBM73
import Derived.Test.YtkoojngonldcbaaGreatKBM74
import Derived.Test.YtkoojngonldcbaaGreatKBM31
import Derived.Test.YtkoojngonldcbaaGreatKBM121
import Derived.Test.YtkoojngonldcbaaGreatKBP24
namespace Go.Proofs.YtkoojngonldcbaaGreat.lawPlanBounds
set_option linter.unusedVariables false
set_option linter.unusedSimpArgs false
open Go.ChangeShapes Go.WideShapes Go.ChangeAt Go.RowKit
set_option linter.unusedVariables false
set_option maxRecDepth 100000
theorem bounds_law2 {r : Rul} {c : List Trm} {e : Ers} (h : psC r c e = 0) :
 codeBound r c ⟨0, 0, 0⟩ = 0 ∧ planUn r c ⟨0, 0, 0⟩ ≤ planUn r c e ∧ psC r c ⟨0, 0, 0⟩ = 0 ∧ chainSpanC c = 0 ∧
 (isFig (psL r c e) = true ∧ isFig (psH r c e) = true ∧ isFig (psL r c ⟨0, 0, 0⟩) = true ∧ isFig (psH r c ⟨0, 0, 0⟩) = true ∧ isFig (chainSpanL c) = true ∧ isFig (chainSpanH c) = true) ∧
 (cmpF (psL r c e) (psL r c ⟨0, 0, 0⟩) ≤ 0 ∧ cmpF (psL r c ⟨0, 0, 0⟩) (psH r c e) ≤ 0) ∧ (cmpF (psL r c e) (psH r c ⟨0, 0, 0⟩) ≤ 0 ∧ cmpF (psH r c ⟨0, 0, 0⟩) (psH r c e) ≤ 0) ∧
 (cmpF (psL r c ⟨0, 0, 0⟩) (chainSpanL c) ≤ 0 ∧ cmpF (chainSpanL c) (psH r c ⟨0, 0, 0⟩) ≤ 0) ∧ (cmpF (psL r c ⟨0, 0, 0⟩) (chainSpanH c) ≤ 0 ∧ cmpF (chainSpanH c) (psH r c ⟨0, 0, 0⟩) ≤ 0) := bounds_law h
set_option maxHeartbeats 4000000 in
theorem walk (v0 : Value) (bs : List Int) (W : World) (r0 : Raw W v0 bs.length 1 (byts bs)) (hB : ∀ b ∈ bs, 0 ≤ b ∧ b ≤ 255) :
 Calls Tryz.prog 6 #[v0] W fun e w' => e = .returned (.bool true) ∧ Later W w' := by
 by_cases hb : bs.length ≤ 4096
 rotate_left
 · obtain ⟨_, x0, cap0, rfl, hcap0, hmax0, _⟩ := r0
   have hbg : decide ((4096 : Int) < (bs.length : Int)) = true := by simp; omega
   have HB := Lib.hid hbg
   clear hbg
   go_enter Tryz.func6, Tryz.ntmps6
   go_wp2_with fail
   refine (w_big _ _ _ (by omega) _).mono ?_
   rintro e w' ⟨rfl, rfl⟩
   rw [HB.out]
   go_wp2
   go_ret
   exact ⟨rfl, Later.refl _⟩
 have HC := Lib.hid (r0.reads (by omega))
 obtain ⟨_, x0, cap0, rfl, hcap0, hmax0, _⟩ := r0
 have hbg : decide ((4096 : Int) < (bs.length : Int)) = false := by simp; omega
 have HB := Lib.hid hbg
 clear hbg
 go_enter Tryz.func6, Tryz.ntmps6
 go_wp2_with fail
 refine (w_big _ _ _ (by omega) _).mono ?_
 rintro e w' ⟨rfl, rfl⟩
 rw [HB.out]
 go_wp2_with fail
 refine (w_DrawPlanSpan _ bs _ ((HC.out.later qlh)) hB hb).mono ?_
 rintro e w1 ⟨n, vu, vv, st, sd, vy, cc, r, rfl, hOu, hOv, hu5, hv5, hOy, hc7, hL⟩
 obtain ⟨au, capu, rfl⟩ := isSl_of hOu
 obtain ⟨av, capv, rfl⟩ := isSl_of hOv
 obtain ⟨ay, capy, rfl⟩ := isSl_of hOy
 have HW1 : Hid (Later W w1) := Lib.hid (Later.trans qlh hL)
 have hz1 := HW1.out.size
 have HOu_1 := Lib.hid hOu
 clear hOu
 have HOv_1 := Lib.hid hOv
 clear hOv
 have HOy_1 := Lib.hid hOy
 clear hOy
 clear hL
 go_wp2_with fail
 refine (w_implPlanSpan n _ _ _ st sd cc r.en r.pa r.ey _ (reads_of_owns (qoh HOu_1) (by omega)) (reads_of_owns (qoh HOv_1) (by omega)) (reads_of_owns (qoh HOy_1) (by omega))).mono ?_
 rintro e w2 ⟨rfl, hL⟩
 have HW2 : Hid (Later W w2) := Lib.hid (Later.trans qlh hL)
 have hz2 := HW2.out.size
 have HOu_2 := Lib.hid (owns_later (qoh HOu_1) hL)
 have HOv_2 := Lib.hid (owns_later (qoh HOv_1) hL)
 have HOy_2 := Lib.hid (owns_later (qoh HOy_1) hL)
 have HK3_2 := Lib.hid (hL.keep (k := w1.heap.size) qkh)
 have HK5_2 := Lib.hid (hL.keep (k := w1.heap.size + 1) qkh)
 clear hL
 obtain ⟨c3, f3, z3_2⟩ := blk_at HK3_2.out
 obtain ⟨c5, f5, z5_2⟩ := blk_at HK5_2.out
 go_wp2_with fail
 refine (w_specPlanSpan n _ _ _ st sd cc r.en r.pa r.ey _ (reads_of_owns (qoh HOu_2) (by omega)) (reads_of_owns (qoh HOv_2) (by omega)) (reads_of_owns (qoh HOy_2) (by omega))).mono ?_
 rintro e w3 ⟨rfl, hL⟩
 have HW3 : Hid (Later W w3) := Lib.hid (Later.trans qlh hL)
 have hz3 := HW3.out.size
 have HOu_3 := Lib.hid (owns_later (qoh HOu_2) hL)
 have HOv_3 := Lib.hid (owns_later (qoh HOv_2) hL)
 have HOy_3 := Lib.hid (owns_later (qoh HOy_2) hL)
 have HK3_3 := Lib.hid (hL.keep (k := w1.heap.size) qkh)
 have HK5_3 := Lib.hid (hL.keep (k := w1.heap.size + 1) qkh)
 have HK6_3 := Lib.hid (hL.keep (k := w2.heap.size) qkh)
 have HK7_3 := Lib.hid (hL.keep (k := w2.heap.size + 1) qkh)
 clear hL c3 f3 c5 f5
 obtain ⟨c3, f3, z3_3⟩ := blk_at HK3_3.out
 obtain ⟨c5, f5, z5_3⟩ := blk_at HK5_3.out
 obtain ⟨c6, f6, z6_3⟩ := blk_at HK6_3.out
 obtain ⟨c7, f7, z7_3⟩ := blk_at HK7_3.out
 go_wp2_with fail
 refine (w_implPlanUnits n _ _ _ st sd cc r.en r.pa r.ey _ (reads_of_owns (qoh HOu_3) (by omega)) (reads_of_owns (qoh HOv_3) (by omega)) (reads_of_owns (qoh HOy_3) (by omega))).mono ?_
 rintro e w4 ⟨rfl, hL⟩
 have HW4 : Hid (Later W w4) := Lib.hid (Later.trans qlh hL)
 have hz4 := HW4.out.size
 have HOu_4 := Lib.hid (owns_later (qoh HOu_3) hL)
 have HOv_4 := Lib.hid (owns_later (qoh HOv_3) hL)
 have HOy_4 := Lib.hid (owns_later (qoh HOy_3) hL)
 have HK3_4 := Lib.hid (hL.keep (k := w1.heap.size) qkh)
 have HK5_4 := Lib.hid (hL.keep (k := w1.heap.size + 1) qkh)
 have HK6_4 := Lib.hid (hL.keep (k := w2.heap.size) qkh)
 have HK7_4 := Lib.hid (hL.keep (k := w2.heap.size + 1) qkh)
 have HK9_4 := Lib.hid (hL.keep (k := w3.heap.size) qkh)
 have HK10_4 := Lib.hid (hL.keep (k := w3.heap.size + 1) qkh)
 clear hL c3 f3 c5 f5 c6 f6 c7 f7
 obtain ⟨c3, f3, z3_4⟩ := blk_at HK3_4.out
 obtain ⟨c5, f5, z5_4⟩ := blk_at HK5_4.out
 obtain ⟨c6, f6, z6_4⟩ := blk_at HK6_4.out
 obtain ⟨c7, f7, z7_4⟩ := blk_at HK7_4.out
 obtain ⟨c9, f9, z9_4⟩ := blk_at HK9_4.out
 obtain ⟨c10, f10, z10_4⟩ := blk_at HK10_4.out
 go_wp2_with fail
 refine (w_specPlanUnits n _ _ _ st sd cc r.en r.pa r.ey _ (reads_of_owns (qoh HOu_4) (by omega)) (reads_of_owns (qoh HOv_4) (by omega)) (reads_of_owns (qoh HOy_4) (by omega))).mono ?_
 rintro e w5 ⟨rfl, hL⟩
 have HW5 : Hid (Later W w5) := Lib.hid (Later.trans qlh hL)
 have hz5 := HW5.out.size
 have HOu_5 := Lib.hid (owns_later (qoh HOu_4) hL)
 have HOv_5 := Lib.hid (owns_later (qoh HOv_4) hL)
 have HOy_5 := Lib.hid (owns_later (qoh HOy_4) hL)
 have HK3_5 := Lib.hid (hL.keep (k := w1.heap.size) qkh)
 have HK5_5 := Lib.hid (hL.keep (k := w1.heap.size + 1) qkh)
 have HK6_5 := Lib.hid (hL.keep (k := w2.heap.size) qkh)
 have HK7_5 := Lib.hid (hL.keep (k := w2.heap.size + 1) qkh)
 have HK9_5 := Lib.hid (hL.keep (k := w3.heap.size) qkh)
 have HK10_5 := Lib.hid (hL.keep (k := w3.heap.size + 1) qkh)
 clear hL c3 f3 c5 f5 c6 f6 c7 f7 c9 f9 c10 f10
 obtain ⟨c3, f3, z3_5⟩ := blk_at HK3_5.out
 obtain ⟨c5, f5, z5_5⟩ := blk_at HK5_5.out
 obtain ⟨c6, f6, z6_5⟩ := blk_at HK6_5.out
 obtain ⟨c7, f7, z7_5⟩ := blk_at HK7_5.out
 obtain ⟨c9, f9, z9_5⟩ := blk_at HK9_5.out
 obtain ⟨c10, f10, z10_5⟩ := blk_at HK10_5.out
 go_wp2_with fail
 refine (w_implPlanBound n _ _ _ st sd cc r.en r.pa r.ey _ (reads_of_owns (qoh HOu_5) (by omega)) (reads_of_owns (qoh HOv_5) (by omega)) (reads_of_owns (qoh HOy_5) (by omega))).mono ?_
 rintro e w6 ⟨rfl, hL⟩
 have HW6 : Hid (Later W w6) := Lib.hid (Later.trans qlh hL)
 have hz6 := HW6.out.size
 have HOu_6 := Lib.hid (owns_later (qoh HOu_5) hL)
 have HOv_6 := Lib.hid (owns_later (qoh HOv_5) hL)
 have HOy_6 := Lib.hid (owns_later (qoh HOy_5) hL)
 have HK3_6 := Lib.hid (hL.keep (k := w1.heap.size) qkh)
 have HK5_6 := Lib.hid (hL.keep (k := w1.heap.size + 1) qkh)
 have HK6_6 := Lib.hid (hL.keep (k := w2.heap.size) qkh)
 have HK7_6 := Lib.hid (hL.keep (k := w2.heap.size + 1) qkh)
 have HK9_6 := Lib.hid (hL.keep (k := w3.heap.size) qkh)
 have HK10_6 := Lib.hid (hL.keep (k := w3.heap.size + 1) qkh)
 clear hL c3 f3 c5 f5 c6 f6 c7 f7 c9 f9 c10 f10
 obtain ⟨c3, f3, z3_6⟩ := blk_at HK3_6.out
 obtain ⟨c5, f5, z5_6⟩ := blk_at HK5_6.out
 obtain ⟨c6, f6, z6_6⟩ := blk_at HK6_6.out
 obtain ⟨c7, f7, z7_6⟩ := blk_at HK7_6.out
 obtain ⟨c9, f9, z9_6⟩ := blk_at HK9_6.out
 obtain ⟨c10, f10, z10_6⟩ := blk_at HK10_6.out
 go_wp2_with fail
 refine (w_specPlanBound n _ _ _ st sd cc r.en r.pa r.ey _ (reads_of_owns (qoh HOu_6) (by omega)) (reads_of_owns (qoh HOv_6) (by omega)) (reads_of_owns (qoh HOy_6) (by omega))).mono ?_
 rintro e w7 ⟨rfl, hL⟩
 have HW7 : Hid (Later W w7) := Lib.hid (Later.trans qlh hL)
 have hz7 := HW7.out.size
 have HOu_7 := Lib.hid (owns_later (qoh HOu_6) hL)
 have HOv_7 := Lib.hid (owns_later (qoh HOv_6) hL)
 have HOy_7 := Lib.hid (owns_later (qoh HOy_6) hL)
 have HK3_7 := Lib.hid (hL.keep (k := w1.heap.size) qkh)
 have HK5_7 := Lib.hid (hL.keep (k := w1.heap.size + 1) qkh)
 have HK6_7 := Lib.hid (hL.keep (k := w2.heap.size) qkh)
 have HK7_7 := Lib.hid (hL.keep (k := w2.heap.size + 1) qkh)
 have HK9_7 := Lib.hid (hL.keep (k := w3.heap.size) qkh)
 have HK10_7 := Lib.hid (hL.keep (k := w3.heap.size + 1) qkh)
 clear hL c3 f3 c5 f5 c6 f6 c7 f7 c9 f9 c10 f10
 obtain ⟨c3, f3, z3_7⟩ := blk_at HK3_7.out
 obtain ⟨c5, f5, z5_7⟩ := blk_at HK5_7.out
 obtain ⟨c6, f6, z6_7⟩ := blk_at HK6_7.out
 obtain ⟨c7, f7, z7_7⟩ := blk_at HK7_7.out
 obtain ⟨c9, f9, z9_7⟩ := blk_at HK9_7.out
 obtain ⟨c10, f10, z10_7⟩ := blk_at HK10_7.out
 go_wp2_with fail
 refine (w_DrawIsWithin _ bs _ ((HC.out.later qlh)) hB hb).mono ?_
 rintro e w8 ⟨n2, ve, vf, st2, sd2, vg, c2, r2, f2, rfl, hOe, hOf, he5, hf5, hOg, hg7, hL⟩
 obtain ⟨ae, cape, rfl⟩ := isSl_of hOe
 obtain ⟨af, capf, rfl⟩ := isSl_of hOf
 obtain ⟨ag, capg, rfl⟩ := isSl_of hOg
 have HW8 : Hid (Later W w8) := Lib.hid (Later.trans qlh hL)
 have hz8 := HW8.out.size
 have HOu_8 := Lib.hid (owns_later (qoh HOu_7) hL)
 have HOv_8 := Lib.hid (owns_later (qoh HOv_7) hL)
 have HOy_8 := Lib.hid (owns_later (qoh HOy_7) hL)
 have HK3_8 := Lib.hid (hL.keep (k := w1.heap.size) qkh)
 have HK5_8 := Lib.hid (hL.keep (k := w1.heap.size + 1) qkh)
 have HK6_8 := Lib.hid (hL.keep (k := w2.heap.size) qkh)
 have HK7_8 := Lib.hid (hL.keep (k := w2.heap.size + 1) qkh)
 have HK9_8 := Lib.hid (hL.keep (k := w3.heap.size) qkh)
 have HK10_8 := Lib.hid (hL.keep (k := w3.heap.size + 1) qkh)
 have HOe_8 := Lib.hid hOe
 clear hOe
 have HOf_8 := Lib.hid hOf
 clear hOf
 have HOg_8 := Lib.hid hOg
 clear hOg
 clear hL c3 f3 c5 f5 c6 f6 c7 f7 c9 f9 c10 f10
 obtain ⟨c3, f3, z3_8⟩ := blk_at HK3_8.out
 obtain ⟨c5, f5, z5_8⟩ := blk_at HK5_8.out
 obtain ⟨c6, f6, z6_8⟩ := blk_at HK6_8.out
 obtain ⟨c7, f7, z7_8⟩ := blk_at HK7_8.out
 obtain ⟨c9, f9, z9_8⟩ := blk_at HK9_8.out
 obtain ⟨c10, f10, z10_8⟩ := blk_at HK10_8.out
 go_wp2_with fail
 refine (w_implIsWithin n2 _ _ _ st2 sd2 c2 r2.en r2.pa r2.ey f2.d f2.t _ (reads_of_owns (qoh HOe_8) (by omega)) (reads_of_owns (qoh HOf_8) (by omega)) (reads_of_owns (qoh HOg_8) (by omega))).mono ?_
 rintro e w9 ⟨rfl, hL⟩
 have HW9 : Hid (Later W w9) := Lib.hid (Later.trans qlh hL)
 have hz9 := HW9.out.size
 have HOu_9 := Lib.hid (owns_later (qoh HOu_8) hL)
 have HOv_9 := Lib.hid (owns_later (qoh HOv_8) hL)
 have HOy_9 := Lib.hid (owns_later (qoh HOy_8) hL)
 have HOe_9 := Lib.hid (owns_later (qoh HOe_8) hL)
 have HOf_9 := Lib.hid (owns_later (qoh HOf_8) hL)
 have HOg_9 := Lib.hid (owns_later (qoh HOg_8) hL)
 have HK3_9 := Lib.hid (hL.keep (k := w1.heap.size) qkh)
 have HK5_9 := Lib.hid (hL.keep (k := w1.heap.size + 1) qkh)
 have HK6_9 := Lib.hid (hL.keep (k := w2.heap.size) qkh)
 have HK7_9 := Lib.hid (hL.keep (k := w2.heap.size + 1) qkh)
 have HK9_9 := Lib.hid (hL.keep (k := w3.heap.size) qkh)
 have HK10_9 := Lib.hid (hL.keep (k := w3.heap.size + 1) qkh)
 have HK20_9 := Lib.hid (hL.keep (k := w8.heap.size) qkh)
 have HK22_9 := Lib.hid (hL.keep (k := w8.heap.size + 1) qkh)
 have HK23_9 := Lib.hid (hL.keep (k := w8.heap.size + 1 + 1) qkh)
 clear hL c3 f3 c5 f5 c6 f6 c7 f7 c9 f9 c10 f10
 obtain ⟨c3, f3, z3_9⟩ := blk_at HK3_9.out
 obtain ⟨c5, f5, z5_9⟩ := blk_at HK5_9.out
 obtain ⟨c6, f6, z6_9⟩ := blk_at HK6_9.out
 obtain ⟨c7, f7, z7_9⟩ := blk_at HK7_9.out
 obtain ⟨c9, f9, z9_9⟩ := blk_at HK9_9.out
 obtain ⟨c10, f10, z10_9⟩ := blk_at HK10_9.out
 obtain ⟨c20, f20, z20_9⟩ := blk_at HK20_9.out
 obtain ⟨c22, f22, z22_9⟩ := blk_at HK22_9.out
 obtain ⟨c23, f23, z23_9⟩ := blk_at HK23_9.out
 go_wp2_with fail
 refine (w_specIsWithin n2 _ _ _ st2 sd2 c2 r2.en r2.pa r2.ey f2.d f2.t _ (reads_of_owns (qoh HOe_9) (by omega)) (reads_of_owns (qoh HOf_9) (by omega)) (reads_of_owns (qoh HOg_9) (by omega))).mono ?_
 rintro e w10 ⟨rfl, hL⟩
 have HW10 : Hid (Later W w10) := Lib.hid (Later.trans qlh hL)
 have hz10 := HW10.out.size
 have HOu_10 := Lib.hid (owns_later (qoh HOu_9) hL)
 have HOv_10 := Lib.hid (owns_later (qoh HOv_9) hL)
 have HOy_10 := Lib.hid (owns_later (qoh HOy_9) hL)
 have HOe_10 := Lib.hid (owns_later (qoh HOe_9) hL)
 have HOf_10 := Lib.hid (owns_later (qoh HOf_9) hL)
 have HOg_10 := Lib.hid (owns_later (qoh HOg_9) hL)
 have HK3_10 := Lib.hid (hL.keep (k := w1.heap.size) qkh)
 have HK5_10 := Lib.hid (hL.keep (k := w1.heap.size + 1) qkh)
 have HK6_10 := Lib.hid (hL.keep (k := w2.heap.size) qkh)
 have HK7_10 := Lib.hid (hL.keep (k := w2.heap.size + 1) qkh)
 have HK9_10 := Lib.hid (hL.keep (k := w3.heap.size) qkh)
 have HK10_10 := Lib.hid (hL.keep (k := w3.heap.size + 1) qkh)
 have HK20_10 := Lib.hid (hL.keep (k := w8.heap.size) qkh)
 have HK22_10 := Lib.hid (hL.keep (k := w8.heap.size + 1) qkh)
 have HK23_10 := Lib.hid (hL.keep (k := w8.heap.size + 1 + 1) qkh)
 clear hL c3 f3 c5 f5 c6 f6 c7 f7 c9 f9 c10 f10 c20 f20 c22 f22 c23 f23
 obtain ⟨c3, f3, z3_10⟩ := blk_at HK3_10.out
 obtain ⟨c5, f5, z5_10⟩ := blk_at HK5_10.out
 obtain ⟨c6, f6, z6_10⟩ := blk_at HK6_10.out
 obtain ⟨c7, f7, z7_10⟩ := blk_at HK7_10.out
 obtain ⟨c9, f9, z9_10⟩ := blk_at HK9_10.out
 obtain ⟨c10, f10, z10_10⟩ := blk_at HK10_10.out
 obtain ⟨c20, f20, z20_10⟩ := blk_at HK20_10.out
 obtain ⟨c22, f22, z22_10⟩ := blk_at HK22_10.out
 obtain ⟨c23, f23, z23_10⟩ := blk_at HK23_10.out
 clear HOe_10
 clear HOf_10
 clear HOg_10
 by_cases hcd : psC ⟨n, st, sd⟩ cc ⟨r.en, r.pa, r.ey⟩ = 0
 · skip
   obtain ⟨q1, q2, q3, q4, ⟨f1, f2', f3, f4, f5, f6⟩, ⟨k1, k2⟩, ⟨k3, k4⟩, ⟨k5, k6⟩, ⟨k7, k8⟩⟩ := bounds_law2 hcd
   have hcb : (psC ⟨n, st, sd⟩ cc ⟨r.en, r.pa, r.ey⟩ != 0) = false := by simpa using hcd
   have Q1 := Lib.hid (show codeBound ⟨n, st, sd⟩ cc ⟨0, 0, 0⟩ = 0 from q1)
   have Q3 := Lib.hid (show psC ⟨n, st, sd⟩ cc ⟨0, 0, 0⟩ = 0 from q3)
   have Q4 := Lib.hid q4
   have hle : decide (planUn ⟨n, st, sd⟩ cc ⟨0, 0, 0⟩ ≤ planUn ⟨n, st, sd⟩ cc ⟨r.en, r.pa, r.ey⟩) = true := by simpa using (show planUn ⟨n, st, sd⟩ cc ⟨0, 0, 0⟩ ≤ planUn ⟨n, st, sd⟩ cc ⟨r.en, r.pa, r.ey⟩ from q2)
   have HF := Lib.hid (And.intro f1 (And.intro f2' (And.intro f3 (And.intro f4 (And.intro f5 f6)))))
   have HK := Lib.hid (And.intro k1 (And.intro k2 (And.intro k3 (And.intro k4 (And.intro k5 (And.intro k6 (And.intro k7 k8)))))))
   clear q1 q2 q3 q4 f1 f2' f3 f4 f5 f6 k1 k2 k3 k4 k5 k6 k7 k8
   go_wp2_with fail
   refine (w_implPlanUnits n _ _ _ st sd cc 0 0 0 _ (reads_of_owns (qoh HOu_10) (by omega)) (reads_of_owns (qoh HOv_10) (by omega)) (reads_of_owns (qoh HOy_10) (by omega))).mono ?_
   rintro e w11 ⟨rfl, hL⟩
   have HW11 : Hid (Later W w11) := Lib.hid (Later.trans qlh hL)
   have hz11 := HW11.out.size
   have HOu_11 := Lib.hid (owns_later (qoh HOu_10) hL)
   have HOv_11 := Lib.hid (owns_later (qoh HOv_10) hL)
   have HOy_11 := Lib.hid (owns_later (qoh HOy_10) hL)
   have HK3_11 := Lib.hid (hL.keep (k := w1.heap.size) qkh)
   have HK5_11 := Lib.hid (hL.keep (k := w1.heap.size + 1) qkh)
   have HK6_11 := Lib.hid (hL.keep (k := w2.heap.size) qkh)
   have HK7_11 := Lib.hid (hL.keep (k := w2.heap.size + 1) qkh)
   have HK9_11 := Lib.hid (hL.keep (k := w3.heap.size) qkh)
   have HK10_11 := Lib.hid (hL.keep (k := w3.heap.size + 1) qkh)
   have HK20_11 := Lib.hid (hL.keep (k := w8.heap.size) qkh)
   have HK22_11 := Lib.hid (hL.keep (k := w8.heap.size + 1) qkh)
   have HK23_11 := Lib.hid (hL.keep (k := w8.heap.size + 1 + 1) qkh)
   clear hL c3 f3 c5 f5 c6 f6 c7 f7 c9 f9 c10 f10 c20 f20 c22 f22 c23 f23
   obtain ⟨c3, f3, z3_11⟩ := blk_at HK3_11.out
   obtain ⟨c5, f5, z5_11⟩ := blk_at HK5_11.out
   obtain ⟨c6, f6, z6_11⟩ := blk_at HK6_11.out
   obtain ⟨c7, f7, z7_11⟩ := blk_at HK7_11.out
   obtain ⟨c9, f9, z9_11⟩ := blk_at HK9_11.out
   obtain ⟨c10, f10, z10_11⟩ := blk_at HK10_11.out
   obtain ⟨c20, f20, z20_11⟩ := blk_at HK20_11.out
   obtain ⟨c22, f22, z22_11⟩ := blk_at HK22_11.out
   obtain ⟨c23, f23, z23_11⟩ := blk_at HK23_11.out
   rw [Q1.out]
   clear HK5_11 c5 f5
   clear HK9_11 c9 f9
   clear HK10_11 c10 f10
   clear HK20_11 c20 f20
   clear HK22_11 c22 f22
   clear HK23_11 c23 f23
   go_wp2_with fail
   refine (w_implPlanSpan n _ _ _ st sd cc 0 0 0 _ (reads_of_owns (qoh HOu_11) (by omega)) (reads_of_owns (qoh HOv_11) (by omega)) (reads_of_owns (qoh HOy_11) (by omega))).mono ?_
   rintro e w12 ⟨rfl, hL⟩
   have HW12 : Hid (Later W w12) := Lib.hid (Later.trans qlh hL)
   have hz12 := HW12.out.size
   have HOu_12 := Lib.hid (owns_later (qoh HOu_11) hL)
   have HOv_12 := Lib.hid (owns_later (qoh HOv_11) hL)
   have HOy_12 := Lib.hid (owns_later (qoh HOy_11) hL)
   have HK3_12 := Lib.hid (hL.keep (k := w1.heap.size) qkh)
   have HK6_12 := Lib.hid (hL.keep (k := w2.heap.size) qkh)
   have HK7_12 := Lib.hid (hL.keep (k := w2.heap.size + 1) qkh)
   clear hL c3 f3 c6 f6 c7 f7
   obtain ⟨c3, f3, z3_12⟩ := blk_at HK3_12.out
   obtain ⟨c6, f6, z6_12⟩ := blk_at HK6_12.out
   obtain ⟨c7, f7, z7_12⟩ := blk_at HK7_12.out
   rw [Q3.out]
   clear HK3_12 c3 f3
   go_wp2_with fail
   refine (w_implChainSpan _ cc _ (reads_of_owns (qoh HOy_12) (by omega))).mono ?_
   rintro e w13 ⟨rfl, hL⟩
   have HW13 : Hid (Later W w13) := Lib.hid (Later.trans qlh hL)
   have hz13 := HW13.out.size
   have HOu_13 := Lib.hid (owns_later (qoh HOu_12) hL)
   have HOv_13 := Lib.hid (owns_later (qoh HOv_12) hL)
   have HOy_13 := Lib.hid (owns_later (qoh HOy_12) hL)
   have HK6_13 := Lib.hid (hL.keep (k := w2.heap.size) qkh)
   have HK7_13 := Lib.hid (hL.keep (k := w2.heap.size + 1) qkh)
   have HK30_13 := Lib.hid (hL.keep (k := w12.heap.size) qkh)
   have HK31_13 := Lib.hid (hL.keep (k := w12.heap.size + 1) qkh)
   clear hL c6 f6 c7 f7
   obtain ⟨c6, f6, z6_13⟩ := blk_at HK6_13.out
   obtain ⟨c7, f7, z7_13⟩ := blk_at HK7_13.out
   obtain ⟨c30, f30, z30_13⟩ := blk_at HK30_13.out
   obtain ⟨c31, f31, z31_13⟩ := blk_at HK31_13.out
   rw [Q4.out]
   clear HOu_13
   clear HOv_13
   clear HOy_13
   go_wp2_with fail
   refine (w_between (psL ⟨n, st, sd⟩ cc ⟨r.en, r.pa, r.ey⟩).d (psL ⟨n, st, sd⟩ cc ⟨r.en, r.pa, r.ey⟩).t (psL ⟨n, st, sd⟩ cc ⟨0, 0, 0⟩).d (psL ⟨n, st, sd⟩ cc ⟨0, 0, 0⟩).t (psH ⟨n, st, sd⟩ cc ⟨r.en, r.pa, r.ey⟩).d (psH ⟨n, st, sd⟩ cc ⟨r.en, r.pa, r.ey⟩).t _ HF.out.1 HF.out.2.2.1 HF.out.2.1 HK.out.1 HK.out.2.1).mono ?_
   rintro e w14 ⟨rfl, hL⟩
   have HW14 : Hid (Later W w14) := Lib.hid (Later.trans qlh hL)
   have hz14 := HW14.out.size
   have HK6_14 := Lib.hid (hL.keep (k := w2.heap.size) qkh)
   have HK7_14 := Lib.hid (hL.keep (k := w2.heap.size + 1) qkh)
   have HK30_14 := Lib.hid (hL.keep (k := w12.heap.size) qkh)
   have HK31_14 := Lib.hid (hL.keep (k := w12.heap.size + 1) qkh)
   have HK33_14 := Lib.hid (hL.keep (k := w13.heap.size) qkh)
   have HK34_14 := Lib.hid (hL.keep (k := w13.heap.size + 1) qkh)
   clear hL c6 f6 c7 f7 c30 f30 c31 f31
   obtain ⟨c6, f6, z6_14⟩ := blk_at HK6_14.out
   obtain ⟨c7, f7, z7_14⟩ := blk_at HK7_14.out
   obtain ⟨c30, f30, z30_14⟩ := blk_at HK30_14.out
   obtain ⟨c31, f31, z31_14⟩ := blk_at HK31_14.out
   obtain ⟨c33, f33, z33_14⟩ := blk_at HK33_14.out
   obtain ⟨c34, f34, z34_14⟩ := blk_at HK34_14.out
   go_wp2_with fail
   refine (w_between (psL ⟨n, st, sd⟩ cc ⟨r.en, r.pa, r.ey⟩).d (psL ⟨n, st, sd⟩ cc ⟨r.en, r.pa, r.ey⟩).t (psH ⟨n, st, sd⟩ cc ⟨0, 0, 0⟩).d (psH ⟨n, st, sd⟩ cc ⟨0, 0, 0⟩).t (psH ⟨n, st, sd⟩ cc ⟨r.en, r.pa, r.ey⟩).d (psH ⟨n, st, sd⟩ cc ⟨r.en, r.pa, r.ey⟩).t _ HF.out.1 HF.out.2.2.2.1 HF.out.2.1 HK.out.2.2.1 HK.out.2.2.2.1).mono ?_
   rintro e w15 ⟨rfl, hL⟩
   have HW15 : Hid (Later W w15) := Lib.hid (Later.trans qlh hL)
   have hz15 := HW15.out.size
   have HK6_15 := Lib.hid (hL.keep (k := w2.heap.size) qkh)
   have HK7_15 := Lib.hid (hL.keep (k := w2.heap.size + 1) qkh)
   have HK30_15 := Lib.hid (hL.keep (k := w12.heap.size) qkh)
   have HK31_15 := Lib.hid (hL.keep (k := w12.heap.size + 1) qkh)
   have HK33_15 := Lib.hid (hL.keep (k := w13.heap.size) qkh)
   have HK34_15 := Lib.hid (hL.keep (k := w13.heap.size + 1) qkh)
   clear hL c6 f6 c7 f7 c30 f30 c31 f31 c33 f33 c34 f34
   obtain ⟨c6, f6, z6_15⟩ := blk_at HK6_15.out
   obtain ⟨c7, f7, z7_15⟩ := blk_at HK7_15.out
   obtain ⟨c30, f30, z30_15⟩ := blk_at HK30_15.out
   obtain ⟨c31, f31, z31_15⟩ := blk_at HK31_15.out
   obtain ⟨c33, f33, z33_15⟩ := blk_at HK33_15.out
   obtain ⟨c34, f34, z34_15⟩ := blk_at HK34_15.out
   go_wp2_with fail
   refine (w_between (psL ⟨n, st, sd⟩ cc ⟨0, 0, 0⟩).d (psL ⟨n, st, sd⟩ cc ⟨0, 0, 0⟩).t (chainSpanL cc).d (chainSpanL cc).t (psH ⟨n, st, sd⟩ cc ⟨0, 0, 0⟩).d (psH ⟨n, st, sd⟩ cc ⟨0, 0, 0⟩).t _ HF.out.2.2.1 HF.out.2.2.2.2.1 HF.out.2.2.2.1 HK.out.2.2.2.2.1 HK.out.2.2.2.2.2.1).mono ?_
   rintro e w16 ⟨rfl, hL⟩
   have HW16 : Hid (Later W w16) := Lib.hid (Later.trans qlh hL)
   have hz16 := HW16.out.size
   have HK6_16 := Lib.hid (hL.keep (k := w2.heap.size) qkh)
   have HK7_16 := Lib.hid (hL.keep (k := w2.heap.size + 1) qkh)
   have HK30_16 := Lib.hid (hL.keep (k := w12.heap.size) qkh)
   have HK31_16 := Lib.hid (hL.keep (k := w12.heap.size + 1) qkh)
   have HK33_16 := Lib.hid (hL.keep (k := w13.heap.size) qkh)
   have HK34_16 := Lib.hid (hL.keep (k := w13.heap.size + 1) qkh)
   clear hL c6 f6 c7 f7 c30 f30 c31 f31 c33 f33 c34 f34
   obtain ⟨c6, f6, z6_16⟩ := blk_at HK6_16.out
   obtain ⟨c7, f7, z7_16⟩ := blk_at HK7_16.out
   obtain ⟨c30, f30, z30_16⟩ := blk_at HK30_16.out
   obtain ⟨c31, f31, z31_16⟩ := blk_at HK31_16.out
   obtain ⟨c33, f33, z33_16⟩ := blk_at HK33_16.out
   obtain ⟨c34, f34, z34_16⟩ := blk_at HK34_16.out
   go_wp2_with fail
   refine (w_between (psL ⟨n, st, sd⟩ cc ⟨0, 0, 0⟩).d (psL ⟨n, st, sd⟩ cc ⟨0, 0, 0⟩).t (chainSpanH cc).d (chainSpanH cc).t (psH ⟨n, st, sd⟩ cc ⟨0, 0, 0⟩).d (psH ⟨n, st, sd⟩ cc ⟨0, 0, 0⟩).t _ HF.out.2.2.1 HF.out.2.2.2.2.2 HF.out.2.2.2.1 HK.out.2.2.2.2.2.2.1 HK.out.2.2.2.2.2.2.2).mono ?_
   rintro e w17 ⟨rfl, hL⟩
   have HW17 : Hid (Later W w17) := Lib.hid (Later.trans qlh hL)
   have hz17 := HW17.out.size
   have HK6_17 := Lib.hid (hL.keep (k := w2.heap.size) qkh)
   have HK7_17 := Lib.hid (hL.keep (k := w2.heap.size + 1) qkh)
   have HK30_17 := Lib.hid (hL.keep (k := w12.heap.size) qkh)
   have HK31_17 := Lib.hid (hL.keep (k := w12.heap.size + 1) qkh)
   have HK33_17 := Lib.hid (hL.keep (k := w13.heap.size) qkh)
   have HK34_17 := Lib.hid (hL.keep (k := w13.heap.size + 1) qkh)
   clear hL c6 f6 c7 f7 c30 f30 c31 f31 c33 f33 c34 f34
   obtain ⟨c6, f6, z6_17⟩ := blk_at HK6_17.out
   obtain ⟨c7, f7, z7_17⟩ := blk_at HK7_17.out
   obtain ⟨c30, f30, z30_17⟩ := blk_at HK30_17.out
   obtain ⟨c31, f31, z31_17⟩ := blk_at HK31_17.out
   obtain ⟨c33, f33, z33_17⟩ := blk_at HK33_17.out
   obtain ⟨c34, f34, z34_17⟩ := blk_at HK34_17.out
   go_wp2
   go_ret
   exact ⟨rfl, qlh⟩
 · skip
   have hcb : (psC ⟨n, st, sd⟩ cc ⟨r.en, r.pa, r.ey⟩ != 0) = true := by simpa using hcd
   go_wp2
   go_ret
   exact ⟨rfl, qlh⟩
theorem lifted (os : Os) (started : os.Started) (H : Type) (enc : TypeId × Value → H) :
 ReturnsInHanded {} Tryz.checked os 6 .any (Rows.fnPlanBoundsSpec.pre6 enc Tryz.prog Tryz.f6 Rows.fnPlanBoundsRow.domain false) (Rows.fnPlanBoundsSpec.post enc Tryz.prog Tryz.f6 false true false false) := by
 refine returnsInHanded_of_change (C := Tryz.checked) o_own started (by kernel_rfl) Tryz.func6
  (ChangeSpec.witness6 (enc := enc) (C := Tryz.checked) false ⟨#[], #[.slice none 0 0], []⟩ 8 (by kernel_rfl) (by kernel_rfl) (by kernel_rfl) (by kernel_rfl)) ?_
 intro W base args ds gs before hval0 hW hcnd _
 have hval : ∀ (j : Nat) t v, Tryz.f6.params[j]? = some t → args[j]? = some v → Value.okWide Tryz.prog W .any base t v := hval0
 have hW' := hW
 obtain ⟨p, q, hA0, hV, rfl, hfz, hnd⟩ := hW
 have hA : DataW.TrodAll enc Tryz.prog W 0 (fun _ => true) true Tryz.f6.params.toList args.toList ds p := hA0
 rw [Tryz.params6] at hA hval
 obtain ⟨v0, vs0, d0, ds0, p0, q0, hargs, rfl, rfl, h0, r0⟩ := trodAll_cons hA
 obtain ⟨rfl, rfl, rfl⟩ := trodAll_nil r0
 obtain rfl : args = #[v0] := by cases args; simp_all
 obtain ⟨rfl, rfl⟩ := trodVars_none hV
 obtain ⟨a0, len0, cap0, rfl⟩ := okWide_slice Tryz.underlying22 (hval 0 22 v0 rfl rfl)
 have k0 := h0
 have lt0 : ∀ x ∈ p0, x.block < W.heap.size := by obtain ⟨m, hm⟩ := k0; exact DataW.trod_lt m _ _ _ hm
 obtain ⟨l0, w0, hB0⟩ := o_bytes h0
 clear hA0 hval0
 refine (walk _ l0 W w0 hB0).mono fun e W' ⟨he, bel⟩ => ?_
 subst he
 exact ⟨_, rfl, _, _, _, [], _, [], hW', trodAll_mk1 (shut_bool Tryz.underlying4 _), (trodAll_cons_mk (Below.trod o_laidOut (by kernel_rfl) (of_decide_eq_true (by kernel_rfl)) k0 bel lt0) trodAll_mk0), rfl, bel.frame _, fun h => by cases h⟩
theorem over : Rows.fnPlanBoundsRow.holds Tryz.pinned (OpenSpec.ofChange Rows.fnPlanBoundsSpec) :=
 OpenClaim.holds_of_wide 6 Tryz.f6 rfl rfl rfl rfl rfl rfl rfl ⟨rfl, rfl, rfl, rfl, rfl⟩ rfl rfl rfl rfl rfl (by kernel_rfl) Tryz.func6 (by kernel_rfl)
  (of_decide_eq_true (by kernel_rfl)) (by unfold Func.isWrapper; first | (rw [if_pos (by decide +kernel)]; kernel_rfl) | (rw [if_neg (by decide +kernel)]; exact ⟨rfl, rfl⟩))
  (fun os started H enc _ => lifted os started H enc)
theorem proved : Rows.FnPlanBoundsSaid := over
#print axioms proved
end Go.Proofs.YtkoojngonldcbaaGreat.lawPlanBounds
