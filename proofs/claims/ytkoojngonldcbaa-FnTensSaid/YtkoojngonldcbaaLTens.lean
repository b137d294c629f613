/- The figure of a chain has its tens up to rounding, and digits are placed next to the value of the chain: the law FnTens. It returns true for all codes. No condition. -/
import Derived.Test.YtkoojngonldcbaaRows
import Derived.Test.YtkoojngonldcbaaO3
import Derived.Test.YtkoojngonldcbaaM5
import Derived.Test.YtkoojngonldcbaaM14
import Derived.Test.YtkoojngonldcbaaM23
import Derived.Test.YtkoojngonldcbaaM27
import Derived.Test.YtkoojngonldcbaaM28
import Derived.Test.YtkoojngonldcbaaM104
import Derived.Test.YtkoojngonldcbaaM117
import Derived.Test.YtkoojngonldcbaaM118
import Derived.Test.YtkoojngonldcbaaP23
namespace Go.Proofs.Ytkoojngonldcbaa.lawTens
set_option linter.unusedVariables false
set_option linter.unusedSimpArgs false
open Go.ChangeShapes Go.WideShapes Go.ChangeAt Go.RowKit
set_option linter.unusedVariables false
set_option maxRecDepth 100000

theorem chainLog_bd (l : List Trm) : -198000000 ≤ (chainLog l).lo ∧ (chainLog l).lo ≤ 198000000 ∧ -198000000 ≤ (chainLog l).hi ∧ (chainLog l).hi ≤ 198000000 := by
  unfold chainLog
  split
  · rename_i h; exact chainLog0_bd h
  · decide
theorem tens_bd {l : List Trm} (h : isChain l = true) : -1000 ≤ (tensOf l).lo ∧ (tensOf l).lo ≤ 1000 ∧ -1000 ≤ (tensOf l).hi ∧ (tensOf l).hi ≤ 1000 := by
  obtain ⟨a, b, c, d⟩ := chainLog0_bd h
  simp only [tensOf, h, if_true, tensI]
  refine ⟨?_, ?_, ?_, ?_⟩ <;> omega

set_option maxHeartbeats 4000000 in
theorem walk (v0 : Value) (bs : List Int) (W : World) (r0 : Raw W v0 bs.length 1 (byts bs)) (hB : ∀ b ∈ bs, 0 ≤ b ∧ b ≤ 255) :
    Calls Try.prog 4 #[v0] W fun e w' => e = .returned (.bool true) ∧ Later W w' := by
  by_cases hb : bs.length ≤ 4096
  rotate_left
  · obtain ⟨_, x0, cap0, rfl, hcap0, hmax0, _⟩ := r0
    have hbg : decide ((4096 : Int) < (bs.length : Int)) = true := by simp; omega
    have HB := Lib.hid hbg
    clear hbg
    go_enter Try.func4, Try.ntmps4
    go_wp2_with fail
    refine (w_big _ _ _ (by omega) _).mono ?_
    rintro e w' ⟨rfl, rfl⟩
    rw [HB.out]
    go_wp2
    go_ret
    exact ⟨rfl, Later.refl _⟩
  have HC := Lib.hid (r0.reads (by omega))
  obtain ⟨_, x0, cap0, rfl, hcap0, hmax0, _⟩ := r0
  have hbg : decide ((4096 : Int) < (bs.length : Int)) = false := by simp; omega
  have HB := Lib.hid hbg
  clear hbg
  go_enter Try.func4, Try.ntmps4
  go_wp2_with fail
  refine (w_big _ _ _ (by omega) _).mono ?_
  rintro e w' ⟨rfl, rfl⟩
  rw [HB.out]
  go_wp2_with fail
  refine (w_DrawTensOf _ bs _ ((HC.out.later (by repeat (with_reducible first | exact Later.refl _ | refine Later.alloc ?_ _ | refine Later.drew ?_ | refine Later.drewN ?_ _ | refine Later.setCell ?_ (by first | omega | (simp; omega)) _)))) hB hb).mono ?_
  rintro e w1 ⟨v, l, rfl, hOc, h17, hL⟩
  obtain ⟨ac, capc, rfl⟩ := isSl_of hOc
  have HW1 : Hid (Later W w1) := Lib.hid (Later.trans (by repeat (with_reducible first | exact Later.refl _ | refine Later.alloc ?_ _ | refine Later.drew ?_ | refine Later.drewN ?_ _ | refine Later.setCell ?_ (by first | omega | (simp; omega)) _)) hL)
  have hz1 := HW1.out.size
  have HOc_1 := Lib.hid hOc
  clear hOc
  clear hL
  go_wp2_with fail
  refine (w_implTensOf _ l _ (reads_of_owns (by repeat (with_reducible first | exact HOc_1.out | apply World.ownsRow.alloc | (apply owns_setNe; case hk => first | assumption | exact ne_own HOc_1.out (by first | omega | (simp; omega)) | exact ne_low HOc_1.out (by omega)) | (refine owns_later ?_ (Later.refl _).drew) | (refine owns_later ?_ ((Later.refl _).drewN _)))) (by omega))).mono ?_
  rintro e w2 ⟨rfl, hL⟩
  have HW2 : Hid (Later W w2) := Lib.hid (Later.trans (by repeat (with_reducible first | exact HW1.out | refine Later.alloc ?_ _ | refine Later.drew ?_ | refine Later.drewN ?_ _ | refine Later.setCell ?_ (by first | omega | (simp; omega)) _)) hL)
  have hz2 := HW2.out.size
  have HOc_2 := Lib.hid (owns_later (by repeat (with_reducible first | exact HOc_1.out | apply World.ownsRow.alloc | (apply owns_setNe; case hk => first | assumption | exact ne_own HOc_1.out (by first | omega | (simp; omega)) | exact ne_low HOc_1.out (by omega)) | (refine owns_later ?_ (Later.refl _).drew) | (refine owns_later ?_ ((Later.refl _).drewN _)))) hL)
  clear hL
  go_wp2_with fail
  refine (w_specTensOf _ l _ (reads_of_owns (by repeat (with_reducible first | exact HOc_2.out | apply World.ownsRow.alloc | (apply owns_setNe; case hk => first | assumption | exact ne_own HOc_2.out (by first | omega | (simp; omega)) | exact ne_low HOc_2.out (by omega)) | (refine owns_later ?_ (Later.refl _).drew) | (refine owns_later ?_ ((Later.refl _).drewN _)))) (by omega))).mono ?_
  rintro e w3 ⟨rfl, hL⟩
  have HW3 : Hid (Later W w3) := Lib.hid (Later.trans (by repeat (with_reducible first | exact HW2.out | refine Later.alloc ?_ _ | refine Later.drew ?_ | refine Later.drewN ?_ _ | refine Later.setCell ?_ (by first | omega | (simp; omega)) _)) hL)
  have hz3 := HW3.out.size
  have HOc_3 := Lib.hid (owns_later (by repeat (with_reducible first | exact HOc_2.out | apply World.ownsRow.alloc | (apply owns_setNe; case hk => first | assumption | exact ne_own HOc_2.out (by first | omega | (simp; omega)) | exact ne_low HOc_2.out (by omega)) | (refine owns_later ?_ (Later.refl _).drew) | (refine owns_later ?_ ((Later.refl _).drewN _)))) hL)
  have HKA_3 := Lib.hid (hL.keep (k := w2.heap.size) (by repeat (with_reducible first | exact HKA_2.out | exact heap_alloc_new _ _ | (apply heap_alloc_new'; first | rfl | (simp; done)) | apply heap_alloc_old | apply st_0_2 | apply st_1_2 | apply st_0_3 | apply st_1_3 | apply st_2_3 | apply st_0_4 | apply st_1_4 | apply st_2_4 | apply st_3_4 | (apply other_set; case hne => omega) | exact heap_alloc_new' _ _ (by first | rfl | (simp; done)))))
  clear hL
  obtain ⟨cA, fA, zA_3⟩ := blk_at HKA_3.out
  go_wp2_with fail
  refine (w_implSumOfTens _ l _ (reads_of_owns (by repeat (with_reducible first | exact HOc_3.out | apply World.ownsRow.alloc | (apply owns_setNe; case hk => first | assumption | exact ne_own HOc_3.out (by first | omega | (simp; omega)) | exact ne_low HOc_3.out (by omega)) | (refine owns_later ?_ (Later.refl _).drew) | (refine owns_later ?_ ((Later.refl _).drewN _)))) (by omega))).mono ?_
  rintro e w4 ⟨rfl, hL⟩
  have HW4 : Hid (Later W w4) := Lib.hid (Later.trans (by repeat (with_reducible first | exact HW3.out | refine Later.alloc ?_ _ | refine Later.drew ?_ | refine Later.drewN ?_ _ | refine Later.setCell ?_ (by first | omega | (simp; omega)) _)) hL)
  have hz4 := HW4.out.size
  have HOc_4 := Lib.hid (owns_later (by repeat (with_reducible first | exact HOc_3.out | apply World.ownsRow.alloc | (apply owns_setNe; case hk => first | assumption | exact ne_own HOc_3.out (by first | omega | (simp; omega)) | exact ne_low HOc_3.out (by omega)) | (refine owns_later ?_ (Later.refl _).drew) | (refine owns_later ?_ ((Later.refl _).drewN _)))) hL)
  have HKA_4 := Lib.hid (hL.keep (k := w2.heap.size) (by repeat (with_reducible first | exact HKA_3.out | exact heap_alloc_new _ _ | (apply heap_alloc_new'; first | rfl | (simp; done)) | apply heap_alloc_old | apply st_0_2 | apply st_1_2 | apply st_0_3 | apply st_1_3 | apply st_2_3 | apply st_0_4 | apply st_1_4 | apply st_2_4 | apply st_3_4 | (apply other_set; case hne => omega) | exact heap_alloc_new' _ _ (by first | rfl | (simp; done)))))
  have HKB_4 := Lib.hid (hL.keep (k := w3.heap.size) (by repeat (with_reducible first | exact HKB_3.out | exact heap_alloc_new _ _ | (apply heap_alloc_new'; first | rfl | (simp; done)) | apply heap_alloc_old | apply st_0_2 | apply st_1_2 | apply st_0_3 | apply st_1_3 | apply st_2_3 | apply st_0_4 | apply st_1_4 | apply st_2_4 | apply st_3_4 | (apply other_set; case hne => omega) | exact heap_alloc_new' _ _ (by first | rfl | (simp; done)))))
  clear hL cA fA
  obtain ⟨cA, fA, zA_4⟩ := blk_at HKA_4.out
  obtain ⟨cB, fB, zB_4⟩ := blk_at HKB_4.out
  go_wp2_with fail
  refine (w_specSumOfTens _ l _ (reads_of_owns (by repeat (with_reducible first | exact HOc_4.out | apply World.ownsRow.alloc | (apply owns_setNe; case hk => first | assumption | exact ne_own HOc_4.out (by first | omega | (simp; omega)) | exact ne_low HOc_4.out (by omega)) | (refine owns_later ?_ (Later.refl _).drew) | (refine owns_later ?_ ((Later.refl _).drewN _)))) (by omega))).mono ?_
  rintro e w5 ⟨rfl, hL⟩
  have HW5 : Hid (Later W w5) := Lib.hid (Later.trans (by repeat (with_reducible first | exact HW4.out | refine Later.alloc ?_ _ | refine Later.drew ?_ | refine Later.drewN ?_ _ | refine Later.setCell ?_ (by first | omega | (simp; omega)) _)) hL)
  have hz5 := HW5.out.size
  have HOc_5 := Lib.hid (owns_later (by repeat (with_reducible first | exact HOc_4.out | apply World.ownsRow.alloc | (apply owns_setNe; case hk => first | assumption | exact ne_own HOc_4.out (by first | omega | (simp; omega)) | exact ne_low HOc_4.out (by omega)) | (refine owns_later ?_ (Later.refl _).drew) | (refine owns_later ?_ ((Later.refl _).drewN _)))) hL)
  have HKA_5 := Lib.hid (hL.keep (k := w2.heap.size) (by repeat (with_reducible first | exact HKA_4.out | exact heap_alloc_new _ _ | (apply heap_alloc_new'; first | rfl | (simp; done)) | apply heap_alloc_old | apply st_0_2 | apply st_1_2 | apply st_0_3 | apply st_1_3 | apply st_2_3 | apply st_0_4 | apply st_1_4 | apply st_2_4 | apply st_3_4 | (apply other_set; case hne => omega) | exact heap_alloc_new' _ _ (by first | rfl | (simp; done)))))
  have HKB_5 := Lib.hid (hL.keep (k := w3.heap.size) (by repeat (with_reducible first | exact HKB_4.out | exact heap_alloc_new _ _ | (apply heap_alloc_new'; first | rfl | (simp; done)) | apply heap_alloc_old | apply st_0_2 | apply st_1_2 | apply st_0_3 | apply st_1_3 | apply st_2_3 | apply st_0_4 | apply st_1_4 | apply st_2_4 | apply st_3_4 | (apply other_set; case hne => omega) | exact heap_alloc_new' _ _ (by first | rfl | (simp; done)))))
  clear hL cA fA cB fB
  obtain ⟨cA, fA, zA_5⟩ := blk_at HKA_5.out
  obtain ⟨cB, fB, zB_5⟩ := blk_at HKB_5.out
  go_wp2_with fail
  refine (w_implCarryOf _ l _ (reads_of_owns (by repeat (with_reducible first | exact HOc_5.out | apply World.ownsRow.alloc | (apply owns_setNe; case hk => first | assumption | exact ne_own HOc_5.out (by first | omega | (simp; omega)) | exact ne_low HOc_5.out (by omega)) | (refine owns_later ?_ (Later.refl _).drew) | (refine owns_later ?_ ((Later.refl _).drewN _)))) (by omega))).mono ?_
  rintro e w6 ⟨rfl, hL⟩
  have HW6 : Hid (Later W w6) := Lib.hid (Later.trans (by repeat (with_reducible first | exact HW5.out | refine Later.alloc ?_ _ | refine Later.drew ?_ | refine Later.drewN ?_ _ | refine Later.setCell ?_ (by first | omega | (simp; omega)) _)) hL)
  have hz6 := HW6.out.size
  have HOc_6 := Lib.hid (owns_later (by repeat (with_reducible first | exact HOc_5.out | apply World.ownsRow.alloc | (apply owns_setNe; case hk => first | assumption | exact ne_own HOc_5.out (by first | omega | (simp; omega)) | exact ne_low HOc_5.out (by omega)) | (refine owns_later ?_ (Later.refl _).drew) | (refine owns_later ?_ ((Later.refl _).drewN _)))) hL)
  have HKA_6 := Lib.hid (hL.keep (k := w2.heap.size) (by repeat (with_reducible first | exact HKA_5.out | exact heap_alloc_new _ _ | (apply heap_alloc_new'; first | rfl | (simp; done)) | apply heap_alloc_old | apply st_0_2 | apply st_1_2 | apply st_0_3 | apply st_1_3 | apply st_2_3 | apply st_0_4 | apply st_1_4 | apply st_2_4 | apply st_3_4 | (apply other_set; case hne => omega) | exact heap_alloc_new' _ _ (by first | rfl | (simp; done)))))
  have HKB_6 := Lib.hid (hL.keep (k := w3.heap.size) (by repeat (with_reducible first | exact HKB_5.out | exact heap_alloc_new _ _ | (apply heap_alloc_new'; first | rfl | (simp; done)) | apply heap_alloc_old | apply st_0_2 | apply st_1_2 | apply st_0_3 | apply st_1_3 | apply st_2_3 | apply st_0_4 | apply st_1_4 | apply st_2_4 | apply st_3_4 | (apply other_set; case hne => omega) | exact heap_alloc_new' _ _ (by first | rfl | (simp; done)))))
  clear hL cA fA cB fB
  obtain ⟨cA, fA, zA_6⟩ := blk_at HKA_6.out
  obtain ⟨cB, fB, zB_6⟩ := blk_at HKB_6.out
  go_wp2_with fail
  refine (w_specCarryOf _ l _ (reads_of_owns (by repeat (with_reducible first | exact HOc_6.out | apply World.ownsRow.alloc | (apply owns_setNe; case hk => first | assumption | exact ne_own HOc_6.out (by first | omega | (simp; omega)) | exact ne_low HOc_6.out (by omega)) | (refine owns_later ?_ (Later.refl _).drew) | (refine owns_later ?_ ((Later.refl _).drewN _)))) (by omega))).mono ?_
  rintro e w7 ⟨rfl, hL⟩
  have HW7 : Hid (Later W w7) := Lib.hid (Later.trans (by repeat (with_reducible first | exact HW6.out | refine Later.alloc ?_ _ | refine Later.drew ?_ | refine Later.drewN ?_ _ | refine Later.setCell ?_ (by first | omega | (simp; omega)) _)) hL)
  have hz7 := HW7.out.size
  have HOc_7 := Lib.hid (owns_later (by repeat (with_reducible first | exact HOc_6.out | apply World.ownsRow.alloc | (apply owns_setNe; case hk => first | assumption | exact ne_own HOc_6.out (by first | omega | (simp; omega)) | exact ne_low HOc_6.out (by omega)) | (refine owns_later ?_ (Later.refl _).drew) | (refine owns_later ?_ ((Later.refl _).drewN _)))) hL)
  have HKA_7 := Lib.hid (hL.keep (k := w2.heap.size) (by repeat (with_reducible first | exact HKA_6.out | exact heap_alloc_new _ _ | (apply heap_alloc_new'; first | rfl | (simp; done)) | apply heap_alloc_old | apply st_0_2 | apply st_1_2 | apply st_0_3 | apply st_1_3 | apply st_2_3 | apply st_0_4 | apply st_1_4 | apply st_2_4 | apply st_3_4 | (apply other_set; case hne => omega) | exact heap_alloc_new' _ _ (by first | rfl | (simp; done)))))
  have HKB_7 := Lib.hid (hL.keep (k := w3.heap.size) (by repeat (with_reducible first | exact HKB_6.out | exact heap_alloc_new _ _ | (apply heap_alloc_new'; first | rfl | (simp; done)) | apply heap_alloc_old | apply st_0_2 | apply st_1_2 | apply st_0_3 | apply st_1_3 | apply st_2_3 | apply st_0_4 | apply st_1_4 | apply st_2_4 | apply st_3_4 | (apply other_set; case hne => omega) | exact heap_alloc_new' _ _ (by first | rfl | (simp; done)))))
  have HKC_7 := Lib.hid (hL.keep (k := w6.heap.size) (by repeat (with_reducible first | exact HKC_6.out | exact heap_alloc_new _ _ | (apply heap_alloc_new'; first | rfl | (simp; done)) | apply heap_alloc_old | apply st_0_2 | apply st_1_2 | apply st_0_3 | apply st_1_3 | apply st_2_3 | apply st_0_4 | apply st_1_4 | apply st_2_4 | apply st_3_4 | (apply other_set; case hne => omega) | exact heap_alloc_new' _ _ (by first | rfl | (simp; done)))))
  clear hL cA fA cB fB
  obtain ⟨cA, fA, zA_7⟩ := blk_at HKA_7.out
  obtain ⟨cB, fB, zB_7⟩ := blk_at HKB_7.out
  obtain ⟨cC, fC, zC_7⟩ := blk_at HKC_7.out
  go_wp2_with fail
  refine (w_DrawPlaceDigits _ bs _ ((HC.out.later (by repeat (with_reducible first | exact HW7.out | refine Later.alloc ?_ _ | refine Later.drew ?_ | refine Later.drewN ?_ _ | refine Later.setCell ?_ (by first | omega | (simp; omega)) _)))) hB hb).mono ?_
  rintro e w8 ⟨vx, lx, g, rfl, hOx, h27, hL⟩
  have HW8 : Hid (Later W w8) := Lib.hid (Later.trans (by repeat (with_reducible first | exact HW7.out | refine Later.alloc ?_ _ | refine Later.drew ?_ | refine Later.drewN ?_ _ | refine Later.setCell ?_ (by first | omega | (simp; omega)) _)) hL)
  have hz8 := HW8.out.size
  have HOc_8 := Lib.hid (owns_later (by repeat (with_reducible first | exact HOc_7.out | apply World.ownsRow.alloc | (apply owns_setNe; case hk => first | assumption | exact ne_own HOc_7.out (by first | omega | (simp; omega)) | exact ne_low HOc_7.out (by omega)) | (refine owns_later ?_ (Later.refl _).drew) | (refine owns_later ?_ ((Later.refl _).drewN _)))) hL)
  have HKA_8 := Lib.hid (hL.keep (k := w2.heap.size) (by repeat (with_reducible first | exact HKA_7.out | exact heap_alloc_new _ _ | (apply heap_alloc_new'; first | rfl | (simp; done)) | apply heap_alloc_old | apply st_0_2 | apply st_1_2 | apply st_0_3 | apply st_1_3 | apply st_2_3 | apply st_0_4 | apply st_1_4 | apply st_2_4 | apply st_3_4 | (apply other_set; case hne => omega) | exact heap_alloc_new' _ _ (by first | rfl | (simp; done)))))
  have HKB_8 := Lib.hid (hL.keep (k := w3.heap.size) (by repeat (with_reducible first | exact HKB_7.out | exact heap_alloc_new _ _ | (apply heap_alloc_new'; first | rfl | (simp; done)) | apply heap_alloc_old | apply st_0_2 | apply st_1_2 | apply st_0_3 | apply st_1_3 | apply st_2_3 | apply st_0_4 | apply st_1_4 | apply st_2_4 | apply st_3_4 | (apply other_set; case hne => omega) | exact heap_alloc_new' _ _ (by first | rfl | (simp; done)))))
  have HKC_8 := Lib.hid (hL.keep (k := w6.heap.size) (by repeat (with_reducible first | exact HKC_7.out | exact heap_alloc_new _ _ | (apply heap_alloc_new'; first | rfl | (simp; done)) | apply heap_alloc_old | apply st_0_2 | apply st_1_2 | apply st_0_3 | apply st_1_3 | apply st_2_3 | apply st_0_4 | apply st_1_4 | apply st_2_4 | apply st_3_4 | (apply other_set; case hne => omega) | exact heap_alloc_new' _ _ (by first | rfl | (simp; done)))))
  have HKD_8 := Lib.hid (hL.keep (k := w7.heap.size) (by repeat (with_reducible first | exact HKD_7.out | exact heap_alloc_new _ _ | (apply heap_alloc_new'; first | rfl | (simp; done)) | apply heap_alloc_old | apply st_0_2 | apply st_1_2 | apply st_0_3 | apply st_1_3 | apply st_2_3 | apply st_0_4 | apply st_1_4 | apply st_2_4 | apply st_3_4 | (apply other_set; case hne => omega) | exact heap_alloc_new' _ _ (by first | rfl | (simp; done)))))
  have HOx_8 := Lib.hid hOx
  clear hOx
  clear hL cA fA cB fB cC fC
  obtain ⟨cA, fA, zA_8⟩ := blk_at HKA_8.out
  obtain ⟨cB, fB, zB_8⟩ := blk_at HKB_8.out
  obtain ⟨cC, fC, zC_8⟩ := blk_at HKC_8.out
  obtain ⟨cD, fD, zD_8⟩ := blk_at HKD_8.out
  go_wp2_with fail
  refine (w_implPlaceDigits _ lx g _ (reads_of_owns (by repeat (with_reducible first | exact HOx_8.out | apply World.ownsRow.alloc | (apply owns_setNe; case hk => first | assumption | exact ne_own HOx_8.out (by first | omega | (simp; omega)) | exact ne_low HOx_8.out (by omega)) | (refine owns_later ?_ (Later.refl _).drew) | (refine owns_later ?_ ((Later.refl _).drewN _)))) (by omega))).mono ?_
  rintro e w9 ⟨rfl, hL⟩
  have HW9 : Hid (Later W w9) := Lib.hid (Later.trans (by repeat (with_reducible first | exact HW8.out | refine Later.alloc ?_ _ | refine Later.drew ?_ | refine Later.drewN ?_ _ | refine Later.setCell ?_ (by first | omega | (simp; omega)) _)) hL)
  have hz9 := HW9.out.size
  have HOc_9 := Lib.hid (owns_later (by repeat (with_reducible first | exact HOc_8.out | apply World.ownsRow.alloc | (apply owns_setNe; case hk => first | assumption | exact ne_own HOc_8.out (by first | omega | (simp; omega)) | exact ne_low HOc_8.out (by omega)) | (refine owns_later ?_ (Later.refl _).drew) | (refine owns_later ?_ ((Later.refl _).drewN _)))) hL)
  have HOx_9 := Lib.hid (owns_later (by repeat (with_reducible first | exact HOx_8.out | apply World.ownsRow.alloc | (apply owns_setNe; case hk => first | assumption | exact ne_own HOx_8.out (by first | omega | (simp; omega)) | exact ne_low HOx_8.out (by omega)) | (refine owns_later ?_ (Later.refl _).drew) | (refine owns_later ?_ ((Later.refl _).drewN _)))) hL)
  have HKA_9 := Lib.hid (hL.keep (k := w2.heap.size) (by repeat (with_reducible first | exact HKA_8.out | exact heap_alloc_new _ _ | (apply heap_alloc_new'; first | rfl | (simp; done)) | apply heap_alloc_old | apply st_0_2 | apply st_1_2 | apply st_0_3 | apply st_1_3 | apply st_2_3 | apply st_0_4 | apply st_1_4 | apply st_2_4 | apply st_3_4 | (apply other_set; case hne => omega) | exact heap_alloc_new' _ _ (by first | rfl | (simp; done)))))
  have HKB_9 := Lib.hid (hL.keep (k := w3.heap.size) (by repeat (with_reducible first | exact HKB_8.out | exact heap_alloc_new _ _ | (apply heap_alloc_new'; first | rfl | (simp; done)) | apply heap_alloc_old | apply st_0_2 | apply st_1_2 | apply st_0_3 | apply st_1_3 | apply st_2_3 | apply st_0_4 | apply st_1_4 | apply st_2_4 | apply st_3_4 | (apply other_set; case hne => omega) | exact heap_alloc_new' _ _ (by first | rfl | (simp; done)))))
  have HKC_9 := Lib.hid (hL.keep (k := w6.heap.size) (by repeat (with_reducible first | exact HKC_8.out | exact heap_alloc_new _ _ | (apply heap_alloc_new'; first | rfl | (simp; done)) | apply heap_alloc_old | apply st_0_2 | apply st_1_2 | apply st_0_3 | apply st_1_3 | apply st_2_3 | apply st_0_4 | apply st_1_4 | apply st_2_4 | apply st_3_4 | (apply other_set; case hne => omega) | exact heap_alloc_new' _ _ (by first | rfl | (simp; done)))))
  have HKD_9 := Lib.hid (hL.keep (k := w7.heap.size) (by repeat (with_reducible first | exact HKD_8.out | exact heap_alloc_new _ _ | (apply heap_alloc_new'; first | rfl | (simp; done)) | apply heap_alloc_old | apply st_0_2 | apply st_1_2 | apply st_0_3 | apply st_1_3 | apply st_2_3 | apply st_0_4 | apply st_1_4 | apply st_2_4 | apply st_3_4 | (apply other_set; case hne => omega) | exact heap_alloc_new' _ _ (by first | rfl | (simp; done)))))
  clear hL cA fA cB fB cC fC cD fD
  obtain ⟨cA, fA, zA_9⟩ := blk_at HKA_9.out
  obtain ⟨cB, fB, zB_9⟩ := blk_at HKB_9.out
  obtain ⟨cC, fC, zC_9⟩ := blk_at HKC_9.out
  obtain ⟨cD, fD, zD_9⟩ := blk_at HKD_9.out
  go_wp2_with fail
  refine (w_specPlaceDigits _ lx g _ (reads_of_owns (by repeat (with_reducible first | exact HOx_9.out | apply World.ownsRow.alloc | (apply owns_setNe; case hk => first | assumption | exact ne_own HOx_9.out (by first | omega | (simp; omega)) | exact ne_low HOx_9.out (by omega)) | (refine owns_later ?_ (Later.refl _).drew) | (refine owns_later ?_ ((Later.refl _).drewN _)))) (by omega))).mono ?_
  rintro e w10 ⟨rfl, hL⟩
  have HW10 : Hid (Later W w10) := Lib.hid (Later.trans (by repeat (with_reducible first | exact HW9.out | refine Later.alloc ?_ _ | refine Later.drew ?_ | refine Later.drewN ?_ _ | refine Later.setCell ?_ (by first | omega | (simp; omega)) _)) hL)
  have hz10 := HW10.out.size
  have HOc_10 := Lib.hid (owns_later (by repeat (with_reducible first | exact HOc_9.out | apply World.ownsRow.alloc | (apply owns_setNe; case hk => first | assumption | exact ne_own HOc_9.out (by first | omega | (simp; omega)) | exact ne_low HOc_9.out (by omega)) | (refine owns_later ?_ (Later.refl _).drew) | (refine owns_later ?_ ((Later.refl _).drewN _)))) hL)
  have HOx_10 := Lib.hid (owns_later (by repeat (with_reducible first | exact HOx_9.out | apply World.ownsRow.alloc | (apply owns_setNe; case hk => first | assumption | exact ne_own HOx_9.out (by first | omega | (simp; omega)) | exact ne_low HOx_9.out (by omega)) | (refine owns_later ?_ (Later.refl _).drew) | (refine owns_later ?_ ((Later.refl _).drewN _)))) hL)
  have HKA_10 := Lib.hid (hL.keep (k := w2.heap.size) (by repeat (with_reducible first | exact HKA_9.out | exact heap_alloc_new _ _ | (apply heap_alloc_new'; first | rfl | (simp; done)) | apply heap_alloc_old | apply st_0_2 | apply st_1_2 | apply st_0_3 | apply st_1_3 | apply st_2_3 | apply st_0_4 | apply st_1_4 | apply st_2_4 | apply st_3_4 | (apply other_set; case hne => omega) | exact heap_alloc_new' _ _ (by first | rfl | (simp; done)))))
  have HKB_10 := Lib.hid (hL.keep (k := w3.heap.size) (by repeat (with_reducible first | exact HKB_9.out | exact heap_alloc_new _ _ | (apply heap_alloc_new'; first | rfl | (simp; done)) | apply heap_alloc_old | apply st_0_2 | apply st_1_2 | apply st_0_3 | apply st_1_3 | apply st_2_3 | apply st_0_4 | apply st_1_4 | apply st_2_4 | apply st_3_4 | (apply other_set; case hne => omega) | exact heap_alloc_new' _ _ (by first | rfl | (simp; done)))))
  have HKC_10 := Lib.hid (hL.keep (k := w6.heap.size) (by repeat (with_reducible first | exact HKC_9.out | exact heap_alloc_new _ _ | (apply heap_alloc_new'; first | rfl | (simp; done)) | apply heap_alloc_old | apply st_0_2 | apply st_1_2 | apply st_0_3 | apply st_1_3 | apply st_2_3 | apply st_0_4 | apply st_1_4 | apply st_2_4 | apply st_3_4 | (apply other_set; case hne => omega) | exact heap_alloc_new' _ _ (by first | rfl | (simp; done)))))
  have HKD_10 := Lib.hid (hL.keep (k := w7.heap.size) (by repeat (with_reducible first | exact HKD_9.out | exact heap_alloc_new _ _ | (apply heap_alloc_new'; first | rfl | (simp; done)) | apply heap_alloc_old | apply st_0_2 | apply st_1_2 | apply st_0_3 | apply st_1_3 | apply st_2_3 | apply st_0_4 | apply st_1_4 | apply st_2_4 | apply st_3_4 | (apply other_set; case hne => omega) | exact heap_alloc_new' _ _ (by first | rfl | (simp; done)))))
  have HKE_10 := Lib.hid (hL.keep (k := w9.heap.size) (by repeat (with_reducible first | exact HKE_9.out | exact heap_alloc_new _ _ | (apply heap_alloc_new'; first | rfl | (simp; done)) | apply heap_alloc_old | apply st_0_2 | apply st_1_2 | apply st_0_3 | apply st_1_3 | apply st_2_3 | apply st_0_4 | apply st_1_4 | apply st_2_4 | apply st_3_4 | (apply other_set; case hne => omega) | exact heap_alloc_new' _ _ (by first | rfl | (simp; done)))))
  clear hL cA fA cB fB cC fC cD fD
  obtain ⟨cA, fA, zA_10⟩ := blk_at HKA_10.out
  obtain ⟨cB, fB, zB_10⟩ := blk_at HKB_10.out
  obtain ⟨cC, fC, zC_10⟩ := blk_at HKC_10.out
  obtain ⟨cD, fD, zD_10⟩ := blk_at HKD_10.out
  obtain ⟨cE, fE, zE_10⟩ := blk_at HKE_10.out
  by_cases hg : codePlace lx g = 0
  · skip
    obtain ⟨p1, p2, p3, p4, p5⟩ := place_law hg
    have HP2 := Lib.hid (show isFig ⟨(placeDigits lx g).d, (placeDigits lx g).t⟩ = true from p2)
    have HCX := Lib.hid (show codeChain lx = 0 from by simp [codeChain, p1])
    have hpd : ((placeDigits lx g).d != g) = false := by simpa using p3
    obtain ⟨b1, b2, b3, b4⟩ := chainLog_bd lx
    obtain ⟨f1, f2, f3, f4⟩ := figLog_bd2 (isFig_true p2).1 (isFig_true p2).2.1 (isFig_true p2).2.2.1 (isFig_true p2).2.2.2
    have wg : IntKind.i64.wrap ((chainLog lx).lo - (figLog (placeDigits lx g)).hi) = (chainLog lx).lo - (figLog (placeDigits lx g)).hi := wrap_same (by omega) (by omega)
    have wh : IntKind.i64.wrap ((figLog (placeDigits lx g)).lo - (chainLog lx).hi) = (figLog (placeDigits lx g)).lo - (chainLog lx).hi := wrap_same (by omega) (by omega)
    have cg : decide ((524308 : Int) < (chainLog lx).lo - (figLog (placeDigits lx g)).hi) = false := by simp; omega
    have chh : decide ((524308 : Int) < (figLog (placeDigits lx g)).lo - (chainLog lx).hi) = false := by simp; omega
    clear p1 p2 p3 p4 p5
    go_wp2_with fail
    refine (w_implChainLog _ lx _ (reads_of_owns (by repeat (with_reducible first | exact HOx_10.out | apply World.ownsRow.alloc | (apply owns_setNe; case hk => first | assumption | exact ne_own HOx_10.out (by first | omega | (simp; omega)) | exact ne_low HOx_10.out (by omega)) | (refine owns_later ?_ (Later.refl _).drew) | (refine owns_later ?_ ((Later.refl _).drewN _)))) (by omega))).mono ?_
    rintro e w11 ⟨rfl, hL⟩
    have HW11 : Hid (Later W w11) := Lib.hid (Later.trans (by repeat (with_reducible first | exact HW10.out | refine Later.alloc ?_ _ | refine Later.drew ?_ | refine Later.drewN ?_ _ | refine Later.setCell ?_ (by first | omega | (simp; omega)) _)) hL)
    have hz11 := HW11.out.size
    have HOc_11 := Lib.hid (owns_later (by repeat (with_reducible first | exact HOc_10.out | apply World.ownsRow.alloc | (apply owns_setNe; case hk => first | assumption | exact ne_own HOc_10.out (by first | omega | (simp; omega)) | exact ne_low HOc_10.out (by omega)) | (refine owns_later ?_ (Later.refl _).drew) | (refine owns_later ?_ ((Later.refl _).drewN _)))) hL)
    have HOx_11 := Lib.hid (owns_later (by repeat (with_reducible first | exact HOx_10.out | apply World.ownsRow.alloc | (apply owns_setNe; case hk => first | assumption | exact ne_own HOx_10.out (by first | omega | (simp; omega)) | exact ne_low HOx_10.out (by omega)) | (refine owns_later ?_ (Later.refl _).drew) | (refine owns_later ?_ ((Later.refl _).drewN _)))) hL)
    have HKA_11 := Lib.hid (hL.keep (k := w2.heap.size) (by repeat (with_reducible first | exact HKA_10.out | exact heap_alloc_new _ _ | (apply heap_alloc_new'; first | rfl | (simp; done)) | apply heap_alloc_old | apply st_0_2 | apply st_1_2 | apply st_0_3 | apply st_1_3 | apply st_2_3 | apply st_0_4 | apply st_1_4 | apply st_2_4 | apply st_3_4 | (apply other_set; case hne => omega) | exact heap_alloc_new' _ _ (by first | rfl | (simp; done)))))
    have HKB_11 := Lib.hid (hL.keep (k := w3.heap.size) (by repeat (with_reducible first | exact HKB_10.out | exact heap_alloc_new _ _ | (apply heap_alloc_new'; first | rfl | (simp; done)) | apply heap_alloc_old | apply st_0_2 | apply st_1_2 | apply st_0_3 | apply st_1_3 | apply st_2_3 | apply st_0_4 | apply st_1_4 | apply st_2_4 | apply st_3_4 | (apply other_set; case hne => omega) | exact heap_alloc_new' _ _ (by first | rfl | (simp; done)))))
    have HKC_11 := Lib.hid (hL.keep (k := w6.heap.size) (by repeat (with_reducible first | exact HKC_10.out | exact heap_alloc_new _ _ | (apply heap_alloc_new'; first | rfl | (simp; done)) | apply heap_alloc_old | apply st_0_2 | apply st_1_2 | apply st_0_3 | apply st_1_3 | apply st_2_3 | apply st_0_4 | apply st_1_4 | apply st_2_4 | apply st_3_4 | (apply other_set; case hne => omega) | exact heap_alloc_new' _ _ (by first | rfl | (simp; done)))))
    have HKD_11 := Lib.hid (hL.keep (k := w7.heap.size) (by repeat (with_reducible first | exact HKD_10.out | exact heap_alloc_new _ _ | (apply heap_alloc_new'; first | rfl | (simp; done)) | apply heap_alloc_old | apply st_0_2 | apply st_1_2 | apply st_0_3 | apply st_1_3 | apply st_2_3 | apply st_0_4 | apply st_1_4 | apply st_2_4 | apply st_3_4 | (apply other_set; case hne => omega) | exact heap_alloc_new' _ _ (by first | rfl | (simp; done)))))
    have HKE_11 := Lib.hid (hL.keep (k := w9.heap.size) (by repeat (with_reducible first | exact HKE_10.out | exact heap_alloc_new _ _ | (apply heap_alloc_new'; first | rfl | (simp; done)) | apply heap_alloc_old | apply st_0_2 | apply st_1_2 | apply st_0_3 | apply st_1_3 | apply st_2_3 | apply st_0_4 | apply st_1_4 | apply st_2_4 | apply st_3_4 | (apply other_set; case hne => omega) | exact heap_alloc_new' _ _ (by first | rfl | (simp; done)))))
    have HKF_11 := Lib.hid (hL.keep (k := w10.heap.size) (by repeat (with_reducible first | exact HKF_10.out | exact heap_alloc_new _ _ | (apply heap_alloc_new'; first | rfl | (simp; done)) | apply heap_alloc_old | apply st_0_2 | apply st_1_2 | apply st_0_3 | apply st_1_3 | apply st_2_3 | apply st_0_4 | apply st_1_4 | apply st_2_4 | apply st_3_4 | (apply other_set; case hne => omega) | exact heap_alloc_new' _ _ (by first | rfl | (simp; done)))))
    clear hL cA fA cB fB cC fC cD fD cE fE
    obtain ⟨cA, fA, zA_11⟩ := blk_at HKA_11.out
    obtain ⟨cB, fB, zB_11⟩ := blk_at HKB_11.out
    obtain ⟨cC, fC, zC_11⟩ := blk_at HKC_11.out
    obtain ⟨cD, fD, zD_11⟩ := blk_at HKD_11.out
    obtain ⟨cE, fE, zE_11⟩ := blk_at HKE_11.out
    obtain ⟨cF, fF, zF_11⟩ := blk_at HKF_11.out
    rw [HCX.out]
    go_wp2_with fail
    refine (w_implFigureLog (placeDigits lx g).d (placeDigits lx g).t _ HP2.out).mono ?_
    rintro e w12 ⟨rfl, hL⟩
    have HW12 : Hid (Later W w12) := Lib.hid (Later.trans (by repeat (with_reducible first | exact HW11.out | refine Later.alloc ?_ _ | refine Later.drew ?_ | refine Later.drewN ?_ _ | refine Later.setCell ?_ (by first | omega | (simp; omega)) _)) hL)
    have hz12 := HW12.out.size
    have HOc_12 := Lib.hid (owns_later (by repeat (with_reducible first | exact HOc_11.out | apply World.ownsRow.alloc | (apply owns_setNe; case hk => first | assumption | exact ne_own HOc_11.out (by first | omega | (simp; omega)) | exact ne_low HOc_11.out (by omega)) | (refine owns_later ?_ (Later.refl _).drew) | (refine owns_later ?_ ((Later.refl _).drewN _)))) hL)
    have HOx_12 := Lib.hid (owns_later (by repeat (with_reducible first | exact HOx_11.out | apply World.ownsRow.alloc | (apply owns_setNe; case hk => first | assumption | exact ne_own HOx_11.out (by first | omega | (simp; omega)) | exact ne_low HOx_11.out (by omega)) | (refine owns_later ?_ (Later.refl _).drew) | (refine owns_later ?_ ((Later.refl _).drewN _)))) hL)
    have HKA_12 := Lib.hid (hL.keep (k := w2.heap.size) (by repeat (with_reducible first | exact HKA_11.out | exact heap_alloc_new _ _ | (apply heap_alloc_new'; first | rfl | (simp; done)) | apply heap_alloc_old | apply st_0_2 | apply st_1_2 | apply st_0_3 | apply st_1_3 | apply st_2_3 | apply st_0_4 | apply st_1_4 | apply st_2_4 | apply st_3_4 | (apply other_set; case hne => omega) | exact heap_alloc_new' _ _ (by first | rfl | (simp; done)))))
    have HKB_12 := Lib.hid (hL.keep (k := w3.heap.size) (by repeat (with_reducible first | exact HKB_11.out | exact heap_alloc_new _ _ | (apply heap_alloc_new'; first | rfl | (simp; done)) | apply heap_alloc_old | apply st_0_2 | apply st_1_2 | apply st_0_3 | apply st_1_3 | apply st_2_3 | apply st_0_4 | apply st_1_4 | apply st_2_4 | apply st_3_4 | (apply other_set; case hne => omega) | exact heap_alloc_new' _ _ (by first | rfl | (simp; done)))))
    have HKC_12 := Lib.hid (hL.keep (k := w6.heap.size) (by repeat (with_reducible first | exact HKC_11.out | exact heap_alloc_new _ _ | (apply heap_alloc_new'; first | rfl | (simp; done)) | apply heap_alloc_old | apply st_0_2 | apply st_1_2 | apply st_0_3 | apply st_1_3 | apply st_2_3 | apply st_0_4 | apply st_1_4 | apply st_2_4 | apply st_3_4 | (apply other_set; case hne => omega) | exact heap_alloc_new' _ _ (by first | rfl | (simp; done)))))
    have HKD_12 := Lib.hid (hL.keep (k := w7.heap.size) (by repeat (with_reducible first | exact HKD_11.out | exact heap_alloc_new _ _ | (apply heap_alloc_new'; first | rfl | (simp; done)) | apply heap_alloc_old | apply st_0_2 | apply st_1_2 | apply st_0_3 | apply st_1_3 | apply st_2_3 | apply st_0_4 | apply st_1_4 | apply st_2_4 | apply st_3_4 | (apply other_set; case hne => omega) | exact heap_alloc_new' _ _ (by first | rfl | (simp; done)))))
    have HKE_12 := Lib.hid (hL.keep (k := w9.heap.size) (by repeat (with_reducible first | exact HKE_11.out | exact heap_alloc_new _ _ | (apply heap_alloc_new'; first | rfl | (simp; done)) | apply heap_alloc_old | apply st_0_2 | apply st_1_2 | apply st_0_3 | apply st_1_3 | apply st_2_3 | apply st_0_4 | apply st_1_4 | apply st_2_4 | apply st_3_4 | (apply other_set; case hne => omega) | exact heap_alloc_new' _ _ (by first | rfl | (simp; done)))))
    have HKF_12 := Lib.hid (hL.keep (k := w10.heap.size) (by repeat (with_reducible first | exact HKF_11.out | exact heap_alloc_new _ _ | (apply heap_alloc_new'; first | rfl | (simp; done)) | apply heap_alloc_old | apply st_0_2 | apply st_1_2 | apply st_0_3 | apply st_1_3 | apply st_2_3 | apply st_0_4 | apply st_1_4 | apply st_2_4 | apply st_3_4 | (apply other_set; case hne => omega) | exact heap_alloc_new' _ _ (by first | rfl | (simp; done)))))
    have HKH_12 := Lib.hid (hL.keep (k := w11.heap.size) (by repeat (with_reducible first | exact HKH_11.out | exact heap_alloc_new _ _ | (apply heap_alloc_new'; first | rfl | (simp; done)) | apply heap_alloc_old | apply st_0_2 | apply st_1_2 | apply st_0_3 | apply st_1_3 | apply st_2_3 | apply st_0_4 | apply st_1_4 | apply st_2_4 | apply st_3_4 | (apply other_set; case hne => omega) | exact heap_alloc_new' _ _ (by first | rfl | (simp; done)))))
    clear hL cA fA cB fB cC fC cD fD cE fE cF fF
    obtain ⟨cA, fA, zA_12⟩ := blk_at HKA_12.out
    obtain ⟨cB, fB, zB_12⟩ := blk_at HKB_12.out
    obtain ⟨cC, fC, zC_12⟩ := blk_at HKC_12.out
    obtain ⟨cD, fD, zD_12⟩ := blk_at HKD_12.out
    obtain ⟨cE, fE, zE_12⟩ := blk_at HKE_12.out
    obtain ⟨cF, fF, zF_12⟩ := blk_at HKF_12.out
    obtain ⟨cH, fH, zH_12⟩ := blk_at HKH_12.out
    clear HOx_12
    by_cases hp : codeChain l = 0
    · skip
      have hch : isChain l = true := by
        cases h : isChain l
        · simp [codeChain, h] at hp
        · rfl
      obtain ⟨q1, q2, q3, q4, q5⟩ := carry_law hch
      obtain ⟨t1, t2, t3, t4⟩ := tens_bd hch
      have r1 : -180 ≤ sumOfTens l ∧ sumOfTens l ≤ 180 := by have := sumTens_bd hch; simpa [sumOfTens, hch] using this
      have wa : IntKind.i64.wrap ((tensOf l).lo - sumOfTens l) = (tensOf l).lo - sumOfTens l := wrap_same (by omega) (by omega)
      have wb : IntKind.i64.wrap ((tensOf l).hi - sumOfTens l) = (tensOf l).hi - sumOfTens l := wrap_same (by omega) (by omega)
      have wc : IntKind.i64.wrap ((tensOf l).lo - 1) = (tensOf l).lo - 1 := wrap_same (by omega) (by omega)
      have wd : IntKind.i64.wrap ((tensOf l).hi + 1) = (tensOf l).hi + 1 := wrap_same (by omega) (by omega)
      have we : IntKind.i64.wrap (l.length : Int) = l.length := wrap_same (by omega) (by omega)
      have wf : IntKind.i64.wrap (-(l.length : Int)) = -(l.length : Int) := wrap_same (by omega) (by omega)
      have ca : ((carryOf l).lo != (tensOf l).lo - sumOfTens l) = false := by simpa using q1
      have cb : ((carryOf l).hi != (tensOf l).hi - sumOfTens l) = false := by simpa using q2
      have cc : decide ((tensOf l).hi < (tensOf l).lo) = false := by simp; omega
      have cd : decide ((l.length : Int) < (carryOf l).hi) = false := by simp; omega
      have ce : decide ((carryOf l).lo < -(l.length : Int)) = false := by simp; omega
      have hpz : (codeChain l != 0) = false := by simpa using hp
      have TL := Lib.hid (tens_law hch)
      clear q1 q2 q3 q4 q5 r1
      go_wp2_with fail
      refine (w_implChainFigure _ l _ (reads_of_owns (by repeat (with_reducible first | exact HOc_12.out | apply World.ownsRow.alloc | (apply owns_setNe; case hk => first | assumption | exact ne_own HOc_12.out (by first | omega | (simp; omega)) | exact ne_low HOc_12.out (by omega)) | (refine owns_later ?_ (Later.refl _).drew) | (refine owns_later ?_ ((Later.refl _).drewN _)))) (by omega))).mono ?_
      rintro e w13 ⟨rfl, hL⟩
      have HW13 : Hid (Later W w13) := Lib.hid (Later.trans (by repeat (with_reducible first | exact HW12.out | refine Later.alloc ?_ _ | refine Later.drew ?_ | refine Later.drewN ?_ _ | refine Later.setCell ?_ (by first | omega | (simp; omega)) _)) hL)
      have hz13 := HW13.out.size
      have HOc_13 := Lib.hid (owns_later (by repeat (with_reducible first | exact HOc_12.out | apply World.ownsRow.alloc | (apply owns_setNe; case hk => first | assumption | exact ne_own HOc_12.out (by first | omega | (simp; omega)) | exact ne_low HOc_12.out (by omega)) | (refine owns_later ?_ (Later.refl _).drew) | (refine owns_later ?_ ((Later.refl _).drewN _)))) hL)
      have HKA_13 := Lib.hid (hL.keep (k := w2.heap.size) (by repeat (with_reducible first | exact HKA_12.out | exact heap_alloc_new _ _ | (apply heap_alloc_new'; first | rfl | (simp; done)) | apply heap_alloc_old | apply st_0_2 | apply st_1_2 | apply st_0_3 | apply st_1_3 | apply st_2_3 | apply st_0_4 | apply st_1_4 | apply st_2_4 | apply st_3_4 | (apply other_set; case hne => omega) | exact heap_alloc_new' _ _ (by first | rfl | (simp; done)))))
      have HKB_13 := Lib.hid (hL.keep (k := w3.heap.size) (by repeat (with_reducible first | exact HKB_12.out | exact heap_alloc_new _ _ | (apply heap_alloc_new'; first | rfl | (simp; done)) | apply heap_alloc_old | apply st_0_2 | apply st_1_2 | apply st_0_3 | apply st_1_3 | apply st_2_3 | apply st_0_4 | apply st_1_4 | apply st_2_4 | apply st_3_4 | (apply other_set; case hne => omega) | exact heap_alloc_new' _ _ (by first | rfl | (simp; done)))))
      have HKC_13 := Lib.hid (hL.keep (k := w6.heap.size) (by repeat (with_reducible first | exact HKC_12.out | exact heap_alloc_new _ _ | (apply heap_alloc_new'; first | rfl | (simp; done)) | apply heap_alloc_old | apply st_0_2 | apply st_1_2 | apply st_0_3 | apply st_1_3 | apply st_2_3 | apply st_0_4 | apply st_1_4 | apply st_2_4 | apply st_3_4 | (apply other_set; case hne => omega) | exact heap_alloc_new' _ _ (by first | rfl | (simp; done)))))
      have HKD_13 := Lib.hid (hL.keep (k := w7.heap.size) (by repeat (with_reducible first | exact HKD_12.out | exact heap_alloc_new _ _ | (apply heap_alloc_new'; first | rfl | (simp; done)) | apply heap_alloc_old | apply st_0_2 | apply st_1_2 | apply st_0_3 | apply st_1_3 | apply st_2_3 | apply st_0_4 | apply st_1_4 | apply st_2_4 | apply st_3_4 | (apply other_set; case hne => omega) | exact heap_alloc_new' _ _ (by first | rfl | (simp; done)))))
      have HKE_13 := Lib.hid (hL.keep (k := w9.heap.size) (by repeat (with_reducible first | exact HKE_12.out | exact heap_alloc_new _ _ | (apply heap_alloc_new'; first | rfl | (simp; done)) | apply heap_alloc_old | apply st_0_2 | apply st_1_2 | apply st_0_3 | apply st_1_3 | apply st_2_3 | apply st_0_4 | apply st_1_4 | apply st_2_4 | apply st_3_4 | (apply other_set; case hne => omega) | exact heap_alloc_new' _ _ (by first | rfl | (simp; done)))))
      have HKF_13 := Lib.hid (hL.keep (k := w10.heap.size) (by repeat (with_reducible first | exact HKF_12.out | exact heap_alloc_new _ _ | (apply heap_alloc_new'; first | rfl | (simp; done)) | apply heap_alloc_old | apply st_0_2 | apply st_1_2 | apply st_0_3 | apply st_1_3 | apply st_2_3 | apply st_0_4 | apply st_1_4 | apply st_2_4 | apply st_3_4 | (apply other_set; case hne => omega) | exact heap_alloc_new' _ _ (by first | rfl | (simp; done)))))
      have HKH_13 := Lib.hid (hL.keep (k := w11.heap.size) (by repeat (with_reducible first | exact HKH_12.out | exact heap_alloc_new _ _ | (apply heap_alloc_new'; first | rfl | (simp; done)) | apply heap_alloc_old | apply st_0_2 | apply st_1_2 | apply st_0_3 | apply st_1_3 | apply st_2_3 | apply st_0_4 | apply st_1_4 | apply st_2_4 | apply st_3_4 | (apply other_set; case hne => omega) | exact heap_alloc_new' _ _ (by first | rfl | (simp; done)))))
      have HKI_13 := Lib.hid (hL.keep (k := w12.heap.size) (by repeat (with_reducible first | exact HKI_12.out | exact heap_alloc_new _ _ | (apply heap_alloc_new'; first | rfl | (simp; done)) | apply heap_alloc_old | apply st_0_2 | apply st_1_2 | apply st_0_3 | apply st_1_3 | apply st_2_3 | apply st_0_4 | apply st_1_4 | apply st_2_4 | apply st_3_4 | (apply other_set; case hne => omega) | exact heap_alloc_new' _ _ (by first | rfl | (simp; done)))))
      clear hL cA fA cB fB cC fC cD fD cE fE cF fF cH fH
      obtain ⟨cA, fA, zA_13⟩ := blk_at HKA_13.out
      obtain ⟨cB, fB, zB_13⟩ := blk_at HKB_13.out
      obtain ⟨cC, fC, zC_13⟩ := blk_at HKC_13.out
      obtain ⟨cD, fD, zD_13⟩ := blk_at HKD_13.out
      obtain ⟨cE, fE, zE_13⟩ := blk_at HKE_13.out
      obtain ⟨cF, fF, zF_13⟩ := blk_at HKF_13.out
      obtain ⟨cH, fH, zH_13⟩ := blk_at HKH_13.out
      obtain ⟨cI, fI, zI_13⟩ := blk_at HKI_13.out
      by_cases hf3 : chainFigC l = 3
      · skip
        have h3 : (chainFigC l == 3) = true := by simpa using hf3
        go_wp2
        go_ret
        exact ⟨rfl, (by repeat (with_reducible first | exact HW13.out | refine Later.alloc ?_ _ | refine Later.drew ?_ | refine Later.drewN ?_ _ | refine Later.setCell ?_ (by first | omega | (simp; omega)) _))⟩
      · skip
        obtain ⟨h0, g1, g2⟩ : chainFigC l = 0 ∧ (tensOf l).lo - 1 ≤ (chainFig l).t ∧ (chainFig l).t ≤ (tensOf l).hi + 1 := by
          rcases TL.out with h | h
          · exact absurd h hf3
          · exact h
        have d1 : decide ((tensOf l).lo - 1 ≤ (chainFig l).t) = true := by simp; omega
        have d2 : decide ((chainFig l).t ≤ (tensOf l).hi + 1) = true := by simp; omega
        go_wp2
        go_ret
        exact ⟨rfl, (by repeat (with_reducible first | exact HW13.out | refine Later.alloc ?_ _ | refine Later.drew ?_ | refine Later.drewN ?_ _ | refine Later.setCell ?_ (by first | omega | (simp; omega)) _))⟩
    · skip
      have hpb : (codeChain l != 0) = true := by simpa using hp
      go_wp2
      go_ret
      exact ⟨rfl, (by repeat (with_reducible first | exact HW12.out | refine Later.alloc ?_ _ | refine Later.drew ?_ | refine Later.drewN ?_ _ | refine Later.setCell ?_ (by first | omega | (simp; omega)) _))⟩
  · skip
    have hgb : (codePlace lx g == 0) = false := by simpa using hg
    clear HOx_10
    by_cases hp : codeChain l = 0
    · skip
      have hch : isChain l = true := by
        cases h : isChain l
        · simp [codeChain, h] at hp
        · rfl
      obtain ⟨q1, q2, q3, q4, q5⟩ := carry_law hch
      obtain ⟨t1, t2, t3, t4⟩ := tens_bd hch
      have r1 : -180 ≤ sumOfTens l ∧ sumOfTens l ≤ 180 := by have := sumTens_bd hch; simpa [sumOfTens, hch] using this
      have wa : IntKind.i64.wrap ((tensOf l).lo - sumOfTens l) = (tensOf l).lo - sumOfTens l := wrap_same (by omega) (by omega)
      have wb : IntKind.i64.wrap ((tensOf l).hi - sumOfTens l) = (tensOf l).hi - sumOfTens l := wrap_same (by omega) (by omega)
      have wc : IntKind.i64.wrap ((tensOf l).lo - 1) = (tensOf l).lo - 1 := wrap_same (by omega) (by omega)
      have wd : IntKind.i64.wrap ((tensOf l).hi + 1) = (tensOf l).hi + 1 := wrap_same (by omega) (by omega)
      have we : IntKind.i64.wrap (l.length : Int) = l.length := wrap_same (by omega) (by omega)
      have wf : IntKind.i64.wrap (-(l.length : Int)) = -(l.length : Int) := wrap_same (by omega) (by omega)
      have ca : ((carryOf l).lo != (tensOf l).lo - sumOfTens l) = false := by simpa using q1
      have cb : ((carryOf l).hi != (tensOf l).hi - sumOfTens l) = false := by simpa using q2
      have cc : decide ((tensOf l).hi < (tensOf l).lo) = false := by simp; omega
      have cd : decide ((l.length : Int) < (carryOf l).hi) = false := by simp; omega
      have ce : decide ((carryOf l).lo < -(l.length : Int)) = false := by simp; omega
      have hpz : (codeChain l != 0) = false := by simpa using hp
      have TL := Lib.hid (tens_law hch)
      clear q1 q2 q3 q4 q5 r1
      go_wp2_with fail
      refine (w_implChainFigure _ l _ (reads_of_owns (by repeat (with_reducible first | exact HOc_10.out | apply World.ownsRow.alloc | (apply owns_setNe; case hk => first | assumption | exact ne_own HOc_10.out (by first | omega | (simp; omega)) | exact ne_low HOc_10.out (by omega)) | (refine owns_later ?_ (Later.refl _).drew) | (refine owns_later ?_ ((Later.refl _).drewN _)))) (by omega))).mono ?_
      rintro e w11 ⟨rfl, hL⟩
      have HW11 : Hid (Later W w11) := Lib.hid (Later.trans (by repeat (with_reducible first | exact HW10.out | refine Later.alloc ?_ _ | refine Later.drew ?_ | refine Later.drewN ?_ _ | refine Later.setCell ?_ (by first | omega | (simp; omega)) _)) hL)
      have hz11 := HW11.out.size
      have HOc_11 := Lib.hid (owns_later (by repeat (with_reducible first | exact HOc_10.out | apply World.ownsRow.alloc | (apply owns_setNe; case hk => first | assumption | exact ne_own HOc_10.out (by first | omega | (simp; omega)) | exact ne_low HOc_10.out (by omega)) | (refine owns_later ?_ (Later.refl _).drew) | (refine owns_later ?_ ((Later.refl _).drewN _)))) hL)
      have HKA_11 := Lib.hid (hL.keep (k := w2.heap.size) (by repeat (with_reducible first | exact HKA_10.out | exact heap_alloc_new _ _ | (apply heap_alloc_new'; first | rfl | (simp; done)) | apply heap_alloc_old | apply st_0_2 | apply st_1_2 | apply st_0_3 | apply st_1_3 | apply st_2_3 | apply st_0_4 | apply st_1_4 | apply st_2_4 | apply st_3_4 | (apply other_set; case hne => omega) | exact heap_alloc_new' _ _ (by first | rfl | (simp; done)))))
      have HKB_11 := Lib.hid (hL.keep (k := w3.heap.size) (by repeat (with_reducible first | exact HKB_10.out | exact heap_alloc_new _ _ | (apply heap_alloc_new'; first | rfl | (simp; done)) | apply heap_alloc_old | apply st_0_2 | apply st_1_2 | apply st_0_3 | apply st_1_3 | apply st_2_3 | apply st_0_4 | apply st_1_4 | apply st_2_4 | apply st_3_4 | (apply other_set; case hne => omega) | exact heap_alloc_new' _ _ (by first | rfl | (simp; done)))))
      have HKC_11 := Lib.hid (hL.keep (k := w6.heap.size) (by repeat (with_reducible first | exact HKC_10.out | exact heap_alloc_new _ _ | (apply heap_alloc_new'; first | rfl | (simp; done)) | apply heap_alloc_old | apply st_0_2 | apply st_1_2 | apply st_0_3 | apply st_1_3 | apply st_2_3 | apply st_0_4 | apply st_1_4 | apply st_2_4 | apply st_3_4 | (apply other_set; case hne => omega) | exact heap_alloc_new' _ _ (by first | rfl | (simp; done)))))
      have HKD_11 := Lib.hid (hL.keep (k := w7.heap.size) (by repeat (with_reducible first | exact HKD_10.out | exact heap_alloc_new _ _ | (apply heap_alloc_new'; first | rfl | (simp; done)) | apply heap_alloc_old | apply st_0_2 | apply st_1_2 | apply st_0_3 | apply st_1_3 | apply st_2_3 | apply st_0_4 | apply st_1_4 | apply st_2_4 | apply st_3_4 | (apply other_set; case hne => omega) | exact heap_alloc_new' _ _ (by first | rfl | (simp; done)))))
      have HKE_11 := Lib.hid (hL.keep (k := w9.heap.size) (by repeat (with_reducible first | exact HKE_10.out | exact heap_alloc_new _ _ | (apply heap_alloc_new'; first | rfl | (simp; done)) | apply heap_alloc_old | apply st_0_2 | apply st_1_2 | apply st_0_3 | apply st_1_3 | apply st_2_3 | apply st_0_4 | apply st_1_4 | apply st_2_4 | apply st_3_4 | (apply other_set; case hne => omega) | exact heap_alloc_new' _ _ (by first | rfl | (simp; done)))))
      have HKF_11 := Lib.hid (hL.keep (k := w10.heap.size) (by repeat (with_reducible first | exact HKF_10.out | exact heap_alloc_new _ _ | (apply heap_alloc_new'; first | rfl | (simp; done)) | apply heap_alloc_old | apply st_0_2 | apply st_1_2 | apply st_0_3 | apply st_1_3 | apply st_2_3 | apply st_0_4 | apply st_1_4 | apply st_2_4 | apply st_3_4 | (apply other_set; case hne => omega) | exact heap_alloc_new' _ _ (by first | rfl | (simp; done)))))
      clear hL cA fA cB fB cC fC cD fD cE fE
      obtain ⟨cA, fA, zA_11⟩ := blk_at HKA_11.out
      obtain ⟨cB, fB, zB_11⟩ := blk_at HKB_11.out
      obtain ⟨cC, fC, zC_11⟩ := blk_at HKC_11.out
      obtain ⟨cD, fD, zD_11⟩ := blk_at HKD_11.out
      obtain ⟨cE, fE, zE_11⟩ := blk_at HKE_11.out
      obtain ⟨cF, fF, zF_11⟩ := blk_at HKF_11.out
      by_cases hf3 : chainFigC l = 3
      · skip
        have h3 : (chainFigC l == 3) = true := by simpa using hf3
        go_wp2
        go_ret
        exact ⟨rfl, (by repeat (with_reducible first | exact HW11.out | refine Later.alloc ?_ _ | refine Later.drew ?_ | refine Later.drewN ?_ _ | refine Later.setCell ?_ (by first | omega | (simp; omega)) _))⟩
      · skip
        obtain ⟨h0, g1, g2⟩ : chainFigC l = 0 ∧ (tensOf l).lo - 1 ≤ (chainFig l).t ∧ (chainFig l).t ≤ (tensOf l).hi + 1 := by
          rcases TL.out with h | h
          · exact absurd h hf3
          · exact h
        have d1 : decide ((tensOf l).lo - 1 ≤ (chainFig l).t) = true := by simp; omega
        have d2 : decide ((chainFig l).t ≤ (tensOf l).hi + 1) = true := by simp; omega
        go_wp2
        go_ret
        exact ⟨rfl, (by repeat (with_reducible first | exact HW11.out | refine Later.alloc ?_ _ | refine Later.drew ?_ | refine Later.drewN ?_ _ | refine Later.setCell ?_ (by first | omega | (simp; omega)) _))⟩
    · skip
      have hpb : (codeChain l != 0) = true := by simpa using hp
      go_wp2
      go_ret
      exact ⟨rfl, (by repeat (with_reducible first | exact HW10.out | refine Later.alloc ?_ _ | refine Later.drew ?_ | refine Later.drewN ?_ _ | refine Later.setCell ?_ (by first | omega | (simp; omega)) _))⟩

theorem lifted (os : Os) (started : os.Started) (H : Type) (enc : TypeId × Value → H) :
    ReturnsInHanded {} Try.checked os 4 .any (Rows.fnTensSpec.pre6 enc Try.prog Try.f4 Rows.fnTensRow.domain false) (Rows.fnTensSpec.post enc Try.prog Try.f4 false true false false) := by
  refine returnsInHanded_of_change (C := Try.checked) o_own started (by kernel_rfl) Try.func4
    (ChangeSpec.witness6 (enc := enc) (C := Try.checked) false ⟨#[], #[.slice none 0 0], []⟩ 8 (by kernel_rfl) (by kernel_rfl) (by kernel_rfl) (by kernel_rfl)) ?_
  intro W base args ds gs before hval0 hW hcnd _
  have hval : ∀ (j : Nat) t v, Try.f4.params[j]? = some t → args[j]? = some v → Value.okWide Try.prog W .any base t v := hval0
  have hW' := hW
  obtain ⟨p, q, hA0, hV, rfl, hfz, hnd⟩ := hW
  have hA : DataW.TrodAll enc Try.prog W 0 (fun _ => true) true Try.f4.params.toList args.toList ds p := hA0
  rw [Try.params4] at hA hval
  obtain ⟨v0, vs0, d0, ds0, p0, q0, hargs, rfl, rfl, h0, r0⟩ := trodAll_cons hA
  obtain ⟨rfl, rfl, rfl⟩ := trodAll_nil r0
  obtain rfl : args = #[v0] := by cases args; simp_all
  obtain ⟨rfl, rfl⟩ := trodVars_none hV
  obtain ⟨a0, len0, cap0, rfl⟩ := okWide_slice Try.underlying22 (hval 0 22 v0 rfl rfl)
  have k0 := h0
  have lt0 : ∀ x ∈ p0, x.block < W.heap.size := by obtain ⟨m, hm⟩ := k0; exact DataW.trod_lt m _ _ _ hm
  obtain ⟨l0, w0, hB0⟩ := o_bytes h0
  clear hA0 hval0
  refine (walk _ l0 W w0 hB0).mono fun e W' ⟨he, bel⟩ => ?_
  subst he
  exact ⟨_, rfl, _, _, _, [], _, [], hW', trodAll_mk1 (shut_bool Try.underlying4 _), (trodAll_cons_mk (Below.trod o_laidOut (by kernel_rfl) (of_decide_eq_true (by kernel_rfl)) k0 bel lt0) trodAll_mk0), rfl, bel.frame _, fun h => by cases h⟩

theorem over : Rows.fnTensRow.holds Try.pinned (OpenSpec.ofChange Rows.fnTensSpec) :=
  OpenClaim.holds_of_wide 4 Try.f4 rfl rfl rfl rfl rfl rfl rfl ⟨rfl, rfl, rfl, rfl, rfl⟩ rfl rfl rfl rfl rfl (by kernel_rfl) Try.func4 (by kernel_rfl)
    (of_decide_eq_true (by kernel_rfl)) (by unfold Func.isWrapper; first | (rw [if_pos (by decide +kernel)]; kernel_rfl) | (rw [if_neg (by decide +kernel)]; exact ⟨rfl, rfl⟩))
    (fun os started H enc _ => lifted os started H enc)

theorem proved : Rows.FnTensSaid := over
#print axioms proved
end Go.Proofs.Ytkoojngonldcbaa.lawTens
