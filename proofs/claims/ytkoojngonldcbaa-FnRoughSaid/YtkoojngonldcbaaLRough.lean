/- Rough chains have one digit, partial tens end with those of the chain, and digits that fit fit at more units: the law FnRough. It returns true for all codes. No condition. -/
import Derived.Test.YtkoojngonldcbaaRows
import Derived.Test.YtkoojngonldcbaaO3
import Derived.Test.YtkoojngonldcbaaM25
import Derived.Test.YtkoojngonldcbaaM26
import Derived.Test.YtkoojngonldcbaaM29
import Derived.Test.YtkoojngonldcbaaM15
import Derived.Test.YtkoojngonldcbaaM16
import Derived.Test.YtkoojngonldcbaaM23
import Derived.Test.YtkoojngonldcbaaM105
import Derived.Test.YtkoojngonldcbaaM106
import Derived.Test.YtkoojngonldcbaaP15
namespace Go.Proofs.Ytkoojngonldcbaa.lawRough
set_option linter.unusedVariables false
set_option linter.unusedSimpArgs false
open Go.ChangeShapes Go.WideShapes Go.ChangeAt Go.RowKit
set_option linter.unusedVariables false
set_option maxRecDepth 100000

theorem partial_len7 (l : List Trm) (h : l.length ≤ 7) : (partialTens l).length ≤ 7 := by
  unfold partialTens
  split
  · cases hp : partL l l.length with
    | none => simp
    | some r => simp; have := partL_len hp; omega
  · simp
theorem digits_u {l : List Trm} {f : Fig} {u : Int} (h : codeDigits l f u = 0) : 0 ≤ u := by
  unfold codeDigits at h
  cases hc : (isChain l && isFig f)
  · simp [hc] at h
  simp only [hc, if_true] at h
  cases hr : inR u 0 1048576
  · simp [hr] at h
  simp only [inR, Bool.and_eq_true, decide_eq_true_eq] at hr
  exact hr.1

set_option maxHeartbeats 4000000 in
theorem walk (v0 : Value) (bs : List Int) (W : World) (r0 : Raw W v0 bs.length 1 (byts bs)) (hB : ∀ b ∈ bs, 0 ≤ b ∧ b ≤ 255) :
    Calls Try.prog 5 #[v0] W fun e w' => e = .returned (.bool true) ∧ Later W w' := by
  by_cases hb : bs.length ≤ 4096
  rotate_left
  · obtain ⟨_, x0, cap0, rfl, hcap0, hmax0, _⟩ := r0
    have hbg : decide ((4096 : Int) < (bs.length : Int)) = true := by simp; omega
    have HB := Lib.hid hbg
    clear hbg
    go_enter Try.func5, Try.ntmps5
    go_wp2_with fail
    refine (w_big _ _ _ (by omega) _).mono ?_
    rintro e w' ⟨rfl, rfl⟩
    rw [HB.out]
    go_wp2
    go_ret
    exact ⟨rfl, Later.refl _⟩
  have HC := Lib.hid (r0.reads (by omega))
  obtain ⟨_, x0, cap0, rfl, hcap0, hmax0, _⟩ := r0
  have hbg : decide ((4096 : Int) < (bs.length : Int)) = false := by simp; omega
  have HB := Lib.hid hbg
  clear hbg
  go_enter Try.func5, Try.ntmps5
  go_wp2_with fail
  refine (w_big _ _ _ (by omega) _).mono ?_
  rintro e w' ⟨rfl, rfl⟩
  rw [HB.out]
  go_wp2_with fail
  refine (w_DrawRoughChain _ bs _ ((HC.out.later (by repeat (with_reducible first | exact Later.refl _ | refine Later.alloc ?_ _ | refine Later.drew ?_ | refine Later.drewN ?_ _ | refine Later.setCell ?_ (by first | omega | (simp; omega)) _)))) hB hb).mono ?_
  rintro e w1 ⟨v, l, rfl, hOc, h17, hL⟩
  obtain ⟨ac, capc, rfl⟩ := isSl_of hOc
  have HW1 : Hid (Later W w1) := Lib.hid (Later.trans (by repeat (with_reducible first | exact Later.refl _ | refine Later.alloc ?_ _ | refine Later.drew ?_ | refine Later.drewN ?_ _ | refine Later.setCell ?_ (by first | omega | (simp; omega)) _)) hL)
  have hz1 := HW1.out.size
  have HOc_1 := Lib.hid hOc
  clear hOc
  clear hL
  go_wp2_with fail
  refine (w_implRoughChain _ l _ (reads_of_owns (by repeat (with_reducible first | exact HOc_1.out | apply World.ownsRow.alloc | (apply owns_setNe; case hk => first | assumption | exact ne_own HOc_1.out (by first | omega | (simp; omega)) | exact ne_low HOc_1.out (by omega)) | (refine owns_later ?_ (Later.refl _).drew) | (refine owns_later ?_ ((Later.refl _).drewN _)))) (by omega))).mono ?_
  rintro e w2 ⟨rfl, hL⟩
  have HW2 : Hid (Later W w2) := Lib.hid (Later.trans (by repeat (with_reducible first | exact HW1.out | refine Later.alloc ?_ _ | refine Later.drew ?_ | refine Later.drewN ?_ _ | refine Later.setCell ?_ (by first | omega | (simp; omega)) _)) hL)
  have hz2 := HW2.out.size
  have HOc_2 := Lib.hid (owns_later (by repeat (with_reducible first | exact HOc_1.out | apply World.ownsRow.alloc | (apply owns_setNe; case hk => first | assumption | exact ne_own HOc_1.out (by first | omega | (simp; omega)) | exact ne_low HOc_1.out (by omega)) | (refine owns_later ?_ (Later.refl _).drew) | (refine owns_later ?_ ((Later.refl _).drewN _)))) hL)
  clear hL
  go_wp2_with fail
  refine (w_specRoughChain _ l _ (reads_of_owns (by repeat (with_reducible first | exact HOc_2.out | apply World.ownsRow.alloc | (apply owns_setNe; case hk => first | assumption | exact ne_own HOc_2.out (by first | omega | (simp; omega)) | exact ne_low HOc_2.out (by omega)) | (refine owns_later ?_ (Later.refl _).drew) | (refine owns_later ?_ ((Later.refl _).drewN _)))) (by omega))).mono ?_
  rintro e w3 ⟨rfl, hL⟩
  have HW3 : Hid (Later W w3) := Lib.hid (Later.trans (by repeat (with_reducible first | exact HW2.out | refine Later.alloc ?_ _ | refine Later.drew ?_ | refine Later.drewN ?_ _ | refine Later.setCell ?_ (by first | omega | (simp; omega)) _)) hL)
  have hz3 := HW3.out.size
  have HOc_3 := Lib.hid (owns_later (by repeat (with_reducible first | exact HOc_2.out | apply World.ownsRow.alloc | (apply owns_setNe; case hk => first | assumption | exact ne_own HOc_2.out (by first | omega | (simp; omega)) | exact ne_low HOc_2.out (by omega)) | (refine owns_later ?_ (Later.refl _).drew) | (refine owns_later ?_ ((Later.refl _).drewN _)))) hL)
  have HKA_3 := Lib.hid (hL.keep (k := w2.heap.size) (by repeat (with_reducible first | exact HKA_2.out | exact heap_alloc_new _ _ | apply heap_alloc_old | apply st_0_2 | apply st_1_2 | apply st_0_3 | apply st_1_3 | apply st_2_3 | apply st_0_4 | apply st_1_4 | apply st_2_4 | apply st_3_4 | (apply other_set; case hne => omega) | exact heap_alloc_new' _ _ (by first | rfl | (simp; done)))))
  clear hL
  obtain ⟨cA, fA, zA_3⟩ := blk_at HKA_3.out
  obtain ⟨np, hpl⟩ : ∃ n, (partialTens l).length = n := ⟨_, rfl⟩
  have HPL := Lib.hid hpl
  have hpl7 : np ≤ 7 := by have := partial_len7 l h17; omega
  clear hpl
  go_wp2_with fail
  refine (w_implPartialTens _ l _ (reads_of_owns (by repeat (with_reducible first | exact HOc_3.out | apply World.ownsRow.alloc | (apply owns_setNe; case hk => first | assumption | exact ne_own HOc_3.out (by first | omega | (simp; omega)) | exact ne_low HOc_3.out (by omega)) | (refine owns_later ?_ (Later.refl _).drew) | (refine owns_later ?_ ((Later.refl _).drewN _)))) (by omega))).mono ?_
  rintro e w4 ⟨xp, rfl, hL, hOp⟩
  rw [HPL.out] at hOp
  obtain ⟨ap, capp, rfl⟩ := isSl_of hOp
  have HW4 : Hid (Later W w4) := Lib.hid (Later.trans (by repeat (with_reducible first | exact HW3.out | refine Later.alloc ?_ _ | refine Later.drew ?_ | refine Later.drewN ?_ _ | refine Later.setCell ?_ (by first | omega | (simp; omega)) _)) hL)
  have hz4 := HW4.out.size
  have HOc_4 := Lib.hid (owns_later (by repeat (with_reducible first | exact HOc_3.out | apply World.ownsRow.alloc | (apply owns_setNe; case hk => first | assumption | exact ne_own HOc_3.out (by first | omega | (simp; omega)) | exact ne_low HOc_3.out (by omega)) | (refine owns_later ?_ (Later.refl _).drew) | (refine owns_later ?_ ((Later.refl _).drewN _)))) hL)
  have HKA_4 := Lib.hid (hL.keep (k := w2.heap.size) (by repeat (with_reducible first | exact HKA_3.out | exact heap_alloc_new _ _ | apply heap_alloc_old | apply st_0_2 | apply st_1_2 | apply st_0_3 | apply st_1_3 | apply st_2_3 | apply st_0_4 | apply st_1_4 | apply st_2_4 | apply st_3_4 | (apply other_set; case hne => omega) | exact heap_alloc_new' _ _ (by first | rfl | (simp; done)))))
  have HKB_4 := Lib.hid (hL.keep (k := w3.heap.size) (by repeat (with_reducible first | exact HKB_3.out | exact heap_alloc_new _ _ | apply heap_alloc_old | apply st_0_2 | apply st_1_2 | apply st_0_3 | apply st_1_3 | apply st_2_3 | apply st_0_4 | apply st_1_4 | apply st_2_4 | apply st_3_4 | (apply other_set; case hne => omega) | exact heap_alloc_new' _ _ (by first | rfl | (simp; done)))))
  have HOp_4 := Lib.hid hOp
  clear hOp
  clear hL cA fA
  obtain ⟨cA, fA, zA_4⟩ := blk_at HKA_4.out
  obtain ⟨cB, fB, zB_4⟩ := blk_at HKB_4.out
  go_wp2_with fail
  refine (w_specPartialTens _ l _ (reads_of_owns (by repeat (with_reducible first | exact HOc_4.out | apply World.ownsRow.alloc | (apply owns_setNe; case hk => first | assumption | exact ne_own HOc_4.out (by first | omega | (simp; omega)) | exact ne_low HOc_4.out (by omega)) | (refine owns_later ?_ (Later.refl _).drew) | (refine owns_later ?_ ((Later.refl _).drewN _)))) (by omega))).mono ?_
  rintro e w5 ⟨xq, rfl, hL, hOq⟩
  rw [HPL.out] at hOq
  obtain ⟨aq, capq, rfl⟩ := isSl_of hOq
  have HW5 : Hid (Later W w5) := Lib.hid (Later.trans (by repeat (with_reducible first | exact HW4.out | refine Later.alloc ?_ _ | refine Later.drew ?_ | refine Later.drewN ?_ _ | refine Later.setCell ?_ (by first | omega | (simp; omega)) _)) hL)
  have hz5 := HW5.out.size
  have HOc_5 := Lib.hid (owns_later (by repeat (with_reducible first | exact HOc_4.out | apply World.ownsRow.alloc | (apply owns_setNe; case hk => first | assumption | exact ne_own HOc_4.out (by first | omega | (simp; omega)) | exact ne_low HOc_4.out (by omega)) | (refine owns_later ?_ (Later.refl _).drew) | (refine owns_later ?_ ((Later.refl _).drewN _)))) hL)
  have HOp_5 := Lib.hid (owns_later (by repeat (with_reducible first | exact HOp_4.out | apply World.ownsRow.alloc | (apply owns_setNe; case hk => first | assumption | exact ne_own HOp_4.out (by first | omega | (simp; omega)) | exact ne_low HOp_4.out (by omega)) | (refine owns_later ?_ (Later.refl _).drew) | (refine owns_later ?_ ((Later.refl _).drewN _)))) hL)
  have HKA_5 := Lib.hid (hL.keep (k := w2.heap.size) (by repeat (with_reducible first | exact HKA_4.out | exact heap_alloc_new _ _ | apply heap_alloc_old | apply st_0_2 | apply st_1_2 | apply st_0_3 | apply st_1_3 | apply st_2_3 | apply st_0_4 | apply st_1_4 | apply st_2_4 | apply st_3_4 | (apply other_set; case hne => omega) | exact heap_alloc_new' _ _ (by first | rfl | (simp; done)))))
  have HKB_5 := Lib.hid (hL.keep (k := w3.heap.size) (by repeat (with_reducible first | exact HKB_4.out | exact heap_alloc_new _ _ | apply heap_alloc_old | apply st_0_2 | apply st_1_2 | apply st_0_3 | apply st_1_3 | apply st_2_3 | apply st_0_4 | apply st_1_4 | apply st_2_4 | apply st_3_4 | (apply other_set; case hne => omega) | exact heap_alloc_new' _ _ (by first | rfl | (simp; done)))))
  have HOq_5 := Lib.hid hOq
  clear hOq
  clear hL cA fA cB fB
  obtain ⟨cA, fA, zA_5⟩ := blk_at HKA_5.out
  obtain ⟨cB, fB, zB_5⟩ := blk_at HKB_5.out
  go_wp2_with fail
  refine (w_DrawCheckDigits _ bs _ ((HC.out.later (by repeat (with_reducible first | exact HW5.out | refine Later.alloc ?_ _ | refine Later.drew ?_ | refine Later.drewN ?_ _ | refine Later.setCell ?_ (by first | omega | (simp; omega)) _)))) hB hb).mono ?_
  rintro e w6 ⟨vx, lx, f, u, rfl, hOx, h27, hL⟩
  have HW6 : Hid (Later W w6) := Lib.hid (Later.trans (by repeat (with_reducible first | exact HW5.out | refine Later.alloc ?_ _ | refine Later.drew ?_ | refine Later.drewN ?_ _ | refine Later.setCell ?_ (by first | omega | (simp; omega)) _)) hL)
  have hz6 := HW6.out.size
  have HOc_6 := Lib.hid (owns_later (by repeat (with_reducible first | exact HOc_5.out | apply World.ownsRow.alloc | (apply owns_setNe; case hk => first | assumption | exact ne_own HOc_5.out (by first | omega | (simp; omega)) | exact ne_low HOc_5.out (by omega)) | (refine owns_later ?_ (Later.refl _).drew) | (refine owns_later ?_ ((Later.refl _).drewN _)))) hL)
  have HOp_6 := Lib.hid (owns_later (by repeat (with_reducible first | exact HOp_5.out | apply World.ownsRow.alloc | (apply owns_setNe; case hk => first | assumption | exact ne_own HOp_5.out (by first | omega | (simp; omega)) | exact ne_low HOp_5.out (by omega)) | (refine owns_later ?_ (Later.refl _).drew) | (refine owns_later ?_ ((Later.refl _).drewN _)))) hL)
  have HOq_6 := Lib.hid (owns_later (by repeat (with_reducible first | exact HOq_5.out | apply World.ownsRow.alloc | (apply owns_setNe; case hk => first | assumption | exact ne_own HOq_5.out (by first | omega | (simp; omega)) | exact ne_low HOq_5.out (by omega)) | (refine owns_later ?_ (Later.refl _).drew) | (refine owns_later ?_ ((Later.refl _).drewN _)))) hL)
  have HKA_6 := Lib.hid (hL.keep (k := w2.heap.size) (by repeat (with_reducible first | exact HKA_5.out | exact heap_alloc_new _ _ | apply heap_alloc_old | apply st_0_2 | apply st_1_2 | apply st_0_3 | apply st_1_3 | apply st_2_3 | apply st_0_4 | apply st_1_4 | apply st_2_4 | apply st_3_4 | (apply other_set; case hne => omega) | exact heap_alloc_new' _ _ (by first | rfl | (simp; done)))))
  have HKB_6 := Lib.hid (hL.keep (k := w3.heap.size) (by repeat (with_reducible first | exact HKB_5.out | exact heap_alloc_new _ _ | apply heap_alloc_old | apply st_0_2 | apply st_1_2 | apply st_0_3 | apply st_1_3 | apply st_2_3 | apply st_0_4 | apply st_1_4 | apply st_2_4 | apply st_3_4 | (apply other_set; case hne => omega) | exact heap_alloc_new' _ _ (by first | rfl | (simp; done)))))
  have HOx_6 := Lib.hid hOx
  clear hOx
  clear hL cA fA cB fB
  obtain ⟨cA, fA, zA_6⟩ := blk_at HKA_6.out
  obtain ⟨cB, fB, zB_6⟩ := blk_at HKB_6.out
  go_wp2_with fail
  refine (w_implCheckDigits _ lx f.d f.t u _ (reads_of_owns (by repeat (with_reducible first | exact HOx_6.out | apply World.ownsRow.alloc | (apply owns_setNe; case hk => first | assumption | exact ne_own HOx_6.out (by first | omega | (simp; omega)) | exact ne_low HOx_6.out (by omega)) | (refine owns_later ?_ (Later.refl _).drew) | (refine owns_later ?_ ((Later.refl _).drewN _)))) (by omega))).mono ?_
  rintro e w7 ⟨rfl, hL⟩
  have HW7 : Hid (Later W w7) := Lib.hid (Later.trans (by repeat (with_reducible first | exact HW6.out | refine Later.alloc ?_ _ | refine Later.drew ?_ | refine Later.drewN ?_ _ | refine Later.setCell ?_ (by first | omega | (simp; omega)) _)) hL)
  have hz7 := HW7.out.size
  have HOc_7 := Lib.hid (owns_later (by repeat (with_reducible first | exact HOc_6.out | apply World.ownsRow.alloc | (apply owns_setNe; case hk => first | assumption | exact ne_own HOc_6.out (by first | omega | (simp; omega)) | exact ne_low HOc_6.out (by omega)) | (refine owns_later ?_ (Later.refl _).drew) | (refine owns_later ?_ ((Later.refl _).drewN _)))) hL)
  have HOp_7 := Lib.hid (owns_later (by repeat (with_reducible first | exact HOp_6.out | apply World.ownsRow.alloc | (apply owns_setNe; case hk => first | assumption | exact ne_own HOp_6.out (by first | omega | (simp; omega)) | exact ne_low HOp_6.out (by omega)) | (refine owns_later ?_ (Later.refl _).drew) | (refine owns_later ?_ ((Later.refl _).drewN _)))) hL)
  have HOq_7 := Lib.hid (owns_later (by repeat (with_reducible first | exact HOq_6.out | apply World.ownsRow.alloc | (apply owns_setNe; case hk => first | assumption | exact ne_own HOq_6.out (by first | omega | (simp; omega)) | exact ne_low HOq_6.out (by omega)) | (refine owns_later ?_ (Later.refl _).drew) | (refine owns_later ?_ ((Later.refl _).drewN _)))) hL)
  have HOx_7 := Lib.hid (owns_later (by repeat (with_reducible first | exact HOx_6.out | apply World.ownsRow.alloc | (apply owns_setNe; case hk => first | assumption | exact ne_own HOx_6.out (by first | omega | (simp; omega)) | exact ne_low HOx_6.out (by omega)) | (refine owns_later ?_ (Later.refl _).drew) | (refine owns_later ?_ ((Later.refl _).drewN _)))) hL)
  have HKA_7 := Lib.hid (hL.keep (k := w2.heap.size) (by repeat (with_reducible first | exact HKA_6.out | exact heap_alloc_new _ _ | apply heap_alloc_old | apply st_0_2 | apply st_1_2 | apply st_0_3 | apply st_1_3 | apply st_2_3 | apply st_0_4 | apply st_1_4 | apply st_2_4 | apply st_3_4 | (apply other_set; case hne => omega) | exact heap_alloc_new' _ _ (by first | rfl | (simp; done)))))
  have HKB_7 := Lib.hid (hL.keep (k := w3.heap.size) (by repeat (with_reducible first | exact HKB_6.out | exact heap_alloc_new _ _ | apply heap_alloc_old | apply st_0_2 | apply st_1_2 | apply st_0_3 | apply st_1_3 | apply st_2_3 | apply st_0_4 | apply st_1_4 | apply st_2_4 | apply st_3_4 | (apply other_set; case hne => omega) | exact heap_alloc_new' _ _ (by first | rfl | (simp; done)))))
  have HKF_7 := Lib.hid (hL.keep (k := w6.heap.size) (by repeat (with_reducible first | exact HKF_6.out | exact heap_alloc_new _ _ | apply heap_alloc_old | apply st_0_2 | apply st_1_2 | apply st_0_3 | apply st_1_3 | apply st_2_3 | apply st_0_4 | apply st_1_4 | apply st_2_4 | apply st_3_4 | (apply other_set; case hne => omega) | exact heap_alloc_new' _ _ (by first | rfl | (simp; done)))))
  clear hL cA fA cB fB
  obtain ⟨cA, fA, zA_7⟩ := blk_at HKA_7.out
  obtain ⟨cB, fB, zB_7⟩ := blk_at HKB_7.out
  obtain ⟨cF, fF, zF_7⟩ := blk_at HKF_7.out
  go_wp2_with fail
  refine (w_specCheckDigits _ lx f.d f.t u _ (reads_of_owns (by repeat (with_reducible first | exact HOx_7.out | apply World.ownsRow.alloc | (apply owns_setNe; case hk => first | assumption | exact ne_own HOx_7.out (by first | omega | (simp; omega)) | exact ne_low HOx_7.out (by omega)) | (refine owns_later ?_ (Later.refl _).drew) | (refine owns_later ?_ ((Later.refl _).drewN _)))) (by omega))).mono ?_
  rintro e w8 ⟨rfl, hL⟩
  have HW8 : Hid (Later W w8) := Lib.hid (Later.trans (by repeat (with_reducible first | exact HW7.out | refine Later.alloc ?_ _ | refine Later.drew ?_ | refine Later.drewN ?_ _ | refine Later.setCell ?_ (by first | omega | (simp; omega)) _)) hL)
  have hz8 := HW8.out.size
  have HOc_8 := Lib.hid (owns_later (by repeat (with_reducible first | exact HOc_7.out | apply World.ownsRow.alloc | (apply owns_setNe; case hk => first | assumption | exact ne_own HOc_7.out (by first | omega | (simp; omega)) | exact ne_low HOc_7.out (by omega)) | (refine owns_later ?_ (Later.refl _).drew) | (refine owns_later ?_ ((Later.refl _).drewN _)))) hL)
  have HOp_8 := Lib.hid (owns_later (by repeat (with_reducible first | exact HOp_7.out | apply World.ownsRow.alloc | (apply owns_setNe; case hk => first | assumption | exact ne_own HOp_7.out (by first | omega | (simp; omega)) | exact ne_low HOp_7.out (by omega)) | (refine owns_later ?_ (Later.refl _).drew) | (refine owns_later ?_ ((Later.refl _).drewN _)))) hL)
  have HOq_8 := Lib.hid (owns_later (by repeat (with_reducible first | exact HOq_7.out | apply World.ownsRow.alloc | (apply owns_setNe; case hk => first | assumption | exact ne_own HOq_7.out (by first | omega | (simp; omega)) | exact ne_low HOq_7.out (by omega)) | (refine owns_later ?_ (Later.refl _).drew) | (refine owns_later ?_ ((Later.refl _).drewN _)))) hL)
  have HOx_8 := Lib.hid (owns_later (by repeat (with_reducible first | exact HOx_7.out | apply World.ownsRow.alloc | (apply owns_setNe; case hk => first | assumption | exact ne_own HOx_7.out (by first | omega | (simp; omega)) | exact ne_low HOx_7.out (by omega)) | (refine owns_later ?_ (Later.refl _).drew) | (refine owns_later ?_ ((Later.refl _).drewN _)))) hL)
  have HKA_8 := Lib.hid (hL.keep (k := w2.heap.size) (by repeat (with_reducible first | exact HKA_7.out | exact heap_alloc_new _ _ | apply heap_alloc_old | apply st_0_2 | apply st_1_2 | apply st_0_3 | apply st_1_3 | apply st_2_3 | apply st_0_4 | apply st_1_4 | apply st_2_4 | apply st_3_4 | (apply other_set; case hne => omega) | exact heap_alloc_new' _ _ (by first | rfl | (simp; done)))))
  have HKB_8 := Lib.hid (hL.keep (k := w3.heap.size) (by repeat (with_reducible first | exact HKB_7.out | exact heap_alloc_new _ _ | apply heap_alloc_old | apply st_0_2 | apply st_1_2 | apply st_0_3 | apply st_1_3 | apply st_2_3 | apply st_0_4 | apply st_1_4 | apply st_2_4 | apply st_3_4 | (apply other_set; case hne => omega) | exact heap_alloc_new' _ _ (by first | rfl | (simp; done)))))
  have HKF_8 := Lib.hid (hL.keep (k := w6.heap.size) (by repeat (with_reducible first | exact HKF_7.out | exact heap_alloc_new _ _ | apply heap_alloc_old | apply st_0_2 | apply st_1_2 | apply st_0_3 | apply st_1_3 | apply st_2_3 | apply st_0_4 | apply st_1_4 | apply st_2_4 | apply st_3_4 | (apply other_set; case hne => omega) | exact heap_alloc_new' _ _ (by first | rfl | (simp; done)))))
  clear hL cA fA cB fB cF fF
  obtain ⟨cA, fA, zA_8⟩ := blk_at HKA_8.out
  obtain ⟨cB, fB, zB_8⟩ := blk_at HKB_8.out
  obtain ⟨cF, fF, zF_8⟩ := blk_at HKF_8.out
  go_wp2_with fail
  refine (w_likeIntsY _ _ (partialTens l) _ (isNums_of (reads_of_owns (by repeat (with_reducible first | exact HOp_8.out | apply World.ownsRow.alloc | (apply owns_setNe; case hk => first | assumption | exact ne_own HOp_8.out (by first | omega | (simp; omega)) | exact ne_low HOp_8.out (by omega)) | (refine owns_later ?_ (Later.refl _).drew) | (refine owns_later ?_ ((Later.refl _).drewN _)))) (by omega)) HPL.out) (isNums_of (reads_of_owns (by repeat (with_reducible first | exact HOq_8.out | apply World.ownsRow.alloc | (apply owns_setNe; case hk => first | assumption | exact ne_own HOq_8.out (by first | omega | (simp; omega)) | exact ne_low HOq_8.out (by omega)) | (refine owns_later ?_ (Later.refl _).drew) | (refine owns_later ?_ ((Later.refl _).drewN _)))) (by omega)) HPL.out)).mono ?_
  rintro e w9 ⟨rfl, hL⟩
  have HW9 : Hid (Later W w9) := Lib.hid (Later.trans (by repeat (with_reducible first | exact HW8.out | refine Later.alloc ?_ _ | refine Later.drew ?_ | refine Later.drewN ?_ _ | refine Later.setCell ?_ (by first | omega | (simp; omega)) _)) hL)
  have hz9 := HW9.out.size
  have HOc_9 := Lib.hid (owns_later (by repeat (with_reducible first | exact HOc_8.out | apply World.ownsRow.alloc | (apply owns_setNe; case hk => first | assumption | exact ne_own HOc_8.out (by first | omega | (simp; omega)) | exact ne_low HOc_8.out (by omega)) | (refine owns_later ?_ (Later.refl _).drew) | (refine owns_later ?_ ((Later.refl _).drewN _)))) hL)
  have HOp_9 := Lib.hid (owns_later (by repeat (with_reducible first | exact HOp_8.out | apply World.ownsRow.alloc | (apply owns_setNe; case hk => first | assumption | exact ne_own HOp_8.out (by first | omega | (simp; omega)) | exact ne_low HOp_8.out (by omega)) | (refine owns_later ?_ (Later.refl _).drew) | (refine owns_later ?_ ((Later.refl _).drewN _)))) hL)
  have HOq_9 := Lib.hid (owns_later (by repeat (with_reducible first | exact HOq_8.out | apply World.ownsRow.alloc | (apply owns_setNe; case hk => first | assumption | exact ne_own HOq_8.out (by first | omega | (simp; omega)) | exact ne_low HOq_8.out (by omega)) | (refine owns_later ?_ (Later.refl _).drew) | (refine owns_later ?_ ((Later.refl _).drewN _)))) hL)
  have HOx_9 := Lib.hid (owns_later (by repeat (with_reducible first | exact HOx_8.out | apply World.ownsRow.alloc | (apply owns_setNe; case hk => first | assumption | exact ne_own HOx_8.out (by first | omega | (simp; omega)) | exact ne_low HOx_8.out (by omega)) | (refine owns_later ?_ (Later.refl _).drew) | (refine owns_later ?_ ((Later.refl _).drewN _)))) hL)
  have HKA_9 := Lib.hid (hL.keep (k := w2.heap.size) (by repeat (with_reducible first | exact HKA_8.out | exact heap_alloc_new _ _ | apply heap_alloc_old | apply st_0_2 | apply st_1_2 | apply st_0_3 | apply st_1_3 | apply st_2_3 | apply st_0_4 | apply st_1_4 | apply st_2_4 | apply st_3_4 | (apply other_set; case hne => omega) | exact heap_alloc_new' _ _ (by first | rfl | (simp; done)))))
  have HKB_9 := Lib.hid (hL.keep (k := w3.heap.size) (by repeat (with_reducible first | exact HKB_8.out | exact heap_alloc_new _ _ | apply heap_alloc_old | apply st_0_2 | apply st_1_2 | apply st_0_3 | apply st_1_3 | apply st_2_3 | apply st_0_4 | apply st_1_4 | apply st_2_4 | apply st_3_4 | (apply other_set; case hne => omega) | exact heap_alloc_new' _ _ (by first | rfl | (simp; done)))))
  have HKF_9 := Lib.hid (hL.keep (k := w6.heap.size) (by repeat (with_reducible first | exact HKF_8.out | exact heap_alloc_new _ _ | apply heap_alloc_old | apply st_0_2 | apply st_1_2 | apply st_0_3 | apply st_1_3 | apply st_2_3 | apply st_0_4 | apply st_1_4 | apply st_2_4 | apply st_3_4 | (apply other_set; case hne => omega) | exact heap_alloc_new' _ _ (by first | rfl | (simp; done)))))
  clear hL cA fA cB fB cF fF
  obtain ⟨cA, fA, zA_9⟩ := blk_at HKA_9.out
  obtain ⟨cB, fB, zB_9⟩ := blk_at HKB_9.out
  obtain ⟨cF, fF, zF_9⟩ := blk_at HKF_9.out
  by_cases hr : roughC l = 0
  · skip
    have hmod := rough_mod hr
    have hmod2 : (roughChain l).d.tmod 1000 = 0 := Int.tmod_eq_zero_of_dvd (Int.dvd_of_emod_eq_zero hmod)
    by_cases hd : codeDigits lx ⟨f.d, f.t⟩ u = 0
    · skip
      by_cases hu : u < 1048576
      · skip
        obtain ⟨hd1, hd2⟩ := digits_more hd hu
        have HD1 := Lib.hid hd1
        clear hd1
        have hub := digits_u hd
        by_cases hk : checkDigits lx ⟨f.d, f.t⟩ u = true
        · skip
          have HK2 := Lib.hid (hd2 hk)
          clear hd2
          go_wp2_with fail
          refine (w_implCheckDigits _ lx f.d f.t (u + 1) _ (reads_of_owns (by repeat (with_reducible first | exact HOx_9.out | apply World.ownsRow.alloc | (apply owns_setNe; case hk => first | assumption | exact ne_own HOx_9.out (by first | omega | (simp; omega)) | exact ne_low HOx_9.out (by omega)) | (refine owns_later ?_ (Later.refl _).drew) | (refine owns_later ?_ ((Later.refl _).drewN _)))) (by omega))).mono ?_
          rintro e w10 ⟨rfl, hL⟩
          have HW10 : Hid (Later W w10) := Lib.hid (Later.trans (by repeat (with_reducible first | exact HW9.out | refine Later.alloc ?_ _ | refine Later.drew ?_ | refine Later.drewN ?_ _ | refine Later.setCell ?_ (by first | omega | (simp; omega)) _)) hL)
          have hz10 := HW10.out.size
          have HOc_10 := Lib.hid (owns_later (by repeat (with_reducible first | exact HOc_9.out | apply World.ownsRow.alloc | (apply owns_setNe; case hk => first | assumption | exact ne_own HOc_9.out (by first | omega | (simp; omega)) | exact ne_low HOc_9.out (by omega)) | (refine owns_later ?_ (Later.refl _).drew) | (refine owns_later ?_ ((Later.refl _).drewN _)))) hL)
          have HOp_10 := Lib.hid (owns_later (by repeat (with_reducible first | exact HOp_9.out | apply World.ownsRow.alloc | (apply owns_setNe; case hk => first | assumption | exact ne_own HOp_9.out (by first | omega | (simp; omega)) | exact ne_low HOp_9.out (by omega)) | (refine owns_later ?_ (Later.refl _).drew) | (refine owns_later ?_ ((Later.refl _).drewN _)))) hL)
          have HOq_10 := Lib.hid (owns_later (by repeat (with_reducible first | exact HOq_9.out | apply World.ownsRow.alloc | (apply owns_setNe; case hk => first | assumption | exact ne_own HOq_9.out (by first | omega | (simp; omega)) | exact ne_low HOq_9.out (by omega)) | (refine owns_later ?_ (Later.refl _).drew) | (refine owns_later ?_ ((Later.refl _).drewN _)))) hL)
          have HOx_10 := Lib.hid (owns_later (by repeat (with_reducible first | exact HOx_9.out | apply World.ownsRow.alloc | (apply owns_setNe; case hk => first | assumption | exact ne_own HOx_9.out (by first | omega | (simp; omega)) | exact ne_low HOx_9.out (by omega)) | (refine owns_later ?_ (Later.refl _).drew) | (refine owns_later ?_ ((Later.refl _).drewN _)))) hL)
          have HKA_10 := Lib.hid (hL.keep (k := w2.heap.size) (by repeat (with_reducible first | exact HKA_9.out | exact heap_alloc_new _ _ | apply heap_alloc_old | apply st_0_2 | apply st_1_2 | apply st_0_3 | apply st_1_3 | apply st_2_3 | apply st_0_4 | apply st_1_4 | apply st_2_4 | apply st_3_4 | (apply other_set; case hne => omega) | exact heap_alloc_new' _ _ (by first | rfl | (simp; done)))))
          have HKB_10 := Lib.hid (hL.keep (k := w3.heap.size) (by repeat (with_reducible first | exact HKB_9.out | exact heap_alloc_new _ _ | apply heap_alloc_old | apply st_0_2 | apply st_1_2 | apply st_0_3 | apply st_1_3 | apply st_2_3 | apply st_0_4 | apply st_1_4 | apply st_2_4 | apply st_3_4 | (apply other_set; case hne => omega) | exact heap_alloc_new' _ _ (by first | rfl | (simp; done)))))
          have HKF_10 := Lib.hid (hL.keep (k := w6.heap.size) (by repeat (with_reducible first | exact HKF_9.out | exact heap_alloc_new _ _ | apply heap_alloc_old | apply st_0_2 | apply st_1_2 | apply st_0_3 | apply st_1_3 | apply st_2_3 | apply st_0_4 | apply st_1_4 | apply st_2_4 | apply st_3_4 | (apply other_set; case hne => omega) | exact heap_alloc_new' _ _ (by first | rfl | (simp; done)))))
          clear hL cA fA cB fB cF fF
          obtain ⟨cA, fA, zA_10⟩ := blk_at HKA_10.out
          obtain ⟨cB, fB, zB_10⟩ := blk_at HKB_10.out
          obtain ⟨cF, fF, zF_10⟩ := blk_at HKF_10.out
          rw [HD1.out, HK2.out]
          clear HOx_10
          by_cases hp : codePartial l = 0
          · skip
            obtain ⟨hch, hcf, hlen, hlast, hfirst⟩ := partial_ok hp
            have HLAST := Lib.hid hlast
            have HFIRST := Lib.hid hfirst
            have HCH := Lib.hid hch
            have HCF := Lib.hid hcf
            have hnp : np = l.length := by have := HPL.out; omega
            subst hnp
            clear hlast hfirst hch hcf hlen
            go_wp2_with fail
            refine (w_implChainFigure _ l _ (reads_of_owns (by repeat (with_reducible first | exact HOc_10.out | apply World.ownsRow.alloc | (apply owns_setNe; case hk => first | assumption | exact ne_own HOc_10.out (by first | omega | (simp; omega)) | exact ne_low HOc_10.out (by omega)) | (refine owns_later ?_ (Later.refl _).drew) | (refine owns_later ?_ ((Later.refl _).drewN _)))) (by omega))).mono ?_
            rintro e w11 ⟨rfl, hL⟩
            have HW11 : Hid (Later W w11) := Lib.hid (Later.trans (by repeat (with_reducible first | exact HW10.out | refine Later.alloc ?_ _ | refine Later.drew ?_ | refine Later.drewN ?_ _ | refine Later.setCell ?_ (by first | omega | (simp; omega)) _)) hL)
            have hz11 := HW11.out.size
            have HOc_11 := Lib.hid (owns_later (by repeat (with_reducible first | exact HOc_10.out | apply World.ownsRow.alloc | (apply owns_setNe; case hk => first | assumption | exact ne_own HOc_10.out (by first | omega | (simp; omega)) | exact ne_low HOc_10.out (by omega)) | (refine owns_later ?_ (Later.refl _).drew) | (refine owns_later ?_ ((Later.refl _).drewN _)))) hL)
            have HOp_11 := Lib.hid (owns_later (by repeat (with_reducible first | exact HOp_10.out | apply World.ownsRow.alloc | (apply owns_setNe; case hk => first | assumption | exact ne_own HOp_10.out (by first | omega | (simp; omega)) | exact ne_low HOp_10.out (by omega)) | (refine owns_later ?_ (Later.refl _).drew) | (refine owns_later ?_ ((Later.refl _).drewN _)))) hL)
            have HOq_11 := Lib.hid (owns_later (by repeat (with_reducible first | exact HOq_10.out | apply World.ownsRow.alloc | (apply owns_setNe; case hk => first | assumption | exact ne_own HOq_10.out (by first | omega | (simp; omega)) | exact ne_low HOq_10.out (by omega)) | (refine owns_later ?_ (Later.refl _).drew) | (refine owns_later ?_ ((Later.refl _).drewN _)))) hL)
            have HKA_11 := Lib.hid (hL.keep (k := w2.heap.size) (by repeat (with_reducible first | exact HKA_10.out | exact heap_alloc_new _ _ | apply heap_alloc_old | apply st_0_2 | apply st_1_2 | apply st_0_3 | apply st_1_3 | apply st_2_3 | apply st_0_4 | apply st_1_4 | apply st_2_4 | apply st_3_4 | (apply other_set; case hne => omega) | exact heap_alloc_new' _ _ (by first | rfl | (simp; done)))))
            have HKB_11 := Lib.hid (hL.keep (k := w3.heap.size) (by repeat (with_reducible first | exact HKB_10.out | exact heap_alloc_new _ _ | apply heap_alloc_old | apply st_0_2 | apply st_1_2 | apply st_0_3 | apply st_1_3 | apply st_2_3 | apply st_0_4 | apply st_1_4 | apply st_2_4 | apply st_3_4 | (apply other_set; case hne => omega) | exact heap_alloc_new' _ _ (by first | rfl | (simp; done)))))
            have HKF_11 := Lib.hid (hL.keep (k := w6.heap.size) (by repeat (with_reducible first | exact HKF_10.out | exact heap_alloc_new _ _ | apply heap_alloc_old | apply st_0_2 | apply st_1_2 | apply st_0_3 | apply st_1_3 | apply st_2_3 | apply st_0_4 | apply st_1_4 | apply st_2_4 | apply st_3_4 | (apply other_set; case hne => omega) | exact heap_alloc_new' _ _ (by first | rfl | (simp; done)))))
            clear hL cA fA cB fB cF fF
            obtain ⟨cA, fA, zA_11⟩ := blk_at HKA_11.out
            obtain ⟨cB, fB, zB_11⟩ := blk_at HKB_11.out
            obtain ⟨cF, fF, zF_11⟩ := blk_at HKF_11.out
            rw [HCF.out]
            obtain ⟨m, hm⟩ : ∃ m, l.length = m + 1 := ⟨l.length - 1, by have := (isChain_true HCH.out).1; omega⟩
            obtain ⟨t, ht⟩ := get_ex (l := l) (k := 0) (by omega)
            rcases own_shape HOc_11.out with ⟨hq, _, _⟩ | ⟨gc, _, hsc, _, hgc, _, _⟩
            · exact absurd hq (by simp; omega)
            cases hsc
            rcases own_shape HOp_11.out with ⟨hq, _, _⟩ | ⟨gp, _, hsp, _, hgp, _, _⟩
            · exact absurd hq (by simp; omega)
            cases hsp
            obtain ⟨e0, e1, e2⟩ := own_trm HOc_11.out ht
            have p0 : w11.cell? ⟨gp, 0, none⟩ = some (.int .i64 t.f.t) := by
              rw [HOp_11.out.cellAt 0 (by omega)]
              simpa [nums] using HFIRST.out t ht
            have p1 : w11.cell? ⟨gp, m, none⟩ = some (.int .i64 (chainFig l).t) := by
              rw [HOp_11.out.cellAt m (by omega)]
              have h := HLAST.out
              rw [show l.length - 1 = m from by omega] at h
              simpa [nums] using h
            simp only [Nat.zero_mul, Nat.zero_add] at e0 e1 e2
            clear ht
            rw [hm]
            have hi1 : ((m + 1 : Nat) : Int) - 1 = m := by omega
            go_wp2_with fail
            go_quiet (fail)
            go_wp2
            go_ret
            exact ⟨rfl, (by repeat (with_reducible first | exact HW11.out | refine Later.alloc ?_ _ | refine Later.drew ?_ | refine Later.drewN ?_ _ | refine Later.setCell ?_ (by first | omega | (simp; omega)) _))⟩
          · skip
            have hpb : (codePartial l != 0) = true := by simpa using hp
            go_wp2
            go_ret
            exact ⟨rfl, (by repeat (with_reducible first | exact HW10.out | refine Later.alloc ?_ _ | refine Later.drew ?_ | refine Later.drewN ?_ _ | refine Later.setCell ?_ (by first | omega | (simp; omega)) _))⟩
        · skip
          clear hd2
          have hkb : checkDigits lx ⟨f.d, f.t⟩ u = false := by simpa using hk
          go_wp2_with fail
          refine (w_implCheckDigits _ lx f.d f.t (u + 1) _ (reads_of_owns (by repeat (with_reducible first | exact HOx_9.out | apply World.ownsRow.alloc | (apply owns_setNe; case hk => first | assumption | exact ne_own HOx_9.out (by first | omega | (simp; omega)) | exact ne_low HOx_9.out (by omega)) | (refine owns_later ?_ (Later.refl _).drew) | (refine owns_later ?_ ((Later.refl _).drewN _)))) (by omega))).mono ?_
          rintro e w10 ⟨rfl, hL⟩
          have HW10 : Hid (Later W w10) := Lib.hid (Later.trans (by repeat (with_reducible first | exact HW9.out | refine Later.alloc ?_ _ | refine Later.drew ?_ | refine Later.drewN ?_ _ | refine Later.setCell ?_ (by first | omega | (simp; omega)) _)) hL)
          have hz10 := HW10.out.size
          have HOc_10 := Lib.hid (owns_later (by repeat (with_reducible first | exact HOc_9.out | apply World.ownsRow.alloc | (apply owns_setNe; case hk => first | assumption | exact ne_own HOc_9.out (by first | omega | (simp; omega)) | exact ne_low HOc_9.out (by omega)) | (refine owns_later ?_ (Later.refl _).drew) | (refine owns_later ?_ ((Later.refl _).drewN _)))) hL)
          have HOp_10 := Lib.hid (owns_later (by repeat (with_reducible first | exact HOp_9.out | apply World.ownsRow.alloc | (apply owns_setNe; case hk => first | assumption | exact ne_own HOp_9.out (by first | omega | (simp; omega)) | exact ne_low HOp_9.out (by omega)) | (refine owns_later ?_ (Later.refl _).drew) | (refine owns_later ?_ ((Later.refl _).drewN _)))) hL)
          have HOq_10 := Lib.hid (owns_later (by repeat (with_reducible first | exact HOq_9.out | apply World.ownsRow.alloc | (apply owns_setNe; case hk => first | assumption | exact ne_own HOq_9.out (by first | omega | (simp; omega)) | exact ne_low HOq_9.out (by omega)) | (refine owns_later ?_ (Later.refl _).drew) | (refine owns_later ?_ ((Later.refl _).drewN _)))) hL)
          have HOx_10 := Lib.hid (owns_later (by repeat (with_reducible first | exact HOx_9.out | apply World.ownsRow.alloc | (apply owns_setNe; case hk => first | assumption | exact ne_own HOx_9.out (by first | omega | (simp; omega)) | exact ne_low HOx_9.out (by omega)) | (refine owns_later ?_ (Later.refl _).drew) | (refine owns_later ?_ ((Later.refl _).drewN _)))) hL)
          have HKA_10 := Lib.hid (hL.keep (k := w2.heap.size) (by repeat (with_reducible first | exact HKA_9.out | exact heap_alloc_new _ _ | apply heap_alloc_old | apply st_0_2 | apply st_1_2 | apply st_0_3 | apply st_1_3 | apply st_2_3 | apply st_0_4 | apply st_1_4 | apply st_2_4 | apply st_3_4 | (apply other_set; case hne => omega) | exact heap_alloc_new' _ _ (by first | rfl | (simp; done)))))
          have HKB_10 := Lib.hid (hL.keep (k := w3.heap.size) (by repeat (with_reducible first | exact HKB_9.out | exact heap_alloc_new _ _ | apply heap_alloc_old | apply st_0_2 | apply st_1_2 | apply st_0_3 | apply st_1_3 | apply st_2_3 | apply st_0_4 | apply st_1_4 | apply st_2_4 | apply st_3_4 | (apply other_set; case hne => omega) | exact heap_alloc_new' _ _ (by first | rfl | (simp; done)))))
          have HKF_10 := Lib.hid (hL.keep (k := w6.heap.size) (by repeat (with_reducible first | exact HKF_9.out | exact heap_alloc_new _ _ | apply heap_alloc_old | apply st_0_2 | apply st_1_2 | apply st_0_3 | apply st_1_3 | apply st_2_3 | apply st_0_4 | apply st_1_4 | apply st_2_4 | apply st_3_4 | (apply other_set; case hne => omega) | exact heap_alloc_new' _ _ (by first | rfl | (simp; done)))))
          clear hL cA fA cB fB cF fF
          obtain ⟨cA, fA, zA_10⟩ := blk_at HKA_10.out
          obtain ⟨cB, fB, zB_10⟩ := blk_at HKB_10.out
          obtain ⟨cF, fF, zF_10⟩ := blk_at HKF_10.out
          rw [HD1.out]
          clear HOx_10
          by_cases hp : codePartial l = 0
          · skip
            obtain ⟨hch, hcf, hlen, hlast, hfirst⟩ := partial_ok hp
            have HLAST := Lib.hid hlast
            have HFIRST := Lib.hid hfirst
            have HCH := Lib.hid hch
            have HCF := Lib.hid hcf
            have hnp : np = l.length := by have := HPL.out; omega
            subst hnp
            clear hlast hfirst hch hcf hlen
            go_wp2_with fail
            refine (w_implChainFigure _ l _ (reads_of_owns (by repeat (with_reducible first | exact HOc_10.out | apply World.ownsRow.alloc | (apply owns_setNe; case hk => first | assumption | exact ne_own HOc_10.out (by first | omega | (simp; omega)) | exact ne_low HOc_10.out (by omega)) | (refine owns_later ?_ (Later.refl _).drew) | (refine owns_later ?_ ((Later.refl _).drewN _)))) (by omega))).mono ?_
            rintro e w11 ⟨rfl, hL⟩
            have HW11 : Hid (Later W w11) := Lib.hid (Later.trans (by repeat (with_reducible first | exact HW10.out | refine Later.alloc ?_ _ | refine Later.drew ?_ | refine Later.drewN ?_ _ | refine Later.setCell ?_ (by first | omega | (simp; omega)) _)) hL)
            have hz11 := HW11.out.size
            have HOc_11 := Lib.hid (owns_later (by repeat (with_reducible first | exact HOc_10.out | apply World.ownsRow.alloc | (apply owns_setNe; case hk => first | assumption | exact ne_own HOc_10.out (by first | omega | (simp; omega)) | exact ne_low HOc_10.out (by omega)) | (refine owns_later ?_ (Later.refl _).drew) | (refine owns_later ?_ ((Later.refl _).drewN _)))) hL)
            have HOp_11 := Lib.hid (owns_later (by repeat (with_reducible first | exact HOp_10.out | apply World.ownsRow.alloc | (apply owns_setNe; case hk => first | assumption | exact ne_own HOp_10.out (by first | omega | (simp; omega)) | exact ne_low HOp_10.out (by omega)) | (refine owns_later ?_ (Later.refl _).drew) | (refine owns_later ?_ ((Later.refl _).drewN _)))) hL)
            have HOq_11 := Lib.hid (owns_later (by repeat (with_reducible first | exact HOq_10.out | apply World.ownsRow.alloc | (apply owns_setNe; case hk => first | assumption | exact ne_own HOq_10.out (by first | omega | (simp; omega)) | exact ne_low HOq_10.out (by omega)) | (refine owns_later ?_ (Later.refl _).drew) | (refine owns_later ?_ ((Later.refl _).drewN _)))) hL)
            have HKA_11 := Lib.hid (hL.keep (k := w2.heap.size) (by repeat (with_reducible first | exact HKA_10.out | exact heap_alloc_new _ _ | apply heap_alloc_old | apply st_0_2 | apply st_1_2 | apply st_0_3 | apply st_1_3 | apply st_2_3 | apply st_0_4 | apply st_1_4 | apply st_2_4 | apply st_3_4 | (apply other_set; case hne => omega) | exact heap_alloc_new' _ _ (by first | rfl | (simp; done)))))
            have HKB_11 := Lib.hid (hL.keep (k := w3.heap.size) (by repeat (with_reducible first | exact HKB_10.out | exact heap_alloc_new _ _ | apply heap_alloc_old | apply st_0_2 | apply st_1_2 | apply st_0_3 | apply st_1_3 | apply st_2_3 | apply st_0_4 | apply st_1_4 | apply st_2_4 | apply st_3_4 | (apply other_set; case hne => omega) | exact heap_alloc_new' _ _ (by first | rfl | (simp; done)))))
            have HKF_11 := Lib.hid (hL.keep (k := w6.heap.size) (by repeat (with_reducible first | exact HKF_10.out | exact heap_alloc_new _ _ | apply heap_alloc_old | apply st_0_2 | apply st_1_2 | apply st_0_3 | apply st_1_3 | apply st_2_3 | apply st_0_4 | apply st_1_4 | apply st_2_4 | apply st_3_4 | (apply other_set; case hne => omega) | exact heap_alloc_new' _ _ (by first | rfl | (simp; done)))))
            clear hL cA fA cB fB cF fF
            obtain ⟨cA, fA, zA_11⟩ := blk_at HKA_11.out
            obtain ⟨cB, fB, zB_11⟩ := blk_at HKB_11.out
            obtain ⟨cF, fF, zF_11⟩ := blk_at HKF_11.out
            rw [HCF.out]
            obtain ⟨m, hm⟩ : ∃ m, l.length = m + 1 := ⟨l.length - 1, by have := (isChain_true HCH.out).1; omega⟩
            obtain ⟨t, ht⟩ := get_ex (l := l) (k := 0) (by omega)
            rcases own_shape HOc_11.out with ⟨hq, _, _⟩ | ⟨gc, _, hsc, _, hgc, _, _⟩
            · exact absurd hq (by simp; omega)
            cases hsc
            rcases own_shape HOp_11.out with ⟨hq, _, _⟩ | ⟨gp, _, hsp, _, hgp, _, _⟩
            · exact absurd hq (by simp; omega)
            cases hsp
            obtain ⟨e0, e1, e2⟩ := own_trm HOc_11.out ht
            have p0 : w11.cell? ⟨gp, 0, none⟩ = some (.int .i64 t.f.t) := by
              rw [HOp_11.out.cellAt 0 (by omega)]
              simpa [nums] using HFIRST.out t ht
            have p1 : w11.cell? ⟨gp, m, none⟩ = some (.int .i64 (chainFig l).t) := by
              rw [HOp_11.out.cellAt m (by omega)]
              have h := HLAST.out
              rw [show l.length - 1 = m from by omega] at h
              simpa [nums] using h
            simp only [Nat.zero_mul, Nat.zero_add] at e0 e1 e2
            clear ht
            rw [hm]
            have hi1 : ((m + 1 : Nat) : Int) - 1 = m := by omega
            go_wp2_with fail
            go_quiet (fail)
            go_wp2
            go_ret
            exact ⟨rfl, (by repeat (with_reducible first | exact HW11.out | refine Later.alloc ?_ _ | refine Later.drew ?_ | refine Later.drewN ?_ _ | refine Later.setCell ?_ (by first | omega | (simp; omega)) _))⟩
          · skip
            have hpb : (codePartial l != 0) = true := by simpa using hp
            go_wp2
            go_ret
            exact ⟨rfl, (by repeat (with_reducible first | exact HW10.out | refine Later.alloc ?_ _ | refine Later.drew ?_ | refine Later.drewN ?_ _ | refine Later.setCell ?_ (by first | omega | (simp; omega)) _))⟩
      · skip
        clear HOx_9
        by_cases hp : codePartial l = 0
        · skip
          obtain ⟨hch, hcf, hlen, hlast, hfirst⟩ := partial_ok hp
          have HLAST := Lib.hid hlast
          have HFIRST := Lib.hid hfirst
          have HCH := Lib.hid hch
          have HCF := Lib.hid hcf
          have hnp : np = l.length := by have := HPL.out; omega
          subst hnp
          clear hlast hfirst hch hcf hlen
          go_wp2_with fail
          refine (w_implChainFigure _ l _ (reads_of_owns (by repeat (with_reducible first | exact HOc_9.out | apply World.ownsRow.alloc | (apply owns_setNe; case hk => first | assumption | exact ne_own HOc_9.out (by first | omega | (simp; omega)) | exact ne_low HOc_9.out (by omega)) | (refine owns_later ?_ (Later.refl _).drew) | (refine owns_later ?_ ((Later.refl _).drewN _)))) (by omega))).mono ?_
          rintro e w10 ⟨rfl, hL⟩
          have HW10 : Hid (Later W w10) := Lib.hid (Later.trans (by repeat (with_reducible first | exact HW9.out | refine Later.alloc ?_ _ | refine Later.drew ?_ | refine Later.drewN ?_ _ | refine Later.setCell ?_ (by first | omega | (simp; omega)) _)) hL)
          have hz10 := HW10.out.size
          have HOc_10 := Lib.hid (owns_later (by repeat (with_reducible first | exact HOc_9.out | apply World.ownsRow.alloc | (apply owns_setNe; case hk => first | assumption | exact ne_own HOc_9.out (by first | omega | (simp; omega)) | exact ne_low HOc_9.out (by omega)) | (refine owns_later ?_ (Later.refl _).drew) | (refine owns_later ?_ ((Later.refl _).drewN _)))) hL)
          have HOp_10 := Lib.hid (owns_later (by repeat (with_reducible first | exact HOp_9.out | apply World.ownsRow.alloc | (apply owns_setNe; case hk => first | assumption | exact ne_own HOp_9.out (by first | omega | (simp; omega)) | exact ne_low HOp_9.out (by omega)) | (refine owns_later ?_ (Later.refl _).drew) | (refine owns_later ?_ ((Later.refl _).drewN _)))) hL)
          have HOq_10 := Lib.hid (owns_later (by repeat (with_reducible first | exact HOq_9.out | apply World.ownsRow.alloc | (apply owns_setNe; case hk => first | assumption | exact ne_own HOq_9.out (by first | omega | (simp; omega)) | exact ne_low HOq_9.out (by omega)) | (refine owns_later ?_ (Later.refl _).drew) | (refine owns_later ?_ ((Later.refl _).drewN _)))) hL)
          have HKA_10 := Lib.hid (hL.keep (k := w2.heap.size) (by repeat (with_reducible first | exact HKA_9.out | exact heap_alloc_new _ _ | apply heap_alloc_old | apply st_0_2 | apply st_1_2 | apply st_0_3 | apply st_1_3 | apply st_2_3 | apply st_0_4 | apply st_1_4 | apply st_2_4 | apply st_3_4 | (apply other_set; case hne => omega) | exact heap_alloc_new' _ _ (by first | rfl | (simp; done)))))
          have HKB_10 := Lib.hid (hL.keep (k := w3.heap.size) (by repeat (with_reducible first | exact HKB_9.out | exact heap_alloc_new _ _ | apply heap_alloc_old | apply st_0_2 | apply st_1_2 | apply st_0_3 | apply st_1_3 | apply st_2_3 | apply st_0_4 | apply st_1_4 | apply st_2_4 | apply st_3_4 | (apply other_set; case hne => omega) | exact heap_alloc_new' _ _ (by first | rfl | (simp; done)))))
          have HKF_10 := Lib.hid (hL.keep (k := w6.heap.size) (by repeat (with_reducible first | exact HKF_9.out | exact heap_alloc_new _ _ | apply heap_alloc_old | apply st_0_2 | apply st_1_2 | apply st_0_3 | apply st_1_3 | apply st_2_3 | apply st_0_4 | apply st_1_4 | apply st_2_4 | apply st_3_4 | (apply other_set; case hne => omega) | exact heap_alloc_new' _ _ (by first | rfl | (simp; done)))))
          clear hL cA fA cB fB cF fF
          obtain ⟨cA, fA, zA_10⟩ := blk_at HKA_10.out
          obtain ⟨cB, fB, zB_10⟩ := blk_at HKB_10.out
          obtain ⟨cF, fF, zF_10⟩ := blk_at HKF_10.out
          rw [HCF.out]
          obtain ⟨m, hm⟩ : ∃ m, l.length = m + 1 := ⟨l.length - 1, by have := (isChain_true HCH.out).1; omega⟩
          obtain ⟨t, ht⟩ := get_ex (l := l) (k := 0) (by omega)
          rcases own_shape HOc_10.out with ⟨hq, _, _⟩ | ⟨gc, _, hsc, _, hgc, _, _⟩
          · exact absurd hq (by simp; omega)
          cases hsc
          rcases own_shape HOp_10.out with ⟨hq, _, _⟩ | ⟨gp, _, hsp, _, hgp, _, _⟩
          · exact absurd hq (by simp; omega)
          cases hsp
          obtain ⟨e0, e1, e2⟩ := own_trm HOc_10.out ht
          have p0 : w10.cell? ⟨gp, 0, none⟩ = some (.int .i64 t.f.t) := by
            rw [HOp_10.out.cellAt 0 (by omega)]
            simpa [nums] using HFIRST.out t ht
          have p1 : w10.cell? ⟨gp, m, none⟩ = some (.int .i64 (chainFig l).t) := by
            rw [HOp_10.out.cellAt m (by omega)]
            have h := HLAST.out
            rw [show l.length - 1 = m from by omega] at h
            simpa [nums] using h
          simp only [Nat.zero_mul, Nat.zero_add] at e0 e1 e2
          clear ht
          rw [hm]
          have hi1 : ((m + 1 : Nat) : Int) - 1 = m := by omega
          go_wp2_with fail
          go_quiet (fail)
          go_wp2
          go_ret
          exact ⟨rfl, (by repeat (with_reducible first | exact HW10.out | refine Later.alloc ?_ _ | refine Later.drew ?_ | refine Later.drewN ?_ _ | refine Later.setCell ?_ (by first | omega | (simp; omega)) _))⟩
        · skip
          have hpb : (codePartial l != 0) = true := by simpa using hp
          go_wp2
          go_ret
          exact ⟨rfl, (by repeat (with_reducible first | exact HW9.out | refine Later.alloc ?_ _ | refine Later.drew ?_ | refine Later.drewN ?_ _ | refine Later.setCell ?_ (by first | omega | (simp; omega)) _))⟩
    · skip
      have hdb : (codeDigits lx ⟨f.d, f.t⟩ u == 0) = false := by simpa using hd
      clear HOx_9
      by_cases hp : codePartial l = 0
      · skip
        obtain ⟨hch, hcf, hlen, hlast, hfirst⟩ := partial_ok hp
        have HLAST := Lib.hid hlast
        have HFIRST := Lib.hid hfirst
        have HCH := Lib.hid hch
        have HCF := Lib.hid hcf
        have hnp : np = l.length := by have := HPL.out; omega
        subst hnp
        clear hlast hfirst hch hcf hlen
        go_wp2_with fail
        refine (w_implChainFigure _ l _ (reads_of_owns (by repeat (with_reducible first | exact HOc_9.out | apply World.ownsRow.alloc | (apply owns_setNe; case hk => first | assumption | exact ne_own HOc_9.out (by first | omega | (simp; omega)) | exact ne_low HOc_9.out (by omega)) | (refine owns_later ?_ (Later.refl _).drew) | (refine owns_later ?_ ((Later.refl _).drewN _)))) (by omega))).mono ?_
        rintro e w10 ⟨rfl, hL⟩
        have HW10 : Hid (Later W w10) := Lib.hid (Later.trans (by repeat (with_reducible first | exact HW9.out | refine Later.alloc ?_ _ | refine Later.drew ?_ | refine Later.drewN ?_ _ | refine Later.setCell ?_ (by first | omega | (simp; omega)) _)) hL)
        have hz10 := HW10.out.size
        have HOc_10 := Lib.hid (owns_later (by repeat (with_reducible first | exact HOc_9.out | apply World.ownsRow.alloc | (apply owns_setNe; case hk => first | assumption | exact ne_own HOc_9.out (by first | omega | (simp; omega)) | exact ne_low HOc_9.out (by omega)) | (refine owns_later ?_ (Later.refl _).drew) | (refine owns_later ?_ ((Later.refl _).drewN _)))) hL)
        have HOp_10 := Lib.hid (owns_later (by repeat (with_reducible first | exact HOp_9.out | apply World.ownsRow.alloc | (apply owns_setNe; case hk => first | assumption | exact ne_own HOp_9.out (by first | omega | (simp; omega)) | exact ne_low HOp_9.out (by omega)) | (refine owns_later ?_ (Later.refl _).drew) | (refine owns_later ?_ ((Later.refl _).drewN _)))) hL)
        have HOq_10 := Lib.hid (owns_later (by repeat (with_reducible first | exact HOq_9.out | apply World.ownsRow.alloc | (apply owns_setNe; case hk => first | assumption | exact ne_own HOq_9.out (by first | omega | (simp; omega)) | exact ne_low HOq_9.out (by omega)) | (refine owns_later ?_ (Later.refl _).drew) | (refine owns_later ?_ ((Later.refl _).drewN _)))) hL)
        have HKA_10 := Lib.hid (hL.keep (k := w2.heap.size) (by repeat (with_reducible first | exact HKA_9.out | exact heap_alloc_new _ _ | apply heap_alloc_old | apply st_0_2 | apply st_1_2 | apply st_0_3 | apply st_1_3 | apply st_2_3 | apply st_0_4 | apply st_1_4 | apply st_2_4 | apply st_3_4 | (apply other_set; case hne => omega) | exact heap_alloc_new' _ _ (by first | rfl | (simp; done)))))
        have HKB_10 := Lib.hid (hL.keep (k := w3.heap.size) (by repeat (with_reducible first | exact HKB_9.out | exact heap_alloc_new _ _ | apply heap_alloc_old | apply st_0_2 | apply st_1_2 | apply st_0_3 | apply st_1_3 | apply st_2_3 | apply st_0_4 | apply st_1_4 | apply st_2_4 | apply st_3_4 | (apply other_set; case hne => omega) | exact heap_alloc_new' _ _ (by first | rfl | (simp; done)))))
        have HKF_10 := Lib.hid (hL.keep (k := w6.heap.size) (by repeat (with_reducible first | exact HKF_9.out | exact heap_alloc_new _ _ | apply heap_alloc_old | apply st_0_2 | apply st_1_2 | apply st_0_3 | apply st_1_3 | apply st_2_3 | apply st_0_4 | apply st_1_4 | apply st_2_4 | apply st_3_4 | (apply other_set; case hne => omega) | exact heap_alloc_new' _ _ (by first | rfl | (simp; done)))))
        clear hL cA fA cB fB cF fF
        obtain ⟨cA, fA, zA_10⟩ := blk_at HKA_10.out
        obtain ⟨cB, fB, zB_10⟩ := blk_at HKB_10.out
        obtain ⟨cF, fF, zF_10⟩ := blk_at HKF_10.out
        rw [HCF.out]
        obtain ⟨m, hm⟩ : ∃ m, l.length = m + 1 := ⟨l.length - 1, by have := (isChain_true HCH.out).1; omega⟩
        obtain ⟨t, ht⟩ := get_ex (l := l) (k := 0) (by omega)
        rcases own_shape HOc_10.out with ⟨hq, _, _⟩ | ⟨gc, _, hsc, _, hgc, _, _⟩
        · exact absurd hq (by simp; omega)
        cases hsc
        rcases own_shape HOp_10.out with ⟨hq, _, _⟩ | ⟨gp, _, hsp, _, hgp, _, _⟩
        · exact absurd hq (by simp; omega)
        cases hsp
        obtain ⟨e0, e1, e2⟩ := own_trm HOc_10.out ht
        have p0 : w10.cell? ⟨gp, 0, none⟩ = some (.int .i64 t.f.t) := by
          rw [HOp_10.out.cellAt 0 (by omega)]
          simpa [nums] using HFIRST.out t ht
        have p1 : w10.cell? ⟨gp, m, none⟩ = some (.int .i64 (chainFig l).t) := by
          rw [HOp_10.out.cellAt m (by omega)]
          have h := HLAST.out
          rw [show l.length - 1 = m from by omega] at h
          simpa [nums] using h
        simp only [Nat.zero_mul, Nat.zero_add] at e0 e1 e2
        clear ht
        rw [hm]
        have hi1 : ((m + 1 : Nat) : Int) - 1 = m := by omega
        go_wp2_with fail
        go_quiet (fail)
        go_wp2
        go_ret
        exact ⟨rfl, (by repeat (with_reducible first | exact HW10.out | refine Later.alloc ?_ _ | refine Later.drew ?_ | refine Later.drewN ?_ _ | refine Later.setCell ?_ (by first | omega | (simp; omega)) _))⟩
      · skip
        have hpb : (codePartial l != 0) = true := by simpa using hp
        go_wp2
        go_ret
        exact ⟨rfl, (by repeat (with_reducible first | exact HW9.out | refine Later.alloc ?_ _ | refine Later.drew ?_ | refine Later.drewN ?_ _ | refine Later.setCell ?_ (by first | omega | (simp; omega)) _))⟩
  · skip
    have hrb : (roughC l == 0) = false := by simpa using hr
    by_cases hd : codeDigits lx ⟨f.d, f.t⟩ u = 0
    · skip
      by_cases hu : u < 1048576
      · skip
        obtain ⟨hd1, hd2⟩ := digits_more hd hu
        have HD1 := Lib.hid hd1
        clear hd1
        have hub := digits_u hd
        by_cases hk : checkDigits lx ⟨f.d, f.t⟩ u = true
        · skip
          have HK2 := Lib.hid (hd2 hk)
          clear hd2
          go_wp2_with fail
          refine (w_implCheckDigits _ lx f.d f.t (u + 1) _ (reads_of_owns (by repeat (with_reducible first | exact HOx_9.out | apply World.ownsRow.alloc | (apply owns_setNe; case hk => first | assumption | exact ne_own HOx_9.out (by first | omega | (simp; omega)) | exact ne_low HOx_9.out (by omega)) | (refine owns_later ?_ (Later.refl _).drew) | (refine owns_later ?_ ((Later.refl _).drewN _)))) (by omega))).mono ?_
          rintro e w10 ⟨rfl, hL⟩
          have HW10 : Hid (Later W w10) := Lib.hid (Later.trans (by repeat (with_reducible first | exact HW9.out | refine Later.alloc ?_ _ | refine Later.drew ?_ | refine Later.drewN ?_ _ | refine Later.setCell ?_ (by first | omega | (simp; omega)) _)) hL)
          have hz10 := HW10.out.size
          have HOc_10 := Lib.hid (owns_later (by repeat (with_reducible first | exact HOc_9.out | apply World.ownsRow.alloc | (apply owns_setNe; case hk => first | assumption | exact ne_own HOc_9.out (by first | omega | (simp; omega)) | exact ne_low HOc_9.out (by omega)) | (refine owns_later ?_ (Later.refl _).drew) | (refine owns_later ?_ ((Later.refl _).drewN _)))) hL)
          have HOp_10 := Lib.hid (owns_later (by repeat (with_reducible first | exact HOp_9.out | apply World.ownsRow.alloc | (apply owns_setNe; case hk => first | assumption | exact ne_own HOp_9.out (by first | omega | (simp; omega)) | exact ne_low HOp_9.out (by omega)) | (refine owns_later ?_ (Later.refl _).drew) | (refine owns_later ?_ ((Later.refl _).drewN _)))) hL)
          have HOq_10 := Lib.hid (owns_later (by repeat (with_reducible first | exact HOq_9.out | apply World.ownsRow.alloc | (apply owns_setNe; case hk => first | assumption | exact ne_own HOq_9.out (by first | omega | (simp; omega)) | exact ne_low HOq_9.out (by omega)) | (refine owns_later ?_ (Later.refl _).drew) | (refine owns_later ?_ ((Later.refl _).drewN _)))) hL)
          have HOx_10 := Lib.hid (owns_later (by repeat (with_reducible first | exact HOx_9.out | apply World.ownsRow.alloc | (apply owns_setNe; case hk => first | assumption | exact ne_own HOx_9.out (by first | omega | (simp; omega)) | exact ne_low HOx_9.out (by omega)) | (refine owns_later ?_ (Later.refl _).drew) | (refine owns_later ?_ ((Later.refl _).drewN _)))) hL)
          have HKA_10 := Lib.hid (hL.keep (k := w2.heap.size) (by repeat (with_reducible first | exact HKA_9.out | exact heap_alloc_new _ _ | apply heap_alloc_old | apply st_0_2 | apply st_1_2 | apply st_0_3 | apply st_1_3 | apply st_2_3 | apply st_0_4 | apply st_1_4 | apply st_2_4 | apply st_3_4 | (apply other_set; case hne => omega) | exact heap_alloc_new' _ _ (by first | rfl | (simp; done)))))
          have HKB_10 := Lib.hid (hL.keep (k := w3.heap.size) (by repeat (with_reducible first | exact HKB_9.out | exact heap_alloc_new _ _ | apply heap_alloc_old | apply st_0_2 | apply st_1_2 | apply st_0_3 | apply st_1_3 | apply st_2_3 | apply st_0_4 | apply st_1_4 | apply st_2_4 | apply st_3_4 | (apply other_set; case hne => omega) | exact heap_alloc_new' _ _ (by first | rfl | (simp; done)))))
          have HKF_10 := Lib.hid (hL.keep (k := w6.heap.size) (by repeat (with_reducible first | exact HKF_9.out | exact heap_alloc_new _ _ | apply heap_alloc_old | apply st_0_2 | apply st_1_2 | apply st_0_3 | apply st_1_3 | apply st_2_3 | apply st_0_4 | apply st_1_4 | apply st_2_4 | apply st_3_4 | (apply other_set; case hne => omega) | exact heap_alloc_new' _ _ (by first | rfl | (simp; done)))))
          clear hL cA fA cB fB cF fF
          obtain ⟨cA, fA, zA_10⟩ := blk_at HKA_10.out
          obtain ⟨cB, fB, zB_10⟩ := blk_at HKB_10.out
          obtain ⟨cF, fF, zF_10⟩ := blk_at HKF_10.out
          rw [HD1.out, HK2.out]
          clear HOx_10
          by_cases hp : codePartial l = 0
          · skip
            obtain ⟨hch, hcf, hlen, hlast, hfirst⟩ := partial_ok hp
            have HLAST := Lib.hid hlast
            have HFIRST := Lib.hid hfirst
            have HCH := Lib.hid hch
            have HCF := Lib.hid hcf
            have hnp : np = l.length := by have := HPL.out; omega
            subst hnp
            clear hlast hfirst hch hcf hlen
            go_wp2_with fail
            refine (w_implChainFigure _ l _ (reads_of_owns (by repeat (with_reducible first | exact HOc_10.out | apply World.ownsRow.alloc | (apply owns_setNe; case hk => first | assumption | exact ne_own HOc_10.out (by first | omega | (simp; omega)) | exact ne_low HOc_10.out (by omega)) | (refine owns_later ?_ (Later.refl _).drew) | (refine owns_later ?_ ((Later.refl _).drewN _)))) (by omega))).mono ?_
            rintro e w11 ⟨rfl, hL⟩
            have HW11 : Hid (Later W w11) := Lib.hid (Later.trans (by repeat (with_reducible first | exact HW10.out | refine Later.alloc ?_ _ | refine Later.drew ?_ | refine Later.drewN ?_ _ | refine Later.setCell ?_ (by first | omega | (simp; omega)) _)) hL)
            have hz11 := HW11.out.size
            have HOc_11 := Lib.hid (owns_later (by repeat (with_reducible first | exact HOc_10.out | apply World.ownsRow.alloc | (apply owns_setNe; case hk => first | assumption | exact ne_own HOc_10.out (by first | omega | (simp; omega)) | exact ne_low HOc_10.out (by omega)) | (refine owns_later ?_ (Later.refl _).drew) | (refine owns_later ?_ ((Later.refl _).drewN _)))) hL)
            have HOp_11 := Lib.hid (owns_later (by repeat (with_reducible first | exact HOp_10.out | apply World.ownsRow.alloc | (apply owns_setNe; case hk => first | assumption | exact ne_own HOp_10.out (by first | omega | (simp; omega)) | exact ne_low HOp_10.out (by omega)) | (refine owns_later ?_ (Later.refl _).drew) | (refine owns_later ?_ ((Later.refl _).drewN _)))) hL)
            have HOq_11 := Lib.hid (owns_later (by repeat (with_reducible first | exact HOq_10.out | apply World.ownsRow.alloc | (apply owns_setNe; case hk => first | assumption | exact ne_own HOq_10.out (by first | omega | (simp; omega)) | exact ne_low HOq_10.out (by omega)) | (refine owns_later ?_ (Later.refl _).drew) | (refine owns_later ?_ ((Later.refl _).drewN _)))) hL)
            have HKA_11 := Lib.hid (hL.keep (k := w2.heap.size) (by repeat (with_reducible first | exact HKA_10.out | exact heap_alloc_new _ _ | apply heap_alloc_old | apply st_0_2 | apply st_1_2 | apply st_0_3 | apply st_1_3 | apply st_2_3 | apply st_0_4 | apply st_1_4 | apply st_2_4 | apply st_3_4 | (apply other_set; case hne => omega) | exact heap_alloc_new' _ _ (by first | rfl | (simp; done)))))
            have HKB_11 := Lib.hid (hL.keep (k := w3.heap.size) (by repeat (with_reducible first | exact HKB_10.out | exact heap_alloc_new _ _ | apply heap_alloc_old | apply st_0_2 | apply st_1_2 | apply st_0_3 | apply st_1_3 | apply st_2_3 | apply st_0_4 | apply st_1_4 | apply st_2_4 | apply st_3_4 | (apply other_set; case hne => omega) | exact heap_alloc_new' _ _ (by first | rfl | (simp; done)))))
            have HKF_11 := Lib.hid (hL.keep (k := w6.heap.size) (by repeat (with_reducible first | exact HKF_10.out | exact heap_alloc_new _ _ | apply heap_alloc_old | apply st_0_2 | apply st_1_2 | apply st_0_3 | apply st_1_3 | apply st_2_3 | apply st_0_4 | apply st_1_4 | apply st_2_4 | apply st_3_4 | (apply other_set; case hne => omega) | exact heap_alloc_new' _ _ (by first | rfl | (simp; done)))))
            clear hL cA fA cB fB cF fF
            obtain ⟨cA, fA, zA_11⟩ := blk_at HKA_11.out
            obtain ⟨cB, fB, zB_11⟩ := blk_at HKB_11.out
            obtain ⟨cF, fF, zF_11⟩ := blk_at HKF_11.out
            rw [HCF.out]
            obtain ⟨m, hm⟩ : ∃ m, l.length = m + 1 := ⟨l.length - 1, by have := (isChain_true HCH.out).1; omega⟩
            obtain ⟨t, ht⟩ := get_ex (l := l) (k := 0) (by omega)
            rcases own_shape HOc_11.out with ⟨hq, _, _⟩ | ⟨gc, _, hsc, _, hgc, _, _⟩
            · exact absurd hq (by simp; omega)
            cases hsc
            rcases own_shape HOp_11.out with ⟨hq, _, _⟩ | ⟨gp, _, hsp, _, hgp, _, _⟩
            · exact absurd hq (by simp; omega)
            cases hsp
            obtain ⟨e0, e1, e2⟩ := own_trm HOc_11.out ht
            have p0 : w11.cell? ⟨gp, 0, none⟩ = some (.int .i64 t.f.t) := by
              rw [HOp_11.out.cellAt 0 (by omega)]
              simpa [nums] using HFIRST.out t ht
            have p1 : w11.cell? ⟨gp, m, none⟩ = some (.int .i64 (chainFig l).t) := by
              rw [HOp_11.out.cellAt m (by omega)]
              have h := HLAST.out
              rw [show l.length - 1 = m from by omega] at h
              simpa [nums] using h
            simp only [Nat.zero_mul, Nat.zero_add] at e0 e1 e2
            clear ht
            rw [hm]
            have hi1 : ((m + 1 : Nat) : Int) - 1 = m := by omega
            go_wp2_with fail
            go_quiet (fail)
            go_wp2
            go_ret
            exact ⟨rfl, (by repeat (with_reducible first | exact HW11.out | refine Later.alloc ?_ _ | refine Later.drew ?_ | refine Later.drewN ?_ _ | refine Later.setCell ?_ (by first | omega | (simp; omega)) _))⟩
          · skip
            have hpb : (codePartial l != 0) = true := by simpa using hp
            go_wp2
            go_ret
            exact ⟨rfl, (by repeat (with_reducible first | exact HW10.out | refine Later.alloc ?_ _ | refine Later.drew ?_ | refine Later.drewN ?_ _ | refine Later.setCell ?_ (by first | omega | (simp; omega)) _))⟩
        · skip
          clear hd2
          have hkb : checkDigits lx ⟨f.d, f.t⟩ u = false := by simpa using hk
          go_wp2_with fail
          refine (w_implCheckDigits _ lx f.d f.t (u + 1) _ (reads_of_owns (by repeat (with_reducible first | exact HOx_9.out | apply World.ownsRow.alloc | (apply owns_setNe; case hk => first | assumption | exact ne_own HOx_9.out (by first | omega | (simp; omega)) | exact ne_low HOx_9.out (by omega)) | (refine owns_later ?_ (Later.refl _).drew) | (refine owns_later ?_ ((Later.refl _).drewN _)))) (by omega))).mono ?_
          rintro e w10 ⟨rfl, hL⟩
          have HW10 : Hid (Later W w10) := Lib.hid (Later.trans (by repeat (with_reducible first | exact HW9.out | refine Later.alloc ?_ _ | refine Later.drew ?_ | refine Later.drewN ?_ _ | refine Later.setCell ?_ (by first | omega | (simp; omega)) _)) hL)
          have hz10 := HW10.out.size
          have HOc_10 := Lib.hid (owns_later (by repeat (with_reducible first | exact HOc_9.out | apply World.ownsRow.alloc | (apply owns_setNe; case hk => first | assumption | exact ne_own HOc_9.out (by first | omega | (simp; omega)) | exact ne_low HOc_9.out (by omega)) | (refine owns_later ?_ (Later.refl _).drew) | (refine owns_later ?_ ((Later.refl _).drewN _)))) hL)
          have HOp_10 := Lib.hid (owns_later (by repeat (with_reducible first | exact HOp_9.out | apply World.ownsRow.alloc | (apply owns_setNe; case hk => first | assumption | exact ne_own HOp_9.out (by first | omega | (simp; omega)) | exact ne_low HOp_9.out (by omega)) | (refine owns_later ?_ (Later.refl _).drew) | (refine owns_later ?_ ((Later.refl _).drewN _)))) hL)
          have HOq_10 := Lib.hid (owns_later (by repeat (with_reducible first | exact HOq_9.out | apply World.ownsRow.alloc | (apply owns_setNe; case hk => first | assumption | exact ne_own HOq_9.out (by first | omega | (simp; omega)) | exact ne_low HOq_9.out (by omega)) | (refine owns_later ?_ (Later.refl _).drew) | (refine owns_later ?_ ((Later.refl _).drewN _)))) hL)
          have HOx_10 := Lib.hid (owns_later (by repeat (with_reducible first | exact HOx_9.out | apply World.ownsRow.alloc | (apply owns_setNe; case hk => first | assumption | exact ne_own HOx_9.out (by first | omega | (simp; omega)) | exact ne_low HOx_9.out (by omega)) | (refine owns_later ?_ (Later.refl _).drew) | (refine owns_later ?_ ((Later.refl _).drewN _)))) hL)
          have HKA_10 := Lib.hid (hL.keep (k := w2.heap.size) (by repeat (with_reducible first | exact HKA_9.out | exact heap_alloc_new _ _ | apply heap_alloc_old | apply st_0_2 | apply st_1_2 | apply st_0_3 | apply st_1_3 | apply st_2_3 | apply st_0_4 | apply st_1_4 | apply st_2_4 | apply st_3_4 | (apply other_set; case hne => omega) | exact heap_alloc_new' _ _ (by first | rfl | (simp; done)))))
          have HKB_10 := Lib.hid (hL.keep (k := w3.heap.size) (by repeat (with_reducible first | exact HKB_9.out | exact heap_alloc_new _ _ | apply heap_alloc_old | apply st_0_2 | apply st_1_2 | apply st_0_3 | apply st_1_3 | apply st_2_3 | apply st_0_4 | apply st_1_4 | apply st_2_4 | apply st_3_4 | (apply other_set; case hne => omega) | exact heap_alloc_new' _ _ (by first | rfl | (simp; done)))))
          have HKF_10 := Lib.hid (hL.keep (k := w6.heap.size) (by repeat (with_reducible first | exact HKF_9.out | exact heap_alloc_new _ _ | apply heap_alloc_old | apply st_0_2 | apply st_1_2 | apply st_0_3 | apply st_1_3 | apply st_2_3 | apply st_0_4 | apply st_1_4 | apply st_2_4 | apply st_3_4 | (apply other_set; case hne => omega) | exact heap_alloc_new' _ _ (by first | rfl | (simp; done)))))
          clear hL cA fA cB fB cF fF
          obtain ⟨cA, fA, zA_10⟩ := blk_at HKA_10.out
          obtain ⟨cB, fB, zB_10⟩ := blk_at HKB_10.out
          obtain ⟨cF, fF, zF_10⟩ := blk_at HKF_10.out
          rw [HD1.out]
          clear HOx_10
          by_cases hp : codePartial l = 0
          · skip
            obtain ⟨hch, hcf, hlen, hlast, hfirst⟩ := partial_ok hp
            have HLAST := Lib.hid hlast
            have HFIRST := Lib.hid hfirst
            have HCH := Lib.hid hch
            have HCF := Lib.hid hcf
            have hnp : np = l.length := by have := HPL.out; omega
            subst hnp
            clear hlast hfirst hch hcf hlen
            go_wp2_with fail
            refine (w_implChainFigure _ l _ (reads_of_owns (by repeat (with_reducible first | exact HOc_10.out | apply World.ownsRow.alloc | (apply owns_setNe; case hk => first | assumption | exact ne_own HOc_10.out (by first | omega | (simp; omega)) | exact ne_low HOc_10.out (by omega)) | (refine owns_later ?_ (Later.refl _).drew) | (refine owns_later ?_ ((Later.refl _).drewN _)))) (by omega))).mono ?_
            rintro e w11 ⟨rfl, hL⟩
            have HW11 : Hid (Later W w11) := Lib.hid (Later.trans (by repeat (with_reducible first | exact HW10.out | refine Later.alloc ?_ _ | refine Later.drew ?_ | refine Later.drewN ?_ _ | refine Later.setCell ?_ (by first | omega | (simp; omega)) _)) hL)
            have hz11 := HW11.out.size
            have HOc_11 := Lib.hid (owns_later (by repeat (with_reducible first | exact HOc_10.out | apply World.ownsRow.alloc | (apply owns_setNe; case hk => first | assumption | exact ne_own HOc_10.out (by first | omega | (simp; omega)) | exact ne_low HOc_10.out (by omega)) | (refine owns_later ?_ (Later.refl _).drew) | (refine owns_later ?_ ((Later.refl _).drewN _)))) hL)
            have HOp_11 := Lib.hid (owns_later (by repeat (with_reducible first | exact HOp_10.out | apply World.ownsRow.alloc | (apply owns_setNe; case hk => first | assumption | exact ne_own HOp_10.out (by first | omega | (simp; omega)) | exact ne_low HOp_10.out (by omega)) | (refine owns_later ?_ (Later.refl _).drew) | (refine owns_later ?_ ((Later.refl _).drewN _)))) hL)
            have HOq_11 := Lib.hid (owns_later (by repeat (with_reducible first | exact HOq_10.out | apply World.ownsRow.alloc | (apply owns_setNe; case hk => first | assumption | exact ne_own HOq_10.out (by first | omega | (simp; omega)) | exact ne_low HOq_10.out (by omega)) | (refine owns_later ?_ (Later.refl _).drew) | (refine owns_later ?_ ((Later.refl _).drewN _)))) hL)
            have HKA_11 := Lib.hid (hL.keep (k := w2.heap.size) (by repeat (with_reducible first | exact HKA_10.out | exact heap_alloc_new _ _ | apply heap_alloc_old | apply st_0_2 | apply st_1_2 | apply st_0_3 | apply st_1_3 | apply st_2_3 | apply st_0_4 | apply st_1_4 | apply st_2_4 | apply st_3_4 | (apply other_set; case hne => omega) | exact heap_alloc_new' _ _ (by first | rfl | (simp; done)))))
            have HKB_11 := Lib.hid (hL.keep (k := w3.heap.size) (by repeat (with_reducible first | exact HKB_10.out | exact heap_alloc_new _ _ | apply heap_alloc_old | apply st_0_2 | apply st_1_2 | apply st_0_3 | apply st_1_3 | apply st_2_3 | apply st_0_4 | apply st_1_4 | apply st_2_4 | apply st_3_4 | (apply other_set; case hne => omega) | exact heap_alloc_new' _ _ (by first | rfl | (simp; done)))))
            have HKF_11 := Lib.hid (hL.keep (k := w6.heap.size) (by repeat (with_reducible first | exact HKF_10.out | exact heap_alloc_new _ _ | apply heap_alloc_old | apply st_0_2 | apply st_1_2 | apply st_0_3 | apply st_1_3 | apply st_2_3 | apply st_0_4 | apply st_1_4 | apply st_2_4 | apply st_3_4 | (apply other_set; case hne => omega) | exact heap_alloc_new' _ _ (by first | rfl | (simp; done)))))
            clear hL cA fA cB fB cF fF
            obtain ⟨cA, fA, zA_11⟩ := blk_at HKA_11.out
            obtain ⟨cB, fB, zB_11⟩ := blk_at HKB_11.out
            obtain ⟨cF, fF, zF_11⟩ := blk_at HKF_11.out
            rw [HCF.out]
            obtain ⟨m, hm⟩ : ∃ m, l.length = m + 1 := ⟨l.length - 1, by have := (isChain_true HCH.out).1; omega⟩
            obtain ⟨t, ht⟩ := get_ex (l := l) (k := 0) (by omega)
            rcases own_shape HOc_11.out with ⟨hq, _, _⟩ | ⟨gc, _, hsc, _, hgc, _, _⟩
            · exact absurd hq (by simp; omega)
            cases hsc
            rcases own_shape HOp_11.out with ⟨hq, _, _⟩ | ⟨gp, _, hsp, _, hgp, _, _⟩
            · exact absurd hq (by simp; omega)
            cases hsp
            obtain ⟨e0, e1, e2⟩ := own_trm HOc_11.out ht
            have p0 : w11.cell? ⟨gp, 0, none⟩ = some (.int .i64 t.f.t) := by
              rw [HOp_11.out.cellAt 0 (by omega)]
              simpa [nums] using HFIRST.out t ht
            have p1 : w11.cell? ⟨gp, m, none⟩ = some (.int .i64 (chainFig l).t) := by
              rw [HOp_11.out.cellAt m (by omega)]
              have h := HLAST.out
              rw [show l.length - 1 = m from by omega] at h
              simpa [nums] using h
            simp only [Nat.zero_mul, Nat.zero_add] at e0 e1 e2
            clear ht
            rw [hm]
            have hi1 : ((m + 1 : Nat) : Int) - 1 = m := by omega
            go_wp2_with fail
            go_quiet (fail)
            go_wp2
            go_ret
            exact ⟨rfl, (by repeat (with_reducible first | exact HW11.out | refine Later.alloc ?_ _ | refine Later.drew ?_ | refine Later.drewN ?_ _ | refine Later.setCell ?_ (by first | omega | (simp; omega)) _))⟩
          · skip
            have hpb : (codePartial l != 0) = true := by simpa using hp
            go_wp2
            go_ret
            exact ⟨rfl, (by repeat (with_reducible first | exact HW10.out | refine Later.alloc ?_ _ | refine Later.drew ?_ | refine Later.drewN ?_ _ | refine Later.setCell ?_ (by first | omega | (simp; omega)) _))⟩
      · skip
        clear HOx_9
        by_cases hp : codePartial l = 0
        · skip
          obtain ⟨hch, hcf, hlen, hlast, hfirst⟩ := partial_ok hp
          have HLAST := Lib.hid hlast
          have HFIRST := Lib.hid hfirst
          have HCH := Lib.hid hch
          have HCF := Lib.hid hcf
          have hnp : np = l.length := by have := HPL.out; omega
          subst hnp
          clear hlast hfirst hch hcf hlen
          go_wp2_with fail
          refine (w_implChainFigure _ l _ (reads_of_owns (by repeat (with_reducible first | exact HOc_9.out | apply World.ownsRow.alloc | (apply owns_setNe; case hk => first | assumption | exact ne_own HOc_9.out (by first | omega | (simp; omega)) | exact ne_low HOc_9.out (by omega)) | (refine owns_later ?_ (Later.refl _).drew) | (refine owns_later ?_ ((Later.refl _).drewN _)))) (by omega))).mono ?_
          rintro e w10 ⟨rfl, hL⟩
          have HW10 : Hid (Later W w10) := Lib.hid (Later.trans (by repeat (with_reducible first | exact HW9.out | refine Later.alloc ?_ _ | refine Later.drew ?_ | refine Later.drewN ?_ _ | refine Later.setCell ?_ (by first | omega | (simp; omega)) _)) hL)
          have hz10 := HW10.out.size
          have HOc_10 := Lib.hid (owns_later (by repeat (with_reducible first | exact HOc_9.out | apply World.ownsRow.alloc | (apply owns_setNe; case hk => first | assumption | exact ne_own HOc_9.out (by first | omega | (simp; omega)) | exact ne_low HOc_9.out (by omega)) | (refine owns_later ?_ (Later.refl _).drew) | (refine owns_later ?_ ((Later.refl _).drewN _)))) hL)
          have HOp_10 := Lib.hid (owns_later (by repeat (with_reducible first | exact HOp_9.out | apply World.ownsRow.alloc | (apply owns_setNe; case hk => first | assumption | exact ne_own HOp_9.out (by first | omega | (simp; omega)) | exact ne_low HOp_9.out (by omega)) | (refine owns_later ?_ (Later.refl _).drew) | (refine owns_later ?_ ((Later.refl _).drewN _)))) hL)
          have HOq_10 := Lib.hid (owns_later (by repeat (with_reducible first | exact HOq_9.out | apply World.ownsRow.alloc | (apply owns_setNe; case hk => first | assumption | exact ne_own HOq_9.out (by first | omega | (simp; omega)) | exact ne_low HOq_9.out (by omega)) | (refine owns_later ?_ (Later.refl _).drew) | (refine owns_later ?_ ((Later.refl _).drewN _)))) hL)
          have HKA_10 := Lib.hid (hL.keep (k := w2.heap.size) (by repeat (with_reducible first | exact HKA_9.out | exact heap_alloc_new _ _ | apply heap_alloc_old | apply st_0_2 | apply st_1_2 | apply st_0_3 | apply st_1_3 | apply st_2_3 | apply st_0_4 | apply st_1_4 | apply st_2_4 | apply st_3_4 | (apply other_set; case hne => omega) | exact heap_alloc_new' _ _ (by first | rfl | (simp; done)))))
          have HKB_10 := Lib.hid (hL.keep (k := w3.heap.size) (by repeat (with_reducible first | exact HKB_9.out | exact heap_alloc_new _ _ | apply heap_alloc_old | apply st_0_2 | apply st_1_2 | apply st_0_3 | apply st_1_3 | apply st_2_3 | apply st_0_4 | apply st_1_4 | apply st_2_4 | apply st_3_4 | (apply other_set; case hne => omega) | exact heap_alloc_new' _ _ (by first | rfl | (simp; done)))))
          have HKF_10 := Lib.hid (hL.keep (k := w6.heap.size) (by repeat (with_reducible first | exact HKF_9.out | exact heap_alloc_new _ _ | apply heap_alloc_old | apply st_0_2 | apply st_1_2 | apply st_0_3 | apply st_1_3 | apply st_2_3 | apply st_0_4 | apply st_1_4 | apply st_2_4 | apply st_3_4 | (apply other_set; case hne => omega) | exact heap_alloc_new' _ _ (by first | rfl | (simp; done)))))
          clear hL cA fA cB fB cF fF
          obtain ⟨cA, fA, zA_10⟩ := blk_at HKA_10.out
          obtain ⟨cB, fB, zB_10⟩ := blk_at HKB_10.out
          obtain ⟨cF, fF, zF_10⟩ := blk_at HKF_10.out
          rw [HCF.out]
          obtain ⟨m, hm⟩ : ∃ m, l.length = m + 1 := ⟨l.length - 1, by have := (isChain_true HCH.out).1; omega⟩
          obtain ⟨t, ht⟩ := get_ex (l := l) (k := 0) (by omega)
          rcases own_shape HOc_10.out with ⟨hq, _, _⟩ | ⟨gc, _, hsc, _, hgc, _, _⟩
          · exact absurd hq (by simp; omega)
          cases hsc
          rcases own_shape HOp_10.out with ⟨hq, _, _⟩ | ⟨gp, _, hsp, _, hgp, _, _⟩
          · exact absurd hq (by simp; omega)
          cases hsp
          obtain ⟨e0, e1, e2⟩ := own_trm HOc_10.out ht
          have p0 : w10.cell? ⟨gp, 0, none⟩ = some (.int .i64 t.f.t) := by
            rw [HOp_10.out.cellAt 0 (by omega)]
            simpa [nums] using HFIRST.out t ht
          have p1 : w10.cell? ⟨gp, m, none⟩ = some (.int .i64 (chainFig l).t) := by
            rw [HOp_10.out.cellAt m (by omega)]
            have h := HLAST.out
            rw [show l.length - 1 = m from by omega] at h
            simpa [nums] using h
          simp only [Nat.zero_mul, Nat.zero_add] at e0 e1 e2
          clear ht
          rw [hm]
          have hi1 : ((m + 1 : Nat) : Int) - 1 = m := by omega
          go_wp2_with fail
          go_quiet (fail)
          go_wp2
          go_ret
          exact ⟨rfl, (by repeat (with_reducible first | exact HW10.out | refine Later.alloc ?_ _ | refine Later.drew ?_ | refine Later.drewN ?_ _ | refine Later.setCell ?_ (by first | omega | (simp; omega)) _))⟩
        · skip
          have hpb : (codePartial l != 0) = true := by simpa using hp
          go_wp2
          go_ret
          exact ⟨rfl, (by repeat (with_reducible first | exact HW9.out | refine Later.alloc ?_ _ | refine Later.drew ?_ | refine Later.drewN ?_ _ | refine Later.setCell ?_ (by first | omega | (simp; omega)) _))⟩
    · skip
      have hdb : (codeDigits lx ⟨f.d, f.t⟩ u == 0) = false := by simpa using hd
      clear HOx_9
      by_cases hp : codePartial l = 0
      · skip
        obtain ⟨hch, hcf, hlen, hlast, hfirst⟩ := partial_ok hp
        have HLAST := Lib.hid hlast
        have HFIRST := Lib.hid hfirst
        have HCH := Lib.hid hch
        have HCF := Lib.hid hcf
        have hnp : np = l.length := by have := HPL.out; omega
        subst hnp
        clear hlast hfirst hch hcf hlen
        go_wp2_with fail
        refine (w_implChainFigure _ l _ (reads_of_owns (by repeat (with_reducible first | exact HOc_9.out | apply World.ownsRow.alloc | (apply owns_setNe; case hk => first | assumption | exact ne_own HOc_9.out (by first | omega | (simp; omega)) | exact ne_low HOc_9.out (by omega)) | (refine owns_later ?_ (Later.refl _).drew) | (refine owns_later ?_ ((Later.refl _).drewN _)))) (by omega))).mono ?_
        rintro e w10 ⟨rfl, hL⟩
        have HW10 : Hid (Later W w10) := Lib.hid (Later.trans (by repeat (with_reducible first | exact HW9.out | refine Later.alloc ?_ _ | refine Later.drew ?_ | refine Later.drewN ?_ _ | refine Later.setCell ?_ (by first | omega | (simp; omega)) _)) hL)
        have hz10 := HW10.out.size
        have HOc_10 := Lib.hid (owns_later (by repeat (with_reducible first | exact HOc_9.out | apply World.ownsRow.alloc | (apply owns_setNe; case hk => first | assumption | exact ne_own HOc_9.out (by first | omega | (simp; omega)) | exact ne_low HOc_9.out (by omega)) | (refine owns_later ?_ (Later.refl _).drew) | (refine owns_later ?_ ((Later.refl _).drewN _)))) hL)
        have HOp_10 := Lib.hid (owns_later (by repeat (with_reducible first | exact HOp_9.out | apply World.ownsRow.alloc | (apply owns_setNe; case hk => first | assumption | exact ne_own HOp_9.out (by first | omega | (simp; omega)) | exact ne_low HOp_9.out (by omega)) | (refine owns_later ?_ (Later.refl _).drew) | (refine owns_later ?_ ((Later.refl _).drewN _)))) hL)
        have HOq_10 := Lib.hid (owns_later (by repeat (with_reducible first | exact HOq_9.out | apply World.ownsRow.alloc | (apply owns_setNe; case hk => first | assumption | exact ne_own HOq_9.out (by first | omega | (simp; omega)) | exact ne_low HOq_9.out (by omega)) | (refine owns_later ?_ (Later.refl _).drew) | (refine owns_later ?_ ((Later.refl _).drewN _)))) hL)
        have HKA_10 := Lib.hid (hL.keep (k := w2.heap.size) (by repeat (with_reducible first | exact HKA_9.out | exact heap_alloc_new _ _ | apply heap_alloc_old | apply st_0_2 | apply st_1_2 | apply st_0_3 | apply st_1_3 | apply st_2_3 | apply st_0_4 | apply st_1_4 | apply st_2_4 | apply st_3_4 | (apply other_set; case hne => omega) | exact heap_alloc_new' _ _ (by first | rfl | (simp; done)))))
        have HKB_10 := Lib.hid (hL.keep (k := w3.heap.size) (by repeat (with_reducible first | exact HKB_9.out | exact heap_alloc_new _ _ | apply heap_alloc_old | apply st_0_2 | apply st_1_2 | apply st_0_3 | apply st_1_3 | apply st_2_3 | apply st_0_4 | apply st_1_4 | apply st_2_4 | apply st_3_4 | (apply other_set; case hne => omega) | exact heap_alloc_new' _ _ (by first | rfl | (simp; done)))))
        have HKF_10 := Lib.hid (hL.keep (k := w6.heap.size) (by repeat (with_reducible first | exact HKF_9.out | exact heap_alloc_new _ _ | apply heap_alloc_old | apply st_0_2 | apply st_1_2 | apply st_0_3 | apply st_1_3 | apply st_2_3 | apply st_0_4 | apply st_1_4 | apply st_2_4 | apply st_3_4 | (apply other_set; case hne => omega) | exact heap_alloc_new' _ _ (by first | rfl | (simp; done)))))
        clear hL cA fA cB fB cF fF
        obtain ⟨cA, fA, zA_10⟩ := blk_at HKA_10.out
        obtain ⟨cB, fB, zB_10⟩ := blk_at HKB_10.out
        obtain ⟨cF, fF, zF_10⟩ := blk_at HKF_10.out
        rw [HCF.out]
        obtain ⟨m, hm⟩ : ∃ m, l.length = m + 1 := ⟨l.length - 1, by have := (isChain_true HCH.out).1; omega⟩
        obtain ⟨t, ht⟩ := get_ex (l := l) (k := 0) (by omega)
        rcases own_shape HOc_10.out with ⟨hq, _, _⟩ | ⟨gc, _, hsc, _, hgc, _, _⟩
        · exact absurd hq (by simp; omega)
        cases hsc
        rcases own_shape HOp_10.out with ⟨hq, _, _⟩ | ⟨gp, _, hsp, _, hgp, _, _⟩
        · exact absurd hq (by simp; omega)
        cases hsp
        obtain ⟨e0, e1, e2⟩ := own_trm HOc_10.out ht
        have p0 : w10.cell? ⟨gp, 0, none⟩ = some (.int .i64 t.f.t) := by
          rw [HOp_10.out.cellAt 0 (by omega)]
          simpa [nums] using HFIRST.out t ht
        have p1 : w10.cell? ⟨gp, m, none⟩ = some (.int .i64 (chainFig l).t) := by
          rw [HOp_10.out.cellAt m (by omega)]
          have h := HLAST.out
          rw [show l.length - 1 = m from by omega] at h
          simpa [nums] using h
        simp only [Nat.zero_mul, Nat.zero_add] at e0 e1 e2
        clear ht
        rw [hm]
        have hi1 : ((m + 1 : Nat) : Int) - 1 = m := by omega
        go_wp2_with fail
        go_quiet (fail)
        go_wp2
        go_ret
        exact ⟨rfl, (by repeat (with_reducible first | exact HW10.out | refine Later.alloc ?_ _ | refine Later.drew ?_ | refine Later.drewN ?_ _ | refine Later.setCell ?_ (by first | omega | (simp; omega)) _))⟩
      · skip
        have hpb : (codePartial l != 0) = true := by simpa using hp
        go_wp2
        go_ret
        exact ⟨rfl, (by repeat (with_reducible first | exact HW9.out | refine Later.alloc ?_ _ | refine Later.drew ?_ | refine Later.drewN ?_ _ | refine Later.setCell ?_ (by first | omega | (simp; omega)) _))⟩

theorem lifted (os : Os) (started : os.Started) (H : Type) (enc : TypeId × Value → H) :
    ReturnsInHanded {} Try.checked os 5 .any (Rows.fnRoughSpec.pre6 enc Try.prog Try.f5 Rows.fnRoughRow.domain false) (Rows.fnRoughSpec.post enc Try.prog Try.f5 false true false false) := by
  refine returnsInHanded_of_change (C := Try.checked) o_own started (by kernel_rfl) Try.func5
    (ChangeSpec.witness6 (enc := enc) (C := Try.checked) false ⟨#[], #[.slice none 0 0], []⟩ 8 (by kernel_rfl) (by kernel_rfl) (by kernel_rfl) (by kernel_rfl)) ?_
  intro W base args ds gs before hval0 hW hcnd _
  have hval : ∀ (j : Nat) t v, Try.f5.params[j]? = some t → args[j]? = some v → Value.okWide Try.prog W .any base t v := hval0
  have hW' := hW
  obtain ⟨p, q, hA0, hV, rfl, hfz, hnd⟩ := hW
  have hA : DataW.TrodAll enc Try.prog W 0 (fun _ => true) true Try.f5.params.toList args.toList ds p := hA0
  rw [Try.params5] at hA hval
  obtain ⟨v0, vs0, d0, ds0, p0, q0, hargs, rfl, rfl, h0, r0⟩ := trodAll_cons hA
  obtain ⟨rfl, rfl, rfl⟩ := trodAll_nil r0
  obtain rfl : args = #[v0] := by cases args; simp_all
  obtain ⟨rfl, rfl⟩ := trodVars_none hV
  obtain ⟨a0, len0, cap0, rfl⟩ := okWide_slice Try.underlying22 (hval 0 22 v0 rfl rfl)
  have k0 := h0
  have lt0 : ∀ x ∈ p0, x.block < W.heap.size := by obtain ⟨m, hm⟩ := k0; exact DataW.trod_lt m _ _ _ hm
  obtain ⟨l0, w0, hB0⟩ := o_bytes h0
  clear hA0 hval0
  refine (walk _ l0 W w0 hB0).mono fun e W' ⟨he, bel⟩ => ?_
  subst he
  exact ⟨_, rfl, _, _, _, [], _, [], hW', trodAll_mk1 (shut_bool Try.underlying4 _), (trodAll_cons_mk (Below.trod o_laidOut (by kernel_rfl) (of_decide_eq_true (by kernel_rfl)) k0 bel lt0) trodAll_mk0), rfl, bel.frame _, fun h => by cases h⟩

theorem over : Rows.fnRoughRow.holds Try.pinned (OpenSpec.ofChange Rows.fnRoughSpec) :=
  OpenClaim.holds_of_wide 5 Try.f5 rfl rfl rfl rfl rfl rfl rfl ⟨rfl, rfl, rfl, rfl, rfl⟩ rfl rfl rfl rfl rfl (by kernel_rfl) Try.func5 (by kernel_rfl)
    (of_decide_eq_true (by kernel_rfl)) (by unfold Func.isWrapper; first | (rw [if_pos (by decide +kernel)]; kernel_rfl) | (rw [if_neg (by decide +kernel)]; exact ⟨rfl, rfl⟩))
    (fun os started H enc _ => lifted os started H enc)

theorem proved : Rows.FnRoughSaid := over
#print axioms proved
end Go.Proofs.Ytkoojngonldcbaa.lawRough
