/- The exact value of a chain lies in its span, and joined chains have the sum or the difference of the logarithms: the law FnChainValues. It returns true for all codes. No condition. -/
import Derived.Test.YtkoojngonldcbaaRows
import Derived.Test.YtkoojngonldcbaaO3
import Derived.Test.YtkoojngonldcbaaM5
import Derived.Test.YtkoojngonldcbaaM6
import Derived.Test.YtkoojngonldcbaaM14
import Derived.Test.YtkoojngonldcbaaM23
import Derived.Test.YtkoojngonldcbaaM24
import Derived.Test.YtkoojngonldcbaaM31
import Derived.Test.YtkoojngonldcbaaM104
import Derived.Test.YtkoojngonldcbaaM117
import Derived.Test.YtkoojngonldcbaaM118
import Derived.Test.YtkoojngonldcbaaP23
namespace Go.Proofs.Ytkoojngonldcbaa.lawChainValues
set_option linter.unusedVariables false
set_option linter.unusedSimpArgs false
open Go.ChangeShapes Go.WideShapes Go.ChangeAt Go.RowKit
set_option linter.unusedVariables false
set_option maxRecDepth 100000

theorem joinChains_len14 (l m : List Trm) (dv : Bool) (h : l.length ≤ 7) (h' : m.length ≤ 7) : (joinChains l m dv).1.length ≤ 14 := by
  unfold joinChains
  split
  · split
    · show (joinL l m dv).length ≤ 14
      simp [joinL]; omega
    · simp
  · simp
theorem codeChain_0 {l : List Trm} (h : isChain l = true) : codeChain l = 0 := by simp [codeChain, h]
theorem chainLog_bd3 (l : List Trm) : -400000000 ≤ (chainLog l).lo ∧ (chainLog l).lo ≤ (chainLog l).hi ∧ (chainLog l).hi ≤ 400000000 := by
  unfold chainLog
  split
  · rename_i h
    have := chainLog0_bd h
    have := chainLog0_le h
    omega
  · decide
theorem values_figs {l : List Trm} (hs : chainSpanC l = 0) (hf : chainFigC l = 0) : isFig (chainFig l) = true ∧ isFig (chainSpanL l) = true ∧ isFig (chainSpanH l) = true := by
  have hc : isChain l = true := by
    cases h : isChain l
    · simp [chainSpanC, h] at hs
    · rfl
  obtain ⟨c1, c2, c3, c4⟩ := isChain_true hc
  have hs' : spanC (chainLog0 l) = 0 := by simpa [chainSpanC, hc] using hs
  have hsp : isFig (belowF (chainLog0 l).lo) = true ∧ isFig (aboveF (chainLog0 l).hi) = true := by
    unfold spanC at hs'
    by_cases h1 : (isUnits (chainLog0 l).lo && isUnits (chainLog0 l).hi) = true
    · rw [if_pos h1] at hs'
      by_cases h2 : (isFig (belowF (chainLog0 l).lo) && isFig (aboveF (chainLog0 l).hi)) = true
      · simp only [Bool.and_eq_true] at h2
        exact h2
      · rw [if_neg h2] at hs'; simp at hs'
    · rw [if_neg h1] at hs'; simp at hs'
  have eL : chainSpanL l = belowF (chainLog0 l).lo := by simp [chainSpanL, hc, spanL, hs']
  have eH : chainSpanH l = aboveF (chainLog0 l).hi := by simp [chainSpanH, hc, spanH, hs']
  obtain ⟨F, hF⟩ : ∃ F, chainFig0 l = some F := by
    cases h : chainFig0 l with
    | none => simp [chainFigC, hc, h, optC] at hf
    | some F => exact ⟨F, rfl⟩
  have eF : chainFig l = F := by simp [chainFig, hc, hF, optF]
  have hFf : isFig F = true := by
    cases hl : l with
    | nil => rw [hl] at c1; simp at c1
    | cons t m =>
      rw [hl] at hF c4
      exact figFold_ok m t.f F (c4 t (by simp)) (fun x hx => c4 x (by simp [hx])) hF
  rw [eL, eH, eF]
  exact ⟨hFf, hsp⟩
theorem w_likeTermsY (v v' : Value) (ts : List Trm) (w : World) (h : IsTrms w v ts) (h' : IsTrms w v' ts) :
    Calls Try.prog 19 #[v, v'] w fun e w' => e = .returned (.bool true) ∧ Later w w' :=
  (w_likeTerms v v' ts ts w h h').mono fun e w' h => by simpa using h

set_option maxHeartbeats 4000000 in
theorem walk (v0 : Value) (bs : List Int) (W : World) (r0 : Raw W v0 bs.length 1 (byts bs)) (hB : ∀ b ∈ bs, 0 ≤ b ∧ b ≤ 255) :
    Calls Try.prog 6 #[v0] W fun e w' => e = .returned (.bool true) ∧ Later W w' := by
  by_cases hb : bs.length ≤ 4096
  rotate_left
  · obtain ⟨_, x0, cap0, rfl, hcap0, hmax0, _⟩ := r0
    have hbg : decide ((4096 : Int) < (bs.length : Int)) = true := by simp; omega
    have HB := Lib.hid hbg
    clear hbg
    go_enter Try.func6, Try.ntmps6
    go_wp2_with fail
    refine (w_big _ _ _ (by omega) _).mono ?_
    rintro e w' ⟨rfl, rfl⟩
    rw [HB.out]
    go_wp2
    go_ret
    exact ⟨rfl, Later.refl _⟩
  have HC := Lib.hid (r0.reads (by omega))
  obtain ⟨_, x0, cap0, rfl, hcap0, hmax0, _⟩ := r0
  have hbg : decide ((4096 : Int) < (bs.length : Int)) = false := by simp; omega
  have HB := Lib.hid hbg
  clear hbg
  go_enter Try.func6, Try.ntmps6
  go_wp2_with fail
  refine (w_big _ _ _ (by omega) _).mono ?_
  rintro e w' ⟨rfl, rfl⟩
  rw [HB.out]
  go_wp2_with fail
  refine (w_DrawChainSpan _ bs _ ((HC.out.later (by repeat (with_reducible first | exact Later.refl _ | refine Later.alloc ?_ _ | refine Later.drew ?_ | refine Later.drewN ?_ _ | refine Later.setCell ?_ (by first | omega | (simp; omega)) _)))) hB hb).mono ?_
  rintro e w1 ⟨v, l, rfl, hOc, h17, hL⟩
  obtain ⟨ac, capc, rfl⟩ := isSl_of hOc
  have HW1 : Hid (Later W w1) := Lib.hid (Later.trans (by repeat (with_reducible first | exact Later.refl _ | refine Later.alloc ?_ _ | refine Later.drew ?_ | refine Later.drewN ?_ _ | refine Later.setCell ?_ (by first | omega | (simp; omega)) _)) hL)
  have hz1 := HW1.out.size
  have HOc_1 := Lib.hid hOc
  clear hOc
  clear hL
  go_wp2_with fail
  refine (w_implChainSpan _ l _ (reads_of_owns (by repeat (with_reducible first | exact HOc_1.out | apply World.ownsRow.alloc | (apply owns_setNe; case hk => first | assumption | exact ne_own HOc_1.out (by first | omega | (simp; omega)) | exact ne_low HOc_1.out (by omega)) | (refine owns_later ?_ (Later.refl _).drew) | (refine owns_later ?_ ((Later.refl _).drewN _)))) (by omega))).mono ?_
  rintro e w2 ⟨rfl, hL⟩
  have HW2 : Hid (Later W w2) := Lib.hid (Later.trans (by repeat (with_reducible first | exact HW1.out | refine Later.alloc ?_ _ | refine Later.drew ?_ | refine Later.drewN ?_ _ | refine Later.setCell ?_ (by first | omega | (simp; omega)) _)) hL)
  have hz2 := HW2.out.size
  have HOc_2 := Lib.hid (owns_later (by repeat (with_reducible first | exact HOc_1.out | apply World.ownsRow.alloc | (apply owns_setNe; case hk => first | assumption | exact ne_own HOc_1.out (by first | omega | (simp; omega)) | exact ne_low HOc_1.out (by omega)) | (refine owns_later ?_ (Later.refl _).drew) | (refine owns_later ?_ ((Later.refl _).drewN _)))) hL)
  clear hL
  go_wp2_with fail
  refine (w_specChainSpan _ l _ (reads_of_owns (by repeat (with_reducible first | exact HOc_2.out | apply World.ownsRow.alloc | (apply owns_setNe; case hk => first | assumption | exact ne_own HOc_2.out (by first | omega | (simp; omega)) | exact ne_low HOc_2.out (by omega)) | (refine owns_later ?_ (Later.refl _).drew) | (refine owns_later ?_ ((Later.refl _).drewN _)))) (by omega))).mono ?_
  rintro e w3 ⟨rfl, hL⟩
  have HW3 : Hid (Later W w3) := Lib.hid (Later.trans (by repeat (with_reducible first | exact HW2.out | refine Later.alloc ?_ _ | refine Later.drew ?_ | refine Later.drewN ?_ _ | refine Later.setCell ?_ (by first | omega | (simp; omega)) _)) hL)
  have hz3 := HW3.out.size
  have HOc_3 := Lib.hid (owns_later (by repeat (with_reducible first | exact HOc_2.out | apply World.ownsRow.alloc | (apply owns_setNe; case hk => first | assumption | exact ne_own HOc_2.out (by first | omega | (simp; omega)) | exact ne_low HOc_2.out (by omega)) | (refine owns_later ?_ (Later.refl _).drew) | (refine owns_later ?_ ((Later.refl _).drewN _)))) hL)
  have HKA_3 := Lib.hid (hL.keep (k := w2.heap.size) (by repeat (with_reducible first | exact HKA_2.out | exact heap_alloc_new _ _ | (apply heap_alloc_new'; first | rfl | (simp; done)) | apply heap_alloc_old | apply st_0_2 | apply st_1_2 | apply st_0_3 | apply st_1_3 | apply st_2_3 | apply st_0_4 | apply st_1_4 | apply st_2_4 | apply st_3_4 | (apply other_set; case hne => omega) | exact heap_alloc_new' _ _ (by first | rfl | (simp; done)))))
  have HKB_3 := Lib.hid (hL.keep (k := w2.heap.size + 1) (by repeat (with_reducible first | exact HKB_2.out | exact heap_alloc_new _ _ | (apply heap_alloc_new'; first | rfl | (simp; done)) | apply heap_alloc_old | apply st_0_2 | apply st_1_2 | apply st_0_3 | apply st_1_3 | apply st_2_3 | apply st_0_4 | apply st_1_4 | apply st_2_4 | apply st_3_4 | (apply other_set; case hne => omega) | exact heap_alloc_new' _ _ (by first | rfl | (simp; done)))))
  clear hL
  obtain ⟨cA, fA, zA_3⟩ := blk_at HKA_3.out
  obtain ⟨cB, fB, zB_3⟩ := blk_at HKB_3.out
  go_wp2_with fail
  refine (w_implChainFigure _ l _ (reads_of_owns (by repeat (with_reducible first | exact HOc_3.out | apply World.ownsRow.alloc | (apply owns_setNe; case hk => first | assumption | exact ne_own HOc_3.out (by first | omega | (simp; omega)) | exact ne_low HOc_3.out (by omega)) | (refine owns_later ?_ (Later.refl _).drew) | (refine owns_later ?_ ((Later.refl _).drewN _)))) (by omega))).mono ?_
  rintro e w4 ⟨rfl, hL⟩
  have HW4 : Hid (Later W w4) := Lib.hid (Later.trans (by repeat (with_reducible first | exact HW3.out | refine Later.alloc ?_ _ | refine Later.drew ?_ | refine Later.drewN ?_ _ | refine Later.setCell ?_ (by first | omega | (simp; omega)) _)) hL)
  have hz4 := HW4.out.size
  have HOc_4 := Lib.hid (owns_later (by repeat (with_reducible first | exact HOc_3.out | apply World.ownsRow.alloc | (apply owns_setNe; case hk => first | assumption | exact ne_own HOc_3.out (by first | omega | (simp; omega)) | exact ne_low HOc_3.out (by omega)) | (refine owns_later ?_ (Later.refl _).drew) | (refine owns_later ?_ ((Later.refl _).drewN _)))) hL)
  have HKA_4 := Lib.hid (hL.keep (k := w2.heap.size) (by repeat (with_reducible first | exact HKA_3.out | exact heap_alloc_new _ _ | (apply heap_alloc_new'; first | rfl | (simp; done)) | apply heap_alloc_old | apply st_0_2 | apply st_1_2 | apply st_0_3 | apply st_1_3 | apply st_2_3 | apply st_0_4 | apply st_1_4 | apply st_2_4 | apply st_3_4 | (apply other_set; case hne => omega) | exact heap_alloc_new' _ _ (by first | rfl | (simp; done)))))
  have HKB_4 := Lib.hid (hL.keep (k := w2.heap.size + 1) (by repeat (with_reducible first | exact HKB_3.out | exact heap_alloc_new _ _ | (apply heap_alloc_new'; first | rfl | (simp; done)) | apply heap_alloc_old | apply st_0_2 | apply st_1_2 | apply st_0_3 | apply st_1_3 | apply st_2_3 | apply st_0_4 | apply st_1_4 | apply st_2_4 | apply st_3_4 | (apply other_set; case hne => omega) | exact heap_alloc_new' _ _ (by first | rfl | (simp; done)))))
  have HKC_4 := Lib.hid (hL.keep (k := w3.heap.size) (by repeat (with_reducible first | exact HKC_3.out | exact heap_alloc_new _ _ | (apply heap_alloc_new'; first | rfl | (simp; done)) | apply heap_alloc_old | apply st_0_2 | apply st_1_2 | apply st_0_3 | apply st_1_3 | apply st_2_3 | apply st_0_4 | apply st_1_4 | apply st_2_4 | apply st_3_4 | (apply other_set; case hne => omega) | exact heap_alloc_new' _ _ (by first | rfl | (simp; done)))))
  have HKD_4 := Lib.hid (hL.keep (k := w3.heap.size + 1) (by repeat (with_reducible first | exact HKD_3.out | exact heap_alloc_new _ _ | (apply heap_alloc_new'; first | rfl | (simp; done)) | apply heap_alloc_old | apply st_0_2 | apply st_1_2 | apply st_0_3 | apply st_1_3 | apply st_2_3 | apply st_0_4 | apply st_1_4 | apply st_2_4 | apply st_3_4 | (apply other_set; case hne => omega) | exact heap_alloc_new' _ _ (by first | rfl | (simp; done)))))
  clear hL cA fA cB fB
  obtain ⟨cA, fA, zA_4⟩ := blk_at HKA_4.out
  obtain ⟨cB, fB, zB_4⟩ := blk_at HKB_4.out
  obtain ⟨cC, fC, zC_4⟩ := blk_at HKC_4.out
  obtain ⟨cD, fD, zD_4⟩ := blk_at HKD_4.out
  go_wp2_with fail
  refine (w_specChainFigure _ l _ (reads_of_owns (by repeat (with_reducible first | exact HOc_4.out | apply World.ownsRow.alloc | (apply owns_setNe; case hk => first | assumption | exact ne_own HOc_4.out (by first | omega | (simp; omega)) | exact ne_low HOc_4.out (by omega)) | (refine owns_later ?_ (Later.refl _).drew) | (refine owns_later ?_ ((Later.refl _).drewN _)))) (by omega))).mono ?_
  rintro e w5 ⟨rfl, hL⟩
  have HW5 : Hid (Later W w5) := Lib.hid (Later.trans (by repeat (with_reducible first | exact HW4.out | refine Later.alloc ?_ _ | refine Later.drew ?_ | refine Later.drewN ?_ _ | refine Later.setCell ?_ (by first | omega | (simp; omega)) _)) hL)
  have hz5 := HW5.out.size
  have HOc_5 := Lib.hid (owns_later (by repeat (with_reducible first | exact HOc_4.out | apply World.ownsRow.alloc | (apply owns_setNe; case hk => first | assumption | exact ne_own HOc_4.out (by first | omega | (simp; omega)) | exact ne_low HOc_4.out (by omega)) | (refine owns_later ?_ (Later.refl _).drew) | (refine owns_later ?_ ((Later.refl _).drewN _)))) hL)
  have HKA_5 := Lib.hid (hL.keep (k := w2.heap.size) (by repeat (with_reducible first | exact HKA_4.out | exact heap_alloc_new _ _ | (apply heap_alloc_new'; first | rfl | (simp; done)) | apply heap_alloc_old | apply st_0_2 | apply st_1_2 | apply st_0_3 | apply st_1_3 | apply st_2_3 | apply st_0_4 | apply st_1_4 | apply st_2_4 | apply st_3_4 | (apply other_set; case hne => omega) | exact heap_alloc_new' _ _ (by first | rfl | (simp; done)))))
  have HKB_5 := Lib.hid (hL.keep (k := w2.heap.size + 1) (by repeat (with_reducible first | exact HKB_4.out | exact heap_alloc_new _ _ | (apply heap_alloc_new'; first | rfl | (simp; done)) | apply heap_alloc_old | apply st_0_2 | apply st_1_2 | apply st_0_3 | apply st_1_3 | apply st_2_3 | apply st_0_4 | apply st_1_4 | apply st_2_4 | apply st_3_4 | (apply other_set; case hne => omega) | exact heap_alloc_new' _ _ (by first | rfl | (simp; done)))))
  have HKC_5 := Lib.hid (hL.keep (k := w3.heap.size) (by repeat (with_reducible first | exact HKC_4.out | exact heap_alloc_new _ _ | (apply heap_alloc_new'; first | rfl | (simp; done)) | apply heap_alloc_old | apply st_0_2 | apply st_1_2 | apply st_0_3 | apply st_1_3 | apply st_2_3 | apply st_0_4 | apply st_1_4 | apply st_2_4 | apply st_3_4 | (apply other_set; case hne => omega) | exact heap_alloc_new' _ _ (by first | rfl | (simp; done)))))
  have HKD_5 := Lib.hid (hL.keep (k := w3.heap.size + 1) (by repeat (with_reducible first | exact HKD_4.out | exact heap_alloc_new _ _ | (apply heap_alloc_new'; first | rfl | (simp; done)) | apply heap_alloc_old | apply st_0_2 | apply st_1_2 | apply st_0_3 | apply st_1_3 | apply st_2_3 | apply st_0_4 | apply st_1_4 | apply st_2_4 | apply st_3_4 | (apply other_set; case hne => omega) | exact heap_alloc_new' _ _ (by first | rfl | (simp; done)))))
  have HKE_5 := Lib.hid (hL.keep (k := w4.heap.size) (by repeat (with_reducible first | exact HKE_4.out | exact heap_alloc_new _ _ | (apply heap_alloc_new'; first | rfl | (simp; done)) | apply heap_alloc_old | apply st_0_2 | apply st_1_2 | apply st_0_3 | apply st_1_3 | apply st_2_3 | apply st_0_4 | apply st_1_4 | apply st_2_4 | apply st_3_4 | (apply other_set; case hne => omega) | exact heap_alloc_new' _ _ (by first | rfl | (simp; done)))))
  clear hL cA fA cB fB cC fC cD fD
  obtain ⟨cA, fA, zA_5⟩ := blk_at HKA_5.out
  obtain ⟨cB, fB, zB_5⟩ := blk_at HKB_5.out
  obtain ⟨cC, fC, zC_5⟩ := blk_at HKC_5.out
  obtain ⟨cD, fD, zD_5⟩ := blk_at HKD_5.out
  obtain ⟨cE, fE, zE_5⟩ := blk_at HKE_5.out
  go_wp2_with fail
  refine (w_DrawJoinChains _ bs _ ((HC.out.later (by repeat (with_reducible first | exact HW5.out | refine Later.alloc ?_ _ | refine Later.drew ?_ | refine Later.drewN ?_ _ | refine Later.setCell ?_ (by first | omega | (simp; omega)) _)))) hB hb).mono ?_
  rintro e w6 ⟨vx, lx, vy, ly, dv, rfl, hOx, h27, hOy, h37, hL⟩
  obtain ⟨ax, capx, rfl⟩ := isSl_of hOx
  obtain ⟨ay, capy, rfl⟩ := isSl_of hOy
  have HW6 : Hid (Later W w6) := Lib.hid (Later.trans (by repeat (with_reducible first | exact HW5.out | refine Later.alloc ?_ _ | refine Later.drew ?_ | refine Later.drewN ?_ _ | refine Later.setCell ?_ (by first | omega | (simp; omega)) _)) hL)
  have hz6 := HW6.out.size
  have HOc_6 := Lib.hid (owns_later (by repeat (with_reducible first | exact HOc_5.out | apply World.ownsRow.alloc | (apply owns_setNe; case hk => first | assumption | exact ne_own HOc_5.out (by first | omega | (simp; omega)) | exact ne_low HOc_5.out (by omega)) | (refine owns_later ?_ (Later.refl _).drew) | (refine owns_later ?_ ((Later.refl _).drewN _)))) hL)
  have HKA_6 := Lib.hid (hL.keep (k := w2.heap.size) (by repeat (with_reducible first | exact HKA_5.out | exact heap_alloc_new _ _ | (apply heap_alloc_new'; first | rfl | (simp; done)) | apply heap_alloc_old | apply st_0_2 | apply st_1_2 | apply st_0_3 | apply st_1_3 | apply st_2_3 | apply st_0_4 | apply st_1_4 | apply st_2_4 | apply st_3_4 | (apply other_set; case hne => omega) | exact heap_alloc_new' _ _ (by first | rfl | (simp; done)))))
  have HKB_6 := Lib.hid (hL.keep (k := w2.heap.size + 1) (by repeat (with_reducible first | exact HKB_5.out | exact heap_alloc_new _ _ | (apply heap_alloc_new'; first | rfl | (simp; done)) | apply heap_alloc_old | apply st_0_2 | apply st_1_2 | apply st_0_3 | apply st_1_3 | apply st_2_3 | apply st_0_4 | apply st_1_4 | apply st_2_4 | apply st_3_4 | (apply other_set; case hne => omega) | exact heap_alloc_new' _ _ (by first | rfl | (simp; done)))))
  have HKC_6 := Lib.hid (hL.keep (k := w3.heap.size) (by repeat (with_reducible first | exact HKC_5.out | exact heap_alloc_new _ _ | (apply heap_alloc_new'; first | rfl | (simp; done)) | apply heap_alloc_old | apply st_0_2 | apply st_1_2 | apply st_0_3 | apply st_1_3 | apply st_2_3 | apply st_0_4 | apply st_1_4 | apply st_2_4 | apply st_3_4 | (apply other_set; case hne => omega) | exact heap_alloc_new' _ _ (by first | rfl | (simp; done)))))
  have HKD_6 := Lib.hid (hL.keep (k := w3.heap.size + 1) (by repeat (with_reducible first | exact HKD_5.out | exact heap_alloc_new _ _ | (apply heap_alloc_new'; first | rfl | (simp; done)) | apply heap_alloc_old | apply st_0_2 | apply st_1_2 | apply st_0_3 | apply st_1_3 | apply st_2_3 | apply st_0_4 | apply st_1_4 | apply st_2_4 | apply st_3_4 | (apply other_set; case hne => omega) | exact heap_alloc_new' _ _ (by first | rfl | (simp; done)))))
  have HKE_6 := Lib.hid (hL.keep (k := w4.heap.size) (by repeat (with_reducible first | exact HKE_5.out | exact heap_alloc_new _ _ | (apply heap_alloc_new'; first | rfl | (simp; done)) | apply heap_alloc_old | apply st_0_2 | apply st_1_2 | apply st_0_3 | apply st_1_3 | apply st_2_3 | apply st_0_4 | apply st_1_4 | apply st_2_4 | apply st_3_4 | (apply other_set; case hne => omega) | exact heap_alloc_new' _ _ (by first | rfl | (simp; done)))))
  have HKF_6 := Lib.hid (hL.keep (k := w5.heap.size) (by repeat (with_reducible first | exact HKF_5.out | exact heap_alloc_new _ _ | (apply heap_alloc_new'; first | rfl | (simp; done)) | apply heap_alloc_old | apply st_0_2 | apply st_1_2 | apply st_0_3 | apply st_1_3 | apply st_2_3 | apply st_0_4 | apply st_1_4 | apply st_2_4 | apply st_3_4 | (apply other_set; case hne => omega) | exact heap_alloc_new' _ _ (by first | rfl | (simp; done)))))
  have HOx_6 := Lib.hid hOx
  clear hOx
  have HOy_6 := Lib.hid hOy
  clear hOy
  clear hL cA fA cB fB cC fC cD fD cE fE
  obtain ⟨cA, fA, zA_6⟩ := blk_at HKA_6.out
  obtain ⟨cB, fB, zB_6⟩ := blk_at HKB_6.out
  obtain ⟨cC, fC, zC_6⟩ := blk_at HKC_6.out
  obtain ⟨cD, fD, zD_6⟩ := blk_at HKD_6.out
  obtain ⟨cE, fE, zE_6⟩ := blk_at HKE_6.out
  obtain ⟨cF, fF, zF_6⟩ := blk_at HKF_6.out
  go_wp2_with fail
  refine (w_implJoinChains _ _ lx ly dv _ (reads_of_owns (by repeat (with_reducible first | exact HOx_6.out | apply World.ownsRow.alloc | (apply owns_setNe; case hk => first | assumption | exact ne_own HOx_6.out (by first | omega | (simp; omega)) | exact ne_low HOx_6.out (by omega)) | (refine owns_later ?_ (Later.refl _).drew) | (refine owns_later ?_ ((Later.refl _).drewN _)))) (by omega)) (reads_of_owns (by repeat (with_reducible first | exact HOy_6.out | apply World.ownsRow.alloc | (apply owns_setNe; case hk => first | assumption | exact ne_own HOy_6.out (by first | omega | (simp; omega)) | exact ne_low HOy_6.out (by omega)) | (refine owns_later ?_ (Later.refl _).drew) | (refine owns_later ?_ ((Later.refl _).drewN _)))) (by omega))).mono ?_
  rintro e w7 ⟨vj, rfl, hL, hOj⟩
  have HW7 : Hid (Later W w7) := Lib.hid (Later.trans (by repeat (with_reducible first | exact HW6.out | refine Later.alloc ?_ _ | refine Later.drew ?_ | refine Later.drewN ?_ _ | refine Later.setCell ?_ (by first | omega | (simp; omega)) _)) hL)
  have hz7 := HW7.out.size
  have HOc_7 := Lib.hid (owns_later (by repeat (with_reducible first | exact HOc_6.out | apply World.ownsRow.alloc | (apply owns_setNe; case hk => first | assumption | exact ne_own HOc_6.out (by first | omega | (simp; omega)) | exact ne_low HOc_6.out (by omega)) | (refine owns_later ?_ (Later.refl _).drew) | (refine owns_later ?_ ((Later.refl _).drewN _)))) hL)
  have HOx_7 := Lib.hid (owns_later (by repeat (with_reducible first | exact HOx_6.out | apply World.ownsRow.alloc | (apply owns_setNe; case hk => first | assumption | exact ne_own HOx_6.out (by first | omega | (simp; omega)) | exact ne_low HOx_6.out (by omega)) | (refine owns_later ?_ (Later.refl _).drew) | (refine owns_later ?_ ((Later.refl _).drewN _)))) hL)
  have HOy_7 := Lib.hid (owns_later (by repeat (with_reducible first | exact HOy_6.out | apply World.ownsRow.alloc | (apply owns_setNe; case hk => first | assumption | exact ne_own HOy_6.out (by first | omega | (simp; omega)) | exact ne_low HOy_6.out (by omega)) | (refine owns_later ?_ (Later.refl _).drew) | (refine owns_later ?_ ((Later.refl _).drewN _)))) hL)
  have HKA_7 := Lib.hid (hL.keep (k := w2.heap.size) (by repeat (with_reducible first | exact HKA_6.out | exact heap_alloc_new _ _ | (apply heap_alloc_new'; first | rfl | (simp; done)) | apply heap_alloc_old | apply st_0_2 | apply st_1_2 | apply st_0_3 | apply st_1_3 | apply st_2_3 | apply st_0_4 | apply st_1_4 | apply st_2_4 | apply st_3_4 | (apply other_set; case hne => omega) | exact heap_alloc_new' _ _ (by first | rfl | (simp; done)))))
  have HKB_7 := Lib.hid (hL.keep (k := w2.heap.size + 1) (by repeat (with_reducible first | exact HKB_6.out | exact heap_alloc_new _ _ | (apply heap_alloc_new'; first | rfl | (simp; done)) | apply heap_alloc_old | apply st_0_2 | apply st_1_2 | apply st_0_3 | apply st_1_3 | apply st_2_3 | apply st_0_4 | apply st_1_4 | apply st_2_4 | apply st_3_4 | (apply other_set; case hne => omega) | exact heap_alloc_new' _ _ (by first | rfl | (simp; done)))))
  have HKC_7 := Lib.hid (hL.keep (k := w3.heap.size) (by repeat (with_reducible first | exact HKC_6.out | exact heap_alloc_new _ _ | (apply heap_alloc_new'; first | rfl | (simp; done)) | apply heap_alloc_old | apply st_0_2 | apply st_1_2 | apply st_0_3 | apply st_1_3 | apply st_2_3 | apply st_0_4 | apply st_1_4 | apply st_2_4 | apply st_3_4 | (apply other_set; case hne => omega) | exact heap_alloc_new' _ _ (by first | rfl | (simp; done)))))
  have HKD_7 := Lib.hid (hL.keep (k := w3.heap.size + 1) (by repeat (with_reducible first | exact HKD_6.out | exact heap_alloc_new _ _ | (apply heap_alloc_new'; first | rfl | (simp; done)) | apply heap_alloc_old | apply st_0_2 | apply st_1_2 | apply st_0_3 | apply st_1_3 | apply st_2_3 | apply st_0_4 | apply st_1_4 | apply st_2_4 | apply st_3_4 | (apply other_set; case hne => omega) | exact heap_alloc_new' _ _ (by first | rfl | (simp; done)))))
  have HKE_7 := Lib.hid (hL.keep (k := w4.heap.size) (by repeat (with_reducible first | exact HKE_6.out | exact heap_alloc_new _ _ | (apply heap_alloc_new'; first | rfl | (simp; done)) | apply heap_alloc_old | apply st_0_2 | apply st_1_2 | apply st_0_3 | apply st_1_3 | apply st_2_3 | apply st_0_4 | apply st_1_4 | apply st_2_4 | apply st_3_4 | (apply other_set; case hne => omega) | exact heap_alloc_new' _ _ (by first | rfl | (simp; done)))))
  have HKF_7 := Lib.hid (hL.keep (k := w5.heap.size) (by repeat (with_reducible first | exact HKF_6.out | exact heap_alloc_new _ _ | (apply heap_alloc_new'; first | rfl | (simp; done)) | apply heap_alloc_old | apply st_0_2 | apply st_1_2 | apply st_0_3 | apply st_1_3 | apply st_2_3 | apply st_0_4 | apply st_1_4 | apply st_2_4 | apply st_3_4 | (apply other_set; case hne => omega) | exact heap_alloc_new' _ _ (by first | rfl | (simp; done)))))
  have HOj_7 := Lib.hid hOj
  clear hOj
  clear hL cA fA cB fB cC fC cD fD cE fE cF fF
  obtain ⟨cA, fA, zA_7⟩ := blk_at HKA_7.out
  obtain ⟨cB, fB, zB_7⟩ := blk_at HKB_7.out
  obtain ⟨cC, fC, zC_7⟩ := blk_at HKC_7.out
  obtain ⟨cD, fD, zD_7⟩ := blk_at HKD_7.out
  obtain ⟨cE, fE, zE_7⟩ := blk_at HKE_7.out
  obtain ⟨cF, fF, zF_7⟩ := blk_at HKF_7.out
  go_wp2_with fail
  refine (w_specJoinChains _ _ lx ly dv _ (reads_of_owns (by repeat (with_reducible first | exact HOx_7.out | apply World.ownsRow.alloc | (apply owns_setNe; case hk => first | assumption | exact ne_own HOx_7.out (by first | omega | (simp; omega)) | exact ne_low HOx_7.out (by omega)) | (refine owns_later ?_ (Later.refl _).drew) | (refine owns_later ?_ ((Later.refl _).drewN _)))) (by omega)) (reads_of_owns (by repeat (with_reducible first | exact HOy_7.out | apply World.ownsRow.alloc | (apply owns_setNe; case hk => first | assumption | exact ne_own HOy_7.out (by first | omega | (simp; omega)) | exact ne_low HOy_7.out (by omega)) | (refine owns_later ?_ (Later.refl _).drew) | (refine owns_later ?_ ((Later.refl _).drewN _)))) (by omega))).mono ?_
  rintro e w8 ⟨vm, rfl, hL, hOm⟩
  have HW8 : Hid (Later W w8) := Lib.hid (Later.trans (by repeat (with_reducible first | exact HW7.out | refine Later.alloc ?_ _ | refine Later.drew ?_ | refine Later.drewN ?_ _ | refine Later.setCell ?_ (by first | omega | (simp; omega)) _)) hL)
  have hz8 := HW8.out.size
  have HOc_8 := Lib.hid (owns_later (by repeat (with_reducible first | exact HOc_7.out | apply World.ownsRow.alloc | (apply owns_setNe; case hk => first | assumption | exact ne_own HOc_7.out (by first | omega | (simp; omega)) | exact ne_low HOc_7.out (by omega)) | (refine owns_later ?_ (Later.refl _).drew) | (refine owns_later ?_ ((Later.refl _).drewN _)))) hL)
  have HOx_8 := Lib.hid (owns_later (by repeat (with_reducible first | exact HOx_7.out | apply World.ownsRow.alloc | (apply owns_setNe; case hk => first | assumption | exact ne_own HOx_7.out (by first | omega | (simp; omega)) | exact ne_low HOx_7.out (by omega)) | (refine owns_later ?_ (Later.refl _).drew) | (refine owns_later ?_ ((Later.refl _).drewN _)))) hL)
  have HOy_8 := Lib.hid (owns_later (by repeat (with_reducible first | exact HOy_7.out | apply World.ownsRow.alloc | (apply owns_setNe; case hk => first | assumption | exact ne_own HOy_7.out (by first | omega | (simp; omega)) | exact ne_low HOy_7.out (by omega)) | (refine owns_later ?_ (Later.refl _).drew) | (refine owns_later ?_ ((Later.refl _).drewN _)))) hL)
  have HOj_8 := Lib.hid (owns_later (by repeat (with_reducible first | exact HOj_7.out | apply World.ownsRow.alloc | (apply owns_setNe; case hk => first | assumption | exact ne_own HOj_7.out (by first | omega | (simp; omega)) | exact ne_low HOj_7.out (by omega)) | (refine owns_later ?_ (Later.refl _).drew) | (refine owns_later ?_ ((Later.refl _).drewN _)))) hL)
  have HKA_8 := Lib.hid (hL.keep (k := w2.heap.size) (by repeat (with_reducible first | exact HKA_7.out | exact heap_alloc_new _ _ | (apply heap_alloc_new'; first | rfl | (simp; done)) | apply heap_alloc_old | apply st_0_2 | apply st_1_2 | apply st_0_3 | apply st_1_3 | apply st_2_3 | apply st_0_4 | apply st_1_4 | apply st_2_4 | apply st_3_4 | (apply other_set; case hne => omega) | exact heap_alloc_new' _ _ (by first | rfl | (simp; done)))))
  have HKB_8 := Lib.hid (hL.keep (k := w2.heap.size + 1) (by repeat (with_reducible first | exact HKB_7.out | exact heap_alloc_new _ _ | (apply heap_alloc_new'; first | rfl | (simp; done)) | apply heap_alloc_old | apply st_0_2 | apply st_1_2 | apply st_0_3 | apply st_1_3 | apply st_2_3 | apply st_0_4 | apply st_1_4 | apply st_2_4 | apply st_3_4 | (apply other_set; case hne => omega) | exact heap_alloc_new' _ _ (by first | rfl | (simp; done)))))
  have HKC_8 := Lib.hid (hL.keep (k := w3.heap.size) (by repeat (with_reducible first | exact HKC_7.out | exact heap_alloc_new _ _ | (apply heap_alloc_new'; first | rfl | (simp; done)) | apply heap_alloc_old | apply st_0_2 | apply st_1_2 | apply st_0_3 | apply st_1_3 | apply st_2_3 | apply st_0_4 | apply st_1_4 | apply st_2_4 | apply st_3_4 | (apply other_set; case hne => omega) | exact heap_alloc_new' _ _ (by first | rfl | (simp; done)))))
  have HKD_8 := Lib.hid (hL.keep (k := w3.heap.size + 1) (by repeat (with_reducible first | exact HKD_7.out | exact heap_alloc_new _ _ | (apply heap_alloc_new'; first | rfl | (simp; done)) | apply heap_alloc_old | apply st_0_2 | apply st_1_2 | apply st_0_3 | apply st_1_3 | apply st_2_3 | apply st_0_4 | apply st_1_4 | apply st_2_4 | apply st_3_4 | (apply other_set; case hne => omega) | exact heap_alloc_new' _ _ (by first | rfl | (simp; done)))))
  have HKE_8 := Lib.hid (hL.keep (k := w4.heap.size) (by repeat (with_reducible first | exact HKE_7.out | exact heap_alloc_new _ _ | (apply heap_alloc_new'; first | rfl | (simp; done)) | apply heap_alloc_old | apply st_0_2 | apply st_1_2 | apply st_0_3 | apply st_1_3 | apply st_2_3 | apply st_0_4 | apply st_1_4 | apply st_2_4 | apply st_3_4 | (apply other_set; case hne => omega) | exact heap_alloc_new' _ _ (by first | rfl | (simp; done)))))
  have HKF_8 := Lib.hid (hL.keep (k := w5.heap.size) (by repeat (with_reducible first | exact HKF_7.out | exact heap_alloc_new _ _ | (apply heap_alloc_new'; first | rfl | (simp; done)) | apply heap_alloc_old | apply st_0_2 | apply st_1_2 | apply st_0_3 | apply st_1_3 | apply st_2_3 | apply st_0_4 | apply st_1_4 | apply st_2_4 | apply st_3_4 | (apply other_set; case hne => omega) | exact heap_alloc_new' _ _ (by first | rfl | (simp; done)))))
  have HOm_8 := Lib.hid hOm
  clear hOm
  clear hL cA fA cB fB cC fC cD fD cE fE cF fF
  obtain ⟨cA, fA, zA_8⟩ := blk_at HKA_8.out
  obtain ⟨cB, fB, zB_8⟩ := blk_at HKB_8.out
  obtain ⟨cC, fC, zC_8⟩ := blk_at HKC_8.out
  obtain ⟨cD, fD, zD_8⟩ := blk_at HKD_8.out
  obtain ⟨cE, fE, zE_8⟩ := blk_at HKE_8.out
  obtain ⟨cF, fF, zF_8⟩ := blk_at HKF_8.out
  have hjl : (joinChains lx ly dv).1.length ≤ 14 := joinChains_len14 lx ly dv h27 h37
  go_wp2_with fail
  refine (w_likeTermsY _ _ _ _ (reads_of_owns (by repeat (with_reducible first | exact HOj_8.out | apply World.ownsRow.alloc | (apply owns_setNe; case hk => first | assumption | exact ne_own HOj_8.out (by first | omega | (simp; omega)) | exact ne_low HOj_8.out (by omega)) | (refine owns_later ?_ (Later.refl _).drew) | (refine owns_later ?_ ((Later.refl _).drewN _)))) (by omega)) (reads_of_owns (by repeat (with_reducible first | exact HOm_8.out | apply World.ownsRow.alloc | (apply owns_setNe; case hk => first | assumption | exact ne_own HOm_8.out (by first | omega | (simp; omega)) | exact ne_low HOm_8.out (by omega)) | (refine owns_later ?_ (Later.refl _).drew) | (refine owns_later ?_ ((Later.refl _).drewN _)))) (by omega))).mono ?_
  rintro e w9 ⟨rfl, hL⟩
  have HW9 : Hid (Later W w9) := Lib.hid (Later.trans (by repeat (with_reducible first | exact HW8.out | refine Later.alloc ?_ _ | refine Later.drew ?_ | refine Later.drewN ?_ _ | refine Later.setCell ?_ (by first | omega | (simp; omega)) _)) hL)
  have hz9 := HW9.out.size
  have HOc_9 := Lib.hid (owns_later (by repeat (with_reducible first | exact HOc_8.out | apply World.ownsRow.alloc | (apply owns_setNe; case hk => first | assumption | exact ne_own HOc_8.out (by first | omega | (simp; omega)) | exact ne_low HOc_8.out (by omega)) | (refine owns_later ?_ (Later.refl _).drew) | (refine owns_later ?_ ((Later.refl _).drewN _)))) hL)
  have HOx_9 := Lib.hid (owns_later (by repeat (with_reducible first | exact HOx_8.out | apply World.ownsRow.alloc | (apply owns_setNe; case hk => first | assumption | exact ne_own HOx_8.out (by first | omega | (simp; omega)) | exact ne_low HOx_8.out (by omega)) | (refine owns_later ?_ (Later.refl _).drew) | (refine owns_later ?_ ((Later.refl _).drewN _)))) hL)
  have HOy_9 := Lib.hid (owns_later (by repeat (with_reducible first | exact HOy_8.out | apply World.ownsRow.alloc | (apply owns_setNe; case hk => first | assumption | exact ne_own HOy_8.out (by first | omega | (simp; omega)) | exact ne_low HOy_8.out (by omega)) | (refine owns_later ?_ (Later.refl _).drew) | (refine owns_later ?_ ((Later.refl _).drewN _)))) hL)
  have HOj_9 := Lib.hid (owns_later (by repeat (with_reducible first | exact HOj_8.out | apply World.ownsRow.alloc | (apply owns_setNe; case hk => first | assumption | exact ne_own HOj_8.out (by first | omega | (simp; omega)) | exact ne_low HOj_8.out (by omega)) | (refine owns_later ?_ (Later.refl _).drew) | (refine owns_later ?_ ((Later.refl _).drewN _)))) hL)
  have HOm_9 := Lib.hid (owns_later (by repeat (with_reducible first | exact HOm_8.out | apply World.ownsRow.alloc | (apply owns_setNe; case hk => first | assumption | exact ne_own HOm_8.out (by first | omega | (simp; omega)) | exact ne_low HOm_8.out (by omega)) | (refine owns_later ?_ (Later.refl _).drew) | (refine owns_later ?_ ((Later.refl _).drewN _)))) hL)
  have HKA_9 := Lib.hid (hL.keep (k := w2.heap.size) (by repeat (with_reducible first | exact HKA_8.out | exact heap_alloc_new _ _ | (apply heap_alloc_new'; first | rfl | (simp; done)) | apply heap_alloc_old | apply st_0_2 | apply st_1_2 | apply st_0_3 | apply st_1_3 | apply st_2_3 | apply st_0_4 | apply st_1_4 | apply st_2_4 | apply st_3_4 | (apply other_set; case hne => omega) | exact heap_alloc_new' _ _ (by first | rfl | (simp; done)))))
  have HKB_9 := Lib.hid (hL.keep (k := w2.heap.size + 1) (by repeat (with_reducible first | exact HKB_8.out | exact heap_alloc_new _ _ | (apply heap_alloc_new'; first | rfl | (simp; done)) | apply heap_alloc_old | apply st_0_2 | apply st_1_2 | apply st_0_3 | apply st_1_3 | apply st_2_3 | apply st_0_4 | apply st_1_4 | apply st_2_4 | apply st_3_4 | (apply other_set; case hne => omega) | exact heap_alloc_new' _ _ (by first | rfl | (simp; done)))))
  have HKC_9 := Lib.hid (hL.keep (k := w3.heap.size) (by repeat (with_reducible first | exact HKC_8.out | exact heap_alloc_new _ _ | (apply heap_alloc_new'; first | rfl | (simp; done)) | apply heap_alloc_old | apply st_0_2 | apply st_1_2 | apply st_0_3 | apply st_1_3 | apply st_2_3 | apply st_0_4 | apply st_1_4 | apply st_2_4 | apply st_3_4 | (apply other_set; case hne => omega) | exact heap_alloc_new' _ _ (by first | rfl | (simp; done)))))
  have HKD_9 := Lib.hid (hL.keep (k := w3.heap.size + 1) (by repeat (with_reducible first | exact HKD_8.out | exact heap_alloc_new _ _ | (apply heap_alloc_new'; first | rfl | (simp; done)) | apply heap_alloc_old | apply st_0_2 | apply st_1_2 | apply st_0_3 | apply st_1_3 | apply st_2_3 | apply st_0_4 | apply st_1_4 | apply st_2_4 | apply st_3_4 | (apply other_set; case hne => omega) | exact heap_alloc_new' _ _ (by first | rfl | (simp; done)))))
  have HKE_9 := Lib.hid (hL.keep (k := w4.heap.size) (by repeat (with_reducible first | exact HKE_8.out | exact heap_alloc_new _ _ | (apply heap_alloc_new'; first | rfl | (simp; done)) | apply heap_alloc_old | apply st_0_2 | apply st_1_2 | apply st_0_3 | apply st_1_3 | apply st_2_3 | apply st_0_4 | apply st_1_4 | apply st_2_4 | apply st_3_4 | (apply other_set; case hne => omega) | exact heap_alloc_new' _ _ (by first | rfl | (simp; done)))))
  have HKF_9 := Lib.hid (hL.keep (k := w5.heap.size) (by repeat (with_reducible first | exact HKF_8.out | exact heap_alloc_new _ _ | (apply heap_alloc_new'; first | rfl | (simp; done)) | apply heap_alloc_old | apply st_0_2 | apply st_1_2 | apply st_0_3 | apply st_1_3 | apply st_2_3 | apply st_0_4 | apply st_1_4 | apply st_2_4 | apply st_3_4 | (apply other_set; case hne => omega) | exact heap_alloc_new' _ _ (by first | rfl | (simp; done)))))
  clear hL cA fA cB fB cC fC cD fD cE fE cF fF
  obtain ⟨cA, fA, zA_9⟩ := blk_at HKA_9.out
  obtain ⟨cB, fB, zB_9⟩ := blk_at HKB_9.out
  obtain ⟨cC, fC, zC_9⟩ := blk_at HKC_9.out
  obtain ⟨cD, fD, zD_9⟩ := blk_at HKD_9.out
  obtain ⟨cE, fE, zE_9⟩ := blk_at HKE_9.out
  obtain ⟨cF, fF, zF_9⟩ := blk_at HKF_9.out
  by_cases hj : (joinChains lx ly dv).2 = 0
  · skip
    by_cases hdv : dv = true
    · skip
      subst hdv
      obtain ⟨j1, j2, j3, j4, j5⟩ := join_law hj
      have J1 := Lib.hid (codeChain_0 j1)
      have J2 := Lib.hid (codeChain_0 j2)
      have J3 := Lib.hid (codeChain_0 j3)
      obtain ⟨x1, x2, x3⟩ := chainLog_bd3 lx
      obtain ⟨y1, y2, y3⟩ := chainLog_bd3 ly
      obtain ⟨e1, e2⟩ := j4 rfl
      have E1 := Lib.hid e1
      have E2 := Lib.hid e2
      clear j1 j2 j3 j4 j5 e1 e2
      go_wp2_with fail
      refine (w_implChainLog _ lx _ (reads_of_owns (by repeat (with_reducible first | exact HOx_9.out | apply World.ownsRow.alloc | (apply owns_setNe; case hk => first | assumption | exact ne_own HOx_9.out (by first | omega | (simp; omega)) | exact ne_low HOx_9.out (by omega)) | (refine owns_later ?_ (Later.refl _).drew) | (refine owns_later ?_ ((Later.refl _).drewN _)))) (by omega))).mono ?_
      rintro e w10 ⟨rfl, hL⟩
      have HW10 : Hid (Later W w10) := Lib.hid (Later.trans (by repeat (with_reducible first | exact HW9.out | refine Later.alloc ?_ _ | refine Later.drew ?_ | refine Later.drewN ?_ _ | refine Later.setCell ?_ (by first | omega | (simp; omega)) _)) hL)
      have hz10 := HW10.out.size
      have HOc_10 := Lib.hid (owns_later (by repeat (with_reducible first | exact HOc_9.out | apply World.ownsRow.alloc | (apply owns_setNe; case hk => first | assumption | exact ne_own HOc_9.out (by first | omega | (simp; omega)) | exact ne_low HOc_9.out (by omega)) | (refine owns_later ?_ (Later.refl _).drew) | (refine owns_later ?_ ((Later.refl _).drewN _)))) hL)
      have HOx_10 := Lib.hid (owns_later (by repeat (with_reducible first | exact HOx_9.out | apply World.ownsRow.alloc | (apply owns_setNe; case hk => first | assumption | exact ne_own HOx_9.out (by first | omega | (simp; omega)) | exact ne_low HOx_9.out (by omega)) | (refine owns_later ?_ (Later.refl _).drew) | (refine owns_later ?_ ((Later.refl _).drewN _)))) hL)
      have HOy_10 := Lib.hid (owns_later (by repeat (with_reducible first | exact HOy_9.out | apply World.ownsRow.alloc | (apply owns_setNe; case hk => first | assumption | exact ne_own HOy_9.out (by first | omega | (simp; omega)) | exact ne_low HOy_9.out (by omega)) | (refine owns_later ?_ (Later.refl _).drew) | (refine owns_later ?_ ((Later.refl _).drewN _)))) hL)
      have HOj_10 := Lib.hid (owns_later (by repeat (with_reducible first | exact HOj_9.out | apply World.ownsRow.alloc | (apply owns_setNe; case hk => first | assumption | exact ne_own HOj_9.out (by first | omega | (simp; omega)) | exact ne_low HOj_9.out (by omega)) | (refine owns_later ?_ (Later.refl _).drew) | (refine owns_later ?_ ((Later.refl _).drewN _)))) hL)
      have HOm_10 := Lib.hid (owns_later (by repeat (with_reducible first | exact HOm_9.out | apply World.ownsRow.alloc | (apply owns_setNe; case hk => first | assumption | exact ne_own HOm_9.out (by first | omega | (simp; omega)) | exact ne_low HOm_9.out (by omega)) | (refine owns_later ?_ (Later.refl _).drew) | (refine owns_later ?_ ((Later.refl _).drewN _)))) hL)
      have HKA_10 := Lib.hid (hL.keep (k := w2.heap.size) (by repeat (with_reducible first | exact HKA_9.out | exact heap_alloc_new _ _ | (apply heap_alloc_new'; first | rfl | (simp; done)) | apply heap_alloc_old | apply st_0_2 | apply st_1_2 | apply st_0_3 | apply st_1_3 | apply st_2_3 | apply st_0_4 | apply st_1_4 | apply st_2_4 | apply st_3_4 | (apply other_set; case hne => omega) | exact heap_alloc_new' _ _ (by first | rfl | (simp; done)))))
      have HKB_10 := Lib.hid (hL.keep (k := w2.heap.size + 1) (by repeat (with_reducible first | exact HKB_9.out | exact heap_alloc_new _ _ | (apply heap_alloc_new'; first | rfl | (simp; done)) | apply heap_alloc_old | apply st_0_2 | apply st_1_2 | apply st_0_3 | apply st_1_3 | apply st_2_3 | apply st_0_4 | apply st_1_4 | apply st_2_4 | apply st_3_4 | (apply other_set; case hne => omega) | exact heap_alloc_new' _ _ (by first | rfl | (simp; done)))))
      have HKC_10 := Lib.hid (hL.keep (k := w3.heap.size) (by repeat (with_reducible first | exact HKC_9.out | exact heap_alloc_new _ _ | (apply heap_alloc_new'; first | rfl | (simp; done)) | apply heap_alloc_old | apply st_0_2 | apply st_1_2 | apply st_0_3 | apply st_1_3 | apply st_2_3 | apply st_0_4 | apply st_1_4 | apply st_2_4 | apply st_3_4 | (apply other_set; case hne => omega) | exact heap_alloc_new' _ _ (by first | rfl | (simp; done)))))
      have HKD_10 := Lib.hid (hL.keep (k := w3.heap.size + 1) (by repeat (with_reducible first | exact HKD_9.out | exact heap_alloc_new _ _ | (apply heap_alloc_new'; first | rfl | (simp; done)) | apply heap_alloc_old | apply st_0_2 | apply st_1_2 | apply st_0_3 | apply st_1_3 | apply st_2_3 | apply st_0_4 | apply st_1_4 | apply st_2_4 | apply st_3_4 | (apply other_set; case hne => omega) | exact heap_alloc_new' _ _ (by first | rfl | (simp; done)))))
      have HKE_10 := Lib.hid (hL.keep (k := w4.heap.size) (by repeat (with_reducible first | exact HKE_9.out | exact heap_alloc_new _ _ | (apply heap_alloc_new'; first | rfl | (simp; done)) | apply heap_alloc_old | apply st_0_2 | apply st_1_2 | apply st_0_3 | apply st_1_3 | apply st_2_3 | apply st_0_4 | apply st_1_4 | apply st_2_4 | apply st_3_4 | (apply other_set; case hne => omega) | exact heap_alloc_new' _ _ (by first | rfl | (simp; done)))))
      have HKF_10 := Lib.hid (hL.keep (k := w5.heap.size) (by repeat (with_reducible first | exact HKF_9.out | exact heap_alloc_new _ _ | (apply heap_alloc_new'; first | rfl | (simp; done)) | apply heap_alloc_old | apply st_0_2 | apply st_1_2 | apply st_0_3 | apply st_1_3 | apply st_2_3 | apply st_0_4 | apply st_1_4 | apply st_2_4 | apply st_3_4 | (apply other_set; case hne => omega) | exact heap_alloc_new' _ _ (by first | rfl | (simp; done)))))
      clear hL cA fA cB fB cC fC cD fD cE fE cF fF
      obtain ⟨cA, fA, zA_10⟩ := blk_at HKA_10.out
      obtain ⟨cB, fB, zB_10⟩ := blk_at HKB_10.out
      obtain ⟨cC, fC, zC_10⟩ := blk_at HKC_10.out
      obtain ⟨cD, fD, zD_10⟩ := blk_at HKD_10.out
      obtain ⟨cE, fE, zE_10⟩ := blk_at HKE_10.out
      obtain ⟨cF, fF, zF_10⟩ := blk_at HKF_10.out
      rw [J1.out]
      go_wp2_with fail
      refine (w_implChainLog _ ly _ (reads_of_owns (by repeat (with_reducible first | exact HOy_10.out | apply World.ownsRow.alloc | (apply owns_setNe; case hk => first | assumption | exact ne_own HOy_10.out (by first | omega | (simp; omega)) | exact ne_low HOy_10.out (by omega)) | (refine owns_later ?_ (Later.refl _).drew) | (refine owns_later ?_ ((Later.refl _).drewN _)))) (by omega))).mono ?_
      rintro e w11 ⟨rfl, hL⟩
      have HW11 : Hid (Later W w11) := Lib.hid (Later.trans (by repeat (with_reducible first | exact HW10.out | refine Later.alloc ?_ _ | refine Later.drew ?_ | refine Later.drewN ?_ _ | refine Later.setCell ?_ (by first | omega | (simp; omega)) _)) hL)
      have hz11 := HW11.out.size
      have HOc_11 := Lib.hid (owns_later (by repeat (with_reducible first | exact HOc_10.out | apply World.ownsRow.alloc | (apply owns_setNe; case hk => first | assumption | exact ne_own HOc_10.out (by first | omega | (simp; omega)) | exact ne_low HOc_10.out (by omega)) | (refine owns_later ?_ (Later.refl _).drew) | (refine owns_later ?_ ((Later.refl _).drewN _)))) hL)
      have HOx_11 := Lib.hid (owns_later (by repeat (with_reducible first | exact HOx_10.out | apply World.ownsRow.alloc | (apply owns_setNe; case hk => first | assumption | exact ne_own HOx_10.out (by first | omega | (simp; omega)) | exact ne_low HOx_10.out (by omega)) | (refine owns_later ?_ (Later.refl _).drew) | (refine owns_later ?_ ((Later.refl _).drewN _)))) hL)
      have HOy_11 := Lib.hid (owns_later (by repeat (with_reducible first | exact HOy_10.out | apply World.ownsRow.alloc | (apply owns_setNe; case hk => first | assumption | exact ne_own HOy_10.out (by first | omega | (simp; omega)) | exact ne_low HOy_10.out (by omega)) | (refine owns_later ?_ (Later.refl _).drew) | (refine owns_later ?_ ((Later.refl _).drewN _)))) hL)
      have HOj_11 := Lib.hid (owns_later (by repeat (with_reducible first | exact HOj_10.out | apply World.ownsRow.alloc | (apply owns_setNe; case hk => first | assumption | exact ne_own HOj_10.out (by first | omega | (simp; omega)) | exact ne_low HOj_10.out (by omega)) | (refine owns_later ?_ (Later.refl _).drew) | (refine owns_later ?_ ((Later.refl _).drewN _)))) hL)
      have HOm_11 := Lib.hid (owns_later (by repeat (with_reducible first | exact HOm_10.out | apply World.ownsRow.alloc | (apply owns_setNe; case hk => first | assumption | exact ne_own HOm_10.out (by first | omega | (simp; omega)) | exact ne_low HOm_10.out (by omega)) | (refine owns_later ?_ (Later.refl _).drew) | (refine owns_later ?_ ((Later.refl _).drewN _)))) hL)
      have HKA_11 := Lib.hid (hL.keep (k := w2.heap.size) (by repeat (with_reducible first | exact HKA_10.out | exact heap_alloc_new _ _ | (apply heap_alloc_new'; first | rfl | (simp; done)) | apply heap_alloc_old | apply st_0_2 | apply st_1_2 | apply st_0_3 | apply st_1_3 | apply st_2_3 | apply st_0_4 | apply st_1_4 | apply st_2_4 | apply st_3_4 | (apply other_set; case hne => omega) | exact heap_alloc_new' _ _ (by first | rfl | (simp; done)))))
      have HKB_11 := Lib.hid (hL.keep (k := w2.heap.size + 1) (by repeat (with_reducible first | exact HKB_10.out | exact heap_alloc_new _ _ | (apply heap_alloc_new'; first | rfl | (simp; done)) | apply heap_alloc_old | apply st_0_2 | apply st_1_2 | apply st_0_3 | apply st_1_3 | apply st_2_3 | apply st_0_4 | apply st_1_4 | apply st_2_4 | apply st_3_4 | (apply other_set; case hne => omega) | exact heap_alloc_new' _ _ (by first | rfl | (simp; done)))))
      have HKC_11 := Lib.hid (hL.keep (k := w3.heap.size) (by repeat (with_reducible first | exact HKC_10.out | exact heap_alloc_new _ _ | (apply heap_alloc_new'; first | rfl | (simp; done)) | apply heap_alloc_old | apply st_0_2 | apply st_1_2 | apply st_0_3 | apply st_1_3 | apply st_2_3 | apply st_0_4 | apply st_1_4 | apply st_2_4 | apply st_3_4 | (apply other_set; case hne => omega) | exact heap_alloc_new' _ _ (by first | rfl | (simp; done)))))
      have HKD_11 := Lib.hid (hL.keep (k := w3.heap.size + 1) (by repeat (with_reducible first | exact HKD_10.out | exact heap_alloc_new _ _ | (apply heap_alloc_new'; first | rfl | (simp; done)) | apply heap_alloc_old | apply st_0_2 | apply st_1_2 | apply st_0_3 | apply st_1_3 | apply st_2_3 | apply st_0_4 | apply st_1_4 | apply st_2_4 | apply st_3_4 | (apply other_set; case hne => omega) | exact heap_alloc_new' _ _ (by first | rfl | (simp; done)))))
      have HKE_11 := Lib.hid (hL.keep (k := w4.heap.size) (by repeat (with_reducible first | exact HKE_10.out | exact heap_alloc_new _ _ | (apply heap_alloc_new'; first | rfl | (simp; done)) | apply heap_alloc_old | apply st_0_2 | apply st_1_2 | apply st_0_3 | apply st_1_3 | apply st_2_3 | apply st_0_4 | apply st_1_4 | apply st_2_4 | apply st_3_4 | (apply other_set; case hne => omega) | exact heap_alloc_new' _ _ (by first | rfl | (simp; done)))))
      have HKF_11 := Lib.hid (hL.keep (k := w5.heap.size) (by repeat (with_reducible first | exact HKF_10.out | exact heap_alloc_new _ _ | (apply heap_alloc_new'; first | rfl | (simp; done)) | apply heap_alloc_old | apply st_0_2 | apply st_1_2 | apply st_0_3 | apply st_1_3 | apply st_2_3 | apply st_0_4 | apply st_1_4 | apply st_2_4 | apply st_3_4 | (apply other_set; case hne => omega) | exact heap_alloc_new' _ _ (by first | rfl | (simp; done)))))
      have HKG_11 := Lib.hid (hL.keep (k := w10.heap.size) (by repeat (with_reducible first | exact HKG_10.out | exact heap_alloc_new _ _ | (apply heap_alloc_new'; first | rfl | (simp; done)) | apply heap_alloc_old | apply st_0_2 | apply st_1_2 | apply st_0_3 | apply st_1_3 | apply st_2_3 | apply st_0_4 | apply st_1_4 | apply st_2_4 | apply st_3_4 | (apply other_set; case hne => omega) | exact heap_alloc_new' _ _ (by first | rfl | (simp; done)))))
      clear hL cA fA cB fB cC fC cD fD cE fE cF fF
      obtain ⟨cA, fA, zA_11⟩ := blk_at HKA_11.out
      obtain ⟨cB, fB, zB_11⟩ := blk_at HKB_11.out
      obtain ⟨cC, fC, zC_11⟩ := blk_at HKC_11.out
      obtain ⟨cD, fD, zD_11⟩ := blk_at HKD_11.out
      obtain ⟨cE, fE, zE_11⟩ := blk_at HKE_11.out
      obtain ⟨cF, fF, zF_11⟩ := blk_at HKF_11.out
      obtain ⟨cG, fG, zG_11⟩ := blk_at HKG_11.out
      rw [J2.out]
      go_wp2_with fail
      refine (w_implChainLog _ (joinChains lx ly true).1 _ (reads_of_owns (by repeat (with_reducible first | exact HOj_11.out | apply World.ownsRow.alloc | (apply owns_setNe; case hk => first | assumption | exact ne_own HOj_11.out (by first | omega | (simp; omega)) | exact ne_low HOj_11.out (by omega)) | (refine owns_later ?_ (Later.refl _).drew) | (refine owns_later ?_ ((Later.refl _).drewN _)))) (by omega))).mono ?_
      rintro e w12 ⟨rfl, hL⟩
      have HW12 : Hid (Later W w12) := Lib.hid (Later.trans (by repeat (with_reducible first | exact HW11.out | refine Later.alloc ?_ _ | refine Later.drew ?_ | refine Later.drewN ?_ _ | refine Later.setCell ?_ (by first | omega | (simp; omega)) _)) hL)
      have hz12 := HW12.out.size
      have HOc_12 := Lib.hid (owns_later (by repeat (with_reducible first | exact HOc_11.out | apply World.ownsRow.alloc | (apply owns_setNe; case hk => first | assumption | exact ne_own HOc_11.out (by first | omega | (simp; omega)) | exact ne_low HOc_11.out (by omega)) | (refine owns_later ?_ (Later.refl _).drew) | (refine owns_later ?_ ((Later.refl _).drewN _)))) hL)
      have HOx_12 := Lib.hid (owns_later (by repeat (with_reducible first | exact HOx_11.out | apply World.ownsRow.alloc | (apply owns_setNe; case hk => first | assumption | exact ne_own HOx_11.out (by first | omega | (simp; omega)) | exact ne_low HOx_11.out (by omega)) | (refine owns_later ?_ (Later.refl _).drew) | (refine owns_later ?_ ((Later.refl _).drewN _)))) hL)
      have HOy_12 := Lib.hid (owns_later (by repeat (with_reducible first | exact HOy_11.out | apply World.ownsRow.alloc | (apply owns_setNe; case hk => first | assumption | exact ne_own HOy_11.out (by first | omega | (simp; omega)) | exact ne_low HOy_11.out (by omega)) | (refine owns_later ?_ (Later.refl _).drew) | (refine owns_later ?_ ((Later.refl _).drewN _)))) hL)
      have HOj_12 := Lib.hid (owns_later (by repeat (with_reducible first | exact HOj_11.out | apply World.ownsRow.alloc | (apply owns_setNe; case hk => first | assumption | exact ne_own HOj_11.out (by first | omega | (simp; omega)) | exact ne_low HOj_11.out (by omega)) | (refine owns_later ?_ (Later.refl _).drew) | (refine owns_later ?_ ((Later.refl _).drewN _)))) hL)
      have HOm_12 := Lib.hid (owns_later (by repeat (with_reducible first | exact HOm_11.out | apply World.ownsRow.alloc | (apply owns_setNe; case hk => first | assumption | exact ne_own HOm_11.out (by first | omega | (simp; omega)) | exact ne_low HOm_11.out (by omega)) | (refine owns_later ?_ (Later.refl _).drew) | (refine owns_later ?_ ((Later.refl _).drewN _)))) hL)
      have HKA_12 := Lib.hid (hL.keep (k := w2.heap.size) (by repeat (with_reducible first | exact HKA_11.out | exact heap_alloc_new _ _ | (apply heap_alloc_new'; first | rfl | (simp; done)) | apply heap_alloc_old | apply st_0_2 | apply st_1_2 | apply st_0_3 | apply st_1_3 | apply st_2_3 | apply st_0_4 | apply st_1_4 | apply st_2_4 | apply st_3_4 | (apply other_set; case hne => omega) | exact heap_alloc_new' _ _ (by first | rfl | (simp; done)))))
      have HKB_12 := Lib.hid (hL.keep (k := w2.heap.size + 1) (by repeat (with_reducible first | exact HKB_11.out | exact heap_alloc_new _ _ | (apply heap_alloc_new'; first | rfl | (simp; done)) | apply heap_alloc_old | apply st_0_2 | apply st_1_2 | apply st_0_3 | apply st_1_3 | apply st_2_3 | apply st_0_4 | apply st_1_4 | apply st_2_4 | apply st_3_4 | (apply other_set; case hne => omega) | exact heap_alloc_new' _ _ (by first | rfl | (simp; done)))))
      have HKC_12 := Lib.hid (hL.keep (k := w3.heap.size) (by repeat (with_reducible first | exact HKC_11.out | exact heap_alloc_new _ _ | (apply heap_alloc_new'; first | rfl | (simp; done)) | apply heap_alloc_old | apply st_0_2 | apply st_1_2 | apply st_0_3 | apply st_1_3 | apply st_2_3 | apply st_0_4 | apply st_1_4 | apply st_2_4 | apply st_3_4 | (apply other_set; case hne => omega) | exact heap_alloc_new' _ _ (by first | rfl | (simp; done)))))
      have HKD_12 := Lib.hid (hL.keep (k := w3.heap.size + 1) (by repeat (with_reducible first | exact HKD_11.out | exact heap_alloc_new _ _ | (apply heap_alloc_new'; first | rfl | (simp; done)) | apply heap_alloc_old | apply st_0_2 | apply st_1_2 | apply st_0_3 | apply st_1_3 | apply st_2_3 | apply st_0_4 | apply st_1_4 | apply st_2_4 | apply st_3_4 | (apply other_set; case hne => omega) | exact heap_alloc_new' _ _ (by first | rfl | (simp; done)))))
      have HKE_12 := Lib.hid (hL.keep (k := w4.heap.size) (by repeat (with_reducible first | exact HKE_11.out | exact heap_alloc_new _ _ | (apply heap_alloc_new'; first | rfl | (simp; done)) | apply heap_alloc_old | apply st_0_2 | apply st_1_2 | apply st_0_3 | apply st_1_3 | apply st_2_3 | apply st_0_4 | apply st_1_4 | apply st_2_4 | apply st_3_4 | (apply other_set; case hne => omega) | exact heap_alloc_new' _ _ (by first | rfl | (simp; done)))))
      have HKF_12 := Lib.hid (hL.keep (k := w5.heap.size) (by repeat (with_reducible first | exact HKF_11.out | exact heap_alloc_new _ _ | (apply heap_alloc_new'; first | rfl | (simp; done)) | apply heap_alloc_old | apply st_0_2 | apply st_1_2 | apply st_0_3 | apply st_1_3 | apply st_2_3 | apply st_0_4 | apply st_1_4 | apply st_2_4 | apply st_3_4 | (apply other_set; case hne => omega) | exact heap_alloc_new' _ _ (by first | rfl | (simp; done)))))
      have HKG_12 := Lib.hid (hL.keep (k := w10.heap.size) (by repeat (with_reducible first | exact HKG_11.out | exact heap_alloc_new _ _ | (apply heap_alloc_new'; first | rfl | (simp; done)) | apply heap_alloc_old | apply st_0_2 | apply st_1_2 | apply st_0_3 | apply st_1_3 | apply st_2_3 | apply st_0_4 | apply st_1_4 | apply st_2_4 | apply st_3_4 | (apply other_set; case hne => omega) | exact heap_alloc_new' _ _ (by first | rfl | (simp; done)))))
      have HKH_12 := Lib.hid (hL.keep (k := w11.heap.size) (by repeat (with_reducible first | exact HKH_11.out | exact heap_alloc_new _ _ | (apply heap_alloc_new'; first | rfl | (simp; done)) | apply heap_alloc_old | apply st_0_2 | apply st_1_2 | apply st_0_3 | apply st_1_3 | apply st_2_3 | apply st_0_4 | apply st_1_4 | apply st_2_4 | apply st_3_4 | (apply other_set; case hne => omega) | exact heap_alloc_new' _ _ (by first | rfl | (simp; done)))))
      clear hL cA fA cB fB cC fC cD fD cE fE cF fF cG fG
      obtain ⟨cA, fA, zA_12⟩ := blk_at HKA_12.out
      obtain ⟨cB, fB, zB_12⟩ := blk_at HKB_12.out
      obtain ⟨cC, fC, zC_12⟩ := blk_at HKC_12.out
      obtain ⟨cD, fD, zD_12⟩ := blk_at HKD_12.out
      obtain ⟨cE, fE, zE_12⟩ := blk_at HKE_12.out
      obtain ⟨cF, fF, zF_12⟩ := blk_at HKF_12.out
      obtain ⟨cG, fG, zG_12⟩ := blk_at HKG_12.out
      obtain ⟨cH, fH, zH_12⟩ := blk_at HKH_12.out
      rw [J3.out, E1.out, E2.out]
      go_wp2_with fail
      refine (w_AddLogs _ _ _ _ _ x1 x2 x3 y1 y2 y3).mono ?_
      rintro e w13 ⟨rfl, hL⟩
      have HW13 : Hid (Later W w13) := Lib.hid (Later.trans (by repeat (with_reducible first | exact HW12.out | refine Later.alloc ?_ _ | refine Later.drew ?_ | refine Later.drewN ?_ _ | refine Later.setCell ?_ (by first | omega | (simp; omega)) _)) hL)
      have hz13 := HW13.out.size
      have HOc_13 := Lib.hid (owns_later (by repeat (with_reducible first | exact HOc_12.out | apply World.ownsRow.alloc | (apply owns_setNe; case hk => first | assumption | exact ne_own HOc_12.out (by first | omega | (simp; omega)) | exact ne_low HOc_12.out (by omega)) | (refine owns_later ?_ (Later.refl _).drew) | (refine owns_later ?_ ((Later.refl _).drewN _)))) hL)
      have HOx_13 := Lib.hid (owns_later (by repeat (with_reducible first | exact HOx_12.out | apply World.ownsRow.alloc | (apply owns_setNe; case hk => first | assumption | exact ne_own HOx_12.out (by first | omega | (simp; omega)) | exact ne_low HOx_12.out (by omega)) | (refine owns_later ?_ (Later.refl _).drew) | (refine owns_later ?_ ((Later.refl _).drewN _)))) hL)
      have HOy_13 := Lib.hid (owns_later (by repeat (with_reducible first | exact HOy_12.out | apply World.ownsRow.alloc | (apply owns_setNe; case hk => first | assumption | exact ne_own HOy_12.out (by first | omega | (simp; omega)) | exact ne_low HOy_12.out (by omega)) | (refine owns_later ?_ (Later.refl _).drew) | (refine owns_later ?_ ((Later.refl _).drewN _)))) hL)
      have HOj_13 := Lib.hid (owns_later (by repeat (with_reducible first | exact HOj_12.out | apply World.ownsRow.alloc | (apply owns_setNe; case hk => first | assumption | exact ne_own HOj_12.out (by first | omega | (simp; omega)) | exact ne_low HOj_12.out (by omega)) | (refine owns_later ?_ (Later.refl _).drew) | (refine owns_later ?_ ((Later.refl _).drewN _)))) hL)
      have HOm_13 := Lib.hid (owns_later (by repeat (with_reducible first | exact HOm_12.out | apply World.ownsRow.alloc | (apply owns_setNe; case hk => first | assumption | exact ne_own HOm_12.out (by first | omega | (simp; omega)) | exact ne_low HOm_12.out (by omega)) | (refine owns_later ?_ (Later.refl _).drew) | (refine owns_later ?_ ((Later.refl _).drewN _)))) hL)
      have HKA_13 := Lib.hid (hL.keep (k := w2.heap.size) (by repeat (with_reducible first | exact HKA_12.out | exact heap_alloc_new _ _ | (apply heap_alloc_new'; first | rfl | (simp; done)) | apply heap_alloc_old | apply st_0_2 | apply st_1_2 | apply st_0_3 | apply st_1_3 | apply st_2_3 | apply st_0_4 | apply st_1_4 | apply st_2_4 | apply st_3_4 | (apply other_set; case hne => omega) | exact heap_alloc_new' _ _ (by first | rfl | (simp; done)))))
      have HKB_13 := Lib.hid (hL.keep (k := w2.heap.size + 1) (by repeat (with_reducible first | exact HKB_12.out | exact heap_alloc_new _ _ | (apply heap_alloc_new'; first | rfl | (simp; done)) | apply heap_alloc_old | apply st_0_2 | apply st_1_2 | apply st_0_3 | apply st_1_3 | apply st_2_3 | apply st_0_4 | apply st_1_4 | apply st_2_4 | apply st_3_4 | (apply other_set; case hne => omega) | exact heap_alloc_new' _ _ (by first | rfl | (simp; done)))))
      have HKC_13 := Lib.hid (hL.keep (k := w3.heap.size) (by repeat (with_reducible first | exact HKC_12.out | exact heap_alloc_new _ _ | (apply heap_alloc_new'; first | rfl | (simp; done)) | apply heap_alloc_old | apply st_0_2 | apply st_1_2 | apply st_0_3 | apply st_1_3 | apply st_2_3 | apply st_0_4 | apply st_1_4 | apply st_2_4 | apply st_3_4 | (apply other_set; case hne => omega) | exact heap_alloc_new' _ _ (by first | rfl | (simp; done)))))
      have HKD_13 := Lib.hid (hL.keep (k := w3.heap.size + 1) (by repeat (with_reducible first | exact HKD_12.out | exact heap_alloc_new _ _ | (apply heap_alloc_new'; first | rfl | (simp; done)) | apply heap_alloc_old | apply st_0_2 | apply st_1_2 | apply st_0_3 | apply st_1_3 | apply st_2_3 | apply st_0_4 | apply st_1_4 | apply st_2_4 | apply st_3_4 | (apply other_set; case hne => omega) | exact heap_alloc_new' _ _ (by first | rfl | (simp; done)))))
      have HKE_13 := Lib.hid (hL.keep (k := w4.heap.size) (by repeat (with_reducible first | exact HKE_12.out | exact heap_alloc_new _ _ | (apply heap_alloc_new'; first | rfl | (simp; done)) | apply heap_alloc_old | apply st_0_2 | apply st_1_2 | apply st_0_3 | apply st_1_3 | apply st_2_3 | apply st_0_4 | apply st_1_4 | apply st_2_4 | apply st_3_4 | (apply other_set; case hne => omega) | exact heap_alloc_new' _ _ (by first | rfl | (simp; done)))))
      have HKF_13 := Lib.hid (hL.keep (k := w5.heap.size) (by repeat (with_reducible first | exact HKF_12.out | exact heap_alloc_new _ _ | (apply heap_alloc_new'; first | rfl | (simp; done)) | apply heap_alloc_old | apply st_0_2 | apply st_1_2 | apply st_0_3 | apply st_1_3 | apply st_2_3 | apply st_0_4 | apply st_1_4 | apply st_2_4 | apply st_3_4 | (apply other_set; case hne => omega) | exact heap_alloc_new' _ _ (by first | rfl | (simp; done)))))
      have HKG_13 := Lib.hid (hL.keep (k := w10.heap.size) (by repeat (with_reducible first | exact HKG_12.out | exact heap_alloc_new _ _ | (apply heap_alloc_new'; first | rfl | (simp; done)) | apply heap_alloc_old | apply st_0_2 | apply st_1_2 | apply st_0_3 | apply st_1_3 | apply st_2_3 | apply st_0_4 | apply st_1_4 | apply st_2_4 | apply st_3_4 | (apply other_set; case hne => omega) | exact heap_alloc_new' _ _ (by first | rfl | (simp; done)))))
      have HKH_13 := Lib.hid (hL.keep (k := w11.heap.size) (by repeat (with_reducible first | exact HKH_12.out | exact heap_alloc_new _ _ | (apply heap_alloc_new'; first | rfl | (simp; done)) | apply heap_alloc_old | apply st_0_2 | apply st_1_2 | apply st_0_3 | apply st_1_3 | apply st_2_3 | apply st_0_4 | apply st_1_4 | apply st_2_4 | apply st_3_4 | (apply other_set; case hne => omega) | exact heap_alloc_new' _ _ (by first | rfl | (simp; done)))))
      have HKI_13 := Lib.hid (hL.keep (k := w12.heap.size) (by repeat (with_reducible first | exact HKI_12.out | exact heap_alloc_new _ _ | (apply heap_alloc_new'; first | rfl | (simp; done)) | apply heap_alloc_old | apply st_0_2 | apply st_1_2 | apply st_0_3 | apply st_1_3 | apply st_2_3 | apply st_0_4 | apply st_1_4 | apply st_2_4 | apply st_3_4 | (apply other_set; case hne => omega) | exact heap_alloc_new' _ _ (by first | rfl | (simp; done)))))
      clear hL cA fA cB fB cC fC cD fD cE fE cF fF cG fG cH fH
      obtain ⟨cA, fA, zA_13⟩ := blk_at HKA_13.out
      obtain ⟨cB, fB, zB_13⟩ := blk_at HKB_13.out
      obtain ⟨cC, fC, zC_13⟩ := blk_at HKC_13.out
      obtain ⟨cD, fD, zD_13⟩ := blk_at HKD_13.out
      obtain ⟨cE, fE, zE_13⟩ := blk_at HKE_13.out
      obtain ⟨cF, fF, zF_13⟩ := blk_at HKF_13.out
      obtain ⟨cG, fG, zG_13⟩ := blk_at HKG_13.out
      obtain ⟨cH, fH, zH_13⟩ := blk_at HKH_13.out
      obtain ⟨cI, fI, zI_13⟩ := blk_at HKI_13.out
      go_wp2_with fail
      refine (w_SubtractLogs _ _ _ _ _ x1 x2 x3 y1 y2 y3).mono ?_
      rintro e w14 ⟨rfl, hL⟩
      have HW14 : Hid (Later W w14) := Lib.hid (Later.trans (by repeat (with_reducible first | exact HW13.out | refine Later.alloc ?_ _ | refine Later.drew ?_ | refine Later.drewN ?_ _ | refine Later.setCell ?_ (by first | omega | (simp; omega)) _)) hL)
      have hz14 := HW14.out.size
      have HOc_14 := Lib.hid (owns_later (by repeat (with_reducible first | exact HOc_13.out | apply World.ownsRow.alloc | (apply owns_setNe; case hk => first | assumption | exact ne_own HOc_13.out (by first | omega | (simp; omega)) | exact ne_low HOc_13.out (by omega)) | (refine owns_later ?_ (Later.refl _).drew) | (refine owns_later ?_ ((Later.refl _).drewN _)))) hL)
      have HOx_14 := Lib.hid (owns_later (by repeat (with_reducible first | exact HOx_13.out | apply World.ownsRow.alloc | (apply owns_setNe; case hk => first | assumption | exact ne_own HOx_13.out (by first | omega | (simp; omega)) | exact ne_low HOx_13.out (by omega)) | (refine owns_later ?_ (Later.refl _).drew) | (refine owns_later ?_ ((Later.refl _).drewN _)))) hL)
      have HOy_14 := Lib.hid (owns_later (by repeat (with_reducible first | exact HOy_13.out | apply World.ownsRow.alloc | (apply owns_setNe; case hk => first | assumption | exact ne_own HOy_13.out (by first | omega | (simp; omega)) | exact ne_low HOy_13.out (by omega)) | (refine owns_later ?_ (Later.refl _).drew) | (refine owns_later ?_ ((Later.refl _).drewN _)))) hL)
      have HOj_14 := Lib.hid (owns_later (by repeat (with_reducible first | exact HOj_13.out | apply World.ownsRow.alloc | (apply owns_setNe; case hk => first | assumption | exact ne_own HOj_13.out (by first | omega | (simp; omega)) | exact ne_low HOj_13.out (by omega)) | (refine owns_later ?_ (Later.refl _).drew) | (refine owns_later ?_ ((Later.refl _).drewN _)))) hL)
      have HOm_14 := Lib.hid (owns_later (by repeat (with_reducible first | exact HOm_13.out | apply World.ownsRow.alloc | (apply owns_setNe; case hk => first | assumption | exact ne_own HOm_13.out (by first | omega | (simp; omega)) | exact ne_low HOm_13.out (by omega)) | (refine owns_later ?_ (Later.refl _).drew) | (refine owns_later ?_ ((Later.refl _).drewN _)))) hL)
      have HKA_14 := Lib.hid (hL.keep (k := w2.heap.size) (by repeat (with_reducible first | exact HKA_13.out | exact heap_alloc_new _ _ | (apply heap_alloc_new'; first | rfl | (simp; done)) | apply heap_alloc_old | apply st_0_2 | apply st_1_2 | apply st_0_3 | apply st_1_3 | apply st_2_3 | apply st_0_4 | apply st_1_4 | apply st_2_4 | apply st_3_4 | (apply other_set; case hne => omega) | exact heap_alloc_new' _ _ (by first | rfl | (simp; done)))))
      have HKB_14 := Lib.hid (hL.keep (k := w2.heap.size + 1) (by repeat (with_reducible first | exact HKB_13.out | exact heap_alloc_new _ _ | (apply heap_alloc_new'; first | rfl | (simp; done)) | apply heap_alloc_old | apply st_0_2 | apply st_1_2 | apply st_0_3 | apply st_1_3 | apply st_2_3 | apply st_0_4 | apply st_1_4 | apply st_2_4 | apply st_3_4 | (apply other_set; case hne => omega) | exact heap_alloc_new' _ _ (by first | rfl | (simp; done)))))
      have HKC_14 := Lib.hid (hL.keep (k := w3.heap.size) (by repeat (with_reducible first | exact HKC_13.out | exact heap_alloc_new _ _ | (apply heap_alloc_new'; first | rfl | (simp; done)) | apply heap_alloc_old | apply st_0_2 | apply st_1_2 | apply st_0_3 | apply st_1_3 | apply st_2_3 | apply st_0_4 | apply st_1_4 | apply st_2_4 | apply st_3_4 | (apply other_set; case hne => omega) | exact heap_alloc_new' _ _ (by first | rfl | (simp; done)))))
      have HKD_14 := Lib.hid (hL.keep (k := w3.heap.size + 1) (by repeat (with_reducible first | exact HKD_13.out | exact heap_alloc_new _ _ | (apply heap_alloc_new'; first | rfl | (simp; done)) | apply heap_alloc_old | apply st_0_2 | apply st_1_2 | apply st_0_3 | apply st_1_3 | apply st_2_3 | apply st_0_4 | apply st_1_4 | apply st_2_4 | apply st_3_4 | (apply other_set; case hne => omega) | exact heap_alloc_new' _ _ (by first | rfl | (simp; done)))))
      have HKE_14 := Lib.hid (hL.keep (k := w4.heap.size) (by repeat (with_reducible first | exact HKE_13.out | exact heap_alloc_new _ _ | (apply heap_alloc_new'; first | rfl | (simp; done)) | apply heap_alloc_old | apply st_0_2 | apply st_1_2 | apply st_0_3 | apply st_1_3 | apply st_2_3 | apply st_0_4 | apply st_1_4 | apply st_2_4 | apply st_3_4 | (apply other_set; case hne => omega) | exact heap_alloc_new' _ _ (by first | rfl | (simp; done)))))
      have HKF_14 := Lib.hid (hL.keep (k := w5.heap.size) (by repeat (with_reducible first | exact HKF_13.out | exact heap_alloc_new _ _ | (apply heap_alloc_new'; first | rfl | (simp; done)) | apply heap_alloc_old | apply st_0_2 | apply st_1_2 | apply st_0_3 | apply st_1_3 | apply st_2_3 | apply st_0_4 | apply st_1_4 | apply st_2_4 | apply st_3_4 | (apply other_set; case hne => omega) | exact heap_alloc_new' _ _ (by first | rfl | (simp; done)))))
      have HKG_14 := Lib.hid (hL.keep (k := w10.heap.size) (by repeat (with_reducible first | exact HKG_13.out | exact heap_alloc_new _ _ | (apply heap_alloc_new'; first | rfl | (simp; done)) | apply heap_alloc_old | apply st_0_2 | apply st_1_2 | apply st_0_3 | apply st_1_3 | apply st_2_3 | apply st_0_4 | apply st_1_4 | apply st_2_4 | apply st_3_4 | (apply other_set; case hne => omega) | exact heap_alloc_new' _ _ (by first | rfl | (simp; done)))))
      have HKH_14 := Lib.hid (hL.keep (k := w11.heap.size) (by repeat (with_reducible first | exact HKH_13.out | exact heap_alloc_new _ _ | (apply heap_alloc_new'; first | rfl | (simp; done)) | apply heap_alloc_old | apply st_0_2 | apply st_1_2 | apply st_0_3 | apply st_1_3 | apply st_2_3 | apply st_0_4 | apply st_1_4 | apply st_2_4 | apply st_3_4 | (apply other_set; case hne => omega) | exact heap_alloc_new' _ _ (by first | rfl | (simp; done)))))
      have HKI_14 := Lib.hid (hL.keep (k := w12.heap.size) (by repeat (with_reducible first | exact HKI_13.out | exact heap_alloc_new _ _ | (apply heap_alloc_new'; first | rfl | (simp; done)) | apply heap_alloc_old | apply st_0_2 | apply st_1_2 | apply st_0_3 | apply st_1_3 | apply st_2_3 | apply st_0_4 | apply st_1_4 | apply st_2_4 | apply st_3_4 | (apply other_set; case hne => omega) | exact heap_alloc_new' _ _ (by first | rfl | (simp; done)))))
      have HKJ_14 := Lib.hid (hL.keep (k := w13.heap.size) (by repeat (with_reducible first | exact HKJ_13.out | exact heap_alloc_new _ _ | (apply heap_alloc_new'; first | rfl | (simp; done)) | apply heap_alloc_old | apply st_0_2 | apply st_1_2 | apply st_0_3 | apply st_1_3 | apply st_2_3 | apply st_0_4 | apply st_1_4 | apply st_2_4 | apply st_3_4 | (apply other_set; case hne => omega) | exact heap_alloc_new' _ _ (by first | rfl | (simp; done)))))
      clear hL cA fA cB fB cC fC cD fD cE fE cF fF cG fG cH fH cI fI
      obtain ⟨cA, fA, zA_14⟩ := blk_at HKA_14.out
      obtain ⟨cB, fB, zB_14⟩ := blk_at HKB_14.out
      obtain ⟨cC, fC, zC_14⟩ := blk_at HKC_14.out
      obtain ⟨cD, fD, zD_14⟩ := blk_at HKD_14.out
      obtain ⟨cE, fE, zE_14⟩ := blk_at HKE_14.out
      obtain ⟨cF, fF, zF_14⟩ := blk_at HKF_14.out
      obtain ⟨cG, fG, zG_14⟩ := blk_at HKG_14.out
      obtain ⟨cH, fH, zH_14⟩ := blk_at HKH_14.out
      obtain ⟨cI, fI, zI_14⟩ := blk_at HKI_14.out
      obtain ⟨cJ, fJ, zJ_14⟩ := blk_at HKJ_14.out
      clear HOc_14
      clear HOx_14
      clear HOy_14
      clear HOj_14
      clear HOm_14
      by_cases hp : chainSpanC l = 0
      · skip
        have hpz : (chainSpanC l != 0) = false := by simpa using hp
        by_cases hq : chainFigC l = 0
        · skip
          have hqz : (chainFigC l != 0) = false := by simpa using hq
          obtain ⟨g1, g2, g3⟩ := values_figs hp hq
          obtain ⟨r1, r2, r3, r4⟩ := values_rel hp hq
          have G1 := Lib.hid (show isFig ⟨(chainFig l).d, (chainFig l).t⟩ = true from g1)
          have G2 := Lib.hid (show isFig ⟨(chainSpanL l).d, (chainSpanL l).t⟩ = true from g2)
          have G3 := Lib.hid (show isFig ⟨(chainSpanH l).d, (chainSpanH l).t⟩ = true from g3)
          have R1 := Lib.hid r1
          have R3 := Lib.hid r3
          have wl : IntKind.i64.wrap (1000 * (l.length : Int)) = 1000 * l.length := wrap_same (by omega) (by omega)
          have wm : IntKind.i64.wrap (1000 * (l.length : Int) + 2200) = 1000 * l.length + 2200 := wrap_same (by omega) (by omega)
          have d1 : decide (relV (chainFig l) (chainSpanL l) ≤ 1000 * (l.length : Int) + 2200) = true := by simp; omega
          have d2 : decide (relV (chainFig l) (chainSpanH l) ≤ 1000 * (l.length : Int) + 2200) = true := by simp; omega
          clear g1 g2 g3 r1 r2 r3 r4
          go_wp2_with fail
          refine (w_implRelativeError (chainFig l).d (chainFig l).t (chainSpanL l).d (chainSpanL l).t _ G1.out G2.out).mono ?_
          rintro e w15 ⟨rfl, hL⟩
          have HW15 : Hid (Later W w15) := Lib.hid (Later.trans (by repeat (with_reducible first | exact HW14.out | refine Later.alloc ?_ _ | refine Later.drew ?_ | refine Later.drewN ?_ _ | refine Later.setCell ?_ (by first | omega | (simp; omega)) _)) hL)
          have hz15 := HW15.out.size
          have HKA_15 := Lib.hid (hL.keep (k := w2.heap.size) (by repeat (with_reducible first | exact HKA_14.out | exact heap_alloc_new _ _ | (apply heap_alloc_new'; first | rfl | (simp; done)) | apply heap_alloc_old | apply st_0_2 | apply st_1_2 | apply st_0_3 | apply st_1_3 | apply st_2_3 | apply st_0_4 | apply st_1_4 | apply st_2_4 | apply st_3_4 | (apply other_set; case hne => omega) | exact heap_alloc_new' _ _ (by first | rfl | (simp; done)))))
          have HKB_15 := Lib.hid (hL.keep (k := w2.heap.size + 1) (by repeat (with_reducible first | exact HKB_14.out | exact heap_alloc_new _ _ | (apply heap_alloc_new'; first | rfl | (simp; done)) | apply heap_alloc_old | apply st_0_2 | apply st_1_2 | apply st_0_3 | apply st_1_3 | apply st_2_3 | apply st_0_4 | apply st_1_4 | apply st_2_4 | apply st_3_4 | (apply other_set; case hne => omega) | exact heap_alloc_new' _ _ (by first | rfl | (simp; done)))))
          have HKC_15 := Lib.hid (hL.keep (k := w3.heap.size) (by repeat (with_reducible first | exact HKC_14.out | exact heap_alloc_new _ _ | (apply heap_alloc_new'; first | rfl | (simp; done)) | apply heap_alloc_old | apply st_0_2 | apply st_1_2 | apply st_0_3 | apply st_1_3 | apply st_2_3 | apply st_0_4 | apply st_1_4 | apply st_2_4 | apply st_3_4 | (apply other_set; case hne => omega) | exact heap_alloc_new' _ _ (by first | rfl | (simp; done)))))
          have HKD_15 := Lib.hid (hL.keep (k := w3.heap.size + 1) (by repeat (with_reducible first | exact HKD_14.out | exact heap_alloc_new _ _ | (apply heap_alloc_new'; first | rfl | (simp; done)) | apply heap_alloc_old | apply st_0_2 | apply st_1_2 | apply st_0_3 | apply st_1_3 | apply st_2_3 | apply st_0_4 | apply st_1_4 | apply st_2_4 | apply st_3_4 | (apply other_set; case hne => omega) | exact heap_alloc_new' _ _ (by first | rfl | (simp; done)))))
          have HKE_15 := Lib.hid (hL.keep (k := w4.heap.size) (by repeat (with_reducible first | exact HKE_14.out | exact heap_alloc_new _ _ | (apply heap_alloc_new'; first | rfl | (simp; done)) | apply heap_alloc_old | apply st_0_2 | apply st_1_2 | apply st_0_3 | apply st_1_3 | apply st_2_3 | apply st_0_4 | apply st_1_4 | apply st_2_4 | apply st_3_4 | (apply other_set; case hne => omega) | exact heap_alloc_new' _ _ (by first | rfl | (simp; done)))))
          have HKF_15 := Lib.hid (hL.keep (k := w5.heap.size) (by repeat (with_reducible first | exact HKF_14.out | exact heap_alloc_new _ _ | (apply heap_alloc_new'; first | rfl | (simp; done)) | apply heap_alloc_old | apply st_0_2 | apply st_1_2 | apply st_0_3 | apply st_1_3 | apply st_2_3 | apply st_0_4 | apply st_1_4 | apply st_2_4 | apply st_3_4 | (apply other_set; case hne => omega) | exact heap_alloc_new' _ _ (by first | rfl | (simp; done)))))
          have HKG_15 := Lib.hid (hL.keep (k := w10.heap.size) (by repeat (with_reducible first | exact HKG_14.out | exact heap_alloc_new _ _ | (apply heap_alloc_new'; first | rfl | (simp; done)) | apply heap_alloc_old | apply st_0_2 | apply st_1_2 | apply st_0_3 | apply st_1_3 | apply st_2_3 | apply st_0_4 | apply st_1_4 | apply st_2_4 | apply st_3_4 | (apply other_set; case hne => omega) | exact heap_alloc_new' _ _ (by first | rfl | (simp; done)))))
          have HKH_15 := Lib.hid (hL.keep (k := w11.heap.size) (by repeat (with_reducible first | exact HKH_14.out | exact heap_alloc_new _ _ | (apply heap_alloc_new'; first | rfl | (simp; done)) | apply heap_alloc_old | apply st_0_2 | apply st_1_2 | apply st_0_3 | apply st_1_3 | apply st_2_3 | apply st_0_4 | apply st_1_4 | apply st_2_4 | apply st_3_4 | (apply other_set; case hne => omega) | exact heap_alloc_new' _ _ (by first | rfl | (simp; done)))))
          have HKI_15 := Lib.hid (hL.keep (k := w12.heap.size) (by repeat (with_reducible first | exact HKI_14.out | exact heap_alloc_new _ _ | (apply heap_alloc_new'; first | rfl | (simp; done)) | apply heap_alloc_old | apply st_0_2 | apply st_1_2 | apply st_0_3 | apply st_1_3 | apply st_2_3 | apply st_0_4 | apply st_1_4 | apply st_2_4 | apply st_3_4 | (apply other_set; case hne => omega) | exact heap_alloc_new' _ _ (by first | rfl | (simp; done)))))
          have HKJ_15 := Lib.hid (hL.keep (k := w13.heap.size) (by repeat (with_reducible first | exact HKJ_14.out | exact heap_alloc_new _ _ | (apply heap_alloc_new'; first | rfl | (simp; done)) | apply heap_alloc_old | apply st_0_2 | apply st_1_2 | apply st_0_3 | apply st_1_3 | apply st_2_3 | apply st_0_4 | apply st_1_4 | apply st_2_4 | apply st_3_4 | (apply other_set; case hne => omega) | exact heap_alloc_new' _ _ (by first | rfl | (simp; done)))))
          clear hL cA fA cB fB cC fC cD fD cE fE cF fF cG fG cH fH cI fI cJ fJ
          obtain ⟨cA, fA, zA_15⟩ := blk_at HKA_15.out
          obtain ⟨cB, fB, zB_15⟩ := blk_at HKB_15.out
          obtain ⟨cC, fC, zC_15⟩ := blk_at HKC_15.out
          obtain ⟨cD, fD, zD_15⟩ := blk_at HKD_15.out
          obtain ⟨cE, fE, zE_15⟩ := blk_at HKE_15.out
          obtain ⟨cF, fF, zF_15⟩ := blk_at HKF_15.out
          obtain ⟨cG, fG, zG_15⟩ := blk_at HKG_15.out
          obtain ⟨cH, fH, zH_15⟩ := blk_at HKH_15.out
          obtain ⟨cI, fI, zI_15⟩ := blk_at HKI_15.out
          obtain ⟨cJ, fJ, zJ_15⟩ := blk_at HKJ_15.out
          rw [show relC ⟨(chainFig l).d, (chainFig l).t⟩ ⟨(chainSpanL l).d, (chainSpanL l).t⟩ = 0 from R1.out, show relV ⟨(chainFig l).d, (chainFig l).t⟩ ⟨(chainSpanL l).d, (chainSpanL l).t⟩ = relV (chainFig l) (chainSpanL l) from rfl]
          go_wp2_with fail
          refine (w_implRelativeError (chainFig l).d (chainFig l).t (chainSpanH l).d (chainSpanH l).t _ G1.out G3.out).mono ?_
          rintro e w16 ⟨rfl, hL⟩
          have HW16 : Hid (Later W w16) := Lib.hid (Later.trans (by repeat (with_reducible first | exact HW15.out | refine Later.alloc ?_ _ | refine Later.drew ?_ | refine Later.drewN ?_ _ | refine Later.setCell ?_ (by first | omega | (simp; omega)) _)) hL)
          have hz16 := HW16.out.size
          have HKA_16 := Lib.hid (hL.keep (k := w2.heap.size) (by repeat (with_reducible first | exact HKA_15.out | exact heap_alloc_new _ _ | (apply heap_alloc_new'; first | rfl | (simp; done)) | apply heap_alloc_old | apply st_0_2 | apply st_1_2 | apply st_0_3 | apply st_1_3 | apply st_2_3 | apply st_0_4 | apply st_1_4 | apply st_2_4 | apply st_3_4 | (apply other_set; case hne => omega) | exact heap_alloc_new' _ _ (by first | rfl | (simp; done)))))
          have HKB_16 := Lib.hid (hL.keep (k := w2.heap.size + 1) (by repeat (with_reducible first | exact HKB_15.out | exact heap_alloc_new _ _ | (apply heap_alloc_new'; first | rfl | (simp; done)) | apply heap_alloc_old | apply st_0_2 | apply st_1_2 | apply st_0_3 | apply st_1_3 | apply st_2_3 | apply st_0_4 | apply st_1_4 | apply st_2_4 | apply st_3_4 | (apply other_set; case hne => omega) | exact heap_alloc_new' _ _ (by first | rfl | (simp; done)))))
          have HKC_16 := Lib.hid (hL.keep (k := w3.heap.size) (by repeat (with_reducible first | exact HKC_15.out | exact heap_alloc_new _ _ | (apply heap_alloc_new'; first | rfl | (simp; done)) | apply heap_alloc_old | apply st_0_2 | apply st_1_2 | apply st_0_3 | apply st_1_3 | apply st_2_3 | apply st_0_4 | apply st_1_4 | apply st_2_4 | apply st_3_4 | (apply other_set; case hne => omega) | exact heap_alloc_new' _ _ (by first | rfl | (simp; done)))))
          have HKD_16 := Lib.hid (hL.keep (k := w3.heap.size + 1) (by repeat (with_reducible first | exact HKD_15.out | exact heap_alloc_new _ _ | (apply heap_alloc_new'; first | rfl | (simp; done)) | apply heap_alloc_old | apply st_0_2 | apply st_1_2 | apply st_0_3 | apply st_1_3 | apply st_2_3 | apply st_0_4 | apply st_1_4 | apply st_2_4 | apply st_3_4 | (apply other_set; case hne => omega) | exact heap_alloc_new' _ _ (by first | rfl | (simp; done)))))
          have HKE_16 := Lib.hid (hL.keep (k := w4.heap.size) (by repeat (with_reducible first | exact HKE_15.out | exact heap_alloc_new _ _ | (apply heap_alloc_new'; first | rfl | (simp; done)) | apply heap_alloc_old | apply st_0_2 | apply st_1_2 | apply st_0_3 | apply st_1_3 | apply st_2_3 | apply st_0_4 | apply st_1_4 | apply st_2_4 | apply st_3_4 | (apply other_set; case hne => omega) | exact heap_alloc_new' _ _ (by first | rfl | (simp; done)))))
          have HKF_16 := Lib.hid (hL.keep (k := w5.heap.size) (by repeat (with_reducible first | exact HKF_15.out | exact heap_alloc_new _ _ | (apply heap_alloc_new'; first | rfl | (simp; done)) | apply heap_alloc_old | apply st_0_2 | apply st_1_2 | apply st_0_3 | apply st_1_3 | apply st_2_3 | apply st_0_4 | apply st_1_4 | apply st_2_4 | apply st_3_4 | (apply other_set; case hne => omega) | exact heap_alloc_new' _ _ (by first | rfl | (simp; done)))))
          have HKG_16 := Lib.hid (hL.keep (k := w10.heap.size) (by repeat (with_reducible first | exact HKG_15.out | exact heap_alloc_new _ _ | (apply heap_alloc_new'; first | rfl | (simp; done)) | apply heap_alloc_old | apply st_0_2 | apply st_1_2 | apply st_0_3 | apply st_1_3 | apply st_2_3 | apply st_0_4 | apply st_1_4 | apply st_2_4 | apply st_3_4 | (apply other_set; case hne => omega) | exact heap_alloc_new' _ _ (by first | rfl | (simp; done)))))
          have HKH_16 := Lib.hid (hL.keep (k := w11.heap.size) (by repeat (with_reducible first | exact HKH_15.out | exact heap_alloc_new _ _ | (apply heap_alloc_new'; first | rfl | (simp; done)) | apply heap_alloc_old | apply st_0_2 | apply st_1_2 | apply st_0_3 | apply st_1_3 | apply st_2_3 | apply st_0_4 | apply st_1_4 | apply st_2_4 | apply st_3_4 | (apply other_set; case hne => omega) | exact heap_alloc_new' _ _ (by first | rfl | (simp; done)))))
          have HKI_16 := Lib.hid (hL.keep (k := w12.heap.size) (by repeat (with_reducible first | exact HKI_15.out | exact heap_alloc_new _ _ | (apply heap_alloc_new'; first | rfl | (simp; done)) | apply heap_alloc_old | apply st_0_2 | apply st_1_2 | apply st_0_3 | apply st_1_3 | apply st_2_3 | apply st_0_4 | apply st_1_4 | apply st_2_4 | apply st_3_4 | (apply other_set; case hne => omega) | exact heap_alloc_new' _ _ (by first | rfl | (simp; done)))))
          have HKJ_16 := Lib.hid (hL.keep (k := w13.heap.size) (by repeat (with_reducible first | exact HKJ_15.out | exact heap_alloc_new _ _ | (apply heap_alloc_new'; first | rfl | (simp; done)) | apply heap_alloc_old | apply st_0_2 | apply st_1_2 | apply st_0_3 | apply st_1_3 | apply st_2_3 | apply st_0_4 | apply st_1_4 | apply st_2_4 | apply st_3_4 | (apply other_set; case hne => omega) | exact heap_alloc_new' _ _ (by first | rfl | (simp; done)))))
          clear hL cA fA cB fB cC fC cD fD cE fE cF fF cG fG cH fH cI fI cJ fJ
          obtain ⟨cA, fA, zA_16⟩ := blk_at HKA_16.out
          obtain ⟨cB, fB, zB_16⟩ := blk_at HKB_16.out
          obtain ⟨cC, fC, zC_16⟩ := blk_at HKC_16.out
          obtain ⟨cD, fD, zD_16⟩ := blk_at HKD_16.out
          obtain ⟨cE, fE, zE_16⟩ := blk_at HKE_16.out
          obtain ⟨cF, fF, zF_16⟩ := blk_at HKF_16.out
          obtain ⟨cG, fG, zG_16⟩ := blk_at HKG_16.out
          obtain ⟨cH, fH, zH_16⟩ := blk_at HKH_16.out
          obtain ⟨cI, fI, zI_16⟩ := blk_at HKI_16.out
          obtain ⟨cJ, fJ, zJ_16⟩ := blk_at HKJ_16.out
          rw [show relC ⟨(chainFig l).d, (chainFig l).t⟩ ⟨(chainSpanH l).d, (chainSpanH l).t⟩ = 0 from R3.out, show relV ⟨(chainFig l).d, (chainFig l).t⟩ ⟨(chainSpanH l).d, (chainSpanH l).t⟩ = relV (chainFig l) (chainSpanH l) from rfl]
          go_wp2
          go_ret
          exact ⟨rfl, (by repeat (with_reducible first | exact HW16.out | refine Later.alloc ?_ _ | refine Later.drew ?_ | refine Later.drewN ?_ _ | refine Later.setCell ?_ (by first | omega | (simp; omega)) _))⟩
        · skip
          have hqb : (chainFigC l != 0) = true := by simpa using hq
          go_wp2
          go_ret
          exact ⟨rfl, (by repeat (with_reducible first | exact HW14.out | refine Later.alloc ?_ _ | refine Later.drew ?_ | refine Later.drewN ?_ _ | refine Later.setCell ?_ (by first | omega | (simp; omega)) _))⟩
      · skip
        have hpb : (chainSpanC l != 0) = true := by simpa using hp
        go_wp2
        go_ret
        exact ⟨rfl, (by repeat (with_reducible first | exact HW14.out | refine Later.alloc ?_ _ | refine Later.drew ?_ | refine Later.drewN ?_ _ | refine Later.setCell ?_ (by first | omega | (simp; omega)) _))⟩
    · skip
      obtain rfl : dv = false := by simpa using hdv
      obtain ⟨j1, j2, j3, j4, j5⟩ := join_law hj
      have J1 := Lib.hid (codeChain_0 j1)
      have J2 := Lib.hid (codeChain_0 j2)
      have J3 := Lib.hid (codeChain_0 j3)
      obtain ⟨x1, x2, x3⟩ := chainLog_bd3 lx
      obtain ⟨y1, y2, y3⟩ := chainLog_bd3 ly
      obtain ⟨e1, e2⟩ := j5 rfl
      have E1 := Lib.hid e1
      have E2 := Lib.hid e2
      clear j1 j2 j3 j4 j5 e1 e2
      go_wp2_with fail
      refine (w_implChainLog _ lx _ (reads_of_owns (by repeat (with_reducible first | exact HOx_9.out | apply World.ownsRow.alloc | (apply owns_setNe; case hk => first | assumption | exact ne_own HOx_9.out (by first | omega | (simp; omega)) | exact ne_low HOx_9.out (by omega)) | (refine owns_later ?_ (Later.refl _).drew) | (refine owns_later ?_ ((Later.refl _).drewN _)))) (by omega))).mono ?_
      rintro e w10 ⟨rfl, hL⟩
      have HW10 : Hid (Later W w10) := Lib.hid (Later.trans (by repeat (with_reducible first | exact HW9.out | refine Later.alloc ?_ _ | refine Later.drew ?_ | refine Later.drewN ?_ _ | refine Later.setCell ?_ (by first | omega | (simp; omega)) _)) hL)
      have hz10 := HW10.out.size
      have HOc_10 := Lib.hid (owns_later (by repeat (with_reducible first | exact HOc_9.out | apply World.ownsRow.alloc | (apply owns_setNe; case hk => first | assumption | exact ne_own HOc_9.out (by first | omega | (simp; omega)) | exact ne_low HOc_9.out (by omega)) | (refine owns_later ?_ (Later.refl _).drew) | (refine owns_later ?_ ((Later.refl _).drewN _)))) hL)
      have HOx_10 := Lib.hid (owns_later (by repeat (with_reducible first | exact HOx_9.out | apply World.ownsRow.alloc | (apply owns_setNe; case hk => first | assumption | exact ne_own HOx_9.out (by first | omega | (simp; omega)) | exact ne_low HOx_9.out (by omega)) | (refine owns_later ?_ (Later.refl _).drew) | (refine owns_later ?_ ((Later.refl _).drewN _)))) hL)
      have HOy_10 := Lib.hid (owns_later (by repeat (with_reducible first | exact HOy_9.out | apply World.ownsRow.alloc | (apply owns_setNe; case hk => first | assumption | exact ne_own HOy_9.out (by first | omega | (simp; omega)) | exact ne_low HOy_9.out (by omega)) | (refine owns_later ?_ (Later.refl _).drew) | (refine owns_later ?_ ((Later.refl _).drewN _)))) hL)
      have HOj_10 := Lib.hid (owns_later (by repeat (with_reducible first | exact HOj_9.out | apply World.ownsRow.alloc | (apply owns_setNe; case hk => first | assumption | exact ne_own HOj_9.out (by first | omega | (simp; omega)) | exact ne_low HOj_9.out (by omega)) | (refine owns_later ?_ (Later.refl _).drew) | (refine owns_later ?_ ((Later.refl _).drewN _)))) hL)
      have HOm_10 := Lib.hid (owns_later (by repeat (with_reducible first | exact HOm_9.out | apply World.ownsRow.alloc | (apply owns_setNe; case hk => first | assumption | exact ne_own HOm_9.out (by first | omega | (simp; omega)) | exact ne_low HOm_9.out (by omega)) | (refine owns_later ?_ (Later.refl _).drew) | (refine owns_later ?_ ((Later.refl _).drewN _)))) hL)
      have HKA_10 := Lib.hid (hL.keep (k := w2.heap.size) (by repeat (with_reducible first | exact HKA_9.out | exact heap_alloc_new _ _ | (apply heap_alloc_new'; first | rfl | (simp; done)) | apply heap_alloc_old | apply st_0_2 | apply st_1_2 | apply st_0_3 | apply st_1_3 | apply st_2_3 | apply st_0_4 | apply st_1_4 | apply st_2_4 | apply st_3_4 | (apply other_set; case hne => omega) | exact heap_alloc_new' _ _ (by first | rfl | (simp; done)))))
      have HKB_10 := Lib.hid (hL.keep (k := w2.heap.size + 1) (by repeat (with_reducible first | exact HKB_9.out | exact heap_alloc_new _ _ | (apply heap_alloc_new'; first | rfl | (simp; done)) | apply heap_alloc_old | apply st_0_2 | apply st_1_2 | apply st_0_3 | apply st_1_3 | apply st_2_3 | apply st_0_4 | apply st_1_4 | apply st_2_4 | apply st_3_4 | (apply other_set; case hne => omega) | exact heap_alloc_new' _ _ (by first | rfl | (simp; done)))))
      have HKC_10 := Lib.hid (hL.keep (k := w3.heap.size) (by repeat (with_reducible first | exact HKC_9.out | exact heap_alloc_new _ _ | (apply heap_alloc_new'; first | rfl | (simp; done)) | apply heap_alloc_old | apply st_0_2 | apply st_1_2 | apply st_0_3 | apply st_1_3 | apply st_2_3 | apply st_0_4 | apply st_1_4 | apply st_2_4 | apply st_3_4 | (apply other_set; case hne => omega) | exact heap_alloc_new' _ _ (by first | rfl | (simp; done)))))
      have HKD_10 := Lib.hid (hL.keep (k := w3.heap.size + 1) (by repeat (with_reducible first | exact HKD_9.out | exact heap_alloc_new _ _ | (apply heap_alloc_new'; first | rfl | (simp; done)) | apply heap_alloc_old | apply st_0_2 | apply st_1_2 | apply st_0_3 | apply st_1_3 | apply st_2_3 | apply st_0_4 | apply st_1_4 | apply st_2_4 | apply st_3_4 | (apply other_set; case hne => omega) | exact heap_alloc_new' _ _ (by first | rfl | (simp; done)))))
      have HKE_10 := Lib.hid (hL.keep (k := w4.heap.size) (by repeat (with_reducible first | exact HKE_9.out | exact heap_alloc_new _ _ | (apply heap_alloc_new'; first | rfl | (simp; done)) | apply heap_alloc_old | apply st_0_2 | apply st_1_2 | apply st_0_3 | apply st_1_3 | apply st_2_3 | apply st_0_4 | apply st_1_4 | apply st_2_4 | apply st_3_4 | (apply other_set; case hne => omega) | exact heap_alloc_new' _ _ (by first | rfl | (simp; done)))))
      have HKF_10 := Lib.hid (hL.keep (k := w5.heap.size) (by repeat (with_reducible first | exact HKF_9.out | exact heap_alloc_new _ _ | (apply heap_alloc_new'; first | rfl | (simp; done)) | apply heap_alloc_old | apply st_0_2 | apply st_1_2 | apply st_0_3 | apply st_1_3 | apply st_2_3 | apply st_0_4 | apply st_1_4 | apply st_2_4 | apply st_3_4 | (apply other_set; case hne => omega) | exact heap_alloc_new' _ _ (by first | rfl | (simp; done)))))
      clear hL cA fA cB fB cC fC cD fD cE fE cF fF
      obtain ⟨cA, fA, zA_10⟩ := blk_at HKA_10.out
      obtain ⟨cB, fB, zB_10⟩ := blk_at HKB_10.out
      obtain ⟨cC, fC, zC_10⟩ := blk_at HKC_10.out
      obtain ⟨cD, fD, zD_10⟩ := blk_at HKD_10.out
      obtain ⟨cE, fE, zE_10⟩ := blk_at HKE_10.out
      obtain ⟨cF, fF, zF_10⟩ := blk_at HKF_10.out
      rw [J1.out]
      go_wp2_with fail
      refine (w_implChainLog _ ly _ (reads_of_owns (by repeat (with_reducible first | exact HOy_10.out | apply World.ownsRow.alloc | (apply owns_setNe; case hk => first | assumption | exact ne_own HOy_10.out (by first | omega | (simp; omega)) | exact ne_low HOy_10.out (by omega)) | (refine owns_later ?_ (Later.refl _).drew) | (refine owns_later ?_ ((Later.refl _).drewN _)))) (by omega))).mono ?_
      rintro e w11 ⟨rfl, hL⟩
      have HW11 : Hid (Later W w11) := Lib.hid (Later.trans (by repeat (with_reducible first | exact HW10.out | refine Later.alloc ?_ _ | refine Later.drew ?_ | refine Later.drewN ?_ _ | refine Later.setCell ?_ (by first | omega | (simp; omega)) _)) hL)
      have hz11 := HW11.out.size
      have HOc_11 := Lib.hid (owns_later (by repeat (with_reducible first | exact HOc_10.out | apply World.ownsRow.alloc | (apply owns_setNe; case hk => first | assumption | exact ne_own HOc_10.out (by first | omega | (simp; omega)) | exact ne_low HOc_10.out (by omega)) | (refine owns_later ?_ (Later.refl _).drew) | (refine owns_later ?_ ((Later.refl _).drewN _)))) hL)
      have HOx_11 := Lib.hid (owns_later (by repeat (with_reducible first | exact HOx_10.out | apply World.ownsRow.alloc | (apply owns_setNe; case hk => first | assumption | exact ne_own HOx_10.out (by first | omega | (simp; omega)) | exact ne_low HOx_10.out (by omega)) | (refine owns_later ?_ (Later.refl _).drew) | (refine owns_later ?_ ((Later.refl _).drewN _)))) hL)
      have HOy_11 := Lib.hid (owns_later (by repeat (with_reducible first | exact HOy_10.out | apply World.ownsRow.alloc | (apply owns_setNe; case hk => first | assumption | exact ne_own HOy_10.out (by first | omega | (simp; omega)) | exact ne_low HOy_10.out (by omega)) | (refine owns_later ?_ (Later.refl _).drew) | (refine owns_later ?_ ((Later.refl _).drewN _)))) hL)
      have HOj_11 := Lib.hid (owns_later (by repeat (with_reducible first | exact HOj_10.out | apply World.ownsRow.alloc | (apply owns_setNe; case hk => first | assumption | exact ne_own HOj_10.out (by first | omega | (simp; omega)) | exact ne_low HOj_10.out (by omega)) | (refine owns_later ?_ (Later.refl _).drew) | (refine owns_later ?_ ((Later.refl _).drewN _)))) hL)
      have HOm_11 := Lib.hid (owns_later (by repeat (with_reducible first | exact HOm_10.out | apply World.ownsRow.alloc | (apply owns_setNe; case hk => first | assumption | exact ne_own HOm_10.out (by first | omega | (simp; omega)) | exact ne_low HOm_10.out (by omega)) | (refine owns_later ?_ (Later.refl _).drew) | (refine owns_later ?_ ((Later.refl _).drewN _)))) hL)
      have HKA_11 := Lib.hid (hL.keep (k := w2.heap.size) (by repeat (with_reducible first | exact HKA_10.out | exact heap_alloc_new _ _ | (apply heap_alloc_new'; first | rfl | (simp; done)) | apply heap_alloc_old | apply st_0_2 | apply st_1_2 | apply st_0_3 | apply st_1_3 | apply st_2_3 | apply st_0_4 | apply st_1_4 | apply st_2_4 | apply st_3_4 | (apply other_set; case hne => omega) | exact heap_alloc_new' _ _ (by first | rfl | (simp; done)))))
      have HKB_11 := Lib.hid (hL.keep (k := w2.heap.size + 1) (by repeat (with_reducible first | exact HKB_10.out | exact heap_alloc_new _ _ | (apply heap_alloc_new'; first | rfl | (simp; done)) | apply heap_alloc_old | apply st_0_2 | apply st_1_2 | apply st_0_3 | apply st_1_3 | apply st_2_3 | apply st_0_4 | apply st_1_4 | apply st_2_4 | apply st_3_4 | (apply other_set; case hne => omega) | exact heap_alloc_new' _ _ (by first | rfl | (simp; done)))))
      have HKC_11 := Lib.hid (hL.keep (k := w3.heap.size) (by repeat (with_reducible first | exact HKC_10.out | exact heap_alloc_new _ _ | (apply heap_alloc_new'; first | rfl | (simp; done)) | apply heap_alloc_old | apply st_0_2 | apply st_1_2 | apply st_0_3 | apply st_1_3 | apply st_2_3 | apply st_0_4 | apply st_1_4 | apply st_2_4 | apply st_3_4 | (apply other_set; case hne => omega) | exact heap_alloc_new' _ _ (by first | rfl | (simp; done)))))
      have HKD_11 := Lib.hid (hL.keep (k := w3.heap.size + 1) (by repeat (with_reducible first | exact HKD_10.out | exact heap_alloc_new _ _ | (apply heap_alloc_new'; first | rfl | (simp; done)) | apply heap_alloc_old | apply st_0_2 | apply st_1_2 | apply st_0_3 | apply st_1_3 | apply st_2_3 | apply st_0_4 | apply st_1_4 | apply st_2_4 | apply st_3_4 | (apply other_set; case hne => omega) | exact heap_alloc_new' _ _ (by first | rfl | (simp; done)))))
      have HKE_11 := Lib.hid (hL.keep (k := w4.heap.size) (by repeat (with_reducible first | exact HKE_10.out | exact heap_alloc_new _ _ | (apply heap_alloc_new'; first | rfl | (simp; done)) | apply heap_alloc_old | apply st_0_2 | apply st_1_2 | apply st_0_3 | apply st_1_3 | apply st_2_3 | apply st_0_4 | apply st_1_4 | apply st_2_4 | apply st_3_4 | (apply other_set; case hne => omega) | exact heap_alloc_new' _ _ (by first | rfl | (simp; done)))))
      have HKF_11 := Lib.hid (hL.keep (k := w5.heap.size) (by repeat (with_reducible first | exact HKF_10.out | exact heap_alloc_new _ _ | (apply heap_alloc_new'; first | rfl | (simp; done)) | apply heap_alloc_old | apply st_0_2 | apply st_1_2 | apply st_0_3 | apply st_1_3 | apply st_2_3 | apply st_0_4 | apply st_1_4 | apply st_2_4 | apply st_3_4 | (apply other_set; case hne => omega) | exact heap_alloc_new' _ _ (by first | rfl | (simp; done)))))
      have HKG_11 := Lib.hid (hL.keep (k := w10.heap.size) (by repeat (with_reducible first | exact HKG_10.out | exact heap_alloc_new _ _ | (apply heap_alloc_new'; first | rfl | (simp; done)) | apply heap_alloc_old | apply st_0_2 | apply st_1_2 | apply st_0_3 | apply st_1_3 | apply st_2_3 | apply st_0_4 | apply st_1_4 | apply st_2_4 | apply st_3_4 | (apply other_set; case hne => omega) | exact heap_alloc_new' _ _ (by first | rfl | (simp; done)))))
      clear hL cA fA cB fB cC fC cD fD cE fE cF fF
      obtain ⟨cA, fA, zA_11⟩ := blk_at HKA_11.out
      obtain ⟨cB, fB, zB_11⟩ := blk_at HKB_11.out
      obtain ⟨cC, fC, zC_11⟩ := blk_at HKC_11.out
      obtain ⟨cD, fD, zD_11⟩ := blk_at HKD_11.out
      obtain ⟨cE, fE, zE_11⟩ := blk_at HKE_11.out
      obtain ⟨cF, fF, zF_11⟩ := blk_at HKF_11.out
      obtain ⟨cG, fG, zG_11⟩ := blk_at HKG_11.out
      rw [J2.out]
      go_wp2_with fail
      refine (w_implChainLog _ (joinChains lx ly false).1 _ (reads_of_owns (by repeat (with_reducible first | exact HOj_11.out | apply World.ownsRow.alloc | (apply owns_setNe; case hk => first | assumption | exact ne_own HOj_11.out (by first | omega | (simp; omega)) | exact ne_low HOj_11.out (by omega)) | (refine owns_later ?_ (Later.refl _).drew) | (refine owns_later ?_ ((Later.refl _).drewN _)))) (by omega))).mono ?_
      rintro e w12 ⟨rfl, hL⟩
      have HW12 : Hid (Later W w12) := Lib.hid (Later.trans (by repeat (with_reducible first | exact HW11.out | refine Later.alloc ?_ _ | refine Later.drew ?_ | refine Later.drewN ?_ _ | refine Later.setCell ?_ (by first | omega | (simp; omega)) _)) hL)
      have hz12 := HW12.out.size
      have HOc_12 := Lib.hid (owns_later (by repeat (with_reducible first | exact HOc_11.out | apply World.ownsRow.alloc | (apply owns_setNe; case hk => first | assumption | exact ne_own HOc_11.out (by first | omega | (simp; omega)) | exact ne_low HOc_11.out (by omega)) | (refine owns_later ?_ (Later.refl _).drew) | (refine owns_later ?_ ((Later.refl _).drewN _)))) hL)
      have HOx_12 := Lib.hid (owns_later (by repeat (with_reducible first | exact HOx_11.out | apply World.ownsRow.alloc | (apply owns_setNe; case hk => first | assumption | exact ne_own HOx_11.out (by first | omega | (simp; omega)) | exact ne_low HOx_11.out (by omega)) | (refine owns_later ?_ (Later.refl _).drew) | (refine owns_later ?_ ((Later.refl _).drewN _)))) hL)
      have HOy_12 := Lib.hid (owns_later (by repeat (with_reducible first | exact HOy_11.out | apply World.ownsRow.alloc | (apply owns_setNe; case hk => first | assumption | exact ne_own HOy_11.out (by first | omega | (simp; omega)) | exact ne_low HOy_11.out (by omega)) | (refine owns_later ?_ (Later.refl _).drew) | (refine owns_later ?_ ((Later.refl _).drewN _)))) hL)
      have HOj_12 := Lib.hid (owns_later (by repeat (with_reducible first | exact HOj_11.out | apply World.ownsRow.alloc | (apply owns_setNe; case hk => first | assumption | exact ne_own HOj_11.out (by first | omega | (simp; omega)) | exact ne_low HOj_11.out (by omega)) | (refine owns_later ?_ (Later.refl _).drew) | (refine owns_later ?_ ((Later.refl _).drewN _)))) hL)
      have HOm_12 := Lib.hid (owns_later (by repeat (with_reducible first | exact HOm_11.out | apply World.ownsRow.alloc | (apply owns_setNe; case hk => first | assumption | exact ne_own HOm_11.out (by first | omega | (simp; omega)) | exact ne_low HOm_11.out (by omega)) | (refine owns_later ?_ (Later.refl _).drew) | (refine owns_later ?_ ((Later.refl _).drewN _)))) hL)
      have HKA_12 := Lib.hid (hL.keep (k := w2.heap.size) (by repeat (with_reducible first | exact HKA_11.out | exact heap_alloc_new _ _ | (apply heap_alloc_new'; first | rfl | (simp; done)) | apply heap_alloc_old | apply st_0_2 | apply st_1_2 | apply st_0_3 | apply st_1_3 | apply st_2_3 | apply st_0_4 | apply st_1_4 | apply st_2_4 | apply st_3_4 | (apply other_set; case hne => omega) | exact heap_alloc_new' _ _ (by first | rfl | (simp; done)))))
      have HKB_12 := Lib.hid (hL.keep (k := w2.heap.size + 1) (by repeat (with_reducible first | exact HKB_11.out | exact heap_alloc_new _ _ | (apply heap_alloc_new'; first | rfl | (simp; done)) | apply heap_alloc_old | apply st_0_2 | apply st_1_2 | apply st_0_3 | apply st_1_3 | apply st_2_3 | apply st_0_4 | apply st_1_4 | apply st_2_4 | apply st_3_4 | (apply other_set; case hne => omega) | exact heap_alloc_new' _ _ (by first | rfl | (simp; done)))))
      have HKC_12 := Lib.hid (hL.keep (k := w3.heap.size) (by repeat (with_reducible first | exact HKC_11.out | exact heap_alloc_new _ _ | (apply heap_alloc_new'; first | rfl | (simp; done)) | apply heap_alloc_old | apply st_0_2 | apply st_1_2 | apply st_0_3 | apply st_1_3 | apply st_2_3 | apply st_0_4 | apply st_1_4 | apply st_2_4 | apply st_3_4 | (apply other_set; case hne => omega) | exact heap_alloc_new' _ _ (by first | rfl | (simp; done)))))
      have HKD_12 := Lib.hid (hL.keep (k := w3.heap.size + 1) (by repeat (with_reducible first | exact HKD_11.out | exact heap_alloc_new _ _ | (apply heap_alloc_new'; first | rfl | (simp; done)) | apply heap_alloc_old | apply st_0_2 | apply st_1_2 | apply st_0_3 | apply st_1_3 | apply st_2_3 | apply st_0_4 | apply st_1_4 | apply st_2_4 | apply st_3_4 | (apply other_set; case hne => omega) | exact heap_alloc_new' _ _ (by first | rfl | (simp; done)))))
      have HKE_12 := Lib.hid (hL.keep (k := w4.heap.size) (by repeat (with_reducible first | exact HKE_11.out | exact heap_alloc_new _ _ | (apply heap_alloc_new'; first | rfl | (simp; done)) | apply heap_alloc_old | apply st_0_2 | apply st_1_2 | apply st_0_3 | apply st_1_3 | apply st_2_3 | apply st_0_4 | apply st_1_4 | apply st_2_4 | apply st_3_4 | (apply other_set; case hne => omega) | exact heap_alloc_new' _ _ (by first | rfl | (simp; done)))))
      have HKF_12 := Lib.hid (hL.keep (k := w5.heap.size) (by repeat (with_reducible first | exact HKF_11.out | exact heap_alloc_new _ _ | (apply heap_alloc_new'; first | rfl | (simp; done)) | apply heap_alloc_old | apply st_0_2 | apply st_1_2 | apply st_0_3 | apply st_1_3 | apply st_2_3 | apply st_0_4 | apply st_1_4 | apply st_2_4 | apply st_3_4 | (apply other_set; case hne => omega) | exact heap_alloc_new' _ _ (by first | rfl | (simp; done)))))
      have HKG_12 := Lib.hid (hL.keep (k := w10.heap.size) (by repeat (with_reducible first | exact HKG_11.out | exact heap_alloc_new _ _ | (apply heap_alloc_new'; first | rfl | (simp; done)) | apply heap_alloc_old | apply st_0_2 | apply st_1_2 | apply st_0_3 | apply st_1_3 | apply st_2_3 | apply st_0_4 | apply st_1_4 | apply st_2_4 | apply st_3_4 | (apply other_set; case hne => omega) | exact heap_alloc_new' _ _ (by first | rfl | (simp; done)))))
      have HKH_12 := Lib.hid (hL.keep (k := w11.heap.size) (by repeat (with_reducible first | exact HKH_11.out | exact heap_alloc_new _ _ | (apply heap_alloc_new'; first | rfl | (simp; done)) | apply heap_alloc_old | apply st_0_2 | apply st_1_2 | apply st_0_3 | apply st_1_3 | apply st_2_3 | apply st_0_4 | apply st_1_4 | apply st_2_4 | apply st_3_4 | (apply other_set; case hne => omega) | exact heap_alloc_new' _ _ (by first | rfl | (simp; done)))))
      clear hL cA fA cB fB cC fC cD fD cE fE cF fF cG fG
      obtain ⟨cA, fA, zA_12⟩ := blk_at HKA_12.out
      obtain ⟨cB, fB, zB_12⟩ := blk_at HKB_12.out
      obtain ⟨cC, fC, zC_12⟩ := blk_at HKC_12.out
      obtain ⟨cD, fD, zD_12⟩ := blk_at HKD_12.out
      obtain ⟨cE, fE, zE_12⟩ := blk_at HKE_12.out
      obtain ⟨cF, fF, zF_12⟩ := blk_at HKF_12.out
      obtain ⟨cG, fG, zG_12⟩ := blk_at HKG_12.out
      obtain ⟨cH, fH, zH_12⟩ := blk_at HKH_12.out
      rw [J3.out, E1.out, E2.out]
      go_wp2_with fail
      refine (w_AddLogs _ _ _ _ _ x1 x2 x3 y1 y2 y3).mono ?_
      rintro e w13 ⟨rfl, hL⟩
      have HW13 : Hid (Later W w13) := Lib.hid (Later.trans (by repeat (with_reducible first | exact HW12.out | refine Later.alloc ?_ _ | refine Later.drew ?_ | refine Later.drewN ?_ _ | refine Later.setCell ?_ (by first | omega | (simp; omega)) _)) hL)
      have hz13 := HW13.out.size
      have HOc_13 := Lib.hid (owns_later (by repeat (with_reducible first | exact HOc_12.out | apply World.ownsRow.alloc | (apply owns_setNe; case hk => first | assumption | exact ne_own HOc_12.out (by first | omega | (simp; omega)) | exact ne_low HOc_12.out (by omega)) | (refine owns_later ?_ (Later.refl _).drew) | (refine owns_later ?_ ((Later.refl _).drewN _)))) hL)
      have HOx_13 := Lib.hid (owns_later (by repeat (with_reducible first | exact HOx_12.out | apply World.ownsRow.alloc | (apply owns_setNe; case hk => first | assumption | exact ne_own HOx_12.out (by first | omega | (simp; omega)) | exact ne_low HOx_12.out (by omega)) | (refine owns_later ?_ (Later.refl _).drew) | (refine owns_later ?_ ((Later.refl _).drewN _)))) hL)
      have HOy_13 := Lib.hid (owns_later (by repeat (with_reducible first | exact HOy_12.out | apply World.ownsRow.alloc | (apply owns_setNe; case hk => first | assumption | exact ne_own HOy_12.out (by first | omega | (simp; omega)) | exact ne_low HOy_12.out (by omega)) | (refine owns_later ?_ (Later.refl _).drew) | (refine owns_later ?_ ((Later.refl _).drewN _)))) hL)
      have HOj_13 := Lib.hid (owns_later (by repeat (with_reducible first | exact HOj_12.out | apply World.ownsRow.alloc | (apply owns_setNe; case hk => first | assumption | exact ne_own HOj_12.out (by first | omega | (simp; omega)) | exact ne_low HOj_12.out (by omega)) | (refine owns_later ?_ (Later.refl _).drew) | (refine owns_later ?_ ((Later.refl _).drewN _)))) hL)
      have HOm_13 := Lib.hid (owns_later (by repeat (with_reducible first | exact HOm_12.out | apply World.ownsRow.alloc | (apply owns_setNe; case hk => first | assumption | exact ne_own HOm_12.out (by first | omega | (simp; omega)) | exact ne_low HOm_12.out (by omega)) | (refine owns_later ?_ (Later.refl _).drew) | (refine owns_later ?_ ((Later.refl _).drewN _)))) hL)
      have HKA_13 := Lib.hid (hL.keep (k := w2.heap.size) (by repeat (with_reducible first | exact HKA_12.out | exact heap_alloc_new _ _ | (apply heap_alloc_new'; first | rfl | (simp; done)) | apply heap_alloc_old | apply st_0_2 | apply st_1_2 | apply st_0_3 | apply st_1_3 | apply st_2_3 | apply st_0_4 | apply st_1_4 | apply st_2_4 | apply st_3_4 | (apply other_set; case hne => omega) | exact heap_alloc_new' _ _ (by first | rfl | (simp; done)))))
      have HKB_13 := Lib.hid (hL.keep (k := w2.heap.size + 1) (by repeat (with_reducible first | exact HKB_12.out | exact heap_alloc_new _ _ | (apply heap_alloc_new'; first | rfl | (simp; done)) | apply heap_alloc_old | apply st_0_2 | apply st_1_2 | apply st_0_3 | apply st_1_3 | apply st_2_3 | apply st_0_4 | apply st_1_4 | apply st_2_4 | apply st_3_4 | (apply other_set; case hne => omega) | exact heap_alloc_new' _ _ (by first | rfl | (simp; done)))))
      have HKC_13 := Lib.hid (hL.keep (k := w3.heap.size) (by repeat (with_reducible first | exact HKC_12.out | exact heap_alloc_new _ _ | (apply heap_alloc_new'; first | rfl | (simp; done)) | apply heap_alloc_old | apply st_0_2 | apply st_1_2 | apply st_0_3 | apply st_1_3 | apply st_2_3 | apply st_0_4 | apply st_1_4 | apply st_2_4 | apply st_3_4 | (apply other_set; case hne => omega) | exact heap_alloc_new' _ _ (by first | rfl | (simp; done)))))
      have HKD_13 := Lib.hid (hL.keep (k := w3.heap.size + 1) (by repeat (with_reducible first | exact HKD_12.out | exact heap_alloc_new _ _ | (apply heap_alloc_new'; first | rfl | (simp; done)) | apply heap_alloc_old | apply st_0_2 | apply st_1_2 | apply st_0_3 | apply st_1_3 | apply st_2_3 | apply st_0_4 | apply st_1_4 | apply st_2_4 | apply st_3_4 | (apply other_set; case hne => omega) | exact heap_alloc_new' _ _ (by first | rfl | (simp; done)))))
      have HKE_13 := Lib.hid (hL.keep (k := w4.heap.size) (by repeat (with_reducible first | exact HKE_12.out | exact heap_alloc_new _ _ | (apply heap_alloc_new'; first | rfl | (simp; done)) | apply heap_alloc_old | apply st_0_2 | apply st_1_2 | apply st_0_3 | apply st_1_3 | apply st_2_3 | apply st_0_4 | apply st_1_4 | apply st_2_4 | apply st_3_4 | (apply other_set; case hne => omega) | exact heap_alloc_new' _ _ (by first | rfl | (simp; done)))))
      have HKF_13 := Lib.hid (hL.keep (k := w5.heap.size) (by repeat (with_reducible first | exact HKF_12.out | exact heap_alloc_new _ _ | (apply heap_alloc_new'; first | rfl | (simp; done)) | apply heap_alloc_old | apply st_0_2 | apply st_1_2 | apply st_0_3 | apply st_1_3 | apply st_2_3 | apply st_0_4 | apply st_1_4 | apply st_2_4 | apply st_3_4 | (apply other_set; case hne => omega) | exact heap_alloc_new' _ _ (by first | rfl | (simp; done)))))
      have HKG_13 := Lib.hid (hL.keep (k := w10.heap.size) (by repeat (with_reducible first | exact HKG_12.out | exact heap_alloc_new _ _ | (apply heap_alloc_new'; first | rfl | (simp; done)) | apply heap_alloc_old | apply st_0_2 | apply st_1_2 | apply st_0_3 | apply st_1_3 | apply st_2_3 | apply st_0_4 | apply st_1_4 | apply st_2_4 | apply st_3_4 | (apply other_set; case hne => omega) | exact heap_alloc_new' _ _ (by first | rfl | (simp; done)))))
      have HKH_13 := Lib.hid (hL.keep (k := w11.heap.size) (by repeat (with_reducible first | exact HKH_12.out | exact heap_alloc_new _ _ | (apply heap_alloc_new'; first | rfl | (simp; done)) | apply heap_alloc_old | apply st_0_2 | apply st_1_2 | apply st_0_3 | apply st_1_3 | apply st_2_3 | apply st_0_4 | apply st_1_4 | apply st_2_4 | apply st_3_4 | (apply other_set; case hne => omega) | exact heap_alloc_new' _ _ (by first | rfl | (simp; done)))))
      have HKI_13 := Lib.hid (hL.keep (k := w12.heap.size) (by repeat (with_reducible first | exact HKI_12.out | exact heap_alloc_new _ _ | (apply heap_alloc_new'; first | rfl | (simp; done)) | apply heap_alloc_old | apply st_0_2 | apply st_1_2 | apply st_0_3 | apply st_1_3 | apply st_2_3 | apply st_0_4 | apply st_1_4 | apply st_2_4 | apply st_3_4 | (apply other_set; case hne => omega) | exact heap_alloc_new' _ _ (by first | rfl | (simp; done)))))
      clear hL cA fA cB fB cC fC cD fD cE fE cF fF cG fG cH fH
      obtain ⟨cA, fA, zA_13⟩ := blk_at HKA_13.out
      obtain ⟨cB, fB, zB_13⟩ := blk_at HKB_13.out
      obtain ⟨cC, fC, zC_13⟩ := blk_at HKC_13.out
      obtain ⟨cD, fD, zD_13⟩ := blk_at HKD_13.out
      obtain ⟨cE, fE, zE_13⟩ := blk_at HKE_13.out
      obtain ⟨cF, fF, zF_13⟩ := blk_at HKF_13.out
      obtain ⟨cG, fG, zG_13⟩ := blk_at HKG_13.out
      obtain ⟨cH, fH, zH_13⟩ := blk_at HKH_13.out
      obtain ⟨cI, fI, zI_13⟩ := blk_at HKI_13.out
      clear HOc_13
      clear HOx_13
      clear HOy_13
      clear HOj_13
      clear HOm_13
      by_cases hp : chainSpanC l = 0
      · skip
        have hpz : (chainSpanC l != 0) = false := by simpa using hp
        by_cases hq : chainFigC l = 0
        · skip
          have hqz : (chainFigC l != 0) = false := by simpa using hq
          obtain ⟨g1, g2, g3⟩ := values_figs hp hq
          obtain ⟨r1, r2, r3, r4⟩ := values_rel hp hq
          have G1 := Lib.hid (show isFig ⟨(chainFig l).d, (chainFig l).t⟩ = true from g1)
          have G2 := Lib.hid (show isFig ⟨(chainSpanL l).d, (chainSpanL l).t⟩ = true from g2)
          have G3 := Lib.hid (show isFig ⟨(chainSpanH l).d, (chainSpanH l).t⟩ = true from g3)
          have R1 := Lib.hid r1
          have R3 := Lib.hid r3
          have wl : IntKind.i64.wrap (1000 * (l.length : Int)) = 1000 * l.length := wrap_same (by omega) (by omega)
          have wm : IntKind.i64.wrap (1000 * (l.length : Int) + 2200) = 1000 * l.length + 2200 := wrap_same (by omega) (by omega)
          have d1 : decide (relV (chainFig l) (chainSpanL l) ≤ 1000 * (l.length : Int) + 2200) = true := by simp; omega
          have d2 : decide (relV (chainFig l) (chainSpanH l) ≤ 1000 * (l.length : Int) + 2200) = true := by simp; omega
          clear g1 g2 g3 r1 r2 r3 r4
          go_wp2_with fail
          refine (w_implRelativeError (chainFig l).d (chainFig l).t (chainSpanL l).d (chainSpanL l).t _ G1.out G2.out).mono ?_
          rintro e w14 ⟨rfl, hL⟩
          have HW14 : Hid (Later W w14) := Lib.hid (Later.trans (by repeat (with_reducible first | exact HW13.out | refine Later.alloc ?_ _ | refine Later.drew ?_ | refine Later.drewN ?_ _ | refine Later.setCell ?_ (by first | omega | (simp; omega)) _)) hL)
          have hz14 := HW14.out.size
          have HKA_14 := Lib.hid (hL.keep (k := w2.heap.size) (by repeat (with_reducible first | exact HKA_13.out | exact heap_alloc_new _ _ | (apply heap_alloc_new'; first | rfl | (simp; done)) | apply heap_alloc_old | apply st_0_2 | apply st_1_2 | apply st_0_3 | apply st_1_3 | apply st_2_3 | apply st_0_4 | apply st_1_4 | apply st_2_4 | apply st_3_4 | (apply other_set; case hne => omega) | exact heap_alloc_new' _ _ (by first | rfl | (simp; done)))))
          have HKB_14 := Lib.hid (hL.keep (k := w2.heap.size + 1) (by repeat (with_reducible first | exact HKB_13.out | exact heap_alloc_new _ _ | (apply heap_alloc_new'; first | rfl | (simp; done)) | apply heap_alloc_old | apply st_0_2 | apply st_1_2 | apply st_0_3 | apply st_1_3 | apply st_2_3 | apply st_0_4 | apply st_1_4 | apply st_2_4 | apply st_3_4 | (apply other_set; case hne => omega) | exact heap_alloc_new' _ _ (by first | rfl | (simp; done)))))
          have HKC_14 := Lib.hid (hL.keep (k := w3.heap.size) (by repeat (with_reducible first | exact HKC_13.out | exact heap_alloc_new _ _ | (apply heap_alloc_new'; first | rfl | (simp; done)) | apply heap_alloc_old | apply st_0_2 | apply st_1_2 | apply st_0_3 | apply st_1_3 | apply st_2_3 | apply st_0_4 | apply st_1_4 | apply st_2_4 | apply st_3_4 | (apply other_set; case hne => omega) | exact heap_alloc_new' _ _ (by first | rfl | (simp; done)))))
          have HKD_14 := Lib.hid (hL.keep (k := w3.heap.size + 1) (by repeat (with_reducible first | exact HKD_13.out | exact heap_alloc_new _ _ | (apply heap_alloc_new'; first | rfl | (simp; done)) | apply heap_alloc_old | apply st_0_2 | apply st_1_2 | apply st_0_3 | apply st_1_3 | apply st_2_3 | apply st_0_4 | apply st_1_4 | apply st_2_4 | apply st_3_4 | (apply other_set; case hne => omega) | exact heap_alloc_new' _ _ (by first | rfl | (simp; done)))))
          have HKE_14 := Lib.hid (hL.keep (k := w4.heap.size) (by repeat (with_reducible first | exact HKE_13.out | exact heap_alloc_new _ _ | (apply heap_alloc_new'; first | rfl | (simp; done)) | apply heap_alloc_old | apply st_0_2 | apply st_1_2 | apply st_0_3 | apply st_1_3 | apply st_2_3 | apply st_0_4 | apply st_1_4 | apply st_2_4 | apply st_3_4 | (apply other_set; case hne => omega) | exact heap_alloc_new' _ _ (by first | rfl | (simp; done)))))
          have HKF_14 := Lib.hid (hL.keep (k := w5.heap.size) (by repeat (with_reducible first | exact HKF_13.out | exact heap_alloc_new _ _ | (apply heap_alloc_new'; first | rfl | (simp; done)) | apply heap_alloc_old | apply st_0_2 | apply st_1_2 | apply st_0_3 | apply st_1_3 | apply st_2_3 | apply st_0_4 | apply st_1_4 | apply st_2_4 | apply st_3_4 | (apply other_set; case hne => omega) | exact heap_alloc_new' _ _ (by first | rfl | (simp; done)))))
          have HKG_14 := Lib.hid (hL.keep (k := w10.heap.size) (by repeat (with_reducible first | exact HKG_13.out | exact heap_alloc_new _ _ | (apply heap_alloc_new'; first | rfl | (simp; done)) | apply heap_alloc_old | apply st_0_2 | apply st_1_2 | apply st_0_3 | apply st_1_3 | apply st_2_3 | apply st_0_4 | apply st_1_4 | apply st_2_4 | apply st_3_4 | (apply other_set; case hne => omega) | exact heap_alloc_new' _ _ (by first | rfl | (simp; done)))))
          have HKH_14 := Lib.hid (hL.keep (k := w11.heap.size) (by repeat (with_reducible first | exact HKH_13.out | exact heap_alloc_new _ _ | (apply heap_alloc_new'; first | rfl | (simp; done)) | apply heap_alloc_old | apply st_0_2 | apply st_1_2 | apply st_0_3 | apply st_1_3 | apply st_2_3 | apply st_0_4 | apply st_1_4 | apply st_2_4 | apply st_3_4 | (apply other_set; case hne => omega) | exact heap_alloc_new' _ _ (by first | rfl | (simp; done)))))
          have HKI_14 := Lib.hid (hL.keep (k := w12.heap.size) (by repeat (with_reducible first | exact HKI_13.out | exact heap_alloc_new _ _ | (apply heap_alloc_new'; first | rfl | (simp; done)) | apply heap_alloc_old | apply st_0_2 | apply st_1_2 | apply st_0_3 | apply st_1_3 | apply st_2_3 | apply st_0_4 | apply st_1_4 | apply st_2_4 | apply st_3_4 | (apply other_set; case hne => omega) | exact heap_alloc_new' _ _ (by first | rfl | (simp; done)))))
          have HKJ_14 := Lib.hid (hL.keep (k := w13.heap.size) (by repeat (with_reducible first | exact HKJ_13.out | exact heap_alloc_new _ _ | (apply heap_alloc_new'; first | rfl | (simp; done)) | apply heap_alloc_old | apply st_0_2 | apply st_1_2 | apply st_0_3 | apply st_1_3 | apply st_2_3 | apply st_0_4 | apply st_1_4 | apply st_2_4 | apply st_3_4 | (apply other_set; case hne => omega) | exact heap_alloc_new' _ _ (by first | rfl | (simp; done)))))
          clear hL cA fA cB fB cC fC cD fD cE fE cF fF cG fG cH fH cI fI
          obtain ⟨cA, fA, zA_14⟩ := blk_at HKA_14.out
          obtain ⟨cB, fB, zB_14⟩ := blk_at HKB_14.out
          obtain ⟨cC, fC, zC_14⟩ := blk_at HKC_14.out
          obtain ⟨cD, fD, zD_14⟩ := blk_at HKD_14.out
          obtain ⟨cE, fE, zE_14⟩ := blk_at HKE_14.out
          obtain ⟨cF, fF, zF_14⟩ := blk_at HKF_14.out
          obtain ⟨cG, fG, zG_14⟩ := blk_at HKG_14.out
          obtain ⟨cH, fH, zH_14⟩ := blk_at HKH_14.out
          obtain ⟨cI, fI, zI_14⟩ := blk_at HKI_14.out
          obtain ⟨cJ, fJ, zJ_14⟩ := blk_at HKJ_14.out
          rw [show relC ⟨(chainFig l).d, (chainFig l).t⟩ ⟨(chainSpanL l).d, (chainSpanL l).t⟩ = 0 from R1.out, show relV ⟨(chainFig l).d, (chainFig l).t⟩ ⟨(chainSpanL l).d, (chainSpanL l).t⟩ = relV (chainFig l) (chainSpanL l) from rfl]
          go_wp2_with fail
          refine (w_implRelativeError (chainFig l).d (chainFig l).t (chainSpanH l).d (chainSpanH l).t _ G1.out G3.out).mono ?_
          rintro e w15 ⟨rfl, hL⟩
          have HW15 : Hid (Later W w15) := Lib.hid (Later.trans (by repeat (with_reducible first | exact HW14.out | refine Later.alloc ?_ _ | refine Later.drew ?_ | refine Later.drewN ?_ _ | refine Later.setCell ?_ (by first | omega | (simp; omega)) _)) hL)
          have hz15 := HW15.out.size
          have HKA_15 := Lib.hid (hL.keep (k := w2.heap.size) (by repeat (with_reducible first | exact HKA_14.out | exact heap_alloc_new _ _ | (apply heap_alloc_new'; first | rfl | (simp; done)) | apply heap_alloc_old | apply st_0_2 | apply st_1_2 | apply st_0_3 | apply st_1_3 | apply st_2_3 | apply st_0_4 | apply st_1_4 | apply st_2_4 | apply st_3_4 | (apply other_set; case hne => omega) | exact heap_alloc_new' _ _ (by first | rfl | (simp; done)))))
          have HKB_15 := Lib.hid (hL.keep (k := w2.heap.size + 1) (by repeat (with_reducible first | exact HKB_14.out | exact heap_alloc_new _ _ | (apply heap_alloc_new'; first | rfl | (simp; done)) | apply heap_alloc_old | apply st_0_2 | apply st_1_2 | apply st_0_3 | apply st_1_3 | apply st_2_3 | apply st_0_4 | apply st_1_4 | apply st_2_4 | apply st_3_4 | (apply other_set; case hne => omega) | exact heap_alloc_new' _ _ (by first | rfl | (simp; done)))))
          have HKC_15 := Lib.hid (hL.keep (k := w3.heap.size) (by repeat (with_reducible first | exact HKC_14.out | exact heap_alloc_new _ _ | (apply heap_alloc_new'; first | rfl | (simp; done)) | apply heap_alloc_old | apply st_0_2 | apply st_1_2 | apply st_0_3 | apply st_1_3 | apply st_2_3 | apply st_0_4 | apply st_1_4 | apply st_2_4 | apply st_3_4 | (apply other_set; case hne => omega) | exact heap_alloc_new' _ _ (by first | rfl | (simp; done)))))
          have HKD_15 := Lib.hid (hL.keep (k := w3.heap.size + 1) (by repeat (with_reducible first | exact HKD_14.out | exact heap_alloc_new _ _ | (apply heap_alloc_new'; first | rfl | (simp; done)) | apply heap_alloc_old | apply st_0_2 | apply st_1_2 | apply st_0_3 | apply st_1_3 | apply st_2_3 | apply st_0_4 | apply st_1_4 | apply st_2_4 | apply st_3_4 | (apply other_set; case hne => omega) | exact heap_alloc_new' _ _ (by first | rfl | (simp; done)))))
          have HKE_15 := Lib.hid (hL.keep (k := w4.heap.size) (by repeat (with_reducible first | exact HKE_14.out | exact heap_alloc_new _ _ | (apply heap_alloc_new'; first | rfl | (simp; done)) | apply heap_alloc_old | apply st_0_2 | apply st_1_2 | apply st_0_3 | apply st_1_3 | apply st_2_3 | apply st_0_4 | apply st_1_4 | apply st_2_4 | apply st_3_4 | (apply other_set; case hne => omega) | exact heap_alloc_new' _ _ (by first | rfl | (simp; done)))))
          have HKF_15 := Lib.hid (hL.keep (k := w5.heap.size) (by repeat (with_reducible first | exact HKF_14.out | exact heap_alloc_new _ _ | (apply heap_alloc_new'; first | rfl | (simp; done)) | apply heap_alloc_old | apply st_0_2 | apply st_1_2 | apply st_0_3 | apply st_1_3 | apply st_2_3 | apply st_0_4 | apply st_1_4 | apply st_2_4 | apply st_3_4 | (apply other_set; case hne => omega) | exact heap_alloc_new' _ _ (by first | rfl | (simp; done)))))
          have HKG_15 := Lib.hid (hL.keep (k := w10.heap.size) (by repeat (with_reducible first | exact HKG_14.out | exact heap_alloc_new _ _ | (apply heap_alloc_new'; first | rfl | (simp; done)) | apply heap_alloc_old | apply st_0_2 | apply st_1_2 | apply st_0_3 | apply st_1_3 | apply st_2_3 | apply st_0_4 | apply st_1_4 | apply st_2_4 | apply st_3_4 | (apply other_set; case hne => omega) | exact heap_alloc_new' _ _ (by first | rfl | (simp; done)))))
          have HKH_15 := Lib.hid (hL.keep (k := w11.heap.size) (by repeat (with_reducible first | exact HKH_14.out | exact heap_alloc_new _ _ | (apply heap_alloc_new'; first | rfl | (simp; done)) | apply heap_alloc_old | apply st_0_2 | apply st_1_2 | apply st_0_3 | apply st_1_3 | apply st_2_3 | apply st_0_4 | apply st_1_4 | apply st_2_4 | apply st_3_4 | (apply other_set; case hne => omega) | exact heap_alloc_new' _ _ (by first | rfl | (simp; done)))))
          have HKI_15 := Lib.hid (hL.keep (k := w12.heap.size) (by repeat (with_reducible first | exact HKI_14.out | exact heap_alloc_new _ _ | (apply heap_alloc_new'; first | rfl | (simp; done)) | apply heap_alloc_old | apply st_0_2 | apply st_1_2 | apply st_0_3 | apply st_1_3 | apply st_2_3 | apply st_0_4 | apply st_1_4 | apply st_2_4 | apply st_3_4 | (apply other_set; case hne => omega) | exact heap_alloc_new' _ _ (by first | rfl | (simp; done)))))
          have HKJ_15 := Lib.hid (hL.keep (k := w13.heap.size) (by repeat (with_reducible first | exact HKJ_14.out | exact heap_alloc_new _ _ | (apply heap_alloc_new'; first | rfl | (simp; done)) | apply heap_alloc_old | apply st_0_2 | apply st_1_2 | apply st_0_3 | apply st_1_3 | apply st_2_3 | apply st_0_4 | apply st_1_4 | apply st_2_4 | apply st_3_4 | (apply other_set; case hne => omega) | exact heap_alloc_new' _ _ (by first | rfl | (simp; done)))))
          clear hL cA fA cB fB cC fC cD fD cE fE cF fF cG fG cH fH cI fI cJ fJ
          obtain ⟨cA, fA, zA_15⟩ := blk_at HKA_15.out
          obtain ⟨cB, fB, zB_15⟩ := blk_at HKB_15.out
          obtain ⟨cC, fC, zC_15⟩ := blk_at HKC_15.out
          obtain ⟨cD, fD, zD_15⟩ := blk_at HKD_15.out
          obtain ⟨cE, fE, zE_15⟩ := blk_at HKE_15.out
          obtain ⟨cF, fF, zF_15⟩ := blk_at HKF_15.out
          obtain ⟨cG, fG, zG_15⟩ := blk_at HKG_15.out
          obtain ⟨cH, fH, zH_15⟩ := blk_at HKH_15.out
          obtain ⟨cI, fI, zI_15⟩ := blk_at HKI_15.out
          obtain ⟨cJ, fJ, zJ_15⟩ := blk_at HKJ_15.out
          rw [show relC ⟨(chainFig l).d, (chainFig l).t⟩ ⟨(chainSpanH l).d, (chainSpanH l).t⟩ = 0 from R3.out, show relV ⟨(chainFig l).d, (chainFig l).t⟩ ⟨(chainSpanH l).d, (chainSpanH l).t⟩ = relV (chainFig l) (chainSpanH l) from rfl]
          go_wp2
          go_ret
          exact ⟨rfl, (by repeat (with_reducible first | exact HW15.out | refine Later.alloc ?_ _ | refine Later.drew ?_ | refine Later.drewN ?_ _ | refine Later.setCell ?_ (by first | omega | (simp; omega)) _))⟩
        · skip
          have hqb : (chainFigC l != 0) = true := by simpa using hq
          go_wp2
          go_ret
          exact ⟨rfl, (by repeat (with_reducible first | exact HW13.out | refine Later.alloc ?_ _ | refine Later.drew ?_ | refine Later.drewN ?_ _ | refine Later.setCell ?_ (by first | omega | (simp; omega)) _))⟩
      · skip
        have hpb : (chainSpanC l != 0) = true := by simpa using hp
        go_wp2
        go_ret
        exact ⟨rfl, (by repeat (with_reducible first | exact HW13.out | refine Later.alloc ?_ _ | refine Later.drew ?_ | refine Later.drewN ?_ _ | refine Later.setCell ?_ (by first | omega | (simp; omega)) _))⟩
  · skip
    have hjb : ((joinChains lx ly dv).2 == 0) = false := by simpa using hj
    clear HOc_9
    clear HOx_9
    clear HOy_9
    clear HOj_9
    clear HOm_9
    by_cases hp : chainSpanC l = 0
    · skip
      have hpz : (chainSpanC l != 0) = false := by simpa using hp
      by_cases hq : chainFigC l = 0
      · skip
        have hqz : (chainFigC l != 0) = false := by simpa using hq
        obtain ⟨g1, g2, g3⟩ := values_figs hp hq
        obtain ⟨r1, r2, r3, r4⟩ := values_rel hp hq
        have G1 := Lib.hid (show isFig ⟨(chainFig l).d, (chainFig l).t⟩ = true from g1)
        have G2 := Lib.hid (show isFig ⟨(chainSpanL l).d, (chainSpanL l).t⟩ = true from g2)
        have G3 := Lib.hid (show isFig ⟨(chainSpanH l).d, (chainSpanH l).t⟩ = true from g3)
        have R1 := Lib.hid r1
        have R3 := Lib.hid r3
        have wl : IntKind.i64.wrap (1000 * (l.length : Int)) = 1000 * l.length := wrap_same (by omega) (by omega)
        have wm : IntKind.i64.wrap (1000 * (l.length : Int) + 2200) = 1000 * l.length + 2200 := wrap_same (by omega) (by omega)
        have d1 : decide (relV (chainFig l) (chainSpanL l) ≤ 1000 * (l.length : Int) + 2200) = true := by simp; omega
        have d2 : decide (relV (chainFig l) (chainSpanH l) ≤ 1000 * (l.length : Int) + 2200) = true := by simp; omega
        clear g1 g2 g3 r1 r2 r3 r4
        go_wp2_with fail
        refine (w_implRelativeError (chainFig l).d (chainFig l).t (chainSpanL l).d (chainSpanL l).t _ G1.out G2.out).mono ?_
        rintro e w10 ⟨rfl, hL⟩
        have HW10 : Hid (Later W w10) := Lib.hid (Later.trans (by repeat (with_reducible first | exact HW9.out | refine Later.alloc ?_ _ | refine Later.drew ?_ | refine Later.drewN ?_ _ | refine Later.setCell ?_ (by first | omega | (simp; omega)) _)) hL)
        have hz10 := HW10.out.size
        have HKA_10 := Lib.hid (hL.keep (k := w2.heap.size) (by repeat (with_reducible first | exact HKA_9.out | exact heap_alloc_new _ _ | (apply heap_alloc_new'; first | rfl | (simp; done)) | apply heap_alloc_old | apply st_0_2 | apply st_1_2 | apply st_0_3 | apply st_1_3 | apply st_2_3 | apply st_0_4 | apply st_1_4 | apply st_2_4 | apply st_3_4 | (apply other_set; case hne => omega) | exact heap_alloc_new' _ _ (by first | rfl | (simp; done)))))
        have HKB_10 := Lib.hid (hL.keep (k := w2.heap.size + 1) (by repeat (with_reducible first | exact HKB_9.out | exact heap_alloc_new _ _ | (apply heap_alloc_new'; first | rfl | (simp; done)) | apply heap_alloc_old | apply st_0_2 | apply st_1_2 | apply st_0_3 | apply st_1_3 | apply st_2_3 | apply st_0_4 | apply st_1_4 | apply st_2_4 | apply st_3_4 | (apply other_set; case hne => omega) | exact heap_alloc_new' _ _ (by first | rfl | (simp; done)))))
        have HKC_10 := Lib.hid (hL.keep (k := w3.heap.size) (by repeat (with_reducible first | exact HKC_9.out | exact heap_alloc_new _ _ | (apply heap_alloc_new'; first | rfl | (simp; done)) | apply heap_alloc_old | apply st_0_2 | apply st_1_2 | apply st_0_3 | apply st_1_3 | apply st_2_3 | apply st_0_4 | apply st_1_4 | apply st_2_4 | apply st_3_4 | (apply other_set; case hne => omega) | exact heap_alloc_new' _ _ (by first | rfl | (simp; done)))))
        have HKD_10 := Lib.hid (hL.keep (k := w3.heap.size + 1) (by repeat (with_reducible first | exact HKD_9.out | exact heap_alloc_new _ _ | (apply heap_alloc_new'; first | rfl | (simp; done)) | apply heap_alloc_old | apply st_0_2 | apply st_1_2 | apply st_0_3 | apply st_1_3 | apply st_2_3 | apply st_0_4 | apply st_1_4 | apply st_2_4 | apply st_3_4 | (apply other_set; case hne => omega) | exact heap_alloc_new' _ _ (by first | rfl | (simp; done)))))
        have HKE_10 := Lib.hid (hL.keep (k := w4.heap.size) (by repeat (with_reducible first | exact HKE_9.out | exact heap_alloc_new _ _ | (apply heap_alloc_new'; first | rfl | (simp; done)) | apply heap_alloc_old | apply st_0_2 | apply st_1_2 | apply st_0_3 | apply st_1_3 | apply st_2_3 | apply st_0_4 | apply st_1_4 | apply st_2_4 | apply st_3_4 | (apply other_set; case hne => omega) | exact heap_alloc_new' _ _ (by first | rfl | (simp; done)))))
        have HKF_10 := Lib.hid (hL.keep (k := w5.heap.size) (by repeat (with_reducible first | exact HKF_9.out | exact heap_alloc_new _ _ | (apply heap_alloc_new'; first | rfl | (simp; done)) | apply heap_alloc_old | apply st_0_2 | apply st_1_2 | apply st_0_3 | apply st_1_3 | apply st_2_3 | apply st_0_4 | apply st_1_4 | apply st_2_4 | apply st_3_4 | (apply other_set; case hne => omega) | exact heap_alloc_new' _ _ (by first | rfl | (simp; done)))))
        clear hL cA fA cB fB cC fC cD fD cE fE cF fF
        obtain ⟨cA, fA, zA_10⟩ := blk_at HKA_10.out
        obtain ⟨cB, fB, zB_10⟩ := blk_at HKB_10.out
        obtain ⟨cC, fC, zC_10⟩ := blk_at HKC_10.out
        obtain ⟨cD, fD, zD_10⟩ := blk_at HKD_10.out
        obtain ⟨cE, fE, zE_10⟩ := blk_at HKE_10.out
        obtain ⟨cF, fF, zF_10⟩ := blk_at HKF_10.out
        rw [show relC ⟨(chainFig l).d, (chainFig l).t⟩ ⟨(chainSpanL l).d, (chainSpanL l).t⟩ = 0 from R1.out, show relV ⟨(chainFig l).d, (chainFig l).t⟩ ⟨(chainSpanL l).d, (chainSpanL l).t⟩ = relV (chainFig l) (chainSpanL l) from rfl]
        go_wp2_with fail
        refine (w_implRelativeError (chainFig l).d (chainFig l).t (chainSpanH l).d (chainSpanH l).t _ G1.out G3.out).mono ?_
        rintro e w11 ⟨rfl, hL⟩
        have HW11 : Hid (Later W w11) := Lib.hid (Later.trans (by repeat (with_reducible first | exact HW10.out | refine Later.alloc ?_ _ | refine Later.drew ?_ | refine Later.drewN ?_ _ | refine Later.setCell ?_ (by first | omega | (simp; omega)) _)) hL)
        have hz11 := HW11.out.size
        have HKA_11 := Lib.hid (hL.keep (k := w2.heap.size) (by repeat (with_reducible first | exact HKA_10.out | exact heap_alloc_new _ _ | (apply heap_alloc_new'; first | rfl | (simp; done)) | apply heap_alloc_old | apply st_0_2 | apply st_1_2 | apply st_0_3 | apply st_1_3 | apply st_2_3 | apply st_0_4 | apply st_1_4 | apply st_2_4 | apply st_3_4 | (apply other_set; case hne => omega) | exact heap_alloc_new' _ _ (by first | rfl | (simp; done)))))
        have HKB_11 := Lib.hid (hL.keep (k := w2.heap.size + 1) (by repeat (with_reducible first | exact HKB_10.out | exact heap_alloc_new _ _ | (apply heap_alloc_new'; first | rfl | (simp; done)) | apply heap_alloc_old | apply st_0_2 | apply st_1_2 | apply st_0_3 | apply st_1_3 | apply st_2_3 | apply st_0_4 | apply st_1_4 | apply st_2_4 | apply st_3_4 | (apply other_set; case hne => omega) | exact heap_alloc_new' _ _ (by first | rfl | (simp; done)))))
        have HKC_11 := Lib.hid (hL.keep (k := w3.heap.size) (by repeat (with_reducible first | exact HKC_10.out | exact heap_alloc_new _ _ | (apply heap_alloc_new'; first | rfl | (simp; done)) | apply heap_alloc_old | apply st_0_2 | apply st_1_2 | apply st_0_3 | apply st_1_3 | apply st_2_3 | apply st_0_4 | apply st_1_4 | apply st_2_4 | apply st_3_4 | (apply other_set; case hne => omega) | exact heap_alloc_new' _ _ (by first | rfl | (simp; done)))))
        have HKD_11 := Lib.hid (hL.keep (k := w3.heap.size + 1) (by repeat (with_reducible first | exact HKD_10.out | exact heap_alloc_new _ _ | (apply heap_alloc_new'; first | rfl | (simp; done)) | apply heap_alloc_old | apply st_0_2 | apply st_1_2 | apply st_0_3 | apply st_1_3 | apply st_2_3 | apply st_0_4 | apply st_1_4 | apply st_2_4 | apply st_3_4 | (apply other_set; case hne => omega) | exact heap_alloc_new' _ _ (by first | rfl | (simp; done)))))
        have HKE_11 := Lib.hid (hL.keep (k := w4.heap.size) (by repeat (with_reducible first | exact HKE_10.out | exact heap_alloc_new _ _ | (apply heap_alloc_new'; first | rfl | (simp; done)) | apply heap_alloc_old | apply st_0_2 | apply st_1_2 | apply st_0_3 | apply st_1_3 | apply st_2_3 | apply st_0_4 | apply st_1_4 | apply st_2_4 | apply st_3_4 | (apply other_set; case hne => omega) | exact heap_alloc_new' _ _ (by first | rfl | (simp; done)))))
        have HKF_11 := Lib.hid (hL.keep (k := w5.heap.size) (by repeat (with_reducible first | exact HKF_10.out | exact heap_alloc_new _ _ | (apply heap_alloc_new'; first | rfl | (simp; done)) | apply heap_alloc_old | apply st_0_2 | apply st_1_2 | apply st_0_3 | apply st_1_3 | apply st_2_3 | apply st_0_4 | apply st_1_4 | apply st_2_4 | apply st_3_4 | (apply other_set; case hne => omega) | exact heap_alloc_new' _ _ (by first | rfl | (simp; done)))))
        clear hL cA fA cB fB cC fC cD fD cE fE cF fF
        obtain ⟨cA, fA, zA_11⟩ := blk_at HKA_11.out
        obtain ⟨cB, fB, zB_11⟩ := blk_at HKB_11.out
        obtain ⟨cC, fC, zC_11⟩ := blk_at HKC_11.out
        obtain ⟨cD, fD, zD_11⟩ := blk_at HKD_11.out
        obtain ⟨cE, fE, zE_11⟩ := blk_at HKE_11.out
        obtain ⟨cF, fF, zF_11⟩ := blk_at HKF_11.out
        rw [show relC ⟨(chainFig l).d, (chainFig l).t⟩ ⟨(chainSpanH l).d, (chainSpanH l).t⟩ = 0 from R3.out, show relV ⟨(chainFig l).d, (chainFig l).t⟩ ⟨(chainSpanH l).d, (chainSpanH l).t⟩ = relV (chainFig l) (chainSpanH l) from rfl]
        go_wp2
        go_ret
        exact ⟨rfl, (by repeat (with_reducible first | exact HW11.out | refine Later.alloc ?_ _ | refine Later.drew ?_ | refine Later.drewN ?_ _ | refine Later.setCell ?_ (by first | omega | (simp; omega)) _))⟩
      · skip
        have hqb : (chainFigC l != 0) = true := by simpa using hq
        go_wp2
        go_ret
        exact ⟨rfl, (by repeat (with_reducible first | exact HW9.out | refine Later.alloc ?_ _ | refine Later.drew ?_ | refine Later.drewN ?_ _ | refine Later.setCell ?_ (by first | omega | (simp; omega)) _))⟩
    · skip
      have hpb : (chainSpanC l != 0) = true := by simpa using hp
      go_wp2
      go_ret
      exact ⟨rfl, (by repeat (with_reducible first | exact HW9.out | refine Later.alloc ?_ _ | refine Later.drew ?_ | refine Later.drewN ?_ _ | refine Later.setCell ?_ (by first | omega | (simp; omega)) _))⟩

theorem lifted (os : Os) (started : os.Started) (H : Type) (enc : TypeId × Value → H) :
    ReturnsInHanded {} Try.checked os 6 .any (Rows.fnChainValuesSpec.pre6 enc Try.prog Try.f6 Rows.fnChainValuesRow.domain false) (Rows.fnChainValuesSpec.post enc Try.prog Try.f6 false true false false) := by
  refine returnsInHanded_of_change (C := Try.checked) o_own started (by kernel_rfl) Try.func6
    (ChangeSpec.witness6 (enc := enc) (C := Try.checked) false ⟨#[], #[.slice none 0 0], []⟩ 8 (by kernel_rfl) (by kernel_rfl) (by kernel_rfl) (by kernel_rfl)) ?_
  intro W base args ds gs before hval0 hW hcnd _
  have hval : ∀ (j : Nat) t v, Try.f6.params[j]? = some t → args[j]? = some v → Value.okWide Try.prog W .any base t v := hval0
  have hW' := hW
  obtain ⟨p, q, hA0, hV, rfl, hfz, hnd⟩ := hW
  have hA : DataW.TrodAll enc Try.prog W 0 (fun _ => true) true Try.f6.params.toList args.toList ds p := hA0
  rw [Try.params6] at hA hval
  obtain ⟨v0, vs0, d0, ds0, p0, q0, hargs, rfl, rfl, h0, r0⟩ := trodAll_cons hA
  obtain ⟨rfl, rfl, rfl⟩ := trodAll_nil r0
  obtain rfl : args = #[v0] := by cases args; simp_all
  obtain ⟨rfl, rfl⟩ := trodVars_none hV
  obtain ⟨a0, len0, cap0, rfl⟩ := okWide_slice Try.underlying22 (hval 0 22 v0 rfl rfl)
  have k0 := h0
  have lt0 : ∀ x ∈ p0, x.block < W.heap.size := by obtain ⟨m, hm⟩ := k0; exact DataW.trod_lt m _ _ _ hm
  obtain ⟨l0, w0, hB0⟩ := o_bytes h0
  clear hA0 hval0
  refine (walk _ l0 W w0 hB0).mono fun e W' ⟨he, bel⟩ => ?_
  subst he
  exact ⟨_, rfl, _, _, _, [], _, [], hW', trodAll_mk1 (shut_bool Try.underlying4 _), (trodAll_cons_mk (Below.trod o_laidOut (by kernel_rfl) (of_decide_eq_true (by kernel_rfl)) k0 bel lt0) trodAll_mk0), rfl, bel.frame _, fun h => by cases h⟩

theorem over : Rows.fnChainValuesRow.holds Try.pinned (OpenSpec.ofChange Rows.fnChainValuesSpec) :=
  OpenClaim.holds_of_wide 6 Try.f6 rfl rfl rfl rfl rfl rfl rfl ⟨rfl, rfl, rfl, rfl, rfl⟩ rfl rfl rfl rfl rfl (by kernel_rfl) Try.func6 (by kernel_rfl)
    (of_decide_eq_true (by kernel_rfl)) (by unfold Func.isWrapper; first | (rw [if_pos (by decide +kernel)]; kernel_rfl) | (rw [if_neg (by decide +kernel)]; exact ⟨rfl, rfl⟩))
    (fun os started H enc _ => lifted os started H enc)

theorem proved : Rows.FnChainValuesSaid := over
#print axioms proved
end Go.Proofs.Ytkoojngonldcbaa.lawChainValues
