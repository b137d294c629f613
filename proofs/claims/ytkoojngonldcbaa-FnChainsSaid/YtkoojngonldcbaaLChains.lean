/- Exchanging terms of a chain, or sorting them, leaves its logarithm: the law FnChains. It returns true for all codes. No condition. -/
import Derived.Test.YtkoojngonldcbaaRows
import Derived.Test.YtkoojngonldcbaaO3
import Derived.Test.YtkoojngonldcbaaM8b
import Derived.Test.YtkoojngonldcbaaM9
import Derived.Test.YtkoojngonldcbaaM14
import Derived.Test.YtkoojngonldcbaaM103
import Derived.Test.YtkoojngonldcbaaP14
namespace Go.Proofs.Ytkoojngonldcbaa.lawChains
set_option linter.unusedVariables false
set_option linter.unusedSimpArgs false
open Go.ChangeShapes Go.WideShapes Go.ChangeAt Go.RowKit
set_option linter.unusedVariables false
set_option maxRecDepth 100000

theorem swapTerms_len7 (l : List Trm) (a b : Int) (h : l.length ≤ 7) : (swapTerms l a b).1.length ≤ 7 := by
  unfold swapTerms
  split
  · split
    · split
      · show (swapL _ _ _).length ≤ 7
        rw [swapL_len]; exact h
      · simp
    · simp
  · simp
theorem sortTerms_len7 (l : List Trm) (h : l.length ≤ 7) : (sortTerms l).1.length ≤ 7 := by
  unfold sortTerms
  split
  · show (sortL l).length ≤ 7
    rw [sortL_len]; exact h
  · simp
theorem codeChain_eq (l : List Trm) : (codeChain l == 0) = isChain l := by
  unfold codeChain
  cases isChain l <;> rfl
theorem w_likeTermsY (v v' : Value) (ts : List Trm) (w : World) (h : IsTrms w v ts) (h' : IsTrms w v' ts) :
    Calls Try.prog 19 #[v, v'] w fun e w' => e = .returned (.bool true) ∧ Later w w' :=
  (w_likeTerms v v' ts ts w h h').mono fun e w' h => by simpa using h

set_option maxHeartbeats 4000000 in
theorem walk (v0 : Value) (bs : List Int) (W : World) (r0 : Raw W v0 bs.length 1 (byts bs)) (hB : ∀ b ∈ bs, 0 ≤ b ∧ b ≤ 255) :
    Calls Try.prog 3 #[v0] W fun e w' => e = .returned (.bool true) ∧ Later W w' := by
  by_cases hb : bs.length ≤ 4096
  rotate_left
  · obtain ⟨_, x0, cap0, rfl, hcap0, hmax0, _⟩ := r0
    have hbg : decide ((4096 : Int) < (bs.length : Int)) = true := by simp; omega
    have HB := Lib.hid hbg
    clear hbg
    go_enter Try.func3, Try.ntmps3
    go_wp2_with fail
    refine (w_big _ _ _ (by omega) _).mono ?_
    rintro e w' ⟨rfl, rfl⟩
    rw [HB.out]
    go_wp2
    go_ret
    exact ⟨rfl, Later.refl _⟩
  have HC := Lib.hid (r0.reads (by omega))
  obtain ⟨_, x0, cap0, rfl, hcap0, hmax0, _⟩ := r0
  have hbg : decide ((4096 : Int) < (bs.length : Int)) = false := by simp; omega
  have HB := Lib.hid hbg
  clear hbg
  go_enter Try.func3, Try.ntmps3
  go_wp2_with fail
  refine (w_big _ _ _ (by omega) _).mono ?_
  rintro e w' ⟨rfl, rfl⟩
  rw [HB.out]
  go_wp2_with fail
  refine (w_DrawSwapTerms _ bs _ ((HC.out.later (by repeat (with_reducible first | exact Later.refl _ | refine Later.alloc ?_ _ | refine Later.drew ?_ | refine Later.drewN ?_ _ | refine Later.setCell ?_ (by first | omega | (simp; omega)) _)))) hB hb).mono ?_
  rintro e w1 ⟨v, l, a, b, rfl, hOc, h17, hL⟩
  have HW1 : Hid (Later W w1) := Lib.hid (Later.trans (by repeat (with_reducible first | exact Later.refl _ | refine Later.alloc ?_ _ | refine Later.drew ?_ | refine Later.drewN ?_ _ | refine Later.setCell ?_ (by first | omega | (simp; omega)) _)) hL)
  have hz1 := HW1.out.size
  have HOc_1 := Lib.hid hOc
  clear hOc
  clear hL
  go_wp2_with fail
  refine (w_implSwapTerms _ l a b _ (reads_of_owns (by repeat (with_reducible first | exact HOc_1.out | apply World.ownsRow.alloc | (apply owns_setNe; case hk => exact ne_own HOc_1.out (by first | omega | (simp; omega))) | (refine owns_later ?_ (Later.refl _).drew) | (refine owns_later ?_ ((Later.refl _).drewN _)))) (by omega))).mono ?_
  rintro e w2 ⟨x, rfl, hL, hOx⟩
  have HW2 : Hid (Later W w2) := Lib.hid (Later.trans (by repeat (with_reducible first | exact HW1.out | refine Later.alloc ?_ _ | refine Later.drew ?_ | refine Later.drewN ?_ _ | refine Later.setCell ?_ (by first | omega | (simp; omega)) _)) hL)
  have hz2 := HW2.out.size
  have HOc_2 := Lib.hid (owns_later (by repeat (with_reducible first | exact HOc_1.out | apply World.ownsRow.alloc | (apply owns_setNe; case hk => exact ne_own HOc_1.out (by first | omega | (simp; omega))) | (refine owns_later ?_ (Later.refl _).drew) | (refine owns_later ?_ ((Later.refl _).drewN _)))) hL)
  have HOx_2 := Lib.hid hOx
  clear hOx
  clear hL
  go_wp2_with fail
  refine (w_specSwapTerms _ l a b _ (reads_of_owns (by repeat (with_reducible first | exact HOc_2.out | apply World.ownsRow.alloc | (apply owns_setNe; case hk => exact ne_own HOc_2.out (by first | omega | (simp; omega))) | (refine owns_later ?_ (Later.refl _).drew) | (refine owns_later ?_ ((Later.refl _).drewN _)))) (by omega))).mono ?_
  rintro e w3 ⟨xm, rfl, hL, hOm⟩
  have HW3 : Hid (Later W w3) := Lib.hid (Later.trans (by repeat (with_reducible first | exact HW2.out | refine Later.alloc ?_ _ | refine Later.drew ?_ | refine Later.drewN ?_ _ | refine Later.setCell ?_ (by first | omega | (simp; omega)) _)) hL)
  have hz3 := HW3.out.size
  have HOc_3 := Lib.hid (owns_later (by repeat (with_reducible first | exact HOc_2.out | apply World.ownsRow.alloc | (apply owns_setNe; case hk => exact ne_own HOc_2.out (by first | omega | (simp; omega))) | (refine owns_later ?_ (Later.refl _).drew) | (refine owns_later ?_ ((Later.refl _).drewN _)))) hL)
  have HOx_3 := Lib.hid (owns_later (by repeat (with_reducible first | exact HOx_2.out | apply World.ownsRow.alloc | (apply owns_setNe; case hk => exact ne_own HOx_2.out (by first | omega | (simp; omega))) | (refine owns_later ?_ (Later.refl _).drew) | (refine owns_later ?_ ((Later.refl _).drewN _)))) hL)
  have HOm_3 := Lib.hid hOm
  clear hOm
  clear hL
  have hsw : (swapTerms l a b).1.length ≤ 7 := by have := swapTerms_len7 l a b h17; exact this
  go_wp2_with fail
  refine (w_DrawSortTerms _ bs _ ((HC.out.later (by repeat (with_reducible first | exact HW3.out | refine Later.alloc ?_ _ | refine Later.drew ?_ | refine Later.drewN ?_ _ | refine Later.setCell ?_ (by first | omega | (simp; omega)) _)))) hB hb).mono ?_
  rintro e w4 ⟨v', ld, rfl, hOd, h27, hL⟩
  have HW4 : Hid (Later W w4) := Lib.hid (Later.trans (by repeat (with_reducible first | exact HW3.out | refine Later.alloc ?_ _ | refine Later.drew ?_ | refine Later.drewN ?_ _ | refine Later.setCell ?_ (by first | omega | (simp; omega)) _)) hL)
  have hz4 := HW4.out.size
  have HOc_4 := Lib.hid (owns_later (by repeat (with_reducible first | exact HOc_3.out | apply World.ownsRow.alloc | (apply owns_setNe; case hk => exact ne_own HOc_3.out (by first | omega | (simp; omega))) | (refine owns_later ?_ (Later.refl _).drew) | (refine owns_later ?_ ((Later.refl _).drewN _)))) hL)
  have HOx_4 := Lib.hid (owns_later (by repeat (with_reducible first | exact HOx_3.out | apply World.ownsRow.alloc | (apply owns_setNe; case hk => exact ne_own HOx_3.out (by first | omega | (simp; omega))) | (refine owns_later ?_ (Later.refl _).drew) | (refine owns_later ?_ ((Later.refl _).drewN _)))) hL)
  have HOm_4 := Lib.hid (owns_later (by repeat (with_reducible first | exact HOm_3.out | apply World.ownsRow.alloc | (apply owns_setNe; case hk => exact ne_own HOm_3.out (by first | omega | (simp; omega))) | (refine owns_later ?_ (Later.refl _).drew) | (refine owns_later ?_ ((Later.refl _).drewN _)))) hL)
  have HOd_4 := Lib.hid hOd
  clear hOd
  clear hL
  go_wp2_with fail
  refine (w_implSortTerms _ ld _ (reads_of_owns (by repeat (with_reducible first | exact HOd_4.out | apply World.ownsRow.alloc | (apply owns_setNe; case hk => exact ne_own HOd_4.out (by first | omega | (simp; omega))) | (refine owns_later ?_ (Later.refl _).drew) | (refine owns_later ?_ ((Later.refl _).drewN _)))) (by omega))).mono ?_
  rintro e w5 ⟨y, rfl, hL, hOy⟩
  have HW5 : Hid (Later W w5) := Lib.hid (Later.trans (by repeat (with_reducible first | exact HW4.out | refine Later.alloc ?_ _ | refine Later.drew ?_ | refine Later.drewN ?_ _ | refine Later.setCell ?_ (by first | omega | (simp; omega)) _)) hL)
  have hz5 := HW5.out.size
  have HOc_5 := Lib.hid (owns_later (by repeat (with_reducible first | exact HOc_4.out | apply World.ownsRow.alloc | (apply owns_setNe; case hk => exact ne_own HOc_4.out (by first | omega | (simp; omega))) | (refine owns_later ?_ (Later.refl _).drew) | (refine owns_later ?_ ((Later.refl _).drewN _)))) hL)
  have HOx_5 := Lib.hid (owns_later (by repeat (with_reducible first | exact HOx_4.out | apply World.ownsRow.alloc | (apply owns_setNe; case hk => exact ne_own HOx_4.out (by first | omega | (simp; omega))) | (refine owns_later ?_ (Later.refl _).drew) | (refine owns_later ?_ ((Later.refl _).drewN _)))) hL)
  have HOm_5 := Lib.hid (owns_later (by repeat (with_reducible first | exact HOm_4.out | apply World.ownsRow.alloc | (apply owns_setNe; case hk => exact ne_own HOm_4.out (by first | omega | (simp; omega))) | (refine owns_later ?_ (Later.refl _).drew) | (refine owns_later ?_ ((Later.refl _).drewN _)))) hL)
  have HOd_5 := Lib.hid (owns_later (by repeat (with_reducible first | exact HOd_4.out | apply World.ownsRow.alloc | (apply owns_setNe; case hk => exact ne_own HOd_4.out (by first | omega | (simp; omega))) | (refine owns_later ?_ (Later.refl _).drew) | (refine owns_later ?_ ((Later.refl _).drewN _)))) hL)
  have HOy_5 := Lib.hid hOy
  clear hOy
  clear hL
  go_wp2_with fail
  refine (w_specSortTerms _ ld _ (reads_of_owns (by repeat (with_reducible first | exact HOd_5.out | apply World.ownsRow.alloc | (apply owns_setNe; case hk => exact ne_own HOd_5.out (by first | omega | (simp; omega))) | (refine owns_later ?_ (Later.refl _).drew) | (refine owns_later ?_ ((Later.refl _).drewN _)))) (by omega))).mono ?_
  rintro e w6 ⟨ym, rfl, hL, hOn⟩
  have HW6 : Hid (Later W w6) := Lib.hid (Later.trans (by repeat (with_reducible first | exact HW5.out | refine Later.alloc ?_ _ | refine Later.drew ?_ | refine Later.drewN ?_ _ | refine Later.setCell ?_ (by first | omega | (simp; omega)) _)) hL)
  have hz6 := HW6.out.size
  have HOc_6 := Lib.hid (owns_later (by repeat (with_reducible first | exact HOc_5.out | apply World.ownsRow.alloc | (apply owns_setNe; case hk => exact ne_own HOc_5.out (by first | omega | (simp; omega))) | (refine owns_later ?_ (Later.refl _).drew) | (refine owns_later ?_ ((Later.refl _).drewN _)))) hL)
  have HOx_6 := Lib.hid (owns_later (by repeat (with_reducible first | exact HOx_5.out | apply World.ownsRow.alloc | (apply owns_setNe; case hk => exact ne_own HOx_5.out (by first | omega | (simp; omega))) | (refine owns_later ?_ (Later.refl _).drew) | (refine owns_later ?_ ((Later.refl _).drewN _)))) hL)
  have HOm_6 := Lib.hid (owns_later (by repeat (with_reducible first | exact HOm_5.out | apply World.ownsRow.alloc | (apply owns_setNe; case hk => exact ne_own HOm_5.out (by first | omega | (simp; omega))) | (refine owns_later ?_ (Later.refl _).drew) | (refine owns_later ?_ ((Later.refl _).drewN _)))) hL)
  have HOd_6 := Lib.hid (owns_later (by repeat (with_reducible first | exact HOd_5.out | apply World.ownsRow.alloc | (apply owns_setNe; case hk => exact ne_own HOd_5.out (by first | omega | (simp; omega))) | (refine owns_later ?_ (Later.refl _).drew) | (refine owns_later ?_ ((Later.refl _).drewN _)))) hL)
  have HOy_6 := Lib.hid (owns_later (by repeat (with_reducible first | exact HOy_5.out | apply World.ownsRow.alloc | (apply owns_setNe; case hk => exact ne_own HOy_5.out (by first | omega | (simp; omega))) | (refine owns_later ?_ (Later.refl _).drew) | (refine owns_later ?_ ((Later.refl _).drewN _)))) hL)
  have HOn_6 := Lib.hid hOn
  clear hOn
  clear hL
  have hso : (sortTerms ld).1.length ≤ 7 := sortTerms_len7 ld h27
  go_wp2_with fail
  refine (w_DrawChainLog _ bs _ ((HC.out.later (by repeat (with_reducible first | exact HW6.out | refine Later.alloc ?_ _ | refine Later.drew ?_ | refine Later.drewN ?_ _ | refine Later.setCell ?_ (by first | omega | (simp; omega)) _)))) hB hb).mono ?_
  rintro e w7 ⟨v'', le, rfl, hOe, h37, hL⟩
  have HW7 : Hid (Later W w7) := Lib.hid (Later.trans (by repeat (with_reducible first | exact HW6.out | refine Later.alloc ?_ _ | refine Later.drew ?_ | refine Later.drewN ?_ _ | refine Later.setCell ?_ (by first | omega | (simp; omega)) _)) hL)
  have hz7 := HW7.out.size
  have HOc_7 := Lib.hid (owns_later (by repeat (with_reducible first | exact HOc_6.out | apply World.ownsRow.alloc | (apply owns_setNe; case hk => exact ne_own HOc_6.out (by first | omega | (simp; omega))) | (refine owns_later ?_ (Later.refl _).drew) | (refine owns_later ?_ ((Later.refl _).drewN _)))) hL)
  have HOx_7 := Lib.hid (owns_later (by repeat (with_reducible first | exact HOx_6.out | apply World.ownsRow.alloc | (apply owns_setNe; case hk => exact ne_own HOx_6.out (by first | omega | (simp; omega))) | (refine owns_later ?_ (Later.refl _).drew) | (refine owns_later ?_ ((Later.refl _).drewN _)))) hL)
  have HOm_7 := Lib.hid (owns_later (by repeat (with_reducible first | exact HOm_6.out | apply World.ownsRow.alloc | (apply owns_setNe; case hk => exact ne_own HOm_6.out (by first | omega | (simp; omega))) | (refine owns_later ?_ (Later.refl _).drew) | (refine owns_later ?_ ((Later.refl _).drewN _)))) hL)
  have HOd_7 := Lib.hid (owns_later (by repeat (with_reducible first | exact HOd_6.out | apply World.ownsRow.alloc | (apply owns_setNe; case hk => exact ne_own HOd_6.out (by first | omega | (simp; omega))) | (refine owns_later ?_ (Later.refl _).drew) | (refine owns_later ?_ ((Later.refl _).drewN _)))) hL)
  have HOy_7 := Lib.hid (owns_later (by repeat (with_reducible first | exact HOy_6.out | apply World.ownsRow.alloc | (apply owns_setNe; case hk => exact ne_own HOy_6.out (by first | omega | (simp; omega))) | (refine owns_later ?_ (Later.refl _).drew) | (refine owns_later ?_ ((Later.refl _).drewN _)))) hL)
  have HOn_7 := Lib.hid (owns_later (by repeat (with_reducible first | exact HOn_6.out | apply World.ownsRow.alloc | (apply owns_setNe; case hk => exact ne_own HOn_6.out (by first | omega | (simp; omega))) | (refine owns_later ?_ (Later.refl _).drew) | (refine owns_later ?_ ((Later.refl _).drewN _)))) hL)
  have HOe_7 := Lib.hid hOe
  clear hOe
  clear hL
  go_wp2_with fail
  refine (w_implChainLog _ le _ (reads_of_owns (by repeat (with_reducible first | exact HOe_7.out | apply World.ownsRow.alloc | (apply owns_setNe; case hk => exact ne_own HOe_7.out (by first | omega | (simp; omega))) | (refine owns_later ?_ (Later.refl _).drew) | (refine owns_later ?_ ((Later.refl _).drewN _)))) (by omega))).mono ?_
  rintro e w8 ⟨rfl, hL⟩
  have HW8 : Hid (Later W w8) := Lib.hid (Later.trans (by repeat (with_reducible first | exact HW7.out | refine Later.alloc ?_ _ | refine Later.drew ?_ | refine Later.drewN ?_ _ | refine Later.setCell ?_ (by first | omega | (simp; omega)) _)) hL)
  have hz8 := HW8.out.size
  have HOc_8 := Lib.hid (owns_later (by repeat (with_reducible first | exact HOc_7.out | apply World.ownsRow.alloc | (apply owns_setNe; case hk => exact ne_own HOc_7.out (by first | omega | (simp; omega))) | (refine owns_later ?_ (Later.refl _).drew) | (refine owns_later ?_ ((Later.refl _).drewN _)))) hL)
  have HOx_8 := Lib.hid (owns_later (by repeat (with_reducible first | exact HOx_7.out | apply World.ownsRow.alloc | (apply owns_setNe; case hk => exact ne_own HOx_7.out (by first | omega | (simp; omega))) | (refine owns_later ?_ (Later.refl _).drew) | (refine owns_later ?_ ((Later.refl _).drewN _)))) hL)
  have HOm_8 := Lib.hid (owns_later (by repeat (with_reducible first | exact HOm_7.out | apply World.ownsRow.alloc | (apply owns_setNe; case hk => exact ne_own HOm_7.out (by first | omega | (simp; omega))) | (refine owns_later ?_ (Later.refl _).drew) | (refine owns_later ?_ ((Later.refl _).drewN _)))) hL)
  have HOd_8 := Lib.hid (owns_later (by repeat (with_reducible first | exact HOd_7.out | apply World.ownsRow.alloc | (apply owns_setNe; case hk => exact ne_own HOd_7.out (by first | omega | (simp; omega))) | (refine owns_later ?_ (Later.refl _).drew) | (refine owns_later ?_ ((Later.refl _).drewN _)))) hL)
  have HOy_8 := Lib.hid (owns_later (by repeat (with_reducible first | exact HOy_7.out | apply World.ownsRow.alloc | (apply owns_setNe; case hk => exact ne_own HOy_7.out (by first | omega | (simp; omega))) | (refine owns_later ?_ (Later.refl _).drew) | (refine owns_later ?_ ((Later.refl _).drewN _)))) hL)
  have HOn_8 := Lib.hid (owns_later (by repeat (with_reducible first | exact HOn_7.out | apply World.ownsRow.alloc | (apply owns_setNe; case hk => exact ne_own HOn_7.out (by first | omega | (simp; omega))) | (refine owns_later ?_ (Later.refl _).drew) | (refine owns_later ?_ ((Later.refl _).drewN _)))) hL)
  have HOe_8 := Lib.hid (owns_later (by repeat (with_reducible first | exact HOe_7.out | apply World.ownsRow.alloc | (apply owns_setNe; case hk => exact ne_own HOe_7.out (by first | omega | (simp; omega))) | (refine owns_later ?_ (Later.refl _).drew) | (refine owns_later ?_ ((Later.refl _).drewN _)))) hL)
  clear hL
  go_wp2_with fail
  refine (w_specChainLog _ le _ (reads_of_owns (by repeat (with_reducible first | exact HOe_8.out | apply World.ownsRow.alloc | (apply owns_setNe; case hk => exact ne_own HOe_8.out (by first | omega | (simp; omega))) | (refine owns_later ?_ (Later.refl _).drew) | (refine owns_later ?_ ((Later.refl _).drewN _)))) (by omega))).mono ?_
  rintro e w9 ⟨rfl, hL⟩
  have HW9 : Hid (Later W w9) := Lib.hid (Later.trans (by repeat (with_reducible first | exact HW8.out | refine Later.alloc ?_ _ | refine Later.drew ?_ | refine Later.drewN ?_ _ | refine Later.setCell ?_ (by first | omega | (simp; omega)) _)) hL)
  have hz9 := HW9.out.size
  have HOc_9 := Lib.hid (owns_later (by repeat (with_reducible first | exact HOc_8.out | apply World.ownsRow.alloc | (apply owns_setNe; case hk => exact ne_own HOc_8.out (by first | omega | (simp; omega))) | (refine owns_later ?_ (Later.refl _).drew) | (refine owns_later ?_ ((Later.refl _).drewN _)))) hL)
  have HOx_9 := Lib.hid (owns_later (by repeat (with_reducible first | exact HOx_8.out | apply World.ownsRow.alloc | (apply owns_setNe; case hk => exact ne_own HOx_8.out (by first | omega | (simp; omega))) | (refine owns_later ?_ (Later.refl _).drew) | (refine owns_later ?_ ((Later.refl _).drewN _)))) hL)
  have HOm_9 := Lib.hid (owns_later (by repeat (with_reducible first | exact HOm_8.out | apply World.ownsRow.alloc | (apply owns_setNe; case hk => exact ne_own HOm_8.out (by first | omega | (simp; omega))) | (refine owns_later ?_ (Later.refl _).drew) | (refine owns_later ?_ ((Later.refl _).drewN _)))) hL)
  have HOd_9 := Lib.hid (owns_later (by repeat (with_reducible first | exact HOd_8.out | apply World.ownsRow.alloc | (apply owns_setNe; case hk => exact ne_own HOd_8.out (by first | omega | (simp; omega))) | (refine owns_later ?_ (Later.refl _).drew) | (refine owns_later ?_ ((Later.refl _).drewN _)))) hL)
  have HOy_9 := Lib.hid (owns_later (by repeat (with_reducible first | exact HOy_8.out | apply World.ownsRow.alloc | (apply owns_setNe; case hk => exact ne_own HOy_8.out (by first | omega | (simp; omega))) | (refine owns_later ?_ (Later.refl _).drew) | (refine owns_later ?_ ((Later.refl _).drewN _)))) hL)
  have HOn_9 := Lib.hid (owns_later (by repeat (with_reducible first | exact HOn_8.out | apply World.ownsRow.alloc | (apply owns_setNe; case hk => exact ne_own HOn_8.out (by first | omega | (simp; omega))) | (refine owns_later ?_ (Later.refl _).drew) | (refine owns_later ?_ ((Later.refl _).drewN _)))) hL)
  have HOe_9 := Lib.hid (owns_later (by repeat (with_reducible first | exact HOe_8.out | apply World.ownsRow.alloc | (apply owns_setNe; case hk => exact ne_own HOe_8.out (by first | omega | (simp; omega))) | (refine owns_later ?_ (Later.refl _).drew) | (refine owns_later ?_ ((Later.refl _).drewN _)))) hL)
  have HKp_9 := Lib.hid (hL.keep (k := w8.heap.size) (by repeat (with_reducible first | exact HKp_8.out | exact heap_alloc_new _ _ | apply heap_alloc_old | apply st_0_2 | apply st_1_2 | apply st_0_3 | apply st_1_3 | apply st_2_3 | apply st_0_4 | apply st_1_4 | apply st_2_4 | apply st_3_4 | (apply other_set; case hne => omega) | exact heap_alloc_new' _ _ (by first | rfl | (simp; done)))))
  clear hL
  obtain ⟨cp, fp, zp_9⟩ := blk_at HKp_9.out
  have hcc : (codeChain le == 0) = isChain le := codeChain_eq le
  go_wp2_with fail
  refine (w_likeTermsY _ _ _ _ (reads_of_owns (by repeat (with_reducible first | exact HOx_9.out | apply World.ownsRow.alloc | (apply owns_setNe; case hk => exact ne_own HOx_9.out (by first | omega | (simp; omega))) | (refine owns_later ?_ (Later.refl _).drew) | (refine owns_later ?_ ((Later.refl _).drewN _)))) (by omega)) (reads_of_owns (by repeat (with_reducible first | exact HOm_9.out | apply World.ownsRow.alloc | (apply owns_setNe; case hk => exact ne_own HOm_9.out (by first | omega | (simp; omega))) | (refine owns_later ?_ (Later.refl _).drew) | (refine owns_later ?_ ((Later.refl _).drewN _)))) (by omega))).mono ?_
  rintro e w10 ⟨rfl, hL⟩
  have HW10 : Hid (Later W w10) := Lib.hid (Later.trans (by repeat (with_reducible first | exact HW9.out | refine Later.alloc ?_ _ | refine Later.drew ?_ | refine Later.drewN ?_ _ | refine Later.setCell ?_ (by first | omega | (simp; omega)) _)) hL)
  have hz10 := HW10.out.size
  have HOc_10 := Lib.hid (owns_later (by repeat (with_reducible first | exact HOc_9.out | apply World.ownsRow.alloc | (apply owns_setNe; case hk => exact ne_own HOc_9.out (by first | omega | (simp; omega))) | (refine owns_later ?_ (Later.refl _).drew) | (refine owns_later ?_ ((Later.refl _).drewN _)))) hL)
  have HOx_10 := Lib.hid (owns_later (by repeat (with_reducible first | exact HOx_9.out | apply World.ownsRow.alloc | (apply owns_setNe; case hk => exact ne_own HOx_9.out (by first | omega | (simp; omega))) | (refine owns_later ?_ (Later.refl _).drew) | (refine owns_later ?_ ((Later.refl _).drewN _)))) hL)
  have HOm_10 := Lib.hid (owns_later (by repeat (with_reducible first | exact HOm_9.out | apply World.ownsRow.alloc | (apply owns_setNe; case hk => exact ne_own HOm_9.out (by first | omega | (simp; omega))) | (refine owns_later ?_ (Later.refl _).drew) | (refine owns_later ?_ ((Later.refl _).drewN _)))) hL)
  have HOd_10 := Lib.hid (owns_later (by repeat (with_reducible first | exact HOd_9.out | apply World.ownsRow.alloc | (apply owns_setNe; case hk => exact ne_own HOd_9.out (by first | omega | (simp; omega))) | (refine owns_later ?_ (Later.refl _).drew) | (refine owns_later ?_ ((Later.refl _).drewN _)))) hL)
  have HOy_10 := Lib.hid (owns_later (by repeat (with_reducible first | exact HOy_9.out | apply World.ownsRow.alloc | (apply owns_setNe; case hk => exact ne_own HOy_9.out (by first | omega | (simp; omega))) | (refine owns_later ?_ (Later.refl _).drew) | (refine owns_later ?_ ((Later.refl _).drewN _)))) hL)
  have HOn_10 := Lib.hid (owns_later (by repeat (with_reducible first | exact HOn_9.out | apply World.ownsRow.alloc | (apply owns_setNe; case hk => exact ne_own HOn_9.out (by first | omega | (simp; omega))) | (refine owns_later ?_ (Later.refl _).drew) | (refine owns_later ?_ ((Later.refl _).drewN _)))) hL)
  have HOe_10 := Lib.hid (owns_later (by repeat (with_reducible first | exact HOe_9.out | apply World.ownsRow.alloc | (apply owns_setNe; case hk => exact ne_own HOe_9.out (by first | omega | (simp; omega))) | (refine owns_later ?_ (Later.refl _).drew) | (refine owns_later ?_ ((Later.refl _).drewN _)))) hL)
  have HKp_10 := Lib.hid (hL.keep (k := w8.heap.size) (by repeat (with_reducible first | exact HKp_9.out | exact heap_alloc_new _ _ | apply heap_alloc_old | apply st_0_2 | apply st_1_2 | apply st_0_3 | apply st_1_3 | apply st_2_3 | apply st_0_4 | apply st_1_4 | apply st_2_4 | apply st_3_4 | (apply other_set; case hne => omega) | exact heap_alloc_new' _ _ (by first | rfl | (simp; done)))))
  have HKq_10 := Lib.hid (hL.keep (k := w9.heap.size) (by repeat (with_reducible first | exact HKq_9.out | exact heap_alloc_new _ _ | apply heap_alloc_old | apply st_0_2 | apply st_1_2 | apply st_0_3 | apply st_1_3 | apply st_2_3 | apply st_0_4 | apply st_1_4 | apply st_2_4 | apply st_3_4 | (apply other_set; case hne => omega) | exact heap_alloc_new' _ _ (by first | rfl | (simp; done)))))
  clear hL cp fp
  obtain ⟨cp, fp, zp_10⟩ := blk_at HKp_10.out
  obtain ⟨cq, fq, zq_10⟩ := blk_at HKq_10.out
  go_wp2_with fail
  refine (w_likeTermsY _ _ _ _ (reads_of_owns (by repeat (with_reducible first | exact HOy_10.out | apply World.ownsRow.alloc | (apply owns_setNe; case hk => exact ne_own HOy_10.out (by first | omega | (simp; omega))) | (refine owns_later ?_ (Later.refl _).drew) | (refine owns_later ?_ ((Later.refl _).drewN _)))) (by omega)) (reads_of_owns (by repeat (with_reducible first | exact HOn_10.out | apply World.ownsRow.alloc | (apply owns_setNe; case hk => exact ne_own HOn_10.out (by first | omega | (simp; omega))) | (refine owns_later ?_ (Later.refl _).drew) | (refine owns_later ?_ ((Later.refl _).drewN _)))) (by omega))).mono ?_
  rintro e w11 ⟨rfl, hL⟩
  have HW11 : Hid (Later W w11) := Lib.hid (Later.trans (by repeat (with_reducible first | exact HW10.out | refine Later.alloc ?_ _ | refine Later.drew ?_ | refine Later.drewN ?_ _ | refine Later.setCell ?_ (by first | omega | (simp; omega)) _)) hL)
  have hz11 := HW11.out.size
  have HOc_11 := Lib.hid (owns_later (by repeat (with_reducible first | exact HOc_10.out | apply World.ownsRow.alloc | (apply owns_setNe; case hk => exact ne_own HOc_10.out (by first | omega | (simp; omega))) | (refine owns_later ?_ (Later.refl _).drew) | (refine owns_later ?_ ((Later.refl _).drewN _)))) hL)
  have HOx_11 := Lib.hid (owns_later (by repeat (with_reducible first | exact HOx_10.out | apply World.ownsRow.alloc | (apply owns_setNe; case hk => exact ne_own HOx_10.out (by first | omega | (simp; omega))) | (refine owns_later ?_ (Later.refl _).drew) | (refine owns_later ?_ ((Later.refl _).drewN _)))) hL)
  have HOm_11 := Lib.hid (owns_later (by repeat (with_reducible first | exact HOm_10.out | apply World.ownsRow.alloc | (apply owns_setNe; case hk => exact ne_own HOm_10.out (by first | omega | (simp; omega))) | (refine owns_later ?_ (Later.refl _).drew) | (refine owns_later ?_ ((Later.refl _).drewN _)))) hL)
  have HOd_11 := Lib.hid (owns_later (by repeat (with_reducible first | exact HOd_10.out | apply World.ownsRow.alloc | (apply owns_setNe; case hk => exact ne_own HOd_10.out (by first | omega | (simp; omega))) | (refine owns_later ?_ (Later.refl _).drew) | (refine owns_later ?_ ((Later.refl _).drewN _)))) hL)
  have HOy_11 := Lib.hid (owns_later (by repeat (with_reducible first | exact HOy_10.out | apply World.ownsRow.alloc | (apply owns_setNe; case hk => exact ne_own HOy_10.out (by first | omega | (simp; omega))) | (refine owns_later ?_ (Later.refl _).drew) | (refine owns_later ?_ ((Later.refl _).drewN _)))) hL)
  have HOn_11 := Lib.hid (owns_later (by repeat (with_reducible first | exact HOn_10.out | apply World.ownsRow.alloc | (apply owns_setNe; case hk => exact ne_own HOn_10.out (by first | omega | (simp; omega))) | (refine owns_later ?_ (Later.refl _).drew) | (refine owns_later ?_ ((Later.refl _).drewN _)))) hL)
  have HOe_11 := Lib.hid (owns_later (by repeat (with_reducible first | exact HOe_10.out | apply World.ownsRow.alloc | (apply owns_setNe; case hk => exact ne_own HOe_10.out (by first | omega | (simp; omega))) | (refine owns_later ?_ (Later.refl _).drew) | (refine owns_later ?_ ((Later.refl _).drewN _)))) hL)
  have HKp_11 := Lib.hid (hL.keep (k := w8.heap.size) (by repeat (with_reducible first | exact HKp_10.out | exact heap_alloc_new _ _ | apply heap_alloc_old | apply st_0_2 | apply st_1_2 | apply st_0_3 | apply st_1_3 | apply st_2_3 | apply st_0_4 | apply st_1_4 | apply st_2_4 | apply st_3_4 | (apply other_set; case hne => omega) | exact heap_alloc_new' _ _ (by first | rfl | (simp; done)))))
  have HKq_11 := Lib.hid (hL.keep (k := w9.heap.size) (by repeat (with_reducible first | exact HKq_10.out | exact heap_alloc_new _ _ | apply heap_alloc_old | apply st_0_2 | apply st_1_2 | apply st_0_3 | apply st_1_3 | apply st_2_3 | apply st_0_4 | apply st_1_4 | apply st_2_4 | apply st_3_4 | (apply other_set; case hne => omega) | exact heap_alloc_new' _ _ (by first | rfl | (simp; done)))))
  clear hL cp fp cq fq
  obtain ⟨cp, fp, zp_11⟩ := blk_at HKp_11.out
  obtain ⟨cq, fq, zq_11⟩ := blk_at HKq_11.out
  go_wp2_with fail
  refine (w_implIsChain _ le _ (reads_of_owns (by repeat (with_reducible first | exact HOe_11.out | apply World.ownsRow.alloc | (apply owns_setNe; case hk => exact ne_own HOe_11.out (by first | omega | (simp; omega))) | (refine owns_later ?_ (Later.refl _).drew) | (refine owns_later ?_ ((Later.refl _).drewN _)))) (by omega))).mono ?_
  rintro e w12 ⟨rfl, hL⟩
  have HW12 : Hid (Later W w12) := Lib.hid (Later.trans (by repeat (with_reducible first | exact HW11.out | refine Later.alloc ?_ _ | refine Later.drew ?_ | refine Later.drewN ?_ _ | refine Later.setCell ?_ (by first | omega | (simp; omega)) _)) hL)
  have hz12 := HW12.out.size
  have HOc_12 := Lib.hid (owns_later (by repeat (with_reducible first | exact HOc_11.out | apply World.ownsRow.alloc | (apply owns_setNe; case hk => exact ne_own HOc_11.out (by first | omega | (simp; omega))) | (refine owns_later ?_ (Later.refl _).drew) | (refine owns_later ?_ ((Later.refl _).drewN _)))) hL)
  have HOx_12 := Lib.hid (owns_later (by repeat (with_reducible first | exact HOx_11.out | apply World.ownsRow.alloc | (apply owns_setNe; case hk => exact ne_own HOx_11.out (by first | omega | (simp; omega))) | (refine owns_later ?_ (Later.refl _).drew) | (refine owns_later ?_ ((Later.refl _).drewN _)))) hL)
  have HOm_12 := Lib.hid (owns_later (by repeat (with_reducible first | exact HOm_11.out | apply World.ownsRow.alloc | (apply owns_setNe; case hk => exact ne_own HOm_11.out (by first | omega | (simp; omega))) | (refine owns_later ?_ (Later.refl _).drew) | (refine owns_later ?_ ((Later.refl _).drewN _)))) hL)
  have HOd_12 := Lib.hid (owns_later (by repeat (with_reducible first | exact HOd_11.out | apply World.ownsRow.alloc | (apply owns_setNe; case hk => exact ne_own HOd_11.out (by first | omega | (simp; omega))) | (refine owns_later ?_ (Later.refl _).drew) | (refine owns_later ?_ ((Later.refl _).drewN _)))) hL)
  have HOy_12 := Lib.hid (owns_later (by repeat (with_reducible first | exact HOy_11.out | apply World.ownsRow.alloc | (apply owns_setNe; case hk => exact ne_own HOy_11.out (by first | omega | (simp; omega))) | (refine owns_later ?_ (Later.refl _).drew) | (refine owns_later ?_ ((Later.refl _).drewN _)))) hL)
  have HOn_12 := Lib.hid (owns_later (by repeat (with_reducible first | exact HOn_11.out | apply World.ownsRow.alloc | (apply owns_setNe; case hk => exact ne_own HOn_11.out (by first | omega | (simp; omega))) | (refine owns_later ?_ (Later.refl _).drew) | (refine owns_later ?_ ((Later.refl _).drewN _)))) hL)
  have HOe_12 := Lib.hid (owns_later (by repeat (with_reducible first | exact HOe_11.out | apply World.ownsRow.alloc | (apply owns_setNe; case hk => exact ne_own HOe_11.out (by first | omega | (simp; omega))) | (refine owns_later ?_ (Later.refl _).drew) | (refine owns_later ?_ ((Later.refl _).drewN _)))) hL)
  have HKp_12 := Lib.hid (hL.keep (k := w8.heap.size) (by repeat (with_reducible first | exact HKp_11.out | exact heap_alloc_new _ _ | apply heap_alloc_old | apply st_0_2 | apply st_1_2 | apply st_0_3 | apply st_1_3 | apply st_2_3 | apply st_0_4 | apply st_1_4 | apply st_2_4 | apply st_3_4 | (apply other_set; case hne => omega) | exact heap_alloc_new' _ _ (by first | rfl | (simp; done)))))
  have HKq_12 := Lib.hid (hL.keep (k := w9.heap.size) (by repeat (with_reducible first | exact HKq_11.out | exact heap_alloc_new _ _ | apply heap_alloc_old | apply st_0_2 | apply st_1_2 | apply st_0_3 | apply st_1_3 | apply st_2_3 | apply st_0_4 | apply st_1_4 | apply st_2_4 | apply st_3_4 | (apply other_set; case hne => omega) | exact heap_alloc_new' _ _ (by first | rfl | (simp; done)))))
  clear hL cp fp cq fq
  obtain ⟨cp, fp, zp_12⟩ := blk_at HKp_12.out
  obtain ⟨cq, fq, zq_12⟩ := blk_at HKq_12.out
  by_cases hs : (sortTerms ld).2 = 0
  · skip
    have HR := Lib.hid (chainLog_sort hs)
    go_wp2_with fail
    refine (w_implChainLog _ ld _ (reads_of_owns (by repeat (with_reducible first | exact HOd_12.out | apply World.ownsRow.alloc | (apply owns_setNe; case hk => exact ne_own HOd_12.out (by first | omega | (simp; omega))) | (refine owns_later ?_ (Later.refl _).drew) | (refine owns_later ?_ ((Later.refl _).drewN _)))) (by omega))).mono ?_
    rintro e w13 ⟨rfl, hL⟩
    have HW13 : Hid (Later W w13) := Lib.hid (Later.trans (by repeat (with_reducible first | exact HW12.out | refine Later.alloc ?_ _ | refine Later.drew ?_ | refine Later.drewN ?_ _ | refine Later.setCell ?_ (by first | omega | (simp; omega)) _)) hL)
    have hz13 := HW13.out.size
    have HOc_13 := Lib.hid (owns_later (by repeat (with_reducible first | exact HOc_12.out | apply World.ownsRow.alloc | (apply owns_setNe; case hk => exact ne_own HOc_12.out (by first | omega | (simp; omega))) | (refine owns_later ?_ (Later.refl _).drew) | (refine owns_later ?_ ((Later.refl _).drewN _)))) hL)
    have HOx_13 := Lib.hid (owns_later (by repeat (with_reducible first | exact HOx_12.out | apply World.ownsRow.alloc | (apply owns_setNe; case hk => exact ne_own HOx_12.out (by first | omega | (simp; omega))) | (refine owns_later ?_ (Later.refl _).drew) | (refine owns_later ?_ ((Later.refl _).drewN _)))) hL)
    have HOm_13 := Lib.hid (owns_later (by repeat (with_reducible first | exact HOm_12.out | apply World.ownsRow.alloc | (apply owns_setNe; case hk => exact ne_own HOm_12.out (by first | omega | (simp; omega))) | (refine owns_later ?_ (Later.refl _).drew) | (refine owns_later ?_ ((Later.refl _).drewN _)))) hL)
    have HOd_13 := Lib.hid (owns_later (by repeat (with_reducible first | exact HOd_12.out | apply World.ownsRow.alloc | (apply owns_setNe; case hk => exact ne_own HOd_12.out (by first | omega | (simp; omega))) | (refine owns_later ?_ (Later.refl _).drew) | (refine owns_later ?_ ((Later.refl _).drewN _)))) hL)
    have HOy_13 := Lib.hid (owns_later (by repeat (with_reducible first | exact HOy_12.out | apply World.ownsRow.alloc | (apply owns_setNe; case hk => exact ne_own HOy_12.out (by first | omega | (simp; omega))) | (refine owns_later ?_ (Later.refl _).drew) | (refine owns_later ?_ ((Later.refl _).drewN _)))) hL)
    have HOn_13 := Lib.hid (owns_later (by repeat (with_reducible first | exact HOn_12.out | apply World.ownsRow.alloc | (apply owns_setNe; case hk => exact ne_own HOn_12.out (by first | omega | (simp; omega))) | (refine owns_later ?_ (Later.refl _).drew) | (refine owns_later ?_ ((Later.refl _).drewN _)))) hL)
    have HOe_13 := Lib.hid (owns_later (by repeat (with_reducible first | exact HOe_12.out | apply World.ownsRow.alloc | (apply owns_setNe; case hk => exact ne_own HOe_12.out (by first | omega | (simp; omega))) | (refine owns_later ?_ (Later.refl _).drew) | (refine owns_later ?_ ((Later.refl _).drewN _)))) hL)
    have HKp_13 := Lib.hid (hL.keep (k := w8.heap.size) (by repeat (with_reducible first | exact HKp_12.out | exact heap_alloc_new _ _ | apply heap_alloc_old | apply st_0_2 | apply st_1_2 | apply st_0_3 | apply st_1_3 | apply st_2_3 | apply st_0_4 | apply st_1_4 | apply st_2_4 | apply st_3_4 | (apply other_set; case hne => omega) | exact heap_alloc_new' _ _ (by first | rfl | (simp; done)))))
    have HKq_13 := Lib.hid (hL.keep (k := w9.heap.size) (by repeat (with_reducible first | exact HKq_12.out | exact heap_alloc_new _ _ | apply heap_alloc_old | apply st_0_2 | apply st_1_2 | apply st_0_3 | apply st_1_3 | apply st_2_3 | apply st_0_4 | apply st_1_4 | apply st_2_4 | apply st_3_4 | (apply other_set; case hne => omega) | exact heap_alloc_new' _ _ (by first | rfl | (simp; done)))))
    clear hL cp fp cq fq
    obtain ⟨cp, fp, zp_13⟩ := blk_at HKp_13.out
    obtain ⟨cq, fq, zq_13⟩ := blk_at HKq_13.out
    rw [HR.out.1]
    go_wp2_with fail
    refine (w_implChainLog _ (sortTerms ld).1 _ (reads_of_owns (by repeat (with_reducible first | exact HOy_13.out | apply World.ownsRow.alloc | (apply owns_setNe; case hk => exact ne_own HOy_13.out (by first | omega | (simp; omega))) | (refine owns_later ?_ (Later.refl _).drew) | (refine owns_later ?_ ((Later.refl _).drewN _)))) (by omega))).mono ?_
    rintro e w14 ⟨rfl, hL⟩
    have HW14 : Hid (Later W w14) := Lib.hid (Later.trans (by repeat (with_reducible first | exact HW13.out | refine Later.alloc ?_ _ | refine Later.drew ?_ | refine Later.drewN ?_ _ | refine Later.setCell ?_ (by first | omega | (simp; omega)) _)) hL)
    have hz14 := HW14.out.size
    have HOc_14 := Lib.hid (owns_later (by repeat (with_reducible first | exact HOc_13.out | apply World.ownsRow.alloc | (apply owns_setNe; case hk => exact ne_own HOc_13.out (by first | omega | (simp; omega))) | (refine owns_later ?_ (Later.refl _).drew) | (refine owns_later ?_ ((Later.refl _).drewN _)))) hL)
    have HOx_14 := Lib.hid (owns_later (by repeat (with_reducible first | exact HOx_13.out | apply World.ownsRow.alloc | (apply owns_setNe; case hk => exact ne_own HOx_13.out (by first | omega | (simp; omega))) | (refine owns_later ?_ (Later.refl _).drew) | (refine owns_later ?_ ((Later.refl _).drewN _)))) hL)
    have HOm_14 := Lib.hid (owns_later (by repeat (with_reducible first | exact HOm_13.out | apply World.ownsRow.alloc | (apply owns_setNe; case hk => exact ne_own HOm_13.out (by first | omega | (simp; omega))) | (refine owns_later ?_ (Later.refl _).drew) | (refine owns_later ?_ ((Later.refl _).drewN _)))) hL)
    have HOd_14 := Lib.hid (owns_later (by repeat (with_reducible first | exact HOd_13.out | apply World.ownsRow.alloc | (apply owns_setNe; case hk => exact ne_own HOd_13.out (by first | omega | (simp; omega))) | (refine owns_later ?_ (Later.refl _).drew) | (refine owns_later ?_ ((Later.refl _).drewN _)))) hL)
    have HOy_14 := Lib.hid (owns_later (by repeat (with_reducible first | exact HOy_13.out | apply World.ownsRow.alloc | (apply owns_setNe; case hk => exact ne_own HOy_13.out (by first | omega | (simp; omega))) | (refine owns_later ?_ (Later.refl _).drew) | (refine owns_later ?_ ((Later.refl _).drewN _)))) hL)
    have HOn_14 := Lib.hid (owns_later (by repeat (with_reducible first | exact HOn_13.out | apply World.ownsRow.alloc | (apply owns_setNe; case hk => exact ne_own HOn_13.out (by first | omega | (simp; omega))) | (refine owns_later ?_ (Later.refl _).drew) | (refine owns_later ?_ ((Later.refl _).drewN _)))) hL)
    have HOe_14 := Lib.hid (owns_later (by repeat (with_reducible first | exact HOe_13.out | apply World.ownsRow.alloc | (apply owns_setNe; case hk => exact ne_own HOe_13.out (by first | omega | (simp; omega))) | (refine owns_later ?_ (Later.refl _).drew) | (refine owns_later ?_ ((Later.refl _).drewN _)))) hL)
    have HKp_14 := Lib.hid (hL.keep (k := w8.heap.size) (by repeat (with_reducible first | exact HKp_13.out | exact heap_alloc_new _ _ | apply heap_alloc_old | apply st_0_2 | apply st_1_2 | apply st_0_3 | apply st_1_3 | apply st_2_3 | apply st_0_4 | apply st_1_4 | apply st_2_4 | apply st_3_4 | (apply other_set; case hne => omega) | exact heap_alloc_new' _ _ (by first | rfl | (simp; done)))))
    have HKq_14 := Lib.hid (hL.keep (k := w9.heap.size) (by repeat (with_reducible first | exact HKq_13.out | exact heap_alloc_new _ _ | apply heap_alloc_old | apply st_0_2 | apply st_1_2 | apply st_0_3 | apply st_1_3 | apply st_2_3 | apply st_0_4 | apply st_1_4 | apply st_2_4 | apply st_3_4 | (apply other_set; case hne => omega) | exact heap_alloc_new' _ _ (by first | rfl | (simp; done)))))
    have HKr_14 := Lib.hid (hL.keep (k := w13.heap.size) (by repeat (with_reducible first | exact HKr_13.out | exact heap_alloc_new _ _ | apply heap_alloc_old | apply st_0_2 | apply st_1_2 | apply st_0_3 | apply st_1_3 | apply st_2_3 | apply st_0_4 | apply st_1_4 | apply st_2_4 | apply st_3_4 | (apply other_set; case hne => omega) | exact heap_alloc_new' _ _ (by first | rfl | (simp; done)))))
    clear hL cp fp cq fq
    obtain ⟨cp, fp, zp_14⟩ := blk_at HKp_14.out
    obtain ⟨cq, fq, zq_14⟩ := blk_at HKq_14.out
    obtain ⟨cr, fr, zr_14⟩ := blk_at HKr_14.out
    rw [HR.out.2.1, HR.out.2.2]
    clear HOd_14
    clear HOy_14
    clear HOn_14
    by_cases hw : (swapTerms l a b).2 = 0
    · skip
      clear HOm_14
      clear HOe_14
      have HS := Lib.hid (chainLog_swap hw)
      have HT := Lib.hid (swapTerms_back hw)
      go_wp2_with fail
      refine (w_implChainLog _ l _ (reads_of_owns (by repeat (with_reducible first | exact HOc_14.out | apply World.ownsRow.alloc | (apply owns_setNe; case hk => exact ne_own HOc_14.out (by first | omega | (simp; omega))) | (refine owns_later ?_ (Later.refl _).drew) | (refine owns_later ?_ ((Later.refl _).drewN _)))) (by omega))).mono ?_
      rintro e w15 ⟨rfl, hL⟩
      have HW15 : Hid (Later W w15) := Lib.hid (Later.trans (by repeat (with_reducible first | exact HW14.out | refine Later.alloc ?_ _ | refine Later.drew ?_ | refine Later.drewN ?_ _ | refine Later.setCell ?_ (by first | omega | (simp; omega)) _)) hL)
      have hz15 := HW15.out.size
      have HOc_15 := Lib.hid (owns_later (by repeat (with_reducible first | exact HOc_14.out | apply World.ownsRow.alloc | (apply owns_setNe; case hk => exact ne_own HOc_14.out (by first | omega | (simp; omega))) | (refine owns_later ?_ (Later.refl _).drew) | (refine owns_later ?_ ((Later.refl _).drewN _)))) hL)
      have HOx_15 := Lib.hid (owns_later (by repeat (with_reducible first | exact HOx_14.out | apply World.ownsRow.alloc | (apply owns_setNe; case hk => exact ne_own HOx_14.out (by first | omega | (simp; omega))) | (refine owns_later ?_ (Later.refl _).drew) | (refine owns_later ?_ ((Later.refl _).drewN _)))) hL)
      have HKp_15 := Lib.hid (hL.keep (k := w8.heap.size) (by repeat (with_reducible first | exact HKp_14.out | exact heap_alloc_new _ _ | apply heap_alloc_old | apply st_0_2 | apply st_1_2 | apply st_0_3 | apply st_1_3 | apply st_2_3 | apply st_0_4 | apply st_1_4 | apply st_2_4 | apply st_3_4 | (apply other_set; case hne => omega) | exact heap_alloc_new' _ _ (by first | rfl | (simp; done)))))
      have HKq_15 := Lib.hid (hL.keep (k := w9.heap.size) (by repeat (with_reducible first | exact HKq_14.out | exact heap_alloc_new _ _ | apply heap_alloc_old | apply st_0_2 | apply st_1_2 | apply st_0_3 | apply st_1_3 | apply st_2_3 | apply st_0_4 | apply st_1_4 | apply st_2_4 | apply st_3_4 | (apply other_set; case hne => omega) | exact heap_alloc_new' _ _ (by first | rfl | (simp; done)))))
      have HKr_15 := Lib.hid (hL.keep (k := w13.heap.size) (by repeat (with_reducible first | exact HKr_14.out | exact heap_alloc_new _ _ | apply heap_alloc_old | apply st_0_2 | apply st_1_2 | apply st_0_3 | apply st_1_3 | apply st_2_3 | apply st_0_4 | apply st_1_4 | apply st_2_4 | apply st_3_4 | (apply other_set; case hne => omega) | exact heap_alloc_new' _ _ (by first | rfl | (simp; done)))))
      have HKs_15 := Lib.hid (hL.keep (k := w14.heap.size) (by repeat (with_reducible first | exact HKs_14.out | exact heap_alloc_new _ _ | apply heap_alloc_old | apply st_0_2 | apply st_1_2 | apply st_0_3 | apply st_1_3 | apply st_2_3 | apply st_0_4 | apply st_1_4 | apply st_2_4 | apply st_3_4 | (apply other_set; case hne => omega) | exact heap_alloc_new' _ _ (by first | rfl | (simp; done)))))
      clear hL cp fp cq fq cr fr
      obtain ⟨cp, fp, zp_15⟩ := blk_at HKp_15.out
      obtain ⟨cq, fq, zq_15⟩ := blk_at HKq_15.out
      obtain ⟨cr, fr, zr_15⟩ := blk_at HKr_15.out
      obtain ⟨cs, fs, zs_15⟩ := blk_at HKs_15.out
      rw [HS.out.1]
      go_wp2_with fail
      refine (w_implChainLog _ (swapTerms l a b).1 _ (reads_of_owns (by repeat (with_reducible first | exact HOx_15.out | apply World.ownsRow.alloc | (apply owns_setNe; case hk => exact ne_own HOx_15.out (by first | omega | (simp; omega))) | (refine owns_later ?_ (Later.refl _).drew) | (refine owns_later ?_ ((Later.refl _).drewN _)))) (by omega))).mono ?_
      rintro e w16 ⟨rfl, hL⟩
      have HW16 : Hid (Later W w16) := Lib.hid (Later.trans (by repeat (with_reducible first | exact HW15.out | refine Later.alloc ?_ _ | refine Later.drew ?_ | refine Later.drewN ?_ _ | refine Later.setCell ?_ (by first | omega | (simp; omega)) _)) hL)
      have hz16 := HW16.out.size
      have HOc_16 := Lib.hid (owns_later (by repeat (with_reducible first | exact HOc_15.out | apply World.ownsRow.alloc | (apply owns_setNe; case hk => exact ne_own HOc_15.out (by first | omega | (simp; omega))) | (refine owns_later ?_ (Later.refl _).drew) | (refine owns_later ?_ ((Later.refl _).drewN _)))) hL)
      have HOx_16 := Lib.hid (owns_later (by repeat (with_reducible first | exact HOx_15.out | apply World.ownsRow.alloc | (apply owns_setNe; case hk => exact ne_own HOx_15.out (by first | omega | (simp; omega))) | (refine owns_later ?_ (Later.refl _).drew) | (refine owns_later ?_ ((Later.refl _).drewN _)))) hL)
      have HKp_16 := Lib.hid (hL.keep (k := w8.heap.size) (by repeat (with_reducible first | exact HKp_15.out | exact heap_alloc_new _ _ | apply heap_alloc_old | apply st_0_2 | apply st_1_2 | apply st_0_3 | apply st_1_3 | apply st_2_3 | apply st_0_4 | apply st_1_4 | apply st_2_4 | apply st_3_4 | (apply other_set; case hne => omega) | exact heap_alloc_new' _ _ (by first | rfl | (simp; done)))))
      have HKq_16 := Lib.hid (hL.keep (k := w9.heap.size) (by repeat (with_reducible first | exact HKq_15.out | exact heap_alloc_new _ _ | apply heap_alloc_old | apply st_0_2 | apply st_1_2 | apply st_0_3 | apply st_1_3 | apply st_2_3 | apply st_0_4 | apply st_1_4 | apply st_2_4 | apply st_3_4 | (apply other_set; case hne => omega) | exact heap_alloc_new' _ _ (by first | rfl | (simp; done)))))
      have HKr_16 := Lib.hid (hL.keep (k := w13.heap.size) (by repeat (with_reducible first | exact HKr_15.out | exact heap_alloc_new _ _ | apply heap_alloc_old | apply st_0_2 | apply st_1_2 | apply st_0_3 | apply st_1_3 | apply st_2_3 | apply st_0_4 | apply st_1_4 | apply st_2_4 | apply st_3_4 | (apply other_set; case hne => omega) | exact heap_alloc_new' _ _ (by first | rfl | (simp; done)))))
      have HKs_16 := Lib.hid (hL.keep (k := w14.heap.size) (by repeat (with_reducible first | exact HKs_15.out | exact heap_alloc_new _ _ | apply heap_alloc_old | apply st_0_2 | apply st_1_2 | apply st_0_3 | apply st_1_3 | apply st_2_3 | apply st_0_4 | apply st_1_4 | apply st_2_4 | apply st_3_4 | (apply other_set; case hne => omega) | exact heap_alloc_new' _ _ (by first | rfl | (simp; done)))))
      have HKt_16 := Lib.hid (hL.keep (k := w15.heap.size) (by repeat (with_reducible first | exact HKt_15.out | exact heap_alloc_new _ _ | apply heap_alloc_old | apply st_0_2 | apply st_1_2 | apply st_0_3 | apply st_1_3 | apply st_2_3 | apply st_0_4 | apply st_1_4 | apply st_2_4 | apply st_3_4 | (apply other_set; case hne => omega) | exact heap_alloc_new' _ _ (by first | rfl | (simp; done)))))
      clear hL cp fp cq fq cr fr cs fs
      obtain ⟨cp, fp, zp_16⟩ := blk_at HKp_16.out
      obtain ⟨cq, fq, zq_16⟩ := blk_at HKq_16.out
      obtain ⟨cr, fr, zr_16⟩ := blk_at HKr_16.out
      obtain ⟨cs, fs, zs_16⟩ := blk_at HKs_16.out
      obtain ⟨ct, ft, zt_16⟩ := blk_at HKt_16.out
      rw [HS.out.2.1, HS.out.2.2]
      go_wp2_with fail
      refine (w_implSwapTerms _ (swapTerms l a b).1 a b _ (reads_of_owns (by repeat (with_reducible first | exact HOx_16.out | apply World.ownsRow.alloc | (apply owns_setNe; case hk => exact ne_own HOx_16.out (by first | omega | (simp; omega))) | (refine owns_later ?_ (Later.refl _).drew) | (refine owns_later ?_ ((Later.refl _).drewN _)))) (by omega))).mono ?_
      rintro e w17 ⟨z, rfl, hL, hOz⟩
      rw [HT.out] at hOz ⊢
      have HW17 : Hid (Later W w17) := Lib.hid (Later.trans (by repeat (with_reducible first | exact HW16.out | refine Later.alloc ?_ _ | refine Later.drew ?_ | refine Later.drewN ?_ _ | refine Later.setCell ?_ (by first | omega | (simp; omega)) _)) hL)
      have hz17 := HW17.out.size
      have HOc_17 := Lib.hid (owns_later (by repeat (with_reducible first | exact HOc_16.out | apply World.ownsRow.alloc | (apply owns_setNe; case hk => exact ne_own HOc_16.out (by first | omega | (simp; omega))) | (refine owns_later ?_ (Later.refl _).drew) | (refine owns_later ?_ ((Later.refl _).drewN _)))) hL)
      have HOx_17 := Lib.hid (owns_later (by repeat (with_reducible first | exact HOx_16.out | apply World.ownsRow.alloc | (apply owns_setNe; case hk => exact ne_own HOx_16.out (by first | omega | (simp; omega))) | (refine owns_later ?_ (Later.refl _).drew) | (refine owns_later ?_ ((Later.refl _).drewN _)))) hL)
      have HKp_17 := Lib.hid (hL.keep (k := w8.heap.size) (by repeat (with_reducible first | exact HKp_16.out | exact heap_alloc_new _ _ | apply heap_alloc_old | apply st_0_2 | apply st_1_2 | apply st_0_3 | apply st_1_3 | apply st_2_3 | apply st_0_4 | apply st_1_4 | apply st_2_4 | apply st_3_4 | (apply other_set; case hne => omega) | exact heap_alloc_new' _ _ (by first | rfl | (simp; done)))))
      have HKq_17 := Lib.hid (hL.keep (k := w9.heap.size) (by repeat (with_reducible first | exact HKq_16.out | exact heap_alloc_new _ _ | apply heap_alloc_old | apply st_0_2 | apply st_1_2 | apply st_0_3 | apply st_1_3 | apply st_2_3 | apply st_0_4 | apply st_1_4 | apply st_2_4 | apply st_3_4 | (apply other_set; case hne => omega) | exact heap_alloc_new' _ _ (by first | rfl | (simp; done)))))
      have HKr_17 := Lib.hid (hL.keep (k := w13.heap.size) (by repeat (with_reducible first | exact HKr_16.out | exact heap_alloc_new _ _ | apply heap_alloc_old | apply st_0_2 | apply st_1_2 | apply st_0_3 | apply st_1_3 | apply st_2_3 | apply st_0_4 | apply st_1_4 | apply st_2_4 | apply st_3_4 | (apply other_set; case hne => omega) | exact heap_alloc_new' _ _ (by first | rfl | (simp; done)))))
      have HKs_17 := Lib.hid (hL.keep (k := w14.heap.size) (by repeat (with_reducible first | exact HKs_16.out | exact heap_alloc_new _ _ | apply heap_alloc_old | apply st_0_2 | apply st_1_2 | apply st_0_3 | apply st_1_3 | apply st_2_3 | apply st_0_4 | apply st_1_4 | apply st_2_4 | apply st_3_4 | (apply other_set; case hne => omega) | exact heap_alloc_new' _ _ (by first | rfl | (simp; done)))))
      have HKt_17 := Lib.hid (hL.keep (k := w15.heap.size) (by repeat (with_reducible first | exact HKt_16.out | exact heap_alloc_new _ _ | apply heap_alloc_old | apply st_0_2 | apply st_1_2 | apply st_0_3 | apply st_1_3 | apply st_2_3 | apply st_0_4 | apply st_1_4 | apply st_2_4 | apply st_3_4 | (apply other_set; case hne => omega) | exact heap_alloc_new' _ _ (by first | rfl | (simp; done)))))
      have HKu_17 := Lib.hid (hL.keep (k := w16.heap.size) (by repeat (with_reducible first | exact HKu_16.out | exact heap_alloc_new _ _ | apply heap_alloc_old | apply st_0_2 | apply st_1_2 | apply st_0_3 | apply st_1_3 | apply st_2_3 | apply st_0_4 | apply st_1_4 | apply st_2_4 | apply st_3_4 | (apply other_set; case hne => omega) | exact heap_alloc_new' _ _ (by first | rfl | (simp; done)))))
      have HOz_17 := Lib.hid hOz
      clear hOz
      clear hL cp fp cq fq cr fr cs fs ct ft
      obtain ⟨cp, fp, zp_17⟩ := blk_at HKp_17.out
      obtain ⟨cq, fq, zq_17⟩ := blk_at HKq_17.out
      obtain ⟨cr, fr, zr_17⟩ := blk_at HKr_17.out
      obtain ⟨cs, fs, zs_17⟩ := blk_at HKs_17.out
      obtain ⟨ct, ft, zt_17⟩ := blk_at HKt_17.out
      obtain ⟨cu, fu, zu_17⟩ := blk_at HKu_17.out
      go_wp2_with fail
      refine (w_likeTermsY _ _ _ _ (reads_of_owns (by repeat (with_reducible first | exact HOz_17.out | apply World.ownsRow.alloc | (apply owns_setNe; case hk => exact ne_own HOz_17.out (by first | omega | (simp; omega))) | (refine owns_later ?_ (Later.refl _).drew) | (refine owns_later ?_ ((Later.refl _).drewN _)))) (by omega)) (reads_of_owns (by repeat (with_reducible first | exact HOc_17.out | apply World.ownsRow.alloc | (apply owns_setNe; case hk => exact ne_own HOc_17.out (by first | omega | (simp; omega))) | (refine owns_later ?_ (Later.refl _).drew) | (refine owns_later ?_ ((Later.refl _).drewN _)))) (by omega))).mono ?_
      rintro e w18 ⟨rfl, hL⟩
      have HW18 : Hid (Later W w18) := Lib.hid (Later.trans (by repeat (with_reducible first | exact HW17.out | refine Later.alloc ?_ _ | refine Later.drew ?_ | refine Later.drewN ?_ _ | refine Later.setCell ?_ (by first | omega | (simp; omega)) _)) hL)
      have hz18 := HW18.out.size
      have HOc_18 := Lib.hid (owns_later (by repeat (with_reducible first | exact HOc_17.out | apply World.ownsRow.alloc | (apply owns_setNe; case hk => exact ne_own HOc_17.out (by first | omega | (simp; omega))) | (refine owns_later ?_ (Later.refl _).drew) | (refine owns_later ?_ ((Later.refl _).drewN _)))) hL)
      have HOx_18 := Lib.hid (owns_later (by repeat (with_reducible first | exact HOx_17.out | apply World.ownsRow.alloc | (apply owns_setNe; case hk => exact ne_own HOx_17.out (by first | omega | (simp; omega))) | (refine owns_later ?_ (Later.refl _).drew) | (refine owns_later ?_ ((Later.refl _).drewN _)))) hL)
      have HOz_18 := Lib.hid (owns_later (by repeat (with_reducible first | exact HOz_17.out | apply World.ownsRow.alloc | (apply owns_setNe; case hk => exact ne_own HOz_17.out (by first | omega | (simp; omega))) | (refine owns_later ?_ (Later.refl _).drew) | (refine owns_later ?_ ((Later.refl _).drewN _)))) hL)
      have HKp_18 := Lib.hid (hL.keep (k := w8.heap.size) (by repeat (with_reducible first | exact HKp_17.out | exact heap_alloc_new _ _ | apply heap_alloc_old | apply st_0_2 | apply st_1_2 | apply st_0_3 | apply st_1_3 | apply st_2_3 | apply st_0_4 | apply st_1_4 | apply st_2_4 | apply st_3_4 | (apply other_set; case hne => omega) | exact heap_alloc_new' _ _ (by first | rfl | (simp; done)))))
      have HKq_18 := Lib.hid (hL.keep (k := w9.heap.size) (by repeat (with_reducible first | exact HKq_17.out | exact heap_alloc_new _ _ | apply heap_alloc_old | apply st_0_2 | apply st_1_2 | apply st_0_3 | apply st_1_3 | apply st_2_3 | apply st_0_4 | apply st_1_4 | apply st_2_4 | apply st_3_4 | (apply other_set; case hne => omega) | exact heap_alloc_new' _ _ (by first | rfl | (simp; done)))))
      have HKr_18 := Lib.hid (hL.keep (k := w13.heap.size) (by repeat (with_reducible first | exact HKr_17.out | exact heap_alloc_new _ _ | apply heap_alloc_old | apply st_0_2 | apply st_1_2 | apply st_0_3 | apply st_1_3 | apply st_2_3 | apply st_0_4 | apply st_1_4 | apply st_2_4 | apply st_3_4 | (apply other_set; case hne => omega) | exact heap_alloc_new' _ _ (by first | rfl | (simp; done)))))
      have HKs_18 := Lib.hid (hL.keep (k := w14.heap.size) (by repeat (with_reducible first | exact HKs_17.out | exact heap_alloc_new _ _ | apply heap_alloc_old | apply st_0_2 | apply st_1_2 | apply st_0_3 | apply st_1_3 | apply st_2_3 | apply st_0_4 | apply st_1_4 | apply st_2_4 | apply st_3_4 | (apply other_set; case hne => omega) | exact heap_alloc_new' _ _ (by first | rfl | (simp; done)))))
      have HKt_18 := Lib.hid (hL.keep (k := w15.heap.size) (by repeat (with_reducible first | exact HKt_17.out | exact heap_alloc_new _ _ | apply heap_alloc_old | apply st_0_2 | apply st_1_2 | apply st_0_3 | apply st_1_3 | apply st_2_3 | apply st_0_4 | apply st_1_4 | apply st_2_4 | apply st_3_4 | (apply other_set; case hne => omega) | exact heap_alloc_new' _ _ (by first | rfl | (simp; done)))))
      have HKu_18 := Lib.hid (hL.keep (k := w16.heap.size) (by repeat (with_reducible first | exact HKu_17.out | exact heap_alloc_new _ _ | apply heap_alloc_old | apply st_0_2 | apply st_1_2 | apply st_0_3 | apply st_1_3 | apply st_2_3 | apply st_0_4 | apply st_1_4 | apply st_2_4 | apply st_3_4 | (apply other_set; case hne => omega) | exact heap_alloc_new' _ _ (by first | rfl | (simp; done)))))
      clear hL cp fp cq fq cr fr cs fs ct ft cu fu
      obtain ⟨cp, fp, zp_18⟩ := blk_at HKp_18.out
      obtain ⟨cq, fq, zq_18⟩ := blk_at HKq_18.out
      obtain ⟨cr, fr, zr_18⟩ := blk_at HKr_18.out
      obtain ⟨cs, fs, zs_18⟩ := blk_at HKs_18.out
      obtain ⟨ct, ft, zt_18⟩ := blk_at HKt_18.out
      obtain ⟨cu, fu, zu_18⟩ := blk_at HKu_18.out
      go_wp2
      go_ret
      exact ⟨rfl, (by repeat (with_reducible first | exact HW18.out | refine Later.alloc ?_ _ | refine Later.drew ?_ | refine Later.drewN ?_ _ | refine Later.setCell ?_ (by first | omega | (simp; omega)) _))⟩
    · skip
      have hwb : ((swapTerms l a b).2 != 0) = true := by simpa using hw
      go_wp2
      go_ret
      exact ⟨rfl, (by repeat (with_reducible first | exact HW14.out | refine Later.alloc ?_ _ | refine Later.drew ?_ | refine Later.drewN ?_ _ | refine Later.setCell ?_ (by first | omega | (simp; omega)) _))⟩
  · skip
    have hsb : ((sortTerms ld).2 == 0) = false := by simpa using hs
    clear HOd_12
    clear HOy_12
    clear HOn_12
    by_cases hw : (swapTerms l a b).2 = 0
    · skip
      clear HOm_12
      clear HOe_12
      have HS := Lib.hid (chainLog_swap hw)
      have HT := Lib.hid (swapTerms_back hw)
      go_wp2_with fail
      refine (w_implChainLog _ l _ (reads_of_owns (by repeat (with_reducible first | exact HOc_12.out | apply World.ownsRow.alloc | (apply owns_setNe; case hk => exact ne_own HOc_12.out (by first | omega | (simp; omega))) | (refine owns_later ?_ (Later.refl _).drew) | (refine owns_later ?_ ((Later.refl _).drewN _)))) (by omega))).mono ?_
      rintro e w13 ⟨rfl, hL⟩
      have HW13 : Hid (Later W w13) := Lib.hid (Later.trans (by repeat (with_reducible first | exact HW12.out | refine Later.alloc ?_ _ | refine Later.drew ?_ | refine Later.drewN ?_ _ | refine Later.setCell ?_ (by first | omega | (simp; omega)) _)) hL)
      have hz13 := HW13.out.size
      have HOc_13 := Lib.hid (owns_later (by repeat (with_reducible first | exact HOc_12.out | apply World.ownsRow.alloc | (apply owns_setNe; case hk => exact ne_own HOc_12.out (by first | omega | (simp; omega))) | (refine owns_later ?_ (Later.refl _).drew) | (refine owns_later ?_ ((Later.refl _).drewN _)))) hL)
      have HOx_13 := Lib.hid (owns_later (by repeat (with_reducible first | exact HOx_12.out | apply World.ownsRow.alloc | (apply owns_setNe; case hk => exact ne_own HOx_12.out (by first | omega | (simp; omega))) | (refine owns_later ?_ (Later.refl _).drew) | (refine owns_later ?_ ((Later.refl _).drewN _)))) hL)
      have HKp_13 := Lib.hid (hL.keep (k := w8.heap.size) (by repeat (with_reducible first | exact HKp_12.out | exact heap_alloc_new _ _ | apply heap_alloc_old | apply st_0_2 | apply st_1_2 | apply st_0_3 | apply st_1_3 | apply st_2_3 | apply st_0_4 | apply st_1_4 | apply st_2_4 | apply st_3_4 | (apply other_set; case hne => omega) | exact heap_alloc_new' _ _ (by first | rfl | (simp; done)))))
      have HKq_13 := Lib.hid (hL.keep (k := w9.heap.size) (by repeat (with_reducible first | exact HKq_12.out | exact heap_alloc_new _ _ | apply heap_alloc_old | apply st_0_2 | apply st_1_2 | apply st_0_3 | apply st_1_3 | apply st_2_3 | apply st_0_4 | apply st_1_4 | apply st_2_4 | apply st_3_4 | (apply other_set; case hne => omega) | exact heap_alloc_new' _ _ (by first | rfl | (simp; done)))))
      clear hL cp fp cq fq
      obtain ⟨cp, fp, zp_13⟩ := blk_at HKp_13.out
      obtain ⟨cq, fq, zq_13⟩ := blk_at HKq_13.out
      rw [HS.out.1]
      go_wp2_with fail
      refine (w_implChainLog _ (swapTerms l a b).1 _ (reads_of_owns (by repeat (with_reducible first | exact HOx_13.out | apply World.ownsRow.alloc | (apply owns_setNe; case hk => exact ne_own HOx_13.out (by first | omega | (simp; omega))) | (refine owns_later ?_ (Later.refl _).drew) | (refine owns_later ?_ ((Later.refl _).drewN _)))) (by omega))).mono ?_
      rintro e w14 ⟨rfl, hL⟩
      have HW14 : Hid (Later W w14) := Lib.hid (Later.trans (by repeat (with_reducible first | exact HW13.out | refine Later.alloc ?_ _ | refine Later.drew ?_ | refine Later.drewN ?_ _ | refine Later.setCell ?_ (by first | omega | (simp; omega)) _)) hL)
      have hz14 := HW14.out.size
      have HOc_14 := Lib.hid (owns_later (by repeat (with_reducible first | exact HOc_13.out | apply World.ownsRow.alloc | (apply owns_setNe; case hk => exact ne_own HOc_13.out (by first | omega | (simp; omega))) | (refine owns_later ?_ (Later.refl _).drew) | (refine owns_later ?_ ((Later.refl _).drewN _)))) hL)
      have HOx_14 := Lib.hid (owns_later (by repeat (with_reducible first | exact HOx_13.out | apply World.ownsRow.alloc | (apply owns_setNe; case hk => exact ne_own HOx_13.out (by first | omega | (simp; omega))) | (refine owns_later ?_ (Later.refl _).drew) | (refine owns_later ?_ ((Later.refl _).drewN _)))) hL)
      have HKp_14 := Lib.hid (hL.keep (k := w8.heap.size) (by repeat (with_reducible first | exact HKp_13.out | exact heap_alloc_new _ _ | apply heap_alloc_old | apply st_0_2 | apply st_1_2 | apply st_0_3 | apply st_1_3 | apply st_2_3 | apply st_0_4 | apply st_1_4 | apply st_2_4 | apply st_3_4 | (apply other_set; case hne => omega) | exact heap_alloc_new' _ _ (by first | rfl | (simp; done)))))
      have HKq_14 := Lib.hid (hL.keep (k := w9.heap.size) (by repeat (with_reducible first | exact HKq_13.out | exact heap_alloc_new _ _ | apply heap_alloc_old | apply st_0_2 | apply st_1_2 | apply st_0_3 | apply st_1_3 | apply st_2_3 | apply st_0_4 | apply st_1_4 | apply st_2_4 | apply st_3_4 | (apply other_set; case hne => omega) | exact heap_alloc_new' _ _ (by first | rfl | (simp; done)))))
      have HKt_14 := Lib.hid (hL.keep (k := w13.heap.size) (by repeat (with_reducible first | exact HKt_13.out | exact heap_alloc_new _ _ | apply heap_alloc_old | apply st_0_2 | apply st_1_2 | apply st_0_3 | apply st_1_3 | apply st_2_3 | apply st_0_4 | apply st_1_4 | apply st_2_4 | apply st_3_4 | (apply other_set; case hne => omega) | exact heap_alloc_new' _ _ (by first | rfl | (simp; done)))))
      clear hL cp fp cq fq
      obtain ⟨cp, fp, zp_14⟩ := blk_at HKp_14.out
      obtain ⟨cq, fq, zq_14⟩ := blk_at HKq_14.out
      obtain ⟨ct, ft, zt_14⟩ := blk_at HKt_14.out
      rw [HS.out.2.1, HS.out.2.2]
      go_wp2_with fail
      refine (w_implSwapTerms _ (swapTerms l a b).1 a b _ (reads_of_owns (by repeat (with_reducible first | exact HOx_14.out | apply World.ownsRow.alloc | (apply owns_setNe; case hk => exact ne_own HOx_14.out (by first | omega | (simp; omega))) | (refine owns_later ?_ (Later.refl _).drew) | (refine owns_later ?_ ((Later.refl _).drewN _)))) (by omega))).mono ?_
      rintro e w15 ⟨z, rfl, hL, hOz⟩
      rw [HT.out] at hOz ⊢
      have HW15 : Hid (Later W w15) := Lib.hid (Later.trans (by repeat (with_reducible first | exact HW14.out | refine Later.alloc ?_ _ | refine Later.drew ?_ | refine Later.drewN ?_ _ | refine Later.setCell ?_ (by first | omega | (simp; omega)) _)) hL)
      have hz15 := HW15.out.size
      have HOc_15 := Lib.hid (owns_later (by repeat (with_reducible first | exact HOc_14.out | apply World.ownsRow.alloc | (apply owns_setNe; case hk => exact ne_own HOc_14.out (by first | omega | (simp; omega))) | (refine owns_later ?_ (Later.refl _).drew) | (refine owns_later ?_ ((Later.refl _).drewN _)))) hL)
      have HOx_15 := Lib.hid (owns_later (by repeat (with_reducible first | exact HOx_14.out | apply World.ownsRow.alloc | (apply owns_setNe; case hk => exact ne_own HOx_14.out (by first | omega | (simp; omega))) | (refine owns_later ?_ (Later.refl _).drew) | (refine owns_later ?_ ((Later.refl _).drewN _)))) hL)
      have HKp_15 := Lib.hid (hL.keep (k := w8.heap.size) (by repeat (with_reducible first | exact HKp_14.out | exact heap_alloc_new _ _ | apply heap_alloc_old | apply st_0_2 | apply st_1_2 | apply st_0_3 | apply st_1_3 | apply st_2_3 | apply st_0_4 | apply st_1_4 | apply st_2_4 | apply st_3_4 | (apply other_set; case hne => omega) | exact heap_alloc_new' _ _ (by first | rfl | (simp; done)))))
      have HKq_15 := Lib.hid (hL.keep (k := w9.heap.size) (by repeat (with_reducible first | exact HKq_14.out | exact heap_alloc_new _ _ | apply heap_alloc_old | apply st_0_2 | apply st_1_2 | apply st_0_3 | apply st_1_3 | apply st_2_3 | apply st_0_4 | apply st_1_4 | apply st_2_4 | apply st_3_4 | (apply other_set; case hne => omega) | exact heap_alloc_new' _ _ (by first | rfl | (simp; done)))))
      have HKt_15 := Lib.hid (hL.keep (k := w13.heap.size) (by repeat (with_reducible first | exact HKt_14.out | exact heap_alloc_new _ _ | apply heap_alloc_old | apply st_0_2 | apply st_1_2 | apply st_0_3 | apply st_1_3 | apply st_2_3 | apply st_0_4 | apply st_1_4 | apply st_2_4 | apply st_3_4 | (apply other_set; case hne => omega) | exact heap_alloc_new' _ _ (by first | rfl | (simp; done)))))
      have HKu_15 := Lib.hid (hL.keep (k := w14.heap.size) (by repeat (with_reducible first | exact HKu_14.out | exact heap_alloc_new _ _ | apply heap_alloc_old | apply st_0_2 | apply st_1_2 | apply st_0_3 | apply st_1_3 | apply st_2_3 | apply st_0_4 | apply st_1_4 | apply st_2_4 | apply st_3_4 | (apply other_set; case hne => omega) | exact heap_alloc_new' _ _ (by first | rfl | (simp; done)))))
      have HOz_15 := Lib.hid hOz
      clear hOz
      clear hL cp fp cq fq ct ft
      obtain ⟨cp, fp, zp_15⟩ := blk_at HKp_15.out
      obtain ⟨cq, fq, zq_15⟩ := blk_at HKq_15.out
      obtain ⟨ct, ft, zt_15⟩ := blk_at HKt_15.out
      obtain ⟨cu, fu, zu_15⟩ := blk_at HKu_15.out
      go_wp2_with fail
      refine (w_likeTermsY _ _ _ _ (reads_of_owns (by repeat (with_reducible first | exact HOz_15.out | apply World.ownsRow.alloc | (apply owns_setNe; case hk => exact ne_own HOz_15.out (by first | omega | (simp; omega))) | (refine owns_later ?_ (Later.refl _).drew) | (refine owns_later ?_ ((Later.refl _).drewN _)))) (by omega)) (reads_of_owns (by repeat (with_reducible first | exact HOc_15.out | apply World.ownsRow.alloc | (apply owns_setNe; case hk => exact ne_own HOc_15.out (by first | omega | (simp; omega))) | (refine owns_later ?_ (Later.refl _).drew) | (refine owns_later ?_ ((Later.refl _).drewN _)))) (by omega))).mono ?_
      rintro e w16 ⟨rfl, hL⟩
      have HW16 : Hid (Later W w16) := Lib.hid (Later.trans (by repeat (with_reducible first | exact HW15.out | refine Later.alloc ?_ _ | refine Later.drew ?_ | refine Later.drewN ?_ _ | refine Later.setCell ?_ (by first | omega | (simp; omega)) _)) hL)
      have hz16 := HW16.out.size
      have HOc_16 := Lib.hid (owns_later (by repeat (with_reducible first | exact HOc_15.out | apply World.ownsRow.alloc | (apply owns_setNe; case hk => exact ne_own HOc_15.out (by first | omega | (simp; omega))) | (refine owns_later ?_ (Later.refl _).drew) | (refine owns_later ?_ ((Later.refl _).drewN _)))) hL)
      have HOx_16 := Lib.hid (owns_later (by repeat (with_reducible first | exact HOx_15.out | apply World.ownsRow.alloc | (apply owns_setNe; case hk => exact ne_own HOx_15.out (by first | omega | (simp; omega))) | (refine owns_later ?_ (Later.refl _).drew) | (refine owns_later ?_ ((Later.refl _).drewN _)))) hL)
      have HOz_16 := Lib.hid (owns_later (by repeat (with_reducible first | exact HOz_15.out | apply World.ownsRow.alloc | (apply owns_setNe; case hk => exact ne_own HOz_15.out (by first | omega | (simp; omega))) | (refine owns_later ?_ (Later.refl _).drew) | (refine owns_later ?_ ((Later.refl _).drewN _)))) hL)
      have HKp_16 := Lib.hid (hL.keep (k := w8.heap.size) (by repeat (with_reducible first | exact HKp_15.out | exact heap_alloc_new _ _ | apply heap_alloc_old | apply st_0_2 | apply st_1_2 | apply st_0_3 | apply st_1_3 | apply st_2_3 | apply st_0_4 | apply st_1_4 | apply st_2_4 | apply st_3_4 | (apply other_set; case hne => omega) | exact heap_alloc_new' _ _ (by first | rfl | (simp; done)))))
      have HKq_16 := Lib.hid (hL.keep (k := w9.heap.size) (by repeat (with_reducible first | exact HKq_15.out | exact heap_alloc_new _ _ | apply heap_alloc_old | apply st_0_2 | apply st_1_2 | apply st_0_3 | apply st_1_3 | apply st_2_3 | apply st_0_4 | apply st_1_4 | apply st_2_4 | apply st_3_4 | (apply other_set; case hne => omega) | exact heap_alloc_new' _ _ (by first | rfl | (simp; done)))))
      have HKt_16 := Lib.hid (hL.keep (k := w13.heap.size) (by repeat (with_reducible first | exact HKt_15.out | exact heap_alloc_new _ _ | apply heap_alloc_old | apply st_0_2 | apply st_1_2 | apply st_0_3 | apply st_1_3 | apply st_2_3 | apply st_0_4 | apply st_1_4 | apply st_2_4 | apply st_3_4 | (apply other_set; case hne => omega) | exact heap_alloc_new' _ _ (by first | rfl | (simp; done)))))
      have HKu_16 := Lib.hid (hL.keep (k := w14.heap.size) (by repeat (with_reducible first | exact HKu_15.out | exact heap_alloc_new _ _ | apply heap_alloc_old | apply st_0_2 | apply st_1_2 | apply st_0_3 | apply st_1_3 | apply st_2_3 | apply st_0_4 | apply st_1_4 | apply st_2_4 | apply st_3_4 | (apply other_set; case hne => omega) | exact heap_alloc_new' _ _ (by first | rfl | (simp; done)))))
      clear hL cp fp cq fq ct ft cu fu
      obtain ⟨cp, fp, zp_16⟩ := blk_at HKp_16.out
      obtain ⟨cq, fq, zq_16⟩ := blk_at HKq_16.out
      obtain ⟨ct, ft, zt_16⟩ := blk_at HKt_16.out
      obtain ⟨cu, fu, zu_16⟩ := blk_at HKu_16.out
      go_wp2
      go_ret
      exact ⟨rfl, (by repeat (with_reducible first | exact HW16.out | refine Later.alloc ?_ _ | refine Later.drew ?_ | refine Later.drewN ?_ _ | refine Later.setCell ?_ (by first | omega | (simp; omega)) _))⟩
    · skip
      have hwb : ((swapTerms l a b).2 != 0) = true := by simpa using hw
      go_wp2
      go_ret
      exact ⟨rfl, (by repeat (with_reducible first | exact HW12.out | refine Later.alloc ?_ _ | refine Later.drew ?_ | refine Later.drewN ?_ _ | refine Later.setCell ?_ (by first | omega | (simp; omega)) _))⟩

theorem lifted (os : Os) (started : os.Started) (H : Type) (enc : TypeId × Value → H) :
    ReturnsInHanded {} Try.checked os 3 .any (Rows.fnChainsSpec.pre6 enc Try.prog Try.f3 Rows.fnChainsRow.domain false) (Rows.fnChainsSpec.post enc Try.prog Try.f3 false true false false) := by
  refine returnsInHanded_of_change (C := Try.checked) o_own started (by kernel_rfl) Try.func3
    (ChangeSpec.witness6 (enc := enc) (C := Try.checked) false ⟨#[], #[.slice none 0 0], []⟩ 8 (by kernel_rfl) (by kernel_rfl) (by kernel_rfl) (by kernel_rfl)) ?_
  intro W base args ds gs before hval0 hW hcnd _
  have hval : ∀ (j : Nat) t v, Try.f3.params[j]? = some t → args[j]? = some v → Value.okWide Try.prog W .any base t v := hval0
  have hW' := hW
  obtain ⟨p, q, hA0, hV, rfl, hfz, hnd⟩ := hW
  have hA : DataW.TrodAll enc Try.prog W 0 (fun _ => true) true Try.f3.params.toList args.toList ds p := hA0
  rw [Try.params3] at hA hval
  obtain ⟨v0, vs0, d0, ds0, p0, q0, hargs, rfl, rfl, h0, r0⟩ := trodAll_cons hA
  obtain ⟨rfl, rfl, rfl⟩ := trodAll_nil r0
  obtain rfl : args = #[v0] := by cases args; simp_all
  obtain ⟨rfl, rfl⟩ := trodVars_none hV
  obtain ⟨a0, len0, cap0, rfl⟩ := okWide_slice Try.underlying22 (hval 0 22 v0 rfl rfl)
  have k0 := h0
  have lt0 : ∀ x ∈ p0, x.block < W.heap.size := by obtain ⟨m, hm⟩ := k0; exact DataW.trod_lt m _ _ _ hm
  obtain ⟨l0, w0, hB0⟩ := o_bytes h0
  clear hA0 hval0
  refine (walk _ l0 W w0 hB0).mono fun e W' ⟨he, bel⟩ => ?_
  subst he
  exact ⟨_, rfl, _, _, _, [], _, [], hW', trodAll_mk1 (shut_bool Try.underlying4 _), (trodAll_cons_mk (Below.trod o_laidOut (by kernel_rfl) (of_decide_eq_true (by kernel_rfl)) k0 bel lt0) trodAll_mk0), rfl, bel.frame _, fun h => by cases h⟩

theorem over : Rows.fnChainsRow.holds Try.pinned (OpenSpec.ofChange Rows.fnChainsSpec) :=
  OpenClaim.holds_of_wide 3 Try.f3 rfl rfl rfl rfl rfl rfl rfl ⟨rfl, rfl, rfl, rfl, rfl⟩ rfl rfl rfl rfl rfl (by kernel_rfl) Try.func3 (by kernel_rfl)
    (of_decide_eq_true (by kernel_rfl)) (by unfold Func.isWrapper; first | (rw [if_pos (by decide +kernel)]; kernel_rfl) | (rw [if_neg (by decide +kernel)]; exact ⟨rfl, rfl⟩))
    (fun os started H enc _ => lifted os started H enc)

theorem proved : Rows.FnChainsSaid := over
#print axioms proved
end Go.Proofs.Ytkoojngonldcbaa.lawChains
