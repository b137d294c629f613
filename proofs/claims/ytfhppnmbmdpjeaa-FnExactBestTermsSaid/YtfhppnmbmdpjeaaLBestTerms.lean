/- The program's BestTerms: the best order of the terms. It answers what the reference's function answers, for all arguments. No condition. -/
import Derived.Test.YtfhppnmbmdpjeaaRows
import Derived.Test.YtfhppnmbmdpjeaaO1
import Derived.Test.YtfhppnmbmdpjeaaO2
import Derived.Test.YtfhppnmbmdpjeaaBA
import Derived.Test.YtfhppnmbmdpjeaaM94
import Derived.Test.YtfhppnmbmdpjeaaHInt64
import Derived.Test.YtfhppnmbmdpjeaaHRule
import Derived.Test.YtfhppnmbmdpjeaaHTerm
namespace Go.Proofs.Ytfhppnmbmdpjeaa.lawBestTerms
set_option linter.unusedVariables false
set_option linter.unusedSimpArgs false
open Go.ChangeShapes Go.WideShapes Go.ChangeAt Go.RowKit
set_option linter.unusedVariables false
set_option maxRecDepth 100000

set_option maxHeartbeats 4000000 in
theorem walk (rn0 : Int) (v0a v0b : Value) (l0a l0b : List Int) (v1 : Value) (l1 : List Trm) (w : World) (r0a : Raw w v0a l0a.length 1 (nums l0a)) (r0b : Raw w v0b l0b.length 1 (nums l0b)) (r1 : Raw w v1 l1.length 3 (trms l1)) :
    Calls Try.prog 11 #[.agg #[.int .i64 rn0, v0a, v0b], v1] w fun e w' => e = .returned (.bool true) ∧ Later w w' := by
  by_cases hs0 : l0a.length + l0b.length ≤ 1048576
  rotate_left
  · have HW := Later.refl w
    obtain ⟨_, sx0a, cap0a, rfl, hcap0a, hmax0a, _⟩ := r0a
    obtain ⟨_, sx0b, cap0b, rfl, hcap0b, hmax0b, _⟩ := r0b
    obtain ⟨_, sx1, cap1, rfl, hcap1, hmax1, _⟩ := r1
    go_enter Try.func11, Try.ntmps11
    have hs : szR ((1048576 : Int)) l0a.length l0b.length = -1 := szR_no (by omega)
    have HS := Lib.hid hs
    clear hs
    go_wp2_with fail
    refine (w_szRule _ _ _ _ _ _ _ _ (by omega) (by omega) (by omega) (by omega) _).mono ?_
    rintro e u1 ⟨rfl, hL1⟩
    rw [HS.out]
    clear HS
    have KB0 := Lib.hid (kept1 hL1)
    replace hL1 := ((Later.refl _).alloc _).trans hL1
    replace HW := HW.trans hL1
    clear hL1
    go_wp2
    go_ret
    exact ⟨rfl, HW⟩
  by_cases hs1 : l0a.length + l0b.length + l1.length ≤ 1048576
  rotate_left
  · have HW := Later.refl w
    obtain ⟨_, sx0a, cap0a, rfl, hcap0a, hmax0a, _⟩ := r0a
    obtain ⟨_, sx0b, cap0b, rfl, hcap0b, hmax0b, _⟩ := r0b
    obtain ⟨_, sx1, cap1, rfl, hcap1, hmax1, _⟩ := r1
    go_enter Try.func11, Try.ntmps11
    have hs : szR ((1048576 : Int)) l0a.length l0b.length = (1048576 : Int) - (l0a.length : Int) - (l0b.length : Int) := szR_ok (by omega)
    have HS := Lib.hid hs
    clear hs
    go_wp2_with fail
    refine (w_szRule _ _ _ _ _ _ _ _ (by omega) (by omega) (by omega) (by omega) _).mono ?_
    rintro e u2 ⟨rfl, hL2⟩
    rw [HS.out]
    clear HS
    have KB0 := Lib.hid (kept1 hL2)
    replace hL2 := ((Later.refl _).alloc _).trans hL2
    replace HW := HW.trans hL2
    clear hL2
    have hs : (if (1048576 : Int) - (l0a.length : Int) - (l0b.length : Int) < (l1.length : Int) then (-1 : Int) else (1048576 : Int) - (l0a.length : Int) - (l0b.length : Int) - (l1.length : Int)) = -1 := if_pos (by omega)
    have HS := Lib.hid hs
    clear hs
    go_wp2_with fail
    refine (w_szTermS _ _ _ _ (by omega) (by omega) (by omega) _).mono ?_
    rintro e w' ⟨rfl, rfl⟩
    rw [HS.out]
    clear HS
    go_wp2
    go_ret
    exact ⟨rfl, HW⟩
  have R0a := Lib.hid (r0a.reads (by omega))
  have R0b := Lib.hid (r0b.reads (by omega))
  have R1 := Lib.hid (r1.reads (by omega))
  obtain ⟨RS0, hRS0⟩ : ∃ R : List Int, btL ⟨rn0, l0a, l0b⟩ l1 = R := ⟨_, rfl⟩
  have HRS0 := Lib.hid hRS0
  have hG0 : RS0.length ≤ 1048576 := by have := btL_len ⟨rn0, l0a, l0b⟩ l1; rw [hRS0] at this; omega
  clear hRS0
  obtain ⟨RS1, hRS1⟩ : ∃ R : Int, btN ⟨rn0, l0a, l0b⟩ l1 = R := ⟨_, rfl⟩
  have HRS1 := Lib.hid hRS1
  clear hRS1
  obtain ⟨RS2, hRS2⟩ : ∃ R : Int, codePlan ⟨rn0, l0a, l0b⟩ l1 = R := ⟨_, rfl⟩
  have HRS2 := Lib.hid hRS2
  clear hRS2
  have HW := Later.refl w
  obtain ⟨_, sx0a, cap0a, rfl, hcap0a, hmax0a, _⟩ := r0a
  obtain ⟨_, sx0b, cap0b, rfl, hcap0b, hmax0b, _⟩ := r0b
  obtain ⟨_, sx1, cap1, rfl, hcap1, hmax1, _⟩ := r1
  go_enter Try.func11, Try.ntmps11
  have hs : szR ((1048576 : Int)) l0a.length l0b.length = (1048576 : Int) - (l0a.length : Int) - (l0b.length : Int) := szR_ok (by omega)
  have HS := Lib.hid hs
  clear hs
  go_wp2_with fail
  refine (w_szRule _ _ _ _ _ _ _ _ (by omega) (by omega) (by omega) (by omega) _).mono ?_
  rintro e u4 ⟨rfl, hL4⟩
  rw [HS.out]
  clear HS
  have KB0 := Lib.hid (kept1 hL4)
  replace hL4 := ((Later.refl _).alloc _).trans hL4
  replace HW := HW.trans hL4
  clear hL4
  have hs : (if (1048576 : Int) - (l0a.length : Int) - (l0b.length : Int) < (l1.length : Int) then (-1 : Int) else (1048576 : Int) - (l0a.length : Int) - (l0b.length : Int) - (l1.length : Int)) = (1048576 : Int) - (l0a.length : Int) - (l0b.length : Int) - (l1.length : Int) := if_neg (by omega)
  have HS := Lib.hid hs
  clear hs
  go_wp2_with fail
  refine (w_szTermS _ _ _ _ (by omega) (by omega) (by omega) _).mono ?_
  rintro e w' ⟨rfl, rfl⟩
  rw [HS.out]
  clear HS
  obtain ⟨cB0, fB0, zB0⟩ := blk_at KB0.out
  go_wp2_with fail
  refine (w_toRuleA _ _ _ _ _ _ (R0a.out.later HW) (R0b.out.later HW)).mono ?_
  rintro e u6 ⟨y6_0, q6_0, y6_1, q6_1, rfl, hL6, ho0, ho1, hap⟩
  clear cB0 fB0 zB0
  have hBy6_0 := (HW).size
  have hBy6_1 := (HW).size
  have Ay6_1_y6_0 := Lib.hid hap
  clear hap
  replace KB0 := Lib.hid (hL6.keep KB0.out)
  replace HW := HW.trans hL6
  clear hL6
  have Oy6_0 := Lib.hid ho0
  clear ho0
  have Oy6_1 := Lib.hid ho1
  clear ho1
  go_wp2_with fail
  refine (w_toTermS _ _ _ (R1.out.later HW)).mono ?_
  rintro e u7 ⟨y7_0, rfl, hL7, ho0⟩
  have Ay7_0_y6_0 := Lib.hid (own_apart Oy6_0.out ho0 (Nat.le_refl _))
  have Ay6_0_y7_0 := Lib.hid (own_apart' Oy6_0.out ho0 (Nat.le_refl _))
  have Ay7_0_y6_1 := Lib.hid (own_apart Oy6_1.out ho0 (Nat.le_refl _))
  have Ay6_1_y7_0 := Lib.hid (own_apart' Oy6_1.out ho0 (Nat.le_refl _))
  have hBy7_0 := (HW).size
  replace KB0 := Lib.hid (hL7.keep KB0.out)
  replace Oy6_0 := Lib.hid (owns_later Oy6_0.out hL7)
  replace Oy6_1 := Lib.hid (owns_later Oy6_1.out hL7)
  replace HW := HW.trans hL7
  clear hL7
  have Oy7_0 := Lib.hid ho0
  clear ho0
  go_wp2_with fail
  refine (w_specBestTerms _ _ _ _ _ _ _ _ (reads_of_owns Oy6_0.out (by omega)) (reads_of_owns Oy6_1.out (by omega)) (reads_of_owns Oy7_0.out (by omega))).mono ?_
  rintro e u8 ⟨y8_0, ly8_0, q8_0, rfl, hL8, ho0⟩
  rw [HRS0.out] at ho0
  obtain ⟨a5, c5, e5⟩ := isSl_of ho0
  simp only [Value.slice.injEq] at e5
  obtain ⟨rfl, rfl, rfl⟩ := e5
  rw [HRS1.out, HRS2.out]
  have Ay8_0_y6_0 := Lib.hid (own_apart Oy6_0.out ho0 (Nat.le_refl _))
  have Ay6_0_y8_0 := Lib.hid (own_apart' Oy6_0.out ho0 (Nat.le_refl _))
  have Ay8_0_y6_1 := Lib.hid (own_apart Oy6_1.out ho0 (Nat.le_refl _))
  have Ay6_1_y8_0 := Lib.hid (own_apart' Oy6_1.out ho0 (Nat.le_refl _))
  have Ay8_0_y7_0 := Lib.hid (own_apart Oy7_0.out ho0 (Nat.le_refl _))
  have Ay7_0_y8_0 := Lib.hid (own_apart' Oy7_0.out ho0 (Nat.le_refl _))
  have hBy8_0 := (HW).size
  replace KB0 := Lib.hid (hL8.keep KB0.out)
  replace Oy6_0 := Lib.hid (owns_later Oy6_0.out hL8)
  replace Oy6_1 := Lib.hid (owns_later Oy6_1.out hL8)
  replace Oy7_0 := Lib.hid (owns_later Oy7_0.out hL8)
  replace HW := HW.trans hL8
  clear hL8
  have Oy8_0 := Lib.hid ho0
  clear ho0
  obtain ⟨cB0, fB0, zB0⟩ := blk_at KB0.out
  go_wp2_with fail
  refine (w_toRuleA _ _ _ _ _ _ (R0a.out.later HW) (R0b.out.later HW)).mono ?_
  rintro e u9 ⟨y9_0, q9_0, y9_1, q9_1, rfl, hL9, ho0, ho1, hap⟩
  clear cB0 fB0 zB0
  have Ay9_0_y6_0 := Lib.hid (own_apart Oy6_0.out ho0 (Nat.le_refl _))
  have Ay6_0_y9_0 := Lib.hid (own_apart' Oy6_0.out ho0 (Nat.le_refl _))
  have Ay9_0_y6_1 := Lib.hid (own_apart Oy6_1.out ho0 (Nat.le_refl _))
  have Ay6_1_y9_0 := Lib.hid (own_apart' Oy6_1.out ho0 (Nat.le_refl _))
  have Ay9_0_y7_0 := Lib.hid (own_apart Oy7_0.out ho0 (Nat.le_refl _))
  have Ay7_0_y9_0 := Lib.hid (own_apart' Oy7_0.out ho0 (Nat.le_refl _))
  have Ay9_0_y8_0 := Lib.hid (own_apart Oy8_0.out ho0 (Nat.le_refl _))
  have Ay8_0_y9_0 := Lib.hid (own_apart' Oy8_0.out ho0 (Nat.le_refl _))
  have hBy9_0 := (HW).size
  have Ay9_1_y6_0 := Lib.hid (own_apart Oy6_0.out ho1 (Nat.le_refl _))
  have Ay6_0_y9_1 := Lib.hid (own_apart' Oy6_0.out ho1 (Nat.le_refl _))
  have Ay9_1_y6_1 := Lib.hid (own_apart Oy6_1.out ho1 (Nat.le_refl _))
  have Ay6_1_y9_1 := Lib.hid (own_apart' Oy6_1.out ho1 (Nat.le_refl _))
  have Ay9_1_y7_0 := Lib.hid (own_apart Oy7_0.out ho1 (Nat.le_refl _))
  have Ay7_0_y9_1 := Lib.hid (own_apart' Oy7_0.out ho1 (Nat.le_refl _))
  have Ay9_1_y8_0 := Lib.hid (own_apart Oy8_0.out ho1 (Nat.le_refl _))
  have Ay8_0_y9_1 := Lib.hid (own_apart' Oy8_0.out ho1 (Nat.le_refl _))
  have hBy9_1 := (HW).size
  have Ay9_1_y9_0 := Lib.hid hap
  clear hap
  replace KB0 := Lib.hid (hL9.keep KB0.out)
  replace Oy6_0 := Lib.hid (owns_later Oy6_0.out hL9)
  replace Oy6_1 := Lib.hid (owns_later Oy6_1.out hL9)
  replace Oy7_0 := Lib.hid (owns_later Oy7_0.out hL9)
  replace Oy8_0 := Lib.hid (owns_later Oy8_0.out hL9)
  replace HW := HW.trans hL9
  clear hL9
  have Oy9_0 := Lib.hid ho0
  clear ho0
  have Oy9_1 := Lib.hid ho1
  clear ho1
  go_wp2_with fail
  refine (w_toTermS _ _ _ (R1.out.later (HW.alloc _))).mono ?_
  rintro e u10 ⟨y10_0, rfl, hL10, ho0⟩
  have Ay10_0_y6_0 := Lib.hid (own_apart Oy6_0.out ho0 (by simp))
  have Ay6_0_y10_0 := Lib.hid (own_apart' Oy6_0.out ho0 (by simp))
  have Ay10_0_y6_1 := Lib.hid (own_apart Oy6_1.out ho0 (by simp))
  have Ay6_1_y10_0 := Lib.hid (own_apart' Oy6_1.out ho0 (by simp))
  have Ay10_0_y7_0 := Lib.hid (own_apart Oy7_0.out ho0 (by simp))
  have Ay7_0_y10_0 := Lib.hid (own_apart' Oy7_0.out ho0 (by simp))
  have Ay10_0_y8_0 := Lib.hid (own_apart Oy8_0.out ho0 (by simp))
  have Ay8_0_y10_0 := Lib.hid (own_apart' Oy8_0.out ho0 (by simp))
  have Ay10_0_y9_0 := Lib.hid (own_apart Oy9_0.out ho0 (by simp))
  have Ay9_0_y10_0 := Lib.hid (own_apart' Oy9_0.out ho0 (by simp))
  have Ay10_0_y9_1 := Lib.hid (own_apart Oy9_1.out ho0 (by simp))
  have Ay9_1_y10_0 := Lib.hid (own_apart' Oy9_1.out ho0 (by simp))
  have hBy10_0 := ((HW.alloc (.cells #[.int .i64 rn0, .slice y9_0 l0a.length q9_0, .slice y9_1 l0b.length q9_1] 32))).size
  have KA9 := Lib.hid (kept1 hL10)
  replace hL10 := ((Later.refl _).alloc _).trans hL10
  replace KB0 := Lib.hid (hL10.keep KB0.out)
  replace Oy6_0 := Lib.hid (owns_later Oy6_0.out hL10)
  replace Oy6_1 := Lib.hid (owns_later Oy6_1.out hL10)
  replace Oy7_0 := Lib.hid (owns_later Oy7_0.out hL10)
  replace Oy8_0 := Lib.hid (owns_later Oy8_0.out hL10)
  replace Oy9_0 := Lib.hid (owns_later Oy9_0.out hL10)
  replace Oy9_1 := Lib.hid (owns_later Oy9_1.out hL10)
  replace HW := HW.trans hL10
  clear hL10
  have Oy10_0 := Lib.hid ho0
  clear ho0
  obtain ⟨cA9, fA9, zA9⟩ := blk_at KA9.out
  go_wp2_with fail
  refine (w_implBestTerms _ _ _ _ _ _ _ _ (reads_of_owns Oy9_0.out (by omega)) (reads_of_owns Oy9_1.out (by omega)) (reads_of_owns Oy10_0.out (by omega))).mono ?_
  rintro e u11 ⟨y11_0, ly11_0, q11_0, rfl, hL11, ho0⟩
  rw [HRS0.out] at ho0
  obtain ⟨a5, c5, e5⟩ := isSl_of ho0
  simp only [Value.slice.injEq] at e5
  obtain ⟨rfl, rfl, rfl⟩ := e5
  rw [HRS1.out, HRS2.out]
  clear cA9 fA9 zA9
  have Ay11_0_y6_0 := Lib.hid (own_apart Oy6_0.out ho0 (Nat.le_refl _))
  have Ay6_0_y11_0 := Lib.hid (own_apart' Oy6_0.out ho0 (Nat.le_refl _))
  have Ay11_0_y6_1 := Lib.hid (own_apart Oy6_1.out ho0 (Nat.le_refl _))
  have Ay6_1_y11_0 := Lib.hid (own_apart' Oy6_1.out ho0 (Nat.le_refl _))
  have Ay11_0_y7_0 := Lib.hid (own_apart Oy7_0.out ho0 (Nat.le_refl _))
  have Ay7_0_y11_0 := Lib.hid (own_apart' Oy7_0.out ho0 (Nat.le_refl _))
  have Ay11_0_y8_0 := Lib.hid (own_apart Oy8_0.out ho0 (Nat.le_refl _))
  have Ay8_0_y11_0 := Lib.hid (own_apart' Oy8_0.out ho0 (Nat.le_refl _))
  have Ay11_0_y9_0 := Lib.hid (own_apart Oy9_0.out ho0 (Nat.le_refl _))
  have Ay9_0_y11_0 := Lib.hid (own_apart' Oy9_0.out ho0 (Nat.le_refl _))
  have Ay11_0_y9_1 := Lib.hid (own_apart Oy9_1.out ho0 (Nat.le_refl _))
  have Ay9_1_y11_0 := Lib.hid (own_apart' Oy9_1.out ho0 (Nat.le_refl _))
  have Ay11_0_y10_0 := Lib.hid (own_apart Oy10_0.out ho0 (Nat.le_refl _))
  have Ay10_0_y11_0 := Lib.hid (own_apart' Oy10_0.out ho0 (Nat.le_refl _))
  have hBy11_0 := (HW).size
  replace KB0 := Lib.hid (hL11.keep KB0.out)
  replace KA9 := Lib.hid (hL11.keep KA9.out)
  replace Oy6_0 := Lib.hid (owns_later Oy6_0.out hL11)
  replace Oy6_1 := Lib.hid (owns_later Oy6_1.out hL11)
  replace Oy7_0 := Lib.hid (owns_later Oy7_0.out hL11)
  replace Oy8_0 := Lib.hid (owns_later Oy8_0.out hL11)
  replace Oy9_0 := Lib.hid (owns_later Oy9_0.out hL11)
  replace Oy9_1 := Lib.hid (owns_later Oy9_1.out hL11)
  replace Oy10_0 := Lib.hid (owns_later Oy10_0.out hL11)
  replace HW := HW.trans hL11
  clear hL11
  have Oy11_0 := Lib.hid ho0
  clear ho0
  go_wp2_with fail
  refine (w_eqInt64S _ _ _ _ _ (reads_of_owns Oy11_0.out (by omega)) (reads_of_owns Oy8_0.out (by omega))).mono ?_
  rintro e u12 ⟨rfl, hL12⟩
  replace KB0 := Lib.hid (hL12.keep KB0.out)
  replace KA9 := Lib.hid (hL12.keep KA9.out)
  replace Oy6_0 := Lib.hid (owns_later Oy6_0.out hL12)
  replace Oy6_1 := Lib.hid (owns_later Oy6_1.out hL12)
  replace Oy7_0 := Lib.hid (owns_later Oy7_0.out hL12)
  replace Oy8_0 := Lib.hid (owns_later Oy8_0.out hL12)
  replace Oy9_0 := Lib.hid (owns_later Oy9_0.out hL12)
  replace Oy9_1 := Lib.hid (owns_later Oy9_1.out hL12)
  replace Oy10_0 := Lib.hid (owns_later Oy10_0.out hL12)
  replace Oy11_0 := Lib.hid (owns_later Oy11_0.out hL12)
  replace HW := HW.trans hL12
  clear hL12
  go_wp2_with fail
  refine region_slots 140 [64, 65, 66, 67, 68] (fun g ac wc => sl ac 9 = .pointer (some ⟨u9.heap.size, 0, none⟩) ∧
    sl ac 2 = .pointer (some ⟨w.heap.size, 0, none⟩) ∧
    (g 0 = true → sl ac 64 = .agg #[.int .i64 rn0, .slice y9_0 l0a.length q9_0, .slice y9_1 l0b.length q9_1]) ∧
    (g 1 = true → sl ac 65 = .agg #[.int .i64 rn0, .slice sx0a l0a.length cap0a, .slice sx0b l0b.length cap0b]) ∧
    (g 2 = true → ∃ z66_0 z66_1 : Value, sl ac 66 = .agg #[.int .i64 rn0, z66_0, z66_1] ∧ (g 3 = false → wc.ownsRow u12.heap.size 2 1 z66_0 (l0a.length) (nums l0a) ∧ wc.ownsRow u12.heap.size 2 1 z66_1 (l0b.length) (nums l0b))) ∧
    (g 3 = true → sl ac 67 = .bool true) ∧
    (g 4 = true → sl ac 68 = .bool false) ∧
    Later u12 wc ∧
    (g 4 = true → g 3 = true) ∧
    u12.heap.size ≤ wc.heap.size) (by kernel_rfl) (by kernel_rfl) rfl (by kernel_rfl) ?_ ?_ ?_
  · exact ⟨rfl, rfl, nofun, nofun, nofun, nofun, nofun, (Later.refl _).drew, nofun, Nat.le_refl _⟩
  · intro g ac ur hg ha hI
    obtain ⟨x9, x2, i0, i1, i2, i3, i4, hL, -, hS⟩ := hI
    have a0 := i0 (hg 0 (by simp))
    have a1 := i1 (hg 1 (by simp))
    obtain ⟨z66_0, z66_1, a2, -⟩ := i2 (hg 2 (by simp))
    have a3 := i3 (hg 3 (by simp))
    have a4 := i4 (hg 4 (by simp))
    simp only [putAll, a0, a1, a2, a3, a4] at ha
    simp only [Act.put, List.setIfInBounds_toArray, List.set_cons_succ, List.set_cons_zero] at ha
    rw [ha]
    clear x9 x2 i0 i1 i2 i3 i4 a0 a1 a2 a3 a4 hg ha
    replace KB0 := Lib.hid (hL.keep KB0.out)
    replace KA9 := Lib.hid (hL.keep KA9.out)
    replace Oy6_0 := Lib.hid (owns_later Oy6_0.out hL)
    replace Oy6_1 := Lib.hid (owns_later Oy6_1.out hL)
    replace Oy7_0 := Lib.hid (owns_later Oy7_0.out hL)
    replace Oy8_0 := Lib.hid (owns_later Oy8_0.out hL)
    replace Oy9_0 := Lib.hid (owns_later Oy9_0.out hL)
    replace Oy9_1 := Lib.hid (owns_later Oy9_1.out hL)
    replace Oy10_0 := Lib.hid (owns_later Oy10_0.out hL)
    replace Oy11_0 := Lib.hid (owns_later Oy11_0.out hL)
    replace HW := HW.trans hL
    clear hL hS
    go_wp2_with fail
    refine (w_toTermS _ _ _ (R1.out.later HW)).mono ?_
    rintro e u13 ⟨y13_0, rfl, hL13, ho0⟩
    have Ay13_0_y6_0 := Lib.hid (own_apart Oy6_0.out ho0 (Nat.le_refl _))
    have Ay6_0_y13_0 := Lib.hid (own_apart' Oy6_0.out ho0 (Nat.le_refl _))
    have Ay13_0_y6_1 := Lib.hid (own_apart Oy6_1.out ho0 (Nat.le_refl _))
    have Ay6_1_y13_0 := Lib.hid (own_apart' Oy6_1.out ho0 (Nat.le_refl _))
    have Ay13_0_y7_0 := Lib.hid (own_apart Oy7_0.out ho0 (Nat.le_refl _))
    have Ay7_0_y13_0 := Lib.hid (own_apart' Oy7_0.out ho0 (Nat.le_refl _))
    have Ay13_0_y8_0 := Lib.hid (own_apart Oy8_0.out ho0 (Nat.le_refl _))
    have Ay8_0_y13_0 := Lib.hid (own_apart' Oy8_0.out ho0 (Nat.le_refl _))
    have Ay13_0_y9_0 := Lib.hid (own_apart Oy9_0.out ho0 (Nat.le_refl _))
    have Ay9_0_y13_0 := Lib.hid (own_apart' Oy9_0.out ho0 (Nat.le_refl _))
    have Ay13_0_y9_1 := Lib.hid (own_apart Oy9_1.out ho0 (Nat.le_refl _))
    have Ay9_1_y13_0 := Lib.hid (own_apart' Oy9_1.out ho0 (Nat.le_refl _))
    have Ay13_0_y10_0 := Lib.hid (own_apart Oy10_0.out ho0 (Nat.le_refl _))
    have Ay10_0_y13_0 := Lib.hid (own_apart' Oy10_0.out ho0 (Nat.le_refl _))
    have Ay13_0_y11_0 := Lib.hid (own_apart Oy11_0.out ho0 (Nat.le_refl _))
    have Ay11_0_y13_0 := Lib.hid (own_apart' Oy11_0.out ho0 (Nat.le_refl _))
    have hBy13_0 := (HW).size
    replace KB0 := Lib.hid (hL13.keep KB0.out)
    replace KA9 := Lib.hid (hL13.keep KA9.out)
    replace Oy6_0 := Lib.hid (owns_later Oy6_0.out hL13)
    replace Oy6_1 := Lib.hid (owns_later Oy6_1.out hL13)
    replace Oy7_0 := Lib.hid (owns_later Oy7_0.out hL13)
    replace Oy8_0 := Lib.hid (owns_later Oy8_0.out hL13)
    replace Oy9_0 := Lib.hid (owns_later Oy9_0.out hL13)
    replace Oy9_1 := Lib.hid (owns_later Oy9_1.out hL13)
    replace Oy10_0 := Lib.hid (owns_later Oy10_0.out hL13)
    replace Oy11_0 := Lib.hid (owns_later Oy11_0.out hL13)
    replace HW := HW.trans hL13
    clear hL13
    have Oy13_0 := Lib.hid ho0
    clear ho0
    go_wp2_with fail
    refine (w_eqTermS _ _ _ _ _ (reads_of_owns Oy10_0.out (by omega)) (reads_of_owns Oy13_0.out (by omega))).mono ?_
    rintro e u14 ⟨rfl, hL14⟩
    replace KB0 := Lib.hid (hL14.keep KB0.out)
    replace KA9 := Lib.hid (hL14.keep KA9.out)
    replace Oy6_0 := Lib.hid (owns_later Oy6_0.out hL14)
    replace Oy6_1 := Lib.hid (owns_later Oy6_1.out hL14)
    replace Oy7_0 := Lib.hid (owns_later Oy7_0.out hL14)
    replace Oy8_0 := Lib.hid (owns_later Oy8_0.out hL14)
    replace Oy9_0 := Lib.hid (owns_later Oy9_0.out hL14)
    replace Oy9_1 := Lib.hid (owns_later Oy9_1.out hL14)
    replace Oy10_0 := Lib.hid (owns_later Oy10_0.out hL14)
    replace Oy11_0 := Lib.hid (owns_later Oy11_0.out hL14)
    replace Oy13_0 := Lib.hid (owns_later Oy13_0.out hL14)
    replace HW := HW.trans hL14
    clear hL14
    clear Oy13_0
    clear hBy13_0
    clear Ay13_0_y6_0
    clear Ay6_0_y13_0
    clear Ay13_0_y6_1
    clear Ay6_1_y13_0
    clear Ay13_0_y7_0
    clear Ay7_0_y13_0
    clear Ay13_0_y8_0
    clear Ay8_0_y13_0
    clear Ay13_0_y9_0
    clear Ay9_0_y13_0
    clear Ay13_0_y9_1
    clear Ay9_1_y13_0
    clear Ay13_0_y10_0
    clear Ay10_0_y13_0
    clear Ay13_0_y11_0
    clear Ay11_0_y13_0
    obtain ⟨cA9, fA9, zA9⟩ := blk_at KA9.out
    go_wp2_with fail
    refine (w_markRule _ _ _ _ _ _ _ _ _ _ _ (by omega) (by omega) (by omega) (by omega) _ Oy9_0.out Oy9_1.out Ay9_1_y9_0.out).mono ?_
    rintro e u15 ⟨rfl, hg⟩
    clear cA9 fA9 zA9
    replace KB0 := Lib.hid (hg.keep KB0.out (own_ne_type Oy9_0.out KB0.out (by decide)) (own_ne_type Oy9_1.out KB0.out (by decide)))
    replace KA9 := Lib.hid (hg.keep KA9.out (own_ne_type Oy9_0.out KA9.out (by decide)) (own_ne_type Oy9_1.out KA9.out (by decide)))
    have Ty6_0 := hg.owns Oy6_0.out Ay6_0_y9_0.out Ay6_0_y9_1.out
    have Ty6_1 := hg.owns Oy6_1.out Ay6_1_y9_0.out Ay6_1_y9_1.out
    have Ty7_0 := hg.owns Oy7_0.out Ay7_0_y9_0.out Ay7_0_y9_1.out
    have Ty8_0 := hg.owns Oy8_0.out Ay8_0_y9_0.out Ay8_0_y9_1.out
    have Ty10_0 := hg.owns Oy10_0.out Ay10_0_y9_0.out Ay10_0_y9_1.out
    have Ty11_0 := hg.owns Oy11_0.out Ay11_0_y9_0.out Ay11_0_y9_1.out
    replace HW := hg.later HW (fun j e => Nat.le_trans hBy9_0 (Oy9_0.out.lt j e).1) (fun j e => Nat.le_trans hBy9_1 (Oy9_1.out.lt j e).1)
    replace Oy6_0 := Lib.hid Ty6_0
    clear Ty6_0
    replace Oy6_1 := Lib.hid Ty6_1
    clear Ty6_1
    replace Oy7_0 := Lib.hid Ty7_0
    clear Ty7_0
    replace Oy8_0 := Lib.hid Ty8_0
    clear Ty8_0
    replace Oy10_0 := Lib.hid Ty10_0
    clear Ty10_0
    replace Oy11_0 := Lib.hid Ty11_0
    clear Ty11_0
    clear hg
    clear Oy9_0
    clear hBy9_0
    clear Ay9_0_y6_0
    clear Ay6_0_y9_0
    clear Ay9_0_y6_1
    clear Ay6_1_y9_0
    clear Ay9_0_y7_0
    clear Ay7_0_y9_0
    clear Ay9_0_y8_0
    clear Ay8_0_y9_0
    clear Ay9_1_y9_0
    clear Ay10_0_y9_0
    clear Ay9_0_y10_0
    clear Ay11_0_y9_0
    clear Ay9_0_y11_0
    clear Oy9_1
    clear hBy9_1
    clear Ay9_1_y6_0
    clear Ay6_0_y9_1
    clear Ay9_1_y6_1
    clear Ay6_1_y9_1
    clear Ay9_1_y7_0
    clear Ay7_0_y9_1
    clear Ay9_1_y8_0
    clear Ay8_0_y9_1
    clear Ay10_0_y9_1
    clear Ay9_1_y10_0
    clear Ay11_0_y9_1
    clear Ay9_1_y11_0
    go_wp2_with fail
    refine (w_markTermS _ _ _ _ _ (by omega) (by omega) (by omega) _ Oy10_0.out).mono ?_
    rintro e u16 ⟨rfl, ho, hg⟩
    replace KB0 := Lib.hid (grown_keepR hg KB0.out (own_ne_type Oy10_0.out KB0.out (by decide)))
    replace KA9 := Lib.hid (grown_keepR hg KA9.out (own_ne_type Oy10_0.out KA9.out (by decide)))
    replace Oy6_0 := Lib.hid (Oy6_0.out.kept hg Ay6_0_y10_0.out)
    replace Oy6_1 := Lib.hid (Oy6_1.out.kept hg Ay6_1_y10_0.out)
    replace Oy7_0 := Lib.hid (Oy7_0.out.kept hg Ay7_0_y10_0.out)
    replace Oy8_0 := Lib.hid (Oy8_0.out.kept hg Ay8_0_y10_0.out)
    replace Oy11_0 := Lib.hid (Oy11_0.out.kept hg Ay11_0_y10_0.out)
    replace HW := HW.own hBy10_0 Oy10_0.out hg
    replace Oy10_0 := Lib.hid ho
    clear ho hg
    clear Oy10_0
    clear hBy10_0
    clear Ay10_0_y6_0
    clear Ay6_0_y10_0
    clear Ay10_0_y6_1
    clear Ay6_1_y10_0
    clear Ay10_0_y7_0
    clear Ay7_0_y10_0
    clear Ay10_0_y8_0
    clear Ay8_0_y10_0
    clear Ay11_0_y10_0
    clear Ay10_0_y11_0
    go_wp2_with fail
    refine (w_eqInt64S _ _ _ _ _ (reads_of_owns Oy11_0.out (by omega)) (reads_of_owns Oy8_0.out (by omega))).mono ?_
    rintro e u17 ⟨rfl, hL17⟩
    replace KB0 := Lib.hid (hL17.keep KB0.out)
    replace KA9 := Lib.hid (hL17.keep KA9.out)
    replace Oy6_0 := Lib.hid (owns_later Oy6_0.out hL17)
    replace Oy6_1 := Lib.hid (owns_later Oy6_1.out hL17)
    replace Oy7_0 := Lib.hid (owns_later Oy7_0.out hL17)
    replace Oy8_0 := Lib.hid (owns_later Oy8_0.out hL17)
    replace Oy11_0 := Lib.hid (owns_later Oy11_0.out hL17)
    replace HW := HW.trans hL17
    clear hL17
    go_wp2_with fail
    refine (w_markInt64S _ _ _ _ _ (by omega) (by omega) (by omega) _ Oy11_0.out).mono ?_
    rintro e u18 ⟨rfl, ho, hg⟩
    replace KB0 := Lib.hid (grown_keepR hg KB0.out (own_ne_type Oy11_0.out KB0.out (by decide)))
    replace KA9 := Lib.hid (grown_keepR hg KA9.out (own_ne_type Oy11_0.out KA9.out (by decide)))
    replace Oy6_0 := Lib.hid (Oy6_0.out.kept hg Ay6_0_y11_0.out)
    replace Oy6_1 := Lib.hid (Oy6_1.out.kept hg Ay6_1_y11_0.out)
    replace Oy7_0 := Lib.hid (Oy7_0.out.kept hg Ay7_0_y11_0.out)
    replace Oy8_0 := Lib.hid (Oy8_0.out.kept hg Ay8_0_y11_0.out)
    replace HW := HW.own hBy11_0 Oy11_0.out hg
    replace Oy11_0 := Lib.hid ho
    clear ho hg
    go_wp2_with fail
    refine (w_heldInt64S _ _ _ (by omega) (by omega) _ (reads_of_owns Oy11_0.out (by omega))).mono ?_
    rintro e w' ⟨rfl, rfl⟩
    obtain ⟨cB0, fB0, zB0⟩ := blk_at KB0.out
    go_wp2_with fail
    refine (w_toRuleA _ _ _ _ _ _ (R0a.out.later HW) (R0b.out.later HW)).mono ?_
    rintro e u20 ⟨y20_0, q20_0, y20_1, q20_1, rfl, hL20, ho0, ho1, hap⟩
    clear cB0 fB0 zB0
    have Ay20_0_y6_0 := Lib.hid (own_apart Oy6_0.out ho0 (Nat.le_refl _))
    have Ay6_0_y20_0 := Lib.hid (own_apart' Oy6_0.out ho0 (Nat.le_refl _))
    have Ay20_0_y6_1 := Lib.hid (own_apart Oy6_1.out ho0 (Nat.le_refl _))
    have Ay6_1_y20_0 := Lib.hid (own_apart' Oy6_1.out ho0 (Nat.le_refl _))
    have Ay20_0_y7_0 := Lib.hid (own_apart Oy7_0.out ho0 (Nat.le_refl _))
    have Ay7_0_y20_0 := Lib.hid (own_apart' Oy7_0.out ho0 (Nat.le_refl _))
    have Ay20_0_y8_0 := Lib.hid (own_apart Oy8_0.out ho0 (Nat.le_refl _))
    have Ay8_0_y20_0 := Lib.hid (own_apart' Oy8_0.out ho0 (Nat.le_refl _))
    have Ay20_0_y11_0 := Lib.hid (own_apart Oy11_0.out ho0 (Nat.le_refl _))
    have Ay11_0_y20_0 := Lib.hid (own_apart' Oy11_0.out ho0 (Nat.le_refl _))
    have hBy20_0 := (HW).size
    have Ay20_1_y6_0 := Lib.hid (own_apart Oy6_0.out ho1 (Nat.le_refl _))
    have Ay6_0_y20_1 := Lib.hid (own_apart' Oy6_0.out ho1 (Nat.le_refl _))
    have Ay20_1_y6_1 := Lib.hid (own_apart Oy6_1.out ho1 (Nat.le_refl _))
    have Ay6_1_y20_1 := Lib.hid (own_apart' Oy6_1.out ho1 (Nat.le_refl _))
    have Ay20_1_y7_0 := Lib.hid (own_apart Oy7_0.out ho1 (Nat.le_refl _))
    have Ay7_0_y20_1 := Lib.hid (own_apart' Oy7_0.out ho1 (Nat.le_refl _))
    have Ay20_1_y8_0 := Lib.hid (own_apart Oy8_0.out ho1 (Nat.le_refl _))
    have Ay8_0_y20_1 := Lib.hid (own_apart' Oy8_0.out ho1 (Nat.le_refl _))
    have Ay20_1_y11_0 := Lib.hid (own_apart Oy11_0.out ho1 (Nat.le_refl _))
    have Ay11_0_y20_1 := Lib.hid (own_apart' Oy11_0.out ho1 (Nat.le_refl _))
    have hBy20_1 := (HW).size
    have Ay20_1_y20_0 := Lib.hid hap
    clear hap
    replace KB0 := Lib.hid (hL20.keep KB0.out)
    replace KA9 := Lib.hid (hL20.keep KA9.out)
    replace Oy6_0 := Lib.hid (owns_later Oy6_0.out hL20)
    replace Oy6_1 := Lib.hid (owns_later Oy6_1.out hL20)
    replace Oy7_0 := Lib.hid (owns_later Oy7_0.out hL20)
    replace Oy8_0 := Lib.hid (owns_later Oy8_0.out hL20)
    replace Oy11_0 := Lib.hid (owns_later Oy11_0.out hL20)
    replace HW := HW.trans hL20
    clear hL20
    have Oy20_0 := Lib.hid ho0
    clear ho0
    have Oy20_1 := Lib.hid ho1
    clear ho1
    go_wp2_with fail
    refine (w_toTermS _ _ _ (R1.out.later HW)).mono ?_
    rintro e u21 ⟨y21_0, rfl, hL21, ho0⟩
    have Ay21_0_y6_0 := Lib.hid (own_apart Oy6_0.out ho0 (Nat.le_refl _))
    have Ay6_0_y21_0 := Lib.hid (own_apart' Oy6_0.out ho0 (Nat.le_refl _))
    have Ay21_0_y6_1 := Lib.hid (own_apart Oy6_1.out ho0 (Nat.le_refl _))
    have Ay6_1_y21_0 := Lib.hid (own_apart' Oy6_1.out ho0 (Nat.le_refl _))
    have Ay21_0_y7_0 := Lib.hid (own_apart Oy7_0.out ho0 (Nat.le_refl _))
    have Ay7_0_y21_0 := Lib.hid (own_apart' Oy7_0.out ho0 (Nat.le_refl _))
    have Ay21_0_y8_0 := Lib.hid (own_apart Oy8_0.out ho0 (Nat.le_refl _))
    have Ay8_0_y21_0 := Lib.hid (own_apart' Oy8_0.out ho0 (Nat.le_refl _))
    have Ay21_0_y11_0 := Lib.hid (own_apart Oy11_0.out ho0 (Nat.le_refl _))
    have Ay11_0_y21_0 := Lib.hid (own_apart' Oy11_0.out ho0 (Nat.le_refl _))
    have Ay21_0_y20_0 := Lib.hid (own_apart Oy20_0.out ho0 (Nat.le_refl _))
    have Ay20_0_y21_0 := Lib.hid (own_apart' Oy20_0.out ho0 (Nat.le_refl _))
    have Ay21_0_y20_1 := Lib.hid (own_apart Oy20_1.out ho0 (Nat.le_refl _))
    have Ay20_1_y21_0 := Lib.hid (own_apart' Oy20_1.out ho0 (Nat.le_refl _))
    have hBy21_0 := (HW).size
    replace KB0 := Lib.hid (hL21.keep KB0.out)
    replace KA9 := Lib.hid (hL21.keep KA9.out)
    replace Oy6_0 := Lib.hid (owns_later Oy6_0.out hL21)
    replace Oy6_1 := Lib.hid (owns_later Oy6_1.out hL21)
    replace Oy7_0 := Lib.hid (owns_later Oy7_0.out hL21)
    replace Oy8_0 := Lib.hid (owns_later Oy8_0.out hL21)
    replace Oy11_0 := Lib.hid (owns_later Oy11_0.out hL21)
    replace Oy20_0 := Lib.hid (owns_later Oy20_0.out hL21)
    replace Oy20_1 := Lib.hid (owns_later Oy20_1.out hL21)
    replace HW := HW.trans hL21
    clear hL21
    have Oy21_0 := Lib.hid ho0
    clear ho0
    go_wp2_with fail
    refine (w_implBestTerms _ _ _ _ _ _ _ _ (reads_of_owns Oy20_0.out (by omega)) (reads_of_owns Oy20_1.out (by omega)) (reads_of_owns Oy21_0.out (by omega))).mono ?_
    rintro e u22 ⟨y22_0, ly22_0, q22_0, rfl, hL22, ho0⟩
    rw [HRS0.out] at ho0
    obtain ⟨a5, c5, e5⟩ := isSl_of ho0
    simp only [Value.slice.injEq] at e5
    obtain ⟨rfl, rfl, rfl⟩ := e5
    rw [HRS1.out, HRS2.out]
    have Ay22_0_y6_0 := Lib.hid (own_apart Oy6_0.out ho0 (Nat.le_refl _))
    have Ay6_0_y22_0 := Lib.hid (own_apart' Oy6_0.out ho0 (Nat.le_refl _))
    have Ay22_0_y6_1 := Lib.hid (own_apart Oy6_1.out ho0 (Nat.le_refl _))
    have Ay6_1_y22_0 := Lib.hid (own_apart' Oy6_1.out ho0 (Nat.le_refl _))
    have Ay22_0_y7_0 := Lib.hid (own_apart Oy7_0.out ho0 (Nat.le_refl _))
    have Ay7_0_y22_0 := Lib.hid (own_apart' Oy7_0.out ho0 (Nat.le_refl _))
    have Ay22_0_y8_0 := Lib.hid (own_apart Oy8_0.out ho0 (Nat.le_refl _))
    have Ay8_0_y22_0 := Lib.hid (own_apart' Oy8_0.out ho0 (Nat.le_refl _))
    have Ay22_0_y11_0 := Lib.hid (own_apart Oy11_0.out ho0 (Nat.le_refl _))
    have Ay11_0_y22_0 := Lib.hid (own_apart' Oy11_0.out ho0 (Nat.le_refl _))
    have Ay22_0_y20_0 := Lib.hid (own_apart Oy20_0.out ho0 (Nat.le_refl _))
    have Ay20_0_y22_0 := Lib.hid (own_apart' Oy20_0.out ho0 (Nat.le_refl _))
    have Ay22_0_y20_1 := Lib.hid (own_apart Oy20_1.out ho0 (Nat.le_refl _))
    have Ay20_1_y22_0 := Lib.hid (own_apart' Oy20_1.out ho0 (Nat.le_refl _))
    have Ay22_0_y21_0 := Lib.hid (own_apart Oy21_0.out ho0 (Nat.le_refl _))
    have Ay21_0_y22_0 := Lib.hid (own_apart' Oy21_0.out ho0 (Nat.le_refl _))
    have hBy22_0 := (HW).size
    replace KB0 := Lib.hid (hL22.keep KB0.out)
    replace KA9 := Lib.hid (hL22.keep KA9.out)
    replace Oy6_0 := Lib.hid (owns_later Oy6_0.out hL22)
    replace Oy6_1 := Lib.hid (owns_later Oy6_1.out hL22)
    replace Oy7_0 := Lib.hid (owns_later Oy7_0.out hL22)
    replace Oy8_0 := Lib.hid (owns_later Oy8_0.out hL22)
    replace Oy11_0 := Lib.hid (owns_later Oy11_0.out hL22)
    replace Oy20_0 := Lib.hid (owns_later Oy20_0.out hL22)
    replace Oy20_1 := Lib.hid (owns_later Oy20_1.out hL22)
    replace Oy21_0 := Lib.hid (owns_later Oy21_0.out hL22)
    replace HW := HW.trans hL22
    clear hL22
    have Oy22_0 := Lib.hid ho0
    clear ho0
    go_wp2_with fail
    refine (w_eqInt64S _ _ _ _ _ (reads_of_owns Oy22_0.out (by omega)) (reads_of_owns Oy8_0.out (by omega))).mono ?_
    rintro e u23 ⟨rfl, hL23⟩
    replace KB0 := Lib.hid (hL23.keep KB0.out)
    replace KA9 := Lib.hid (hL23.keep KA9.out)
    replace Oy6_0 := Lib.hid (owns_later Oy6_0.out hL23)
    replace Oy6_1 := Lib.hid (owns_later Oy6_1.out hL23)
    replace Oy7_0 := Lib.hid (owns_later Oy7_0.out hL23)
    replace Oy8_0 := Lib.hid (owns_later Oy8_0.out hL23)
    replace Oy11_0 := Lib.hid (owns_later Oy11_0.out hL23)
    replace Oy20_0 := Lib.hid (owns_later Oy20_0.out hL23)
    replace Oy20_1 := Lib.hid (owns_later Oy20_1.out hL23)
    replace Oy21_0 := Lib.hid (owns_later Oy21_0.out hL23)
    replace Oy22_0 := Lib.hid (owns_later Oy22_0.out hL23)
    replace HW := HW.trans hL23
    clear hL23
    go_wp2_with fail
    refine (w_heldInt64S _ _ _ (by omega) (by omega) _ (reads_of_owns Oy11_0.out (by omega))).mono ?_
    rintro e w' ⟨rfl, rfl⟩
    go_wp2
    go_ret
    exact ⟨rfl, HW⟩
  · refine .cons ?_ (.cons ?_ (.cons ?_ (.cons ?_ (.cons ?_ .nil))))
    · unfold SlotStep
      intro g ac wc hn hk hr hI K' hK
      obtain ⟨x9, x2, i0, i1, i2, i3, i4, hL, m4_3, hS⟩ := hI
      simp only [Region.binds] at hr
      simp at hr
      replace hK := Lib.hid hK
      replace i0 := Lib.hid i0
      replace i1 := Lib.hid i1
      replace i2 := Lib.hid i2
      replace i3 := Lib.hid i3
      replace i4 := Lib.hid i4
      have cb := (blk_at (hL.keep KA9.out)).1
      have fb := (blk_at (hL.keep KA9.out)).2.1
      have zb := (blk_at (hL.keep KA9.out)).2.2
      go_simp
      exact hK.out _ _ ⟨(keepB x9 (by decide)), (keepB x2 (by decide)), (fun _ => put_eq (by omega)), (keepF i1.out (by decide)), (fun j => by obtain ⟨z66_0, z66_1, e0, ff⟩ := i2.out j; exact ⟨z66_0, z66_1, (put_ne (by decide)).trans e0, fun hu => ⟨(ff hu).1, (ff hu).2⟩⟩), (keepF i3.out (by decide)), (keepF i4.out (by decide)), hL, m4_3, hS⟩
    · unfold SlotStep
      intro g ac wc hn hk hr hI K' hK
      obtain ⟨x9, x2, i0, i1, i2, i3, i4, hL, m4_3, hS⟩ := hI
      simp only [Region.binds] at hr
      simp at hr
      replace hK := Lib.hid hK
      replace i0 := Lib.hid i0
      replace i1 := Lib.hid i1
      replace i2 := Lib.hid i2
      replace i3 := Lib.hid i3
      replace i4 := Lib.hid i4
      have cb := (blk_at (hL.keep KB0.out)).1
      have fb := (blk_at (hL.keep KB0.out)).2.1
      have zb := (blk_at (hL.keep KB0.out)).2.2
      go_simp
      exact hK.out _ _ ⟨(keepB x9 (by decide)), (keepB x2 (by decide)), (keepF i0.out (by decide)), (fun _ => put_eq (by omega)), (fun j => by obtain ⟨z66_0, z66_1, e0, ff⟩ := i2.out j; exact ⟨z66_0, z66_1, (put_ne (by decide)).trans e0, fun hu => ⟨(ff hu).1, (ff hu).2⟩⟩), (keepF i3.out (by decide)), (keepF i4.out (by decide)), hL, m4_3, hS⟩
    · unfold SlotStep
      intro g ac wc hn hk hr hI K' hK
      obtain ⟨x9, x2, i0, i1, i2, i3, i4, hL, m4_3, hS⟩ := hI
      simp only [Region.binds] at hr
      simp at hr
      replace hK := Lib.hid hK
      have y1 := i1 (by first | exact hr | exact hr.1 | exact hr.2 | exact hr.2.1 | exact hr.2.2 | exact hr.2.2.1 | exact hr.2.2.2 | simp [hr])
      replace i0 := Lib.hid i0
      replace i1 := Lib.hid i1
      replace i2 := Lib.hid i2
      replace i3 := Lib.hid i3
      replace i4 := Lib.hid i4
      go_simp
      refine (w_toRule _ _ _ _ _ _ (R0a.out.later (HW.trans hL)) (R0b.out.later (HW.trans hL))).mono ?_
      rintro e w4 ⟨z66_0, z66_1, rfl, hL4, ho0, ho1⟩
      exact hK.out _ _ ⟨(keepB x9 (by decide)), (keepB x2 (by decide)), (keepF i0.out (by decide)), (keepF i1.out (by decide)), (fun _ => ⟨z66_0, z66_1, put_eq (by omega), fun _ => ⟨owns_base ho0 hS, owns_base ho1 hS⟩⟩), (keepF i3.out (by decide)), (keepF i4.out (by decide)), hL.trans hL4, m4_3, Nat.le_trans hS hL4.size⟩
    · unfold SlotStep
      intro g ac wc hn hk hr hI K' hK
      obtain ⟨x9, x2, i0, i1, i2, i3, i4, hL, m4_3, hS⟩ := hI
      simp only [Region.binds] at hr
      simp at hr
      replace hK := Lib.hid hK
      have y0 := i0 (by first | exact hr | exact hr.1 | exact hr.2 | exact hr.2.1 | exact hr.2.2 | exact hr.2.2.1 | exact hr.2.2.2 | simp [hr])
      obtain ⟨z66_0, z66_1, y2, ff2⟩ := i2 (by first | exact hr | exact hr.1 | exact hr.2 | exact hr.2.1 | exact hr.2.2 | exact hr.2.2.1 | exact hr.2.2.2 | simp [hr])
      replace ff2 := ff2 hk
      replace i0 := Lib.hid i0
      replace i1 := Lib.hid i1
      replace i2 := Lib.hid i2
      replace i3 := Lib.hid i3
      replace i4 := Lib.hid i4
      go_simp
      refine (w_eqRule_same _ _ _ _ _ _ _ _ (reads_of_owns (owns_later Oy9_0.out hL) (by omega)) (reads_of_owns (owns_later Oy9_1.out hL) (by omega)) (reads_of_owns ff2.1 (by omega)) (reads_of_owns ff2.2 (by omega))).mono ?_
      rintro e w4 ⟨rfl, hL4⟩
      exact hK.out _ _ ⟨(keepB x9 (by decide)), (keepB x2 (by decide)), (keepF i0.out (by decide)), (keepF i1.out (by decide)), (fun j => by obtain ⟨z66_0, z66_1, e0, -⟩ := i2.out j; exact ⟨z66_0, z66_1, (put_ne (by decide)).trans e0, fun hu => absurd hu (by simp)⟩), (fun _ => put_eq (by omega)), (keepF i4.out (by decide)), hL.trans hL4, (fun _ => rfl), Nat.le_trans hS hL4.size⟩
    · unfold SlotStep
      intro g ac wc hn hk hr hI K' hK
      obtain ⟨x9, x2, i0, i1, i2, i3, i4, hL, m4_3, hS⟩ := hI
      simp only [Region.binds] at hr
      simp at hr
      replace hK := Lib.hid hK
      have y3 := i3 (by first | exact hr | exact hr.1 | exact hr.2 | exact hr.2.1 | exact hr.2.2 | exact hr.2.2.1 | exact hr.2.2.2 | simp [hr])
      replace i0 := Lib.hid i0
      replace i1 := Lib.hid i1
      replace i2 := Lib.hid i2
      replace i3 := Lib.hid i3
      replace i4 := Lib.hid i4
      go_simp
      exact hK.out _ _ ⟨(keepB x9 (by decide)), (keepB x2 (by decide)), (keepF i0.out (by decide)), (keepF i1.out (by decide)), (fun j => by obtain ⟨z66_0, z66_1, e0, ff⟩ := i2.out j; exact ⟨z66_0, z66_1, (put_ne (by decide)).trans e0, fun hu => ⟨(ff hu).1, (ff hu).2⟩⟩), (keepF i3.out (by decide)), (fun _ => put_eq (by omega)), hL, (fun _ => by first | exact hr | exact hr.1 | exact hr.2 | exact hr.2.1 | exact hr.2.2 | simp [hr]), hS⟩

theorem lifted (os : Os) (started : os.Started) (H : Type) (enc : TypeId × Value → H) :
    ReturnsInHanded {} Try.checked os 11 .any (Rows.fnExactBestTermsSpec.pre6 enc Try.prog Try.f11 Rows.fnExactBestTermsRow.domain false) (Rows.fnExactBestTermsSpec.post enc Try.prog Try.f11 false true false false) := by
  refine returnsInHanded_of_change (C := Try.checked) o_own started (by kernel_rfl) Try.func11
    (ChangeSpec.witness6 (enc := enc) (C := Try.checked) false ⟨#[], #[.agg #[.int .i64 0, .slice none 0 0, .slice none 0 0], .slice none 0 0], []⟩ 8 (by kernel_rfl) (by kernel_rfl) (by kernel_rfl) (by kernel_rfl)) ?_
  intro W base args ds gs before hval0 hW hcnd _
  have hval : ∀ (j : Nat) t v, Try.f11.params[j]? = some t → args[j]? = some v → Value.okWide Try.prog W .any base t v := hval0
  have hW' := hW
  obtain ⟨p, q, hA0, hV, rfl, hfz, hnd⟩ := hW
  have hA : DataW.TrodAll enc Try.prog W 0 (fun _ => true) true Try.f11.params.toList args.toList ds p := hA0
  rw [Try.params11] at hA hval
  obtain ⟨v0, vs0, d0, ds0, p0, q0, hargs, rfl, rfl, h0, r0⟩ := trodAll_cons hA
  obtain ⟨v1, vs1, d1, ds1, p1, q1, rfl, rfl, rfl, h1, r1⟩ := trodAll_cons r0
  obtain ⟨rfl, rfl, rfl⟩ := trodAll_nil r1
  obtain rfl : args = #[v0, v1] := by cases args; simp_all
  obtain ⟨rfl, rfl⟩ := trodVars_none hV
  have k0 := h0
  have lt0 : ∀ x ∈ p0, x.block < W.heap.size := by obtain ⟨m, hm⟩ := k0; exact DataW.trod_lt m _ _ _ hm
  obtain ⟨rn0, v0a, v0b, l0a, l0b, rfl, w0a, w0b⟩ := o_lRule' (hval 0 24 v0 rfl rfl) h0
  obtain ⟨a1, len1, cap1, rfl⟩ := okWide_slice Try.underlying43 (hval 1 43 v1 rfl rfl)
  have k1 := h1
  have lt1 : ∀ x ∈ p1, x.block < W.heap.size := by obtain ⟨m, hm⟩ := k1; exact DataW.trod_lt m _ _ _ hm
  obtain ⟨l1, w1⟩ := o_lTermS h1
  clear hA0 hval0
  refine (walk rn0 v0a v0b l0a l0b _ l1 W w0a w0b w1).mono fun e W' ⟨he, bel⟩ => ?_
  subst he
  exact ⟨_, rfl, _, _, _, [], _, [], hW', trodAll_mk1 (shut_bool Try.underlying4 _), (trodAll_cons_mk (Below.trod o_laidOut (by kernel_rfl) (of_decide_eq_true (by kernel_rfl)) k0 bel lt0) (trodAll_cons_mk (Below.trod o_laidOut (by kernel_rfl) (of_decide_eq_true (by kernel_rfl)) k1 bel lt1) trodAll_mk0)), rfl, bel.frame _, fun h => by cases h⟩

theorem over : Rows.fnExactBestTermsRow.holds Try.pinned (OpenSpec.ofChange Rows.fnExactBestTermsSpec) :=
  OpenClaim.holds_of_wide 11 Try.f11 rfl rfl rfl rfl rfl rfl rfl ⟨rfl, rfl, rfl, rfl, rfl⟩ rfl rfl rfl rfl rfl (by kernel_rfl) Try.func11 (by kernel_rfl)
    (of_decide_eq_true (by kernel_rfl)) (by unfold Func.isWrapper; first | (rw [if_pos (by decide +kernel)]; kernel_rfl) | (rw [if_neg (by decide +kernel)]; exact ⟨rfl, rfl⟩))
    (fun os started H enc _ => lifted os started H enc)

theorem proved : Rows.FnExactBestTermsSaid := over
#print axioms proved
end Go.Proofs.Ytfhppnmbmdpjeaa.lawBestTerms
