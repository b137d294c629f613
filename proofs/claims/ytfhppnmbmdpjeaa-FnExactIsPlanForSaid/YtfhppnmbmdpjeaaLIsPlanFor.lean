/- The program's IsPlanFor: whether moves are a plan for a chain. It answers what the reference's function answers, for all arguments. No condition. -/
import Derived.Test.YtfhppnmbmdpjeaaRows
import Derived.Test.YtfhppnmbmdpjeaaO1
import Derived.Test.YtfhppnmbmdpjeaaO2
import Derived.Test.YtfhppnmbmdpjeaaB3
import Derived.Test.YtfhppnmbmdpjeaaM51
import Derived.Test.YtfhppnmbmdpjeaaHMove
import Derived.Test.YtfhppnmbmdpjeaaHRule
import Derived.Test.YtfhppnmbmdpjeaaHTerm
namespace Go.Proofs.Ytfhppnmbmdpjeaa.lawIsPlanFor
set_option linter.unusedVariables false
set_option linter.unusedSimpArgs false
open Go.ChangeShapes Go.WideShapes Go.ChangeAt Go.RowKit
set_option linter.unusedVariables false
set_option maxRecDepth 100000

set_option maxHeartbeats 4000000 in
theorem walk (rn0 : Int) (v0a v0b : Value) (l0a l0b : List Int) (v1 : Value) (l1 : List Trm) (v2 : Value) (l2 : List Mov) (w : World) (r0a : Raw w v0a l0a.length 1 (nums l0a)) (r0b : Raw w v0b l0b.length 1 (nums l0b)) (r1 : Raw w v1 l1.length 3 (trms l1)) (r2 : Raw w v2 l2.length 4 (movs l2)) :
    Calls Try.prog 8 #[.agg #[.int .i64 rn0, v0a, v0b], v1, v2] w fun e w' => e = .returned (.bool true) ∧ Later w w' := by
  by_cases hs0 : l0a.length + l0b.length ≤ 1048576
  rotate_left
  · have HW := Later.refl w
    obtain ⟨_, sx0a, cap0a, rfl, hcap0a, hmax0a, _⟩ := r0a
    obtain ⟨_, sx0b, cap0b, rfl, hcap0b, hmax0b, _⟩ := r0b
    obtain ⟨_, sx1, cap1, rfl, hcap1, hmax1, _⟩ := r1
    obtain ⟨_, sx2, cap2, rfl, hcap2, hmax2, _⟩ := r2
    go_enter Try.func8, Try.ntmps8
    have hs : szR ((1048576 : Int)) l0a.length l0b.length = -1 := szR_no (by omega)
    have HS := Lib.hid hs
    clear hs
    go_wp2_with fail
    refine (w_szRule _ _ _ _ _ _ _ _ (by omega) (by omega) (by omega) (by omega) _).mono ?_
    rintro e u1 ⟨rfl, hL1⟩
    rw [HS.out]
    clear HS
    have KB0 := Lib.hid (kept1 hL1)
    replace hL1 := ((Later.refl _).alloc _).trans hL1
    replace HW := HW.trans hL1
    clear hL1
    go_wp2
    go_ret
    exact ⟨rfl, HW⟩
  by_cases hs1 : l0a.length + l0b.length + l1.length ≤ 1048576
  rotate_left
  · have HW := Later.refl w
    obtain ⟨_, sx0a, cap0a, rfl, hcap0a, hmax0a, _⟩ := r0a
    obtain ⟨_, sx0b, cap0b, rfl, hcap0b, hmax0b, _⟩ := r0b
    obtain ⟨_, sx1, cap1, rfl, hcap1, hmax1, _⟩ := r1
    obtain ⟨_, sx2, cap2, rfl, hcap2, hmax2, _⟩ := r2
    go_enter Try.func8, Try.ntmps8
    have hs : szR ((1048576 : Int)) l0a.length l0b.length = (1048576 : Int) - (l0a.length : Int) - (l0b.length : Int) := szR_ok (by omega)
    have HS := Lib.hid hs
    clear hs
    go_wp2_with fail
    refine (w_szRule _ _ _ _ _ _ _ _ (by omega) (by omega) (by omega) (by omega) _).mono ?_
    rintro e u2 ⟨rfl, hL2⟩
    rw [HS.out]
    clear HS
    have KB0 := Lib.hid (kept1 hL2)
    replace hL2 := ((Later.refl _).alloc _).trans hL2
    replace HW := HW.trans hL2
    clear hL2
    have hs : (if (1048576 : Int) - (l0a.length : Int) - (l0b.length : Int) < (l1.length : Int) then (-1 : Int) else (1048576 : Int) - (l0a.length : Int) - (l0b.length : Int) - (l1.length : Int)) = -1 := if_pos (by omega)
    have HS := Lib.hid hs
    clear hs
    go_wp2_with fail
    refine (w_szTermS _ _ _ _ (by omega) (by omega) (by omega) _).mono ?_
    rintro e w' ⟨rfl, rfl⟩
    rw [HS.out]
    clear HS
    go_wp2
    go_ret
    exact ⟨rfl, HW⟩
  by_cases hs2 : l0a.length + l0b.length + l1.length + l2.length ≤ 1048576
  rotate_left
  · have HW := Later.refl w
    obtain ⟨_, sx0a, cap0a, rfl, hcap0a, hmax0a, _⟩ := r0a
    obtain ⟨_, sx0b, cap0b, rfl, hcap0b, hmax0b, _⟩ := r0b
    obtain ⟨_, sx1, cap1, rfl, hcap1, hmax1, _⟩ := r1
    obtain ⟨_, sx2, cap2, rfl, hcap2, hmax2, _⟩ := r2
    go_enter Try.func8, Try.ntmps8
    have hs : szR ((1048576 : Int)) l0a.length l0b.length = (1048576 : Int) - (l0a.length : Int) - (l0b.length : Int) := szR_ok (by omega)
    have HS := Lib.hid hs
    clear hs
    go_wp2_with fail
    refine (w_szRule _ _ _ _ _ _ _ _ (by omega) (by omega) (by omega) (by omega) _).mono ?_
    rintro e u4 ⟨rfl, hL4⟩
    rw [HS.out]
    clear HS
    have KB0 := Lib.hid (kept1 hL4)
    replace hL4 := ((Later.refl _).alloc _).trans hL4
    replace HW := HW.trans hL4
    clear hL4
    have hs : (if (1048576 : Int) - (l0a.length : Int) - (l0b.length : Int) < (l1.length : Int) then (-1 : Int) else (1048576 : Int) - (l0a.length : Int) - (l0b.length : Int) - (l1.length : Int)) = (1048576 : Int) - (l0a.length : Int) - (l0b.length : Int) - (l1.length : Int) := if_neg (by omega)
    have HS := Lib.hid hs
    clear hs
    go_wp2_with fail
    refine (w_szTermS _ _ _ _ (by omega) (by omega) (by omega) _).mono ?_
    rintro e w' ⟨rfl, rfl⟩
    rw [HS.out]
    clear HS
    have hs : (if (1048576 : Int) - (l0a.length : Int) - (l0b.length : Int) - (l1.length : Int) < (l2.length : Int) then (-1 : Int) else (1048576 : Int) - (l0a.length : Int) - (l0b.length : Int) - (l1.length : Int) - (l2.length : Int)) = -1 := if_pos (by omega)
    have HS := Lib.hid hs
    clear hs
    go_wp2_with fail
    refine (w_szMoveS _ _ _ _ (by omega) (by omega) (by omega) _).mono ?_
    rintro e w' ⟨rfl, rfl⟩
    rw [HS.out]
    clear HS
    go_wp2
    go_ret
    exact ⟨rfl, HW⟩
  have R0a := Lib.hid (r0a.reads (by omega))
  have R0b := Lib.hid (r0b.reads (by omega))
  have R1 := Lib.hid (r1.reads (by omega))
  have R2 := Lib.hid (r2.reads (by omega))
  obtain ⟨RS0, hRS0⟩ : ∃ R : Bool, isPlan ⟨rn0, l0a, l0b⟩ l1 l2 = R := ⟨_, rfl⟩
  have HRS0 := Lib.hid hRS0
  clear hRS0
  obtain ⟨RS1, hRS1⟩ : ∃ R : Int, codePlan ⟨rn0, l0a, l0b⟩ l1 = R := ⟨_, rfl⟩
  have HRS1 := Lib.hid hRS1
  clear hRS1
  have HW := Later.refl w
  obtain ⟨_, sx0a, cap0a, rfl, hcap0a, hmax0a, _⟩ := r0a
  obtain ⟨_, sx0b, cap0b, rfl, hcap0b, hmax0b, _⟩ := r0b
  obtain ⟨_, sx1, cap1, rfl, hcap1, hmax1, _⟩ := r1
  obtain ⟨_, sx2, cap2, rfl, hcap2, hmax2, _⟩ := r2
  go_enter Try.func8, Try.ntmps8
  have hs : szR ((1048576 : Int)) l0a.length l0b.length = (1048576 : Int) - (l0a.length : Int) - (l0b.length : Int) := szR_ok (by omega)
  have HS := Lib.hid hs
  clear hs
  go_wp2_with fail
  refine (w_szRule _ _ _ _ _ _ _ _ (by omega) (by omega) (by omega) (by omega) _).mono ?_
  rintro e u7 ⟨rfl, hL7⟩
  rw [HS.out]
  clear HS
  have KB0 := Lib.hid (kept1 hL7)
  replace hL7 := ((Later.refl _).alloc _).trans hL7
  replace HW := HW.trans hL7
  clear hL7
  have hs : (if (1048576 : Int) - (l0a.length : Int) - (l0b.length : Int) < (l1.length : Int) then (-1 : Int) else (1048576 : Int) - (l0a.length : Int) - (l0b.length : Int) - (l1.length : Int)) = (1048576 : Int) - (l0a.length : Int) - (l0b.length : Int) - (l1.length : Int) := if_neg (by omega)
  have HS := Lib.hid hs
  clear hs
  go_wp2_with fail
  refine (w_szTermS _ _ _ _ (by omega) (by omega) (by omega) _).mono ?_
  rintro e w' ⟨rfl, rfl⟩
  rw [HS.out]
  clear HS
  have hs : (if (1048576 : Int) - (l0a.length : Int) - (l0b.length : Int) - (l1.length : Int) < (l2.length : Int) then (-1 : Int) else (1048576 : Int) - (l0a.length : Int) - (l0b.length : Int) - (l1.length : Int) - (l2.length : Int)) = (1048576 : Int) - (l0a.length : Int) - (l0b.length : Int) - (l1.length : Int) - (l2.length : Int) := if_neg (by omega)
  have HS := Lib.hid hs
  clear hs
  go_wp2_with fail
  refine (w_szMoveS _ _ _ _ (by omega) (by omega) (by omega) _).mono ?_
  rintro e w' ⟨rfl, rfl⟩
  rw [HS.out]
  clear HS
  obtain ⟨cB0, fB0, zB0⟩ := blk_at KB0.out
  go_wp2_with fail
  refine (w_toRuleS _ _ _ _ _ _ (R0a.out.later HW) (R0b.out.later HW)).mono ?_
  rintro e u10 ⟨y10_0, q10_0, y10_1, q10_1, rfl, hL10, ho0, ho1⟩
  clear cB0 fB0 zB0
  replace KB0 := Lib.hid (hL10.keep KB0.out)
  replace HW := HW.trans hL10
  clear hL10
  have Oy10_0 := Lib.hid ho0
  clear ho0
  have Oy10_1 := Lib.hid ho1
  clear ho1
  go_wp2_with fail
  refine (w_toTermS _ _ _ (R1.out.later HW)).mono ?_
  rintro e u11 ⟨y11_0, rfl, hL11, ho0⟩
  replace KB0 := Lib.hid (hL11.keep KB0.out)
  replace Oy10_0 := Lib.hid (owns_later Oy10_0.out hL11)
  replace Oy10_1 := Lib.hid (owns_later Oy10_1.out hL11)
  replace HW := HW.trans hL11
  clear hL11
  have Oy11_0 := Lib.hid ho0
  clear ho0
  go_wp2_with fail
  refine (w_toMoveS _ _ _ (R2.out.later HW)).mono ?_
  rintro e u12 ⟨y12_0, rfl, hL12, ho0⟩
  replace KB0 := Lib.hid (hL12.keep KB0.out)
  replace Oy10_0 := Lib.hid (owns_later Oy10_0.out hL12)
  replace Oy10_1 := Lib.hid (owns_later Oy10_1.out hL12)
  replace Oy11_0 := Lib.hid (owns_later Oy11_0.out hL12)
  replace HW := HW.trans hL12
  clear hL12
  have Oy12_0 := Lib.hid ho0
  clear ho0
  go_wp2_with fail
  refine (w_specIsPlanFor _ _ _ _ _ _ _ _ _ _ (reads_of_owns Oy10_0.out (by omega)) (reads_of_owns Oy10_1.out (by omega)) (reads_of_owns Oy11_0.out (by omega)) (reads_of_owns Oy12_0.out (by omega))).mono ?_
  rintro e u13 ⟨rfl, hL13⟩
  rw [HRS0.out, HRS1.out]
  replace KB0 := Lib.hid (hL13.keep KB0.out)
  replace Oy10_0 := Lib.hid (owns_later Oy10_0.out hL13)
  replace Oy10_1 := Lib.hid (owns_later Oy10_1.out hL13)
  replace Oy11_0 := Lib.hid (owns_later Oy11_0.out hL13)
  replace Oy12_0 := Lib.hid (owns_later Oy12_0.out hL13)
  replace HW := HW.trans hL13
  clear hL13
  obtain ⟨cB0, fB0, zB0⟩ := blk_at KB0.out
  go_wp2_with fail
  refine (w_toRuleS _ _ _ _ _ _ (R0a.out.later HW) (R0b.out.later HW)).mono ?_
  rintro e u14 ⟨y14_0, q14_0, y14_1, q14_1, rfl, hL14, ho0, ho1⟩
  clear cB0 fB0 zB0
  replace KB0 := Lib.hid (hL14.keep KB0.out)
  replace Oy10_0 := Lib.hid (owns_later Oy10_0.out hL14)
  replace Oy10_1 := Lib.hid (owns_later Oy10_1.out hL14)
  replace Oy11_0 := Lib.hid (owns_later Oy11_0.out hL14)
  replace Oy12_0 := Lib.hid (owns_later Oy12_0.out hL14)
  replace HW := HW.trans hL14
  clear hL14
  have Oy14_0 := Lib.hid ho0
  clear ho0
  have Oy14_1 := Lib.hid ho1
  clear ho1
  go_wp2_with fail
  refine (w_toTermS _ _ _ (R1.out.later (HW.alloc _))).mono ?_
  rintro e u15 ⟨y15_0, rfl, hL15, ho0⟩
  have KA10 := Lib.hid (kept1 hL15)
  replace hL15 := ((Later.refl _).alloc _).trans hL15
  replace KB0 := Lib.hid (hL15.keep KB0.out)
  replace Oy10_0 := Lib.hid (owns_later Oy10_0.out hL15)
  replace Oy10_1 := Lib.hid (owns_later Oy10_1.out hL15)
  replace Oy11_0 := Lib.hid (owns_later Oy11_0.out hL15)
  replace Oy12_0 := Lib.hid (owns_later Oy12_0.out hL15)
  replace Oy14_0 := Lib.hid (owns_later Oy14_0.out hL15)
  replace Oy14_1 := Lib.hid (owns_later Oy14_1.out hL15)
  replace HW := HW.trans hL15
  clear hL15
  have Oy15_0 := Lib.hid ho0
  clear ho0
  go_wp2_with fail
  refine (w_toMoveS _ _ _ (R2.out.later HW)).mono ?_
  rintro e u16 ⟨y16_0, rfl, hL16, ho0⟩
  replace KB0 := Lib.hid (hL16.keep KB0.out)
  replace KA10 := Lib.hid (hL16.keep KA10.out)
  replace Oy10_0 := Lib.hid (owns_later Oy10_0.out hL16)
  replace Oy10_1 := Lib.hid (owns_later Oy10_1.out hL16)
  replace Oy11_0 := Lib.hid (owns_later Oy11_0.out hL16)
  replace Oy12_0 := Lib.hid (owns_later Oy12_0.out hL16)
  replace Oy14_0 := Lib.hid (owns_later Oy14_0.out hL16)
  replace Oy14_1 := Lib.hid (owns_later Oy14_1.out hL16)
  replace Oy15_0 := Lib.hid (owns_later Oy15_0.out hL16)
  replace HW := HW.trans hL16
  clear hL16
  have Oy16_0 := Lib.hid ho0
  clear ho0
  obtain ⟨cA10, fA10, zA10⟩ := blk_at KA10.out
  go_wp2_with fail
  refine (w_implIsPlanFor _ _ _ _ _ _ _ _ _ _ (reads_of_owns Oy14_0.out (by omega)) (reads_of_owns Oy14_1.out (by omega)) (reads_of_owns Oy15_0.out (by omega)) (reads_of_owns Oy16_0.out (by omega))).mono ?_
  rintro e u17 ⟨rfl, hL17⟩
  rw [HRS0.out, HRS1.out]
  clear cA10 fA10 zA10
  replace KB0 := Lib.hid (hL17.keep KB0.out)
  replace KA10 := Lib.hid (hL17.keep KA10.out)
  replace Oy10_0 := Lib.hid (owns_later Oy10_0.out hL17)
  replace Oy10_1 := Lib.hid (owns_later Oy10_1.out hL17)
  replace Oy11_0 := Lib.hid (owns_later Oy11_0.out hL17)
  replace Oy12_0 := Lib.hid (owns_later Oy12_0.out hL17)
  replace Oy14_0 := Lib.hid (owns_later Oy14_0.out hL17)
  replace Oy14_1 := Lib.hid (owns_later Oy14_1.out hL17)
  replace Oy15_0 := Lib.hid (owns_later Oy15_0.out hL17)
  replace Oy16_0 := Lib.hid (owns_later Oy16_0.out hL17)
  replace HW := HW.trans hL17
  clear hL17
  go_wp2_with fail
  refine region_slots 76 [61, 62, 63, 64, 65] (fun g ac wc => sl ac 10 = .pointer (some ⟨u14.heap.size, 0, none⟩) ∧
    sl ac 3 = .pointer (some ⟨w.heap.size, 0, none⟩) ∧
    (g 0 = true → sl ac 61 = .agg #[.int .i64 rn0, .slice y14_0 l0a.length q14_0, .slice y14_1 l0b.length q14_1]) ∧
    (g 1 = true → sl ac 62 = .agg #[.int .i64 rn0, .slice sx0a l0a.length cap0a, .slice sx0b l0b.length cap0b]) ∧
    (g 2 = true → ∃ z63_0 z63_1 : Value, sl ac 63 = .agg #[.int .i64 rn0, z63_0, z63_1] ∧ (g 3 = false → wc.ownsRow u17.heap.size 2 1 z63_0 (l0a.length) (nums l0a) ∧ wc.ownsRow u17.heap.size 2 1 z63_1 (l0b.length) (nums l0b))) ∧
    (g 3 = true → sl ac 64 = .bool true) ∧
    (g 4 = true → sl ac 65 = .bool false) ∧
    Later u17 wc ∧
    (g 4 = true → g 3 = true) ∧
    u17.heap.size ≤ wc.heap.size) (by kernel_rfl) (by kernel_rfl) rfl (by kernel_rfl) ?_ ?_ ?_
  · exact ⟨rfl, rfl, nofun, nofun, nofun, nofun, nofun, (Later.refl _).drew, nofun, Nat.le_refl _⟩
  · intro g ac ur hg ha hI
    obtain ⟨x10, x3, i0, i1, i2, i3, i4, hL, -, hS⟩ := hI
    have a0 := i0 (hg 0 (by simp))
    have a1 := i1 (hg 1 (by simp))
    obtain ⟨z63_0, z63_1, a2, -⟩ := i2 (hg 2 (by simp))
    have a3 := i3 (hg 3 (by simp))
    have a4 := i4 (hg 4 (by simp))
    simp only [putAll, a0, a1, a2, a3, a4] at ha
    simp only [Act.put, List.setIfInBounds_toArray, List.set_cons_succ, List.set_cons_zero] at ha
    rw [ha]
    clear x10 x3 i0 i1 i2 i3 i4 a0 a1 a2 a3 a4 hg ha
    replace KB0 := Lib.hid (hL.keep KB0.out)
    replace KA10 := Lib.hid (hL.keep KA10.out)
    replace Oy10_0 := Lib.hid (owns_later Oy10_0.out hL)
    replace Oy10_1 := Lib.hid (owns_later Oy10_1.out hL)
    replace Oy11_0 := Lib.hid (owns_later Oy11_0.out hL)
    replace Oy12_0 := Lib.hid (owns_later Oy12_0.out hL)
    replace Oy14_0 := Lib.hid (owns_later Oy14_0.out hL)
    replace Oy14_1 := Lib.hid (owns_later Oy14_1.out hL)
    replace Oy15_0 := Lib.hid (owns_later Oy15_0.out hL)
    replace Oy16_0 := Lib.hid (owns_later Oy16_0.out hL)
    replace HW := HW.trans hL
    clear hL hS
    go_wp2_with fail
    refine (w_toTermS _ _ _ (R1.out.later HW)).mono ?_
    rintro e u18 ⟨y18_0, rfl, hL18, ho0⟩
    replace KB0 := Lib.hid (hL18.keep KB0.out)
    replace KA10 := Lib.hid (hL18.keep KA10.out)
    replace Oy10_0 := Lib.hid (owns_later Oy10_0.out hL18)
    replace Oy10_1 := Lib.hid (owns_later Oy10_1.out hL18)
    replace Oy11_0 := Lib.hid (owns_later Oy11_0.out hL18)
    replace Oy12_0 := Lib.hid (owns_later Oy12_0.out hL18)
    replace Oy14_0 := Lib.hid (owns_later Oy14_0.out hL18)
    replace Oy14_1 := Lib.hid (owns_later Oy14_1.out hL18)
    replace Oy15_0 := Lib.hid (owns_later Oy15_0.out hL18)
    replace Oy16_0 := Lib.hid (owns_later Oy16_0.out hL18)
    replace HW := HW.trans hL18
    clear hL18
    have Oy18_0 := Lib.hid ho0
    clear ho0
    go_wp2_with fail
    refine (w_eqTermS _ _ _ _ _ (reads_of_owns Oy15_0.out (by omega)) (reads_of_owns Oy18_0.out (by omega))).mono ?_
    rintro e u19 ⟨rfl, hL19⟩
    replace KB0 := Lib.hid (hL19.keep KB0.out)
    replace KA10 := Lib.hid (hL19.keep KA10.out)
    replace Oy10_0 := Lib.hid (owns_later Oy10_0.out hL19)
    replace Oy10_1 := Lib.hid (owns_later Oy10_1.out hL19)
    replace Oy11_0 := Lib.hid (owns_later Oy11_0.out hL19)
    replace Oy12_0 := Lib.hid (owns_later Oy12_0.out hL19)
    replace Oy14_0 := Lib.hid (owns_later Oy14_0.out hL19)
    replace Oy14_1 := Lib.hid (owns_later Oy14_1.out hL19)
    replace Oy15_0 := Lib.hid (owns_later Oy15_0.out hL19)
    replace Oy16_0 := Lib.hid (owns_later Oy16_0.out hL19)
    replace Oy18_0 := Lib.hid (owns_later Oy18_0.out hL19)
    replace HW := HW.trans hL19
    clear hL19
    clear Oy18_0
    go_wp2_with fail
    refine (w_toMoveS _ _ _ (R2.out.later HW)).mono ?_
    rintro e u20 ⟨y20_0, rfl, hL20, ho0⟩
    replace KB0 := Lib.hid (hL20.keep KB0.out)
    replace KA10 := Lib.hid (hL20.keep KA10.out)
    replace Oy10_0 := Lib.hid (owns_later Oy10_0.out hL20)
    replace Oy10_1 := Lib.hid (owns_later Oy10_1.out hL20)
    replace Oy11_0 := Lib.hid (owns_later Oy11_0.out hL20)
    replace Oy12_0 := Lib.hid (owns_later Oy12_0.out hL20)
    replace Oy14_0 := Lib.hid (owns_later Oy14_0.out hL20)
    replace Oy14_1 := Lib.hid (owns_later Oy14_1.out hL20)
    replace Oy15_0 := Lib.hid (owns_later Oy15_0.out hL20)
    replace Oy16_0 := Lib.hid (owns_later Oy16_0.out hL20)
    replace HW := HW.trans hL20
    clear hL20
    have Oy20_0 := Lib.hid ho0
    clear ho0
    go_wp2_with fail
    refine (w_eqMoveS _ _ _ _ _ (reads_of_owns Oy16_0.out (by omega)) (reads_of_owns Oy20_0.out (by omega))).mono ?_
    rintro e u21 ⟨rfl, hL21⟩
    replace KB0 := Lib.hid (hL21.keep KB0.out)
    replace KA10 := Lib.hid (hL21.keep KA10.out)
    replace Oy10_0 := Lib.hid (owns_later Oy10_0.out hL21)
    replace Oy10_1 := Lib.hid (owns_later Oy10_1.out hL21)
    replace Oy11_0 := Lib.hid (owns_later Oy11_0.out hL21)
    replace Oy12_0 := Lib.hid (owns_later Oy12_0.out hL21)
    replace Oy14_0 := Lib.hid (owns_later Oy14_0.out hL21)
    replace Oy14_1 := Lib.hid (owns_later Oy14_1.out hL21)
    replace Oy15_0 := Lib.hid (owns_later Oy15_0.out hL21)
    replace Oy16_0 := Lib.hid (owns_later Oy16_0.out hL21)
    replace Oy20_0 := Lib.hid (owns_later Oy20_0.out hL21)
    replace HW := HW.trans hL21
    clear hL21
    clear Oy20_0
    go_wp2
    go_ret
    exact ⟨rfl, HW⟩
  · refine .cons ?_ (.cons ?_ (.cons ?_ (.cons ?_ (.cons ?_ .nil))))
    · unfold SlotStep
      intro g ac wc hn hk hr hI K' hK
      obtain ⟨x10, x3, i0, i1, i2, i3, i4, hL, m4_3, hS⟩ := hI
      simp only [Region.binds] at hr
      simp at hr
      replace hK := Lib.hid hK
      replace i0 := Lib.hid i0
      replace i1 := Lib.hid i1
      replace i2 := Lib.hid i2
      replace i3 := Lib.hid i3
      replace i4 := Lib.hid i4
      have cb := (blk_at (hL.keep KA10.out)).1
      have fb := (blk_at (hL.keep KA10.out)).2.1
      have zb := (blk_at (hL.keep KA10.out)).2.2
      go_simp
      exact hK.out _ _ ⟨(keepB x10 (by decide)), (keepB x3 (by decide)), (fun _ => put_eq (by omega)), (keepF i1.out (by decide)), (fun j => by obtain ⟨z63_0, z63_1, e0, ff⟩ := i2.out j; exact ⟨z63_0, z63_1, (put_ne (by decide)).trans e0, fun hu => ⟨(ff hu).1, (ff hu).2⟩⟩), (keepF i3.out (by decide)), (keepF i4.out (by decide)), hL, m4_3, hS⟩
    · unfold SlotStep
      intro g ac wc hn hk hr hI K' hK
      obtain ⟨x10, x3, i0, i1, i2, i3, i4, hL, m4_3, hS⟩ := hI
      simp only [Region.binds] at hr
      simp at hr
      replace hK := Lib.hid hK
      replace i0 := Lib.hid i0
      replace i1 := Lib.hid i1
      replace i2 := Lib.hid i2
      replace i3 := Lib.hid i3
      replace i4 := Lib.hid i4
      have cb := (blk_at (hL.keep KB0.out)).1
      have fb := (blk_at (hL.keep KB0.out)).2.1
      have zb := (blk_at (hL.keep KB0.out)).2.2
      go_simp
      exact hK.out _ _ ⟨(keepB x10 (by decide)), (keepB x3 (by decide)), (keepF i0.out (by decide)), (fun _ => put_eq (by omega)), (fun j => by obtain ⟨z63_0, z63_1, e0, ff⟩ := i2.out j; exact ⟨z63_0, z63_1, (put_ne (by decide)).trans e0, fun hu => ⟨(ff hu).1, (ff hu).2⟩⟩), (keepF i3.out (by decide)), (keepF i4.out (by decide)), hL, m4_3, hS⟩
    · unfold SlotStep
      intro g ac wc hn hk hr hI K' hK
      obtain ⟨x10, x3, i0, i1, i2, i3, i4, hL, m4_3, hS⟩ := hI
      simp only [Region.binds] at hr
      simp at hr
      replace hK := Lib.hid hK
      have y1 := i1 (by first | exact hr | exact hr.1 | exact hr.2 | exact hr.2.1 | exact hr.2.2 | exact hr.2.2.1 | exact hr.2.2.2 | simp [hr])
      replace i0 := Lib.hid i0
      replace i1 := Lib.hid i1
      replace i2 := Lib.hid i2
      replace i3 := Lib.hid i3
      replace i4 := Lib.hid i4
      go_simp
      refine (w_toRule _ _ _ _ _ _ (R0a.out.later (HW.trans hL)) (R0b.out.later (HW.trans hL))).mono ?_
      rintro e w4 ⟨z63_0, z63_1, rfl, hL4, ho0, ho1⟩
      exact hK.out _ _ ⟨(keepB x10 (by decide)), (keepB x3 (by decide)), (keepF i0.out (by decide)), (keepF i1.out (by decide)), (fun _ => ⟨z63_0, z63_1, put_eq (by omega), fun _ => ⟨owns_base ho0 hS, owns_base ho1 hS⟩⟩), (keepF i3.out (by decide)), (keepF i4.out (by decide)), hL.trans hL4, m4_3, Nat.le_trans hS hL4.size⟩
    · unfold SlotStep
      intro g ac wc hn hk hr hI K' hK
      obtain ⟨x10, x3, i0, i1, i2, i3, i4, hL, m4_3, hS⟩ := hI
      simp only [Region.binds] at hr
      simp at hr
      replace hK := Lib.hid hK
      have y0 := i0 (by first | exact hr | exact hr.1 | exact hr.2 | exact hr.2.1 | exact hr.2.2 | exact hr.2.2.1 | exact hr.2.2.2 | simp [hr])
      obtain ⟨z63_0, z63_1, y2, ff2⟩ := i2 (by first | exact hr | exact hr.1 | exact hr.2 | exact hr.2.1 | exact hr.2.2 | exact hr.2.2.1 | exact hr.2.2.2 | simp [hr])
      replace ff2 := ff2 hk
      replace i0 := Lib.hid i0
      replace i1 := Lib.hid i1
      replace i2 := Lib.hid i2
      replace i3 := Lib.hid i3
      replace i4 := Lib.hid i4
      go_simp
      refine (w_eqRule_same _ _ _ _ _ _ _ _ (reads_of_owns (owns_later Oy14_0.out hL) (by omega)) (reads_of_owns (owns_later Oy14_1.out hL) (by omega)) (reads_of_owns ff2.1 (by omega)) (reads_of_owns ff2.2 (by omega))).mono ?_
      rintro e w4 ⟨rfl, hL4⟩
      exact hK.out _ _ ⟨(keepB x10 (by decide)), (keepB x3 (by decide)), (keepF i0.out (by decide)), (keepF i1.out (by decide)), (fun j => by obtain ⟨z63_0, z63_1, e0, -⟩ := i2.out j; exact ⟨z63_0, z63_1, (put_ne (by decide)).trans e0, fun hu => absurd hu (by simp)⟩), (fun _ => put_eq (by omega)), (keepF i4.out (by decide)), hL.trans hL4, (fun _ => rfl), Nat.le_trans hS hL4.size⟩
    · unfold SlotStep
      intro g ac wc hn hk hr hI K' hK
      obtain ⟨x10, x3, i0, i1, i2, i3, i4, hL, m4_3, hS⟩ := hI
      simp only [Region.binds] at hr
      simp at hr
      replace hK := Lib.hid hK
      have y3 := i3 (by first | exact hr | exact hr.1 | exact hr.2 | exact hr.2.1 | exact hr.2.2 | exact hr.2.2.1 | exact hr.2.2.2 | simp [hr])
      replace i0 := Lib.hid i0
      replace i1 := Lib.hid i1
      replace i2 := Lib.hid i2
      replace i3 := Lib.hid i3
      replace i4 := Lib.hid i4
      go_simp
      exact hK.out _ _ ⟨(keepB x10 (by decide)), (keepB x3 (by decide)), (keepF i0.out (by decide)), (keepF i1.out (by decide)), (fun j => by obtain ⟨z63_0, z63_1, e0, ff⟩ := i2.out j; exact ⟨z63_0, z63_1, (put_ne (by decide)).trans e0, fun hu => ⟨(ff hu).1, (ff hu).2⟩⟩), (keepF i3.out (by decide)), (fun _ => put_eq (by omega)), hL, (fun _ => by first | exact hr | exact hr.1 | exact hr.2 | exact hr.2.1 | exact hr.2.2 | simp [hr]), hS⟩

theorem lifted (os : Os) (started : os.Started) (H : Type) (enc : TypeId × Value → H) :
    ReturnsInHanded {} Try.checked os 8 .any (Rows.fnExactIsPlanForSpec.pre6 enc Try.prog Try.f8 Rows.fnExactIsPlanForRow.domain false) (Rows.fnExactIsPlanForSpec.post enc Try.prog Try.f8 false true false false) := by
  refine returnsInHanded_of_change (C := Try.checked) o_own started (by kernel_rfl) Try.func8
    (ChangeSpec.witness6 (enc := enc) (C := Try.checked) false ⟨#[], #[.agg #[.int .i64 0, .slice none 0 0, .slice none 0 0], .slice none 0 0, .slice none 0 0], []⟩ 8 (by kernel_rfl) (by kernel_rfl) (by kernel_rfl) (by kernel_rfl)) ?_
  intro W base args ds gs before hval0 hW hcnd _
  have hval : ∀ (j : Nat) t v, Try.f8.params[j]? = some t → args[j]? = some v → Value.okWide Try.prog W .any base t v := hval0
  have hW' := hW
  obtain ⟨p, q, hA0, hV, rfl, hfz, hnd⟩ := hW
  have hA : DataW.TrodAll enc Try.prog W 0 (fun _ => true) true Try.f8.params.toList args.toList ds p := hA0
  rw [Try.params8] at hA hval
  obtain ⟨v0, vs0, d0, ds0, p0, q0, hargs, rfl, rfl, h0, r0⟩ := trodAll_cons hA
  obtain ⟨v1, vs1, d1, ds1, p1, q1, rfl, rfl, rfl, h1, r1⟩ := trodAll_cons r0
  obtain ⟨v2, vs2, d2, ds2, p2, q2, rfl, rfl, rfl, h2, r2⟩ := trodAll_cons r1
  obtain ⟨rfl, rfl, rfl⟩ := trodAll_nil r2
  obtain rfl : args = #[v0, v1, v2] := by cases args; simp_all
  obtain ⟨rfl, rfl⟩ := trodVars_none hV
  have k0 := h0
  have lt0 : ∀ x ∈ p0, x.block < W.heap.size := by obtain ⟨m, hm⟩ := k0; exact DataW.trod_lt m _ _ _ hm
  obtain ⟨rn0, v0a, v0b, l0a, l0b, rfl, w0a, w0b⟩ := o_lRule' (hval 0 24 v0 rfl rfl) h0
  obtain ⟨a1, len1, cap1, rfl⟩ := okWide_slice Try.underlying43 (hval 1 43 v1 rfl rfl)
  have k1 := h1
  have lt1 : ∀ x ∈ p1, x.block < W.heap.size := by obtain ⟨m, hm⟩ := k1; exact DataW.trod_lt m _ _ _ hm
  obtain ⟨l1, w1⟩ := o_lTermS h1
  obtain ⟨a2, len2, cap2, rfl⟩ := okWide_slice Try.underlying61 (hval 2 61 v2 rfl rfl)
  have k2 := h2
  have lt2 : ∀ x ∈ p2, x.block < W.heap.size := by obtain ⟨m, hm⟩ := k2; exact DataW.trod_lt m _ _ _ hm
  obtain ⟨l2, w2⟩ := o_lMoveS h2
  clear hA0 hval0
  refine (walk rn0 v0a v0b l0a l0b _ l1 _ l2 W w0a w0b w1 w2).mono fun e W' ⟨he, bel⟩ => ?_
  subst he
  exact ⟨_, rfl, _, _, _, [], _, [], hW', trodAll_mk1 (shut_bool Try.underlying4 _), (trodAll_cons_mk (Below.trod o_laidOut (by kernel_rfl) (of_decide_eq_true (by kernel_rfl)) k0 bel lt0) (trodAll_cons_mk (Below.trod o_laidOut (by kernel_rfl) (of_decide_eq_true (by kernel_rfl)) k1 bel lt1) (trodAll_cons_mk (Below.trod o_laidOut (by kernel_rfl) (of_decide_eq_true (by kernel_rfl)) k2 bel lt2) trodAll_mk0))), rfl, bel.frame _, fun h => by cases h⟩

theorem over : Rows.fnExactIsPlanForRow.holds Try.pinned (OpenSpec.ofChange Rows.fnExactIsPlanForSpec) :=
  OpenClaim.holds_of_wide 8 Try.f8 rfl rfl rfl rfl rfl rfl rfl ⟨rfl, rfl, rfl, rfl, rfl⟩ rfl rfl rfl rfl rfl (by kernel_rfl) Try.func8 (by kernel_rfl)
    (of_decide_eq_true (by kernel_rfl)) (by unfold Func.isWrapper; first | (rw [if_pos (by decide +kernel)]; kernel_rfl) | (rw [if_neg (by decide +kernel)]; exact ⟨rfl, rfl⟩))
    (fun os started H enc _ => lifted os started H enc)

theorem proved : Rows.FnExactIsPlanForSaid := over
#print axioms proved
end Go.Proofs.Ytfhppnmbmdpjeaa.lawIsPlanFor
