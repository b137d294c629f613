/- The program's BetterPlan: the order of least units. It answers what the reference's function answers, for all arguments. No condition. -/
import Derived.Test.YtldojpelnghplaaGreatRows
import Derived.Test.YtldojpelnghplaaGreatO1
import Derived.Test.YtldojpelnghplaaGreatO2
import Derived.Test.YtldojpelnghplaaGreatBA
import Derived.Test.YtldojpelnghplaaGreatM95
import Derived.Test.YtldojpelnghplaaGreatHErrors
import Derived.Test.YtldojpelnghplaaGreatHInt64
import Derived.Test.YtldojpelnghplaaGreatHRule
import Derived.Test.YtldojpelnghplaaGreatHTerm
namespace Go.Proofs.YtldojpelnghplaaGreat.lawBetterPlan
set_option linter.unusedVariables false
set_option linter.unusedSimpArgs false
open Go.ChangeShapes Go.WideShapes Go.ChangeAt Go.RowKit
set_option linter.unusedVariables false
set_option maxRecDepth 100000

set_option maxHeartbeats 4000000 in
theorem walk (rn0 : Int) (v0a v0b : Value) (l0a l0b : List Int) (v1 : Value) (l1 : List Trm) (ag2_0 ag2_1 ag2_2 : Int) (w : World) (r0a : Raw w v0a l0a.length 1 (nums l0a)) (r0b : Raw w v0b l0b.length 1 (nums l0b)) (r1 : Raw w v1 l1.length 3 (trms l1)) :
    Calls Tryz.prog 3 #[.agg #[.int .i64 rn0, v0a, v0b], v1, .agg #[.int .i64 ag2_0, .int .i64 ag2_1, .int .i64 ag2_2]] w fun e w' => e = .returned (.bool true) ∧ Later w w' := by
  by_cases hs0 : l0a.length + l0b.length ≤ 1048576
  rotate_left
  · have HW := Later.refl w
    obtain ⟨_, sx0a, cap0a, rfl, hcap0a, hmax0a, _⟩ := r0a
    obtain ⟨_, sx0b, cap0b, rfl, hcap0b, hmax0b, _⟩ := r0b
    obtain ⟨_, sx1, cap1, rfl, hcap1, hmax1, _⟩ := r1
    go_enter Tryz.func3, Tryz.ntmps3
    have hs : szR ((1048576 : Int)) l0a.length l0b.length = -1 := szR_no (by omega)
    have HS := Lib.hid hs
    clear hs
    go_wp2_with fail
    refine (w_szRule _ _ _ _ _ _ _ _ (by omega) (by omega) (by omega) (by omega) _).mono ?_
    rintro e u1 ⟨rfl, hL1⟩
    rw [HS.out]
    clear HS
    obtain ⟨hk0, hk1⟩ := kept2 hL1
    have KB0 := Lib.hid hk0
    have KB2 := Lib.hid hk1
    clear hk0 hk1
    replace hL1 := (((Later.refl _).alloc _).alloc _).trans hL1
    replace HW := HW.trans hL1
    clear hL1
    go_wp2
    go_ret
    exact ⟨rfl, HW⟩
  by_cases hs1 : l0a.length + l0b.length + l1.length ≤ 1048576
  rotate_left
  · have HW := Later.refl w
    obtain ⟨_, sx0a, cap0a, rfl, hcap0a, hmax0a, _⟩ := r0a
    obtain ⟨_, sx0b, cap0b, rfl, hcap0b, hmax0b, _⟩ := r0b
    obtain ⟨_, sx1, cap1, rfl, hcap1, hmax1, _⟩ := r1
    go_enter Tryz.func3, Tryz.ntmps3
    have hs : szR ((1048576 : Int)) l0a.length l0b.length = (1048576 : Int) - (l0a.length : Int) - (l0b.length : Int) := szR_ok (by omega)
    have HS := Lib.hid hs
    clear hs
    go_wp2_with fail
    refine (w_szRule _ _ _ _ _ _ _ _ (by omega) (by omega) (by omega) (by omega) _).mono ?_
    rintro e u2 ⟨rfl, hL2⟩
    rw [HS.out]
    clear HS
    obtain ⟨hk0, hk1⟩ := kept2 hL2
    have KB0 := Lib.hid hk0
    have KB2 := Lib.hid hk1
    clear hk0 hk1
    replace hL2 := (((Later.refl _).alloc _).alloc _).trans hL2
    replace HW := HW.trans hL2
    clear hL2
    have hs : (if (1048576 : Int) - (l0a.length : Int) - (l0b.length : Int) < (l1.length : Int) then (-1 : Int) else (1048576 : Int) - (l0a.length : Int) - (l0b.length : Int) - (l1.length : Int)) = -1 := if_pos (by omega)
    have HS := Lib.hid hs
    clear hs
    go_wp2_with fail
    refine (w_szTermS _ _ _ _ (by omega) (by omega) (by omega) _).mono ?_
    rintro e w' ⟨rfl, rfl⟩
    rw [HS.out]
    clear HS
    go_wp2
    go_ret
    exact ⟨rfl, HW⟩
  have R0a := Lib.hid (r0a.reads (by omega))
  have R0b := Lib.hid (r0b.reads (by omega))
  have R1 := Lib.hid (r1.reads (by omega))
  obtain ⟨RS0, hRS0⟩ : ∃ R : List Int, bpL ⟨rn0, l0a, l0b⟩ l1 ⟨ag2_0, ag2_1, ag2_2⟩ = R := ⟨_, rfl⟩
  have HRS0 := Lib.hid hRS0
  have hG0 : RS0.length ≤ 1048576 := by have := bpL_len ⟨rn0, l0a, l0b⟩ l1 ⟨ag2_0, ag2_1, ag2_2⟩; rw [hRS0] at this; omega
  clear hRS0
  obtain ⟨RS1, hRS1⟩ : ∃ R : Int, bpN ⟨rn0, l0a, l0b⟩ l1 ⟨ag2_0, ag2_1, ag2_2⟩ = R := ⟨_, rfl⟩
  have HRS1 := Lib.hid hRS1
  clear hRS1
  obtain ⟨RS2, hRS2⟩ : ∃ R : Int, codeBound ⟨rn0, l0a, l0b⟩ l1 ⟨ag2_0, ag2_1, ag2_2⟩ = R := ⟨_, rfl⟩
  have HRS2 := Lib.hid hRS2
  clear hRS2
  have HW := Later.refl w
  obtain ⟨_, sx0a, cap0a, rfl, hcap0a, hmax0a, _⟩ := r0a
  obtain ⟨_, sx0b, cap0b, rfl, hcap0b, hmax0b, _⟩ := r0b
  obtain ⟨_, sx1, cap1, rfl, hcap1, hmax1, _⟩ := r1
  go_enter Tryz.func3, Tryz.ntmps3
  have hs : szR ((1048576 : Int)) l0a.length l0b.length = (1048576 : Int) - (l0a.length : Int) - (l0b.length : Int) := szR_ok (by omega)
  have HS := Lib.hid hs
  clear hs
  go_wp2_with fail
  refine (w_szRule _ _ _ _ _ _ _ _ (by omega) (by omega) (by omega) (by omega) _).mono ?_
  rintro e u4 ⟨rfl, hL4⟩
  rw [HS.out]
  clear HS
  obtain ⟨hk0, hk1⟩ := kept2 hL4
  have KB0 := Lib.hid hk0
  have KB2 := Lib.hid hk1
  clear hk0 hk1
  replace hL4 := (((Later.refl _).alloc _).alloc _).trans hL4
  replace HW := HW.trans hL4
  clear hL4
  have hs : (if (1048576 : Int) - (l0a.length : Int) - (l0b.length : Int) < (l1.length : Int) then (-1 : Int) else (1048576 : Int) - (l0a.length : Int) - (l0b.length : Int) - (l1.length : Int)) = (1048576 : Int) - (l0a.length : Int) - (l0b.length : Int) - (l1.length : Int) := if_neg (by omega)
  have HS := Lib.hid hs
  clear hs
  go_wp2_with fail
  refine (w_szTermS _ _ _ _ (by omega) (by omega) (by omega) _).mono ?_
  rintro e w' ⟨rfl, rfl⟩
  rw [HS.out]
  clear HS
  go_wp2_with fail
  refine region_slots 148 [33, 34, 35, 36, 37, 38, 39, 32, 40, 41, 42, 8, 9, 10] (fun g ac wc => ∃ xR : Value, sl ac 3 = .pointer (some ⟨w.heap.size, 0, none⟩) ∧
    sl ac 1 = .slice sx1 l1.length cap1 ∧
    sl ac 5 = .pointer (some ⟨w.heap.size + 1, 0, none⟩) ∧
    (g 0 = true → sl ac 33 = .agg #[.int .i64 rn0, .slice sx0a l0a.length cap0a, .slice sx0b l0b.length cap0b]) ∧
    (g 1 = true → ∃ z34_0 z34_1 : Value, sl ac 34 = .agg #[.int .i64 rn0, z34_0, z34_1] ∧ (g 6 = false → wc.ownsRow u4.heap.size 2 1 z34_0 (l0a.length) (nums l0a) ∧ wc.ownsRow u4.heap.size 2 1 z34_1 (l0b.length) (nums l0b))) ∧
    (g 2 = true → sl ac 35 = .slice sx1 l1.length cap1) ∧
    (g 3 = true → ∃ z36_0 : Value, sl ac 36 = z36_0 ∧ (g 6 = false → wc.ownsRow u4.heap.size 64 3 z36_0 (l1.length) (trms l1))) ∧
    (g 4 = true → sl ac 37 = .agg #[.int .i64 ag2_0, .int .i64 ag2_1, .int .i64 ag2_2]) ∧
    (g 5 = true → sl ac 38 = .agg #[.int .i64 ag2_0, .int .i64 ag2_1, .int .i64 ag2_2]) ∧
    (g 6 = true → sl ac 39 = .tuple #[xR, .int .i64 RS1, .int .i64 RS2]) ∧
    (g 7 = true → sl ac 32 = .tuple #[xR, .int .i64 RS1, .int .i64 RS2]) ∧
    (g 8 = true → sl ac 40 = xR) ∧
    (g 9 = true → sl ac 41 = .int .i64 RS1) ∧
    (g 10 = true → sl ac 42 = .int .i64 RS2) ∧
    (g 11 = true → sl ac 8 = xR) ∧
    (g 12 = true → sl ac 9 = .int .i64 RS1) ∧
    (g 13 = true → sl ac 10 = .int .i64 RS2) ∧
    Later u4 wc ∧
    (g 7 = true → g 6 = true) ∧
    (g 8 = true → g 6 = true) ∧
    (g 9 = true → g 6 = true) ∧
    (g 10 = true → g 6 = true) ∧
    (g 11 = true → g 6 = true) ∧
    (g 12 = true → g 6 = true) ∧
    (g 13 = true → g 6 = true) ∧
    u4.heap.size ≤ wc.heap.size ∧
    (g 6 = true → wc.ownsRow u4.heap.size 2 1 xR RS0.length (nums RS0))) (by kernel_rfl) (by kernel_rfl) rfl (by kernel_rfl) ?_ ?_ ?_
  · exact ⟨undef, rfl, rfl, rfl, nofun, nofun, nofun, nofun, nofun, nofun, nofun, nofun, nofun, nofun, nofun, nofun, nofun, nofun, (Later.refl _).drew, nofun, nofun, nofun, nofun, nofun, nofun, nofun, Nat.le_refl _, nofun⟩
  · intro g ac ur hg ha hI
    obtain ⟨xR, x3, x1, x5, i0, i1, i2, i3, i4, i5, i6, i7, i8, i9, i10, i11, i12, i13, hL, -, -, -, -, -, -, -, hS, OW⟩ := hI
    replace OW := OW (hg 6 (by simp))
    have a0 := i0 (hg 0 (by simp))
    obtain ⟨z34_0, z34_1, a1, -⟩ := i1 (hg 1 (by simp))
    have a2 := i2 (hg 2 (by simp))
    obtain ⟨z36_0, a3, -⟩ := i3 (hg 3 (by simp))
    have a4 := i4 (hg 4 (by simp))
    have a5 := i5 (hg 5 (by simp))
    have a6 := i6 (hg 6 (by simp))
    have a7 := i7 (hg 7 (by simp))
    have a8 := i8 (hg 8 (by simp))
    have a9 := i9 (hg 9 (by simp))
    have a10 := i10 (hg 10 (by simp))
    have a11 := i11 (hg 11 (by simp))
    have a12 := i12 (hg 12 (by simp))
    have a13 := i13 (hg 13 (by simp))
    simp only [putAll, a0, a1, a2, a3, a4, a5, a6, a7, a8, a9, a10, a11, a12, a13] at ha
    simp only [Act.put, List.setIfInBounds_toArray, List.set_cons_succ, List.set_cons_zero] at ha
    rw [ha]
    clear x3 x1 x5 i0 i1 i2 i3 i4 i5 i6 i7 i8 i9 i10 i11 i12 i13 a0 a1 a2 a3 a4 a5 a6 a7 a8 a9 a10 a11 a12 a13 hg ha
    obtain ⟨y6_0, q6_0, e5⟩ := isSl_of OW
    subst e5
    have hBy6_0 := (HW).size
    have Oy6_0 := Lib.hid OW
    clear OW
    replace KB0 := Lib.hid (hL.keep KB0.out)
    replace KB2 := Lib.hid (hL.keep KB2.out)
    replace HW := HW.trans hL
    clear hL hS
    obtain ⟨cB0, fB0, zB0⟩ := blk_at KB0.out
    go_wp2_with fail
    refine (w_toRuleA _ _ _ _ _ _ (R0a.out.later HW) (R0b.out.later HW)).mono ?_
    rintro e u7 ⟨y7_0, q7_0, y7_1, q7_1, rfl, hL7, ho0, ho1, hap⟩
    clear cB0 fB0 zB0
    have Ay7_0_y6_0 := Lib.hid (own_apart Oy6_0.out ho0 (Nat.le_refl _))
    have Ay6_0_y7_0 := Lib.hid (own_apart' Oy6_0.out ho0 (Nat.le_refl _))
    have hBy7_0 := (HW).size
    have Ay7_1_y6_0 := Lib.hid (own_apart Oy6_0.out ho1 (Nat.le_refl _))
    have Ay6_0_y7_1 := Lib.hid (own_apart' Oy6_0.out ho1 (Nat.le_refl _))
    have hBy7_1 := (HW).size
    have Ay7_1_y7_0 := Lib.hid hap
    clear hap
    replace KB0 := Lib.hid (hL7.keep KB0.out)
    replace KB2 := Lib.hid (hL7.keep KB2.out)
    replace Oy6_0 := Lib.hid (owns_later Oy6_0.out hL7)
    replace HW := HW.trans hL7
    clear hL7
    have Oy7_0 := Lib.hid ho0
    clear ho0
    have Oy7_1 := Lib.hid ho1
    clear ho1
    go_wp2_with fail
    refine (w_toTermS _ _ _ (R1.out.later (HW.alloc _))).mono ?_
    rintro e u8 ⟨y8_0, rfl, hL8, ho0⟩
    have Ay8_0_y6_0 := Lib.hid (own_apart Oy6_0.out ho0 (by simp))
    have Ay6_0_y8_0 := Lib.hid (own_apart' Oy6_0.out ho0 (by simp))
    have Ay8_0_y7_0 := Lib.hid (own_apart Oy7_0.out ho0 (by simp))
    have Ay7_0_y8_0 := Lib.hid (own_apart' Oy7_0.out ho0 (by simp))
    have Ay8_0_y7_1 := Lib.hid (own_apart Oy7_1.out ho0 (by simp))
    have Ay7_1_y8_0 := Lib.hid (own_apart' Oy7_1.out ho0 (by simp))
    have hBy8_0 := ((HW.alloc (.cells #[.int .i64 rn0, .slice y7_0 l0a.length q7_0, .slice y7_1 l0b.length q7_1] 32))).size
    have KA11 := Lib.hid (kept1 hL8)
    replace hL8 := ((Later.refl _).alloc _).trans hL8
    replace KB0 := Lib.hid (hL8.keep KB0.out)
    replace KB2 := Lib.hid (hL8.keep KB2.out)
    replace Oy6_0 := Lib.hid (owns_later Oy6_0.out hL8)
    replace Oy7_0 := Lib.hid (owns_later Oy7_0.out hL8)
    replace Oy7_1 := Lib.hid (owns_later Oy7_1.out hL8)
    replace HW := HW.trans hL8
    clear hL8
    have Oy8_0 := Lib.hid ho0
    clear ho0
    go_wp2_with fail
    refine region_slots 148 [48, 49, 50, 51, 52, 47, 53, 54, 55, 13, 14, 15] (fun g ac wc => ∃ xR : Value, sl ac 11 = .pointer (some ⟨u7.heap.size, 0, none⟩) ∧
      sl ac 12 = y8_0 ∧
      sl ac 5 = .pointer (some ⟨w.heap.size + 1, 0, none⟩) ∧
      (g 0 = true → sl ac 48 = .agg #[.int .i64 rn0, .slice y7_0 l0a.length q7_0, .slice y7_1 l0b.length q7_1]) ∧
      (g 1 = true → sl ac 49 = y8_0) ∧
      (g 2 = true → sl ac 50 = .agg #[.int .i64 ag2_0, .int .i64 ag2_1, .int .i64 ag2_2]) ∧
      (g 3 = true → sl ac 51 = .agg #[.int .i64 ag2_0, .int .i64 ag2_1, .int .i64 ag2_2]) ∧
      (g 4 = true → sl ac 52 = .tuple #[xR, .int .i64 RS1, .int .i64 RS2]) ∧
      (g 5 = true → sl ac 47 = .tuple #[xR, .int .i64 RS1, .int .i64 RS2]) ∧
      (g 6 = true → sl ac 53 = xR) ∧
      (g 7 = true → sl ac 54 = .int .i64 RS1) ∧
      (g 8 = true → sl ac 55 = .int .i64 RS2) ∧
      (g 9 = true → sl ac 13 = xR) ∧
      (g 10 = true → sl ac 14 = .int .i64 RS1) ∧
      (g 11 = true → sl ac 15 = .int .i64 RS2) ∧
      Later u8 wc ∧
      (g 5 = true → g 4 = true) ∧
      (g 6 = true → g 4 = true) ∧
      (g 7 = true → g 4 = true) ∧
      (g 8 = true → g 4 = true) ∧
      (g 9 = true → g 4 = true) ∧
      (g 10 = true → g 4 = true) ∧
      (g 11 = true → g 4 = true) ∧
      u8.heap.size ≤ wc.heap.size ∧
      (g 4 = true → wc.ownsRow u8.heap.size 2 1 xR RS0.length (nums RS0))) (by kernel_rfl) (by kernel_rfl) rfl (by kernel_rfl) ?_ ?_ ?_
    · exact ⟨undef, rfl, rfl, rfl, nofun, nofun, nofun, nofun, nofun, nofun, nofun, nofun, nofun, nofun, nofun, nofun, (Later.refl _).drew, nofun, nofun, nofun, nofun, nofun, nofun, nofun, Nat.le_refl _, nofun⟩
    · intro g ac us hg ha hI
      obtain ⟨xR, x11, x12, x5, i0, i1, i2, i3, i4, i5, i6, i7, i8, i9, i10, i11, hL, -, -, -, -, -, -, -, hS, OW⟩ := hI
      replace OW := OW (hg 4 (by simp))
      have a0 := i0 (hg 0 (by simp))
      have a1 := i1 (hg 1 (by simp))
      have a2 := i2 (hg 2 (by simp))
      have a3 := i3 (hg 3 (by simp))
      have a4 := i4 (hg 4 (by simp))
      have a5 := i5 (hg 5 (by simp))
      have a6 := i6 (hg 6 (by simp))
      have a7 := i7 (hg 7 (by simp))
      have a8 := i8 (hg 8 (by simp))
      have a9 := i9 (hg 9 (by simp))
      have a10 := i10 (hg 10 (by simp))
      have a11 := i11 (hg 11 (by simp))
      simp only [putAll, a0, a1, a2, a3, a4, a5, a6, a7, a8, a9, a10, a11] at ha
      simp only [Act.put, List.setIfInBounds_toArray, List.set_cons_succ, List.set_cons_zero] at ha
      rw [ha]
      clear x11 x12 x5 i0 i1 i2 i3 i4 i5 i6 i7 i8 i9 i10 i11 a0 a1 a2 a3 a4 a5 a6 a7 a8 a9 a10 a11 hg ha
      obtain ⟨y9_0, q9_0, e5⟩ := isSl_of OW
      subst e5
      have Ay9_0_y6_0 := Lib.hid (own_apart Oy6_0.out OW (Nat.le_refl _))
      have Ay6_0_y9_0 := Lib.hid (own_apart' Oy6_0.out OW (Nat.le_refl _))
      have Ay9_0_y7_0 := Lib.hid (own_apart Oy7_0.out OW (Nat.le_refl _))
      have Ay7_0_y9_0 := Lib.hid (own_apart' Oy7_0.out OW (Nat.le_refl _))
      have Ay9_0_y7_1 := Lib.hid (own_apart Oy7_1.out OW (Nat.le_refl _))
      have Ay7_1_y9_0 := Lib.hid (own_apart' Oy7_1.out OW (Nat.le_refl _))
      have Ay9_0_y8_0 := Lib.hid (own_apart Oy8_0.out OW (Nat.le_refl _))
      have Ay8_0_y9_0 := Lib.hid (own_apart' Oy8_0.out OW (Nat.le_refl _))
      have hBy9_0 := (HW).size
      have Oy9_0 := Lib.hid OW
      clear OW
      replace KB0 := Lib.hid (hL.keep KB0.out)
      replace KB2 := Lib.hid (hL.keep KB2.out)
      replace KA11 := Lib.hid (hL.keep KA11.out)
      replace Oy6_0 := Lib.hid (owns_later Oy6_0.out hL)
      replace Oy7_0 := Lib.hid (owns_later Oy7_0.out hL)
      replace Oy7_1 := Lib.hid (owns_later Oy7_1.out hL)
      replace Oy8_0 := Lib.hid (owns_later Oy8_0.out hL)
      replace HW := HW.trans hL
      clear hL hS
      go_wp2_with fail
      refine (w_eqInt64S _ _ _ _ _ (reads_of_owns Oy9_0.out (by omega)) (reads_of_owns Oy6_0.out (by omega))).mono ?_
      rintro e u10 ⟨rfl, hL10⟩
      replace KB0 := Lib.hid (hL10.keep KB0.out)
      replace KB2 := Lib.hid (hL10.keep KB2.out)
      replace KA11 := Lib.hid (hL10.keep KA11.out)
      replace Oy6_0 := Lib.hid (owns_later Oy6_0.out hL10)
      replace Oy7_0 := Lib.hid (owns_later Oy7_0.out hL10)
      replace Oy7_1 := Lib.hid (owns_later Oy7_1.out hL10)
      replace Oy8_0 := Lib.hid (owns_later Oy8_0.out hL10)
      replace Oy9_0 := Lib.hid (owns_later Oy9_0.out hL10)
      replace HW := HW.trans hL10
      clear hL10
      go_wp2_with fail
      refine region_slots 148 [70, 71, 72, 73, 74] (fun g ac wc => sl ac 11 = .pointer (some ⟨u7.heap.size, 0, none⟩) ∧
        sl ac 3 = .pointer (some ⟨w.heap.size, 0, none⟩) ∧
        (g 0 = true → sl ac 70 = .agg #[.int .i64 rn0, .slice y7_0 l0a.length q7_0, .slice y7_1 l0b.length q7_1]) ∧
        (g 1 = true → sl ac 71 = .agg #[.int .i64 rn0, .slice sx0a l0a.length cap0a, .slice sx0b l0b.length cap0b]) ∧
        (g 2 = true → ∃ z72_0 z72_1 : Value, sl ac 72 = .agg #[.int .i64 rn0, z72_0, z72_1] ∧ (g 3 = false → wc.ownsRow u10.heap.size 2 1 z72_0 (l0a.length) (nums l0a) ∧ wc.ownsRow u10.heap.size 2 1 z72_1 (l0b.length) (nums l0b))) ∧
        (g 3 = true → sl ac 73 = .bool true) ∧
        (g 4 = true → sl ac 74 = .bool false) ∧
        Later u10 wc ∧
        (g 4 = true → g 3 = true) ∧
        u10.heap.size ≤ wc.heap.size) (by kernel_rfl) (by kernel_rfl) rfl (by kernel_rfl) ?_ ?_ ?_
      · exact ⟨rfl, rfl, nofun, nofun, nofun, nofun, nofun, (Later.refl _).drew, nofun, Nat.le_refl _⟩
      · intro g ac ut hg ha hI
        obtain ⟨x11, x3, i0, i1, i2, i3, i4, hL, -, hS⟩ := hI
        have a0 := i0 (hg 0 (by simp))
        have a1 := i1 (hg 1 (by simp))
        obtain ⟨z72_0, z72_1, a2, -⟩ := i2 (hg 2 (by simp))
        have a3 := i3 (hg 3 (by simp))
        have a4 := i4 (hg 4 (by simp))
        simp only [putAll, a0, a1, a2, a3, a4] at ha
        simp only [Act.put, List.setIfInBounds_toArray, List.set_cons_succ, List.set_cons_zero] at ha
        rw [ha]
        clear x11 x3 i0 i1 i2 i3 i4 a0 a1 a2 a3 a4 hg ha
        replace KB0 := Lib.hid (hL.keep KB0.out)
        replace KB2 := Lib.hid (hL.keep KB2.out)
        replace KA11 := Lib.hid (hL.keep KA11.out)
        replace Oy6_0 := Lib.hid (owns_later Oy6_0.out hL)
        replace Oy7_0 := Lib.hid (owns_later Oy7_0.out hL)
        replace Oy7_1 := Lib.hid (owns_later Oy7_1.out hL)
        replace Oy8_0 := Lib.hid (owns_later Oy8_0.out hL)
        replace Oy9_0 := Lib.hid (owns_later Oy9_0.out hL)
        replace HW := HW.trans hL
        clear hL hS
        go_wp2_with fail
        refine (w_toTermS _ _ _ (R1.out.later HW)).mono ?_
        rintro e u11 ⟨y11_0, rfl, hL11, ho0⟩
        have Ay11_0_y6_0 := Lib.hid (own_apart Oy6_0.out ho0 (Nat.le_refl _))
        have Ay6_0_y11_0 := Lib.hid (own_apart' Oy6_0.out ho0 (Nat.le_refl _))
        have Ay11_0_y7_0 := Lib.hid (own_apart Oy7_0.out ho0 (Nat.le_refl _))
        have Ay7_0_y11_0 := Lib.hid (own_apart' Oy7_0.out ho0 (Nat.le_refl _))
        have Ay11_0_y7_1 := Lib.hid (own_apart Oy7_1.out ho0 (Nat.le_refl _))
        have Ay7_1_y11_0 := Lib.hid (own_apart' Oy7_1.out ho0 (Nat.le_refl _))
        have Ay11_0_y8_0 := Lib.hid (own_apart Oy8_0.out ho0 (Nat.le_refl _))
        have Ay8_0_y11_0 := Lib.hid (own_apart' Oy8_0.out ho0 (Nat.le_refl _))
        have Ay11_0_y9_0 := Lib.hid (own_apart Oy9_0.out ho0 (Nat.le_refl _))
        have Ay9_0_y11_0 := Lib.hid (own_apart' Oy9_0.out ho0 (Nat.le_refl _))
        have hBy11_0 := (HW).size
        replace KB0 := Lib.hid (hL11.keep KB0.out)
        replace KB2 := Lib.hid (hL11.keep KB2.out)
        replace KA11 := Lib.hid (hL11.keep KA11.out)
        replace Oy6_0 := Lib.hid (owns_later Oy6_0.out hL11)
        replace Oy7_0 := Lib.hid (owns_later Oy7_0.out hL11)
        replace Oy7_1 := Lib.hid (owns_later Oy7_1.out hL11)
        replace Oy8_0 := Lib.hid (owns_later Oy8_0.out hL11)
        replace Oy9_0 := Lib.hid (owns_later Oy9_0.out hL11)
        replace HW := HW.trans hL11
        clear hL11
        have Oy11_0 := Lib.hid ho0
        clear ho0
        go_wp2_with fail
        refine (w_eqTermS _ _ _ _ _ (reads_of_owns Oy8_0.out (by omega)) (reads_of_owns Oy11_0.out (by omega))).mono ?_
        rintro e u12 ⟨rfl, hL12⟩
        replace KB0 := Lib.hid (hL12.keep KB0.out)
        replace KB2 := Lib.hid (hL12.keep KB2.out)
        replace KA11 := Lib.hid (hL12.keep KA11.out)
        replace Oy6_0 := Lib.hid (owns_later Oy6_0.out hL12)
        replace Oy7_0 := Lib.hid (owns_later Oy7_0.out hL12)
        replace Oy7_1 := Lib.hid (owns_later Oy7_1.out hL12)
        replace Oy8_0 := Lib.hid (owns_later Oy8_0.out hL12)
        replace Oy9_0 := Lib.hid (owns_later Oy9_0.out hL12)
        replace Oy11_0 := Lib.hid (owns_later Oy11_0.out hL12)
        replace HW := HW.trans hL12
        clear hL12
        clear Oy11_0
        clear hBy11_0
        clear Ay11_0_y6_0
        clear Ay6_0_y11_0
        clear Ay11_0_y7_0
        clear Ay7_0_y11_0
        clear Ay11_0_y7_1
        clear Ay7_1_y11_0
        clear Ay11_0_y8_0
        clear Ay8_0_y11_0
        clear Ay11_0_y9_0
        clear Ay9_0_y11_0
        obtain ⟨cA11, fA11, zA11⟩ := blk_at KA11.out
        go_wp2_with fail
        refine (w_markRule _ _ _ _ _ _ _ _ _ _ _ (by omega) (by omega) (by omega) (by omega) _ Oy7_0.out Oy7_1.out Ay7_1_y7_0.out).mono ?_
        rintro e u13 ⟨rfl, hg⟩
        clear cA11 fA11 zA11
        replace KB0 := Lib.hid (hg.keep KB0.out (own_ne_type Oy7_0.out KB0.out (by decide)) (own_ne_type Oy7_1.out KB0.out (by decide)))
        replace KB2 := Lib.hid (hg.keep KB2.out (own_ne_type Oy7_0.out KB2.out (by decide)) (own_ne_type Oy7_1.out KB2.out (by decide)))
        replace KA11 := Lib.hid (hg.keep KA11.out (own_ne_type Oy7_0.out KA11.out (by decide)) (own_ne_type Oy7_1.out KA11.out (by decide)))
        have Ty6_0 := hg.owns Oy6_0.out Ay6_0_y7_0.out Ay6_0_y7_1.out
        have Ty8_0 := hg.owns Oy8_0.out Ay8_0_y7_0.out Ay8_0_y7_1.out
        have Ty9_0 := hg.owns Oy9_0.out Ay9_0_y7_0.out Ay9_0_y7_1.out
        replace HW := hg.later HW (fun j e => Nat.le_trans hBy7_0 (Oy7_0.out.lt j e).1) (fun j e => Nat.le_trans hBy7_1 (Oy7_1.out.lt j e).1)
        replace Oy6_0 := Lib.hid Ty6_0
        clear Ty6_0
        replace Oy8_0 := Lib.hid Ty8_0
        clear Ty8_0
        replace Oy9_0 := Lib.hid Ty9_0
        clear Ty9_0
        clear hg
        clear Oy7_0
        clear hBy7_0
        clear Ay7_0_y6_0
        clear Ay6_0_y7_0
        clear Ay7_1_y7_0
        clear Ay8_0_y7_0
        clear Ay7_0_y8_0
        clear Ay9_0_y7_0
        clear Ay7_0_y9_0
        clear Oy7_1
        clear hBy7_1
        clear Ay7_1_y6_0
        clear Ay6_0_y7_1
        clear Ay8_0_y7_1
        clear Ay7_1_y8_0
        clear Ay9_0_y7_1
        clear Ay7_1_y9_0
        go_wp2_with fail
        refine (w_markTermS _ _ _ _ _ (by omega) (by omega) (by omega) _ Oy8_0.out).mono ?_
        rintro e u14 ⟨rfl, ho, hg⟩
        replace KB0 := Lib.hid (grown_keepR hg KB0.out (own_ne_type Oy8_0.out KB0.out (by decide)))
        replace KB2 := Lib.hid (grown_keepR hg KB2.out (own_ne_type Oy8_0.out KB2.out (by decide)))
        replace KA11 := Lib.hid (grown_keepR hg KA11.out (own_ne_type Oy8_0.out KA11.out (by decide)))
        replace Oy6_0 := Lib.hid (Oy6_0.out.kept hg Ay6_0_y8_0.out)
        replace Oy9_0 := Lib.hid (Oy9_0.out.kept hg Ay9_0_y8_0.out)
        replace HW := HW.own hBy8_0 Oy8_0.out hg
        replace Oy8_0 := Lib.hid ho
        clear ho hg
        clear Oy8_0
        clear hBy8_0
        clear Ay8_0_y6_0
        clear Ay6_0_y8_0
        clear Ay9_0_y8_0
        clear Ay8_0_y9_0
        go_wp2_with fail
        refine (w_eqInt64S _ _ _ _ _ (reads_of_owns Oy9_0.out (by omega)) (reads_of_owns Oy6_0.out (by omega))).mono ?_
        rintro e u15 ⟨rfl, hL15⟩
        replace KB0 := Lib.hid (hL15.keep KB0.out)
        replace KB2 := Lib.hid (hL15.keep KB2.out)
        replace KA11 := Lib.hid (hL15.keep KA11.out)
        replace Oy6_0 := Lib.hid (owns_later Oy6_0.out hL15)
        replace Oy9_0 := Lib.hid (owns_later Oy9_0.out hL15)
        replace HW := HW.trans hL15
        clear hL15
        go_wp2_with fail
        refine (w_markInt64S _ _ _ _ _ (by omega) (by omega) (by omega) _ Oy9_0.out).mono ?_
        rintro e u16 ⟨rfl, ho, hg⟩
        replace KB0 := Lib.hid (grown_keepR hg KB0.out (own_ne_type Oy9_0.out KB0.out (by decide)))
        replace KB2 := Lib.hid (grown_keepR hg KB2.out (own_ne_type Oy9_0.out KB2.out (by decide)))
        replace KA11 := Lib.hid (grown_keepR hg KA11.out (own_ne_type Oy9_0.out KA11.out (by decide)))
        replace Oy6_0 := Lib.hid (Oy6_0.out.kept hg Ay6_0_y9_0.out)
        replace HW := HW.own hBy9_0 Oy9_0.out hg
        replace Oy9_0 := Lib.hid ho
        clear ho hg
        go_wp2_with fail
        refine (w_heldInt64S _ _ _ (by omega) (by omega) _ (reads_of_owns Oy9_0.out (by omega))).mono ?_
        rintro e w' ⟨rfl, rfl⟩
        go_wp2_with fail
        refine region_slots 148 [116, 117, 118, 119, 120, 121, 122, 115, 123, 124, 125, 19, 20, 21] (fun g ac wc => ∃ xR : Value, sl ac 3 = .pointer (some ⟨w.heap.size, 0, none⟩) ∧
          sl ac 1 = .slice sx1 l1.length cap1 ∧
          sl ac 5 = .pointer (some ⟨w.heap.size + 1, 0, none⟩) ∧
          (g 0 = true → sl ac 116 = .agg #[.int .i64 rn0, .slice sx0a l0a.length cap0a, .slice sx0b l0b.length cap0b]) ∧
          (g 1 = true → ∃ z117_0 z117_1 : Value, sl ac 117 = .agg #[.int .i64 rn0, z117_0, z117_1] ∧ (g 6 = false → wc.ownsRow u16.heap.size 2 1 z117_0 (l0a.length) (nums l0a) ∧ wc.ownsRow u16.heap.size 2 1 z117_1 (l0b.length) (nums l0b))) ∧
          (g 2 = true → sl ac 118 = .slice sx1 l1.length cap1) ∧
          (g 3 = true → ∃ z119_0 : Value, sl ac 119 = z119_0 ∧ (g 6 = false → wc.ownsRow u16.heap.size 64 3 z119_0 (l1.length) (trms l1))) ∧
          (g 4 = true → sl ac 120 = .agg #[.int .i64 ag2_0, .int .i64 ag2_1, .int .i64 ag2_2]) ∧
          (g 5 = true → sl ac 121 = .agg #[.int .i64 ag2_0, .int .i64 ag2_1, .int .i64 ag2_2]) ∧
          (g 6 = true → sl ac 122 = .tuple #[xR, .int .i64 RS1, .int .i64 RS2]) ∧
          (g 7 = true → sl ac 115 = .tuple #[xR, .int .i64 RS1, .int .i64 RS2]) ∧
          (g 8 = true → sl ac 123 = xR) ∧
          (g 9 = true → sl ac 124 = .int .i64 RS1) ∧
          (g 10 = true → sl ac 125 = .int .i64 RS2) ∧
          (g 11 = true → sl ac 19 = xR) ∧
          (g 12 = true → sl ac 20 = .int .i64 RS1) ∧
          (g 13 = true → sl ac 21 = .int .i64 RS2) ∧
          Later u16 wc ∧
          (g 7 = true → g 6 = true) ∧
          (g 8 = true → g 6 = true) ∧
          (g 9 = true → g 6 = true) ∧
          (g 10 = true → g 6 = true) ∧
          (g 11 = true → g 6 = true) ∧
          (g 12 = true → g 6 = true) ∧
          (g 13 = true → g 6 = true) ∧
          u16.heap.size ≤ wc.heap.size ∧
          (g 6 = true → wc.ownsRow u16.heap.size 2 1 xR RS0.length (nums RS0))) (by kernel_rfl) (by kernel_rfl) rfl (by kernel_rfl) ?_ ?_ ?_
        · exact ⟨undef, rfl, rfl, rfl, nofun, nofun, nofun, nofun, nofun, nofun, nofun, nofun, nofun, nofun, nofun, nofun, nofun, nofun, (Later.refl _).drew, nofun, nofun, nofun, nofun, nofun, nofun, nofun, Nat.le_refl _, nofun⟩
        · intro g ac ur4 hg ha hI
          obtain ⟨xR, x3, x1, x5, i0, i1, i2, i3, i4, i5, i6, i7, i8, i9, i10, i11, i12, i13, hL, -, -, -, -, -, -, -, hS, OW⟩ := hI
          replace OW := OW (hg 6 (by simp))
          have a0 := i0 (hg 0 (by simp))
          obtain ⟨z117_0, z117_1, a1, -⟩ := i1 (hg 1 (by simp))
          have a2 := i2 (hg 2 (by simp))
          obtain ⟨z119_0, a3, -⟩ := i3 (hg 3 (by simp))
          have a4 := i4 (hg 4 (by simp))
          have a5 := i5 (hg 5 (by simp))
          have a6 := i6 (hg 6 (by simp))
          have a7 := i7 (hg 7 (by simp))
          have a8 := i8 (hg 8 (by simp))
          have a9 := i9 (hg 9 (by simp))
          have a10 := i10 (hg 10 (by simp))
          have a11 := i11 (hg 11 (by simp))
          have a12 := i12 (hg 12 (by simp))
          have a13 := i13 (hg 13 (by simp))
          simp only [putAll, a0, a1, a2, a3, a4, a5, a6, a7, a8, a9, a10, a11, a12, a13] at ha
          simp only [Act.put, List.setIfInBounds_toArray, List.set_cons_succ, List.set_cons_zero] at ha
          rw [ha]
          clear x3 x1 x5 i0 i1 i2 i3 i4 i5 i6 i7 i8 i9 i10 i11 i12 i13 a0 a1 a2 a3 a4 a5 a6 a7 a8 a9 a10 a11 a12 a13 hg ha
          obtain ⟨y18_0, q18_0, e5⟩ := isSl_of OW
          subst e5
          have Ay18_0_y6_0 := Lib.hid (own_apart Oy6_0.out OW (Nat.le_refl _))
          have Ay6_0_y18_0 := Lib.hid (own_apart' Oy6_0.out OW (Nat.le_refl _))
          have Ay18_0_y9_0 := Lib.hid (own_apart Oy9_0.out OW (Nat.le_refl _))
          have Ay9_0_y18_0 := Lib.hid (own_apart' Oy9_0.out OW (Nat.le_refl _))
          have hBy18_0 := (HW).size
          have Oy18_0 := Lib.hid OW
          clear OW
          replace KB0 := Lib.hid (hL.keep KB0.out)
          replace KB2 := Lib.hid (hL.keep KB2.out)
          replace KA11 := Lib.hid (hL.keep KA11.out)
          replace Oy6_0 := Lib.hid (owns_later Oy6_0.out hL)
          replace Oy9_0 := Lib.hid (owns_later Oy9_0.out hL)
          replace HW := HW.trans hL
          clear hL hS
          go_wp2_with fail
          refine (w_eqInt64S _ _ _ _ _ (reads_of_owns Oy18_0.out (by omega)) (reads_of_owns Oy6_0.out (by omega))).mono ?_
          rintro e u19 ⟨rfl, hL19⟩
          replace KB0 := Lib.hid (hL19.keep KB0.out)
          replace KB2 := Lib.hid (hL19.keep KB2.out)
          replace KA11 := Lib.hid (hL19.keep KA11.out)
          replace Oy6_0 := Lib.hid (owns_later Oy6_0.out hL19)
          replace Oy9_0 := Lib.hid (owns_later Oy9_0.out hL19)
          replace Oy18_0 := Lib.hid (owns_later Oy18_0.out hL19)
          replace HW := HW.trans hL19
          clear hL19
          go_wp2_with fail
          refine (w_heldInt64S _ _ _ (by omega) (by omega) _ (reads_of_owns Oy9_0.out (by omega))).mono ?_
          rintro e w' ⟨rfl, rfl⟩
          go_wp2
          go_ret
          exact ⟨rfl, HW⟩
        · refine .cons ?_ (.cons ?_ (.cons ?_ (.cons ?_ (.cons ?_ (.cons ?_ (.cons ?_ (.cons ?_ (.cons ?_ (.cons ?_ (.cons ?_ (.cons ?_ (.cons ?_ (.cons ?_ .nil)))))))))))))
          · unfold SlotStep
            intro g ac wc hn hk hr hI K' hK
            obtain ⟨xR, x3, x1, x5, i0, i1, i2, i3, i4, i5, i6, i7, i8, i9, i10, i11, i12, i13, hL, m7_6, m8_6, m9_6, m10_6, m11_6, m12_6, m13_6, hS, OW⟩ := hI
            simp only [Region.binds] at hr
            simp at hr
            replace hK := Lib.hid hK
            replace i0 := Lib.hid i0
            replace i1 := Lib.hid i1
            replace i2 := Lib.hid i2
            replace i3 := Lib.hid i3
            replace i4 := Lib.hid i4
            replace i5 := Lib.hid i5
            replace i6 := Lib.hid i6
            replace i7 := Lib.hid i7
            replace i8 := Lib.hid i8
            replace i9 := Lib.hid i9
            replace i10 := Lib.hid i10
            replace i11 := Lib.hid i11
            replace i12 := Lib.hid i12
            replace i13 := Lib.hid i13
            have cb := (blk_at (hL.keep KB0.out)).1
            have fb := (blk_at (hL.keep KB0.out)).2.1
            have zb := (blk_at (hL.keep KB0.out)).2.2
            go_simp
            exact hK.out _ _ ⟨xR, (kpB x3), (kpB x1), (kpB x5), (fun _ => put_eq (by omega)), (fun j => by obtain ⟨z117_0, z117_1, e0, ff⟩ := i1.out j; exact ⟨z117_0, z117_1, (put_ne (by decide)).trans e0, fun hu => ⟨(ff hu).1, (ff hu).2⟩⟩), (kpF i2.out), (fun j => by obtain ⟨z119_0, e0, ff⟩ := i3.out j; exact ⟨z119_0, (put_ne (by decide)).trans e0, fun hu => ff hu⟩), (kpF i4.out), (kpF i5.out), (kpF i6.out), (kpF i7.out), (kpF i8.out), (kpF i9.out), (kpF i10.out), (kpF i11.out), (kpF i12.out), (kpF i13.out), hL, m7_6, m8_6, m9_6, m10_6, m11_6, m12_6, m13_6, hS, OW⟩
          · unfold SlotStep
            intro g ac wc hn hk hr hI K' hK
            obtain ⟨xR, x3, x1, x5, i0, i1, i2, i3, i4, i5, i6, i7, i8, i9, i10, i11, i12, i13, hL, m7_6, m8_6, m9_6, m10_6, m11_6, m12_6, m13_6, hS, OW⟩ := hI
            simp only [Region.binds] at hr
            simp at hr
            replace hK := Lib.hid hK
            have y0 := i0 (by simp [hr])
            replace i0 := Lib.hid i0
            replace i1 := Lib.hid i1
            replace i2 := Lib.hid i2
            replace i3 := Lib.hid i3
            replace i4 := Lib.hid i4
            replace i5 := Lib.hid i5
            replace i6 := Lib.hid i6
            replace i7 := Lib.hid i7
            replace i8 := Lib.hid i8
            replace i9 := Lib.hid i9
            replace i10 := Lib.hid i10
            replace i11 := Lib.hid i11
            replace i12 := Lib.hid i12
            replace i13 := Lib.hid i13
            go_simp
            refine (w_toRule _ _ _ _ _ _ (R0a.out.later (HW.trans hL)) (R0b.out.later (HW.trans hL))).mono ?_
            rintro e w4 ⟨z117_0, z117_1, rfl, hL4, ho0, ho1⟩
            exact hK.out _ _ ⟨xR, (kpB x3), (kpB x1), (kpB x5), (kpF i0.out), (fun _ => ⟨z117_0, z117_1, put_eq (by omega), fun _ => ⟨owns_base ho0 hS, owns_base ho1 hS⟩⟩), (kpF i2.out), (fun j => by obtain ⟨z119_0, e0, ff⟩ := i3.out j; exact ⟨z119_0, (put_ne (by decide)).trans e0, fun hu => owns_later (ff hu) (hL4)⟩), (kpF i4.out), (kpF i5.out), (kpF i6.out), (kpF i7.out), (kpF i8.out), (kpF i9.out), (kpF i10.out), (kpF i11.out), (kpF i12.out), (kpF i13.out), hL.trans hL4, m7_6, m8_6, m9_6, m10_6, m11_6, m12_6, m13_6, Nat.le_trans hS hL4.size, (fun h => owns_later (OW h) (hL4))⟩
          · unfold SlotStep
            intro g ac wc hn hk hr hI K' hK
            obtain ⟨xR, x3, x1, x5, i0, i1, i2, i3, i4, i5, i6, i7, i8, i9, i10, i11, i12, i13, hL, m7_6, m8_6, m9_6, m10_6, m11_6, m12_6, m13_6, hS, OW⟩ := hI
            simp only [Region.binds] at hr
            simp at hr
            replace hK := Lib.hid hK
            replace i0 := Lib.hid i0
            replace i1 := Lib.hid i1
            replace i2 := Lib.hid i2
            replace i3 := Lib.hid i3
            replace i4 := Lib.hid i4
            replace i5 := Lib.hid i5
            replace i6 := Lib.hid i6
            replace i7 := Lib.hid i7
            replace i8 := Lib.hid i8
            replace i9 := Lib.hid i9
            replace i10 := Lib.hid i10
            replace i11 := Lib.hid i11
            replace i12 := Lib.hid i12
            replace i13 := Lib.hid i13
            go_simp
            exact hK.out _ _ ⟨xR, (kpB x3), (kpB x1), (kpB x5), (kpF i0.out), (fun j => by obtain ⟨z117_0, z117_1, e0, ff⟩ := i1.out j; exact ⟨z117_0, z117_1, (put_ne (by decide)).trans e0, fun hu => ⟨(ff hu).1, (ff hu).2⟩⟩), (fun _ => put_eq (by omega)), (fun j => by obtain ⟨z119_0, e0, ff⟩ := i3.out j; exact ⟨z119_0, (put_ne (by decide)).trans e0, fun hu => ff hu⟩), (kpF i4.out), (kpF i5.out), (kpF i6.out), (kpF i7.out), (kpF i8.out), (kpF i9.out), (kpF i10.out), (kpF i11.out), (kpF i12.out), (kpF i13.out), hL, m7_6, m8_6, m9_6, m10_6, m11_6, m12_6, m13_6, hS, OW⟩
          · unfold SlotStep
            intro g ac wc hn hk hr hI K' hK
            obtain ⟨xR, x3, x1, x5, i0, i1, i2, i3, i4, i5, i6, i7, i8, i9, i10, i11, i12, i13, hL, m7_6, m8_6, m9_6, m10_6, m11_6, m12_6, m13_6, hS, OW⟩ := hI
            simp only [Region.binds] at hr
            simp at hr
            replace hK := Lib.hid hK
            have y2 := i2 (by simp [hr])
            replace i0 := Lib.hid i0
            replace i1 := Lib.hid i1
            replace i2 := Lib.hid i2
            replace i3 := Lib.hid i3
            replace i4 := Lib.hid i4
            replace i5 := Lib.hid i5
            replace i6 := Lib.hid i6
            replace i7 := Lib.hid i7
            replace i8 := Lib.hid i8
            replace i9 := Lib.hid i9
            replace i10 := Lib.hid i10
            replace i11 := Lib.hid i11
            replace i12 := Lib.hid i12
            replace i13 := Lib.hid i13
            go_simp
            refine (w_toTermS _ _ _ (R1.out.later (HW.trans hL))).mono ?_
            rintro e w4 ⟨z119_0, rfl, hL4, ho0⟩
            exact hK.out _ _ ⟨xR, (kpB x3), (kpB x1), (kpB x5), (kpF i0.out), (fun j => by obtain ⟨z117_0, z117_1, e0, ff⟩ := i1.out j; exact ⟨z117_0, z117_1, (put_ne (by decide)).trans e0, fun hu => ⟨owns_later ((ff hu).1) (hL4), owns_later ((ff hu).2) (hL4)⟩⟩), (kpF i2.out), (fun _ => ⟨z119_0, put_eq (by omega), fun _ => owns_base ho0 hS⟩), (kpF i4.out), (kpF i5.out), (kpF i6.out), (kpF i7.out), (kpF i8.out), (kpF i9.out), (kpF i10.out), (kpF i11.out), (kpF i12.out), (kpF i13.out), hL.trans hL4, m7_6, m8_6, m9_6, m10_6, m11_6, m12_6, m13_6, Nat.le_trans hS hL4.size, (fun h => owns_later (OW h) (hL4))⟩
          · unfold SlotStep
            intro g ac wc hn hk hr hI K' hK
            obtain ⟨xR, x3, x1, x5, i0, i1, i2, i3, i4, i5, i6, i7, i8, i9, i10, i11, i12, i13, hL, m7_6, m8_6, m9_6, m10_6, m11_6, m12_6, m13_6, hS, OW⟩ := hI
            simp only [Region.binds] at hr
            simp at hr
            replace hK := Lib.hid hK
            replace i0 := Lib.hid i0
            replace i1 := Lib.hid i1
            replace i2 := Lib.hid i2
            replace i3 := Lib.hid i3
            replace i4 := Lib.hid i4
            replace i5 := Lib.hid i5
            replace i6 := Lib.hid i6
            replace i7 := Lib.hid i7
            replace i8 := Lib.hid i8
            replace i9 := Lib.hid i9
            replace i10 := Lib.hid i10
            replace i11 := Lib.hid i11
            replace i12 := Lib.hid i12
            replace i13 := Lib.hid i13
            have cb := (blk_at (hL.keep KB2.out)).1
            have fb := (blk_at (hL.keep KB2.out)).2.1
            have zb := (blk_at (hL.keep KB2.out)).2.2
            go_simp
            exact hK.out _ _ ⟨xR, (kpB x3), (kpB x1), (kpB x5), (kpF i0.out), (fun j => by obtain ⟨z117_0, z117_1, e0, ff⟩ := i1.out j; exact ⟨z117_0, z117_1, (put_ne (by decide)).trans e0, fun hu => ⟨(ff hu).1, (ff hu).2⟩⟩), (kpF i2.out), (fun j => by obtain ⟨z119_0, e0, ff⟩ := i3.out j; exact ⟨z119_0, (put_ne (by decide)).trans e0, fun hu => ff hu⟩), (fun _ => put_eq (by omega)), (kpF i5.out), (kpF i6.out), (kpF i7.out), (kpF i8.out), (kpF i9.out), (kpF i10.out), (kpF i11.out), (kpF i12.out), (kpF i13.out), hL, m7_6, m8_6, m9_6, m10_6, m11_6, m12_6, m13_6, hS, OW⟩
          · unfold SlotStep
            intro g ac wc hn hk hr hI K' hK
            obtain ⟨xR, x3, x1, x5, i0, i1, i2, i3, i4, i5, i6, i7, i8, i9, i10, i11, i12, i13, hL, m7_6, m8_6, m9_6, m10_6, m11_6, m12_6, m13_6, hS, OW⟩ := hI
            simp only [Region.binds] at hr
            simp at hr
            replace hK := Lib.hid hK
            have y4 := i4 (by simp [hr])
            replace i0 := Lib.hid i0
            replace i1 := Lib.hid i1
            replace i2 := Lib.hid i2
            replace i3 := Lib.hid i3
            replace i4 := Lib.hid i4
            replace i5 := Lib.hid i5
            replace i6 := Lib.hid i6
            replace i7 := Lib.hid i7
            replace i8 := Lib.hid i8
            replace i9 := Lib.hid i9
            replace i10 := Lib.hid i10
            replace i11 := Lib.hid i11
            replace i12 := Lib.hid i12
            replace i13 := Lib.hid i13
            go_simp
            refine (w_toErrors _ _ _ _).mono ?_
            rintro e w4 ⟨rfl, hL4⟩
            exact hK.out _ _ ⟨xR, (kpB x3), (kpB x1), (kpB x5), (kpF i0.out), (fun j => by obtain ⟨z117_0, z117_1, e0, ff⟩ := i1.out j; exact ⟨z117_0, z117_1, (put_ne (by decide)).trans e0, fun hu => ⟨owns_later ((ff hu).1) (hL4), owns_later ((ff hu).2) (hL4)⟩⟩), (kpF i2.out), (fun j => by obtain ⟨z119_0, e0, ff⟩ := i3.out j; exact ⟨z119_0, (put_ne (by decide)).trans e0, fun hu => owns_later (ff hu) (hL4)⟩), (kpF i4.out), (fun _ => put_eq (by omega)), (kpF i6.out), (kpF i7.out), (kpF i8.out), (kpF i9.out), (kpF i10.out), (kpF i11.out), (kpF i12.out), (kpF i13.out), hL.trans hL4, m7_6, m8_6, m9_6, m10_6, m11_6, m12_6, m13_6, Nat.le_trans hS hL4.size, (fun h => owns_later (OW h) (hL4))⟩
          · unfold SlotStep
            intro g ac wc hn hk hr hI K' hK
            obtain ⟨xR, x3, x1, x5, i0, i1, i2, i3, i4, i5, i6, i7, i8, i9, i10, i11, i12, i13, hL, m7_6, m8_6, m9_6, m10_6, m11_6, m12_6, m13_6, hS, OW⟩ := hI
            simp only [Region.binds] at hr
            simp at hr
            replace hK := Lib.hid hK
            obtain ⟨z117_0, z117_1, y1, ff1⟩ := i1 (by simp [hr])
            replace ff1 := ff1 hk
            obtain ⟨z119_0, y3, ff3⟩ := i3 (by simp [hr])
            replace ff3 := ff3 hk
            have y5 := i5 (by simp [hr])
            replace i0 := Lib.hid i0
            replace i1 := Lib.hid i1
            replace i2 := Lib.hid i2
            replace i3 := Lib.hid i3
            replace i4 := Lib.hid i4
            replace i5 := Lib.hid i5
            replace i6 := Lib.hid i6
            replace i7 := Lib.hid i7
            replace i8 := Lib.hid i8
            replace i9 := Lib.hid i9
            replace i10 := Lib.hid i10
            replace i11 := Lib.hid i11
            replace i12 := Lib.hid i12
            replace i13 := Lib.hid i13
            go_simp
            refine (w_implBetterPlan _ _ _ _ _ _ _ _ _ _ _ (reads_of_owns ff1.1 (by omega)) (reads_of_owns ff1.2 (by omega)) (reads_of_owns ff3 (by omega))).mono ?_
            rintro e w4 ⟨aR, lR, cR, rfl, hL4, hoR⟩
            rw [HRS1.out, HRS2.out]
            exact hK.out _ _ ⟨.slice aR lR cR, (kpB x3), (kpB x1), (kpB x5), (kpF i0.out), (fun j => by obtain ⟨z117_0, z117_1, e0, -⟩ := i1.out j; exact ⟨z117_0, z117_1, (put_ne (by decide)).trans e0, fun hu => absurd hu (by simp)⟩), (kpF i2.out), (fun j => by obtain ⟨z119_0, e0, -⟩ := i3.out j; exact ⟨z119_0, (put_ne (by decide)).trans e0, fun hu => absurd hu (by simp)⟩), (kpF i4.out), (kpF i5.out), (fun _ => put_eq (by omega)), (fun h => absurd (m7_6 h) (by rw [hk]; simp)), (fun h => absurd (m8_6 h) (by rw [hk]; simp)), (kpF i9.out), (kpF i10.out), (fun h => absurd (m11_6 h) (by rw [hk]; simp)), (kpF i12.out), (kpF i13.out), hL.trans hL4, (fun _ => rfl), (fun _ => rfl), (fun _ => rfl), (fun _ => rfl), (fun _ => rfl), (fun _ => rfl), (fun _ => rfl), Nat.le_trans hS hL4.size, (fun _ => by rw [HRS0.out] at hoR; exact owns_base hoR hS)⟩
          · unfold SlotStep
            intro g ac wc hn hk hr hI K' hK
            obtain ⟨xR, x3, x1, x5, i0, i1, i2, i3, i4, i5, i6, i7, i8, i9, i10, i11, i12, i13, hL, m7_6, m8_6, m9_6, m10_6, m11_6, m12_6, m13_6, hS, OW⟩ := hI
            simp only [Region.binds] at hr
            simp at hr
            replace hK := Lib.hid hK
            have y6 := i6 (by simp [hr])
            replace i0 := Lib.hid i0
            replace i1 := Lib.hid i1
            replace i2 := Lib.hid i2
            replace i3 := Lib.hid i3
            replace i4 := Lib.hid i4
            replace i5 := Lib.hid i5
            replace i6 := Lib.hid i6
            replace i7 := Lib.hid i7
            replace i8 := Lib.hid i8
            replace i9 := Lib.hid i9
            replace i10 := Lib.hid i10
            replace i11 := Lib.hid i11
            replace i12 := Lib.hid i12
            replace i13 := Lib.hid i13
            go_simp
            exact hK.out _ _ ⟨xR, (kpB x3), (kpB x1), (kpB x5), (kpF i0.out), (fun j => by obtain ⟨z117_0, z117_1, e0, ff⟩ := i1.out j; exact ⟨z117_0, z117_1, (put_ne (by decide)).trans e0, fun hu => ⟨(ff hu).1, (ff hu).2⟩⟩), (kpF i2.out), (fun j => by obtain ⟨z119_0, e0, ff⟩ := i3.out j; exact ⟨z119_0, (put_ne (by decide)).trans e0, fun hu => ff hu⟩), (kpF i4.out), (kpF i5.out), (kpF i6.out), (fun _ => put_eq (by omega)), (kpF i8.out), (kpF i9.out), (kpF i10.out), (kpF i11.out), (kpF i12.out), (kpF i13.out), hL, (fun _ => by first | exact hr | exact hr.1 | exact hr.2 | exact hr.2.1 | exact hr.2.2 | simp [hr]), m8_6, m9_6, m10_6, m11_6, m12_6, m13_6, hS, OW⟩
          · unfold SlotStep
            intro g ac wc hn hk hr hI K' hK
            obtain ⟨xR, x3, x1, x5, i0, i1, i2, i3, i4, i5, i6, i7, i8, i9, i10, i11, i12, i13, hL, m7_6, m8_6, m9_6, m10_6, m11_6, m12_6, m13_6, hS, OW⟩ := hI
            simp only [Region.binds] at hr
            simp at hr
            replace hK := Lib.hid hK
            have y7 := i7 (by simp [hr])
            replace i0 := Lib.hid i0
            replace i1 := Lib.hid i1
            replace i2 := Lib.hid i2
            replace i3 := Lib.hid i3
            replace i4 := Lib.hid i4
            replace i5 := Lib.hid i5
            replace i6 := Lib.hid i6
            replace i7 := Lib.hid i7
            replace i8 := Lib.hid i8
            replace i9 := Lib.hid i9
            replace i10 := Lib.hid i10
            replace i11 := Lib.hid i11
            replace i12 := Lib.hid i12
            replace i13 := Lib.hid i13
            go_simp
            exact hK.out _ _ ⟨xR, (kpB x3), (kpB x1), (kpB x5), (kpF i0.out), (fun j => by obtain ⟨z117_0, z117_1, e0, ff⟩ := i1.out j; exact ⟨z117_0, z117_1, (put_ne (by decide)).trans e0, fun hu => ⟨(ff hu).1, (ff hu).2⟩⟩), (kpF i2.out), (fun j => by obtain ⟨z119_0, e0, ff⟩ := i3.out j; exact ⟨z119_0, (put_ne (by decide)).trans e0, fun hu => ff hu⟩), (kpF i4.out), (kpF i5.out), (kpF i6.out), (kpF i7.out), (fun _ => put_eq (by omega)), (kpF i9.out), (kpF i10.out), (kpF i11.out), (kpF i12.out), (kpF i13.out), hL, m7_6, (fun _ => m7_6 (by first | exact hr | exact hr.1 | exact hr.2 | exact hr.2.1 | exact hr.2.2 | simp [hr])), m9_6, m10_6, m11_6, m12_6, m13_6, hS, OW⟩
          · unfold SlotStep
            intro g ac wc hn hk hr hI K' hK
            obtain ⟨xR, x3, x1, x5, i0, i1, i2, i3, i4, i5, i6, i7, i8, i9, i10, i11, i12, i13, hL, m7_6, m8_6, m9_6, m10_6, m11_6, m12_6, m13_6, hS, OW⟩ := hI
            simp only [Region.binds] at hr
            simp at hr
            replace hK := Lib.hid hK
            have y7 := i7 (by simp [hr])
            replace i0 := Lib.hid i0
            replace i1 := Lib.hid i1
            replace i2 := Lib.hid i2
            replace i3 := Lib.hid i3
            replace i4 := Lib.hid i4
            replace i5 := Lib.hid i5
            replace i6 := Lib.hid i6
            replace i7 := Lib.hid i7
            replace i8 := Lib.hid i8
            replace i9 := Lib.hid i9
            replace i10 := Lib.hid i10
            replace i11 := Lib.hid i11
            replace i12 := Lib.hid i12
            replace i13 := Lib.hid i13
            go_simp
            exact hK.out _ _ ⟨xR, (kpB x3), (kpB x1), (kpB x5), (kpF i0.out), (fun j => by obtain ⟨z117_0, z117_1, e0, ff⟩ := i1.out j; exact ⟨z117_0, z117_1, (put_ne (by decide)).trans e0, fun hu => ⟨(ff hu).1, (ff hu).2⟩⟩), (kpF i2.out), (fun j => by obtain ⟨z119_0, e0, ff⟩ := i3.out j; exact ⟨z119_0, (put_ne (by decide)).trans e0, fun hu => ff hu⟩), (kpF i4.out), (kpF i5.out), (kpF i6.out), (kpF i7.out), (kpF i8.out), (fun _ => put_eq (by omega)), (kpF i10.out), (kpF i11.out), (kpF i12.out), (kpF i13.out), hL, m7_6, m8_6, (fun _ => m7_6 (by first | exact hr | exact hr.1 | exact hr.2 | exact hr.2.1 | exact hr.2.2 | simp [hr])), m10_6, m11_6, m12_6, m13_6, hS, OW⟩
          · unfold SlotStep
            intro g ac wc hn hk hr hI K' hK
            obtain ⟨xR, x3, x1, x5, i0, i1, i2, i3, i4, i5, i6, i7, i8, i9, i10, i11, i12, i13, hL, m7_6, m8_6, m9_6, m10_6, m11_6, m12_6, m13_6, hS, OW⟩ := hI
            simp only [Region.binds] at hr
            simp at hr
            replace hK := Lib.hid hK
            have y7 := i7 (by simp [hr])
            replace i0 := Lib.hid i0
            replace i1 := Lib.hid i1
            replace i2 := Lib.hid i2
            replace i3 := Lib.hid i3
            replace i4 := Lib.hid i4
            replace i5 := Lib.hid i5
            replace i6 := Lib.hid i6
            replace i7 := Lib.hid i7
            replace i8 := Lib.hid i8
            replace i9 := Lib.hid i9
            replace i10 := Lib.hid i10
            replace i11 := Lib.hid i11
            replace i12 := Lib.hid i12
            replace i13 := Lib.hid i13
            go_simp
            exact hK.out _ _ ⟨xR, (kpB x3), (kpB x1), (kpB x5), (kpF i0.out), (fun j => by obtain ⟨z117_0, z117_1, e0, ff⟩ := i1.out j; exact ⟨z117_0, z117_1, (put_ne (by decide)).trans e0, fun hu => ⟨(ff hu).1, (ff hu).2⟩⟩), (kpF i2.out), (fun j => by obtain ⟨z119_0, e0, ff⟩ := i3.out j; exact ⟨z119_0, (put_ne (by decide)).trans e0, fun hu => ff hu⟩), (kpF i4.out), (kpF i5.out), (kpF i6.out), (kpF i7.out), (kpF i8.out), (kpF i9.out), (fun _ => put_eq (by omega)), (kpF i11.out), (kpF i12.out), (kpF i13.out), hL, m7_6, m8_6, m9_6, (fun _ => m7_6 (by first | exact hr | exact hr.1 | exact hr.2 | exact hr.2.1 | exact hr.2.2 | simp [hr])), m11_6, m12_6, m13_6, hS, OW⟩
          · unfold SlotStep
            intro g ac wc hn hk hr hI K' hK
            obtain ⟨xR, x3, x1, x5, i0, i1, i2, i3, i4, i5, i6, i7, i8, i9, i10, i11, i12, i13, hL, m7_6, m8_6, m9_6, m10_6, m11_6, m12_6, m13_6, hS, OW⟩ := hI
            simp only [Region.binds] at hr
            simp at hr
            replace hK := Lib.hid hK
            have y8 := i8 (by simp [hr])
            replace i0 := Lib.hid i0
            replace i1 := Lib.hid i1
            replace i2 := Lib.hid i2
            replace i3 := Lib.hid i3
            replace i4 := Lib.hid i4
            replace i5 := Lib.hid i5
            replace i6 := Lib.hid i6
            replace i7 := Lib.hid i7
            replace i8 := Lib.hid i8
            replace i9 := Lib.hid i9
            replace i10 := Lib.hid i10
            replace i11 := Lib.hid i11
            replace i12 := Lib.hid i12
            replace i13 := Lib.hid i13
            go_simp
            exact hK.out _ _ ⟨xR, (kpB x3), (kpB x1), (kpB x5), (kpF i0.out), (fun j => by obtain ⟨z117_0, z117_1, e0, ff⟩ := i1.out j; exact ⟨z117_0, z117_1, (put_ne (by decide)).trans e0, fun hu => ⟨(ff hu).1, (ff hu).2⟩⟩), (kpF i2.out), (fun j => by obtain ⟨z119_0, e0, ff⟩ := i3.out j; exact ⟨z119_0, (put_ne (by decide)).trans e0, fun hu => ff hu⟩), (kpF i4.out), (kpF i5.out), (kpF i6.out), (kpF i7.out), (kpF i8.out), (kpF i9.out), (kpF i10.out), (fun _ => put_eq (by omega)), (kpF i12.out), (kpF i13.out), hL, m7_6, m8_6, m9_6, m10_6, (fun _ => m8_6 (by first | exact hr | exact hr.1 | exact hr.2 | exact hr.2.1 | exact hr.2.2 | simp [hr])), m12_6, m13_6, hS, OW⟩
          · unfold SlotStep
            intro g ac wc hn hk hr hI K' hK
            obtain ⟨xR, x3, x1, x5, i0, i1, i2, i3, i4, i5, i6, i7, i8, i9, i10, i11, i12, i13, hL, m7_6, m8_6, m9_6, m10_6, m11_6, m12_6, m13_6, hS, OW⟩ := hI
            simp only [Region.binds] at hr
            simp at hr
            replace hK := Lib.hid hK
            have y9 := i9 (by simp [hr])
            replace i0 := Lib.hid i0
            replace i1 := Lib.hid i1
            replace i2 := Lib.hid i2
            replace i3 := Lib.hid i3
            replace i4 := Lib.hid i4
            replace i5 := Lib.hid i5
            replace i6 := Lib.hid i6
            replace i7 := Lib.hid i7
            replace i8 := Lib.hid i8
            replace i9 := Lib.hid i9
            replace i10 := Lib.hid i10
            replace i11 := Lib.hid i11
            replace i12 := Lib.hid i12
            replace i13 := Lib.hid i13
            go_simp
            exact hK.out _ _ ⟨xR, (kpB x3), (kpB x1), (kpB x5), (kpF i0.out), (fun j => by obtain ⟨z117_0, z117_1, e0, ff⟩ := i1.out j; exact ⟨z117_0, z117_1, (put_ne (by decide)).trans e0, fun hu => ⟨(ff hu).1, (ff hu).2⟩⟩), (kpF i2.out), (fun j => by obtain ⟨z119_0, e0, ff⟩ := i3.out j; exact ⟨z119_0, (put_ne (by decide)).trans e0, fun hu => ff hu⟩), (kpF i4.out), (kpF i5.out), (kpF i6.out), (kpF i7.out), (kpF i8.out), (kpF i9.out), (kpF i10.out), (kpF i11.out), (fun _ => put_eq (by omega)), (kpF i13.out), hL, m7_6, m8_6, m9_6, m10_6, m11_6, (fun _ => m9_6 (by first | exact hr | exact hr.1 | exact hr.2 | exact hr.2.1 | exact hr.2.2 | simp [hr])), m13_6, hS, OW⟩
          · unfold SlotStep
            intro g ac wc hn hk hr hI K' hK
            obtain ⟨xR, x3, x1, x5, i0, i1, i2, i3, i4, i5, i6, i7, i8, i9, i10, i11, i12, i13, hL, m7_6, m8_6, m9_6, m10_6, m11_6, m12_6, m13_6, hS, OW⟩ := hI
            simp only [Region.binds] at hr
            simp at hr
            replace hK := Lib.hid hK
            have y10 := i10 (by simp [hr])
            replace i0 := Lib.hid i0
            replace i1 := Lib.hid i1
            replace i2 := Lib.hid i2
            replace i3 := Lib.hid i3
            replace i4 := Lib.hid i4
            replace i5 := Lib.hid i5
            replace i6 := Lib.hid i6
            replace i7 := Lib.hid i7
            replace i8 := Lib.hid i8
            replace i9 := Lib.hid i9
            replace i10 := Lib.hid i10
            replace i11 := Lib.hid i11
            replace i12 := Lib.hid i12
            replace i13 := Lib.hid i13
            go_simp
            exact hK.out _ _ ⟨xR, (kpB x3), (kpB x1), (kpB x5), (kpF i0.out), (fun j => by obtain ⟨z117_0, z117_1, e0, ff⟩ := i1.out j; exact ⟨z117_0, z117_1, (put_ne (by decide)).trans e0, fun hu => ⟨(ff hu).1, (ff hu).2⟩⟩), (kpF i2.out), (fun j => by obtain ⟨z119_0, e0, ff⟩ := i3.out j; exact ⟨z119_0, (put_ne (by decide)).trans e0, fun hu => ff hu⟩), (kpF i4.out), (kpF i5.out), (kpF i6.out), (kpF i7.out), (kpF i8.out), (kpF i9.out), (kpF i10.out), (kpF i11.out), (kpF i12.out), (fun _ => put_eq (by omega)), hL, m7_6, m8_6, m9_6, m10_6, m11_6, m12_6, (fun _ => m10_6 (by first | exact hr | exact hr.1 | exact hr.2 | exact hr.2.1 | exact hr.2.2 | simp [hr])), hS, OW⟩
      · refine .cons ?_ (.cons ?_ (.cons ?_ (.cons ?_ (.cons ?_ .nil))))
        · unfold SlotStep
          intro g ac wc hn hk hr hI K' hK
          obtain ⟨x11, x3, i0, i1, i2, i3, i4, hL, m4_3, hS⟩ := hI
          simp only [Region.binds] at hr
          simp at hr
          replace hK := Lib.hid hK
          replace i0 := Lib.hid i0
          replace i1 := Lib.hid i1
          replace i2 := Lib.hid i2
          replace i3 := Lib.hid i3
          replace i4 := Lib.hid i4
          have cb := (blk_at (hL.keep KA11.out)).1
          have fb := (blk_at (hL.keep KA11.out)).2.1
          have zb := (blk_at (hL.keep KA11.out)).2.2
          go_simp
          exact hK.out _ _ ⟨(kpB x11), (kpB x3), (fun _ => put_eq (by omega)), (kpF i1.out), (fun j => by obtain ⟨z72_0, z72_1, e0, ff⟩ := i2.out j; exact ⟨z72_0, z72_1, (put_ne (by decide)).trans e0, fun hu => ⟨(ff hu).1, (ff hu).2⟩⟩), (kpF i3.out), (kpF i4.out), hL, m4_3, hS⟩
        · unfold SlotStep
          intro g ac wc hn hk hr hI K' hK
          obtain ⟨x11, x3, i0, i1, i2, i3, i4, hL, m4_3, hS⟩ := hI
          simp only [Region.binds] at hr
          simp at hr
          replace hK := Lib.hid hK
          replace i0 := Lib.hid i0
          replace i1 := Lib.hid i1
          replace i2 := Lib.hid i2
          replace i3 := Lib.hid i3
          replace i4 := Lib.hid i4
          have cb := (blk_at (hL.keep KB0.out)).1
          have fb := (blk_at (hL.keep KB0.out)).2.1
          have zb := (blk_at (hL.keep KB0.out)).2.2
          go_simp
          exact hK.out _ _ ⟨(kpB x11), (kpB x3), (kpF i0.out), (fun _ => put_eq (by omega)), (fun j => by obtain ⟨z72_0, z72_1, e0, ff⟩ := i2.out j; exact ⟨z72_0, z72_1, (put_ne (by decide)).trans e0, fun hu => ⟨(ff hu).1, (ff hu).2⟩⟩), (kpF i3.out), (kpF i4.out), hL, m4_3, hS⟩
        · unfold SlotStep
          intro g ac wc hn hk hr hI K' hK
          obtain ⟨x11, x3, i0, i1, i2, i3, i4, hL, m4_3, hS⟩ := hI
          simp only [Region.binds] at hr
          simp at hr
          replace hK := Lib.hid hK
          have y1 := i1 (by simp [hr])
          replace i0 := Lib.hid i0
          replace i1 := Lib.hid i1
          replace i2 := Lib.hid i2
          replace i3 := Lib.hid i3
          replace i4 := Lib.hid i4
          go_simp
          refine (w_toRule _ _ _ _ _ _ (R0a.out.later (HW.trans hL)) (R0b.out.later (HW.trans hL))).mono ?_
          rintro e w4 ⟨z72_0, z72_1, rfl, hL4, ho0, ho1⟩
          exact hK.out _ _ ⟨(kpB x11), (kpB x3), (kpF i0.out), (kpF i1.out), (fun _ => ⟨z72_0, z72_1, put_eq (by omega), fun _ => ⟨owns_base ho0 hS, owns_base ho1 hS⟩⟩), (kpF i3.out), (kpF i4.out), hL.trans hL4, m4_3, Nat.le_trans hS hL4.size⟩
        · unfold SlotStep
          intro g ac wc hn hk hr hI K' hK
          obtain ⟨x11, x3, i0, i1, i2, i3, i4, hL, m4_3, hS⟩ := hI
          simp only [Region.binds] at hr
          simp at hr
          replace hK := Lib.hid hK
          have y0 := i0 (by simp [hr])
          obtain ⟨z72_0, z72_1, y2, ff2⟩ := i2 (by simp [hr])
          replace ff2 := ff2 hk
          replace i0 := Lib.hid i0
          replace i1 := Lib.hid i1
          replace i2 := Lib.hid i2
          replace i3 := Lib.hid i3
          replace i4 := Lib.hid i4
          go_simp
          refine (w_eqRule_same _ _ _ _ _ _ _ _ (reads_of_owns (owns_later Oy7_0.out hL) (by omega)) (reads_of_owns (owns_later Oy7_1.out hL) (by omega)) (reads_of_owns ff2.1 (by omega)) (reads_of_owns ff2.2 (by omega))).mono ?_
          rintro e w4 ⟨rfl, hL4⟩
          exact hK.out _ _ ⟨(kpB x11), (kpB x3), (kpF i0.out), (kpF i1.out), (fun j => by obtain ⟨z72_0, z72_1, e0, -⟩ := i2.out j; exact ⟨z72_0, z72_1, (put_ne (by decide)).trans e0, fun hu => absurd hu (by simp)⟩), (fun _ => put_eq (by omega)), (kpF i4.out), hL.trans hL4, (fun _ => rfl), Nat.le_trans hS hL4.size⟩
        · unfold SlotStep
          intro g ac wc hn hk hr hI K' hK
          obtain ⟨x11, x3, i0, i1, i2, i3, i4, hL, m4_3, hS⟩ := hI
          simp only [Region.binds] at hr
          simp at hr
          replace hK := Lib.hid hK
          have y3 := i3 (by simp [hr])
          replace i0 := Lib.hid i0
          replace i1 := Lib.hid i1
          replace i2 := Lib.hid i2
          replace i3 := Lib.hid i3
          replace i4 := Lib.hid i4
          go_simp
          exact hK.out _ _ ⟨(kpB x11), (kpB x3), (kpF i0.out), (kpF i1.out), (fun j => by obtain ⟨z72_0, z72_1, e0, ff⟩ := i2.out j; exact ⟨z72_0, z72_1, (put_ne (by decide)).trans e0, fun hu => ⟨(ff hu).1, (ff hu).2⟩⟩), (kpF i3.out), (fun _ => put_eq (by omega)), hL, (fun _ => by first | exact hr | exact hr.1 | exact hr.2 | exact hr.2.1 | exact hr.2.2 | simp [hr]), hS⟩
    · refine .cons ?_ (.cons ?_ (.cons ?_ (.cons ?_ (.cons ?_ (.cons ?_ (.cons ?_ (.cons ?_ (.cons ?_ (.cons ?_ (.cons ?_ (.cons ?_ .nil)))))))))))
      · unfold SlotStep
        intro g ac wc hn hk hr hI K' hK
        obtain ⟨xR, x11, x12, x5, i0, i1, i2, i3, i4, i5, i6, i7, i8, i9, i10, i11, hL, m5_4, m6_4, m7_4, m8_4, m9_4, m10_4, m11_4, hS, OW⟩ := hI
        simp only [Region.binds] at hr
        simp at hr
        replace hK := Lib.hid hK
        replace i0 := Lib.hid i0
        replace i1 := Lib.hid i1
        replace i2 := Lib.hid i2
        replace i3 := Lib.hid i3
        replace i4 := Lib.hid i4
        replace i5 := Lib.hid i5
        replace i6 := Lib.hid i6
        replace i7 := Lib.hid i7
        replace i8 := Lib.hid i8
        replace i9 := Lib.hid i9
        replace i10 := Lib.hid i10
        replace i11 := Lib.hid i11
        have cb := (blk_at (hL.keep KA11.out)).1
        have fb := (blk_at (hL.keep KA11.out)).2.1
        have zb := (blk_at (hL.keep KA11.out)).2.2
        go_simp
        exact hK.out _ _ ⟨xR, (kpB x11), (kpB x12), (kpB x5), (fun _ => put_eq (by omega)), (kpF i1.out), (kpF i2.out), (kpF i3.out), (kpF i4.out), (kpF i5.out), (kpF i6.out), (kpF i7.out), (kpF i8.out), (kpF i9.out), (kpF i10.out), (kpF i11.out), hL, m5_4, m6_4, m7_4, m8_4, m9_4, m10_4, m11_4, hS, OW⟩
      · unfold SlotStep
        intro g ac wc hn hk hr hI K' hK
        obtain ⟨xR, x11, x12, x5, i0, i1, i2, i3, i4, i5, i6, i7, i8, i9, i10, i11, hL, m5_4, m6_4, m7_4, m8_4, m9_4, m10_4, m11_4, hS, OW⟩ := hI
        simp only [Region.binds] at hr
        simp at hr
        replace hK := Lib.hid hK
        replace i0 := Lib.hid i0
        replace i1 := Lib.hid i1
        replace i2 := Lib.hid i2
        replace i3 := Lib.hid i3
        replace i4 := Lib.hid i4
        replace i5 := Lib.hid i5
        replace i6 := Lib.hid i6
        replace i7 := Lib.hid i7
        replace i8 := Lib.hid i8
        replace i9 := Lib.hid i9
        replace i10 := Lib.hid i10
        replace i11 := Lib.hid i11
        go_simp
        exact hK.out _ _ ⟨xR, (kpB x11), (kpB x12), (kpB x5), (kpF i0.out), (fun _ => put_eq (by omega)), (kpF i2.out), (kpF i3.out), (kpF i4.out), (kpF i5.out), (kpF i6.out), (kpF i7.out), (kpF i8.out), (kpF i9.out), (kpF i10.out), (kpF i11.out), hL, m5_4, m6_4, m7_4, m8_4, m9_4, m10_4, m11_4, hS, OW⟩
      · unfold SlotStep
        intro g ac wc hn hk hr hI K' hK
        obtain ⟨xR, x11, x12, x5, i0, i1, i2, i3, i4, i5, i6, i7, i8, i9, i10, i11, hL, m5_4, m6_4, m7_4, m8_4, m9_4, m10_4, m11_4, hS, OW⟩ := hI
        simp only [Region.binds] at hr
        simp at hr
        replace hK := Lib.hid hK
        replace i0 := Lib.hid i0
        replace i1 := Lib.hid i1
        replace i2 := Lib.hid i2
        replace i3 := Lib.hid i3
        replace i4 := Lib.hid i4
        replace i5 := Lib.hid i5
        replace i6 := Lib.hid i6
        replace i7 := Lib.hid i7
        replace i8 := Lib.hid i8
        replace i9 := Lib.hid i9
        replace i10 := Lib.hid i10
        replace i11 := Lib.hid i11
        have cb := (blk_at (hL.keep KB2.out)).1
        have fb := (blk_at (hL.keep KB2.out)).2.1
        have zb := (blk_at (hL.keep KB2.out)).2.2
        go_simp
        exact hK.out _ _ ⟨xR, (kpB x11), (kpB x12), (kpB x5), (kpF i0.out), (kpF i1.out), (fun _ => put_eq (by omega)), (kpF i3.out), (kpF i4.out), (kpF i5.out), (kpF i6.out), (kpF i7.out), (kpF i8.out), (kpF i9.out), (kpF i10.out), (kpF i11.out), hL, m5_4, m6_4, m7_4, m8_4, m9_4, m10_4, m11_4, hS, OW⟩
      · unfold SlotStep
        intro g ac wc hn hk hr hI K' hK
        obtain ⟨xR, x11, x12, x5, i0, i1, i2, i3, i4, i5, i6, i7, i8, i9, i10, i11, hL, m5_4, m6_4, m7_4, m8_4, m9_4, m10_4, m11_4, hS, OW⟩ := hI
        simp only [Region.binds] at hr
        simp at hr
        replace hK := Lib.hid hK
        have y2 := i2 (by simp [hr])
        replace i0 := Lib.hid i0
        replace i1 := Lib.hid i1
        replace i2 := Lib.hid i2
        replace i3 := Lib.hid i3
        replace i4 := Lib.hid i4
        replace i5 := Lib.hid i5
        replace i6 := Lib.hid i6
        replace i7 := Lib.hid i7
        replace i8 := Lib.hid i8
        replace i9 := Lib.hid i9
        replace i10 := Lib.hid i10
        replace i11 := Lib.hid i11
        go_simp
        refine (w_toErrors _ _ _ _).mono ?_
        rintro e w4 ⟨rfl, hL4⟩
        exact hK.out _ _ ⟨xR, (kpB x11), (kpB x12), (kpB x5), (kpF i0.out), (kpF i1.out), (kpF i2.out), (fun _ => put_eq (by omega)), (kpF i4.out), (kpF i5.out), (kpF i6.out), (kpF i7.out), (kpF i8.out), (kpF i9.out), (kpF i10.out), (kpF i11.out), hL.trans hL4, m5_4, m6_4, m7_4, m8_4, m9_4, m10_4, m11_4, Nat.le_trans hS hL4.size, (fun h => owns_later (OW h) (hL4))⟩
      · unfold SlotStep
        intro g ac wc hn hk hr hI K' hK
        obtain ⟨xR, x11, x12, x5, i0, i1, i2, i3, i4, i5, i6, i7, i8, i9, i10, i11, hL, m5_4, m6_4, m7_4, m8_4, m9_4, m10_4, m11_4, hS, OW⟩ := hI
        simp only [Region.binds] at hr
        simp at hr
        replace hK := Lib.hid hK
        have y0 := i0 (by simp [hr])
        have y1 := i1 (by simp [hr])
        have y3 := i3 (by simp [hr])
        replace i0 := Lib.hid i0
        replace i1 := Lib.hid i1
        replace i2 := Lib.hid i2
        replace i3 := Lib.hid i3
        replace i4 := Lib.hid i4
        replace i5 := Lib.hid i5
        replace i6 := Lib.hid i6
        replace i7 := Lib.hid i7
        replace i8 := Lib.hid i8
        replace i9 := Lib.hid i9
        replace i10 := Lib.hid i10
        replace i11 := Lib.hid i11
        go_simp
        refine (w_implBetterPlan _ _ _ _ _ _ _ _ _ _ _ (reads_of_owns (owns_later Oy7_0.out hL) (by omega)) (reads_of_owns (owns_later Oy7_1.out hL) (by omega)) (reads_of_owns (owns_later Oy8_0.out hL) (by omega))).mono ?_
        rintro e w4 ⟨aR, lR, cR, rfl, hL4, hoR⟩
        rw [HRS1.out, HRS2.out]
        exact hK.out _ _ ⟨.slice aR lR cR, (kpB x11), (kpB x12), (kpB x5), (kpF i0.out), (kpF i1.out), (kpF i2.out), (kpF i3.out), (fun _ => put_eq (by omega)), (fun h => absurd (m5_4 h) (by rw [hk]; simp)), (fun h => absurd (m6_4 h) (by rw [hk]; simp)), (kpF i7.out), (kpF i8.out), (fun h => absurd (m9_4 h) (by rw [hk]; simp)), (kpF i10.out), (kpF i11.out), hL.trans hL4, (fun _ => rfl), (fun _ => rfl), (fun _ => rfl), (fun _ => rfl), (fun _ => rfl), (fun _ => rfl), (fun _ => rfl), Nat.le_trans hS hL4.size, (fun _ => by rw [HRS0.out] at hoR; exact owns_base hoR hS)⟩
      · unfold SlotStep
        intro g ac wc hn hk hr hI K' hK
        obtain ⟨xR, x11, x12, x5, i0, i1, i2, i3, i4, i5, i6, i7, i8, i9, i10, i11, hL, m5_4, m6_4, m7_4, m8_4, m9_4, m10_4, m11_4, hS, OW⟩ := hI
        simp only [Region.binds] at hr
        simp at hr
        replace hK := Lib.hid hK
        have y4 := i4 (by simp [hr])
        replace i0 := Lib.hid i0
        replace i1 := Lib.hid i1
        replace i2 := Lib.hid i2
        replace i3 := Lib.hid i3
        replace i4 := Lib.hid i4
        replace i5 := Lib.hid i5
        replace i6 := Lib.hid i6
        replace i7 := Lib.hid i7
        replace i8 := Lib.hid i8
        replace i9 := Lib.hid i9
        replace i10 := Lib.hid i10
        replace i11 := Lib.hid i11
        go_simp
        exact hK.out _ _ ⟨xR, (kpB x11), (kpB x12), (kpB x5), (kpF i0.out), (kpF i1.out), (kpF i2.out), (kpF i3.out), (kpF i4.out), (fun _ => put_eq (by omega)), (kpF i6.out), (kpF i7.out), (kpF i8.out), (kpF i9.out), (kpF i10.out), (kpF i11.out), hL, (fun _ => by first | exact hr | exact hr.1 | exact hr.2 | exact hr.2.1 | exact hr.2.2 | simp [hr]), m6_4, m7_4, m8_4, m9_4, m10_4, m11_4, hS, OW⟩
      · unfold SlotStep
        intro g ac wc hn hk hr hI K' hK
        obtain ⟨xR, x11, x12, x5, i0, i1, i2, i3, i4, i5, i6, i7, i8, i9, i10, i11, hL, m5_4, m6_4, m7_4, m8_4, m9_4, m10_4, m11_4, hS, OW⟩ := hI
        simp only [Region.binds] at hr
        simp at hr
        replace hK := Lib.hid hK
        have y5 := i5 (by simp [hr])
        replace i0 := Lib.hid i0
        replace i1 := Lib.hid i1
        replace i2 := Lib.hid i2
        replace i3 := Lib.hid i3
        replace i4 := Lib.hid i4
        replace i5 := Lib.hid i5
        replace i6 := Lib.hid i6
        replace i7 := Lib.hid i7
        replace i8 := Lib.hid i8
        replace i9 := Lib.hid i9
        replace i10 := Lib.hid i10
        replace i11 := Lib.hid i11
        go_simp
        exact hK.out _ _ ⟨xR, (kpB x11), (kpB x12), (kpB x5), (kpF i0.out), (kpF i1.out), (kpF i2.out), (kpF i3.out), (kpF i4.out), (kpF i5.out), (fun _ => put_eq (by omega)), (kpF i7.out), (kpF i8.out), (kpF i9.out), (kpF i10.out), (kpF i11.out), hL, m5_4, (fun _ => m5_4 (by first | exact hr | exact hr.1 | exact hr.2 | exact hr.2.1 | exact hr.2.2 | simp [hr])), m7_4, m8_4, m9_4, m10_4, m11_4, hS, OW⟩
      · unfold SlotStep
        intro g ac wc hn hk hr hI K' hK
        obtain ⟨xR, x11, x12, x5, i0, i1, i2, i3, i4, i5, i6, i7, i8, i9, i10, i11, hL, m5_4, m6_4, m7_4, m8_4, m9_4, m10_4, m11_4, hS, OW⟩ := hI
        simp only [Region.binds] at hr
        simp at hr
        replace hK := Lib.hid hK
        have y5 := i5 (by simp [hr])
        replace i0 := Lib.hid i0
        replace i1 := Lib.hid i1
        replace i2 := Lib.hid i2
        replace i3 := Lib.hid i3
        replace i4 := Lib.hid i4
        replace i5 := Lib.hid i5
        replace i6 := Lib.hid i6
        replace i7 := Lib.hid i7
        replace i8 := Lib.hid i8
        replace i9 := Lib.hid i9
        replace i10 := Lib.hid i10
        replace i11 := Lib.hid i11
        go_simp
        exact hK.out _ _ ⟨xR, (kpB x11), (kpB x12), (kpB x5), (kpF i0.out), (kpF i1.out), (kpF i2.out), (kpF i3.out), (kpF i4.out), (kpF i5.out), (kpF i6.out), (fun _ => put_eq (by omega)), (kpF i8.out), (kpF i9.out), (kpF i10.out), (kpF i11.out), hL, m5_4, m6_4, (fun _ => m5_4 (by first | exact hr | exact hr.1 | exact hr.2 | exact hr.2.1 | exact hr.2.2 | simp [hr])), m8_4, m9_4, m10_4, m11_4, hS, OW⟩
      · unfold SlotStep
        intro g ac wc hn hk hr hI K' hK
        obtain ⟨xR, x11, x12, x5, i0, i1, i2, i3, i4, i5, i6, i7, i8, i9, i10, i11, hL, m5_4, m6_4, m7_4, m8_4, m9_4, m10_4, m11_4, hS, OW⟩ := hI
        simp only [Region.binds] at hr
        simp at hr
        replace hK := Lib.hid hK
        have y5 := i5 (by simp [hr])
        replace i0 := Lib.hid i0
        replace i1 := Lib.hid i1
        replace i2 := Lib.hid i2
        replace i3 := Lib.hid i3
        replace i4 := Lib.hid i4
        replace i5 := Lib.hid i5
        replace i6 := Lib.hid i6
        replace i7 := Lib.hid i7
        replace i8 := Lib.hid i8
        replace i9 := Lib.hid i9
        replace i10 := Lib.hid i10
        replace i11 := Lib.hid i11
        go_simp
        exact hK.out _ _ ⟨xR, (kpB x11), (kpB x12), (kpB x5), (kpF i0.out), (kpF i1.out), (kpF i2.out), (kpF i3.out), (kpF i4.out), (kpF i5.out), (kpF i6.out), (kpF i7.out), (fun _ => put_eq (by omega)), (kpF i9.out), (kpF i10.out), (kpF i11.out), hL, m5_4, m6_4, m7_4, (fun _ => m5_4 (by first | exact hr | exact hr.1 | exact hr.2 | exact hr.2.1 | exact hr.2.2 | simp [hr])), m9_4, m10_4, m11_4, hS, OW⟩
      · unfold SlotStep
        intro g ac wc hn hk hr hI K' hK
        obtain ⟨xR, x11, x12, x5, i0, i1, i2, i3, i4, i5, i6, i7, i8, i9, i10, i11, hL, m5_4, m6_4, m7_4, m8_4, m9_4, m10_4, m11_4, hS, OW⟩ := hI
        simp only [Region.binds] at hr
        simp at hr
        replace hK := Lib.hid hK
        have y6 := i6 (by simp [hr])
        replace i0 := Lib.hid i0
        replace i1 := Lib.hid i1
        replace i2 := Lib.hid i2
        replace i3 := Lib.hid i3
        replace i4 := Lib.hid i4
        replace i5 := Lib.hid i5
        replace i6 := Lib.hid i6
        replace i7 := Lib.hid i7
        replace i8 := Lib.hid i8
        replace i9 := Lib.hid i9
        replace i10 := Lib.hid i10
        replace i11 := Lib.hid i11
        go_simp
        exact hK.out _ _ ⟨xR, (kpB x11), (kpB x12), (kpB x5), (kpF i0.out), (kpF i1.out), (kpF i2.out), (kpF i3.out), (kpF i4.out), (kpF i5.out), (kpF i6.out), (kpF i7.out), (kpF i8.out), (fun _ => put_eq (by omega)), (kpF i10.out), (kpF i11.out), hL, m5_4, m6_4, m7_4, m8_4, (fun _ => m6_4 (by first | exact hr | exact hr.1 | exact hr.2 | exact hr.2.1 | exact hr.2.2 | simp [hr])), m10_4, m11_4, hS, OW⟩
      · unfold SlotStep
        intro g ac wc hn hk hr hI K' hK
        obtain ⟨xR, x11, x12, x5, i0, i1, i2, i3, i4, i5, i6, i7, i8, i9, i10, i11, hL, m5_4, m6_4, m7_4, m8_4, m9_4, m10_4, m11_4, hS, OW⟩ := hI
        simp only [Region.binds] at hr
        simp at hr
        replace hK := Lib.hid hK
        have y7 := i7 (by simp [hr])
        replace i0 := Lib.hid i0
        replace i1 := Lib.hid i1
        replace i2 := Lib.hid i2
        replace i3 := Lib.hid i3
        replace i4 := Lib.hid i4
        replace i5 := Lib.hid i5
        replace i6 := Lib.hid i6
        replace i7 := Lib.hid i7
        replace i8 := Lib.hid i8
        replace i9 := Lib.hid i9
        replace i10 := Lib.hid i10
        replace i11 := Lib.hid i11
        go_simp
        exact hK.out _ _ ⟨xR, (kpB x11), (kpB x12), (kpB x5), (kpF i0.out), (kpF i1.out), (kpF i2.out), (kpF i3.out), (kpF i4.out), (kpF i5.out), (kpF i6.out), (kpF i7.out), (kpF i8.out), (kpF i9.out), (fun _ => put_eq (by omega)), (kpF i11.out), hL, m5_4, m6_4, m7_4, m8_4, m9_4, (fun _ => m7_4 (by first | exact hr | exact hr.1 | exact hr.2 | exact hr.2.1 | exact hr.2.2 | simp [hr])), m11_4, hS, OW⟩
      · unfold SlotStep
        intro g ac wc hn hk hr hI K' hK
        obtain ⟨xR, x11, x12, x5, i0, i1, i2, i3, i4, i5, i6, i7, i8, i9, i10, i11, hL, m5_4, m6_4, m7_4, m8_4, m9_4, m10_4, m11_4, hS, OW⟩ := hI
        simp only [Region.binds] at hr
        simp at hr
        replace hK := Lib.hid hK
        have y8 := i8 (by simp [hr])
        replace i0 := Lib.hid i0
        replace i1 := Lib.hid i1
        replace i2 := Lib.hid i2
        replace i3 := Lib.hid i3
        replace i4 := Lib.hid i4
        replace i5 := Lib.hid i5
        replace i6 := Lib.hid i6
        replace i7 := Lib.hid i7
        replace i8 := Lib.hid i8
        replace i9 := Lib.hid i9
        replace i10 := Lib.hid i10
        replace i11 := Lib.hid i11
        go_simp
        exact hK.out _ _ ⟨xR, (kpB x11), (kpB x12), (kpB x5), (kpF i0.out), (kpF i1.out), (kpF i2.out), (kpF i3.out), (kpF i4.out), (kpF i5.out), (kpF i6.out), (kpF i7.out), (kpF i8.out), (kpF i9.out), (kpF i10.out), (fun _ => put_eq (by omega)), hL, m5_4, m6_4, m7_4, m8_4, m9_4, m10_4, (fun _ => m8_4 (by first | exact hr | exact hr.1 | exact hr.2 | exact hr.2.1 | exact hr.2.2 | simp [hr])), hS, OW⟩
  · refine .cons ?_ (.cons ?_ (.cons ?_ (.cons ?_ (.cons ?_ (.cons ?_ (.cons ?_ (.cons ?_ (.cons ?_ (.cons ?_ (.cons ?_ (.cons ?_ (.cons ?_ (.cons ?_ .nil)))))))))))))
    · unfold SlotStep
      intro g ac wc hn hk hr hI K' hK
      obtain ⟨xR, x3, x1, x5, i0, i1, i2, i3, i4, i5, i6, i7, i8, i9, i10, i11, i12, i13, hL, m7_6, m8_6, m9_6, m10_6, m11_6, m12_6, m13_6, hS, OW⟩ := hI
      simp only [Region.binds] at hr
      simp at hr
      replace hK := Lib.hid hK
      replace i0 := Lib.hid i0
      replace i1 := Lib.hid i1
      replace i2 := Lib.hid i2
      replace i3 := Lib.hid i3
      replace i4 := Lib.hid i4
      replace i5 := Lib.hid i5
      replace i6 := Lib.hid i6
      replace i7 := Lib.hid i7
      replace i8 := Lib.hid i8
      replace i9 := Lib.hid i9
      replace i10 := Lib.hid i10
      replace i11 := Lib.hid i11
      replace i12 := Lib.hid i12
      replace i13 := Lib.hid i13
      have cb := (blk_at (hL.keep KB0.out)).1
      have fb := (blk_at (hL.keep KB0.out)).2.1
      have zb := (blk_at (hL.keep KB0.out)).2.2
      go_simp
      exact hK.out _ _ ⟨xR, (kpB x3), (kpB x1), (kpB x5), (fun _ => put_eq (by omega)), (fun j => by obtain ⟨z34_0, z34_1, e0, ff⟩ := i1.out j; exact ⟨z34_0, z34_1, (put_ne (by decide)).trans e0, fun hu => ⟨(ff hu).1, (ff hu).2⟩⟩), (kpF i2.out), (fun j => by obtain ⟨z36_0, e0, ff⟩ := i3.out j; exact ⟨z36_0, (put_ne (by decide)).trans e0, fun hu => ff hu⟩), (kpF i4.out), (kpF i5.out), (kpF i6.out), (kpF i7.out), (kpF i8.out), (kpF i9.out), (kpF i10.out), (kpF i11.out), (kpF i12.out), (kpF i13.out), hL, m7_6, m8_6, m9_6, m10_6, m11_6, m12_6, m13_6, hS, OW⟩
    · unfold SlotStep
      intro g ac wc hn hk hr hI K' hK
      obtain ⟨xR, x3, x1, x5, i0, i1, i2, i3, i4, i5, i6, i7, i8, i9, i10, i11, i12, i13, hL, m7_6, m8_6, m9_6, m10_6, m11_6, m12_6, m13_6, hS, OW⟩ := hI
      simp only [Region.binds] at hr
      simp at hr
      replace hK := Lib.hid hK
      have y0 := i0 (by simp [hr])
      replace i0 := Lib.hid i0
      replace i1 := Lib.hid i1
      replace i2 := Lib.hid i2
      replace i3 := Lib.hid i3
      replace i4 := Lib.hid i4
      replace i5 := Lib.hid i5
      replace i6 := Lib.hid i6
      replace i7 := Lib.hid i7
      replace i8 := Lib.hid i8
      replace i9 := Lib.hid i9
      replace i10 := Lib.hid i10
      replace i11 := Lib.hid i11
      replace i12 := Lib.hid i12
      replace i13 := Lib.hid i13
      go_simp
      refine (w_toRule _ _ _ _ _ _ (R0a.out.later (HW.trans hL)) (R0b.out.later (HW.trans hL))).mono ?_
      rintro e w4 ⟨z34_0, z34_1, rfl, hL4, ho0, ho1⟩
      exact hK.out _ _ ⟨xR, (kpB x3), (kpB x1), (kpB x5), (kpF i0.out), (fun _ => ⟨z34_0, z34_1, put_eq (by omega), fun _ => ⟨owns_base ho0 hS, owns_base ho1 hS⟩⟩), (kpF i2.out), (fun j => by obtain ⟨z36_0, e0, ff⟩ := i3.out j; exact ⟨z36_0, (put_ne (by decide)).trans e0, fun hu => owns_later (ff hu) (hL4)⟩), (kpF i4.out), (kpF i5.out), (kpF i6.out), (kpF i7.out), (kpF i8.out), (kpF i9.out), (kpF i10.out), (kpF i11.out), (kpF i12.out), (kpF i13.out), hL.trans hL4, m7_6, m8_6, m9_6, m10_6, m11_6, m12_6, m13_6, Nat.le_trans hS hL4.size, (fun h => owns_later (OW h) (hL4))⟩
    · unfold SlotStep
      intro g ac wc hn hk hr hI K' hK
      obtain ⟨xR, x3, x1, x5, i0, i1, i2, i3, i4, i5, i6, i7, i8, i9, i10, i11, i12, i13, hL, m7_6, m8_6, m9_6, m10_6, m11_6, m12_6, m13_6, hS, OW⟩ := hI
      simp only [Region.binds] at hr
      simp at hr
      replace hK := Lib.hid hK
      replace i0 := Lib.hid i0
      replace i1 := Lib.hid i1
      replace i2 := Lib.hid i2
      replace i3 := Lib.hid i3
      replace i4 := Lib.hid i4
      replace i5 := Lib.hid i5
      replace i6 := Lib.hid i6
      replace i7 := Lib.hid i7
      replace i8 := Lib.hid i8
      replace i9 := Lib.hid i9
      replace i10 := Lib.hid i10
      replace i11 := Lib.hid i11
      replace i12 := Lib.hid i12
      replace i13 := Lib.hid i13
      go_simp
      exact hK.out _ _ ⟨xR, (kpB x3), (kpB x1), (kpB x5), (kpF i0.out), (fun j => by obtain ⟨z34_0, z34_1, e0, ff⟩ := i1.out j; exact ⟨z34_0, z34_1, (put_ne (by decide)).trans e0, fun hu => ⟨(ff hu).1, (ff hu).2⟩⟩), (fun _ => put_eq (by omega)), (fun j => by obtain ⟨z36_0, e0, ff⟩ := i3.out j; exact ⟨z36_0, (put_ne (by decide)).trans e0, fun hu => ff hu⟩), (kpF i4.out), (kpF i5.out), (kpF i6.out), (kpF i7.out), (kpF i8.out), (kpF i9.out), (kpF i10.out), (kpF i11.out), (kpF i12.out), (kpF i13.out), hL, m7_6, m8_6, m9_6, m10_6, m11_6, m12_6, m13_6, hS, OW⟩
    · unfold SlotStep
      intro g ac wc hn hk hr hI K' hK
      obtain ⟨xR, x3, x1, x5, i0, i1, i2, i3, i4, i5, i6, i7, i8, i9, i10, i11, i12, i13, hL, m7_6, m8_6, m9_6, m10_6, m11_6, m12_6, m13_6, hS, OW⟩ := hI
      simp only [Region.binds] at hr
      simp at hr
      replace hK := Lib.hid hK
      have y2 := i2 (by simp [hr])
      replace i0 := Lib.hid i0
      replace i1 := Lib.hid i1
      replace i2 := Lib.hid i2
      replace i3 := Lib.hid i3
      replace i4 := Lib.hid i4
      replace i5 := Lib.hid i5
      replace i6 := Lib.hid i6
      replace i7 := Lib.hid i7
      replace i8 := Lib.hid i8
      replace i9 := Lib.hid i9
      replace i10 := Lib.hid i10
      replace i11 := Lib.hid i11
      replace i12 := Lib.hid i12
      replace i13 := Lib.hid i13
      go_simp
      refine (w_toTermS _ _ _ (R1.out.later (HW.trans hL))).mono ?_
      rintro e w4 ⟨z36_0, rfl, hL4, ho0⟩
      exact hK.out _ _ ⟨xR, (kpB x3), (kpB x1), (kpB x5), (kpF i0.out), (fun j => by obtain ⟨z34_0, z34_1, e0, ff⟩ := i1.out j; exact ⟨z34_0, z34_1, (put_ne (by decide)).trans e0, fun hu => ⟨owns_later ((ff hu).1) (hL4), owns_later ((ff hu).2) (hL4)⟩⟩), (kpF i2.out), (fun _ => ⟨z36_0, put_eq (by omega), fun _ => owns_base ho0 hS⟩), (kpF i4.out), (kpF i5.out), (kpF i6.out), (kpF i7.out), (kpF i8.out), (kpF i9.out), (kpF i10.out), (kpF i11.out), (kpF i12.out), (kpF i13.out), hL.trans hL4, m7_6, m8_6, m9_6, m10_6, m11_6, m12_6, m13_6, Nat.le_trans hS hL4.size, (fun h => owns_later (OW h) (hL4))⟩
    · unfold SlotStep
      intro g ac wc hn hk hr hI K' hK
      obtain ⟨xR, x3, x1, x5, i0, i1, i2, i3, i4, i5, i6, i7, i8, i9, i10, i11, i12, i13, hL, m7_6, m8_6, m9_6, m10_6, m11_6, m12_6, m13_6, hS, OW⟩ := hI
      simp only [Region.binds] at hr
      simp at hr
      replace hK := Lib.hid hK
      replace i0 := Lib.hid i0
      replace i1 := Lib.hid i1
      replace i2 := Lib.hid i2
      replace i3 := Lib.hid i3
      replace i4 := Lib.hid i4
      replace i5 := Lib.hid i5
      replace i6 := Lib.hid i6
      replace i7 := Lib.hid i7
      replace i8 := Lib.hid i8
      replace i9 := Lib.hid i9
      replace i10 := Lib.hid i10
      replace i11 := Lib.hid i11
      replace i12 := Lib.hid i12
      replace i13 := Lib.hid i13
      have cb := (blk_at (hL.keep KB2.out)).1
      have fb := (blk_at (hL.keep KB2.out)).2.1
      have zb := (blk_at (hL.keep KB2.out)).2.2
      go_simp
      exact hK.out _ _ ⟨xR, (kpB x3), (kpB x1), (kpB x5), (kpF i0.out), (fun j => by obtain ⟨z34_0, z34_1, e0, ff⟩ := i1.out j; exact ⟨z34_0, z34_1, (put_ne (by decide)).trans e0, fun hu => ⟨(ff hu).1, (ff hu).2⟩⟩), (kpF i2.out), (fun j => by obtain ⟨z36_0, e0, ff⟩ := i3.out j; exact ⟨z36_0, (put_ne (by decide)).trans e0, fun hu => ff hu⟩), (fun _ => put_eq (by omega)), (kpF i5.out), (kpF i6.out), (kpF i7.out), (kpF i8.out), (kpF i9.out), (kpF i10.out), (kpF i11.out), (kpF i12.out), (kpF i13.out), hL, m7_6, m8_6, m9_6, m10_6, m11_6, m12_6, m13_6, hS, OW⟩
    · unfold SlotStep
      intro g ac wc hn hk hr hI K' hK
      obtain ⟨xR, x3, x1, x5, i0, i1, i2, i3, i4, i5, i6, i7, i8, i9, i10, i11, i12, i13, hL, m7_6, m8_6, m9_6, m10_6, m11_6, m12_6, m13_6, hS, OW⟩ := hI
      simp only [Region.binds] at hr
      simp at hr
      replace hK := Lib.hid hK
      have y4 := i4 (by simp [hr])
      replace i0 := Lib.hid i0
      replace i1 := Lib.hid i1
      replace i2 := Lib.hid i2
      replace i3 := Lib.hid i3
      replace i4 := Lib.hid i4
      replace i5 := Lib.hid i5
      replace i6 := Lib.hid i6
      replace i7 := Lib.hid i7
      replace i8 := Lib.hid i8
      replace i9 := Lib.hid i9
      replace i10 := Lib.hid i10
      replace i11 := Lib.hid i11
      replace i12 := Lib.hid i12
      replace i13 := Lib.hid i13
      go_simp
      refine (w_toErrors _ _ _ _).mono ?_
      rintro e w4 ⟨rfl, hL4⟩
      exact hK.out _ _ ⟨xR, (kpB x3), (kpB x1), (kpB x5), (kpF i0.out), (fun j => by obtain ⟨z34_0, z34_1, e0, ff⟩ := i1.out j; exact ⟨z34_0, z34_1, (put_ne (by decide)).trans e0, fun hu => ⟨owns_later ((ff hu).1) (hL4), owns_later ((ff hu).2) (hL4)⟩⟩), (kpF i2.out), (fun j => by obtain ⟨z36_0, e0, ff⟩ := i3.out j; exact ⟨z36_0, (put_ne (by decide)).trans e0, fun hu => owns_later (ff hu) (hL4)⟩), (kpF i4.out), (fun _ => put_eq (by omega)), (kpF i6.out), (kpF i7.out), (kpF i8.out), (kpF i9.out), (kpF i10.out), (kpF i11.out), (kpF i12.out), (kpF i13.out), hL.trans hL4, m7_6, m8_6, m9_6, m10_6, m11_6, m12_6, m13_6, Nat.le_trans hS hL4.size, (fun h => owns_later (OW h) (hL4))⟩
    · unfold SlotStep
      intro g ac wc hn hk hr hI K' hK
      obtain ⟨xR, x3, x1, x5, i0, i1, i2, i3, i4, i5, i6, i7, i8, i9, i10, i11, i12, i13, hL, m7_6, m8_6, m9_6, m10_6, m11_6, m12_6, m13_6, hS, OW⟩ := hI
      simp only [Region.binds] at hr
      simp at hr
      replace hK := Lib.hid hK
      obtain ⟨z34_0, z34_1, y1, ff1⟩ := i1 (by simp [hr])
      replace ff1 := ff1 hk
      obtain ⟨z36_0, y3, ff3⟩ := i3 (by simp [hr])
      replace ff3 := ff3 hk
      have y5 := i5 (by simp [hr])
      replace i0 := Lib.hid i0
      replace i1 := Lib.hid i1
      replace i2 := Lib.hid i2
      replace i3 := Lib.hid i3
      replace i4 := Lib.hid i4
      replace i5 := Lib.hid i5
      replace i6 := Lib.hid i6
      replace i7 := Lib.hid i7
      replace i8 := Lib.hid i8
      replace i9 := Lib.hid i9
      replace i10 := Lib.hid i10
      replace i11 := Lib.hid i11
      replace i12 := Lib.hid i12
      replace i13 := Lib.hid i13
      go_simp
      refine (w_specBetterPlan _ _ _ _ _ _ _ _ _ _ _ (reads_of_owns ff1.1 (by omega)) (reads_of_owns ff1.2 (by omega)) (reads_of_owns ff3 (by omega))).mono ?_
      rintro e w4 ⟨aR, lR, cR, rfl, hL4, hoR⟩
      rw [HRS1.out, HRS2.out]
      exact hK.out _ _ ⟨.slice aR lR cR, (kpB x3), (kpB x1), (kpB x5), (kpF i0.out), (fun j => by obtain ⟨z34_0, z34_1, e0, -⟩ := i1.out j; exact ⟨z34_0, z34_1, (put_ne (by decide)).trans e0, fun hu => absurd hu (by simp)⟩), (kpF i2.out), (fun j => by obtain ⟨z36_0, e0, -⟩ := i3.out j; exact ⟨z36_0, (put_ne (by decide)).trans e0, fun hu => absurd hu (by simp)⟩), (kpF i4.out), (kpF i5.out), (fun _ => put_eq (by omega)), (fun h => absurd (m7_6 h) (by rw [hk]; simp)), (fun h => absurd (m8_6 h) (by rw [hk]; simp)), (kpF i9.out), (kpF i10.out), (fun h => absurd (m11_6 h) (by rw [hk]; simp)), (kpF i12.out), (kpF i13.out), hL.trans hL4, (fun _ => rfl), (fun _ => rfl), (fun _ => rfl), (fun _ => rfl), (fun _ => rfl), (fun _ => rfl), (fun _ => rfl), Nat.le_trans hS hL4.size, (fun _ => by rw [HRS0.out] at hoR; exact owns_base hoR hS)⟩
    · unfold SlotStep
      intro g ac wc hn hk hr hI K' hK
      obtain ⟨xR, x3, x1, x5, i0, i1, i2, i3, i4, i5, i6, i7, i8, i9, i10, i11, i12, i13, hL, m7_6, m8_6, m9_6, m10_6, m11_6, m12_6, m13_6, hS, OW⟩ := hI
      simp only [Region.binds] at hr
      simp at hr
      replace hK := Lib.hid hK
      have y6 := i6 (by simp [hr])
      replace i0 := Lib.hid i0
      replace i1 := Lib.hid i1
      replace i2 := Lib.hid i2
      replace i3 := Lib.hid i3
      replace i4 := Lib.hid i4
      replace i5 := Lib.hid i5
      replace i6 := Lib.hid i6
      replace i7 := Lib.hid i7
      replace i8 := Lib.hid i8
      replace i9 := Lib.hid i9
      replace i10 := Lib.hid i10
      replace i11 := Lib.hid i11
      replace i12 := Lib.hid i12
      replace i13 := Lib.hid i13
      go_simp
      exact hK.out _ _ ⟨xR, (kpB x3), (kpB x1), (kpB x5), (kpF i0.out), (fun j => by obtain ⟨z34_0, z34_1, e0, ff⟩ := i1.out j; exact ⟨z34_0, z34_1, (put_ne (by decide)).trans e0, fun hu => ⟨(ff hu).1, (ff hu).2⟩⟩), (kpF i2.out), (fun j => by obtain ⟨z36_0, e0, ff⟩ := i3.out j; exact ⟨z36_0, (put_ne (by decide)).trans e0, fun hu => ff hu⟩), (kpF i4.out), (kpF i5.out), (kpF i6.out), (fun _ => put_eq (by omega)), (kpF i8.out), (kpF i9.out), (kpF i10.out), (kpF i11.out), (kpF i12.out), (kpF i13.out), hL, (fun _ => by first | exact hr | exact hr.1 | exact hr.2 | exact hr.2.1 | exact hr.2.2 | simp [hr]), m8_6, m9_6, m10_6, m11_6, m12_6, m13_6, hS, OW⟩
    · unfold SlotStep
      intro g ac wc hn hk hr hI K' hK
      obtain ⟨xR, x3, x1, x5, i0, i1, i2, i3, i4, i5, i6, i7, i8, i9, i10, i11, i12, i13, hL, m7_6, m8_6, m9_6, m10_6, m11_6, m12_6, m13_6, hS, OW⟩ := hI
      simp only [Region.binds] at hr
      simp at hr
      replace hK := Lib.hid hK
      have y7 := i7 (by simp [hr])
      replace i0 := Lib.hid i0
      replace i1 := Lib.hid i1
      replace i2 := Lib.hid i2
      replace i3 := Lib.hid i3
      replace i4 := Lib.hid i4
      replace i5 := Lib.hid i5
      replace i6 := Lib.hid i6
      replace i7 := Lib.hid i7
      replace i8 := Lib.hid i8
      replace i9 := Lib.hid i9
      replace i10 := Lib.hid i10
      replace i11 := Lib.hid i11
      replace i12 := Lib.hid i12
      replace i13 := Lib.hid i13
      go_simp
      exact hK.out _ _ ⟨xR, (kpB x3), (kpB x1), (kpB x5), (kpF i0.out), (fun j => by obtain ⟨z34_0, z34_1, e0, ff⟩ := i1.out j; exact ⟨z34_0, z34_1, (put_ne (by decide)).trans e0, fun hu => ⟨(ff hu).1, (ff hu).2⟩⟩), (kpF i2.out), (fun j => by obtain ⟨z36_0, e0, ff⟩ := i3.out j; exact ⟨z36_0, (put_ne (by decide)).trans e0, fun hu => ff hu⟩), (kpF i4.out), (kpF i5.out), (kpF i6.out), (kpF i7.out), (fun _ => put_eq (by omega)), (kpF i9.out), (kpF i10.out), (kpF i11.out), (kpF i12.out), (kpF i13.out), hL, m7_6, (fun _ => m7_6 (by first | exact hr | exact hr.1 | exact hr.2 | exact hr.2.1 | exact hr.2.2 | simp [hr])), m9_6, m10_6, m11_6, m12_6, m13_6, hS, OW⟩
    · unfold SlotStep
      intro g ac wc hn hk hr hI K' hK
      obtain ⟨xR, x3, x1, x5, i0, i1, i2, i3, i4, i5, i6, i7, i8, i9, i10, i11, i12, i13, hL, m7_6, m8_6, m9_6, m10_6, m11_6, m12_6, m13_6, hS, OW⟩ := hI
      simp only [Region.binds] at hr
      simp at hr
      replace hK := Lib.hid hK
      have y7 := i7 (by simp [hr])
      replace i0 := Lib.hid i0
      replace i1 := Lib.hid i1
      replace i2 := Lib.hid i2
      replace i3 := Lib.hid i3
      replace i4 := Lib.hid i4
      replace i5 := Lib.hid i5
      replace i6 := Lib.hid i6
      replace i7 := Lib.hid i7
      replace i8 := Lib.hid i8
      replace i9 := Lib.hid i9
      replace i10 := Lib.hid i10
      replace i11 := Lib.hid i11
      replace i12 := Lib.hid i12
      replace i13 := Lib.hid i13
      go_simp
      exact hK.out _ _ ⟨xR, (kpB x3), (kpB x1), (kpB x5), (kpF i0.out), (fun j => by obtain ⟨z34_0, z34_1, e0, ff⟩ := i1.out j; exact ⟨z34_0, z34_1, (put_ne (by decide)).trans e0, fun hu => ⟨(ff hu).1, (ff hu).2⟩⟩), (kpF i2.out), (fun j => by obtain ⟨z36_0, e0, ff⟩ := i3.out j; exact ⟨z36_0, (put_ne (by decide)).trans e0, fun hu => ff hu⟩), (kpF i4.out), (kpF i5.out), (kpF i6.out), (kpF i7.out), (kpF i8.out), (fun _ => put_eq (by omega)), (kpF i10.out), (kpF i11.out), (kpF i12.out), (kpF i13.out), hL, m7_6, m8_6, (fun _ => m7_6 (by first | exact hr | exact hr.1 | exact hr.2 | exact hr.2.1 | exact hr.2.2 | simp [hr])), m10_6, m11_6, m12_6, m13_6, hS, OW⟩
    · unfold SlotStep
      intro g ac wc hn hk hr hI K' hK
      obtain ⟨xR, x3, x1, x5, i0, i1, i2, i3, i4, i5, i6, i7, i8, i9, i10, i11, i12, i13, hL, m7_6, m8_6, m9_6, m10_6, m11_6, m12_6, m13_6, hS, OW⟩ := hI
      simp only [Region.binds] at hr
      simp at hr
      replace hK := Lib.hid hK
      have y7 := i7 (by simp [hr])
      replace i0 := Lib.hid i0
      replace i1 := Lib.hid i1
      replace i2 := Lib.hid i2
      replace i3 := Lib.hid i3
      replace i4 := Lib.hid i4
      replace i5 := Lib.hid i5
      replace i6 := Lib.hid i6
      replace i7 := Lib.hid i7
      replace i8 := Lib.hid i8
      replace i9 := Lib.hid i9
      replace i10 := Lib.hid i10
      replace i11 := Lib.hid i11
      replace i12 := Lib.hid i12
      replace i13 := Lib.hid i13
      go_simp
      exact hK.out _ _ ⟨xR, (kpB x3), (kpB x1), (kpB x5), (kpF i0.out), (fun j => by obtain ⟨z34_0, z34_1, e0, ff⟩ := i1.out j; exact ⟨z34_0, z34_1, (put_ne (by decide)).trans e0, fun hu => ⟨(ff hu).1, (ff hu).2⟩⟩), (kpF i2.out), (fun j => by obtain ⟨z36_0, e0, ff⟩ := i3.out j; exact ⟨z36_0, (put_ne (by decide)).trans e0, fun hu => ff hu⟩), (kpF i4.out), (kpF i5.out), (kpF i6.out), (kpF i7.out), (kpF i8.out), (kpF i9.out), (fun _ => put_eq (by omega)), (kpF i11.out), (kpF i12.out), (kpF i13.out), hL, m7_6, m8_6, m9_6, (fun _ => m7_6 (by first | exact hr | exact hr.1 | exact hr.2 | exact hr.2.1 | exact hr.2.2 | simp [hr])), m11_6, m12_6, m13_6, hS, OW⟩
    · unfold SlotStep
      intro g ac wc hn hk hr hI K' hK
      obtain ⟨xR, x3, x1, x5, i0, i1, i2, i3, i4, i5, i6, i7, i8, i9, i10, i11, i12, i13, hL, m7_6, m8_6, m9_6, m10_6, m11_6, m12_6, m13_6, hS, OW⟩ := hI
      simp only [Region.binds] at hr
      simp at hr
      replace hK := Lib.hid hK
      have y8 := i8 (by simp [hr])
      replace i0 := Lib.hid i0
      replace i1 := Lib.hid i1
      replace i2 := Lib.hid i2
      replace i3 := Lib.hid i3
      replace i4 := Lib.hid i4
      replace i5 := Lib.hid i5
      replace i6 := Lib.hid i6
      replace i7 := Lib.hid i7
      replace i8 := Lib.hid i8
      replace i9 := Lib.hid i9
      replace i10 := Lib.hid i10
      replace i11 := Lib.hid i11
      replace i12 := Lib.hid i12
      replace i13 := Lib.hid i13
      go_simp
      exact hK.out _ _ ⟨xR, (kpB x3), (kpB x1), (kpB x5), (kpF i0.out), (fun j => by obtain ⟨z34_0, z34_1, e0, ff⟩ := i1.out j; exact ⟨z34_0, z34_1, (put_ne (by decide)).trans e0, fun hu => ⟨(ff hu).1, (ff hu).2⟩⟩), (kpF i2.out), (fun j => by obtain ⟨z36_0, e0, ff⟩ := i3.out j; exact ⟨z36_0, (put_ne (by decide)).trans e0, fun hu => ff hu⟩), (kpF i4.out), (kpF i5.out), (kpF i6.out), (kpF i7.out), (kpF i8.out), (kpF i9.out), (kpF i10.out), (fun _ => put_eq (by omega)), (kpF i12.out), (kpF i13.out), hL, m7_6, m8_6, m9_6, m10_6, (fun _ => m8_6 (by first | exact hr | exact hr.1 | exact hr.2 | exact hr.2.1 | exact hr.2.2 | simp [hr])), m12_6, m13_6, hS, OW⟩
    · unfold SlotStep
      intro g ac wc hn hk hr hI K' hK
      obtain ⟨xR, x3, x1, x5, i0, i1, i2, i3, i4, i5, i6, i7, i8, i9, i10, i11, i12, i13, hL, m7_6, m8_6, m9_6, m10_6, m11_6, m12_6, m13_6, hS, OW⟩ := hI
      simp only [Region.binds] at hr
      simp at hr
      replace hK := Lib.hid hK
      have y9 := i9 (by simp [hr])
      replace i0 := Lib.hid i0
      replace i1 := Lib.hid i1
      replace i2 := Lib.hid i2
      replace i3 := Lib.hid i3
      replace i4 := Lib.hid i4
      replace i5 := Lib.hid i5
      replace i6 := Lib.hid i6
      replace i7 := Lib.hid i7
      replace i8 := Lib.hid i8
      replace i9 := Lib.hid i9
      replace i10 := Lib.hid i10
      replace i11 := Lib.hid i11
      replace i12 := Lib.hid i12
      replace i13 := Lib.hid i13
      go_simp
      exact hK.out _ _ ⟨xR, (kpB x3), (kpB x1), (kpB x5), (kpF i0.out), (fun j => by obtain ⟨z34_0, z34_1, e0, ff⟩ := i1.out j; exact ⟨z34_0, z34_1, (put_ne (by decide)).trans e0, fun hu => ⟨(ff hu).1, (ff hu).2⟩⟩), (kpF i2.out), (fun j => by obtain ⟨z36_0, e0, ff⟩ := i3.out j; exact ⟨z36_0, (put_ne (by decide)).trans e0, fun hu => ff hu⟩), (kpF i4.out), (kpF i5.out), (kpF i6.out), (kpF i7.out), (kpF i8.out), (kpF i9.out), (kpF i10.out), (kpF i11.out), (fun _ => put_eq (by omega)), (kpF i13.out), hL, m7_6, m8_6, m9_6, m10_6, m11_6, (fun _ => m9_6 (by first | exact hr | exact hr.1 | exact hr.2 | exact hr.2.1 | exact hr.2.2 | simp [hr])), m13_6, hS, OW⟩
    · unfold SlotStep
      intro g ac wc hn hk hr hI K' hK
      obtain ⟨xR, x3, x1, x5, i0, i1, i2, i3, i4, i5, i6, i7, i8, i9, i10, i11, i12, i13, hL, m7_6, m8_6, m9_6, m10_6, m11_6, m12_6, m13_6, hS, OW⟩ := hI
      simp only [Region.binds] at hr
      simp at hr
      replace hK := Lib.hid hK
      have y10 := i10 (by simp [hr])
      replace i0 := Lib.hid i0
      replace i1 := Lib.hid i1
      replace i2 := Lib.hid i2
      replace i3 := Lib.hid i3
      replace i4 := Lib.hid i4
      replace i5 := Lib.hid i5
      replace i6 := Lib.hid i6
      replace i7 := Lib.hid i7
      replace i8 := Lib.hid i8
      replace i9 := Lib.hid i9
      replace i10 := Lib.hid i10
      replace i11 := Lib.hid i11
      replace i12 := Lib.hid i12
      replace i13 := Lib.hid i13
      go_simp
      exact hK.out _ _ ⟨xR, (kpB x3), (kpB x1), (kpB x5), (kpF i0.out), (fun j => by obtain ⟨z34_0, z34_1, e0, ff⟩ := i1.out j; exact ⟨z34_0, z34_1, (put_ne (by decide)).trans e0, fun hu => ⟨(ff hu).1, (ff hu).2⟩⟩), (kpF i2.out), (fun j => by obtain ⟨z36_0, e0, ff⟩ := i3.out j; exact ⟨z36_0, (put_ne (by decide)).trans e0, fun hu => ff hu⟩), (kpF i4.out), (kpF i5.out), (kpF i6.out), (kpF i7.out), (kpF i8.out), (kpF i9.out), (kpF i10.out), (kpF i11.out), (kpF i12.out), (fun _ => put_eq (by omega)), hL, m7_6, m8_6, m9_6, m10_6, m11_6, m12_6, (fun _ => m10_6 (by first | exact hr | exact hr.1 | exact hr.2 | exact hr.2.1 | exact hr.2.2 | simp [hr])), hS, OW⟩

theorem lifted (os : Os) (started : os.Started) (H : Type) (enc : TypeId × Value → H) :
    ReturnsInHanded {} Tryz.checked os 3 .any (Rows.fnExactBetterPlanSpec.pre6 enc Tryz.prog Tryz.f3 Rows.fnExactBetterPlanRow.domain false) (Rows.fnExactBetterPlanSpec.post enc Tryz.prog Tryz.f3 false true false false) := by
  refine returnsInHanded_of_change (C := Tryz.checked) o_own started (by kernel_rfl) Tryz.func3
    (ChangeSpec.witness6 (enc := enc) (C := Tryz.checked) false ⟨#[], #[.agg #[.int .i64 0, .slice none 0 0, .slice none 0 0], .slice none 0 0, .agg #[.int .i64 0, .int .i64 0, .int .i64 0]], []⟩ 8 (by kernel_rfl) (by kernel_rfl) (by kernel_rfl) (by kernel_rfl)) ?_
  intro W base args ds gs before hval0 hW hcnd _
  have hval : ∀ (j : Nat) t v, Tryz.f3.params[j]? = some t → args[j]? = some v → Value.okWide Tryz.prog W .any base t v := hval0
  have hW' := hW
  obtain ⟨p, q, hA0, hV, rfl, hfz, hnd⟩ := hW
  have hA : DataW.TrodAll enc Tryz.prog W 0 (fun _ => true) true Tryz.f3.params.toList args.toList ds p := hA0
  rw [Tryz.params3] at hA hval
  obtain ⟨v0, vs0, d0, ds0, p0, q0, hargs, rfl, rfl, h0, r0⟩ := trodAll_cons hA
  obtain ⟨v1, vs1, d1, ds1, p1, q1, rfl, rfl, rfl, h1, r1⟩ := trodAll_cons r0
  obtain ⟨v2, vs2, d2, ds2, p2, q2, rfl, rfl, rfl, h2, r2⟩ := trodAll_cons r1
  obtain ⟨rfl, rfl, rfl⟩ := trodAll_nil r2
  obtain rfl : args = #[v0, v1, v2] := by cases args; simp_all
  obtain ⟨rfl, rfl⟩ := trodVars_none hV
  have k0 := h0
  have lt0 : ∀ x ∈ p0, x.block < W.heap.size := by obtain ⟨m, hm⟩ := k0; exact DataW.trod_lt m _ _ _ hm
  obtain ⟨rn0, v0a, v0b, l0a, l0b, rfl, w0a, w0b⟩ := o_lRule' (hval 0 24 v0 rfl rfl) h0
  obtain ⟨a1, len1, cap1, rfl⟩ := okWide_slice Tryz.underlying25 (hval 1 25 v1 rfl rfl)
  have k1 := h1
  have lt1 : ∀ x ∈ p1, x.block < W.heap.size := by obtain ⟨m, hm⟩ := k1; exact DataW.trod_lt m _ _ _ hm
  obtain ⟨l1, w1⟩ := o_lTermS h1
  have k2 := h2
  have lt2 : ∀ x ∈ p2, x.block < W.heap.size := by obtain ⟨m, hm⟩ := k2; exact DataW.trod_lt m _ _ _ hm
  obtain ⟨ag2_0, ag2_1, ag2_2, rfl⟩ := o_lErrors' (hval 2 27 v2 rfl rfl) h2
  clear hA0 hval0
  refine (walk rn0 v0a v0b l0a l0b _ l1 ag2_0 ag2_1 ag2_2 W w0a w0b w1).mono fun e W' ⟨he, bel⟩ => ?_
  subst he
  exact ⟨_, rfl, _, _, _, [], _, [], hW', trodAll_mk1 (shut_bool Tryz.underlying4 _), (trodAll_cons_mk (Below.trod o_laidOut (by kernel_rfl) (of_decide_eq_true (by kernel_rfl)) k0 bel lt0) (trodAll_cons_mk (Below.trod o_laidOut (by kernel_rfl) (of_decide_eq_true (by kernel_rfl)) k1 bel lt1) (trodAll_cons_mk (Below.trod o_laidOut (by kernel_rfl) (of_decide_eq_true (by kernel_rfl)) k2 bel lt2) trodAll_mk0))), rfl, bel.frame _, fun h => by cases h⟩

theorem over : Rows.fnExactBetterPlanRow.holds Tryz.pinned (OpenSpec.ofChange Rows.fnExactBetterPlanSpec) :=
  OpenClaim.holds_of_wide 3 Tryz.f3 rfl rfl rfl rfl rfl rfl rfl ⟨rfl, rfl, rfl, rfl, rfl⟩ rfl rfl rfl rfl rfl (by kernel_rfl) Tryz.func3 (by kernel_rfl)
    (of_decide_eq_true (by kernel_rfl)) (by unfold Func.isWrapper; first | (rw [if_pos (by decide +kernel)]; kernel_rfl) | (rw [if_neg (by decide +kernel)]; exact ⟨rfl, rfl⟩))
    (fun os started H enc _ => lifted os started H enc)

theorem proved : Rows.FnExactBetterPlanSaid := over
#print axioms proved
end Go.Proofs.YtldojpelnghplaaGreat.lawBetterPlan
