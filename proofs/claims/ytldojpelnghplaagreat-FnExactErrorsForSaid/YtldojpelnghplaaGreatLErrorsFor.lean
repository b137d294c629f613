/- The program's ErrorsFor: the part of the errors that keeps a bound. It answers what the reference's function answers, for all arguments. No condition. -/
import Derived.Test.YtldojpelnghplaaGreatRows
import Derived.Test.YtldojpelnghplaaGreatO1
import Derived.Test.YtldojpelnghplaaGreatO2
import Derived.Test.YtldojpelnghplaaGreatBA
import Derived.Test.YtldojpelnghplaaGreatM75
import Derived.Test.YtldojpelnghplaaGreatHErrors
import Derived.Test.YtldojpelnghplaaGreatHRule
import Derived.Test.YtldojpelnghplaaGreatHTerm
namespace Go.Proofs.YtldojpelnghplaaGreat.lawErrorsFor
set_option linter.unusedVariables false
set_option linter.unusedSimpArgs false
open Go.ChangeShapes Go.WideShapes Go.ChangeAt Go.RowKit
set_option linter.unusedVariables false
set_option maxRecDepth 100000

set_option maxHeartbeats 4000000 in
theorem walk (rn0 : Int) (v0a v0b : Value) (l0a l0b : List Int) (v1 : Value) (l1 : List Trm) (ag2_0 ag2_1 ag2_2 : Int) (ag3 : Int) (w : World) (r0a : Raw w v0a l0a.length 1 (nums l0a)) (r0b : Raw w v0b l0b.length 1 (nums l0b)) (r1 : Raw w v1 l1.length 3 (trms l1)) :
    Calls Tryz.prog 7 #[.agg #[.int .i64 rn0, v0a, v0b], v1, .agg #[.int .i64 ag2_0, .int .i64 ag2_1, .int .i64 ag2_2], .int .i64 ag3] w fun e w' => e = .returned (.bool true) ∧ Later w w' := by
  by_cases hs0 : l0a.length + l0b.length ≤ 1048576
  rotate_left
  · have HW := Later.refl w
    obtain ⟨_, sx0a, cap0a, rfl, hcap0a, hmax0a, _⟩ := r0a
    obtain ⟨_, sx0b, cap0b, rfl, hcap0b, hmax0b, _⟩ := r0b
    obtain ⟨_, sx1, cap1, rfl, hcap1, hmax1, _⟩ := r1
    go_enter Tryz.func7, Tryz.ntmps7
    have hs : szR ((1048576 : Int)) l0a.length l0b.length = -1 := szR_no (by omega)
    have HS := Lib.hid hs
    clear hs
    go_wp2_with fail
    refine (w_szRule _ _ _ _ _ _ _ _ (by omega) (by omega) (by omega) (by omega) _).mono ?_
    rintro e u1 ⟨rfl, hL1⟩
    rw [HS.out]
    clear HS
    obtain ⟨hk0, hk1⟩ := kept2 hL1
    have KB0 := Lib.hid hk0
    have KB2 := Lib.hid hk1
    clear hk0 hk1
    replace hL1 := (((Later.refl _).alloc _).alloc _).trans hL1
    replace HW := HW.trans hL1
    clear hL1
    go_wp2
    go_ret
    exact ⟨rfl, HW⟩
  by_cases hs1 : l0a.length + l0b.length + l1.length ≤ 1048576
  rotate_left
  · have HW := Later.refl w
    obtain ⟨_, sx0a, cap0a, rfl, hcap0a, hmax0a, _⟩ := r0a
    obtain ⟨_, sx0b, cap0b, rfl, hcap0b, hmax0b, _⟩ := r0b
    obtain ⟨_, sx1, cap1, rfl, hcap1, hmax1, _⟩ := r1
    go_enter Tryz.func7, Tryz.ntmps7
    have hs : szR ((1048576 : Int)) l0a.length l0b.length = (1048576 : Int) - (l0a.length : Int) - (l0b.length : Int) := szR_ok (by omega)
    have HS := Lib.hid hs
    clear hs
    go_wp2_with fail
    refine (w_szRule _ _ _ _ _ _ _ _ (by omega) (by omega) (by omega) (by omega) _).mono ?_
    rintro e u2 ⟨rfl, hL2⟩
    rw [HS.out]
    clear HS
    obtain ⟨hk0, hk1⟩ := kept2 hL2
    have KB0 := Lib.hid hk0
    have KB2 := Lib.hid hk1
    clear hk0 hk1
    replace hL2 := (((Later.refl _).alloc _).alloc _).trans hL2
    replace HW := HW.trans hL2
    clear hL2
    have hs : (if (1048576 : Int) - (l0a.length : Int) - (l0b.length : Int) < (l1.length : Int) then (-1 : Int) else (1048576 : Int) - (l0a.length : Int) - (l0b.length : Int) - (l1.length : Int)) = -1 := if_pos (by omega)
    have HS := Lib.hid hs
    clear hs
    go_wp2_with fail
    refine (w_szTermS _ _ _ _ (by omega) (by omega) (by omega) _).mono ?_
    rintro e w' ⟨rfl, rfl⟩
    rw [HS.out]
    clear HS
    go_wp2
    go_ret
    exact ⟨rfl, HW⟩
  have R0a := Lib.hid (r0a.reads (by omega))
  have R0b := Lib.hid (r0b.reads (by omega))
  have R1 := Lib.hid (r1.reads (by omega))
  obtain ⟨RS0, hRS0⟩ : ∃ R : Int, efV ⟨rn0, l0a, l0b⟩ l1 ⟨ag2_0, ag2_1, ag2_2⟩ ag3 = R := ⟨_, rfl⟩
  have HRS0 := Lib.hid hRS0
  clear hRS0
  obtain ⟨RS1, hRS1⟩ : ∃ R : Int, efC ⟨rn0, l0a, l0b⟩ l1 ⟨ag2_0, ag2_1, ag2_2⟩ ag3 = R := ⟨_, rfl⟩
  have HRS1 := Lib.hid hRS1
  clear hRS1
  have HW := Later.refl w
  obtain ⟨_, sx0a, cap0a, rfl, hcap0a, hmax0a, _⟩ := r0a
  obtain ⟨_, sx0b, cap0b, rfl, hcap0b, hmax0b, _⟩ := r0b
  obtain ⟨_, sx1, cap1, rfl, hcap1, hmax1, _⟩ := r1
  go_enter Tryz.func7, Tryz.ntmps7
  have hs : szR ((1048576 : Int)) l0a.length l0b.length = (1048576 : Int) - (l0a.length : Int) - (l0b.length : Int) := szR_ok (by omega)
  have HS := Lib.hid hs
  clear hs
  go_wp2_with fail
  refine (w_szRule _ _ _ _ _ _ _ _ (by omega) (by omega) (by omega) (by omega) _).mono ?_
  rintro e u4 ⟨rfl, hL4⟩
  rw [HS.out]
  clear HS
  obtain ⟨hk0, hk1⟩ := kept2 hL4
  have KB0 := Lib.hid hk0
  have KB2 := Lib.hid hk1
  clear hk0 hk1
  replace hL4 := (((Later.refl _).alloc _).alloc _).trans hL4
  replace HW := HW.trans hL4
  clear hL4
  have hs : (if (1048576 : Int) - (l0a.length : Int) - (l0b.length : Int) < (l1.length : Int) then (-1 : Int) else (1048576 : Int) - (l0a.length : Int) - (l0b.length : Int) - (l1.length : Int)) = (1048576 : Int) - (l0a.length : Int) - (l0b.length : Int) - (l1.length : Int) := if_neg (by omega)
  have HS := Lib.hid hs
  clear hs
  go_wp2_with fail
  refine (w_szTermS _ _ _ _ (by omega) (by omega) (by omega) _).mono ?_
  rintro e w' ⟨rfl, rfl⟩
  rw [HS.out]
  clear HS
  go_wp2_with fail
  refine region_slots 68 [27, 28, 29, 30, 31, 32, 33, 34, 26, 35, 36, 10, 11] (fun g ac wc => sl ac 4 = .pointer (some ⟨w.heap.size, 0, none⟩) ∧
    sl ac 1 = .slice sx1 l1.length cap1 ∧
    sl ac 6 = .pointer (some ⟨w.heap.size + 1, 0, none⟩) ∧
    sl ac 3 = .int .i64 ag3 ∧
    (g 0 = true → sl ac 27 = .agg #[.int .i64 rn0, .slice sx0a l0a.length cap0a, .slice sx0b l0b.length cap0b]) ∧
    (g 1 = true → ∃ z28_0 z28_1 : Value, sl ac 28 = .agg #[.int .i64 rn0, z28_0, z28_1] ∧ (g 7 = false → wc.ownsRow u4.heap.size 2 1 z28_0 (l0a.length) (nums l0a) ∧ wc.ownsRow u4.heap.size 2 1 z28_1 (l0b.length) (nums l0b))) ∧
    (g 2 = true → sl ac 29 = .slice sx1 l1.length cap1) ∧
    (g 3 = true → ∃ z30_0 : Value, sl ac 30 = z30_0 ∧ (g 7 = false → wc.ownsRow u4.heap.size 64 3 z30_0 (l1.length) (trms l1))) ∧
    (g 4 = true → sl ac 31 = .agg #[.int .i64 ag2_0, .int .i64 ag2_1, .int .i64 ag2_2]) ∧
    (g 5 = true → sl ac 32 = .agg #[.int .i64 ag2_0, .int .i64 ag2_1, .int .i64 ag2_2]) ∧
    (g 6 = true → sl ac 33 = .int .i64 ag3) ∧
    (g 7 = true → sl ac 34 = .tuple #[.int .i64 RS0, .int .i64 RS1]) ∧
    (g 8 = true → sl ac 26 = .tuple #[.int .i64 RS0, .int .i64 RS1]) ∧
    (g 9 = true → sl ac 35 = .int .i64 RS0) ∧
    (g 10 = true → sl ac 36 = .int .i64 RS1) ∧
    (g 11 = true → sl ac 10 = .int .i64 RS0) ∧
    (g 12 = true → sl ac 11 = .int .i64 RS1) ∧
    Later u4 wc ∧
    (g 8 = true → g 7 = true) ∧
    (g 9 = true → g 7 = true) ∧
    (g 10 = true → g 7 = true) ∧
    (g 11 = true → g 7 = true) ∧
    (g 12 = true → g 7 = true) ∧
    u4.heap.size ≤ wc.heap.size) (by kernel_rfl) (by kernel_rfl) rfl (by kernel_rfl) ?_ ?_ ?_
  · exact ⟨rfl, rfl, rfl, rfl, nofun, nofun, nofun, nofun, nofun, nofun, nofun, nofun, nofun, nofun, nofun, nofun, nofun, (Later.refl _).drew, nofun, nofun, nofun, nofun, nofun, Nat.le_refl _⟩
  · intro g ac ur hg ha hI
    obtain ⟨x4, x1, x6, x3, i0, i1, i2, i3, i4, i5, i6, i7, i8, i9, i10, i11, i12, hL, -, -, -, -, -, hS⟩ := hI
    have a0 := i0 (hg 0 (by simp))
    obtain ⟨z28_0, z28_1, a1, -⟩ := i1 (hg 1 (by simp))
    have a2 := i2 (hg 2 (by simp))
    obtain ⟨z30_0, a3, -⟩ := i3 (hg 3 (by simp))
    have a4 := i4 (hg 4 (by simp))
    have a5 := i5 (hg 5 (by simp))
    have a6 := i6 (hg 6 (by simp))
    have a7 := i7 (hg 7 (by simp))
    have a8 := i8 (hg 8 (by simp))
    have a9 := i9 (hg 9 (by simp))
    have a10 := i10 (hg 10 (by simp))
    have a11 := i11 (hg 11 (by simp))
    have a12 := i12 (hg 12 (by simp))
    simp only [putAll, a0, a1, a2, a3, a4, a5, a6, a7, a8, a9, a10, a11, a12] at ha
    simp only [Act.put, List.setIfInBounds_toArray, List.set_cons_succ, List.set_cons_zero] at ha
    rw [ha]
    clear x4 x1 x6 x3 i0 i1 i2 i3 i4 i5 i6 i7 i8 i9 i10 i11 i12 a0 a1 a2 a3 a4 a5 a6 a7 a8 a9 a10 a11 a12 hg ha
    replace KB0 := Lib.hid (hL.keep KB0.out)
    replace KB2 := Lib.hid (hL.keep KB2.out)
    replace HW := HW.trans hL
    clear hL hS
    obtain ⟨cB0, fB0, zB0⟩ := blk_at KB0.out
    go_wp2_with fail
    refine (w_toRuleS _ _ _ _ _ _ (R0a.out.later HW) (R0b.out.later HW)).mono ?_
    rintro e u6 ⟨y6_0, q6_0, y6_1, q6_1, rfl, hL6, ho0, ho1⟩
    clear cB0 fB0 zB0
    replace KB0 := Lib.hid (hL6.keep KB0.out)
    replace KB2 := Lib.hid (hL6.keep KB2.out)
    replace HW := HW.trans hL6
    clear hL6
    have Oy6_0 := Lib.hid ho0
    clear ho0
    have Oy6_1 := Lib.hid ho1
    clear ho1
    go_wp2_with fail
    refine (w_toTermS _ _ _ (R1.out.later (HW.alloc _))).mono ?_
    rintro e u7 ⟨y7_0, rfl, hL7, ho0⟩
    have KA12 := Lib.hid (kept1 hL7)
    replace hL7 := ((Later.refl _).alloc _).trans hL7
    replace KB0 := Lib.hid (hL7.keep KB0.out)
    replace KB2 := Lib.hid (hL7.keep KB2.out)
    replace Oy6_0 := Lib.hid (owns_later Oy6_0.out hL7)
    replace Oy6_1 := Lib.hid (owns_later Oy6_1.out hL7)
    replace HW := HW.trans hL7
    clear hL7
    have Oy7_0 := Lib.hid ho0
    clear ho0
    go_wp2_with fail
    refine region_slots 68 [42, 43, 44, 45, 46, 47, 41, 48, 49, 14, 15] (fun g ac wc => sl ac 12 = .pointer (some ⟨u6.heap.size, 0, none⟩) ∧
      sl ac 13 = y7_0 ∧
      sl ac 6 = .pointer (some ⟨w.heap.size + 1, 0, none⟩) ∧
      sl ac 3 = .int .i64 ag3 ∧
      (g 0 = true → sl ac 42 = .agg #[.int .i64 rn0, .slice y6_0 l0a.length q6_0, .slice y6_1 l0b.length q6_1]) ∧
      (g 1 = true → sl ac 43 = y7_0) ∧
      (g 2 = true → sl ac 44 = .agg #[.int .i64 ag2_0, .int .i64 ag2_1, .int .i64 ag2_2]) ∧
      (g 3 = true → sl ac 45 = .agg #[.int .i64 ag2_0, .int .i64 ag2_1, .int .i64 ag2_2]) ∧
      (g 4 = true → sl ac 46 = .int .i64 ag3) ∧
      (g 5 = true → sl ac 47 = .tuple #[.int .i64 RS0, .int .i64 RS1]) ∧
      (g 6 = true → sl ac 41 = .tuple #[.int .i64 RS0, .int .i64 RS1]) ∧
      (g 7 = true → sl ac 48 = .int .i64 RS0) ∧
      (g 8 = true → sl ac 49 = .int .i64 RS1) ∧
      (g 9 = true → sl ac 14 = .int .i64 RS0) ∧
      (g 10 = true → sl ac 15 = .int .i64 RS1) ∧
      Later u7 wc ∧
      u7.heap.size ≤ wc.heap.size) (by kernel_rfl) (by kernel_rfl) rfl (by kernel_rfl) ?_ ?_ ?_
    · exact ⟨rfl, rfl, rfl, rfl, nofun, nofun, nofun, nofun, nofun, nofun, nofun, nofun, nofun, nofun, nofun, (Later.refl _).drew, Nat.le_refl _⟩
    · intro g ac us hg ha hI
      obtain ⟨x12, x13, x6, x3, i0, i1, i2, i3, i4, i5, i6, i7, i8, i9, i10, hL, hS⟩ := hI
      have a0 := i0 (hg 0 (by simp))
      have a1 := i1 (hg 1 (by simp))
      have a2 := i2 (hg 2 (by simp))
      have a3 := i3 (hg 3 (by simp))
      have a4 := i4 (hg 4 (by simp))
      have a5 := i5 (hg 5 (by simp))
      have a6 := i6 (hg 6 (by simp))
      have a7 := i7 (hg 7 (by simp))
      have a8 := i8 (hg 8 (by simp))
      have a9 := i9 (hg 9 (by simp))
      have a10 := i10 (hg 10 (by simp))
      simp only [putAll, a0, a1, a2, a3, a4, a5, a6, a7, a8, a9, a10] at ha
      simp only [Act.put, List.setIfInBounds_toArray, List.set_cons_succ, List.set_cons_zero] at ha
      rw [ha]
      clear x12 x13 x6 x3 i0 i1 i2 i3 i4 i5 i6 i7 i8 i9 i10 a0 a1 a2 a3 a4 a5 a6 a7 a8 a9 a10 hg ha
      replace KB0 := Lib.hid (hL.keep KB0.out)
      replace KB2 := Lib.hid (hL.keep KB2.out)
      replace KA12 := Lib.hid (hL.keep KA12.out)
      replace Oy6_0 := Lib.hid (owns_later Oy6_0.out hL)
      replace Oy6_1 := Lib.hid (owns_later Oy6_1.out hL)
      replace Oy7_0 := Lib.hid (owns_later Oy7_0.out hL)
      replace HW := HW.trans hL
      clear hL hS
      go_wp2_with fail
      refine region_slots 68 [58, 59, 60, 61, 62] (fun g ac wc => sl ac 12 = .pointer (some ⟨u6.heap.size, 0, none⟩) ∧
        sl ac 4 = .pointer (some ⟨w.heap.size, 0, none⟩) ∧
        (g 0 = true → sl ac 58 = .agg #[.int .i64 rn0, .slice y6_0 l0a.length q6_0, .slice y6_1 l0b.length q6_1]) ∧
        (g 1 = true → sl ac 59 = .agg #[.int .i64 rn0, .slice sx0a l0a.length cap0a, .slice sx0b l0b.length cap0b]) ∧
        (g 2 = true → ∃ z60_0 z60_1 : Value, sl ac 60 = .agg #[.int .i64 rn0, z60_0, z60_1] ∧ (g 3 = false → wc.ownsRow us.heap.size 2 1 z60_0 (l0a.length) (nums l0a) ∧ wc.ownsRow us.heap.size 2 1 z60_1 (l0b.length) (nums l0b))) ∧
        (g 3 = true → sl ac 61 = .bool true) ∧
        (g 4 = true → sl ac 62 = .bool false) ∧
        Later us wc ∧
        (g 4 = true → g 3 = true) ∧
        us.heap.size ≤ wc.heap.size) (by kernel_rfl) (by kernel_rfl) rfl (by kernel_rfl) ?_ ?_ ?_
      · exact ⟨rfl, rfl, nofun, nofun, nofun, nofun, nofun, (Later.refl _).drew, nofun, Nat.le_refl _⟩
      · intro g ac ut hg ha hI
        obtain ⟨x12, x4, i0, i1, i2, i3, i4, hL, -, hS⟩ := hI
        have a0 := i0 (hg 0 (by simp))
        have a1 := i1 (hg 1 (by simp))
        obtain ⟨z60_0, z60_1, a2, -⟩ := i2 (hg 2 (by simp))
        have a3 := i3 (hg 3 (by simp))
        have a4 := i4 (hg 4 (by simp))
        simp only [putAll, a0, a1, a2, a3, a4] at ha
        simp only [Act.put, List.setIfInBounds_toArray, List.set_cons_succ, List.set_cons_zero] at ha
        rw [ha]
        clear x12 x4 i0 i1 i2 i3 i4 a0 a1 a2 a3 a4 hg ha
        replace KB0 := Lib.hid (hL.keep KB0.out)
        replace KB2 := Lib.hid (hL.keep KB2.out)
        replace KA12 := Lib.hid (hL.keep KA12.out)
        replace Oy6_0 := Lib.hid (owns_later Oy6_0.out hL)
        replace Oy6_1 := Lib.hid (owns_later Oy6_1.out hL)
        replace Oy7_0 := Lib.hid (owns_later Oy7_0.out hL)
        replace HW := HW.trans hL
        clear hL hS
        go_wp2_with fail
        refine (w_toTermS _ _ _ (R1.out.later HW)).mono ?_
        rintro e u8 ⟨y8_0, rfl, hL8, ho0⟩
        replace KB0 := Lib.hid (hL8.keep KB0.out)
        replace KB2 := Lib.hid (hL8.keep KB2.out)
        replace KA12 := Lib.hid (hL8.keep KA12.out)
        replace Oy6_0 := Lib.hid (owns_later Oy6_0.out hL8)
        replace Oy6_1 := Lib.hid (owns_later Oy6_1.out hL8)
        replace Oy7_0 := Lib.hid (owns_later Oy7_0.out hL8)
        replace HW := HW.trans hL8
        clear hL8
        have Oy8_0 := Lib.hid ho0
        clear ho0
        go_wp2_with fail
        refine (w_eqTermS _ _ _ _ _ (reads_of_owns Oy7_0.out (by omega)) (reads_of_owns Oy8_0.out (by omega))).mono ?_
        rintro e u9 ⟨rfl, hL9⟩
        replace KB0 := Lib.hid (hL9.keep KB0.out)
        replace KB2 := Lib.hid (hL9.keep KB2.out)
        replace KA12 := Lib.hid (hL9.keep KA12.out)
        replace Oy6_0 := Lib.hid (owns_later Oy6_0.out hL9)
        replace Oy6_1 := Lib.hid (owns_later Oy6_1.out hL9)
        replace Oy7_0 := Lib.hid (owns_later Oy7_0.out hL9)
        replace Oy8_0 := Lib.hid (owns_later Oy8_0.out hL9)
        replace HW := HW.trans hL9
        clear hL9
        clear Oy8_0
        go_wp2
        go_ret
        exact ⟨rfl, HW⟩
      · refine .cons ?_ (.cons ?_ (.cons ?_ (.cons ?_ (.cons ?_ .nil))))
        · unfold SlotStep
          intro g ac wc hn hk hr hI K' hK
          obtain ⟨x12, x4, i0, i1, i2, i3, i4, hL, m4_3, hS⟩ := hI
          simp only [Region.binds] at hr
          simp at hr
          replace hK := Lib.hid hK
          replace i0 := Lib.hid i0
          replace i1 := Lib.hid i1
          replace i2 := Lib.hid i2
          replace i3 := Lib.hid i3
          replace i4 := Lib.hid i4
          have cb := (blk_at (hL.keep KA12.out)).1
          have fb := (blk_at (hL.keep KA12.out)).2.1
          have zb := (blk_at (hL.keep KA12.out)).2.2
          go_simp
          exact hK.out _ _ ⟨(keepB x12 (by decide)), (keepB x4 (by decide)), (fun _ => put_eq (by omega)), (keepF i1.out (by decide)), (fun j => by obtain ⟨z60_0, z60_1, e0, ff⟩ := i2.out j; exact ⟨z60_0, z60_1, (put_ne (by decide)).trans e0, fun hu => ⟨(ff hu).1, (ff hu).2⟩⟩), (keepF i3.out (by decide)), (keepF i4.out (by decide)), hL, m4_3, hS⟩
        · unfold SlotStep
          intro g ac wc hn hk hr hI K' hK
          obtain ⟨x12, x4, i0, i1, i2, i3, i4, hL, m4_3, hS⟩ := hI
          simp only [Region.binds] at hr
          simp at hr
          replace hK := Lib.hid hK
          replace i0 := Lib.hid i0
          replace i1 := Lib.hid i1
          replace i2 := Lib.hid i2
          replace i3 := Lib.hid i3
          replace i4 := Lib.hid i4
          have cb := (blk_at (hL.keep KB0.out)).1
          have fb := (blk_at (hL.keep KB0.out)).2.1
          have zb := (blk_at (hL.keep KB0.out)).2.2
          go_simp
          exact hK.out _ _ ⟨(keepB x12 (by decide)), (keepB x4 (by decide)), (keepF i0.out (by decide)), (fun _ => put_eq (by omega)), (fun j => by obtain ⟨z60_0, z60_1, e0, ff⟩ := i2.out j; exact ⟨z60_0, z60_1, (put_ne (by decide)).trans e0, fun hu => ⟨(ff hu).1, (ff hu).2⟩⟩), (keepF i3.out (by decide)), (keepF i4.out (by decide)), hL, m4_3, hS⟩
        · unfold SlotStep
          intro g ac wc hn hk hr hI K' hK
          obtain ⟨x12, x4, i0, i1, i2, i3, i4, hL, m4_3, hS⟩ := hI
          simp only [Region.binds] at hr
          simp at hr
          replace hK := Lib.hid hK
          have y1 := i1 (by first | exact hr | exact hr.1 | exact hr.2 | exact hr.2.1 | exact hr.2.2 | exact hr.2.2.1 | exact hr.2.2.2 | simp [hr])
          replace i0 := Lib.hid i0
          replace i1 := Lib.hid i1
          replace i2 := Lib.hid i2
          replace i3 := Lib.hid i3
          replace i4 := Lib.hid i4
          go_simp
          refine (w_toRule _ _ _ _ _ _ (R0a.out.later (HW.trans hL)) (R0b.out.later (HW.trans hL))).mono ?_
          rintro e w4 ⟨z60_0, z60_1, rfl, hL4, ho0, ho1⟩
          exact hK.out _ _ ⟨(keepB x12 (by decide)), (keepB x4 (by decide)), (keepF i0.out (by decide)), (keepF i1.out (by decide)), (fun _ => ⟨z60_0, z60_1, put_eq (by omega), fun _ => ⟨owns_base ho0 hS, owns_base ho1 hS⟩⟩), (keepF i3.out (by decide)), (keepF i4.out (by decide)), hL.trans hL4, m4_3, Nat.le_trans hS hL4.size⟩
        · unfold SlotStep
          intro g ac wc hn hk hr hI K' hK
          obtain ⟨x12, x4, i0, i1, i2, i3, i4, hL, m4_3, hS⟩ := hI
          simp only [Region.binds] at hr
          simp at hr
          replace hK := Lib.hid hK
          have y0 := i0 (by first | exact hr | exact hr.1 | exact hr.2 | exact hr.2.1 | exact hr.2.2 | exact hr.2.2.1 | exact hr.2.2.2 | simp [hr])
          obtain ⟨z60_0, z60_1, y2, ff2⟩ := i2 (by first | exact hr | exact hr.1 | exact hr.2 | exact hr.2.1 | exact hr.2.2 | exact hr.2.2.1 | exact hr.2.2.2 | simp [hr])
          replace ff2 := ff2 hk
          replace i0 := Lib.hid i0
          replace i1 := Lib.hid i1
          replace i2 := Lib.hid i2
          replace i3 := Lib.hid i3
          replace i4 := Lib.hid i4
          go_simp
          refine (w_eqRule_same _ _ _ _ _ _ _ _ (reads_of_owns (owns_later Oy6_0.out hL) (by omega)) (reads_of_owns (owns_later Oy6_1.out hL) (by omega)) (reads_of_owns ff2.1 (by omega)) (reads_of_owns ff2.2 (by omega))).mono ?_
          rintro e w4 ⟨rfl, hL4⟩
          exact hK.out _ _ ⟨(keepB x12 (by decide)), (keepB x4 (by decide)), (keepF i0.out (by decide)), (keepF i1.out (by decide)), (fun j => by obtain ⟨z60_0, z60_1, e0, -⟩ := i2.out j; exact ⟨z60_0, z60_1, (put_ne (by decide)).trans e0, fun hu => absurd hu (by simp)⟩), (fun _ => put_eq (by omega)), (keepF i4.out (by decide)), hL.trans hL4, (fun _ => rfl), Nat.le_trans hS hL4.size⟩
        · unfold SlotStep
          intro g ac wc hn hk hr hI K' hK
          obtain ⟨x12, x4, i0, i1, i2, i3, i4, hL, m4_3, hS⟩ := hI
          simp only [Region.binds] at hr
          simp at hr
          replace hK := Lib.hid hK
          have y3 := i3 (by first | exact hr | exact hr.1 | exact hr.2 | exact hr.2.1 | exact hr.2.2 | exact hr.2.2.1 | exact hr.2.2.2 | simp [hr])
          replace i0 := Lib.hid i0
          replace i1 := Lib.hid i1
          replace i2 := Lib.hid i2
          replace i3 := Lib.hid i3
          replace i4 := Lib.hid i4
          go_simp
          exact hK.out _ _ ⟨(keepB x12 (by decide)), (keepB x4 (by decide)), (keepF i0.out (by decide)), (keepF i1.out (by decide)), (fun j => by obtain ⟨z60_0, z60_1, e0, ff⟩ := i2.out j; exact ⟨z60_0, z60_1, (put_ne (by decide)).trans e0, fun hu => ⟨(ff hu).1, (ff hu).2⟩⟩), (keepF i3.out (by decide)), (fun _ => put_eq (by omega)), hL, (fun _ => by first | exact hr | exact hr.1 | exact hr.2 | exact hr.2.1 | exact hr.2.2 | simp [hr]), hS⟩
    · refine .cons ?_ (.cons ?_ (.cons ?_ (.cons ?_ (.cons ?_ (.cons ?_ (.cons ?_ (.cons ?_ (.cons ?_ (.cons ?_ (.cons ?_ .nil))))))))))
      · unfold SlotStep
        intro g ac wc hn hk hr hI K' hK
        obtain ⟨x12, x13, x6, x3, i0, i1, i2, i3, i4, i5, i6, i7, i8, i9, i10, hL, hS⟩ := hI
        simp only [Region.binds] at hr
        simp at hr
        replace hK := Lib.hid hK
        replace i0 := Lib.hid i0
        replace i1 := Lib.hid i1
        replace i2 := Lib.hid i2
        replace i3 := Lib.hid i3
        replace i4 := Lib.hid i4
        replace i5 := Lib.hid i5
        replace i6 := Lib.hid i6
        replace i7 := Lib.hid i7
        replace i8 := Lib.hid i8
        replace i9 := Lib.hid i9
        replace i10 := Lib.hid i10
        have cb := (blk_at (hL.keep KA12.out)).1
        have fb := (blk_at (hL.keep KA12.out)).2.1
        have zb := (blk_at (hL.keep KA12.out)).2.2
        go_simp
        exact hK.out _ _ ⟨(keepB x12 (by decide)), (keepB x13 (by decide)), (keepB x6 (by decide)), (keepB x3 (by decide)), (fun _ => put_eq (by omega)), (keepF i1.out (by decide)), (keepF i2.out (by decide)), (keepF i3.out (by decide)), (keepF i4.out (by decide)), (keepF i5.out (by decide)), (keepF i6.out (by decide)), (keepF i7.out (by decide)), (keepF i8.out (by decide)), (keepF i9.out (by decide)), (keepF i10.out (by decide)), hL, hS⟩
      · unfold SlotStep
        intro g ac wc hn hk hr hI K' hK
        obtain ⟨x12, x13, x6, x3, i0, i1, i2, i3, i4, i5, i6, i7, i8, i9, i10, hL, hS⟩ := hI
        simp only [Region.binds] at hr
        simp at hr
        replace hK := Lib.hid hK
        replace i0 := Lib.hid i0
        replace i1 := Lib.hid i1
        replace i2 := Lib.hid i2
        replace i3 := Lib.hid i3
        replace i4 := Lib.hid i4
        replace i5 := Lib.hid i5
        replace i6 := Lib.hid i6
        replace i7 := Lib.hid i7
        replace i8 := Lib.hid i8
        replace i9 := Lib.hid i9
        replace i10 := Lib.hid i10
        go_simp
        exact hK.out _ _ ⟨(keepB x12 (by decide)), (keepB x13 (by decide)), (keepB x6 (by decide)), (keepB x3 (by decide)), (keepF i0.out (by decide)), (fun _ => put_eq (by omega)), (keepF i2.out (by decide)), (keepF i3.out (by decide)), (keepF i4.out (by decide)), (keepF i5.out (by decide)), (keepF i6.out (by decide)), (keepF i7.out (by decide)), (keepF i8.out (by decide)), (keepF i9.out (by decide)), (keepF i10.out (by decide)), hL, hS⟩
      · unfold SlotStep
        intro g ac wc hn hk hr hI K' hK
        obtain ⟨x12, x13, x6, x3, i0, i1, i2, i3, i4, i5, i6, i7, i8, i9, i10, hL, hS⟩ := hI
        simp only [Region.binds] at hr
        simp at hr
        replace hK := Lib.hid hK
        replace i0 := Lib.hid i0
        replace i1 := Lib.hid i1
        replace i2 := Lib.hid i2
        replace i3 := Lib.hid i3
        replace i4 := Lib.hid i4
        replace i5 := Lib.hid i5
        replace i6 := Lib.hid i6
        replace i7 := Lib.hid i7
        replace i8 := Lib.hid i8
        replace i9 := Lib.hid i9
        replace i10 := Lib.hid i10
        have cb := (blk_at (hL.keep KB2.out)).1
        have fb := (blk_at (hL.keep KB2.out)).2.1
        have zb := (blk_at (hL.keep KB2.out)).2.2
        go_simp
        exact hK.out _ _ ⟨(keepB x12 (by decide)), (keepB x13 (by decide)), (keepB x6 (by decide)), (keepB x3 (by decide)), (keepF i0.out (by decide)), (keepF i1.out (by decide)), (fun _ => put_eq (by omega)), (keepF i3.out (by decide)), (keepF i4.out (by decide)), (keepF i5.out (by decide)), (keepF i6.out (by decide)), (keepF i7.out (by decide)), (keepF i8.out (by decide)), (keepF i9.out (by decide)), (keepF i10.out (by decide)), hL, hS⟩
      · unfold SlotStep
        intro g ac wc hn hk hr hI K' hK
        obtain ⟨x12, x13, x6, x3, i0, i1, i2, i3, i4, i5, i6, i7, i8, i9, i10, hL, hS⟩ := hI
        simp only [Region.binds] at hr
        simp at hr
        replace hK := Lib.hid hK
        have y2 := i2 (by first | exact hr | exact hr.1 | exact hr.2 | exact hr.2.1 | exact hr.2.2 | exact hr.2.2.1 | exact hr.2.2.2 | simp [hr])
        replace i0 := Lib.hid i0
        replace i1 := Lib.hid i1
        replace i2 := Lib.hid i2
        replace i3 := Lib.hid i3
        replace i4 := Lib.hid i4
        replace i5 := Lib.hid i5
        replace i6 := Lib.hid i6
        replace i7 := Lib.hid i7
        replace i8 := Lib.hid i8
        replace i9 := Lib.hid i9
        replace i10 := Lib.hid i10
        go_simp
        refine (w_toErrors _ _ _ _).mono ?_
        rintro e w4 ⟨rfl, hL4⟩
        exact hK.out _ _ ⟨(keepB x12 (by decide)), (keepB x13 (by decide)), (keepB x6 (by decide)), (keepB x3 (by decide)), (keepF i0.out (by decide)), (keepF i1.out (by decide)), (keepF i2.out (by decide)), (fun _ => put_eq (by omega)), (keepF i4.out (by decide)), (keepF i5.out (by decide)), (keepF i6.out (by decide)), (keepF i7.out (by decide)), (keepF i8.out (by decide)), (keepF i9.out (by decide)), (keepF i10.out (by decide)), hL.trans hL4, Nat.le_trans hS hL4.size⟩
      · unfold SlotStep
        intro g ac wc hn hk hr hI K' hK
        obtain ⟨x12, x13, x6, x3, i0, i1, i2, i3, i4, i5, i6, i7, i8, i9, i10, hL, hS⟩ := hI
        simp only [Region.binds] at hr
        simp at hr
        replace hK := Lib.hid hK
        replace i0 := Lib.hid i0
        replace i1 := Lib.hid i1
        replace i2 := Lib.hid i2
        replace i3 := Lib.hid i3
        replace i4 := Lib.hid i4
        replace i5 := Lib.hid i5
        replace i6 := Lib.hid i6
        replace i7 := Lib.hid i7
        replace i8 := Lib.hid i8
        replace i9 := Lib.hid i9
        replace i10 := Lib.hid i10
        go_simp
        exact hK.out _ _ ⟨(keepB x12 (by decide)), (keepB x13 (by decide)), (keepB x6 (by decide)), (keepB x3 (by decide)), (keepF i0.out (by decide)), (keepF i1.out (by decide)), (keepF i2.out (by decide)), (keepF i3.out (by decide)), (fun _ => put_eq (by omega)), (keepF i5.out (by decide)), (keepF i6.out (by decide)), (keepF i7.out (by decide)), (keepF i8.out (by decide)), (keepF i9.out (by decide)), (keepF i10.out (by decide)), hL, hS⟩
      · unfold SlotStep
        intro g ac wc hn hk hr hI K' hK
        obtain ⟨x12, x13, x6, x3, i0, i1, i2, i3, i4, i5, i6, i7, i8, i9, i10, hL, hS⟩ := hI
        simp only [Region.binds] at hr
        simp at hr
        replace hK := Lib.hid hK
        have y0 := i0 (by first | exact hr | exact hr.1 | exact hr.2 | exact hr.2.1 | exact hr.2.2 | exact hr.2.2.1 | exact hr.2.2.2 | simp [hr])
        have y1 := i1 (by first | exact hr | exact hr.1 | exact hr.2 | exact hr.2.1 | exact hr.2.2 | exact hr.2.2.1 | exact hr.2.2.2 | simp [hr])
        have y3 := i3 (by first | exact hr | exact hr.1 | exact hr.2 | exact hr.2.1 | exact hr.2.2 | exact hr.2.2.1 | exact hr.2.2.2 | simp [hr])
        have y4 := i4 (by first | exact hr | exact hr.1 | exact hr.2 | exact hr.2.1 | exact hr.2.2 | exact hr.2.2.1 | exact hr.2.2.2 | simp [hr])
        replace i0 := Lib.hid i0
        replace i1 := Lib.hid i1
        replace i2 := Lib.hid i2
        replace i3 := Lib.hid i3
        replace i4 := Lib.hid i4
        replace i5 := Lib.hid i5
        replace i6 := Lib.hid i6
        replace i7 := Lib.hid i7
        replace i8 := Lib.hid i8
        replace i9 := Lib.hid i9
        replace i10 := Lib.hid i10
        go_simp
        refine (w_implErrorsFor _ _ _ _ _ _ _ _ _ _ _ _ (reads_of_owns (owns_later Oy6_0.out hL) (by omega)) (reads_of_owns (owns_later Oy6_1.out hL) (by omega)) (reads_of_owns (owns_later Oy7_0.out hL) (by omega))).mono ?_
        rintro e w4 ⟨rfl, hL4⟩
        rw [HRS0.out, HRS1.out]
        exact hK.out _ _ ⟨(keepB x12 (by decide)), (keepB x13 (by decide)), (keepB x6 (by decide)), (keepB x3 (by decide)), (keepF i0.out (by decide)), (keepF i1.out (by decide)), (keepF i2.out (by decide)), (keepF i3.out (by decide)), (keepF i4.out (by decide)), (fun _ => put_eq (by omega)), (keepF i6.out (by decide)), (keepF i7.out (by decide)), (keepF i8.out (by decide)), (keepF i9.out (by decide)), (keepF i10.out (by decide)), hL.trans hL4, Nat.le_trans hS hL4.size⟩
      · unfold SlotStep
        intro g ac wc hn hk hr hI K' hK
        obtain ⟨x12, x13, x6, x3, i0, i1, i2, i3, i4, i5, i6, i7, i8, i9, i10, hL, hS⟩ := hI
        simp only [Region.binds] at hr
        simp at hr
        replace hK := Lib.hid hK
        have y5 := i5 (by first | exact hr | exact hr.1 | exact hr.2 | exact hr.2.1 | exact hr.2.2 | exact hr.2.2.1 | exact hr.2.2.2 | simp [hr])
        replace i0 := Lib.hid i0
        replace i1 := Lib.hid i1
        replace i2 := Lib.hid i2
        replace i3 := Lib.hid i3
        replace i4 := Lib.hid i4
        replace i5 := Lib.hid i5
        replace i6 := Lib.hid i6
        replace i7 := Lib.hid i7
        replace i8 := Lib.hid i8
        replace i9 := Lib.hid i9
        replace i10 := Lib.hid i10
        go_simp
        exact hK.out _ _ ⟨(keepB x12 (by decide)), (keepB x13 (by decide)), (keepB x6 (by decide)), (keepB x3 (by decide)), (keepF i0.out (by decide)), (keepF i1.out (by decide)), (keepF i2.out (by decide)), (keepF i3.out (by decide)), (keepF i4.out (by decide)), (keepF i5.out (by decide)), (fun _ => put_eq (by omega)), (keepF i7.out (by decide)), (keepF i8.out (by decide)), (keepF i9.out (by decide)), (keepF i10.out (by decide)), hL, hS⟩
      · unfold SlotStep
        intro g ac wc hn hk hr hI K' hK
        obtain ⟨x12, x13, x6, x3, i0, i1, i2, i3, i4, i5, i6, i7, i8, i9, i10, hL, hS⟩ := hI
        simp only [Region.binds] at hr
        simp at hr
        replace hK := Lib.hid hK
        have y6 := i6 (by first | exact hr | exact hr.1 | exact hr.2 | exact hr.2.1 | exact hr.2.2 | exact hr.2.2.1 | exact hr.2.2.2 | simp [hr])
        replace i0 := Lib.hid i0
        replace i1 := Lib.hid i1
        replace i2 := Lib.hid i2
        replace i3 := Lib.hid i3
        replace i4 := Lib.hid i4
        replace i5 := Lib.hid i5
        replace i6 := Lib.hid i6
        replace i7 := Lib.hid i7
        replace i8 := Lib.hid i8
        replace i9 := Lib.hid i9
        replace i10 := Lib.hid i10
        go_simp
        exact hK.out _ _ ⟨(keepB x12 (by decide)), (keepB x13 (by decide)), (keepB x6 (by decide)), (keepB x3 (by decide)), (keepF i0.out (by decide)), (keepF i1.out (by decide)), (keepF i2.out (by decide)), (keepF i3.out (by decide)), (keepF i4.out (by decide)), (keepF i5.out (by decide)), (keepF i6.out (by decide)), (fun _ => put_eq (by omega)), (keepF i8.out (by decide)), (keepF i9.out (by decide)), (keepF i10.out (by decide)), hL, hS⟩
      · unfold SlotStep
        intro g ac wc hn hk hr hI K' hK
        obtain ⟨x12, x13, x6, x3, i0, i1, i2, i3, i4, i5, i6, i7, i8, i9, i10, hL, hS⟩ := hI
        simp only [Region.binds] at hr
        simp at hr
        replace hK := Lib.hid hK
        have y6 := i6 (by first | exact hr | exact hr.1 | exact hr.2 | exact hr.2.1 | exact hr.2.2 | exact hr.2.2.1 | exact hr.2.2.2 | simp [hr])
        replace i0 := Lib.hid i0
        replace i1 := Lib.hid i1
        replace i2 := Lib.hid i2
        replace i3 := Lib.hid i3
        replace i4 := Lib.hid i4
        replace i5 := Lib.hid i5
        replace i6 := Lib.hid i6
        replace i7 := Lib.hid i7
        replace i8 := Lib.hid i8
        replace i9 := Lib.hid i9
        replace i10 := Lib.hid i10
        go_simp
        exact hK.out _ _ ⟨(keepB x12 (by decide)), (keepB x13 (by decide)), (keepB x6 (by decide)), (keepB x3 (by decide)), (keepF i0.out (by decide)), (keepF i1.out (by decide)), (keepF i2.out (by decide)), (keepF i3.out (by decide)), (keepF i4.out (by decide)), (keepF i5.out (by decide)), (keepF i6.out (by decide)), (keepF i7.out (by decide)), (fun _ => put_eq (by omega)), (keepF i9.out (by decide)), (keepF i10.out (by decide)), hL, hS⟩
      · unfold SlotStep
        intro g ac wc hn hk hr hI K' hK
        obtain ⟨x12, x13, x6, x3, i0, i1, i2, i3, i4, i5, i6, i7, i8, i9, i10, hL, hS⟩ := hI
        simp only [Region.binds] at hr
        simp at hr
        replace hK := Lib.hid hK
        have y7 := i7 (by first | exact hr | exact hr.1 | exact hr.2 | exact hr.2.1 | exact hr.2.2 | exact hr.2.2.1 | exact hr.2.2.2 | simp [hr])
        replace i0 := Lib.hid i0
        replace i1 := Lib.hid i1
        replace i2 := Lib.hid i2
        replace i3 := Lib.hid i3
        replace i4 := Lib.hid i4
        replace i5 := Lib.hid i5
        replace i6 := Lib.hid i6
        replace i7 := Lib.hid i7
        replace i8 := Lib.hid i8
        replace i9 := Lib.hid i9
        replace i10 := Lib.hid i10
        go_simp
        exact hK.out _ _ ⟨(keepB x12 (by decide)), (keepB x13 (by decide)), (keepB x6 (by decide)), (keepB x3 (by decide)), (keepF i0.out (by decide)), (keepF i1.out (by decide)), (keepF i2.out (by decide)), (keepF i3.out (by decide)), (keepF i4.out (by decide)), (keepF i5.out (by decide)), (keepF i6.out (by decide)), (keepF i7.out (by decide)), (keepF i8.out (by decide)), (fun _ => put_eq (by omega)), (keepF i10.out (by decide)), hL, hS⟩
      · unfold SlotStep
        intro g ac wc hn hk hr hI K' hK
        obtain ⟨x12, x13, x6, x3, i0, i1, i2, i3, i4, i5, i6, i7, i8, i9, i10, hL, hS⟩ := hI
        simp only [Region.binds] at hr
        simp at hr
        replace hK := Lib.hid hK
        have y8 := i8 (by first | exact hr | exact hr.1 | exact hr.2 | exact hr.2.1 | exact hr.2.2 | exact hr.2.2.1 | exact hr.2.2.2 | simp [hr])
        replace i0 := Lib.hid i0
        replace i1 := Lib.hid i1
        replace i2 := Lib.hid i2
        replace i3 := Lib.hid i3
        replace i4 := Lib.hid i4
        replace i5 := Lib.hid i5
        replace i6 := Lib.hid i6
        replace i7 := Lib.hid i7
        replace i8 := Lib.hid i8
        replace i9 := Lib.hid i9
        replace i10 := Lib.hid i10
        go_simp
        exact hK.out _ _ ⟨(keepB x12 (by decide)), (keepB x13 (by decide)), (keepB x6 (by decide)), (keepB x3 (by decide)), (keepF i0.out (by decide)), (keepF i1.out (by decide)), (keepF i2.out (by decide)), (keepF i3.out (by decide)), (keepF i4.out (by decide)), (keepF i5.out (by decide)), (keepF i6.out (by decide)), (keepF i7.out (by decide)), (keepF i8.out (by decide)), (keepF i9.out (by decide)), (fun _ => put_eq (by omega)), hL, hS⟩
  · refine .cons ?_ (.cons ?_ (.cons ?_ (.cons ?_ (.cons ?_ (.cons ?_ (.cons ?_ (.cons ?_ (.cons ?_ (.cons ?_ (.cons ?_ (.cons ?_ (.cons ?_ .nil))))))))))))
    · unfold SlotStep
      intro g ac wc hn hk hr hI K' hK
      obtain ⟨x4, x1, x6, x3, i0, i1, i2, i3, i4, i5, i6, i7, i8, i9, i10, i11, i12, hL, m8_7, m9_7, m10_7, m11_7, m12_7, hS⟩ := hI
      simp only [Region.binds] at hr
      simp at hr
      replace hK := Lib.hid hK
      replace i0 := Lib.hid i0
      replace i1 := Lib.hid i1
      replace i2 := Lib.hid i2
      replace i3 := Lib.hid i3
      replace i4 := Lib.hid i4
      replace i5 := Lib.hid i5
      replace i6 := Lib.hid i6
      replace i7 := Lib.hid i7
      replace i8 := Lib.hid i8
      replace i9 := Lib.hid i9
      replace i10 := Lib.hid i10
      replace i11 := Lib.hid i11
      replace i12 := Lib.hid i12
      have cb := (blk_at (hL.keep KB0.out)).1
      have fb := (blk_at (hL.keep KB0.out)).2.1
      have zb := (blk_at (hL.keep KB0.out)).2.2
      go_simp
      exact hK.out _ _ ⟨(keepB x4 (by decide)), (keepB x1 (by decide)), (keepB x6 (by decide)), (keepB x3 (by decide)), (fun _ => put_eq (by omega)), (fun j => by obtain ⟨z28_0, z28_1, e0, ff⟩ := i1.out j; exact ⟨z28_0, z28_1, (put_ne (by decide)).trans e0, fun hu => ⟨(ff hu).1, (ff hu).2⟩⟩), (keepF i2.out (by decide)), (fun j => by obtain ⟨z30_0, e0, ff⟩ := i3.out j; exact ⟨z30_0, (put_ne (by decide)).trans e0, fun hu => ff hu⟩), (keepF i4.out (by decide)), (keepF i5.out (by decide)), (keepF i6.out (by decide)), (keepF i7.out (by decide)), (keepF i8.out (by decide)), (keepF i9.out (by decide)), (keepF i10.out (by decide)), (keepF i11.out (by decide)), (keepF i12.out (by decide)), hL, m8_7, m9_7, m10_7, m11_7, m12_7, hS⟩
    · unfold SlotStep
      intro g ac wc hn hk hr hI K' hK
      obtain ⟨x4, x1, x6, x3, i0, i1, i2, i3, i4, i5, i6, i7, i8, i9, i10, i11, i12, hL, m8_7, m9_7, m10_7, m11_7, m12_7, hS⟩ := hI
      simp only [Region.binds] at hr
      simp at hr
      replace hK := Lib.hid hK
      have y0 := i0 (by first | exact hr | exact hr.1 | exact hr.2 | exact hr.2.1 | exact hr.2.2 | exact hr.2.2.1 | exact hr.2.2.2 | simp [hr])
      replace i0 := Lib.hid i0
      replace i1 := Lib.hid i1
      replace i2 := Lib.hid i2
      replace i3 := Lib.hid i3
      replace i4 := Lib.hid i4
      replace i5 := Lib.hid i5
      replace i6 := Lib.hid i6
      replace i7 := Lib.hid i7
      replace i8 := Lib.hid i8
      replace i9 := Lib.hid i9
      replace i10 := Lib.hid i10
      replace i11 := Lib.hid i11
      replace i12 := Lib.hid i12
      go_simp
      refine (w_toRule _ _ _ _ _ _ (R0a.out.later (HW.trans hL)) (R0b.out.later (HW.trans hL))).mono ?_
      rintro e w4 ⟨z28_0, z28_1, rfl, hL4, ho0, ho1⟩
      exact hK.out _ _ ⟨(keepB x4 (by decide)), (keepB x1 (by decide)), (keepB x6 (by decide)), (keepB x3 (by decide)), (keepF i0.out (by decide)), (fun _ => ⟨z28_0, z28_1, put_eq (by omega), fun _ => ⟨owns_base ho0 hS, owns_base ho1 hS⟩⟩), (keepF i2.out (by decide)), (fun j => by obtain ⟨z30_0, e0, ff⟩ := i3.out j; exact ⟨z30_0, (put_ne (by decide)).trans e0, fun hu => owns_later (ff hu) (hL4)⟩), (keepF i4.out (by decide)), (keepF i5.out (by decide)), (keepF i6.out (by decide)), (keepF i7.out (by decide)), (keepF i8.out (by decide)), (keepF i9.out (by decide)), (keepF i10.out (by decide)), (keepF i11.out (by decide)), (keepF i12.out (by decide)), hL.trans hL4, m8_7, m9_7, m10_7, m11_7, m12_7, Nat.le_trans hS hL4.size⟩
    · unfold SlotStep
      intro g ac wc hn hk hr hI K' hK
      obtain ⟨x4, x1, x6, x3, i0, i1, i2, i3, i4, i5, i6, i7, i8, i9, i10, i11, i12, hL, m8_7, m9_7, m10_7, m11_7, m12_7, hS⟩ := hI
      simp only [Region.binds] at hr
      simp at hr
      replace hK := Lib.hid hK
      replace i0 := Lib.hid i0
      replace i1 := Lib.hid i1
      replace i2 := Lib.hid i2
      replace i3 := Lib.hid i3
      replace i4 := Lib.hid i4
      replace i5 := Lib.hid i5
      replace i6 := Lib.hid i6
      replace i7 := Lib.hid i7
      replace i8 := Lib.hid i8
      replace i9 := Lib.hid i9
      replace i10 := Lib.hid i10
      replace i11 := Lib.hid i11
      replace i12 := Lib.hid i12
      go_simp
      exact hK.out _ _ ⟨(keepB x4 (by decide)), (keepB x1 (by decide)), (keepB x6 (by decide)), (keepB x3 (by decide)), (keepF i0.out (by decide)), (fun j => by obtain ⟨z28_0, z28_1, e0, ff⟩ := i1.out j; exact ⟨z28_0, z28_1, (put_ne (by decide)).trans e0, fun hu => ⟨(ff hu).1, (ff hu).2⟩⟩), (fun _ => put_eq (by omega)), (fun j => by obtain ⟨z30_0, e0, ff⟩ := i3.out j; exact ⟨z30_0, (put_ne (by decide)).trans e0, fun hu => ff hu⟩), (keepF i4.out (by decide)), (keepF i5.out (by decide)), (keepF i6.out (by decide)), (keepF i7.out (by decide)), (keepF i8.out (by decide)), (keepF i9.out (by decide)), (keepF i10.out (by decide)), (keepF i11.out (by decide)), (keepF i12.out (by decide)), hL, m8_7, m9_7, m10_7, m11_7, m12_7, hS⟩
    · unfold SlotStep
      intro g ac wc hn hk hr hI K' hK
      obtain ⟨x4, x1, x6, x3, i0, i1, i2, i3, i4, i5, i6, i7, i8, i9, i10, i11, i12, hL, m8_7, m9_7, m10_7, m11_7, m12_7, hS⟩ := hI
      simp only [Region.binds] at hr
      simp at hr
      replace hK := Lib.hid hK
      have y2 := i2 (by first | exact hr | exact hr.1 | exact hr.2 | exact hr.2.1 | exact hr.2.2 | exact hr.2.2.1 | exact hr.2.2.2 | simp [hr])
      replace i0 := Lib.hid i0
      replace i1 := Lib.hid i1
      replace i2 := Lib.hid i2
      replace i3 := Lib.hid i3
      replace i4 := Lib.hid i4
      replace i5 := Lib.hid i5
      replace i6 := Lib.hid i6
      replace i7 := Lib.hid i7
      replace i8 := Lib.hid i8
      replace i9 := Lib.hid i9
      replace i10 := Lib.hid i10
      replace i11 := Lib.hid i11
      replace i12 := Lib.hid i12
      go_simp
      refine (w_toTermS _ _ _ (R1.out.later (HW.trans hL))).mono ?_
      rintro e w4 ⟨z30_0, rfl, hL4, ho0⟩
      exact hK.out _ _ ⟨(keepB x4 (by decide)), (keepB x1 (by decide)), (keepB x6 (by decide)), (keepB x3 (by decide)), (keepF i0.out (by decide)), (fun j => by obtain ⟨z28_0, z28_1, e0, ff⟩ := i1.out j; exact ⟨z28_0, z28_1, (put_ne (by decide)).trans e0, fun hu => ⟨owns_later ((ff hu).1) (hL4), owns_later ((ff hu).2) (hL4)⟩⟩), (keepF i2.out (by decide)), (fun _ => ⟨z30_0, put_eq (by omega), fun _ => owns_base ho0 hS⟩), (keepF i4.out (by decide)), (keepF i5.out (by decide)), (keepF i6.out (by decide)), (keepF i7.out (by decide)), (keepF i8.out (by decide)), (keepF i9.out (by decide)), (keepF i10.out (by decide)), (keepF i11.out (by decide)), (keepF i12.out (by decide)), hL.trans hL4, m8_7, m9_7, m10_7, m11_7, m12_7, Nat.le_trans hS hL4.size⟩
    · unfold SlotStep
      intro g ac wc hn hk hr hI K' hK
      obtain ⟨x4, x1, x6, x3, i0, i1, i2, i3, i4, i5, i6, i7, i8, i9, i10, i11, i12, hL, m8_7, m9_7, m10_7, m11_7, m12_7, hS⟩ := hI
      simp only [Region.binds] at hr
      simp at hr
      replace hK := Lib.hid hK
      replace i0 := Lib.hid i0
      replace i1 := Lib.hid i1
      replace i2 := Lib.hid i2
      replace i3 := Lib.hid i3
      replace i4 := Lib.hid i4
      replace i5 := Lib.hid i5
      replace i6 := Lib.hid i6
      replace i7 := Lib.hid i7
      replace i8 := Lib.hid i8
      replace i9 := Lib.hid i9
      replace i10 := Lib.hid i10
      replace i11 := Lib.hid i11
      replace i12 := Lib.hid i12
      have cb := (blk_at (hL.keep KB2.out)).1
      have fb := (blk_at (hL.keep KB2.out)).2.1
      have zb := (blk_at (hL.keep KB2.out)).2.2
      go_simp
      exact hK.out _ _ ⟨(keepB x4 (by decide)), (keepB x1 (by decide)), (keepB x6 (by decide)), (keepB x3 (by decide)), (keepF i0.out (by decide)), (fun j => by obtain ⟨z28_0, z28_1, e0, ff⟩ := i1.out j; exact ⟨z28_0, z28_1, (put_ne (by decide)).trans e0, fun hu => ⟨(ff hu).1, (ff hu).2⟩⟩), (keepF i2.out (by decide)), (fun j => by obtain ⟨z30_0, e0, ff⟩ := i3.out j; exact ⟨z30_0, (put_ne (by decide)).trans e0, fun hu => ff hu⟩), (fun _ => put_eq (by omega)), (keepF i5.out (by decide)), (keepF i6.out (by decide)), (keepF i7.out (by decide)), (keepF i8.out (by decide)), (keepF i9.out (by decide)), (keepF i10.out (by decide)), (keepF i11.out (by decide)), (keepF i12.out (by decide)), hL, m8_7, m9_7, m10_7, m11_7, m12_7, hS⟩
    · unfold SlotStep
      intro g ac wc hn hk hr hI K' hK
      obtain ⟨x4, x1, x6, x3, i0, i1, i2, i3, i4, i5, i6, i7, i8, i9, i10, i11, i12, hL, m8_7, m9_7, m10_7, m11_7, m12_7, hS⟩ := hI
      simp only [Region.binds] at hr
      simp at hr
      replace hK := Lib.hid hK
      have y4 := i4 (by first | exact hr | exact hr.1 | exact hr.2 | exact hr.2.1 | exact hr.2.2 | exact hr.2.2.1 | exact hr.2.2.2 | simp [hr])
      replace i0 := Lib.hid i0
      replace i1 := Lib.hid i1
      replace i2 := Lib.hid i2
      replace i3 := Lib.hid i3
      replace i4 := Lib.hid i4
      replace i5 := Lib.hid i5
      replace i6 := Lib.hid i6
      replace i7 := Lib.hid i7
      replace i8 := Lib.hid i8
      replace i9 := Lib.hid i9
      replace i10 := Lib.hid i10
      replace i11 := Lib.hid i11
      replace i12 := Lib.hid i12
      go_simp
      refine (w_toErrors _ _ _ _).mono ?_
      rintro e w4 ⟨rfl, hL4⟩
      exact hK.out _ _ ⟨(keepB x4 (by decide)), (keepB x1 (by decide)), (keepB x6 (by decide)), (keepB x3 (by decide)), (keepF i0.out (by decide)), (fun j => by obtain ⟨z28_0, z28_1, e0, ff⟩ := i1.out j; exact ⟨z28_0, z28_1, (put_ne (by decide)).trans e0, fun hu => ⟨owns_later ((ff hu).1) (hL4), owns_later ((ff hu).2) (hL4)⟩⟩), (keepF i2.out (by decide)), (fun j => by obtain ⟨z30_0, e0, ff⟩ := i3.out j; exact ⟨z30_0, (put_ne (by decide)).trans e0, fun hu => owns_later (ff hu) (hL4)⟩), (keepF i4.out (by decide)), (fun _ => put_eq (by omega)), (keepF i6.out (by decide)), (keepF i7.out (by decide)), (keepF i8.out (by decide)), (keepF i9.out (by decide)), (keepF i10.out (by decide)), (keepF i11.out (by decide)), (keepF i12.out (by decide)), hL.trans hL4, m8_7, m9_7, m10_7, m11_7, m12_7, Nat.le_trans hS hL4.size⟩
    · unfold SlotStep
      intro g ac wc hn hk hr hI K' hK
      obtain ⟨x4, x1, x6, x3, i0, i1, i2, i3, i4, i5, i6, i7, i8, i9, i10, i11, i12, hL, m8_7, m9_7, m10_7, m11_7, m12_7, hS⟩ := hI
      simp only [Region.binds] at hr
      simp at hr
      replace hK := Lib.hid hK
      replace i0 := Lib.hid i0
      replace i1 := Lib.hid i1
      replace i2 := Lib.hid i2
      replace i3 := Lib.hid i3
      replace i4 := Lib.hid i4
      replace i5 := Lib.hid i5
      replace i6 := Lib.hid i6
      replace i7 := Lib.hid i7
      replace i8 := Lib.hid i8
      replace i9 := Lib.hid i9
      replace i10 := Lib.hid i10
      replace i11 := Lib.hid i11
      replace i12 := Lib.hid i12
      go_simp
      exact hK.out _ _ ⟨(keepB x4 (by decide)), (keepB x1 (by decide)), (keepB x6 (by decide)), (keepB x3 (by decide)), (keepF i0.out (by decide)), (fun j => by obtain ⟨z28_0, z28_1, e0, ff⟩ := i1.out j; exact ⟨z28_0, z28_1, (put_ne (by decide)).trans e0, fun hu => ⟨(ff hu).1, (ff hu).2⟩⟩), (keepF i2.out (by decide)), (fun j => by obtain ⟨z30_0, e0, ff⟩ := i3.out j; exact ⟨z30_0, (put_ne (by decide)).trans e0, fun hu => ff hu⟩), (keepF i4.out (by decide)), (keepF i5.out (by decide)), (fun _ => put_eq (by omega)), (keepF i7.out (by decide)), (keepF i8.out (by decide)), (keepF i9.out (by decide)), (keepF i10.out (by decide)), (keepF i11.out (by decide)), (keepF i12.out (by decide)), hL, m8_7, m9_7, m10_7, m11_7, m12_7, hS⟩
    · unfold SlotStep
      intro g ac wc hn hk hr hI K' hK
      obtain ⟨x4, x1, x6, x3, i0, i1, i2, i3, i4, i5, i6, i7, i8, i9, i10, i11, i12, hL, m8_7, m9_7, m10_7, m11_7, m12_7, hS⟩ := hI
      simp only [Region.binds] at hr
      simp at hr
      replace hK := Lib.hid hK
      obtain ⟨z28_0, z28_1, y1, ff1⟩ := i1 (by first | exact hr | exact hr.1 | exact hr.2 | exact hr.2.1 | exact hr.2.2 | exact hr.2.2.1 | exact hr.2.2.2 | simp [hr])
      replace ff1 := ff1 hk
      obtain ⟨z30_0, y3, ff3⟩ := i3 (by first | exact hr | exact hr.1 | exact hr.2 | exact hr.2.1 | exact hr.2.2 | exact hr.2.2.1 | exact hr.2.2.2 | simp [hr])
      replace ff3 := ff3 hk
      have y5 := i5 (by first | exact hr | exact hr.1 | exact hr.2 | exact hr.2.1 | exact hr.2.2 | exact hr.2.2.1 | exact hr.2.2.2 | simp [hr])
      have y6 := i6 (by first | exact hr | exact hr.1 | exact hr.2 | exact hr.2.1 | exact hr.2.2 | exact hr.2.2.1 | exact hr.2.2.2 | simp [hr])
      replace i0 := Lib.hid i0
      replace i1 := Lib.hid i1
      replace i2 := Lib.hid i2
      replace i3 := Lib.hid i3
      replace i4 := Lib.hid i4
      replace i5 := Lib.hid i5
      replace i6 := Lib.hid i6
      replace i7 := Lib.hid i7
      replace i8 := Lib.hid i8
      replace i9 := Lib.hid i9
      replace i10 := Lib.hid i10
      replace i11 := Lib.hid i11
      replace i12 := Lib.hid i12
      go_simp
      refine (w_specErrorsFor _ _ _ _ _ _ _ _ _ _ _ _ (reads_of_owns ff1.1 (by omega)) (reads_of_owns ff1.2 (by omega)) (reads_of_owns ff3 (by omega))).mono ?_
      rintro e w4 ⟨rfl, hL4⟩
      rw [HRS0.out, HRS1.out]
      exact hK.out _ _ ⟨(keepB x4 (by decide)), (keepB x1 (by decide)), (keepB x6 (by decide)), (keepB x3 (by decide)), (keepF i0.out (by decide)), (fun j => by obtain ⟨z28_0, z28_1, e0, -⟩ := i1.out j; exact ⟨z28_0, z28_1, (put_ne (by decide)).trans e0, fun hu => absurd hu (by simp)⟩), (keepF i2.out (by decide)), (fun j => by obtain ⟨z30_0, e0, -⟩ := i3.out j; exact ⟨z30_0, (put_ne (by decide)).trans e0, fun hu => absurd hu (by simp)⟩), (keepF i4.out (by decide)), (keepF i5.out (by decide)), (keepF i6.out (by decide)), (fun _ => put_eq (by omega)), (keepF i8.out (by decide)), (keepF i9.out (by decide)), (keepF i10.out (by decide)), (keepF i11.out (by decide)), (keepF i12.out (by decide)), hL.trans hL4, (fun _ => rfl), (fun _ => rfl), (fun _ => rfl), (fun _ => rfl), (fun _ => rfl), Nat.le_trans hS hL4.size⟩
    · unfold SlotStep
      intro g ac wc hn hk hr hI K' hK
      obtain ⟨x4, x1, x6, x3, i0, i1, i2, i3, i4, i5, i6, i7, i8, i9, i10, i11, i12, hL, m8_7, m9_7, m10_7, m11_7, m12_7, hS⟩ := hI
      simp only [Region.binds] at hr
      simp at hr
      replace hK := Lib.hid hK
      have y7 := i7 (by first | exact hr | exact hr.1 | exact hr.2 | exact hr.2.1 | exact hr.2.2 | exact hr.2.2.1 | exact hr.2.2.2 | simp [hr])
      replace i0 := Lib.hid i0
      replace i1 := Lib.hid i1
      replace i2 := Lib.hid i2
      replace i3 := Lib.hid i3
      replace i4 := Lib.hid i4
      replace i5 := Lib.hid i5
      replace i6 := Lib.hid i6
      replace i7 := Lib.hid i7
      replace i8 := Lib.hid i8
      replace i9 := Lib.hid i9
      replace i10 := Lib.hid i10
      replace i11 := Lib.hid i11
      replace i12 := Lib.hid i12
      go_simp
      exact hK.out _ _ ⟨(keepB x4 (by decide)), (keepB x1 (by decide)), (keepB x6 (by decide)), (keepB x3 (by decide)), (keepF i0.out (by decide)), (fun j => by obtain ⟨z28_0, z28_1, e0, ff⟩ := i1.out j; exact ⟨z28_0, z28_1, (put_ne (by decide)).trans e0, fun hu => ⟨(ff hu).1, (ff hu).2⟩⟩), (keepF i2.out (by decide)), (fun j => by obtain ⟨z30_0, e0, ff⟩ := i3.out j; exact ⟨z30_0, (put_ne (by decide)).trans e0, fun hu => ff hu⟩), (keepF i4.out (by decide)), (keepF i5.out (by decide)), (keepF i6.out (by decide)), (keepF i7.out (by decide)), (fun _ => put_eq (by omega)), (keepF i9.out (by decide)), (keepF i10.out (by decide)), (keepF i11.out (by decide)), (keepF i12.out (by decide)), hL, (fun _ => by first | exact hr | exact hr.1 | exact hr.2 | exact hr.2.1 | exact hr.2.2 | simp [hr]), m9_7, m10_7, m11_7, m12_7, hS⟩
    · unfold SlotStep
      intro g ac wc hn hk hr hI K' hK
      obtain ⟨x4, x1, x6, x3, i0, i1, i2, i3, i4, i5, i6, i7, i8, i9, i10, i11, i12, hL, m8_7, m9_7, m10_7, m11_7, m12_7, hS⟩ := hI
      simp only [Region.binds] at hr
      simp at hr
      replace hK := Lib.hid hK
      have y8 := i8 (by first | exact hr | exact hr.1 | exact hr.2 | exact hr.2.1 | exact hr.2.2 | exact hr.2.2.1 | exact hr.2.2.2 | simp [hr])
      replace i0 := Lib.hid i0
      replace i1 := Lib.hid i1
      replace i2 := Lib.hid i2
      replace i3 := Lib.hid i3
      replace i4 := Lib.hid i4
      replace i5 := Lib.hid i5
      replace i6 := Lib.hid i6
      replace i7 := Lib.hid i7
      replace i8 := Lib.hid i8
      replace i9 := Lib.hid i9
      replace i10 := Lib.hid i10
      replace i11 := Lib.hid i11
      replace i12 := Lib.hid i12
      go_simp
      exact hK.out _ _ ⟨(keepB x4 (by decide)), (keepB x1 (by decide)), (keepB x6 (by decide)), (keepB x3 (by decide)), (keepF i0.out (by decide)), (fun j => by obtain ⟨z28_0, z28_1, e0, ff⟩ := i1.out j; exact ⟨z28_0, z28_1, (put_ne (by decide)).trans e0, fun hu => ⟨(ff hu).1, (ff hu).2⟩⟩), (keepF i2.out (by decide)), (fun j => by obtain ⟨z30_0, e0, ff⟩ := i3.out j; exact ⟨z30_0, (put_ne (by decide)).trans e0, fun hu => ff hu⟩), (keepF i4.out (by decide)), (keepF i5.out (by decide)), (keepF i6.out (by decide)), (keepF i7.out (by decide)), (keepF i8.out (by decide)), (fun _ => put_eq (by omega)), (keepF i10.out (by decide)), (keepF i11.out (by decide)), (keepF i12.out (by decide)), hL, m8_7, (fun _ => m8_7 (by first | exact hr | exact hr.1 | exact hr.2 | exact hr.2.1 | exact hr.2.2 | simp [hr])), m10_7, m11_7, m12_7, hS⟩
    · unfold SlotStep
      intro g ac wc hn hk hr hI K' hK
      obtain ⟨x4, x1, x6, x3, i0, i1, i2, i3, i4, i5, i6, i7, i8, i9, i10, i11, i12, hL, m8_7, m9_7, m10_7, m11_7, m12_7, hS⟩ := hI
      simp only [Region.binds] at hr
      simp at hr
      replace hK := Lib.hid hK
      have y8 := i8 (by first | exact hr | exact hr.1 | exact hr.2 | exact hr.2.1 | exact hr.2.2 | exact hr.2.2.1 | exact hr.2.2.2 | simp [hr])
      replace i0 := Lib.hid i0
      replace i1 := Lib.hid i1
      replace i2 := Lib.hid i2
      replace i3 := Lib.hid i3
      replace i4 := Lib.hid i4
      replace i5 := Lib.hid i5
      replace i6 := Lib.hid i6
      replace i7 := Lib.hid i7
      replace i8 := Lib.hid i8
      replace i9 := Lib.hid i9
      replace i10 := Lib.hid i10
      replace i11 := Lib.hid i11
      replace i12 := Lib.hid i12
      go_simp
      exact hK.out _ _ ⟨(keepB x4 (by decide)), (keepB x1 (by decide)), (keepB x6 (by decide)), (keepB x3 (by decide)), (keepF i0.out (by decide)), (fun j => by obtain ⟨z28_0, z28_1, e0, ff⟩ := i1.out j; exact ⟨z28_0, z28_1, (put_ne (by decide)).trans e0, fun hu => ⟨(ff hu).1, (ff hu).2⟩⟩), (keepF i2.out (by decide)), (fun j => by obtain ⟨z30_0, e0, ff⟩ := i3.out j; exact ⟨z30_0, (put_ne (by decide)).trans e0, fun hu => ff hu⟩), (keepF i4.out (by decide)), (keepF i5.out (by decide)), (keepF i6.out (by decide)), (keepF i7.out (by decide)), (keepF i8.out (by decide)), (keepF i9.out (by decide)), (fun _ => put_eq (by omega)), (keepF i11.out (by decide)), (keepF i12.out (by decide)), hL, m8_7, m9_7, (fun _ => m8_7 (by first | exact hr | exact hr.1 | exact hr.2 | exact hr.2.1 | exact hr.2.2 | simp [hr])), m11_7, m12_7, hS⟩
    · unfold SlotStep
      intro g ac wc hn hk hr hI K' hK
      obtain ⟨x4, x1, x6, x3, i0, i1, i2, i3, i4, i5, i6, i7, i8, i9, i10, i11, i12, hL, m8_7, m9_7, m10_7, m11_7, m12_7, hS⟩ := hI
      simp only [Region.binds] at hr
      simp at hr
      replace hK := Lib.hid hK
      have y9 := i9 (by first | exact hr | exact hr.1 | exact hr.2 | exact hr.2.1 | exact hr.2.2 | exact hr.2.2.1 | exact hr.2.2.2 | simp [hr])
      replace i0 := Lib.hid i0
      replace i1 := Lib.hid i1
      replace i2 := Lib.hid i2
      replace i3 := Lib.hid i3
      replace i4 := Lib.hid i4
      replace i5 := Lib.hid i5
      replace i6 := Lib.hid i6
      replace i7 := Lib.hid i7
      replace i8 := Lib.hid i8
      replace i9 := Lib.hid i9
      replace i10 := Lib.hid i10
      replace i11 := Lib.hid i11
      replace i12 := Lib.hid i12
      go_simp
      exact hK.out _ _ ⟨(keepB x4 (by decide)), (keepB x1 (by decide)), (keepB x6 (by decide)), (keepB x3 (by decide)), (keepF i0.out (by decide)), (fun j => by obtain ⟨z28_0, z28_1, e0, ff⟩ := i1.out j; exact ⟨z28_0, z28_1, (put_ne (by decide)).trans e0, fun hu => ⟨(ff hu).1, (ff hu).2⟩⟩), (keepF i2.out (by decide)), (fun j => by obtain ⟨z30_0, e0, ff⟩ := i3.out j; exact ⟨z30_0, (put_ne (by decide)).trans e0, fun hu => ff hu⟩), (keepF i4.out (by decide)), (keepF i5.out (by decide)), (keepF i6.out (by decide)), (keepF i7.out (by decide)), (keepF i8.out (by decide)), (keepF i9.out (by decide)), (keepF i10.out (by decide)), (fun _ => put_eq (by omega)), (keepF i12.out (by decide)), hL, m8_7, m9_7, m10_7, (fun _ => m9_7 (by first | exact hr | exact hr.1 | exact hr.2 | exact hr.2.1 | exact hr.2.2 | simp [hr])), m12_7, hS⟩
    · unfold SlotStep
      intro g ac wc hn hk hr hI K' hK
      obtain ⟨x4, x1, x6, x3, i0, i1, i2, i3, i4, i5, i6, i7, i8, i9, i10, i11, i12, hL, m8_7, m9_7, m10_7, m11_7, m12_7, hS⟩ := hI
      simp only [Region.binds] at hr
      simp at hr
      replace hK := Lib.hid hK
      have y10 := i10 (by first | exact hr | exact hr.1 | exact hr.2 | exact hr.2.1 | exact hr.2.2 | exact hr.2.2.1 | exact hr.2.2.2 | simp [hr])
      replace i0 := Lib.hid i0
      replace i1 := Lib.hid i1
      replace i2 := Lib.hid i2
      replace i3 := Lib.hid i3
      replace i4 := Lib.hid i4
      replace i5 := Lib.hid i5
      replace i6 := Lib.hid i6
      replace i7 := Lib.hid i7
      replace i8 := Lib.hid i8
      replace i9 := Lib.hid i9
      replace i10 := Lib.hid i10
      replace i11 := Lib.hid i11
      replace i12 := Lib.hid i12
      go_simp
      exact hK.out _ _ ⟨(keepB x4 (by decide)), (keepB x1 (by decide)), (keepB x6 (by decide)), (keepB x3 (by decide)), (keepF i0.out (by decide)), (fun j => by obtain ⟨z28_0, z28_1, e0, ff⟩ := i1.out j; exact ⟨z28_0, z28_1, (put_ne (by decide)).trans e0, fun hu => ⟨(ff hu).1, (ff hu).2⟩⟩), (keepF i2.out (by decide)), (fun j => by obtain ⟨z30_0, e0, ff⟩ := i3.out j; exact ⟨z30_0, (put_ne (by decide)).trans e0, fun hu => ff hu⟩), (keepF i4.out (by decide)), (keepF i5.out (by decide)), (keepF i6.out (by decide)), (keepF i7.out (by decide)), (keepF i8.out (by decide)), (keepF i9.out (by decide)), (keepF i10.out (by decide)), (keepF i11.out (by decide)), (fun _ => put_eq (by omega)), hL, m8_7, m9_7, m10_7, m11_7, (fun _ => m10_7 (by first | exact hr | exact hr.1 | exact hr.2 | exact hr.2.1 | exact hr.2.2 | simp [hr])), hS⟩

theorem lifted (os : Os) (started : os.Started) (H : Type) (enc : TypeId × Value → H) :
    ReturnsInHanded {} Tryz.checked os 7 .any (Rows.fnExactErrorsForSpec.pre6 enc Tryz.prog Tryz.f7 Rows.fnExactErrorsForRow.domain false) (Rows.fnExactErrorsForSpec.post enc Tryz.prog Tryz.f7 false true false false) := by
  refine returnsInHanded_of_change (C := Tryz.checked) o_own started (by kernel_rfl) Tryz.func7
    (ChangeSpec.witness6 (enc := enc) (C := Tryz.checked) false ⟨#[], #[.agg #[.int .i64 0, .slice none 0 0, .slice none 0 0], .slice none 0 0, .agg #[.int .i64 0, .int .i64 0, .int .i64 0], .int .i64 0], []⟩ 8 (by kernel_rfl) (by kernel_rfl) (by kernel_rfl) (by kernel_rfl)) ?_
  intro W base args ds gs before hval0 hW hcnd _
  have hval : ∀ (j : Nat) t v, Tryz.f7.params[j]? = some t → args[j]? = some v → Value.okWide Tryz.prog W .any base t v := hval0
  have hW' := hW
  obtain ⟨p, q, hA0, hV, rfl, hfz, hnd⟩ := hW
  have hA : DataW.TrodAll enc Tryz.prog W 0 (fun _ => true) true Tryz.f7.params.toList args.toList ds p := hA0
  rw [Tryz.params7] at hA hval
  obtain ⟨v0, vs0, d0, ds0, p0, q0, hargs, rfl, rfl, h0, r0⟩ := trodAll_cons hA
  obtain ⟨v1, vs1, d1, ds1, p1, q1, rfl, rfl, rfl, h1, r1⟩ := trodAll_cons r0
  obtain ⟨v2, vs2, d2, ds2, p2, q2, rfl, rfl, rfl, h2, r2⟩ := trodAll_cons r1
  obtain ⟨v3, vs3, d3, ds3, p3, q3, rfl, rfl, rfl, h3, r3⟩ := trodAll_cons r2
  obtain ⟨rfl, rfl, rfl⟩ := trodAll_nil r3
  obtain rfl : args = #[v0, v1, v2, v3] := by cases args; simp_all
  obtain ⟨rfl, rfl⟩ := trodVars_none hV
  have k0 := h0
  have lt0 : ∀ x ∈ p0, x.block < W.heap.size := by obtain ⟨m, hm⟩ := k0; exact DataW.trod_lt m _ _ _ hm
  obtain ⟨rn0, v0a, v0b, l0a, l0b, rfl, w0a, w0b⟩ := o_lRule' (hval 0 24 v0 rfl rfl) h0
  obtain ⟨a1, len1, cap1, rfl⟩ := okWide_slice Tryz.underlying25 (hval 1 25 v1 rfl rfl)
  have k1 := h1
  have lt1 : ∀ x ∈ p1, x.block < W.heap.size := by obtain ⟨m, hm⟩ := k1; exact DataW.trod_lt m _ _ _ hm
  obtain ⟨l1, w1⟩ := o_lTermS h1
  have k2 := h2
  have lt2 : ∀ x ∈ p2, x.block < W.heap.size := by obtain ⟨m, hm⟩ := k2; exact DataW.trod_lt m _ _ _ hm
  obtain ⟨ag2_0, ag2_1, ag2_2, rfl⟩ := o_lErrors' (hval 2 27 v2 rfl rfl) h2
  obtain ⟨ag3, rfl, rfl, rfl, wf3⟩ := open_int Tryz.underlying2 (hval 3 2 v3 rfl rfl) h3
  clear hA0 hval0
  refine (walk rn0 v0a v0b l0a l0b _ l1 ag2_0 ag2_1 ag2_2 ag3 W w0a w0b w1).mono fun e W' ⟨he, bel⟩ => ?_
  subst he
  exact ⟨_, rfl, _, _, _, [], _, [], hW', trodAll_mk1 (shut_bool Tryz.underlying4 _), (trodAll_cons_mk (Below.trod o_laidOut (by kernel_rfl) (of_decide_eq_true (by kernel_rfl)) k0 bel lt0) (trodAll_cons_mk (Below.trod o_laidOut (by kernel_rfl) (of_decide_eq_true (by kernel_rfl)) k1 bel lt1) (trodAll_cons_mk (Below.trod o_laidOut (by kernel_rfl) (of_decide_eq_true (by kernel_rfl)) k2 bel lt2) (trodAll_cons_mk (shut_int Tryz.underlying2 wf3) trodAll_mk0)))), rfl, bel.frame _, fun h => by cases h⟩

theorem over : Rows.fnExactErrorsForRow.holds Tryz.pinned (OpenSpec.ofChange Rows.fnExactErrorsForSpec) :=
  OpenClaim.holds_of_wide 7 Tryz.f7 rfl rfl rfl rfl rfl rfl rfl ⟨rfl, rfl, rfl, rfl, rfl⟩ rfl rfl rfl rfl rfl (by kernel_rfl) Tryz.func7 (by kernel_rfl)
    (of_decide_eq_true (by kernel_rfl)) (by unfold Func.isWrapper; first | (rw [if_pos (by decide +kernel)]; kernel_rfl) | (rw [if_neg (by decide +kernel)]; exact ⟨rfl, rfl⟩))
    (fun os started H enc _ => lifted os started H enc)

theorem proved : Rows.FnExactErrorsForSaid := over
#print axioms proved
end Go.Proofs.YtldojpelnghplaaGreat.lawErrorsFor
