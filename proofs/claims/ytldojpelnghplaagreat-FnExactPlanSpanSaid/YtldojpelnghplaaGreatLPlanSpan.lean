/- The program's PlanSpan: the span of a plan's result. It answers what the reference's function answers, for all arguments. No condition. -/
import Derived.Test.YtldojpelnghplaaGreatRows
import Derived.Test.YtldojpelnghplaaGreatO1
import Derived.Test.YtldojpelnghplaaGreatO2
import Derived.Test.YtldojpelnghplaaGreatBA
import Derived.Test.YtldojpelnghplaaGreatM71
import Derived.Test.YtldojpelnghplaaGreatHErrors
import Derived.Test.YtldojpelnghplaaGreatHRule
import Derived.Test.YtldojpelnghplaaGreatHTerm
namespace Go.Proofs.YtldojpelnghplaaGreat.lawPlanSpan
set_option linter.unusedVariables false
set_option linter.unusedSimpArgs false
open Go.ChangeShapes Go.WideShapes Go.ChangeAt Go.RowKit
set_option linter.unusedVariables false
set_option maxRecDepth 100000

set_option maxHeartbeats 4000000 in
theorem walk (rn0 : Int) (v0a v0b : Value) (l0a l0b : List Int) (v1 : Value) (l1 : List Trm) (ag2_0 ag2_1 ag2_2 : Int) (w : World) (r0a : Raw w v0a l0a.length 1 (nums l0a)) (r0b : Raw w v0b l0b.length 1 (nums l0b)) (r1 : Raw w v1 l1.length 3 (trms l1)) :
    Calls Tryz.prog 4 #[.agg #[.int .i64 rn0, v0a, v0b], v1, .agg #[.int .i64 ag2_0, .int .i64 ag2_1, .int .i64 ag2_2]] w fun e w' => e = .returned (.bool true) ∧ Later w w' := by
  by_cases hs0 : l0a.length + l0b.length ≤ 1048576
  rotate_left
  · have HW := Later.refl w
    obtain ⟨_, sx0a, cap0a, rfl, hcap0a, hmax0a, _⟩ := r0a
    obtain ⟨_, sx0b, cap0b, rfl, hcap0b, hmax0b, _⟩ := r0b
    obtain ⟨_, sx1, cap1, rfl, hcap1, hmax1, _⟩ := r1
    go_enter Tryz.func4, Tryz.ntmps4
    have hs : szR ((1048576 : Int)) l0a.length l0b.length = -1 := szR_no (by omega)
    have HS := Lib.hid hs
    clear hs
    go_wp2_with fail
    refine (w_szRule _ _ _ _ _ _ _ _ (by omega) (by omega) (by omega) (by omega) _).mono ?_
    rintro e u1 ⟨rfl, hL1⟩
    rw [HS.out]
    clear HS
    obtain ⟨hk0, hk1⟩ := kept2 hL1
    have KB0 := Lib.hid hk0
    have KB2 := Lib.hid hk1
    clear hk0 hk1
    replace hL1 := (((Later.refl _).alloc _).alloc _).trans hL1
    replace HW := HW.trans hL1
    clear hL1
    go_wp2
    go_ret
    exact ⟨rfl, HW⟩
  by_cases hs1 : l0a.length + l0b.length + l1.length ≤ 1048576
  rotate_left
  · have HW := Later.refl w
    obtain ⟨_, sx0a, cap0a, rfl, hcap0a, hmax0a, _⟩ := r0a
    obtain ⟨_, sx0b, cap0b, rfl, hcap0b, hmax0b, _⟩ := r0b
    obtain ⟨_, sx1, cap1, rfl, hcap1, hmax1, _⟩ := r1
    go_enter Tryz.func4, Tryz.ntmps4
    have hs : szR ((1048576 : Int)) l0a.length l0b.length = (1048576 : Int) - (l0a.length : Int) - (l0b.length : Int) := szR_ok (by omega)
    have HS := Lib.hid hs
    clear hs
    go_wp2_with fail
    refine (w_szRule _ _ _ _ _ _ _ _ (by omega) (by omega) (by omega) (by omega) _).mono ?_
    rintro e u2 ⟨rfl, hL2⟩
    rw [HS.out]
    clear HS
    obtain ⟨hk0, hk1⟩ := kept2 hL2
    have KB0 := Lib.hid hk0
    have KB2 := Lib.hid hk1
    clear hk0 hk1
    replace hL2 := (((Later.refl _).alloc _).alloc _).trans hL2
    replace HW := HW.trans hL2
    clear hL2
    have hs : (if (1048576 : Int) - (l0a.length : Int) - (l0b.length : Int) < (l1.length : Int) then (-1 : Int) else (1048576 : Int) - (l0a.length : Int) - (l0b.length : Int) - (l1.length : Int)) = -1 := if_pos (by omega)
    have HS := Lib.hid hs
    clear hs
    go_wp2_with fail
    refine (w_szTermS _ _ _ _ (by omega) (by omega) (by omega) _).mono ?_
    rintro e w' ⟨rfl, rfl⟩
    rw [HS.out]
    clear HS
    go_wp2
    go_ret
    exact ⟨rfl, HW⟩
  have R0a := Lib.hid (r0a.reads (by omega))
  have R0b := Lib.hid (r0b.reads (by omega))
  have R1 := Lib.hid (r1.reads (by omega))
  obtain ⟨RS0, hRS0⟩ : ∃ R : Fig, psL ⟨rn0, l0a, l0b⟩ l1 ⟨ag2_0, ag2_1, ag2_2⟩ = R := ⟨_, rfl⟩
  have HRS0 := Lib.hid hRS0
  clear hRS0
  obtain ⟨RS1, hRS1⟩ : ∃ R : Fig, psH ⟨rn0, l0a, l0b⟩ l1 ⟨ag2_0, ag2_1, ag2_2⟩ = R := ⟨_, rfl⟩
  have HRS1 := Lib.hid hRS1
  clear hRS1
  obtain ⟨RS2, hRS2⟩ : ∃ R : Int, psC ⟨rn0, l0a, l0b⟩ l1 ⟨ag2_0, ag2_1, ag2_2⟩ = R := ⟨_, rfl⟩
  have HRS2 := Lib.hid hRS2
  clear hRS2
  have HW := Later.refl w
  obtain ⟨_, sx0a, cap0a, rfl, hcap0a, hmax0a, _⟩ := r0a
  obtain ⟨_, sx0b, cap0b, rfl, hcap0b, hmax0b, _⟩ := r0b
  obtain ⟨_, sx1, cap1, rfl, hcap1, hmax1, _⟩ := r1
  go_enter Tryz.func4, Tryz.ntmps4
  have hs : szR ((1048576 : Int)) l0a.length l0b.length = (1048576 : Int) - (l0a.length : Int) - (l0b.length : Int) := szR_ok (by omega)
  have HS := Lib.hid hs
  clear hs
  go_wp2_with fail
  refine (w_szRule _ _ _ _ _ _ _ _ (by omega) (by omega) (by omega) (by omega) _).mono ?_
  rintro e u4 ⟨rfl, hL4⟩
  rw [HS.out]
  clear HS
  obtain ⟨hk0, hk1⟩ := kept2 hL4
  have KB0 := Lib.hid hk0
  have KB2 := Lib.hid hk1
  clear hk0 hk1
  replace hL4 := (((Later.refl _).alloc _).alloc _).trans hL4
  replace HW := HW.trans hL4
  clear hL4
  have hs : (if (1048576 : Int) - (l0a.length : Int) - (l0b.length : Int) < (l1.length : Int) then (-1 : Int) else (1048576 : Int) - (l0a.length : Int) - (l0b.length : Int) - (l1.length : Int)) = (1048576 : Int) - (l0a.length : Int) - (l0b.length : Int) - (l1.length : Int) := if_neg (by omega)
  have HS := Lib.hid hs
  clear hs
  go_wp2_with fail
  refine (w_szTermS _ _ _ _ (by omega) (by omega) (by omega) _).mono ?_
  rintro e w' ⟨rfl, rfl⟩
  rw [HS.out]
  clear HS
  go_wp2_with fail
  refine region_slots 75 [27, 28, 29, 30, 31, 32, 33, 26, 34, 35, 36, 8, 9, 10] (fun g ac wc => sl ac 3 = .pointer (some ⟨w.heap.size, 0, none⟩) ∧
    sl ac 1 = .slice sx1 l1.length cap1 ∧
    sl ac 5 = .pointer (some ⟨w.heap.size + 1, 0, none⟩) ∧
    (g 0 = true → sl ac 27 = .agg #[.int .i64 rn0, .slice sx0a l0a.length cap0a, .slice sx0b l0b.length cap0b]) ∧
    (g 1 = true → ∃ z28_0 z28_1 : Value, sl ac 28 = .agg #[.int .i64 rn0, z28_0, z28_1] ∧ (g 6 = false → wc.ownsRow u4.heap.size 2 1 z28_0 (l0a.length) (nums l0a) ∧ wc.ownsRow u4.heap.size 2 1 z28_1 (l0b.length) (nums l0b))) ∧
    (g 2 = true → sl ac 29 = .slice sx1 l1.length cap1) ∧
    (g 3 = true → ∃ z30_0 : Value, sl ac 30 = z30_0 ∧ (g 6 = false → wc.ownsRow u4.heap.size 64 3 z30_0 (l1.length) (trms l1))) ∧
    (g 4 = true → sl ac 31 = .agg #[.int .i64 ag2_0, .int .i64 ag2_1, .int .i64 ag2_2]) ∧
    (g 5 = true → sl ac 32 = .agg #[.int .i64 ag2_0, .int .i64 ag2_1, .int .i64 ag2_2]) ∧
    (g 6 = true → sl ac 33 = .tuple #[.agg #[.int .i64 RS0.d, .int .i64 RS0.t], .agg #[.int .i64 RS1.d, .int .i64 RS1.t], .int .i64 RS2]) ∧
    (g 7 = true → sl ac 26 = .tuple #[.agg #[.int .i64 RS0.d, .int .i64 RS0.t], .agg #[.int .i64 RS1.d, .int .i64 RS1.t], .int .i64 RS2]) ∧
    (g 8 = true → sl ac 34 = .agg #[.int .i64 RS0.d, .int .i64 RS0.t]) ∧
    (g 9 = true → sl ac 35 = .agg #[.int .i64 RS1.d, .int .i64 RS1.t]) ∧
    (g 10 = true → sl ac 36 = .int .i64 RS2) ∧
    (g 15 = true → sl ac 10 = .int .i64 RS2) ∧
    Later u4 wc ∧
    (g 11 = true → ∃ k, sl ac 8 = .pointer (some ⟨k, 0, none⟩) ∧ u4.heap.size ≤ k ∧ ∃ p11_0 p11_1, wc.heap[k]? = some (.cells #[p11_0, p11_1] 46 (0, 0)) ∧ (g 13 = true → p11_0 = .int .i64 RS0.d ∧ p11_1 = .int .i64 RS0.t)) ∧
    (g 12 = true → ∃ k, sl ac 9 = .pointer (some ⟨k, 0, none⟩) ∧ u4.heap.size ≤ k ∧ ∃ p12_0 p12_1, wc.heap[k]? = some (.cells #[p12_0, p12_1] 46 (0, 0)) ∧ (g 14 = true → p12_0 = .int .i64 RS1.d ∧ p12_1 = .int .i64 RS1.t)) ∧
    (g 11 = true → g 12 = true → sl ac 8 ≠ sl ac 9) ∧
    (g 13 = true → g 11 = true) ∧
    (g 14 = true → g 12 = true) ∧
    (g 7 = true → g 6 = true) ∧
    (g 8 = true → g 6 = true) ∧
    (g 9 = true → g 6 = true) ∧
    (g 10 = true → g 6 = true) ∧
    (g 15 = true → g 6 = true) ∧
    u4.heap.size ≤ wc.heap.size) (by kernel_rfl) (by kernel_rfl) rfl (by kernel_rfl) ?_ ?_ ?_
  · exact ⟨rfl, rfl, rfl, nofun, nofun, nofun, nofun, nofun, nofun, nofun, nofun, nofun, nofun, nofun, nofun, (Later.refl _).drew, nofun, nofun, nofun, nofun, nofun, nofun, nofun, nofun, nofun, nofun, Nat.le_refl _⟩
  · intro g ac ur hg ha hI
    obtain ⟨x3, x1, x5, i0, i1, i2, i3, i4, i5, i6, i7, i8, i9, i10, i15, hL, i11, i12, n11_12, -, -, -, -, -, -, -, hS⟩ := hI
    obtain ⟨kr11, e11, br11, p11_0, p11_1, Kr11, g11⟩ := i11 (hg 11 (by simp))
    have g11 := g11 (hg 13 (by simp))
    rw [g11.1, g11.2] at Kr11
    obtain ⟨kr12, e12, br12, p12_0, p12_1, Kr12, g12⟩ := i12 (hg 12 (by simp))
    have g12 := g12 (hg 14 (by simp))
    rw [g12.1, g12.2] at Kr12
    have a0 := i0 (hg 0 (by simp))
    obtain ⟨z28_0, z28_1, a1, -⟩ := i1 (hg 1 (by simp))
    have a2 := i2 (hg 2 (by simp))
    obtain ⟨z30_0, a3, -⟩ := i3 (hg 3 (by simp))
    have a4 := i4 (hg 4 (by simp))
    have a5 := i5 (hg 5 (by simp))
    have a6 := i6 (hg 6 (by simp))
    have a7 := i7 (hg 7 (by simp))
    have a8 := i8 (hg 8 (by simp))
    have a9 := i9 (hg 9 (by simp))
    have a10 := i10 (hg 10 (by simp))
    have a15 := i15 (hg 15 (by simp))
    have hner11_12 : kr11 ≠ kr12 := fun hh => n11_12 (hg 11 (by simp)) (hg 12 (by simp)) (by rw [e11, e12, hh])
    simp only [putAll, a0, a1, a2, a3, a4, a5, a6, a7, a8, a9, a10, a15, e11, e12] at ha
    simp only [Act.put, List.setIfInBounds_toArray, List.set_cons_succ, List.set_cons_zero] at ha
    rw [ha]
    clear x3 x1 x5 i0 i1 i2 i3 i4 i5 i6 i7 i8 i9 i10 i15 i11 i12 a0 a1 a2 a3 a4 a5 a6 a7 a8 a9 a10 a15 e11 e12 n11_12 g11 g12 hg ha
    replace KB0 := Lib.hid (hL.keep KB0.out)
    replace KB2 := Lib.hid (hL.keep KB2.out)
    have KA8 := Lib.hid Kr11
    clear Kr11
    have KA9 := Lib.hid Kr12
    clear Kr12
    replace HW := HW.trans hL
    clear hL hS
    obtain ⟨cB0, fB0, zB0⟩ := blk_at KB0.out
    go_wp2_with fail
    refine (w_toRuleS _ _ _ _ _ _ (R0a.out.later HW) (R0b.out.later HW)).mono ?_
    rintro e u6 ⟨y6_0, q6_0, y6_1, q6_1, rfl, hL6, ho0, ho1⟩
    clear cB0 fB0 zB0
    replace KB0 := Lib.hid (hL6.keep KB0.out)
    replace KB2 := Lib.hid (hL6.keep KB2.out)
    replace KA8 := Lib.hid (hL6.keep KA8.out)
    replace KA9 := Lib.hid (hL6.keep KA9.out)
    replace HW := HW.trans hL6
    clear hL6
    have Oy6_0 := Lib.hid ho0
    clear ho0
    have Oy6_1 := Lib.hid ho1
    clear ho1
    go_wp2_with fail
    refine (w_toTermS _ _ _ (R1.out.later (HW.alloc _))).mono ?_
    rintro e u7 ⟨y7_0, rfl, hL7, ho0⟩
    have KA11 := Lib.hid (kept1 hL7)
    replace hL7 := ((Later.refl _).alloc _).trans hL7
    replace KB0 := Lib.hid (hL7.keep KB0.out)
    replace KB2 := Lib.hid (hL7.keep KB2.out)
    replace KA8 := Lib.hid (hL7.keep KA8.out)
    replace KA9 := Lib.hid (hL7.keep KA9.out)
    replace Oy6_0 := Lib.hid (owns_later Oy6_0.out hL7)
    replace Oy6_1 := Lib.hid (owns_later Oy6_1.out hL7)
    replace HW := HW.trans hL7
    clear hL7
    have Oy7_0 := Lib.hid ho0
    clear ho0
    go_wp2_with fail
    refine region_slots 75 [42, 43, 44, 45, 46, 41, 47, 48, 49, 13, 14, 15] (fun g ac wc => sl ac 11 = .pointer (some ⟨u6.heap.size, 0, none⟩) ∧
      sl ac 12 = y7_0 ∧
      sl ac 5 = .pointer (some ⟨w.heap.size + 1, 0, none⟩) ∧
      (g 0 = true → sl ac 42 = .agg #[.int .i64 rn0, .slice y6_0 l0a.length q6_0, .slice y6_1 l0b.length q6_1]) ∧
      (g 1 = true → sl ac 43 = y7_0) ∧
      (g 2 = true → sl ac 44 = .agg #[.int .i64 ag2_0, .int .i64 ag2_1, .int .i64 ag2_2]) ∧
      (g 3 = true → sl ac 45 = .agg #[.int .i64 ag2_0, .int .i64 ag2_1, .int .i64 ag2_2]) ∧
      (g 4 = true → sl ac 46 = .tuple #[.agg #[.int .i64 RS0.d, .int .i64 RS0.t], .agg #[.int .i64 RS1.d, .int .i64 RS1.t], .int .i64 RS2]) ∧
      (g 5 = true → sl ac 41 = .tuple #[.agg #[.int .i64 RS0.d, .int .i64 RS0.t], .agg #[.int .i64 RS1.d, .int .i64 RS1.t], .int .i64 RS2]) ∧
      (g 6 = true → sl ac 47 = .agg #[.int .i64 RS0.d, .int .i64 RS0.t]) ∧
      (g 7 = true → sl ac 48 = .agg #[.int .i64 RS1.d, .int .i64 RS1.t]) ∧
      (g 8 = true → sl ac 49 = .int .i64 RS2) ∧
      (g 13 = true → sl ac 15 = .int .i64 RS2) ∧
      Later u7 wc ∧
      (g 9 = true → ∃ k, sl ac 13 = .pointer (some ⟨k, 0, none⟩) ∧ u7.heap.size ≤ k ∧ ∃ p9_0 p9_1, wc.heap[k]? = some (.cells #[p9_0, p9_1] 46 (0, 0)) ∧ (g 11 = true → p9_0 = .int .i64 RS0.d ∧ p9_1 = .int .i64 RS0.t)) ∧
      (g 10 = true → ∃ k, sl ac 14 = .pointer (some ⟨k, 0, none⟩) ∧ u7.heap.size ≤ k ∧ ∃ p10_0 p10_1, wc.heap[k]? = some (.cells #[p10_0, p10_1] 46 (0, 0)) ∧ (g 12 = true → p10_0 = .int .i64 RS1.d ∧ p10_1 = .int .i64 RS1.t)) ∧
      (g 9 = true → g 10 = true → sl ac 13 ≠ sl ac 14) ∧
      (g 11 = true → g 9 = true) ∧
      (g 12 = true → g 10 = true) ∧
      u7.heap.size ≤ wc.heap.size) (by kernel_rfl) (by kernel_rfl) rfl (by kernel_rfl) ?_ ?_ ?_
    · exact ⟨rfl, rfl, rfl, nofun, nofun, nofun, nofun, nofun, nofun, nofun, nofun, nofun, nofun, (Later.refl _).drew, nofun, nofun, nofun, nofun, nofun, Nat.le_refl _⟩
    · intro g ac us hg ha hI
      obtain ⟨x11, x12, x5, i0, i1, i2, i3, i4, i5, i6, i7, i8, i13, hL, i9, i10, n9_10, -, -, hS⟩ := hI
      obtain ⟨ks9, e9, bs9, p9_0, p9_1, Ks9, g9⟩ := i9 (hg 9 (by simp))
      have g9 := g9 (hg 11 (by simp))
      rw [g9.1, g9.2] at Ks9
      obtain ⟨ks10, e10, bs10, p10_0, p10_1, Ks10, g10⟩ := i10 (hg 10 (by simp))
      have g10 := g10 (hg 12 (by simp))
      rw [g10.1, g10.2] at Ks10
      have a0 := i0 (hg 0 (by simp))
      have a1 := i1 (hg 1 (by simp))
      have a2 := i2 (hg 2 (by simp))
      have a3 := i3 (hg 3 (by simp))
      have a4 := i4 (hg 4 (by simp))
      have a5 := i5 (hg 5 (by simp))
      have a6 := i6 (hg 6 (by simp))
      have a7 := i7 (hg 7 (by simp))
      have a8 := i8 (hg 8 (by simp))
      have a13 := i13 (hg 13 (by simp))
      have hnes9_10 : ks9 ≠ ks10 := fun hh => n9_10 (hg 9 (by simp)) (hg 10 (by simp)) (by rw [e9, e10, hh])
      simp only [putAll, a0, a1, a2, a3, a4, a5, a6, a7, a8, a13, e9, e10] at ha
      simp only [Act.put, List.setIfInBounds_toArray, List.set_cons_succ, List.set_cons_zero] at ha
      rw [ha]
      clear x11 x12 x5 i0 i1 i2 i3 i4 i5 i6 i7 i8 i13 i9 i10 a0 a1 a2 a3 a4 a5 a6 a7 a8 a13 e9 e10 n9_10 g9 g10 hg ha
      replace KB0 := Lib.hid (hL.keep KB0.out)
      replace KB2 := Lib.hid (hL.keep KB2.out)
      replace KA8 := Lib.hid (hL.keep KA8.out)
      replace KA9 := Lib.hid (hL.keep KA9.out)
      replace KA11 := Lib.hid (hL.keep KA11.out)
      have KA13 := Lib.hid Ks9
      clear Ks9
      have KA14 := Lib.hid Ks10
      clear Ks10
      replace Oy6_0 := Lib.hid (owns_later Oy6_0.out hL)
      replace Oy6_1 := Lib.hid (owns_later Oy6_1.out hL)
      replace Oy7_0 := Lib.hid (owns_later Oy7_0.out hL)
      replace HW := HW.trans hL
      clear hL hS
      obtain ⟨cA13, fA13, zA13⟩ := blk_at KA13.out
      obtain ⟨cA8, fA8, zA8⟩ := blk_at KA8.out
      go_wp2_with fail
      refine (w_eqFigure_same _ _ _).mono ?_
      rintro e u8 ⟨rfl, hL8⟩
      clear cA13 fA13 zA13 cA8 fA8 zA8
      replace KB0 := Lib.hid (hL8.keep KB0.out)
      replace KB2 := Lib.hid (hL8.keep KB2.out)
      replace KA8 := Lib.hid (hL8.keep KA8.out)
      replace KA9 := Lib.hid (hL8.keep KA9.out)
      replace KA11 := Lib.hid (hL8.keep KA11.out)
      replace KA13 := Lib.hid (hL8.keep KA13.out)
      replace KA14 := Lib.hid (hL8.keep KA14.out)
      replace Oy6_0 := Lib.hid (owns_later Oy6_0.out hL8)
      replace Oy6_1 := Lib.hid (owns_later Oy6_1.out hL8)
      replace Oy7_0 := Lib.hid (owns_later Oy7_0.out hL8)
      replace HW := HW.trans hL8
      clear hL8
      obtain ⟨cA14, fA14, zA14⟩ := blk_at KA14.out
      obtain ⟨cA9, fA9, zA9⟩ := blk_at KA9.out
      go_wp2_with fail
      refine (w_eqFigure_same _ _ _).mono ?_
      rintro e u9 ⟨rfl, hL9⟩
      clear cA14 fA14 zA14 cA9 fA9 zA9
      replace KB0 := Lib.hid (hL9.keep KB0.out)
      replace KB2 := Lib.hid (hL9.keep KB2.out)
      replace KA8 := Lib.hid (hL9.keep KA8.out)
      replace KA9 := Lib.hid (hL9.keep KA9.out)
      replace KA11 := Lib.hid (hL9.keep KA11.out)
      replace KA13 := Lib.hid (hL9.keep KA13.out)
      replace KA14 := Lib.hid (hL9.keep KA14.out)
      replace Oy6_0 := Lib.hid (owns_later Oy6_0.out hL9)
      replace Oy6_1 := Lib.hid (owns_later Oy6_1.out hL9)
      replace Oy7_0 := Lib.hid (owns_later Oy7_0.out hL9)
      replace HW := HW.trans hL9
      clear hL9
      go_wp2_with fail
      refine region_slots 75 [65, 66, 67, 68, 69] (fun g ac wc => sl ac 11 = .pointer (some ⟨u6.heap.size, 0, none⟩) ∧
        sl ac 3 = .pointer (some ⟨w.heap.size, 0, none⟩) ∧
        (g 0 = true → sl ac 65 = .agg #[.int .i64 rn0, .slice y6_0 l0a.length q6_0, .slice y6_1 l0b.length q6_1]) ∧
        (g 1 = true → sl ac 66 = .agg #[.int .i64 rn0, .slice sx0a l0a.length cap0a, .slice sx0b l0b.length cap0b]) ∧
        (g 2 = true → ∃ z67_0 z67_1 : Value, sl ac 67 = .agg #[.int .i64 rn0, z67_0, z67_1] ∧ (g 3 = false → wc.ownsRow u9.heap.size 2 1 z67_0 (l0a.length) (nums l0a) ∧ wc.ownsRow u9.heap.size 2 1 z67_1 (l0b.length) (nums l0b))) ∧
        (g 3 = true → sl ac 68 = .bool true) ∧
        (g 4 = true → sl ac 69 = .bool false) ∧
        Later u9 wc ∧
        (g 4 = true → g 3 = true) ∧
        u9.heap.size ≤ wc.heap.size) (by kernel_rfl) (by kernel_rfl) rfl (by kernel_rfl) ?_ ?_ ?_
      · exact ⟨rfl, rfl, nofun, nofun, nofun, nofun, nofun, (Later.refl _).drew, nofun, Nat.le_refl _⟩
      · intro g ac ut hg ha hI
        obtain ⟨x11, x3, i0, i1, i2, i3, i4, hL, -, hS⟩ := hI
        have a0 := i0 (hg 0 (by simp))
        have a1 := i1 (hg 1 (by simp))
        obtain ⟨z67_0, z67_1, a2, -⟩ := i2 (hg 2 (by simp))
        have a3 := i3 (hg 3 (by simp))
        have a4 := i4 (hg 4 (by simp))
        simp only [putAll, a0, a1, a2, a3, a4] at ha
        simp only [Act.put, List.setIfInBounds_toArray, List.set_cons_succ, List.set_cons_zero] at ha
        rw [ha]
        clear x11 x3 i0 i1 i2 i3 i4 a0 a1 a2 a3 a4 hg ha
        replace KB0 := Lib.hid (hL.keep KB0.out)
        replace KB2 := Lib.hid (hL.keep KB2.out)
        replace KA8 := Lib.hid (hL.keep KA8.out)
        replace KA9 := Lib.hid (hL.keep KA9.out)
        replace KA11 := Lib.hid (hL.keep KA11.out)
        replace KA13 := Lib.hid (hL.keep KA13.out)
        replace KA14 := Lib.hid (hL.keep KA14.out)
        replace Oy6_0 := Lib.hid (owns_later Oy6_0.out hL)
        replace Oy6_1 := Lib.hid (owns_later Oy6_1.out hL)
        replace Oy7_0 := Lib.hid (owns_later Oy7_0.out hL)
        replace HW := HW.trans hL
        clear hL hS
        go_wp2_with fail
        refine (w_toTermS _ _ _ (R1.out.later HW)).mono ?_
        rintro e u10 ⟨y10_0, rfl, hL10, ho0⟩
        replace KB0 := Lib.hid (hL10.keep KB0.out)
        replace KB2 := Lib.hid (hL10.keep KB2.out)
        replace KA8 := Lib.hid (hL10.keep KA8.out)
        replace KA9 := Lib.hid (hL10.keep KA9.out)
        replace KA11 := Lib.hid (hL10.keep KA11.out)
        replace KA13 := Lib.hid (hL10.keep KA13.out)
        replace KA14 := Lib.hid (hL10.keep KA14.out)
        replace Oy6_0 := Lib.hid (owns_later Oy6_0.out hL10)
        replace Oy6_1 := Lib.hid (owns_later Oy6_1.out hL10)
        replace Oy7_0 := Lib.hid (owns_later Oy7_0.out hL10)
        replace HW := HW.trans hL10
        clear hL10
        have Oy10_0 := Lib.hid ho0
        clear ho0
        go_wp2_with fail
        refine (w_eqTermS _ _ _ _ _ (reads_of_owns Oy7_0.out (by omega)) (reads_of_owns Oy10_0.out (by omega))).mono ?_
        rintro e u11 ⟨rfl, hL11⟩
        replace KB0 := Lib.hid (hL11.keep KB0.out)
        replace KB2 := Lib.hid (hL11.keep KB2.out)
        replace KA8 := Lib.hid (hL11.keep KA8.out)
        replace KA9 := Lib.hid (hL11.keep KA9.out)
        replace KA11 := Lib.hid (hL11.keep KA11.out)
        replace KA13 := Lib.hid (hL11.keep KA13.out)
        replace KA14 := Lib.hid (hL11.keep KA14.out)
        replace Oy6_0 := Lib.hid (owns_later Oy6_0.out hL11)
        replace Oy6_1 := Lib.hid (owns_later Oy6_1.out hL11)
        replace Oy7_0 := Lib.hid (owns_later Oy7_0.out hL11)
        replace Oy10_0 := Lib.hid (owns_later Oy10_0.out hL11)
        replace HW := HW.trans hL11
        clear hL11
        clear Oy10_0
        go_wp2
        go_ret
        exact ⟨rfl, HW⟩
      · refine .cons ?_ (.cons ?_ (.cons ?_ (.cons ?_ (.cons ?_ .nil))))
        · unfold SlotStep
          intro g ac wc hn hk hr hI K' hK
          obtain ⟨x11, x3, i0, i1, i2, i3, i4, hL, m4_3, hS⟩ := hI
          simp only [Region.binds] at hr
          simp at hr
          replace hK := Lib.hid hK
          replace i0 := Lib.hid i0
          replace i1 := Lib.hid i1
          replace i2 := Lib.hid i2
          replace i3 := Lib.hid i3
          replace i4 := Lib.hid i4
          have cb := (blk_at (hL.keep KA11.out)).1
          have fb := (blk_at (hL.keep KA11.out)).2.1
          have zb := (blk_at (hL.keep KA11.out)).2.2
          go_simp
          exact hK.out _ _ ⟨(keepB x11 (by decide)), (keepB x3 (by decide)), (fun _ => put_eq (by omega)), (keepF i1.out (by decide)), (fun j => by obtain ⟨z67_0, z67_1, e0, ff⟩ := i2.out j; exact ⟨z67_0, z67_1, (put_ne (by decide)).trans e0, fun hu => ⟨(ff hu).1, (ff hu).2⟩⟩), (keepF i3.out (by decide)), (keepF i4.out (by decide)), hL, m4_3, hS⟩
        · unfold SlotStep
          intro g ac wc hn hk hr hI K' hK
          obtain ⟨x11, x3, i0, i1, i2, i3, i4, hL, m4_3, hS⟩ := hI
          simp only [Region.binds] at hr
          simp at hr
          replace hK := Lib.hid hK
          replace i0 := Lib.hid i0
          replace i1 := Lib.hid i1
          replace i2 := Lib.hid i2
          replace i3 := Lib.hid i3
          replace i4 := Lib.hid i4
          have cb := (blk_at (hL.keep KB0.out)).1
          have fb := (blk_at (hL.keep KB0.out)).2.1
          have zb := (blk_at (hL.keep KB0.out)).2.2
          go_simp
          exact hK.out _ _ ⟨(keepB x11 (by decide)), (keepB x3 (by decide)), (keepF i0.out (by decide)), (fun _ => put_eq (by omega)), (fun j => by obtain ⟨z67_0, z67_1, e0, ff⟩ := i2.out j; exact ⟨z67_0, z67_1, (put_ne (by decide)).trans e0, fun hu => ⟨(ff hu).1, (ff hu).2⟩⟩), (keepF i3.out (by decide)), (keepF i4.out (by decide)), hL, m4_3, hS⟩
        · unfold SlotStep
          intro g ac wc hn hk hr hI K' hK
          obtain ⟨x11, x3, i0, i1, i2, i3, i4, hL, m4_3, hS⟩ := hI
          simp only [Region.binds] at hr
          simp at hr
          replace hK := Lib.hid hK
          have y1 := i1 (by first | exact hr | exact hr.1 | exact hr.2 | exact hr.2.1 | exact hr.2.2 | exact hr.2.2.1 | exact hr.2.2.2 | simp [hr])
          replace i0 := Lib.hid i0
          replace i1 := Lib.hid i1
          replace i2 := Lib.hid i2
          replace i3 := Lib.hid i3
          replace i4 := Lib.hid i4
          go_simp
          refine (w_toRule _ _ _ _ _ _ (R0a.out.later (HW.trans hL)) (R0b.out.later (HW.trans hL))).mono ?_
          rintro e w4 ⟨z67_0, z67_1, rfl, hL4, ho0, ho1⟩
          exact hK.out _ _ ⟨(keepB x11 (by decide)), (keepB x3 (by decide)), (keepF i0.out (by decide)), (keepF i1.out (by decide)), (fun _ => ⟨z67_0, z67_1, put_eq (by omega), fun _ => ⟨owns_base ho0 hS, owns_base ho1 hS⟩⟩), (keepF i3.out (by decide)), (keepF i4.out (by decide)), hL.trans hL4, m4_3, Nat.le_trans hS hL4.size⟩
        · unfold SlotStep
          intro g ac wc hn hk hr hI K' hK
          obtain ⟨x11, x3, i0, i1, i2, i3, i4, hL, m4_3, hS⟩ := hI
          simp only [Region.binds] at hr
          simp at hr
          replace hK := Lib.hid hK
          have y0 := i0 (by first | exact hr | exact hr.1 | exact hr.2 | exact hr.2.1 | exact hr.2.2 | exact hr.2.2.1 | exact hr.2.2.2 | simp [hr])
          obtain ⟨z67_0, z67_1, y2, ff2⟩ := i2 (by first | exact hr | exact hr.1 | exact hr.2 | exact hr.2.1 | exact hr.2.2 | exact hr.2.2.1 | exact hr.2.2.2 | simp [hr])
          replace ff2 := ff2 hk
          replace i0 := Lib.hid i0
          replace i1 := Lib.hid i1
          replace i2 := Lib.hid i2
          replace i3 := Lib.hid i3
          replace i4 := Lib.hid i4
          go_simp
          refine (w_eqRule_same _ _ _ _ _ _ _ _ (reads_of_owns (owns_later Oy6_0.out hL) (by omega)) (reads_of_owns (owns_later Oy6_1.out hL) (by omega)) (reads_of_owns ff2.1 (by omega)) (reads_of_owns ff2.2 (by omega))).mono ?_
          rintro e w4 ⟨rfl, hL4⟩
          exact hK.out _ _ ⟨(keepB x11 (by decide)), (keepB x3 (by decide)), (keepF i0.out (by decide)), (keepF i1.out (by decide)), (fun j => by obtain ⟨z67_0, z67_1, e0, -⟩ := i2.out j; exact ⟨z67_0, z67_1, (put_ne (by decide)).trans e0, fun hu => absurd hu (by simp)⟩), (fun _ => put_eq (by omega)), (keepF i4.out (by decide)), hL.trans hL4, (fun _ => rfl), Nat.le_trans hS hL4.size⟩
        · unfold SlotStep
          intro g ac wc hn hk hr hI K' hK
          obtain ⟨x11, x3, i0, i1, i2, i3, i4, hL, m4_3, hS⟩ := hI
          simp only [Region.binds] at hr
          simp at hr
          replace hK := Lib.hid hK
          have y3 := i3 (by first | exact hr | exact hr.1 | exact hr.2 | exact hr.2.1 | exact hr.2.2 | exact hr.2.2.1 | exact hr.2.2.2 | simp [hr])
          replace i0 := Lib.hid i0
          replace i1 := Lib.hid i1
          replace i2 := Lib.hid i2
          replace i3 := Lib.hid i3
          replace i4 := Lib.hid i4
          go_simp
          exact hK.out _ _ ⟨(keepB x11 (by decide)), (keepB x3 (by decide)), (keepF i0.out (by decide)), (keepF i1.out (by decide)), (fun j => by obtain ⟨z67_0, z67_1, e0, ff⟩ := i2.out j; exact ⟨z67_0, z67_1, (put_ne (by decide)).trans e0, fun hu => ⟨(ff hu).1, (ff hu).2⟩⟩), (keepF i3.out (by decide)), (fun _ => put_eq (by omega)), hL, (fun _ => by first | exact hr | exact hr.1 | exact hr.2 | exact hr.2.1 | exact hr.2.2 | simp [hr]), hS⟩
    · refine .cons ?_ (.cons ?_ (.cons ?_ (.cons ?_ (.cons ?_ (.cons ?_ (.cons ?_ (.cons ?_ (.cons ?_ (.cons ?_ (.cons ?_ (.cons ?_ (.cons ?_ (.cons ?_ .nil)))))))))))))
      · unfold SlotStep
        intro g ac wc hn hk hr hI K' hK
        obtain ⟨x11, x12, x5, i0, i1, i2, i3, i4, i5, i6, i7, i8, i13, hL, i9, i10, n9_10, q9, q10, hS⟩ := hI
        simp only [Region.binds] at hr
        simp at hr
        replace hK := Lib.hid hK
        replace i0 := Lib.hid i0
        replace i1 := Lib.hid i1
        replace i2 := Lib.hid i2
        replace i3 := Lib.hid i3
        replace i4 := Lib.hid i4
        replace i5 := Lib.hid i5
        replace i6 := Lib.hid i6
        replace i7 := Lib.hid i7
        replace i8 := Lib.hid i8
        replace i13 := Lib.hid i13
        have cb := (blk_at (hL.keep KA11.out)).1
        have fb := (blk_at (hL.keep KA11.out)).2.1
        have zb := (blk_at (hL.keep KA11.out)).2.2
        go_simp
        exact hK.out _ _ ⟨(keepB x11 (by decide)), (keepB x12 (by decide)), (keepB x5 (by decide)), (fun _ => put_eq (by omega)), (keepF i1.out (by decide)), (keepF i2.out (by decide)), (keepF i3.out (by decide)), (keepF i4.out (by decide)), (keepF i5.out (by decide)), (keepF i6.out (by decide)), (keepF i7.out (by decide)), (keepF i8.out (by decide)), (keepF i13.out (by decide)), hL, (fun j => by obtain ⟨k, e1, e2, p9_0, p9_1, e3, e4⟩ := i9 j; exact ⟨k, (put_ne (by decide)).trans e1, e2, p9_0, p9_1, e3, e4⟩), (fun j => by obtain ⟨k, e1, e2, p10_0, p10_1, e3, e4⟩ := i10 j; exact ⟨k, (put_ne (by decide)).trans e1, e2, p10_0, p10_1, e3, e4⟩), (fun j j' => by rw [put_ne (by decide), put_ne (by decide)]; exact n9_10 j j'), q9, q10, hS⟩
      · unfold SlotStep
        intro g ac wc hn hk hr hI K' hK
        obtain ⟨x11, x12, x5, i0, i1, i2, i3, i4, i5, i6, i7, i8, i13, hL, i9, i10, n9_10, q9, q10, hS⟩ := hI
        simp only [Region.binds] at hr
        simp at hr
        replace hK := Lib.hid hK
        replace i0 := Lib.hid i0
        replace i1 := Lib.hid i1
        replace i2 := Lib.hid i2
        replace i3 := Lib.hid i3
        replace i4 := Lib.hid i4
        replace i5 := Lib.hid i5
        replace i6 := Lib.hid i6
        replace i7 := Lib.hid i7
        replace i8 := Lib.hid i8
        replace i13 := Lib.hid i13
        go_simp
        exact hK.out _ _ ⟨(keepB x11 (by decide)), (keepB x12 (by decide)), (keepB x5 (by decide)), (keepF i0.out (by decide)), (fun _ => put_eq (by omega)), (keepF i2.out (by decide)), (keepF i3.out (by decide)), (keepF i4.out (by decide)), (keepF i5.out (by decide)), (keepF i6.out (by decide)), (keepF i7.out (by decide)), (keepF i8.out (by decide)), (keepF i13.out (by decide)), hL, (fun j => by obtain ⟨k, e1, e2, p9_0, p9_1, e3, e4⟩ := i9 j; exact ⟨k, (put_ne (by decide)).trans e1, e2, p9_0, p9_1, e3, e4⟩), (fun j => by obtain ⟨k, e1, e2, p10_0, p10_1, e3, e4⟩ := i10 j; exact ⟨k, (put_ne (by decide)).trans e1, e2, p10_0, p10_1, e3, e4⟩), (fun j j' => by rw [put_ne (by decide), put_ne (by decide)]; exact n9_10 j j'), q9, q10, hS⟩
      · unfold SlotStep
        intro g ac wc hn hk hr hI K' hK
        obtain ⟨x11, x12, x5, i0, i1, i2, i3, i4, i5, i6, i7, i8, i13, hL, i9, i10, n9_10, q9, q10, hS⟩ := hI
        simp only [Region.binds] at hr
        simp at hr
        replace hK := Lib.hid hK
        replace i0 := Lib.hid i0
        replace i1 := Lib.hid i1
        replace i2 := Lib.hid i2
        replace i3 := Lib.hid i3
        replace i4 := Lib.hid i4
        replace i5 := Lib.hid i5
        replace i6 := Lib.hid i6
        replace i7 := Lib.hid i7
        replace i8 := Lib.hid i8
        replace i13 := Lib.hid i13
        have cb := (blk_at (hL.keep KB2.out)).1
        have fb := (blk_at (hL.keep KB2.out)).2.1
        have zb := (blk_at (hL.keep KB2.out)).2.2
        go_simp
        exact hK.out _ _ ⟨(keepB x11 (by decide)), (keepB x12 (by decide)), (keepB x5 (by decide)), (keepF i0.out (by decide)), (keepF i1.out (by decide)), (fun _ => put_eq (by omega)), (keepF i3.out (by decide)), (keepF i4.out (by decide)), (keepF i5.out (by decide)), (keepF i6.out (by decide)), (keepF i7.out (by decide)), (keepF i8.out (by decide)), (keepF i13.out (by decide)), hL, (fun j => by obtain ⟨k, e1, e2, p9_0, p9_1, e3, e4⟩ := i9 j; exact ⟨k, (put_ne (by decide)).trans e1, e2, p9_0, p9_1, e3, e4⟩), (fun j => by obtain ⟨k, e1, e2, p10_0, p10_1, e3, e4⟩ := i10 j; exact ⟨k, (put_ne (by decide)).trans e1, e2, p10_0, p10_1, e3, e4⟩), (fun j j' => by rw [put_ne (by decide), put_ne (by decide)]; exact n9_10 j j'), q9, q10, hS⟩
      · unfold SlotStep
        intro g ac wc hn hk hr hI K' hK
        obtain ⟨x11, x12, x5, i0, i1, i2, i3, i4, i5, i6, i7, i8, i13, hL, i9, i10, n9_10, q9, q10, hS⟩ := hI
        simp only [Region.binds] at hr
        simp at hr
        replace hK := Lib.hid hK
        have y2 := i2 (by first | exact hr | exact hr.1 | exact hr.2 | exact hr.2.1 | exact hr.2.2 | exact hr.2.2.1 | exact hr.2.2.2 | simp [hr])
        replace i0 := Lib.hid i0
        replace i1 := Lib.hid i1
        replace i2 := Lib.hid i2
        replace i3 := Lib.hid i3
        replace i4 := Lib.hid i4
        replace i5 := Lib.hid i5
        replace i6 := Lib.hid i6
        replace i7 := Lib.hid i7
        replace i8 := Lib.hid i8
        replace i13 := Lib.hid i13
        go_simp
        refine (w_toErrors _ _ _ _).mono ?_
        rintro e w4 ⟨rfl, hL4⟩
        exact hK.out _ _ ⟨(keepB x11 (by decide)), (keepB x12 (by decide)), (keepB x5 (by decide)), (keepF i0.out (by decide)), (keepF i1.out (by decide)), (keepF i2.out (by decide)), (fun _ => put_eq (by omega)), (keepF i4.out (by decide)), (keepF i5.out (by decide)), (keepF i6.out (by decide)), (keepF i7.out (by decide)), (keepF i8.out (by decide)), (keepF i13.out (by decide)), hL.trans hL4, (fun j => by obtain ⟨k, e1, e2, p9_0, p9_1, e3, e4⟩ := i9 j; exact ⟨k, (put_ne (by decide)).trans e1, e2, p9_0, p9_1, hL4.keep e3, e4⟩), (fun j => by obtain ⟨k, e1, e2, p10_0, p10_1, e3, e4⟩ := i10 j; exact ⟨k, (put_ne (by decide)).trans e1, e2, p10_0, p10_1, hL4.keep e3, e4⟩), (fun j j' => by rw [put_ne (by decide), put_ne (by decide)]; exact n9_10 j j'), q9, q10, Nat.le_trans hS hL4.size⟩
      · unfold SlotStep
        intro g ac wc hn hk hr hI K' hK
        obtain ⟨x11, x12, x5, i0, i1, i2, i3, i4, i5, i6, i7, i8, i13, hL, i9, i10, n9_10, q9, q10, hS⟩ := hI
        simp only [Region.binds] at hr
        simp at hr
        replace hK := Lib.hid hK
        have y0 := i0 (by first | exact hr | exact hr.1 | exact hr.2 | exact hr.2.1 | exact hr.2.2 | exact hr.2.2.1 | exact hr.2.2.2 | simp [hr])
        have y1 := i1 (by first | exact hr | exact hr.1 | exact hr.2 | exact hr.2.1 | exact hr.2.2 | exact hr.2.2.1 | exact hr.2.2.2 | simp [hr])
        have y3 := i3 (by first | exact hr | exact hr.1 | exact hr.2 | exact hr.2.1 | exact hr.2.2 | exact hr.2.2.1 | exact hr.2.2.2 | simp [hr])
        replace i0 := Lib.hid i0
        replace i1 := Lib.hid i1
        replace i2 := Lib.hid i2
        replace i3 := Lib.hid i3
        replace i4 := Lib.hid i4
        replace i5 := Lib.hid i5
        replace i6 := Lib.hid i6
        replace i7 := Lib.hid i7
        replace i8 := Lib.hid i8
        replace i13 := Lib.hid i13
        go_simp
        refine (w_implPlanSpan _ _ _ _ _ _ _ _ _ _ _ (reads_of_owns (owns_later Oy6_0.out hL) (by omega)) (reads_of_owns (owns_later Oy6_1.out hL) (by omega)) (reads_of_owns (owns_later Oy7_0.out hL) (by omega))).mono ?_
        rintro e w4 ⟨rfl, hL4⟩
        rw [HRS0.out, HRS1.out, HRS2.out]
        exact hK.out _ _ ⟨(keepB x11 (by decide)), (keepB x12 (by decide)), (keepB x5 (by decide)), (keepF i0.out (by decide)), (keepF i1.out (by decide)), (keepF i2.out (by decide)), (keepF i3.out (by decide)), (fun _ => put_eq (by omega)), (keepF i5.out (by decide)), (keepF i6.out (by decide)), (keepF i7.out (by decide)), (keepF i8.out (by decide)), (keepF i13.out (by decide)), hL.trans hL4, (fun j => by obtain ⟨k, e1, e2, p9_0, p9_1, e3, e4⟩ := i9 j; exact ⟨k, (put_ne (by decide)).trans e1, e2, p9_0, p9_1, hL4.keep e3, e4⟩), (fun j => by obtain ⟨k, e1, e2, p10_0, p10_1, e3, e4⟩ := i10 j; exact ⟨k, (put_ne (by decide)).trans e1, e2, p10_0, p10_1, hL4.keep e3, e4⟩), (fun j j' => by rw [put_ne (by decide), put_ne (by decide)]; exact n9_10 j j'), q9, q10, Nat.le_trans hS hL4.size⟩
      · unfold SlotStep
        intro g ac wc hn hk hr hI K' hK
        obtain ⟨x11, x12, x5, i0, i1, i2, i3, i4, i5, i6, i7, i8, i13, hL, i9, i10, n9_10, q9, q10, hS⟩ := hI
        simp only [Region.binds] at hr
        simp at hr
        replace hK := Lib.hid hK
        have y4 := i4 (by first | exact hr | exact hr.1 | exact hr.2 | exact hr.2.1 | exact hr.2.2 | exact hr.2.2.1 | exact hr.2.2.2 | simp [hr])
        replace i0 := Lib.hid i0
        replace i1 := Lib.hid i1
        replace i2 := Lib.hid i2
        replace i3 := Lib.hid i3
        replace i4 := Lib.hid i4
        replace i5 := Lib.hid i5
        replace i6 := Lib.hid i6
        replace i7 := Lib.hid i7
        replace i8 := Lib.hid i8
        replace i13 := Lib.hid i13
        go_simp
        exact hK.out _ _ ⟨(keepB x11 (by decide)), (keepB x12 (by decide)), (keepB x5 (by decide)), (keepF i0.out (by decide)), (keepF i1.out (by decide)), (keepF i2.out (by decide)), (keepF i3.out (by decide)), (keepF i4.out (by decide)), (fun _ => put_eq (by omega)), (keepF i6.out (by decide)), (keepF i7.out (by decide)), (keepF i8.out (by decide)), (keepF i13.out (by decide)), hL, (fun j => by obtain ⟨k, e1, e2, p9_0, p9_1, e3, e4⟩ := i9 j; exact ⟨k, (put_ne (by decide)).trans e1, e2, p9_0, p9_1, e3, e4⟩), (fun j => by obtain ⟨k, e1, e2, p10_0, p10_1, e3, e4⟩ := i10 j; exact ⟨k, (put_ne (by decide)).trans e1, e2, p10_0, p10_1, e3, e4⟩), (fun j j' => by rw [put_ne (by decide), put_ne (by decide)]; exact n9_10 j j'), q9, q10, hS⟩
      · unfold SlotStep
        intro g ac wc hn hk hr hI K' hK
        obtain ⟨x11, x12, x5, i0, i1, i2, i3, i4, i5, i6, i7, i8, i13, hL, i9, i10, n9_10, q9, q10, hS⟩ := hI
        simp only [Region.binds] at hr
        simp at hr
        replace hK := Lib.hid hK
        have y5 := i5 (by first | exact hr | exact hr.1 | exact hr.2 | exact hr.2.1 | exact hr.2.2 | exact hr.2.2.1 | exact hr.2.2.2 | simp [hr])
        replace i0 := Lib.hid i0
        replace i1 := Lib.hid i1
        replace i2 := Lib.hid i2
        replace i3 := Lib.hid i3
        replace i4 := Lib.hid i4
        replace i5 := Lib.hid i5
        replace i6 := Lib.hid i6
        replace i7 := Lib.hid i7
        replace i8 := Lib.hid i8
        replace i13 := Lib.hid i13
        go_simp
        exact hK.out _ _ ⟨(keepB x11 (by decide)), (keepB x12 (by decide)), (keepB x5 (by decide)), (keepF i0.out (by decide)), (keepF i1.out (by decide)), (keepF i2.out (by decide)), (keepF i3.out (by decide)), (keepF i4.out (by decide)), (keepF i5.out (by decide)), (fun _ => put_eq (by omega)), (keepF i7.out (by decide)), (keepF i8.out (by decide)), (keepF i13.out (by decide)), hL, (fun j => by obtain ⟨k, e1, e2, p9_0, p9_1, e3, e4⟩ := i9 j; exact ⟨k, (put_ne (by decide)).trans e1, e2, p9_0, p9_1, e3, e4⟩), (fun j => by obtain ⟨k, e1, e2, p10_0, p10_1, e3, e4⟩ := i10 j; exact ⟨k, (put_ne (by decide)).trans e1, e2, p10_0, p10_1, e3, e4⟩), (fun j j' => by rw [put_ne (by decide), put_ne (by decide)]; exact n9_10 j j'), q9, q10, hS⟩
      · unfold SlotStep
        intro g ac wc hn hk hr hI K' hK
        obtain ⟨x11, x12, x5, i0, i1, i2, i3, i4, i5, i6, i7, i8, i13, hL, i9, i10, n9_10, q9, q10, hS⟩ := hI
        simp only [Region.binds] at hr
        simp at hr
        replace hK := Lib.hid hK
        have y5 := i5 (by first | exact hr | exact hr.1 | exact hr.2 | exact hr.2.1 | exact hr.2.2 | exact hr.2.2.1 | exact hr.2.2.2 | simp [hr])
        replace i0 := Lib.hid i0
        replace i1 := Lib.hid i1
        replace i2 := Lib.hid i2
        replace i3 := Lib.hid i3
        replace i4 := Lib.hid i4
        replace i5 := Lib.hid i5
        replace i6 := Lib.hid i6
        replace i7 := Lib.hid i7
        replace i8 := Lib.hid i8
        replace i13 := Lib.hid i13
        go_simp
        exact hK.out _ _ ⟨(keepB x11 (by decide)), (keepB x12 (by decide)), (keepB x5 (by decide)), (keepF i0.out (by decide)), (keepF i1.out (by decide)), (keepF i2.out (by decide)), (keepF i3.out (by decide)), (keepF i4.out (by decide)), (keepF i5.out (by decide)), (keepF i6.out (by decide)), (fun _ => put_eq (by omega)), (keepF i8.out (by decide)), (keepF i13.out (by decide)), hL, (fun j => by obtain ⟨k, e1, e2, p9_0, p9_1, e3, e4⟩ := i9 j; exact ⟨k, (put_ne (by decide)).trans e1, e2, p9_0, p9_1, e3, e4⟩), (fun j => by obtain ⟨k, e1, e2, p10_0, p10_1, e3, e4⟩ := i10 j; exact ⟨k, (put_ne (by decide)).trans e1, e2, p10_0, p10_1, e3, e4⟩), (fun j j' => by rw [put_ne (by decide), put_ne (by decide)]; exact n9_10 j j'), q9, q10, hS⟩
      · unfold SlotStep
        intro g ac wc hn hk hr hI K' hK
        obtain ⟨x11, x12, x5, i0, i1, i2, i3, i4, i5, i6, i7, i8, i13, hL, i9, i10, n9_10, q9, q10, hS⟩ := hI
        simp only [Region.binds] at hr
        simp at hr
        replace hK := Lib.hid hK
        have y5 := i5 (by first | exact hr | exact hr.1 | exact hr.2 | exact hr.2.1 | exact hr.2.2 | exact hr.2.2.1 | exact hr.2.2.2 | simp [hr])
        replace i0 := Lib.hid i0
        replace i1 := Lib.hid i1
        replace i2 := Lib.hid i2
        replace i3 := Lib.hid i3
        replace i4 := Lib.hid i4
        replace i5 := Lib.hid i5
        replace i6 := Lib.hid i6
        replace i7 := Lib.hid i7
        replace i8 := Lib.hid i8
        replace i13 := Lib.hid i13
        go_simp
        exact hK.out _ _ ⟨(keepB x11 (by decide)), (keepB x12 (by decide)), (keepB x5 (by decide)), (keepF i0.out (by decide)), (keepF i1.out (by decide)), (keepF i2.out (by decide)), (keepF i3.out (by decide)), (keepF i4.out (by decide)), (keepF i5.out (by decide)), (keepF i6.out (by decide)), (keepF i7.out (by decide)), (fun _ => put_eq (by omega)), (keepF i13.out (by decide)), hL, (fun j => by obtain ⟨k, e1, e2, p9_0, p9_1, e3, e4⟩ := i9 j; exact ⟨k, (put_ne (by decide)).trans e1, e2, p9_0, p9_1, e3, e4⟩), (fun j => by obtain ⟨k, e1, e2, p10_0, p10_1, e3, e4⟩ := i10 j; exact ⟨k, (put_ne (by decide)).trans e1, e2, p10_0, p10_1, e3, e4⟩), (fun j j' => by rw [put_ne (by decide), put_ne (by decide)]; exact n9_10 j j'), q9, q10, hS⟩
      · unfold SlotStep
        intro g ac wc hn hk hr hI K' hK
        obtain ⟨x11, x12, x5, i0, i1, i2, i3, i4, i5, i6, i7, i8, i13, hL, i9, i10, n9_10, q9, q10, hS⟩ := hI
        simp only [Region.binds] at hr
        simp at hr
        replace hK := Lib.hid hK
        replace i0 := Lib.hid i0
        replace i1 := Lib.hid i1
        replace i2 := Lib.hid i2
        replace i3 := Lib.hid i3
        replace i4 := Lib.hid i4
        replace i5 := Lib.hid i5
        replace i6 := Lib.hid i6
        replace i7 := Lib.hid i7
        replace i8 := Lib.hid i8
        replace i13 := Lib.hid i13
        go_simp
        refine hK.out _ _ ⟨(keepB x11 (by decide)), (keepB x12 (by decide)), (keepB x5 (by decide)), (keepF i0.out (by decide)), (keepF i1.out (by decide)), (keepF i2.out (by decide)), (keepF i3.out (by decide)), (keepF i4.out (by decide)), (keepF i5.out (by decide)), (keepF i6.out (by decide)), (keepF i7.out (by decide)), (keepF i8.out (by decide)), (keepF i13.out (by decide)), hL.alloc _, (fun _ => ⟨_, put_eq (by omega), hS, _, _, heap_alloc_new _ _, fun j6 => absurd ((q9 j6).symm.trans hk) (by simp)⟩), (fun j => by obtain ⟨k, e1, e2, p10_0, p10_1, e3, e4⟩ := i10 j; exact ⟨k, (put_ne (by decide)).trans e1, e2, p10_0, p10_1, heap_alloc_old _ _ e3, e4⟩), ?_, fun _ => rfl, q10, (by simp; omega)⟩
        · intro j j'
          obtain ⟨k, e1, e2, p10_0, p10_1, e3, e4⟩ := i10 j'
          have hlt := (Array.getElem?_eq_some_iff.1 e3).1
          have o1 : sl (ac.put (some 13) (.pointer (some ⟨wc.heap.size, 0, none⟩))) 14 = .pointer (some ⟨k, 0, none⟩) := (put_ne (by decide)).trans e1
          have o2 : sl (ac.put (some 13) (.pointer (some ⟨wc.heap.size, 0, none⟩))) 13 = .pointer (some ⟨wc.heap.size, 0, none⟩) := put_eq (by omega)
          intro hh
          have hh2 := (o2.symm.trans hh).trans o1
          simp at hh2 <;> omega
      · unfold SlotStep
        intro g ac wc hn hk hr hI K' hK
        obtain ⟨x11, x12, x5, i0, i1, i2, i3, i4, i5, i6, i7, i8, i13, hL, i9, i10, n9_10, q9, q10, hS⟩ := hI
        simp only [Region.binds] at hr
        simp at hr
        replace hK := Lib.hid hK
        replace i0 := Lib.hid i0
        replace i1 := Lib.hid i1
        replace i2 := Lib.hid i2
        replace i3 := Lib.hid i3
        replace i4 := Lib.hid i4
        replace i5 := Lib.hid i5
        replace i6 := Lib.hid i6
        replace i7 := Lib.hid i7
        replace i8 := Lib.hid i8
        replace i13 := Lib.hid i13
        go_simp
        refine hK.out _ _ ⟨(keepB x11 (by decide)), (keepB x12 (by decide)), (keepB x5 (by decide)), (keepF i0.out (by decide)), (keepF i1.out (by decide)), (keepF i2.out (by decide)), (keepF i3.out (by decide)), (keepF i4.out (by decide)), (keepF i5.out (by decide)), (keepF i6.out (by decide)), (keepF i7.out (by decide)), (keepF i8.out (by decide)), (keepF i13.out (by decide)), hL.alloc _, (fun j => by obtain ⟨k, e1, e2, p9_0, p9_1, e3, e4⟩ := i9 j; exact ⟨k, (put_ne (by decide)).trans e1, e2, p9_0, p9_1, heap_alloc_old _ _ e3, e4⟩), (fun _ => ⟨_, put_eq (by omega), hS, _, _, heap_alloc_new _ _, fun j6 => absurd ((q10 j6).symm.trans hk) (by simp)⟩), ?_, q9, fun _ => rfl, (by simp; omega)⟩
        · intro j j'
          obtain ⟨k, e1, e2, p9_0, p9_1, e3, e4⟩ := i9 j
          have hlt := (Array.getElem?_eq_some_iff.1 e3).1
          have o1 : sl (ac.put (some 14) (.pointer (some ⟨wc.heap.size, 0, none⟩))) 13 = .pointer (some ⟨k, 0, none⟩) := (put_ne (by decide)).trans e1
          have o2 : sl (ac.put (some 14) (.pointer (some ⟨wc.heap.size, 0, none⟩))) 14 = .pointer (some ⟨wc.heap.size, 0, none⟩) := put_eq (by omega)
          intro hh
          have hh2 := (o1.symm.trans hh).trans o2
          simp at hh2 <;> omega
      · unfold SlotStep
        intro g ac wc hn hk hr hI K' hK
        obtain ⟨x11, x12, x5, i0, i1, i2, i3, i4, i5, i6, i7, i8, i13, hL, i9, i10, n9_10, q9, q10, hS⟩ := hI
        simp only [Region.binds] at hr
        simp at hr
        replace hK := Lib.hid hK
        have y6 := i6 (by first | exact hr | exact hr.1 | exact hr.2 | exact hr.2.1 | exact hr.2.2 | exact hr.2.2.1 | exact hr.2.2.2 | simp [hr])
        replace i0 := Lib.hid i0
        replace i1 := Lib.hid i1
        replace i2 := Lib.hid i2
        replace i3 := Lib.hid i3
        replace i4 := Lib.hid i4
        replace i5 := Lib.hid i5
        replace i6 := Lib.hid i6
        replace i7 := Lib.hid i7
        replace i8 := Lib.hid i8
        replace i13 := Lib.hid i13
        have hda : g 9 = true := by first | exact hr | exact hr.1 | exact hr.2 | exact hr.2.1 | exact hr.2.2 | exact hr.2.2.1 | exact hr.2.2.2 | simp [hr]
        obtain ⟨k, e1, e2, p9_0, p9_1, e3, -⟩ := i9 hda
        have c0 := (blk_at e3).1
        have f0 := (blk_at e3).2.1
        have z0 := (blk_at e3).2.2
        go_simp
        exact hK.out undef _ ⟨x11, x12, x5, i0.out, i1.out, i2.out, i3.out, i4.out, i5.out, i6.out, i7.out, i8.out, i13.out, ((hL.setCell e2 _).setCell e2 _), (fun _ => ⟨k, e1, e2, _, _, two_set e3 _ _, fun _ => ⟨rfl, rfl⟩⟩), (fun j => by obtain ⟨k', e1', e2', p10_0, p10_1, e3', e4'⟩ := i10 j; have hne : k' ≠ k := (fun hh => n9_10 hda j (by rw [e1, e1', hh])); exact ⟨k', e1', e2', p10_0, p10_1, (other_set (other_set e3' hne _) hne _), e4'⟩), n9_10, (fun _ => hda), q10, (by simp; omega)⟩
      · unfold SlotStep
        intro g ac wc hn hk hr hI K' hK
        obtain ⟨x11, x12, x5, i0, i1, i2, i3, i4, i5, i6, i7, i8, i13, hL, i9, i10, n9_10, q9, q10, hS⟩ := hI
        simp only [Region.binds] at hr
        simp at hr
        replace hK := Lib.hid hK
        have y7 := i7 (by first | exact hr | exact hr.1 | exact hr.2 | exact hr.2.1 | exact hr.2.2 | exact hr.2.2.1 | exact hr.2.2.2 | simp [hr])
        replace i0 := Lib.hid i0
        replace i1 := Lib.hid i1
        replace i2 := Lib.hid i2
        replace i3 := Lib.hid i3
        replace i4 := Lib.hid i4
        replace i5 := Lib.hid i5
        replace i6 := Lib.hid i6
        replace i7 := Lib.hid i7
        replace i8 := Lib.hid i8
        replace i13 := Lib.hid i13
        have hda : g 10 = true := by first | exact hr | exact hr.1 | exact hr.2 | exact hr.2.1 | exact hr.2.2 | exact hr.2.2.1 | exact hr.2.2.2 | simp [hr]
        obtain ⟨k, e1, e2, p10_0, p10_1, e3, -⟩ := i10 hda
        have c0 := (blk_at e3).1
        have f0 := (blk_at e3).2.1
        have z0 := (blk_at e3).2.2
        go_simp
        exact hK.out undef _ ⟨x11, x12, x5, i0.out, i1.out, i2.out, i3.out, i4.out, i5.out, i6.out, i7.out, i8.out, i13.out, ((hL.setCell e2 _).setCell e2 _), (fun j => by obtain ⟨k', e1', e2', p9_0, p9_1, e3', e4'⟩ := i9 j; have hne : k' ≠ k := (fun hh => n9_10 j hda (by rw [e1, e1', hh])); exact ⟨k', e1', e2', p9_0, p9_1, (other_set (other_set e3' hne _) hne _), e4'⟩), (fun _ => ⟨k, e1, e2, _, _, two_set e3 _ _, fun _ => ⟨rfl, rfl⟩⟩), n9_10, q9, (fun _ => hda), (by simp; omega)⟩
      · unfold SlotStep
        intro g ac wc hn hk hr hI K' hK
        obtain ⟨x11, x12, x5, i0, i1, i2, i3, i4, i5, i6, i7, i8, i13, hL, i9, i10, n9_10, q9, q10, hS⟩ := hI
        simp only [Region.binds] at hr
        simp at hr
        replace hK := Lib.hid hK
        have y8 := i8 (by first | exact hr | exact hr.1 | exact hr.2 | exact hr.2.1 | exact hr.2.2 | exact hr.2.2.1 | exact hr.2.2.2 | simp [hr])
        replace i0 := Lib.hid i0
        replace i1 := Lib.hid i1
        replace i2 := Lib.hid i2
        replace i3 := Lib.hid i3
        replace i4 := Lib.hid i4
        replace i5 := Lib.hid i5
        replace i6 := Lib.hid i6
        replace i7 := Lib.hid i7
        replace i8 := Lib.hid i8
        replace i13 := Lib.hid i13
        go_simp
        exact hK.out _ _ ⟨(keepB x11 (by decide)), (keepB x12 (by decide)), (keepB x5 (by decide)), (keepF i0.out (by decide)), (keepF i1.out (by decide)), (keepF i2.out (by decide)), (keepF i3.out (by decide)), (keepF i4.out (by decide)), (keepF i5.out (by decide)), (keepF i6.out (by decide)), (keepF i7.out (by decide)), (keepF i8.out (by decide)), (fun _ => put_eq (by omega)), hL, (fun j => by obtain ⟨k, e1, e2, p9_0, p9_1, e3, e4⟩ := i9 j; exact ⟨k, (put_ne (by decide)).trans e1, e2, p9_0, p9_1, e3, e4⟩), (fun j => by obtain ⟨k, e1, e2, p10_0, p10_1, e3, e4⟩ := i10 j; exact ⟨k, (put_ne (by decide)).trans e1, e2, p10_0, p10_1, e3, e4⟩), (fun j j' => by rw [put_ne (by decide), put_ne (by decide)]; exact n9_10 j j'), q9, q10, hS⟩
  · refine .cons ?_ (.cons ?_ (.cons ?_ (.cons ?_ (.cons ?_ (.cons ?_ (.cons ?_ (.cons ?_ (.cons ?_ (.cons ?_ (.cons ?_ (.cons ?_ (.cons ?_ (.cons ?_ (.cons ?_ (.cons ?_ .nil)))))))))))))))
    · unfold SlotStep
      intro g ac wc hn hk hr hI K' hK
      obtain ⟨x3, x1, x5, i0, i1, i2, i3, i4, i5, i6, i7, i8, i9, i10, i15, hL, i11, i12, n11_12, q11, q12, m7_6, m8_6, m9_6, m10_6, m15_6, hS⟩ := hI
      simp only [Region.binds] at hr
      simp at hr
      replace hK := Lib.hid hK
      replace i0 := Lib.hid i0
      replace i1 := Lib.hid i1
      replace i2 := Lib.hid i2
      replace i3 := Lib.hid i3
      replace i4 := Lib.hid i4
      replace i5 := Lib.hid i5
      replace i6 := Lib.hid i6
      replace i7 := Lib.hid i7
      replace i8 := Lib.hid i8
      replace i9 := Lib.hid i9
      replace i10 := Lib.hid i10
      replace i15 := Lib.hid i15
      have cb := (blk_at (hL.keep KB0.out)).1
      have fb := (blk_at (hL.keep KB0.out)).2.1
      have zb := (blk_at (hL.keep KB0.out)).2.2
      go_simp
      exact hK.out _ _ ⟨(keepB x3 (by decide)), (keepB x1 (by decide)), (keepB x5 (by decide)), (fun _ => put_eq (by omega)), (fun j => by obtain ⟨z28_0, z28_1, e0, ff⟩ := i1.out j; exact ⟨z28_0, z28_1, (put_ne (by decide)).trans e0, fun hu => ⟨(ff hu).1, (ff hu).2⟩⟩), (keepF i2.out (by decide)), (fun j => by obtain ⟨z30_0, e0, ff⟩ := i3.out j; exact ⟨z30_0, (put_ne (by decide)).trans e0, fun hu => ff hu⟩), (keepF i4.out (by decide)), (keepF i5.out (by decide)), (keepF i6.out (by decide)), (keepF i7.out (by decide)), (keepF i8.out (by decide)), (keepF i9.out (by decide)), (keepF i10.out (by decide)), (keepF i15.out (by decide)), hL, (fun j => by obtain ⟨k, e1, e2, p11_0, p11_1, e3, e4⟩ := i11 j; exact ⟨k, (put_ne (by decide)).trans e1, e2, p11_0, p11_1, e3, e4⟩), (fun j => by obtain ⟨k, e1, e2, p12_0, p12_1, e3, e4⟩ := i12 j; exact ⟨k, (put_ne (by decide)).trans e1, e2, p12_0, p12_1, e3, e4⟩), (fun j j' => by rw [put_ne (by decide), put_ne (by decide)]; exact n11_12 j j'), q11, q12, m7_6, m8_6, m9_6, m10_6, m15_6, hS⟩
    · unfold SlotStep
      intro g ac wc hn hk hr hI K' hK
      obtain ⟨x3, x1, x5, i0, i1, i2, i3, i4, i5, i6, i7, i8, i9, i10, i15, hL, i11, i12, n11_12, q11, q12, m7_6, m8_6, m9_6, m10_6, m15_6, hS⟩ := hI
      simp only [Region.binds] at hr
      simp at hr
      replace hK := Lib.hid hK
      have y0 := i0 (by first | exact hr | exact hr.1 | exact hr.2 | exact hr.2.1 | exact hr.2.2 | exact hr.2.2.1 | exact hr.2.2.2 | simp [hr])
      replace i0 := Lib.hid i0
      replace i1 := Lib.hid i1
      replace i2 := Lib.hid i2
      replace i3 := Lib.hid i3
      replace i4 := Lib.hid i4
      replace i5 := Lib.hid i5
      replace i6 := Lib.hid i6
      replace i7 := Lib.hid i7
      replace i8 := Lib.hid i8
      replace i9 := Lib.hid i9
      replace i10 := Lib.hid i10
      replace i15 := Lib.hid i15
      go_simp
      refine (w_toRule _ _ _ _ _ _ (R0a.out.later (HW.trans hL)) (R0b.out.later (HW.trans hL))).mono ?_
      rintro e w4 ⟨z28_0, z28_1, rfl, hL4, ho0, ho1⟩
      exact hK.out _ _ ⟨(keepB x3 (by decide)), (keepB x1 (by decide)), (keepB x5 (by decide)), (keepF i0.out (by decide)), (fun _ => ⟨z28_0, z28_1, put_eq (by omega), fun _ => ⟨owns_base ho0 hS, owns_base ho1 hS⟩⟩), (keepF i2.out (by decide)), (fun j => by obtain ⟨z30_0, e0, ff⟩ := i3.out j; exact ⟨z30_0, (put_ne (by decide)).trans e0, fun hu => owns_later (ff hu) (hL4)⟩), (keepF i4.out (by decide)), (keepF i5.out (by decide)), (keepF i6.out (by decide)), (keepF i7.out (by decide)), (keepF i8.out (by decide)), (keepF i9.out (by decide)), (keepF i10.out (by decide)), (keepF i15.out (by decide)), hL.trans hL4, (fun j => by obtain ⟨k, e1, e2, p11_0, p11_1, e3, e4⟩ := i11 j; exact ⟨k, (put_ne (by decide)).trans e1, e2, p11_0, p11_1, hL4.keep e3, e4⟩), (fun j => by obtain ⟨k, e1, e2, p12_0, p12_1, e3, e4⟩ := i12 j; exact ⟨k, (put_ne (by decide)).trans e1, e2, p12_0, p12_1, hL4.keep e3, e4⟩), (fun j j' => by rw [put_ne (by decide), put_ne (by decide)]; exact n11_12 j j'), q11, q12, m7_6, m8_6, m9_6, m10_6, m15_6, Nat.le_trans hS hL4.size⟩
    · unfold SlotStep
      intro g ac wc hn hk hr hI K' hK
      obtain ⟨x3, x1, x5, i0, i1, i2, i3, i4, i5, i6, i7, i8, i9, i10, i15, hL, i11, i12, n11_12, q11, q12, m7_6, m8_6, m9_6, m10_6, m15_6, hS⟩ := hI
      simp only [Region.binds] at hr
      simp at hr
      replace hK := Lib.hid hK
      replace i0 := Lib.hid i0
      replace i1 := Lib.hid i1
      replace i2 := Lib.hid i2
      replace i3 := Lib.hid i3
      replace i4 := Lib.hid i4
      replace i5 := Lib.hid i5
      replace i6 := Lib.hid i6
      replace i7 := Lib.hid i7
      replace i8 := Lib.hid i8
      replace i9 := Lib.hid i9
      replace i10 := Lib.hid i10
      replace i15 := Lib.hid i15
      go_simp
      exact hK.out _ _ ⟨(keepB x3 (by decide)), (keepB x1 (by decide)), (keepB x5 (by decide)), (keepF i0.out (by decide)), (fun j => by obtain ⟨z28_0, z28_1, e0, ff⟩ := i1.out j; exact ⟨z28_0, z28_1, (put_ne (by decide)).trans e0, fun hu => ⟨(ff hu).1, (ff hu).2⟩⟩), (fun _ => put_eq (by omega)), (fun j => by obtain ⟨z30_0, e0, ff⟩ := i3.out j; exact ⟨z30_0, (put_ne (by decide)).trans e0, fun hu => ff hu⟩), (keepF i4.out (by decide)), (keepF i5.out (by decide)), (keepF i6.out (by decide)), (keepF i7.out (by decide)), (keepF i8.out (by decide)), (keepF i9.out (by decide)), (keepF i10.out (by decide)), (keepF i15.out (by decide)), hL, (fun j => by obtain ⟨k, e1, e2, p11_0, p11_1, e3, e4⟩ := i11 j; exact ⟨k, (put_ne (by decide)).trans e1, e2, p11_0, p11_1, e3, e4⟩), (fun j => by obtain ⟨k, e1, e2, p12_0, p12_1, e3, e4⟩ := i12 j; exact ⟨k, (put_ne (by decide)).trans e1, e2, p12_0, p12_1, e3, e4⟩), (fun j j' => by rw [put_ne (by decide), put_ne (by decide)]; exact n11_12 j j'), q11, q12, m7_6, m8_6, m9_6, m10_6, m15_6, hS⟩
    · unfold SlotStep
      intro g ac wc hn hk hr hI K' hK
      obtain ⟨x3, x1, x5, i0, i1, i2, i3, i4, i5, i6, i7, i8, i9, i10, i15, hL, i11, i12, n11_12, q11, q12, m7_6, m8_6, m9_6, m10_6, m15_6, hS⟩ := hI
      simp only [Region.binds] at hr
      simp at hr
      replace hK := Lib.hid hK
      have y2 := i2 (by first | exact hr | exact hr.1 | exact hr.2 | exact hr.2.1 | exact hr.2.2 | exact hr.2.2.1 | exact hr.2.2.2 | simp [hr])
      replace i0 := Lib.hid i0
      replace i1 := Lib.hid i1
      replace i2 := Lib.hid i2
      replace i3 := Lib.hid i3
      replace i4 := Lib.hid i4
      replace i5 := Lib.hid i5
      replace i6 := Lib.hid i6
      replace i7 := Lib.hid i7
      replace i8 := Lib.hid i8
      replace i9 := Lib.hid i9
      replace i10 := Lib.hid i10
      replace i15 := Lib.hid i15
      go_simp
      refine (w_toTermS _ _ _ (R1.out.later (HW.trans hL))).mono ?_
      rintro e w4 ⟨z30_0, rfl, hL4, ho0⟩
      exact hK.out _ _ ⟨(keepB x3 (by decide)), (keepB x1 (by decide)), (keepB x5 (by decide)), (keepF i0.out (by decide)), (fun j => by obtain ⟨z28_0, z28_1, e0, ff⟩ := i1.out j; exact ⟨z28_0, z28_1, (put_ne (by decide)).trans e0, fun hu => ⟨owns_later ((ff hu).1) (hL4), owns_later ((ff hu).2) (hL4)⟩⟩), (keepF i2.out (by decide)), (fun _ => ⟨z30_0, put_eq (by omega), fun _ => owns_base ho0 hS⟩), (keepF i4.out (by decide)), (keepF i5.out (by decide)), (keepF i6.out (by decide)), (keepF i7.out (by decide)), (keepF i8.out (by decide)), (keepF i9.out (by decide)), (keepF i10.out (by decide)), (keepF i15.out (by decide)), hL.trans hL4, (fun j => by obtain ⟨k, e1, e2, p11_0, p11_1, e3, e4⟩ := i11 j; exact ⟨k, (put_ne (by decide)).trans e1, e2, p11_0, p11_1, hL4.keep e3, e4⟩), (fun j => by obtain ⟨k, e1, e2, p12_0, p12_1, e3, e4⟩ := i12 j; exact ⟨k, (put_ne (by decide)).trans e1, e2, p12_0, p12_1, hL4.keep e3, e4⟩), (fun j j' => by rw [put_ne (by decide), put_ne (by decide)]; exact n11_12 j j'), q11, q12, m7_6, m8_6, m9_6, m10_6, m15_6, Nat.le_trans hS hL4.size⟩
    · unfold SlotStep
      intro g ac wc hn hk hr hI K' hK
      obtain ⟨x3, x1, x5, i0, i1, i2, i3, i4, i5, i6, i7, i8, i9, i10, i15, hL, i11, i12, n11_12, q11, q12, m7_6, m8_6, m9_6, m10_6, m15_6, hS⟩ := hI
      simp only [Region.binds] at hr
      simp at hr
      replace hK := Lib.hid hK
      replace i0 := Lib.hid i0
      replace i1 := Lib.hid i1
      replace i2 := Lib.hid i2
      replace i3 := Lib.hid i3
      replace i4 := Lib.hid i4
      replace i5 := Lib.hid i5
      replace i6 := Lib.hid i6
      replace i7 := Lib.hid i7
      replace i8 := Lib.hid i8
      replace i9 := Lib.hid i9
      replace i10 := Lib.hid i10
      replace i15 := Lib.hid i15
      have cb := (blk_at (hL.keep KB2.out)).1
      have fb := (blk_at (hL.keep KB2.out)).2.1
      have zb := (blk_at (hL.keep KB2.out)).2.2
      go_simp
      exact hK.out _ _ ⟨(keepB x3 (by decide)), (keepB x1 (by decide)), (keepB x5 (by decide)), (keepF i0.out (by decide)), (fun j => by obtain ⟨z28_0, z28_1, e0, ff⟩ := i1.out j; exact ⟨z28_0, z28_1, (put_ne (by decide)).trans e0, fun hu => ⟨(ff hu).1, (ff hu).2⟩⟩), (keepF i2.out (by decide)), (fun j => by obtain ⟨z30_0, e0, ff⟩ := i3.out j; exact ⟨z30_0, (put_ne (by decide)).trans e0, fun hu => ff hu⟩), (fun _ => put_eq (by omega)), (keepF i5.out (by decide)), (keepF i6.out (by decide)), (keepF i7.out (by decide)), (keepF i8.out (by decide)), (keepF i9.out (by decide)), (keepF i10.out (by decide)), (keepF i15.out (by decide)), hL, (fun j => by obtain ⟨k, e1, e2, p11_0, p11_1, e3, e4⟩ := i11 j; exact ⟨k, (put_ne (by decide)).trans e1, e2, p11_0, p11_1, e3, e4⟩), (fun j => by obtain ⟨k, e1, e2, p12_0, p12_1, e3, e4⟩ := i12 j; exact ⟨k, (put_ne (by decide)).trans e1, e2, p12_0, p12_1, e3, e4⟩), (fun j j' => by rw [put_ne (by decide), put_ne (by decide)]; exact n11_12 j j'), q11, q12, m7_6, m8_6, m9_6, m10_6, m15_6, hS⟩
    · unfold SlotStep
      intro g ac wc hn hk hr hI K' hK
      obtain ⟨x3, x1, x5, i0, i1, i2, i3, i4, i5, i6, i7, i8, i9, i10, i15, hL, i11, i12, n11_12, q11, q12, m7_6, m8_6, m9_6, m10_6, m15_6, hS⟩ := hI
      simp only [Region.binds] at hr
      simp at hr
      replace hK := Lib.hid hK
      have y4 := i4 (by first | exact hr | exact hr.1 | exact hr.2 | exact hr.2.1 | exact hr.2.2 | exact hr.2.2.1 | exact hr.2.2.2 | simp [hr])
      replace i0 := Lib.hid i0
      replace i1 := Lib.hid i1
      replace i2 := Lib.hid i2
      replace i3 := Lib.hid i3
      replace i4 := Lib.hid i4
      replace i5 := Lib.hid i5
      replace i6 := Lib.hid i6
      replace i7 := Lib.hid i7
      replace i8 := Lib.hid i8
      replace i9 := Lib.hid i9
      replace i10 := Lib.hid i10
      replace i15 := Lib.hid i15
      go_simp
      refine (w_toErrors _ _ _ _).mono ?_
      rintro e w4 ⟨rfl, hL4⟩
      exact hK.out _ _ ⟨(keepB x3 (by decide)), (keepB x1 (by decide)), (keepB x5 (by decide)), (keepF i0.out (by decide)), (fun j => by obtain ⟨z28_0, z28_1, e0, ff⟩ := i1.out j; exact ⟨z28_0, z28_1, (put_ne (by decide)).trans e0, fun hu => ⟨owns_later ((ff hu).1) (hL4), owns_later ((ff hu).2) (hL4)⟩⟩), (keepF i2.out (by decide)), (fun j => by obtain ⟨z30_0, e0, ff⟩ := i3.out j; exact ⟨z30_0, (put_ne (by decide)).trans e0, fun hu => owns_later (ff hu) (hL4)⟩), (keepF i4.out (by decide)), (fun _ => put_eq (by omega)), (keepF i6.out (by decide)), (keepF i7.out (by decide)), (keepF i8.out (by decide)), (keepF i9.out (by decide)), (keepF i10.out (by decide)), (keepF i15.out (by decide)), hL.trans hL4, (fun j => by obtain ⟨k, e1, e2, p11_0, p11_1, e3, e4⟩ := i11 j; exact ⟨k, (put_ne (by decide)).trans e1, e2, p11_0, p11_1, hL4.keep e3, e4⟩), (fun j => by obtain ⟨k, e1, e2, p12_0, p12_1, e3, e4⟩ := i12 j; exact ⟨k, (put_ne (by decide)).trans e1, e2, p12_0, p12_1, hL4.keep e3, e4⟩), (fun j j' => by rw [put_ne (by decide), put_ne (by decide)]; exact n11_12 j j'), q11, q12, m7_6, m8_6, m9_6, m10_6, m15_6, Nat.le_trans hS hL4.size⟩
    · unfold SlotStep
      intro g ac wc hn hk hr hI K' hK
      obtain ⟨x3, x1, x5, i0, i1, i2, i3, i4, i5, i6, i7, i8, i9, i10, i15, hL, i11, i12, n11_12, q11, q12, m7_6, m8_6, m9_6, m10_6, m15_6, hS⟩ := hI
      simp only [Region.binds] at hr
      simp at hr
      replace hK := Lib.hid hK
      obtain ⟨z28_0, z28_1, y1, ff1⟩ := i1 (by first | exact hr | exact hr.1 | exact hr.2 | exact hr.2.1 | exact hr.2.2 | exact hr.2.2.1 | exact hr.2.2.2 | simp [hr])
      replace ff1 := ff1 hk
      obtain ⟨z30_0, y3, ff3⟩ := i3 (by first | exact hr | exact hr.1 | exact hr.2 | exact hr.2.1 | exact hr.2.2 | exact hr.2.2.1 | exact hr.2.2.2 | simp [hr])
      replace ff3 := ff3 hk
      have y5 := i5 (by first | exact hr | exact hr.1 | exact hr.2 | exact hr.2.1 | exact hr.2.2 | exact hr.2.2.1 | exact hr.2.2.2 | simp [hr])
      replace i0 := Lib.hid i0
      replace i1 := Lib.hid i1
      replace i2 := Lib.hid i2
      replace i3 := Lib.hid i3
      replace i4 := Lib.hid i4
      replace i5 := Lib.hid i5
      replace i6 := Lib.hid i6
      replace i7 := Lib.hid i7
      replace i8 := Lib.hid i8
      replace i9 := Lib.hid i9
      replace i10 := Lib.hid i10
      replace i15 := Lib.hid i15
      go_simp
      refine (w_specPlanSpan _ _ _ _ _ _ _ _ _ _ _ (reads_of_owns ff1.1 (by omega)) (reads_of_owns ff1.2 (by omega)) (reads_of_owns ff3 (by omega))).mono ?_
      rintro e w4 ⟨rfl, hL4⟩
      rw [HRS0.out, HRS1.out, HRS2.out]
      exact hK.out _ _ ⟨(keepB x3 (by decide)), (keepB x1 (by decide)), (keepB x5 (by decide)), (keepF i0.out (by decide)), (fun j => by obtain ⟨z28_0, z28_1, e0, -⟩ := i1.out j; exact ⟨z28_0, z28_1, (put_ne (by decide)).trans e0, fun hu => absurd hu (by simp)⟩), (keepF i2.out (by decide)), (fun j => by obtain ⟨z30_0, e0, -⟩ := i3.out j; exact ⟨z30_0, (put_ne (by decide)).trans e0, fun hu => absurd hu (by simp)⟩), (keepF i4.out (by decide)), (keepF i5.out (by decide)), (fun _ => put_eq (by omega)), (keepF i7.out (by decide)), (keepF i8.out (by decide)), (keepF i9.out (by decide)), (keepF i10.out (by decide)), (keepF i15.out (by decide)), hL.trans hL4, (fun j => by obtain ⟨k, e1, e2, p11_0, p11_1, e3, e4⟩ := i11 j; exact ⟨k, (put_ne (by decide)).trans e1, e2, p11_0, p11_1, hL4.keep e3, e4⟩), (fun j => by obtain ⟨k, e1, e2, p12_0, p12_1, e3, e4⟩ := i12 j; exact ⟨k, (put_ne (by decide)).trans e1, e2, p12_0, p12_1, hL4.keep e3, e4⟩), (fun j j' => by rw [put_ne (by decide), put_ne (by decide)]; exact n11_12 j j'), q11, q12, (fun _ => rfl), (fun _ => rfl), (fun _ => rfl), (fun _ => rfl), (fun _ => rfl), Nat.le_trans hS hL4.size⟩
    · unfold SlotStep
      intro g ac wc hn hk hr hI K' hK
      obtain ⟨x3, x1, x5, i0, i1, i2, i3, i4, i5, i6, i7, i8, i9, i10, i15, hL, i11, i12, n11_12, q11, q12, m7_6, m8_6, m9_6, m10_6, m15_6, hS⟩ := hI
      simp only [Region.binds] at hr
      simp at hr
      replace hK := Lib.hid hK
      have y6 := i6 (by first | exact hr | exact hr.1 | exact hr.2 | exact hr.2.1 | exact hr.2.2 | exact hr.2.2.1 | exact hr.2.2.2 | simp [hr])
      replace i0 := Lib.hid i0
      replace i1 := Lib.hid i1
      replace i2 := Lib.hid i2
      replace i3 := Lib.hid i3
      replace i4 := Lib.hid i4
      replace i5 := Lib.hid i5
      replace i6 := Lib.hid i6
      replace i7 := Lib.hid i7
      replace i8 := Lib.hid i8
      replace i9 := Lib.hid i9
      replace i10 := Lib.hid i10
      replace i15 := Lib.hid i15
      go_simp
      exact hK.out _ _ ⟨(keepB x3 (by decide)), (keepB x1 (by decide)), (keepB x5 (by decide)), (keepF i0.out (by decide)), (fun j => by obtain ⟨z28_0, z28_1, e0, ff⟩ := i1.out j; exact ⟨z28_0, z28_1, (put_ne (by decide)).trans e0, fun hu => ⟨(ff hu).1, (ff hu).2⟩⟩), (keepF i2.out (by decide)), (fun j => by obtain ⟨z30_0, e0, ff⟩ := i3.out j; exact ⟨z30_0, (put_ne (by decide)).trans e0, fun hu => ff hu⟩), (keepF i4.out (by decide)), (keepF i5.out (by decide)), (keepF i6.out (by decide)), (fun _ => put_eq (by omega)), (keepF i8.out (by decide)), (keepF i9.out (by decide)), (keepF i10.out (by decide)), (keepF i15.out (by decide)), hL, (fun j => by obtain ⟨k, e1, e2, p11_0, p11_1, e3, e4⟩ := i11 j; exact ⟨k, (put_ne (by decide)).trans e1, e2, p11_0, p11_1, e3, e4⟩), (fun j => by obtain ⟨k, e1, e2, p12_0, p12_1, e3, e4⟩ := i12 j; exact ⟨k, (put_ne (by decide)).trans e1, e2, p12_0, p12_1, e3, e4⟩), (fun j j' => by rw [put_ne (by decide), put_ne (by decide)]; exact n11_12 j j'), q11, q12, (fun _ => by first | exact hr | exact hr.1 | exact hr.2 | exact hr.2.1 | exact hr.2.2 | simp [hr]), m8_6, m9_6, m10_6, m15_6, hS⟩
    · unfold SlotStep
      intro g ac wc hn hk hr hI K' hK
      obtain ⟨x3, x1, x5, i0, i1, i2, i3, i4, i5, i6, i7, i8, i9, i10, i15, hL, i11, i12, n11_12, q11, q12, m7_6, m8_6, m9_6, m10_6, m15_6, hS⟩ := hI
      simp only [Region.binds] at hr
      simp at hr
      replace hK := Lib.hid hK
      have y7 := i7 (by first | exact hr | exact hr.1 | exact hr.2 | exact hr.2.1 | exact hr.2.2 | exact hr.2.2.1 | exact hr.2.2.2 | simp [hr])
      replace i0 := Lib.hid i0
      replace i1 := Lib.hid i1
      replace i2 := Lib.hid i2
      replace i3 := Lib.hid i3
      replace i4 := Lib.hid i4
      replace i5 := Lib.hid i5
      replace i6 := Lib.hid i6
      replace i7 := Lib.hid i7
      replace i8 := Lib.hid i8
      replace i9 := Lib.hid i9
      replace i10 := Lib.hid i10
      replace i15 := Lib.hid i15
      go_simp
      exact hK.out _ _ ⟨(keepB x3 (by decide)), (keepB x1 (by decide)), (keepB x5 (by decide)), (keepF i0.out (by decide)), (fun j => by obtain ⟨z28_0, z28_1, e0, ff⟩ := i1.out j; exact ⟨z28_0, z28_1, (put_ne (by decide)).trans e0, fun hu => ⟨(ff hu).1, (ff hu).2⟩⟩), (keepF i2.out (by decide)), (fun j => by obtain ⟨z30_0, e0, ff⟩ := i3.out j; exact ⟨z30_0, (put_ne (by decide)).trans e0, fun hu => ff hu⟩), (keepF i4.out (by decide)), (keepF i5.out (by decide)), (keepF i6.out (by decide)), (keepF i7.out (by decide)), (fun _ => put_eq (by omega)), (keepF i9.out (by decide)), (keepF i10.out (by decide)), (keepF i15.out (by decide)), hL, (fun j => by obtain ⟨k, e1, e2, p11_0, p11_1, e3, e4⟩ := i11 j; exact ⟨k, (put_ne (by decide)).trans e1, e2, p11_0, p11_1, e3, e4⟩), (fun j => by obtain ⟨k, e1, e2, p12_0, p12_1, e3, e4⟩ := i12 j; exact ⟨k, (put_ne (by decide)).trans e1, e2, p12_0, p12_1, e3, e4⟩), (fun j j' => by rw [put_ne (by decide), put_ne (by decide)]; exact n11_12 j j'), q11, q12, m7_6, (fun _ => m7_6 (by first | exact hr | exact hr.1 | exact hr.2 | exact hr.2.1 | exact hr.2.2 | simp [hr])), m9_6, m10_6, m15_6, hS⟩
    · unfold SlotStep
      intro g ac wc hn hk hr hI K' hK
      obtain ⟨x3, x1, x5, i0, i1, i2, i3, i4, i5, i6, i7, i8, i9, i10, i15, hL, i11, i12, n11_12, q11, q12, m7_6, m8_6, m9_6, m10_6, m15_6, hS⟩ := hI
      simp only [Region.binds] at hr
      simp at hr
      replace hK := Lib.hid hK
      have y7 := i7 (by first | exact hr | exact hr.1 | exact hr.2 | exact hr.2.1 | exact hr.2.2 | exact hr.2.2.1 | exact hr.2.2.2 | simp [hr])
      replace i0 := Lib.hid i0
      replace i1 := Lib.hid i1
      replace i2 := Lib.hid i2
      replace i3 := Lib.hid i3
      replace i4 := Lib.hid i4
      replace i5 := Lib.hid i5
      replace i6 := Lib.hid i6
      replace i7 := Lib.hid i7
      replace i8 := Lib.hid i8
      replace i9 := Lib.hid i9
      replace i10 := Lib.hid i10
      replace i15 := Lib.hid i15
      go_simp
      exact hK.out _ _ ⟨(keepB x3 (by decide)), (keepB x1 (by decide)), (keepB x5 (by decide)), (keepF i0.out (by decide)), (fun j => by obtain ⟨z28_0, z28_1, e0, ff⟩ := i1.out j; exact ⟨z28_0, z28_1, (put_ne (by decide)).trans e0, fun hu => ⟨(ff hu).1, (ff hu).2⟩⟩), (keepF i2.out (by decide)), (fun j => by obtain ⟨z30_0, e0, ff⟩ := i3.out j; exact ⟨z30_0, (put_ne (by decide)).trans e0, fun hu => ff hu⟩), (keepF i4.out (by decide)), (keepF i5.out (by decide)), (keepF i6.out (by decide)), (keepF i7.out (by decide)), (keepF i8.out (by decide)), (fun _ => put_eq (by omega)), (keepF i10.out (by decide)), (keepF i15.out (by decide)), hL, (fun j => by obtain ⟨k, e1, e2, p11_0, p11_1, e3, e4⟩ := i11 j; exact ⟨k, (put_ne (by decide)).trans e1, e2, p11_0, p11_1, e3, e4⟩), (fun j => by obtain ⟨k, e1, e2, p12_0, p12_1, e3, e4⟩ := i12 j; exact ⟨k, (put_ne (by decide)).trans e1, e2, p12_0, p12_1, e3, e4⟩), (fun j j' => by rw [put_ne (by decide), put_ne (by decide)]; exact n11_12 j j'), q11, q12, m7_6, m8_6, (fun _ => m7_6 (by first | exact hr | exact hr.1 | exact hr.2 | exact hr.2.1 | exact hr.2.2 | simp [hr])), m10_6, m15_6, hS⟩
    · unfold SlotStep
      intro g ac wc hn hk hr hI K' hK
      obtain ⟨x3, x1, x5, i0, i1, i2, i3, i4, i5, i6, i7, i8, i9, i10, i15, hL, i11, i12, n11_12, q11, q12, m7_6, m8_6, m9_6, m10_6, m15_6, hS⟩ := hI
      simp only [Region.binds] at hr
      simp at hr
      replace hK := Lib.hid hK
      have y7 := i7 (by first | exact hr | exact hr.1 | exact hr.2 | exact hr.2.1 | exact hr.2.2 | exact hr.2.2.1 | exact hr.2.2.2 | simp [hr])
      replace i0 := Lib.hid i0
      replace i1 := Lib.hid i1
      replace i2 := Lib.hid i2
      replace i3 := Lib.hid i3
      replace i4 := Lib.hid i4
      replace i5 := Lib.hid i5
      replace i6 := Lib.hid i6
      replace i7 := Lib.hid i7
      replace i8 := Lib.hid i8
      replace i9 := Lib.hid i9
      replace i10 := Lib.hid i10
      replace i15 := Lib.hid i15
      go_simp
      exact hK.out _ _ ⟨(keepB x3 (by decide)), (keepB x1 (by decide)), (keepB x5 (by decide)), (keepF i0.out (by decide)), (fun j => by obtain ⟨z28_0, z28_1, e0, ff⟩ := i1.out j; exact ⟨z28_0, z28_1, (put_ne (by decide)).trans e0, fun hu => ⟨(ff hu).1, (ff hu).2⟩⟩), (keepF i2.out (by decide)), (fun j => by obtain ⟨z30_0, e0, ff⟩ := i3.out j; exact ⟨z30_0, (put_ne (by decide)).trans e0, fun hu => ff hu⟩), (keepF i4.out (by decide)), (keepF i5.out (by decide)), (keepF i6.out (by decide)), (keepF i7.out (by decide)), (keepF i8.out (by decide)), (keepF i9.out (by decide)), (fun _ => put_eq (by omega)), (keepF i15.out (by decide)), hL, (fun j => by obtain ⟨k, e1, e2, p11_0, p11_1, e3, e4⟩ := i11 j; exact ⟨k, (put_ne (by decide)).trans e1, e2, p11_0, p11_1, e3, e4⟩), (fun j => by obtain ⟨k, e1, e2, p12_0, p12_1, e3, e4⟩ := i12 j; exact ⟨k, (put_ne (by decide)).trans e1, e2, p12_0, p12_1, e3, e4⟩), (fun j j' => by rw [put_ne (by decide), put_ne (by decide)]; exact n11_12 j j'), q11, q12, m7_6, m8_6, m9_6, (fun _ => m7_6 (by first | exact hr | exact hr.1 | exact hr.2 | exact hr.2.1 | exact hr.2.2 | simp [hr])), m15_6, hS⟩
    · unfold SlotStep
      intro g ac wc hn hk hr hI K' hK
      obtain ⟨x3, x1, x5, i0, i1, i2, i3, i4, i5, i6, i7, i8, i9, i10, i15, hL, i11, i12, n11_12, q11, q12, m7_6, m8_6, m9_6, m10_6, m15_6, hS⟩ := hI
      simp only [Region.binds] at hr
      simp at hr
      replace hK := Lib.hid hK
      replace i0 := Lib.hid i0
      replace i1 := Lib.hid i1
      replace i2 := Lib.hid i2
      replace i3 := Lib.hid i3
      replace i4 := Lib.hid i4
      replace i5 := Lib.hid i5
      replace i6 := Lib.hid i6
      replace i7 := Lib.hid i7
      replace i8 := Lib.hid i8
      replace i9 := Lib.hid i9
      replace i10 := Lib.hid i10
      replace i15 := Lib.hid i15
      go_simp
      refine hK.out _ _ ⟨(keepB x3 (by decide)), (keepB x1 (by decide)), (keepB x5 (by decide)), (keepF i0.out (by decide)), (fun j => by obtain ⟨z28_0, z28_1, e0, ff⟩ := i1.out j; exact ⟨z28_0, z28_1, (put_ne (by decide)).trans e0, fun hu => ⟨owns_later ((ff hu).1) ((Later.refl _).alloc _), owns_later ((ff hu).2) ((Later.refl _).alloc _)⟩⟩), (keepF i2.out (by decide)), (fun j => by obtain ⟨z30_0, e0, ff⟩ := i3.out j; exact ⟨z30_0, (put_ne (by decide)).trans e0, fun hu => owns_later (ff hu) ((Later.refl _).alloc _)⟩), (keepF i4.out (by decide)), (keepF i5.out (by decide)), (keepF i6.out (by decide)), (keepF i7.out (by decide)), (keepF i8.out (by decide)), (keepF i9.out (by decide)), (keepF i10.out (by decide)), (keepF i15.out (by decide)), hL.alloc _, (fun _ => ⟨_, put_eq (by omega), hS, _, _, heap_alloc_new _ _, fun j6 => absurd ((q11 j6).symm.trans hk) (by simp)⟩), (fun j => by obtain ⟨k, e1, e2, p12_0, p12_1, e3, e4⟩ := i12 j; exact ⟨k, (put_ne (by decide)).trans e1, e2, p12_0, p12_1, heap_alloc_old _ _ e3, e4⟩), ?_, fun _ => rfl, q12, m7_6, m8_6, m9_6, m10_6, m15_6, (by simp; omega)⟩
      · intro j j'
        obtain ⟨k, e1, e2, p12_0, p12_1, e3, e4⟩ := i12 j'
        have hlt := (Array.getElem?_eq_some_iff.1 e3).1
        have o1 : sl (ac.put (some 8) (.pointer (some ⟨wc.heap.size, 0, none⟩))) 9 = .pointer (some ⟨k, 0, none⟩) := (put_ne (by decide)).trans e1
        have o2 : sl (ac.put (some 8) (.pointer (some ⟨wc.heap.size, 0, none⟩))) 8 = .pointer (some ⟨wc.heap.size, 0, none⟩) := put_eq (by omega)
        intro hh
        have hh2 := (o2.symm.trans hh).trans o1
        simp at hh2 <;> omega
    · unfold SlotStep
      intro g ac wc hn hk hr hI K' hK
      obtain ⟨x3, x1, x5, i0, i1, i2, i3, i4, i5, i6, i7, i8, i9, i10, i15, hL, i11, i12, n11_12, q11, q12, m7_6, m8_6, m9_6, m10_6, m15_6, hS⟩ := hI
      simp only [Region.binds] at hr
      simp at hr
      replace hK := Lib.hid hK
      replace i0 := Lib.hid i0
      replace i1 := Lib.hid i1
      replace i2 := Lib.hid i2
      replace i3 := Lib.hid i3
      replace i4 := Lib.hid i4
      replace i5 := Lib.hid i5
      replace i6 := Lib.hid i6
      replace i7 := Lib.hid i7
      replace i8 := Lib.hid i8
      replace i9 := Lib.hid i9
      replace i10 := Lib.hid i10
      replace i15 := Lib.hid i15
      go_simp
      refine hK.out _ _ ⟨(keepB x3 (by decide)), (keepB x1 (by decide)), (keepB x5 (by decide)), (keepF i0.out (by decide)), (fun j => by obtain ⟨z28_0, z28_1, e0, ff⟩ := i1.out j; exact ⟨z28_0, z28_1, (put_ne (by decide)).trans e0, fun hu => ⟨owns_later ((ff hu).1) ((Later.refl _).alloc _), owns_later ((ff hu).2) ((Later.refl _).alloc _)⟩⟩), (keepF i2.out (by decide)), (fun j => by obtain ⟨z30_0, e0, ff⟩ := i3.out j; exact ⟨z30_0, (put_ne (by decide)).trans e0, fun hu => owns_later (ff hu) ((Later.refl _).alloc _)⟩), (keepF i4.out (by decide)), (keepF i5.out (by decide)), (keepF i6.out (by decide)), (keepF i7.out (by decide)), (keepF i8.out (by decide)), (keepF i9.out (by decide)), (keepF i10.out (by decide)), (keepF i15.out (by decide)), hL.alloc _, (fun j => by obtain ⟨k, e1, e2, p11_0, p11_1, e3, e4⟩ := i11 j; exact ⟨k, (put_ne (by decide)).trans e1, e2, p11_0, p11_1, heap_alloc_old _ _ e3, e4⟩), (fun _ => ⟨_, put_eq (by omega), hS, _, _, heap_alloc_new _ _, fun j6 => absurd ((q12 j6).symm.trans hk) (by simp)⟩), ?_, q11, fun _ => rfl, m7_6, m8_6, m9_6, m10_6, m15_6, (by simp; omega)⟩
      · intro j j'
        obtain ⟨k, e1, e2, p11_0, p11_1, e3, e4⟩ := i11 j
        have hlt := (Array.getElem?_eq_some_iff.1 e3).1
        have o1 : sl (ac.put (some 9) (.pointer (some ⟨wc.heap.size, 0, none⟩))) 8 = .pointer (some ⟨k, 0, none⟩) := (put_ne (by decide)).trans e1
        have o2 : sl (ac.put (some 9) (.pointer (some ⟨wc.heap.size, 0, none⟩))) 9 = .pointer (some ⟨wc.heap.size, 0, none⟩) := put_eq (by omega)
        intro hh
        have hh2 := (o1.symm.trans hh).trans o2
        simp at hh2 <;> omega
    · unfold SlotStep
      intro g ac wc hn hk hr hI K' hK
      obtain ⟨x3, x1, x5, i0, i1, i2, i3, i4, i5, i6, i7, i8, i9, i10, i15, hL, i11, i12, n11_12, q11, q12, m7_6, m8_6, m9_6, m10_6, m15_6, hS⟩ := hI
      simp only [Region.binds] at hr
      simp at hr
      replace hK := Lib.hid hK
      have y8 := i8 (by first | exact hr | exact hr.1 | exact hr.2 | exact hr.2.1 | exact hr.2.2 | exact hr.2.2.1 | exact hr.2.2.2 | simp [hr])
      replace i0 := Lib.hid i0
      replace i1 := Lib.hid i1
      replace i2 := Lib.hid i2
      replace i3 := Lib.hid i3
      replace i4 := Lib.hid i4
      replace i5 := Lib.hid i5
      replace i6 := Lib.hid i6
      replace i7 := Lib.hid i7
      replace i8 := Lib.hid i8
      replace i9 := Lib.hid i9
      replace i10 := Lib.hid i10
      replace i15 := Lib.hid i15
      have hda : g 11 = true := by first | exact hr | exact hr.1 | exact hr.2 | exact hr.2.1 | exact hr.2.2 | exact hr.2.2.1 | exact hr.2.2.2 | simp [hr]
      obtain ⟨k, e1, e2, p11_0, p11_1, e3, -⟩ := i11 hda
      have c0 := (blk_at e3).1
      have f0 := (blk_at e3).2.1
      have z0 := (blk_at e3).2.2
      have hdu : g 6 = true := m8_6 (by first | exact hr | exact hr.1 | exact hr.2 | exact hr.2.1 | exact hr.2.2 | simp [hr])
      go_simp
      exact hK.out undef _ ⟨x3, x1, x5, i0.out, (fun j => by obtain ⟨z28_0, z28_1, e0, -⟩ := i1.out j; exact ⟨z28_0, z28_1, e0, fun hu => absurd hu (by simp [hdu])⟩), i2.out, (fun j => by obtain ⟨z30_0, e0, -⟩ := i3.out j; exact ⟨z30_0, e0, fun hu => absurd hu (by simp [hdu])⟩), i4.out, i5.out, i6.out, i7.out, i8.out, i9.out, i10.out, i15.out, ((hL.setCell e2 _).setCell e2 _), (fun _ => ⟨k, e1, e2, _, _, two_set e3 _ _, fun _ => ⟨rfl, rfl⟩⟩), (fun j => by obtain ⟨k', e1', e2', p12_0, p12_1, e3', e4'⟩ := i12 j; have hne : k' ≠ k := (fun hh => n11_12 hda j (by rw [e1, e1', hh])); exact ⟨k', e1', e2', p12_0, p12_1, (other_set (other_set e3' hne _) hne _), e4'⟩), n11_12, (fun _ => hda), q12, m7_6, m8_6, m9_6, m10_6, m15_6, (by simp; omega)⟩
    · unfold SlotStep
      intro g ac wc hn hk hr hI K' hK
      obtain ⟨x3, x1, x5, i0, i1, i2, i3, i4, i5, i6, i7, i8, i9, i10, i15, hL, i11, i12, n11_12, q11, q12, m7_6, m8_6, m9_6, m10_6, m15_6, hS⟩ := hI
      simp only [Region.binds] at hr
      simp at hr
      replace hK := Lib.hid hK
      have y9 := i9 (by first | exact hr | exact hr.1 | exact hr.2 | exact hr.2.1 | exact hr.2.2 | exact hr.2.2.1 | exact hr.2.2.2 | simp [hr])
      replace i0 := Lib.hid i0
      replace i1 := Lib.hid i1
      replace i2 := Lib.hid i2
      replace i3 := Lib.hid i3
      replace i4 := Lib.hid i4
      replace i5 := Lib.hid i5
      replace i6 := Lib.hid i6
      replace i7 := Lib.hid i7
      replace i8 := Lib.hid i8
      replace i9 := Lib.hid i9
      replace i10 := Lib.hid i10
      replace i15 := Lib.hid i15
      have hda : g 12 = true := by first | exact hr | exact hr.1 | exact hr.2 | exact hr.2.1 | exact hr.2.2 | exact hr.2.2.1 | exact hr.2.2.2 | simp [hr]
      obtain ⟨k, e1, e2, p12_0, p12_1, e3, -⟩ := i12 hda
      have c0 := (blk_at e3).1
      have f0 := (blk_at e3).2.1
      have z0 := (blk_at e3).2.2
      have hdu : g 6 = true := m9_6 (by first | exact hr | exact hr.1 | exact hr.2 | exact hr.2.1 | exact hr.2.2 | simp [hr])
      go_simp
      exact hK.out undef _ ⟨x3, x1, x5, i0.out, (fun j => by obtain ⟨z28_0, z28_1, e0, -⟩ := i1.out j; exact ⟨z28_0, z28_1, e0, fun hu => absurd hu (by simp [hdu])⟩), i2.out, (fun j => by obtain ⟨z30_0, e0, -⟩ := i3.out j; exact ⟨z30_0, e0, fun hu => absurd hu (by simp [hdu])⟩), i4.out, i5.out, i6.out, i7.out, i8.out, i9.out, i10.out, i15.out, ((hL.setCell e2 _).setCell e2 _), (fun j => by obtain ⟨k', e1', e2', p11_0, p11_1, e3', e4'⟩ := i11 j; have hne : k' ≠ k := (fun hh => n11_12 j hda (by rw [e1, e1', hh])); exact ⟨k', e1', e2', p11_0, p11_1, (other_set (other_set e3' hne _) hne _), e4'⟩), (fun _ => ⟨k, e1, e2, _, _, two_set e3 _ _, fun _ => ⟨rfl, rfl⟩⟩), n11_12, q11, (fun _ => hda), m7_6, m8_6, m9_6, m10_6, m15_6, (by simp; omega)⟩
    · unfold SlotStep
      intro g ac wc hn hk hr hI K' hK
      obtain ⟨x3, x1, x5, i0, i1, i2, i3, i4, i5, i6, i7, i8, i9, i10, i15, hL, i11, i12, n11_12, q11, q12, m7_6, m8_6, m9_6, m10_6, m15_6, hS⟩ := hI
      simp only [Region.binds] at hr
      simp at hr
      replace hK := Lib.hid hK
      have y10 := i10 (by first | exact hr | exact hr.1 | exact hr.2 | exact hr.2.1 | exact hr.2.2 | exact hr.2.2.1 | exact hr.2.2.2 | simp [hr])
      replace i0 := Lib.hid i0
      replace i1 := Lib.hid i1
      replace i2 := Lib.hid i2
      replace i3 := Lib.hid i3
      replace i4 := Lib.hid i4
      replace i5 := Lib.hid i5
      replace i6 := Lib.hid i6
      replace i7 := Lib.hid i7
      replace i8 := Lib.hid i8
      replace i9 := Lib.hid i9
      replace i10 := Lib.hid i10
      replace i15 := Lib.hid i15
      go_simp
      exact hK.out _ _ ⟨(keepB x3 (by decide)), (keepB x1 (by decide)), (keepB x5 (by decide)), (keepF i0.out (by decide)), (fun j => by obtain ⟨z28_0, z28_1, e0, ff⟩ := i1.out j; exact ⟨z28_0, z28_1, (put_ne (by decide)).trans e0, fun hu => ⟨(ff hu).1, (ff hu).2⟩⟩), (keepF i2.out (by decide)), (fun j => by obtain ⟨z30_0, e0, ff⟩ := i3.out j; exact ⟨z30_0, (put_ne (by decide)).trans e0, fun hu => ff hu⟩), (keepF i4.out (by decide)), (keepF i5.out (by decide)), (keepF i6.out (by decide)), (keepF i7.out (by decide)), (keepF i8.out (by decide)), (keepF i9.out (by decide)), (keepF i10.out (by decide)), (fun _ => put_eq (by omega)), hL, (fun j => by obtain ⟨k, e1, e2, p11_0, p11_1, e3, e4⟩ := i11 j; exact ⟨k, (put_ne (by decide)).trans e1, e2, p11_0, p11_1, e3, e4⟩), (fun j => by obtain ⟨k, e1, e2, p12_0, p12_1, e3, e4⟩ := i12 j; exact ⟨k, (put_ne (by decide)).trans e1, e2, p12_0, p12_1, e3, e4⟩), (fun j j' => by rw [put_ne (by decide), put_ne (by decide)]; exact n11_12 j j'), q11, q12, m7_6, m8_6, m9_6, m10_6, (fun _ => m10_6 (by first | exact hr | exact hr.1 | exact hr.2 | exact hr.2.1 | exact hr.2.2 | simp [hr])), hS⟩

theorem lifted (os : Os) (started : os.Started) (H : Type) (enc : TypeId × Value → H) :
    ReturnsInHanded {} Tryz.checked os 4 .any (Rows.fnExactPlanSpanSpec.pre6 enc Tryz.prog Tryz.f4 Rows.fnExactPlanSpanRow.domain false) (Rows.fnExactPlanSpanSpec.post enc Tryz.prog Tryz.f4 false true false false) := by
  refine returnsInHanded_of_change (C := Tryz.checked) o_own started (by kernel_rfl) Tryz.func4
    (ChangeSpec.witness6 (enc := enc) (C := Tryz.checked) false ⟨#[], #[.agg #[.int .i64 0, .slice none 0 0, .slice none 0 0], .slice none 0 0, .agg #[.int .i64 0, .int .i64 0, .int .i64 0]], []⟩ 8 (by kernel_rfl) (by kernel_rfl) (by kernel_rfl) (by kernel_rfl)) ?_
  intro W base args ds gs before hval0 hW hcnd _
  have hval : ∀ (j : Nat) t v, Tryz.f4.params[j]? = some t → args[j]? = some v → Value.okWide Tryz.prog W .any base t v := hval0
  have hW' := hW
  obtain ⟨p, q, hA0, hV, rfl, hfz, hnd⟩ := hW
  have hA : DataW.TrodAll enc Tryz.prog W 0 (fun _ => true) true Tryz.f4.params.toList args.toList ds p := hA0
  rw [Tryz.params4] at hA hval
  obtain ⟨v0, vs0, d0, ds0, p0, q0, hargs, rfl, rfl, h0, r0⟩ := trodAll_cons hA
  obtain ⟨v1, vs1, d1, ds1, p1, q1, rfl, rfl, rfl, h1, r1⟩ := trodAll_cons r0
  obtain ⟨v2, vs2, d2, ds2, p2, q2, rfl, rfl, rfl, h2, r2⟩ := trodAll_cons r1
  obtain ⟨rfl, rfl, rfl⟩ := trodAll_nil r2
  obtain rfl : args = #[v0, v1, v2] := by cases args; simp_all
  obtain ⟨rfl, rfl⟩ := trodVars_none hV
  have k0 := h0
  have lt0 : ∀ x ∈ p0, x.block < W.heap.size := by obtain ⟨m, hm⟩ := k0; exact DataW.trod_lt m _ _ _ hm
  obtain ⟨rn0, v0a, v0b, l0a, l0b, rfl, w0a, w0b⟩ := o_lRule' (hval 0 24 v0 rfl rfl) h0
  obtain ⟨a1, len1, cap1, rfl⟩ := okWide_slice Tryz.underlying25 (hval 1 25 v1 rfl rfl)
  have k1 := h1
  have lt1 : ∀ x ∈ p1, x.block < W.heap.size := by obtain ⟨m, hm⟩ := k1; exact DataW.trod_lt m _ _ _ hm
  obtain ⟨l1, w1⟩ := o_lTermS h1
  have k2 := h2
  have lt2 : ∀ x ∈ p2, x.block < W.heap.size := by obtain ⟨m, hm⟩ := k2; exact DataW.trod_lt m _ _ _ hm
  obtain ⟨ag2_0, ag2_1, ag2_2, rfl⟩ := o_lErrors' (hval 2 27 v2 rfl rfl) h2
  clear hA0 hval0
  refine (walk rn0 v0a v0b l0a l0b _ l1 ag2_0 ag2_1 ag2_2 W w0a w0b w1).mono fun e W' ⟨he, bel⟩ => ?_
  subst he
  exact ⟨_, rfl, _, _, _, [], _, [], hW', trodAll_mk1 (shut_bool Tryz.underlying4 _), (trodAll_cons_mk (Below.trod o_laidOut (by kernel_rfl) (of_decide_eq_true (by kernel_rfl)) k0 bel lt0) (trodAll_cons_mk (Below.trod o_laidOut (by kernel_rfl) (of_decide_eq_true (by kernel_rfl)) k1 bel lt1) (trodAll_cons_mk (Below.trod o_laidOut (by kernel_rfl) (of_decide_eq_true (by kernel_rfl)) k2 bel lt2) trodAll_mk0))), rfl, bel.frame _, fun h => by cases h⟩

theorem over : Rows.fnExactPlanSpanRow.holds Tryz.pinned (OpenSpec.ofChange Rows.fnExactPlanSpanSpec) :=
  OpenClaim.holds_of_wide 4 Tryz.f4 rfl rfl rfl rfl rfl rfl rfl ⟨rfl, rfl, rfl, rfl, rfl⟩ rfl rfl rfl rfl rfl (by kernel_rfl) Tryz.func4 (by kernel_rfl)
    (of_decide_eq_true (by kernel_rfl)) (by unfold Func.isWrapper; first | (rw [if_pos (by decide +kernel)]; kernel_rfl) | (rw [if_neg (by decide +kernel)]; exact ⟨rfl, rfl⟩))
    (fun os started H enc _ => lifted os started H enc)

theorem proved : Rows.FnExactPlanSpanSaid := over
#print axioms proved
end Go.Proofs.YtldojpelnghplaaGreat.lawPlanSpan
