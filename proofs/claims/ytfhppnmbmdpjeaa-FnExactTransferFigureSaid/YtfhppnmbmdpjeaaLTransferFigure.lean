/- The program's TransferFigure: the figure that a transfer tells. It answers what the reference's function answers, for all arguments. No condition. -/
import Derived.Test.YtfhppnmbmdpjeaaRows
import Derived.Test.YtfhppnmbmdpjeaaO1
import Derived.Test.YtfhppnmbmdpjeaaO2
import Derived.Test.YtfhppnmbmdpjeaaBA
import Derived.Test.YtfhppnmbmdpjeaaM84
import Derived.Test.YtfhppnmbmdpjeaaHRule
namespace Go.Proofs.Ytfhppnmbmdpjeaa.lawTransferFigure
set_option linter.unusedVariables false
set_option linter.unusedSimpArgs false
open Go.ChangeShapes Go.WideShapes Go.ChangeAt Go.RowKit
set_option linter.unusedVariables false
set_option maxRecDepth 100000

set_option maxHeartbeats 4000000 in
theorem walk (rn0 : Int) (v0a v0b : Value) (l0a l0b : List Int) (ag1 : Int) (ag2 : Int) (ag3_0 ag3_1 : Int) (w : World) (r0a : Raw w v0a l0a.length 1 (nums l0a)) (r0b : Raw w v0b l0b.length 1 (nums l0b)) :
    Calls Try.prog 4 #[.agg #[.int .i64 rn0, v0a, v0b], .int .i64 ag1, .int .i64 ag2, .agg #[.int .i64 ag3_0, .int .i64 ag3_1]] w fun e w' => e = .returned (.bool true) ∧ Later w w' := by
  by_cases hs0 : l0a.length + l0b.length ≤ 1048576
  rotate_left
  · have HW := Later.refl w
    obtain ⟨_, sx0a, cap0a, rfl, hcap0a, hmax0a, _⟩ := r0a
    obtain ⟨_, sx0b, cap0b, rfl, hcap0b, hmax0b, _⟩ := r0b
    go_enter Try.func4, Try.ntmps4
    have hs : szR ((1048576 : Int)) l0a.length l0b.length = -1 := szR_no (by omega)
    have HS := Lib.hid hs
    clear hs
    go_wp2_with fail
    refine (w_szRule _ _ _ _ _ _ _ _ (by omega) (by omega) (by omega) (by omega) _).mono ?_
    rintro e u1 ⟨rfl, hL1⟩
    rw [HS.out]
    clear HS
    obtain ⟨hk0, hk1⟩ := kept2 hL1
    have KB0 := Lib.hid hk0
    have KB3 := Lib.hid hk1
    clear hk0 hk1
    replace hL1 := (((Later.refl _).alloc _).alloc _).trans hL1
    replace HW := HW.trans hL1
    clear hL1
    go_wp2
    go_ret
    exact ⟨rfl, HW⟩
  have R0a := Lib.hid (r0a.reads (by omega))
  have R0b := Lib.hid (r0b.reads (by omega))
  obtain ⟨RS0, hRS0⟩ : ∃ R : Fig, tfF ⟨rn0, l0a, l0b⟩ ag1 ag2 ⟨ag3_0, ag3_1⟩ = R := ⟨_, rfl⟩
  have HRS0 := Lib.hid hRS0
  clear hRS0
  obtain ⟨RS1, hRS1⟩ : ∃ R : Int, tfC ⟨rn0, l0a, l0b⟩ ag1 ag2 (isFig ⟨ag3_0, ag3_1⟩) = R := ⟨_, rfl⟩
  have HRS1 := Lib.hid hRS1
  clear hRS1
  have HW := Later.refl w
  obtain ⟨_, sx0a, cap0a, rfl, hcap0a, hmax0a, _⟩ := r0a
  obtain ⟨_, sx0b, cap0b, rfl, hcap0b, hmax0b, _⟩ := r0b
  go_enter Try.func4, Try.ntmps4
  have hs : szR ((1048576 : Int)) l0a.length l0b.length = (1048576 : Int) - (l0a.length : Int) - (l0b.length : Int) := szR_ok (by omega)
  have HS := Lib.hid hs
  clear hs
  go_wp2_with fail
  refine (w_szRule _ _ _ _ _ _ _ _ (by omega) (by omega) (by omega) (by omega) _).mono ?_
  rintro e u2 ⟨rfl, hL2⟩
  rw [HS.out]
  clear HS
  obtain ⟨hk0, hk1⟩ := kept2 hL2
  have KB0 := Lib.hid hk0
  have KB3 := Lib.hid hk1
  clear hk0 hk1
  replace hL2 := (((Later.refl _).alloc _).alloc _).trans hL2
  replace HW := HW.trans hL2
  clear hL2
  go_wp2_with fail
  refine region_slots 55 [21, 22, 23, 24, 25, 26, 27, 20, 28, 29, 10, 11] (fun g ac wc => sl ac 4 = .pointer (some ⟨w.heap.size, 0, none⟩) ∧
    sl ac 1 = .int .i64 ag1 ∧
    sl ac 2 = .int .i64 ag2 ∧
    sl ac 7 = .pointer (some ⟨w.heap.size + 1, 0, none⟩) ∧
    (g 0 = true → sl ac 21 = .agg #[.int .i64 rn0, .slice sx0a l0a.length cap0a, .slice sx0b l0b.length cap0b]) ∧
    (g 1 = true → ∃ z22_0 z22_1 : Value, sl ac 22 = .agg #[.int .i64 rn0, z22_0, z22_1] ∧ (g 6 = false → wc.ownsRow u2.heap.size 2 1 z22_0 (l0a.length) (nums l0a) ∧ wc.ownsRow u2.heap.size 2 1 z22_1 (l0b.length) (nums l0b))) ∧
    (g 2 = true → sl ac 23 = .int .i64 ag1) ∧
    (g 3 = true → sl ac 24 = .int .i64 ag2) ∧
    (g 4 = true → sl ac 25 = .agg #[.int .i64 ag3_0, .int .i64 ag3_1]) ∧
    (g 5 = true → sl ac 26 = .agg #[.int .i64 ag3_0, .int .i64 ag3_1]) ∧
    (g 6 = true → sl ac 27 = .tuple #[.agg #[.int .i64 RS0.d, .int .i64 RS0.t], .int .i64 RS1]) ∧
    (g 7 = true → sl ac 20 = .tuple #[.agg #[.int .i64 RS0.d, .int .i64 RS0.t], .int .i64 RS1]) ∧
    (g 8 = true → sl ac 28 = .agg #[.int .i64 RS0.d, .int .i64 RS0.t]) ∧
    (g 9 = true → sl ac 29 = .int .i64 RS1) ∧
    (g 12 = true → sl ac 11 = .int .i64 RS1) ∧
    Later u2 wc ∧
    (g 10 = true → ∃ k, sl ac 10 = .pointer (some ⟨k, 0, none⟩) ∧ u2.heap.size ≤ k ∧ ∃ p10_0 p10_1, wc.heap[k]? = some (.cells #[p10_0, p10_1] 29 (0, 0)) ∧ (g 11 = true → p10_0 = .int .i64 RS0.d ∧ p10_1 = .int .i64 RS0.t)) ∧
    (g 11 = true → g 10 = true) ∧
    (g 7 = true → g 6 = true) ∧
    (g 8 = true → g 6 = true) ∧
    (g 9 = true → g 6 = true) ∧
    (g 12 = true → g 6 = true) ∧
    u2.heap.size ≤ wc.heap.size) (by kernel_rfl) (by kernel_rfl) rfl (by kernel_rfl) ?_ ?_ ?_
  · exact ⟨rfl, rfl, rfl, rfl, nofun, nofun, nofun, nofun, nofun, nofun, nofun, nofun, nofun, nofun, nofun, (Later.refl _).drew, nofun, nofun, nofun, nofun, nofun, nofun, Nat.le_refl _⟩
  · intro g ac ur hg ha hI
    obtain ⟨x4, x1, x2, x7, i0, i1, i2, i3, i4, i5, i6, i7, i8, i9, i12, hL, i10, -, -, -, -, -, hS⟩ := hI
    obtain ⟨kr10, e10, br10, p10_0, p10_1, Kr10, g10⟩ := i10 (hg 10 (by simp))
    have g10 := g10 (hg 11 (by simp))
    rw [g10.1, g10.2] at Kr10
    have a0 := i0 (hg 0 (by simp))
    obtain ⟨z22_0, z22_1, a1, -⟩ := i1 (hg 1 (by simp))
    have a2 := i2 (hg 2 (by simp))
    have a3 := i3 (hg 3 (by simp))
    have a4 := i4 (hg 4 (by simp))
    have a5 := i5 (hg 5 (by simp))
    have a6 := i6 (hg 6 (by simp))
    have a7 := i7 (hg 7 (by simp))
    have a8 := i8 (hg 8 (by simp))
    have a9 := i9 (hg 9 (by simp))
    have a12 := i12 (hg 12 (by simp))
    simp only [putAll, a0, a1, a2, a3, a4, a5, a6, a7, a8, a9, a12, e10] at ha
    simp only [Act.put, List.setIfInBounds_toArray, List.set_cons_succ, List.set_cons_zero] at ha
    rw [ha]
    clear x4 x1 x2 x7 i0 i1 i2 i3 i4 i5 i6 i7 i8 i9 i12 i10 a0 a1 a2 a3 a4 a5 a6 a7 a8 a9 a12 e10 g10 hg ha
    replace KB0 := Lib.hid (hL.keep KB0.out)
    replace KB3 := Lib.hid (hL.keep KB3.out)
    have KA10 := Lib.hid Kr10
    clear Kr10
    replace HW := HW.trans hL
    clear hL hS
    obtain ⟨cB0, fB0, zB0⟩ := blk_at KB0.out
    go_wp2_with fail
    refine (w_toRuleS _ _ _ _ _ _ (R0a.out.later HW) (R0b.out.later HW)).mono ?_
    rintro e u3 ⟨y3_0, q3_0, y3_1, q3_1, rfl, hL3, ho0, ho1⟩
    clear cB0 fB0 zB0
    replace KB0 := Lib.hid (hL3.keep KB0.out)
    replace KB3 := Lib.hid (hL3.keep KB3.out)
    replace KA10 := Lib.hid (hL3.keep KA10.out)
    replace HW := HW.trans hL3
    clear hL3
    have Oy3_0 := Lib.hid ho0
    clear ho0
    have Oy3_1 := Lib.hid ho1
    clear ho1
    go_wp2_with fail
    obtain ⟨u4, hu⟩ : ∃ u : World, u = u3.alloc (.cells #[.int .i64 rn0, .slice y3_0 l0a.length q3_0, .slice y3_1 l0b.length q3_1] 32) := ⟨_, rfl⟩
    have hL4 : Later (u3.alloc (.cells #[.int .i64 rn0, .slice y3_0 l0a.length q3_0, .slice y3_1 l0b.length q3_1] 32)) u4 := by rw [hu]; exact Later.refl _
    rw [← hu]
    clear hu
    have KA12 := Lib.hid (kept1 hL4)
    replace hL4 := ((Later.refl _).alloc _).trans hL4
    replace KB0 := Lib.hid (hL4.keep KB0.out)
    replace KB3 := Lib.hid (hL4.keep KB3.out)
    replace KA10 := Lib.hid (hL4.keep KA10.out)
    replace Oy3_0 := Lib.hid (owns_later Oy3_0.out hL4)
    replace Oy3_1 := Lib.hid (owns_later Oy3_1.out hL4)
    replace HW := HW.trans hL4
    clear hL4
    refine region_slots 55 [33, 34, 35, 36, 37, 38, 32, 39, 40, 13, 14] (fun g ac wc => sl ac 12 = .pointer (some ⟨u3.heap.size, 0, none⟩) ∧
      sl ac 1 = .int .i64 ag1 ∧
      sl ac 2 = .int .i64 ag2 ∧
      sl ac 7 = .pointer (some ⟨w.heap.size + 1, 0, none⟩) ∧
      (g 0 = true → sl ac 33 = .agg #[.int .i64 rn0, .slice y3_0 l0a.length q3_0, .slice y3_1 l0b.length q3_1]) ∧
      (g 1 = true → sl ac 34 = .int .i64 ag1) ∧
      (g 2 = true → sl ac 35 = .int .i64 ag2) ∧
      (g 3 = true → sl ac 36 = .agg #[.int .i64 ag3_0, .int .i64 ag3_1]) ∧
      (g 4 = true → sl ac 37 = .agg #[.int .i64 ag3_0, .int .i64 ag3_1]) ∧
      (g 5 = true → sl ac 38 = .tuple #[.agg #[.int .i64 RS0.d, .int .i64 RS0.t], .int .i64 RS1]) ∧
      (g 6 = true → sl ac 32 = .tuple #[.agg #[.int .i64 RS0.d, .int .i64 RS0.t], .int .i64 RS1]) ∧
      (g 7 = true → sl ac 39 = .agg #[.int .i64 RS0.d, .int .i64 RS0.t]) ∧
      (g 8 = true → sl ac 40 = .int .i64 RS1) ∧
      (g 11 = true → sl ac 14 = .int .i64 RS1) ∧
      Later u4 wc ∧
      (g 9 = true → ∃ k, sl ac 13 = .pointer (some ⟨k, 0, none⟩) ∧ u4.heap.size ≤ k ∧ ∃ p9_0 p9_1, wc.heap[k]? = some (.cells #[p9_0, p9_1] 29 (0, 0)) ∧ (g 10 = true → p9_0 = .int .i64 RS0.d ∧ p9_1 = .int .i64 RS0.t)) ∧
      (g 10 = true → g 9 = true) ∧
      u4.heap.size ≤ wc.heap.size) (by kernel_rfl) (by kernel_rfl) rfl (by kernel_rfl) ?_ ?_ ?_
    · exact ⟨rfl, rfl, rfl, rfl, nofun, nofun, nofun, nofun, nofun, nofun, nofun, nofun, nofun, nofun, (Later.refl _).drew, nofun, nofun, Nat.le_refl _⟩
    · intro g ac us hg ha hI
      obtain ⟨x12, x1, x2, x7, i0, i1, i2, i3, i4, i5, i6, i7, i8, i11, hL, i9, -, hS⟩ := hI
      obtain ⟨ks9, e9, bs9, p9_0, p9_1, Ks9, g9⟩ := i9 (hg 9 (by simp))
      have g9 := g9 (hg 10 (by simp))
      rw [g9.1, g9.2] at Ks9
      have a0 := i0 (hg 0 (by simp))
      have a1 := i1 (hg 1 (by simp))
      have a2 := i2 (hg 2 (by simp))
      have a3 := i3 (hg 3 (by simp))
      have a4 := i4 (hg 4 (by simp))
      have a5 := i5 (hg 5 (by simp))
      have a6 := i6 (hg 6 (by simp))
      have a7 := i7 (hg 7 (by simp))
      have a8 := i8 (hg 8 (by simp))
      have a11 := i11 (hg 11 (by simp))
      simp only [putAll, a0, a1, a2, a3, a4, a5, a6, a7, a8, a11, e9] at ha
      simp only [Act.put, List.setIfInBounds_toArray, List.set_cons_succ, List.set_cons_zero] at ha
      rw [ha]
      clear x12 x1 x2 x7 i0 i1 i2 i3 i4 i5 i6 i7 i8 i11 i9 a0 a1 a2 a3 a4 a5 a6 a7 a8 a11 e9 g9 hg ha
      replace KB0 := Lib.hid (hL.keep KB0.out)
      replace KB3 := Lib.hid (hL.keep KB3.out)
      replace KA10 := Lib.hid (hL.keep KA10.out)
      replace KA12 := Lib.hid (hL.keep KA12.out)
      have KA13 := Lib.hid Ks9
      clear Ks9
      replace Oy3_0 := Lib.hid (owns_later Oy3_0.out hL)
      replace Oy3_1 := Lib.hid (owns_later Oy3_1.out hL)
      replace HW := HW.trans hL
      clear hL hS
      obtain ⟨cA13, fA13, zA13⟩ := blk_at KA13.out
      obtain ⟨cA10, fA10, zA10⟩ := blk_at KA10.out
      go_wp2_with fail
      refine (w_eqFigure_same _ _ _).mono ?_
      rintro e u5 ⟨rfl, hL5⟩
      clear cA13 fA13 zA13 cA10 fA10 zA10
      replace KB0 := Lib.hid (hL5.keep KB0.out)
      replace KB3 := Lib.hid (hL5.keep KB3.out)
      replace KA10 := Lib.hid (hL5.keep KA10.out)
      replace KA12 := Lib.hid (hL5.keep KA12.out)
      replace KA13 := Lib.hid (hL5.keep KA13.out)
      replace Oy3_0 := Lib.hid (owns_later Oy3_0.out hL5)
      replace Oy3_1 := Lib.hid (owns_later Oy3_1.out hL5)
      replace HW := HW.trans hL5
      clear hL5
      go_wp2_with fail
      refine region_slots 55 [50, 51, 52, 53, 54] (fun g ac wc => sl ac 12 = .pointer (some ⟨u3.heap.size, 0, none⟩) ∧
        sl ac 4 = .pointer (some ⟨w.heap.size, 0, none⟩) ∧
        (g 0 = true → sl ac 50 = .agg #[.int .i64 rn0, .slice y3_0 l0a.length q3_0, .slice y3_1 l0b.length q3_1]) ∧
        (g 1 = true → sl ac 51 = .agg #[.int .i64 rn0, .slice sx0a l0a.length cap0a, .slice sx0b l0b.length cap0b]) ∧
        (g 2 = true → ∃ z52_0 z52_1 : Value, sl ac 52 = .agg #[.int .i64 rn0, z52_0, z52_1] ∧ (g 3 = false → wc.ownsRow u5.heap.size 2 1 z52_0 (l0a.length) (nums l0a) ∧ wc.ownsRow u5.heap.size 2 1 z52_1 (l0b.length) (nums l0b))) ∧
        (g 3 = true → sl ac 53 = .bool true) ∧
        (g 4 = true → sl ac 54 = .bool false) ∧
        Later u5 wc ∧
        (g 4 = true → g 3 = true) ∧
        u5.heap.size ≤ wc.heap.size) (by kernel_rfl) (by kernel_rfl) rfl (by kernel_rfl) ?_ ?_ ?_
      · exact ⟨rfl, rfl, nofun, nofun, nofun, nofun, nofun, (Later.refl _).drew, nofun, Nat.le_refl _⟩
      · intro g ac ut hg ha hI
        obtain ⟨x12, x4, i0, i1, i2, i3, i4, hL, -, hS⟩ := hI
        have a0 := i0 (hg 0 (by simp))
        have a1 := i1 (hg 1 (by simp))
        obtain ⟨z52_0, z52_1, a2, -⟩ := i2 (hg 2 (by simp))
        have a3 := i3 (hg 3 (by simp))
        have a4 := i4 (hg 4 (by simp))
        simp only [putAll, a0, a1, a2, a3, a4] at ha
        simp only [Act.put, List.setIfInBounds_toArray, List.set_cons_succ, List.set_cons_zero] at ha
        rw [ha]
        clear x12 x4 i0 i1 i2 i3 i4 a0 a1 a2 a3 a4 hg ha
        replace KB0 := Lib.hid (hL.keep KB0.out)
        replace KB3 := Lib.hid (hL.keep KB3.out)
        replace KA10 := Lib.hid (hL.keep KA10.out)
        replace KA12 := Lib.hid (hL.keep KA12.out)
        replace KA13 := Lib.hid (hL.keep KA13.out)
        replace Oy3_0 := Lib.hid (owns_later Oy3_0.out hL)
        replace Oy3_1 := Lib.hid (owns_later Oy3_1.out hL)
        replace HW := HW.trans hL
        clear hL hS
        go_wp2
        go_ret
        exact ⟨rfl, HW⟩
      · refine .cons ?_ (.cons ?_ (.cons ?_ (.cons ?_ (.cons ?_ .nil))))
        · unfold SlotStep
          intro g ac wc hn hk hr hI K' hK
          obtain ⟨x12, x4, i0, i1, i2, i3, i4, hL, m4_3, hS⟩ := hI
          simp only [Region.binds] at hr
          simp at hr
          replace hK := Lib.hid hK
          replace i0 := Lib.hid i0
          replace i1 := Lib.hid i1
          replace i2 := Lib.hid i2
          replace i3 := Lib.hid i3
          replace i4 := Lib.hid i4
          have cb := (blk_at (hL.keep KA12.out)).1
          have fb := (blk_at (hL.keep KA12.out)).2.1
          have zb := (blk_at (hL.keep KA12.out)).2.2
          go_simp
          exact hK.out _ _ ⟨(keepB x12 (by decide)), (keepB x4 (by decide)), (fun _ => put_eq (by omega)), (keepF i1.out (by decide)), (fun j => by obtain ⟨z52_0, z52_1, e0, ff⟩ := i2.out j; exact ⟨z52_0, z52_1, (put_ne (by decide)).trans e0, fun hu => ⟨(ff hu).1, (ff hu).2⟩⟩), (keepF i3.out (by decide)), (keepF i4.out (by decide)), hL, m4_3, hS⟩
        · unfold SlotStep
          intro g ac wc hn hk hr hI K' hK
          obtain ⟨x12, x4, i0, i1, i2, i3, i4, hL, m4_3, hS⟩ := hI
          simp only [Region.binds] at hr
          simp at hr
          replace hK := Lib.hid hK
          replace i0 := Lib.hid i0
          replace i1 := Lib.hid i1
          replace i2 := Lib.hid i2
          replace i3 := Lib.hid i3
          replace i4 := Lib.hid i4
          have cb := (blk_at (hL.keep KB0.out)).1
          have fb := (blk_at (hL.keep KB0.out)).2.1
          have zb := (blk_at (hL.keep KB0.out)).2.2
          go_simp
          exact hK.out _ _ ⟨(keepB x12 (by decide)), (keepB x4 (by decide)), (keepF i0.out (by decide)), (fun _ => put_eq (by omega)), (fun j => by obtain ⟨z52_0, z52_1, e0, ff⟩ := i2.out j; exact ⟨z52_0, z52_1, (put_ne (by decide)).trans e0, fun hu => ⟨(ff hu).1, (ff hu).2⟩⟩), (keepF i3.out (by decide)), (keepF i4.out (by decide)), hL, m4_3, hS⟩
        · unfold SlotStep
          intro g ac wc hn hk hr hI K' hK
          obtain ⟨x12, x4, i0, i1, i2, i3, i4, hL, m4_3, hS⟩ := hI
          simp only [Region.binds] at hr
          simp at hr
          replace hK := Lib.hid hK
          have y1 := i1 (by first | exact hr | exact hr.1 | exact hr.2 | exact hr.2.1 | exact hr.2.2 | exact hr.2.2.1 | exact hr.2.2.2 | simp [hr])
          replace i0 := Lib.hid i0
          replace i1 := Lib.hid i1
          replace i2 := Lib.hid i2
          replace i3 := Lib.hid i3
          replace i4 := Lib.hid i4
          go_simp
          refine (w_toRule _ _ _ _ _ _ (R0a.out.later (HW.trans hL)) (R0b.out.later (HW.trans hL))).mono ?_
          rintro e w4 ⟨z52_0, z52_1, rfl, hL4, ho0, ho1⟩
          exact hK.out _ _ ⟨(keepB x12 (by decide)), (keepB x4 (by decide)), (keepF i0.out (by decide)), (keepF i1.out (by decide)), (fun _ => ⟨z52_0, z52_1, put_eq (by omega), fun _ => ⟨owns_base ho0 hS, owns_base ho1 hS⟩⟩), (keepF i3.out (by decide)), (keepF i4.out (by decide)), hL.trans hL4, m4_3, Nat.le_trans hS hL4.size⟩
        · unfold SlotStep
          intro g ac wc hn hk hr hI K' hK
          obtain ⟨x12, x4, i0, i1, i2, i3, i4, hL, m4_3, hS⟩ := hI
          simp only [Region.binds] at hr
          simp at hr
          replace hK := Lib.hid hK
          have y0 := i0 (by first | exact hr | exact hr.1 | exact hr.2 | exact hr.2.1 | exact hr.2.2 | exact hr.2.2.1 | exact hr.2.2.2 | simp [hr])
          obtain ⟨z52_0, z52_1, y2, ff2⟩ := i2 (by first | exact hr | exact hr.1 | exact hr.2 | exact hr.2.1 | exact hr.2.2 | exact hr.2.2.1 | exact hr.2.2.2 | simp [hr])
          replace ff2 := ff2 hk
          replace i0 := Lib.hid i0
          replace i1 := Lib.hid i1
          replace i2 := Lib.hid i2
          replace i3 := Lib.hid i3
          replace i4 := Lib.hid i4
          go_simp
          refine (w_eqRule_same _ _ _ _ _ _ _ _ (reads_of_owns (owns_later Oy3_0.out hL) (by omega)) (reads_of_owns (owns_later Oy3_1.out hL) (by omega)) (reads_of_owns ff2.1 (by omega)) (reads_of_owns ff2.2 (by omega))).mono ?_
          rintro e w4 ⟨rfl, hL4⟩
          exact hK.out _ _ ⟨(keepB x12 (by decide)), (keepB x4 (by decide)), (keepF i0.out (by decide)), (keepF i1.out (by decide)), (fun j => by obtain ⟨z52_0, z52_1, e0, -⟩ := i2.out j; exact ⟨z52_0, z52_1, (put_ne (by decide)).trans e0, fun hu => absurd hu (by simp)⟩), (fun _ => put_eq (by omega)), (keepF i4.out (by decide)), hL.trans hL4, (fun _ => rfl), Nat.le_trans hS hL4.size⟩
        · unfold SlotStep
          intro g ac wc hn hk hr hI K' hK
          obtain ⟨x12, x4, i0, i1, i2, i3, i4, hL, m4_3, hS⟩ := hI
          simp only [Region.binds] at hr
          simp at hr
          replace hK := Lib.hid hK
          have y3 := i3 (by first | exact hr | exact hr.1 | exact hr.2 | exact hr.2.1 | exact hr.2.2 | exact hr.2.2.1 | exact hr.2.2.2 | simp [hr])
          replace i0 := Lib.hid i0
          replace i1 := Lib.hid i1
          replace i2 := Lib.hid i2
          replace i3 := Lib.hid i3
          replace i4 := Lib.hid i4
          go_simp
          exact hK.out _ _ ⟨(keepB x12 (by decide)), (keepB x4 (by decide)), (keepF i0.out (by decide)), (keepF i1.out (by decide)), (fun j => by obtain ⟨z52_0, z52_1, e0, ff⟩ := i2.out j; exact ⟨z52_0, z52_1, (put_ne (by decide)).trans e0, fun hu => ⟨(ff hu).1, (ff hu).2⟩⟩), (keepF i3.out (by decide)), (fun _ => put_eq (by omega)), hL, (fun _ => by first | exact hr | exact hr.1 | exact hr.2 | exact hr.2.1 | exact hr.2.2 | simp [hr]), hS⟩
    · refine .cons ?_ (.cons ?_ (.cons ?_ (.cons ?_ (.cons ?_ (.cons ?_ (.cons ?_ (.cons ?_ (.cons ?_ (.cons ?_ (.cons ?_ (.cons ?_ .nil)))))))))))
      · unfold SlotStep
        intro g ac wc hn hk hr hI K' hK
        obtain ⟨x12, x1, x2, x7, i0, i1, i2, i3, i4, i5, i6, i7, i8, i11, hL, i9, q9, hS⟩ := hI
        simp only [Region.binds] at hr
        simp at hr
        replace hK := Lib.hid hK
        replace i0 := Lib.hid i0
        replace i1 := Lib.hid i1
        replace i2 := Lib.hid i2
        replace i3 := Lib.hid i3
        replace i4 := Lib.hid i4
        replace i5 := Lib.hid i5
        replace i6 := Lib.hid i6
        replace i7 := Lib.hid i7
        replace i8 := Lib.hid i8
        replace i11 := Lib.hid i11
        have cb := (blk_at (hL.keep KA12.out)).1
        have fb := (blk_at (hL.keep KA12.out)).2.1
        have zb := (blk_at (hL.keep KA12.out)).2.2
        go_simp
        exact hK.out _ _ ⟨(keepB x12 (by decide)), (keepB x1 (by decide)), (keepB x2 (by decide)), (keepB x7 (by decide)), (fun _ => put_eq (by omega)), (keepF i1.out (by decide)), (keepF i2.out (by decide)), (keepF i3.out (by decide)), (keepF i4.out (by decide)), (keepF i5.out (by decide)), (keepF i6.out (by decide)), (keepF i7.out (by decide)), (keepF i8.out (by decide)), (keepF i11.out (by decide)), hL, (fun j => by obtain ⟨k, e1, e2, p9_0, p9_1, e3, e4⟩ := i9 j; exact ⟨k, (put_ne (by decide)).trans e1, e2, p9_0, p9_1, e3, e4⟩), q9, hS⟩
      · unfold SlotStep
        intro g ac wc hn hk hr hI K' hK
        obtain ⟨x12, x1, x2, x7, i0, i1, i2, i3, i4, i5, i6, i7, i8, i11, hL, i9, q9, hS⟩ := hI
        simp only [Region.binds] at hr
        simp at hr
        replace hK := Lib.hid hK
        replace i0 := Lib.hid i0
        replace i1 := Lib.hid i1
        replace i2 := Lib.hid i2
        replace i3 := Lib.hid i3
        replace i4 := Lib.hid i4
        replace i5 := Lib.hid i5
        replace i6 := Lib.hid i6
        replace i7 := Lib.hid i7
        replace i8 := Lib.hid i8
        replace i11 := Lib.hid i11
        go_simp
        exact hK.out _ _ ⟨(keepB x12 (by decide)), (keepB x1 (by decide)), (keepB x2 (by decide)), (keepB x7 (by decide)), (keepF i0.out (by decide)), (fun _ => put_eq (by omega)), (keepF i2.out (by decide)), (keepF i3.out (by decide)), (keepF i4.out (by decide)), (keepF i5.out (by decide)), (keepF i6.out (by decide)), (keepF i7.out (by decide)), (keepF i8.out (by decide)), (keepF i11.out (by decide)), hL, (fun j => by obtain ⟨k, e1, e2, p9_0, p9_1, e3, e4⟩ := i9 j; exact ⟨k, (put_ne (by decide)).trans e1, e2, p9_0, p9_1, e3, e4⟩), q9, hS⟩
      · unfold SlotStep
        intro g ac wc hn hk hr hI K' hK
        obtain ⟨x12, x1, x2, x7, i0, i1, i2, i3, i4, i5, i6, i7, i8, i11, hL, i9, q9, hS⟩ := hI
        simp only [Region.binds] at hr
        simp at hr
        replace hK := Lib.hid hK
        replace i0 := Lib.hid i0
        replace i1 := Lib.hid i1
        replace i2 := Lib.hid i2
        replace i3 := Lib.hid i3
        replace i4 := Lib.hid i4
        replace i5 := Lib.hid i5
        replace i6 := Lib.hid i6
        replace i7 := Lib.hid i7
        replace i8 := Lib.hid i8
        replace i11 := Lib.hid i11
        go_simp
        exact hK.out _ _ ⟨(keepB x12 (by decide)), (keepB x1 (by decide)), (keepB x2 (by decide)), (keepB x7 (by decide)), (keepF i0.out (by decide)), (keepF i1.out (by decide)), (fun _ => put_eq (by omega)), (keepF i3.out (by decide)), (keepF i4.out (by decide)), (keepF i5.out (by decide)), (keepF i6.out (by decide)), (keepF i7.out (by decide)), (keepF i8.out (by decide)), (keepF i11.out (by decide)), hL, (fun j => by obtain ⟨k, e1, e2, p9_0, p9_1, e3, e4⟩ := i9 j; exact ⟨k, (put_ne (by decide)).trans e1, e2, p9_0, p9_1, e3, e4⟩), q9, hS⟩
      · unfold SlotStep
        intro g ac wc hn hk hr hI K' hK
        obtain ⟨x12, x1, x2, x7, i0, i1, i2, i3, i4, i5, i6, i7, i8, i11, hL, i9, q9, hS⟩ := hI
        simp only [Region.binds] at hr
        simp at hr
        replace hK := Lib.hid hK
        replace i0 := Lib.hid i0
        replace i1 := Lib.hid i1
        replace i2 := Lib.hid i2
        replace i3 := Lib.hid i3
        replace i4 := Lib.hid i4
        replace i5 := Lib.hid i5
        replace i6 := Lib.hid i6
        replace i7 := Lib.hid i7
        replace i8 := Lib.hid i8
        replace i11 := Lib.hid i11
        have cb := (blk_at (hL.keep KB3.out)).1
        have fb := (blk_at (hL.keep KB3.out)).2.1
        have zb := (blk_at (hL.keep KB3.out)).2.2
        go_simp
        exact hK.out _ _ ⟨(keepB x12 (by decide)), (keepB x1 (by decide)), (keepB x2 (by decide)), (keepB x7 (by decide)), (keepF i0.out (by decide)), (keepF i1.out (by decide)), (keepF i2.out (by decide)), (fun _ => put_eq (by omega)), (keepF i4.out (by decide)), (keepF i5.out (by decide)), (keepF i6.out (by decide)), (keepF i7.out (by decide)), (keepF i8.out (by decide)), (keepF i11.out (by decide)), hL, (fun j => by obtain ⟨k, e1, e2, p9_0, p9_1, e3, e4⟩ := i9 j; exact ⟨k, (put_ne (by decide)).trans e1, e2, p9_0, p9_1, e3, e4⟩), q9, hS⟩
      · unfold SlotStep
        intro g ac wc hn hk hr hI K' hK
        obtain ⟨x12, x1, x2, x7, i0, i1, i2, i3, i4, i5, i6, i7, i8, i11, hL, i9, q9, hS⟩ := hI
        simp only [Region.binds] at hr
        simp at hr
        replace hK := Lib.hid hK
        have y3 := i3 (by first | exact hr | exact hr.1 | exact hr.2 | exact hr.2.1 | exact hr.2.2 | exact hr.2.2.1 | exact hr.2.2.2 | simp [hr])
        replace i0 := Lib.hid i0
        replace i1 := Lib.hid i1
        replace i2 := Lib.hid i2
        replace i3 := Lib.hid i3
        replace i4 := Lib.hid i4
        replace i5 := Lib.hid i5
        replace i6 := Lib.hid i6
        replace i7 := Lib.hid i7
        replace i8 := Lib.hid i8
        replace i11 := Lib.hid i11
        go_simp
        refine (w_toFigure _ _ _).mono ?_
        rintro e w4 ⟨rfl, hL4⟩
        exact hK.out _ _ ⟨(keepB x12 (by decide)), (keepB x1 (by decide)), (keepB x2 (by decide)), (keepB x7 (by decide)), (keepF i0.out (by decide)), (keepF i1.out (by decide)), (keepF i2.out (by decide)), (keepF i3.out (by decide)), (fun _ => put_eq (by omega)), (keepF i5.out (by decide)), (keepF i6.out (by decide)), (keepF i7.out (by decide)), (keepF i8.out (by decide)), (keepF i11.out (by decide)), hL.trans hL4, (fun j => by obtain ⟨k, e1, e2, p9_0, p9_1, e3, e4⟩ := i9 j; exact ⟨k, (put_ne (by decide)).trans e1, e2, p9_0, p9_1, hL4.keep e3, e4⟩), q9, Nat.le_trans hS hL4.size⟩
      · unfold SlotStep
        intro g ac wc hn hk hr hI K' hK
        obtain ⟨x12, x1, x2, x7, i0, i1, i2, i3, i4, i5, i6, i7, i8, i11, hL, i9, q9, hS⟩ := hI
        simp only [Region.binds] at hr
        simp at hr
        replace hK := Lib.hid hK
        have y0 := i0 (by first | exact hr | exact hr.1 | exact hr.2 | exact hr.2.1 | exact hr.2.2 | exact hr.2.2.1 | exact hr.2.2.2 | simp [hr])
        have y1 := i1 (by first | exact hr | exact hr.1 | exact hr.2 | exact hr.2.1 | exact hr.2.2 | exact hr.2.2.1 | exact hr.2.2.2 | simp [hr])
        have y2 := i2 (by first | exact hr | exact hr.1 | exact hr.2 | exact hr.2.1 | exact hr.2.2 | exact hr.2.2.1 | exact hr.2.2.2 | simp [hr])
        have y4 := i4 (by first | exact hr | exact hr.1 | exact hr.2 | exact hr.2.1 | exact hr.2.2 | exact hr.2.2.1 | exact hr.2.2.2 | simp [hr])
        replace i0 := Lib.hid i0
        replace i1 := Lib.hid i1
        replace i2 := Lib.hid i2
        replace i3 := Lib.hid i3
        replace i4 := Lib.hid i4
        replace i5 := Lib.hid i5
        replace i6 := Lib.hid i6
        replace i7 := Lib.hid i7
        replace i8 := Lib.hid i8
        replace i11 := Lib.hid i11
        go_simp
        refine (w_implTransferFigure _ _ _ _ _ _ _ _ _ _ (reads_of_owns (owns_later Oy3_0.out hL) (by omega)) (reads_of_owns (owns_later Oy3_1.out hL) (by omega))).mono ?_
        rintro e w4 ⟨rfl, hL4⟩
        rw [HRS0.out, HRS1.out]
        exact hK.out _ _ ⟨(keepB x12 (by decide)), (keepB x1 (by decide)), (keepB x2 (by decide)), (keepB x7 (by decide)), (keepF i0.out (by decide)), (keepF i1.out (by decide)), (keepF i2.out (by decide)), (keepF i3.out (by decide)), (keepF i4.out (by decide)), (fun _ => put_eq (by omega)), (keepF i6.out (by decide)), (keepF i7.out (by decide)), (keepF i8.out (by decide)), (keepF i11.out (by decide)), hL.trans hL4, (fun j => by obtain ⟨k, e1, e2, p9_0, p9_1, e3, e4⟩ := i9 j; exact ⟨k, (put_ne (by decide)).trans e1, e2, p9_0, p9_1, hL4.keep e3, e4⟩), q9, Nat.le_trans hS hL4.size⟩
      · unfold SlotStep
        intro g ac wc hn hk hr hI K' hK
        obtain ⟨x12, x1, x2, x7, i0, i1, i2, i3, i4, i5, i6, i7, i8, i11, hL, i9, q9, hS⟩ := hI
        simp only [Region.binds] at hr
        simp at hr
        replace hK := Lib.hid hK
        have y5 := i5 (by first | exact hr | exact hr.1 | exact hr.2 | exact hr.2.1 | exact hr.2.2 | exact hr.2.2.1 | exact hr.2.2.2 | simp [hr])
        replace i0 := Lib.hid i0
        replace i1 := Lib.hid i1
        replace i2 := Lib.hid i2
        replace i3 := Lib.hid i3
        replace i4 := Lib.hid i4
        replace i5 := Lib.hid i5
        replace i6 := Lib.hid i6
        replace i7 := Lib.hid i7
        replace i8 := Lib.hid i8
        replace i11 := Lib.hid i11
        go_simp
        exact hK.out _ _ ⟨(keepB x12 (by decide)), (keepB x1 (by decide)), (keepB x2 (by decide)), (keepB x7 (by decide)), (keepF i0.out (by decide)), (keepF i1.out (by decide)), (keepF i2.out (by decide)), (keepF i3.out (by decide)), (keepF i4.out (by decide)), (keepF i5.out (by decide)), (fun _ => put_eq (by omega)), (keepF i7.out (by decide)), (keepF i8.out (by decide)), (keepF i11.out (by decide)), hL, (fun j => by obtain ⟨k, e1, e2, p9_0, p9_1, e3, e4⟩ := i9 j; exact ⟨k, (put_ne (by decide)).trans e1, e2, p9_0, p9_1, e3, e4⟩), q9, hS⟩
      · unfold SlotStep
        intro g ac wc hn hk hr hI K' hK
        obtain ⟨x12, x1, x2, x7, i0, i1, i2, i3, i4, i5, i6, i7, i8, i11, hL, i9, q9, hS⟩ := hI
        simp only [Region.binds] at hr
        simp at hr
        replace hK := Lib.hid hK
        have y6 := i6 (by first | exact hr | exact hr.1 | exact hr.2 | exact hr.2.1 | exact hr.2.2 | exact hr.2.2.1 | exact hr.2.2.2 | simp [hr])
        replace i0 := Lib.hid i0
        replace i1 := Lib.hid i1
        replace i2 := Lib.hid i2
        replace i3 := Lib.hid i3
        replace i4 := Lib.hid i4
        replace i5 := Lib.hid i5
        replace i6 := Lib.hid i6
        replace i7 := Lib.hid i7
        replace i8 := Lib.hid i8
        replace i11 := Lib.hid i11
        go_simp
        exact hK.out _ _ ⟨(keepB x12 (by decide)), (keepB x1 (by decide)), (keepB x2 (by decide)), (keepB x7 (by decide)), (keepF i0.out (by decide)), (keepF i1.out (by decide)), (keepF i2.out (by decide)), (keepF i3.out (by decide)), (keepF i4.out (by decide)), (keepF i5.out (by decide)), (keepF i6.out (by decide)), (fun _ => put_eq (by omega)), (keepF i8.out (by decide)), (keepF i11.out (by decide)), hL, (fun j => by obtain ⟨k, e1, e2, p9_0, p9_1, e3, e4⟩ := i9 j; exact ⟨k, (put_ne (by decide)).trans e1, e2, p9_0, p9_1, e3, e4⟩), q9, hS⟩
      · unfold SlotStep
        intro g ac wc hn hk hr hI K' hK
        obtain ⟨x12, x1, x2, x7, i0, i1, i2, i3, i4, i5, i6, i7, i8, i11, hL, i9, q9, hS⟩ := hI
        simp only [Region.binds] at hr
        simp at hr
        replace hK := Lib.hid hK
        have y6 := i6 (by first | exact hr | exact hr.1 | exact hr.2 | exact hr.2.1 | exact hr.2.2 | exact hr.2.2.1 | exact hr.2.2.2 | simp [hr])
        replace i0 := Lib.hid i0
        replace i1 := Lib.hid i1
        replace i2 := Lib.hid i2
        replace i3 := Lib.hid i3
        replace i4 := Lib.hid i4
        replace i5 := Lib.hid i5
        replace i6 := Lib.hid i6
        replace i7 := Lib.hid i7
        replace i8 := Lib.hid i8
        replace i11 := Lib.hid i11
        go_simp
        exact hK.out _ _ ⟨(keepB x12 (by decide)), (keepB x1 (by decide)), (keepB x2 (by decide)), (keepB x7 (by decide)), (keepF i0.out (by decide)), (keepF i1.out (by decide)), (keepF i2.out (by decide)), (keepF i3.out (by decide)), (keepF i4.out (by decide)), (keepF i5.out (by decide)), (keepF i6.out (by decide)), (keepF i7.out (by decide)), (fun _ => put_eq (by omega)), (keepF i11.out (by decide)), hL, (fun j => by obtain ⟨k, e1, e2, p9_0, p9_1, e3, e4⟩ := i9 j; exact ⟨k, (put_ne (by decide)).trans e1, e2, p9_0, p9_1, e3, e4⟩), q9, hS⟩
      · unfold SlotStep
        intro g ac wc hn hk hr hI K' hK
        obtain ⟨x12, x1, x2, x7, i0, i1, i2, i3, i4, i5, i6, i7, i8, i11, hL, i9, q9, hS⟩ := hI
        simp only [Region.binds] at hr
        simp at hr
        replace hK := Lib.hid hK
        replace i0 := Lib.hid i0
        replace i1 := Lib.hid i1
        replace i2 := Lib.hid i2
        replace i3 := Lib.hid i3
        replace i4 := Lib.hid i4
        replace i5 := Lib.hid i5
        replace i6 := Lib.hid i6
        replace i7 := Lib.hid i7
        replace i8 := Lib.hid i8
        replace i11 := Lib.hid i11
        go_simp
        refine hK.out _ _ ⟨(keepB x12 (by decide)), (keepB x1 (by decide)), (keepB x2 (by decide)), (keepB x7 (by decide)), (keepF i0.out (by decide)), (keepF i1.out (by decide)), (keepF i2.out (by decide)), (keepF i3.out (by decide)), (keepF i4.out (by decide)), (keepF i5.out (by decide)), (keepF i6.out (by decide)), (keepF i7.out (by decide)), (keepF i8.out (by decide)), (keepF i11.out (by decide)), hL.alloc _, (fun _ => ⟨_, put_eq (by omega), hS, _, _, heap_alloc_new _ _, fun j6 => absurd ((q9 j6).symm.trans hk) (by simp)⟩), fun _ => rfl, (by simp; omega)⟩
      · unfold SlotStep
        intro g ac wc hn hk hr hI K' hK
        obtain ⟨x12, x1, x2, x7, i0, i1, i2, i3, i4, i5, i6, i7, i8, i11, hL, i9, q9, hS⟩ := hI
        simp only [Region.binds] at hr
        simp at hr
        replace hK := Lib.hid hK
        have y7 := i7 (by first | exact hr | exact hr.1 | exact hr.2 | exact hr.2.1 | exact hr.2.2 | exact hr.2.2.1 | exact hr.2.2.2 | simp [hr])
        replace i0 := Lib.hid i0
        replace i1 := Lib.hid i1
        replace i2 := Lib.hid i2
        replace i3 := Lib.hid i3
        replace i4 := Lib.hid i4
        replace i5 := Lib.hid i5
        replace i6 := Lib.hid i6
        replace i7 := Lib.hid i7
        replace i8 := Lib.hid i8
        replace i11 := Lib.hid i11
        have hda : g 9 = true := by first | exact hr | exact hr.1 | exact hr.2 | exact hr.2.1 | exact hr.2.2 | exact hr.2.2.1 | exact hr.2.2.2 | simp [hr]
        obtain ⟨k, e1, e2, p9_0, p9_1, e3, -⟩ := i9 hda
        have c0 := (blk_at e3).1
        have f0 := (blk_at e3).2.1
        have z0 := (blk_at e3).2.2
        go_simp
        exact hK.out undef _ ⟨x12, x1, x2, x7, i0.out, i1.out, i2.out, i3.out, i4.out, i5.out, i6.out, i7.out, i8.out, i11.out, ((hL.setCell e2 _).setCell e2 _), (fun _ => ⟨k, e1, e2, _, _, two_set e3 _ _, fun _ => ⟨rfl, rfl⟩⟩), (fun _ => hda), (by simp; omega)⟩
      · unfold SlotStep
        intro g ac wc hn hk hr hI K' hK
        obtain ⟨x12, x1, x2, x7, i0, i1, i2, i3, i4, i5, i6, i7, i8, i11, hL, i9, q9, hS⟩ := hI
        simp only [Region.binds] at hr
        simp at hr
        replace hK := Lib.hid hK
        have y8 := i8 (by first | exact hr | exact hr.1 | exact hr.2 | exact hr.2.1 | exact hr.2.2 | exact hr.2.2.1 | exact hr.2.2.2 | simp [hr])
        replace i0 := Lib.hid i0
        replace i1 := Lib.hid i1
        replace i2 := Lib.hid i2
        replace i3 := Lib.hid i3
        replace i4 := Lib.hid i4
        replace i5 := Lib.hid i5
        replace i6 := Lib.hid i6
        replace i7 := Lib.hid i7
        replace i8 := Lib.hid i8
        replace i11 := Lib.hid i11
        go_simp
        exact hK.out _ _ ⟨(keepB x12 (by decide)), (keepB x1 (by decide)), (keepB x2 (by decide)), (keepB x7 (by decide)), (keepF i0.out (by decide)), (keepF i1.out (by decide)), (keepF i2.out (by decide)), (keepF i3.out (by decide)), (keepF i4.out (by decide)), (keepF i5.out (by decide)), (keepF i6.out (by decide)), (keepF i7.out (by decide)), (keepF i8.out (by decide)), (fun _ => put_eq (by omega)), hL, (fun j => by obtain ⟨k, e1, e2, p9_0, p9_1, e3, e4⟩ := i9 j; exact ⟨k, (put_ne (by decide)).trans e1, e2, p9_0, p9_1, e3, e4⟩), q9, hS⟩
  · refine .cons ?_ (.cons ?_ (.cons ?_ (.cons ?_ (.cons ?_ (.cons ?_ (.cons ?_ (.cons ?_ (.cons ?_ (.cons ?_ (.cons ?_ (.cons ?_ (.cons ?_ .nil))))))))))))
    · unfold SlotStep
      intro g ac wc hn hk hr hI K' hK
      obtain ⟨x4, x1, x2, x7, i0, i1, i2, i3, i4, i5, i6, i7, i8, i9, i12, hL, i10, q10, m7_6, m8_6, m9_6, m12_6, hS⟩ := hI
      simp only [Region.binds] at hr
      simp at hr
      replace hK := Lib.hid hK
      replace i0 := Lib.hid i0
      replace i1 := Lib.hid i1
      replace i2 := Lib.hid i2
      replace i3 := Lib.hid i3
      replace i4 := Lib.hid i4
      replace i5 := Lib.hid i5
      replace i6 := Lib.hid i6
      replace i7 := Lib.hid i7
      replace i8 := Lib.hid i8
      replace i9 := Lib.hid i9
      replace i12 := Lib.hid i12
      have cb := (blk_at (hL.keep KB0.out)).1
      have fb := (blk_at (hL.keep KB0.out)).2.1
      have zb := (blk_at (hL.keep KB0.out)).2.2
      go_simp
      exact hK.out _ _ ⟨(keepB x4 (by decide)), (keepB x1 (by decide)), (keepB x2 (by decide)), (keepB x7 (by decide)), (fun _ => put_eq (by omega)), (fun j => by obtain ⟨z22_0, z22_1, e0, ff⟩ := i1.out j; exact ⟨z22_0, z22_1, (put_ne (by decide)).trans e0, fun hu => ⟨(ff hu).1, (ff hu).2⟩⟩), (keepF i2.out (by decide)), (keepF i3.out (by decide)), (keepF i4.out (by decide)), (keepF i5.out (by decide)), (keepF i6.out (by decide)), (keepF i7.out (by decide)), (keepF i8.out (by decide)), (keepF i9.out (by decide)), (keepF i12.out (by decide)), hL, (fun j => by obtain ⟨k, e1, e2, p10_0, p10_1, e3, e4⟩ := i10 j; exact ⟨k, (put_ne (by decide)).trans e1, e2, p10_0, p10_1, e3, e4⟩), q10, m7_6, m8_6, m9_6, m12_6, hS⟩
    · unfold SlotStep
      intro g ac wc hn hk hr hI K' hK
      obtain ⟨x4, x1, x2, x7, i0, i1, i2, i3, i4, i5, i6, i7, i8, i9, i12, hL, i10, q10, m7_6, m8_6, m9_6, m12_6, hS⟩ := hI
      simp only [Region.binds] at hr
      simp at hr
      replace hK := Lib.hid hK
      have y0 := i0 (by first | exact hr | exact hr.1 | exact hr.2 | exact hr.2.1 | exact hr.2.2 | exact hr.2.2.1 | exact hr.2.2.2 | simp [hr])
      replace i0 := Lib.hid i0
      replace i1 := Lib.hid i1
      replace i2 := Lib.hid i2
      replace i3 := Lib.hid i3
      replace i4 := Lib.hid i4
      replace i5 := Lib.hid i5
      replace i6 := Lib.hid i6
      replace i7 := Lib.hid i7
      replace i8 := Lib.hid i8
      replace i9 := Lib.hid i9
      replace i12 := Lib.hid i12
      go_simp
      refine (w_toRule _ _ _ _ _ _ (R0a.out.later (HW.trans hL)) (R0b.out.later (HW.trans hL))).mono ?_
      rintro e w4 ⟨z22_0, z22_1, rfl, hL4, ho0, ho1⟩
      exact hK.out _ _ ⟨(keepB x4 (by decide)), (keepB x1 (by decide)), (keepB x2 (by decide)), (keepB x7 (by decide)), (keepF i0.out (by decide)), (fun _ => ⟨z22_0, z22_1, put_eq (by omega), fun _ => ⟨owns_base ho0 hS, owns_base ho1 hS⟩⟩), (keepF i2.out (by decide)), (keepF i3.out (by decide)), (keepF i4.out (by decide)), (keepF i5.out (by decide)), (keepF i6.out (by decide)), (keepF i7.out (by decide)), (keepF i8.out (by decide)), (keepF i9.out (by decide)), (keepF i12.out (by decide)), hL.trans hL4, (fun j => by obtain ⟨k, e1, e2, p10_0, p10_1, e3, e4⟩ := i10 j; exact ⟨k, (put_ne (by decide)).trans e1, e2, p10_0, p10_1, hL4.keep e3, e4⟩), q10, m7_6, m8_6, m9_6, m12_6, Nat.le_trans hS hL4.size⟩
    · unfold SlotStep
      intro g ac wc hn hk hr hI K' hK
      obtain ⟨x4, x1, x2, x7, i0, i1, i2, i3, i4, i5, i6, i7, i8, i9, i12, hL, i10, q10, m7_6, m8_6, m9_6, m12_6, hS⟩ := hI
      simp only [Region.binds] at hr
      simp at hr
      replace hK := Lib.hid hK
      replace i0 := Lib.hid i0
      replace i1 := Lib.hid i1
      replace i2 := Lib.hid i2
      replace i3 := Lib.hid i3
      replace i4 := Lib.hid i4
      replace i5 := Lib.hid i5
      replace i6 := Lib.hid i6
      replace i7 := Lib.hid i7
      replace i8 := Lib.hid i8
      replace i9 := Lib.hid i9
      replace i12 := Lib.hid i12
      go_simp
      exact hK.out _ _ ⟨(keepB x4 (by decide)), (keepB x1 (by decide)), (keepB x2 (by decide)), (keepB x7 (by decide)), (keepF i0.out (by decide)), (fun j => by obtain ⟨z22_0, z22_1, e0, ff⟩ := i1.out j; exact ⟨z22_0, z22_1, (put_ne (by decide)).trans e0, fun hu => ⟨(ff hu).1, (ff hu).2⟩⟩), (fun _ => put_eq (by omega)), (keepF i3.out (by decide)), (keepF i4.out (by decide)), (keepF i5.out (by decide)), (keepF i6.out (by decide)), (keepF i7.out (by decide)), (keepF i8.out (by decide)), (keepF i9.out (by decide)), (keepF i12.out (by decide)), hL, (fun j => by obtain ⟨k, e1, e2, p10_0, p10_1, e3, e4⟩ := i10 j; exact ⟨k, (put_ne (by decide)).trans e1, e2, p10_0, p10_1, e3, e4⟩), q10, m7_6, m8_6, m9_6, m12_6, hS⟩
    · unfold SlotStep
      intro g ac wc hn hk hr hI K' hK
      obtain ⟨x4, x1, x2, x7, i0, i1, i2, i3, i4, i5, i6, i7, i8, i9, i12, hL, i10, q10, m7_6, m8_6, m9_6, m12_6, hS⟩ := hI
      simp only [Region.binds] at hr
      simp at hr
      replace hK := Lib.hid hK
      replace i0 := Lib.hid i0
      replace i1 := Lib.hid i1
      replace i2 := Lib.hid i2
      replace i3 := Lib.hid i3
      replace i4 := Lib.hid i4
      replace i5 := Lib.hid i5
      replace i6 := Lib.hid i6
      replace i7 := Lib.hid i7
      replace i8 := Lib.hid i8
      replace i9 := Lib.hid i9
      replace i12 := Lib.hid i12
      go_simp
      exact hK.out _ _ ⟨(keepB x4 (by decide)), (keepB x1 (by decide)), (keepB x2 (by decide)), (keepB x7 (by decide)), (keepF i0.out (by decide)), (fun j => by obtain ⟨z22_0, z22_1, e0, ff⟩ := i1.out j; exact ⟨z22_0, z22_1, (put_ne (by decide)).trans e0, fun hu => ⟨(ff hu).1, (ff hu).2⟩⟩), (keepF i2.out (by decide)), (fun _ => put_eq (by omega)), (keepF i4.out (by decide)), (keepF i5.out (by decide)), (keepF i6.out (by decide)), (keepF i7.out (by decide)), (keepF i8.out (by decide)), (keepF i9.out (by decide)), (keepF i12.out (by decide)), hL, (fun j => by obtain ⟨k, e1, e2, p10_0, p10_1, e3, e4⟩ := i10 j; exact ⟨k, (put_ne (by decide)).trans e1, e2, p10_0, p10_1, e3, e4⟩), q10, m7_6, m8_6, m9_6, m12_6, hS⟩
    · unfold SlotStep
      intro g ac wc hn hk hr hI K' hK
      obtain ⟨x4, x1, x2, x7, i0, i1, i2, i3, i4, i5, i6, i7, i8, i9, i12, hL, i10, q10, m7_6, m8_6, m9_6, m12_6, hS⟩ := hI
      simp only [Region.binds] at hr
      simp at hr
      replace hK := Lib.hid hK
      replace i0 := Lib.hid i0
      replace i1 := Lib.hid i1
      replace i2 := Lib.hid i2
      replace i3 := Lib.hid i3
      replace i4 := Lib.hid i4
      replace i5 := Lib.hid i5
      replace i6 := Lib.hid i6
      replace i7 := Lib.hid i7
      replace i8 := Lib.hid i8
      replace i9 := Lib.hid i9
      replace i12 := Lib.hid i12
      have cb := (blk_at (hL.keep KB3.out)).1
      have fb := (blk_at (hL.keep KB3.out)).2.1
      have zb := (blk_at (hL.keep KB3.out)).2.2
      go_simp
      exact hK.out _ _ ⟨(keepB x4 (by decide)), (keepB x1 (by decide)), (keepB x2 (by decide)), (keepB x7 (by decide)), (keepF i0.out (by decide)), (fun j => by obtain ⟨z22_0, z22_1, e0, ff⟩ := i1.out j; exact ⟨z22_0, z22_1, (put_ne (by decide)).trans e0, fun hu => ⟨(ff hu).1, (ff hu).2⟩⟩), (keepF i2.out (by decide)), (keepF i3.out (by decide)), (fun _ => put_eq (by omega)), (keepF i5.out (by decide)), (keepF i6.out (by decide)), (keepF i7.out (by decide)), (keepF i8.out (by decide)), (keepF i9.out (by decide)), (keepF i12.out (by decide)), hL, (fun j => by obtain ⟨k, e1, e2, p10_0, p10_1, e3, e4⟩ := i10 j; exact ⟨k, (put_ne (by decide)).trans e1, e2, p10_0, p10_1, e3, e4⟩), q10, m7_6, m8_6, m9_6, m12_6, hS⟩
    · unfold SlotStep
      intro g ac wc hn hk hr hI K' hK
      obtain ⟨x4, x1, x2, x7, i0, i1, i2, i3, i4, i5, i6, i7, i8, i9, i12, hL, i10, q10, m7_6, m8_6, m9_6, m12_6, hS⟩ := hI
      simp only [Region.binds] at hr
      simp at hr
      replace hK := Lib.hid hK
      have y4 := i4 (by first | exact hr | exact hr.1 | exact hr.2 | exact hr.2.1 | exact hr.2.2 | exact hr.2.2.1 | exact hr.2.2.2 | simp [hr])
      replace i0 := Lib.hid i0
      replace i1 := Lib.hid i1
      replace i2 := Lib.hid i2
      replace i3 := Lib.hid i3
      replace i4 := Lib.hid i4
      replace i5 := Lib.hid i5
      replace i6 := Lib.hid i6
      replace i7 := Lib.hid i7
      replace i8 := Lib.hid i8
      replace i9 := Lib.hid i9
      replace i12 := Lib.hid i12
      go_simp
      refine (w_toFigure _ _ _).mono ?_
      rintro e w4 ⟨rfl, hL4⟩
      exact hK.out _ _ ⟨(keepB x4 (by decide)), (keepB x1 (by decide)), (keepB x2 (by decide)), (keepB x7 (by decide)), (keepF i0.out (by decide)), (fun j => by obtain ⟨z22_0, z22_1, e0, ff⟩ := i1.out j; exact ⟨z22_0, z22_1, (put_ne (by decide)).trans e0, fun hu => ⟨owns_later ((ff hu).1) (hL4), owns_later ((ff hu).2) (hL4)⟩⟩), (keepF i2.out (by decide)), (keepF i3.out (by decide)), (keepF i4.out (by decide)), (fun _ => put_eq (by omega)), (keepF i6.out (by decide)), (keepF i7.out (by decide)), (keepF i8.out (by decide)), (keepF i9.out (by decide)), (keepF i12.out (by decide)), hL.trans hL4, (fun j => by obtain ⟨k, e1, e2, p10_0, p10_1, e3, e4⟩ := i10 j; exact ⟨k, (put_ne (by decide)).trans e1, e2, p10_0, p10_1, hL4.keep e3, e4⟩), q10, m7_6, m8_6, m9_6, m12_6, Nat.le_trans hS hL4.size⟩
    · unfold SlotStep
      intro g ac wc hn hk hr hI K' hK
      obtain ⟨x4, x1, x2, x7, i0, i1, i2, i3, i4, i5, i6, i7, i8, i9, i12, hL, i10, q10, m7_6, m8_6, m9_6, m12_6, hS⟩ := hI
      simp only [Region.binds] at hr
      simp at hr
      replace hK := Lib.hid hK
      obtain ⟨z22_0, z22_1, y1, ff1⟩ := i1 (by first | exact hr | exact hr.1 | exact hr.2 | exact hr.2.1 | exact hr.2.2 | exact hr.2.2.1 | exact hr.2.2.2 | simp [hr])
      replace ff1 := ff1 hk
      have y2 := i2 (by first | exact hr | exact hr.1 | exact hr.2 | exact hr.2.1 | exact hr.2.2 | exact hr.2.2.1 | exact hr.2.2.2 | simp [hr])
      have y3 := i3 (by first | exact hr | exact hr.1 | exact hr.2 | exact hr.2.1 | exact hr.2.2 | exact hr.2.2.1 | exact hr.2.2.2 | simp [hr])
      have y5 := i5 (by first | exact hr | exact hr.1 | exact hr.2 | exact hr.2.1 | exact hr.2.2 | exact hr.2.2.1 | exact hr.2.2.2 | simp [hr])
      replace i0 := Lib.hid i0
      replace i1 := Lib.hid i1
      replace i2 := Lib.hid i2
      replace i3 := Lib.hid i3
      replace i4 := Lib.hid i4
      replace i5 := Lib.hid i5
      replace i6 := Lib.hid i6
      replace i7 := Lib.hid i7
      replace i8 := Lib.hid i8
      replace i9 := Lib.hid i9
      replace i12 := Lib.hid i12
      go_simp
      refine (w_specTransferFigure _ _ _ _ _ _ _ _ _ _ (reads_of_owns ff1.1 (by omega)) (reads_of_owns ff1.2 (by omega))).mono ?_
      rintro e w4 ⟨rfl, hL4⟩
      rw [HRS0.out, HRS1.out]
      exact hK.out _ _ ⟨(keepB x4 (by decide)), (keepB x1 (by decide)), (keepB x2 (by decide)), (keepB x7 (by decide)), (keepF i0.out (by decide)), (fun j => by obtain ⟨z22_0, z22_1, e0, -⟩ := i1.out j; exact ⟨z22_0, z22_1, (put_ne (by decide)).trans e0, fun hu => absurd hu (by simp)⟩), (keepF i2.out (by decide)), (keepF i3.out (by decide)), (keepF i4.out (by decide)), (keepF i5.out (by decide)), (fun _ => put_eq (by omega)), (keepF i7.out (by decide)), (keepF i8.out (by decide)), (keepF i9.out (by decide)), (keepF i12.out (by decide)), hL.trans hL4, (fun j => by obtain ⟨k, e1, e2, p10_0, p10_1, e3, e4⟩ := i10 j; exact ⟨k, (put_ne (by decide)).trans e1, e2, p10_0, p10_1, hL4.keep e3, e4⟩), q10, (fun _ => rfl), (fun _ => rfl), (fun _ => rfl), (fun _ => rfl), Nat.le_trans hS hL4.size⟩
    · unfold SlotStep
      intro g ac wc hn hk hr hI K' hK
      obtain ⟨x4, x1, x2, x7, i0, i1, i2, i3, i4, i5, i6, i7, i8, i9, i12, hL, i10, q10, m7_6, m8_6, m9_6, m12_6, hS⟩ := hI
      simp only [Region.binds] at hr
      simp at hr
      replace hK := Lib.hid hK
      have y6 := i6 (by first | exact hr | exact hr.1 | exact hr.2 | exact hr.2.1 | exact hr.2.2 | exact hr.2.2.1 | exact hr.2.2.2 | simp [hr])
      replace i0 := Lib.hid i0
      replace i1 := Lib.hid i1
      replace i2 := Lib.hid i2
      replace i3 := Lib.hid i3
      replace i4 := Lib.hid i4
      replace i5 := Lib.hid i5
      replace i6 := Lib.hid i6
      replace i7 := Lib.hid i7
      replace i8 := Lib.hid i8
      replace i9 := Lib.hid i9
      replace i12 := Lib.hid i12
      go_simp
      exact hK.out _ _ ⟨(keepB x4 (by decide)), (keepB x1 (by decide)), (keepB x2 (by decide)), (keepB x7 (by decide)), (keepF i0.out (by decide)), (fun j => by obtain ⟨z22_0, z22_1, e0, ff⟩ := i1.out j; exact ⟨z22_0, z22_1, (put_ne (by decide)).trans e0, fun hu => ⟨(ff hu).1, (ff hu).2⟩⟩), (keepF i2.out (by decide)), (keepF i3.out (by decide)), (keepF i4.out (by decide)), (keepF i5.out (by decide)), (keepF i6.out (by decide)), (fun _ => put_eq (by omega)), (keepF i8.out (by decide)), (keepF i9.out (by decide)), (keepF i12.out (by decide)), hL, (fun j => by obtain ⟨k, e1, e2, p10_0, p10_1, e3, e4⟩ := i10 j; exact ⟨k, (put_ne (by decide)).trans e1, e2, p10_0, p10_1, e3, e4⟩), q10, (fun _ => by first | exact hr | exact hr.1 | exact hr.2 | exact hr.2.1 | exact hr.2.2 | simp [hr]), m8_6, m9_6, m12_6, hS⟩
    · unfold SlotStep
      intro g ac wc hn hk hr hI K' hK
      obtain ⟨x4, x1, x2, x7, i0, i1, i2, i3, i4, i5, i6, i7, i8, i9, i12, hL, i10, q10, m7_6, m8_6, m9_6, m12_6, hS⟩ := hI
      simp only [Region.binds] at hr
      simp at hr
      replace hK := Lib.hid hK
      have y7 := i7 (by first | exact hr | exact hr.1 | exact hr.2 | exact hr.2.1 | exact hr.2.2 | exact hr.2.2.1 | exact hr.2.2.2 | simp [hr])
      replace i0 := Lib.hid i0
      replace i1 := Lib.hid i1
      replace i2 := Lib.hid i2
      replace i3 := Lib.hid i3
      replace i4 := Lib.hid i4
      replace i5 := Lib.hid i5
      replace i6 := Lib.hid i6
      replace i7 := Lib.hid i7
      replace i8 := Lib.hid i8
      replace i9 := Lib.hid i9
      replace i12 := Lib.hid i12
      go_simp
      exact hK.out _ _ ⟨(keepB x4 (by decide)), (keepB x1 (by decide)), (keepB x2 (by decide)), (keepB x7 (by decide)), (keepF i0.out (by decide)), (fun j => by obtain ⟨z22_0, z22_1, e0, ff⟩ := i1.out j; exact ⟨z22_0, z22_1, (put_ne (by decide)).trans e0, fun hu => ⟨(ff hu).1, (ff hu).2⟩⟩), (keepF i2.out (by decide)), (keepF i3.out (by decide)), (keepF i4.out (by decide)), (keepF i5.out (by decide)), (keepF i6.out (by decide)), (keepF i7.out (by decide)), (fun _ => put_eq (by omega)), (keepF i9.out (by decide)), (keepF i12.out (by decide)), hL, (fun j => by obtain ⟨k, e1, e2, p10_0, p10_1, e3, e4⟩ := i10 j; exact ⟨k, (put_ne (by decide)).trans e1, e2, p10_0, p10_1, e3, e4⟩), q10, m7_6, (fun _ => m7_6 (by first | exact hr | exact hr.1 | exact hr.2 | exact hr.2.1 | exact hr.2.2 | simp [hr])), m9_6, m12_6, hS⟩
    · unfold SlotStep
      intro g ac wc hn hk hr hI K' hK
      obtain ⟨x4, x1, x2, x7, i0, i1, i2, i3, i4, i5, i6, i7, i8, i9, i12, hL, i10, q10, m7_6, m8_6, m9_6, m12_6, hS⟩ := hI
      simp only [Region.binds] at hr
      simp at hr
      replace hK := Lib.hid hK
      have y7 := i7 (by first | exact hr | exact hr.1 | exact hr.2 | exact hr.2.1 | exact hr.2.2 | exact hr.2.2.1 | exact hr.2.2.2 | simp [hr])
      replace i0 := Lib.hid i0
      replace i1 := Lib.hid i1
      replace i2 := Lib.hid i2
      replace i3 := Lib.hid i3
      replace i4 := Lib.hid i4
      replace i5 := Lib.hid i5
      replace i6 := Lib.hid i6
      replace i7 := Lib.hid i7
      replace i8 := Lib.hid i8
      replace i9 := Lib.hid i9
      replace i12 := Lib.hid i12
      go_simp
      exact hK.out _ _ ⟨(keepB x4 (by decide)), (keepB x1 (by decide)), (keepB x2 (by decide)), (keepB x7 (by decide)), (keepF i0.out (by decide)), (fun j => by obtain ⟨z22_0, z22_1, e0, ff⟩ := i1.out j; exact ⟨z22_0, z22_1, (put_ne (by decide)).trans e0, fun hu => ⟨(ff hu).1, (ff hu).2⟩⟩), (keepF i2.out (by decide)), (keepF i3.out (by decide)), (keepF i4.out (by decide)), (keepF i5.out (by decide)), (keepF i6.out (by decide)), (keepF i7.out (by decide)), (keepF i8.out (by decide)), (fun _ => put_eq (by omega)), (keepF i12.out (by decide)), hL, (fun j => by obtain ⟨k, e1, e2, p10_0, p10_1, e3, e4⟩ := i10 j; exact ⟨k, (put_ne (by decide)).trans e1, e2, p10_0, p10_1, e3, e4⟩), q10, m7_6, m8_6, (fun _ => m7_6 (by first | exact hr | exact hr.1 | exact hr.2 | exact hr.2.1 | exact hr.2.2 | simp [hr])), m12_6, hS⟩
    · unfold SlotStep
      intro g ac wc hn hk hr hI K' hK
      obtain ⟨x4, x1, x2, x7, i0, i1, i2, i3, i4, i5, i6, i7, i8, i9, i12, hL, i10, q10, m7_6, m8_6, m9_6, m12_6, hS⟩ := hI
      simp only [Region.binds] at hr
      simp at hr
      replace hK := Lib.hid hK
      replace i0 := Lib.hid i0
      replace i1 := Lib.hid i1
      replace i2 := Lib.hid i2
      replace i3 := Lib.hid i3
      replace i4 := Lib.hid i4
      replace i5 := Lib.hid i5
      replace i6 := Lib.hid i6
      replace i7 := Lib.hid i7
      replace i8 := Lib.hid i8
      replace i9 := Lib.hid i9
      replace i12 := Lib.hid i12
      go_simp
      refine hK.out _ _ ⟨(keepB x4 (by decide)), (keepB x1 (by decide)), (keepB x2 (by decide)), (keepB x7 (by decide)), (keepF i0.out (by decide)), (fun j => by obtain ⟨z22_0, z22_1, e0, ff⟩ := i1.out j; exact ⟨z22_0, z22_1, (put_ne (by decide)).trans e0, fun hu => ⟨owns_later ((ff hu).1) ((Later.refl _).alloc _), owns_later ((ff hu).2) ((Later.refl _).alloc _)⟩⟩), (keepF i2.out (by decide)), (keepF i3.out (by decide)), (keepF i4.out (by decide)), (keepF i5.out (by decide)), (keepF i6.out (by decide)), (keepF i7.out (by decide)), (keepF i8.out (by decide)), (keepF i9.out (by decide)), (keepF i12.out (by decide)), hL.alloc _, (fun _ => ⟨_, put_eq (by omega), hS, _, _, heap_alloc_new _ _, fun j6 => absurd ((q10 j6).symm.trans hk) (by simp)⟩), fun _ => rfl, m7_6, m8_6, m9_6, m12_6, (by simp; omega)⟩
    · unfold SlotStep
      intro g ac wc hn hk hr hI K' hK
      obtain ⟨x4, x1, x2, x7, i0, i1, i2, i3, i4, i5, i6, i7, i8, i9, i12, hL, i10, q10, m7_6, m8_6, m9_6, m12_6, hS⟩ := hI
      simp only [Region.binds] at hr
      simp at hr
      replace hK := Lib.hid hK
      have y8 := i8 (by first | exact hr | exact hr.1 | exact hr.2 | exact hr.2.1 | exact hr.2.2 | exact hr.2.2.1 | exact hr.2.2.2 | simp [hr])
      replace i0 := Lib.hid i0
      replace i1 := Lib.hid i1
      replace i2 := Lib.hid i2
      replace i3 := Lib.hid i3
      replace i4 := Lib.hid i4
      replace i5 := Lib.hid i5
      replace i6 := Lib.hid i6
      replace i7 := Lib.hid i7
      replace i8 := Lib.hid i8
      replace i9 := Lib.hid i9
      replace i12 := Lib.hid i12
      have hda : g 10 = true := by first | exact hr | exact hr.1 | exact hr.2 | exact hr.2.1 | exact hr.2.2 | exact hr.2.2.1 | exact hr.2.2.2 | simp [hr]
      obtain ⟨k, e1, e2, p10_0, p10_1, e3, -⟩ := i10 hda
      have c0 := (blk_at e3).1
      have f0 := (blk_at e3).2.1
      have z0 := (blk_at e3).2.2
      have hdu : g 6 = true := m8_6 (by first | exact hr | exact hr.1 | exact hr.2 | exact hr.2.1 | exact hr.2.2 | simp [hr])
      go_simp
      exact hK.out undef _ ⟨x4, x1, x2, x7, i0.out, (fun j => by obtain ⟨z22_0, z22_1, e0, -⟩ := i1.out j; exact ⟨z22_0, z22_1, e0, fun hu => absurd hu (by simp [hdu])⟩), i2.out, i3.out, i4.out, i5.out, i6.out, i7.out, i8.out, i9.out, i12.out, ((hL.setCell e2 _).setCell e2 _), (fun _ => ⟨k, e1, e2, _, _, two_set e3 _ _, fun _ => ⟨rfl, rfl⟩⟩), (fun _ => hda), m7_6, m8_6, m9_6, m12_6, (by simp; omega)⟩
    · unfold SlotStep
      intro g ac wc hn hk hr hI K' hK
      obtain ⟨x4, x1, x2, x7, i0, i1, i2, i3, i4, i5, i6, i7, i8, i9, i12, hL, i10, q10, m7_6, m8_6, m9_6, m12_6, hS⟩ := hI
      simp only [Region.binds] at hr
      simp at hr
      replace hK := Lib.hid hK
      have y9 := i9 (by first | exact hr | exact hr.1 | exact hr.2 | exact hr.2.1 | exact hr.2.2 | exact hr.2.2.1 | exact hr.2.2.2 | simp [hr])
      replace i0 := Lib.hid i0
      replace i1 := Lib.hid i1
      replace i2 := Lib.hid i2
      replace i3 := Lib.hid i3
      replace i4 := Lib.hid i4
      replace i5 := Lib.hid i5
      replace i6 := Lib.hid i6
      replace i7 := Lib.hid i7
      replace i8 := Lib.hid i8
      replace i9 := Lib.hid i9
      replace i12 := Lib.hid i12
      go_simp
      exact hK.out _ _ ⟨(keepB x4 (by decide)), (keepB x1 (by decide)), (keepB x2 (by decide)), (keepB x7 (by decide)), (keepF i0.out (by decide)), (fun j => by obtain ⟨z22_0, z22_1, e0, ff⟩ := i1.out j; exact ⟨z22_0, z22_1, (put_ne (by decide)).trans e0, fun hu => ⟨(ff hu).1, (ff hu).2⟩⟩), (keepF i2.out (by decide)), (keepF i3.out (by decide)), (keepF i4.out (by decide)), (keepF i5.out (by decide)), (keepF i6.out (by decide)), (keepF i7.out (by decide)), (keepF i8.out (by decide)), (keepF i9.out (by decide)), (fun _ => put_eq (by omega)), hL, (fun j => by obtain ⟨k, e1, e2, p10_0, p10_1, e3, e4⟩ := i10 j; exact ⟨k, (put_ne (by decide)).trans e1, e2, p10_0, p10_1, e3, e4⟩), q10, m7_6, m8_6, m9_6, (fun _ => m9_6 (by first | exact hr | exact hr.1 | exact hr.2 | exact hr.2.1 | exact hr.2.2 | simp [hr])), hS⟩

theorem lifted (os : Os) (started : os.Started) (H : Type) (enc : TypeId × Value → H) :
    ReturnsInHanded {} Try.checked os 4 .any (Rows.fnExactTransferFigureSpec.pre6 enc Try.prog Try.f4 Rows.fnExactTransferFigureRow.domain false) (Rows.fnExactTransferFigureSpec.post enc Try.prog Try.f4 false true false false) := by
  refine returnsInHanded_of_change (C := Try.checked) o_own started (by kernel_rfl) Try.func4
    (ChangeSpec.witness6 (enc := enc) (C := Try.checked) false ⟨#[], #[.agg #[.int .i64 0, .slice none 0 0, .slice none 0 0], .int .i64 0, .int .i64 0, .agg #[.int .i64 0, .int .i64 0]], []⟩ 8 (by kernel_rfl) (by kernel_rfl) (by kernel_rfl) (by kernel_rfl)) ?_
  intro W base args ds gs before hval0 hW hcnd _
  have hval : ∀ (j : Nat) t v, Try.f4.params[j]? = some t → args[j]? = some v → Value.okWide Try.prog W .any base t v := hval0
  have hW' := hW
  obtain ⟨p, q, hA0, hV, rfl, hfz, hnd⟩ := hW
  have hA : DataW.TrodAll enc Try.prog W 0 (fun _ => true) true Try.f4.params.toList args.toList ds p := hA0
  rw [Try.params4] at hA hval
  obtain ⟨v0, vs0, d0, ds0, p0, q0, hargs, rfl, rfl, h0, r0⟩ := trodAll_cons hA
  obtain ⟨v1, vs1, d1, ds1, p1, q1, rfl, rfl, rfl, h1, r1⟩ := trodAll_cons r0
  obtain ⟨v2, vs2, d2, ds2, p2, q2, rfl, rfl, rfl, h2, r2⟩ := trodAll_cons r1
  obtain ⟨v3, vs3, d3, ds3, p3, q3, rfl, rfl, rfl, h3, r3⟩ := trodAll_cons r2
  obtain ⟨rfl, rfl, rfl⟩ := trodAll_nil r3
  obtain rfl : args = #[v0, v1, v2, v3] := by cases args; simp_all
  obtain ⟨rfl, rfl⟩ := trodVars_none hV
  have k0 := h0
  have lt0 : ∀ x ∈ p0, x.block < W.heap.size := by obtain ⟨m, hm⟩ := k0; exact DataW.trod_lt m _ _ _ hm
  obtain ⟨rn0, v0a, v0b, l0a, l0b, rfl, w0a, w0b⟩ := o_lRule' (hval 0 24 v0 rfl rfl) h0
  obtain ⟨ag1, rfl, rfl, rfl, wf1⟩ := open_int Try.underlying2 (hval 1 2 v1 rfl rfl) h1
  obtain ⟨ag2, rfl, rfl, rfl, wf2⟩ := open_int Try.underlying2 (hval 2 2 v2 rfl rfl) h2
  have k3 := h3
  have lt3 : ∀ x ∈ p3, x.block < W.heap.size := by obtain ⟨m, hm⟩ := k3; exact DataW.trod_lt m _ _ _ hm
  obtain ⟨ag3_0, ag3_1, rfl⟩ := o_lFigure' (hval 3 39 v3 rfl rfl) h3
  clear hA0 hval0
  refine (walk rn0 v0a v0b l0a l0b ag1 ag2 ag3_0 ag3_1 W w0a w0b).mono fun e W' ⟨he, bel⟩ => ?_
  subst he
  exact ⟨_, rfl, _, _, _, [], _, [], hW', trodAll_mk1 (shut_bool Try.underlying4 _), (trodAll_cons_mk (Below.trod o_laidOut (by kernel_rfl) (of_decide_eq_true (by kernel_rfl)) k0 bel lt0) (trodAll_cons_mk (shut_int Try.underlying2 wf1) (trodAll_cons_mk (shut_int Try.underlying2 wf2) (trodAll_cons_mk (Below.trod o_laidOut (by kernel_rfl) (of_decide_eq_true (by kernel_rfl)) k3 bel lt3) trodAll_mk0)))), rfl, bel.frame _, fun h => by cases h⟩

theorem over : Rows.fnExactTransferFigureRow.holds Try.pinned (OpenSpec.ofChange Rows.fnExactTransferFigureSpec) :=
  OpenClaim.holds_of_wide 4 Try.f4 rfl rfl rfl rfl rfl rfl rfl ⟨rfl, rfl, rfl, rfl, rfl⟩ rfl rfl rfl rfl rfl (by kernel_rfl) Try.func4 (by kernel_rfl)
    (of_decide_eq_true (by kernel_rfl)) (by unfold Func.isWrapper; first | (rw [if_pos (by decide +kernel)]; kernel_rfl) | (rw [if_neg (by decide +kernel)]; exact ⟨rfl, rfl⟩))
    (fun os started H enc _ => lifted os started H enc)

theorem proved : Rows.FnExactTransferFigureSaid := over
#print axioms proved
end Go.Proofs.Ytfhppnmbmdpjeaa.lawTransferFigure
