/- The program's PlaceTransfer: a figure's digits, placed by a transfer. It answers what the reference's function answers, for all arguments. No condition. -/
import Derived.Test.YtcnbnlmoohieoaaRows
import Derived.Test.YtcnbnlmoohieoaaO1
import Derived.Test.YtcnbnlmoohieoaaB3
import Derived.Test.YtcnbnlmoohieoaaM20
namespace Go.Proofs.Ytcnbnlmoohieoaa.lawPlaceTransfer
set_option linter.unusedVariables false
set_option linter.unusedSimpArgs false
open Go.ChangeShapes Go.WideShapes Go.ChangeAt Go.RowKit
set_option linter.unusedVariables false
set_option maxRecDepth 100000

set_option maxHeartbeats 4000000 in
theorem walk (ag0 : Int) (ag1 : Int) (ag2_0 ag2_1 : Int) (ag3_0 ag3_1 : Int) (w : World) :
    Calls Try.prog 12 #[.int .i64 ag0, .int .i64 ag1, .agg #[.int .i64 ag2_0, .int .i64 ag2_1], .agg #[.int .i64 ag3_0, .int .i64 ag3_1]] w fun e w' => e = .returned (.bool true) ∧ Later w w' := by
  obtain ⟨R0, hR0⟩ : ∃ R : Fig, transF ag0 ag1 ⟨ag2_0, ag2_1⟩ ⟨ag3_0, ag3_1⟩ = R := ⟨_, rfl⟩
  have HR0 := Lib.hid hR0
  clear hR0
  obtain ⟨R1, hR1⟩ : ∃ R : Int, transC ag0 ag1 ⟨ag2_0, ag2_1⟩ ⟨ag3_0, ag3_1⟩ = R := ⟨_, rfl⟩
  have HR1 := Lib.hid hR1
  clear hR1
  have HW := Later.refl w
  go_enter Try.func12, Try.ntmps12
  go_wp2_with fail
  obtain ⟨u1, hu⟩ : ∃ u : World, u = (w.alloc (.cells #[.int .i64 ag2_0, .int .i64 ag2_1] 55)).alloc (.cells #[.int .i64 ag3_0, .int .i64 ag3_1] 55) := ⟨_, rfl⟩
  have hL1 : Later ((w.alloc (.cells #[.int .i64 ag2_0, .int .i64 ag2_1] 55)).alloc (.cells #[.int .i64 ag3_0, .int .i64 ag3_1] 55)) u1 := by rw [hu]; exact Later.refl _
  rw [← hu]
  clear hu
  obtain ⟨hk0, hk1⟩ := kept2 hL1
  have KB2 := Lib.hid hk0
  have KB3 := Lib.hid hk1
  clear hk0 hk1
  replace hL1 := (((Later.refl _).alloc _).alloc _).trans hL1
  replace HW := HW.trans hL1
  clear hL1
  refine region_slots 42 [14, 15, 16, 17, 18, 19, 20, 13, 21, 22, 9, 10] (fun g ac wc => sl ac 0 = .int .i64 ag0 ∧
    sl ac 1 = .int .i64 ag1 ∧
    sl ac 6 = .pointer (some ⟨w.heap.size, 0, none⟩) ∧
    sl ac 7 = .pointer (some ⟨w.heap.size + 1, 0, none⟩) ∧
    (g 0 = true → sl ac 14 = .int .i64 ag0) ∧
    (g 1 = true → sl ac 15 = .int .i64 ag1) ∧
    (g 2 = true → sl ac 16 = .agg #[.int .i64 ag2_0, .int .i64 ag2_1]) ∧
    (g 3 = true → sl ac 17 = .agg #[.int .i64 ag2_0, .int .i64 ag2_1]) ∧
    (g 4 = true → sl ac 18 = .agg #[.int .i64 ag3_0, .int .i64 ag3_1]) ∧
    (g 5 = true → sl ac 19 = .agg #[.int .i64 ag3_0, .int .i64 ag3_1]) ∧
    (g 6 = true → sl ac 20 = .tuple #[.agg #[.int .i64 R0.d, .int .i64 R0.t], .int .i64 R1]) ∧
    (g 7 = true → sl ac 13 = .tuple #[.agg #[.int .i64 R0.d, .int .i64 R0.t], .int .i64 R1]) ∧
    (g 8 = true → sl ac 21 = .agg #[.int .i64 R0.d, .int .i64 R0.t]) ∧
    (g 9 = true → sl ac 22 = .int .i64 R1) ∧
    (g 12 = true → sl ac 10 = .int .i64 R1) ∧
    Later u1 wc ∧
    (g 10 = true → ∃ k, sl ac 9 = .pointer (some ⟨k, 0, none⟩) ∧ u1.heap.size ≤ k ∧ ∃ p10_0 p10_1, wc.heap[k]? = some (.cells #[p10_0, p10_1] 56 (0, 0)) ∧ (g 11 = true → p10_0 = .int .i64 R0.d ∧ p10_1 = .int .i64 R0.t)) ∧
    (g 11 = true → g 10 = true) ∧
    u1.heap.size ≤ wc.heap.size) (by kernel_rfl) (by kernel_rfl) rfl (by kernel_rfl) ?_ ?_ ?_
  · exact ⟨rfl, rfl, rfl, rfl, nofun, nofun, nofun, nofun, nofun, nofun, nofun, nofun, nofun, nofun, nofun, (Later.refl _).drew, nofun, nofun, Nat.le_refl _⟩
  · intro g ac ur hg ha hI
    obtain ⟨x0, x1, x6, x7, i0, i1, i2, i3, i4, i5, i6, i7, i8, i9, i12, hL, i10, -, hS⟩ := hI
    obtain ⟨kr10, e10, br10, p10_0, p10_1, Kr10, g10⟩ := i10 (hg 10 (by simp))
    have g10 := g10 (hg 11 (by simp))
    rw [g10.1, g10.2] at Kr10
    have a0 := i0 (hg 0 (by simp))
    have a1 := i1 (hg 1 (by simp))
    have a2 := i2 (hg 2 (by simp))
    have a3 := i3 (hg 3 (by simp))
    have a4 := i4 (hg 4 (by simp))
    have a5 := i5 (hg 5 (by simp))
    have a6 := i6 (hg 6 (by simp))
    have a7 := i7 (hg 7 (by simp))
    have a8 := i8 (hg 8 (by simp))
    have a9 := i9 (hg 9 (by simp))
    have a12 := i12 (hg 12 (by simp))
    simp only [putAll, a0, a1, a2, a3, a4, a5, a6, a7, a8, a9, a12, e10] at ha
    simp only [Act.put, List.setIfInBounds_toArray, List.set_cons_succ, List.set_cons_zero] at ha
    rw [ha]
    clear x0 x1 x6 x7 i0 i1 i2 i3 i4 i5 i6 i7 i8 i9 i12 i10 a0 a1 a2 a3 a4 a5 a6 a7 a8 a9 a12 e10 g10 hg ha
    replace KB2 := Lib.hid (hL.keep KB2.out)
    replace KB3 := Lib.hid (hL.keep KB3.out)
    have KA9 := Lib.hid Kr10
    clear Kr10
    replace HW := HW.trans hL
    clear hL hS
    go_wp2_with fail
    refine region_slots 42 [24, 25, 26, 27, 28, 29, 30, 23, 31, 32, 11, 12] (fun g ac wc => sl ac 0 = .int .i64 ag0 ∧
      sl ac 1 = .int .i64 ag1 ∧
      sl ac 6 = .pointer (some ⟨w.heap.size, 0, none⟩) ∧
      sl ac 7 = .pointer (some ⟨w.heap.size + 1, 0, none⟩) ∧
      (g 0 = true → sl ac 24 = .int .i64 ag0) ∧
      (g 1 = true → sl ac 25 = .int .i64 ag1) ∧
      (g 2 = true → sl ac 26 = .agg #[.int .i64 ag2_0, .int .i64 ag2_1]) ∧
      (g 3 = true → sl ac 27 = .agg #[.int .i64 ag2_0, .int .i64 ag2_1]) ∧
      (g 4 = true → sl ac 28 = .agg #[.int .i64 ag3_0, .int .i64 ag3_1]) ∧
      (g 5 = true → sl ac 29 = .agg #[.int .i64 ag3_0, .int .i64 ag3_1]) ∧
      (g 6 = true → sl ac 30 = .tuple #[.agg #[.int .i64 R0.d, .int .i64 R0.t], .int .i64 R1]) ∧
      (g 7 = true → sl ac 23 = .tuple #[.agg #[.int .i64 R0.d, .int .i64 R0.t], .int .i64 R1]) ∧
      (g 8 = true → sl ac 31 = .agg #[.int .i64 R0.d, .int .i64 R0.t]) ∧
      (g 9 = true → sl ac 32 = .int .i64 R1) ∧
      (g 12 = true → sl ac 12 = .int .i64 R1) ∧
      Later ur wc ∧
      (g 10 = true → ∃ k, sl ac 11 = .pointer (some ⟨k, 0, none⟩) ∧ ur.heap.size ≤ k ∧ ∃ p10_0 p10_1, wc.heap[k]? = some (.cells #[p10_0, p10_1] 56 (0, 0)) ∧ (g 11 = true → p10_0 = .int .i64 R0.d ∧ p10_1 = .int .i64 R0.t)) ∧
      (g 11 = true → g 10 = true) ∧
      ur.heap.size ≤ wc.heap.size) (by kernel_rfl) (by kernel_rfl) rfl (by kernel_rfl) ?_ ?_ ?_
    · exact ⟨rfl, rfl, rfl, rfl, nofun, nofun, nofun, nofun, nofun, nofun, nofun, nofun, nofun, nofun, nofun, (Later.refl _).drew, nofun, nofun, Nat.le_refl _⟩
    · intro g ac us hg ha hI
      obtain ⟨x0, x1, x6, x7, i0, i1, i2, i3, i4, i5, i6, i7, i8, i9, i12, hL, i10, -, hS⟩ := hI
      obtain ⟨ks10, e10, bs10, p10_0, p10_1, Ks10, g10⟩ := i10 (hg 10 (by simp))
      have g10 := g10 (hg 11 (by simp))
      rw [g10.1, g10.2] at Ks10
      have a0 := i0 (hg 0 (by simp))
      have a1 := i1 (hg 1 (by simp))
      have a2 := i2 (hg 2 (by simp))
      have a3 := i3 (hg 3 (by simp))
      have a4 := i4 (hg 4 (by simp))
      have a5 := i5 (hg 5 (by simp))
      have a6 := i6 (hg 6 (by simp))
      have a7 := i7 (hg 7 (by simp))
      have a8 := i8 (hg 8 (by simp))
      have a9 := i9 (hg 9 (by simp))
      have a12 := i12 (hg 12 (by simp))
      simp only [putAll, a0, a1, a2, a3, a4, a5, a6, a7, a8, a9, a12, e10] at ha
      simp only [Act.put, List.setIfInBounds_toArray, List.set_cons_succ, List.set_cons_zero] at ha
      rw [ha]
      clear x0 x1 x6 x7 i0 i1 i2 i3 i4 i5 i6 i7 i8 i9 i12 i10 a0 a1 a2 a3 a4 a5 a6 a7 a8 a9 a12 e10 g10 hg ha
      replace KB2 := Lib.hid (hL.keep KB2.out)
      replace KB3 := Lib.hid (hL.keep KB3.out)
      replace KA9 := Lib.hid (hL.keep KA9.out)
      have KA11 := Lib.hid Ks10
      clear Ks10
      replace HW := HW.trans hL
      clear hL hS
      obtain ⟨cA11, fA11, zA11⟩ := blk_at KA11.out
      obtain ⟨cA9, fA9, zA9⟩ := blk_at KA9.out
      go_wp2_with fail
      refine (w_eqFigure_same _ _ _).mono ?_
      rintro e u2 ⟨rfl, hL2⟩
      clear cA11 fA11 zA11 cA9 fA9 zA9
      replace KB2 := Lib.hid (hL2.keep KB2.out)
      replace KB3 := Lib.hid (hL2.keep KB3.out)
      replace KA9 := Lib.hid (hL2.keep KA9.out)
      replace KA11 := Lib.hid (hL2.keep KA11.out)
      replace HW := HW.trans hL2
      clear hL2
      go_wp2
      go_ret
      exact ⟨rfl, HW⟩
    · refine .cons ?_ (.cons ?_ (.cons ?_ (.cons ?_ (.cons ?_ (.cons ?_ (.cons ?_ (.cons ?_ (.cons ?_ (.cons ?_ (.cons ?_ (.cons ?_ (.cons ?_ .nil))))))))))))
      · unfold SlotStep
        intro g ac wc hn hk hr hI K' hK
        obtain ⟨x0, x1, x6, x7, i0, i1, i2, i3, i4, i5, i6, i7, i8, i9, i12, hL, i10, q10, hS⟩ := hI
        simp only [Region.binds] at hr
        simp at hr
        replace hK := Lib.hid hK
        replace i0 := Lib.hid i0
        replace i1 := Lib.hid i1
        replace i2 := Lib.hid i2
        replace i3 := Lib.hid i3
        replace i4 := Lib.hid i4
        replace i5 := Lib.hid i5
        replace i6 := Lib.hid i6
        replace i7 := Lib.hid i7
        replace i8 := Lib.hid i8
        replace i9 := Lib.hid i9
        replace i12 := Lib.hid i12
        go_simp
        exact hK.out _ _ ⟨(keepB x0 (by decide)), (keepB x1 (by decide)), (keepB x6 (by decide)), (keepB x7 (by decide)), (fun _ => put_eq (by omega)), (keepF i1.out (by decide)), (keepF i2.out (by decide)), (keepF i3.out (by decide)), (keepF i4.out (by decide)), (keepF i5.out (by decide)), (keepF i6.out (by decide)), (keepF i7.out (by decide)), (keepF i8.out (by decide)), (keepF i9.out (by decide)), (keepF i12.out (by decide)), hL, (fun j => by obtain ⟨k, e1, e2, p10_0, p10_1, e3, e4⟩ := i10 j; exact ⟨k, (put_ne (by decide)).trans e1, e2, p10_0, p10_1, e3, e4⟩), q10, hS⟩
      · unfold SlotStep
        intro g ac wc hn hk hr hI K' hK
        obtain ⟨x0, x1, x6, x7, i0, i1, i2, i3, i4, i5, i6, i7, i8, i9, i12, hL, i10, q10, hS⟩ := hI
        simp only [Region.binds] at hr
        simp at hr
        replace hK := Lib.hid hK
        replace i0 := Lib.hid i0
        replace i1 := Lib.hid i1
        replace i2 := Lib.hid i2
        replace i3 := Lib.hid i3
        replace i4 := Lib.hid i4
        replace i5 := Lib.hid i5
        replace i6 := Lib.hid i6
        replace i7 := Lib.hid i7
        replace i8 := Lib.hid i8
        replace i9 := Lib.hid i9
        replace i12 := Lib.hid i12
        go_simp
        exact hK.out _ _ ⟨(keepB x0 (by decide)), (keepB x1 (by decide)), (keepB x6 (by decide)), (keepB x7 (by decide)), (keepF i0.out (by decide)), (fun _ => put_eq (by omega)), (keepF i2.out (by decide)), (keepF i3.out (by decide)), (keepF i4.out (by decide)), (keepF i5.out (by decide)), (keepF i6.out (by decide)), (keepF i7.out (by decide)), (keepF i8.out (by decide)), (keepF i9.out (by decide)), (keepF i12.out (by decide)), hL, (fun j => by obtain ⟨k, e1, e2, p10_0, p10_1, e3, e4⟩ := i10 j; exact ⟨k, (put_ne (by decide)).trans e1, e2, p10_0, p10_1, e3, e4⟩), q10, hS⟩
      · unfold SlotStep
        intro g ac wc hn hk hr hI K' hK
        obtain ⟨x0, x1, x6, x7, i0, i1, i2, i3, i4, i5, i6, i7, i8, i9, i12, hL, i10, q10, hS⟩ := hI
        simp only [Region.binds] at hr
        simp at hr
        replace hK := Lib.hid hK
        replace i0 := Lib.hid i0
        replace i1 := Lib.hid i1
        replace i2 := Lib.hid i2
        replace i3 := Lib.hid i3
        replace i4 := Lib.hid i4
        replace i5 := Lib.hid i5
        replace i6 := Lib.hid i6
        replace i7 := Lib.hid i7
        replace i8 := Lib.hid i8
        replace i9 := Lib.hid i9
        replace i12 := Lib.hid i12
        have cb := (blk_at (hL.keep KB2.out)).1
        have fb := (blk_at (hL.keep KB2.out)).2.1
        have zb := (blk_at (hL.keep KB2.out)).2.2
        go_simp
        exact hK.out _ _ ⟨(keepB x0 (by decide)), (keepB x1 (by decide)), (keepB x6 (by decide)), (keepB x7 (by decide)), (keepF i0.out (by decide)), (keepF i1.out (by decide)), (fun _ => put_eq (by omega)), (keepF i3.out (by decide)), (keepF i4.out (by decide)), (keepF i5.out (by decide)), (keepF i6.out (by decide)), (keepF i7.out (by decide)), (keepF i8.out (by decide)), (keepF i9.out (by decide)), (keepF i12.out (by decide)), hL, (fun j => by obtain ⟨k, e1, e2, p10_0, p10_1, e3, e4⟩ := i10 j; exact ⟨k, (put_ne (by decide)).trans e1, e2, p10_0, p10_1, e3, e4⟩), q10, hS⟩
      · unfold SlotStep
        intro g ac wc hn hk hr hI K' hK
        obtain ⟨x0, x1, x6, x7, i0, i1, i2, i3, i4, i5, i6, i7, i8, i9, i12, hL, i10, q10, hS⟩ := hI
        simp only [Region.binds] at hr
        simp at hr
        replace hK := Lib.hid hK
        have y2 := i2 (by first | exact hr | exact hr.1 | exact hr.2 | exact hr.2.1 | exact hr.2.2 | exact hr.2.2.1 | exact hr.2.2.2 | simp [hr])
        replace i0 := Lib.hid i0
        replace i1 := Lib.hid i1
        replace i2 := Lib.hid i2
        replace i3 := Lib.hid i3
        replace i4 := Lib.hid i4
        replace i5 := Lib.hid i5
        replace i6 := Lib.hid i6
        replace i7 := Lib.hid i7
        replace i8 := Lib.hid i8
        replace i9 := Lib.hid i9
        replace i12 := Lib.hid i12
        go_simp
        refine (w_toFigure _ _ _).mono ?_
        rintro e w4 ⟨rfl, hL4⟩
        exact hK.out _ _ ⟨(keepB x0 (by decide)), (keepB x1 (by decide)), (keepB x6 (by decide)), (keepB x7 (by decide)), (keepF i0.out (by decide)), (keepF i1.out (by decide)), (keepF i2.out (by decide)), (fun _ => put_eq (by omega)), (keepF i4.out (by decide)), (keepF i5.out (by decide)), (keepF i6.out (by decide)), (keepF i7.out (by decide)), (keepF i8.out (by decide)), (keepF i9.out (by decide)), (keepF i12.out (by decide)), hL.trans hL4, (fun j => by obtain ⟨k, e1, e2, p10_0, p10_1, e3, e4⟩ := i10 j; exact ⟨k, (put_ne (by decide)).trans e1, e2, p10_0, p10_1, hL4.keep e3, e4⟩), q10, Nat.le_trans hS hL4.size⟩
      · unfold SlotStep
        intro g ac wc hn hk hr hI K' hK
        obtain ⟨x0, x1, x6, x7, i0, i1, i2, i3, i4, i5, i6, i7, i8, i9, i12, hL, i10, q10, hS⟩ := hI
        simp only [Region.binds] at hr
        simp at hr
        replace hK := Lib.hid hK
        replace i0 := Lib.hid i0
        replace i1 := Lib.hid i1
        replace i2 := Lib.hid i2
        replace i3 := Lib.hid i3
        replace i4 := Lib.hid i4
        replace i5 := Lib.hid i5
        replace i6 := Lib.hid i6
        replace i7 := Lib.hid i7
        replace i8 := Lib.hid i8
        replace i9 := Lib.hid i9
        replace i12 := Lib.hid i12
        have cb := (blk_at (hL.keep KB3.out)).1
        have fb := (blk_at (hL.keep KB3.out)).2.1
        have zb := (blk_at (hL.keep KB3.out)).2.2
        go_simp
        exact hK.out _ _ ⟨(keepB x0 (by decide)), (keepB x1 (by decide)), (keepB x6 (by decide)), (keepB x7 (by decide)), (keepF i0.out (by decide)), (keepF i1.out (by decide)), (keepF i2.out (by decide)), (keepF i3.out (by decide)), (fun _ => put_eq (by omega)), (keepF i5.out (by decide)), (keepF i6.out (by decide)), (keepF i7.out (by decide)), (keepF i8.out (by decide)), (keepF i9.out (by decide)), (keepF i12.out (by decide)), hL, (fun j => by obtain ⟨k, e1, e2, p10_0, p10_1, e3, e4⟩ := i10 j; exact ⟨k, (put_ne (by decide)).trans e1, e2, p10_0, p10_1, e3, e4⟩), q10, hS⟩
      · unfold SlotStep
        intro g ac wc hn hk hr hI K' hK
        obtain ⟨x0, x1, x6, x7, i0, i1, i2, i3, i4, i5, i6, i7, i8, i9, i12, hL, i10, q10, hS⟩ := hI
        simp only [Region.binds] at hr
        simp at hr
        replace hK := Lib.hid hK
        have y4 := i4 (by first | exact hr | exact hr.1 | exact hr.2 | exact hr.2.1 | exact hr.2.2 | exact hr.2.2.1 | exact hr.2.2.2 | simp [hr])
        replace i0 := Lib.hid i0
        replace i1 := Lib.hid i1
        replace i2 := Lib.hid i2
        replace i3 := Lib.hid i3
        replace i4 := Lib.hid i4
        replace i5 := Lib.hid i5
        replace i6 := Lib.hid i6
        replace i7 := Lib.hid i7
        replace i8 := Lib.hid i8
        replace i9 := Lib.hid i9
        replace i12 := Lib.hid i12
        go_simp
        refine (w_toFigure _ _ _).mono ?_
        rintro e w4 ⟨rfl, hL4⟩
        exact hK.out _ _ ⟨(keepB x0 (by decide)), (keepB x1 (by decide)), (keepB x6 (by decide)), (keepB x7 (by decide)), (keepF i0.out (by decide)), (keepF i1.out (by decide)), (keepF i2.out (by decide)), (keepF i3.out (by decide)), (keepF i4.out (by decide)), (fun _ => put_eq (by omega)), (keepF i6.out (by decide)), (keepF i7.out (by decide)), (keepF i8.out (by decide)), (keepF i9.out (by decide)), (keepF i12.out (by decide)), hL.trans hL4, (fun j => by obtain ⟨k, e1, e2, p10_0, p10_1, e3, e4⟩ := i10 j; exact ⟨k, (put_ne (by decide)).trans e1, e2, p10_0, p10_1, hL4.keep e3, e4⟩), q10, Nat.le_trans hS hL4.size⟩
      · unfold SlotStep
        intro g ac wc hn hk hr hI K' hK
        obtain ⟨x0, x1, x6, x7, i0, i1, i2, i3, i4, i5, i6, i7, i8, i9, i12, hL, i10, q10, hS⟩ := hI
        simp only [Region.binds] at hr
        simp at hr
        replace hK := Lib.hid hK
        have y0 := i0 (by first | exact hr | exact hr.1 | exact hr.2 | exact hr.2.1 | exact hr.2.2 | exact hr.2.2.1 | exact hr.2.2.2 | simp [hr])
        have y1 := i1 (by first | exact hr | exact hr.1 | exact hr.2 | exact hr.2.1 | exact hr.2.2 | exact hr.2.2.1 | exact hr.2.2.2 | simp [hr])
        have y3 := i3 (by first | exact hr | exact hr.1 | exact hr.2 | exact hr.2.1 | exact hr.2.2 | exact hr.2.2.1 | exact hr.2.2.2 | simp [hr])
        have y5 := i5 (by first | exact hr | exact hr.1 | exact hr.2 | exact hr.2.1 | exact hr.2.2 | exact hr.2.2.1 | exact hr.2.2.2 | simp [hr])
        replace i0 := Lib.hid i0
        replace i1 := Lib.hid i1
        replace i2 := Lib.hid i2
        replace i3 := Lib.hid i3
        replace i4 := Lib.hid i4
        replace i5 := Lib.hid i5
        replace i6 := Lib.hid i6
        replace i7 := Lib.hid i7
        replace i8 := Lib.hid i8
        replace i9 := Lib.hid i9
        replace i12 := Lib.hid i12
        go_simp
        refine (w_implPlaceTransfer _ _ _ _ _ _ _ ).mono ?_
        rintro e w4 ⟨rfl, hL4⟩
        rw [HR0.out, HR1.out]
        exact hK.out _ _ ⟨(keepB x0 (by decide)), (keepB x1 (by decide)), (keepB x6 (by decide)), (keepB x7 (by decide)), (keepF i0.out (by decide)), (keepF i1.out (by decide)), (keepF i2.out (by decide)), (keepF i3.out (by decide)), (keepF i4.out (by decide)), (keepF i5.out (by decide)), (fun _ => put_eq (by omega)), (keepF i7.out (by decide)), (keepF i8.out (by decide)), (keepF i9.out (by decide)), (keepF i12.out (by decide)), hL.trans hL4, (fun j => by obtain ⟨k, e1, e2, p10_0, p10_1, e3, e4⟩ := i10 j; exact ⟨k, (put_ne (by decide)).trans e1, e2, p10_0, p10_1, hL4.keep e3, e4⟩), q10, Nat.le_trans hS hL4.size⟩
      · unfold SlotStep
        intro g ac wc hn hk hr hI K' hK
        obtain ⟨x0, x1, x6, x7, i0, i1, i2, i3, i4, i5, i6, i7, i8, i9, i12, hL, i10, q10, hS⟩ := hI
        simp only [Region.binds] at hr
        simp at hr
        replace hK := Lib.hid hK
        have y6 := i6 (by first | exact hr | exact hr.1 | exact hr.2 | exact hr.2.1 | exact hr.2.2 | exact hr.2.2.1 | exact hr.2.2.2 | simp [hr])
        replace i0 := Lib.hid i0
        replace i1 := Lib.hid i1
        replace i2 := Lib.hid i2
        replace i3 := Lib.hid i3
        replace i4 := Lib.hid i4
        replace i5 := Lib.hid i5
        replace i6 := Lib.hid i6
        replace i7 := Lib.hid i7
        replace i8 := Lib.hid i8
        replace i9 := Lib.hid i9
        replace i12 := Lib.hid i12
        go_simp
        exact hK.out _ _ ⟨(keepB x0 (by decide)), (keepB x1 (by decide)), (keepB x6 (by decide)), (keepB x7 (by decide)), (keepF i0.out (by decide)), (keepF i1.out (by decide)), (keepF i2.out (by decide)), (keepF i3.out (by decide)), (keepF i4.out (by decide)), (keepF i5.out (by decide)), (keepF i6.out (by decide)), (fun _ => put_eq (by omega)), (keepF i8.out (by decide)), (keepF i9.out (by decide)), (keepF i12.out (by decide)), hL, (fun j => by obtain ⟨k, e1, e2, p10_0, p10_1, e3, e4⟩ := i10 j; exact ⟨k, (put_ne (by decide)).trans e1, e2, p10_0, p10_1, e3, e4⟩), q10, hS⟩
      · unfold SlotStep
        intro g ac wc hn hk hr hI K' hK
        obtain ⟨x0, x1, x6, x7, i0, i1, i2, i3, i4, i5, i6, i7, i8, i9, i12, hL, i10, q10, hS⟩ := hI
        simp only [Region.binds] at hr
        simp at hr
        replace hK := Lib.hid hK
        have y7 := i7 (by first | exact hr | exact hr.1 | exact hr.2 | exact hr.2.1 | exact hr.2.2 | exact hr.2.2.1 | exact hr.2.2.2 | simp [hr])
        replace i0 := Lib.hid i0
        replace i1 := Lib.hid i1
        replace i2 := Lib.hid i2
        replace i3 := Lib.hid i3
        replace i4 := Lib.hid i4
        replace i5 := Lib.hid i5
        replace i6 := Lib.hid i6
        replace i7 := Lib.hid i7
        replace i8 := Lib.hid i8
        replace i9 := Lib.hid i9
        replace i12 := Lib.hid i12
        go_simp
        exact hK.out _ _ ⟨(keepB x0 (by decide)), (keepB x1 (by decide)), (keepB x6 (by decide)), (keepB x7 (by decide)), (keepF i0.out (by decide)), (keepF i1.out (by decide)), (keepF i2.out (by decide)), (keepF i3.out (by decide)), (keepF i4.out (by decide)), (keepF i5.out (by decide)), (keepF i6.out (by decide)), (keepF i7.out (by decide)), (fun _ => put_eq (by omega)), (keepF i9.out (by decide)), (keepF i12.out (by decide)), hL, (fun j => by obtain ⟨k, e1, e2, p10_0, p10_1, e3, e4⟩ := i10 j; exact ⟨k, (put_ne (by decide)).trans e1, e2, p10_0, p10_1, e3, e4⟩), q10, hS⟩
      · unfold SlotStep
        intro g ac wc hn hk hr hI K' hK
        obtain ⟨x0, x1, x6, x7, i0, i1, i2, i3, i4, i5, i6, i7, i8, i9, i12, hL, i10, q10, hS⟩ := hI
        simp only [Region.binds] at hr
        simp at hr
        replace hK := Lib.hid hK
        have y7 := i7 (by first | exact hr | exact hr.1 | exact hr.2 | exact hr.2.1 | exact hr.2.2 | exact hr.2.2.1 | exact hr.2.2.2 | simp [hr])
        replace i0 := Lib.hid i0
        replace i1 := Lib.hid i1
        replace i2 := Lib.hid i2
        replace i3 := Lib.hid i3
        replace i4 := Lib.hid i4
        replace i5 := Lib.hid i5
        replace i6 := Lib.hid i6
        replace i7 := Lib.hid i7
        replace i8 := Lib.hid i8
        replace i9 := Lib.hid i9
        replace i12 := Lib.hid i12
        go_simp
        exact hK.out _ _ ⟨(keepB x0 (by decide)), (keepB x1 (by decide)), (keepB x6 (by decide)), (keepB x7 (by decide)), (keepF i0.out (by decide)), (keepF i1.out (by decide)), (keepF i2.out (by decide)), (keepF i3.out (by decide)), (keepF i4.out (by decide)), (keepF i5.out (by decide)), (keepF i6.out (by decide)), (keepF i7.out (by decide)), (keepF i8.out (by decide)), (fun _ => put_eq (by omega)), (keepF i12.out (by decide)), hL, (fun j => by obtain ⟨k, e1, e2, p10_0, p10_1, e3, e4⟩ := i10 j; exact ⟨k, (put_ne (by decide)).trans e1, e2, p10_0, p10_1, e3, e4⟩), q10, hS⟩
      · unfold SlotStep
        intro g ac wc hn hk hr hI K' hK
        obtain ⟨x0, x1, x6, x7, i0, i1, i2, i3, i4, i5, i6, i7, i8, i9, i12, hL, i10, q10, hS⟩ := hI
        simp only [Region.binds] at hr
        simp at hr
        replace hK := Lib.hid hK
        replace i0 := Lib.hid i0
        replace i1 := Lib.hid i1
        replace i2 := Lib.hid i2
        replace i3 := Lib.hid i3
        replace i4 := Lib.hid i4
        replace i5 := Lib.hid i5
        replace i6 := Lib.hid i6
        replace i7 := Lib.hid i7
        replace i8 := Lib.hid i8
        replace i9 := Lib.hid i9
        replace i12 := Lib.hid i12
        go_simp
        refine hK.out _ _ ⟨(keepB x0 (by decide)), (keepB x1 (by decide)), (keepB x6 (by decide)), (keepB x7 (by decide)), (keepF i0.out (by decide)), (keepF i1.out (by decide)), (keepF i2.out (by decide)), (keepF i3.out (by decide)), (keepF i4.out (by decide)), (keepF i5.out (by decide)), (keepF i6.out (by decide)), (keepF i7.out (by decide)), (keepF i8.out (by decide)), (keepF i9.out (by decide)), (keepF i12.out (by decide)), hL.alloc _, (fun _ => ⟨_, put_eq (by omega), hS, _, _, heap_alloc_new _ _, fun j6 => absurd ((q10 j6).symm.trans hk) (by simp)⟩), fun _ => rfl, (by simp; omega)⟩
      · unfold SlotStep
        intro g ac wc hn hk hr hI K' hK
        obtain ⟨x0, x1, x6, x7, i0, i1, i2, i3, i4, i5, i6, i7, i8, i9, i12, hL, i10, q10, hS⟩ := hI
        simp only [Region.binds] at hr
        simp at hr
        replace hK := Lib.hid hK
        have y8 := i8 (by first | exact hr | exact hr.1 | exact hr.2 | exact hr.2.1 | exact hr.2.2 | exact hr.2.2.1 | exact hr.2.2.2 | simp [hr])
        replace i0 := Lib.hid i0
        replace i1 := Lib.hid i1
        replace i2 := Lib.hid i2
        replace i3 := Lib.hid i3
        replace i4 := Lib.hid i4
        replace i5 := Lib.hid i5
        replace i6 := Lib.hid i6
        replace i7 := Lib.hid i7
        replace i8 := Lib.hid i8
        replace i9 := Lib.hid i9
        replace i12 := Lib.hid i12
        have hda : g 10 = true := by first | exact hr | exact hr.1 | exact hr.2 | exact hr.2.1 | exact hr.2.2 | exact hr.2.2.1 | exact hr.2.2.2 | simp [hr]
        obtain ⟨k, e1, e2, p10_0, p10_1, e3, -⟩ := i10 hda
        have c0 := (blk_at e3).1
        have f0 := (blk_at e3).2.1
        have z0 := (blk_at e3).2.2
        go_simp
        exact hK.out undef _ ⟨x0, x1, x6, x7, i0.out, i1.out, i2.out, i3.out, i4.out, i5.out, i6.out, i7.out, i8.out, i9.out, i12.out, ((hL.setCell e2 _).setCell e2 _), (fun _ => ⟨k, e1, e2, _, _, two_set e3 _ _, fun _ => ⟨rfl, rfl⟩⟩), (fun _ => hda), (by simp; omega)⟩
      · unfold SlotStep
        intro g ac wc hn hk hr hI K' hK
        obtain ⟨x0, x1, x6, x7, i0, i1, i2, i3, i4, i5, i6, i7, i8, i9, i12, hL, i10, q10, hS⟩ := hI
        simp only [Region.binds] at hr
        simp at hr
        replace hK := Lib.hid hK
        have y9 := i9 (by first | exact hr | exact hr.1 | exact hr.2 | exact hr.2.1 | exact hr.2.2 | exact hr.2.2.1 | exact hr.2.2.2 | simp [hr])
        replace i0 := Lib.hid i0
        replace i1 := Lib.hid i1
        replace i2 := Lib.hid i2
        replace i3 := Lib.hid i3
        replace i4 := Lib.hid i4
        replace i5 := Lib.hid i5
        replace i6 := Lib.hid i6
        replace i7 := Lib.hid i7
        replace i8 := Lib.hid i8
        replace i9 := Lib.hid i9
        replace i12 := Lib.hid i12
        go_simp
        exact hK.out _ _ ⟨(keepB x0 (by decide)), (keepB x1 (by decide)), (keepB x6 (by decide)), (keepB x7 (by decide)), (keepF i0.out (by decide)), (keepF i1.out (by decide)), (keepF i2.out (by decide)), (keepF i3.out (by decide)), (keepF i4.out (by decide)), (keepF i5.out (by decide)), (keepF i6.out (by decide)), (keepF i7.out (by decide)), (keepF i8.out (by decide)), (keepF i9.out (by decide)), (fun _ => put_eq (by omega)), hL, (fun j => by obtain ⟨k, e1, e2, p10_0, p10_1, e3, e4⟩ := i10 j; exact ⟨k, (put_ne (by decide)).trans e1, e2, p10_0, p10_1, e3, e4⟩), q10, hS⟩
  · refine .cons ?_ (.cons ?_ (.cons ?_ (.cons ?_ (.cons ?_ (.cons ?_ (.cons ?_ (.cons ?_ (.cons ?_ (.cons ?_ (.cons ?_ (.cons ?_ (.cons ?_ .nil))))))))))))
    · unfold SlotStep
      intro g ac wc hn hk hr hI K' hK
      obtain ⟨x0, x1, x6, x7, i0, i1, i2, i3, i4, i5, i6, i7, i8, i9, i12, hL, i10, q10, hS⟩ := hI
      simp only [Region.binds] at hr
      simp at hr
      replace hK := Lib.hid hK
      replace i0 := Lib.hid i0
      replace i1 := Lib.hid i1
      replace i2 := Lib.hid i2
      replace i3 := Lib.hid i3
      replace i4 := Lib.hid i4
      replace i5 := Lib.hid i5
      replace i6 := Lib.hid i6
      replace i7 := Lib.hid i7
      replace i8 := Lib.hid i8
      replace i9 := Lib.hid i9
      replace i12 := Lib.hid i12
      go_simp
      exact hK.out _ _ ⟨(keepB x0 (by decide)), (keepB x1 (by decide)), (keepB x6 (by decide)), (keepB x7 (by decide)), (fun _ => put_eq (by omega)), (keepF i1.out (by decide)), (keepF i2.out (by decide)), (keepF i3.out (by decide)), (keepF i4.out (by decide)), (keepF i5.out (by decide)), (keepF i6.out (by decide)), (keepF i7.out (by decide)), (keepF i8.out (by decide)), (keepF i9.out (by decide)), (keepF i12.out (by decide)), hL, (fun j => by obtain ⟨k, e1, e2, p10_0, p10_1, e3, e4⟩ := i10 j; exact ⟨k, (put_ne (by decide)).trans e1, e2, p10_0, p10_1, e3, e4⟩), q10, hS⟩
    · unfold SlotStep
      intro g ac wc hn hk hr hI K' hK
      obtain ⟨x0, x1, x6, x7, i0, i1, i2, i3, i4, i5, i6, i7, i8, i9, i12, hL, i10, q10, hS⟩ := hI
      simp only [Region.binds] at hr
      simp at hr
      replace hK := Lib.hid hK
      replace i0 := Lib.hid i0
      replace i1 := Lib.hid i1
      replace i2 := Lib.hid i2
      replace i3 := Lib.hid i3
      replace i4 := Lib.hid i4
      replace i5 := Lib.hid i5
      replace i6 := Lib.hid i6
      replace i7 := Lib.hid i7
      replace i8 := Lib.hid i8
      replace i9 := Lib.hid i9
      replace i12 := Lib.hid i12
      go_simp
      exact hK.out _ _ ⟨(keepB x0 (by decide)), (keepB x1 (by decide)), (keepB x6 (by decide)), (keepB x7 (by decide)), (keepF i0.out (by decide)), (fun _ => put_eq (by omega)), (keepF i2.out (by decide)), (keepF i3.out (by decide)), (keepF i4.out (by decide)), (keepF i5.out (by decide)), (keepF i6.out (by decide)), (keepF i7.out (by decide)), (keepF i8.out (by decide)), (keepF i9.out (by decide)), (keepF i12.out (by decide)), hL, (fun j => by obtain ⟨k, e1, e2, p10_0, p10_1, e3, e4⟩ := i10 j; exact ⟨k, (put_ne (by decide)).trans e1, e2, p10_0, p10_1, e3, e4⟩), q10, hS⟩
    · unfold SlotStep
      intro g ac wc hn hk hr hI K' hK
      obtain ⟨x0, x1, x6, x7, i0, i1, i2, i3, i4, i5, i6, i7, i8, i9, i12, hL, i10, q10, hS⟩ := hI
      simp only [Region.binds] at hr
      simp at hr
      replace hK := Lib.hid hK
      replace i0 := Lib.hid i0
      replace i1 := Lib.hid i1
      replace i2 := Lib.hid i2
      replace i3 := Lib.hid i3
      replace i4 := Lib.hid i4
      replace i5 := Lib.hid i5
      replace i6 := Lib.hid i6
      replace i7 := Lib.hid i7
      replace i8 := Lib.hid i8
      replace i9 := Lib.hid i9
      replace i12 := Lib.hid i12
      have cb := (blk_at (hL.keep KB2.out)).1
      have fb := (blk_at (hL.keep KB2.out)).2.1
      have zb := (blk_at (hL.keep KB2.out)).2.2
      go_simp
      exact hK.out _ _ ⟨(keepB x0 (by decide)), (keepB x1 (by decide)), (keepB x6 (by decide)), (keepB x7 (by decide)), (keepF i0.out (by decide)), (keepF i1.out (by decide)), (fun _ => put_eq (by omega)), (keepF i3.out (by decide)), (keepF i4.out (by decide)), (keepF i5.out (by decide)), (keepF i6.out (by decide)), (keepF i7.out (by decide)), (keepF i8.out (by decide)), (keepF i9.out (by decide)), (keepF i12.out (by decide)), hL, (fun j => by obtain ⟨k, e1, e2, p10_0, p10_1, e3, e4⟩ := i10 j; exact ⟨k, (put_ne (by decide)).trans e1, e2, p10_0, p10_1, e3, e4⟩), q10, hS⟩
    · unfold SlotStep
      intro g ac wc hn hk hr hI K' hK
      obtain ⟨x0, x1, x6, x7, i0, i1, i2, i3, i4, i5, i6, i7, i8, i9, i12, hL, i10, q10, hS⟩ := hI
      simp only [Region.binds] at hr
      simp at hr
      replace hK := Lib.hid hK
      have y2 := i2 (by first | exact hr | exact hr.1 | exact hr.2 | exact hr.2.1 | exact hr.2.2 | exact hr.2.2.1 | exact hr.2.2.2 | simp [hr])
      replace i0 := Lib.hid i0
      replace i1 := Lib.hid i1
      replace i2 := Lib.hid i2
      replace i3 := Lib.hid i3
      replace i4 := Lib.hid i4
      replace i5 := Lib.hid i5
      replace i6 := Lib.hid i6
      replace i7 := Lib.hid i7
      replace i8 := Lib.hid i8
      replace i9 := Lib.hid i9
      replace i12 := Lib.hid i12
      go_simp
      refine (w_toFigure _ _ _).mono ?_
      rintro e w4 ⟨rfl, hL4⟩
      exact hK.out _ _ ⟨(keepB x0 (by decide)), (keepB x1 (by decide)), (keepB x6 (by decide)), (keepB x7 (by decide)), (keepF i0.out (by decide)), (keepF i1.out (by decide)), (keepF i2.out (by decide)), (fun _ => put_eq (by omega)), (keepF i4.out (by decide)), (keepF i5.out (by decide)), (keepF i6.out (by decide)), (keepF i7.out (by decide)), (keepF i8.out (by decide)), (keepF i9.out (by decide)), (keepF i12.out (by decide)), hL.trans hL4, (fun j => by obtain ⟨k, e1, e2, p10_0, p10_1, e3, e4⟩ := i10 j; exact ⟨k, (put_ne (by decide)).trans e1, e2, p10_0, p10_1, hL4.keep e3, e4⟩), q10, Nat.le_trans hS hL4.size⟩
    · unfold SlotStep
      intro g ac wc hn hk hr hI K' hK
      obtain ⟨x0, x1, x6, x7, i0, i1, i2, i3, i4, i5, i6, i7, i8, i9, i12, hL, i10, q10, hS⟩ := hI
      simp only [Region.binds] at hr
      simp at hr
      replace hK := Lib.hid hK
      replace i0 := Lib.hid i0
      replace i1 := Lib.hid i1
      replace i2 := Lib.hid i2
      replace i3 := Lib.hid i3
      replace i4 := Lib.hid i4
      replace i5 := Lib.hid i5
      replace i6 := Lib.hid i6
      replace i7 := Lib.hid i7
      replace i8 := Lib.hid i8
      replace i9 := Lib.hid i9
      replace i12 := Lib.hid i12
      have cb := (blk_at (hL.keep KB3.out)).1
      have fb := (blk_at (hL.keep KB3.out)).2.1
      have zb := (blk_at (hL.keep KB3.out)).2.2
      go_simp
      exact hK.out _ _ ⟨(keepB x0 (by decide)), (keepB x1 (by decide)), (keepB x6 (by decide)), (keepB x7 (by decide)), (keepF i0.out (by decide)), (keepF i1.out (by decide)), (keepF i2.out (by decide)), (keepF i3.out (by decide)), (fun _ => put_eq (by omega)), (keepF i5.out (by decide)), (keepF i6.out (by decide)), (keepF i7.out (by decide)), (keepF i8.out (by decide)), (keepF i9.out (by decide)), (keepF i12.out (by decide)), hL, (fun j => by obtain ⟨k, e1, e2, p10_0, p10_1, e3, e4⟩ := i10 j; exact ⟨k, (put_ne (by decide)).trans e1, e2, p10_0, p10_1, e3, e4⟩), q10, hS⟩
    · unfold SlotStep
      intro g ac wc hn hk hr hI K' hK
      obtain ⟨x0, x1, x6, x7, i0, i1, i2, i3, i4, i5, i6, i7, i8, i9, i12, hL, i10, q10, hS⟩ := hI
      simp only [Region.binds] at hr
      simp at hr
      replace hK := Lib.hid hK
      have y4 := i4 (by first | exact hr | exact hr.1 | exact hr.2 | exact hr.2.1 | exact hr.2.2 | exact hr.2.2.1 | exact hr.2.2.2 | simp [hr])
      replace i0 := Lib.hid i0
      replace i1 := Lib.hid i1
      replace i2 := Lib.hid i2
      replace i3 := Lib.hid i3
      replace i4 := Lib.hid i4
      replace i5 := Lib.hid i5
      replace i6 := Lib.hid i6
      replace i7 := Lib.hid i7
      replace i8 := Lib.hid i8
      replace i9 := Lib.hid i9
      replace i12 := Lib.hid i12
      go_simp
      refine (w_toFigure _ _ _).mono ?_
      rintro e w4 ⟨rfl, hL4⟩
      exact hK.out _ _ ⟨(keepB x0 (by decide)), (keepB x1 (by decide)), (keepB x6 (by decide)), (keepB x7 (by decide)), (keepF i0.out (by decide)), (keepF i1.out (by decide)), (keepF i2.out (by decide)), (keepF i3.out (by decide)), (keepF i4.out (by decide)), (fun _ => put_eq (by omega)), (keepF i6.out (by decide)), (keepF i7.out (by decide)), (keepF i8.out (by decide)), (keepF i9.out (by decide)), (keepF i12.out (by decide)), hL.trans hL4, (fun j => by obtain ⟨k, e1, e2, p10_0, p10_1, e3, e4⟩ := i10 j; exact ⟨k, (put_ne (by decide)).trans e1, e2, p10_0, p10_1, hL4.keep e3, e4⟩), q10, Nat.le_trans hS hL4.size⟩
    · unfold SlotStep
      intro g ac wc hn hk hr hI K' hK
      obtain ⟨x0, x1, x6, x7, i0, i1, i2, i3, i4, i5, i6, i7, i8, i9, i12, hL, i10, q10, hS⟩ := hI
      simp only [Region.binds] at hr
      simp at hr
      replace hK := Lib.hid hK
      have y0 := i0 (by first | exact hr | exact hr.1 | exact hr.2 | exact hr.2.1 | exact hr.2.2 | exact hr.2.2.1 | exact hr.2.2.2 | simp [hr])
      have y1 := i1 (by first | exact hr | exact hr.1 | exact hr.2 | exact hr.2.1 | exact hr.2.2 | exact hr.2.2.1 | exact hr.2.2.2 | simp [hr])
      have y3 := i3 (by first | exact hr | exact hr.1 | exact hr.2 | exact hr.2.1 | exact hr.2.2 | exact hr.2.2.1 | exact hr.2.2.2 | simp [hr])
      have y5 := i5 (by first | exact hr | exact hr.1 | exact hr.2 | exact hr.2.1 | exact hr.2.2 | exact hr.2.2.1 | exact hr.2.2.2 | simp [hr])
      replace i0 := Lib.hid i0
      replace i1 := Lib.hid i1
      replace i2 := Lib.hid i2
      replace i3 := Lib.hid i3
      replace i4 := Lib.hid i4
      replace i5 := Lib.hid i5
      replace i6 := Lib.hid i6
      replace i7 := Lib.hid i7
      replace i8 := Lib.hid i8
      replace i9 := Lib.hid i9
      replace i12 := Lib.hid i12
      go_simp
      refine (w_specPlaceTransfer _ _ _ _ _ _ _ ).mono ?_
      rintro e w4 ⟨rfl, hL4⟩
      rw [HR0.out, HR1.out]
      exact hK.out _ _ ⟨(keepB x0 (by decide)), (keepB x1 (by decide)), (keepB x6 (by decide)), (keepB x7 (by decide)), (keepF i0.out (by decide)), (keepF i1.out (by decide)), (keepF i2.out (by decide)), (keepF i3.out (by decide)), (keepF i4.out (by decide)), (keepF i5.out (by decide)), (fun _ => put_eq (by omega)), (keepF i7.out (by decide)), (keepF i8.out (by decide)), (keepF i9.out (by decide)), (keepF i12.out (by decide)), hL.trans hL4, (fun j => by obtain ⟨k, e1, e2, p10_0, p10_1, e3, e4⟩ := i10 j; exact ⟨k, (put_ne (by decide)).trans e1, e2, p10_0, p10_1, hL4.keep e3, e4⟩), q10, Nat.le_trans hS hL4.size⟩
    · unfold SlotStep
      intro g ac wc hn hk hr hI K' hK
      obtain ⟨x0, x1, x6, x7, i0, i1, i2, i3, i4, i5, i6, i7, i8, i9, i12, hL, i10, q10, hS⟩ := hI
      simp only [Region.binds] at hr
      simp at hr
      replace hK := Lib.hid hK
      have y6 := i6 (by first | exact hr | exact hr.1 | exact hr.2 | exact hr.2.1 | exact hr.2.2 | exact hr.2.2.1 | exact hr.2.2.2 | simp [hr])
      replace i0 := Lib.hid i0
      replace i1 := Lib.hid i1
      replace i2 := Lib.hid i2
      replace i3 := Lib.hid i3
      replace i4 := Lib.hid i4
      replace i5 := Lib.hid i5
      replace i6 := Lib.hid i6
      replace i7 := Lib.hid i7
      replace i8 := Lib.hid i8
      replace i9 := Lib.hid i9
      replace i12 := Lib.hid i12
      go_simp
      exact hK.out _ _ ⟨(keepB x0 (by decide)), (keepB x1 (by decide)), (keepB x6 (by decide)), (keepB x7 (by decide)), (keepF i0.out (by decide)), (keepF i1.out (by decide)), (keepF i2.out (by decide)), (keepF i3.out (by decide)), (keepF i4.out (by decide)), (keepF i5.out (by decide)), (keepF i6.out (by decide)), (fun _ => put_eq (by omega)), (keepF i8.out (by decide)), (keepF i9.out (by decide)), (keepF i12.out (by decide)), hL, (fun j => by obtain ⟨k, e1, e2, p10_0, p10_1, e3, e4⟩ := i10 j; exact ⟨k, (put_ne (by decide)).trans e1, e2, p10_0, p10_1, e3, e4⟩), q10, hS⟩
    · unfold SlotStep
      intro g ac wc hn hk hr hI K' hK
      obtain ⟨x0, x1, x6, x7, i0, i1, i2, i3, i4, i5, i6, i7, i8, i9, i12, hL, i10, q10, hS⟩ := hI
      simp only [Region.binds] at hr
      simp at hr
      replace hK := Lib.hid hK
      have y7 := i7 (by first | exact hr | exact hr.1 | exact hr.2 | exact hr.2.1 | exact hr.2.2 | exact hr.2.2.1 | exact hr.2.2.2 | simp [hr])
      replace i0 := Lib.hid i0
      replace i1 := Lib.hid i1
      replace i2 := Lib.hid i2
      replace i3 := Lib.hid i3
      replace i4 := Lib.hid i4
      replace i5 := Lib.hid i5
      replace i6 := Lib.hid i6
      replace i7 := Lib.hid i7
      replace i8 := Lib.hid i8
      replace i9 := Lib.hid i9
      replace i12 := Lib.hid i12
      go_simp
      exact hK.out _ _ ⟨(keepB x0 (by decide)), (keepB x1 (by decide)), (keepB x6 (by decide)), (keepB x7 (by decide)), (keepF i0.out (by decide)), (keepF i1.out (by decide)), (keepF i2.out (by decide)), (keepF i3.out (by decide)), (keepF i4.out (by decide)), (keepF i5.out (by decide)), (keepF i6.out (by decide)), (keepF i7.out (by decide)), (fun _ => put_eq (by omega)), (keepF i9.out (by decide)), (keepF i12.out (by decide)), hL, (fun j => by obtain ⟨k, e1, e2, p10_0, p10_1, e3, e4⟩ := i10 j; exact ⟨k, (put_ne (by decide)).trans e1, e2, p10_0, p10_1, e3, e4⟩), q10, hS⟩
    · unfold SlotStep
      intro g ac wc hn hk hr hI K' hK
      obtain ⟨x0, x1, x6, x7, i0, i1, i2, i3, i4, i5, i6, i7, i8, i9, i12, hL, i10, q10, hS⟩ := hI
      simp only [Region.binds] at hr
      simp at hr
      replace hK := Lib.hid hK
      have y7 := i7 (by first | exact hr | exact hr.1 | exact hr.2 | exact hr.2.1 | exact hr.2.2 | exact hr.2.2.1 | exact hr.2.2.2 | simp [hr])
      replace i0 := Lib.hid i0
      replace i1 := Lib.hid i1
      replace i2 := Lib.hid i2
      replace i3 := Lib.hid i3
      replace i4 := Lib.hid i4
      replace i5 := Lib.hid i5
      replace i6 := Lib.hid i6
      replace i7 := Lib.hid i7
      replace i8 := Lib.hid i8
      replace i9 := Lib.hid i9
      replace i12 := Lib.hid i12
      go_simp
      exact hK.out _ _ ⟨(keepB x0 (by decide)), (keepB x1 (by decide)), (keepB x6 (by decide)), (keepB x7 (by decide)), (keepF i0.out (by decide)), (keepF i1.out (by decide)), (keepF i2.out (by decide)), (keepF i3.out (by decide)), (keepF i4.out (by decide)), (keepF i5.out (by decide)), (keepF i6.out (by decide)), (keepF i7.out (by decide)), (keepF i8.out (by decide)), (fun _ => put_eq (by omega)), (keepF i12.out (by decide)), hL, (fun j => by obtain ⟨k, e1, e2, p10_0, p10_1, e3, e4⟩ := i10 j; exact ⟨k, (put_ne (by decide)).trans e1, e2, p10_0, p10_1, e3, e4⟩), q10, hS⟩
    · unfold SlotStep
      intro g ac wc hn hk hr hI K' hK
      obtain ⟨x0, x1, x6, x7, i0, i1, i2, i3, i4, i5, i6, i7, i8, i9, i12, hL, i10, q10, hS⟩ := hI
      simp only [Region.binds] at hr
      simp at hr
      replace hK := Lib.hid hK
      replace i0 := Lib.hid i0
      replace i1 := Lib.hid i1
      replace i2 := Lib.hid i2
      replace i3 := Lib.hid i3
      replace i4 := Lib.hid i4
      replace i5 := Lib.hid i5
      replace i6 := Lib.hid i6
      replace i7 := Lib.hid i7
      replace i8 := Lib.hid i8
      replace i9 := Lib.hid i9
      replace i12 := Lib.hid i12
      go_simp
      refine hK.out _ _ ⟨(keepB x0 (by decide)), (keepB x1 (by decide)), (keepB x6 (by decide)), (keepB x7 (by decide)), (keepF i0.out (by decide)), (keepF i1.out (by decide)), (keepF i2.out (by decide)), (keepF i3.out (by decide)), (keepF i4.out (by decide)), (keepF i5.out (by decide)), (keepF i6.out (by decide)), (keepF i7.out (by decide)), (keepF i8.out (by decide)), (keepF i9.out (by decide)), (keepF i12.out (by decide)), hL.alloc _, (fun _ => ⟨_, put_eq (by omega), hS, _, _, heap_alloc_new _ _, fun j6 => absurd ((q10 j6).symm.trans hk) (by simp)⟩), fun _ => rfl, (by simp; omega)⟩
    · unfold SlotStep
      intro g ac wc hn hk hr hI K' hK
      obtain ⟨x0, x1, x6, x7, i0, i1, i2, i3, i4, i5, i6, i7, i8, i9, i12, hL, i10, q10, hS⟩ := hI
      simp only [Region.binds] at hr
      simp at hr
      replace hK := Lib.hid hK
      have y8 := i8 (by first | exact hr | exact hr.1 | exact hr.2 | exact hr.2.1 | exact hr.2.2 | exact hr.2.2.1 | exact hr.2.2.2 | simp [hr])
      replace i0 := Lib.hid i0
      replace i1 := Lib.hid i1
      replace i2 := Lib.hid i2
      replace i3 := Lib.hid i3
      replace i4 := Lib.hid i4
      replace i5 := Lib.hid i5
      replace i6 := Lib.hid i6
      replace i7 := Lib.hid i7
      replace i8 := Lib.hid i8
      replace i9 := Lib.hid i9
      replace i12 := Lib.hid i12
      have hda : g 10 = true := by first | exact hr | exact hr.1 | exact hr.2 | exact hr.2.1 | exact hr.2.2 | exact hr.2.2.1 | exact hr.2.2.2 | simp [hr]
      obtain ⟨k, e1, e2, p10_0, p10_1, e3, -⟩ := i10 hda
      have c0 := (blk_at e3).1
      have f0 := (blk_at e3).2.1
      have z0 := (blk_at e3).2.2
      go_simp
      exact hK.out undef _ ⟨x0, x1, x6, x7, i0.out, i1.out, i2.out, i3.out, i4.out, i5.out, i6.out, i7.out, i8.out, i9.out, i12.out, ((hL.setCell e2 _).setCell e2 _), (fun _ => ⟨k, e1, e2, _, _, two_set e3 _ _, fun _ => ⟨rfl, rfl⟩⟩), (fun _ => hda), (by simp; omega)⟩
    · unfold SlotStep
      intro g ac wc hn hk hr hI K' hK
      obtain ⟨x0, x1, x6, x7, i0, i1, i2, i3, i4, i5, i6, i7, i8, i9, i12, hL, i10, q10, hS⟩ := hI
      simp only [Region.binds] at hr
      simp at hr
      replace hK := Lib.hid hK
      have y9 := i9 (by first | exact hr | exact hr.1 | exact hr.2 | exact hr.2.1 | exact hr.2.2 | exact hr.2.2.1 | exact hr.2.2.2 | simp [hr])
      replace i0 := Lib.hid i0
      replace i1 := Lib.hid i1
      replace i2 := Lib.hid i2
      replace i3 := Lib.hid i3
      replace i4 := Lib.hid i4
      replace i5 := Lib.hid i5
      replace i6 := Lib.hid i6
      replace i7 := Lib.hid i7
      replace i8 := Lib.hid i8
      replace i9 := Lib.hid i9
      replace i12 := Lib.hid i12
      go_simp
      exact hK.out _ _ ⟨(keepB x0 (by decide)), (keepB x1 (by decide)), (keepB x6 (by decide)), (keepB x7 (by decide)), (keepF i0.out (by decide)), (keepF i1.out (by decide)), (keepF i2.out (by decide)), (keepF i3.out (by decide)), (keepF i4.out (by decide)), (keepF i5.out (by decide)), (keepF i6.out (by decide)), (keepF i7.out (by decide)), (keepF i8.out (by decide)), (keepF i9.out (by decide)), (fun _ => put_eq (by omega)), hL, (fun j => by obtain ⟨k, e1, e2, p10_0, p10_1, e3, e4⟩ := i10 j; exact ⟨k, (put_ne (by decide)).trans e1, e2, p10_0, p10_1, e3, e4⟩), q10, hS⟩

theorem lifted (os : Os) (started : os.Started) (H : Type) (enc : TypeId × Value → H) :
    ReturnsInHanded {} Try.checked os 12 .any (Rows.fnExactPlaceTransferSpec.pre6 enc Try.prog Try.f12 Rows.fnExactPlaceTransferRow.domain false) (Rows.fnExactPlaceTransferSpec.post enc Try.prog Try.f12 false true false false) := by
  refine returnsInHanded_of_change (C := Try.checked) o_own started (by kernel_rfl) Try.func12
    (ChangeSpec.witness6 (enc := enc) (C := Try.checked) false ⟨#[], #[.int .i64 0, .int .i64 0, .agg #[.int .i64 0, .int .i64 0], .agg #[.int .i64 0, .int .i64 0]], []⟩ 8 (by kernel_rfl) (by kernel_rfl) (by kernel_rfl) (by kernel_rfl)) ?_
  intro W base args ds gs before hval0 hW hcnd _
  have hval : ∀ (j : Nat) t v, Try.f12.params[j]? = some t → args[j]? = some v → Value.okWide Try.prog W .any base t v := hval0
  have hW' := hW
  obtain ⟨p, q, hA0, hV, rfl, hfz, hnd⟩ := hW
  have hA : DataW.TrodAll enc Try.prog W 0 (fun _ => true) true Try.f12.params.toList args.toList ds p := hA0
  rw [Try.params12] at hA hval
  obtain ⟨v0, vs0, d0, ds0, p0, q0, hargs, rfl, rfl, h0, r0⟩ := trodAll_cons hA
  obtain ⟨v1, vs1, d1, ds1, p1, q1, rfl, rfl, rfl, h1, r1⟩ := trodAll_cons r0
  obtain ⟨v2, vs2, d2, ds2, p2, q2, rfl, rfl, rfl, h2, r2⟩ := trodAll_cons r1
  obtain ⟨v3, vs3, d3, ds3, p3, q3, rfl, rfl, rfl, h3, r3⟩ := trodAll_cons r2
  obtain ⟨rfl, rfl, rfl⟩ := trodAll_nil r3
  obtain rfl : args = #[v0, v1, v2, v3] := by cases args; simp_all
  obtain ⟨rfl, rfl⟩ := trodVars_none hV
  obtain ⟨ag0, rfl, rfl, rfl, wf0⟩ := open_int Try.underlying2 (hval 0 2 v0 rfl rfl) h0
  obtain ⟨ag1, rfl, rfl, rfl, wf1⟩ := open_int Try.underlying2 (hval 1 2 v1 rfl rfl) h1
  have k2 := h2
  have lt2 : ∀ x ∈ p2, x.block < W.heap.size := by obtain ⟨m, hm⟩ := k2; exact DataW.trod_lt m _ _ _ hm
  obtain ⟨ag2_0, ag2_1, rfl⟩ := o_lFigure' (hval 2 55 v2 rfl rfl) h2
  have k3 := h3
  have lt3 : ∀ x ∈ p3, x.block < W.heap.size := by obtain ⟨m, hm⟩ := k3; exact DataW.trod_lt m _ _ _ hm
  obtain ⟨ag3_0, ag3_1, rfl⟩ := o_lFigure' (hval 3 55 v3 rfl rfl) h3
  clear hA0 hval0
  refine (walk ag0 ag1 ag2_0 ag2_1 ag3_0 ag3_1 W ).mono fun e W' ⟨he, bel⟩ => ?_
  subst he
  exact ⟨_, rfl, _, _, _, [], _, [], hW', trodAll_mk1 (shut_bool Try.underlying4 _), (trodAll_cons_mk (shut_int Try.underlying2 wf0) (trodAll_cons_mk (shut_int Try.underlying2 wf1) (trodAll_cons_mk (Below.trod o_laidOut (by kernel_rfl) (of_decide_eq_true (by kernel_rfl)) k2 bel lt2) (trodAll_cons_mk (Below.trod o_laidOut (by kernel_rfl) (of_decide_eq_true (by kernel_rfl)) k3 bel lt3) trodAll_mk0)))), rfl, bel.frame _, fun h => by cases h⟩

theorem over : Rows.fnExactPlaceTransferRow.holds Try.pinned (OpenSpec.ofChange Rows.fnExactPlaceTransferSpec) :=
  OpenClaim.holds_of_wide 12 Try.f12 rfl rfl rfl rfl rfl rfl rfl ⟨rfl, rfl, rfl, rfl, rfl⟩ rfl rfl rfl rfl rfl (by kernel_rfl) Try.func12 (by kernel_rfl)
    (of_decide_eq_true (by kernel_rfl)) (by unfold Func.isWrapper; first | (rw [if_pos (by decide +kernel)]; kernel_rfl) | (rw [if_neg (by decide +kernel)]; exact ⟨rfl, rfl⟩))
    (fun os started H enc _ => lifted os started H enc)

theorem proved : Rows.FnExactPlaceTransferSaid := over
#print axioms proved
end Go.Proofs.Ytcnbnlmoohieoaa.lawPlaceTransfer
