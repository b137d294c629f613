/- DERIVED. Walks: the tens of a chain, and the carry. -/
import Derived.Test.YtkoojngonldcbaaM14
import Derived.Test.YtkoojngonldcbaaM5
import Derived.Test.YtkoojngonldcbaaM17
import Derived.Test.YtkoojngonldcbaaPA
import Derived.Test.YtkoojngonldcbaaBA
namespace Go.Proofs.Ytkoojngonldcbaa
set_option linter.unusedVariables false
set_option linter.unusedSimpArgs false
open Go.RowKit
set_option maxRecDepth 100000

set_option maxHeartbeats 1000000 in
theorem w_l16Tens (v : Value) (l : List Trm) (w : World) (h : IsTrms w v l) (hc : isChain l = true) :
    Calls Try.prog 93 #[v] w fun e w' => e = .returned (.agg #[.int .i64 (tensI (chainLog0 l)).lo, .int .i64 (tensI (chainLog0 l)).hi]) ∧ Later w w' := by
  have hbd := chainLog0_bd hc
  obtain ⟨d1, d2, d3, d4⟩ := hbd
  obtain ⟨X, hX⟩ : ∃ X, (chainLog0 l).lo = X := ⟨_, rfl⟩
  obtain ⟨Y, hY⟩ : ∃ Y, (chainLog0 l).hi = Y := ⟨_, rfl⟩
  rw [hX] at d1 d2
  rw [hY] at d3 d4
  have HF := Lib.hid (show tensI (chainLog0 l) = ⟨X / 1048576, Y / 1048576⟩ from by simp only [tensI, hX, hY])
  have HX := Lib.hid hX
  have HY := Lib.hid hY
  have HC := Lib.hid hc
  clear hX hY hc
  go_enter Try.func93, Try.ntmps93
  go_wp2_with fail
  refine (w_specL13Log _ _ _ (h.later ((Later.refl _).alloc _)) HC.out).mono ?_
  rintro e w1 ⟨rfl, hL⟩
  rw [HX.out, HY.out]
  go_wp2_with fail
  obtain ⟨u, hu⟩ : ∃ u : World, u = w1.alloc (.cells #[.int .i64 X, .int .i64 Y] 32) := ⟨_, rfl⟩
  have hLu : Later w1 u := by rw [hu]; exact (Later.refl _).alloc _
  have K3 : u.heap[w1.heap.size]? = some (.cells #[.int .i64 X, .int .i64 Y] 32 (0, 0)) := by rw [hu]; exact heap_alloc_new _ _
  have Kr := hLu.keep (kept1 hL)
  have hlt : w.heap.size < w1.heap.size := by have := hL.size; simp at this; omega
  have hlt3 : w1.heap.size < u.heap.size := by rw [hu]; simp
  have hL0 := (((Later.refl w).alloc (.cells #[.int .i64 0, .int .i64 0] 32)).trans hL).trans hLu
  have hSB := hL0.size
  have hRB : w.heap.size ≤ w.heap.size := Nat.le_refl _
  rw [← hu]
  clear hu hL hLu
  refine region_slots 13 [6, 7, 8, 9, 10, 11, 12] (fun g ac wc => sl ac 3 = .pointer (some ⟨w1.heap.size, 0, none⟩) ∧
    sl ac 2 = .pointer (some ⟨w.heap.size, 0, none⟩) ∧
    (g 0 = true → sl ac 6 = .pointer (some ⟨w1.heap.size, 0, none⟩)) ∧
    (g 1 = true → sl ac 7 = .int .i64 X) ∧
    (g 2 = true → sl ac 8 = .int .i64 (X / 1048576)) ∧
    (g 3 = true → sl ac 9 = .pointer (some ⟨w1.heap.size, 1, none⟩)) ∧
    (g 4 = true → sl ac 10 = .int .i64 Y) ∧
    (g 5 = true → sl ac 11 = .int .i64 (Y / 1048576)) ∧
    (g 6 = true → sl ac 12 = .agg #[.int .i64 (X / 1048576), .int .i64 (Y / 1048576)]) ∧
    Later w wc ∧
    u.heap.size ≤ wc.heap.size ∧
    wc.heap[w1.heap.size]? = some (.cells #[.int .i64 X, .int .i64 Y] 32 (0, 0)) ∧
    (∃ r0 r1, wc.heap[w.heap.size]? = some (.cells #[r0, r1] 32 (0, 0)) ∧ (g 7 = true → r0 = .int .i64 (X / 1048576) ∧ r1 = .int .i64 (Y / 1048576)))) (by kernel_rfl) (by kernel_rfl) rfl (by kernel_rfl) ?_ ?_ ?_
  · exact ⟨rfl, rfl, nofun, nofun, nofun, nofun, nofun, nofun, nofun, hL0.drew, Nat.le_refl _, K3, ⟨_, _, Kr, nofun⟩⟩
  · intro g ac wc hg ha hI
    obtain ⟨x3, x2, i0, i1, i2, i3, i4, i5, i6, hL, hS, B3, Rr⟩ := hI
    have a0 := i0 (hg 0 (by simp))
    have a1 := i1 (hg 1 (by simp))
    have a2 := i2 (hg 2 (by simp))
    have a3 := i3 (hg 3 (by simp))
    have a4 := i4 (hg 4 (by simp))
    have a5 := i5 (hg 5 (by simp))
    have a6 := i6 (hg 6 (by simp))
    obtain ⟨r0, r1, Kr, gr⟩ := Rr
    have gr := gr (hg 7 (by simp))
    rw [gr.1, gr.2] at Kr
    clear gr
    simp only [putAll, a0, a1, a2, a3, a4, a5, a6] at ha
    simp only [Act.put, List.setIfInBounds_toArray, List.set_cons_succ, List.set_cons_zero] at ha
    rw [ha]
    clear x3 x2 i0 i1 i2 i3 i4 i5 i6 a0 a1 a2 a3 a4 a5 a6 hg ha
    have cr := (blk_at Kr).1
    have zr := (blk_at Kr).2.2
    go_wp2
    refine bodyPost_ret (v := .agg #[.int .i64 (X / 1048576), .int .i64 (Y / 1048576)]) (by simp [results, Try.results93, go_sem, cr, zr]) rfl ⟨by rw [HF.out], hL⟩
  · refine .cons ?_ (.cons ?_ (.cons ?_ (.cons ?_ (.cons ?_ (.cons ?_ (.cons ?_ (.cons ?_ .nil)))))))
    · unfold SlotStep
      intro g ac wc hn hk hr hI K' hK
      obtain ⟨x3, x2, i0, i1, i2, i3, i4, i5, i6, hL, hS, B3, Rr⟩ := hI
      simp only [Region.binds] at hr
      simp at hr
      replace hK := Lib.hid hK
      replace i0 := Lib.hid i0
      replace i1 := Lib.hid i1
      replace i2 := Lib.hid i2
      replace i3 := Lib.hid i3
      replace i4 := Lib.hid i4
      replace i5 := Lib.hid i5
      replace i6 := Lib.hid i6
      go_simp
      exact hK.out _ _ ⟨(keepB x3 (by decide)), (keepB x2 (by decide)), (fun _ => put_eq (by omega)), (keepF i1.out (by decide)), (keepF i2.out (by decide)), (keepF i3.out (by decide)), (keepF i4.out (by decide)), (keepF i5.out (by decide)), (keepF i6.out (by decide)), hL, hS, B3, Rr⟩
    · unfold SlotStep
      intro g ac wc hn hk hr hI K' hK
      obtain ⟨x3, x2, i0, i1, i2, i3, i4, i5, i6, hL, hS, B3, Rr⟩ := hI
      simp only [Region.binds] at hr
      simp at hr
      replace hK := Lib.hid hK
      have y0 := i0 (by first | exact hr | exact hr.1 | exact hr.2 | exact hr.2.1 | exact hr.2.2 | exact hr.2.2.1 | exact hr.2.2.2 | simp [hr])
      replace i0 := Lib.hid i0
      replace i1 := Lib.hid i1
      replace i2 := Lib.hid i2
      replace i3 := Lib.hid i3
      replace i4 := Lib.hid i4
      replace i5 := Lib.hid i5
      replace i6 := Lib.hid i6
      have hbb := blk_at B3
      have c0 := hbb.1
      have f0 := hbb.2.1
      have z0 := hbb.2.2
      clear hbb
      go_simp
      exact hK.out _ _ ⟨(keepB x3 (by decide)), (keepB x2 (by decide)), (keepF i0.out (by decide)), (fun _ => put_eq (by omega)), (keepF i2.out (by decide)), (keepF i3.out (by decide)), (keepF i4.out (by decide)), (keepF i5.out (by decide)), (keepF i6.out (by decide)), hL, hS, B3, Rr⟩
    · unfold SlotStep
      intro g ac wc hn hk hr hI K' hK
      obtain ⟨x3, x2, i0, i1, i2, i3, i4, i5, i6, hL, hS, B3, Rr⟩ := hI
      simp only [Region.binds] at hr
      simp at hr
      replace hK := Lib.hid hK
      have y1 := i1 (by first | exact hr | exact hr.1 | exact hr.2 | exact hr.2.1 | exact hr.2.2 | exact hr.2.2.1 | exact hr.2.2.2 | simp [hr])
      replace i0 := Lib.hid i0
      replace i1 := Lib.hid i1
      replace i2 := Lib.hid i2
      replace i3 := Lib.hid i3
      replace i4 := Lib.hid i4
      replace i5 := Lib.hid i5
      replace i6 := Lib.hid i6
      go_simp
      refine (w_l01Floor _ _ (by decide) (by decide) (by omega) (by omega) _).mono ?_
      rintro e w4 ⟨rfl, rfl⟩
      exact hK.out _ _ ⟨(keepB x3 (by decide)), (keepB x2 (by decide)), (keepF i0.out (by decide)), (keepF i1.out (by decide)), (fun _ => put_eq (by omega)), (keepF i3.out (by decide)), (keepF i4.out (by decide)), (keepF i5.out (by decide)), (keepF i6.out (by decide)), hL, hS, B3, Rr⟩
    · unfold SlotStep
      intro g ac wc hn hk hr hI K' hK
      obtain ⟨x3, x2, i0, i1, i2, i3, i4, i5, i6, hL, hS, B3, Rr⟩ := hI
      simp only [Region.binds] at hr
      simp at hr
      replace hK := Lib.hid hK
      replace i0 := Lib.hid i0
      replace i1 := Lib.hid i1
      replace i2 := Lib.hid i2
      replace i3 := Lib.hid i3
      replace i4 := Lib.hid i4
      replace i5 := Lib.hid i5
      replace i6 := Lib.hid i6
      go_simp
      exact hK.out _ _ ⟨(keepB x3 (by decide)), (keepB x2 (by decide)), (keepF i0.out (by decide)), (keepF i1.out (by decide)), (keepF i2.out (by decide)), (fun _ => put_eq (by omega)), (keepF i4.out (by decide)), (keepF i5.out (by decide)), (keepF i6.out (by decide)), hL, hS, B3, Rr⟩
    · unfold SlotStep
      intro g ac wc hn hk hr hI K' hK
      obtain ⟨x3, x2, i0, i1, i2, i3, i4, i5, i6, hL, hS, B3, Rr⟩ := hI
      simp only [Region.binds] at hr
      simp at hr
      replace hK := Lib.hid hK
      have y3 := i3 (by first | exact hr | exact hr.1 | exact hr.2 | exact hr.2.1 | exact hr.2.2 | exact hr.2.2.1 | exact hr.2.2.2 | simp [hr])
      replace i0 := Lib.hid i0
      replace i1 := Lib.hid i1
      replace i2 := Lib.hid i2
      replace i3 := Lib.hid i3
      replace i4 := Lib.hid i4
      replace i5 := Lib.hid i5
      replace i6 := Lib.hid i6
      have hbb := blk_at B3
      have c0 := hbb.1
      have f0 := hbb.2.1
      have z0 := hbb.2.2
      clear hbb
      go_simp
      exact hK.out _ _ ⟨(keepB x3 (by decide)), (keepB x2 (by decide)), (keepF i0.out (by decide)), (keepF i1.out (by decide)), (keepF i2.out (by decide)), (keepF i3.out (by decide)), (fun _ => put_eq (by omega)), (keepF i5.out (by decide)), (keepF i6.out (by decide)), hL, hS, B3, Rr⟩
    · unfold SlotStep
      intro g ac wc hn hk hr hI K' hK
      obtain ⟨x3, x2, i0, i1, i2, i3, i4, i5, i6, hL, hS, B3, Rr⟩ := hI
      simp only [Region.binds] at hr
      simp at hr
      replace hK := Lib.hid hK
      have y4 := i4 (by first | exact hr | exact hr.1 | exact hr.2 | exact hr.2.1 | exact hr.2.2 | exact hr.2.2.1 | exact hr.2.2.2 | simp [hr])
      replace i0 := Lib.hid i0
      replace i1 := Lib.hid i1
      replace i2 := Lib.hid i2
      replace i3 := Lib.hid i3
      replace i4 := Lib.hid i4
      replace i5 := Lib.hid i5
      replace i6 := Lib.hid i6
      go_simp
      refine (w_l01Floor _ _ (by decide) (by decide) (by omega) (by omega) _).mono ?_
      rintro e w4 ⟨rfl, rfl⟩
      exact hK.out _ _ ⟨(keepB x3 (by decide)), (keepB x2 (by decide)), (keepF i0.out (by decide)), (keepF i1.out (by decide)), (keepF i2.out (by decide)), (keepF i3.out (by decide)), (keepF i4.out (by decide)), (fun _ => put_eq (by omega)), (keepF i6.out (by decide)), hL, hS, B3, Rr⟩
    · unfold SlotStep
      intro g ac wc hn hk hr hI K' hK
      obtain ⟨x3, x2, i0, i1, i2, i3, i4, i5, i6, hL, hS, B3, Rr⟩ := hI
      simp only [Region.binds] at hr
      simp at hr
      replace hK := Lib.hid hK
      have y2 := i2 (by first | exact hr | exact hr.1 | exact hr.2 | exact hr.2.1 | exact hr.2.2 | exact hr.2.2.1 | exact hr.2.2.2 | simp [hr])
      have y5 := i5 (by first | exact hr | exact hr.1 | exact hr.2 | exact hr.2.1 | exact hr.2.2 | exact hr.2.2.1 | exact hr.2.2.2 | simp [hr])
      have z2 := sl_get y2 (by omega)
      have z5 := sl_get y5 (by omega)
      replace i0 := Lib.hid i0
      replace i1 := Lib.hid i1
      replace i2 := Lib.hid i2
      replace i3 := Lib.hid i3
      replace i4 := Lib.hid i4
      replace i5 := Lib.hid i5
      replace i6 := Lib.hid i6
      go_simp
      exact hK.out _ _ ⟨(keepB x3 (by decide)), (keepB x2 (by decide)), (keepF i0.out (by decide)), (keepF i1.out (by decide)), (keepF i2.out (by decide)), (keepF i3.out (by decide)), (keepF i4.out (by decide)), (keepF i5.out (by decide)), (fun _ => put_eq (by omega)), hL, hS, B3, Rr⟩
    · unfold SlotStep
      intro g ac wc hn hk hr hI K' hK
      obtain ⟨x3, x2, i0, i1, i2, i3, i4, i5, i6, hL, hS, B3, Rr⟩ := hI
      simp only [Region.binds] at hr
      simp at hr
      replace hK := Lib.hid hK
      have y6 := i6 (by first | exact hr | exact hr.1 | exact hr.2 | exact hr.2.1 | exact hr.2.2 | exact hr.2.2.1 | exact hr.2.2.2 | simp [hr])
      replace i0 := Lib.hid i0
      replace i1 := Lib.hid i1
      replace i2 := Lib.hid i2
      replace i3 := Lib.hid i3
      replace i4 := Lib.hid i4
      replace i5 := Lib.hid i5
      replace i6 := Lib.hid i6
      obtain ⟨r0, r1, R1, -⟩ := Rr
      have c0 := (blk_at R1).1
      have f0 := (blk_at R1).2.1
      have z0 := (blk_at R1).2.2
      go_simp
      exact hK.out undef _ ⟨x3, x2, i0.out, i1.out, i2.out, i3.out, i4.out, i5.out, i6.out, ((hL.setCell hRB _).setCell hRB _), (by simp; omega), (other_set (other_set B3 (by omega) _) (by omega) _), ⟨_, _, two_set R1 _ _, fun _ => ⟨rfl, rfl⟩⟩⟩

set_option maxHeartbeats 1000000 in
theorem w_specTensOf (v : Value) (l : List Trm) (w : World) (h : IsTrms w v l) :
    Calls Try.prog 23 #[v] w fun e w' => e = .returned (.tuple #[.agg #[.int .i64 (tensOf l).lo, .int .i64 (tensOf l).hi], .int .i64 (codeChain l)]) ∧ Later w w' := by
  cases hc : isChain l
  · have HC := Lib.hid hc
    have HF := Lib.hid (show tensOf l = ⟨0, 0⟩ from by simp [tensOf, hc])
    have HG := Lib.hid (show codeChain l = 1 from by simp [codeChain, hc])
    clear hc
    go_enter Try.func23, Try.ntmps23
    go_wp2_with fail
    refine (w_specIsChain _ _ _ (h.later ((Later.refl _).alloc _))).mono ?_
    rintro e w1 ⟨rfl, hL⟩
    rw [HC.out]
    obtain ⟨c0, f0, z0⟩ := blk1 hL
    go_wp2
    refine bodyPost_ret (v := .tuple #[.agg #[.int .i64 0, .int .i64 0], .int .i64 1]) (by simp [results, Try.results23, go_sem, c0, z0]) rfl ⟨by rw [HF.out, HG.out], by (repeat (with_reducible first | exact Later.refl _ | refine Later.alloc ?_ _ | refine Later.drew ?_ | refine Later.drewN ?_ _ | refine Later.setCell ?_ (by simp; try omega) _ | refine Later.trans ?_ (by assumption)))⟩
  have HF := Lib.hid (show tensOf l = tensI (chainLog0 l) from by simp [tensOf, hc])
  have HG := Lib.hid (show codeChain l = 0 from by simp [codeChain, hc])
  have HC := Lib.hid hc
  clear hc
  go_enter Try.func23, Try.ntmps23
  go_wp2_with fail
  refine (w_specIsChain _ _ _ (h.later ((Later.refl _).alloc _))).mono ?_
  rintro e w1 ⟨rfl, hL⟩
  rw [HC.out]
  go_wp2_with fail
  refine (w_l16Tens _ _ _ ((h.later ((Later.refl _).alloc _)).later hL) HC.out).mono ?_
  rintro e w2 ⟨rfl, hL2⟩
  obtain ⟨c0, f0, z0⟩ := blk1 (hL.trans hL2)
  go_wp2
  refine bodyPost_ret (v := .tuple #[.agg #[.int .i64 (tensI (chainLog0 l)).lo, .int .i64 (tensI (chainLog0 l)).hi], .int .i64 0]) (by simp [results, Try.results23, go_sem, c0, z0]) rfl ⟨by rw [HF.out, HG.out], by (repeat (with_reducible first | exact Later.refl _ | refine Later.alloc ?_ _ | refine Later.drew ?_ | refine Later.drewN ?_ _ | refine Later.setCell ?_ (by simp; try omega) _ | refine Later.trans ?_ (by assumption)))⟩

set_option maxHeartbeats 1000000 in
theorem w_implTensOf (v : Value) (l : List Trm) (w : World) (h : IsTrms w v l) :
    Calls Try.prog 22 #[v] w fun e w' => e = .returned (.tuple #[.agg #[.int .i64 (tensOf l).lo, .int .i64 (tensOf l).hi], .int .i64 (codeChain l)]) ∧ Later w w' := by
  cases hc : isChain l
  · have HC := Lib.hid hc
    have HF := Lib.hid (show tensOf l = ⟨0, 0⟩ from by simp [tensOf, hc])
    have HG := Lib.hid (show codeChain l = 1 from by simp [codeChain, hc])
    clear hc
    go_enter Try.func22, Try.ntmps22
    go_wp2_with fail
    refine (w_implIsChain _ _ _ (h.later ((Later.refl _).alloc _))).mono ?_
    rintro e w1 ⟨rfl, hL⟩
    rw [HC.out]
    obtain ⟨c0, f0, z0⟩ := blk1 hL
    go_wp2
    refine bodyPost_ret (v := .tuple #[.agg #[.int .i64 0, .int .i64 0], .int .i64 1]) (by simp [results, Try.results22, go_sem, c0, z0]) rfl ⟨by rw [HF.out, HG.out], by (repeat (with_reducible first | exact Later.refl _ | refine Later.alloc ?_ _ | refine Later.drew ?_ | refine Later.drewN ?_ _ | refine Later.setCell ?_ (by simp; try omega) _ | refine Later.trans ?_ (by assumption)))⟩
  have hbd := chainLog0_bd hc
  obtain ⟨d1, d2, d3, d4⟩ := hbd
  obtain ⟨X, hX⟩ : ∃ X, (chainLog0 l).lo = X := ⟨_, rfl⟩
  obtain ⟨Y, hY⟩ : ∃ Y, (chainLog0 l).hi = Y := ⟨_, rfl⟩
  rw [hX] at d1 d2
  rw [hY] at d3 d4
  have HF := Lib.hid (show tensOf l = ⟨X / 1048576, Y / 1048576⟩ from by simp [tensOf, hc, tensI, hX, hY])
  have HG := Lib.hid (show codeChain l = 0 from by simp [codeChain, hc])
  have HX := Lib.hid hX
  have HY := Lib.hid hY
  have HC := Lib.hid hc
  clear hX hY hc
  go_enter Try.func22, Try.ntmps22
  go_wp2_with fail
  refine (w_implIsChain _ _ _ (h.later ((Later.refl _).alloc _))).mono ?_
  rintro e w0 ⟨rfl, hL9⟩
  rw [HC.out]
  go_wp2_with fail
  refine (w_implChainLog0 _ _ _ ((h.later ((Later.refl _).alloc _)).later hL9) HC.out).mono ?_
  rintro e w1 ⟨rfl, hL8⟩
  rw [HX.out, HY.out]
  have hL := hL9.trans hL8
  clear hL9 hL8
  go_wp2_with fail
  obtain ⟨u, hu⟩ : ∃ u : World, u = w1.alloc (.cells #[.int .i64 X, .int .i64 Y] 32) := ⟨_, rfl⟩
  have hLu : Later w1 u := by rw [hu]; exact (Later.refl _).alloc _
  have K3 : u.heap[w1.heap.size]? = some (.cells #[.int .i64 X, .int .i64 Y] 32 (0, 0)) := by rw [hu]; exact heap_alloc_new _ _
  have Kr := hLu.keep (kept1 hL)
  have hlt : w.heap.size < w1.heap.size := by have := hL.size; simp at this; omega
  have hlt3 : w1.heap.size < u.heap.size := by rw [hu]; simp
  have hL0 := (((Later.refl w).alloc (.cells #[.int .i64 0, .int .i64 0] 32)).trans hL).trans hLu
  have hSB := hL0.size
  have hRB : w.heap.size ≤ w.heap.size := Nat.le_refl _
  rw [← hu]
  clear hu hL hLu
  refine region_slots 18 [11, 12, 13, 14, 15, 16, 17, 3] (fun g ac wc => sl ac 4 = .pointer (some ⟨w1.heap.size, 0, none⟩) ∧
    sl ac 2 = .pointer (some ⟨w.heap.size, 0, none⟩) ∧
    (g 0 = true → sl ac 11 = .pointer (some ⟨w1.heap.size, 0, none⟩)) ∧
    (g 1 = true → sl ac 12 = .int .i64 X) ∧
    (g 2 = true → sl ac 13 = .int .i64 (X / 1048576)) ∧
    (g 3 = true → sl ac 14 = .pointer (some ⟨w1.heap.size, 1, none⟩)) ∧
    (g 4 = true → sl ac 15 = .int .i64 Y) ∧
    (g 5 = true → sl ac 16 = .int .i64 (Y / 1048576)) ∧
    (g 6 = true → sl ac 17 = .agg #[.int .i64 (X / 1048576), .int .i64 (Y / 1048576)]) ∧
    (g 8 = true → sl ac 3 = .int .i64 0) ∧
    Later w wc ∧
    u.heap.size ≤ wc.heap.size ∧
    wc.heap[w1.heap.size]? = some (.cells #[.int .i64 X, .int .i64 Y] 32 (0, 0)) ∧
    (∃ r0 r1, wc.heap[w.heap.size]? = some (.cells #[r0, r1] 32 (0, 0)) ∧ (g 7 = true → r0 = .int .i64 (X / 1048576) ∧ r1 = .int .i64 (Y / 1048576)))) (by kernel_rfl) (by kernel_rfl) rfl (by kernel_rfl) ?_ ?_ ?_
  · exact ⟨rfl, rfl, nofun, nofun, nofun, nofun, nofun, nofun, nofun, nofun, hL0.drew, Nat.le_refl _, K3, ⟨_, _, Kr, nofun⟩⟩
  · intro g ac wc hg ha hI
    obtain ⟨x4, x2, i0, i1, i2, i3, i4, i5, i6, i8, hL, hS, B3, Rr⟩ := hI
    have a0 := i0 (hg 0 (by simp))
    have a1 := i1 (hg 1 (by simp))
    have a2 := i2 (hg 2 (by simp))
    have a3 := i3 (hg 3 (by simp))
    have a4 := i4 (hg 4 (by simp))
    have a5 := i5 (hg 5 (by simp))
    have a6 := i6 (hg 6 (by simp))
    have a8 := i8 (hg 8 (by simp))
    obtain ⟨r0, r1, Kr, gr⟩ := Rr
    have gr := gr (hg 7 (by simp))
    rw [gr.1, gr.2] at Kr
    clear gr
    simp only [putAll, a0, a1, a2, a3, a4, a5, a6, a8] at ha
    simp only [Act.put, List.setIfInBounds_toArray, List.set_cons_succ, List.set_cons_zero] at ha
    rw [ha]
    clear x4 x2 i0 i1 i2 i3 i4 i5 i6 i8 a0 a1 a2 a3 a4 a5 a6 a8 hg ha
    have cr := (blk_at Kr).1
    have zr := (blk_at Kr).2.2
    go_wp2
    refine bodyPost_ret (v := .tuple #[.agg #[.int .i64 (X / 1048576), .int .i64 (Y / 1048576)], .int .i64 0]) (by simp [results, Try.results22, go_sem, cr, zr]) rfl ⟨by rw [HF.out, HG.out], hL⟩
  · refine .cons ?_ (.cons ?_ (.cons ?_ (.cons ?_ (.cons ?_ (.cons ?_ (.cons ?_ (.cons ?_ (.cons ?_ .nil))))))))
    · unfold SlotStep
      intro g ac wc hn hk hr hI K' hK
      obtain ⟨x4, x2, i0, i1, i2, i3, i4, i5, i6, i8, hL, hS, B3, Rr⟩ := hI
      simp only [Region.binds] at hr
      simp at hr
      replace hK := Lib.hid hK
      replace i0 := Lib.hid i0
      replace i1 := Lib.hid i1
      replace i2 := Lib.hid i2
      replace i3 := Lib.hid i3
      replace i4 := Lib.hid i4
      replace i5 := Lib.hid i5
      replace i6 := Lib.hid i6
      replace i8 := Lib.hid i8
      go_simp
      exact hK.out _ _ ⟨(keepB x4 (by decide)), (keepB x2 (by decide)), (fun _ => put_eq (by omega)), (keepF i1.out (by decide)), (keepF i2.out (by decide)), (keepF i3.out (by decide)), (keepF i4.out (by decide)), (keepF i5.out (by decide)), (keepF i6.out (by decide)), (keepF i8.out (by decide)), hL, hS, B3, Rr⟩
    · unfold SlotStep
      intro g ac wc hn hk hr hI K' hK
      obtain ⟨x4, x2, i0, i1, i2, i3, i4, i5, i6, i8, hL, hS, B3, Rr⟩ := hI
      simp only [Region.binds] at hr
      simp at hr
      replace hK := Lib.hid hK
      have y0 := i0 (by first | exact hr | exact hr.1 | exact hr.2 | exact hr.2.1 | exact hr.2.2 | exact hr.2.2.1 | exact hr.2.2.2 | simp [hr])
      replace i0 := Lib.hid i0
      replace i1 := Lib.hid i1
      replace i2 := Lib.hid i2
      replace i3 := Lib.hid i3
      replace i4 := Lib.hid i4
      replace i5 := Lib.hid i5
      replace i6 := Lib.hid i6
      replace i8 := Lib.hid i8
      have hbb := blk_at B3
      have c0 := hbb.1
      have f0 := hbb.2.1
      have z0 := hbb.2.2
      clear hbb
      go_simp
      exact hK.out _ _ ⟨(keepB x4 (by decide)), (keepB x2 (by decide)), (keepF i0.out (by decide)), (fun _ => put_eq (by omega)), (keepF i2.out (by decide)), (keepF i3.out (by decide)), (keepF i4.out (by decide)), (keepF i5.out (by decide)), (keepF i6.out (by decide)), (keepF i8.out (by decide)), hL, hS, B3, Rr⟩
    · unfold SlotStep
      intro g ac wc hn hk hr hI K' hK
      obtain ⟨x4, x2, i0, i1, i2, i3, i4, i5, i6, i8, hL, hS, B3, Rr⟩ := hI
      simp only [Region.binds] at hr
      simp at hr
      replace hK := Lib.hid hK
      have y1 := i1 (by first | exact hr | exact hr.1 | exact hr.2 | exact hr.2.1 | exact hr.2.2 | exact hr.2.2.1 | exact hr.2.2.2 | simp [hr])
      replace i0 := Lib.hid i0
      replace i1 := Lib.hid i1
      replace i2 := Lib.hid i2
      replace i3 := Lib.hid i3
      replace i4 := Lib.hid i4
      replace i5 := Lib.hid i5
      replace i6 := Lib.hid i6
      replace i8 := Lib.hid i8
      go_simp
      refine (w_down _ _ (by decide) (by decide) (by omega) (by omega) _).mono ?_
      rintro e w4 ⟨rfl, rfl⟩
      exact hK.out _ _ ⟨(keepB x4 (by decide)), (keepB x2 (by decide)), (keepF i0.out (by decide)), (keepF i1.out (by decide)), (fun _ => put_eq (by omega)), (keepF i3.out (by decide)), (keepF i4.out (by decide)), (keepF i5.out (by decide)), (keepF i6.out (by decide)), (keepF i8.out (by decide)), hL, hS, B3, Rr⟩
    · unfold SlotStep
      intro g ac wc hn hk hr hI K' hK
      obtain ⟨x4, x2, i0, i1, i2, i3, i4, i5, i6, i8, hL, hS, B3, Rr⟩ := hI
      simp only [Region.binds] at hr
      simp at hr
      replace hK := Lib.hid hK
      replace i0 := Lib.hid i0
      replace i1 := Lib.hid i1
      replace i2 := Lib.hid i2
      replace i3 := Lib.hid i3
      replace i4 := Lib.hid i4
      replace i5 := Lib.hid i5
      replace i6 := Lib.hid i6
      replace i8 := Lib.hid i8
      go_simp
      exact hK.out _ _ ⟨(keepB x4 (by decide)), (keepB x2 (by decide)), (keepF i0.out (by decide)), (keepF i1.out (by decide)), (keepF i2.out (by decide)), (fun _ => put_eq (by omega)), (keepF i4.out (by decide)), (keepF i5.out (by decide)), (keepF i6.out (by decide)), (keepF i8.out (by decide)), hL, hS, B3, Rr⟩
    · unfold SlotStep
      intro g ac wc hn hk hr hI K' hK
      obtain ⟨x4, x2, i0, i1, i2, i3, i4, i5, i6, i8, hL, hS, B3, Rr⟩ := hI
      simp only [Region.binds] at hr
      simp at hr
      replace hK := Lib.hid hK
      have y3 := i3 (by first | exact hr | exact hr.1 | exact hr.2 | exact hr.2.1 | exact hr.2.2 | exact hr.2.2.1 | exact hr.2.2.2 | simp [hr])
      replace i0 := Lib.hid i0
      replace i1 := Lib.hid i1
      replace i2 := Lib.hid i2
      replace i3 := Lib.hid i3
      replace i4 := Lib.hid i4
      replace i5 := Lib.hid i5
      replace i6 := Lib.hid i6
      replace i8 := Lib.hid i8
      have hbb := blk_at B3
      have c0 := hbb.1
      have f0 := hbb.2.1
      have z0 := hbb.2.2
      clear hbb
      go_simp
      exact hK.out _ _ ⟨(keepB x4 (by decide)), (keepB x2 (by decide)), (keepF i0.out (by decide)), (keepF i1.out (by decide)), (keepF i2.out (by decide)), (keepF i3.out (by decide)), (fun _ => put_eq (by omega)), (keepF i5.out (by decide)), (keepF i6.out (by decide)), (keepF i8.out (by decide)), hL, hS, B3, Rr⟩
    · unfold SlotStep
      intro g ac wc hn hk hr hI K' hK
      obtain ⟨x4, x2, i0, i1, i2, i3, i4, i5, i6, i8, hL, hS, B3, Rr⟩ := hI
      simp only [Region.binds] at hr
      simp at hr
      replace hK := Lib.hid hK
      have y4 := i4 (by first | exact hr | exact hr.1 | exact hr.2 | exact hr.2.1 | exact hr.2.2 | exact hr.2.2.1 | exact hr.2.2.2 | simp [hr])
      replace i0 := Lib.hid i0
      replace i1 := Lib.hid i1
      replace i2 := Lib.hid i2
      replace i3 := Lib.hid i3
      replace i4 := Lib.hid i4
      replace i5 := Lib.hid i5
      replace i6 := Lib.hid i6
      replace i8 := Lib.hid i8
      go_simp
      refine (w_down _ _ (by decide) (by decide) (by omega) (by omega) _).mono ?_
      rintro e w4 ⟨rfl, rfl⟩
      exact hK.out _ _ ⟨(keepB x4 (by decide)), (keepB x2 (by decide)), (keepF i0.out (by decide)), (keepF i1.out (by decide)), (keepF i2.out (by decide)), (keepF i3.out (by decide)), (keepF i4.out (by decide)), (fun _ => put_eq (by omega)), (keepF i6.out (by decide)), (keepF i8.out (by decide)), hL, hS, B3, Rr⟩
    · unfold SlotStep
      intro g ac wc hn hk hr hI K' hK
      obtain ⟨x4, x2, i0, i1, i2, i3, i4, i5, i6, i8, hL, hS, B3, Rr⟩ := hI
      simp only [Region.binds] at hr
      simp at hr
      replace hK := Lib.hid hK
      have y2 := i2 (by first | exact hr | exact hr.1 | exact hr.2 | exact hr.2.1 | exact hr.2.2 | exact hr.2.2.1 | exact hr.2.2.2 | simp [hr])
      have y5 := i5 (by first | exact hr | exact hr.1 | exact hr.2 | exact hr.2.1 | exact hr.2.2 | exact hr.2.2.1 | exact hr.2.2.2 | simp [hr])
      have z2 := sl_get y2 (by omega)
      have z5 := sl_get y5 (by omega)
      replace i0 := Lib.hid i0
      replace i1 := Lib.hid i1
      replace i2 := Lib.hid i2
      replace i3 := Lib.hid i3
      replace i4 := Lib.hid i4
      replace i5 := Lib.hid i5
      replace i6 := Lib.hid i6
      replace i8 := Lib.hid i8
      go_simp
      exact hK.out _ _ ⟨(keepB x4 (by decide)), (keepB x2 (by decide)), (keepF i0.out (by decide)), (keepF i1.out (by decide)), (keepF i2.out (by decide)), (keepF i3.out (by decide)), (keepF i4.out (by decide)), (keepF i5.out (by decide)), (fun _ => put_eq (by omega)), (keepF i8.out (by decide)), hL, hS, B3, Rr⟩
    · unfold SlotStep
      intro g ac wc hn hk hr hI K' hK
      obtain ⟨x4, x2, i0, i1, i2, i3, i4, i5, i6, i8, hL, hS, B3, Rr⟩ := hI
      simp only [Region.binds] at hr
      simp at hr
      replace hK := Lib.hid hK
      have y6 := i6 (by first | exact hr | exact hr.1 | exact hr.2 | exact hr.2.1 | exact hr.2.2 | exact hr.2.2.1 | exact hr.2.2.2 | simp [hr])
      replace i0 := Lib.hid i0
      replace i1 := Lib.hid i1
      replace i2 := Lib.hid i2
      replace i3 := Lib.hid i3
      replace i4 := Lib.hid i4
      replace i5 := Lib.hid i5
      replace i6 := Lib.hid i6
      replace i8 := Lib.hid i8
      obtain ⟨r0, r1, R1, -⟩ := Rr
      have c0 := (blk_at R1).1
      have f0 := (blk_at R1).2.1
      have z0 := (blk_at R1).2.2
      go_simp
      exact hK.out undef _ ⟨x4, x2, i0.out, i1.out, i2.out, i3.out, i4.out, i5.out, i6.out, i8.out, ((hL.setCell hRB _).setCell hRB _), (by simp; omega), (other_set (other_set B3 (by omega) _) (by omega) _), ⟨_, _, two_set R1 _ _, fun _ => ⟨rfl, rfl⟩⟩⟩
    · unfold SlotStep
      intro g ac wc hn hk hr hI K' hK
      obtain ⟨x4, x2, i0, i1, i2, i3, i4, i5, i6, i8, hL, hS, B3, Rr⟩ := hI
      simp only [Region.binds] at hr
      simp at hr
      replace hK := Lib.hid hK
      replace i0 := Lib.hid i0
      replace i1 := Lib.hid i1
      replace i2 := Lib.hid i2
      replace i3 := Lib.hid i3
      replace i4 := Lib.hid i4
      replace i5 := Lib.hid i5
      replace i6 := Lib.hid i6
      replace i8 := Lib.hid i8
      go_simp
      exact hK.out _ _ ⟨(keepB x4 (by decide)), (keepB x2 (by decide)), (keepF i0.out (by decide)), (keepF i1.out (by decide)), (keepF i2.out (by decide)), (keepF i3.out (by decide)), (keepF i4.out (by decide)), (keepF i5.out (by decide)), (keepF i6.out (by decide)), (fun _ => put_eq (by omega)), hL, hS, B3, Rr⟩

set_option maxHeartbeats 1000000 in
theorem w_specCarryOf (v : Value) (l : List Trm) (w : World) (h : IsTrms w v l) :
    Calls Try.prog 27 #[v] w fun e w' => e = .returned (.tuple #[.agg #[.int .i64 (carryOf l).lo, .int .i64 (carryOf l).hi], .int .i64 (codeChain l)]) ∧ Later w w' := by
  cases hc : isChain l
  · have HC := Lib.hid hc
    have HF := Lib.hid (show carryOf l = ⟨0, 0⟩ from by simp [carryOf, hc])
    have HG := Lib.hid (show codeChain l = 1 from by simp [codeChain, hc])
    clear hc
    go_enter Try.func27, Try.ntmps27
    go_wp2_with fail
    refine (w_specIsChain _ _ _ (h.later ((Later.refl _).alloc _))).mono ?_
    rintro e w1 ⟨rfl, hL⟩
    rw [HC.out]
    obtain ⟨c0, f0, z0⟩ := blk1 hL
    go_wp2
    refine bodyPost_ret (v := .tuple #[.agg #[.int .i64 0, .int .i64 0], .int .i64 1]) (by simp [results, Try.results27, go_sem, c0, z0]) rfl ⟨by rw [HF.out, HG.out], by (repeat (with_reducible first | exact Later.refl _ | refine Later.alloc ?_ _ | refine Later.drew ?_ | refine Later.drewN ?_ _ | refine Later.setCell ?_ (by simp; try omega) _ | refine Later.trans ?_ (by assumption)))⟩
  have hbd := chainLog0_bd hc
  obtain ⟨d1, d2, d3, d4⟩ := hbd
  obtain ⟨X, hX⟩ : ∃ X, (chainLog0 l).lo = X := ⟨_, rfl⟩
  obtain ⟨Y, hY⟩ : ∃ Y, (chainLog0 l).hi = Y := ⟨_, rfl⟩
  rw [hX] at d1 d2
  rw [hY] at d3 d4
  have hs := sumTens_bd hc
  obtain ⟨S, hS⟩ : ∃ S, sumTens l = S := ⟨_, rfl⟩
  rw [hS] at hs
  obtain ⟨s1, s2⟩ := hs
  have HF := Lib.hid (show carryOf l = ⟨X / 1048576 - S, Y / 1048576 - S⟩ from by simp [carryOf, hc, hX, hY, hS])
  have HG := Lib.hid (show codeChain l = 0 from by simp [codeChain, hc])
  have hT := (show tensI (chainLog0 l) = ⟨X / 1048576, Y / 1048576⟩ from by simp only [tensI, hX, hY])
  obtain ⟨x, hx⟩ : ∃ x, X / 1048576 = x := ⟨_, rfl⟩
  obtain ⟨y, hy⟩ : ∃ y, Y / 1048576 = y := ⟨_, rfl⟩
  have x1 : -200 ≤ x := by omega
  have x2 : x ≤ 200 := by omega
  have y1 : -200 ≤ y := by omega
  have y2 : y ≤ 200 := by omega
  rw [hx, hy] at hT HF
  have HT := Lib.hid hT
  have HS := Lib.hid hS
  have HC := Lib.hid hc
  clear hX hY hc hS hT hx hy
  go_enter Try.func27, Try.ntmps27
  go_wp2_with fail
  refine (w_specIsChain _ _ _ (h.later ((Later.refl _).alloc _))).mono ?_
  rintro e w1 ⟨rfl, hL⟩
  rw [HC.out]
  go_wp2_with fail
  refine (w_l16Tens _ _ _ ((h.later ((Later.refl _).alloc _)).later hL) HC.out).mono ?_
  rintro e w2 ⟨rfl, hL2⟩
  rw [HT.out]
  go_wp2_with fail
  refine (w_specL16Sum _ _ _ ((h.later ((Later.refl _).alloc _)).later (hL.trans hL2)) HC.out).mono ?_
  rintro e w3 ⟨rfl, hL3⟩
  rw [HS.out]
  obtain ⟨c0, f0, z0⟩ := blk1 (hL.trans (hL2.trans hL3))
  go_wp2
  refine bodyPost_ret (v := .tuple #[.agg #[.int .i64 (x - S), .int .i64 (y - S)], .int .i64 0]) (by simp [results, Try.results27, go_sem, c0, z0]) rfl ⟨by rw [HF.out, HG.out], by (repeat (with_reducible first | exact Later.refl _ | refine Later.alloc ?_ _ | refine Later.drew ?_ | refine Later.drewN ?_ _ | refine Later.setCell ?_ (by simp; try omega) _ | refine Later.trans ?_ (by assumption)))⟩

set_option maxHeartbeats 1000000 in
theorem w_implCarryOf (v : Value) (l : List Trm) (w : World) (h : IsTrms w v l) :
    Calls Try.prog 26 #[v] w fun e w' => e = .returned (.tuple #[.agg #[.int .i64 (carryOf l).lo, .int .i64 (carryOf l).hi], .int .i64 (codeChain l)]) ∧ Later w w' := by
  cases hc : isChain l
  · have HC := Lib.hid hc
    have HF := Lib.hid (show carryOf l = ⟨0, 0⟩ from by simp [carryOf, hc])
    have HT := Lib.hid (show tensOf l = ⟨0, 0⟩ from by simp [tensOf, hc])
    have HG := Lib.hid (show codeChain l = 1 from by simp [codeChain, hc])
    clear hc
    go_enter Try.func26, Try.ntmps26
    go_wp2_with fail
    refine (w_implTensOf _ _ _ (h.later ((Later.refl _).alloc _))).mono ?_
    rintro e w1 ⟨rfl, hL⟩
    rw [HT.out, HG.out]
    obtain ⟨c0, f0, z0⟩ := blk1 hL
    go_wp2
    refine bodyPost_ret (v := .tuple #[.agg #[.int .i64 0, .int .i64 0], .int .i64 1]) (by simp [results, Try.results26, go_sem, c0, z0]) rfl ⟨by rw [HF.out, HG.out], by (repeat (with_reducible first | exact Later.refl _ | refine Later.alloc ?_ _ | refine Later.drew ?_ | refine Later.drewN ?_ _ | refine Later.setCell ?_ (by simp; try omega) _ | refine Later.trans ?_ (by assumption)))⟩
  have hbd := chainLog0_bd hc
  obtain ⟨d1, d2, d3, d4⟩ := hbd
  have hs := sumTens_bd hc
  obtain ⟨S, hS⟩ : ∃ S, sumTens l = S := ⟨_, rfl⟩
  rw [hS] at hs
  obtain ⟨s1, s2⟩ := hs
  obtain ⟨X, hX⟩ : ∃ X, (chainLog0 l).lo / 1048576 = X := ⟨_, rfl⟩
  obtain ⟨Y, hY⟩ : ∃ Y, (chainLog0 l).hi / 1048576 = Y := ⟨_, rfl⟩
  have x1 : -200 ≤ X := by omega
  have x2 : X ≤ 200 := by omega
  have y1 : -200 ≤ Y := by omega
  have y2 : Y ≤ 200 := by omega
  have HT := Lib.hid (show tensOf l = ⟨X, Y⟩ from by simp [tensOf, hc, tensI, hX, hY])
  have HF := Lib.hid (show carryOf l = ⟨X - S, Y - S⟩ from by simp [carryOf, hc, hX, hY, hS])
  have HG := Lib.hid (show codeChain l = 0 from by simp [codeChain, hc])
  have HS := Lib.hid hS
  have HC := Lib.hid hc
  have H := Lib.hid h
  have hv : ∃ a cap, v = .slice a l.length cap := by obtain ⟨_, _, a, cap, hv, _⟩ := h; exact ⟨a, cap, hv⟩
  clear hX hY hc hS d1 d2 d3 d4
  go_enter Try.func26, Try.ntmps26
  go_wp2_with fail
  refine (w_implTensOf _ _ _ (H.out.later ((Later.refl _).alloc _))).mono ?_
  rintro e w1 ⟨rfl, hL⟩
  rw [HT.out, HG.out]
  go_wp2_with fail
  obtain ⟨u, hu⟩ : ∃ u : World, u = w1.alloc (.cells #[.int .i64 X, .int .i64 Y] 32) := ⟨_, rfl⟩
  have hLu : Later w1 u := by rw [hu]; exact (Later.refl _).alloc _
  have K3 : u.heap[w1.heap.size]? = some (.cells #[.int .i64 X, .int .i64 Y] 32 (0, 0)) := by rw [hu]; exact heap_alloc_new _ _
  have Kr := hLu.keep (kept1 hL)
  have hlt : w.heap.size < w1.heap.size := by have := hL.size; simp at this; omega
  have hlt3 : w1.heap.size < u.heap.size := by rw [hu]; simp
  have hL0 := (((Later.refl w).alloc (.cells #[.int .i64 0, .int .i64 0] 32)).trans hL).trans hLu
  have hSB := hL0.size
  have hRB : w.heap.size ≤ w.heap.size := Nat.le_refl _
  rw [← hu]
  clear hu hL hLu
  refine region_slots 26 [15, 16, 17, 18, 19, 20, 21, 22, 23, 24, 25, 3] (fun g ac wc => sl ac 4 = .pointer (some ⟨w1.heap.size, 0, none⟩) ∧
    sl ac 2 = .pointer (some ⟨w.heap.size, 0, none⟩) ∧
    sl ac 0 = v ∧
    (g 0 = true → sl ac 15 = .pointer (some ⟨w1.heap.size, 0, none⟩)) ∧
    (g 1 = true → sl ac 16 = .int .i64 X) ∧
    (g 2 = true → sl ac 17 = v) ∧
    (g 3 = true → sl ac 18 = .int .i64 S) ∧
    (g 4 = true → sl ac 19 = .int .i64 (X - S)) ∧
    (g 5 = true → sl ac 20 = .pointer (some ⟨w1.heap.size, 1, none⟩)) ∧
    (g 6 = true → sl ac 21 = .int .i64 Y) ∧
    (g 7 = true → sl ac 22 = v) ∧
    (g 8 = true → sl ac 23 = .int .i64 S) ∧
    (g 9 = true → sl ac 24 = .int .i64 (Y - S)) ∧
    (g 10 = true → sl ac 25 = .agg #[.int .i64 (X - S), .int .i64 (Y - S)]) ∧
    (g 12 = true → sl ac 3 = .int .i64 0) ∧
    Later w wc ∧
    u.heap.size ≤ wc.heap.size ∧
    wc.heap[w1.heap.size]? = some (.cells #[.int .i64 X, .int .i64 Y] 32 (0, 0)) ∧
    (∃ r0 r1, wc.heap[w.heap.size]? = some (.cells #[r0, r1] 32 (0, 0)) ∧ (g 11 = true → r0 = .int .i64 (X - S) ∧ r1 = .int .i64 (Y - S)))) (by kernel_rfl) (by kernel_rfl) rfl (by kernel_rfl) ?_ ?_ ?_
  · exact ⟨rfl, rfl, rfl, nofun, nofun, nofun, nofun, nofun, nofun, nofun, nofun, nofun, nofun, nofun, nofun, hL0.drew, Nat.le_refl _, K3, ⟨_, _, Kr, nofun⟩⟩
  · intro g ac wc hg ha hI
    obtain ⟨x4, x2, x0, i0, i1, i2, i3, i4, i5, i6, i7, i8, i9, i10, i12, hL, hS, B3, Rr⟩ := hI
    have a0 := i0 (hg 0 (by simp))
    have a1 := i1 (hg 1 (by simp))
    have a2 := i2 (hg 2 (by simp))
    have a3 := i3 (hg 3 (by simp))
    have a4 := i4 (hg 4 (by simp))
    have a5 := i5 (hg 5 (by simp))
    have a6 := i6 (hg 6 (by simp))
    have a7 := i7 (hg 7 (by simp))
    have a8 := i8 (hg 8 (by simp))
    have a9 := i9 (hg 9 (by simp))
    have a10 := i10 (hg 10 (by simp))
    have a12 := i12 (hg 12 (by simp))
    obtain ⟨r0, r1, Kr, gr⟩ := Rr
    have gr := gr (hg 11 (by simp))
    rw [gr.1, gr.2] at Kr
    clear gr
    simp only [putAll, a0, a1, a2, a3, a4, a5, a6, a7, a8, a9, a10, a12] at ha
    simp only [Act.put, List.setIfInBounds_toArray, List.set_cons_succ, List.set_cons_zero] at ha
    rw [ha]
    clear x4 x2 x0 i0 i1 i2 i3 i4 i5 i6 i7 i8 i9 i10 i12 a0 a1 a2 a3 a4 a5 a6 a7 a8 a9 a10 a12 hg ha
    have cr := (blk_at Kr).1
    have zr := (blk_at Kr).2.2
    go_wp2
    refine bodyPost_ret (v := .tuple #[.agg #[.int .i64 (X - S), .int .i64 (Y - S)], .int .i64 0]) (by simp [results, Try.results26, go_sem, cr, zr]) rfl ⟨by rw [HF.out, HG.out], hL⟩
  · refine .cons ?_ (.cons ?_ (.cons ?_ (.cons ?_ (.cons ?_ (.cons ?_ (.cons ?_ (.cons ?_ (.cons ?_ (.cons ?_ (.cons ?_ (.cons ?_ (.cons ?_ .nil))))))))))))
    · unfold SlotStep
      intro g ac wc hn hk hr hI K' hK
      obtain ⟨x4, x2, x0, i0, i1, i2, i3, i4, i5, i6, i7, i8, i9, i10, i12, hL, hS, B3, Rr⟩ := hI
      simp only [Region.binds] at hr
      simp at hr
      replace hK := Lib.hid hK
      replace i0 := Lib.hid i0
      replace i1 := Lib.hid i1
      replace i2 := Lib.hid i2
      replace i3 := Lib.hid i3
      replace i4 := Lib.hid i4
      replace i5 := Lib.hid i5
      replace i6 := Lib.hid i6
      replace i7 := Lib.hid i7
      replace i8 := Lib.hid i8
      replace i9 := Lib.hid i9
      replace i10 := Lib.hid i10
      replace i12 := Lib.hid i12
      go_simp
      exact hK.out _ _ ⟨(keepB x4 (by decide)), (keepB x2 (by decide)), (keepB x0 (by decide)), (fun _ => put_eq (by omega)), (keepF i1.out (by decide)), (keepF i2.out (by decide)), (keepF i3.out (by decide)), (keepF i4.out (by decide)), (keepF i5.out (by decide)), (keepF i6.out (by decide)), (keepF i7.out (by decide)), (keepF i8.out (by decide)), (keepF i9.out (by decide)), (keepF i10.out (by decide)), (keepF i12.out (by decide)), hL, hS, B3, Rr⟩
    · unfold SlotStep
      intro g ac wc hn hk hr hI K' hK
      obtain ⟨x4, x2, x0, i0, i1, i2, i3, i4, i5, i6, i7, i8, i9, i10, i12, hL, hS, B3, Rr⟩ := hI
      simp only [Region.binds] at hr
      simp at hr
      replace hK := Lib.hid hK
      have y0 := i0 (by first | exact hr | exact hr.1 | exact hr.2 | exact hr.2.1 | exact hr.2.2 | exact hr.2.2.1 | exact hr.2.2.2 | simp [hr])
      replace i0 := Lib.hid i0
      replace i1 := Lib.hid i1
      replace i2 := Lib.hid i2
      replace i3 := Lib.hid i3
      replace i4 := Lib.hid i4
      replace i5 := Lib.hid i5
      replace i6 := Lib.hid i6
      replace i7 := Lib.hid i7
      replace i8 := Lib.hid i8
      replace i9 := Lib.hid i9
      replace i10 := Lib.hid i10
      replace i12 := Lib.hid i12
      have hbb := blk_at B3
      have c0 := hbb.1
      have f0 := hbb.2.1
      have z0 := hbb.2.2
      clear hbb
      go_simp
      exact hK.out _ _ ⟨(keepB x4 (by decide)), (keepB x2 (by decide)), (keepB x0 (by decide)), (keepF i0.out (by decide)), (fun _ => put_eq (by omega)), (keepF i2.out (by decide)), (keepF i3.out (by decide)), (keepF i4.out (by decide)), (keepF i5.out (by decide)), (keepF i6.out (by decide)), (keepF i7.out (by decide)), (keepF i8.out (by decide)), (keepF i9.out (by decide)), (keepF i10.out (by decide)), (keepF i12.out (by decide)), hL, hS, B3, Rr⟩
    · unfold SlotStep
      intro g ac wc hn hk hr hI K' hK
      obtain ⟨x4, x2, x0, i0, i1, i2, i3, i4, i5, i6, i7, i8, i9, i10, i12, hL, hS, B3, Rr⟩ := hI
      simp only [Region.binds] at hr
      simp at hr
      replace hK := Lib.hid hK
      replace i0 := Lib.hid i0
      replace i1 := Lib.hid i1
      replace i2 := Lib.hid i2
      replace i3 := Lib.hid i3
      replace i4 := Lib.hid i4
      replace i5 := Lib.hid i5
      replace i6 := Lib.hid i6
      replace i7 := Lib.hid i7
      replace i8 := Lib.hid i8
      replace i9 := Lib.hid i9
      replace i10 := Lib.hid i10
      replace i12 := Lib.hid i12
      go_simp
      exact hK.out _ _ ⟨(keepB x4 (by decide)), (keepB x2 (by decide)), (keepB x0 (by decide)), (keepF i0.out (by decide)), (keepF i1.out (by decide)), (fun _ => put_eq (by omega)), (keepF i3.out (by decide)), (keepF i4.out (by decide)), (keepF i5.out (by decide)), (keepF i6.out (by decide)), (keepF i7.out (by decide)), (keepF i8.out (by decide)), (keepF i9.out (by decide)), (keepF i10.out (by decide)), (keepF i12.out (by decide)), hL, hS, B3, Rr⟩
    · unfold SlotStep
      intro g ac wc hn hk hr hI K' hK
      obtain ⟨x4, x2, x0, i0, i1, i2, i3, i4, i5, i6, i7, i8, i9, i10, i12, hL, hS, B3, Rr⟩ := hI
      simp only [Region.binds] at hr
      simp at hr
      replace hK := Lib.hid hK
      have y2 := i2 (by first | exact hr | exact hr.1 | exact hr.2 | exact hr.2.1 | exact hr.2.2 | exact hr.2.2.1 | exact hr.2.2.2 | simp [hr])
      replace i0 := Lib.hid i0
      replace i1 := Lib.hid i1
      replace i2 := Lib.hid i2
      replace i3 := Lib.hid i3
      replace i4 := Lib.hid i4
      replace i5 := Lib.hid i5
      replace i6 := Lib.hid i6
      replace i7 := Lib.hid i7
      replace i8 := Lib.hid i8
      replace i9 := Lib.hid i9
      replace i10 := Lib.hid i10
      replace i12 := Lib.hid i12
      go_simp
      refine (w_implSumOfTens0 _ _ _ (H.out.later hL) HC.out).mono ?_
      rintro e w4 ⟨rfl, hL4⟩
      rw [HS.out]
      exact hK.out _ _ ⟨(keepB x4 (by decide)), (keepB x2 (by decide)), (keepB x0 (by decide)), (keepF i0.out (by decide)), (keepF i1.out (by decide)), (keepF i2.out (by decide)), (fun _ => put_eq (by omega)), (keepF i4.out (by decide)), (keepF i5.out (by decide)), (keepF i6.out (by decide)), (keepF i7.out (by decide)), (keepF i8.out (by decide)), (keepF i9.out (by decide)), (keepF i10.out (by decide)), (keepF i12.out (by decide)), hL.trans hL4, Nat.le_trans hS hL4.size, hL4.keep B3, (by obtain ⟨r0, r1, R1, R2⟩ := Rr; exact ⟨r0, r1, hL4.keep R1, R2⟩)⟩
    · unfold SlotStep
      intro g ac wc hn hk hr hI K' hK
      obtain ⟨x4, x2, x0, i0, i1, i2, i3, i4, i5, i6, i7, i8, i9, i10, i12, hL, hS, B3, Rr⟩ := hI
      simp only [Region.binds] at hr
      simp at hr
      replace hK := Lib.hid hK
      have y1 := i1 (by first | exact hr | exact hr.1 | exact hr.2 | exact hr.2.1 | exact hr.2.2 | exact hr.2.2.1 | exact hr.2.2.2 | simp [hr])
      have y3 := i3 (by first | exact hr | exact hr.1 | exact hr.2 | exact hr.2.1 | exact hr.2.2 | exact hr.2.2.1 | exact hr.2.2.2 | simp [hr])
      replace i0 := Lib.hid i0
      replace i1 := Lib.hid i1
      replace i2 := Lib.hid i2
      replace i3 := Lib.hid i3
      replace i4 := Lib.hid i4
      replace i5 := Lib.hid i5
      replace i6 := Lib.hid i6
      replace i7 := Lib.hid i7
      replace i8 := Lib.hid i8
      replace i9 := Lib.hid i9
      replace i10 := Lib.hid i10
      replace i12 := Lib.hid i12
      have wD : IntKind.i64.wrap (X - S) = X - S := wrap_same (by omega) (by omega)
      go_simp
      exact hK.out _ _ ⟨(keepB x4 (by decide)), (keepB x2 (by decide)), (keepB x0 (by decide)), (keepF i0.out (by decide)), (keepF i1.out (by decide)), (keepF i2.out (by decide)), (keepF i3.out (by decide)), (fun _ => put_eq (by omega)), (keepF i5.out (by decide)), (keepF i6.out (by decide)), (keepF i7.out (by decide)), (keepF i8.out (by decide)), (keepF i9.out (by decide)), (keepF i10.out (by decide)), (keepF i12.out (by decide)), hL, hS, B3, Rr⟩
    · unfold SlotStep
      intro g ac wc hn hk hr hI K' hK
      obtain ⟨x4, x2, x0, i0, i1, i2, i3, i4, i5, i6, i7, i8, i9, i10, i12, hL, hS, B3, Rr⟩ := hI
      simp only [Region.binds] at hr
      simp at hr
      replace hK := Lib.hid hK
      replace i0 := Lib.hid i0
      replace i1 := Lib.hid i1
      replace i2 := Lib.hid i2
      replace i3 := Lib.hid i3
      replace i4 := Lib.hid i4
      replace i5 := Lib.hid i5
      replace i6 := Lib.hid i6
      replace i7 := Lib.hid i7
      replace i8 := Lib.hid i8
      replace i9 := Lib.hid i9
      replace i10 := Lib.hid i10
      replace i12 := Lib.hid i12
      go_simp
      exact hK.out _ _ ⟨(keepB x4 (by decide)), (keepB x2 (by decide)), (keepB x0 (by decide)), (keepF i0.out (by decide)), (keepF i1.out (by decide)), (keepF i2.out (by decide)), (keepF i3.out (by decide)), (keepF i4.out (by decide)), (fun _ => put_eq (by omega)), (keepF i6.out (by decide)), (keepF i7.out (by decide)), (keepF i8.out (by decide)), (keepF i9.out (by decide)), (keepF i10.out (by decide)), (keepF i12.out (by decide)), hL, hS, B3, Rr⟩
    · unfold SlotStep
      intro g ac wc hn hk hr hI K' hK
      obtain ⟨x4, x2, x0, i0, i1, i2, i3, i4, i5, i6, i7, i8, i9, i10, i12, hL, hS, B3, Rr⟩ := hI
      simp only [Region.binds] at hr
      simp at hr
      replace hK := Lib.hid hK
      have y5 := i5 (by first | exact hr | exact hr.1 | exact hr.2 | exact hr.2.1 | exact hr.2.2 | exact hr.2.2.1 | exact hr.2.2.2 | simp [hr])
      replace i0 := Lib.hid i0
      replace i1 := Lib.hid i1
      replace i2 := Lib.hid i2
      replace i3 := Lib.hid i3
      replace i4 := Lib.hid i4
      replace i5 := Lib.hid i5
      replace i6 := Lib.hid i6
      replace i7 := Lib.hid i7
      replace i8 := Lib.hid i8
      replace i9 := Lib.hid i9
      replace i10 := Lib.hid i10
      replace i12 := Lib.hid i12
      have hbb := blk_at B3
      have c0 := hbb.1
      have f0 := hbb.2.1
      have z0 := hbb.2.2
      clear hbb
      go_simp
      exact hK.out _ _ ⟨(keepB x4 (by decide)), (keepB x2 (by decide)), (keepB x0 (by decide)), (keepF i0.out (by decide)), (keepF i1.out (by decide)), (keepF i2.out (by decide)), (keepF i3.out (by decide)), (keepF i4.out (by decide)), (keepF i5.out (by decide)), (fun _ => put_eq (by omega)), (keepF i7.out (by decide)), (keepF i8.out (by decide)), (keepF i9.out (by decide)), (keepF i10.out (by decide)), (keepF i12.out (by decide)), hL, hS, B3, Rr⟩
    · unfold SlotStep
      intro g ac wc hn hk hr hI K' hK
      obtain ⟨x4, x2, x0, i0, i1, i2, i3, i4, i5, i6, i7, i8, i9, i10, i12, hL, hS, B3, Rr⟩ := hI
      simp only [Region.binds] at hr
      simp at hr
      replace hK := Lib.hid hK
      replace i0 := Lib.hid i0
      replace i1 := Lib.hid i1
      replace i2 := Lib.hid i2
      replace i3 := Lib.hid i3
      replace i4 := Lib.hid i4
      replace i5 := Lib.hid i5
      replace i6 := Lib.hid i6
      replace i7 := Lib.hid i7
      replace i8 := Lib.hid i8
      replace i9 := Lib.hid i9
      replace i10 := Lib.hid i10
      replace i12 := Lib.hid i12
      go_simp
      exact hK.out _ _ ⟨(keepB x4 (by decide)), (keepB x2 (by decide)), (keepB x0 (by decide)), (keepF i0.out (by decide)), (keepF i1.out (by decide)), (keepF i2.out (by decide)), (keepF i3.out (by decide)), (keepF i4.out (by decide)), (keepF i5.out (by decide)), (keepF i6.out (by decide)), (fun _ => put_eq (by omega)), (keepF i8.out (by decide)), (keepF i9.out (by decide)), (keepF i10.out (by decide)), (keepF i12.out (by decide)), hL, hS, B3, Rr⟩
    · unfold SlotStep
      intro g ac wc hn hk hr hI K' hK
      obtain ⟨x4, x2, x0, i0, i1, i2, i3, i4, i5, i6, i7, i8, i9, i10, i12, hL, hS, B3, Rr⟩ := hI
      simp only [Region.binds] at hr
      simp at hr
      replace hK := Lib.hid hK
      have y7 := i7 (by first | exact hr | exact hr.1 | exact hr.2 | exact hr.2.1 | exact hr.2.2 | exact hr.2.2.1 | exact hr.2.2.2 | simp [hr])
      replace i0 := Lib.hid i0
      replace i1 := Lib.hid i1
      replace i2 := Lib.hid i2
      replace i3 := Lib.hid i3
      replace i4 := Lib.hid i4
      replace i5 := Lib.hid i5
      replace i6 := Lib.hid i6
      replace i7 := Lib.hid i7
      replace i8 := Lib.hid i8
      replace i9 := Lib.hid i9
      replace i10 := Lib.hid i10
      replace i12 := Lib.hid i12
      go_simp
      refine (w_implSumOfTens0 _ _ _ (H.out.later hL) HC.out).mono ?_
      rintro e w4 ⟨rfl, hL4⟩
      rw [HS.out]
      exact hK.out _ _ ⟨(keepB x4 (by decide)), (keepB x2 (by decide)), (keepB x0 (by decide)), (keepF i0.out (by decide)), (keepF i1.out (by decide)), (keepF i2.out (by decide)), (keepF i3.out (by decide)), (keepF i4.out (by decide)), (keepF i5.out (by decide)), (keepF i6.out (by decide)), (keepF i7.out (by decide)), (fun _ => put_eq (by omega)), (keepF i9.out (by decide)), (keepF i10.out (by decide)), (keepF i12.out (by decide)), hL.trans hL4, Nat.le_trans hS hL4.size, hL4.keep B3, (by obtain ⟨r0, r1, R1, R2⟩ := Rr; exact ⟨r0, r1, hL4.keep R1, R2⟩)⟩
    · unfold SlotStep
      intro g ac wc hn hk hr hI K' hK
      obtain ⟨x4, x2, x0, i0, i1, i2, i3, i4, i5, i6, i7, i8, i9, i10, i12, hL, hS, B3, Rr⟩ := hI
      simp only [Region.binds] at hr
      simp at hr
      replace hK := Lib.hid hK
      have y6 := i6 (by first | exact hr | exact hr.1 | exact hr.2 | exact hr.2.1 | exact hr.2.2 | exact hr.2.2.1 | exact hr.2.2.2 | simp [hr])
      have y8 := i8 (by first | exact hr | exact hr.1 | exact hr.2 | exact hr.2.1 | exact hr.2.2 | exact hr.2.2.1 | exact hr.2.2.2 | simp [hr])
      replace i0 := Lib.hid i0
      replace i1 := Lib.hid i1
      replace i2 := Lib.hid i2
      replace i3 := Lib.hid i3
      replace i4 := Lib.hid i4
      replace i5 := Lib.hid i5
      replace i6 := Lib.hid i6
      replace i7 := Lib.hid i7
      replace i8 := Lib.hid i8
      replace i9 := Lib.hid i9
      replace i10 := Lib.hid i10
      replace i12 := Lib.hid i12
      have wD : IntKind.i64.wrap (Y - S) = Y - S := wrap_same (by omega) (by omega)
      go_simp
      exact hK.out _ _ ⟨(keepB x4 (by decide)), (keepB x2 (by decide)), (keepB x0 (by decide)), (keepF i0.out (by decide)), (keepF i1.out (by decide)), (keepF i2.out (by decide)), (keepF i3.out (by decide)), (keepF i4.out (by decide)), (keepF i5.out (by decide)), (keepF i6.out (by decide)), (keepF i7.out (by decide)), (keepF i8.out (by decide)), (fun _ => put_eq (by omega)), (keepF i10.out (by decide)), (keepF i12.out (by decide)), hL, hS, B3, Rr⟩
    · unfold SlotStep
      intro g ac wc hn hk hr hI K' hK
      obtain ⟨x4, x2, x0, i0, i1, i2, i3, i4, i5, i6, i7, i8, i9, i10, i12, hL, hS, B3, Rr⟩ := hI
      simp only [Region.binds] at hr
      simp at hr
      replace hK := Lib.hid hK
      have y4 := i4 (by first | exact hr | exact hr.1 | exact hr.2 | exact hr.2.1 | exact hr.2.2 | exact hr.2.2.1 | exact hr.2.2.2 | simp [hr])
      have y9 := i9 (by first | exact hr | exact hr.1 | exact hr.2 | exact hr.2.1 | exact hr.2.2 | exact hr.2.2.1 | exact hr.2.2.2 | simp [hr])
      have z4 := sl_get y4 (by omega)
      have z9 := sl_get y9 (by omega)
      replace i0 := Lib.hid i0
      replace i1 := Lib.hid i1
      replace i2 := Lib.hid i2
      replace i3 := Lib.hid i3
      replace i4 := Lib.hid i4
      replace i5 := Lib.hid i5
      replace i6 := Lib.hid i6
      replace i7 := Lib.hid i7
      replace i8 := Lib.hid i8
      replace i9 := Lib.hid i9
      replace i10 := Lib.hid i10
      replace i12 := Lib.hid i12
      go_simp
      exact hK.out _ _ ⟨(keepB x4 (by decide)), (keepB x2 (by decide)), (keepB x0 (by decide)), (keepF i0.out (by decide)), (keepF i1.out (by decide)), (keepF i2.out (by decide)), (keepF i3.out (by decide)), (keepF i4.out (by decide)), (keepF i5.out (by decide)), (keepF i6.out (by decide)), (keepF i7.out (by decide)), (keepF i8.out (by decide)), (keepF i9.out (by decide)), (fun _ => put_eq (by omega)), (keepF i12.out (by decide)), hL, hS, B3, Rr⟩
    · unfold SlotStep
      intro g ac wc hn hk hr hI K' hK
      obtain ⟨x4, x2, x0, i0, i1, i2, i3, i4, i5, i6, i7, i8, i9, i10, i12, hL, hS, B3, Rr⟩ := hI
      simp only [Region.binds] at hr
      simp at hr
      replace hK := Lib.hid hK
      have y10 := i10 (by first | exact hr | exact hr.1 | exact hr.2 | exact hr.2.1 | exact hr.2.2 | exact hr.2.2.1 | exact hr.2.2.2 | simp [hr])
      replace i0 := Lib.hid i0
      replace i1 := Lib.hid i1
      replace i2 := Lib.hid i2
      replace i3 := Lib.hid i3
      replace i4 := Lib.hid i4
      replace i5 := Lib.hid i5
      replace i6 := Lib.hid i6
      replace i7 := Lib.hid i7
      replace i8 := Lib.hid i8
      replace i9 := Lib.hid i9
      replace i10 := Lib.hid i10
      replace i12 := Lib.hid i12
      obtain ⟨r0, r1, R1, -⟩ := Rr
      have c0 := (blk_at R1).1
      have f0 := (blk_at R1).2.1
      have z0 := (blk_at R1).2.2
      go_simp
      exact hK.out undef _ ⟨x4, x2, x0, i0.out, i1.out, i2.out, i3.out, i4.out, i5.out, i6.out, i7.out, i8.out, i9.out, i10.out, i12.out, ((hL.setCell hRB _).setCell hRB _), (by simp; omega), (other_set (other_set B3 (by omega) _) (by omega) _), ⟨_, _, two_set R1 _ _, fun _ => ⟨rfl, rfl⟩⟩⟩
    · unfold SlotStep
      intro g ac wc hn hk hr hI K' hK
      obtain ⟨x4, x2, x0, i0, i1, i2, i3, i4, i5, i6, i7, i8, i9, i10, i12, hL, hS, B3, Rr⟩ := hI
      simp only [Region.binds] at hr
      simp at hr
      replace hK := Lib.hid hK
      replace i0 := Lib.hid i0
      replace i1 := Lib.hid i1
      replace i2 := Lib.hid i2
      replace i3 := Lib.hid i3
      replace i4 := Lib.hid i4
      replace i5 := Lib.hid i5
      replace i6 := Lib.hid i6
      replace i7 := Lib.hid i7
      replace i8 := Lib.hid i8
      replace i9 := Lib.hid i9
      replace i10 := Lib.hid i10
      replace i12 := Lib.hid i12
      go_simp
      exact hK.out _ _ ⟨(keepB x4 (by decide)), (keepB x2 (by decide)), (keepB x0 (by decide)), (keepF i0.out (by decide)), (keepF i1.out (by decide)), (keepF i2.out (by decide)), (keepF i3.out (by decide)), (keepF i4.out (by decide)), (keepF i5.out (by decide)), (keepF i6.out (by decide)), (keepF i7.out (by decide)), (keepF i8.out (by decide)), (keepF i9.out (by decide)), (keepF i10.out (by decide)), (fun _ => put_eq (by omega)), hL, hS, B3, Rr⟩

end Go.Proofs.Ytkoojngonldcbaa
