/- DERIVED. Walks: the figure of a chain, the reference's. -/
import Derived.Test.YtkoojngonldcbaaM23
namespace Go.Proofs.Ytkoojngonldcbaa
set_option linter.unusedVariables false
set_option linter.unusedSimpArgs false
open Go.RowKit
set_option maxRecDepth 100000

set_option maxHeartbeats 4000000 in
theorem w_specChainFigure (v : Value) (l : List Trm) (w : World) (h : IsTrms w v l) :
    Calls Try.prog 45 #[v] w fun e w' => e = .returned (.tuple #[.agg #[.int .i64 (chainFig l).d, .int .i64 (chainFig l).t], .int .i64 (chainFigC l)]) ∧ Later w w' := by
  cases hc : isChain l
  · have HC := Lib.hid hc
    have HF := Lib.hid (show chainFig l = ⟨0, 0⟩ from by simp [chainFig, hc])
    have HG := Lib.hid (show chainFigC l = 1 from by simp [chainFigC, hc])
    clear hc
    go_enter Try.func45, Try.ntmps45
    go_wp2_with fail
    refine (w_specIsChain _ _ _ (h.later ((Later.refl _).alloc _))).mono ?_
    rintro e w1 ⟨rfl, hL⟩
    rw [HC.out]
    obtain ⟨c0, f0, z0⟩ := blk1 hL
    go_wp2
    refine bodyPost_ret (v := .tuple #[.agg #[.int .i64 0, .int .i64 0], .int .i64 1]) (by simp [results, Try.results45, go_sem, c0, z0]) rfl ⟨by rw [HF.out, HG.out], by (repeat (with_reducible first | exact Later.refl _ | refine Later.alloc ?_ _ | refine Later.drew ?_ | refine Later.drewN ?_ _ | refine Later.setCell ?_ (by simp; try omega) _ | refine Later.trans ?_ (by assumption)))⟩
  have h6 := (isChain_true hc).2.1
  have h1 := (isChain_true hc).1
  have HF := Lib.hid (show chainFig l = optF (chainFig0 l) from by simp [chainFig, hc])
  have HG := Lib.hid (show chainFigC l = optC (chainFig0 l) from by simp [chainFigC, hc])
  have H := Lib.hid h
  obtain ⟨hxl1, hn1, a1, cap1, rfl, hcap1, hmax1, hrow1⟩ := h
  have HR1 := Lib.hid hrow1
  clear hrow1 hxl1
  have hL0 := Later.refl w
  obtain ⟨b1, off1, rfl, hr1⟩ := HR1.out (by omega)
  obtain ⟨t, ht⟩ := get_ex (l := l) (k := 0) (by omega)
  have HT := Lib.hid ht
  have hok : isFig t.f = true := (isChain_true hc).2.2.2 t (List.mem_of_getElem? ht)
  have HK := Lib.hid hok
  have H0 := Lib.hid (show chainFig0 l = figFold t.f (l.drop 1) from by rw [chainFig0, headF_of ht])
  have HC := Lib.hid hc
  clear hc ht hok
  go_enter Try.func45, Try.ntmps45
  go_wp2_with fail
  refine (w_specIsChain _ _ _ (H.out.later ((Later.refl _).alloc _))).mono ?_
  rintro e w1 ⟨rfl, hL⟩
  rw [HC.out]
  have hL1 := ((Later.refl w).alloc (.cells #[.int .i64 0, .int .i64 0] 41)).trans hL
  obtain ⟨c1, c2, c3⟩ := (hr1.later hL1).trm HT.out
  simp only [Nat.zero_mul, Nat.add_zero] at c1 c2 c3
  have hK0 := Lib.hid (kept1 hL)
  have hlt1 := hL.size
  simp only [World.size_alloc] at hlt1
  go_wp2
  clear c1 c2 c3
  go_loopw [5] (fun i wr => ∃ k : Nat, 1 ≤ k ∧ k ≤ l.length ∧ i = .int .i64 k ∧ Later w wr ∧ w1.heap.size < wr.heap.size ∧ wr.heap[w.heap.size]? = some (.cells #[.int .i64 0, .int .i64 0] 41 (0, 0)) ∧ ∃ A : Fig, wr.heap[w1.heap.size]? = some (.cells #[.int .i64 A.d, .int .i64 A.t] 41 (0, 0)) ∧ Hid (figFold A (l.drop k) = chainFig0 l ∧ isFig A = true)) (fun i _ => l.length - (intOf i).toNat)
  case atStart => exact ⟨1, by omega, by omega, rfl, hL1.alloc _, by simp, heap_alloc_old _ _ hK0.out, t.f, heap_alloc_new _ _, ⟨H0.out.symm, HK.out⟩⟩
  case round =>
    obtain ⟨k, hk1, hk, rfl, hL2, hsz, hres, A, hA, HA⟩ := hrel
    have HRes := Lib.hid hres
    have HAb := Lib.hid hA
    have hne : ¬ w.heap.size = w1.heap.size := by omega
    have hne2 : ¬ w1.heap.size = w.heap.size := by omega
    by_cases hlt : k < l.length
    · clear hres hA
      obtain ⟨t', ht'⟩ := get_ex (l := l) (k := k) (by omega)
      have HT2 := Lib.hid ht'
      have HK2 := Lib.hid (show isFig t'.f = true from (isChain_true HC.out).2.2.2 t' (List.mem_of_getElem? ht'))
      have HD := Lib.hid (show l.drop k = t' :: l.drop (k + 1) from drop_get ht')
      obtain ⟨MR, hMR⟩ : ∃ R, mulR A t'.f = R := ⟨_, rfl⟩
      obtain ⟨MC, hMC⟩ : ∃ R, mulC A t'.f = R := ⟨_, rfl⟩
      obtain ⟨DR, hDR⟩ : ∃ R, divR A t'.f = R := ⟨_, rfl⟩
      obtain ⟨DC, hDC⟩ : ∃ R, divC A t'.f = R := ⟨_, rfl⟩
      have HMR := Lib.hid hMR
      have HMC := Lib.hid hMC
      have HDR := Lib.hid hDR
      have HDC := Lib.hid hDC
      clear ht' hMR hMC hDR hDC
      go_wp2_with fail
      refine region_slots 53 [23, 24, 25, 26, 27, 28, 29, 22, 30, 31, 6, 7] (fun g ac wc => sl ac 4 = .pointer (some ⟨w1.heap.size, 0, none⟩) ∧
        sl ac 0 = .slice (some ⟨b1, off1, none⟩) l.length cap1 ∧
        sl ac 5 = .int .i64 k ∧
        (g 0 = true → sl ac 23 = .agg #[.int .i64 A.d, .int .i64 A.t]) ∧
        (g 1 = true → sl ac 24 = .slice (some ⟨b1, off1, none⟩) l.length cap1) ∧
        (g 2 = true → sl ac 25 = .int .i64 k) ∧
        (g 3 = true → sl ac 26 = .pointer (some ⟨b1, off1 + k * 3, none⟩)) ∧
        (g 4 = true → sl ac 27 = .pointer (some ⟨b1, off1 + k * 3, none⟩)) ∧
        (g 5 = true → sl ac 28 = .agg #[.int .i64 t'.f.d, .int .i64 t'.f.t]) ∧
        (g 6 = true → sl ac 29 = .tuple #[.agg #[.int .i64 MR.d, .int .i64 MR.t], .int .i64 MC]) ∧
        (g 7 = true → sl ac 22 = .tuple #[.agg #[.int .i64 MR.d, .int .i64 MR.t], .int .i64 MC]) ∧
        (g 8 = true → sl ac 30 = .agg #[.int .i64 MR.d, .int .i64 MR.t]) ∧
        (g 9 = true → sl ac 31 = .int .i64 MC) ∧
        (g 12 = true → sl ac 7 = .int .i64 MC) ∧
        Later wr wc ∧
        (g 10 = true → ∃ k, sl ac 6 = .pointer (some ⟨k, 0, none⟩) ∧ wr.heap.size ≤ k ∧ ∃ p10_0 p10_1, wc.heap[k]? = some (.cells #[p10_0, p10_1] 41 (0, 0)) ∧ (g 11 = true → p10_0 = .int .i64 MR.d ∧ p10_1 = .int .i64 MR.t)) ∧
        (g 11 = true → g 10 = true) ∧
        wr.heap.size ≤ wc.heap.size) (by kernel_rfl) (by kernel_rfl) rfl (by kernel_rfl) ?_ ?_ ?_
      · exact ⟨rfl, rfl, rfl, nofun, nofun, nofun, nofun, nofun, nofun, nofun, nofun, nofun, nofun, nofun, (Later.refl _).drew, nofun, nofun, Nat.le_refl _⟩
      · intro g ac ur hg ha hI
        obtain ⟨x4, x0, x5, i0, i1, i2, i3, i4, i5, i6, i7, i8, i9, i12, hL, i10, -, hS⟩ := hI
        obtain ⟨kr10, e10, br10, p10_0, p10_1, Kr10, g10⟩ := i10 (hg 10 (by simp))
        have g10 := g10 (hg 11 (by simp))
        rw [g10.1, g10.2] at Kr10
        have a0 := i0 (hg 0 (by simp))
        have a1 := i1 (hg 1 (by simp))
        have a2 := i2 (hg 2 (by simp))
        have a3 := i3 (hg 3 (by simp))
        have a4 := i4 (hg 4 (by simp))
        have a5 := i5 (hg 5 (by simp))
        have a6 := i6 (hg 6 (by simp))
        have a7 := i7 (hg 7 (by simp))
        have a8 := i8 (hg 8 (by simp))
        have a9 := i9 (hg 9 (by simp))
        have a12 := i12 (hg 12 (by simp))
        simp only [putAll, a0, a1, a2, a3, a4, a5, a6, a7, a8, a9, a12, e10] at ha
        simp only [Act.put, List.setIfInBounds_toArray, List.set_cons_succ, List.set_cons_zero] at ha
        rw [ha]
        clear x4 x0 x5 i0 i1 i2 i3 i4 i5 i6 i7 i8 i9 i12 i10 a0 a1 a2 a3 a4 a5 a6 a7 a8 a9 a12 e10 g10 hg ha
        have ci := (hr1.later (hL2.trans hL)).trm HT2.out
        have ci3 := ci.2.2
        have ci1 := ci.1
        clear ci ci1
        have zr1 := (hr1.later (hL2.trans hL)).1
        cases hq : t'.dv
        · rw [hq] at ci3
          have HQ := Lib.hid hq
          have hop := op_cases false HA.out.2 HK2.out
          simp only [opC, opR, Bool.false_eq_true, if_false] at hop
          rw [HMR.out, HMC.out] at hop
          have HO3 := Lib.hid (show opC false A t'.f = MC from HMC.out)
          clear hq
          have hNx := Lib.hid Kr10
          have hA2 := Lib.hid (hL.keep HAb.out)
          have hR2 := Lib.hid (hL.keep HRes.out)
          have hLL := hL2.trans hL
          have hsz2 := hL.size
          have cn := (blk_at hNx.out).1
          have fn := (blk_at hNx.out).2.1
          have zn := (blk_at hNx.out).2.2
          have ca := (blk_at hA2.out).1
          have fa := (blk_at hA2.out).2.1
          have za := (blk_at hA2.out).2.2
          have cr := (blk_at hR2.out).1
          have fr := (blk_at hR2.out).2.1
          have zr := (blk_at hR2.out).2.2
          clear Kr10 hL hS
          rcases hop with ⟨o1, o2⟩ | ⟨o1, o2⟩
          · have HO1 := Lib.hid o1
            have HO2 := Lib.hid o2
            have ob : (MC != 0) = false := by simp [o1]
            clear o1 o2
            go_wp2
            go_roundw
            case rel => exact ⟨k + 1, by omega, by omega, by go_num, by (repeat (with_reducible first | exact Later.refl _ | refine Later.alloc ?_ _ | refine Later.drew ?_ | refine Later.drewN ?_ _ | refine Later.setCell ?_ (by simp; try omega) _ | refine Later.trans ?_ (by assumption))), by simp; omega, other_set (other_set hR2.out (by omega) _) (by omega) _, MR, two_set hA2.out _ _, by rw [← HA.out.1, HD.out, figFold_go (by rw [HQ.out]; exact HO3.out.trans HO1.out), HQ.out]; exact congrArg (fun x => figFold x _) HMR.out.symm, HO2.out⟩
            case measure => simp [intOf]; omega
          · have HO1 := Lib.hid o1
            have ob : (MC != 0) = true := by simp [o1]
            have HE := Lib.hid (show chainFig0 l = none from by rw [← HA.out.1, HD.out, figFold_stop (by rw [HQ.out]; exact HO3.out.trans HO1.out)])
            clear o1 o2
            go_wp2
            refine bodyPost_ret (v := .tuple #[.agg #[.int .i64 0, .int .i64 0], .int .i64 MC]) (by simp [results, Try.results45, go_sem, cr, zr]) rfl ⟨by rw [HF.out, HG.out, HE.out, HO1.out]; rfl, by (repeat (with_reducible first | exact Later.refl _ | refine Later.alloc ?_ _ | refine Later.drew ?_ | refine Later.drewN ?_ _ | refine Later.setCell ?_ (by simp; try omega) _ | refine Later.trans ?_ (by assumption)))⟩
        · rw [hq] at ci3
          have HQ := Lib.hid hq
          have hop := op_cases true HA.out.2 HK2.out
          simp only [opC, opR, if_true] at hop
          rw [HDR.out, HDC.out] at hop
          have HO3 := Lib.hid (show opC true A t'.f = DC from HDC.out)
          have Kr := Kr10
          have hRB : wr.heap.size ≤ kr10 := br10
          have hSB := hL.size
          have hLr := hL
          clear hq Kr10 hL
          go_wp2_with fail
          refine region_slots 53 [38, 39, 40, 41, 42, 43, 44, 37, 45, 46, 7] (fun g ac wc => sl ac 4 = .pointer (some ⟨w1.heap.size, 0, none⟩) ∧
            sl ac 0 = .slice (some ⟨b1, off1, none⟩) l.length cap1 ∧
            sl ac 5 = .int .i64 k ∧
            sl ac 6 = .pointer (some ⟨kr10, 0, none⟩) ∧
            (g 0 = true → sl ac 38 = .agg #[.int .i64 A.d, .int .i64 A.t]) ∧
            (g 1 = true → sl ac 39 = .slice (some ⟨b1, off1, none⟩) l.length cap1) ∧
            (g 2 = true → sl ac 40 = .int .i64 k) ∧
            (g 3 = true → sl ac 41 = .pointer (some ⟨b1, off1 + k * 3, none⟩)) ∧
            (g 4 = true → sl ac 42 = .pointer (some ⟨b1, off1 + k * 3, none⟩)) ∧
            (g 5 = true → sl ac 43 = .agg #[.int .i64 t'.f.d, .int .i64 t'.f.t]) ∧
            (g 6 = true → sl ac 44 = .tuple #[.agg #[.int .i64 DR.d, .int .i64 DR.t], .int .i64 DC]) ∧
            (g 7 = true → sl ac 37 = .tuple #[.agg #[.int .i64 DR.d, .int .i64 DR.t], .int .i64 DC]) ∧
            (g 8 = true → sl ac 45 = .agg #[.int .i64 DR.d, .int .i64 DR.t]) ∧
            (g 9 = true → sl ac 46 = .int .i64 DC) ∧
            (g 11 = true → sl ac 7 = .int .i64 DC) ∧
            Later wr wc ∧
            ur.heap.size ≤ wc.heap.size ∧
            (∃ r0 r1, wc.heap[kr10]? = some (.cells #[r0, r1] 41 (0, 0)) ∧ (g 10 = true → r0 = .int .i64 DR.d ∧ r1 = .int .i64 DR.t))) (by kernel_rfl) (by kernel_rfl) rfl (by kernel_rfl) ?_ ?_ ?_
          · exact ⟨rfl, rfl, rfl, rfl, nofun, nofun, nofun, nofun, nofun, nofun, nofun, nofun, nofun, nofun, nofun, hLr.drew, Nat.le_refl _, ⟨_, _, Kr, nofun⟩⟩
          · intro g ac us hg ha hI
            obtain ⟨x4, x0, x5, x6, i0, i1, i2, i3, i4, i5, i6, i7, i8, i9, i11, hL, hS, Rr⟩ := hI
            have a0 := i0 (hg 0 (by simp))
            have a1 := i1 (hg 1 (by simp))
            have a2 := i2 (hg 2 (by simp))
            have a3 := i3 (hg 3 (by simp))
            have a4 := i4 (hg 4 (by simp))
            have a5 := i5 (hg 5 (by simp))
            have a6 := i6 (hg 6 (by simp))
            have a7 := i7 (hg 7 (by simp))
            have a8 := i8 (hg 8 (by simp))
            have a9 := i9 (hg 9 (by simp))
            have a11 := i11 (hg 11 (by simp))
            obtain ⟨r0, r1, Kr, gr⟩ := Rr
            have gr := gr (hg 10 (by simp))
            rw [gr.1, gr.2] at Kr
            clear gr
            simp only [putAll, a0, a1, a2, a3, a4, a5, a6, a7, a8, a9, a11] at ha
            simp only [Act.put, List.setIfInBounds_toArray, List.set_cons_succ, List.set_cons_zero] at ha
            rw [ha]
            clear x4 x0 x5 x6 i0 i1 i2 i3 i4 i5 i6 i7 i8 i9 i11 a0 a1 a2 a3 a4 a5 a6 a7 a8 a9 a11 hg ha
            have hNx := Lib.hid Kr
            have hA2 := Lib.hid (hL.keep HAb.out)
            have hR2 := Lib.hid (hL.keep HRes.out)
            have hLL := hL2.trans hL
            have hsz2 := hL.size
            have cn := (blk_at hNx.out).1
            have fn := (blk_at hNx.out).2.1
            have zn := (blk_at hNx.out).2.2
            have ca := (blk_at hA2.out).1
            have fa := (blk_at hA2.out).2.1
            have za := (blk_at hA2.out).2.2
            have cr := (blk_at hR2.out).1
            have fr := (blk_at hR2.out).2.1
            have zr := (blk_at hR2.out).2.2
            clear Kr hL hS
            rcases hop with ⟨o1, o2⟩ | ⟨o1, o2⟩
            · have HO1 := Lib.hid o1
              have HO2 := Lib.hid o2
              have ob : (DC != 0) = false := by simp [o1]
              clear o1 o2
              go_wp2
              go_roundw
              case rel => exact ⟨k + 1, by omega, by omega, by go_num, by (repeat (with_reducible first | exact Later.refl _ | refine Later.alloc ?_ _ | refine Later.drew ?_ | refine Later.drewN ?_ _ | refine Later.setCell ?_ (by simp; try omega) _ | refine Later.trans ?_ (by assumption))), by simp; omega, other_set (other_set hR2.out (by omega) _) (by omega) _, DR, two_set hA2.out _ _, by rw [← HA.out.1, HD.out, figFold_go (by rw [HQ.out]; exact HO3.out.trans HO1.out), HQ.out]; exact congrArg (fun x => figFold x _) HDR.out.symm, HO2.out⟩
              case measure => simp [intOf]; omega
            · have HO1 := Lib.hid o1
              have ob : (DC != 0) = true := by simp [o1]
              have HE := Lib.hid (show chainFig0 l = none from by rw [← HA.out.1, HD.out, figFold_stop (by rw [HQ.out]; exact HO3.out.trans HO1.out)])
              clear o1 o2
              go_wp2
              refine bodyPost_ret (v := .tuple #[.agg #[.int .i64 0, .int .i64 0], .int .i64 DC]) (by simp [results, Try.results45, go_sem, cr, zr]) rfl ⟨by rw [HF.out, HG.out, HE.out, HO1.out]; rfl, by (repeat (with_reducible first | exact Later.refl _ | refine Later.alloc ?_ _ | refine Later.drew ?_ | refine Later.drewN ?_ _ | refine Later.setCell ?_ (by simp; try omega) _ | refine Later.trans ?_ (by assumption)))⟩
          · refine .cons ?_ (.cons ?_ (.cons ?_ (.cons ?_ (.cons ?_ (.cons ?_ (.cons ?_ (.cons ?_ (.cons ?_ (.cons ?_ (.cons ?_ (.cons ?_ .nil)))))))))))
            · unfold SlotStep
              intro g ac wc hn hk hr hI K' hK
              obtain ⟨x4, x0, x5, x6, i0, i1, i2, i3, i4, i5, i6, i7, i8, i9, i11, hL, hS, Rr⟩ := hI
              simp only [Region.binds] at hr
              simp at hr
              replace hK := Lib.hid hK
              replace i0 := Lib.hid i0
              replace i1 := Lib.hid i1
              replace i2 := Lib.hid i2
              replace i3 := Lib.hid i3
              replace i4 := Lib.hid i4
              replace i5 := Lib.hid i5
              replace i6 := Lib.hid i6
              replace i7 := Lib.hid i7
              replace i8 := Lib.hid i8
              replace i9 := Lib.hid i9
              replace i11 := Lib.hid i11
              have cA := (blk_at (hL.keep HAb.out)).1
              have fA := (blk_at (hL.keep HAb.out)).2.1
              have zA := (blk_at (hL.keep HAb.out)).2.2
              go_simp
              exact hK.out _ _ ⟨(keepB x4 (by decide)), (keepB x0 (by decide)), (keepB x5 (by decide)), (keepB x6 (by decide)), (fun _ => put_eq (by omega)), (keepF i1.out (by decide)), (keepF i2.out (by decide)), (keepF i3.out (by decide)), (keepF i4.out (by decide)), (keepF i5.out (by decide)), (keepF i6.out (by decide)), (keepF i7.out (by decide)), (keepF i8.out (by decide)), (keepF i9.out (by decide)), (keepF i11.out (by decide)), hL, hS, Rr⟩
            · unfold SlotStep
              intro g ac wc hn hk hr hI K' hK
              obtain ⟨x4, x0, x5, x6, i0, i1, i2, i3, i4, i5, i6, i7, i8, i9, i11, hL, hS, Rr⟩ := hI
              simp only [Region.binds] at hr
              simp at hr
              replace hK := Lib.hid hK
              replace i0 := Lib.hid i0
              replace i1 := Lib.hid i1
              replace i2 := Lib.hid i2
              replace i3 := Lib.hid i3
              replace i4 := Lib.hid i4
              replace i5 := Lib.hid i5
              replace i6 := Lib.hid i6
              replace i7 := Lib.hid i7
              replace i8 := Lib.hid i8
              replace i9 := Lib.hid i9
              replace i11 := Lib.hid i11
              go_simp
              exact hK.out _ _ ⟨(keepB x4 (by decide)), (keepB x0 (by decide)), (keepB x5 (by decide)), (keepB x6 (by decide)), (keepF i0.out (by decide)), (fun _ => put_eq (by omega)), (keepF i2.out (by decide)), (keepF i3.out (by decide)), (keepF i4.out (by decide)), (keepF i5.out (by decide)), (keepF i6.out (by decide)), (keepF i7.out (by decide)), (keepF i8.out (by decide)), (keepF i9.out (by decide)), (keepF i11.out (by decide)), hL, hS, Rr⟩
            · unfold SlotStep
              intro g ac wc hn hk hr hI K' hK
              obtain ⟨x4, x0, x5, x6, i0, i1, i2, i3, i4, i5, i6, i7, i8, i9, i11, hL, hS, Rr⟩ := hI
              simp only [Region.binds] at hr
              simp at hr
              replace hK := Lib.hid hK
              replace i0 := Lib.hid i0
              replace i1 := Lib.hid i1
              replace i2 := Lib.hid i2
              replace i3 := Lib.hid i3
              replace i4 := Lib.hid i4
              replace i5 := Lib.hid i5
              replace i6 := Lib.hid i6
              replace i7 := Lib.hid i7
              replace i8 := Lib.hid i8
              replace i9 := Lib.hid i9
              replace i11 := Lib.hid i11
              go_simp
              exact hK.out _ _ ⟨(keepB x4 (by decide)), (keepB x0 (by decide)), (keepB x5 (by decide)), (keepB x6 (by decide)), (keepF i0.out (by decide)), (keepF i1.out (by decide)), (fun _ => put_eq (by omega)), (keepF i3.out (by decide)), (keepF i4.out (by decide)), (keepF i5.out (by decide)), (keepF i6.out (by decide)), (keepF i7.out (by decide)), (keepF i8.out (by decide)), (keepF i9.out (by decide)), (keepF i11.out (by decide)), hL, hS, Rr⟩
            · unfold SlotStep
              intro g ac wc hn hk hr hI K' hK
              obtain ⟨x4, x0, x5, x6, i0, i1, i2, i3, i4, i5, i6, i7, i8, i9, i11, hL, hS, Rr⟩ := hI
              simp only [Region.binds] at hr
              simp at hr
              replace hK := Lib.hid hK
              have y1 := i1 (by first | exact hr | exact hr.1 | exact hr.2 | exact hr.2.1 | exact hr.2.2 | exact hr.2.2.1 | exact hr.2.2.2 | simp [hr])
              have y2 := i2 (by first | exact hr | exact hr.1 | exact hr.2 | exact hr.2.1 | exact hr.2.2 | exact hr.2.2.1 | exact hr.2.2.2 | simp [hr])
              replace i0 := Lib.hid i0
              replace i1 := Lib.hid i1
              replace i2 := Lib.hid i2
              replace i3 := Lib.hid i3
              replace i4 := Lib.hid i4
              replace i5 := Lib.hid i5
              replace i6 := Lib.hid i6
              replace i7 := Lib.hid i7
              replace i8 := Lib.hid i8
              replace i9 := Lib.hid i9
              replace i11 := Lib.hid i11
              go_simp
              exact hK.out _ _ ⟨(keepB x4 (by decide)), (keepB x0 (by decide)), (keepB x5 (by decide)), (keepB x6 (by decide)), (keepF i0.out (by decide)), (keepF i1.out (by decide)), (keepF i2.out (by decide)), (fun _ => put_eq (by omega)), (keepF i4.out (by decide)), (keepF i5.out (by decide)), (keepF i6.out (by decide)), (keepF i7.out (by decide)), (keepF i8.out (by decide)), (keepF i9.out (by decide)), (keepF i11.out (by decide)), hL, hS, Rr⟩
            · unfold SlotStep
              intro g ac wc hn hk hr hI K' hK
              obtain ⟨x4, x0, x5, x6, i0, i1, i2, i3, i4, i5, i6, i7, i8, i9, i11, hL, hS, Rr⟩ := hI
              simp only [Region.binds] at hr
              simp at hr
              replace hK := Lib.hid hK
              have y3 := i3 (by first | exact hr | exact hr.1 | exact hr.2 | exact hr.2.1 | exact hr.2.2 | exact hr.2.2.1 | exact hr.2.2.2 | simp [hr])
              replace i0 := Lib.hid i0
              replace i1 := Lib.hid i1
              replace i2 := Lib.hid i2
              replace i3 := Lib.hid i3
              replace i4 := Lib.hid i4
              replace i5 := Lib.hid i5
              replace i6 := Lib.hid i6
              replace i7 := Lib.hid i7
              replace i8 := Lib.hid i8
              replace i9 := Lib.hid i9
              replace i11 := Lib.hid i11
              go_simp
              exact hK.out _ _ ⟨(keepB x4 (by decide)), (keepB x0 (by decide)), (keepB x5 (by decide)), (keepB x6 (by decide)), (keepF i0.out (by decide)), (keepF i1.out (by decide)), (keepF i2.out (by decide)), (keepF i3.out (by decide)), (fun _ => put_eq (by omega)), (keepF i5.out (by decide)), (keepF i6.out (by decide)), (keepF i7.out (by decide)), (keepF i8.out (by decide)), (keepF i9.out (by decide)), (keepF i11.out (by decide)), hL, hS, Rr⟩
            · unfold SlotStep
              intro g ac wc hn hk hr hI K' hK
              obtain ⟨x4, x0, x5, x6, i0, i1, i2, i3, i4, i5, i6, i7, i8, i9, i11, hL, hS, Rr⟩ := hI
              simp only [Region.binds] at hr
              simp at hr
              replace hK := Lib.hid hK
              have y4 := i4 (by first | exact hr | exact hr.1 | exact hr.2 | exact hr.2.1 | exact hr.2.2 | exact hr.2.2.1 | exact hr.2.2.2 | simp [hr])
              replace i0 := Lib.hid i0
              replace i1 := Lib.hid i1
              replace i2 := Lib.hid i2
              replace i3 := Lib.hid i3
              replace i4 := Lib.hid i4
              replace i5 := Lib.hid i5
              replace i6 := Lib.hid i6
              replace i7 := Lib.hid i7
              replace i8 := Lib.hid i8
              replace i9 := Lib.hid i9
              replace i11 := Lib.hid i11
              obtain ⟨r1, r2, r3⟩ := (hr1.later (hL2.trans hL)).trm HT2.out
              have zr1 := (hr1.later (hL2.trans hL)).1
              go_simp
              exact hK.out _ _ ⟨(keepB x4 (by decide)), (keepB x0 (by decide)), (keepB x5 (by decide)), (keepB x6 (by decide)), (keepF i0.out (by decide)), (keepF i1.out (by decide)), (keepF i2.out (by decide)), (keepF i3.out (by decide)), (keepF i4.out (by decide)), (fun _ => put_eq (by omega)), (keepF i6.out (by decide)), (keepF i7.out (by decide)), (keepF i8.out (by decide)), (keepF i9.out (by decide)), (keepF i11.out (by decide)), hL, hS, Rr⟩
            · unfold SlotStep
              intro g ac wc hn hk hr hI K' hK
              obtain ⟨x4, x0, x5, x6, i0, i1, i2, i3, i4, i5, i6, i7, i8, i9, i11, hL, hS, Rr⟩ := hI
              simp only [Region.binds] at hr
              simp at hr
              replace hK := Lib.hid hK
              have y0 := i0 (by first | exact hr | exact hr.1 | exact hr.2 | exact hr.2.1 | exact hr.2.2 | exact hr.2.2.1 | exact hr.2.2.2 | simp [hr])
              have y5 := i5 (by first | exact hr | exact hr.1 | exact hr.2 | exact hr.2.1 | exact hr.2.2 | exact hr.2.2.1 | exact hr.2.2.2 | simp [hr])
              replace i0 := Lib.hid i0
              replace i1 := Lib.hid i1
              replace i2 := Lib.hid i2
              replace i3 := Lib.hid i3
              replace i4 := Lib.hid i4
              replace i5 := Lib.hid i5
              replace i6 := Lib.hid i6
              replace i7 := Lib.hid i7
              replace i8 := Lib.hid i8
              replace i9 := Lib.hid i9
              replace i11 := Lib.hid i11
              go_simp
              refine (w_specDivideFigures _ _ _ _ _).mono ?_
              rintro e w4 ⟨rfl, hL4⟩
              rw [show divR ⟨A.d, A.t⟩ ⟨t'.f.d, t'.f.t⟩ = DR from HDR.out, show divC ⟨A.d, A.t⟩ ⟨t'.f.d, t'.f.t⟩ = DC from HDC.out]
              exact hK.out _ _ ⟨(keepB x4 (by decide)), (keepB x0 (by decide)), (keepB x5 (by decide)), (keepB x6 (by decide)), (keepF i0.out (by decide)), (keepF i1.out (by decide)), (keepF i2.out (by decide)), (keepF i3.out (by decide)), (keepF i4.out (by decide)), (keepF i5.out (by decide)), (fun _ => put_eq (by omega)), (keepF i7.out (by decide)), (keepF i8.out (by decide)), (keepF i9.out (by decide)), (keepF i11.out (by decide)), hL.trans hL4, Nat.le_trans hS hL4.size, (by obtain ⟨r0, r1, R1, R2⟩ := Rr; exact ⟨r0, r1, hL4.keep R1, R2⟩)⟩
            · unfold SlotStep
              intro g ac wc hn hk hr hI K' hK
              obtain ⟨x4, x0, x5, x6, i0, i1, i2, i3, i4, i5, i6, i7, i8, i9, i11, hL, hS, Rr⟩ := hI
              simp only [Region.binds] at hr
              simp at hr
              replace hK := Lib.hid hK
              have y6 := i6 (by first | exact hr | exact hr.1 | exact hr.2 | exact hr.2.1 | exact hr.2.2 | exact hr.2.2.1 | exact hr.2.2.2 | simp [hr])
              replace i0 := Lib.hid i0
              replace i1 := Lib.hid i1
              replace i2 := Lib.hid i2
              replace i3 := Lib.hid i3
              replace i4 := Lib.hid i4
              replace i5 := Lib.hid i5
              replace i6 := Lib.hid i6
              replace i7 := Lib.hid i7
              replace i8 := Lib.hid i8
              replace i9 := Lib.hid i9
              replace i11 := Lib.hid i11
              go_simp
              exact hK.out _ _ ⟨(keepB x4 (by decide)), (keepB x0 (by decide)), (keepB x5 (by decide)), (keepB x6 (by decide)), (keepF i0.out (by decide)), (keepF i1.out (by decide)), (keepF i2.out (by decide)), (keepF i3.out (by decide)), (keepF i4.out (by decide)), (keepF i5.out (by decide)), (keepF i6.out (by decide)), (fun _ => put_eq (by omega)), (keepF i8.out (by decide)), (keepF i9.out (by decide)), (keepF i11.out (by decide)), hL, hS, Rr⟩
            · unfold SlotStep
              intro g ac wc hn hk hr hI K' hK
              obtain ⟨x4, x0, x5, x6, i0, i1, i2, i3, i4, i5, i6, i7, i8, i9, i11, hL, hS, Rr⟩ := hI
              simp only [Region.binds] at hr
              simp at hr
              replace hK := Lib.hid hK
              have y7 := i7 (by first | exact hr | exact hr.1 | exact hr.2 | exact hr.2.1 | exact hr.2.2 | exact hr.2.2.1 | exact hr.2.2.2 | simp [hr])
              replace i0 := Lib.hid i0
              replace i1 := Lib.hid i1
              replace i2 := Lib.hid i2
              replace i3 := Lib.hid i3
              replace i4 := Lib.hid i4
              replace i5 := Lib.hid i5
              replace i6 := Lib.hid i6
              replace i7 := Lib.hid i7
              replace i8 := Lib.hid i8
              replace i9 := Lib.hid i9
              replace i11 := Lib.hid i11
              go_simp
              exact hK.out _ _ ⟨(keepB x4 (by decide)), (keepB x0 (by decide)), (keepB x5 (by decide)), (keepB x6 (by decide)), (keepF i0.out (by decide)), (keepF i1.out (by decide)), (keepF i2.out (by decide)), (keepF i3.out (by decide)), (keepF i4.out (by decide)), (keepF i5.out (by decide)), (keepF i6.out (by decide)), (keepF i7.out (by decide)), (fun _ => put_eq (by omega)), (keepF i9.out (by decide)), (keepF i11.out (by decide)), hL, hS, Rr⟩
            · unfold SlotStep
              intro g ac wc hn hk hr hI K' hK
              obtain ⟨x4, x0, x5, x6, i0, i1, i2, i3, i4, i5, i6, i7, i8, i9, i11, hL, hS, Rr⟩ := hI
              simp only [Region.binds] at hr
              simp at hr
              replace hK := Lib.hid hK
              have y7 := i7 (by first | exact hr | exact hr.1 | exact hr.2 | exact hr.2.1 | exact hr.2.2 | exact hr.2.2.1 | exact hr.2.2.2 | simp [hr])
              replace i0 := Lib.hid i0
              replace i1 := Lib.hid i1
              replace i2 := Lib.hid i2
              replace i3 := Lib.hid i3
              replace i4 := Lib.hid i4
              replace i5 := Lib.hid i5
              replace i6 := Lib.hid i6
              replace i7 := Lib.hid i7
              replace i8 := Lib.hid i8
              replace i9 := Lib.hid i9
              replace i11 := Lib.hid i11
              go_simp
              exact hK.out _ _ ⟨(keepB x4 (by decide)), (keepB x0 (by decide)), (keepB x5 (by decide)), (keepB x6 (by decide)), (keepF i0.out (by decide)), (keepF i1.out (by decide)), (keepF i2.out (by decide)), (keepF i3.out (by decide)), (keepF i4.out (by decide)), (keepF i5.out (by decide)), (keepF i6.out (by decide)), (keepF i7.out (by decide)), (keepF i8.out (by decide)), (fun _ => put_eq (by omega)), (keepF i11.out (by decide)), hL, hS, Rr⟩
            · unfold SlotStep
              intro g ac wc hn hk hr hI K' hK
              obtain ⟨x4, x0, x5, x6, i0, i1, i2, i3, i4, i5, i6, i7, i8, i9, i11, hL, hS, Rr⟩ := hI
              simp only [Region.binds] at hr
              simp at hr
              replace hK := Lib.hid hK
              have y8 := i8 (by first | exact hr | exact hr.1 | exact hr.2 | exact hr.2.1 | exact hr.2.2 | exact hr.2.2.1 | exact hr.2.2.2 | simp [hr])
              replace i0 := Lib.hid i0
              replace i1 := Lib.hid i1
              replace i2 := Lib.hid i2
              replace i3 := Lib.hid i3
              replace i4 := Lib.hid i4
              replace i5 := Lib.hid i5
              replace i6 := Lib.hid i6
              replace i7 := Lib.hid i7
              replace i8 := Lib.hid i8
              replace i9 := Lib.hid i9
              replace i11 := Lib.hid i11
              obtain ⟨r0, r1, R1, -⟩ := Rr
              have c0 := (blk_at R1).1
              have f0 := (blk_at R1).2.1
              have z0 := (blk_at R1).2.2
              go_simp
              exact hK.out undef _ ⟨x4, x0, x5, x6, i0.out, i1.out, i2.out, i3.out, i4.out, i5.out, i6.out, i7.out, i8.out, i9.out, i11.out, ((hL.setCell hRB _).setCell hRB _), (by simp; omega), ⟨_, _, two_set R1 _ _, fun _ => ⟨rfl, rfl⟩⟩⟩
            · unfold SlotStep
              intro g ac wc hn hk hr hI K' hK
              obtain ⟨x4, x0, x5, x6, i0, i1, i2, i3, i4, i5, i6, i7, i8, i9, i11, hL, hS, Rr⟩ := hI
              simp only [Region.binds] at hr
              simp at hr
              replace hK := Lib.hid hK
              have y9 := i9 (by first | exact hr | exact hr.1 | exact hr.2 | exact hr.2.1 | exact hr.2.2 | exact hr.2.2.1 | exact hr.2.2.2 | simp [hr])
              replace i0 := Lib.hid i0
              replace i1 := Lib.hid i1
              replace i2 := Lib.hid i2
              replace i3 := Lib.hid i3
              replace i4 := Lib.hid i4
              replace i5 := Lib.hid i5
              replace i6 := Lib.hid i6
              replace i7 := Lib.hid i7
              replace i8 := Lib.hid i8
              replace i9 := Lib.hid i9
              replace i11 := Lib.hid i11
              go_simp
              exact hK.out _ _ ⟨(keepB x4 (by decide)), (keepB x0 (by decide)), (keepB x5 (by decide)), (keepB x6 (by decide)), (keepF i0.out (by decide)), (keepF i1.out (by decide)), (keepF i2.out (by decide)), (keepF i3.out (by decide)), (keepF i4.out (by decide)), (keepF i5.out (by decide)), (keepF i6.out (by decide)), (keepF i7.out (by decide)), (keepF i8.out (by decide)), (keepF i9.out (by decide)), (fun _ => put_eq (by omega)), hL, hS, Rr⟩
      · refine .cons ?_ (.cons ?_ (.cons ?_ (.cons ?_ (.cons ?_ (.cons ?_ (.cons ?_ (.cons ?_ (.cons ?_ (.cons ?_ (.cons ?_ (.cons ?_ (.cons ?_ .nil))))))))))))
        · unfold SlotStep
          intro g ac wc hn hk hr hI K' hK
          obtain ⟨x4, x0, x5, i0, i1, i2, i3, i4, i5, i6, i7, i8, i9, i12, hL, i10, q10, hS⟩ := hI
          simp only [Region.binds] at hr
          simp at hr
          replace hK := Lib.hid hK
          replace i0 := Lib.hid i0
          replace i1 := Lib.hid i1
          replace i2 := Lib.hid i2
          replace i3 := Lib.hid i3
          replace i4 := Lib.hid i4
          replace i5 := Lib.hid i5
          replace i6 := Lib.hid i6
          replace i7 := Lib.hid i7
          replace i8 := Lib.hid i8
          replace i9 := Lib.hid i9
          replace i12 := Lib.hid i12
          have cA := (blk_at (hL.keep HAb.out)).1
          have fA := (blk_at (hL.keep HAb.out)).2.1
          have zA := (blk_at (hL.keep HAb.out)).2.2
          go_simp
          exact hK.out _ _ ⟨(keepB x4 (by decide)), (keepB x0 (by decide)), (keepB x5 (by decide)), (fun _ => put_eq (by omega)), (keepF i1.out (by decide)), (keepF i2.out (by decide)), (keepF i3.out (by decide)), (keepF i4.out (by decide)), (keepF i5.out (by decide)), (keepF i6.out (by decide)), (keepF i7.out (by decide)), (keepF i8.out (by decide)), (keepF i9.out (by decide)), (keepF i12.out (by decide)), hL, (fun j => by obtain ⟨k, e1, e2, p10_0, p10_1, e3, e4⟩ := i10 j; exact ⟨k, (put_ne (by decide)).trans e1, e2, p10_0, p10_1, e3, e4⟩), q10, hS⟩
        · unfold SlotStep
          intro g ac wc hn hk hr hI K' hK
          obtain ⟨x4, x0, x5, i0, i1, i2, i3, i4, i5, i6, i7, i8, i9, i12, hL, i10, q10, hS⟩ := hI
          simp only [Region.binds] at hr
          simp at hr
          replace hK := Lib.hid hK
          replace i0 := Lib.hid i0
          replace i1 := Lib.hid i1
          replace i2 := Lib.hid i2
          replace i3 := Lib.hid i3
          replace i4 := Lib.hid i4
          replace i5 := Lib.hid i5
          replace i6 := Lib.hid i6
          replace i7 := Lib.hid i7
          replace i8 := Lib.hid i8
          replace i9 := Lib.hid i9
          replace i12 := Lib.hid i12
          go_simp
          exact hK.out _ _ ⟨(keepB x4 (by decide)), (keepB x0 (by decide)), (keepB x5 (by decide)), (keepF i0.out (by decide)), (fun _ => put_eq (by omega)), (keepF i2.out (by decide)), (keepF i3.out (by decide)), (keepF i4.out (by decide)), (keepF i5.out (by decide)), (keepF i6.out (by decide)), (keepF i7.out (by decide)), (keepF i8.out (by decide)), (keepF i9.out (by decide)), (keepF i12.out (by decide)), hL, (fun j => by obtain ⟨k, e1, e2, p10_0, p10_1, e3, e4⟩ := i10 j; exact ⟨k, (put_ne (by decide)).trans e1, e2, p10_0, p10_1, e3, e4⟩), q10, hS⟩
        · unfold SlotStep
          intro g ac wc hn hk hr hI K' hK
          obtain ⟨x4, x0, x5, i0, i1, i2, i3, i4, i5, i6, i7, i8, i9, i12, hL, i10, q10, hS⟩ := hI
          simp only [Region.binds] at hr
          simp at hr
          replace hK := Lib.hid hK
          replace i0 := Lib.hid i0
          replace i1 := Lib.hid i1
          replace i2 := Lib.hid i2
          replace i3 := Lib.hid i3
          replace i4 := Lib.hid i4
          replace i5 := Lib.hid i5
          replace i6 := Lib.hid i6
          replace i7 := Lib.hid i7
          replace i8 := Lib.hid i8
          replace i9 := Lib.hid i9
          replace i12 := Lib.hid i12
          go_simp
          exact hK.out _ _ ⟨(keepB x4 (by decide)), (keepB x0 (by decide)), (keepB x5 (by decide)), (keepF i0.out (by decide)), (keepF i1.out (by decide)), (fun _ => put_eq (by omega)), (keepF i3.out (by decide)), (keepF i4.out (by decide)), (keepF i5.out (by decide)), (keepF i6.out (by decide)), (keepF i7.out (by decide)), (keepF i8.out (by decide)), (keepF i9.out (by decide)), (keepF i12.out (by decide)), hL, (fun j => by obtain ⟨k, e1, e2, p10_0, p10_1, e3, e4⟩ := i10 j; exact ⟨k, (put_ne (by decide)).trans e1, e2, p10_0, p10_1, e3, e4⟩), q10, hS⟩
        · unfold SlotStep
          intro g ac wc hn hk hr hI K' hK
          obtain ⟨x4, x0, x5, i0, i1, i2, i3, i4, i5, i6, i7, i8, i9, i12, hL, i10, q10, hS⟩ := hI
          simp only [Region.binds] at hr
          simp at hr
          replace hK := Lib.hid hK
          have y1 := i1 (by first | exact hr | exact hr.1 | exact hr.2 | exact hr.2.1 | exact hr.2.2 | exact hr.2.2.1 | exact hr.2.2.2 | simp [hr])
          have y2 := i2 (by first | exact hr | exact hr.1 | exact hr.2 | exact hr.2.1 | exact hr.2.2 | exact hr.2.2.1 | exact hr.2.2.2 | simp [hr])
          replace i0 := Lib.hid i0
          replace i1 := Lib.hid i1
          replace i2 := Lib.hid i2
          replace i3 := Lib.hid i3
          replace i4 := Lib.hid i4
          replace i5 := Lib.hid i5
          replace i6 := Lib.hid i6
          replace i7 := Lib.hid i7
          replace i8 := Lib.hid i8
          replace i9 := Lib.hid i9
          replace i12 := Lib.hid i12
          go_simp
          exact hK.out _ _ ⟨(keepB x4 (by decide)), (keepB x0 (by decide)), (keepB x5 (by decide)), (keepF i0.out (by decide)), (keepF i1.out (by decide)), (keepF i2.out (by decide)), (fun _ => put_eq (by omega)), (keepF i4.out (by decide)), (keepF i5.out (by decide)), (keepF i6.out (by decide)), (keepF i7.out (by decide)), (keepF i8.out (by decide)), (keepF i9.out (by decide)), (keepF i12.out (by decide)), hL, (fun j => by obtain ⟨k, e1, e2, p10_0, p10_1, e3, e4⟩ := i10 j; exact ⟨k, (put_ne (by decide)).trans e1, e2, p10_0, p10_1, e3, e4⟩), q10, hS⟩
        · unfold SlotStep
          intro g ac wc hn hk hr hI K' hK
          obtain ⟨x4, x0, x5, i0, i1, i2, i3, i4, i5, i6, i7, i8, i9, i12, hL, i10, q10, hS⟩ := hI
          simp only [Region.binds] at hr
          simp at hr
          replace hK := Lib.hid hK
          have y3 := i3 (by first | exact hr | exact hr.1 | exact hr.2 | exact hr.2.1 | exact hr.2.2 | exact hr.2.2.1 | exact hr.2.2.2 | simp [hr])
          replace i0 := Lib.hid i0
          replace i1 := Lib.hid i1
          replace i2 := Lib.hid i2
          replace i3 := Lib.hid i3
          replace i4 := Lib.hid i4
          replace i5 := Lib.hid i5
          replace i6 := Lib.hid i6
          replace i7 := Lib.hid i7
          replace i8 := Lib.hid i8
          replace i9 := Lib.hid i9
          replace i12 := Lib.hid i12
          go_simp
          exact hK.out _ _ ⟨(keepB x4 (by decide)), (keepB x0 (by decide)), (keepB x5 (by decide)), (keepF i0.out (by decide)), (keepF i1.out (by decide)), (keepF i2.out (by decide)), (keepF i3.out (by decide)), (fun _ => put_eq (by omega)), (keepF i5.out (by decide)), (keepF i6.out (by decide)), (keepF i7.out (by decide)), (keepF i8.out (by decide)), (keepF i9.out (by decide)), (keepF i12.out (by decide)), hL, (fun j => by obtain ⟨k, e1, e2, p10_0, p10_1, e3, e4⟩ := i10 j; exact ⟨k, (put_ne (by decide)).trans e1, e2, p10_0, p10_1, e3, e4⟩), q10, hS⟩
        · unfold SlotStep
          intro g ac wc hn hk hr hI K' hK
          obtain ⟨x4, x0, x5, i0, i1, i2, i3, i4, i5, i6, i7, i8, i9, i12, hL, i10, q10, hS⟩ := hI
          simp only [Region.binds] at hr
          simp at hr
          replace hK := Lib.hid hK
          have y4 := i4 (by first | exact hr | exact hr.1 | exact hr.2 | exact hr.2.1 | exact hr.2.2 | exact hr.2.2.1 | exact hr.2.2.2 | simp [hr])
          replace i0 := Lib.hid i0
          replace i1 := Lib.hid i1
          replace i2 := Lib.hid i2
          replace i3 := Lib.hid i3
          replace i4 := Lib.hid i4
          replace i5 := Lib.hid i5
          replace i6 := Lib.hid i6
          replace i7 := Lib.hid i7
          replace i8 := Lib.hid i8
          replace i9 := Lib.hid i9
          replace i12 := Lib.hid i12
          obtain ⟨r1, r2, r3⟩ := (hr1.later (hL2.trans hL)).trm HT2.out
          have zr1 := (hr1.later (hL2.trans hL)).1
          go_simp
          exact hK.out _ _ ⟨(keepB x4 (by decide)), (keepB x0 (by decide)), (keepB x5 (by decide)), (keepF i0.out (by decide)), (keepF i1.out (by decide)), (keepF i2.out (by decide)), (keepF i3.out (by decide)), (keepF i4.out (by decide)), (fun _ => put_eq (by omega)), (keepF i6.out (by decide)), (keepF i7.out (by decide)), (keepF i8.out (by decide)), (keepF i9.out (by decide)), (keepF i12.out (by decide)), hL, (fun j => by obtain ⟨k, e1, e2, p10_0, p10_1, e3, e4⟩ := i10 j; exact ⟨k, (put_ne (by decide)).trans e1, e2, p10_0, p10_1, e3, e4⟩), q10, hS⟩
        · unfold SlotStep
          intro g ac wc hn hk hr hI K' hK
          obtain ⟨x4, x0, x5, i0, i1, i2, i3, i4, i5, i6, i7, i8, i9, i12, hL, i10, q10, hS⟩ := hI
          simp only [Region.binds] at hr
          simp at hr
          replace hK := Lib.hid hK
          have y0 := i0 (by first | exact hr | exact hr.1 | exact hr.2 | exact hr.2.1 | exact hr.2.2 | exact hr.2.2.1 | exact hr.2.2.2 | simp [hr])
          have y5 := i5 (by first | exact hr | exact hr.1 | exact hr.2 | exact hr.2.1 | exact hr.2.2 | exact hr.2.2.1 | exact hr.2.2.2 | simp [hr])
          replace i0 := Lib.hid i0
          replace i1 := Lib.hid i1
          replace i2 := Lib.hid i2
          replace i3 := Lib.hid i3
          replace i4 := Lib.hid i4
          replace i5 := Lib.hid i5
          replace i6 := Lib.hid i6
          replace i7 := Lib.hid i7
          replace i8 := Lib.hid i8
          replace i9 := Lib.hid i9
          replace i12 := Lib.hid i12
          go_simp
          refine (w_specMultiplyFigures _ _ _ _ _).mono ?_
          rintro e w4 ⟨rfl, hL4⟩
          rw [show mulR ⟨A.d, A.t⟩ ⟨t'.f.d, t'.f.t⟩ = MR from HMR.out, show mulC ⟨A.d, A.t⟩ ⟨t'.f.d, t'.f.t⟩ = MC from HMC.out]
          exact hK.out _ _ ⟨(keepB x4 (by decide)), (keepB x0 (by decide)), (keepB x5 (by decide)), (keepF i0.out (by decide)), (keepF i1.out (by decide)), (keepF i2.out (by decide)), (keepF i3.out (by decide)), (keepF i4.out (by decide)), (keepF i5.out (by decide)), (fun _ => put_eq (by omega)), (keepF i7.out (by decide)), (keepF i8.out (by decide)), (keepF i9.out (by decide)), (keepF i12.out (by decide)), hL.trans hL4, (fun j => by obtain ⟨k, e1, e2, p10_0, p10_1, e3, e4⟩ := i10 j; exact ⟨k, (put_ne (by decide)).trans e1, e2, p10_0, p10_1, hL4.keep e3, e4⟩), q10, Nat.le_trans hS hL4.size⟩
        · unfold SlotStep
          intro g ac wc hn hk hr hI K' hK
          obtain ⟨x4, x0, x5, i0, i1, i2, i3, i4, i5, i6, i7, i8, i9, i12, hL, i10, q10, hS⟩ := hI
          simp only [Region.binds] at hr
          simp at hr
          replace hK := Lib.hid hK
          have y6 := i6 (by first | exact hr | exact hr.1 | exact hr.2 | exact hr.2.1 | exact hr.2.2 | exact hr.2.2.1 | exact hr.2.2.2 | simp [hr])
          replace i0 := Lib.hid i0
          replace i1 := Lib.hid i1
          replace i2 := Lib.hid i2
          replace i3 := Lib.hid i3
          replace i4 := Lib.hid i4
          replace i5 := Lib.hid i5
          replace i6 := Lib.hid i6
          replace i7 := Lib.hid i7
          replace i8 := Lib.hid i8
          replace i9 := Lib.hid i9
          replace i12 := Lib.hid i12
          go_simp
          exact hK.out _ _ ⟨(keepB x4 (by decide)), (keepB x0 (by decide)), (keepB x5 (by decide)), (keepF i0.out (by decide)), (keepF i1.out (by decide)), (keepF i2.out (by decide)), (keepF i3.out (by decide)), (keepF i4.out (by decide)), (keepF i5.out (by decide)), (keepF i6.out (by decide)), (fun _ => put_eq (by omega)), (keepF i8.out (by decide)), (keepF i9.out (by decide)), (keepF i12.out (by decide)), hL, (fun j => by obtain ⟨k, e1, e2, p10_0, p10_1, e3, e4⟩ := i10 j; exact ⟨k, (put_ne (by decide)).trans e1, e2, p10_0, p10_1, e3, e4⟩), q10, hS⟩
        · unfold SlotStep
          intro g ac wc hn hk hr hI K' hK
          obtain ⟨x4, x0, x5, i0, i1, i2, i3, i4, i5, i6, i7, i8, i9, i12, hL, i10, q10, hS⟩ := hI
          simp only [Region.binds] at hr
          simp at hr
          replace hK := Lib.hid hK
          have y7 := i7 (by first | exact hr | exact hr.1 | exact hr.2 | exact hr.2.1 | exact hr.2.2 | exact hr.2.2.1 | exact hr.2.2.2 | simp [hr])
          replace i0 := Lib.hid i0
          replace i1 := Lib.hid i1
          replace i2 := Lib.hid i2
          replace i3 := Lib.hid i3
          replace i4 := Lib.hid i4
          replace i5 := Lib.hid i5
          replace i6 := Lib.hid i6
          replace i7 := Lib.hid i7
          replace i8 := Lib.hid i8
          replace i9 := Lib.hid i9
          replace i12 := Lib.hid i12
          go_simp
          exact hK.out _ _ ⟨(keepB x4 (by decide)), (keepB x0 (by decide)), (keepB x5 (by decide)), (keepF i0.out (by decide)), (keepF i1.out (by decide)), (keepF i2.out (by decide)), (keepF i3.out (by decide)), (keepF i4.out (by decide)), (keepF i5.out (by decide)), (keepF i6.out (by decide)), (keepF i7.out (by decide)), (fun _ => put_eq (by omega)), (keepF i9.out (by decide)), (keepF i12.out (by decide)), hL, (fun j => by obtain ⟨k, e1, e2, p10_0, p10_1, e3, e4⟩ := i10 j; exact ⟨k, (put_ne (by decide)).trans e1, e2, p10_0, p10_1, e3, e4⟩), q10, hS⟩
        · unfold SlotStep
          intro g ac wc hn hk hr hI K' hK
          obtain ⟨x4, x0, x5, i0, i1, i2, i3, i4, i5, i6, i7, i8, i9, i12, hL, i10, q10, hS⟩ := hI
          simp only [Region.binds] at hr
          simp at hr
          replace hK := Lib.hid hK
          have y7 := i7 (by first | exact hr | exact hr.1 | exact hr.2 | exact hr.2.1 | exact hr.2.2 | exact hr.2.2.1 | exact hr.2.2.2 | simp [hr])
          replace i0 := Lib.hid i0
          replace i1 := Lib.hid i1
          replace i2 := Lib.hid i2
          replace i3 := Lib.hid i3
          replace i4 := Lib.hid i4
          replace i5 := Lib.hid i5
          replace i6 := Lib.hid i6
          replace i7 := Lib.hid i7
          replace i8 := Lib.hid i8
          replace i9 := Lib.hid i9
          replace i12 := Lib.hid i12
          go_simp
          exact hK.out _ _ ⟨(keepB x4 (by decide)), (keepB x0 (by decide)), (keepB x5 (by decide)), (keepF i0.out (by decide)), (keepF i1.out (by decide)), (keepF i2.out (by decide)), (keepF i3.out (by decide)), (keepF i4.out (by decide)), (keepF i5.out (by decide)), (keepF i6.out (by decide)), (keepF i7.out (by decide)), (keepF i8.out (by decide)), (fun _ => put_eq (by omega)), (keepF i12.out (by decide)), hL, (fun j => by obtain ⟨k, e1, e2, p10_0, p10_1, e3, e4⟩ := i10 j; exact ⟨k, (put_ne (by decide)).trans e1, e2, p10_0, p10_1, e3, e4⟩), q10, hS⟩
        · unfold SlotStep
          intro g ac wc hn hk hr hI K' hK
          obtain ⟨x4, x0, x5, i0, i1, i2, i3, i4, i5, i6, i7, i8, i9, i12, hL, i10, q10, hS⟩ := hI
          simp only [Region.binds] at hr
          simp at hr
          replace hK := Lib.hid hK
          replace i0 := Lib.hid i0
          replace i1 := Lib.hid i1
          replace i2 := Lib.hid i2
          replace i3 := Lib.hid i3
          replace i4 := Lib.hid i4
          replace i5 := Lib.hid i5
          replace i6 := Lib.hid i6
          replace i7 := Lib.hid i7
          replace i8 := Lib.hid i8
          replace i9 := Lib.hid i9
          replace i12 := Lib.hid i12
          go_simp
          refine hK.out _ _ ⟨(keepB x4 (by decide)), (keepB x0 (by decide)), (keepB x5 (by decide)), (keepF i0.out (by decide)), (keepF i1.out (by decide)), (keepF i2.out (by decide)), (keepF i3.out (by decide)), (keepF i4.out (by decide)), (keepF i5.out (by decide)), (keepF i6.out (by decide)), (keepF i7.out (by decide)), (keepF i8.out (by decide)), (keepF i9.out (by decide)), (keepF i12.out (by decide)), hL.alloc _, (fun _ => ⟨_, put_eq (by omega), hS, _, _, heap_alloc_new _ _, fun j6 => absurd ((q10 j6).symm.trans hk) (by simp)⟩), fun _ => rfl, (by simp; omega)⟩
        · unfold SlotStep
          intro g ac wc hn hk hr hI K' hK
          obtain ⟨x4, x0, x5, i0, i1, i2, i3, i4, i5, i6, i7, i8, i9, i12, hL, i10, q10, hS⟩ := hI
          simp only [Region.binds] at hr
          simp at hr
          replace hK := Lib.hid hK
          have y8 := i8 (by first | exact hr | exact hr.1 | exact hr.2 | exact hr.2.1 | exact hr.2.2 | exact hr.2.2.1 | exact hr.2.2.2 | simp [hr])
          replace i0 := Lib.hid i0
          replace i1 := Lib.hid i1
          replace i2 := Lib.hid i2
          replace i3 := Lib.hid i3
          replace i4 := Lib.hid i4
          replace i5 := Lib.hid i5
          replace i6 := Lib.hid i6
          replace i7 := Lib.hid i7
          replace i8 := Lib.hid i8
          replace i9 := Lib.hid i9
          replace i12 := Lib.hid i12
          have hda : g 10 = true := by first | exact hr | exact hr.1 | exact hr.2 | exact hr.2.1 | exact hr.2.2 | exact hr.2.2.1 | exact hr.2.2.2 | simp [hr]
          obtain ⟨k, e1, e2, p10_0, p10_1, e3, -⟩ := i10 hda
          have c0 := (blk_at e3).1
          have f0 := (blk_at e3).2.1
          have z0 := (blk_at e3).2.2
          go_simp
          exact hK.out undef _ ⟨x4, x0, x5, i0.out, i1.out, i2.out, i3.out, i4.out, i5.out, i6.out, i7.out, i8.out, i9.out, i12.out, ((hL.setCell e2 _).setCell e2 _), (fun _ => ⟨k, e1, e2, _, _, two_set e3 _ _, fun _ => ⟨rfl, rfl⟩⟩), (fun _ => hda), (by simp; omega)⟩
        · unfold SlotStep
          intro g ac wc hn hk hr hI K' hK
          obtain ⟨x4, x0, x5, i0, i1, i2, i3, i4, i5, i6, i7, i8, i9, i12, hL, i10, q10, hS⟩ := hI
          simp only [Region.binds] at hr
          simp at hr
          replace hK := Lib.hid hK
          have y9 := i9 (by first | exact hr | exact hr.1 | exact hr.2 | exact hr.2.1 | exact hr.2.2 | exact hr.2.2.1 | exact hr.2.2.2 | simp [hr])
          replace i0 := Lib.hid i0
          replace i1 := Lib.hid i1
          replace i2 := Lib.hid i2
          replace i3 := Lib.hid i3
          replace i4 := Lib.hid i4
          replace i5 := Lib.hid i5
          replace i6 := Lib.hid i6
          replace i7 := Lib.hid i7
          replace i8 := Lib.hid i8
          replace i9 := Lib.hid i9
          replace i12 := Lib.hid i12
          go_simp
          exact hK.out _ _ ⟨(keepB x4 (by decide)), (keepB x0 (by decide)), (keepB x5 (by decide)), (keepF i0.out (by decide)), (keepF i1.out (by decide)), (keepF i2.out (by decide)), (keepF i3.out (by decide)), (keepF i4.out (by decide)), (keepF i5.out (by decide)), (keepF i6.out (by decide)), (keepF i7.out (by decide)), (keepF i8.out (by decide)), (keepF i9.out (by decide)), (fun _ => put_eq (by omega)), hL, (fun j => by obtain ⟨k, e1, e2, p10_0, p10_1, e3, e4⟩ := i10 j; exact ⟨k, (put_ne (by decide)).trans e1, e2, p10_0, p10_1, e3, e4⟩), q10, hS⟩
    · have HE := Lib.hid (show chainFig0 l = some A from by
        rw [← HA.out.1, List.drop_eq_nil_of_le (by omega)]; rfl)
      obtain ⟨cr, fr, zr⟩ := blk_at hres
      obtain ⟨ca, fa, za⟩ := blk_at hA
      clear hres hA
      go_wp2
      refine bodyPost_ret (v := .tuple #[.agg #[.int .i64 A.d, .int .i64 A.t], .int .i64 0]) (by simp [results, Try.results45, go_sem, cr, zr]) rfl ⟨by rw [HF.out, HG.out, HE.out]; rfl, by (repeat (with_reducible first | exact Later.refl _ | refine Later.alloc ?_ _ | refine Later.drew ?_ | refine Later.drewN ?_ _ | refine Later.setCell ?_ (by simp; try omega) _ | refine Later.trans ?_ (by assumption)))⟩

end Go.Proofs.Ytkoojngonldcbaa
