/- DERIVED. Walks: CheckDigits, the reference's. -/
import Derived.Test.YtkoojngonldcbaaM15
import Derived.Test.YtkoojngonldcbaaBA
namespace Go.Proofs.Ytkoojngonldcbaa
set_option linter.unusedVariables false
set_option linter.unusedSimpArgs false
open Go.RowKit
set_option maxRecDepth 100000

set_option maxHeartbeats 4000000 in
theorem w_specCheckDigits (v : Value) (l : List Trm) (d t u : Int) (w : World) (h : IsTrms w v l) :
    Calls Try.prog 40 #[v, .agg #[.int .i64 d, .int .i64 t], .int .i64 u] w fun e w' => e = .returned (.tuple #[.bool (checkDigits l ⟨d, t⟩ u), .int .i64 (codeDigits l ⟨d, t⟩ u)]) ∧ Later w w' := by
  have hL0 := (Later.refl w).alloc (.cells #[.int .i64 d, .int .i64 t] 41)
  cases hc : isChain l
  · have HC := Lib.hid hc
    have HG := Lib.hid (show codeDigits l ⟨d, t⟩ u = 1 from by simp [codeDigits, hc])
    have HF := Lib.hid (show checkDigits l ⟨d, t⟩ u = false from by simp [checkDigits, codeDigits, hc])
    clear hc
    go_enter Try.func40, Try.ntmps40
    go_wp2_with fail
    refine (w_specIsChain _ _ _ (h.later hL0)).mono ?_
    rintro e w1 ⟨rfl, hL⟩
    rw [HC.out]
    go_wp2
    go_ret2
    exact ⟨by rw [HF.out, HG.out]; rfl, by (repeat (with_reducible first | exact Later.refl _ | refine Later.alloc ?_ _ | refine Later.drew ?_ | refine Later.drewN ?_ _ | refine Later.setCell ?_ (by simp; try omega) _ | refine Later.trans ?_ (by assumption)))⟩
  cases hi : isFig ⟨d, t⟩
  · have HC := Lib.hid hc
    have HI := Lib.hid hi
    have HG := Lib.hid (show codeDigits l ⟨d, t⟩ u = 1 from by simp [codeDigits, hc, hi])
    have HF := Lib.hid (show checkDigits l ⟨d, t⟩ u = false from by simp [checkDigits, codeDigits, hc, hi])
    clear hc hi
    go_enter Try.func40, Try.ntmps40
    go_wp2_with fail
    refine (w_specIsChain _ _ _ (h.later hL0)).mono ?_
    rintro e w1 ⟨rfl, hL⟩
    rw [HC.out]
    obtain ⟨c0, f0, z0⟩ := blk1 hL
    go_wp2_with fail
    refine (w_specIsFigure _ _ _).mono ?_
    rintro e w2 ⟨rfl, hL2⟩
    rw [HI.out]
    go_wp2
    go_ret2
    exact ⟨by rw [HF.out, HG.out]; rfl, by (repeat (with_reducible first | exact Later.refl _ | refine Later.alloc ?_ _ | refine Later.drew ?_ | refine Later.drewN ?_ _ | refine Later.setCell ?_ (by simp; try omega) _ | refine Later.trans ?_ (by assumption)))⟩
  cases hu : inR u 0 1048576
  · have HC := Lib.hid hc
    have HI := Lib.hid hi
    have HU := Lib.hid hu
    have HG := Lib.hid (show codeDigits l ⟨d, t⟩ u = 2 from by simp [codeDigits, hc, hi, hu])
    have HF := Lib.hid (show checkDigits l ⟨d, t⟩ u = false from by simp [checkDigits, codeDigits, hc, hi, hu])
    clear hc hi hu
    go_enter Try.func40, Try.ntmps40
    go_wp2_with fail
    refine (w_specIsChain _ _ _ (h.later hL0)).mono ?_
    rintro e w1 ⟨rfl, hL⟩
    rw [HC.out]
    obtain ⟨c0, f0, z0⟩ := blk1 hL
    go_wp2_with fail
    refine (w_specIsFigure _ _ _).mono ?_
    rintro e w2 ⟨rfl, hL2⟩
    rw [HI.out]
    go_wp2_with fail
    refine (w_l01In _ _ _ _).mono ?_
    rintro e w3 ⟨rfl, rfl⟩
    rw [HU.out]
    go_wp2
    go_ret2
    exact ⟨by rw [HF.out, HG.out]; rfl, by (repeat (with_reducible first | exact Later.refl _ | refine Later.alloc ?_ _ | refine Later.drew ?_ | refine Later.drewN ?_ _ | refine Later.setCell ?_ (by simp; try omega) _ | refine Later.trans ?_ (by assumption)))⟩
  have hu' := inR_true hu
  have hfi := isFig_true hi
  simp only at hfi
  obtain ⟨t1, t2, t3, t4⟩ := hfi
  have hbd := figLog_bd2 (f := ⟨d, t⟩) t1 t2 t3 t4
  obtain ⟨q1, q2, q3, q4⟩ := hbd
  have t5 : -100 ≤ t := by omega
  have t6 : t ≤ 100 := by omega
  obtain ⟨x1, x2⟩ := hu'
  have HC := Lib.hid hc
  have HI := Lib.hid hi
  have HU := Lib.hid hu
  have HG := Lib.hid (show codeDigits l ⟨d, t⟩ u = 0 from by simp [codeDigits, hc, hi, hu])
  have HF := Lib.hid (show checkDigits l ⟨d, t⟩ u = meetI ⟨(figLog ⟨d, t⟩).lo - u, (figLog ⟨d, t⟩).hi + u⟩ (chainLog0 l) from by simp [checkDigits, codeDigits, hc, hi, hu])
  clear hc hi hu
  go_enter Try.func40, Try.ntmps40
  go_wp2_with fail
  refine (w_specIsChain _ _ _ (h.later hL0)).mono ?_
  rintro e w1 ⟨rfl, hL⟩
  rw [HC.out]
  obtain ⟨c0, f0, z0⟩ := blk1 hL
  go_wp2_with fail
  refine (w_specIsFigure _ _ _).mono ?_
  rintro e w2 ⟨rfl, hL2⟩
  rw [HI.out]
  clear c0 f0 z0
  obtain ⟨c0, f0, z0⟩ := blk1 (hL.trans hL2)
  go_wp2_with fail
  refine (w_l01In _ _ _ _).mono ?_
  rintro e w3 ⟨rfl, rfl⟩
  rw [HU.out]
  have hL12 := hL.trans hL2
  have hL02 := hL0.trans hL12
  have hcd := chainLog0_bd HC.out
  obtain ⟨d1, d2, d3, d4⟩ := hcd
  have hle := chainLog0_le HC.out
  have hlf := figLog_le (f := ⟨d, t⟩) t1 t2
  obtain ⟨X, hX⟩ : ∃ X, (chainLog0 l).lo = X := ⟨_, rfl⟩
  obtain ⟨Y, hY⟩ : ∃ Y, (chainLog0 l).hi = Y := ⟨_, rfl⟩
  obtain ⟨Z, hZ⟩ : ∃ Z, (figLog ⟨d, t⟩).lo = Z := ⟨_, rfl⟩
  obtain ⟨V, hV⟩ : ∃ V, (figLog ⟨d, t⟩).hi = V := ⟨_, rfl⟩
  rw [hX] at d1 d2 hle
  rw [hY] at d3 d4 hle
  rw [hZ] at q1 q2 hlf
  rw [hV] at q3 q4 hlf
  have hm : meetI ⟨(figLog ⟨d, t⟩).lo - u, (figLog ⟨d, t⟩).hi + u⟩ (chainLog0 l) = (decide (Z - u ≤ Y) && decide (X ≤ V + u)) := by
    simp only [meetI, hX, hY, hZ, hV]
  have HF2 := Lib.hid (HF.out.trans hm)
  have HX := Lib.hid hX
  have HY := Lib.hid hY
  have HZ := Lib.hid hZ
  have HV := Lib.hid hV
  clear hX hY hZ hV hm HF hL hL2
  go_wp2_with fail
  refine region_inv (fun a0 g a w => ∃ s8 s9 s21 s22 s23 s24 : Value,
    a = (((((a0.put (some 8) s8).put (some 9) s9).put (some 21) s21).put (some 22) s22).put (some 23) s23).put (some 24) s24 ∧
    (g 0 = true → s21 = v) ∧ (g 1 = true → s22 = .agg #[.int .i64 X, .int .i64 Y]) ∧
    (g 2 = true → s23 = .agg #[.int .i64 d, .int .i64 t]) ∧ (g 3 = true → s24 = .agg #[.int .i64 Z, .int .i64 V]) ∧
    Later w2 w ∧
    (g 4 = true → ∃ k, s8 = .pointer (some ⟨k, 0, none⟩) ∧ w2.heap.size ≤ k ∧ ∃ p q, w.heap[k]? = some (.cells #[p, q] 32) ∧ (g 6 = true → p = .int .i64 X ∧ q = .int .i64 Y)) ∧
    (g 5 = true → ∃ k, s9 = .pointer (some ⟨k, 0, none⟩) ∧ w2.heap.size ≤ k ∧ ∃ p q, w.heap[k]? = some (.cells #[p, q] 32) ∧ (g 7 = true → p = .int .i64 Z ∧ q = .int .i64 V)) ∧
    (g 4 = true → g 5 = true → s8 ≠ s9) ∧ (g 6 = true → g 4 = true) ∧ (g 7 = true → g 5 = true)) (by kernel_rfl) (by kernel_rfl) ?_ ?_ ?_
  · exact ⟨_, _, _, _, _, _, rfl, nofun, nofun, nofun, nofun, (Later.refl _).drew, nofun, nofun, nofun, nofun, nofun⟩
  · intro g a w' hg hI
    obtain ⟨s8, s9, s21, s22, s23, s24, ha, hI⟩ := hI
    obtain ⟨i0, i1, i2, i3, hL, i4, i5, i45, -, -⟩ := hI
    obtain ⟨k, e1, e2, p, q, e3, e4⟩ := i4 (hg 4 (by simp))
    obtain ⟨k', e1', e2', p', q', e3', e4'⟩ := i5 (hg 5 (by simp))
    have e5 := e4 (hg 6 (by simp))
    have e5' := e4' (hg 7 (by simp))
    rw [e5.1, e5.2] at e3
    rw [e5'.1, e5'.2] at e3'
    have a0 := i0 (hg 0 (by simp))
    have a1 := i1 (hg 1 (by simp))
    have a2 := i2 (hg 2 (by simp))
    have a3 := i3 (hg 3 (by simp))
    rw [ha, a0, a1, a2, a3, e1, e1']
    clear i0 i1 i2 i3 i4 i5 i45 hg e4 e4' e5 e5' a0 a1 a2 a3 ha hL0
    have hb := blk_at e3
    have hb' := blk_at e3'
    have c1 := hb.1
    have f1 := hb.2.1
    have z1 := hb.2.2
    have c2 := hb'.1
    have f2 := hb'.2.1
    have z2 := hb'.2.2
    clear hb hb' e3 e3'
    have hLL := Lib.hid (hL02.trans hL)
    clear hL hL02 hL12
    by_cases y1 : Z - u ≤ Y <;> by_cases y2 : X ≤ V + u
    all_goals
      try (exfalso; omega)
    all_goals go_wp2
    all_goals
      have hLL2 := hLL.out
      go_ret2
      exact ⟨by rw [HF2.out, HG.out]; simp [y1, y2] <;> omega, by (repeat (with_reducible first | exact Later.refl _ | refine Later.alloc ?_ _ | refine Later.drew ?_ | refine Later.drewN ?_ _ | refine Later.setCell ?_ (by simp; try omega) _ | refine Later.trans ?_ (by assumption)))⟩
  · have hblk : w2.heap[w.heap.size]? = some (.cells #[.int .i64 d, .int .i64 t] 41 (0, 0)) := hL12.keep (heap_alloc_new _ _)
    refine .cons ?_ (.cons ?_ (.cons ?_ (.cons ?_ (.cons ?_ (.cons ?_ (.cons ?_ (.cons ?_ .nil)))))))
    · unfold InvStep
      intro g a w' hk hr hI K' hK
      obtain ⟨s8, s9, s21, s22, s23, s24, ha, hI⟩ := hI
      obtain ⟨i0, i1, i2, i3, hL, i4, i5, i45, i64, i75⟩ := hI
      clear hL0
      simp only [Region.binds] at hr
      simp at hr
      replace hK := Lib.hid hK
      rw [ha]
      clear ha
      go_simp
      exact hK.out _ _ ⟨s8, s9, _, s22, s23, s24, rfl, fun _ => rfl, i1, i2, i3, hL, i4, i5, i45, i64, i75⟩
    · unfold InvStep
      intro g a w' hk hr hI K' hK
      obtain ⟨s8, s9, s21, s22, s23, s24, ha, hI⟩ := hI
      obtain ⟨i0, i1, i2, i3, hL, i4, i5, i45, i64, i75⟩ := hI
      clear hL0
      simp only [Region.binds] at hr
      simp at hr
      replace hK := Lib.hid hK
      rw [ha, i0 hr]
      clear ha
      go_simp
      refine (w_specL13Log _ _ _ (h.later (hL02.trans hL)) HC.out).mono ?_
      rintro e w4 ⟨rfl, hL4⟩
      rw [HX.out, HY.out]
      go_wp2
      refine hK.out _ _ ⟨s8, s9, _, _, s23, s24, rfl, fun _ => rfl, fun _ => rfl, i2, i3, hL.trans hL4, ?_, ?_, i45, i64, i75⟩
      · intro j
        obtain ⟨k, e1, e2, p, q, e3, e4⟩ := i4 j
        exact ⟨k, e1, e2, p, q, hL4.keep e3, e4⟩
      · intro j
        obtain ⟨k, e1, e2, p, q, e3, e4⟩ := i5 j
        exact ⟨k, e1, e2, p, q, hL4.keep e3, e4⟩
    · unfold InvStep
      intro g a w' hk hr hI K' hK
      obtain ⟨s8, s9, s21, s22, s23, s24, ha, hI⟩ := hI
      obtain ⟨i0, i1, i2, i3, hL, i4, i5, i45, i64, i75⟩ := hI
      clear hL0
      simp only [Region.binds] at hr
      simp at hr
      replace hK := Lib.hid hK
      have hb := hL.keep hblk
      have hb2 := blk_at hb
      have c0 := hb2.1
      have f0 := hb2.2.1
      have z0 := hb2.2.2
      clear hb2
      rw [ha]
      clear ha
      go_simp
      exact hK.out _ _ ⟨s8, s9, s21, s22, _, s24, rfl, i0, i1, fun _ => rfl, i3, hL, i4, i5, i45, i64, i75⟩
    · unfold InvStep
      intro g a w' hk hr hI K' hK
      obtain ⟨s8, s9, s21, s22, s23, s24, ha, hI⟩ := hI
      obtain ⟨i0, i1, i2, i3, hL, i4, i5, i45, i64, i75⟩ := hI
      clear hL0
      simp only [Region.binds] at hr
      simp at hr
      replace hK := Lib.hid hK
      rw [ha, i2 hr.1]
      clear ha
      replace i0 := Lib.hid i0
      replace i1 := Lib.hid i1
      replace i2 := Lib.hid i2
      replace i3 := Lib.hid i3
      go_simp
      refine (w_l03Figure _ _ t1 t2 t5 t6 _).mono ?_
      rintro e w4 ⟨rfl, hL4⟩
      rw [HZ.out, HV.out]
      go_wp2
      refine hK.out _ _ ⟨s8, s9, s21, s22, _, _, rfl, i0.out, i1.out, fun _ => rfl, fun _ => rfl, hL.trans hL4, ?_, ?_, i45, i64, i75⟩
      · intro j
        obtain ⟨k, e1, e2, p, q, e3, e4⟩ := i4 j
        exact ⟨k, e1, e2, p, q, hL4.keep e3, e4⟩
      · intro j
        obtain ⟨k, e1, e2, p, q, e3, e4⟩ := i5 j
        exact ⟨k, e1, e2, p, q, hL4.keep e3, e4⟩
    · unfold InvStep
      intro g a w' hk hr hI K' hK
      obtain ⟨s8, s9, s21, s22, s23, s24, ha, hI⟩ := hI
      obtain ⟨i0, i1, i2, i3, hL, i4, i5, i45, i64, i75⟩ := hI
      clear hL0
      simp only [Region.binds] at hr
      simp at hr
      replace hK := Lib.hid hK
      rw [ha]
      clear ha
      replace i0 := Lib.hid i0
      replace i1 := Lib.hid i1
      replace i2 := Lib.hid i2
      replace i3 := Lib.hid i3
      go_simp
      refine hK.out _ _ ⟨_, _, _, _, _, _, rfl, i0.out, i1.out, i2.out, i3.out, hL.alloc _, ?_, ?_, ?_, fun _ => rfl, i75⟩
      · intro j
        refine ⟨_, rfl, hL.size, _, _, heap_alloc_new _ _, fun j6 => ?_⟩
        exact absurd ((i64 j6).symm.trans hk) (by simp)
      · intro j
        obtain ⟨k, e1, e2, p, q, e3, e4⟩ := i5 j
        exact ⟨k, e1, e2, p, q, heap_alloc_old _ _ e3, e4⟩
      · intro j j'
        obtain ⟨k, e1, e2, p, q, e3, e4⟩ := i5 j'
        have hlt := (Array.getElem?_eq_some_iff.1 e3).1
        rw [e1]
        intro hh
        simp at hh <;> omega
    · unfold InvStep
      intro g a w' hk hr hI K' hK
      obtain ⟨s8, s9, s21, s22, s23, s24, ha, hI⟩ := hI
      obtain ⟨i0, i1, i2, i3, hL, i4, i5, i45, i64, i75⟩ := hI
      clear hL0
      simp only [Region.binds] at hr
      simp at hr
      replace hK := Lib.hid hK
      rw [ha]
      clear ha
      replace i0 := Lib.hid i0
      replace i1 := Lib.hid i1
      replace i2 := Lib.hid i2
      replace i3 := Lib.hid i3
      go_simp
      refine hK.out _ _ ⟨_, _, _, _, _, _, rfl, i0.out, i1.out, i2.out, i3.out, hL.alloc _, ?_, ?_, ?_, i64, fun _ => rfl⟩
      · intro j
        obtain ⟨k, e1, e2, p, q, e3, e4⟩ := i4 j
        exact ⟨k, e1, e2, p, q, heap_alloc_old _ _ e3, e4⟩
      · intro j
        refine ⟨_, rfl, hL.size, _, _, heap_alloc_new _ _, fun j6 => ?_⟩
        exact absurd ((i75 j6).symm.trans hk) (by simp)
      · intro j j'
        obtain ⟨k, e1, e2, p, q, e3, e4⟩ := i4 j
        have hlt := (Array.getElem?_eq_some_iff.1 e3).1
        rw [e1]
        intro hh
        simp at hh <;> omega
    · unfold InvStep
      intro g a w' hk hr hI K' hK
      obtain ⟨s8, s9, s21, s22, s23, s24, ha, hI⟩ := hI
      obtain ⟨i0, i1, i2, i3, hL, i4, i5, i45, i64, i75⟩ := hI
      clear hL0
      simp only [Region.binds] at hr
      simp at hr
      replace hK := Lib.hid hK
      obtain ⟨k, e1, e2, p, q, e3, -⟩ := i4 hr.1
      have hb2 := blk_at e3
      have c0 := hb2.1
      have f0 := hb2.2.1
      have z0 := hb2.2.2
      clear hb2
      rw [ha, e1, i1 hr.2.1]
      clear ha
      replace i0 := Lib.hid i0
      replace i1 := Lib.hid i1
      replace i2 := Lib.hid i2
      replace i3 := Lib.hid i3
      go_simp
      refine hK.out _ _ ⟨_, _, _, _, _, _, rfl, i0.out, by first | exact i1.out | exact fun _ => rfl, i2.out, by first | exact i3.out | exact fun _ => rfl, (hL.setCell e2 _).setCell e2 _, fun _ => ⟨k, rfl, e2, _, _, two_set e3 _ _, fun _ => ⟨rfl, rfl⟩⟩, ?_, by rw [← e1]; exact i45, fun _ => hr.1, i75⟩
      intro j
      obtain ⟨k', e1', e2', p', q', e3', e4'⟩ := i5 j
      have hne : k' ≠ k := by
        intro hh
        apply i45 hr.1 j
        rw [e1, e1', hh]
      exact ⟨k', e1', e2', p', q', other_set (other_set e3' hne _) hne _, e4'⟩
    · unfold InvStep
      intro g a w' hk hr hI K' hK
      obtain ⟨s8, s9, s21, s22, s23, s24, ha, hI⟩ := hI
      obtain ⟨i0, i1, i2, i3, hL, i4, i5, i45, i64, i75⟩ := hI
      clear hL0
      simp only [Region.binds] at hr
      simp at hr
      replace hK := Lib.hid hK
      obtain ⟨k, e1, e2, p, q, e3, -⟩ := i5 hr.1
      have hb2 := blk_at e3
      have c0 := hb2.1
      have f0 := hb2.2.1
      have z0 := hb2.2.2
      clear hb2
      rw [ha, e1, i3 hr.2.1]
      clear ha
      replace i0 := Lib.hid i0
      replace i1 := Lib.hid i1
      replace i2 := Lib.hid i2
      replace i3 := Lib.hid i3
      go_simp
      refine hK.out _ _ ⟨_, _, _, _, _, _, rfl, i0.out, by first | exact i1.out | exact fun _ => rfl, i2.out, by first | exact i3.out | exact fun _ => rfl, (hL.setCell e2 _).setCell e2 _, ?_, fun _ => ⟨k, rfl, e2, _, _, two_set e3 _ _, fun _ => ⟨rfl, rfl⟩⟩, by rw [← e1]; exact i45, i64, fun _ => hr.1⟩
      intro j
      obtain ⟨k', e1', e2', p', q', e3', e4'⟩ := i4 j
      have hne : k' ≠ k := by
        intro hh
        apply i45 j hr.1
        rw [e1, e1', hh]
      exact ⟨k', e1', e2', p', q', other_set (other_set e3' hne _) hne _, e4'⟩

end Go.Proofs.Ytkoojngonldcbaa
