/- DERIVED. Walks: the rough figure of a chain, the reference's. -/
import Derived.Test.YtkoojngonldcbaaM25
namespace Go.Proofs.Ytkoojngonldcbaa
set_option linter.unusedVariables false
set_option linter.unusedSimpArgs false
open Go.RowKit
set_option maxRecDepth 100000

set_option maxHeartbeats 4000000 in
theorem w_specRoughChain (v : Value) (l : List Trm) (w : World) (h : IsTrms w v l) :
    Calls Try.prog 35 #[v] w fun e w' => e = .returned (.tuple #[.agg #[.int .i64 (roughChain l).d, .int .i64 (roughChain l).t], .int .i64 (roughC l)]) ∧ Later w w' := by
  cases hc : isChain l
  · have HC := Lib.hid hc
    have HF := Lib.hid (show roughChain l = ⟨0, 0⟩ from by simp [roughChain, hc])
    have HG := Lib.hid (show roughC l = 1 from by simp [roughC, hc])
    clear hc
    go_enter Try.func35, Try.ntmps35
    go_wp2_with fail
    refine (w_specIsChain _ _ _ (h.later ((Later.refl _).alloc _))).mono ?_
    rintro e w1 ⟨rfl, hL⟩
    rw [HC.out]
    obtain ⟨c0, f0, z0⟩ := blk1 hL
    go_wp2
    refine bodyPost_ret (v := .tuple #[.agg #[.int .i64 0, .int .i64 0], .int .i64 1]) (by simp [results, Try.results35, go_sem, c0, z0]) rfl ⟨by rw [HF.out, HG.out], by (repeat (with_reducible first | exact Later.refl _ | refine Later.alloc ?_ _ | refine Later.drew ?_ | refine Later.drewN ?_ _ | refine Later.setCell ?_ (by simp; try omega) _ | refine Later.trans ?_ (by assumption)))⟩
  have h6 := (isChain_true hc).2.1
  have h1 := (isChain_true hc).1
  have HF := Lib.hid (show roughChain l = optF (rough0 l) from by simp [roughChain, hc])
  have HG := Lib.hid (show roughC l = optC (rough0 l) from by simp [roughC, hc])
  have H := Lib.hid h
  obtain ⟨hxl1, hn1, a1, cap1, rfl, hcap1, hmax1, hrow1⟩ := h
  have HR1 := Lib.hid hrow1
  clear hrow1 hxl1
  have hL0 := Later.refl w
  obtain ⟨b1, off1, rfl, hr1⟩ := HR1.out (by omega)
  obtain ⟨t, ht⟩ := get_ex (l := l) (k := 0) (by omega)
  have HT := Lib.hid ht
  have hok : isFig t.f = true := (isChain_true hc).2.2.2 t (List.mem_of_getElem? ht)
  have HK := Lib.hid hok
  have H0 := Lib.hid (rough0_of ht)
  have HC := Lib.hid hc
  clear hc ht hok
  go_enter Try.func35, Try.ntmps35
  go_wp2_with fail
  refine (w_specIsChain _ _ _ (H.out.later ((Later.refl _).alloc _))).mono ?_
  rintro e w1 ⟨rfl, hL⟩
  rw [HC.out]
  have hL1 := ((Later.refl w).alloc (.cells #[.int .i64 0, .int .i64 0] 41)).trans hL
  have hK0 := Lib.hid (kept1 hL)
  have hlt1 := hL.size
  simp only [World.size_alloc] at hlt1
  obtain ⟨F0, hF0⟩ : ∃ F, cutR t.f = F := ⟨_, rfl⟩
  obtain ⟨C0, hC0⟩ : ∃ C, cutC t.f = C := ⟨_, rfl⟩
  have hst : (C0 = 0 ∧ roughFold F0 (l.drop 1) = rough0 l ∧ isFig F0 = true) ∨ (C0 = 3 ∧ rough0 l = none) := by
    have hcc := cut_cases HK.out
    rw [hF0, hC0] at hcc
    rcases hcc with ⟨o1, o2⟩ | ⟨o1, o2⟩
    · exact .inl ⟨o1, by rw [H0.out, hC0, if_pos o1, hF0], o2⟩
    · exact .inr ⟨o1, by rw [H0.out, hC0, if_neg (by omega)]⟩
  have HST := Lib.hid hst
  have HF0 := Lib.hid hF0
  have HC0 := Lib.hid hC0
  clear hst hF0 hC0
  obtain ⟨c1, c2, c3⟩ := (hr1.later hL1).trm HT.out
  have hb1 := (hr1.later hL1).1
  simp only [Nat.zero_mul, Nat.add_zero] at c1 c2 c3
  go_wp2_with fail
  refine (w_specRoundFigure1 _ _ _).mono ?_
  rintro e w2 ⟨rfl, hL5⟩
  rw [show cutR ⟨t.f.d, t.f.t⟩ = _ from HF0.out, show cutC ⟨t.f.d, t.f.t⟩ = _ from HC0.out]
  have hK1 := Lib.hid (hL5.keep hK0.out)
  have hL6 := hL1.trans hL5
  have hsz5 := hL5.size
  clear c1 c2 c3 hb1
  go_wp2
  go_loopw [5, 6] (fun c i wr => ∃ k : Nat, 1 ≤ k ∧ k ≤ l.length ∧ i = .int .i64 k ∧ Later w wr ∧ w2.heap.size < wr.heap.size ∧ wr.heap[w.heap.size]? = some (.cells #[.int .i64 0, .int .i64 0] 41 (0, 0)) ∧ ∃ C : Int, c = .int .i64 C ∧ ∃ A : Fig, wr.heap[w2.heap.size]? = some (.cells #[.int .i64 A.d, .int .i64 A.t] 41 (0, 0)) ∧ Hid ((C = 0 ∧ roughFold A (l.drop k) = rough0 l ∧ isFig A = true) ∨ (C = 3 ∧ rough0 l = none))) (fun _ i _ => l.length - (intOf i).toNat)
  case atStart => exact ⟨1, by omega, by omega, rfl, hL6.alloc _, by simp, heap_alloc_old _ _ hK1.out, C0, rfl, F0, heap_alloc_new _ _, HST.out⟩
  case round =>
    obtain ⟨k, hk1, hk, rfl, hL2, hsz, hres, C, rfl, A, hA, HA⟩ := hrel
    have HRes := Lib.hid hres
    have HAb := Lib.hid hA
    have hne : ¬ w.heap.size = w2.heap.size := by omega
    have hne2 : ¬ w2.heap.size = w.heap.size := by omega
    rcases HA.out with ⟨hC, hA1, hA2⟩ | ⟨hC, hA1⟩
    rotate_left
    · have HE := Lib.hid hA1
      subst hC
      obtain ⟨cr, fr, zr⟩ := blk_at hres
      clear hres hA hA1
      by_cases hlt : k < l.length
      all_goals
        go_wp2
        refine bodyPost_ret (v := .tuple #[.agg #[.int .i64 0, .int .i64 0], .int .i64 3]) (by simp [results, Try.results35, go_sem, cr, zr]) rfl ⟨by rw [HF.out, HG.out, HE.out]; rfl, by (repeat (with_reducible first | exact Later.refl _ | refine Later.alloc ?_ _ | refine Later.drew ?_ | refine Later.drewN ?_ _ | refine Later.setCell ?_ (by simp; try omega) _ | refine Later.trans ?_ (by assumption)))⟩
    subst hC
    by_cases hlt : k < l.length
    rotate_left
    · have HE := Lib.hid (show rough0 l = some A from by
        rw [← hA1, List.drop_eq_nil_of_le (by omega)]; rfl)
      obtain ⟨cr, fr, zr⟩ := blk_at hres
      obtain ⟨ca, fa, za⟩ := blk_at hA
      clear hres hA hA1
      go_wp2
      refine bodyPost_ret (v := .tuple #[.agg #[.int .i64 A.d, .int .i64 A.t], .int .i64 0]) (by simp [results, Try.results35, go_sem, cr, zr]) rfl ⟨by rw [HF.out, HG.out, HE.out]; rfl, by (repeat (with_reducible first | exact Later.refl _ | refine Later.alloc ?_ _ | refine Later.drew ?_ | refine Later.drewN ?_ _ | refine Later.setCell ?_ (by simp; try omega) _ | refine Later.trans ?_ (by assumption)))⟩
    clear hres hA
    have HAR := Lib.hid (And.intro hA1 hA2)
    obtain ⟨t', ht'⟩ := get_ex (l := l) (k := k) (by omega)
    have HT2 := Lib.hid ht'
    have HK2 := Lib.hid (show isFig t'.f = true from (isChain_true HC.out).2.2.2 t' (List.mem_of_getElem? ht'))
    have HD := Lib.hid (show l.drop k = t' :: l.drop (k + 1) from drop_get ht')
    obtain ⟨c1, c2, c3⟩ := (hr1.later hL2).trm ht'
    have hb1 := (hr1.later hL2).1
    clear ht' hA1 hA2
    obtain ⟨F, hF⟩ : ∃ F, cutR t'.f = F := ⟨_, rfl⟩
    obtain ⟨B, hB⟩ : ∃ B, cutC t'.f = B := ⟨_, rfl⟩
    have HFF := Lib.hid hF
    have HBB := Lib.hid hB
    obtain ⟨MR, hMR⟩ : ∃ F', mulR A F = F' := ⟨_, rfl⟩
    obtain ⟨MC, hMC⟩ : ∃ F', mulC A F = F' := ⟨_, rfl⟩
    have HMR := Lib.hid hMR
    have HMC := Lib.hid hMC
    obtain ⟨DR, hDR⟩ : ∃ F', divR A F = F' := ⟨_, rfl⟩
    obtain ⟨DC, hDC⟩ : ∃ F', divC A F = F' := ⟨_, rfl⟩
    have HDR := Lib.hid hDR
    have HDC := Lib.hid hDC
    clear hF hB hMR hMC hDR hDC
    go_wp2_with fail
    refine (w_specRoundFigure1 _ _ _).mono ?_
    rintro e w3 ⟨rfl, hL3⟩
    rw [show cutR ⟨t'.f.d, t'.f.t⟩ = _ from HFF.out, show cutC ⟨t'.f.d, t'.f.t⟩ = _ from HBB.out]
    have hR3 := Lib.hid (hL3.keep HRes.out)
    have hA3 := Lib.hid (hL3.keep HAb.out)
    have hsz3 := hL3.size
    clear c1 c2 c3 hb1
    obtain ⟨ca, fa, za⟩ := blk_at hA3.out
    go_wp2_with fail
    refine (w_specMultiplyFigures _ _ _ _ _).mono ?_
    rintro e w4 ⟨rfl, hL4⟩
    rw [show mulR ⟨A.d, A.t⟩ ⟨F.d, F.t⟩ = _ from HMR.out, show mulC ⟨A.d, A.t⟩ ⟨F.d, F.t⟩ = _ from HMC.out]
    have hR4 := Lib.hid (hL4.keep (heap_alloc_old _ _ hR3.out))
    have hA4 := Lib.hid (hL4.keep (heap_alloc_old _ _ hA3.out))
    have hF4 := Lib.hid (kept1 hL4)
    have hsz4 := hL4.size
    simp only [World.size_alloc] at hsz4
    have hL24 : Later w w4 := by (repeat (with_reducible first | exact Later.refl _ | refine Later.alloc ?_ _ | refine Later.drew ?_ | refine Later.drewN ?_ _ | refine Later.setCell ?_ (by simp; try omega) _ | refine Later.trans ?_ (by assumption)))
    clear ca fa za
    obtain ⟨c1, c2, c3⟩ := (hr1.later hL24).trm HT2.out
    have hb1 := (hr1.later hL24).1
    clear c1 c2
    cases hq : t'.dv
    · rw [hq] at c3
      have HQ := Lib.hid hq
      clear hq
      obtain ⟨cr, fr, zr⟩ := blk_at hR4.out
      have hcc := cut_cases HK2.out
      rw [HFF.out, HBB.out] at hcc
      rcases hcc with ⟨o1, o2⟩ | ⟨o1, o2⟩
      rotate_left
      · have HE := Lib.hid (show rough0 l = none from by rw [← HAR.out.1, HD.out, roughFold_1 (HBB.out.trans o1)])
        have hbn : (B != 0) = true := by simp [o1]
        clear o1 o2
        go_wp2
        refine bodyPost_ret (v := .tuple #[.agg #[.int .i64 0, .int .i64 0], .int .i64 3]) (by simp [results, Try.results35, go_sem, cr, zr]) rfl ⟨by rw [HF.out, HG.out, HE.out]; rfl, by (repeat (with_reducible first | exact Later.refl _ | refine Later.alloc ?_ _ | refine Later.drew ?_ | refine Later.drewN ?_ _ | refine Later.setCell ?_ (by simp; try omega) _ | refine Later.trans ?_ (by assumption)))⟩
      have hbn : (B != 0) = false := by simp [o1]
      have HO1 := Lib.hid (HBB.out.trans o1)
      have hop := op_cases false HAR.out.2 o2
      simp only [opC, opR, Bool.false_eq_true, if_false, if_true] at hop
      rw [HMR.out, HMC.out] at hop
      clear o1 o2
      rcases hop with ⟨p1, p2⟩ | ⟨p1, p2⟩
      rotate_left
      · have HE := Lib.hid (show rough0 l = none from by
          rw [← HAR.out.1, HD.out, roughFold_2 HO1.out (by rw [HQ.out, HFF.out]; exact HMC.out.trans p1)])
        have hwn : (MC != 0) = true := by simp [p1]
        clear p1 p2
        go_wp2
        refine bodyPost_ret (v := .tuple #[.agg #[.int .i64 0, .int .i64 0], .int .i64 3]) (by simp [results, Try.results35, go_sem, cr, zr]) rfl ⟨by rw [HF.out, HG.out, HE.out]; rfl, by (repeat (with_reducible first | exact Later.refl _ | refine Later.alloc ?_ _ | refine Later.drew ?_ | refine Later.drewN ?_ _ | refine Later.setCell ?_ (by simp; try omega) _ | refine Later.trans ?_ (by assumption)))⟩
      have hwn : (MC != 0) = false := by simp [p1]
      have HP1 := Lib.hid (HMC.out.trans p1)
      have hc2 := cut_cases p2
      obtain ⟨S, hS⟩ : ∃ S, cutR MR = S := ⟨_, rfl⟩
      obtain ⟨D, hD⟩ : ∃ S, cutC MR = S := ⟨_, rfl⟩
      rw [hS, hD] at hc2
      have hst : (D = 0 ∧ roughFold S (l.drop (k + 1)) = rough0 l ∧ isFig S = true) ∨ (D = 3 ∧ rough0 l = none) := by
        rcases hc2 with ⟨r1, r2⟩ | ⟨r1, r2⟩
        · refine .inl ⟨r1, ?_, r2⟩
          rw [← HAR.out.1, HD.out, roughFold_go HO1.out (by rw [HQ.out, HFF.out]; exact HP1.out) (by rw [HQ.out, HFF.out]; exact ((congrArg cutC HMR.out).trans hD).trans r1), HQ.out, HFF.out]
          exact congrArg (fun x => roughFold x _) ((congrArg cutR HMR.out).trans hS).symm
        · refine .inr ⟨r1, ?_⟩
          rw [← HAR.out.1, HD.out, roughFold_3 HO1.out (by rw [HQ.out, HFF.out]; exact HP1.out) (by rw [HQ.out, HFF.out]; exact ((congrArg cutC HMR.out).trans hD).trans r1)]
      have HS := Lib.hid hS
      have HDD := Lib.hid hD
      have HST2 := Lib.hid hst
      clear p1 p2 hS hD hst hc2
      go_wp2_with fail
      refine (w_specRoundFigure1 _ _ _).mono ?_
      rintro e w6 ⟨rfl, hL8⟩
      rw [show cutR ⟨MR.d, MR.t⟩ = _ from HS.out, show cutC ⟨MR.d, MR.t⟩ = _ from HDD.out]
      have hA6 := Lib.hid (hL8.keep (heap_alloc_old _ _ hA4.out))
      have hR6 := Lib.hid (hL8.keep (heap_alloc_old _ _ hR4.out))
      have hsz8 := hL8.size
      simp only [World.size_alloc] at hsz8
      clear cr fr zr
      obtain ⟨ca, fa, za⟩ := blk_at hA6.out
      go_wp2
      go_roundw
      case rel => exact ⟨k + 1, by omega, by omega, by go_num, by (repeat (with_reducible first | exact Later.refl _ | refine Later.alloc ?_ _ | refine Later.drew ?_ | refine Later.drewN ?_ _ | refine Later.setCell ?_ (by simp; try omega) _ | refine Later.trans ?_ (by assumption))), by simp; omega, other_set (other_set hR6.out (by omega) _) (by omega) _, D, rfl, S, two_set hA6.out _ _, HST2.out⟩
      case measure => simp [intOf]; omega
    · rw [hq] at c3
      have HQ := Lib.hid hq
      clear hq
      obtain ⟨ca, fa, za⟩ := blk_at hA4.out
      obtain ⟨cf, ff, zf⟩ := blk_at hF4.out
      go_wp2_with fail
      refine (w_specDivideFigures _ _ _ _ _).mono ?_
      rintro e w5 ⟨rfl, hL7⟩
      rw [show divR ⟨A.d, A.t⟩ ⟨F.d, F.t⟩ = _ from HDR.out, show divC ⟨A.d, A.t⟩ ⟨F.d, F.t⟩ = _ from HDC.out]
      have hR5 := Lib.hid (hL7.keep (heap_alloc_old _ _ hR4.out))
      have hA5 := Lib.hid (hL7.keep (heap_alloc_old _ _ hA4.out))
      have hN5 := Lib.hid (kept1 hL7)
      have hsz7 := hL7.size
      simp only [World.size_alloc] at hsz7
      have hne3 : ¬ w4.heap.size = w2.heap.size := by omega
      have hne4 : ¬ w4.heap.size = w.heap.size := by omega
      have hne5 : ¬ w2.heap.size = w4.heap.size := by omega
      have hne6 : ¬ w.heap.size = w4.heap.size := by omega
      clear ca fa za cf ff zf c3
      obtain ⟨cr, fr, zr⟩ := blk_at hR5.out
      obtain ⟨cn, fn, zn⟩ := blk_at hN5.out
      have hcc := cut_cases HK2.out
      rw [HFF.out, HBB.out] at hcc
      rcases hcc with ⟨o1, o2⟩ | ⟨o1, o2⟩
      rotate_left
      · have HE := Lib.hid (show rough0 l = none from by rw [← HAR.out.1, HD.out, roughFold_1 (HBB.out.trans o1)])
        have hbn : (B != 0) = true := by simp [o1]
        clear o1 o2
        go_wp2
        refine bodyPost_ret (v := .tuple #[.agg #[.int .i64 0, .int .i64 0], .int .i64 3]) (by simp [results, Try.results35, go_sem, cr, zr]) rfl ⟨by rw [HF.out, HG.out, HE.out]; rfl, by (repeat (with_reducible first | exact Later.refl _ | refine Later.alloc ?_ _ | refine Later.drew ?_ | refine Later.drewN ?_ _ | refine Later.setCell ?_ (by simp; try omega) _ | refine Later.trans ?_ (by assumption)))⟩
      have hbn : (B != 0) = false := by simp [o1]
      have HO1 := Lib.hid (HBB.out.trans o1)
      have hop := op_cases true HAR.out.2 o2
      simp only [opC, opR, Bool.false_eq_true, if_false, if_true] at hop
      rw [HDR.out, HDC.out] at hop
      clear o1 o2
      rcases hop with ⟨p1, p2⟩ | ⟨p1, p2⟩
      rotate_left
      · have HE := Lib.hid (show rough0 l = none from by
          rw [← HAR.out.1, HD.out, roughFold_2 HO1.out (by rw [HQ.out, HFF.out]; exact HDC.out.trans p1)])
        have hwn : (DC != 0) = true := by simp [p1]
        clear p1 p2
        go_wp2
        refine bodyPost_ret (v := .tuple #[.agg #[.int .i64 0, .int .i64 0], .int .i64 3]) (by simp [results, Try.results35, go_sem, cr, zr]) rfl ⟨by rw [HF.out, HG.out, HE.out]; rfl, by (repeat (with_reducible first | exact Later.refl _ | refine Later.alloc ?_ _ | refine Later.drew ?_ | refine Later.drewN ?_ _ | refine Later.setCell ?_ (by simp; try omega) _ | refine Later.trans ?_ (by assumption)))⟩
      have hwn : (DC != 0) = false := by simp [p1]
      have HP1 := Lib.hid (HDC.out.trans p1)
      have hc2 := cut_cases p2
      obtain ⟨S, hS⟩ : ∃ S, cutR DR = S := ⟨_, rfl⟩
      obtain ⟨D, hD⟩ : ∃ S, cutC DR = S := ⟨_, rfl⟩
      rw [hS, hD] at hc2
      have hst : (D = 0 ∧ roughFold S (l.drop (k + 1)) = rough0 l ∧ isFig S = true) ∨ (D = 3 ∧ rough0 l = none) := by
        rcases hc2 with ⟨r1, r2⟩ | ⟨r1, r2⟩
        · refine .inl ⟨r1, ?_, r2⟩
          rw [← HAR.out.1, HD.out, roughFold_go HO1.out (by rw [HQ.out, HFF.out]; exact HP1.out) (by rw [HQ.out, HFF.out]; exact ((congrArg cutC HDR.out).trans hD).trans r1), HQ.out, HFF.out]
          exact congrArg (fun x => roughFold x _) ((congrArg cutR HDR.out).trans hS).symm
        · refine .inr ⟨r1, ?_⟩
          rw [← HAR.out.1, HD.out, roughFold_3 HO1.out (by rw [HQ.out, HFF.out]; exact HP1.out) (by rw [HQ.out, HFF.out]; exact ((congrArg cutC HDR.out).trans hD).trans r1)]
      have HS := Lib.hid hS
      have HDD := Lib.hid hD
      have HST2 := Lib.hid hst
      clear p1 p2 hS hD hst hc2
      go_wp2_with fail
      refine (w_specRoundFigure1 _ _ _).mono ?_
      rintro e w6 ⟨rfl, hL8⟩
      rw [show cutR ⟨DR.d, DR.t⟩ = _ from HS.out, show cutC ⟨DR.d, DR.t⟩ = _ from HDD.out]
      have hA6 := Lib.hid (hL8.keep (other_set (other_set hA5.out (by omega) _) (by omega) _))
      have hR6 := Lib.hid (hL8.keep (other_set (other_set hR5.out (by omega) _) (by omega) _))
      have hsz8 := hL8.size
      simp only [World.size_setCell] at hsz8
      clear cr fr zr
      obtain ⟨ca, fa, za⟩ := blk_at hA6.out
      go_wp2
      go_roundw
      case rel => exact ⟨k + 1, by omega, by omega, by go_num, by (repeat (with_reducible first | exact Later.refl _ | refine Later.alloc ?_ _ | refine Later.drew ?_ | refine Later.drewN ?_ _ | refine Later.setCell ?_ (by simp; try omega) _ | refine Later.trans ?_ (by assumption))), by simp; omega, other_set (other_set hR6.out (by omega) _) (by omega) _, D, rfl, S, two_set hA6.out _ _, HST2.out⟩
      case measure => simp [intOf]; omega

end Go.Proofs.Ytkoojngonldcbaa
