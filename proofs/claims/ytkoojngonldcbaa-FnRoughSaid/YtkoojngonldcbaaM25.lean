/- DERIVED. Walks: the rough figure of a chain. -/
import Derived.Test.YtkoojngonldcbaaM24
namespace Go.Proofs.Ytkoojngonldcbaa
set_option linter.unusedVariables false
set_option linter.unusedSimpArgs false
open Go.RowKit
set_option maxRecDepth 100000

theorem rough0_of {l : List Trm} {t : Trm} (h : l[0]? = some t) : rough0 l = if cutC t.f = 0 then roughFold (cutR t.f) (l.drop 1) else none := by
  rw [rough0, headF_of h]

set_option maxHeartbeats 4000000 in
theorem w_implRoughChain (v : Value) (l : List Trm) (w : World) (h : IsTrms w v l) :
    Calls Try.prog 34 #[v] w fun e w' => e = .returned (.tuple #[.agg #[.int .i64 (roughChain l).d, .int .i64 (roughChain l).t], .int .i64 (roughC l)]) ∧ Later w w' := by
  cases hc : isChain l
  · have HC := Lib.hid hc
    have HF := Lib.hid (show roughChain l = ⟨0, 0⟩ from by simp [roughChain, hc])
    have HG := Lib.hid (show roughC l = 1 from by simp [roughC, hc])
    clear hc
    go_enter Try.func34, Try.ntmps34
    go_wp2_with fail
    refine (w_implIsChain _ _ _ (h.later ((Later.refl _).alloc _))).mono ?_
    rintro e w1 ⟨rfl, hL⟩
    rw [HC.out]
    obtain ⟨c0, f0, z0⟩ := blk1 hL
    go_wp2
    refine bodyPost_ret (v := .tuple #[.agg #[.int .i64 0, .int .i64 0], .int .i64 1]) (by simp [results, Try.results34, go_sem, c0, z0]) rfl ⟨by rw [HF.out, HG.out], by (repeat (with_reducible first | exact Later.refl _ | refine Later.alloc ?_ _ | refine Later.drew ?_ | refine Later.drewN ?_ _ | refine Later.setCell ?_ (by simp; try omega) _ | refine Later.trans ?_ (by assumption)))⟩
  have h6 := (isChain_true hc).2.1
  have h1 := (isChain_true hc).1
  have HF := Lib.hid (show roughChain l = optF (rough0 l) from by simp [roughChain, hc])
  have HG := Lib.hid (show roughC l = optC (rough0 l) from by simp [roughC, hc])
  have H := Lib.hid h
  obtain ⟨hxl1, hn1, a1, cap1, rfl, hcap1, hmax1, hrow1⟩ := h
  have HR1 := Lib.hid hrow1
  clear hrow1 hxl1
  have hL0 := Later.refl w
  obtain ⟨b1, off1, rfl, hr1⟩ := HR1.out (by omega)
  obtain ⟨t, ht⟩ := get_ex (l := l) (k := 0) (by omega)
  have HT := Lib.hid ht
  have hok : isFig t.f = true := (isChain_true hc).2.2.2 t (List.mem_of_getElem? ht)
  have HK := Lib.hid hok
  have H0 := Lib.hid (rough0_of ht)
  have HC := Lib.hid hc
  clear hc ht hok
  go_enter Try.func34, Try.ntmps34
  go_wp2_with fail
  refine (w_implIsChain _ _ _ (H.out.later ((Later.refl _).alloc _))).mono ?_
  rintro e w1 ⟨rfl, hL⟩
  rw [HC.out]
  have hL1 := ((Later.refl w).alloc (.cells #[.int .i64 0, .int .i64 0] 41)).trans hL
  have hK0 := Lib.hid (kept1 hL)
  have hlt1 := hL.size
  simp only [World.size_alloc] at hlt1
  go_wp2
  go_loopw [16] (fun i wr => ∃ k : Nat, k ≤ l.length ∧ i = .int .i64 k ∧ Later w wr ∧ w1.heap.size < wr.heap.size ∧ wr.heap[w.heap.size]? = some (.cells #[.int .i64 0, .int .i64 0] 41 (0, 0)) ∧ ∃ A : Fig, wr.heap[w1.heap.size]? = some (.cells #[.int .i64 A.d, .int .i64 A.t] 41 (0, 0)) ∧ Hid (k = 0 ∨ (1 ≤ k ∧ roughFold A (l.drop k) = rough0 l ∧ isFig A = true))) (fun i _ => l.length - (intOf i).toNat)
  case atStart => exact ⟨0, Nat.zero_le _, rfl, hL1.alloc _, by simp, heap_alloc_old _ _ hK0.out, ⟨0, 0⟩, heap_alloc_new _ _, .inl rfl⟩
  case round =>
    obtain ⟨k, hk, rfl, hL2, hsz, hres, A, hA, HA⟩ := hrel
    have HRes := Lib.hid hres
    have HAb := Lib.hid hA
    have hne : ¬ w.heap.size = w1.heap.size := by omega
    have hne2 : ¬ w1.heap.size = w.heap.size := by omega
    by_cases hlt : k < l.length
    rotate_left
    · have hE : roughFold A (l.drop k) = rough0 l := by
        rcases HA.out with h0 | h0
        · omega
        · exact h0.2.1
      have HE := Lib.hid (show rough0 l = some A from by
        rw [← hE, List.drop_eq_nil_of_le (by omega)]; rfl)
      obtain ⟨cr, fr, zr⟩ := blk_at hres
      obtain ⟨ca, fa, za⟩ := blk_at hA
      clear hres hA hE
      go_wp2
      refine bodyPost_ret (v := .tuple #[.agg #[.int .i64 A.d, .int .i64 A.t], .int .i64 0]) (by simp [results, Try.results34, go_sem, cr, zr]) rfl ⟨by rw [HF.out, HG.out, HE.out]; rfl, by (repeat (with_reducible first | exact Later.refl _ | refine Later.alloc ?_ _ | refine Later.drew ?_ | refine Later.drewN ?_ _ | refine Later.setCell ?_ (by simp; try omega) _ | refine Later.trans ?_ (by assumption)))⟩
    clear hres hA
    obtain ⟨t', ht'⟩ := get_ex (l := l) (k := k) (by omega)
    have HT2 := Lib.hid ht'
    have HK2 := Lib.hid (show isFig t'.f = true from (isChain_true HC.out).2.2.2 t' (List.mem_of_getElem? ht'))
    have HD := Lib.hid (show l.drop k = t' :: l.drop (k + 1) from drop_get ht')
    have H00 := Lib.hid (show k = 0 → rough0 l = if cutC t'.f = 0 then roughFold (cutR t'.f) (l.drop 1) else none from fun h0 => by subst h0; exact rough0_of HT2.out)
    obtain ⟨c1, c2, c3⟩ := (hr1.later hL2).trm ht'
    have hb1 := (hr1.later hL2).1
    clear ht'
    obtain ⟨F, hF⟩ : ∃ F, cutR t'.f = F := ⟨_, rfl⟩
    have hcc := cut_cases HK2.out
    rw [hF] at hcc
    have HFF := Lib.hid hF
    clear hF
    rcases hcc with ⟨o1, o2⟩ | ⟨o1, o2⟩
    rotate_left
    · have HE := Lib.hid (show rough0 l = none from by
        rcases HA.out with h0 | h0
        · rw [H00.out h0, if_neg (by omega)]
        · rw [← h0.2.1, HD.out, roughFold_1 o1])
      have HO1 := Lib.hid o1
      clear o1
      subst o2
      cases hq : t'.dv
      all_goals
        rw [hq] at c3
        go_wp2_with fail
        refine (w_implRoundFigure1 _ _ _).mono ?_
        rintro e w2 ⟨rfl, hL3⟩
        rw [show cutR ⟨t'.f.d, t'.f.t⟩ = _ from HFF.out, show cutC ⟨t'.f.d, t'.f.t⟩ = _ from HO1.out]
        have hR2 := hL3.keep (heap_alloc_old _ _ HRes.out)
        have hsz3 := hL3.size
        simp only [World.size_alloc] at hsz3
        obtain ⟨cr, fr, zr⟩ := blk_at hR2
        go_wp2
        refine bodyPost_ret (v := .tuple #[.agg #[.int .i64 0, .int .i64 0], .int .i64 3]) (by simp [results, Try.results34, go_sem, cr, zr, hne, hne2]) rfl ⟨by rw [HF.out, HG.out, HE.out]; rfl, by (repeat (with_reducible first | exact Later.refl _ | refine Later.alloc ?_ _ | refine Later.drew ?_ | refine Later.drewN ?_ _ | refine Later.setCell ?_ (by simp; try omega) _ | refine Later.trans ?_ (by assumption)))⟩
    have HO1 := Lib.hid o1
    have HO2 := Lib.hid o2
    clear o1 o2
    by_cases hk0 : k = 0
    · have hE : rough0 l = roughFold F (l.drop 1) := by rw [H00.out hk0, if_pos HO1.out, HFF.out]
      have hid := cut_idem HK2.out HO1.out
      rw [HFF.out] at hid
      have HE := Lib.hid hE
      have HI := Lib.hid hid
      subst hk0
      simp only [Nat.zero_mul, Nat.add_zero] at c1 c2 c3
      clear hE hid
      cases hq : t'.dv
      all_goals
        rw [hq] at c3
        go_wp2_with fail
        refine (w_implRoundFigure1 _ _ _).mono ?_
        rintro e w2 ⟨rfl, hL3⟩
        rw [show cutR ⟨t'.f.d, t'.f.t⟩ = _ from HFF.out, show cutC ⟨t'.f.d, t'.f.t⟩ = _ from HO1.out]
        have hR2 := Lib.hid (hL3.keep (heap_alloc_old _ _ HRes.out))
        have hA2 := Lib.hid (hL3.keep (heap_alloc_old _ _ HAb.out))
        have hsz3 := hL3.size
        simp only [World.size_alloc] at hsz3
        clear c1 c2 c3
        obtain ⟨ca, fa, za⟩ := blk_at hA2.out
        go_wp2_with fail
        refine (w_implRoundFigure1 _ _ _).mono ?_
        rintro e w3 ⟨rfl, hL4⟩
        rw [show cutR ⟨F.d, F.t⟩ = F from HI.out.2, show cutC ⟨F.d, F.t⟩ = _ from HI.out.1]
        have hA3 := Lib.hid (hL4.keep (heap_alloc_old _ _ (two_set hA2.out _ _)))
        have hR3 := Lib.hid (hL4.keep (heap_alloc_old _ _ (other_set (other_set hR2.out (by omega) _) (by omega) _)))
        have hsz4 := hL4.size
        simp only [World.size_alloc, World.size_setCell] at hsz4
        clear ca fa za
        obtain ⟨ca, fa, za⟩ := blk_at hA3.out
        go_wp2
        go_roundw
        case rel => exact ⟨1, by omega, by go_num, by (repeat (with_reducible first | exact Later.refl _ | refine Later.alloc ?_ _ | refine Later.drew ?_ | refine Later.drewN ?_ _ | refine Later.setCell ?_ (by simp; try omega) _ | refine Later.trans ?_ (by assumption))), by simp; omega, other_set (other_set hR3.out (by omega) _) (by omega) _, F, two_set hA3.out _ _, .inr ⟨by omega, HE.out.symm, HO2.out⟩⟩
        case measure => simp [intOf]; omega
    have hA1 := HA.out
    have hA1 : roughFold A (l.drop k) = rough0 l ∧ isFig A = true := by
      rcases hA1 with h0 | h0
      · exact absurd h0 hk0
      · exact h0.2
    have HAR := Lib.hid hA1
    have hkb : ((k : Int) == 0) = false := by simp; omega
    clear hk0 hA1
    cases hq : t'.dv
    · rw [hq] at c3
      have HQ := Lib.hid hq
      have hop := op_cases false HAR.out.2 HO2.out
      simp only [opC, opR, Bool.false_eq_true, if_false, if_true] at hop
      obtain ⟨R, hR⟩ : ∃ R, mulR A F = R := ⟨_, rfl⟩
      rw [hR] at hop
      have HR := Lib.hid hR
      clear hR hq
      rcases hop with ⟨p1, p2⟩ | ⟨p1, p2⟩
      rotate_left
      · have HE := Lib.hid (show rough0 l = none from by
          rw [← HAR.out.1, HD.out, roughFold_2 HO1.out (by rw [HQ.out, HFF.out]; exact p1)])
        have HP1 := Lib.hid p1
        clear p1
        subst p2
        go_wp2_with fail
        refine (w_implRoundFigure1 _ _ _).mono ?_
        rintro e w2 ⟨rfl, hL3⟩
        rw [show cutR ⟨t'.f.d, t'.f.t⟩ = _ from HFF.out, show cutC ⟨t'.f.d, t'.f.t⟩ = _ from HO1.out]
        have hR2 := Lib.hid (hL3.keep (heap_alloc_old _ _ HRes.out))
        have hA2 := Lib.hid (hL3.keep (heap_alloc_old _ _ HAb.out))
        have ht2 := kept1 hL3
        have hsz3 := hL3.size
        simp only [World.size_alloc] at hsz3
        clear c1 c2
        obtain ⟨ca, fa, za⟩ := blk_at hA2.out
        obtain ⟨ct, ft, zt⟩ := blk_at ht2
        clear ht2 c3
        go_wp2_with fail
        refine (w_implMultiplyFigures _ _ _ _ _).mono ?_
        rintro e w3 ⟨rfl, hL4⟩
        rw [show mulR ⟨A.d, A.t⟩ ⟨F.d, F.t⟩ = _ from HR.out, show mulC ⟨A.d, A.t⟩ ⟨F.d, F.t⟩ = _ from HP1.out]
        have hA3 := Lib.hid (hL4.keep (heap_alloc_old _ _ hA2.out))
        have hR3 := Lib.hid (hL4.keep (heap_alloc_old _ _ hR2.out))
        have hsz4 := hL4.size
        simp only [World.size_alloc] at hsz4
        clear ca fa za ct ft zt
        obtain ⟨ca, fa, za⟩ := blk_at hA3.out
        obtain ⟨cr, fr, zr⟩ := blk_at hR3.out
        go_wp2
        refine bodyPost_ret (v := .tuple #[.agg #[.int .i64 0, .int .i64 0], .int .i64 3]) (by simp [results, Try.results34, go_sem, cr, zr, hne, hne2]) rfl ⟨by rw [HF.out, HG.out, HE.out]; rfl, by (repeat (with_reducible first | exact Later.refl _ | refine Later.alloc ?_ _ | refine Later.drew ?_ | refine Later.drewN ?_ _ | refine Later.setCell ?_ (by simp; try omega) _ | refine Later.trans ?_ (by assumption)))⟩
      have HP1 := Lib.hid p1
      have hc2 := cut_cases p2
      obtain ⟨S, hS⟩ : ∃ S, cutR R = S := ⟨_, rfl⟩
      rw [hS] at hc2
      have HS := Lib.hid hS
      clear p1 p2 hS
      rcases hc2 with ⟨r1, r2⟩ | ⟨r1, r2⟩
      rotate_left
      · have HE := Lib.hid (show rough0 l = none from by
          rw [← HAR.out.1, HD.out, roughFold_3 HO1.out (by rw [HQ.out, HFF.out]; exact HP1.out) (by rw [HQ.out, HFF.out]; exact (congrArg cutC HR.out).trans r1)])
        have HV1 := Lib.hid r1
        clear r1
        subst r2
        go_wp2_with fail
        refine (w_implRoundFigure1 _ _ _).mono ?_
        rintro e w2 ⟨rfl, hL3⟩
        rw [show cutR ⟨t'.f.d, t'.f.t⟩ = _ from HFF.out, show cutC ⟨t'.f.d, t'.f.t⟩ = _ from HO1.out]
        have hR2 := Lib.hid (hL3.keep (heap_alloc_old _ _ HRes.out))
        have hA2 := Lib.hid (hL3.keep (heap_alloc_old _ _ HAb.out))
        have ht2 := kept1 hL3
        have hsz3 := hL3.size
        simp only [World.size_alloc] at hsz3
        clear c1 c2
        obtain ⟨ca, fa, za⟩ := blk_at hA2.out
        obtain ⟨ct, ft, zt⟩ := blk_at ht2
        clear ht2 c3
        go_wp2_with fail
        refine (w_implMultiplyFigures _ _ _ _ _).mono ?_
        rintro e w3 ⟨rfl, hL4⟩
        rw [show mulR ⟨A.d, A.t⟩ ⟨F.d, F.t⟩ = _ from HR.out, show mulC ⟨A.d, A.t⟩ ⟨F.d, F.t⟩ = _ from HP1.out]
        have hA3 := Lib.hid (hL4.keep (heap_alloc_old _ _ hA2.out))
        have hR3 := Lib.hid (hL4.keep (heap_alloc_old _ _ hR2.out))
        have hsz4 := hL4.size
        simp only [World.size_alloc] at hsz4
        clear ca fa za ct ft zt
        obtain ⟨ca, fa, za⟩ := blk_at hA3.out
        go_wp2_with fail
        refine (w_implRoundFigure1 _ _ _).mono ?_
        rintro e w4 ⟨rfl, hL5⟩
        rw [show cutR ⟨R.d, R.t⟩ = _ from HS.out, show cutC ⟨R.d, R.t⟩ = _ from HV1.out]
        have hA4 := Lib.hid (hL5.keep (two_set hA3.out _ _))
        have hR4 := Lib.hid (hL5.keep (other_set (other_set hR3.out (by omega) _) (by omega) _))
        have hsz5 := hL5.size
        simp only [World.size_setCell] at hsz5
        clear ca fa za
        obtain ⟨ca, fa, za⟩ := blk_at hA4.out
        obtain ⟨cr, fr, zr⟩ := blk_at hR4.out
        go_wp2
        refine bodyPost_ret (v := .tuple #[.agg #[.int .i64 0, .int .i64 0], .int .i64 3]) (by simp [results, Try.results34, go_sem, cr, zr, hne, hne2]) rfl ⟨by rw [HF.out, HG.out, HE.out]; rfl, by (repeat (with_reducible first | exact Later.refl _ | refine Later.alloc ?_ _ | refine Later.drew ?_ | refine Later.drewN ?_ _ | refine Later.setCell ?_ (by simp; try omega) _ | refine Later.trans ?_ (by assumption)))⟩
      · have HE := Lib.hid (show rough0 l = roughFold S (l.drop (k + 1)) from by
          rw [← HAR.out.1, HD.out, roughFold_go HO1.out (by rw [HQ.out, HFF.out]; exact HP1.out) (by rw [HQ.out, HFF.out]; exact (congrArg cutC HR.out).trans r1), HQ.out, HFF.out]
          exact congrArg (fun x => roughFold x _) ((congrArg cutR HR.out).trans HS.out))
        have HV1 := Lib.hid r1
        have HV2 := Lib.hid r2
        clear r1 r2
        go_wp2_with fail
        refine (w_implRoundFigure1 _ _ _).mono ?_
        rintro e w2 ⟨rfl, hL3⟩
        rw [show cutR ⟨t'.f.d, t'.f.t⟩ = _ from HFF.out, show cutC ⟨t'.f.d, t'.f.t⟩ = _ from HO1.out]
        have hR2 := Lib.hid (hL3.keep (heap_alloc_old _ _ HRes.out))
        have hA2 := Lib.hid (hL3.keep (heap_alloc_old _ _ HAb.out))
        have ht2 := kept1 hL3
        have hsz3 := hL3.size
        simp only [World.size_alloc] at hsz3
        clear c1 c2
        obtain ⟨ca, fa, za⟩ := blk_at hA2.out
        obtain ⟨ct, ft, zt⟩ := blk_at ht2
        clear ht2 c3
        go_wp2_with fail
        refine (w_implMultiplyFigures _ _ _ _ _).mono ?_
        rintro e w3 ⟨rfl, hL4⟩
        rw [show mulR ⟨A.d, A.t⟩ ⟨F.d, F.t⟩ = _ from HR.out, show mulC ⟨A.d, A.t⟩ ⟨F.d, F.t⟩ = _ from HP1.out]
        have hA3 := Lib.hid (hL4.keep (heap_alloc_old _ _ hA2.out))
        have hR3 := Lib.hid (hL4.keep (heap_alloc_old _ _ hR2.out))
        have hsz4 := hL4.size
        simp only [World.size_alloc] at hsz4
        clear ca fa za ct ft zt
        obtain ⟨ca, fa, za⟩ := blk_at hA3.out
        go_wp2_with fail
        refine (w_implRoundFigure1 _ _ _).mono ?_
        rintro e w4 ⟨rfl, hL5⟩
        rw [show cutR ⟨R.d, R.t⟩ = _ from HS.out, show cutC ⟨R.d, R.t⟩ = _ from HV1.out]
        have hA4 := Lib.hid (hL5.keep (two_set hA3.out _ _))
        have hR4 := Lib.hid (hL5.keep (other_set (other_set hR3.out (by omega) _) (by omega) _))
        have hsz5 := hL5.size
        simp only [World.size_setCell] at hsz5
        clear ca fa za
        obtain ⟨ca, fa, za⟩ := blk_at hA4.out
        go_wp2
        go_roundw
        case rel => exact ⟨k + 1, by omega, by go_num, by (repeat (with_reducible first | exact Later.refl _ | refine Later.alloc ?_ _ | refine Later.drew ?_ | refine Later.drewN ?_ _ | refine Later.setCell ?_ (by simp; try omega) _ | refine Later.trans ?_ (by assumption))), by simp; omega, other_set (other_set hR4.out (by omega) _) (by omega) _, S, two_set hA4.out _ _, .inr ⟨by omega, HE.out.symm, HV2.out⟩⟩
        case measure => simp [intOf]; omega
    · rw [hq] at c3
      have HQ := Lib.hid hq
      have hop := op_cases true HAR.out.2 HO2.out
      simp only [opC, opR, Bool.false_eq_true, if_false, if_true] at hop
      obtain ⟨R, hR⟩ : ∃ R, divR A F = R := ⟨_, rfl⟩
      rw [hR] at hop
      have HR := Lib.hid hR
      clear hR hq
      rcases hop with ⟨p1, p2⟩ | ⟨p1, p2⟩
      rotate_left
      · have HE := Lib.hid (show rough0 l = none from by
          rw [← HAR.out.1, HD.out, roughFold_2 HO1.out (by rw [HQ.out, HFF.out]; exact p1)])
        have HP1 := Lib.hid p1
        clear p1
        subst p2
        go_wp2_with fail
        refine (w_implRoundFigure1 _ _ _).mono ?_
        rintro e w2 ⟨rfl, hL3⟩
        rw [show cutR ⟨t'.f.d, t'.f.t⟩ = _ from HFF.out, show cutC ⟨t'.f.d, t'.f.t⟩ = _ from HO1.out]
        have hR2 := Lib.hid (hL3.keep (heap_alloc_old _ _ HRes.out))
        have hA2 := Lib.hid (hL3.keep (heap_alloc_old _ _ HAb.out))
        have ht2 := kept1 hL3
        have hsz3 := hL3.size
        simp only [World.size_alloc] at hsz3
        clear c1 c2
        obtain ⟨ca, fa, za⟩ := blk_at hA2.out
        obtain ⟨ct, ft, zt⟩ := blk_at ht2
        clear ht2 c3
        go_wp2_with fail
        refine (w_implDivideFigures _ _ _ _ _).mono ?_
        rintro e w3 ⟨rfl, hL4⟩
        rw [show divR ⟨A.d, A.t⟩ ⟨F.d, F.t⟩ = _ from HR.out, show divC ⟨A.d, A.t⟩ ⟨F.d, F.t⟩ = _ from HP1.out]
        have hA3 := Lib.hid (hL4.keep (heap_alloc_old _ _ hA2.out))
        have hR3 := Lib.hid (hL4.keep (heap_alloc_old _ _ hR2.out))
        have hsz4 := hL4.size
        simp only [World.size_alloc] at hsz4
        clear ca fa za ct ft zt
        obtain ⟨ca, fa, za⟩ := blk_at hA3.out
        obtain ⟨cr, fr, zr⟩ := blk_at hR3.out
        go_wp2
        refine bodyPost_ret (v := .tuple #[.agg #[.int .i64 0, .int .i64 0], .int .i64 3]) (by simp [results, Try.results34, go_sem, cr, zr, hne, hne2]) rfl ⟨by rw [HF.out, HG.out, HE.out]; rfl, by (repeat (with_reducible first | exact Later.refl _ | refine Later.alloc ?_ _ | refine Later.drew ?_ | refine Later.drewN ?_ _ | refine Later.setCell ?_ (by simp; try omega) _ | refine Later.trans ?_ (by assumption)))⟩
      have HP1 := Lib.hid p1
      have hc2 := cut_cases p2
      obtain ⟨S, hS⟩ : ∃ S, cutR R = S := ⟨_, rfl⟩
      rw [hS] at hc2
      have HS := Lib.hid hS
      clear p1 p2 hS
      rcases hc2 with ⟨r1, r2⟩ | ⟨r1, r2⟩
      rotate_left
      · have HE := Lib.hid (show rough0 l = none from by
          rw [← HAR.out.1, HD.out, roughFold_3 HO1.out (by rw [HQ.out, HFF.out]; exact HP1.out) (by rw [HQ.out, HFF.out]; exact (congrArg cutC HR.out).trans r1)])
        have HV1 := Lib.hid r1
        clear r1
        subst r2
        go_wp2_with fail
        refine (w_implRoundFigure1 _ _ _).mono ?_
        rintro e w2 ⟨rfl, hL3⟩
        rw [show cutR ⟨t'.f.d, t'.f.t⟩ = _ from HFF.out, show cutC ⟨t'.f.d, t'.f.t⟩ = _ from HO1.out]
        have hR2 := Lib.hid (hL3.keep (heap_alloc_old _ _ HRes.out))
        have hA2 := Lib.hid (hL3.keep (heap_alloc_old _ _ HAb.out))
        have ht2 := kept1 hL3
        have hsz3 := hL3.size
        simp only [World.size_alloc] at hsz3
        clear c1 c2
        obtain ⟨ca, fa, za⟩ := blk_at hA2.out
        obtain ⟨ct, ft, zt⟩ := blk_at ht2
        clear ht2 c3
        go_wp2_with fail
        refine (w_implDivideFigures _ _ _ _ _).mono ?_
        rintro e w3 ⟨rfl, hL4⟩
        rw [show divR ⟨A.d, A.t⟩ ⟨F.d, F.t⟩ = _ from HR.out, show divC ⟨A.d, A.t⟩ ⟨F.d, F.t⟩ = _ from HP1.out]
        have hA3 := Lib.hid (hL4.keep (heap_alloc_old _ _ hA2.out))
        have hR3 := Lib.hid (hL4.keep (heap_alloc_old _ _ hR2.out))
        have hsz4 := hL4.size
        simp only [World.size_alloc] at hsz4
        clear ca fa za ct ft zt
        obtain ⟨ca, fa, za⟩ := blk_at hA3.out
        go_wp2_with fail
        refine (w_implRoundFigure1 _ _ _).mono ?_
        rintro e w4 ⟨rfl, hL5⟩
        rw [show cutR ⟨R.d, R.t⟩ = _ from HS.out, show cutC ⟨R.d, R.t⟩ = _ from HV1.out]
        have hA4 := Lib.hid (hL5.keep (two_set hA3.out _ _))
        have hR4 := Lib.hid (hL5.keep (other_set (other_set hR3.out (by omega) _) (by omega) _))
        have hsz5 := hL5.size
        simp only [World.size_setCell] at hsz5
        clear ca fa za
        obtain ⟨ca, fa, za⟩ := blk_at hA4.out
        obtain ⟨cr, fr, zr⟩ := blk_at hR4.out
        go_wp2
        refine bodyPost_ret (v := .tuple #[.agg #[.int .i64 0, .int .i64 0], .int .i64 3]) (by simp [results, Try.results34, go_sem, cr, zr, hne, hne2]) rfl ⟨by rw [HF.out, HG.out, HE.out]; rfl, by (repeat (with_reducible first | exact Later.refl _ | refine Later.alloc ?_ _ | refine Later.drew ?_ | refine Later.drewN ?_ _ | refine Later.setCell ?_ (by simp; try omega) _ | refine Later.trans ?_ (by assumption)))⟩
      · have HE := Lib.hid (show rough0 l = roughFold S (l.drop (k + 1)) from by
          rw [← HAR.out.1, HD.out, roughFold_go HO1.out (by rw [HQ.out, HFF.out]; exact HP1.out) (by rw [HQ.out, HFF.out]; exact (congrArg cutC HR.out).trans r1), HQ.out, HFF.out]
          exact congrArg (fun x => roughFold x _) ((congrArg cutR HR.out).trans HS.out))
        have HV1 := Lib.hid r1
        have HV2 := Lib.hid r2
        clear r1 r2
        go_wp2_with fail
        refine (w_implRoundFigure1 _ _ _).mono ?_
        rintro e w2 ⟨rfl, hL3⟩
        rw [show cutR ⟨t'.f.d, t'.f.t⟩ = _ from HFF.out, show cutC ⟨t'.f.d, t'.f.t⟩ = _ from HO1.out]
        have hR2 := Lib.hid (hL3.keep (heap_alloc_old _ _ HRes.out))
        have hA2 := Lib.hid (hL3.keep (heap_alloc_old _ _ HAb.out))
        have ht2 := kept1 hL3
        have hsz3 := hL3.size
        simp only [World.size_alloc] at hsz3
        clear c1 c2
        obtain ⟨ca, fa, za⟩ := blk_at hA2.out
        obtain ⟨ct, ft, zt⟩ := blk_at ht2
        clear ht2 c3
        go_wp2_with fail
        refine (w_implDivideFigures _ _ _ _ _).mono ?_
        rintro e w3 ⟨rfl, hL4⟩
        rw [show divR ⟨A.d, A.t⟩ ⟨F.d, F.t⟩ = _ from HR.out, show divC ⟨A.d, A.t⟩ ⟨F.d, F.t⟩ = _ from HP1.out]
        have hA3 := Lib.hid (hL4.keep (heap_alloc_old _ _ hA2.out))
        have hR3 := Lib.hid (hL4.keep (heap_alloc_old _ _ hR2.out))
        have hsz4 := hL4.size
        simp only [World.size_alloc] at hsz4
        clear ca fa za ct ft zt
        obtain ⟨ca, fa, za⟩ := blk_at hA3.out
        go_wp2_with fail
        refine (w_implRoundFigure1 _ _ _).mono ?_
        rintro e w4 ⟨rfl, hL5⟩
        rw [show cutR ⟨R.d, R.t⟩ = _ from HS.out, show cutC ⟨R.d, R.t⟩ = _ from HV1.out]
        have hA4 := Lib.hid (hL5.keep (two_set hA3.out _ _))
        have hR4 := Lib.hid (hL5.keep (other_set (other_set hR3.out (by omega) _) (by omega) _))
        have hsz5 := hL5.size
        simp only [World.size_setCell] at hsz5
        clear ca fa za
        obtain ⟨ca, fa, za⟩ := blk_at hA4.out
        go_wp2
        go_roundw
        case rel => exact ⟨k + 1, by omega, by go_num, by (repeat (with_reducible first | exact Later.refl _ | refine Later.alloc ?_ _ | refine Later.drew ?_ | refine Later.drewN ?_ _ | refine Later.setCell ?_ (by simp; try omega) _ | refine Later.trans ?_ (by assumption))), by simp; omega, other_set (other_set hR4.out (by omega) _) (by omega) _, S, two_set hA4.out _ _, .inr ⟨by omega, HE.out.symm, HV2.out⟩⟩
        case measure => simp [intOf]; omega

end Go.Proofs.Ytkoojngonldcbaa
