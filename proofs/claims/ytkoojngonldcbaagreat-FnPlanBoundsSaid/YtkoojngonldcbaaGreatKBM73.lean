/- DERIVED. Walks: digits within a plan's span, the program's. -/
import Derived.Test.YtkoojngonldcbaaGreatKBM72
namespace Go.Proofs.YtkoojngonldcbaaGreat
set_option linter.unusedVariables false
set_option linter.unusedSimpArgs false
open Go.RowKit
set_option maxRecDepth 100000
set_option maxHeartbeats 4000000 in
theorem w_implIsWithin (n : Int) (u v y : Value) (st sd : List Int) (c : List Trm) (ea eb ec : Int) fd ft (w : World) (h : IsNums w u st) (h' : IsNums w v sd) (hy : IsTrms w y c) :
 Calls Tryz.prog 32 #[.agg #[.int .i64 n, u, v], y, .agg #[.int .i64 ea, .int .i64 eb, .int .i64 ec], .agg #[.int .i64 fd, .int .i64 ft]] w fun e w' => e = .returned (.tuple #[.bool (wiB ⟨n, st, sd⟩ c ⟨ea, eb, ec⟩ ⟨fd, ft⟩), .int .i64 (wiC ⟨n, st, sd⟩ c ⟨ea, eb, ec⟩ ⟨fd, ft⟩)]) ∧ Later w w' := by
 have H := Lib.hid h
 have H' := Lib.hid h'
 have HY := Lib.hid hy
 obtain ⟨_, _, au, capu, rfl, _, _, _⟩ := h
 obtain ⟨_, _, av, capv, rfl, _, _, _⟩ := h'
 obtain ⟨_, _, ay, capy, rfl, _, _, _⟩ := hy
 cases hf : isFig ⟨fd, ft⟩
 · have HF := Lib.hid (wi_bad (r := ⟨n, st, sd⟩) (c := c) (e := ⟨ea, eb, ec⟩) hf)
   have HI := Lib.hid hf
   clear hf
   go_enter Tryz.func32, Tryz.ntmps32
   go_wp2_with fail
   refine (w_implIsFigure _ _ _).mono ?_
   rintro e w1 ⟨rfl, hL⟩
   rw [HI.out]
   go_wp2
   go_ret2
   exact ⟨by rw [HF.out.1, HF.out.2]; rfl, qla⟩
 obtain ⟨⟨ld, lt⟩, hPL⟩ : ∃ x, psL ⟨n, st, sd⟩ c ⟨ea, eb, ec⟩ = x := ⟨_, rfl⟩
 obtain ⟨⟨hd, ht⟩, hPH⟩ : ∃ x, psH ⟨n, st, sd⟩ c ⟨ea, eb, ec⟩ = x := ⟨_, rfl⟩
 obtain ⟨X, hX⟩ : ∃ x, psC ⟨n, st, sd⟩ c ⟨ea, eb, ec⟩ = x := ⟨_, rfl⟩
 have HX := Lib.hid hX
 have HLd := Lib.hid (show (psL ⟨n, st, sd⟩ c ⟨ea, eb, ec⟩).d = ld from by rw [hPL])
 have HLt := Lib.hid (show (psL ⟨n, st, sd⟩ c ⟨ea, eb, ec⟩).t = lt from by rw [hPL])
 have HHd := Lib.hid (show (psH ⟨n, st, sd⟩ c ⟨ea, eb, ec⟩).d = hd from by rw [hPH])
 have HHt := Lib.hid (show (psH ⟨n, st, sd⟩ c ⟨ea, eb, ec⟩).t = ht from by rw [hPH])
 have HI := Lib.hid hf
 by_cases h0 : X = 0
 rotate_left
 · have HF := Lib.hid (wi_no hf hX h0)
   have hb : (X != 0) = true := by simp [h0]
   clear hX h0 hPL hPH hf
   go_enter Tryz.func32, Tryz.ntmps32
   go_wp2_with fail
   refine (w_implIsFigure _ _ _).mono ?_
   rintro e w0 ⟨rfl, hLa⟩
   rw [HI.out]
   have HL0 := Lib.hid (((((Later.refl w).alloc _).alloc _).alloc _).trans hLa)
   have HKr := Lib.hid (hLa.keep (heap_alloc_old _ _ (heap_alloc_old _ _ (heap_alloc_new w _))))
   have HKe := Lib.hid (hLa.keep (heap_alloc_old _ _ (heap_alloc_new' (k := w.heap.size + 1) _ _ (by simp))))
   have HKf := Lib.hid (hLa.keep (heap_alloc_new' (k := w.heap.size + 1 + 1) _ _ (by simp)))
   obtain ⟨c0, f0, z0⟩ := blk_at HKr.out
   obtain ⟨c1, f1, z1⟩ := blk_at HKe.out
   clear hLa
   go_wp2_with fail
   refine (w_implPlanSpan _ _ _ _ _ _ _ _ _ _ _ (H.out.later HL0.out) (H'.out.later HL0.out) (HY.out.later HL0.out)).mono ?_
   rintro e w1 ⟨rfl, hL⟩
   rw [HLd.out, HLt.out, HHd.out, HHt.out, HX.out]
   have hLL := HL0.out
   clear c0 f0 z0 c1 f1 z1
   go_wp2
   go_ret2
   exact ⟨by rw [HF.out.1, HF.out.2]; rfl, qla⟩
 subst h0
 obtain ⟨B, hB⟩ : ∃ x, inSpan ⟨ld, lt⟩ ⟨hd, ht⟩ fd = x := ⟨_, rfl⟩
 obtain ⟨Q, hQ⟩ : ∃ x, candT ⟨ld, lt⟩ ⟨hd, ht⟩ fd = x := ⟨_, rfl⟩
 have HWF := Lib.hid (wi_yes hf hX hPL hPH hB)
 have hfg := psC_fig hX
 rw [hPL, hPH] at hfg
 have HG1 := Lib.hid hfg.1
 have HG2 := Lib.hid hfg.2.1
 have hcb := cand_bd hfg.1 hfg.2.1 (isFig_bd hf).1 (isFig_bd hf).2.1
 rw [hB, hQ] at hcb
 have HCb := Lib.hid hcb
 have HB := Lib.hid hB
 have HQ := Lib.hid hQ
 have g1 := isFig_bd hfg.1
 have g2 := isFig_bd hfg.2.1
 have g3 := isFig_bd hf
 have g4 : 10000 * lt + ld ≤ 10000 * ht + hd := hfg.2.2
 simp only at g1 g2 g3
 obtain ⟨l1, l2, l3, l4⟩ := g1
 obtain ⟨m1, m2, m3, m4⟩ := g2
 obtain ⟨n1, n2, n3, n4⟩ := g3
 clear hfg hcb hB hQ hPL hPH
 clear hX hf
 go_enter Tryz.func32, Tryz.ntmps32
 go_wp2_with fail
 refine (w_implIsFigure _ _ _).mono ?_
 rintro e w0 ⟨rfl, hLa⟩
 rw [HI.out]
 have HL0 := Lib.hid (((((Later.refl w).alloc _).alloc _).alloc _).trans hLa)
 have HKr := Lib.hid (hLa.keep (heap_alloc_old _ _ (heap_alloc_old _ _ (heap_alloc_new w _))))
 have HKe := Lib.hid (hLa.keep (heap_alloc_old _ _ (heap_alloc_new' (k := w.heap.size + 1) _ _ (by simp))))
 have HKf := Lib.hid (hLa.keep (heap_alloc_new' (k := w.heap.size + 1 + 1) _ _ (by simp)))
 obtain ⟨c0, f0, z0⟩ := blk_at HKr.out
 obtain ⟨c1, f1, z1⟩ := blk_at HKe.out
 clear hLa
 go_wp2_with fail
 refine (w_implPlanSpan _ _ _ _ _ _ _ _ _ _ _ (H.out.later HL0.out) (H'.out.later HL0.out) (HY.out.later HL0.out)).mono ?_
 rintro e w1 ⟨rfl, hL⟩
 rw [HLd.out, HLt.out, HHd.out, HHt.out, HX.out]
 have hLL := HL0.out
 clear c0 f0 z0 c1 f1 z1
 have HL1 := Lib.hid ((HL0.out.trans hL).alloc (.cells #[.int .i64 ld, .int .i64 lt] 46) |>.alloc (.cells #[.int .i64 hd, .int .i64 ht] 46))
 have HKf1 := Lib.hid (heap_alloc_old _ (.cells #[.int .i64 hd, .int .i64 ht] 46) (heap_alloc_old _ (.cells #[.int .i64 ld, .int .i64 lt] 46) (hL.keep HKf.out)))
 have HKl1 := Lib.hid (heap_alloc_old _ (.cells #[.int .i64 hd, .int .i64 ht] 46) (heap_alloc_new w1 (.cells #[.int .i64 ld, .int .i64 lt] 46)))
 have HKh1 := Lib.hid (heap_alloc_new' (k := w1.heap.size + 1) (w1.alloc (.cells #[.int .i64 ld, .int .i64 lt] 46)) (.cells #[.int .i64 hd, .int .i64 ht] 46) (by simp))
 clear hL
 go_wp2
 go_loopw [13] (fun i wr => ∃ k : Int, i = .int .i64 k ∧ lt ≤ k ∧ k ≤ ht + 1 ∧ Later w wr ∧ wr.heap[w.heap.size + 1 + 1]? = some (.cells #[.int .i64 fd, .int .i64 ft] 46 (0, 0)) ∧ wr.heap[w1.heap.size]? = some (.cells #[.int .i64 ld, .int .i64 lt] 46 (0, 0)) ∧ wr.heap[w1.heap.size + 1]? = some (.cells #[.int .i64 hd, .int .i64 ht] 46 (0, 0)) ∧ Hid (B = true → k ≤ Q)) (fun i _ => (ht + 1 - intOf i).toNat)
 case atStart => exact ⟨_, rfl, by omega, by omega, HL1.out, HKf1.out, HKl1.out, HKh1.out, fun hB => by have := HCb.out hB; omega⟩
 case round =>
  obtain ⟨k, rfl, k1, k2, hLr, hKf, hKl, hKh, HD⟩ := hrel
  have HLr := Lib.hid hLr
  have HKf := Lib.hid hKf
  have HKl := Lib.hid hKl
  have HKh := Lib.hid hKh
  obtain ⟨c0, f0, z0⟩ := blk_at hKf
  obtain ⟨c1, f1, z1⟩ := blk_at hKl
  obtain ⟨c2, f2, z2⟩ := blk_at hKh
  clear hKf hKl hKh hLr
  by_cases hk : k ≤ ht
  · have HG := Lib.hid (show isFig ⟨fd, k⟩ = true from by
     simp only [isFig, Bool.and_eq_true]
     exact ⟨inR_mk (by omega), inR_mk (by omega)⟩)
    obtain ⟨C1, hC1⟩ : ∃ x, cmpF ⟨ld, lt⟩ ⟨fd, k⟩ = x := ⟨_, rfl⟩
    obtain ⟨C2, hC2⟩ : ∃ x, cmpF ⟨fd, k⟩ ⟨hd, ht⟩ = x := ⟨_, rfl⟩
    have i1 := cmpF_le (a := ⟨ld, lt⟩) (b := ⟨fd, k⟩)
    have i2 := cmpF_le (a := ⟨fd, k⟩) (b := ⟨hd, ht⟩)
    rw [hC1] at i1
    rw [hC2] at i2
    have HI1 := Lib.hid i1
    have HI2 := Lib.hid i2
    have HC1 := Lib.hid hC1
    have HC2 := Lib.hid hC2
    clear hC1 hC2 i1 i2
    by_cases p1 : C1 ≤ 0
    · by_cases p2 : C2 ≤ 0
      · have HBt := Lib.hid (show B = true from by rw [← HB.out]; exact inSpan_hit (hitT_iff.2 ⟨HI1.out.1 p1, HI2.out.1 p2⟩))
        go_wp2_with fail
        refine (w_compareFigures _ _ _ _ HG1.out HG.out _).mono ?_
        rintro e w3 ⟨rfl, hL3⟩
        rw [HC1.out]
        have HLy := Lib.hid ((HLr.out.alloc _).trans hL3)
        have HKf3 := Lib.hid (hL3.keep (heap_alloc_old _ _ HKf.out))
        have HKl3 := Lib.hid (hL3.keep (heap_alloc_old _ _ HKl.out))
        have HKh3 := Lib.hid (hL3.keep (heap_alloc_old _ _ HKh.out))
        have HKg3 := Lib.hid (hL3.keep (heap_alloc_new _ _))
        clear hL3 c0 f0 z0 c1 f1 z1 c2 f2 z2
        obtain ⟨c0, f0, z0⟩ := blk_at HKg3.out
        obtain ⟨c2, f2, z2⟩ := blk_at HKh3.out
        go_wp2_with fail
        refine (w_compareFigures _ _ _ _ HG.out HG2.out _).mono ?_
        rintro e w4 ⟨rfl, hL4⟩
        rw [HC2.out]
        have HLz := Lib.hid (HLy.out.trans hL4)
        have HKf4 := Lib.hid (hL4.keep HKf3.out)
        have HKl4 := Lib.hid (hL4.keep HKl3.out)
        have HKh4 := Lib.hid (hL4.keep HKh3.out)
        clear hL4 c0 f0 z0 c2 f2 z2
        have HF := Lib.hid HWF.out
        go_wp2
        go_ret2
        exact ⟨by rw [HF.out.1, HF.out.2, HBt.out]; rfl, HLz.out⟩
      · have HN := Lib.hid (show B = true → k + 1 ≤ Q from fun hB => by
         have h1 := HD.out hB
         by_cases e : k = Q
         · have hh := hitT_iff.1 (inSpan_cand (HB.out.trans hB))
           rw [HQ.out, ← e] at hh
           exact absurd (HI2.out.2 hh.2) p2
         · omega)
        go_wp2_with fail
        refine (w_compareFigures _ _ _ _ HG1.out HG.out _).mono ?_
        rintro e w3 ⟨rfl, hL3⟩
        rw [HC1.out]
        have HLy := Lib.hid ((HLr.out.alloc _).trans hL3)
        have HKf3 := Lib.hid (hL3.keep (heap_alloc_old _ _ HKf.out))
        have HKl3 := Lib.hid (hL3.keep (heap_alloc_old _ _ HKl.out))
        have HKh3 := Lib.hid (hL3.keep (heap_alloc_old _ _ HKh.out))
        have HKg3 := Lib.hid (hL3.keep (heap_alloc_new _ _))
        clear hL3 c0 f0 z0 c1 f1 z1 c2 f2 z2
        obtain ⟨c0, f0, z0⟩ := blk_at HKg3.out
        obtain ⟨c2, f2, z2⟩ := blk_at HKh3.out
        go_wp2_with fail
        refine (w_compareFigures _ _ _ _ HG.out HG2.out _).mono ?_
        rintro e w4 ⟨rfl, hL4⟩
        rw [HC2.out]
        have HLz := Lib.hid (HLy.out.trans hL4)
        have HKf4 := Lib.hid (hL4.keep HKf3.out)
        have HKl4 := Lib.hid (hL4.keep HKl3.out)
        have HKh4 := Lib.hid (hL4.keep HKh3.out)
        clear hL4 c0 f0 z0 c2 f2 z2
        go_wp2
        go_roundw
        case rel => exact ⟨k + 1, rfl, by omega, by omega, HLz.out, HKf4.out, HKl4.out, HKh4.out, HN.out⟩
        case measure => simp [intOf]; omega
    · have HN := Lib.hid (show B = true → k + 1 ≤ Q from fun hB => by
       have h1 := HD.out hB
       by_cases e : k = Q
       · have hh := hitT_iff.1 (inSpan_cand (HB.out.trans hB))
         rw [HQ.out, ← e] at hh
         exact absurd (HI1.out.2 hh.1) p1
       · omega)
      go_wp2_with fail
      refine (w_compareFigures _ _ _ _ HG1.out HG.out _).mono ?_
      rintro e w3 ⟨rfl, hL3⟩
      rw [HC1.out]
      have HLy := Lib.hid ((HLr.out.alloc _).trans hL3)
      have HKf3 := Lib.hid (hL3.keep (heap_alloc_old _ _ HKf.out))
      have HKl3 := Lib.hid (hL3.keep (heap_alloc_old _ _ HKl.out))
      have HKh3 := Lib.hid (hL3.keep (heap_alloc_old _ _ HKh.out))
      clear hL3 c0 f0 z0 c1 f1 z1 c2 f2 z2
      go_wp2
      go_roundw
      case rel => exact ⟨k + 1, rfl, by omega, by omega, HLy.out, HKf3.out, HKl3.out, HKh3.out, HN.out⟩
      case measure => simp [intOf]; omega
  · have HBf := Lib.hid (show B = false from by
     cases hB : B with
     | false => rfl
     | true =>
      have h1 := HD.out hB
      have h2 := HCb.out hB
      omega)
    have HF := Lib.hid HWF.out
    go_wp2
    go_ret2
    exact ⟨by rw [HF.out.1, HF.out.2, HBf.out]; rfl, HLr.out⟩
end Go.Proofs.YtkoojngonldcbaaGreat
