/- DERIVED. Walks: the bound of a plan, digits within its span, errors for a bound. -/
import Derived.Test.YtkoojngonldcbaaGreatKBM71
namespace Go.Proofs.YtkoojngonldcbaaGreat
set_option linter.unusedVariables false
set_option linter.unusedSimpArgs false
open Go.RowKit
set_option maxRecDepth 100000
theorem psC_fig {r : Rul} {c : List Trm} {e : Ers} (h : psC r c e = 0) : isFig (psL r c e) = true ∧ isFig (psH r c e) = true ∧ keyF (psL r c e) ≤ keyF (psH r c e) := by
 obtain ⟨h1, h2⟩ := psC_0 h
 have hq := codeBound_0 h1
 have hr := codePlan_0 hq.2
 have hln := isRule_len hr.1
 have hu := unP_bd (c := c) hq.1 hln.1 (planL_len (r := r) hr.2.2 hr.2.1)
 have e1 : psL r c e = spanL (planI r c e) := by unfold psL; rw [if_pos h1]
 have e2 : psH r c e = spanH (planI r c e) := by unfold psH; rw [if_pos h1]
 obtain ⟨a1, a2, _, _⟩ := spanC_0 h2
 rw [e1, e2]
 exact ⟨a1, a2, span_le (resI_le hr.2.1 hu.1) h2⟩
theorem pb_no {r : Rul} {c : List Trm} {e : Ers} {X : Int} (h : psC r c e = X) (h0 : X ≠ 0) : pbV r c e = 0 ∧ pbC r c e = X := by
 unfold pbV pbC
 rw [h, if_neg h0, if_neg h0]
 exact ⟨rfl, rfl⟩
theorem pb_yes {r : Rul} {c : List Trm} {e : Ers} {L H : Fig} (h : psC r c e = 0) (hL : psL r c e = L) (hH : psH r c e = H) : pbV r c e = relV H L ∧ pbC r c e = relC H L := by
 unfold pbV pbC
 rw [h, if_pos rfl, if_pos rfl, hL, hH]
 exact ⟨rfl, rfl⟩
theorem ps_of {r : Rul} {c : List Trm} {e : Ers} (h : codeBound r c e = 0) : psC r c e = spanC (planI r c e) ∧ psL r c e = spanL (planI r c e) ∧ psH r c e = spanH (planI r c e) := by
 unfold psC psL psH
 rw [if_pos h, if_pos h, if_pos h]
 exact ⟨rfl, rfl, rfl⟩
theorem ps_no {r : Rul} {c : List Trm} {e : Ers} {X : Int} (h : codeBound r c e = X) (h0 : X ≠ 0) : psC r c e = X ∧ pbV r c e = 0 ∧ pbC r c e = X := by
 have e1 : psC r c e = X := by unfold psC; rw [h, if_neg h0]
 exact ⟨e1, pb_no e1 h0⟩
theorem wi_bad {r : Rul} {c : List Trm} {e : Ers} {f : Fig} (h : isFig f = false) : wiC r c e f = 1 ∧ wiB r c e f = false := by
 have e1 : wiC r c e f = 1 := by unfold wiC; rw [if_neg (by simp [h])]
 refine ⟨e1, ?_⟩
 unfold wiB
 rw [e1]
 rfl
theorem wi_no {r : Rul} {c : List Trm} {e : Ers} {f : Fig} {X : Int} (h : isFig f = true) (hX : psC r c e = X) (h0 : X ≠ 0) : wiC r c e f = X ∧ wiB r c e f = false := by
 have e1 : wiC r c e f = X := by unfold wiC; rw [if_pos h, hX]
 refine ⟨e1, ?_⟩
 unfold wiB
 rw [e1, decide_eq_false h0]
 rfl
theorem wi_yes {r : Rul} {c : List Trm} {e : Ers} {f L H : Fig} {B : Bool} (h : isFig f = true) (hX : psC r c e = 0) (hL : psL r c e = L) (hH : psH r c e = H) (hB : inSpan L H f.d = B) : wiC r c e f = 0 ∧ wiB r c e f = B := by
 have e1 : wiC r c e f = 0 := by unfold wiC; rw [if_pos h, hX]
 refine ⟨e1, ?_⟩
 unfold wiB
 rw [e1, hL, hH, hB]
 rfl
set_option maxHeartbeats 2000000 in
theorem w_implPlanBound (n : Int) (u v y : Value) (st sd : List Int) (c : List Trm) (ea eb ec : Int) (w : World) (h : IsNums w u st) (h' : IsNums w v sd) (hy : IsTrms w y c) :
 Calls Tryz.prog 43 #[.agg #[.int .i64 n, u, v], y, .agg #[.int .i64 ea, .int .i64 eb, .int .i64 ec]] w fun e w' => e = .returned (.tuple #[.int .i64 (pbV ⟨n, st, sd⟩ c ⟨ea, eb, ec⟩), .int .i64 (pbC ⟨n, st, sd⟩ c ⟨ea, eb, ec⟩)]) ∧ Later w w' := by
 have H := Lib.hid h
 have H' := Lib.hid h'
 have HY := Lib.hid hy
 obtain ⟨_, _, au, capu, rfl, _, _, _⟩ := h
 obtain ⟨_, _, av, capv, rfl, _, _, _⟩ := h'
 obtain ⟨_, _, ay, capy, rfl, _, _, _⟩ := hy
 obtain ⟨⟨ld, lt⟩, hPL⟩ : ∃ x, psL ⟨n, st, sd⟩ c ⟨ea, eb, ec⟩ = x := ⟨_, rfl⟩
 obtain ⟨⟨hd, ht⟩, hPH⟩ : ∃ x, psH ⟨n, st, sd⟩ c ⟨ea, eb, ec⟩ = x := ⟨_, rfl⟩
 obtain ⟨X, hX⟩ : ∃ x, psC ⟨n, st, sd⟩ c ⟨ea, eb, ec⟩ = x := ⟨_, rfl⟩
 have HX := Lib.hid hX
 have HLd := Lib.hid (show (psL ⟨n, st, sd⟩ c ⟨ea, eb, ec⟩).d = ld from by rw [hPL])
 have HLt := Lib.hid (show (psL ⟨n, st, sd⟩ c ⟨ea, eb, ec⟩).t = lt from by rw [hPL])
 have HHd := Lib.hid (show (psH ⟨n, st, sd⟩ c ⟨ea, eb, ec⟩).d = hd from by rw [hPH])
 have HHt := Lib.hid (show (psH ⟨n, st, sd⟩ c ⟨ea, eb, ec⟩).t = ht from by rw [hPH])
 by_cases h0 : X = 0
 rotate_left
 · have HF := Lib.hid (pb_no hX h0)
   have hb : (X != 0) = true := by simp [h0]
   clear hX h0 hPL hPH
   go_enter Tryz.func43, Tryz.ntmps43
   go_wp2_with fail
   refine (w_implPlanSpan _ _ _ _ _ _ _ _ _ _ _ (H.out.later (((Later.refl _).alloc _).alloc _)) (H'.out.later (((Later.refl _).alloc _).alloc _)) (HY.out.later (((Later.refl _).alloc _).alloc _))).mono ?_
   rintro e w1 ⟨rfl, hL⟩
   rw [HLd.out, HLt.out, HHd.out, HHt.out, HX.out]
   go_wp2
   go_ret2
   exact ⟨by rw [HF.out.1, HF.out.2]; rfl, qla⟩
 · subst h0
   have HF := Lib.hid (pb_yes hX hPL hPH)
   have hfg := psC_fig hX
   rw [hPL, hPH] at hfg
   have HG1 := Lib.hid hfg.1
   have HG2 := Lib.hid hfg.2.1
   have HG3 := Lib.hid hfg.2.2
   clear hX hPL hPH hfg
   go_enter Tryz.func43, Tryz.ntmps43
   go_wp2_with fail
   refine (w_implPlanSpan _ _ _ _ _ _ _ _ _ _ _ (H.out.later (((Later.refl _).alloc _).alloc _)) (H'.out.later (((Later.refl _).alloc _).alloc _)) (HY.out.later (((Later.refl _).alloc _).alloc _))).mono ?_
   rintro e w1 ⟨rfl, hL⟩
   rw [HLd.out, HLt.out, HHd.out, HHt.out, HX.out]
   go_wp2_with fail
   refine (w_relativeError _ _ _ _ HG2.out HG1.out _).mono ?_
   rintro e w2 ⟨rfl, hL2⟩
   go_wp2
   go_ret2
   exact ⟨by rw [HF.out.1, HF.out.2]; rfl, qla⟩
set_option maxHeartbeats 2000000 in
theorem w_l15Bound (n : Int) (u v y : Value) (st sd : List Int) (c : List Trm) (ea eb ec : Int) (w : World) (h : IsNums w u st) (h' : IsNums w v sd) (hy : IsTrms w y c) (hC : hasI st 0 = true ∧ hasI sd 0 = true) (hc : isChain c = true) (he : isErs ⟨ea, eb, ec⟩ = true) (h1 : 1 ≤ n) (h2 : n ≤ 100000) (hB : codeBound ⟨n, st, sd⟩ c ⟨ea, eb, ec⟩ = 0) :
 Calls Tryz.prog 97 #[.agg #[.int .i64 n, u, v], y, .agg #[.int .i64 ea, .int .i64 eb, .int .i64 ec]] w fun e w' => e = .returned (.tuple #[.int .i64 (pbV ⟨n, st, sd⟩ c ⟨ea, eb, ec⟩), .int .i64 (pbC ⟨n, st, sd⟩ c ⟨ea, eb, ec⟩)]) ∧ Later w w' := by
 have H := Lib.hid h
 have H' := Lib.hid h'
 have HY := Lib.hid hy
 obtain ⟨_, _, au, capu, rfl, _, _, _⟩ := h
 obtain ⟨_, _, av, capv, rfl, _, _, _⟩ := h'
 obtain ⟨_, _, ay, capy, rfl, _, _, _⟩ := hy
 obtain ⟨⟨ld, lt⟩, hPL⟩ : ∃ x, psL ⟨n, st, sd⟩ c ⟨ea, eb, ec⟩ = x := ⟨_, rfl⟩
 obtain ⟨⟨hd, ht⟩, hPH⟩ : ∃ x, psH ⟨n, st, sd⟩ c ⟨ea, eb, ec⟩ = x := ⟨_, rfl⟩
 obtain ⟨X, hX⟩ : ∃ x, psC ⟨n, st, sd⟩ c ⟨ea, eb, ec⟩ = x := ⟨_, rfl⟩
 have HX := Lib.hid hX
 have HLd := Lib.hid (show (psL ⟨n, st, sd⟩ c ⟨ea, eb, ec⟩).d = ld from by rw [hPL])
 have HLt := Lib.hid (show (psL ⟨n, st, sd⟩ c ⟨ea, eb, ec⟩).t = lt from by rw [hPL])
 have HHd := Lib.hid (show (psH ⟨n, st, sd⟩ c ⟨ea, eb, ec⟩).d = hd from by rw [hPH])
 have HHt := Lib.hid (show (psH ⟨n, st, sd⟩ c ⟨ea, eb, ec⟩).t = ht from by rw [hPH])
 obtain ⟨S, hS⟩ : ∃ x, resI c (unP n c ⟨ea, eb, ec⟩) = x := ⟨_, rfl⟩
 have hps := ps_of hB
 rw [show planI ⟨n, st, sd⟩ c ⟨ea, eb, ec⟩ = S from hS] at hps
 have HX := Lib.hid (hps.1.symm.trans hX)
 have HLd := Lib.hid (show (spanL S).d = ld from by rw [← hps.2.1, hPL])
 have HLt := Lib.hid (show (spanL S).t = lt from by rw [← hps.2.1, hPL])
 have HHd := Lib.hid (show (spanH S).d = hd from by rw [← hps.2.2, hPH])
 have HHt := Lib.hid (show (spanH S).t = ht from by rw [← hps.2.2, hPH])
 have HS := Lib.hid hS
 have HC := Lib.hid hC
 have HCh := Lib.hid hc
 have HE := Lib.hid he
 clear hC hc he hB hS hps
 by_cases h0 : X = 0
 rotate_left
 · have HF := Lib.hid (pb_no hX h0)
   have hb : (X != 0) = true := by simp [h0]
   clear hX h0 hPL hPH
   go_enter Tryz.func97, Tryz.ntmps97
   go_wp2_with fail
   refine (w_l15Span0 _ _ _ _ _ _ _ _ _ _ _ (H.out.later (((Later.refl _).alloc _).alloc _)) (H'.out.later (((Later.refl _).alloc _).alloc _)) (HY.out.later (((Later.refl _).alloc _).alloc _)) HC.out HCh.out HE.out h1 h2 S HS.out).mono ?_
   rintro e w1 ⟨rfl, hL⟩
   rw [HLd.out, HLt.out, HHd.out, HHt.out, HX.out]
   go_wp2
   go_ret2
   exact ⟨by rw [HF.out.1, HF.out.2]; rfl, qla⟩
 · subst h0
   have HF := Lib.hid (pb_yes hX hPL hPH)
   have hfg := psC_fig hX
   rw [hPL, hPH] at hfg
   have HG1 := Lib.hid hfg.1
   have HG2 := Lib.hid hfg.2.1
   have HG3 := Lib.hid hfg.2.2
   clear hX hPL hPH hfg
   go_enter Tryz.func97, Tryz.ntmps97
   go_wp2_with fail
   refine (w_l15Span0 _ _ _ _ _ _ _ _ _ _ _ (H.out.later (((Later.refl _).alloc _).alloc _)) (H'.out.later (((Later.refl _).alloc _).alloc _)) (HY.out.later (((Later.refl _).alloc _).alloc _)) HC.out HCh.out HE.out h1 h2 S HS.out).mono ?_
   rintro e w1 ⟨rfl, hL⟩
   rw [HLd.out, HLt.out, HHd.out, HHt.out, HX.out]
   go_wp2_with fail
   refine (w_specSpanError _ _ _ _ HG1.out HG2.out HG3.out _).mono ?_
   rintro e w2 ⟨rfl, hL2⟩
   go_wp2
   go_ret2
   exact ⟨by rw [HF.out.1, HF.out.2]; rfl, qla⟩
set_option maxHeartbeats 2000000 in
theorem w_specPlanBound (n : Int) (u v y : Value) (st sd : List Int) (c : List Trm) (ea eb ec : Int) (w : World) (h : IsNums w u st) (h' : IsNums w v sd) (hy : IsTrms w y c) :
 Calls Tryz.prog 48 #[.agg #[.int .i64 n, u, v], y, .agg #[.int .i64 ea, .int .i64 eb, .int .i64 ec]] w fun e w' => e = .returned (.tuple #[.int .i64 (pbV ⟨n, st, sd⟩ c ⟨ea, eb, ec⟩), .int .i64 (pbC ⟨n, st, sd⟩ c ⟨ea, eb, ec⟩)]) ∧ Later w w' := by
 have H := Lib.hid h
 have H' := Lib.hid h'
 have HY := Lib.hid hy
 obtain ⟨_, _, au, capu, rfl, _, _, _⟩ := h
 obtain ⟨_, _, av, capv, rfl, _, _, _⟩ := h'
 obtain ⟨_, _, ay, capy, rfl, _, _, _⟩ := hy
 obtain ⟨X, hX⟩ : ∃ x, codeBound ⟨n, st, sd⟩ c ⟨ea, eb, ec⟩ = x := ⟨_, rfl⟩
 have HX := Lib.hid hX
 by_cases h0 : X = 0
 rotate_left
 · have HF := Lib.hid (ps_no hX h0).2
   have hb : (X != 0) = true := by simp [h0]
   clear hX h0
   go_enter Tryz.func48, Tryz.ntmps48
   go_wp2_with fail
   refine (w_l15Code _ _ _ _ _ _ _ _ _ _ _ (H.out.later (((Later.refl _).alloc _).alloc _)) (H'.out.later (((Later.refl _).alloc _).alloc _)) (HY.out.later (((Later.refl _).alloc _).alloc _))).mono ?_
   rintro e w1 ⟨rfl, hL⟩
   rw [HX.out]
   go_wp2
   go_ret2
   exact ⟨by rw [HF.out.1, HF.out.2]; rfl, qla⟩
 subst h0
 have hq := codeBound_0 hX
 have hr := codePlan_0 hq.2
 have hln := isRule_len hr.1
 have HE := Lib.hid hq.1
 have HC := Lib.hid hr.2.2
 have HCh := Lib.hid hr.2.1
 simp only at hln
 obtain ⟨n1, n2⟩ := hln
 clear hX hq hr
 go_enter Tryz.func48, Tryz.ntmps48
 go_wp2_with fail
 refine (w_l15Code _ _ _ _ _ _ _ _ _ _ _ (H.out.later (((Later.refl _).alloc _).alloc _)) (H'.out.later (((Later.refl _).alloc _).alloc _)) (HY.out.later (((Later.refl _).alloc _).alloc _))).mono ?_
 rintro e w1 ⟨rfl, hL⟩
 rw [HX.out]
 have HL := Lib.hid ((((Later.refl w).alloc _).alloc _).trans hL)
 have hL1 := HL.out
 obtain ⟨⟨c0, f0, z0⟩, ⟨c1, f1, z1⟩⟩ := blk2 hL
 clear hL
 go_wp2_with fail
 refine (w_l15Bound _ _ _ _ _ _ _ _ _ _ _ (H.out.later hL1) (H'.out.later hL1) (HY.out.later hL1) HC.out HCh.out HE.out n1 n2 HX.out).mono ?_
 rintro e w2 ⟨rfl, hL2⟩
 go_wp2
 go_ret2
 exact ⟨rfl, qla⟩
end Go.Proofs.YtkoojngonldcbaaGreat
