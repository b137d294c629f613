/- DERIVED. Walks: the bound of a plan, digits within its span, errors for a bound. -/
import Derived.Test.YtkoojngonldcbaaGreatKGM71
namespace Go.Proofs.YtkoojngonldcbaaGreat
set_option linter.unusedVariables false
set_option linter.unusedSimpArgs false
open Go.RowKit
set_option maxRecDepth 100000
theorem psC_fig {r : Rul} {c : List Trm} {e : Ers} (h : psC r c e = 0) : isFig (psL r c e) = true ∧ isFig (psH r c e) = true ∧ keyF (psL r c e) ≤ keyF (psH r c e) := by
 obtain ⟨h1, h2⟩ := psC_0 h
 have hq := codeBound_0 h1
 have hr := codePlan_0 hq.2
 have hln := isRule_len hr.1
 have hu := unP_bd (c := c) hq.1 hln.1 (planL_len (r := r) hr.2.2 hr.2.1)
 have e1 : psL r c e = spanL (planI r c e) := by unfold psL; rw [if_pos h1]
 have e2 : psH r c e = spanH (planI r c e) := by unfold psH; rw [if_pos h1]
 obtain ⟨a1, a2, _, _⟩ := spanC_0 h2
 rw [e1, e2]
 exact ⟨a1, a2, span_le (resI_le hr.2.1 hu.1) h2⟩
theorem pb_no {r : Rul} {c : List Trm} {e : Ers} {X : Int} (h : psC r c e = X) (h0 : X ≠ 0) : pbV r c e = 0 ∧ pbC r c e = X := by
 unfold pbV pbC
 rw [h, if_neg h0, if_neg h0]
 exact ⟨rfl, rfl⟩
theorem pb_yes {r : Rul} {c : List Trm} {e : Ers} {L H : Fig} (h : psC r c e = 0) (hL : psL r c e = L) (hH : psH r c e = H) : pbV r c e = relV H L ∧ pbC r c e = relC H L := by
 unfold pbV pbC
 rw [h, if_pos rfl, if_pos rfl, hL, hH]
 exact ⟨rfl, rfl⟩
theorem ps_of {r : Rul} {c : List Trm} {e : Ers} (h : codeBound r c e = 0) : psC r c e = spanC (planI r c e) ∧ psL r c e = spanL (planI r c e) ∧ psH r c e = spanH (planI r c e) := by
 unfold psC psL psH
 rw [if_pos h, if_pos h, if_pos h]
 exact ⟨rfl, rfl, rfl⟩
def mostI (r : Rul) (c : List Trm) (e : Ers) (b k : Int) : Int := if k < 0 then -1 else mostE r c e b k.toNat
theorem mostE_yes {r : Rul} {c : List Trm} {e : Ers} {b : Int} : ∀ n : Nat, keepsE r c e b (n : Int) = true → mostE r c e b n = n
 | 0, h => by rw [mostE, if_pos (by simpa using h)]; rfl
 | n + 1, h => by rw [mostE, if_pos h]
theorem mostE_no {r : Rul} {c : List Trm} {e : Ers} {b : Int} (n : Nat) (h : keepsE r c e b ((n + 1 : Nat) : Int) = false) : mostE r c e b (n + 1) = mostE r c e b n := by
 rw [mostE, if_neg (by rw [h]; exact Bool.false_ne_true)]
theorem mostE_no0 {r : Rul} {c : List Trm} {e : Ers} {b : Int} (h : keepsE r c e b 0 = false) : mostE r c e b 0 = -1 := by
 rw [mostE, if_neg (by rw [h]; exact Bool.false_ne_true)]
theorem mostI_nat {r : Rul} {c : List Trm} {e : Ers} {b : Int} (n : Nat) : mostI r c e b (n : Int) = mostE r c e b n := by
 unfold mostI
 rw [if_neg (by omega), Int.toNat_natCast]
theorem mostI_yes {r : Rul} {c : List Trm} {e : Ers} {b k : Int} (h0 : 0 ≤ k) (h : keepsE r c e b k = true) : mostI r c e b k = k := by
 obtain ⟨n, rfl⟩ := Int.eq_ofNat_of_zero_le h0
 rw [mostI_nat, mostE_yes n h]
theorem mostI_neg {r : Rul} {c : List Trm} {e : Ers} {b k : Int} (h0 : k < 0) : mostI r c e b k = -1 := if_pos h0
theorem mostI_no {r : Rul} {c : List Trm} {e : Ers} {b k : Int} (h0 : 0 ≤ k) (h : keepsE r c e b k = false) : mostI r c e b k = mostI r c e b (k - 1) := by
 obtain ⟨n, rfl⟩ := Int.eq_ofNat_of_zero_le h0
 rw [mostI_nat]
 cases n with
 | zero => rw [mostE_no0 h, mostI_neg (by omega)]
 | succ m => rw [mostE_no m h, show (((m + 1 : Nat) : Int) - 1) = (m : Int) by omega, mostI_nat]
theorem mostI_20 {r : Rul} {c : List Trm} {e : Ers} {b : Int} : mostI r c e b 20 = mostE r c e b 20 := mostI_nat 20
theorem ef_no {r : Rul} {c : List Trm} {e : Ers} {b X : Int} (h : codeBound r c e = X) (h0 : X ≠ 0) : efC r c e b = X ∧ efV r c e b = 0 := by
 have e1 : efC r c e b = X := by unfold efC; rw [h, if_neg h0]
 exact ⟨e1, by unfold efV; rw [e1, if_neg h0]⟩
theorem ef_2 {r : Rul} {c : List Trm} {e : Ers} {b : Int} (h : codeBound r c e = 0) (hr : inR b 0 1000000 = false) : efC r c e b = 2 ∧ efV r c e b = 0 := by
 have e1 : efC r c e b = 2 := by unfold efC; rw [if_pos h, if_neg (by rw [hr]; exact Bool.false_ne_true)]
 exact ⟨e1, by unfold efV; rw [e1, if_neg (by omega)]⟩
theorem ef_4 {r : Rul} {c : List Trm} {e : Ers} {b : Int} (h : codeBound r c e = 0) (hr : inR b 0 1000000 = true) (hm : mostI r c e b 20 = -1) : efC r c e b = 4 ∧ efV r c e b = 0 := by
 rw [mostI_20] at hm
 have e1 : efC r c e b = 4 := by unfold efC; rw [if_pos h, if_pos hr, if_pos (by rw [hm]; omega)]
 exact ⟨e1, by unfold efV; rw [e1, if_neg (by omega)]⟩
theorem ef_0 {r : Rul} {c : List Trm} {e : Ers} {b k : Int} (h : codeBound r c e = 0) (hr : inR b 0 1000000 = true) (hk : 0 ≤ k) (hm : mostI r c e b 20 = k) : efC r c e b = 0 ∧ efV r c e b = k := by
 rw [mostI_20] at hm
 have e1 : efC r c e b = 0 := by unfold efC; rw [if_pos h, if_pos hr, if_neg (by rw [hm]; omega)]
 exact ⟨e1, by unfold efV; rw [if_pos e1, hm]⟩
set_option maxHeartbeats 2000000 in
theorem w_implPlanBound (n : Int) (u v y : Value) (st sd : List Int) (c : List Trm) (ea eb ec : Int) (w : World) (h : IsNums w u st) (h' : IsNums w v sd) (hy : IsTrms w y c) :
 Calls Tryz.prog 43 #[.agg #[.int .i64 n, u, v], y, .agg #[.int .i64 ea, .int .i64 eb, .int .i64 ec]] w fun e w' => e = .returned (.tuple #[.int .i64 (pbV ⟨n, st, sd⟩ c ⟨ea, eb, ec⟩), .int .i64 (pbC ⟨n, st, sd⟩ c ⟨ea, eb, ec⟩)]) ∧ Later w w' := by
 have H := Lib.hid h
 have H' := Lib.hid h'
 have HY := Lib.hid hy
 obtain ⟨_, _, au, capu, rfl, _, _, _⟩ := h
 obtain ⟨_, _, av, capv, rfl, _, _, _⟩ := h'
 obtain ⟨_, _, ay, capy, rfl, _, _, _⟩ := hy
 obtain ⟨⟨ld, lt⟩, hPL⟩ : ∃ x, psL ⟨n, st, sd⟩ c ⟨ea, eb, ec⟩ = x := ⟨_, rfl⟩
 obtain ⟨⟨hd, ht⟩, hPH⟩ : ∃ x, psH ⟨n, st, sd⟩ c ⟨ea, eb, ec⟩ = x := ⟨_, rfl⟩
 obtain ⟨X, hX⟩ : ∃ x, psC ⟨n, st, sd⟩ c ⟨ea, eb, ec⟩ = x := ⟨_, rfl⟩
 have HX := Lib.hid hX
 have HLd := Lib.hid (show (psL ⟨n, st, sd⟩ c ⟨ea, eb, ec⟩).d = ld from by rw [hPL])
 have HLt := Lib.hid (show (psL ⟨n, st, sd⟩ c ⟨ea, eb, ec⟩).t = lt from by rw [hPL])
 have HHd := Lib.hid (show (psH ⟨n, st, sd⟩ c ⟨ea, eb, ec⟩).d = hd from by rw [hPH])
 have HHt := Lib.hid (show (psH ⟨n, st, sd⟩ c ⟨ea, eb, ec⟩).t = ht from by rw [hPH])
 by_cases h0 : X = 0
 rotate_left
 · have HF := Lib.hid (pb_no hX h0)
   have hb : (X != 0) = true := by simp [h0]
   clear hX h0 hPL hPH
   go_enter Tryz.func43, Tryz.ntmps43
   go_wp2_with fail
   refine (w_implPlanSpan _ _ _ _ _ _ _ _ _ _ _ (H.out.later (((Later.refl _).alloc _).alloc _)) (H'.out.later (((Later.refl _).alloc _).alloc _)) (HY.out.later (((Later.refl _).alloc _).alloc _))).mono ?_
   rintro e w1 ⟨rfl, hL⟩
   rw [HLd.out, HLt.out, HHd.out, HHt.out, HX.out]
   go_wp2
   go_ret2
   exact ⟨by rw [HF.out.1, HF.out.2]; rfl, qla⟩
 · subst h0
   have HF := Lib.hid (pb_yes hX hPL hPH)
   have hfg := psC_fig hX
   rw [hPL, hPH] at hfg
   have HG1 := Lib.hid hfg.1
   have HG2 := Lib.hid hfg.2.1
   have HG3 := Lib.hid hfg.2.2
   clear hX hPL hPH hfg
   go_enter Tryz.func43, Tryz.ntmps43
   go_wp2_with fail
   refine (w_implPlanSpan _ _ _ _ _ _ _ _ _ _ _ (H.out.later (((Later.refl _).alloc _).alloc _)) (H'.out.later (((Later.refl _).alloc _).alloc _)) (HY.out.later (((Later.refl _).alloc _).alloc _))).mono ?_
   rintro e w1 ⟨rfl, hL⟩
   rw [HLd.out, HLt.out, HHd.out, HHt.out, HX.out]
   go_wp2_with fail
   refine (w_relativeError _ _ _ _ HG2.out HG1.out _).mono ?_
   rintro e w2 ⟨rfl, hL2⟩
   go_wp2
   go_ret2
   exact ⟨by rw [HF.out.1, HF.out.2]; rfl, qla⟩
set_option maxHeartbeats 2000000 in
theorem w_l15Bound (n : Int) (u v y : Value) (st sd : List Int) (c : List Trm) (ea eb ec : Int) (w : World) (h : IsNums w u st) (h' : IsNums w v sd) (hy : IsTrms w y c) (hC : hasI st 0 = true ∧ hasI sd 0 = true) (hc : isChain c = true) (he : isErs ⟨ea, eb, ec⟩ = true) (h1 : 1 ≤ n) (h2 : n ≤ 100000) (hB : codeBound ⟨n, st, sd⟩ c ⟨ea, eb, ec⟩ = 0) :
 Calls Tryz.prog 97 #[.agg #[.int .i64 n, u, v], y, .agg #[.int .i64 ea, .int .i64 eb, .int .i64 ec]] w fun e w' => e = .returned (.tuple #[.int .i64 (pbV ⟨n, st, sd⟩ c ⟨ea, eb, ec⟩), .int .i64 (pbC ⟨n, st, sd⟩ c ⟨ea, eb, ec⟩)]) ∧ Later w w' := by
 have H := Lib.hid h
 have H' := Lib.hid h'
 have HY := Lib.hid hy
 obtain ⟨_, _, au, capu, rfl, _, _, _⟩ := h
 obtain ⟨_, _, av, capv, rfl, _, _, _⟩ := h'
 obtain ⟨_, _, ay, capy, rfl, _, _, _⟩ := hy
 obtain ⟨⟨ld, lt⟩, hPL⟩ : ∃ x, psL ⟨n, st, sd⟩ c ⟨ea, eb, ec⟩ = x := ⟨_, rfl⟩
 obtain ⟨⟨hd, ht⟩, hPH⟩ : ∃ x, psH ⟨n, st, sd⟩ c ⟨ea, eb, ec⟩ = x := ⟨_, rfl⟩
 obtain ⟨X, hX⟩ : ∃ x, psC ⟨n, st, sd⟩ c ⟨ea, eb, ec⟩ = x := ⟨_, rfl⟩
 have HX := Lib.hid hX
 have HLd := Lib.hid (show (psL ⟨n, st, sd⟩ c ⟨ea, eb, ec⟩).d = ld from by rw [hPL])
 have HLt := Lib.hid (show (psL ⟨n, st, sd⟩ c ⟨ea, eb, ec⟩).t = lt from by rw [hPL])
 have HHd := Lib.hid (show (psH ⟨n, st, sd⟩ c ⟨ea, eb, ec⟩).d = hd from by rw [hPH])
 have HHt := Lib.hid (show (psH ⟨n, st, sd⟩ c ⟨ea, eb, ec⟩).t = ht from by rw [hPH])
 obtain ⟨S, hS⟩ : ∃ x, resI c (unP n c ⟨ea, eb, ec⟩) = x := ⟨_, rfl⟩
 have hps := ps_of hB
 rw [show planI ⟨n, st, sd⟩ c ⟨ea, eb, ec⟩ = S from hS] at hps
 have HX := Lib.hid (hps.1.symm.trans hX)
 have HLd := Lib.hid (show (spanL S).d = ld from by rw [← hps.2.1, hPL])
 have HLt := Lib.hid (show (spanL S).t = lt from by rw [← hps.2.1, hPL])
 have HHd := Lib.hid (show (spanH S).d = hd from by rw [← hps.2.2, hPH])
 have HHt := Lib.hid (show (spanH S).t = ht from by rw [← hps.2.2, hPH])
 have HS := Lib.hid hS
 have HC := Lib.hid hC
 have HCh := Lib.hid hc
 have HE := Lib.hid he
 clear hC hc he hB hS hps
 by_cases h0 : X = 0
 rotate_left
 · have HF := Lib.hid (pb_no hX h0)
   have hb : (X != 0) = true := by simp [h0]
   clear hX h0 hPL hPH
   go_enter Tryz.func97, Tryz.ntmps97
   go_wp2_with fail
   refine (w_l15Span0 _ _ _ _ _ _ _ _ _ _ _ (H.out.later (((Later.refl _).alloc _).alloc _)) (H'.out.later (((Later.refl _).alloc _).alloc _)) (HY.out.later (((Later.refl _).alloc _).alloc _)) HC.out HCh.out HE.out h1 h2 S HS.out).mono ?_
   rintro e w1 ⟨rfl, hL⟩
   rw [HLd.out, HLt.out, HHd.out, HHt.out, HX.out]
   go_wp2
   go_ret2
   exact ⟨by rw [HF.out.1, HF.out.2]; rfl, qla⟩
 · subst h0
   have HF := Lib.hid (pb_yes hX hPL hPH)
   have hfg := psC_fig hX
   rw [hPL, hPH] at hfg
   have HG1 := Lib.hid hfg.1
   have HG2 := Lib.hid hfg.2.1
   have HG3 := Lib.hid hfg.2.2
   clear hX hPL hPH hfg
   go_enter Tryz.func97, Tryz.ntmps97
   go_wp2_with fail
   refine (w_l15Span0 _ _ _ _ _ _ _ _ _ _ _ (H.out.later (((Later.refl _).alloc _).alloc _)) (H'.out.later (((Later.refl _).alloc _).alloc _)) (HY.out.later (((Later.refl _).alloc _).alloc _)) HC.out HCh.out HE.out h1 h2 S HS.out).mono ?_
   rintro e w1 ⟨rfl, hL⟩
   rw [HLd.out, HLt.out, HHd.out, HHt.out, HX.out]
   go_wp2_with fail
   refine (w_specSpanError _ _ _ _ HG1.out HG2.out HG3.out _).mono ?_
   rintro e w2 ⟨rfl, hL2⟩
   go_wp2
   go_ret2
   exact ⟨by rw [HF.out.1, HF.out.2]; rfl, qla⟩
end Go.Proofs.YtkoojngonldcbaaGreat
