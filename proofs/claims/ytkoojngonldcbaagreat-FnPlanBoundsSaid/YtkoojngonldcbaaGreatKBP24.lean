/- DERIVED. Walks: CompareFigures, between. -/
import Derived.Test.YtkoojngonldcbaaGreatKBM69
import Derived.Test.YtkoojngonldcbaaGreatKBM30a
import Derived.Test.YtkoojngonldcbaaGreatKBM22
import Derived.Test.YtkoojngonldcbaaGreatKBPA
import Derived.Test.YtkoojngonldcbaaGreatKBP11
namespace Go.Proofs.YtkoojngonldcbaaGreat
set_option linter.unusedVariables false
set_option linter.unusedSimpArgs false
open Go.RowKit
set_option maxRecDepth 100000
theorem w_CompareFigures (a b c d : Int) (w : World) (h : isFig ⟨a, b⟩ = true) (h' : isFig ⟨c, d⟩ = true) :
 Calls Tryz.prog 106 #[.agg #[.int .i64 a, .int .i64 b], .agg #[.int .i64 c, .int .i64 d]] w fun e w' => e = .returned (.tuple #[.int .i64 (cmpF ⟨a, b⟩ ⟨c, d⟩), .int .i64 0]) ∧ Later w w' := by
 have HH := Lib.hid (show ([⟨a, b⟩, ⟨c, d⟩] : List Fig).all isFig = true from by simp [h, h'])
 have H1 := Lib.hid h
 have H2 := Lib.hid h'
 clear h h'
 go_enter Tryz.func106, Tryz.ntmps106
 go_wp2_with fail
 refine (w_areFigures _ [⟨a, b⟩, ⟨c, d⟩] _ (figs_lit _ (heap_alloc_new' _ _ (by simp)) rfl (by simp))).mono ?_
 rintro e w1 ⟨rfl, hL⟩
 rw [HH.out]
 obtain ⟨K0, K1, -⟩ := kept3 hL
 obtain ⟨c0, f0, z0⟩ := blk_at K0
 obtain ⟨c1, f1, z1⟩ := blk_at K1
 clear K0 K1
 go_wp2_with fail
 refine (w_compareFigures _ _ _ _ H1.out H2.out _).mono ?_
 rintro e w2 ⟨rfl, hL2⟩
 go_wp2
 go_ret2
 exact ⟨rfl, qla⟩
set_option maxHeartbeats 1000000 in
theorem w_between (a b c d e f : Int) (w : World) (h1 : isFig ⟨a, b⟩ = true) (h2 : isFig ⟨c, d⟩ = true) (h3 : isFig ⟨e, f⟩ = true) (k1 : cmpF ⟨a, b⟩ ⟨c, d⟩ ≤ 0) (k2 : cmpF ⟨c, d⟩ ⟨e, f⟩ ≤ 0) :
 Calls Tryz.prog 52 #[.agg #[.int .i64 a, .int .i64 b], .agg #[.int .i64 c, .int .i64 d], .agg #[.int .i64 e, .int .i64 f]] w fun e w' => e = .returned (.bool true) ∧ Later w w' := by
 have H1 := Lib.hid h1
 have H2 := Lib.hid h2
 have H3 := Lib.hid h3
 have K1 : decide (cmpF ⟨a, b⟩ ⟨c, d⟩ ≤ 0) = true := by simpa using k1
 have K2 : decide (cmpF ⟨c, d⟩ ⟨e, f⟩ ≤ 0) = true := by simpa using k2
 obtain ⟨X, hX⟩ : ∃ x, cmpF ⟨a, b⟩ ⟨c, d⟩ = x := ⟨_, rfl⟩
 obtain ⟨Y, hY⟩ : ∃ x, cmpF ⟨c, d⟩ ⟨e, f⟩ = x := ⟨_, rfl⟩
 rw [hX] at K1
 rw [hY] at K2
 have HX := Lib.hid hX
 have HY := Lib.hid hY
 clear h1 h2 h3 k1 k2 hX hY
 go_enter Tryz.func52, Tryz.ntmps52
 go_wp2_with fail
 refine (w_CompareFigures _ _ _ _ _ H1.out H2.out).mono ?_
 rintro e w1 ⟨rfl, hL⟩
 rw [HX.out]
 obtain ⟨J0, J1, J2⟩ := kept3 hL
 have HLw := Lib.hid (((((Later.refl w).alloc _).alloc _).alloc _).trans hL)
 have HJ1 := Lib.hid J1
 have HJ2 := Lib.hid J2
 clear J0 J1 J2 hL
 obtain ⟨c1, f1, z1⟩ := blk_at HJ1.out
 obtain ⟨c2, f2, z2⟩ := blk_at HJ2.out
 go_wp2_with fail
 refine (w_CompareFigures _ _ _ _ _ H2.out H3.out).mono ?_
 rintro e w2 ⟨rfl, hL2⟩
 rw [HY.out]
 go_wp2
 go_ret
 exact ⟨rfl, HLw.out.trans hL2⟩
end Go.Proofs.YtkoojngonldcbaaGreat
namespace Go.Proofs.YtkoojngonldcbaaGreat
set_option linter.unusedVariables false
set_option linter.unusedSimpArgs false
set_option maxRecDepth 100000
structure GoodO (c : List Trm) (o : List Int) : Prop where
  range : ∀ k ∈ o, 0 ≤ k ∧ k < c.length
  head : headDv (orderedL c o) = false
theorem GoodO.nil (c : List Trm) : GoodO c [] := ⟨by simp, rfl⟩
end Go.Proofs.YtkoojngonldcbaaGreat
namespace Go.Proofs.YtkoojngonldcbaaGreat
set_option linter.unusedVariables false
set_option linter.unusedSimpArgs false
set_option maxRecDepth 100000
structure OrdO (c : List Trm) (o : List Int) : Prop where
  good : GoodO c o
  nodup : o.Nodup
theorem OrdO.nil (c : List Trm) : OrdO c [] := ⟨GoodO.nil c, List.nodup_nil⟩
end Go.Proofs.YtkoojngonldcbaaGreat
namespace Go.Proofs.YtkoojngonldcbaaGreat
set_option linter.unusedVariables false
set_option linter.unusedSimpArgs false
set_option maxRecDepth 100000
theorem nBelow_mono {u v : Int} (h : u ≤ v) : nBelow u ≤ nBelow v := by
  obtain ⟨a1, a2, a3, a4⟩ := firstN_is (pHigh u)
  obtain ⟨b1, b2, b3, b4⟩ := firstN_is (pHigh v)
  unfold nBelow
  refine Int.not_lt.1 fun q => ?_
  have e1 : pHigh v (firstN (pHigh v)) = true := by
    rcases b3 with b | b
    · omega
    · exact b
  have e2 : pHigh u (firstN (pHigh u) - 1) = false := by
    rcases a4 with a | a
    · omega
    · exact a
  have m := (at_mono (show firstN (pHigh v) ≤ firstN (pHigh u) - 1 by omega)).2
  simp only [pHigh, decide_eq_true_eq, decide_eq_false_iff_not] at e1 e2
  omega
theorem nAbove_mono {u v : Int} (h : u ≤ v) : nAbove u ≤ nAbove v := by
  obtain ⟨a1, a2, a3, a4⟩ := firstN_is (pLow u)
  obtain ⟨b1, b2, b3, b4⟩ := firstN_is (pLow v)
  unfold nAbove
  refine Int.not_lt.1 fun q => ?_
  have e1 : pLow v (firstN (pLow v)) = true := by
    rcases b3 with b | b
    · omega
    · exact b
  have e2 : pLow u (firstN (pLow u) - 1) = false := by
    rcases a4 with a | a
    · omega
    · exact a
  have m := (at_mono (show firstN (pLow v) ≤ firstN (pLow u) - 1 by omega)).1
  simp only [pLow, decide_eq_true_eq, decide_eq_false_iff_not] at e1 e2
  omega
theorem key_below_mono {u v : Int} (h : u ≤ v) : keyF (belowF u) ≤ keyF (belowF v) := key_at_mono (by have := nBelow_mono h; omega)
theorem key_above_mono {u v : Int} (h : u ≤ v) : keyF (aboveF u) ≤ keyF (aboveF v) := key_at_mono (nAbove_mono h)
theorem atF_d (n : Int) : 1000 ≤ (atF n).d ∧ (atF n).d ≤ 9999 := by simp only [atF]; omega
theorem isFig_at_mid {a b c : Int} (h1 : keyF (atF a) ≤ keyF (atF b)) (h2 : keyF (atF b) ≤ keyF (atF c)) (ha : isFig (atF a) = true) (hc : isFig (atF c) = true) : isFig (atF b) = true := by
  have f1 := isFig_bd ha
  have f2 := isFig_bd hc
  have d := atF_d b
  unfold keyF at h1 h2
  simp only [isFig, inR, Bool.and_eq_true, decide_eq_true_eq]
  omega
theorem isUnits_iff {u : Int} : isUnits u = true ↔ -31457280 ≤ u ∧ u ≤ 31457280 := by simp [isUnits, inR]
theorem spanC_all {a : Itv} (h : spanC a = 0) : isUnits a.lo = true ∧ isUnits a.hi = true ∧ isFig (belowF a.lo) = true ∧ isFig (aboveF a.hi) = true := by
  unfold spanC at h
  split at h
  · rename_i h0
    rw [Bool.and_eq_true] at h0
    split at h
    · rename_i h1
      rw [Bool.and_eq_true] at h1
      exact ⟨h0.1, h0.2, h1.1, h1.2⟩
    · omega
  · omega
theorem span_in {a b : Itv} (h1 : b.lo ≤ a.lo) (h2 : a.lo ≤ a.hi) (h3 : a.hi ≤ b.hi) (h : spanC b = 0) :
    spanC a = 0 ∧ keyF (spanL b) ≤ keyF (spanL a) ∧ keyF (spanL a) ≤ keyF (spanH b) ∧ keyF (spanL b) ≤ keyF (spanH a) ∧ keyF (spanH a) ≤ keyF (spanH b) ∧
    isFig (spanL a) = true ∧ isFig (spanH a) = true ∧ isFig (spanL b) = true ∧ isFig (spanH b) = true := by
  obtain ⟨u1, u2, g1, g2⟩ := spanC_all h
  rw [isUnits_iff] at u1 u2
  have k1 := key_below_mono h1
  have k2 := key_above_mono h3
  have k3 := below_le_above h2
  have k4 : keyF (belowF a.lo) ≤ keyF (aboveF b.hi) := by omega
  have k5 : keyF (belowF b.lo) ≤ keyF (aboveF a.hi) := by omega
  have f1 : isFig (belowF a.lo) = true := isFig_at_mid k1 k4 g1 g2
  have f2 : isFig (aboveF a.hi) = true := isFig_at_mid k5 k2 g1 g2
  have e : spanC a = 0 := by
    unfold spanC
    rw [if_pos (by rw [Bool.and_eq_true, isUnits_iff, isUnits_iff]; omega), if_pos (by rw [f1, f2]; rfl)]
  obtain ⟨_, _, e1, e2⟩ := spanC_0 e
  obtain ⟨_, _, e3, e4⟩ := spanC_0 h
  rw [e1, e2, e3, e4]
  exact ⟨e, k1, k4, k5, k2, f1, f2, g1, g2⟩
theorem cdiv_mono {a b L : Int} (h : a ≤ b) (hL : 0 < L) : cdiv a L ≤ cdiv b L := by
  rw [cdiv_le hL]
  have := (cdiv_le (x := cdiv b L) (a := b) hL).1 (Int.le_refl _)
  omega
def noE : Ers := ⟨0, 0, 0⟩
theorem noE_is : isErs noE = true := by decide
theorem unE_noE {len : Int} {e : Ers} (h : isErs e = true) (hl : 1 ≤ len) : unE len noE ≤ unE len e :=
  cdiv_mono (by have := totE_bd h; simp only [noE, totE] at *; omega) (by omega)
theorem unP_noE {len : Int} {c : List Trm} {e : Ers} (h : isErs e = true) (hl : 1 ≤ len) : 0 ≤ unP len c noE ∧ unP len c noE ≤ unP len c e := by
  have h1 := unE_noE h hl
  have h0 := (unE_bd noE_is hl).1
  have hc := countSet_bd (planL c)
  unfold unP
  exact ⟨Int.mul_nonneg (by omega) (by omega), Int.mul_le_mul_of_nonneg_left (by omega) (by omega)⟩
theorem bounds_law {r : Rul} {c : List Trm} {e : Ers} (h : psC r c e = 0) :
    codeBound r c noE = 0 ∧ planUn r c noE ≤ planUn r c e ∧ psC r c noE = 0 ∧ chainSpanC c = 0 ∧
    (isFig (psL r c e) = true ∧ isFig (psH r c e) = true ∧ isFig (psL r c noE) = true ∧ isFig (psH r c noE) = true ∧ isFig (chainSpanL c) = true ∧ isFig (chainSpanH c) = true) ∧
    (cmpF (psL r c e) (psL r c noE) ≤ 0 ∧ cmpF (psL r c noE) (psH r c e) ≤ 0) ∧ (cmpF (psL r c e) (psH r c noE) ≤ 0 ∧ cmpF (psH r c noE) (psH r c e) ≤ 0) ∧
    (cmpF (psL r c noE) (chainSpanL c) ≤ 0 ∧ cmpF (chainSpanL c) (psH r c noE) ≤ 0) ∧ (cmpF (psL r c noE) (chainSpanH c) ≤ 0 ∧ cmpF (chainSpanH c) (psH r c noE) ≤ 0) := by
  obtain ⟨hb, hs⟩ := psC_0 h
  obtain ⟨he, hp⟩ := codeBound_0 hb
  obtain ⟨hr, hc, _, _⟩ := codePlan_0 hp
  have hl := isRule_len hr
  have hb0 : codeBound r c noE = 0 := by unfold codeBound; rw [noE_is]; exact hp
  obtain ⟨u0, u1⟩ := unP_noE (c := c) he hl.1
  have cl := chainLog0_le hc
  have s1 := span_in (a := planI r c noE) (b := planI r c e) (by simp only [planI, resI]; omega) (by simp only [planI, resI]; omega) (by simp only [planI, resI]; omega) hs
  obtain ⟨e0, k1, k2, k3, k4, f1, f2, f3, f4⟩ := s1
  have s2 := span_in (a := chainLog0 c) (b := planI r c noE) (by simp only [planI, resI]; omega) cl (by simp only [planI, resI]; omega) e0
  obtain ⟨e5, k5, k6, k7, k8, f5, f6, f7, f8⟩ := s2
  have p0 : psC r c noE = 0 := by unfold psC; rw [if_pos hb0]; exact e0
  have q1 : psL r c e = spanL (planI r c e) := by unfold psL; rw [if_pos hb]
  have q2 : psH r c e = spanH (planI r c e) := by unfold psH; rw [if_pos hb]
  have q3 : psL r c noE = spanL (planI r c noE) := by unfold psL; rw [if_pos hb0]
  have q4 : psH r c noE = spanH (planI r c noE) := by unfold psH; rw [if_pos hb0]
  have q5 : chainSpanC c = 0 := by unfold chainSpanC; rw [if_pos hc]; exact e5
  have q6 : chainSpanL c = spanL (chainLog0 c) := by unfold chainSpanL; rw [if_pos hc]
  have q7 : chainSpanH c = spanH (chainLog0 c) := by unfold chainSpanH; rw [if_pos hc]
  have q8 : planUn r c noE = unP r.len c noE := by unfold planUn; rw [if_pos hb0]
  have q9 : planUn r c e = unP r.len c e := by unfold planUn; rw [if_pos hb]
  rw [q1, q2, q3, q4, q6, q7, q8, q9]
  simp only [cmpF_le]
  exact ⟨hb0, u1, p0, q5, ⟨f3, f4, f1, f2, f5, f6⟩, ⟨k1, k2⟩, ⟨k3, k4⟩, ⟨k5, k6⟩, ⟨k7, k8⟩⟩
end Go.Proofs.YtkoojngonldcbaaGreat
