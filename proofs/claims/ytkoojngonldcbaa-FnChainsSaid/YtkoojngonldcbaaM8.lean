/- DERIVED. Walks: two terms exchanged. -/
import Derived.Test.YtkoojngonldcbaaM6
import Derived.BigRegion
namespace Go.Proofs.Ytkoojngonldcbaa
set_option linter.unusedVariables false
set_option linter.unusedSimpArgs false
open Go.RowKit
set_option maxRecDepth 100000

set_option maxHeartbeats 1000000 in
theorem w_specSwapTerms (v : Value) (l : List Trm) (a b : Int) (w : World) (h : IsTrms w v l) :
    Calls Try.prog 12 #[v, .int .i64 a, .int .i64 b] w fun e w' => ∃ v', e = .returned (.tuple #[v', .int .i64 (swapTerms l a b).2]) ∧ Later w w' ∧ w'.ownsRow w.heap.size 55 3 v' (swapTerms l a b).1.length (trms (swapTerms l a b).1) := by
  cases hc : isChain l
  · have hf : swapTerms l a b = ([], 1) := by simp [swapTerms, hc]
    have HC := Lib.hid hc
    clear hc
    rw [hf]
    go_enter Try.func12, Try.ntmps12
    go_wp2_with fail
    refine (w_specIsChain _ _ _ h).mono ?_
    rintro e w1 ⟨rfl, hL⟩
    rw [HC.out]
    go_wp2
    go_ret2
    exact ⟨_, rfl, by (repeat (with_reducible first | exact Later.refl _ | refine Later.alloc ?_ _ | refine Later.drew ?_ | refine Later.drewN ?_ _ | refine Later.setCell ?_ (by simp; try omega) _ | refine Later.trans ?_ (by assumption))), World.ownsRow_nil _ _ _ _⟩
  have hlc := isChain_true hc
  obtain ⟨hc1, hc6, _, _⟩ := hlc
  have H := Lib.hid h
  cases ha : inR a 0 (l.length - 1)
  · have hf : swapTerms l a b = ([], 2) := by simp [swapTerms, hc, ha]
    have HC := Lib.hid hc
    have HA := Lib.hid ha
    clear hc ha
    rw [hf]
    obtain ⟨hxl1, hn1, a1, cap1, rfl, hcap1, hmax1, hrow1⟩ := h
    have HR1 := Lib.hid hrow1
    clear hrow1 hxl1
    go_enter Try.func12, Try.ntmps12
    go_wp2_with fail
    refine (w_specIsChain _ _ _ H.out).mono ?_
    rintro e w1 ⟨rfl, hL⟩
    rw [HC.out]
    go_wp2_with fail
    refine (w_l01In _ _ _ _).mono ?_
    rintro e w2 ⟨rfl, rfl⟩
    rw [HA.out]
    go_wp2
    go_ret2
    exact ⟨_, rfl, by (repeat (with_reducible first | exact Later.refl _ | refine Later.alloc ?_ _ | refine Later.drew ?_ | refine Later.drewN ?_ _ | refine Later.setCell ?_ (by simp; try omega) _ | refine Later.trans ?_ (by assumption))), World.ownsRow_nil _ _ _ _⟩
  cases hb : inR b 0 (l.length - 1)
  · have hf : swapTerms l a b = ([], 2) := by simp [swapTerms, hc, ha, hb]
    have HC := Lib.hid hc
    have HA := Lib.hid ha
    have HB := Lib.hid hb
    clear hc ha hb
    rw [hf]
    obtain ⟨hxl1, hn1, a1, cap1, rfl, hcap1, hmax1, hrow1⟩ := h
    have HR1 := Lib.hid hrow1
    clear hrow1 hxl1
    go_enter Try.func12, Try.ntmps12
    go_wp2_with fail
    refine (w_specIsChain _ _ _ H.out).mono ?_
    rintro e w1 ⟨rfl, hL⟩
    rw [HC.out]
    go_wp2_with fail
    refine (w_l01In _ _ _ _).mono ?_
    rintro e w2 ⟨rfl, rfl⟩
    rw [HA.out]
    go_wp2_with fail
    refine (w_l01In _ _ _ _).mono ?_
    rintro e w2 ⟨rfl, rfl⟩
    rw [HB.out]
    go_wp2
    go_ret2
    exact ⟨_, rfl, by (repeat (with_reducible first | exact Later.refl _ | refine Later.alloc ?_ _ | refine Later.drew ?_ | refine Later.drewN ?_ _ | refine Later.setCell ?_ (by simp; try omega) _ | refine Later.trans ?_ (by assumption))), World.ownsRow_nil _ _ _ _⟩
  have ha' := inR_true ha
  have hb' := inR_true hb
  obtain ⟨i, rfl⟩ := Int.eq_ofNat_of_zero_le ha'.1
  obtain ⟨j, rfl⟩ := Int.eq_ofNat_of_zero_le hb'.1
  have hi : i < l.length := by omega
  have hj : j < l.length := by omega
  clear ha' hb'
  obtain ⟨x, hx⟩ := get_ex hi
  obtain ⟨y, hy⟩ := get_ex hj
  have hsw : swapL l i j = (l.set i y).set j x := by simp [swapL, hx, hy]
  have hf : swapTerms l i j = if isChain ((l.set i y).set j x) then ((l.set i y).set j x, 0) else ([], 5) := by
    simp only [swapTerms, hc, ha, hb, Int.toNat_natCast, hsw]; rfl
  have HX := Lib.hid hx
  have HY := Lib.hid hy
  have HC := Lib.hid hc
  have HA := Lib.hid ha
  have HB := Lib.hid hb
  clear hc ha hb hsw hx hy
  have HF := Lib.hid hf
  clear hf
  by_cases hij : i = j
  · subst hij
    obtain rfl : x = y := Option.some.inj (HX.out.symm.trans HY.out)
    clear hj HY
    obtain ⟨hxl1, hn1, a1, cap1, rfl, hcap1, hmax1, hrow1⟩ := h
    have HR1 := Lib.hid hrow1
    clear hrow1 hxl1
    obtain ⟨b, off, rfl, hr⟩ := HR1.out (by omega)
    clear HR1
    have HR := Lib.hid hr
    clear hr
    go_enter Try.func12, Try.ntmps12
    go_wp2_with fail
    refine (w_specIsChain _ _ _ H.out).mono ?_
    rintro e w1 ⟨rfl, hL⟩
    rw [HC.out]
    go_wp2_with fail
    refine (w_l01In _ _ _ _).mono ?_
    rintro e w2 ⟨rfl, rfl⟩
    rw [HA.out]
    go_wp2_with fail
    refine (w_l01In _ _ _ _).mono ?_
    rintro e w2 ⟨rfl, rfl⟩
    rw [HB.out]
    have hg0 := hL.size
    go_wp2_with (at_builtin; refine appC_Term rfl (.tmp 26) (.tmp 27) rfl w.heap.size l rfl b off _ _ rfl rfl (HR.out.later hL) hn1 hL.size ?_; intro v0 w3 ho3 hL3; rcases own_shape ho3 with ⟨_, hz, _⟩ | ⟨g, cap, rfl, hgb, hg, hcap, hmax⟩; (omega); have hL13 := hL.trans hL3; have f : ∀ o, w3.frozen? ⟨g, o, none⟩ = false := fun o => ho3.frozenAt o; obtain ⟨p0, e0⟩ := own_cell ho3 (j := i * 3) (by omega); obtain ⟨p1, e1⟩ := own_cell ho3 (j := i * 3 + 1) (by omega); obtain ⟨p2, e2⟩ := own_cell ho3 (j := i * 3 + 2) (by omega); obtain ⟨x0, x1, x2⟩ := (HR.out.later hL13).trm HX.out; have hbw := HR.out.1; have hgb1 : ¬ g = b := (by omega); have hgb2 : ¬ b = g := (by omega))
    have ho4 := own_setTrm (own_setTrm ho3 hi x) (i := i) (by simpa using hi) x
    have HO := Lib.hid ho4
    have hlen : ((l.set i x).set i x).length = l.length := by simp
    have HLen := Lib.hid hlen
    have hL4 := (((((hL13.setCell (p := ⟨g, i * 3, none⟩) hgb (.int .i64 x.f.d)).setCell (p := ⟨g, i * 3 + 1, none⟩) hgb (.int .i64 x.f.t)).setCell (p := ⟨g, i * 3 + 2, none⟩) hgb (.bool x.dv)).setCell (p := ⟨g, i * 3, none⟩) hgb (.int .i64 x.f.d)).setCell (p := ⟨g, i * 3 + 1, none⟩) hgb (.int .i64 x.f.t)).setCell (p := ⟨g, i * 3 + 2, none⟩) hgb (.bool x.dv)
    have R4 := isTrms_of (reads_of_owns ho4 hn1) hlen
    clear ho4 hlen e0 e1 e2 x0 x1 x2 f
    refine (w_specIsChain _ _ _ R4).mono ?_
    rintro e w5 ⟨rfl, hL5⟩
    cases hq : isChain ((l.set i x).set i x)
    · have hf := HF.out
      rw [hq, if_neg (by decide)] at hf
      have HF2 := Lib.hid hf
      clear hf hq
      go_wp2
      go_ret2
      exact ⟨_, by rw [HF2.out]; rfl, hL4.trans hL5, by rw [HF2.out]; exact World.ownsRow_nil _ _ _ _⟩
    · have hf := HF.out
      rw [hq, if_pos rfl] at hf
      have HF2 := Lib.hid hf
      clear hf hq
      go_wp2
      go_ret2
      exact ⟨_, by rw [HF2.out]; rfl, hL4.trans hL5, by rw [HF2.out, HLen.out]; exact owns_later HO.out hL5⟩
  · obtain ⟨hxl1, hn1, a1, cap1, rfl, hcap1, hmax1, hrow1⟩ := h
    have HR1 := Lib.hid hrow1
    clear hrow1 hxl1
    obtain ⟨b, off, rfl, hr⟩ := HR1.out (by omega)
    clear HR1
    have HR := Lib.hid hr
    clear hr
    go_enter Try.func12, Try.ntmps12
    go_wp2_with fail
    refine (w_specIsChain _ _ _ H.out).mono ?_
    rintro e w1 ⟨rfl, hL⟩
    rw [HC.out]
    go_wp2_with fail
    refine (w_l01In _ _ _ _).mono ?_
    rintro e w2 ⟨rfl, rfl⟩
    rw [HA.out]
    go_wp2_with fail
    refine (w_l01In _ _ _ _).mono ?_
    rintro e w2 ⟨rfl, rfl⟩
    rw [HB.out]
    have hg0 := hL.size
    go_wp2_with (at_builtin; refine appC_Term rfl (.tmp 26) (.tmp 27) rfl w.heap.size l rfl b off _ _ rfl rfl (HR.out.later hL) hn1 hL.size ?_; intro v0 w3 ho3 hL3; rcases own_shape ho3 with ⟨_, hz, _⟩ | ⟨g, cap, rfl, hgb, hg, hcap, hmax⟩; (omega); have hL13 := hL.trans hL3; have f : ∀ o, w3.frozen? ⟨g, o, none⟩ = false := fun o => ho3.frozenAt o; obtain ⟨p0, e0⟩ := own_cell ho3 (j := i * 3) (by omega); obtain ⟨p1, e1⟩ := own_cell ho3 (j := i * 3 + 1) (by omega); obtain ⟨p2, e2⟩ := own_cell ho3 (j := i * 3 + 2) (by omega); obtain ⟨q0, d0⟩ := own_cell ho3 (j := j * 3) (by omega); obtain ⟨q1, d1⟩ := own_cell ho3 (j := j * 3 + 1) (by omega); obtain ⟨q2, d2⟩ := own_cell ho3 (j := j * 3 + 2) (by omega); obtain ⟨x0, x1, x2⟩ := (HR.out.later hL13).trm HX.out; obtain ⟨y0, y1, y2⟩ := (HR.out.later hL13).trm HY.out; have hbw := HR.out.1; have hgb1 : ¬ g = b := (by omega); have hgb2 : ¬ b = g := (by omega); have n0 : ¬ i = j := (by omega); have n1 : ¬ j = i := (by omega); have n2 : ¬ i * 3 = j * 3 + 1 := (by omega); have n3 : ¬ i * 3 = j * 3 + 2 := (by omega); have n4 : ¬ i * 3 + 1 = j * 3 := (by omega); have n5 : ¬ i * 3 + 2 = j * 3 := (by omega); have n6 : ¬ j * 3 = i * 3 + 1 := (by omega); have n7 : ¬ j * 3 = i * 3 + 2 := (by omega); have n8 : ¬ j * 3 + 1 = i * 3 := (by omega); have n9 : ¬ j * 3 + 2 = i * 3 := (by omega))
    have ho4 := own_setTrm (own_setTrm ho3 hi y) (i := j) (by simpa using hj) x
    have HO := Lib.hid ho4
    have hlen : ((l.set i y).set j x).length = l.length := by simp
    have HLen := Lib.hid hlen
    have hL4 := (((((hL13.setCell (p := ⟨g, i * 3, none⟩) hgb (.int .i64 y.f.d)).setCell (p := ⟨g, i * 3 + 1, none⟩) hgb (.int .i64 y.f.t)).setCell (p := ⟨g, i * 3 + 2, none⟩) hgb (.bool y.dv)).setCell (p := ⟨g, j * 3, none⟩) hgb (.int .i64 x.f.d)).setCell (p := ⟨g, j * 3 + 1, none⟩) hgb (.int .i64 x.f.t)).setCell (p := ⟨g, j * 3 + 2, none⟩) hgb (.bool x.dv)
    have R4 := isTrms_of (reads_of_owns ho4 hn1) hlen
    clear ho4 hlen e0 e1 e2 d0 d1 d2 x0 x1 x2 y0 y1 y2 f
    refine (w_specIsChain _ _ _ R4).mono ?_
    rintro e w5 ⟨rfl, hL5⟩
    cases hq : isChain ((l.set i y).set j x)
    · have hf := HF.out
      rw [hq, if_neg (by decide)] at hf
      have HF2 := Lib.hid hf
      clear hf hq
      go_wp2
      go_ret2
      exact ⟨_, by rw [HF2.out]; rfl, hL4.trans hL5, by rw [HF2.out]; exact World.ownsRow_nil _ _ _ _⟩
    · have hf := HF.out
      rw [hq, if_pos rfl] at hf
      have HF2 := Lib.hid hf
      clear hf hq
      go_wp2
      go_ret2
      exact ⟨_, by rw [HF2.out]; rfl, hL4.trans hL5, by rw [HF2.out, HLen.out]; exact owns_later HO.out hL5⟩

end Go.Proofs.Ytkoojngonldcbaa
