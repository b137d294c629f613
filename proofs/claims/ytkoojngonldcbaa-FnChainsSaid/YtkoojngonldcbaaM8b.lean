/- DERIVED. Walks: two terms exchanged, the program's. -/
import Derived.Test.YtkoojngonldcbaaM8
namespace Go.Proofs.Ytkoojngonldcbaa
set_option linter.unusedVariables false
set_option linter.unusedSimpArgs false
open Go.RowKit
set_option maxRecDepth 100000

set_option maxHeartbeats 1000000 in
theorem w_implSwapTerms (v : Value) (l : List Trm) (a b : Int) (w : World) (h : IsTrms w v l) :
    Calls Try.prog 11 #[v, .int .i64 a, .int .i64 b] w fun e w' => ∃ v', e = .returned (.tuple #[v', .int .i64 (swapTerms l a b).2]) ∧ Later w w' ∧ w'.ownsRow w.heap.size 55 3 v' (swapTerms l a b).1.length (trms (swapTerms l a b).1) := by
  have H := Lib.hid h
  obtain ⟨hxl1, hn1, a1, cap1, rfl, hcap1, hmax1, hrow1⟩ := h
  have HR1 := Lib.hid hrow1
  clear hrow1 hxl1
  cases hc : isChain l
  · have hf : swapTerms l a b = ([], 1) := by simp [swapTerms, hc]
    have HC := Lib.hid hc
    clear hc
    rw [hf]
    go_enter Try.func11, Try.ntmps11
    go_wp2_with fail
    refine (w_implIsChain _ _ _ H.out).mono ?_
    rintro e w1 ⟨rfl, hL⟩
    rw [HC.out]
    go_wp2
    go_ret2
    exact ⟨_, rfl, by (repeat (with_reducible first | exact Later.refl _ | refine Later.alloc ?_ _ | refine Later.drew ?_ | refine Later.drewN ?_ _ | refine Later.setCell ?_ (by simp; try omega) _ | refine Later.trans ?_ (by assumption))), World.ownsRow_nil _ _ _ _⟩
  have hlc := isChain_true hc
  obtain ⟨hc1, hc6, _, _⟩ := hlc
  cases ha : inR a 0 (l.length - 1)
  · have hf : swapTerms l a b = ([], 2) := by simp [swapTerms, hc, ha]
    have HC := Lib.hid hc
    have HA := Lib.hid ha
    clear hc ha
    rw [hf]
    go_enter Try.func11, Try.ntmps11
    go_wp2_with fail
    refine (w_implIsChain _ _ _ H.out).mono ?_
    rintro e w1 ⟨rfl, hL⟩
    rw [HC.out]
    go_wp2_with fail
    refine (w_within _ _ _ _).mono ?_
    rintro e w2 ⟨rfl, rfl⟩
    rw [HA.out]
    go_wp2
    go_ret2
    exact ⟨_, rfl, by (repeat (with_reducible first | exact Later.refl _ | refine Later.alloc ?_ _ | refine Later.drew ?_ | refine Later.drewN ?_ _ | refine Later.setCell ?_ (by simp; try omega) _ | refine Later.trans ?_ (by assumption))), World.ownsRow_nil _ _ _ _⟩
  cases hb : inR b 0 (l.length - 1)
  · have hf : swapTerms l a b = ([], 2) := by simp [swapTerms, hc, ha, hb]
    have HC := Lib.hid hc
    have HA := Lib.hid ha
    have HB := Lib.hid hb
    clear hc ha hb
    rw [hf]
    go_enter Try.func11, Try.ntmps11
    go_wp2_with fail
    refine (w_implIsChain _ _ _ H.out).mono ?_
    rintro e w1 ⟨rfl, hL⟩
    rw [HC.out]
    go_wp2_with fail
    refine (w_within _ _ _ _).mono ?_
    rintro e w2 ⟨rfl, rfl⟩
    rw [HA.out]
    go_wp2_with fail
    refine (w_within _ _ _ _).mono ?_
    rintro e w2 ⟨rfl, rfl⟩
    rw [HB.out]
    go_wp2
    go_ret2
    exact ⟨_, rfl, by (repeat (with_reducible first | exact Later.refl _ | refine Later.alloc ?_ _ | refine Later.drew ?_ | refine Later.drewN ?_ _ | refine Later.setCell ?_ (by simp; try omega) _ | refine Later.trans ?_ (by assumption))), World.ownsRow_nil _ _ _ _⟩
  have ha' := inR_true ha
  have hb' := inR_true hb
  obtain ⟨i, rfl⟩ := Int.eq_ofNat_of_zero_le ha'.1
  obtain ⟨j, rfl⟩ := Int.eq_ofNat_of_zero_le hb'.1
  have hi : i < l.length := by omega
  have hj : j < l.length := by omega
  clear ha' hb'
  obtain ⟨x, hx⟩ := get_ex hi
  obtain ⟨y, hy⟩ := get_ex hj
  have hsw : swapL l i j = (l.set i y).set j x := by simp [swapL, hx, hy]
  have hf : swapTerms l i j = if isChain ((l.set i y).set j x) then ((l.set i y).set j x, 0) else ([], 5) := by
    simp only [swapTerms, hc, ha, hb, Int.toNat_natCast, hsw]; rfl
  have HX := Lib.hid hx
  have HY := Lib.hid hy
  have HC := Lib.hid hc
  have HA := Lib.hid ha
  have HB := Lib.hid hb
  clear hc ha hb hsw hx hy
  have HF := Lib.hid hf
  clear hf
  by_cases hij : i = j
  · subst hij
    obtain rfl : x = y := Option.some.inj (HX.out.symm.trans HY.out)
    clear hj HY
    clear HR1
    go_enter Try.func11, Try.ntmps11
    go_wp2_with fail
    refine (w_implIsChain _ _ _ H.out).mono ?_
    rintro e w1 ⟨rfl, hL⟩
    rw [HC.out]
    go_wp2_with fail
    refine (w_within _ _ _ _).mono ?_
    rintro e w2 ⟨rfl, rfl⟩
    rw [HA.out]
    go_wp2_with fail
    refine (w_within _ _ _ _).mono ?_
    rintro e w2 ⟨rfl, rfl⟩
    rw [HB.out]
    go_wp2_with fail
    refine (w_cloneTrm _ _ _ (H.out.later hL) (by omega)).mono ?_
    rintro e w3 ⟨v0, rfl, hL3, ho3'⟩
    have ho3 := owns_base ho3' hL.size
    clear ho3'
    rcases own_shape ho3 with ⟨_, hz, _⟩ | ⟨g, cap, rfl, hgb, hg, hcap, hmax⟩
    · omega
    have hL13 := hL.trans hL3
    have f : ∀ o, w3.frozen? ⟨g, o, none⟩ = false := fun o => ho3.frozenAt o
    obtain ⟨x0, x1, x2⟩ := own_trm ho3 HX.out
    go_wp2
    go_region
    all_goals
      have ho4 := own_setTrm (own_setTrm ho3 hi x) (i := i) (by simpa using hi) x
      have HO := Lib.hid ho4
      have hlen : ((l.set i x).set i x).length = l.length := by simp
      have HLen := Lib.hid hlen
      have hL4 := (((((hL13.setCell (p := ⟨g, i * 3, none⟩) hgb (.int .i64 x.f.d)).setCell (p := ⟨g, i * 3 + 1, none⟩) hgb (.int .i64 x.f.t)).setCell (p := ⟨g, i * 3 + 2, none⟩) hgb (.bool x.dv)).setCell (p := ⟨g, i * 3, none⟩) hgb (.int .i64 x.f.d)).setCell (p := ⟨g, i * 3 + 1, none⟩) hgb (.int .i64 x.f.t)).setCell (p := ⟨g, i * 3 + 2, none⟩) hgb (.bool x.dv)
      have R4 := isTrms_of (reads_of_owns ho4 hn1) hlen
      clear ho4 hlen x0 x1 x2 f
      go_wp2_with fail
      refine (w_implIsChain _ _ _ (R4.later (Later.refl _).drew)).mono ?_
      rintro e w5 ⟨rfl, hL5⟩
      cases hq : isChain ((l.set i x).set i x)
      · have hf := HF.out
        rw [hq, if_neg (by decide)] at hf
        have HF2 := Lib.hid hf
        clear hf hq
        go_wp2
        go_ret2
        exact ⟨_, by rw [HF2.out]; rfl, hL4.drew.trans hL5, by rw [HF2.out]; exact World.ownsRow_nil _ _ _ _⟩
      · have hf := HF.out
        rw [hq, if_pos rfl] at hf
        have HF2 := Lib.hid hf
        clear hf hq
        go_wp2
        go_ret2
        exact ⟨_, by rw [HF2.out]; rfl, hL4.drew.trans hL5, by rw [HF2.out, HLen.out]; exact owns_later (owns_later HO.out (Later.refl _).drew) hL5⟩
  · clear HR1
    go_enter Try.func11, Try.ntmps11
    go_wp2_with fail
    refine (w_implIsChain _ _ _ H.out).mono ?_
    rintro e w1 ⟨rfl, hL⟩
    rw [HC.out]
    go_wp2_with fail
    refine (w_within _ _ _ _).mono ?_
    rintro e w2 ⟨rfl, rfl⟩
    rw [HA.out]
    go_wp2_with fail
    refine (w_within _ _ _ _).mono ?_
    rintro e w2 ⟨rfl, rfl⟩
    rw [HB.out]
    go_wp2_with fail
    refine (w_cloneTrm _ _ _ (H.out.later hL) (by omega)).mono ?_
    rintro e w3 ⟨v0, rfl, hL3, ho3'⟩
    have ho3 := owns_base ho3' hL.size
    clear ho3'
    rcases own_shape ho3 with ⟨_, hz, _⟩ | ⟨g, cap, rfl, hgb, hg, hcap, hmax⟩
    · omega
    have hL13 := hL.trans hL3
    have f : ∀ o, w3.frozen? ⟨g, o, none⟩ = false := fun o => ho3.frozenAt o
    obtain ⟨x0, x1, x2⟩ := own_trm ho3 HX.out
    obtain ⟨y0, y1, y2⟩ := own_trm ho3 HY.out
    have n0 : ¬ i = j := (by omega)
    have n1 : ¬ j = i := (by omega)
    have n2 : ¬ i * 3 = j * 3 + 1 := (by omega)
    have n3 : ¬ i * 3 = j * 3 + 2 := (by omega)
    have n4 : ¬ i * 3 + 1 = j * 3 := (by omega)
    have n5 : ¬ i * 3 + 2 = j * 3 := (by omega)
    have n6 : ¬ j * 3 = i * 3 + 1 := (by omega)
    have n7 : ¬ j * 3 = i * 3 + 2 := (by omega)
    have n8 : ¬ j * 3 + 1 = i * 3 := (by omega)
    have n9 : ¬ j * 3 + 2 = i * 3 := (by omega)
    go_wp2
    go_region
    all_goals
      have ho4 := own_setTrm (own_setTrm ho3 hi y) (i := j) (by simpa using hj) x
      have HO := Lib.hid ho4
      have hlen : ((l.set i y).set j x).length = l.length := by simp
      have HLen := Lib.hid hlen
      have hL4 := (((((hL13.setCell (p := ⟨g, i * 3, none⟩) hgb (.int .i64 y.f.d)).setCell (p := ⟨g, i * 3 + 1, none⟩) hgb (.int .i64 y.f.t)).setCell (p := ⟨g, i * 3 + 2, none⟩) hgb (.bool y.dv)).setCell (p := ⟨g, j * 3, none⟩) hgb (.int .i64 x.f.d)).setCell (p := ⟨g, j * 3 + 1, none⟩) hgb (.int .i64 x.f.t)).setCell (p := ⟨g, j * 3 + 2, none⟩) hgb (.bool x.dv)
      have R4 := isTrms_of (reads_of_owns ho4 hn1) hlen
      clear ho4 hlen x0 x1 x2 y0 y1 y2 f
      go_wp2_with fail
      refine (w_implIsChain _ _ _ (R4.later (Later.refl _).drew)).mono ?_
      rintro e w5 ⟨rfl, hL5⟩
      cases hq : isChain ((l.set i y).set j x)
      · have hf := HF.out
        rw [hq, if_neg (by decide)] at hf
        have HF2 := Lib.hid hf
        clear hf hq
        go_wp2
        go_ret2
        exact ⟨_, by rw [HF2.out]; rfl, hL4.drew.trans hL5, by rw [HF2.out]; exact World.ownsRow_nil _ _ _ _⟩
      · have hf := HF.out
        rw [hq, if_pos rfl] at hf
        have HF2 := Lib.hid hf
        clear hf hq
        go_wp2
        go_ret2
        exact ⟨_, by rw [HF2.out]; rfl, hL4.drew.trans hL5, by rw [HF2.out, HLen.out]; exact owns_later (owns_later HO.out (Later.refl _).drew) hL5⟩

end Go.Proofs.Ytkoojngonldcbaa
