/- DERIVED. Walks: moves. -/
import Derived.Test.YtgngbdacejghcaaDoorM1
import Derived.Test.YtgngbdacejghcaaDoorHMove
namespace Go.Proofs.YtgngbdacejghcaaDoor
set_option linter.unusedVariables false
set_option linter.unusedSimpArgs false
open Go.RowKit
set_option maxRecDepth 100000

theorem w_specIsScale (s : Int) (w : World) : Calls Tryd.prog 131 #[.int .i64 s] w fun e w' => e = .returned (.bool (isScale s)) ∧ w = w' := by
  go_enter Tryd.func131, Tryd.ntmps131
  go_wp2_with (go_at_call 71; refine (w_l01In _ _ _ _).mono ?_; rintro e w' ⟨rfl, rfl⟩)
  go_ret
  exact ⟨rfl, rfl⟩

theorem w_implIsScale (s : Int) (w : World) : Calls Tryd.prog 121 #[.int .i64 s] w fun e w' => e = .returned (.bool (isScale s)) ∧ w = w' := by
  go_enter Tryd.func121, Tryd.ntmps121
  go_wp2_with (go_at_call 96; refine (w_within _ _ _ _).mono ?_; rintro e w' ⟨rfl, rfl⟩)
  go_ret
  exact ⟨rfl, rfl⟩

theorem w_l10Scale (s : Int) (w : World) : Calls Tryd.prog 110 #[.int .i64 s] w fun e w' => e = .returned (.bool (isScaleN s)) ∧ w = w' := by
  have h : isScaleN s = (isScale s && !(s == 5)) := rfl
  have H := Lib.hid h
  clear h
  go_enter Tryd.func110, Tryd.ntmps110
  go_wp2_with (go_at_call 131; refine (w_specIsScale _ _).mono ?_; rintro e w' ⟨rfl, rfl⟩)
  all_goals go_ret
  all_goals exact ⟨by (rw [H.out]; first | rfl | (simp [*]; done) | (simp_all [bne]; done) | (simp_all [bne] <;> grind)), rfl⟩

theorem w_implIsMove (k s d t : Int) (w : World) :
    Calls Tryd.prog 98 #[.agg #[.int .i64 k, .int .i64 s, .int .i64 d, .int .i64 t]] w fun e w' => e = .returned (.bool (isMove ⟨k, s, ⟨d, t⟩⟩)) ∧ Later w w' := by
  cases h2 : inR k 0 2
  · cases h3 : inR k 3 6
    all_goals
      have hf : isMove ⟨k, s, ⟨d, t⟩⟩ = (inR k 3 6 && (s == 0 && (d == 0 && t == 0))) := by simp [isMove, h2]
      have HF := Lib.hid hf
      have H2 := Lib.hid h2
      have H3 := Lib.hid h3
      clear hf h2 h3
      go_enter Tryd.func98, Tryd.ntmps98
      go_wp2_with fail
      refine (w_within _ _ _ _).mono ?_
      rintro e w' ⟨rfl, rfl⟩
      rw [H2.out]
      go_wp2_with fail
      refine (w_within _ _ _ _).mono ?_
      rintro e w' ⟨rfl, rfl⟩
      rw [H3.out]
      rw [H3.out] at HF
      go_wp2
      all_goals go_ret
      all_goals exact ⟨by (rw [HF.out]; first | rfl | (simp [*]; done) | (simp_all [bne]; done) | (simp_all [bne] <;> grind)), by (repeat (with_reducible first | exact Later.refl _ | refine Later.alloc ?_ _ | refine Later.drew ?_ | refine Later.drewN ?_ _ | refine Later.setCell ?_ (by simp; try omega) _ | refine Later.trans ?_ (by assumption)))⟩
  · have hf : isMove ⟨k, s, ⟨d, t⟩⟩ = (isScale s && !(s == 5) && isFig ⟨d, t⟩) := by simp [isMove, h2, isScaleN, isScale]
    have HF := Lib.hid hf
    have H2 := Lib.hid h2
    clear hf h2
    go_enter Tryd.func98, Tryd.ntmps98
    go_wp2_with fail
    refine (w_within _ _ _ _).mono ?_
    rintro e w' ⟨rfl, rfl⟩
    rw [H2.out]
    go_wp2_with (first | (go_at_call 121; refine (w_implIsScale _ _).mono ?_; rintro e w' ⟨rfl, rfl⟩) | (go_at_call 76; refine (w_implIsFigure _ _ _).mono ?_; rintro e w1 ⟨rfl, hL⟩))
    all_goals go_ret
    all_goals exact ⟨by (rw [HF.out]; first | rfl | (simp [*]; done) | (simp_all [bne]; done) | (simp_all [bne] <;> grind)), by (repeat (with_reducible first | exact Later.refl _ | refine Later.alloc ?_ _ | refine Later.drew ?_ | refine Later.drewN ?_ _ | refine Later.setCell ?_ (by simp; try omega) _ | refine Later.trans ?_ (by assumption)))⟩

theorem w_specL12Is (k s d t : Int) (w : World) :
    Calls Tryd.prog 79 #[.agg #[.int .i64 k, .int .i64 s, .int .i64 d, .int .i64 t]] w fun e w' => e = .returned (.bool (isMove ⟨k, s, ⟨d, t⟩⟩)) ∧ Later w w' := by
  have hk : k = 0 ∨ k = 1 ∨ k = 2 ∨ k = 3 ∨ k = 4 ∨ k = 5 ∨ k = 6 ∨ (inR k 0 2 = false ∧ inR k 3 6 = false ∧ (k == 0) = false ∧ (k == 1) = false ∧ (k == 2) = false ∧ (k == 3) = false ∧ (k == 4) = false ∧ (k == 5) = false ∧ (k == 6) = false) := by
    simp [inR]; omega
  rcases hk with rfl | rfl | rfl | rfl | rfl | rfl | rfl | ⟨h2, h3, e0, e1, e2, e3, e4, e5, e6⟩
  · have hf : isMove ⟨0, s, ⟨d, t⟩⟩ = (isScaleN s && isFig ⟨d, t⟩) := by simp [isMove, inR]
    have HF := Lib.hid hf
    clear hf
    go_enter Tryd.func79, Tryd.ntmps79
    go_wp2_with (first | (go_at_call 110; refine (w_l10Scale _ _).mono ?_; rintro e w' ⟨rfl, rfl⟩) | (go_at_call 70; refine (w_specIsFigure _ _ _).mono ?_; rintro e w1 ⟨rfl, hL⟩))
    all_goals go_ret
    all_goals exact ⟨by (rw [HF.out]; first | rfl | (simp [*]; done) | (simp_all [bne]; done) | (simp_all [bne] <;> grind)), by (repeat (with_reducible first | exact Later.refl _ | refine Later.alloc ?_ _ | refine Later.drew ?_ | refine Later.drewN ?_ _ | refine Later.setCell ?_ (by simp; try omega) _ | refine Later.trans ?_ (by assumption)))⟩
  · have hf : isMove ⟨1, s, ⟨d, t⟩⟩ = (isScaleN s && isFig ⟨d, t⟩) := by simp [isMove, inR]
    have HF := Lib.hid hf
    clear hf
    go_enter Tryd.func79, Tryd.ntmps79
    go_wp2_with (first | (go_at_call 110; refine (w_l10Scale _ _).mono ?_; rintro e w' ⟨rfl, rfl⟩) | (go_at_call 70; refine (w_specIsFigure _ _ _).mono ?_; rintro e w1 ⟨rfl, hL⟩))
    all_goals go_ret
    all_goals exact ⟨by (rw [HF.out]; first | rfl | (simp [*]; done) | (simp_all [bne]; done) | (simp_all [bne] <;> grind)), by (repeat (with_reducible first | exact Later.refl _ | refine Later.alloc ?_ _ | refine Later.drew ?_ | refine Later.drewN ?_ _ | refine Later.setCell ?_ (by simp; try omega) _ | refine Later.trans ?_ (by assumption)))⟩
  · have hf : isMove ⟨2, s, ⟨d, t⟩⟩ = (isScaleN s && isFig ⟨d, t⟩) := by simp [isMove, inR]
    have HF := Lib.hid hf
    clear hf
    go_enter Tryd.func79, Tryd.ntmps79
    go_wp2_with (first | (go_at_call 110; refine (w_l10Scale _ _).mono ?_; rintro e w' ⟨rfl, rfl⟩) | (go_at_call 70; refine (w_specIsFigure _ _ _).mono ?_; rintro e w1 ⟨rfl, hL⟩))
    all_goals go_ret
    all_goals exact ⟨by (rw [HF.out]; first | rfl | (simp [*]; done) | (simp_all [bne]; done) | (simp_all [bne] <;> grind)), by (repeat (with_reducible first | exact Later.refl _ | refine Later.alloc ?_ _ | refine Later.drew ?_ | refine Later.drewN ?_ _ | refine Later.setCell ?_ (by simp; try omega) _ | refine Later.trans ?_ (by assumption)))⟩
  · have hf : isMove ⟨3, s, ⟨d, t⟩⟩ = (s == 0 && (d == 0 && t == 0)) := by simp [isMove, inR]
    have HF := Lib.hid hf
    clear hf
    go_enter Tryd.func79, Tryd.ntmps79
    go_wp2
    all_goals go_ret
    all_goals exact ⟨by (rw [HF.out]; first | rfl | (simp [*]; done) | (simp_all [bne]; done) | (simp_all [bne] <;> grind)), by (repeat (with_reducible first | exact Later.refl _ | refine Later.alloc ?_ _ | refine Later.drew ?_ | refine Later.drewN ?_ _ | refine Later.setCell ?_ (by simp; try omega) _ | refine Later.trans ?_ (by assumption)))⟩
  · have hf : isMove ⟨4, s, ⟨d, t⟩⟩ = (s == 0 && (d == 0 && t == 0)) := by simp [isMove, inR]
    have HF := Lib.hid hf
    clear hf
    go_enter Tryd.func79, Tryd.ntmps79
    go_wp2
    all_goals go_ret
    all_goals exact ⟨by (rw [HF.out]; first | rfl | (simp [*]; done) | (simp_all [bne]; done) | (simp_all [bne] <;> grind)), by (repeat (with_reducible first | exact Later.refl _ | refine Later.alloc ?_ _ | refine Later.drew ?_ | refine Later.drewN ?_ _ | refine Later.setCell ?_ (by simp; try omega) _ | refine Later.trans ?_ (by assumption)))⟩
  · have hf : isMove ⟨5, s, ⟨d, t⟩⟩ = (s == 0 && (d == 0 && t == 0)) := by simp [isMove, inR]
    have HF := Lib.hid hf
    clear hf
    go_enter Tryd.func79, Tryd.ntmps79
    go_wp2
    all_goals go_ret
    all_goals exact ⟨by (rw [HF.out]; first | rfl | (simp [*]; done) | (simp_all [bne]; done) | (simp_all [bne] <;> grind)), by (repeat (with_reducible first | exact Later.refl _ | refine Later.alloc ?_ _ | refine Later.drew ?_ | refine Later.drewN ?_ _ | refine Later.setCell ?_ (by simp; try omega) _ | refine Later.trans ?_ (by assumption)))⟩
  · have hf : isMove ⟨6, s, ⟨d, t⟩⟩ = (s == 0 && (d == 0 && t == 0)) := by simp [isMove, inR]
    have HF := Lib.hid hf
    clear hf
    go_enter Tryd.func79, Tryd.ntmps79
    go_wp2
    all_goals go_ret
    all_goals exact ⟨by (rw [HF.out]; first | rfl | (simp [*]; done) | (simp_all [bne]; done) | (simp_all [bne] <;> grind)), by (repeat (with_reducible first | exact Later.refl _ | refine Later.alloc ?_ _ | refine Later.drew ?_ | refine Later.drewN ?_ _ | refine Later.setCell ?_ (by simp; try omega) _ | refine Later.trans ?_ (by assumption)))⟩
  · have hf : isMove ⟨k, s, ⟨d, t⟩⟩ = false := by simp [isMove, h2, h3]
    have HF := Lib.hid hf
    clear hf h2 h3
    go_enter Tryd.func79, Tryd.ntmps79
    go_wp2
    go_ret
    exact ⟨by rw [HF.out]; rfl, by (repeat (with_reducible first | exact Later.refl _ | refine Later.alloc ?_ _ | refine Later.drew ?_ | refine Later.drewN ?_ _ | refine Later.setCell ?_ (by simp; try omega) _ | refine Later.trans ?_ (by assumption)))⟩

theorem w_allMoves1 (k s d t : Int) (w : World) :
    Calls Tryd.prog 112 #[.agg #[.int .i64 k, .int .i64 s, .int .i64 d, .int .i64 t]] w fun e w' => e = .returned (.bool (!isMove ⟨k, s, ⟨d, t⟩⟩)) ∧ Later w w' := by
  go_enter Tryd.func112, Tryd.ntmps112
  go_wp2_with (go_at_call 98; refine (w_implIsMove _ _ _ _ _).mono ?_; rintro e w1 ⟨rfl, hL⟩)
  go_ret
  exact ⟨rfl, by (repeat (with_reducible first | exact Later.refl _ | refine Later.alloc ?_ _ | refine Later.drew ?_ | refine Later.drewN ?_ _ | refine Later.setCell ?_ (by simp; try omega) _ | refine Later.trans ?_ (by assumption)))⟩

theorem w_indexMov (v : Value) (ts : List Mov) (w : World) (h : IsMovs w v ts) :
    Calls Tryd.prog 132 #[v, .func (.func 112) #[] #[]] w fun e w' => ∃ r : Int, e = .returned (.int .i64 r) ∧ decide (0 ≤ r) = (ts.any fun t => !isMove t) ∧ Later w w' := by
  obtain ⟨hxl1, hn1, a1, cap1, rfl, hcap1, hmax1, hrow1⟩ := h
  have HR1 := Lib.hid hrow1
  clear hrow1 hxl1
  go_enter Tryd.func132, Tryd.ntmps132
  go_wp2
  go_loopw [8] (fun i wr => ∃ k : Nat, k ≤ ts.length ∧ i = .int .i64 k ∧ Later w wr ∧ Hid ((ts.take k).any (fun t => !isMove t) = false)) (fun i _ => ts.length - (intOf i).toNat)
  case atStart => exact ⟨0, Nat.zero_le _, rfl, Later.refl _, by simp [Hid]⟩
  case round =>
    obtain ⟨k, hk, rfl, hL, HE⟩ := hrel
    by_cases hlt : k < ts.length
    · obtain ⟨b1, off1, rfl, hr1⟩ := HR1.out (by omega)
      obtain ⟨t, ht1⟩ := get_ex (l := ts) (k := k) (by omega)
      have HT1 := Lib.hid ht1
      obtain ⟨c1_0, c1_1, c1_2, c1_3⟩ := (hr1.later hL).mov ht1
      clear ht1
      cases hq : isMove t
      all_goals
        have HQ := Lib.hid hq
        clear hq
        go_wp2_with (go_at_call 112; refine (w_allMoves1 _ _ _ _ _).mono ?_; rintro e w1 ⟨rfl, hL1⟩; rw [show isMove ⟨t.k, t.s, ⟨t.f.d, t.f.t⟩⟩ = _ from HQ.out])
      · have hf := any_true (p := fun t => !isMove t) HT1.out (by simp [HQ.out])
        go_ret
        exact ⟨_, rfl, by rw [hf]; simp, by (repeat (with_reducible first | exact Later.refl _ | refine Later.alloc ?_ _ | refine Later.drew ?_ | refine Later.drewN ?_ _ | refine Later.setCell ?_ (by simp; try omega) _ | refine Later.trans ?_ (by assumption)))⟩
      · go_roundw
        case rel => exact ⟨k + 1, by omega, by go_num, by (repeat (with_reducible first | exact Later.refl _ | refine Later.alloc ?_ _ | refine Later.drew ?_ | refine Later.drewN ?_ _ | refine Later.setCell ?_ (by simp; try omega) _ | refine Later.trans ?_ (by assumption))), any_snoc HT1.out HE.out (by simp [HQ.out])⟩
        case measure => simp [intOf]; omega
    · have hf := any_false_end (by omega) HE.out
      have HF := Lib.hid hf
      clear hf
      go_wp2
      go_ret
      exact ⟨_, rfl, by rw [HF.out]; simp, by (repeat (with_reducible first | exact Later.refl _ | refine Later.alloc ?_ _ | refine Later.drew ?_ | refine Later.drewN ?_ _ | refine Later.setCell ?_ (by simp; try omega) _ | refine Later.trans ?_ (by assumption)))⟩

theorem w_allMoves (v : Value) (ts : List Mov) (w : World) (h : IsMovs w v ts) :
    Calls Tryd.prog 81 #[v] w fun e w' => e = .returned (.bool (ts.all isMove)) ∧ Later w w' := by
  have hf := any_not ts isMove
  have HF := Lib.hid hf
  clear hf
  go_enter Tryd.func81, Tryd.ntmps81
  go_wp2_with (first | (go_at_call 132; refine (w_indexMov _ _ _ h).mono ?_; rintro e w1 ⟨r, rfl, hr, hL⟩) | go_in)
  go_ret
  exact ⟨by rw [← HF.out]; simp_all, by (repeat (with_reducible first | exact Later.refl _ | refine Later.alloc ?_ _ | refine Later.drew ?_ | refine Later.drewN ?_ _ | refine Later.setCell ?_ (by simp; try omega) _ | refine Later.trans ?_ (by assumption)))⟩

theorem w_checkList (v : Value) (ts : List Mov) (w : World) (h : IsMovs w v ts) :
    Calls Tryd.prog 45 #[v] w fun e w' => e = .returned (.int .i64 (codeMoves ts)) ∧ Later w w' := by
  have H := Lib.hid h
  obtain ⟨hxl1, hn1, a1, cap1, rfl, hcap1, hmax1, hrow1⟩ := h
  have HR1 := Lib.hid hrow1
  clear hrow1 hxl1
  cases hc : ts.all isMove <;> by_cases h3 : ts.length ≤ 30
  all_goals
    have hf : codeMoves ts = if ts.all isMove then (if ts.length ≤ 30 then 0 else 3) else 1 := rfl
    simp only [hc, h3, if_true, if_false, Bool.false_eq_true] at hf
    have HF := Lib.hid hf
    have HC := Lib.hid hc
    clear hf hc
    go_enter Tryd.func45, Tryd.ntmps45
    go_wp2_with (go_at_call 81; refine (w_allMoves _ _ _ H.out).mono ?_; rintro e w1 ⟨rfl, hL⟩; rw [HC.out])
    go_ret
    exact ⟨by rw [HF.out]; rfl, by (repeat (with_reducible first | exact Later.refl _ | refine Later.alloc ?_ _ | refine Later.drew ?_ | refine Later.drewN ?_ _ | refine Later.setCell ?_ (by simp; try omega) _ | refine Later.trans ?_ (by assumption)))⟩

theorem w_specL12Code (v : Value) (ts : List Mov) (w : World) (h : IsMovs w v ts) :
    Calls Tryd.prog 42 #[v] w fun e w' => e = .returned (.int .i64 (codeMoves ts)) ∧ Later w w' := by
  obtain ⟨hxl1, hn1, a1, cap1, rfl, hcap1, hmax1, hrow1⟩ := h
  have HR1 := Lib.hid hrow1
  clear hrow1 hxl1
  go_enter Tryd.func42, Tryd.ntmps42
  go_wp2
  go_loopw [2, 3] (fun r i wr => ∃ k : Nat, k ≤ ts.length ∧ i = .int .i64 k ∧ r = .int .i64 0 ∧ Later w wr ∧ Hid ((ts.take k).all isMove = true)) (fun _ i _ => ts.length - (intOf i).toNat)
  case atStart => exact ⟨0, Nat.zero_le _, rfl, rfl, Later.refl _, by simp [Hid]⟩
  case round =>
    obtain ⟨k, hk, rfl, rfl, hL, HE⟩ := hrel
    by_cases hlt : k < ts.length
    · obtain ⟨b1, off1, rfl, hr1⟩ := HR1.out (by omega)
      obtain ⟨t, ht1⟩ := get_ex (l := ts) (k := k) (by omega)
      have HT1 := Lib.hid ht1
      obtain ⟨c1_0, c1_1, c1_2, c1_3⟩ := (hr1.later hL).mov ht1
      clear ht1
      cases hq : isMove t
      all_goals
        have HQ := Lib.hid hq
        clear hq
        go_wp2_with (go_at_call 79; refine (w_specL12Is _ _ _ _ _).mono ?_; rintro e w1 ⟨rfl, hL1⟩; rw [show isMove ⟨t.k, t.s, ⟨t.f.d, t.f.t⟩⟩ = _ from HQ.out])
      · have hf := all_false (p := isMove) HT1.out HQ.out
        go_ret
        exact ⟨by simp [codeMoves, hf], by (repeat (with_reducible first | exact Later.refl _ | refine Later.alloc ?_ _ | refine Later.drew ?_ | refine Later.drewN ?_ _ | refine Later.setCell ?_ (by simp; try omega) _ | refine Later.trans ?_ (by assumption)))⟩
      · go_roundw
        case rel => exact ⟨k + 1, by omega, by go_num, rfl, by (repeat (with_reducible first | exact Later.refl _ | refine Later.alloc ?_ _ | refine Later.drew ?_ | refine Later.drewN ?_ _ | refine Later.setCell ?_ (by simp; try omega) _ | refine Later.trans ?_ (by assumption))), all_snoc HT1.out HE.out HQ.out⟩
        case measure => simp [intOf]; omega
    · have ha : ts.all isMove = true := by
        have := HE.out
        rwa [take_eq_all (by omega)] at this
      have hf : codeMoves ts = if ts.length ≤ 30 then 0 else 3 := by simp only [codeMoves, ha, if_true]
      clear ha
      by_cases h3 : ts.length ≤ 30
      all_goals
        simp only [h3, if_true, if_false] at hf
        have HF := Lib.hid hf
        clear hf
        go_wp2
        go_ret
        exact ⟨by rw [HF.out]; rfl, by (repeat (with_reducible first | exact Later.refl _ | refine Later.alloc ?_ _ | refine Later.drew ?_ | refine Later.drewN ?_ _ | refine Later.setCell ?_ (by simp; try omega) _ | refine Later.trans ?_ (by assumption)))⟩

theorem codeMoves_eq (ts : List Mov) : decide (codeMoves ts = 0) = areMoves ts := by
  cases ha : ts.all isMove <;> by_cases h : ts.length ≤ 30 <;> simp [codeMoves, areMoves, h, ha]

end Go.Proofs.YtgngbdacejghcaaDoor
