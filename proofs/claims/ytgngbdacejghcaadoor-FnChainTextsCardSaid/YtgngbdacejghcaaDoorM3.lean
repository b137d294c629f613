/- DERIVED. Walks: chains and moves, whether they are such. -/
import Derived.Test.YtgngbdacejghcaaDoorHTerm
namespace Go.Proofs.YtgngbdacejghcaaDoor
set_option linter.unusedVariables false
set_option linter.unusedSimpArgs false
open Go.RowKit
set_option maxRecDepth 100000

theorem w_isChain1 (d t : Int) (dv : Bool) (w : World) :
    Calls Tryd.prog 75 #[.agg #[.int .i64 d, .int .i64 t, .bool dv]] w fun e w' => e = .returned (.bool (!okTrm ⟨⟨d, t⟩, dv⟩)) ∧ Later w w' := by
  simp only [okTrm]
  go_enter Tryd.func75, Tryd.ntmps75
  go_wp2_with (go_at_call 76; refine (w_implIsFigure _ _ _).mono ?_; rintro e w1 ⟨rfl, hL⟩)
  go_ret
  exact ⟨rfl, by (repeat (with_reducible first | exact Later.refl _ | refine Later.alloc ?_ _ | refine Later.drew ?_ | refine Later.drewN ?_ _ | refine Later.setCell ?_ (by simp; try omega) _ | refine Later.trans ?_ (by assumption)))⟩

theorem w_indexTrm (v : Value) (ts : List Trm) (w : World) (h : IsTrms w v ts) :
    Calls Tryd.prog 108 #[v, .func (.func 75) #[] #[]] w fun e w' => ∃ r : Int, e = .returned (.int .i64 r) ∧ decide (0 ≤ r) = (ts.any fun t => !okTrm t) ∧ Later w w' := by
  obtain ⟨hxl1, hn1, a1, cap1, rfl, hcap1, hmax1, hrow1⟩ := h
  have HR1 := Lib.hid hrow1
  clear hrow1 hxl1
  go_enter Tryd.func108, Tryd.ntmps108
  go_wp2
  go_loopw [8] (fun i wr => ∃ k : Nat, k ≤ ts.length ∧ i = .int .i64 k ∧ Later w wr ∧ Hid ((ts.take k).any (fun t => !okTrm t) = false)) (fun i _ => ts.length - (intOf i).toNat)
  case atStart => exact ⟨0, Nat.zero_le _, rfl, Later.refl _, by simp [Hid]⟩
  case round =>
    obtain ⟨k, hk, rfl, hL, HE⟩ := hrel
    by_cases hlt : k < ts.length
    · obtain ⟨b1, off1, rfl, hr1⟩ := HR1.out (by omega)
      obtain ⟨t, ht1⟩ := get_ex (l := ts) (k := k) (by omega)
      have HT1 := Lib.hid ht1
      obtain ⟨c1_0, c1_1, c1_2⟩ := (hr1.later hL).trm ht1
      clear ht1
      cases hq : okTrm t
      all_goals
        have HQ := Lib.hid hq
        clear hq
        go_wp2_with (go_at_call 75; refine (w_isChain1 _ _ _ _).mono ?_; rintro e w1 ⟨rfl, hL1⟩; rw [show okTrm ⟨⟨t.f.d, t.f.t⟩, t.dv⟩ = _ from HQ.out])
      · have hf := any_true (p := fun t => !okTrm t) HT1.out (by simp [HQ.out])
        go_ret
        exact ⟨_, rfl, by rw [hf]; simp, by (repeat (with_reducible first | exact Later.refl _ | refine Later.alloc ?_ _ | refine Later.drew ?_ | refine Later.drewN ?_ _ | refine Later.setCell ?_ (by simp; try omega) _ | refine Later.trans ?_ (by assumption)))⟩
      · go_roundw
        case rel => exact ⟨k + 1, by omega, by go_num, by (repeat (with_reducible first | exact Later.refl _ | refine Later.alloc ?_ _ | refine Later.drew ?_ | refine Later.drewN ?_ _ | refine Later.setCell ?_ (by simp; try omega) _ | refine Later.trans ?_ (by assumption))), any_snoc HT1.out HE.out (by simp [HQ.out])⟩
        case measure => simp [intOf]; omega
    · have hf := any_false_end (by omega) HE.out
      have HF := Lib.hid hf
      clear hf
      go_wp2
      go_ret
      exact ⟨_, rfl, by rw [HF.out]; simp, by (repeat (with_reducible first | exact Later.refl _ | refine Later.alloc ?_ _ | refine Later.drew ?_ | refine Later.drewN ?_ _ | refine Later.setCell ?_ (by simp; try omega) _ | refine Later.trans ?_ (by assumption)))⟩

theorem w_containsTrm (v : Value) (ts : List Trm) (w : World) (h : IsTrms w v ts) :
    Calls Tryd.prog 74 #[v, .func (.func 75) #[] #[]] w fun e w' => e = .returned (.bool (ts.any fun t => !okTrm t)) ∧ Later w w' := by
  go_enter Tryd.func74, Tryd.ntmps74
  go_wp2_with (go_at_call 108; refine (w_indexTrm _ _ _ h).mono ?_; rintro e w1 ⟨r, rfl, hr, hL⟩)
  go_ret
  exact ⟨by simp_all, by (repeat (with_reducible first | exact Later.refl _ | refine Later.alloc ?_ _ | refine Later.drew ?_ | refine Later.drewN ?_ _ | refine Later.setCell ?_ (by simp; try omega) _ | refine Later.trans ?_ (by assumption)))⟩

theorem w_implIsChain (v : Value) (ts : List Trm) (w : World) (h : IsTrms w v ts) :
    Calls Tryd.prog 39 #[v] w fun e w' => e = .returned (.bool (isChain ts)) ∧ Later w w' := by
  have H := h
  obtain ⟨hxl1, hn1, a1, cap1, rfl, hcap1, hmax1, hrow1⟩ := h
  have HR1 := Lib.hid hrow1
  clear hrow1 hxl1
  have HH := Lib.hid H
  clear H
  by_cases h1 : ts.length < 1
  · have hf : isChain ts = false := by
      obtain rfl : ts = [] := List.eq_nil_of_length_eq_zero (by omega)
      rfl
    have HF := Lib.hid hf
    clear hf
    go_enter Tryd.func39, Tryd.ntmps39
    go_wp2
    go_ret
    exact ⟨by rw [HF.out]; rfl, by (repeat (with_reducible first | exact Later.refl _ | refine Later.alloc ?_ _ | refine Later.drew ?_ | refine Later.drewN ?_ _ | refine Later.setCell ?_ (by simp; try omega) _ | refine Later.trans ?_ (by assumption)))⟩
  by_cases h2 : 6 < ts.length
  · have hf : isChain ts = false := by
      simp [isChain, inR]
      omega
    have HF := Lib.hid hf
    clear hf
    go_enter Tryd.func39, Tryd.ntmps39
    go_wp2
    go_ret
    exact ⟨by rw [HF.out]; rfl, by (repeat (with_reducible first | exact Later.refl _ | refine Later.alloc ?_ _ | refine Later.drew ?_ | refine Later.drewN ?_ _ | refine Later.setCell ?_ (by simp; try omega) _ | refine Later.trans ?_ (by assumption)))⟩
  have hL0 : Later w w := Later.refl _
  have hn0 : (0 : Nat) < ts.length := by omega
  obtain ⟨b1, off1, rfl, hr1⟩ := HR1.out (by omega)
  obtain ⟨t, ht1⟩ := get_ex (l := ts) (k := 0) (by omega)
  have HT1 := Lib.hid ht1
  obtain ⟨c1_0, c1_1, c1_2⟩ := (hr1.later hL0).trm ht1
  clear ht1
  simp only [Nat.zero_mul, Nat.add_zero] at c1_0 c1_1 c1_2
  have hd : headDv ts = t.dv := by
    have := HT1.out
    cases ts with
    | nil => simp at this
    | cons x l => simp at this; subst this; rfl
  have hf : isChain ts = (ts.all okTrm && !t.dv) := by
    simp only [isChain, hd]
    rw [inR_mk (by omega), Bool.true_and]
  have HF := Lib.hid hf
  clear hf hd
  cases hq : t.dv
  all_goals
    rw [hq] at c1_2
    have HQ := Lib.hid hq
    clear hq
    go_enter Tryd.func39, Tryd.ntmps39
    go_wp2_with (go_at_call 74; refine (w_containsTrm _ _ _ HH.out).mono ?_; rintro e w1 ⟨rfl, hL⟩)
    go_ret
    exact ⟨by rw [HF.out, HQ.out]; simp [any_not], by (repeat (with_reducible first | exact Later.refl _ | refine Later.alloc ?_ _ | refine Later.drew ?_ | refine Later.drewN ?_ _ | refine Later.setCell ?_ (by simp; try omega) _ | refine Later.trans ?_ (by assumption)))⟩

theorem w_specIsChain (v : Value) (ts : List Trm) (w : World) (h : IsTrms w v ts) :
    Calls Tryd.prog 36 #[v] w fun e w' => e = .returned (.bool (isChain ts)) ∧ Later w w' := by
  obtain ⟨hxl1, hn1, a1, cap1, rfl, hcap1, hmax1, hrow1⟩ := h
  have HR1 := Lib.hid hrow1
  clear hrow1 hxl1
  go_enter Tryd.func36, Tryd.ntmps36
  go_wp2
  go_loopw [2, 3] (fun r i wr => ∃ k : Nat, k ≤ ts.length ∧ i = .int .i64 k ∧ r = .bool false ∧ Later w wr ∧ Hid ((ts.take k).all okTrm = true)) (fun _ i _ => ts.length - (intOf i).toNat)
  case atStart => exact ⟨0, Nat.zero_le _, rfl, rfl, Later.refl _, by simp [Hid]⟩
  case round =>
    obtain ⟨k, hk, rfl, rfl, hL, HE⟩ := hrel
    by_cases hlt : k < ts.length
    · obtain ⟨b1, off1, rfl, hr1⟩ := HR1.out (by omega)
      obtain ⟨t, ht1⟩ := get_ex (l := ts) (k := k) (by omega)
      have HT1 := Lib.hid ht1
      obtain ⟨c1_0, c1_1, c1_2⟩ := (hr1.later hL).trm ht1
      clear ht1
      cases hq : isFig t.f
      all_goals
        have HQ := Lib.hid hq
        clear hq
        go_wp2_with (go_at_call 70; refine (w_specIsFigure _ _ _).mono ?_; rintro e w1 ⟨rfl, hL1⟩; rw [show isFig ⟨t.f.d, t.f.t⟩ = _ from HQ.out])
      · have hf := all_false (p := okTrm) HT1.out HQ.out
        go_ret
        exact ⟨by simp [isChain, hf], by (repeat (with_reducible first | exact Later.refl _ | refine Later.alloc ?_ _ | refine Later.drew ?_ | refine Later.drewN ?_ _ | refine Later.setCell ?_ (by simp; try omega) _ | refine Later.trans ?_ (by assumption)))⟩
      · go_roundw
        case rel => exact ⟨k + 1, by omega, by go_num, rfl, by (repeat (with_reducible first | exact Later.refl _ | refine Later.alloc ?_ _ | refine Later.drew ?_ | refine Later.drewN ?_ _ | refine Later.setCell ?_ (by simp; try omega) _ | refine Later.trans ?_ (by assumption))), all_snoc HT1.out HE.out HQ.out⟩
        case measure => simp [intOf]; omega
    · have ha : ts.all okTrm = true := by
        have := HE.out
        rwa [take_eq_all (by omega)] at this
      by_cases h1 : ts.length < 1
      · have hf : isChain ts = false := by
          obtain rfl : ts = [] := List.eq_nil_of_length_eq_zero (by omega)
          rfl
        have hi : inR ts.length 1 6 = false := by simp [inR]; omega
        have HF := Lib.hid hf
        have HI := Lib.hid hi
        clear hf ha hi
        go_wp2_with (go_at_call 71; refine (w_l01In _ _ _ _).mono ?_; rintro e w' ⟨rfl, rfl⟩; rw [HI.out])
        go_ret
        exact ⟨by rw [HF.out]; rfl, hL⟩
      have hn0 : (0 : Nat) < ts.length := by omega
      obtain ⟨b1, off1, rfl, hr1⟩ := HR1.out (by omega)
      obtain ⟨t, ht1⟩ := get_ex (l := ts) (k := 0) (by omega)
      have HT1 := Lib.hid ht1
      obtain ⟨c1_0, c1_1, c1_2⟩ := (hr1.later hL).trm ht1
      clear ht1
      simp only [Nat.zero_mul, Nat.add_zero] at c1_0 c1_1 c1_2
      have hd : headDv ts = t.dv := by
        have := HT1.out
        cases ts with
        | nil => simp at this
        | cons x l => simp at this; subst this; rfl
      have hf : isChain ts = (inR ts.length 1 6 && !t.dv) := by
        simp only [isChain, hd, ha, Bool.true_and]
      have HF := Lib.hid hf
      clear hf ha hd
      go_wp2_with (go_at_call 71; refine (w_l01In _ _ _ _).mono ?_; rintro e w' ⟨rfl, rfl⟩)
      all_goals go_ret
      all_goals exact ⟨by rw [HF.out]; simp [*], hL⟩

end Go.Proofs.YtgngbdacejghcaaDoor
