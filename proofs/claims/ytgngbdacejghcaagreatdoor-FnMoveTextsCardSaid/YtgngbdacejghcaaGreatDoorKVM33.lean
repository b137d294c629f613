/- DERIVED. Walks: rules and settings. -/
import Derived.Test.YtgngbdacejghcaaGreatDoorKVM7
import Derived.Test.YtgngbdacejghcaaGreatDoorKVM10
import Derived.Test.YtgngbdacejghcaaGreatDoorKVPA
import Derived.Test.YtgngbdacejghcaaGreatDoorKVBA
namespace Go.Proofs.YtgngbdacejghcaaGreatDoor
set_option linter.unusedVariables false
set_option linter.unusedSimpArgs false
open Go.RowKit
set_option maxRecDepth 100000
theorem w_implAreScales (v : Value) (l : List Int) (w : World) (h : IsNums w v l) :
 Calls Tryz.prog 73 #[v] w fun e w' => e = .returned (.bool (areSc l)) ∧ Later w w' := by
 have H := Lib.hid h
 obtain ⟨hxl1, hn1, a1, cap1, rfl, hcap1, hmax1, hrow1⟩ := h
 have HR1 := Lib.hid hrow1
 clear hrow1 hxl1
 go_enter Tryz.func73, Tryz.ntmps73
 go_wp2
 go_loopw [7] (fun i wr => ∃ k : Nat, k ≤ l.length ∧ i = .int .i64 k ∧ Later w wr ∧ Hid (∀ j, j < k → okSc l j = true)) (fun i _ => l.length - (intOf i).toNat)
 case atStart => exact ⟨0, Nat.zero_le _, rfl, Later.refl _, fun j hj => absurd hj (Nat.not_lt_zero _)⟩
 case round =>
  obtain ⟨k, hk, rfl, hL, HO⟩ := hrel
  by_cases hlt : k < l.length
  · have HT := Lib.hid (H.out.later hL)
    obtain ⟨b1, off1, rfl, hr1⟩ := HR1.out (by omega)
    obtain ⟨x, ht1⟩ := get_ex (l := l) (k := k) (by omega)
    have HT1 := Lib.hid ht1
    have c1_0 := (hr1.later hL).num ht1
    clear ht1
    have hok := okSc_get HT1.out
    have hsn : isScaleN x = (isScale x && !(x == 5)) := rfl
    cases ha : isScale x
    · have hf := areSc_false hlt (by rw [hok, hsn, ha]; rfl)
      have HF := Lib.hid hf
      clear hf hok hsn
      go_wp2_with (go_at_call 112; refine (w_implIsScale _ _).mono ?_; rintro e w' ⟨rfl, rfl⟩)
      go_ret
      exact ⟨by rw [HF.out]; rfl, hL⟩
    cases hb : (x == 5)
    rotate_left
    · have hf := areSc_false hlt (by rw [hok, hsn, ha, hb]; rfl)
      have HF := Lib.hid hf
      clear hf hok hsn
      go_wp2_with (go_at_call 112; refine (w_implIsScale _ _).mono ?_; rintro e w' ⟨rfl, rfl⟩)
      go_ret
      exact ⟨by rw [HF.out]; rfl, hL⟩
    have hok2 : okSc l k = !hasI (l.take k) x := by rw [hok, hsn, ha, hb]; rfl
    cases hh : hasI (l.take k) x
    · have HK := Lib.hid (show okSc l k = true from by rw [hok2, hh]; rfl)
      have HH := Lib.hid hh
      clear hok hsn hok2 hh
      go_wp2_with (first | (go_at_call 112; refine (w_implIsScale _ _).mono ?_; rintro e w' ⟨rfl, rfl⟩) | (go_at_call 96; refine (w_containsInt _ (l.take k) _ _ (IsNums.take HT.out hk)).mono ?_; rintro e w' ⟨rfl, rfl⟩; rw [HH.out]))
      go_roundw
      case rel => exact ⟨k + 1, by omega, by go_num, hL, fun j hj => by
       by_cases hjk : j = k
       · subst hjk; exact HK.out
       · exact HO.out j (by omega)⟩
      case measure => simp [intOf]; omega
    · have hf := areSc_false hlt (by rw [hok2, hh]; rfl)
      have HF := Lib.hid hf
      have HH := Lib.hid hh
      clear hf hok hsn hok2 hh
      go_wp2_with (first | (go_at_call 112; refine (w_implIsScale _ _).mono ?_; rintro e w' ⟨rfl, rfl⟩) | (go_at_call 96; refine (w_containsInt _ (l.take k) _ _ (IsNums.take HT.out hk)).mono ?_; rintro e w' ⟨rfl, rfl⟩; rw [HH.out]))
      go_ret
      exact ⟨by rw [HF.out]; rfl, hL⟩
  · have ha : areSc l = inR l.length 1 6 := by rw [areSc, allSc_true fun j hj => HO.out j (by omega), Bool.true_and]
    by_cases h1 : 1 ≤ l.length <;> by_cases h2 : l.length ≤ 6
    all_goals try (exfalso; omega)
    all_goals
     have HF := Lib.hid (show areSc l = (decide ((1 : Int) ≤ l.length) && decide ((l.length : Int) ≤ 6)) from ha)
     clear ha
     go_wp2
     go_ret
     exact ⟨by rw [HF.out]; simp [h1, h2] <;> omega, hL⟩
theorem w_l11Scales (v : Value) (l : List Int) (w : World) (h : IsNums w v l) :
 Calls Tryz.prog 105 #[v] w fun e w' => e = .returned (.bool (areSc l)) ∧ Later w w' := by
 have H := Lib.hid h
 obtain ⟨hxl1, hn1, a1, cap1, rfl, hcap1, hmax1, hrow1⟩ := h
 have HR1 := Lib.hid hrow1
 clear hrow1 hxl1
 go_enter Tryz.func105, Tryz.ntmps105
 go_wp2
 go_loopw [2, 3] (fun q i wr => ∃ k : Nat, k ≤ l.length ∧ i = .int .i64 k ∧ q = .bool false ∧ Later w wr ∧ Hid (∀ j, j < k → okSc l j = true)) (fun _ i _ => l.length - (intOf i).toNat)
 case atStart => exact ⟨0, Nat.zero_le _, rfl, rfl, Later.refl _, fun j hj => absurd hj (Nat.not_lt_zero _)⟩
 case round =>
  obtain ⟨k, hk, rfl, rfl, hL, HO⟩ := hrel
  by_cases hlt : k < l.length
  · have HT := Lib.hid (H.out.later hL)
    obtain ⟨b1, off1, rfl, hr1⟩ := HR1.out (by omega)
    obtain ⟨x, ht1⟩ := get_ex (l := l) (k := k) (by omega)
    have HT1 := Lib.hid ht1
    have c1_0 := (hr1.later hL).num ht1
    clear ht1
    have hok := okSc_get HT1.out
    cases ha : isScaleN x
    · have hf := areSc_false hlt (by rw [hok, ha]; rfl)
      have HF := Lib.hid hf
      have q1 := fun n => qsame (show Calls Tryz.prog 146 #[.int .i64 x] (wr.drewN n) _ from ha ▸ w_l10Scale x (wr.drewN n))
      clear hf hok ha
      go_wp2_with fail
      go_quiet ((go_at_call 146; exact q1 _))
      clear q1
      go_wp2
      go_ret
      exact ⟨by rw [HF.out]; rfl, qla⟩
    · have q1 := fun n => qsame (show Calls Tryz.prog 146 #[.int .i64 x] (wr.drewN n) _ from ha ▸ w_l10Scale x (wr.drewN n))
      cases hh : hasI (l.take k) x
      · have HK := Lib.hid (show okSc l k = true from by rw [hok, ha, hh]; rfl)
        have q2 := fun n => qsame (show Calls Tryz.prog 69 #[.slice (some ⟨b1, off1, none⟩) k cap1, .int .i64 x] (wr.drewN n) _ from hh ▸ w_l01Has _ (l.take k) x (wr.drewN n) ((IsNums.take HT.out hk).later ((Later.refl _).drewN n)))
        clear hok ha hh
        go_wp2_with fail
        go_quiet ((first | (go_at_call 146; exact q1 _) | (go_at_call 69; exact q2 _)))
        clear q1 q2
        go_wp2
        go_roundw
        case rel => exact ⟨k + 1, by omega, by go_num, rfl, qla, fun j hj => by
         by_cases hjk : j = k
         · subst hjk; exact HK.out
         · exact HO.out j (by omega)⟩
        case measure => simp [intOf]; omega
      · have hf := areSc_false hlt (by rw [hok, ha, hh]; rfl)
        have HF := Lib.hid hf
        have q2 := fun n => qsame (show Calls Tryz.prog 69 #[.slice (some ⟨b1, off1, none⟩) k cap1, .int .i64 x] (wr.drewN n) _ from hh ▸ w_l01Has _ (l.take k) x (wr.drewN n) ((IsNums.take HT.out hk).later ((Later.refl _).drewN n)))
        clear hf hok ha hh
        go_wp2_with fail
        go_quiet ((first | (go_at_call 146; exact q1 _) | (go_at_call 69; exact q2 _)))
        clear q1 q2
        go_wp2
        go_ret
        exact ⟨by rw [HF.out]; rfl, qla⟩
  · have HF := Lib.hid (show areSc l = inR l.length 1 6 from by rw [areSc, allSc_true fun j hj => HO.out j (by omega), Bool.true_and])
    go_wp2_with fail
    refine (w_l01In _ _ _ _).mono ?_
    rintro e w' ⟨rfl, rfl⟩
    go_wp2
    go_ret
    exact ⟨by rw [HF.out]; rfl, hL⟩
theorem w_isLength (n : Int) (w : World) : Calls Tryz.prog 72 #[.int .i64 n] w fun e w' => e = .returned (.bool (inR n 1 100000)) ∧ w = w' := by
 go_enter Tryz.func72, Tryz.ntmps72
 go_wp2_with (go_at_call 75; refine (w_within _ _ _ _).mono ?_; rintro e w' ⟨rfl, rfl⟩)
 go_ret
 exact ⟨rfl, rfl⟩
theorem w_l05Length (n : Int) (w : World) : Calls Tryz.prog 104 #[.int .i64 n] w fun e w' => e = .returned (.bool (inR n 1 100000)) ∧ w = w' := by
 go_enter Tryz.func104, Tryz.ntmps104
 go_wp2_with (go_at_call 100; refine (w_l01In _ _ _ _).mono ?_; rintro e w' ⟨rfl, rfl⟩)
 go_ret
 exact ⟨rfl, rfl⟩
theorem w_implIsSetting (a b : Int) (w : World) :
 Calls Tryz.prog 23 #[.agg #[.int .i64 a, .int .i64 b]] w fun e w' => e = .returned (.bool (isStg ⟨a, b⟩)) ∧ Later w w' := by
 have HF := Lib.hid (show isStg ⟨a, b⟩ = (inR a (-1048576) 1048576 && inR b 0 1048576) from rfl)
 cases h1 : inR a (-1048576) 1048576 <;> cases h2 : inR b 0 1048576
 all_goals
  rw [h1, h2] at HF
  go_enter Tryz.func23, Tryz.ntmps23
  go_wp2_with (go_at_call 75; refine (w_within _ _ _ _).mono ?_; rintro e w' ⟨rfl, rfl⟩)
  go_ret
  exact ⟨by rw [HF.out]; rfl, qla⟩
theorem w_specIsSetting (a b : Int) (w : World) :
 Calls Tryz.prog 99 #[.agg #[.int .i64 a, .int .i64 b]] w fun e w' => e = .returned (.bool (isStg ⟨a, b⟩)) ∧ Later w w' := by
 have HF := Lib.hid (show isStg ⟨a, b⟩ = (inR a (-1048576) 1048576 && inR b 0 1048576) from rfl)
 cases h1 : inR a (-1048576) 1048576 <;> cases h2 : inR b 0 1048576
 all_goals
  rw [h1, h2] at HF
  go_enter Tryz.func99, Tryz.ntmps99
  go_wp2_with (go_at_call 100; refine (w_l01In _ _ _ _).mono ?_; rintro e w' ⟨rfl, rfl⟩)
  go_ret
  exact ⟨by rw [HF.out]; rfl, qla⟩
theorem w_implIsRule (n : Int) (u v : Value) (st sl : List Int) (w : World) (h : IsNums w u st) (h' : IsNums w v sl) :
 Calls Tryz.prog 19 #[.agg #[.int .i64 n, u, v]] w fun e w' => e = .returned (.bool (isRule ⟨n, st, sl⟩)) ∧ Later w w' := by
 have HF := Lib.hid (show isRule ⟨n, st, sl⟩ = (inR n 1 100000 && areSc st && areSc sl) from rfl)
 have H := Lib.hid h
 have H' := Lib.hid h'
 obtain ⟨_, _, au, capu, rfl, _, _, _⟩ := h
 obtain ⟨_, _, av, capv, rfl, _, _, _⟩ := h'
 cases h1 : inR n 1 100000
 · rw [h1] at HF
   have H1 := Lib.hid h1
   clear h1
   go_enter Tryz.func19, Tryz.ntmps19
   go_wp2_with fail
   refine (w_isLength _ _).mono ?_
   rintro e w' ⟨rfl, rfl⟩
   rw [H1.out]
   go_wp2
   go_ret
   exact ⟨by rw [HF.out]; rfl, qla⟩
 cases h2 : areSc st
 · rw [h1, h2] at HF
   have H1 := Lib.hid h1
   have H2 := Lib.hid h2
   clear h1 h2
   go_enter Tryz.func19, Tryz.ntmps19
   go_wp2_with fail
   refine (w_isLength _ _).mono ?_
   rintro e w' ⟨rfl, rfl⟩
   rw [H1.out]
   go_wp2_with fail
   refine (w_implAreScales _ _ _ (H.out.later ((Later.refl _).alloc _))).mono ?_
   rintro e w1 ⟨rfl, hL⟩
   rw [H2.out]
   go_wp2
   go_ret
   exact ⟨by rw [HF.out]; rfl, qla⟩
 cases h3 : areSc sl
 all_goals
  rw [h1, h2, h3] at HF
  have H1 := Lib.hid h1
  have H2 := Lib.hid h2
  have H3 := Lib.hid h3
  clear h1 h2 h3
  go_enter Tryz.func19, Tryz.ntmps19
  go_wp2_with fail
  refine (w_isLength _ _).mono ?_
  rintro e w' ⟨rfl, rfl⟩
  rw [H1.out]
  go_wp2_with fail
  refine (w_implAreScales _ _ _ (H.out.later ((Later.refl _).alloc _))).mono ?_
  rintro e w1 ⟨rfl, hL⟩
  rw [H2.out]
  obtain ⟨c0, f0, z0⟩ := blk1 hL
  go_wp2_with fail
  refine (w_implAreScales _ _ _ ((H'.out.later ((Later.refl _).alloc _)).later hL)).mono ?_
  rintro e w2 ⟨rfl, hL2⟩
  rw [H3.out]
  go_wp2
  go_ret
  exact ⟨by rw [HF.out]; rfl, qla⟩
theorem w_specIsRule (n : Int) (u v : Value) (st sl : List Int) (w : World) (h : IsNums w u st) (h' : IsNums w v sl) :
 Calls Tryz.prog 57 #[.agg #[.int .i64 n, u, v]] w fun e w' => e = .returned (.bool (isRule ⟨n, st, sl⟩)) ∧ Later w w' := by
 have HF := Lib.hid (show isRule ⟨n, st, sl⟩ = (inR n 1 100000 && areSc st && areSc sl) from rfl)
 have H := Lib.hid h
 have H' := Lib.hid h'
 obtain ⟨_, _, au, capu, rfl, _, _, _⟩ := h
 obtain ⟨_, _, av, capv, rfl, _, _, _⟩ := h'
 cases h1 : inR n 1 100000
 · rw [h1] at HF
   have H1 := Lib.hid h1
   clear h1
   go_enter Tryz.func57, Tryz.ntmps57
   go_wp2_with fail
   refine (w_l05Length _ _).mono ?_
   rintro e w' ⟨rfl, rfl⟩
   rw [H1.out]
   go_wp2
   go_ret
   exact ⟨by rw [HF.out]; rfl, qla⟩
 cases h2 : areSc st
 · rw [h1, h2] at HF
   have H1 := Lib.hid h1
   have H2 := Lib.hid h2
   clear h1 h2
   go_enter Tryz.func57, Tryz.ntmps57
   go_wp2_with fail
   refine (w_l05Length _ _).mono ?_
   rintro e w' ⟨rfl, rfl⟩
   rw [H1.out]
   go_wp2_with fail
   refine (w_l11Scales _ _ _ (H.out.later ((Later.refl _).alloc _))).mono ?_
   rintro e w1 ⟨rfl, hL⟩
   rw [H2.out]
   go_wp2
   go_ret
   exact ⟨by rw [HF.out]; rfl, qla⟩
 cases h3 : areSc sl
 all_goals
  rw [h1, h2, h3] at HF
  have H1 := Lib.hid h1
  have H2 := Lib.hid h2
  have H3 := Lib.hid h3
  clear h1 h2 h3
  go_enter Tryz.func57, Tryz.ntmps57
  go_wp2_with fail
  refine (w_l05Length _ _).mono ?_
  rintro e w' ⟨rfl, rfl⟩
  rw [H1.out]
  go_wp2_with fail
  refine (w_l11Scales _ _ _ (H.out.later ((Later.refl _).alloc _))).mono ?_
  rintro e w1 ⟨rfl, hL⟩
  rw [H2.out]
  obtain ⟨c0, f0, z0⟩ := blk1 hL
  go_wp2_with fail
  refine (w_l11Scales _ _ _ ((H'.out.later ((Later.refl _).alloc _)).later hL)).mono ?_
  rintro e w2 ⟨rfl, hL2⟩
  rw [H3.out]
  go_wp2
  go_ret
  exact ⟨by rw [HF.out]; rfl, qla⟩
theorem w_hasScale (n : Int) (u v : Value) (st sl : List Int) (b : Bool) (s : Int) (w : World) (h : IsNums w u st) (h' : IsNums w v sl) :
 Calls Tryz.prog 47 #[.agg #[.int .i64 n, u, v], .bool b, .int .i64 s] w fun e w' => e = .returned (.bool (hasI (onR ⟨n, st, sl⟩ b) s)) ∧ Later w w' := by
 have H := Lib.hid h
 have H' := Lib.hid h'
 obtain ⟨_, _, au, capu, rfl, _, _, _⟩ := h
 obtain ⟨_, _, av, capv, rfl, _, _, _⟩ := h'
 cases b
 · go_enter Tryz.func47, Tryz.ntmps47
   go_wp2_with fail
   refine (w_containsInt _ _ _ _ (H.out.later ((Later.refl _).alloc _))).mono ?_
   rintro e w' ⟨rfl, rfl⟩
   go_wp2
   go_ret
   exact ⟨rfl, qla⟩
 · go_enter Tryz.func47, Tryz.ntmps47
   go_wp2_with fail
   refine (w_containsInt _ _ _ _ (H'.out.later ((Later.refl _).alloc _))).mono ?_
   rintro e w' ⟨rfl, rfl⟩
   go_wp2
   go_ret
   exact ⟨rfl, qla⟩
theorem w_l11On (n : Int) (u v : Value) (st sl : List Int) (b : Bool) (w : World) (h : IsNums w u st) (h' : IsNums w v sl) :
 Calls Tryz.prog 70 #[.agg #[.int .i64 n, u, v], .bool b] w fun e w' => e = .returned (if b then v else u) ∧ Later w w' := by
 obtain ⟨_, _, au, capu, rfl, _, _, _⟩ := h
 obtain ⟨_, _, av, capv, rfl, _, _, _⟩ := h'
 cases b
 all_goals
  go_enter Tryz.func70, Tryz.ntmps70
  go_wp2
  go_ret
  exact ⟨rfl, qla⟩
end Go.Proofs.YtgngbdacejghcaaGreatDoor
