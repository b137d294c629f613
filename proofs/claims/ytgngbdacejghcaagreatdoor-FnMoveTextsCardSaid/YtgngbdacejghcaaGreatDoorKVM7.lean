/- DERIVED. Walks: moves. -/
import Derived.Test.YtgngbdacejghcaaGreatDoorKVM1
namespace Go.Proofs.YtgngbdacejghcaaGreatDoor
set_option linter.unusedVariables false
set_option linter.unusedSimpArgs false
open Go.RowKit
set_option maxRecDepth 100000
theorem w_specIsScale (s : Int) (w : World) : Calls Tryz.prog 173 #[.int .i64 s] w fun e w' => e = .returned (.bool (isScale s)) ∧ w = w' := by
 go_enter Tryz.func173, Tryz.ntmps173
 go_wp2_with (go_at_call 100; refine (w_l01In _ _ _ _).mono ?_; rintro e w' ⟨rfl, rfl⟩)
 go_ret
 exact ⟨rfl, rfl⟩
theorem w_implIsScale (s : Int) (w : World) : Calls Tryz.prog 112 #[.int .i64 s] w fun e w' => e = .returned (.bool (isScale s)) ∧ w = w' := by
 go_enter Tryz.func112, Tryz.ntmps112
 go_wp2_with (go_at_call 75; refine (w_within _ _ _ _).mono ?_; rintro e w' ⟨rfl, rfl⟩)
 go_ret
 exact ⟨rfl, rfl⟩
theorem w_l10Scale (s : Int) (w : World) : Calls Tryz.prog 146 #[.int .i64 s] w fun e w' => e = .returned (.bool (isScaleN s)) ∧ w = w' := by
 have h : isScaleN s = (isScale s && !(s == 5)) := rfl
 have H := Lib.hid h
 clear h
 go_enter Tryz.func146, Tryz.ntmps146
 go_wp2_with (go_at_call 173; refine (w_specIsScale _ _).mono ?_; rintro e w' ⟨rfl, rfl⟩)
 all_goals go_ret
 all_goals exact ⟨by (rw [H.out]; first | rfl | (simp [*]; done) | (simp_all [bne]; done) | (simp_all [bne] <;> grind)), rfl⟩
theorem w_implIsMove (k s d t : Int) (w : World) :
 Calls Tryz.prog 133 #[.agg #[.int .i64 k, .int .i64 s, .int .i64 d, .int .i64 t]] w fun e w' => e = .returned (.bool (isMove ⟨k, s, ⟨d, t⟩⟩)) ∧ Later w w' := by
 cases h2 : inR k 0 2
 · cases h3 : inR k 3 6
   all_goals
    have hf : isMove ⟨k, s, ⟨d, t⟩⟩ = (inR k 3 6 && (s == 0 && (d == 0 && t == 0))) := by simp [isMove, h2]
    have HF := Lib.hid hf
    have H2 := Lib.hid h2
    have H3 := Lib.hid h3
    clear hf h2 h3
    go_enter Tryz.func133, Tryz.ntmps133
    go_wp2_with fail
    refine (w_within _ _ _ _).mono ?_
    rintro e w' ⟨rfl, rfl⟩
    rw [H2.out]
    go_wp2_with fail
    refine (w_within _ _ _ _).mono ?_
    rintro e w' ⟨rfl, rfl⟩
    rw [H3.out]
    rw [H3.out] at HF
    go_wp2
    all_goals go_ret
    all_goals exact ⟨by (rw [HF.out]; first | rfl | (simp [*]; done) | (simp_all [bne]; done) | (simp_all [bne] <;> grind)), qla⟩
 · have hf : isMove ⟨k, s, ⟨d, t⟩⟩ = (isScale s && !(s == 5) && isFig ⟨d, t⟩) := by simp [isMove, h2, isScaleN, isScale]
   have HF := Lib.hid hf
   have H2 := Lib.hid h2
   clear hf h2
   go_enter Tryz.func133, Tryz.ntmps133
   go_wp2_with fail
   refine (w_within _ _ _ _).mono ?_
   rintro e w' ⟨rfl, rfl⟩
   rw [H2.out]
   go_wp2_with (first | (go_at_call 112; refine (w_implIsScale _ _).mono ?_; rintro e w' ⟨rfl, rfl⟩) | (go_at_call 46; refine (w_implIsFigure _ _ _).mono ?_; rintro e w1 ⟨rfl, hL⟩))
   all_goals go_ret
   all_goals exact ⟨by (rw [HF.out]; first | rfl | (simp [*]; done) | (simp_all [bne]; done) | (simp_all [bne] <;> grind)), qla⟩
theorem w_specL12Is (k s d t : Int) (w : World) :
 Calls Tryz.prog 127 #[.agg #[.int .i64 k, .int .i64 s, .int .i64 d, .int .i64 t]] w fun e w' => e = .returned (.bool (isMove ⟨k, s, ⟨d, t⟩⟩)) ∧ Later w w' := by
 have hk : k = 0 ∨ k = 1 ∨ k = 2 ∨ k = 3 ∨ k = 4 ∨ k = 5 ∨ k = 6 ∨ (inR k 0 2 = false ∧ inR k 3 6 = false ∧ (k == 0) = false ∧ (k == 1) = false ∧ (k == 2) = false ∧ (k == 3) = false ∧ (k == 4) = false ∧ (k == 5) = false ∧ (k == 6) = false) := by
  simp [inR]; omega
 rcases hk with rfl | rfl | rfl | rfl | rfl | rfl | rfl | ⟨h2, h3, e0, e1, e2, e3, e4, e5, e6⟩
 · have hf : isMove ⟨0, s, ⟨d, t⟩⟩ = (isScaleN s && isFig ⟨d, t⟩) := by simp [isMove, inR]
   have HF := Lib.hid hf
   clear hf
   go_enter Tryz.func127, Tryz.ntmps127
   go_wp2_with (first | (go_at_call 146; refine (w_l10Scale _ _).mono ?_; rintro e w' ⟨rfl, rfl⟩) | (go_at_call 52; refine (w_specIsFigure _ _ _).mono ?_; rintro e w1 ⟨rfl, hL⟩))
   all_goals go_ret
   all_goals exact ⟨by (rw [HF.out]; first | rfl | (simp [*]; done) | (simp_all [bne]; done) | (simp_all [bne] <;> grind)), qla⟩
 · have hf : isMove ⟨1, s, ⟨d, t⟩⟩ = (isScaleN s && isFig ⟨d, t⟩) := by simp [isMove, inR]
   have HF := Lib.hid hf
   clear hf
   go_enter Tryz.func127, Tryz.ntmps127
   go_wp2_with (first | (go_at_call 146; refine (w_l10Scale _ _).mono ?_; rintro e w' ⟨rfl, rfl⟩) | (go_at_call 52; refine (w_specIsFigure _ _ _).mono ?_; rintro e w1 ⟨rfl, hL⟩))
   all_goals go_ret
   all_goals exact ⟨by (rw [HF.out]; first | rfl | (simp [*]; done) | (simp_all [bne]; done) | (simp_all [bne] <;> grind)), qla⟩
 · have hf : isMove ⟨2, s, ⟨d, t⟩⟩ = (isScaleN s && isFig ⟨d, t⟩) := by simp [isMove, inR]
   have HF := Lib.hid hf
   clear hf
   go_enter Tryz.func127, Tryz.ntmps127
   go_wp2_with (first | (go_at_call 146; refine (w_l10Scale _ _).mono ?_; rintro e w' ⟨rfl, rfl⟩) | (go_at_call 52; refine (w_specIsFigure _ _ _).mono ?_; rintro e w1 ⟨rfl, hL⟩))
   all_goals go_ret
   all_goals exact ⟨by (rw [HF.out]; first | rfl | (simp [*]; done) | (simp_all [bne]; done) | (simp_all [bne] <;> grind)), qla⟩
 · have hf : isMove ⟨3, s, ⟨d, t⟩⟩ = (s == 0 && (d == 0 && t == 0)) := by simp [isMove, inR]
   have HF := Lib.hid hf
   clear hf
   go_enter Tryz.func127, Tryz.ntmps127
   go_wp2
   all_goals go_ret
   all_goals exact ⟨by (rw [HF.out]; first | rfl | (simp [*]; done) | (simp_all [bne]; done) | (simp_all [bne] <;> grind)), qla⟩
 · have hf : isMove ⟨4, s, ⟨d, t⟩⟩ = (s == 0 && (d == 0 && t == 0)) := by simp [isMove, inR]
   have HF := Lib.hid hf
   clear hf
   go_enter Tryz.func127, Tryz.ntmps127
   go_wp2
   all_goals go_ret
   all_goals exact ⟨by (rw [HF.out]; first | rfl | (simp [*]; done) | (simp_all [bne]; done) | (simp_all [bne] <;> grind)), qla⟩
 · have hf : isMove ⟨5, s, ⟨d, t⟩⟩ = (s == 0 && (d == 0 && t == 0)) := by simp [isMove, inR]
   have HF := Lib.hid hf
   clear hf
   go_enter Tryz.func127, Tryz.ntmps127
   go_wp2
   all_goals go_ret
   all_goals exact ⟨by (rw [HF.out]; first | rfl | (simp [*]; done) | (simp_all [bne]; done) | (simp_all [bne] <;> grind)), qla⟩
 · have hf : isMove ⟨6, s, ⟨d, t⟩⟩ = (s == 0 && (d == 0 && t == 0)) := by simp [isMove, inR]
   have HF := Lib.hid hf
   clear hf
   go_enter Tryz.func127, Tryz.ntmps127
   go_wp2
   all_goals go_ret
   all_goals exact ⟨by (rw [HF.out]; first | rfl | (simp [*]; done) | (simp_all [bne]; done) | (simp_all [bne] <;> grind)), qla⟩
 · have hf : isMove ⟨k, s, ⟨d, t⟩⟩ = false := by simp [isMove, h2, h3]
   have HF := Lib.hid hf
   clear hf h2 h3
   go_enter Tryz.func127, Tryz.ntmps127
   go_wp2
   go_ret
   exact ⟨by rw [HF.out]; rfl, qla⟩
theorem w_allMoves1 (k s d t : Int) (w : World) :
 Calls Tryz.prog 155 #[.agg #[.int .i64 k, .int .i64 s, .int .i64 d, .int .i64 t]] w fun e w' => e = .returned (.bool (!isMove ⟨k, s, ⟨d, t⟩⟩)) ∧ Later w w' := by
 go_enter Tryz.func155, Tryz.ntmps155
 go_wp2_with (go_at_call 133; refine (w_implIsMove _ _ _ _ _).mono ?_; rintro e w1 ⟨rfl, hL⟩)
 go_ret
 exact ⟨rfl, qla⟩
theorem w_indexMov (v : Value) (ts : List Mov) (w : World) (h : IsMovs w v ts) :
 Calls Tryz.prog 184 #[v, .func (.func 155) #[] #[]] w fun e w' => ∃ r : Int, e = .returned (.int .i64 r) ∧ decide (0 ≤ r) = (ts.any fun t => !isMove t) ∧ Later w w' := by
 obtain ⟨hxl1, hn1, a1, cap1, rfl, hcap1, hmax1, hrow1⟩ := h
 have HR1 := Lib.hid hrow1
 clear hrow1 hxl1
 go_enter Tryz.func184, Tryz.ntmps184
 go_wp2
 go_loopw [8] (fun i wr => ∃ k : Nat, k ≤ ts.length ∧ i = .int .i64 k ∧ Later w wr ∧ Hid ((ts.take k).any (fun t => !isMove t) = false)) (fun i _ => ts.length - (intOf i).toNat)
 case atStart => exact ⟨0, Nat.zero_le _, rfl, Later.refl _, by simp [Hid]⟩
 case round =>
  obtain ⟨k, hk, rfl, hL, HE⟩ := hrel
  by_cases hlt : k < ts.length
  · obtain ⟨b1, off1, rfl, hr1⟩ := HR1.out (by omega)
    obtain ⟨t, ht1⟩ := get_ex (l := ts) (k := k) (by omega)
    have HT1 := Lib.hid ht1
    obtain ⟨c1_0, c1_1, c1_2, c1_3⟩ := (hr1.later hL).mov ht1
    clear ht1
    cases hq : isMove t
    all_goals
     have HQ := Lib.hid hq
     clear hq
     go_wp2_with (go_at_call 155; refine (w_allMoves1 _ _ _ _ _).mono ?_; rintro e w1 ⟨rfl, hL1⟩; rw [show isMove ⟨t.k, t.s, ⟨t.f.d, t.f.t⟩⟩ = _ from HQ.out])
    · have hf := any_true (p := fun t => !isMove t) HT1.out (by simp [HQ.out])
      go_ret
      exact ⟨_, rfl, by rw [hf]; simp, qla⟩
    · go_roundw
      case rel => exact ⟨k + 1, by omega, by go_num, qla, any_snoc HT1.out HE.out (by simp [HQ.out])⟩
      case measure => simp [intOf]; omega
  · have hf := any_false_end (by omega) HE.out
    have HF := Lib.hid hf
    clear hf
    go_wp2
    go_ret
    exact ⟨_, rfl, by rw [HF.out]; simp, qla⟩
theorem w_allMoves (v : Value) (ts : List Mov) (w : World) (h : IsMovs w v ts) :
 Calls Tryz.prog 122 #[v] w fun e w' => e = .returned (.bool (ts.all isMove)) ∧ Later w w' := by
 have hf := any_not ts isMove
 have HF := Lib.hid hf
 clear hf
 go_enter Tryz.func122, Tryz.ntmps122
 go_wp2_with (first | (go_at_call 184; refine (w_indexMov _ _ _ h).mono ?_; rintro e w1 ⟨r, rfl, hr, hL⟩) | go_in)
 go_ret
 exact ⟨by rw [← HF.out]; simp_all, qla⟩
theorem w_checkList (v : Value) (ts : List Mov) (w : World) (h : IsMovs w v ts) :
 Calls Tryz.prog 78 #[v] w fun e w' => e = .returned (.int .i64 (codeMoves ts)) ∧ Later w w' := by
 have H := Lib.hid h
 obtain ⟨hxl1, hn1, a1, cap1, rfl, hcap1, hmax1, hrow1⟩ := h
 have HR1 := Lib.hid hrow1
 clear hrow1 hxl1
 cases hc : ts.all isMove <;> by_cases h3 : ts.length ≤ 30
 all_goals
  have hf : codeMoves ts = if ts.all isMove then (if ts.length ≤ 30 then 0 else 3) else 1 := rfl
  simp only [hc, h3, if_true, if_false, Bool.false_eq_true] at hf
  have HF := Lib.hid hf
  have HC := Lib.hid hc
  clear hf hc
  go_enter Tryz.func78, Tryz.ntmps78
  go_wp2_with (go_at_call 122; refine (w_allMoves _ _ _ H.out).mono ?_; rintro e w1 ⟨rfl, hL⟩; rw [HC.out])
  go_ret
  exact ⟨by rw [HF.out]; rfl, qla⟩
theorem w_specL12Code (v : Value) (ts : List Mov) (w : World) (h : IsMovs w v ts) :
 Calls Tryz.prog 81 #[v] w fun e w' => e = .returned (.int .i64 (codeMoves ts)) ∧ Later w w' := by
 obtain ⟨hxl1, hn1, a1, cap1, rfl, hcap1, hmax1, hrow1⟩ := h
 have HR1 := Lib.hid hrow1
 clear hrow1 hxl1
 go_enter Tryz.func81, Tryz.ntmps81
 go_wp2
 go_loopw [2, 3] (fun r i wr => ∃ k : Nat, k ≤ ts.length ∧ i = .int .i64 k ∧ r = .int .i64 0 ∧ Later w wr ∧ Hid ((ts.take k).all isMove = true)) (fun _ i _ => ts.length - (intOf i).toNat)
 case atStart => exact ⟨0, Nat.zero_le _, rfl, rfl, Later.refl _, by simp [Hid]⟩
 case round =>
  obtain ⟨k, hk, rfl, rfl, hL, HE⟩ := hrel
  by_cases hlt : k < ts.length
  · obtain ⟨b1, off1, rfl, hr1⟩ := HR1.out (by omega)
    obtain ⟨t, ht1⟩ := get_ex (l := ts) (k := k) (by omega)
    have HT1 := Lib.hid ht1
    obtain ⟨c1_0, c1_1, c1_2, c1_3⟩ := (hr1.later hL).mov ht1
    clear ht1
    cases hq : isMove t
    all_goals
     have HQ := Lib.hid hq
     clear hq
     go_wp2_with (go_at_call 127; refine (w_specL12Is _ _ _ _ _).mono ?_; rintro e w1 ⟨rfl, hL1⟩; rw [show isMove ⟨t.k, t.s, ⟨t.f.d, t.f.t⟩⟩ = _ from HQ.out])
    · have hf := all_false (p := isMove) HT1.out HQ.out
      go_ret
      exact ⟨by simp [codeMoves, hf], qla⟩
    · go_roundw
      case rel => exact ⟨k + 1, by omega, by go_num, rfl, qla, all_snoc HT1.out HE.out HQ.out⟩
      case measure => simp [intOf]; omega
  · have ha : ts.all isMove = true := by
     have := HE.out
     rwa [take_eq_all (by omega)] at this
    have hf : codeMoves ts = if ts.length ≤ 30 then 0 else 3 := by simp only [codeMoves, ha, if_true]
    clear ha
    by_cases h3 : ts.length ≤ 30
    all_goals
     simp only [h3, if_true, if_false] at hf
     have HF := Lib.hid hf
     clear hf
     go_wp2
     go_ret
     exact ⟨by rw [HF.out]; rfl, qla⟩
theorem w_countSettings0 (v : Value) (ts : List Mov) (w : World) (h : IsMovs w v ts) :
 Calls Tryz.prog 92 #[v] w fun e w' => e = .returned (.int .i64 (countSet ts)) ∧ Later w w' := by
 obtain ⟨hxl1, hn1, a1, cap1, rfl, hcap1, hmax1, hrow1⟩ := h
 have HR1 := Lib.hid hrow1
 clear hrow1 hxl1
 go_enter Tryz.func92, Tryz.ntmps92
 go_wp2
 go_loopw [3, 8] (fun r i wr => ∃ k : Nat, k ≤ ts.length ∧ i = .int .i64 k ∧ Later w wr ∧ ∃ S : Int, r = .int .i64 S ∧ Hid (S = countSet (ts.take k)) ∧ 0 ≤ S ∧ S ≤ k) (fun _ i _ => ts.length - (intOf i).toNat)
 case atStart => exact ⟨0, Nat.zero_le _, rfl, Later.refl _, 0, rfl, by simp [Hid, countSet], by simp, by simp⟩
 case round =>
  obtain ⟨k, hk, rfl, hL, S, rfl, HS, hlo, hhi⟩ := hrel
  by_cases hlt : k < ts.length
  · obtain ⟨b1, off1, rfl, hr1⟩ := HR1.out (by omega)
    obtain ⟨t, ht1⟩ := get_ex (l := ts) (k := k) (by omega)
    have HT1 := Lib.hid ht1
    obtain ⟨c1_0, c1_1, c1_2, c1_3⟩ := (hr1.later hL).mov ht1
    clear ht1
    by_cases hq : t.k ≤ 2
    all_goals
     go_wp2
     go_roundw
     case rel => first | exact ⟨k + 1, by omega, by go_num, qla, S, rfl, by rw [Hid, take_snoc' HT1.out, countSet_snoc, setStep, if_neg hq, ← HS.out], by omega, by omega⟩ | exact ⟨k + 1, by omega, by go_num, qla, S + 1, rfl, by rw [Hid, take_snoc' HT1.out, countSet_snoc, setStep, if_pos hq, ← HS.out], by omega, by omega⟩
     case measure => simp [intOf]; omega
  · have hf : S = countSet ts := by
     have := HS.out
     rwa [take_eq_all (by omega)] at this
    have HF := Lib.hid hf
    clear hf
    go_wp2
    go_ret
    exact ⟨by rw [← HF.out]; rfl, qla⟩
theorem w_implCountSettings (v : Value) (ts : List Mov) (w : World) (h : IsMovs w v ts) :
 Calls Tryz.prog 34 #[v] w fun e w' => e = .returned (.tuple #[.int .i64 (countSettings ts), .int .i64 (codeMoves ts)]) ∧ Later w w' := by
 have hf : countSettings ts = if codeMoves ts = 0 then countSet ts else 0 := rfl
 rcases codeMoves_cases ts with hc | hc | hc
 all_goals
  rw [hc] at hf
  simp at hf
  have HF := Lib.hid hf
  have HC := Lib.hid hc
  clear hf hc
  go_enter Tryz.func34, Tryz.ntmps34
  go_wp2_with (first | (go_at_call 78; refine (w_checkList _ _ _ h).mono ?_; rintro e w1 ⟨rfl, hL⟩; rw [HC.out]) | (go_at_call 92; refine (w_countSettings0 _ _ _ (h.later (by assumption))).mono ?_; rintro e w1 ⟨rfl, hL2⟩))
  go_ret2
  exact ⟨by rw [HF.out, HC.out]; rfl, qla⟩
theorem w_specCountSettings (v : Value) (ts : List Mov) (w : World) (h : IsMovs w v ts) :
 Calls Tryz.prog 35 #[v] w fun e w' => e = .returned (.tuple #[.int .i64 (countSettings ts), .int .i64 (codeMoves ts)]) ∧ Later w w' := by
 have H := Lib.hid h
 obtain ⟨hxl1, hn1, a1, cap1, rfl, hcap1, hmax1, hrow1⟩ := h
 have HR1 := Lib.hid hrow1
 clear hrow1 hxl1
 have hf : countSettings ts = if codeMoves ts = 0 then countSet ts else 0 := rfl
 rcases codeMoves_cases ts with hc | hc | hc
 · rw [hc] at hf
   simp at hf
   have HF := Lib.hid hf
   have HC := Lib.hid hc
   clear hf hc
   go_enter Tryz.func35, Tryz.ntmps35
   go_wp2_with (go_at_call 81; refine (w_specL12Code _ _ _ H.out).mono ?_; rintro e w1 ⟨rfl, hL0⟩; rw [HC.out])
   go_loopw [5, 6] (fun r i wr => ∃ k : Nat, k ≤ ts.length ∧ i = .int .i64 k ∧ Later w wr ∧ ∃ S : Int, r = .int .i64 S ∧ Hid (S = countSet (ts.take k)) ∧ 0 ≤ S ∧ S ≤ k) (fun _ i _ => ts.length - (intOf i).toNat)
   case atStart => exact ⟨0, Nat.zero_le _, rfl, hL0, 0, rfl, by simp [Hid, countSet], by simp, by simp⟩
   case round =>
    obtain ⟨k, hk, rfl, hL, S, rfl, HS, hlo, hhi⟩ := hrel
    by_cases hlt : k < ts.length
    · obtain ⟨b1, off1, rfl, hr1⟩ := HR1.out (by omega)
      obtain ⟨t, ht1⟩ := get_ex (l := ts) (k := k) (by omega)
      have HT1 := Lib.hid ht1
      obtain ⟨c1_0, c1_1, c1_2, c1_3⟩ := (hr1.later hL).mov ht1
      clear ht1
      by_cases hq : t.k ≤ 2
      all_goals
       go_wp2
       go_roundw
       case rel => first | exact ⟨k + 1, by omega, by go_num, qla, S, rfl, by rw [Hid, take_snoc' HT1.out, countSet_snoc, setStep, if_neg hq, ← HS.out], by omega, by omega⟩ | exact ⟨k + 1, by omega, by go_num, qla, S + 1, rfl, by rw [Hid, take_snoc' HT1.out, countSet_snoc, setStep, if_pos hq, ← HS.out], by omega, by omega⟩
       case measure => simp [intOf]; omega
    · have hf : S = countSet ts := by
       have := HS.out
       rwa [take_eq_all (by omega)] at this
      have HF2 := Lib.hid hf
      clear hf
      go_wp2
      go_ret2
      exact ⟨by rw [HF.out, HC.out, ← HF2.out]; rfl, qla⟩
 all_goals
  rw [hc] at hf
  simp at hf
  have HF := Lib.hid hf
  have HC := Lib.hid hc
  clear hf hc
  go_enter Tryz.func35, Tryz.ntmps35
  go_wp2_with (go_at_call 81; refine (w_specL12Code _ _ _ H.out).mono ?_; rintro e w1 ⟨rfl, hL0⟩; rw [HC.out])
  go_ret2
  exact ⟨by rw [HF.out, HC.out]; rfl, qla⟩
end Go.Proofs.YtgngbdacejghcaaGreatDoor
