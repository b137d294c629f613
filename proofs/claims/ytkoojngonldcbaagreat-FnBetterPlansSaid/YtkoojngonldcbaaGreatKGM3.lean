/- DERIVED. Walks: small functions on numbers, figures, terms and moves. -/
import Derived.Test.YtkoojngonldcbaaGreatKGBA
namespace Go.Proofs.YtkoojngonldcbaaGreat
set_option linter.unusedVariables false
set_option linter.unusedSimpArgs false
open Go.RowKit
theorem w_l01In (n lo hi : Int) (w : World) :
 Calls Tryz.prog 82 #[.int .i64 n, .int .i64 lo, .int .i64 hi] w fun e w' => e = .returned (.bool (inR n lo hi)) ∧ w = w' := by
 by_cases h1 : lo ≤ n <;> by_cases h2 : n ≤ hi
 all_goals
  go_enter Tryz.func82, Tryz.ntmps82
  go_wp2
  go_ret
  simp [inR, *]
theorem w_within (n lo hi : Int) (w : World) :
 Calls Tryz.prog 72 #[.int .i64 n, .int .i64 lo, .int .i64 hi] w fun e w' => e = .returned (.bool (inR n lo hi)) ∧ w = w' := by
 by_cases h1 : lo ≤ n <;> by_cases h2 : n ≤ hi
 all_goals
  go_enter Tryz.func72, Tryz.ntmps72
  go_wp2
  go_ret
  simp [inR, *]
theorem w_specIsFigure (d t : Int) (w : World) :
 Calls Tryz.prog 103 #[.agg #[.int .i64 d, .int .i64 t]] w fun e w' => e = .returned (.bool (isFig ⟨d, t⟩)) ∧ Later w w' := by
 simp only [isFig]
 go_enter Tryz.func103, Tryz.ntmps103
 go_wp2_with (go_at_call 82; refine (w_l01In _ _ _ _).mono ?_; rintro e w' ⟨rfl, rfl⟩)
 all_goals go_ret
 all_goals exact ⟨by simp [*], qla⟩
theorem w_implIsFigure (d t : Int) (w : World) :
 Calls Tryz.prog 86 #[.agg #[.int .i64 d, .int .i64 t]] w fun e w' => e = .returned (.bool (isFig ⟨d, t⟩)) ∧ Later w w' := by
 simp only [isFig]
 go_enter Tryz.func86, Tryz.ntmps86
 go_wp2_with (go_at_call 72; refine (w_within _ _ _ _).mono ?_; rintro e w' ⟨rfl, rfl⟩)
 all_goals go_ret
 all_goals exact ⟨by simp [*], qla⟩
end Go.Proofs.YtkoojngonldcbaaGreat
namespace Go.Proofs.YtkoojngonldcbaaGreat
set_option linter.unusedVariables false
set_option linter.unusedSimpArgs false
open Go.RowKit
set_option maxRecDepth 100000
theorem w_isChain1 (d t : Int) (dv : Bool) (w : World) :
 Calls Tryz.prog 129 #[.agg #[.int .i64 d, .int .i64 t, .bool dv]] w fun e w' => e = .returned (.bool (!okTrm ⟨⟨d, t⟩, dv⟩)) ∧ Later w w' := by
 simp only [okTrm]
 go_enter Tryz.func129, Tryz.ntmps129
 go_wp2_with (go_at_call 86; refine (w_implIsFigure _ _ _).mono ?_; rintro e w1 ⟨rfl, hL⟩)
 go_ret
 exact ⟨rfl, qla⟩
theorem w_indexTrm (v : Value) (ts : List Trm) (w : World) (h : IsTrms w v ts) :
 Calls Tryz.prog 188 #[v, .func (.func 129) #[] #[]] w fun e w' => ∃ r : Int, e = .returned (.int .i64 r) ∧ decide (0 ≤ r) = (ts.any fun t => !okTrm t) ∧ Later w w' := by
 obtain ⟨hxl1, hn1, a1, cap1, rfl, hcap1, hmax1, hrow1⟩ := h
 have HR1 := Lib.hid hrow1
 clear hrow1 hxl1
 go_enter Tryz.func188, Tryz.ntmps188
 go_wp2
 go_loopw [8] (fun i wr => ∃ k : Nat, k ≤ ts.length ∧ i = .int .i64 k ∧ Later w wr ∧ Hid ((ts.take k).any (fun t => !okTrm t) = false)) (fun i _ => ts.length - (intOf i).toNat)
 case atStart => exact ⟨0, Nat.zero_le _, rfl, Later.refl _, by simp [Hid]⟩
 case round =>
  obtain ⟨k, hk, rfl, hL, HE⟩ := hrel
  by_cases hlt : k < ts.length
  · obtain ⟨b1, off1, rfl, hr1⟩ := HR1.out (by omega)
    obtain ⟨t, ht1⟩ := get_ex (l := ts) (k := k) (by omega)
    have HT1 := Lib.hid ht1
    obtain ⟨c1_0, c1_1, c1_2⟩ := (hr1.later hL).trm ht1
    clear ht1
    cases hq : okTrm t
    all_goals
     have HQ := Lib.hid hq
     clear hq
     go_wp2_with (go_at_call 129; refine (w_isChain1 _ _ _ _).mono ?_; rintro e w1 ⟨rfl, hL1⟩; rw [show okTrm ⟨⟨t.f.d, t.f.t⟩, t.dv⟩ = _ from HQ.out])
    · have hf := any_true (p := fun t => !okTrm t) HT1.out (by simp [HQ.out])
      go_ret
      exact ⟨_, rfl, by rw [hf]; simp, qla⟩
    · go_roundw
      case rel => exact ⟨k + 1, by omega, by go_num, qla, any_snoc HT1.out HE.out (by simp [HQ.out])⟩
      case measure => simp [intOf]; omega
  · have hf := any_false_end (by omega) HE.out
    have HF := Lib.hid hf
    clear hf
    go_wp2
    go_ret
    exact ⟨_, rfl, by rw [HF.out]; simp, qla⟩
theorem w_containsTrm (v : Value) (ts : List Trm) (w : World) (h : IsTrms w v ts) :
 Calls Tryz.prog 128 #[v, .func (.func 129) #[] #[]] w fun e w' => e = .returned (.bool (ts.any fun t => !okTrm t)) ∧ Later w w' := by
 go_enter Tryz.func128, Tryz.ntmps128
 go_wp2_with (go_at_call 188; refine (w_indexTrm _ _ _ h).mono ?_; rintro e w1 ⟨r, rfl, hr, hL⟩)
 go_ret
 exact ⟨by simp_all, qla⟩
theorem w_implIsChain (v : Value) (ts : List Trm) (w : World) (h : IsTrms w v ts) :
 Calls Tryz.prog 71 #[v] w fun e w' => e = .returned (.bool (isChain ts)) ∧ Later w w' := by
 have H := h
 obtain ⟨hxl1, hn1, a1, cap1, rfl, hcap1, hmax1, hrow1⟩ := h
 have HR1 := Lib.hid hrow1
 clear hrow1 hxl1
 have HH := Lib.hid H
 clear H
 by_cases h1 : ts.length < 1
 · have hf : isChain ts = false := by
    obtain rfl : ts = [] := List.eq_nil_of_length_eq_zero (by omega)
    rfl
   have HF := Lib.hid hf
   clear hf
   go_enter Tryz.func71, Tryz.ntmps71
   go_wp2
   go_ret
   exact ⟨by rw [HF.out]; rfl, qla⟩
 by_cases h2 : 6 < ts.length
 · have hf : isChain ts = false := by
    simp [isChain, inR]
    omega
   have HF := Lib.hid hf
   clear hf
   go_enter Tryz.func71, Tryz.ntmps71
   go_wp2
   go_ret
   exact ⟨by rw [HF.out]; rfl, qla⟩
 have hL0 : Later w w := Later.refl _
 have hn0 : (0 : Nat) < ts.length := by omega
 obtain ⟨b1, off1, rfl, hr1⟩ := HR1.out (by omega)
 obtain ⟨t, ht1⟩ := get_ex (l := ts) (k := 0) (by omega)
 have HT1 := Lib.hid ht1
 obtain ⟨c1_0, c1_1, c1_2⟩ := (hr1.later hL0).trm ht1
 clear ht1
 simp only [Nat.zero_mul, Nat.add_zero] at c1_0 c1_1 c1_2
 have hd : headDv ts = t.dv := by
  have := HT1.out
  cases ts with
  | nil => simp at this
  | cons x l => simp at this; subst this; rfl
 have hf : isChain ts = (ts.all okTrm && !t.dv) := by
  simp only [isChain, hd]
  rw [inR_mk (by omega), Bool.true_and]
 have HF := Lib.hid hf
 clear hf hd
 cases hq : t.dv
 all_goals
  rw [hq] at c1_2
  have HQ := Lib.hid hq
  clear hq
  go_enter Tryz.func71, Tryz.ntmps71
  go_wp2_with (go_at_call 128; refine (w_containsTrm _ _ _ HH.out).mono ?_; rintro e w1 ⟨rfl, hL⟩)
  go_ret
  exact ⟨by rw [HF.out, HQ.out]; simp [any_not], qla⟩
theorem w_specIsChain (v : Value) (ts : List Trm) (w : World) (h : IsTrms w v ts) :
 Calls Tryz.prog 81 #[v] w fun e w' => e = .returned (.bool (isChain ts)) ∧ Later w w' := by
 obtain ⟨hxl1, hn1, a1, cap1, rfl, hcap1, hmax1, hrow1⟩ := h
 have HR1 := Lib.hid hrow1
 clear hrow1 hxl1
 go_enter Tryz.func81, Tryz.ntmps81
 go_wp2
 go_loopw [2, 3] (fun r i wr => ∃ k : Nat, k ≤ ts.length ∧ i = .int .i64 k ∧ r = .bool false ∧ Later w wr ∧ Hid ((ts.take k).all okTrm = true)) (fun _ i _ => ts.length - (intOf i).toNat)
 case atStart => exact ⟨0, Nat.zero_le _, rfl, rfl, Later.refl _, by simp [Hid]⟩
 case round =>
  obtain ⟨k, hk, rfl, rfl, hL, HE⟩ := hrel
  by_cases hlt : k < ts.length
  · obtain ⟨b1, off1, rfl, hr1⟩ := HR1.out (by omega)
    obtain ⟨t, ht1⟩ := get_ex (l := ts) (k := k) (by omega)
    have HT1 := Lib.hid ht1
    obtain ⟨c1_0, c1_1, c1_2⟩ := (hr1.later hL).trm ht1
    clear ht1
    cases hq : isFig t.f
    all_goals
     have HQ := Lib.hid hq
     clear hq
     go_wp2_with (go_at_call 103; refine (w_specIsFigure _ _ _).mono ?_; rintro e w1 ⟨rfl, hL1⟩; rw [show isFig ⟨t.f.d, t.f.t⟩ = _ from HQ.out])
    · have hf := all_false (p := okTrm) HT1.out HQ.out
      go_ret
      exact ⟨by simp [isChain, hf], qla⟩
    · go_roundw
      case rel => exact ⟨k + 1, by omega, by go_num, rfl, qla, all_snoc HT1.out HE.out HQ.out⟩
      case measure => simp [intOf]; omega
  · have ha : ts.all okTrm = true := by
     have := HE.out
     rwa [take_eq_all (by omega)] at this
    by_cases h1 : ts.length < 1
    · have hf : isChain ts = false := by
       obtain rfl : ts = [] := List.eq_nil_of_length_eq_zero (by omega)
       rfl
      have hi : inR ts.length 1 6 = false := by simp [inR]; omega
      have HF := Lib.hid hf
      have HI := Lib.hid hi
      clear hf ha hi
      go_wp2_with (go_at_call 82; refine (w_l01In _ _ _ _).mono ?_; rintro e w' ⟨rfl, rfl⟩; rw [HI.out])
      go_ret
      exact ⟨by rw [HF.out]; rfl, hL⟩
    have hn0 : (0 : Nat) < ts.length := by omega
    obtain ⟨b1, off1, rfl, hr1⟩ := HR1.out (by omega)
    obtain ⟨t, ht1⟩ := get_ex (l := ts) (k := 0) (by omega)
    have HT1 := Lib.hid ht1
    obtain ⟨c1_0, c1_1, c1_2⟩ := (hr1.later hL).trm ht1
    clear ht1
    simp only [Nat.zero_mul, Nat.add_zero] at c1_0 c1_1 c1_2
    have hd : headDv ts = t.dv := by
     have := HT1.out
     cases ts with
     | nil => simp at this
     | cons x l => simp at this; subst this; rfl
    have hf : isChain ts = (inR ts.length 1 6 && !t.dv) := by
     simp only [isChain, hd, ha, Bool.true_and]
    have HF := Lib.hid hf
    clear hf ha hd
    go_wp2_with (go_at_call 82; refine (w_l01In _ _ _ _).mono ?_; rintro e w' ⟨rfl, rfl⟩)
    all_goals go_ret
    all_goals exact ⟨by rw [HF.out]; simp [*], hL⟩
end Go.Proofs.YtkoojngonldcbaaGreat
