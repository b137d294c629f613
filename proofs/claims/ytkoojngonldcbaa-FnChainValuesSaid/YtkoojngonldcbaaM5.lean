/- DERIVED. Walks: sums over chains and moves. -/
import Derived.Test.YtkoojngonldcbaaM3
import Derived.Test.YtkoojngonldcbaaHMove
namespace Go.Proofs.Ytkoojngonldcbaa
set_option linter.unusedVariables false
set_option linter.unusedSimpArgs false
open Go.RowKit
set_option maxRecDepth 100000

theorem w_specL16Sum (v : Value) (ts : List Trm) (w : World) (h : IsTrms w v ts) (hc : isChain ts = true) :
    Calls Try.prog 95 #[v] w fun e w' => e = .returned (.int .i64 (sumTens ts)) ∧ Later w w' := by
  have HC := Lib.hid hc
  have h6 := (isChain_true hc).2.1
  clear hc
  obtain ⟨hxl1, hn1, a1, cap1, rfl, hcap1, hmax1, hrow1⟩ := h
  have HR1 := Lib.hid hrow1
  clear hrow1 hxl1
  go_enter Try.func95, Try.ntmps95
  go_wp2
  go_loopw [3, 4] (fun r i wr => ∃ k : Nat, k ≤ ts.length ∧ i = .int .i64 k ∧ Later w wr ∧ ∃ S : Int, r = .int .i64 S ∧ Hid (S = sumTens (ts.take k)) ∧ -30 * (k : Int) ≤ S ∧ S ≤ 30 * k) (fun _ i _ => ts.length - (intOf i).toNat)
  case atStart => exact ⟨0, Nat.zero_le _, rfl, Later.refl _, 0, rfl, by simp [Hid, sumTens], by simp, by simp⟩
  case round =>
    obtain ⟨k, hk, rfl, hL, S, rfl, HS, hlo, hhi⟩ := hrel
    by_cases hlt : k < ts.length
    · obtain ⟨b1, off1, rfl, hr1⟩ := HR1.out (by omega)
      obtain ⟨t, ht1⟩ := get_ex (l := ts) (k := k) (by omega)
      have HT1 := Lib.hid ht1
      obtain ⟨c1_0, c1_1, c1_2⟩ := (hr1.later hL).trm ht1
      clear ht1
      have hbd := isChain_ok HC.out HT1.out
      obtain ⟨_, _, hb1, hb2⟩ := hbd
      cases hq : t.dv
      all_goals
        rw [hq] at c1_2
        have HQ := Lib.hid hq
        clear hq
        go_wp2
        go_roundw
        case rel => first | exact ⟨k + 1, by omega, by go_num, by (repeat (with_reducible first | exact Later.refl _ | refine Later.alloc ?_ _ | refine Later.drew ?_ | refine Later.drewN ?_ _ | refine Later.setCell ?_ (by simp; try omega) _ | refine Later.trans ?_ (by assumption))), S + t.f.t, rfl, by rw [Hid, take_snoc' HT1.out, sumTens_snoc, tensStep_n HQ.out, ← HS.out], by omega, by omega⟩ | exact ⟨k + 1, by omega, by go_num, by (repeat (with_reducible first | exact Later.refl _ | refine Later.alloc ?_ _ | refine Later.drew ?_ | refine Later.drewN ?_ _ | refine Later.setCell ?_ (by simp; try omega) _ | refine Later.trans ?_ (by assumption))), S - t.f.t, rfl, by rw [Hid, take_snoc' HT1.out, sumTens_snoc, tensStep_y HQ.out, ← HS.out], by omega, by omega⟩
        case measure => simp [intOf]; omega
    · have hf : S = sumTens ts := by
        have := HS.out
        rwa [take_eq_all (by omega)] at this
      have HF := Lib.hid hf
      clear hf
      go_wp2
      go_ret
      exact ⟨by rw [← HF.out]; rfl, by (repeat (with_reducible first | exact Later.refl _ | refine Later.alloc ?_ _ | refine Later.drew ?_ | refine Later.drewN ?_ _ | refine Later.setCell ?_ (by simp; try omega) _ | refine Later.trans ?_ (by assumption)))⟩

theorem w_implSumOfTens0 (v : Value) (ts : List Trm) (w : World) (h : IsTrms w v ts) (hc : isChain ts = true) :
    Calls Try.prog 94 #[v] w fun e w' => e = .returned (.int .i64 (sumTens ts)) ∧ Later w w' := by
  have HC := Lib.hid hc
  have h6 := (isChain_true hc).2.1
  clear hc
  obtain ⟨hxl1, hn1, a1, cap1, rfl, hcap1, hmax1, hrow1⟩ := h
  have HR1 := Lib.hid hrow1
  clear hrow1 hxl1
  go_enter Try.func94, Try.ntmps94
  go_wp2
  go_loopw [3, 8] (fun r i wr => ∃ k : Nat, k ≤ ts.length ∧ i = .int .i64 k ∧ Later w wr ∧ ∃ S : Int, r = .int .i64 S ∧ Hid (S = sumTens (ts.take k)) ∧ -30 * (k : Int) ≤ S ∧ S ≤ 30 * k) (fun _ i _ => ts.length - (intOf i).toNat)
  case atStart => exact ⟨0, Nat.zero_le _, rfl, Later.refl _, 0, rfl, by simp [Hid, sumTens], by simp, by simp⟩
  case round =>
    obtain ⟨k, hk, rfl, hL, S, rfl, HS, hlo, hhi⟩ := hrel
    by_cases hlt : k < ts.length
    · obtain ⟨b1, off1, rfl, hr1⟩ := HR1.out (by omega)
      obtain ⟨t, ht1⟩ := get_ex (l := ts) (k := k) (by omega)
      have HT1 := Lib.hid ht1
      obtain ⟨c1_0, c1_1, c1_2⟩ := (hr1.later hL).trm ht1
      clear ht1
      have hbd := isChain_ok HC.out HT1.out
      obtain ⟨_, _, hb1, hb2⟩ := hbd
      cases hq : t.dv
      all_goals
        rw [hq] at c1_2
        have HQ := Lib.hid hq
        clear hq
        go_wp2
        go_roundw
        case rel => first | exact ⟨k + 1, by omega, by go_num, by (repeat (with_reducible first | exact Later.refl _ | refine Later.alloc ?_ _ | refine Later.drew ?_ | refine Later.drewN ?_ _ | refine Later.setCell ?_ (by simp; try omega) _ | refine Later.trans ?_ (by assumption))), S + t.f.t, rfl, by rw [Hid, take_snoc' HT1.out, sumTens_snoc, tensStep_n HQ.out, ← HS.out], by omega, by omega⟩ | exact ⟨k + 1, by omega, by go_num, by (repeat (with_reducible first | exact Later.refl _ | refine Later.alloc ?_ _ | refine Later.drew ?_ | refine Later.drewN ?_ _ | refine Later.setCell ?_ (by simp; try omega) _ | refine Later.trans ?_ (by assumption))), S - t.f.t, rfl, by rw [Hid, take_snoc' HT1.out, sumTens_snoc, tensStep_y HQ.out, ← HS.out], by omega, by omega⟩
        case measure => simp [intOf]; omega
    · have hf : S = sumTens ts := by
        have := HS.out
        rwa [take_eq_all (by omega)] at this
      have HF := Lib.hid hf
      clear hf
      go_wp2
      go_ret
      exact ⟨by rw [← HF.out]; rfl, by (repeat (with_reducible first | exact Later.refl _ | refine Later.alloc ?_ _ | refine Later.drew ?_ | refine Later.drewN ?_ _ | refine Later.setCell ?_ (by simp; try omega) _ | refine Later.trans ?_ (by assumption)))⟩

theorem w_specSumOfTens (v : Value) (ts : List Trm) (w : World) (h : IsTrms w v ts) :
    Calls Try.prog 25 #[v] w fun e w' => e = .returned (.tuple #[.int .i64 (sumOfTens ts), .int .i64 (codeChain ts)]) ∧ Later w w' := by
  cases hc : isChain ts
  all_goals
    have HC := Lib.hid hc
    clear hc
    go_enter Try.func25, Try.ntmps25
    go_wp2_with fail
    refine (w_specIsChain _ _ _ h).mono ?_
    rintro e w1 ⟨rfl, hL⟩
    rw [HC.out]
    go_wp2_with (go_at_call 95; refine (w_specL16Sum _ _ _ (h.later hL) HC.out).mono ?_; rintro e w1 ⟨rfl, hL2⟩)
    go_ret2
    exact ⟨by simp [sumOfTens, codeChain, HC.out], by (repeat (with_reducible first | exact Later.refl _ | refine Later.alloc ?_ _ | refine Later.drew ?_ | refine Later.drewN ?_ _ | refine Later.setCell ?_ (by simp; try omega) _ | refine Later.trans ?_ (by assumption)))⟩

theorem w_implSumOfTens (v : Value) (ts : List Trm) (w : World) (h : IsTrms w v ts) :
    Calls Try.prog 24 #[v] w fun e w' => e = .returned (.tuple #[.int .i64 (sumOfTens ts), .int .i64 (codeChain ts)]) ∧ Later w w' := by
  cases hc : isChain ts
  all_goals
    have HC := Lib.hid hc
    clear hc
    go_enter Try.func24, Try.ntmps24
    go_wp2_with fail
    refine (w_implIsChain _ _ _ h).mono ?_
    rintro e w1 ⟨rfl, hL⟩
    rw [HC.out]
    go_wp2_with (go_at_call 94; refine (w_implSumOfTens0 _ _ _ (h.later hL) HC.out).mono ?_; rintro e w1 ⟨rfl, hL2⟩)
    go_ret2
    exact ⟨by simp [sumOfTens, codeChain, HC.out], by (repeat (with_reducible first | exact Later.refl _ | refine Later.alloc ?_ _ | refine Later.drew ?_ | refine Later.drewN ?_ _ | refine Later.setCell ?_ (by simp; try omega) _ | refine Later.trans ?_ (by assumption)))⟩

end Go.Proofs.Ytkoojngonldcbaa
