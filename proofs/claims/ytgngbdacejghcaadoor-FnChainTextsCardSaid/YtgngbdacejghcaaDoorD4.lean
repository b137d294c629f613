/- DERIVED. Walks: chains as text. -/
import Derived.Test.YtgngbdacejghcaaDoorD3
namespace Go.Proofs.YtgngbdacejghcaaDoor
set_option linter.unusedVariables false
set_option linter.unusedSimpArgs false
open Go.RowKit
set_option maxRecDepth 100000
set_option linter.unusedVariables false

def ctT (l : List Trm) : List UInt8 := if isChain l then chT l else []
theorem head_no {l : List Trm} {k : Nat} {t : Trm} (h : isChain l = true) (ht : l[k]? = some t) (hd : t.dv = true) : 0 < k := by
  by_cases hk : k = 0
  · subst hk
    have := (isChain_true h).2.2.1
    cases l with
    | nil => simp at ht
    | cons a l => simp at ht; subst ht; simp [headDv, hd] at this
  · omega
theorem ch_step {l : List Trm} {k : Nat} {t : Trm} (ht : l[k]? = some t) (hk : 0 < k) : chT (l.take (k + 1)) = chT (l.take k) ++ [sepB t] ++ figT t.f := by
  rw [take_snoc' ht]
  refine chT_snoc (fun e => ?_) t
  have h3 := congrArg List.length e
  have h2 := (List.getElem?_eq_some_iff.1 ht).1
  rw [List.length_take] at h3
  simp only [List.length_nil] at h3
  omega
theorem ch_first {l : List Trm} {t : Trm} (ht : l[0]? = some t) : chT (l.take 1) = figT t.f := by
  rw [show (1 : Nat) = 0 + 1 from rfl, take_snoc' ht]
  simp [chT, chR]
theorem sep_d {t : Trm} (h : t.dv = true) : sepB t = 47 := by simp [sepB, h]
theorem sep_m {t : Trm} (h : t.dv = false) : sepB t = 42 := by simp [sepB, h]

set_option maxHeartbeats 1000000 in
theorem w_implChainTextY (v : Value) (ts : List Trm) (w : World) (h : IsTrms w v ts) (hc : isChain ts = true) (ht : PTab w) :
    Calls Tryd.prog 12 #[v] w fun e w' => e = .returned (.tuple #[sv (chT ts), .int .i64 0]) ∧ Later w w' := by
  have PT := Lib.hid ht
  clear ht
  have HC := Lib.hid hc
  have h6 := (isChain_true hc).2.1
  have HI := Lib.hid h
  clear hc
  obtain ⟨hxl1, hn1, a1, cap1, rfl, hcap1, hmax1, hrow1⟩ := h
  have HR1 := Lib.hid hrow1
  clear hrow1 hxl1
  go_enter Tryd.func12, Tryd.ntmps12
  go_wp2_with fail
  refine (w_implIsChain _ ts _ HI.out).mono ?_
  rintro e w0 ⟨rfl, hL0⟩
  rw [HC.out]
  go_wp2
  go_loopw [4, 12] (fun s i wr => ∃ (S : List UInt8) (k : Nat), k ≤ ts.length ∧ i = .int .i64 k ∧ s = sv S ∧ Hid (chT (ts.take k) = S) ∧ S.length ≤ 43 * k ∧ Later w wr) (fun _ i _ => ts.length - (intOf i).toNat)
  case atStart => exact ⟨[], 0, Nat.zero_le _, rfl, rfl, rfl, by simp, hL0⟩
  case round =>
    obtain ⟨S, k, hk, rfl, rfl, HS, hSl, hL⟩ := hrel
    by_cases hlt : k < ts.length
    · obtain ⟨b1, off1, rfl, hr1⟩ := HR1.out (by omega)
      obtain ⟨t, ht1⟩ := get_ex (l := ts) (k := k) (by omega)
      have HT1 := Lib.hid ht1
      obtain ⟨c1_0, c1_1, c1_2⟩ := (hr1.later hL).trm ht1
      clear ht1
      have hbd := isChain_ok HC.out HT1.out
      obtain ⟨t1, t2, t3, t4⟩ := hbd
      obtain ⟨F, hF⟩ : ∃ F, figT t.f = F := ⟨_, rfl⟩
      have EF := Lib.hid hF
      have LF : Hid (F.length ≤ 42) := Lib.hid (by rw [← hF]; exact figT_len (by omega) (by omega) (by omega) (by omega))
      clear hF
      cases hq : t.dv
      · rw [hq] at c1_2
        have HQ := Lib.hid hq
        clear hq
        by_cases hk0 : 0 < k
        · have hkb : decide ((0 : Int) < (k : Int)) = true := by simp; omega
          obtain ⟨S1, hS1⟩ : ∃ X, S ++ [42] = X := ⟨_, rfl⟩
          have ES1 := Lib.hid hS1
          have l1 : S1.length = S.length + 1 := by rw [← hS1]; simp
          clear hS1
          have hz1 : (9223372036854775807 < S.length + 1) = False := by simp; omega
          have hz2 : (9223372036854775807 < S1.length + F.length) = False := by have := LF.out; simp; omega
          have LS1 := Lib.hid l1
          clear l1
          go_wp2_with fail
          rw [ByteArray.mk_append_mk, ES1.out]
          refine (w_figureText t.f t1 t2 (by omega) (by omega) _ (PT.out.later (hL.alloc _))).mono ?_
          rintro e w2 ⟨rfl, hL2⟩
          rw [EF.out]
          go_wp2
          go_roundw
          case rel => first | exact ⟨S1 ++ F, k + 1, by omega, by go_num, congrArg Value.string (ByteArray.mk_append_mk _ _), by rw [Hid, ch_step HT1.out hk0, HS.out, sep_m HQ.out, EF.out, ← ES1.out], by have := LF.out; rw [List.length_append, LS1.out]; omega, by (repeat (with_reducible first | exact Later.refl _ | refine Later.alloc ?_ _ | refine Later.drew ?_ | refine Later.drewN ?_ _ | refine Later.setCell ?_ (by simp; try omega) _ | refine Later.trans ?_ (by assumption)))⟩ | exact ⟨S1 ++ F, k + 1, by omega, by go_num, rfl, by rw [Hid, ch_step HT1.out hk0, HS.out, sep_m HQ.out, EF.out, ← ES1.out], by have := LF.out; rw [List.length_append, LS1.out]; omega, by (repeat (with_reducible first | exact Later.refl _ | refine Later.alloc ?_ _ | refine Later.drew ?_ | refine Later.drewN ?_ _ | refine Later.setCell ?_ (by simp; try omega) _ | refine Later.trans ?_ (by assumption)))⟩
          case measure => simp [intOf]; omega
        · have hkb : decide ((0 : Int) < (k : Int)) = false := by simp; omega
          obtain rfl : k = 0 := by omega
          simp only [Nat.zero_mul, Nat.add_zero] at c1_0 c1_1 c1_2
          have hz2 : (9223372036854775807 < S.length + F.length) = False := by have := LF.out; simp; omega
          go_wp2_with fail
          refine (w_figureText t.f t1 t2 (by omega) (by omega) _ (PT.out.later (hL.alloc _))).mono ?_
          rintro e w2 ⟨rfl, hL2⟩
          rw [EF.out]
          go_wp2
          go_roundw
          case rel => first | exact ⟨S ++ F, 0 + 1, by omega, by go_num, congrArg Value.string (ByteArray.mk_append_mk _ _), by rw [Hid, ch_first HT1.out, EF.out, ← HS.out]; rfl, by have := LF.out; rw [List.length_append]; omega, by (repeat (with_reducible first | exact Later.refl _ | refine Later.alloc ?_ _ | refine Later.drew ?_ | refine Later.drewN ?_ _ | refine Later.setCell ?_ (by simp; try omega) _ | refine Later.trans ?_ (by assumption)))⟩ | exact ⟨S ++ F, 0 + 1, by omega, by go_num, rfl, by rw [Hid, ch_first HT1.out, EF.out, ← HS.out]; rfl, by have := LF.out; rw [List.length_append]; omega, by (repeat (with_reducible first | exact Later.refl _ | refine Later.alloc ?_ _ | refine Later.drew ?_ | refine Later.drewN ?_ _ | refine Later.setCell ?_ (by simp; try omega) _ | refine Later.trans ?_ (by assumption)))⟩
          case measure => simp [intOf]; omega
      · rw [hq] at c1_2
        have HQ := Lib.hid hq
        have hk0 := head_no HC.out HT1.out hq
        have hkb : decide ((0 : Int) < (k : Int)) = true := by simp; omega
        clear hq
        obtain ⟨S1, hS1⟩ : ∃ X, S ++ [47] = X := ⟨_, rfl⟩
        have ES1 := Lib.hid hS1
        have l1 : S1.length = S.length + 1 := by rw [← hS1]; simp
        clear hS1
        have hz1 : (9223372036854775807 < S.length + 1) = False := by simp; omega
        have hz2 : (9223372036854775807 < S1.length + F.length) = False := by have := LF.out; simp; omega
        have LS1 := Lib.hid l1
        clear l1
        go_wp2_with fail
        rw [ByteArray.mk_append_mk, ES1.out]
        refine (w_figureText t.f t1 t2 (by omega) (by omega) _ (PT.out.later (hL.alloc _))).mono ?_
        rintro e w2 ⟨rfl, hL2⟩
        rw [EF.out]
        go_wp2
        go_roundw
        case rel => first | exact ⟨S1 ++ F, k + 1, by omega, by go_num, congrArg Value.string (ByteArray.mk_append_mk _ _), by rw [Hid, ch_step HT1.out hk0, HS.out, sep_d HQ.out, EF.out, ← ES1.out], by have := LF.out; rw [List.length_append, LS1.out]; omega, by (repeat (with_reducible first | exact Later.refl _ | refine Later.alloc ?_ _ | refine Later.drew ?_ | refine Later.drewN ?_ _ | refine Later.setCell ?_ (by simp; try omega) _ | refine Later.trans ?_ (by assumption)))⟩ | exact ⟨S1 ++ F, k + 1, by omega, by go_num, rfl, by rw [Hid, ch_step HT1.out hk0, HS.out, sep_d HQ.out, EF.out, ← ES1.out], by have := LF.out; rw [List.length_append, LS1.out]; omega, by (repeat (with_reducible first | exact Later.refl _ | refine Later.alloc ?_ _ | refine Later.drew ?_ | refine Later.drewN ?_ _ | refine Later.setCell ?_ (by simp; try omega) _ | refine Later.trans ?_ (by assumption)))⟩
        case measure => simp [intOf]; omega
    · have hf : chT ts = S := by
        have := HS.out
        rwa [take_eq_all (by omega)] at this
      have HF := Lib.hid hf
      clear hf
      go_wp2
      go_ret2
      exact ⟨by rw [HF.out]; rfl, hL⟩

set_option maxHeartbeats 1000000 in
theorem w_l13Text (v : Value) (ts : List Trm) (w : World) (h : IsTrms w v ts) (hc : isChain ts = true) :
    Calls Tryd.prog 37 #[v] w fun e w' => e = .returned (sv (chT ts)) ∧ Later w w' := by
  have HC := Lib.hid hc
  have h6 := (isChain_true hc).2.1
  have HI := Lib.hid h
  clear hc
  obtain ⟨hxl1, hn1, a1, cap1, rfl, hcap1, hmax1, hrow1⟩ := h
  have HR1 := Lib.hid hrow1
  clear hrow1 hxl1
  go_enter Tryd.func37, Tryd.ntmps37
  go_wp2
  go_loopw [3, 4] (fun s i wr => ∃ (S : List UInt8) (k : Nat), k ≤ ts.length ∧ i = .int .i64 k ∧ s = sv S ∧ Hid (chT (ts.take k) = S) ∧ S.length ≤ 43 * k ∧ Later w wr) (fun _ i _ => ts.length - (intOf i).toNat)
  case atStart => exact ⟨[], 0, Nat.zero_le _, rfl, rfl, rfl, by simp, Later.refl _⟩
  case round =>
    obtain ⟨S, k, hk, rfl, rfl, HS, hSl, hL⟩ := hrel
    by_cases hlt : k < ts.length
    · obtain ⟨b1, off1, rfl, hr1⟩ := HR1.out (by omega)
      obtain ⟨t, ht1⟩ := get_ex (l := ts) (k := k) (by omega)
      have HT1 := Lib.hid ht1
      obtain ⟨c1_0, c1_1, c1_2⟩ := (hr1.later hL).trm ht1
      clear ht1
      have hbd := isChain_ok HC.out HT1.out
      obtain ⟨t1, t2, t3, t4⟩ := hbd
      obtain ⟨F, hF⟩ : ∃ F, figT t.f = F := ⟨_, rfl⟩
      have EF := Lib.hid hF
      have LF : Hid (F.length ≤ 42) := Lib.hid (by rw [← hF]; exact figT_len (by omega) (by omega) (by omega) (by omega))
      clear hF
      cases hq : t.dv
      · rw [hq] at c1_2
        have HQ := Lib.hid hq
        clear hq
        by_cases hk0 : 0 < k
        · have hkb : decide ((0 : Int) < (k : Int)) = true := by simp; omega
          obtain ⟨S1, hS1⟩ : ∃ X, S ++ [42] = X := ⟨_, rfl⟩
          have ES1 := Lib.hid hS1
          have l1 : S1.length = S.length + 1 := by rw [← hS1]; simp
          clear hS1
          have hz1 : (9223372036854775807 < S.length + 1) = False := by simp; omega
          have hz2 : (9223372036854775807 < S1.length + F.length) = False := by have := LF.out; simp; omega
          have LS1 := Lib.hid l1
          clear l1
          go_wp2_with fail
          rw [ByteArray.mk_append_mk, ES1.out]
          refine (w_l02Text t.f t1 t2 (by omega) (by omega) _).mono ?_
          rintro e w2 ⟨rfl, hL2⟩
          rw [EF.out]
          go_wp2
          go_roundw
          case rel => first | exact ⟨S1 ++ F, k + 1, by omega, by go_num, congrArg Value.string (ByteArray.mk_append_mk _ _), by rw [Hid, ch_step HT1.out hk0, HS.out, sep_m HQ.out, EF.out, ← ES1.out], by have := LF.out; rw [List.length_append, LS1.out]; omega, by (repeat (with_reducible first | exact Later.refl _ | refine Later.alloc ?_ _ | refine Later.drew ?_ | refine Later.drewN ?_ _ | refine Later.setCell ?_ (by simp; try omega) _ | refine Later.trans ?_ (by assumption)))⟩ | exact ⟨S1 ++ F, k + 1, by omega, by go_num, rfl, by rw [Hid, ch_step HT1.out hk0, HS.out, sep_m HQ.out, EF.out, ← ES1.out], by have := LF.out; rw [List.length_append, LS1.out]; omega, by (repeat (with_reducible first | exact Later.refl _ | refine Later.alloc ?_ _ | refine Later.drew ?_ | refine Later.drewN ?_ _ | refine Later.setCell ?_ (by simp; try omega) _ | refine Later.trans ?_ (by assumption)))⟩
          case measure => simp [intOf]; omega
        · have hkb : decide ((0 : Int) < (k : Int)) = false := by simp; omega
          obtain rfl : k = 0 := by omega
          simp only [Nat.zero_mul, Nat.add_zero] at c1_0 c1_1 c1_2
          have hz2 : (9223372036854775807 < S.length + F.length) = False := by have := LF.out; simp; omega
          go_wp2_with fail
          refine (w_l02Text t.f t1 t2 (by omega) (by omega) _).mono ?_
          rintro e w2 ⟨rfl, hL2⟩
          rw [EF.out]
          go_wp2
          go_roundw
          case rel => first | exact ⟨S ++ F, 0 + 1, by omega, by go_num, congrArg Value.string (ByteArray.mk_append_mk _ _), by rw [Hid, ch_first HT1.out, EF.out, ← HS.out]; rfl, by have := LF.out; rw [List.length_append]; omega, by (repeat (with_reducible first | exact Later.refl _ | refine Later.alloc ?_ _ | refine Later.drew ?_ | refine Later.drewN ?_ _ | refine Later.setCell ?_ (by simp; try omega) _ | refine Later.trans ?_ (by assumption)))⟩ | exact ⟨S ++ F, 0 + 1, by omega, by go_num, rfl, by rw [Hid, ch_first HT1.out, EF.out, ← HS.out]; rfl, by have := LF.out; rw [List.length_append]; omega, by (repeat (with_reducible first | exact Later.refl _ | refine Later.alloc ?_ _ | refine Later.drew ?_ | refine Later.drewN ?_ _ | refine Later.setCell ?_ (by simp; try omega) _ | refine Later.trans ?_ (by assumption)))⟩
          case measure => simp [intOf]; omega
      · rw [hq] at c1_2
        have HQ := Lib.hid hq
        have hk0 := head_no HC.out HT1.out hq
        have hkb : decide ((0 : Int) < (k : Int)) = true := by simp; omega
        clear hq
        obtain ⟨S1, hS1⟩ : ∃ X, S ++ [47] = X := ⟨_, rfl⟩
        have ES1 := Lib.hid hS1
        have l1 : S1.length = S.length + 1 := by rw [← hS1]; simp
        clear hS1
        have hz1 : (9223372036854775807 < S.length + 1) = False := by simp; omega
        have hz2 : (9223372036854775807 < S1.length + F.length) = False := by have := LF.out; simp; omega
        have LS1 := Lib.hid l1
        clear l1
        go_wp2_with fail
        rw [ByteArray.mk_append_mk, ES1.out]
        refine (w_l02Text t.f t1 t2 (by omega) (by omega) _).mono ?_
        rintro e w2 ⟨rfl, hL2⟩
        rw [EF.out]
        go_wp2
        go_roundw
        case rel => first | exact ⟨S1 ++ F, k + 1, by omega, by go_num, congrArg Value.string (ByteArray.mk_append_mk _ _), by rw [Hid, ch_step HT1.out hk0, HS.out, sep_d HQ.out, EF.out, ← ES1.out], by have := LF.out; rw [List.length_append, LS1.out]; omega, by (repeat (with_reducible first | exact Later.refl _ | refine Later.alloc ?_ _ | refine Later.drew ?_ | refine Later.drewN ?_ _ | refine Later.setCell ?_ (by simp; try omega) _ | refine Later.trans ?_ (by assumption)))⟩ | exact ⟨S1 ++ F, k + 1, by omega, by go_num, rfl, by rw [Hid, ch_step HT1.out hk0, HS.out, sep_d HQ.out, EF.out, ← ES1.out], by have := LF.out; rw [List.length_append, LS1.out]; omega, by (repeat (with_reducible first | exact Later.refl _ | refine Later.alloc ?_ _ | refine Later.drew ?_ | refine Later.drewN ?_ _ | refine Later.setCell ?_ (by simp; try omega) _ | refine Later.trans ?_ (by assumption)))⟩
        case measure => simp [intOf]; omega
    · have hf : chT ts = S := by
        have := HS.out
        rwa [take_eq_all (by omega)] at this
      have HF := Lib.hid hf
      clear hf
      go_wp2
      go_ret
      exact ⟨by rw [HF.out]; rfl, hL⟩

theorem w_implChainText (v : Value) (ts : List Trm) (w : World) (h : IsTrms w v ts) (ht : PTab w) :
    Calls Tryd.prog 12 #[v] w fun e w' => e = .returned (.tuple #[sv (ctT ts), .int .i64 (codeChain ts)]) ∧ Later w w' := by
  cases hc : isChain ts
  · have HC := Lib.hid hc
    have HF := Lib.hid (show ctT ts = [] from by simp [ctT, hc])
    have HG := Lib.hid (show codeChain ts = 1 from by simp [codeChain, hc])
    clear hc
    go_enter Tryd.func12, Tryd.ntmps12
    go_wp2_with fail
    refine (w_implIsChain _ ts _ h).mono ?_
    rintro e w1 ⟨rfl, hL⟩
    rw [HC.out]
    go_wp2
    go_ret2
    exact ⟨by rw [HF.out, HG.out]; rfl, hL⟩
  · rw [show ctT ts = chT ts from by simp [ctT, hc], show codeChain ts = 0 from by simp [codeChain, hc]]
    exact w_implChainTextY v ts w h hc ht

theorem w_specChainText (v : Value) (ts : List Trm) (w : World) (h : IsTrms w v ts) :
    Calls Tryd.prog 10 #[v] w fun e w' => e = .returned (.tuple #[sv (ctT ts), .int .i64 (codeChain ts)]) ∧ Later w w' := by
  cases hc : isChain ts
  all_goals
    have HC := Lib.hid hc
    have HF := Lib.hid (show ctT ts = (if isChain ts then chT ts else []) from rfl)
    have HG := Lib.hid (show codeChain ts = (if isChain ts then 0 else 1) from rfl)
    clear hc
    go_enter Tryd.func10, Tryd.ntmps10
    go_wp2_with fail
    refine (w_specIsChain _ ts _ h).mono ?_
    rintro e w1 ⟨rfl, hL⟩
    rw [HC.out]
  · go_wp2
    go_ret2
    exact ⟨by rw [HF.out, HG.out, HC.out]; rfl, hL⟩
  · go_wp2_with fail
    refine (w_l13Text _ ts _ (h.later hL) HC.out).mono ?_
    rintro e w2 ⟨rfl, hL2⟩
    go_wp2
    go_ret2
    exact ⟨by rw [HF.out, HG.out, HC.out]; rfl, hL.trans hL2⟩

end Go.Proofs.YtgngbdacejghcaaDoor
