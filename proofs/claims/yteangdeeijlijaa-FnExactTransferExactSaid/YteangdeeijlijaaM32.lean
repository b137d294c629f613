/- DERIVED. Walks: TransferExact. -/
import Derived.Test.YteangdeeijlijaaM31
import Derived.Test.YteangdeeijlijaaM19
import Derived.Test.YteangdeeijlijaaP6
namespace Go.Proofs.Yteangdeeijlijaa
set_option linter.unusedVariables false
set_option linter.unusedSimpArgs false
open Go.RowKit
set_option maxRecDepth 100000

theorem w_l01Is (n : Int) (w : World) : Calls Try.prog 170 #[.int .i64 n] w fun e w' => e = .returned (.bool (inR n (-1000000000000) 1000000000000)) ∧ w = w' := by
  go_enter Try.func170, Try.ntmps170
  go_wp2_with (go_at_call 69; refine (w_l01In _ _ _ _).mono ?_; rintro e w' ⟨rfl, rfl⟩)
  go_ret
  exact ⟨rfl, rfl⟩

theorem w_specIsInterval (a b : Int) (w : World) (h1 : -1000000000000 ≤ a) (h2 : a ≤ b) (h3 : b ≤ 1000000000000) :
    Calls Try.prog 156 #[.agg #[.int .i64 a, .int .i64 b]] w fun e w' => e = .returned (.bool true) ∧ Later w w' := by
  have H1 := Lib.hid (show inR a (-1000000000000) 1000000000000 = true from inR_mk (by omega))
  have H2 := Lib.hid (show inR b (-1000000000000) 1000000000000 = true from inR_mk (by omega))
  go_enter Try.func156, Try.ntmps156
  go_wp2_with fail
  refine (w_l01Is _ _).mono ?_
  rintro e w1 ⟨rfl, rfl⟩
  rw [H1.out]
  go_wp2_with fail
  refine (w_l01Is _ _).mono ?_
  rintro e w1 ⟨rfl, rfl⟩
  rw [H2.out]
  go_wp2
  go_ret
  exact ⟨rfl, by (repeat (with_reducible first | exact Later.refl _ | refine Later.alloc ?_ _ | refine Later.drew ?_ | refine Later.drewN ?_ _ | refine Later.setCell ?_ (by simp; try omega) _ | refine Later.trans ?_ (by assumption)))⟩

theorem w_l03Result (a b : Int) (w : World) (h1 : -1000000000000 ≤ a) (h2 : a ≤ b) (h3 : b ≤ 1000000000000) :
    Calls Try.prog 157 #[.agg #[.int .i64 a, .int .i64 b]] w fun e w' => e = .returned (.tuple #[.agg #[.int .i64 a, .int .i64 b], .int .i64 0]) ∧ Later w w' := by
  go_enter Try.func157, Try.ntmps157
  go_wp2_with fail
  refine (w_specIsInterval _ _ _ h1 h2 h3).mono ?_
  rintro e w1 ⟨rfl, hL⟩
  obtain ⟨⟨c0, f0, z0⟩, ⟨c1, f1, z1⟩⟩ := blk2 hL
  go_wp2
  refine bodyPost_ret (v := .tuple #[.agg #[.int .i64 a, .int .i64 b], .int .i64 0]) (by simp [results, Try.results157, go_sem, c1, z1]) rfl ⟨rfl, by (repeat (with_reducible first | exact Later.refl _ | refine Later.alloc ?_ _ | refine Later.drew ?_ | refine Later.drewN ?_ _ | refine Later.setCell ?_ (by simp; try omega) _ | refine Later.trans ?_ (by assumption)))⟩

theorem w_specScaleLog (a b n m : Int) (w : World) (h1 : -33000000 ≤ a) (h2 : a ≤ b) (h3 : b ≤ 33000000) (n1 : -12 ≤ n) (n2 : n ≤ 12) (m1 : 1 ≤ m) (m2 : m ≤ 12) :
    Calls Try.prog 128 #[.agg #[.int .i64 a, .int .i64 b], .int .i64 n, .int .i64 m] w fun e w' => e = .returned (.tuple #[.agg #[.int .i64 (scaleI ⟨a, b⟩ n m).lo, .int .i64 (scaleI ⟨a, b⟩ n m).hi], .int .i64 0]) ∧ Later w w' := by
  have hbd := scaleI_bd (a := ⟨a, b⟩) (n := n) (d := m) (A := 33000000) (B := 12) (by simp only; omega) (by simp only; omega) (by simp only; omega) (by simp only; omega) (by omega) (by omega) (by omega) (by omega) m1
  have hle := scaleI_le (a := ⟨a, b⟩) (n := n) m1
  have H1 := Lib.hid (show inR n (-12) 12 = true from inR_mk (by omega))
  have H2 := Lib.hid (show inR m 1 12 = true from inR_mk (by omega))
  obtain ⟨S, hS⟩ : ∃ S, scaleI ⟨a, b⟩ n m = S := ⟨_, rfl⟩
  rw [hS] at hbd hle ⊢
  obtain ⟨s1, s2, s3, s4⟩ := hbd
  have HS := Lib.hid hS
  clear hS
  go_enter Try.func128, Try.ntmps128
  go_wp2_with fail
  refine (w_specIsInterval _ _ _ (by omega) h2 (by omega)).mono ?_
  rintro e w1 ⟨rfl, hL⟩
  obtain ⟨K0, K1⟩ := kept2 hL
  obtain ⟨c0, f0, z0⟩ := blk_at K0
  have HK1 := Lib.hid K1
  clear K0 K1
  go_wp2_with fail
  refine (w_l01In _ _ _ _).mono ?_
  rintro e w2 ⟨rfl, rfl⟩
  rw [H1.out]
  go_wp2_with fail
  refine (w_l01In _ _ _ _).mono ?_
  rintro e w2 ⟨rfl, rfl⟩
  rw [H2.out]
  go_wp2_with fail
  refine (w_l03Scale _ _ _ _ (by omega) (by omega) (by omega) (by omega) (by omega) (by omega) (by omega) (by omega) _).mono ?_
  rintro e w2 ⟨rfl, hL2⟩
  rw [HS.out]
  go_wp2_with fail
  refine (w_l03Result _ _ _ (by omega) hle (by omega)).mono ?_
  rintro e w3 ⟨rfl, hL3⟩
  obtain ⟨c1, f1, z1⟩ := blk_at ((hL2.trans hL3).keep HK1.out)
  clear c0 f0 z0
  go_wp2
  refine bodyPost_ret (v := .tuple #[.agg #[.int .i64 S.lo, .int .i64 S.hi], .int .i64 0]) (by simp [results, Try.results128, go_sem, c1, z1]) rfl ⟨rfl, by (repeat (with_reducible first | exact Later.refl _ | refine Later.alloc ?_ _ | refine Later.drew ?_ | refine Later.drewN ?_ _ | refine Later.setCell ?_ (by simp; try omega) _ | refine Later.trans ?_ (by assumption)))⟩

set_option maxHeartbeats 1000000 in
theorem w_specPowerSpan (d t n m : Int) (w : World) (hf : isFig ⟨d, t⟩ = true) (n1 : -12 ≤ n) (n2 : n ≤ 12) (m1 : 1 ≤ m) (m2 : m ≤ 12) :
    Calls Try.prog 84 #[.agg #[.int .i64 d, .int .i64 t], .int .i64 n, .int .i64 m] w fun e w' => e = .returned (.tuple #[.agg #[.int .i64 (spanL (scaleI (figLog ⟨d, t⟩) n m)).d, .int .i64 (spanL (scaleI (figLog ⟨d, t⟩) n m)).t], .agg #[.int .i64 (spanH (scaleI (figLog ⟨d, t⟩) n m)).d, .int .i64 (spanH (scaleI (figLog ⟨d, t⟩) n m)).t], .int .i64 (spanC (scaleI (figLog ⟨d, t⟩) n m))]) ∧ Later w w' := by
  have hb := isFig_true hf
  simp only at hb
  obtain ⟨t1, t2, t3, t4⟩ := hb
  have hl := figLog_bd2 (f := ⟨d, t⟩) t1 t2 t3 t4
  have hle := figLog_le (f := ⟨d, t⟩) t1 t2
  obtain ⟨q1, q2, q3, q4⟩ := hl
  obtain ⟨S, hS⟩ : ∃ S, scaleI (figLog ⟨d, t⟩) n m = S := ⟨_, rfl⟩
  rw [hS]
  have HS := Lib.hid (show scaleI ⟨(figLog ⟨d, t⟩).lo, (figLog ⟨d, t⟩).hi⟩ n m = S from hS)
  have HFI := Lib.hid hf
  clear hS hf
  go_enter Try.func84, Try.ntmps84
  go_wp2_with fail
  refine (w_specIsFigure _ _ _).mono ?_
  rintro e w1 ⟨rfl, hL⟩
  rw [HFI.out]
  obtain ⟨K0, K1, K2⟩ := kept3 hL
  obtain ⟨c0, f0, z0⟩ := blk_at K0
  have HK1 := Lib.hid K1
  have HK2 := Lib.hid K2
  clear K0 K1 K2
  go_wp2_with fail
  refine (w_l03Figure _ _ t1 t2 (by omega) (by omega) _).mono ?_
  rintro e w2 ⟨rfl, hL2⟩
  clear c0 f0 z0
  go_wp2_with fail
  refine (w_specScaleLog _ _ _ _ _ q1 (by omega) q4 n1 n2 m1 m2).mono ?_
  rintro e w3 ⟨rfl, hL3⟩
  rw [HS.out]
  go_wp2_with fail
  refine (w_l04Span _ _ _).mono ?_
  rintro e w4 ⟨rfl, hL4⟩
  have hk1 := hL4.keep (heap_alloc_old _ _ ((hL2.trans hL3).keep HK1.out))
  have hk2 := hL4.keep (heap_alloc_old _ _ ((hL2.trans hL3).keep HK2.out))
  obtain ⟨c1, f1, z1⟩ := blk_at hk1
  obtain ⟨c2, f2, z2⟩ := blk_at hk2
  go_wp2
  refine bodyPost_ret (v := .tuple #[.agg #[.int .i64 (spanL ⟨S.lo, S.hi⟩).d, .int .i64 (spanL ⟨S.lo, S.hi⟩).t], .agg #[.int .i64 (spanH ⟨S.lo, S.hi⟩).d, .int .i64 (spanH ⟨S.lo, S.hi⟩).t], .int .i64 (spanC ⟨S.lo, S.hi⟩)]) (by simp [results, Try.results84, go_sem, c1, z1, c2, z2]) rfl ⟨rfl, by (repeat (with_reducible first | exact Later.refl _ | refine Later.alloc ?_ _ | refine Later.drew ?_ | refine Later.drewN ?_ _ | refine Later.setCell ?_ (by simp; try omega) _ | refine Later.trans ?_ (by assumption)))⟩

set_option maxHeartbeats 1000000 in
theorem w_implPowerSpan (d t n m : Int) (w : World) (hf : isFig ⟨d, t⟩ = true) (n1 : -12 ≤ n) (n2 : n ≤ 12) (m1 : 1 ≤ m) (m2 : m ≤ 12) :
    Calls Try.prog 88 #[.agg #[.int .i64 d, .int .i64 t], .int .i64 n, .int .i64 m] w fun e w' => e = .returned (.tuple #[.agg #[.int .i64 (spanL (scaleI (figLog ⟨d, t⟩) n m)).d, .int .i64 (spanL (scaleI (figLog ⟨d, t⟩) n m)).t], .agg #[.int .i64 (spanH (scaleI (figLog ⟨d, t⟩) n m)).d, .int .i64 (spanH (scaleI (figLog ⟨d, t⟩) n m)).t], .int .i64 (spanC (scaleI (figLog ⟨d, t⟩) n m))]) ∧ Later w w' := by
  have hb := isFig_true hf
  simp only at hb
  obtain ⟨t1, t2, t3, t4⟩ := hb
  have hl := figLog_bd2 (f := ⟨d, t⟩) t1 t2 t3 t4
  obtain ⟨q1, q2, q3, q4⟩ := hl
  have H1 := Lib.hid (show inR n (-12) 12 = true from inR_mk (by omega))
  have H2 := Lib.hid (show inR m 1 12 = true from inR_mk (by omega))
  obtain ⟨S, hS⟩ : ∃ S, scaleI (figLog ⟨d, t⟩) n m = S := ⟨_, rfl⟩
  rw [hS]
  have HS := Lib.hid (show scaleI ⟨(figLog ⟨d, t⟩).lo, (figLog ⟨d, t⟩).hi⟩ n m = S from hS)
  have HFI := Lib.hid hf
  clear hS hf
  go_enter Try.func88, Try.ntmps88
  go_wp2_with fail
  refine (w_implIsFigure _ _ _).mono ?_
  rintro e w1 ⟨rfl, hL⟩
  rw [HFI.out]
  obtain ⟨K0, K1, K2⟩ := kept3 hL
  obtain ⟨c0, f0, z0⟩ := blk_at K0
  have HK1 := Lib.hid K1
  have HK2 := Lib.hid K2
  clear K0 K1 K2
  go_wp2_with fail
  refine (w_within _ _ _ _).mono ?_
  rintro e w2 ⟨rfl, rfl⟩
  rw [H1.out]
  go_wp2_with fail
  refine (w_within _ _ _ _).mono ?_
  rintro e w2 ⟨rfl, rfl⟩
  rw [H2.out]
  go_wp2_with fail
  refine (w_figureLog _ _ t1 t2 (by omega) (by omega) _).mono ?_
  rintro e w2 ⟨rfl, hL2⟩
  clear c0 f0 z0
  go_wp2_with fail
  refine (w_scaled _ _ _ _ (by omega) (by omega) (by omega) (by omega) (by omega) (by omega) (by omega) (by omega) _).mono ?_
  rintro e w3 ⟨rfl, hL3⟩
  rw [HS.out]
  go_wp2_with fail
  refine (w_spanOf _ _ _).mono ?_
  rintro e w4 ⟨rfl, hL4⟩
  have hk1 := (hL2.trans (hL3.trans hL4)).keep HK1.out
  have hk2 := (hL2.trans (hL3.trans hL4)).keep HK2.out
  obtain ⟨c1, f1, z1⟩ := blk_at hk1
  obtain ⟨c2, f2, z2⟩ := blk_at hk2
  go_wp2
  refine bodyPost_ret (v := .tuple #[.agg #[.int .i64 (spanL ⟨S.lo, S.hi⟩).d, .int .i64 (spanL ⟨S.lo, S.hi⟩).t], .agg #[.int .i64 (spanH ⟨S.lo, S.hi⟩).d, .int .i64 (spanH ⟨S.lo, S.hi⟩).t], .int .i64 (spanC ⟨S.lo, S.hi⟩)]) (by simp [results, Try.results88, go_sem, c1, z1, c2, z2]) rfl ⟨rfl, by (repeat (with_reducible first | exact Later.refl _ | refine Later.alloc ?_ _ | refine Later.drew ?_ | refine Later.drewN ?_ _ | refine Later.setCell ?_ (by simp; try omega) _ | refine Later.trans ?_ (by assumption)))⟩

set_option maxHeartbeats 1000000 in
theorem w_specTransferExact (a b d t : Int) (w : World) :
    Calls Try.prog 32 #[.int .i64 a, .int .i64 b, .agg #[.int .i64 d, .int .i64 t]] w fun e w' => e = .returned (.tuple #[.agg #[.int .i64 (txL a b ⟨d, t⟩).d, .int .i64 (txL a b ⟨d, t⟩).t], .agg #[.int .i64 (txH a b ⟨d, t⟩).d, .int .i64 (txH a b ⟨d, t⟩).t], .int .i64 (txC a b ⟨d, t⟩)]) ∧ Later w w' := by
  by_cases hx : codeExact a b ⟨d, t⟩ = 0
  rotate_left
  · have h3 : txL a b ⟨d, t⟩ = ⟨0, 0⟩ ∧ txH a b ⟨d, t⟩ = ⟨0, 0⟩ ∧ txC a b ⟨d, t⟩ = codeExact a b ⟨d, t⟩ := by
      revert hx
      simp only [txL, txH, txC, codeExact]
      cases isFig ⟨d, t⟩ <;> cases ordOk2 a b <;> simp
    have HF := Lib.hid h3
    have hx2 : (codeExact a b ⟨d, t⟩ != 0) = true := by simpa using hx
    obtain ⟨x, hx3⟩ : ∃ x, codeExact a b ⟨d, t⟩ = x := ⟨_, rfl⟩
    rw [hx3] at hx2 HF
    have HX := Lib.hid hx3
    clear hx3 hx h3
    go_enter Try.func32, Try.ntmps32
    go_wp2_with fail
    refine (w_l17Exact _ _ _ _ _).mono ?_
    rintro e w1 ⟨rfl, hL⟩
    rw [HX.out]
    obtain ⟨K0, K1, K2⟩ := kept3 hL
    obtain ⟨c1, f1, z1⟩ := blk_at K1
    obtain ⟨c2, f2, z2⟩ := blk_at K2
    go_wp2
    refine bodyPost_ret (v := .tuple #[.agg #[.int .i64 0, .int .i64 0], .agg #[.int .i64 0, .int .i64 0], .int .i64 x]) (by simp [results, Try.results32, go_sem, c1, z1, c2, z2]) rfl ⟨by rw [HF.out.1, HF.out.2.1, HF.out.2.2], by (repeat (with_reducible first | exact Later.refl _ | refine Later.alloc ?_ _ | refine Later.drew ?_ | refine Later.drewN ?_ _ | refine Later.setCell ?_ (by simp; try omega) _ | refine Later.trans ?_ (by assumption)))⟩
  have hx2 : isFig ⟨d, t⟩ = true ∧ ordOk2 a b = true := by
    revert hx
    simp only [codeExact]
    cases isFig ⟨d, t⟩ <;> cases ordOk2 a b <;> simp
  obtain ⟨hf, ho⟩ := hx2
  have heb := exp_bd (b := b) (ordOk2_true ho).1
  obtain ⟨n, hn⟩ : ∃ n, expN a b = n := ⟨_, rfl⟩
  obtain ⟨m, hm⟩ : ∃ m, expD a b = m := ⟨_, rfl⟩
  obtain ⟨S, hS⟩ : ∃ S, scaleI (figLog ⟨d, t⟩) n m = S := ⟨_, rfl⟩
  rw [hn, hm] at heb
  obtain ⟨n1, n2, m1, m2⟩ := heb
  have hE : expI a b ⟨d, t⟩ = S := by rw [expI, hn, hm, hS]
  have HF := Lib.hid (show txL a b ⟨d, t⟩ = spanL S ∧ txH a b ⟨d, t⟩ = spanH S ∧ txC a b ⟨d, t⟩ = spanC S from by simp [txL, txH, txC, hf, ho, hE])
  have HCE := Lib.hid hx
  have HN := Lib.hid hn
  have HM := Lib.hid hm
  have HS := Lib.hid hS
  have HFF := Lib.hid hf
  clear hn hm hS hf ho hx hE
  go_enter Try.func32, Try.ntmps32
  go_wp2_with fail
  refine (w_l17Exact _ _ _ _ _).mono ?_
  rintro e w1 ⟨rfl, hL⟩
  rw [HCE.out]
  obtain ⟨K0, K1, K2⟩ := kept3 hL
  obtain ⟨c0, f0, z0⟩ := blk_at K0
  have HK1 := Lib.hid K1
  have HK2 := Lib.hid K2
  clear K0 K1 K2
  go_wp2_with fail
  refine (w_l17Power _ _ _).mono ?_
  rintro e w3 ⟨rfl, rfl⟩
  rw [HN.out, HM.out]
  go_wp2_with fail
  refine (w_specPowerSpan _ _ _ _ _ HFF.out (by omega) (by omega) m1 (by omega)).mono ?_
  rintro e w3 ⟨rfl, hL3⟩
  rw [HS.out]
  obtain ⟨c1, f1, z1⟩ := blk_at (hL3.keep HK1.out)
  obtain ⟨c2, f2, z2⟩ := blk_at (hL3.keep HK2.out)
  clear c0 f0 z0
  go_wp2
  refine bodyPost_ret (v := .tuple #[.agg #[.int .i64 (spanL S).d, .int .i64 (spanL S).t], .agg #[.int .i64 (spanH S).d, .int .i64 (spanH S).t], .int .i64 (spanC S)]) (by simp [results, Try.results32, go_sem, c1, z1, c2, z2]) rfl ⟨by rw [HF.out.1, HF.out.2.1, HF.out.2.2], by (repeat (with_reducible first | exact Later.refl _ | refine Later.alloc ?_ _ | refine Later.drew ?_ | refine Later.drewN ?_ _ | refine Later.setCell ?_ (by simp; try omega) _ | refine Later.trans ?_ (by assumption)))⟩

set_option maxHeartbeats 1000000 in
theorem w_implTransferExact (a b d t : Int) (w : World) :
    Calls Try.prog 34 #[.int .i64 a, .int .i64 b, .agg #[.int .i64 d, .int .i64 t]] w fun e w' => e = .returned (.tuple #[.agg #[.int .i64 (txL a b ⟨d, t⟩).d, .int .i64 (txL a b ⟨d, t⟩).t], .agg #[.int .i64 (txH a b ⟨d, t⟩).d, .int .i64 (txH a b ⟨d, t⟩).t], .int .i64 (txC a b ⟨d, t⟩)]) ∧ Later w w' := by
  cases hf : isFig ⟨d, t⟩
  · have HFF := Lib.hid hf
    have HF := Lib.hid (show txL a b ⟨d, t⟩ = ⟨0, 0⟩ ∧ txH a b ⟨d, t⟩ = ⟨0, 0⟩ ∧ txC a b ⟨d, t⟩ = 1 from by simp [txL, txH, txC, hf])
    clear hf
    go_enter Try.func34, Try.ntmps34
    go_wp2_with fail
    refine (w_implIsFigure _ _ _).mono ?_
    rintro e w1 ⟨rfl, hL⟩
    rw [HFF.out]
    obtain ⟨K0, K1, K2⟩ := kept3 hL
    obtain ⟨c1, f1, z1⟩ := blk_at K1
    obtain ⟨c2, f2, z2⟩ := blk_at K2
    go_wp2
    refine bodyPost_ret (v := .tuple #[.agg #[.int .i64 0, .int .i64 0], .agg #[.int .i64 0, .int .i64 0], .int .i64 1]) (by simp [results, Try.results34, go_sem, c1, z1, c2, z2]) rfl ⟨by rw [HF.out.1, HF.out.2.1, HF.out.2.2], by (repeat (with_reducible first | exact Later.refl _ | refine Later.alloc ?_ _ | refine Later.drew ?_ | refine Later.drewN ?_ _ | refine Later.setCell ?_ (by simp; try omega) _ | refine Later.trans ?_ (by assumption)))⟩
  cases ho : ordOk2 a b
  · have HFF := Lib.hid hf
    have HF := Lib.hid (show txL a b ⟨d, t⟩ = ⟨0, 0⟩ ∧ txH a b ⟨d, t⟩ = ⟨0, 0⟩ ∧ txC a b ⟨d, t⟩ = 2 from by simp [txL, txH, txC, hf, ho])
    have ho2 : (ordScale a == 0 || ordScale b == 0) = true := by rw [ordOk2, Bool.not_eq_false'] at ho; exact ho
    clear hf ho
    cases ha : (ordScale a == 0)
    all_goals
      try (have hb : (ordScale b == 0) = true := by rwa [ha, Bool.false_or] at ho2)
      clear ho2
      go_enter Try.func34, Try.ntmps34
      go_wp2_with fail
      refine (w_implIsFigure _ _ _).mono ?_
      rintro e w1 ⟨rfl, hL⟩
      rw [HFF.out]
      obtain ⟨K0, K1, K2⟩ := kept3 hL
      obtain ⟨c1, f1, z1⟩ := blk_at K1
      obtain ⟨c2, f2, z2⟩ := blk_at K2
      go_wp2_with (go_at_call 86; refine (w_orderOf _ _).mono ?_; rintro e w' ⟨rfl, rfl⟩)
      refine bodyPost_ret (v := .tuple #[.agg #[.int .i64 0, .int .i64 0], .agg #[.int .i64 0, .int .i64 0], .int .i64 2]) (by simp [results, Try.results34, go_sem, c1, z1, c2, z2]) rfl ⟨by rw [HF.out.1, HF.out.2.1, HF.out.2.2], by (repeat (with_reducible first | exact Later.refl _ | refine Later.alloc ?_ _ | refine Later.drew ?_ | refine Later.drewN ?_ _ | refine Later.setCell ?_ (by simp; try omega) _ | refine Later.trans ?_ (by assumption)))⟩
  have ho3 := ordOk2_true ho
  have ha : (ordScale a == 0) = false := by simpa using ho3.1
  have hb : (ordScale b == 0) = false := by simpa using ho3.2
  have heb := exp_bd (b := b) ho3.1
  obtain ⟨n, hn⟩ : ∃ n, expN a b = n := ⟨_, rfl⟩
  obtain ⟨m, hm⟩ : ∃ m, expD a b = m := ⟨_, rfl⟩
  obtain ⟨S, hS⟩ : ∃ S, scaleI (figLog ⟨d, t⟩) n m = S := ⟨_, rfl⟩
  rw [hn, hm] at heb
  obtain ⟨n1, n2, m1, m2⟩ := heb
  have hE : expI a b ⟨d, t⟩ = S := by rw [expI, hn, hm, hS]
  have HF := Lib.hid (show txL a b ⟨d, t⟩ = spanL S ∧ txH a b ⟨d, t⟩ = spanH S ∧ txC a b ⟨d, t⟩ = spanC S from by simp [txL, txH, txC, hf, ho, hE])
  have HN := Lib.hid hn
  have HM := Lib.hid hm
  have HS := Lib.hid hS
  have HFF := Lib.hid hf
  clear hn hm hS hf ho hE ho3
  go_enter Try.func34, Try.ntmps34
  go_wp2_with fail
  refine (w_implIsFigure _ _ _).mono ?_
  rintro e w1 ⟨rfl, hL⟩
  rw [HFF.out]
  obtain ⟨K0, K1, K2⟩ := kept3 hL
  obtain ⟨c0, f0, z0⟩ := blk_at K0
  have HK1 := Lib.hid K1
  have HK2 := Lib.hid K2
  clear K0 K1 K2
  go_wp2_with fail
  refine (w_orderOf _ _).mono ?_
  rintro e w' ⟨rfl, rfl⟩
  go_wp2_with fail
  refine (w_orderOf _ _).mono ?_
  rintro e w' ⟨rfl, rfl⟩
  go_wp2_with fail
  refine (w_exponent _ _ _).mono ?_
  rintro e w3 ⟨rfl, rfl⟩
  rw [HN.out, HM.out]
  go_wp2_with fail
  refine (w_implPowerSpan _ _ _ _ _ HFF.out (by omega) (by omega) m1 (by omega)).mono ?_
  rintro e w3 ⟨rfl, hL3⟩
  rw [HS.out]
  obtain ⟨c1, f1, z1⟩ := blk_at (hL3.keep HK1.out)
  obtain ⟨c2, f2, z2⟩ := blk_at (hL3.keep HK2.out)
  clear c0 f0 z0
  go_wp2
  refine bodyPost_ret (v := .tuple #[.agg #[.int .i64 (spanL S).d, .int .i64 (spanL S).t], .agg #[.int .i64 (spanH S).d, .int .i64 (spanH S).t], .int .i64 (spanC S)]) (by simp [results, Try.results34, go_sem, c1, z1, c2, z2]) rfl ⟨by rw [HF.out.1, HF.out.2.1, HF.out.2.2], by (repeat (with_reducible first | exact Later.refl _ | refine Later.alloc ?_ _ | refine Later.drew ?_ | refine Later.drewN ?_ _ | refine Later.setCell ?_ (by simp; try omega) _ | refine Later.trans ?_ (by assumption)))⟩

end Go.Proofs.Yteangdeeijlijaa
