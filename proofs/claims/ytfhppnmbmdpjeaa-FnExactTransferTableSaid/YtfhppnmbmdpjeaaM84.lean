/- DERIVED. Walks: the slide that is read, a transfer. -/
import Derived.Test.YtfhppnmbmdpjeaaM82
import Derived.Test.YtfhppnmbmdpjeaaM83
import Derived.Test.YtfhppnmbmdpjeaaM37
import Derived.Test.YtfhppnmbmdpjeaaM11
import Derived.Test.YtfhppnmbmdpjeaaM18
namespace Go.Proofs.Ytfhppnmbmdpjeaa
set_option linter.unusedVariables false
set_option linter.unusedSimpArgs false
open Go.RowKit
set_option maxRecDepth 100000

/-- ReadSlide's code and figure. -/
def rsC (r : Rul) (s : Stg) (x : Int) : Int := if isRule r then (if isStg s then (if hasI r.sl x then (if inR (s.cu - s.sh) 0 1048576 then 0 else 5) else 2) else 1) else 1
noncomputable def rsF (r : Rul) (s : Stg) (x : Int) : Fig := if rsC r s x = 0 then readF x (s.cu - s.sh) else ⟨0, 0⟩
theorem rs_no {r : Rul} {s : Stg} {x k : Int} (h : rsC r s x = k) (h0 : k ≠ 0) : rsC r s x = k ∧ rsF r s x = ⟨0, 0⟩ := ⟨h, by unfold rsF; rw [h, if_neg h0]⟩
theorem rs_1 {r : Rul} {s : Stg} {x : Int} (h : isRule r = false) : rsC r s x = 1 ∧ rsF r s x = ⟨0, 0⟩ := rs_no (by unfold rsC; rw [h]; rfl) (by omega)
theorem rs_1b {r : Rul} {s : Stg} {x : Int} (h : isRule r = true) (h1 : isStg s = false) : rsC r s x = 1 ∧ rsF r s x = ⟨0, 0⟩ := rs_no (by unfold rsC; rw [h, h1]; rfl) (by omega)
theorem rs_2 {r : Rul} {s : Stg} {x : Int} (h : isRule r = true) (h1 : isStg s = true) (h2 : hasI r.sl x = false) : rsC r s x = 2 ∧ rsF r s x = ⟨0, 0⟩ := rs_no (by unfold rsC; rw [h, h1, h2]; rfl) (by omega)
theorem rs_5 {r : Rul} {s : Stg} {x : Int} (h : isRule r = true) (h1 : isStg s = true) (h2 : hasI r.sl x = true) (h3 : inR (s.cu - s.sh) 0 1048576 = false) : rsC r s x = 5 ∧ rsF r s x = ⟨0, 0⟩ := rs_no (by unfold rsC; rw [h, h1, h2, h3]; rfl) (by omega)
theorem rs_0 {r : Rul} {s : Stg} {x : Int} (h : isRule r = true) (h1 : isStg s = true) (h2 : hasI r.sl x = true) (h3 : inR (s.cu - s.sh) 0 1048576 = true) : rsC r s x = 0 ∧ rsF r s x = readF x (s.cu - s.sh) := by
  have e : rsC r s x = 0 := by unfold rsC; rw [h, h1, h2, h3]; rfl
  exact ⟨e, by unfold rsF; rw [if_pos e]⟩
theorem rule_sl {n : Int} {st sd : List Int} {x : Int} (h : isRule ⟨n, st, sd⟩ = true) (hx : hasI sd x = true) : 0 ≤ x ∧ x ≤ 4 := isScaleN_bd (areSc_has (isRule_and h).2.2 hx)
theorem rule_st {n : Int} {st sd : List Int} {x : Int} (h : isRule ⟨n, st, sd⟩ = true) (hx : hasI st x = true) : 0 ≤ x ∧ x ≤ 4 := isScaleN_bd (areSc_has (isRule_and h).2.1 hx)

/-- A transfer's code and figure. -/
def tfC (r : Rul) (a b : Int) (B : Bool) : Int := if isRule r then (if B then (if ordScale a = 0 then 2 else if ordScale b = 0 then 2 else if hasI r.st a then (if hasI r.st b then 0 else 2) else 2) else 1) else 1
noncomputable def tfV (a b : Int) (f : Fig) : Fig := readF b (ptF a f)
noncomputable def tfF (r : Rul) (a b : Int) (f : Fig) : Fig := if tfC r a b (isFig f) = 0 then tfV a b f else ⟨0, 0⟩
theorem tf_no {r : Rul} {a b k : Int} {f : Fig} (h : tfC r a b (isFig f) = k) (h0 : k ≠ 0) : tfF r a b f = ⟨0, 0⟩ := by unfold tfF; rw [h, if_neg h0]
theorem tf_0 {r : Rul} {a b : Int} {f : Fig} (h : tfC r a b (isFig f) = 0) : tfF r a b f = tfV a b f := by unfold tfF; rw [if_pos h]
theorem tfC_0 {r : Rul} {a b : Int} {B : Bool} (h : tfC r a b B = 0) : isRule r = true ∧ B = true ∧ hasI r.st a = true ∧ hasI r.st b = true := by
  unfold tfC at h
  cases h1 : isRule r <;> cases B <;> cases h2 : hasI r.st a <;> cases h3 : hasI r.st b <;> rw [h1, h2, h3] at h <;> simp at h ⊢ <;> split at h <;> (try split at h) <;> omega


def codeOn (r : Rul) (s : Stg) (b : Bool) (x : Int) : Int := if isRule r then (if isStg s then (if hasI (onR r b) x then 0 else 2) else 1) else 1

set_option maxHeartbeats 1000000 in
theorem w_l11Code (n : Int) (u v : Value) (st sd : List Int) (sa sb : Int) (b : Bool) (x : Int) (w : World) (h : IsNums w u st) (h' : IsNums w v sd) :
    Calls Try.prog 65 #[.agg #[.int .i64 n, u, v], .agg #[.int .i64 sa, .int .i64 sb], .bool b, .int .i64 x] w fun e w' => e = .returned (.int .i64 (codeOn ⟨n, st, sd⟩ ⟨sa, sb⟩ b x)) ∧ Later w w' := by
  have H := Lib.hid h
  have H' := Lib.hid h'
  obtain ⟨_, _, au, capu, rfl, _, _, _⟩ := h
  obtain ⟨_, _, av, capv, rfl, _, _, _⟩ := h'
  cases h1 : isRule ⟨n, st, sd⟩
  · have HF := Lib.hid (show codeOn ⟨n, st, sd⟩ ⟨sa, sb⟩ b x = 1 from by unfold codeOn; rw [h1]; rfl)
    have H1 := Lib.hid h1
    clear h1
    go_enter Try.func65, Try.ntmps65
    go_wp2_with fail
    refine (w_specIsRule _ _ _ _ _ _ (H.out.later (((Later.refl _).alloc _).alloc _)) (H'.out.later (((Later.refl _).alloc _).alloc _))).mono ?_
    rintro e w1 ⟨rfl, hL1⟩
    rw [H1.out]
    have HLw1 := Lib.hid ((((Later.refl w).alloc _).alloc _).trans hL1)
    obtain ⟨K0, K1⟩ := kept2 hL1
    have HK0_1 := Lib.hid K0
    have HK1_1 := Lib.hid K1
    clear K0 K1
    clear hL1
    obtain ⟨c0, f0, z0⟩ := blk_at HK0_1.out
    obtain ⟨c1, f1, z1⟩ := blk_at HK1_1.out
    go_wp2
    go_ret
    exact ⟨by rw [HF.out]; rfl, by have hLw := HLw1.out; (repeat (with_reducible first | exact Later.refl _ | refine Later.alloc ?_ _ | refine Later.drew ?_ | refine Later.drewN ?_ _ | refine Later.setCell ?_ (by simp; try omega) _ | refine Later.trans ?_ (by assumption)))⟩
  cases h2 : isStg ⟨sa, sb⟩
  · have HF := Lib.hid (show codeOn ⟨n, st, sd⟩ ⟨sa, sb⟩ b x = 1 from by unfold codeOn; rw [h1, h2]; rfl)
    have H1 := Lib.hid h1
    have H2 := Lib.hid h2
    clear h1 h2
    go_enter Try.func65, Try.ntmps65
    go_wp2_with fail
    refine (w_specIsRule _ _ _ _ _ _ (H.out.later (((Later.refl _).alloc _).alloc _)) (H'.out.later (((Later.refl _).alloc _).alloc _))).mono ?_
    rintro e w1 ⟨rfl, hL1⟩
    rw [H1.out]
    have HLw1 := Lib.hid ((((Later.refl w).alloc _).alloc _).trans hL1)
    obtain ⟨K0, K1⟩ := kept2 hL1
    have HK0_1 := Lib.hid K0
    have HK1_1 := Lib.hid K1
    clear K0 K1
    clear hL1
    obtain ⟨c0, f0, z0⟩ := blk_at HK0_1.out
    obtain ⟨c1, f1, z1⟩ := blk_at HK1_1.out
    go_wp2_with fail
    refine (w_specIsSetting _ _ _).mono ?_
    rintro e w2 ⟨rfl, hL2⟩
    rw [H2.out]
    clear c0 f0 z0 c1 f1 z1
    have HLw2 := Lib.hid (HLw1.out.trans hL2)
    have HK0_2 := Lib.hid (hL2.keep HK0_1.out)
    have HK1_2 := Lib.hid (hL2.keep HK1_1.out)
    clear hL2
    obtain ⟨c0, f0, z0⟩ := blk_at HK0_2.out
    obtain ⟨c1, f1, z1⟩ := blk_at HK1_2.out
    go_wp2
    go_ret
    exact ⟨by rw [HF.out]; rfl, by have hLw := HLw2.out; (repeat (with_reducible first | exact Later.refl _ | refine Later.alloc ?_ _ | refine Later.drew ?_ | refine Later.drewN ?_ _ | refine Later.setCell ?_ (by simp; try omega) _ | refine Later.trans ?_ (by assumption)))⟩
  by_cases kfalsefalse : b = false ∧ hasI (onR ⟨n, st, sd⟩ b) x = false
  · obtain ⟨rfl, h3⟩ := kfalsefalse
    have h3 : hasI st x = false := h3
    have HF := Lib.hid (show codeOn ⟨n, st, sd⟩ ⟨sa, sb⟩ false x = 2 from by unfold codeOn; rw [h1, h2, show hasI (onR ⟨n, st, sd⟩ false) x = _ from h3]; rfl)
    have H1 := Lib.hid h1
    have H2 := Lib.hid h2
    have H3 := Lib.hid h3
    clear h1 h2 h3
    go_enter Try.func65, Try.ntmps65
    go_wp2_with fail
    refine (w_specIsRule _ _ _ _ _ _ (H.out.later (((Later.refl _).alloc _).alloc _)) (H'.out.later (((Later.refl _).alloc _).alloc _))).mono ?_
    rintro e w1 ⟨rfl, hL1⟩
    rw [H1.out]
    have HLw1 := Lib.hid ((((Later.refl w).alloc _).alloc _).trans hL1)
    obtain ⟨K0, K1⟩ := kept2 hL1
    have HK0_1 := Lib.hid K0
    have HK1_1 := Lib.hid K1
    clear K0 K1
    clear hL1
    obtain ⟨c0, f0, z0⟩ := blk_at HK0_1.out
    obtain ⟨c1, f1, z1⟩ := blk_at HK1_1.out
    go_wp2_with fail
    refine (w_specIsSetting _ _ _).mono ?_
    rintro e w2 ⟨rfl, hL2⟩
    rw [H2.out]
    clear c0 f0 z0 c1 f1 z1
    have HLw2 := Lib.hid (HLw1.out.trans hL2)
    have HK0_2 := Lib.hid (hL2.keep HK0_1.out)
    have HK1_2 := Lib.hid (hL2.keep HK1_1.out)
    clear hL2
    obtain ⟨c0, f0, z0⟩ := blk_at HK0_2.out
    obtain ⟨c1, f1, z1⟩ := blk_at HK1_2.out
    go_wp2_with fail
    refine (w_l11On_st _ _ _ _ _ _ (H.out.later HLw2.out) (H'.out.later HLw2.out)).mono ?_
    rintro e w3 ⟨rfl, hL3⟩
    clear c0 f0 z0 c1 f1 z1
    have HLw3 := Lib.hid (HLw2.out.trans hL3)
    have HK0_3 := Lib.hid (hL3.keep HK0_2.out)
    have HK1_3 := Lib.hid (hL3.keep HK1_2.out)
    clear hL3
    obtain ⟨c0, f0, z0⟩ := blk_at HK0_3.out
    obtain ⟨c1, f1, z1⟩ := blk_at HK1_3.out
    go_wp2_with fail
    refine (w_l01Has _ _ _ _ (H.out.later HLw3.out)).mono ?_
    rintro e w0 ⟨rfl, rfl⟩
    rw [H3.out]
    go_wp2
    go_ret
    exact ⟨by rw [HF.out]; rfl, by have hLw := HLw3.out; (repeat (with_reducible first | exact Later.refl _ | refine Later.alloc ?_ _ | refine Later.drew ?_ | refine Later.drewN ?_ _ | refine Later.setCell ?_ (by simp; try omega) _ | refine Later.trans ?_ (by assumption)))⟩
  by_cases kfalsetrue : b = false ∧ hasI (onR ⟨n, st, sd⟩ b) x = true
  · obtain ⟨rfl, h3⟩ := kfalsetrue
    have h3 : hasI st x = true := h3
    have HF := Lib.hid (show codeOn ⟨n, st, sd⟩ ⟨sa, sb⟩ false x = 0 from by unfold codeOn; rw [h1, h2, show hasI (onR ⟨n, st, sd⟩ false) x = _ from h3]; rfl)
    have H1 := Lib.hid h1
    have H2 := Lib.hid h2
    have H3 := Lib.hid h3
    clear h1 h2 h3
    go_enter Try.func65, Try.ntmps65
    go_wp2_with fail
    refine (w_specIsRule _ _ _ _ _ _ (H.out.later (((Later.refl _).alloc _).alloc _)) (H'.out.later (((Later.refl _).alloc _).alloc _))).mono ?_
    rintro e w1 ⟨rfl, hL1⟩
    rw [H1.out]
    have HLw1 := Lib.hid ((((Later.refl w).alloc _).alloc _).trans hL1)
    obtain ⟨K0, K1⟩ := kept2 hL1
    have HK0_1 := Lib.hid K0
    have HK1_1 := Lib.hid K1
    clear K0 K1
    clear hL1
    obtain ⟨c0, f0, z0⟩ := blk_at HK0_1.out
    obtain ⟨c1, f1, z1⟩ := blk_at HK1_1.out
    go_wp2_with fail
    refine (w_specIsSetting _ _ _).mono ?_
    rintro e w2 ⟨rfl, hL2⟩
    rw [H2.out]
    clear c0 f0 z0 c1 f1 z1
    have HLw2 := Lib.hid (HLw1.out.trans hL2)
    have HK0_2 := Lib.hid (hL2.keep HK0_1.out)
    have HK1_2 := Lib.hid (hL2.keep HK1_1.out)
    clear hL2
    obtain ⟨c0, f0, z0⟩ := blk_at HK0_2.out
    obtain ⟨c1, f1, z1⟩ := blk_at HK1_2.out
    go_wp2_with fail
    refine (w_l11On_st _ _ _ _ _ _ (H.out.later HLw2.out) (H'.out.later HLw2.out)).mono ?_
    rintro e w3 ⟨rfl, hL3⟩
    clear c0 f0 z0 c1 f1 z1
    have HLw3 := Lib.hid (HLw2.out.trans hL3)
    have HK0_3 := Lib.hid (hL3.keep HK0_2.out)
    have HK1_3 := Lib.hid (hL3.keep HK1_2.out)
    clear hL3
    obtain ⟨c0, f0, z0⟩ := blk_at HK0_3.out
    obtain ⟨c1, f1, z1⟩ := blk_at HK1_3.out
    go_wp2_with fail
    refine (w_l01Has _ _ _ _ (H.out.later HLw3.out)).mono ?_
    rintro e w0 ⟨rfl, rfl⟩
    rw [H3.out]
    go_wp2
    go_ret
    exact ⟨by rw [HF.out]; rfl, by have hLw := HLw3.out; (repeat (with_reducible first | exact Later.refl _ | refine Later.alloc ?_ _ | refine Later.drew ?_ | refine Later.drewN ?_ _ | refine Later.setCell ?_ (by simp; try omega) _ | refine Later.trans ?_ (by assumption)))⟩
  by_cases ktruefalse : b = true ∧ hasI (onR ⟨n, st, sd⟩ b) x = false
  · obtain ⟨rfl, h3⟩ := ktruefalse
    have h3 : hasI sd x = false := h3
    have HF := Lib.hid (show codeOn ⟨n, st, sd⟩ ⟨sa, sb⟩ true x = 2 from by unfold codeOn; rw [h1, h2, show hasI (onR ⟨n, st, sd⟩ true) x = _ from h3]; rfl)
    have H1 := Lib.hid h1
    have H2 := Lib.hid h2
    have H3 := Lib.hid h3
    clear h1 h2 h3
    go_enter Try.func65, Try.ntmps65
    go_wp2_with fail
    refine (w_specIsRule _ _ _ _ _ _ (H.out.later (((Later.refl _).alloc _).alloc _)) (H'.out.later (((Later.refl _).alloc _).alloc _))).mono ?_
    rintro e w1 ⟨rfl, hL1⟩
    rw [H1.out]
    have HLw1 := Lib.hid ((((Later.refl w).alloc _).alloc _).trans hL1)
    obtain ⟨K0, K1⟩ := kept2 hL1
    have HK0_1 := Lib.hid K0
    have HK1_1 := Lib.hid K1
    clear K0 K1
    clear hL1
    obtain ⟨c0, f0, z0⟩ := blk_at HK0_1.out
    obtain ⟨c1, f1, z1⟩ := blk_at HK1_1.out
    go_wp2_with fail
    refine (w_specIsSetting _ _ _).mono ?_
    rintro e w2 ⟨rfl, hL2⟩
    rw [H2.out]
    clear c0 f0 z0 c1 f1 z1
    have HLw2 := Lib.hid (HLw1.out.trans hL2)
    have HK0_2 := Lib.hid (hL2.keep HK0_1.out)
    have HK1_2 := Lib.hid (hL2.keep HK1_1.out)
    clear hL2
    obtain ⟨c0, f0, z0⟩ := blk_at HK0_2.out
    obtain ⟨c1, f1, z1⟩ := blk_at HK1_2.out
    go_wp2_with fail
    refine (w_l11On_sl _ _ _ _ _ _ (H.out.later HLw2.out) (H'.out.later HLw2.out)).mono ?_
    rintro e w3 ⟨rfl, hL3⟩
    clear c0 f0 z0 c1 f1 z1
    have HLw3 := Lib.hid (HLw2.out.trans hL3)
    have HK0_3 := Lib.hid (hL3.keep HK0_2.out)
    have HK1_3 := Lib.hid (hL3.keep HK1_2.out)
    clear hL3
    obtain ⟨c0, f0, z0⟩ := blk_at HK0_3.out
    obtain ⟨c1, f1, z1⟩ := blk_at HK1_3.out
    go_wp2_with fail
    refine (w_l01Has _ _ _ _ (H'.out.later HLw3.out)).mono ?_
    rintro e w0 ⟨rfl, rfl⟩
    rw [H3.out]
    go_wp2
    go_ret
    exact ⟨by rw [HF.out]; rfl, by have hLw := HLw3.out; (repeat (with_reducible first | exact Later.refl _ | refine Later.alloc ?_ _ | refine Later.drew ?_ | refine Later.drewN ?_ _ | refine Later.setCell ?_ (by simp; try omega) _ | refine Later.trans ?_ (by assumption)))⟩
  by_cases ktruetrue : b = true ∧ hasI (onR ⟨n, st, sd⟩ b) x = true
  · obtain ⟨rfl, h3⟩ := ktruetrue
    have h3 : hasI sd x = true := h3
    have HF := Lib.hid (show codeOn ⟨n, st, sd⟩ ⟨sa, sb⟩ true x = 0 from by unfold codeOn; rw [h1, h2, show hasI (onR ⟨n, st, sd⟩ true) x = _ from h3]; rfl)
    have H1 := Lib.hid h1
    have H2 := Lib.hid h2
    have H3 := Lib.hid h3
    clear h1 h2 h3
    go_enter Try.func65, Try.ntmps65
    go_wp2_with fail
    refine (w_specIsRule _ _ _ _ _ _ (H.out.later (((Later.refl _).alloc _).alloc _)) (H'.out.later (((Later.refl _).alloc _).alloc _))).mono ?_
    rintro e w1 ⟨rfl, hL1⟩
    rw [H1.out]
    have HLw1 := Lib.hid ((((Later.refl w).alloc _).alloc _).trans hL1)
    obtain ⟨K0, K1⟩ := kept2 hL1
    have HK0_1 := Lib.hid K0
    have HK1_1 := Lib.hid K1
    clear K0 K1
    clear hL1
    obtain ⟨c0, f0, z0⟩ := blk_at HK0_1.out
    obtain ⟨c1, f1, z1⟩ := blk_at HK1_1.out
    go_wp2_with fail
    refine (w_specIsSetting _ _ _).mono ?_
    rintro e w2 ⟨rfl, hL2⟩
    rw [H2.out]
    clear c0 f0 z0 c1 f1 z1
    have HLw2 := Lib.hid (HLw1.out.trans hL2)
    have HK0_2 := Lib.hid (hL2.keep HK0_1.out)
    have HK1_2 := Lib.hid (hL2.keep HK1_1.out)
    clear hL2
    obtain ⟨c0, f0, z0⟩ := blk_at HK0_2.out
    obtain ⟨c1, f1, z1⟩ := blk_at HK1_2.out
    go_wp2_with fail
    refine (w_l11On_sl _ _ _ _ _ _ (H.out.later HLw2.out) (H'.out.later HLw2.out)).mono ?_
    rintro e w3 ⟨rfl, hL3⟩
    clear c0 f0 z0 c1 f1 z1
    have HLw3 := Lib.hid (HLw2.out.trans hL3)
    have HK0_3 := Lib.hid (hL3.keep HK0_2.out)
    have HK1_3 := Lib.hid (hL3.keep HK1_2.out)
    clear hL3
    obtain ⟨c0, f0, z0⟩ := blk_at HK0_3.out
    obtain ⟨c1, f1, z1⟩ := blk_at HK1_3.out
    go_wp2_with fail
    refine (w_l01Has _ _ _ _ (H'.out.later HLw3.out)).mono ?_
    rintro e w0 ⟨rfl, rfl⟩
    rw [H3.out]
    go_wp2
    go_ret
    exact ⟨by rw [HF.out]; rfl, by have hLw := HLw3.out; (repeat (with_reducible first | exact Later.refl _ | refine Later.alloc ?_ _ | refine Later.drew ?_ | refine Later.drewN ?_ _ | refine Later.setCell ?_ (by simp; try omega) _ | refine Later.trans ?_ (by assumption)))⟩
  exfalso
  obtain ⟨Y, hY⟩ : ∃ y, hasI (onR ⟨n, st, sd⟩ b) x = y := ⟨_, rfl⟩
  rw [hY] at kfalsefalse kfalsetrue ktruefalse ktruetrue
  cases b <;> cases Y <;> simp_all


set_option maxHeartbeats 2000000 in
theorem w_implReadSlide (n : Int) (u v : Value) (st sd : List Int) (sa sb x : Int) (w : World) (h : IsNums w u st) (h' : IsNums w v sd) :
    Calls Try.prog 19 #[.agg #[.int .i64 n, u, v], .agg #[.int .i64 sa, .int .i64 sb], .int .i64 x] w fun e w' => e = .returned (.tuple #[.agg #[.int .i64 (rsF ⟨n, st, sd⟩ ⟨sa, sb⟩ x).d, .int .i64 (rsF ⟨n, st, sd⟩ ⟨sa, sb⟩ x).t], .int .i64 (rsC ⟨n, st, sd⟩ ⟨sa, sb⟩ x)]) ∧ Later w w' := by
  have H := Lib.hid h
  have H' := Lib.hid h'
  obtain ⟨_, _, au, capu, rfl, _, _, _⟩ := h
  obtain ⟨_, _, av, capv, rfl, _, _, _⟩ := h'
  cases h1 : isRule ⟨n, st, sd⟩
  · have HF := Lib.hid (rs_1 (r := ⟨n, st, sd⟩) (s := ⟨sa, sb⟩) (x := x) h1)
    have H1 := Lib.hid h1
    clear h1
    go_enter Try.func19, Try.ntmps19
    go_wp2_with fail
    refine (w_implIsRule _ _ _ _ _ _ (H.out.later ((((Later.refl _).alloc _).alloc _).alloc _)) (H'.out.later ((((Later.refl _).alloc _).alloc _).alloc _))).mono ?_
    rintro e w1 ⟨rfl, hL1⟩
    rw [H1.out]
    have HLw1 := Lib.hid (((((Later.refl w).alloc _).alloc _).alloc _).trans hL1)
    obtain ⟨K0, K1, K2⟩ := kept3 hL1
    have HK0_1 := Lib.hid K0
    have HK1_1 := Lib.hid K1
    have HK2_1 := Lib.hid K2
    clear K0 K1 K2
    clear hL1
    obtain ⟨c0, f0, z0⟩ := blk_at HK0_1.out
    obtain ⟨c1, f1, z1⟩ := blk_at HK1_1.out
    obtain ⟨c2, f2, z2⟩ := blk_at HK2_1.out
    go_wp2
    refine bodyPost_ret (v := .tuple #[.agg #[.int .i64 0, .int .i64 0], .int .i64 1]) (by simp [results, Try.results19, go_sem, c2, z2]) rfl ⟨by rw [HF.out.1, HF.out.2], by have hLw := HLw1.out; (repeat (with_reducible first | exact Later.refl _ | refine Later.alloc ?_ _ | refine Later.drew ?_ | refine Later.drewN ?_ _ | refine Later.setCell ?_ (by simp; try omega) _ | refine Later.trans ?_ (by assumption)))⟩
  cases h2 : isStg ⟨sa, sb⟩
  · have HF := Lib.hid (rs_1b (r := ⟨n, st, sd⟩) (s := ⟨sa, sb⟩) (x := x) h1 h2)
    have H1 := Lib.hid h1
    have H2 := Lib.hid h2
    clear h1 h2
    go_enter Try.func19, Try.ntmps19
    go_wp2_with fail
    refine (w_implIsRule _ _ _ _ _ _ (H.out.later ((((Later.refl _).alloc _).alloc _).alloc _)) (H'.out.later ((((Later.refl _).alloc _).alloc _).alloc _))).mono ?_
    rintro e w1 ⟨rfl, hL1⟩
    rw [H1.out]
    have HLw1 := Lib.hid (((((Later.refl w).alloc _).alloc _).alloc _).trans hL1)
    obtain ⟨K0, K1, K2⟩ := kept3 hL1
    have HK0_1 := Lib.hid K0
    have HK1_1 := Lib.hid K1
    have HK2_1 := Lib.hid K2
    clear K0 K1 K2
    clear hL1
    obtain ⟨c0, f0, z0⟩ := blk_at HK0_1.out
    obtain ⟨c1, f1, z1⟩ := blk_at HK1_1.out
    obtain ⟨c2, f2, z2⟩ := blk_at HK2_1.out
    go_wp2_with fail
    refine (w_implIsSetting _ _ _).mono ?_
    rintro e w2 ⟨rfl, hL2⟩
    rw [H2.out]
    clear c0 f0 z0 c1 f1 z1 c2 f2 z2
    have HLw2 := Lib.hid (HLw1.out.trans hL2)
    have HK0_2 := Lib.hid (hL2.keep HK0_1.out)
    have HK1_2 := Lib.hid (hL2.keep HK1_1.out)
    have HK2_2 := Lib.hid (hL2.keep HK2_1.out)
    clear hL2
    obtain ⟨c0, f0, z0⟩ := blk_at HK0_2.out
    obtain ⟨c1, f1, z1⟩ := blk_at HK1_2.out
    obtain ⟨c2, f2, z2⟩ := blk_at HK2_2.out
    go_wp2
    refine bodyPost_ret (v := .tuple #[.agg #[.int .i64 0, .int .i64 0], .int .i64 1]) (by simp [results, Try.results19, go_sem, c2, z2]) rfl ⟨by rw [HF.out.1, HF.out.2], by have hLw := HLw2.out; (repeat (with_reducible first | exact Later.refl _ | refine Later.alloc ?_ _ | refine Later.drew ?_ | refine Later.drewN ?_ _ | refine Later.setCell ?_ (by simp; try omega) _ | refine Later.trans ?_ (by assumption)))⟩
  cases h3 : hasI sd x
  · have HF := Lib.hid (rs_2 (r := ⟨n, st, sd⟩) (s := ⟨sa, sb⟩) (x := x) h1 h2 h3)
    have hsb := isStg_bd h2
    simp only at hsb
    obtain ⟨b1, b2, b3, b4⟩ := hsb
    have H1 := Lib.hid h1
    have H2 := Lib.hid h2
    have H3 := Lib.hid h3
    clear h1 h2 h3
    go_enter Try.func19, Try.ntmps19
    go_wp2_with fail
    refine (w_implIsRule _ _ _ _ _ _ (H.out.later ((((Later.refl _).alloc _).alloc _).alloc _)) (H'.out.later ((((Later.refl _).alloc _).alloc _).alloc _))).mono ?_
    rintro e w1 ⟨rfl, hL1⟩
    rw [H1.out]
    have HLw1 := Lib.hid (((((Later.refl w).alloc _).alloc _).alloc _).trans hL1)
    obtain ⟨K0, K1, K2⟩ := kept3 hL1
    have HK0_1 := Lib.hid K0
    have HK1_1 := Lib.hid K1
    have HK2_1 := Lib.hid K2
    clear K0 K1 K2
    clear hL1
    obtain ⟨c0, f0, z0⟩ := blk_at HK0_1.out
    obtain ⟨c1, f1, z1⟩ := blk_at HK1_1.out
    obtain ⟨c2, f2, z2⟩ := blk_at HK2_1.out
    go_wp2_with fail
    refine (w_implIsSetting _ _ _).mono ?_
    rintro e w2 ⟨rfl, hL2⟩
    rw [H2.out]
    clear c0 f0 z0 c1 f1 z1 c2 f2 z2
    have HLw2 := Lib.hid (HLw1.out.trans hL2)
    have HK0_2 := Lib.hid (hL2.keep HK0_1.out)
    have HK1_2 := Lib.hid (hL2.keep HK1_1.out)
    have HK2_2 := Lib.hid (hL2.keep HK2_1.out)
    clear hL2
    obtain ⟨c0, f0, z0⟩ := blk_at HK0_2.out
    obtain ⟨c1, f1, z1⟩ := blk_at HK1_2.out
    obtain ⟨c2, f2, z2⟩ := blk_at HK2_2.out
    go_wp2_with fail
    refine (w_hasScale _ _ _ _ _ true _ _ (H.out.later HLw2.out) (H'.out.later HLw2.out)).mono ?_
    rintro e w3 ⟨rfl, hL3⟩
    rw [show hasI (onR ⟨n, st, sd⟩ true) x = _ from H3.out]
    clear c0 f0 z0 c1 f1 z1 c2 f2 z2
    have HLw3 := Lib.hid (HLw2.out.trans hL3)
    have HK0_3 := Lib.hid (hL3.keep HK0_2.out)
    have HK1_3 := Lib.hid (hL3.keep HK1_2.out)
    have HK2_3 := Lib.hid (hL3.keep HK2_2.out)
    clear hL3
    obtain ⟨c0, f0, z0⟩ := blk_at HK0_3.out
    obtain ⟨c1, f1, z1⟩ := blk_at HK1_3.out
    obtain ⟨c2, f2, z2⟩ := blk_at HK2_3.out
    go_wp2
    refine bodyPost_ret (v := .tuple #[.agg #[.int .i64 0, .int .i64 0], .int .i64 2]) (by simp [results, Try.results19, go_sem, c2, z2]) rfl ⟨by rw [HF.out.1, HF.out.2], by have hLw := HLw3.out; (repeat (with_reducible first | exact Later.refl _ | refine Later.alloc ?_ _ | refine Later.drew ?_ | refine Later.drewN ?_ _ | refine Later.setCell ?_ (by simp; try omega) _ | refine Later.trans ?_ (by assumption)))⟩
  cases h4 : inR (sb - sa) 0 1048576
  · have HF := Lib.hid (rs_5 (r := ⟨n, st, sd⟩) (s := ⟨sa, sb⟩) (x := x) h1 h2 h3 h4)
    have hsb := isStg_bd h2
    simp only at hsb
    obtain ⟨b1, b2, b3, b4⟩ := hsb
    have H1 := Lib.hid h1
    have H2 := Lib.hid h2
    have H3 := Lib.hid h3
    have H4 := Lib.hid h4
    clear h1 h2 h3 h4
    go_enter Try.func19, Try.ntmps19
    go_wp2_with fail
    refine (w_implIsRule _ _ _ _ _ _ (H.out.later ((((Later.refl _).alloc _).alloc _).alloc _)) (H'.out.later ((((Later.refl _).alloc _).alloc _).alloc _))).mono ?_
    rintro e w1 ⟨rfl, hL1⟩
    rw [H1.out]
    have HLw1 := Lib.hid (((((Later.refl w).alloc _).alloc _).alloc _).trans hL1)
    obtain ⟨K0, K1, K2⟩ := kept3 hL1
    have HK0_1 := Lib.hid K0
    have HK1_1 := Lib.hid K1
    have HK2_1 := Lib.hid K2
    clear K0 K1 K2
    clear hL1
    obtain ⟨c0, f0, z0⟩ := blk_at HK0_1.out
    obtain ⟨c1, f1, z1⟩ := blk_at HK1_1.out
    obtain ⟨c2, f2, z2⟩ := blk_at HK2_1.out
    go_wp2_with fail
    refine (w_implIsSetting _ _ _).mono ?_
    rintro e w2 ⟨rfl, hL2⟩
    rw [H2.out]
    clear c0 f0 z0 c1 f1 z1 c2 f2 z2
    have HLw2 := Lib.hid (HLw1.out.trans hL2)
    have HK0_2 := Lib.hid (hL2.keep HK0_1.out)
    have HK1_2 := Lib.hid (hL2.keep HK1_1.out)
    have HK2_2 := Lib.hid (hL2.keep HK2_1.out)
    clear hL2
    obtain ⟨c0, f0, z0⟩ := blk_at HK0_2.out
    obtain ⟨c1, f1, z1⟩ := blk_at HK1_2.out
    obtain ⟨c2, f2, z2⟩ := blk_at HK2_2.out
    go_wp2_with fail
    refine (w_hasScale _ _ _ _ _ true _ _ (H.out.later HLw2.out) (H'.out.later HLw2.out)).mono ?_
    rintro e w3 ⟨rfl, hL3⟩
    rw [show hasI (onR ⟨n, st, sd⟩ true) x = _ from H3.out]
    clear c0 f0 z0 c1 f1 z1 c2 f2 z2
    have HLw3 := Lib.hid (HLw2.out.trans hL3)
    have HK0_3 := Lib.hid (hL3.keep HK0_2.out)
    have HK1_3 := Lib.hid (hL3.keep HK1_2.out)
    have HK2_3 := Lib.hid (hL3.keep HK2_2.out)
    clear hL3
    obtain ⟨c0, f0, z0⟩ := blk_at HK0_3.out
    obtain ⟨c1, f1, z1⟩ := blk_at HK1_3.out
    obtain ⟨c2, f2, z2⟩ := blk_at HK2_3.out
    go_wp2_with fail
    refine (w_within _ _ _ _).mono ?_
    rintro e w0 ⟨rfl, rfl⟩
    rw [H4.out]
    go_wp2
    refine bodyPost_ret (v := .tuple #[.agg #[.int .i64 0, .int .i64 0], .int .i64 5]) (by simp [results, Try.results19, go_sem, c2, z2]) rfl ⟨by rw [HF.out.1, HF.out.2], by have hLw := HLw3.out; (repeat (with_reducible first | exact Later.refl _ | refine Later.alloc ?_ _ | refine Later.drew ?_ | refine Later.drewN ?_ _ | refine Later.setCell ?_ (by simp; try omega) _ | refine Later.trans ?_ (by assumption)))⟩
  have hsb := isStg_bd h2
  simp only at hsb
  obtain ⟨b1, b2, b3, b4⟩ := hsb
  have hx := rule_sl h1 h3
  obtain ⟨x1, x2⟩ := hx
  have hr4 := inR_true h4
  obtain ⟨r1, r2⟩ := hr4
  have HF := Lib.hid (rs_0 (r := ⟨n, st, sd⟩) (s := ⟨sa, sb⟩) (x := x) h1 h2 h3 h4)
  have H1 := Lib.hid h1
  have H2 := Lib.hid h2
  have H3 := Lib.hid h3
  have H4 := Lib.hid h4
  clear h1 h2 h3 h4
  obtain ⟨G, hG⟩ : ∃ y, readF x (sb - sa) = y := ⟨_, rfl⟩
  have HG := Lib.hid hG
  have HF := Lib.hid (show rsC ⟨n, st, sd⟩ ⟨sa, sb⟩ x = 0 ∧ rsF ⟨n, st, sd⟩ ⟨sa, sb⟩ x = G from hG ▸ HF.out)
  clear hG
  go_enter Try.func19, Try.ntmps19
  go_wp2_with fail
  refine (w_implIsRule _ _ _ _ _ _ (H.out.later ((((Later.refl _).alloc _).alloc _).alloc _)) (H'.out.later ((((Later.refl _).alloc _).alloc _).alloc _))).mono ?_
  rintro e w1 ⟨rfl, hL1⟩
  rw [H1.out]
  have HLw1 := Lib.hid (((((Later.refl w).alloc _).alloc _).alloc _).trans hL1)
  obtain ⟨K0, K1, K2⟩ := kept3 hL1
  have HK0_1 := Lib.hid K0
  have HK1_1 := Lib.hid K1
  have HK2_1 := Lib.hid K2
  clear K0 K1 K2
  clear hL1
  obtain ⟨c0, f0, z0⟩ := blk_at HK0_1.out
  obtain ⟨c1, f1, z1⟩ := blk_at HK1_1.out
  obtain ⟨c2, f2, z2⟩ := blk_at HK2_1.out
  go_wp2_with fail
  refine (w_implIsSetting _ _ _).mono ?_
  rintro e w2 ⟨rfl, hL2⟩
  rw [H2.out]
  clear c0 f0 z0 c1 f1 z1 c2 f2 z2
  have HLw2 := Lib.hid (HLw1.out.trans hL2)
  have HK0_2 := Lib.hid (hL2.keep HK0_1.out)
  have HK1_2 := Lib.hid (hL2.keep HK1_1.out)
  have HK2_2 := Lib.hid (hL2.keep HK2_1.out)
  clear hL2
  obtain ⟨c0, f0, z0⟩ := blk_at HK0_2.out
  obtain ⟨c1, f1, z1⟩ := blk_at HK1_2.out
  obtain ⟨c2, f2, z2⟩ := blk_at HK2_2.out
  go_wp2_with fail
  refine (w_hasScale _ _ _ _ _ true _ _ (H.out.later HLw2.out) (H'.out.later HLw2.out)).mono ?_
  rintro e w3 ⟨rfl, hL3⟩
  rw [show hasI (onR ⟨n, st, sd⟩ true) x = _ from H3.out]
  clear c0 f0 z0 c1 f1 z1 c2 f2 z2
  have HLw3 := Lib.hid (HLw2.out.trans hL3)
  have HK0_3 := Lib.hid (hL3.keep HK0_2.out)
  have HK1_3 := Lib.hid (hL3.keep HK1_2.out)
  have HK2_3 := Lib.hid (hL3.keep HK2_2.out)
  clear hL3
  obtain ⟨c0, f0, z0⟩ := blk_at HK0_3.out
  obtain ⟨c1, f1, z1⟩ := blk_at HK1_3.out
  obtain ⟨c2, f2, z2⟩ := blk_at HK2_3.out
  go_wp2_with fail
  refine (w_within _ _ _ _).mono ?_
  rintro e w0 ⟨rfl, rfl⟩
  rw [H4.out]
  go_wp2_with fail
  refine (w_readAt _ _ _ (by omega) (by omega) (by omega) (by omega)).mono ?_
  rintro e w4 ⟨rfl, hL4⟩
  clear c0 f0 z0 c1 f1 z1 c2 f2 z2
  have HLw4 := Lib.hid (HLw3.out.trans hL4)
  have HK0_4 := Lib.hid (hL4.keep HK0_3.out)
  have HK1_4 := Lib.hid (hL4.keep HK1_3.out)
  have HK2_4 := Lib.hid (hL4.keep HK2_3.out)
  clear hL4
  obtain ⟨c0, f0, z0⟩ := blk_at HK0_4.out
  obtain ⟨c1, f1, z1⟩ := blk_at HK1_4.out
  obtain ⟨c2, f2, z2⟩ := blk_at HK2_4.out
  rw [HG.out]
  go_wp2
  refine bodyPost_ret (v := .tuple #[.agg #[.int .i64 G.d, .int .i64 G.t], .int .i64 0]) (by simp [results, Try.results19, go_sem, c2, z2]) rfl ⟨by rw [HF.out.1, HF.out.2], by have hLw := HLw4.out; (repeat (with_reducible first | exact Later.refl _ | refine Later.alloc ?_ _ | refine Later.drew ?_ | refine Later.drewN ?_ _ | refine Later.setCell ?_ (by simp; try omega) _ | refine Later.trans ?_ (by assumption)))⟩

set_option maxHeartbeats 2000000 in
theorem w_specReadSlide (n : Int) (u v : Value) (st sd : List Int) (sa sb x : Int) (w : World) (h : IsNums w u st) (h' : IsNums w v sd) :
    Calls Try.prog 16 #[.agg #[.int .i64 n, u, v], .agg #[.int .i64 sa, .int .i64 sb], .int .i64 x] w fun e w' => e = .returned (.tuple #[.agg #[.int .i64 (rsF ⟨n, st, sd⟩ ⟨sa, sb⟩ x).d, .int .i64 (rsF ⟨n, st, sd⟩ ⟨sa, sb⟩ x).t], .int .i64 (rsC ⟨n, st, sd⟩ ⟨sa, sb⟩ x)]) ∧ Later w w' := by
  have H := Lib.hid h
  have H' := Lib.hid h'
  obtain ⟨_, _, au, capu, rfl, _, _, _⟩ := h
  obtain ⟨_, _, av, capv, rfl, _, _, _⟩ := h'
  cases h1 : isRule ⟨n, st, sd⟩
  · have HF := Lib.hid (rs_1 (r := ⟨n, st, sd⟩) (s := ⟨sa, sb⟩) (x := x) h1)
    have HCd := Lib.hid (show codeOn ⟨n, st, sd⟩ ⟨sa, sb⟩ true x = 1 from by unfold codeOn; rw [h1]; rfl)
    have H1 := Lib.hid h1
    clear h1
    go_enter Try.func16, Try.ntmps16
    go_wp2_with fail
    refine (w_l11Code _ _ _ _ _ _ _ true _ _ (H.out.later ((((Later.refl _).alloc _).alloc _).alloc _)) (H'.out.later ((((Later.refl _).alloc _).alloc _).alloc _))).mono ?_
    rintro e w1 ⟨rfl, hL1⟩
    rw [HCd.out]
    have HLw1 := Lib.hid (((((Later.refl w).alloc _).alloc _).alloc _).trans hL1)
    obtain ⟨K0, K1, K2⟩ := kept3 hL1
    have HK0_1 := Lib.hid K0
    have HK1_1 := Lib.hid K1
    have HK2_1 := Lib.hid K2
    clear K0 K1 K2
    clear hL1
    obtain ⟨c0, f0, z0⟩ := blk_at HK0_1.out
    obtain ⟨c1, f1, z1⟩ := blk_at HK1_1.out
    obtain ⟨c2, f2, z2⟩ := blk_at HK2_1.out
    go_wp2
    refine bodyPost_ret (v := .tuple #[.agg #[.int .i64 0, .int .i64 0], .int .i64 1]) (by simp [results, Try.results16, go_sem, c2, z2]) rfl ⟨by rw [HF.out.1, HF.out.2], by have hLw := HLw1.out; (repeat (with_reducible first | exact Later.refl _ | refine Later.alloc ?_ _ | refine Later.drew ?_ | refine Later.drewN ?_ _ | refine Later.setCell ?_ (by simp; try omega) _ | refine Later.trans ?_ (by assumption)))⟩
  cases h2 : isStg ⟨sa, sb⟩
  · have HF := Lib.hid (rs_1b (r := ⟨n, st, sd⟩) (s := ⟨sa, sb⟩) (x := x) h1 h2)
    have HCd := Lib.hid (show codeOn ⟨n, st, sd⟩ ⟨sa, sb⟩ true x = 1 from by unfold codeOn; rw [h1, h2]; rfl)
    have H1 := Lib.hid h1
    have H2 := Lib.hid h2
    clear h1 h2
    go_enter Try.func16, Try.ntmps16
    go_wp2_with fail
    refine (w_l11Code _ _ _ _ _ _ _ true _ _ (H.out.later ((((Later.refl _).alloc _).alloc _).alloc _)) (H'.out.later ((((Later.refl _).alloc _).alloc _).alloc _))).mono ?_
    rintro e w1 ⟨rfl, hL1⟩
    rw [HCd.out]
    have HLw1 := Lib.hid (((((Later.refl w).alloc _).alloc _).alloc _).trans hL1)
    obtain ⟨K0, K1, K2⟩ := kept3 hL1
    have HK0_1 := Lib.hid K0
    have HK1_1 := Lib.hid K1
    have HK2_1 := Lib.hid K2
    clear K0 K1 K2
    clear hL1
    obtain ⟨c0, f0, z0⟩ := blk_at HK0_1.out
    obtain ⟨c1, f1, z1⟩ := blk_at HK1_1.out
    obtain ⟨c2, f2, z2⟩ := blk_at HK2_1.out
    go_wp2
    refine bodyPost_ret (v := .tuple #[.agg #[.int .i64 0, .int .i64 0], .int .i64 1]) (by simp [results, Try.results16, go_sem, c2, z2]) rfl ⟨by rw [HF.out.1, HF.out.2], by have hLw := HLw1.out; (repeat (with_reducible first | exact Later.refl _ | refine Later.alloc ?_ _ | refine Later.drew ?_ | refine Later.drewN ?_ _ | refine Later.setCell ?_ (by simp; try omega) _ | refine Later.trans ?_ (by assumption)))⟩
  cases h3 : hasI sd x
  · have HF := Lib.hid (rs_2 (r := ⟨n, st, sd⟩) (s := ⟨sa, sb⟩) (x := x) h1 h2 h3)
    have HCd := Lib.hid (show codeOn ⟨n, st, sd⟩ ⟨sa, sb⟩ true x = 2 from by unfold codeOn; rw [h1, h2, show hasI (onR ⟨n, st, sd⟩ true) x = _ from h3]; rfl)
    have hsb := isStg_bd h2
    simp only at hsb
    obtain ⟨b1, b2, b3, b4⟩ := hsb
    have H1 := Lib.hid h1
    have H2 := Lib.hid h2
    have H3 := Lib.hid h3
    clear h1 h2 h3
    go_enter Try.func16, Try.ntmps16
    go_wp2_with fail
    refine (w_l11Code _ _ _ _ _ _ _ true _ _ (H.out.later ((((Later.refl _).alloc _).alloc _).alloc _)) (H'.out.later ((((Later.refl _).alloc _).alloc _).alloc _))).mono ?_
    rintro e w1 ⟨rfl, hL1⟩
    rw [HCd.out]
    have HLw1 := Lib.hid (((((Later.refl w).alloc _).alloc _).alloc _).trans hL1)
    obtain ⟨K0, K1, K2⟩ := kept3 hL1
    have HK0_1 := Lib.hid K0
    have HK1_1 := Lib.hid K1
    have HK2_1 := Lib.hid K2
    clear K0 K1 K2
    clear hL1
    obtain ⟨c0, f0, z0⟩ := blk_at HK0_1.out
    obtain ⟨c1, f1, z1⟩ := blk_at HK1_1.out
    obtain ⟨c2, f2, z2⟩ := blk_at HK2_1.out
    go_wp2
    refine bodyPost_ret (v := .tuple #[.agg #[.int .i64 0, .int .i64 0], .int .i64 2]) (by simp [results, Try.results16, go_sem, c2, z2]) rfl ⟨by rw [HF.out.1, HF.out.2], by have hLw := HLw1.out; (repeat (with_reducible first | exact Later.refl _ | refine Later.alloc ?_ _ | refine Later.drew ?_ | refine Later.drewN ?_ _ | refine Later.setCell ?_ (by simp; try omega) _ | refine Later.trans ?_ (by assumption)))⟩
  cases h4 : inR (sb - sa) 0 1048576
  · have HF := Lib.hid (rs_5 (r := ⟨n, st, sd⟩) (s := ⟨sa, sb⟩) (x := x) h1 h2 h3 h4)
    have HCd := Lib.hid (show codeOn ⟨n, st, sd⟩ ⟨sa, sb⟩ true x = 0 from by unfold codeOn; rw [h1, h2, show hasI (onR ⟨n, st, sd⟩ true) x = _ from h3]; rfl)
    have hsb := isStg_bd h2
    simp only at hsb
    obtain ⟨b1, b2, b3, b4⟩ := hsb
    have H1 := Lib.hid h1
    have H2 := Lib.hid h2
    have H3 := Lib.hid h3
    have H4 := Lib.hid h4
    clear h1 h2 h3 h4
    go_enter Try.func16, Try.ntmps16
    go_wp2_with fail
    refine (w_l11Code _ _ _ _ _ _ _ true _ _ (H.out.later ((((Later.refl _).alloc _).alloc _).alloc _)) (H'.out.later ((((Later.refl _).alloc _).alloc _).alloc _))).mono ?_
    rintro e w1 ⟨rfl, hL1⟩
    rw [HCd.out]
    have HLw1 := Lib.hid (((((Later.refl w).alloc _).alloc _).alloc _).trans hL1)
    obtain ⟨K0, K1, K2⟩ := kept3 hL1
    have HK0_1 := Lib.hid K0
    have HK1_1 := Lib.hid K1
    have HK2_1 := Lib.hid K2
    clear K0 K1 K2
    clear hL1
    obtain ⟨c0, f0, z0⟩ := blk_at HK0_1.out
    obtain ⟨c1, f1, z1⟩ := blk_at HK1_1.out
    obtain ⟨c2, f2, z2⟩ := blk_at HK2_1.out
    go_wp2_with fail
    refine (w_l01In _ _ _ _).mono ?_
    rintro e w0 ⟨rfl, rfl⟩
    rw [H4.out]
    go_wp2
    refine bodyPost_ret (v := .tuple #[.agg #[.int .i64 0, .int .i64 0], .int .i64 5]) (by simp [results, Try.results16, go_sem, c2, z2]) rfl ⟨by rw [HF.out.1, HF.out.2], by have hLw := HLw1.out; (repeat (with_reducible first | exact Later.refl _ | refine Later.alloc ?_ _ | refine Later.drew ?_ | refine Later.drewN ?_ _ | refine Later.setCell ?_ (by simp; try omega) _ | refine Later.trans ?_ (by assumption)))⟩
  have hsb := isStg_bd h2
  simp only at hsb
  obtain ⟨b1, b2, b3, b4⟩ := hsb
  have hx := rule_sl h1 h3
  obtain ⟨x1, x2⟩ := hx
  have hr4 := inR_true h4
  obtain ⟨r1, r2⟩ := hr4
  have HF := Lib.hid (rs_0 (r := ⟨n, st, sd⟩) (s := ⟨sa, sb⟩) (x := x) h1 h2 h3 h4)
  have HCd := Lib.hid (show codeOn ⟨n, st, sd⟩ ⟨sa, sb⟩ true x = 0 from by unfold codeOn; rw [h1, h2, show hasI (onR ⟨n, st, sd⟩ true) x = _ from h3]; rfl)
  have H1 := Lib.hid h1
  have H2 := Lib.hid h2
  have H3 := Lib.hid h3
  have H4 := Lib.hid h4
  clear h1 h2 h3 h4
  obtain ⟨G, hG⟩ : ∃ y, readF x (sb - sa) = y := ⟨_, rfl⟩
  have HG := Lib.hid hG
  have HF := Lib.hid (show rsC ⟨n, st, sd⟩ ⟨sa, sb⟩ x = 0 ∧ rsF ⟨n, st, sd⟩ ⟨sa, sb⟩ x = G from hG ▸ HF.out)
  clear hG
  go_enter Try.func16, Try.ntmps16
  go_wp2_with fail
  refine (w_l11Code _ _ _ _ _ _ _ true _ _ (H.out.later ((((Later.refl _).alloc _).alloc _).alloc _)) (H'.out.later ((((Later.refl _).alloc _).alloc _).alloc _))).mono ?_
  rintro e w1 ⟨rfl, hL1⟩
  rw [HCd.out]
  have HLw1 := Lib.hid (((((Later.refl w).alloc _).alloc _).alloc _).trans hL1)
  obtain ⟨K0, K1, K2⟩ := kept3 hL1
  have HK0_1 := Lib.hid K0
  have HK1_1 := Lib.hid K1
  have HK2_1 := Lib.hid K2
  clear K0 K1 K2
  clear hL1
  obtain ⟨c0, f0, z0⟩ := blk_at HK0_1.out
  obtain ⟨c1, f1, z1⟩ := blk_at HK1_1.out
  obtain ⟨c2, f2, z2⟩ := blk_at HK2_1.out
  go_wp2_with fail
  refine (w_l01In _ _ _ _).mono ?_
  rintro e w0 ⟨rfl, rfl⟩
  rw [H4.out]
  go_wp2_with fail
  refine (w_l11Read _ _ _ (by omega) (by omega) (by omega) (by omega)).mono ?_
  rintro e w2 ⟨rfl, hL2⟩
  clear c0 f0 z0 c1 f1 z1 c2 f2 z2
  have HLw2 := Lib.hid (HLw1.out.trans hL2)
  have HK0_2 := Lib.hid (hL2.keep HK0_1.out)
  have HK1_2 := Lib.hid (hL2.keep HK1_1.out)
  have HK2_2 := Lib.hid (hL2.keep HK2_1.out)
  clear hL2
  obtain ⟨c0, f0, z0⟩ := blk_at HK0_2.out
  obtain ⟨c1, f1, z1⟩ := blk_at HK1_2.out
  obtain ⟨c2, f2, z2⟩ := blk_at HK2_2.out
  rw [HG.out]
  go_wp2
  refine bodyPost_ret (v := .tuple #[.agg #[.int .i64 G.d, .int .i64 G.t], .int .i64 0]) (by simp [results, Try.results16, go_sem, c2, z2]) rfl ⟨by rw [HF.out.1, HF.out.2], by have hLw := HLw2.out; (repeat (with_reducible first | exact Later.refl _ | refine Later.alloc ?_ _ | refine Later.drew ?_ | refine Later.drewN ?_ _ | refine Later.setCell ?_ (by simp; try omega) _ | refine Later.trans ?_ (by assumption)))⟩

set_option maxHeartbeats 2000000 in
theorem w_checkTransfer (n : Int) (u v : Value) (st sd : List Int) (a b : Int) (z : Value) (l : List Fig) (w : World) (h : IsNums w u st) (h' : IsNums w v sd) (hz : IsFigs w z l) :
    Calls Try.prog 76 #[.agg #[.int .i64 n, u, v], .int .i64 a, .int .i64 b, z] w fun e w' => e = .returned (.int .i64 (tfC ⟨n, st, sd⟩ a b (l.all isFig))) ∧ Later w w' := by
  have H := Lib.hid h
  have H' := Lib.hid h'
  obtain ⟨_, _, au, capu, rfl, _, _, _⟩ := h
  obtain ⟨_, _, av, capv, rfl, _, _, _⟩ := h'
  have HZ := Lib.hid hz
  obtain ⟨FB, hFB⟩ : ∃ y, (l.all isFig) = y := ⟨_, rfl⟩
  rw [hFB]
  obtain ⟨A, hA⟩ : ∃ y, ordScale a = y := ⟨_, rfl⟩
  obtain ⟨B, hB⟩ : ∃ y, ordScale b = y := ⟨_, rfl⟩
  have HA := Lib.hid hA
  have HB := Lib.hid hB
  cases h1 : isRule ⟨n, st, sd⟩
  · have HF := Lib.hid (show tfC ⟨n, st, sd⟩ a b FB = 1 from by unfold tfC; simp [hA, hB, h1])
    have H1 := Lib.hid h1
    clear hFB hA hB h1
    go_enter Try.func76, Try.ntmps76
    go_wp2_with fail
    refine (w_implIsRule _ _ _ _ _ _ (H.out.later ((Later.refl _).alloc _)) (H'.out.later ((Later.refl _).alloc _))).mono ?_
    rintro e w1 ⟨rfl, hL1⟩
    rw [H1.out]
    have HLw1 := Lib.hid (((Later.refl w).alloc _).trans hL1)
    have K0 := kept1 hL1
    have HK0_1 := Lib.hid K0
    clear K0
    clear hL1
    obtain ⟨c0, f0, z0⟩ := blk_at HK0_1.out
    go_wp2
    go_ret
    exact ⟨by rw [HF.out]; rfl, by have hLw := HLw1.out; (repeat (with_reducible first | exact Later.refl _ | refine Later.alloc ?_ _ | refine Later.drew ?_ | refine Later.drewN ?_ _ | refine Later.setCell ?_ (by simp; try omega) _ | refine Later.trans ?_ (by assumption)))⟩
  cases FB
  · have h2 := hFB
    have HF := Lib.hid (show tfC ⟨n, st, sd⟩ a b false = 1 from by unfold tfC; simp [hA, hB, h1])
    have H1 := Lib.hid h1
    have H2 := Lib.hid h2
    clear hFB hA hB h1 h2
    go_enter Try.func76, Try.ntmps76
    go_wp2_with fail
    refine (w_implIsRule _ _ _ _ _ _ (H.out.later ((Later.refl _).alloc _)) (H'.out.later ((Later.refl _).alloc _))).mono ?_
    rintro e w1 ⟨rfl, hL1⟩
    rw [H1.out]
    have HLw1 := Lib.hid (((Later.refl w).alloc _).trans hL1)
    have K0 := kept1 hL1
    have HK0_1 := Lib.hid K0
    clear K0
    clear hL1
    obtain ⟨c0, f0, z0⟩ := blk_at HK0_1.out
    go_wp2_with fail
    refine (w_areFigures _ _ _ (HZ.out.later HLw1.out)).mono ?_
    rintro e w2 ⟨rfl, hL2⟩
    rw [H2.out]
    clear c0 f0 z0
    have HLw2 := Lib.hid (HLw1.out.trans hL2)
    have HK0_2 := Lib.hid (hL2.keep HK0_1.out)
    clear hL2
    obtain ⟨c0, f0, z0⟩ := blk_at HK0_2.out
    go_wp2
    go_ret
    exact ⟨by rw [HF.out]; rfl, by have hLw := HLw2.out; (repeat (with_reducible first | exact Later.refl _ | refine Later.alloc ?_ _ | refine Later.drew ?_ | refine Later.drewN ?_ _ | refine Later.setCell ?_ (by simp; try omega) _ | refine Later.trans ?_ (by assumption)))⟩
  have h2 := hFB
  by_cases zA : A = 0
  · have HF := Lib.hid (show tfC ⟨n, st, sd⟩ a b true = 2 from by unfold tfC; simp [hA, hB, h1, zA])
    have zb : (A == 0) = true := by simp [zA]
    have H1 := Lib.hid h1
    have H2 := Lib.hid h2
    clear hFB hA hB h1 h2
    go_enter Try.func76, Try.ntmps76
    go_wp2_with fail
    refine (w_implIsRule _ _ _ _ _ _ (H.out.later ((Later.refl _).alloc _)) (H'.out.later ((Later.refl _).alloc _))).mono ?_
    rintro e w1 ⟨rfl, hL1⟩
    rw [H1.out]
    have HLw1 := Lib.hid (((Later.refl w).alloc _).trans hL1)
    have K0 := kept1 hL1
    have HK0_1 := Lib.hid K0
    clear K0
    clear hL1
    obtain ⟨c0, f0, z0⟩ := blk_at HK0_1.out
    go_wp2_with fail
    refine (w_areFigures _ _ _ (HZ.out.later HLw1.out)).mono ?_
    rintro e w2 ⟨rfl, hL2⟩
    rw [H2.out]
    clear c0 f0 z0
    have HLw2 := Lib.hid (HLw1.out.trans hL2)
    have HK0_2 := Lib.hid (hL2.keep HK0_1.out)
    clear hL2
    obtain ⟨c0, f0, z0⟩ := blk_at HK0_2.out
    go_wp2_with fail
    refine (w_orderOf _ _).mono ?_
    rintro e w0 ⟨rfl, rfl⟩
    rw [HA.out]
    go_wp2
    go_ret
    exact ⟨by rw [HF.out]; rfl, by have hLw := HLw2.out; (repeat (with_reducible first | exact Later.refl _ | refine Later.alloc ?_ _ | refine Later.drew ?_ | refine Later.drewN ?_ _ | refine Later.setCell ?_ (by simp; try omega) _ | refine Later.trans ?_ (by assumption)))⟩
  by_cases zB : B = 0
  · have HF := Lib.hid (show tfC ⟨n, st, sd⟩ a b true = 2 from by unfold tfC; simp [hA, hB, h1, zA, zB])
    have zb : (B == 0) = true := by simp [zB]
    have yA : (A == 0) = false := by simp [zA]
    have H1 := Lib.hid h1
    have H2 := Lib.hid h2
    clear hFB hA hB h1 h2
    go_enter Try.func76, Try.ntmps76
    go_wp2_with fail
    refine (w_implIsRule _ _ _ _ _ _ (H.out.later ((Later.refl _).alloc _)) (H'.out.later ((Later.refl _).alloc _))).mono ?_
    rintro e w1 ⟨rfl, hL1⟩
    rw [H1.out]
    have HLw1 := Lib.hid (((Later.refl w).alloc _).trans hL1)
    have K0 := kept1 hL1
    have HK0_1 := Lib.hid K0
    clear K0
    clear hL1
    obtain ⟨c0, f0, z0⟩ := blk_at HK0_1.out
    go_wp2_with fail
    refine (w_areFigures _ _ _ (HZ.out.later HLw1.out)).mono ?_
    rintro e w2 ⟨rfl, hL2⟩
    rw [H2.out]
    clear c0 f0 z0
    have HLw2 := Lib.hid (HLw1.out.trans hL2)
    have HK0_2 := Lib.hid (hL2.keep HK0_1.out)
    clear hL2
    obtain ⟨c0, f0, z0⟩ := blk_at HK0_2.out
    go_wp2_with fail
    refine (w_orderOf _ _).mono ?_
    rintro e w0 ⟨rfl, rfl⟩
    rw [HA.out]
    go_wp2_with fail
    refine (w_orderOf _ _).mono ?_
    rintro e w0 ⟨rfl, rfl⟩
    rw [HB.out]
    go_wp2
    go_ret
    exact ⟨by rw [HF.out]; rfl, by have hLw := HLw2.out; (repeat (with_reducible first | exact Later.refl _ | refine Later.alloc ?_ _ | refine Later.drew ?_ | refine Later.drewN ?_ _ | refine Later.setCell ?_ (by simp; try omega) _ | refine Later.trans ?_ (by assumption)))⟩
  cases h3 : hasI st a
  · have HF := Lib.hid (show tfC ⟨n, st, sd⟩ a b true = 2 from by unfold tfC; simp [hA, hB, h1, zA, zB, h3])
    have yA : (A == 0) = false := by simp [zA]
    have yB : (B == 0) = false := by simp [zB]
    have H1 := Lib.hid h1
    have H2 := Lib.hid h2
    have H3 := Lib.hid h3
    clear hFB hA hB h1 h2 h3
    go_enter Try.func76, Try.ntmps76
    go_wp2_with fail
    refine (w_implIsRule _ _ _ _ _ _ (H.out.later ((Later.refl _).alloc _)) (H'.out.later ((Later.refl _).alloc _))).mono ?_
    rintro e w1 ⟨rfl, hL1⟩
    rw [H1.out]
    have HLw1 := Lib.hid (((Later.refl w).alloc _).trans hL1)
    have K0 := kept1 hL1
    have HK0_1 := Lib.hid K0
    clear K0
    clear hL1
    obtain ⟨c0, f0, z0⟩ := blk_at HK0_1.out
    go_wp2_with fail
    refine (w_areFigures _ _ _ (HZ.out.later HLw1.out)).mono ?_
    rintro e w2 ⟨rfl, hL2⟩
    rw [H2.out]
    clear c0 f0 z0
    have HLw2 := Lib.hid (HLw1.out.trans hL2)
    have HK0_2 := Lib.hid (hL2.keep HK0_1.out)
    clear hL2
    obtain ⟨c0, f0, z0⟩ := blk_at HK0_2.out
    go_wp2_with fail
    refine (w_orderOf _ _).mono ?_
    rintro e w0 ⟨rfl, rfl⟩
    rw [HA.out]
    go_wp2_with fail
    refine (w_orderOf _ _).mono ?_
    rintro e w0 ⟨rfl, rfl⟩
    rw [HB.out]
    go_wp2_with fail
    refine (w_hasScale _ _ _ _ _ false _ _ (H.out.later HLw2.out) (H'.out.later HLw2.out)).mono ?_
    rintro e w3 ⟨rfl, hL3⟩
    rw [show hasI (onR ⟨n, st, sd⟩ false) a = _ from H3.out]
    clear c0 f0 z0
    have HLw3 := Lib.hid (HLw2.out.trans hL3)
    have HK0_3 := Lib.hid (hL3.keep HK0_2.out)
    clear hL3
    obtain ⟨c0, f0, z0⟩ := blk_at HK0_3.out
    go_wp2
    go_ret
    exact ⟨by rw [HF.out]; rfl, by have hLw := HLw3.out; (repeat (with_reducible first | exact Later.refl _ | refine Later.alloc ?_ _ | refine Later.drew ?_ | refine Later.drewN ?_ _ | refine Later.setCell ?_ (by simp; try omega) _ | refine Later.trans ?_ (by assumption)))⟩
  cases h4 : hasI st b
  · have HF := Lib.hid (show tfC ⟨n, st, sd⟩ a b true = 2 from by unfold tfC; simp [hA, hB, h1, zA, zB, h3, h4])
    have yA : (A == 0) = false := by simp [zA]
    have yB : (B == 0) = false := by simp [zB]
    have H1 := Lib.hid h1
    have H2 := Lib.hid h2
    have H3 := Lib.hid h3
    have H4 := Lib.hid h4
    clear hFB hA hB h1 h2 h3 h4
    go_enter Try.func76, Try.ntmps76
    go_wp2_with fail
    refine (w_implIsRule _ _ _ _ _ _ (H.out.later ((Later.refl _).alloc _)) (H'.out.later ((Later.refl _).alloc _))).mono ?_
    rintro e w1 ⟨rfl, hL1⟩
    rw [H1.out]
    have HLw1 := Lib.hid (((Later.refl w).alloc _).trans hL1)
    have K0 := kept1 hL1
    have HK0_1 := Lib.hid K0
    clear K0
    clear hL1
    obtain ⟨c0, f0, z0⟩ := blk_at HK0_1.out
    go_wp2_with fail
    refine (w_areFigures _ _ _ (HZ.out.later HLw1.out)).mono ?_
    rintro e w2 ⟨rfl, hL2⟩
    rw [H2.out]
    clear c0 f0 z0
    have HLw2 := Lib.hid (HLw1.out.trans hL2)
    have HK0_2 := Lib.hid (hL2.keep HK0_1.out)
    clear hL2
    obtain ⟨c0, f0, z0⟩ := blk_at HK0_2.out
    go_wp2_with fail
    refine (w_orderOf _ _).mono ?_
    rintro e w0 ⟨rfl, rfl⟩
    rw [HA.out]
    go_wp2_with fail
    refine (w_orderOf _ _).mono ?_
    rintro e w0 ⟨rfl, rfl⟩
    rw [HB.out]
    go_wp2_with fail
    refine (w_hasScale _ _ _ _ _ false _ _ (H.out.later HLw2.out) (H'.out.later HLw2.out)).mono ?_
    rintro e w3 ⟨rfl, hL3⟩
    rw [show hasI (onR ⟨n, st, sd⟩ false) a = _ from H3.out]
    clear c0 f0 z0
    have HLw3 := Lib.hid (HLw2.out.trans hL3)
    have HK0_3 := Lib.hid (hL3.keep HK0_2.out)
    clear hL3
    obtain ⟨c0, f0, z0⟩ := blk_at HK0_3.out
    go_wp2_with fail
    refine (w_hasScale _ _ _ _ _ false _ _ (H.out.later HLw3.out) (H'.out.later HLw3.out)).mono ?_
    rintro e w4 ⟨rfl, hL4⟩
    rw [show hasI (onR ⟨n, st, sd⟩ false) b = _ from H4.out]
    clear c0 f0 z0
    have HLw4 := Lib.hid (HLw3.out.trans hL4)
    have HK0_4 := Lib.hid (hL4.keep HK0_3.out)
    clear hL4
    obtain ⟨c0, f0, z0⟩ := blk_at HK0_4.out
    go_wp2
    go_ret
    exact ⟨by rw [HF.out]; rfl, by have hLw := HLw4.out; (repeat (with_reducible first | exact Later.refl _ | refine Later.alloc ?_ _ | refine Later.drew ?_ | refine Later.drewN ?_ _ | refine Later.setCell ?_ (by simp; try omega) _ | refine Later.trans ?_ (by assumption)))⟩
  have HF := Lib.hid (show tfC ⟨n, st, sd⟩ a b true = 0 from by unfold tfC; simp [hA, hB, h1, zA, zB, h3, h4])
  have H1 := Lib.hid h1
  have H2 := Lib.hid h2
  have yA : (A == 0) = false := by simp [zA]
  have yB : (B == 0) = false := by simp [zB]
  have H3 := Lib.hid h3
  have H4 := Lib.hid h4
  clear hFB hA hB h1 h2 h3 h4
  go_enter Try.func76, Try.ntmps76
  go_wp2_with fail
  refine (w_implIsRule _ _ _ _ _ _ (H.out.later ((Later.refl _).alloc _)) (H'.out.later ((Later.refl _).alloc _))).mono ?_
  rintro e w1 ⟨rfl, hL1⟩
  rw [H1.out]
  have HLw1 := Lib.hid (((Later.refl w).alloc _).trans hL1)
  have K0 := kept1 hL1
  have HK0_1 := Lib.hid K0
  clear K0
  clear hL1
  obtain ⟨c0, f0, z0⟩ := blk_at HK0_1.out
  go_wp2_with fail
  refine (w_areFigures _ _ _ (HZ.out.later HLw1.out)).mono ?_
  rintro e w2 ⟨rfl, hL2⟩
  rw [H2.out]
  clear c0 f0 z0
  have HLw2 := Lib.hid (HLw1.out.trans hL2)
  have HK0_2 := Lib.hid (hL2.keep HK0_1.out)
  clear hL2
  obtain ⟨c0, f0, z0⟩ := blk_at HK0_2.out
  go_wp2_with fail
  refine (w_orderOf _ _).mono ?_
  rintro e w0 ⟨rfl, rfl⟩
  rw [HA.out]
  go_wp2_with fail
  refine (w_orderOf _ _).mono ?_
  rintro e w0 ⟨rfl, rfl⟩
  rw [HB.out]
  go_wp2_with fail
  refine (w_hasScale _ _ _ _ _ false _ _ (H.out.later HLw2.out) (H'.out.later HLw2.out)).mono ?_
  rintro e w3 ⟨rfl, hL3⟩
  rw [show hasI (onR ⟨n, st, sd⟩ false) a = _ from H3.out]
  clear c0 f0 z0
  have HLw3 := Lib.hid (HLw2.out.trans hL3)
  have HK0_3 := Lib.hid (hL3.keep HK0_2.out)
  clear hL3
  obtain ⟨c0, f0, z0⟩ := blk_at HK0_3.out
  go_wp2_with fail
  refine (w_hasScale _ _ _ _ _ false _ _ (H.out.later HLw3.out) (H'.out.later HLw3.out)).mono ?_
  rintro e w4 ⟨rfl, hL4⟩
  rw [show hasI (onR ⟨n, st, sd⟩ false) b = _ from H4.out]
  clear c0 f0 z0
  have HLw4 := Lib.hid (HLw3.out.trans hL4)
  have HK0_4 := Lib.hid (hL4.keep HK0_3.out)
  clear hL4
  obtain ⟨c0, f0, z0⟩ := blk_at HK0_4.out
  go_wp2
  go_ret
  exact ⟨by rw [HF.out]; rfl, by have hLw := HLw4.out; (repeat (with_reducible first | exact Later.refl _ | refine Later.alloc ?_ _ | refine Later.drew ?_ | refine Later.drewN ?_ _ | refine Later.setCell ?_ (by simp; try omega) _ | refine Later.trans ?_ (by assumption)))⟩

set_option maxHeartbeats 2000000 in
theorem w_l17Code (n : Int) (u v : Value) (st sd : List Int) (a b : Int) (fd ft : Int) (w : World) (h : IsNums w u st) (h' : IsNums w v sd) :
    Calls Try.prog 74 #[.agg #[.int .i64 n, u, v], .int .i64 a, .int .i64 b, .agg #[.int .i64 fd, .int .i64 ft]] w fun e w' => e = .returned (.int .i64 (tfC ⟨n, st, sd⟩ a b (isFig ⟨fd, ft⟩))) ∧ Later w w' := by
  have H := Lib.hid h
  have H' := Lib.hid h'
  obtain ⟨_, _, au, capu, rfl, _, _, _⟩ := h
  obtain ⟨_, _, av, capv, rfl, _, _, _⟩ := h'
  obtain ⟨FB, hFB⟩ : ∃ y, (isFig ⟨fd, ft⟩) = y := ⟨_, rfl⟩
  rw [hFB]
  obtain ⟨A, hA⟩ : ∃ y, ordScale a = y := ⟨_, rfl⟩
  obtain ⟨B, hB⟩ : ∃ y, ordScale b = y := ⟨_, rfl⟩
  have HA := Lib.hid hA
  have HB := Lib.hid hB
  cases h1 : isRule ⟨n, st, sd⟩
  · have HF := Lib.hid (show tfC ⟨n, st, sd⟩ a b FB = 1 from by unfold tfC; simp [hA, hB, h1])
    have H1 := Lib.hid h1
    clear hFB hA hB h1
    go_enter Try.func74, Try.ntmps74
    go_wp2_with fail
    refine (w_specIsRule _ _ _ _ _ _ (H.out.later (((Later.refl _).alloc _).alloc _)) (H'.out.later (((Later.refl _).alloc _).alloc _))).mono ?_
    rintro e w1 ⟨rfl, hL1⟩
    rw [H1.out]
    have HLw1 := Lib.hid ((((Later.refl w).alloc _).alloc _).trans hL1)
    obtain ⟨K0, K1⟩ := kept2 hL1
    have HK0_1 := Lib.hid K0
    have HK1_1 := Lib.hid K1
    clear K0 K1
    clear hL1
    obtain ⟨c0, f0, z0⟩ := blk_at HK0_1.out
    obtain ⟨c1, f1, z1⟩ := blk_at HK1_1.out
    go_wp2
    go_ret
    exact ⟨by rw [HF.out]; rfl, by have hLw := HLw1.out; (repeat (with_reducible first | exact Later.refl _ | refine Later.alloc ?_ _ | refine Later.drew ?_ | refine Later.drewN ?_ _ | refine Later.setCell ?_ (by simp; try omega) _ | refine Later.trans ?_ (by assumption)))⟩
  cases FB
  · have h2 := hFB
    have HF := Lib.hid (show tfC ⟨n, st, sd⟩ a b false = 1 from by unfold tfC; simp [hA, hB, h1])
    have H1 := Lib.hid h1
    have H2 := Lib.hid h2
    clear hFB hA hB h1 h2
    go_enter Try.func74, Try.ntmps74
    go_wp2_with fail
    refine (w_specIsRule _ _ _ _ _ _ (H.out.later (((Later.refl _).alloc _).alloc _)) (H'.out.later (((Later.refl _).alloc _).alloc _))).mono ?_
    rintro e w1 ⟨rfl, hL1⟩
    rw [H1.out]
    have HLw1 := Lib.hid ((((Later.refl w).alloc _).alloc _).trans hL1)
    obtain ⟨K0, K1⟩ := kept2 hL1
    have HK0_1 := Lib.hid K0
    have HK1_1 := Lib.hid K1
    clear K0 K1
    clear hL1
    obtain ⟨c0, f0, z0⟩ := blk_at HK0_1.out
    obtain ⟨c1, f1, z1⟩ := blk_at HK1_1.out
    go_wp2_with fail
    refine (w_specIsFigure _ _ _).mono ?_
    rintro e w2 ⟨rfl, hL2⟩
    rw [H2.out]
    clear c0 f0 z0 c1 f1 z1
    have HLw2 := Lib.hid (HLw1.out.trans hL2)
    have HK0_2 := Lib.hid (hL2.keep HK0_1.out)
    have HK1_2 := Lib.hid (hL2.keep HK1_1.out)
    clear hL2
    obtain ⟨c0, f0, z0⟩ := blk_at HK0_2.out
    obtain ⟨c1, f1, z1⟩ := blk_at HK1_2.out
    go_wp2
    go_ret
    exact ⟨by rw [HF.out]; rfl, by have hLw := HLw2.out; (repeat (with_reducible first | exact Later.refl _ | refine Later.alloc ?_ _ | refine Later.drew ?_ | refine Later.drewN ?_ _ | refine Later.setCell ?_ (by simp; try omega) _ | refine Later.trans ?_ (by assumption)))⟩
  have h2 := hFB
  by_cases zA : A = 0
  · have HF := Lib.hid (show tfC ⟨n, st, sd⟩ a b true = 2 from by unfold tfC; simp [hA, hB, h1, zA])
    have zb : (A == 0) = true := by simp [zA]
    have H1 := Lib.hid h1
    have H2 := Lib.hid h2
    clear hFB hA hB h1 h2
    go_enter Try.func74, Try.ntmps74
    go_wp2_with fail
    refine (w_specIsRule _ _ _ _ _ _ (H.out.later (((Later.refl _).alloc _).alloc _)) (H'.out.later (((Later.refl _).alloc _).alloc _))).mono ?_
    rintro e w1 ⟨rfl, hL1⟩
    rw [H1.out]
    have HLw1 := Lib.hid ((((Later.refl w).alloc _).alloc _).trans hL1)
    obtain ⟨K0, K1⟩ := kept2 hL1
    have HK0_1 := Lib.hid K0
    have HK1_1 := Lib.hid K1
    clear K0 K1
    clear hL1
    obtain ⟨c0, f0, z0⟩ := blk_at HK0_1.out
    obtain ⟨c1, f1, z1⟩ := blk_at HK1_1.out
    go_wp2_with fail
    refine (w_specIsFigure _ _ _).mono ?_
    rintro e w2 ⟨rfl, hL2⟩
    rw [H2.out]
    clear c0 f0 z0 c1 f1 z1
    have HLw2 := Lib.hid (HLw1.out.trans hL2)
    have HK0_2 := Lib.hid (hL2.keep HK0_1.out)
    have HK1_2 := Lib.hid (hL2.keep HK1_1.out)
    clear hL2
    obtain ⟨c0, f0, z0⟩ := blk_at HK0_2.out
    obtain ⟨c1, f1, z1⟩ := blk_at HK1_2.out
    go_wp2_with fail
    refine (w_l17Order _ _).mono ?_
    rintro e w0 ⟨rfl, rfl⟩
    rw [HA.out]
    go_wp2
    go_ret
    exact ⟨by rw [HF.out]; rfl, by have hLw := HLw2.out; (repeat (with_reducible first | exact Later.refl _ | refine Later.alloc ?_ _ | refine Later.drew ?_ | refine Later.drewN ?_ _ | refine Later.setCell ?_ (by simp; try omega) _ | refine Later.trans ?_ (by assumption)))⟩
  by_cases zB : B = 0
  · have HF := Lib.hid (show tfC ⟨n, st, sd⟩ a b true = 2 from by unfold tfC; simp [hA, hB, h1, zA, zB])
    have zb : (B == 0) = true := by simp [zB]
    have yA : (A == 0) = false := by simp [zA]
    have H1 := Lib.hid h1
    have H2 := Lib.hid h2
    clear hFB hA hB h1 h2
    go_enter Try.func74, Try.ntmps74
    go_wp2_with fail
    refine (w_specIsRule _ _ _ _ _ _ (H.out.later (((Later.refl _).alloc _).alloc _)) (H'.out.later (((Later.refl _).alloc _).alloc _))).mono ?_
    rintro e w1 ⟨rfl, hL1⟩
    rw [H1.out]
    have HLw1 := Lib.hid ((((Later.refl w).alloc _).alloc _).trans hL1)
    obtain ⟨K0, K1⟩ := kept2 hL1
    have HK0_1 := Lib.hid K0
    have HK1_1 := Lib.hid K1
    clear K0 K1
    clear hL1
    obtain ⟨c0, f0, z0⟩ := blk_at HK0_1.out
    obtain ⟨c1, f1, z1⟩ := blk_at HK1_1.out
    go_wp2_with fail
    refine (w_specIsFigure _ _ _).mono ?_
    rintro e w2 ⟨rfl, hL2⟩
    rw [H2.out]
    clear c0 f0 z0 c1 f1 z1
    have HLw2 := Lib.hid (HLw1.out.trans hL2)
    have HK0_2 := Lib.hid (hL2.keep HK0_1.out)
    have HK1_2 := Lib.hid (hL2.keep HK1_1.out)
    clear hL2
    obtain ⟨c0, f0, z0⟩ := blk_at HK0_2.out
    obtain ⟨c1, f1, z1⟩ := blk_at HK1_2.out
    go_wp2_with fail
    refine (w_l17Order _ _).mono ?_
    rintro e w0 ⟨rfl, rfl⟩
    rw [HA.out]
    go_wp2_with fail
    refine (w_l17Order _ _).mono ?_
    rintro e w0 ⟨rfl, rfl⟩
    rw [HB.out]
    go_wp2
    go_ret
    exact ⟨by rw [HF.out]; rfl, by have hLw := HLw2.out; (repeat (with_reducible first | exact Later.refl _ | refine Later.alloc ?_ _ | refine Later.drew ?_ | refine Later.drewN ?_ _ | refine Later.setCell ?_ (by simp; try omega) _ | refine Later.trans ?_ (by assumption)))⟩
  cases h3 : hasI st a
  · have HF := Lib.hid (show tfC ⟨n, st, sd⟩ a b true = 2 from by unfold tfC; simp [hA, hB, h1, zA, zB, h3])
    have yA : (A == 0) = false := by simp [zA]
    have yB : (B == 0) = false := by simp [zB]
    have H1 := Lib.hid h1
    have H2 := Lib.hid h2
    have H3 := Lib.hid h3
    clear hFB hA hB h1 h2 h3
    go_enter Try.func74, Try.ntmps74
    go_wp2_with fail
    refine (w_specIsRule _ _ _ _ _ _ (H.out.later (((Later.refl _).alloc _).alloc _)) (H'.out.later (((Later.refl _).alloc _).alloc _))).mono ?_
    rintro e w1 ⟨rfl, hL1⟩
    rw [H1.out]
    have HLw1 := Lib.hid ((((Later.refl w).alloc _).alloc _).trans hL1)
    obtain ⟨K0, K1⟩ := kept2 hL1
    have HK0_1 := Lib.hid K0
    have HK1_1 := Lib.hid K1
    clear K0 K1
    clear hL1
    obtain ⟨c0, f0, z0⟩ := blk_at HK0_1.out
    obtain ⟨c1, f1, z1⟩ := blk_at HK1_1.out
    go_wp2_with fail
    refine (w_specIsFigure _ _ _).mono ?_
    rintro e w2 ⟨rfl, hL2⟩
    rw [H2.out]
    clear c0 f0 z0 c1 f1 z1
    have HLw2 := Lib.hid (HLw1.out.trans hL2)
    have HK0_2 := Lib.hid (hL2.keep HK0_1.out)
    have HK1_2 := Lib.hid (hL2.keep HK1_1.out)
    clear hL2
    obtain ⟨c0, f0, z0⟩ := blk_at HK0_2.out
    obtain ⟨c1, f1, z1⟩ := blk_at HK1_2.out
    go_wp2_with fail
    refine (w_l17Order _ _).mono ?_
    rintro e w0 ⟨rfl, rfl⟩
    rw [HA.out]
    go_wp2_with fail
    refine (w_l17Order _ _).mono ?_
    rintro e w0 ⟨rfl, rfl⟩
    rw [HB.out]
    go_wp2_with fail
    refine (w_l01Has _ _ _ _ (H.out.later HLw2.out)).mono ?_
    rintro e w0 ⟨rfl, rfl⟩
    rw [H3.out]
    go_wp2
    go_ret
    exact ⟨by rw [HF.out]; rfl, by have hLw := HLw2.out; (repeat (with_reducible first | exact Later.refl _ | refine Later.alloc ?_ _ | refine Later.drew ?_ | refine Later.drewN ?_ _ | refine Later.setCell ?_ (by simp; try omega) _ | refine Later.trans ?_ (by assumption)))⟩
  cases h4 : hasI st b
  · have HF := Lib.hid (show tfC ⟨n, st, sd⟩ a b true = 2 from by unfold tfC; simp [hA, hB, h1, zA, zB, h3, h4])
    have yA : (A == 0) = false := by simp [zA]
    have yB : (B == 0) = false := by simp [zB]
    have H1 := Lib.hid h1
    have H2 := Lib.hid h2
    have H3 := Lib.hid h3
    have H4 := Lib.hid h4
    clear hFB hA hB h1 h2 h3 h4
    go_enter Try.func74, Try.ntmps74
    go_wp2_with fail
    refine (w_specIsRule _ _ _ _ _ _ (H.out.later (((Later.refl _).alloc _).alloc _)) (H'.out.later (((Later.refl _).alloc _).alloc _))).mono ?_
    rintro e w1 ⟨rfl, hL1⟩
    rw [H1.out]
    have HLw1 := Lib.hid ((((Later.refl w).alloc _).alloc _).trans hL1)
    obtain ⟨K0, K1⟩ := kept2 hL1
    have HK0_1 := Lib.hid K0
    have HK1_1 := Lib.hid K1
    clear K0 K1
    clear hL1
    obtain ⟨c0, f0, z0⟩ := blk_at HK0_1.out
    obtain ⟨c1, f1, z1⟩ := blk_at HK1_1.out
    go_wp2_with fail
    refine (w_specIsFigure _ _ _).mono ?_
    rintro e w2 ⟨rfl, hL2⟩
    rw [H2.out]
    clear c0 f0 z0 c1 f1 z1
    have HLw2 := Lib.hid (HLw1.out.trans hL2)
    have HK0_2 := Lib.hid (hL2.keep HK0_1.out)
    have HK1_2 := Lib.hid (hL2.keep HK1_1.out)
    clear hL2
    obtain ⟨c0, f0, z0⟩ := blk_at HK0_2.out
    obtain ⟨c1, f1, z1⟩ := blk_at HK1_2.out
    go_wp2_with fail
    refine (w_l17Order _ _).mono ?_
    rintro e w0 ⟨rfl, rfl⟩
    rw [HA.out]
    go_wp2_with fail
    refine (w_l17Order _ _).mono ?_
    rintro e w0 ⟨rfl, rfl⟩
    rw [HB.out]
    go_wp2_with fail
    refine (w_l01Has _ _ _ _ (H.out.later HLw2.out)).mono ?_
    rintro e w0 ⟨rfl, rfl⟩
    rw [H3.out]
    go_wp2_with fail
    refine (w_l01Has _ _ _ _ (H.out.later HLw2.out)).mono ?_
    rintro e w0 ⟨rfl, rfl⟩
    rw [H4.out]
    go_wp2
    go_ret
    exact ⟨by rw [HF.out]; rfl, by have hLw := HLw2.out; (repeat (with_reducible first | exact Later.refl _ | refine Later.alloc ?_ _ | refine Later.drew ?_ | refine Later.drewN ?_ _ | refine Later.setCell ?_ (by simp; try omega) _ | refine Later.trans ?_ (by assumption)))⟩
  have HF := Lib.hid (show tfC ⟨n, st, sd⟩ a b true = 0 from by unfold tfC; simp [hA, hB, h1, zA, zB, h3, h4])
  have H1 := Lib.hid h1
  have H2 := Lib.hid h2
  have yA : (A == 0) = false := by simp [zA]
  have yB : (B == 0) = false := by simp [zB]
  have H3 := Lib.hid h3
  have H4 := Lib.hid h4
  clear hFB hA hB h1 h2 h3 h4
  go_enter Try.func74, Try.ntmps74
  go_wp2_with fail
  refine (w_specIsRule _ _ _ _ _ _ (H.out.later (((Later.refl _).alloc _).alloc _)) (H'.out.later (((Later.refl _).alloc _).alloc _))).mono ?_
  rintro e w1 ⟨rfl, hL1⟩
  rw [H1.out]
  have HLw1 := Lib.hid ((((Later.refl w).alloc _).alloc _).trans hL1)
  obtain ⟨K0, K1⟩ := kept2 hL1
  have HK0_1 := Lib.hid K0
  have HK1_1 := Lib.hid K1
  clear K0 K1
  clear hL1
  obtain ⟨c0, f0, z0⟩ := blk_at HK0_1.out
  obtain ⟨c1, f1, z1⟩ := blk_at HK1_1.out
  go_wp2_with fail
  refine (w_specIsFigure _ _ _).mono ?_
  rintro e w2 ⟨rfl, hL2⟩
  rw [H2.out]
  clear c0 f0 z0 c1 f1 z1
  have HLw2 := Lib.hid (HLw1.out.trans hL2)
  have HK0_2 := Lib.hid (hL2.keep HK0_1.out)
  have HK1_2 := Lib.hid (hL2.keep HK1_1.out)
  clear hL2
  obtain ⟨c0, f0, z0⟩ := blk_at HK0_2.out
  obtain ⟨c1, f1, z1⟩ := blk_at HK1_2.out
  go_wp2_with fail
  refine (w_l17Order _ _).mono ?_
  rintro e w0 ⟨rfl, rfl⟩
  rw [HA.out]
  go_wp2_with fail
  refine (w_l17Order _ _).mono ?_
  rintro e w0 ⟨rfl, rfl⟩
  rw [HB.out]
  go_wp2_with fail
  refine (w_l01Has _ _ _ _ (H.out.later HLw2.out)).mono ?_
  rintro e w0 ⟨rfl, rfl⟩
  rw [H3.out]
  go_wp2_with fail
  refine (w_l01Has _ _ _ _ (H.out.later HLw2.out)).mono ?_
  rintro e w0 ⟨rfl, rfl⟩
  rw [H4.out]
  go_wp2
  go_ret
  exact ⟨by rw [HF.out]; rfl, by have hLw := HLw2.out; (repeat (with_reducible first | exact Later.refl _ | refine Later.alloc ?_ _ | refine Later.drew ?_ | refine Later.drewN ?_ _ | refine Later.setCell ?_ (by simp; try omega) _ | refine Later.trans ?_ (by assumption)))⟩

theorem ptF_in {s : Int} {f : Fig} (s1 : 0 ≤ s) (s2 : s ≤ 4) (h1 : 1000 ≤ f.d) (h2 : f.d ≤ 9999) : -3000000 ≤ ptF s f ∧ ptF s f ≤ 3000000 := by
  have hb := lg_bd h1 h2
  have hc := lg_bd (d := 3142) (by omega) (by omega)
  have hl : (lg f.d).lo < (lg f.d).hi := logOf_le (by omega) (by omega)
  unfold ptF posI scaleI cdiv
  rw [if_neg (by omega)]
  by_cases e1 : s = 1
  · rw [if_pos e1]; simp only; rw [Int.min_eq_left (by omega), Int.max_eq_right (by omega)]; omega
  rw [if_neg e1]
  by_cases e2 : s = 2
  · rw [if_pos e2]; simp only; rw [Int.min_eq_left (by omega), Int.max_eq_right (by omega)]; omega
  rw [if_neg e2]
  by_cases e3 : s = 3
  · rw [if_pos e3]; simp only; omega
  rw [if_neg e3]
  by_cases e4 : s = 4
  · rw [if_pos e4]; split <;> simp only <;> omega
  rw [if_neg e4]
  omega

set_option maxHeartbeats 1000000 in
theorem w_transferFigure (a b d t : Int) (a1 : 0 ≤ a) (a2 : a ≤ 4) (b1 : 0 ≤ b) (b2 : b ≤ 4) (hf : isFig ⟨d, t⟩ = true) (w : World) :
    Calls Try.prog 77 #[.int .i64 a, .int .i64 b, .agg #[.int .i64 d, .int .i64 t]] w fun e w' => e = .returned (.agg #[.int .i64 (tfV a b ⟨d, t⟩).d, .int .i64 (tfV a b ⟨d, t⟩).t]) ∧ Later w w' := by
  have hd := isFig_true hf
  simp only at hd
  obtain ⟨d1, d2, f1, f2⟩ := hd
  have hp := ptF_in (s := a) (f := ⟨d, t⟩) a1 a2 d1 d2
  obtain ⟨X, hX⟩ : ∃ y, ptF a ⟨d, t⟩ = y := ⟨_, rfl⟩
  obtain ⟨G, hG⟩ : ∃ y, readF b X = y := ⟨_, rfl⟩
  rw [hX] at hp
  obtain ⟨p1, p2⟩ := hp
  have HX := Lib.hid hX
  have HG := Lib.hid hG
  have HF := Lib.hid (show tfV a b ⟨d, t⟩ = G from by unfold tfV; rw [hX, hG])
  clear hX hG hf
  go_enter Try.func77, Try.ntmps77
  go_wp2_with fail
  refine (w_implPoint _ _ _ a1 a2 d1 d2 (by omega) (by omega) _).mono ?_
  rintro e w1 ⟨rfl, hL1⟩
  rw [HX.out]
  have HLw1 := Lib.hid ((((Later.refl w).alloc _).alloc _).trans hL1)
  obtain ⟨K0, K1⟩ := kept2 hL1
  have HK0_1 := Lib.hid K0
  have HK1_1 := Lib.hid K1
  clear K0 K1
  clear hL1
  obtain ⟨c0, f0, z0⟩ := blk_at HK0_1.out
  obtain ⟨c1, f1, z1⟩ := blk_at HK1_1.out
  go_wp2_with fail
  refine (w_readAt _ _ _ b1 b2 (by omega) (by omega)).mono ?_
  rintro e w2 ⟨rfl, hL2⟩
  rw [HG.out]
  clear c0 f0 z0 c1 f1 z1
  have HLw2 := Lib.hid (HLw1.out.trans hL2)
  have HK0_2 := Lib.hid (hL2.keep HK0_1.out)
  have HK1_2 := Lib.hid (hL2.keep HK1_1.out)
  clear hL2
  obtain ⟨c0, f0, z0⟩ := blk_at HK0_2.out
  obtain ⟨c1, f1, z1⟩ := blk_at HK1_2.out
  go_wp2
  refine bodyPost_ret (v := .agg #[.int .i64 G.d, .int .i64 G.t]) (by simp [results, Try.results77, go_sem, c1, z1]) rfl ⟨by rw [HF.out], by have hLw := HLw2.out; (repeat (with_reducible first | exact Later.refl _ | refine Later.alloc ?_ _ | refine Later.drew ?_ | refine Later.drewN ?_ _ | refine Later.setCell ?_ (by simp; try omega) _ | refine Later.trans ?_ (by assumption)))⟩

set_option maxHeartbeats 1000000 in
theorem w_l17Read (a b d t : Int) (a1 : 0 ≤ a) (a2 : a ≤ 4) (b1 : 0 ≤ b) (b2 : b ≤ 4) (hf : isFig ⟨d, t⟩ = true) (w : World) :
    Calls Try.prog 75 #[.int .i64 a, .int .i64 b, .agg #[.int .i64 d, .int .i64 t]] w fun e w' => e = .returned (.agg #[.int .i64 (tfV a b ⟨d, t⟩).d, .int .i64 (tfV a b ⟨d, t⟩).t]) ∧ Later w w' := by
  have hd := isFig_true hf
  simp only at hd
  obtain ⟨d1, d2, f1, f2⟩ := hd
  have hp := ptF_in (s := a) (f := ⟨d, t⟩) a1 a2 d1 d2
  obtain ⟨X, hX⟩ : ∃ y, ptF a ⟨d, t⟩ = y := ⟨_, rfl⟩
  obtain ⟨G, hG⟩ : ∃ y, readF b X = y := ⟨_, rfl⟩
  rw [hX] at hp
  obtain ⟨p1, p2⟩ := hp
  have HX := Lib.hid hX
  have HG := Lib.hid hG
  have HF := Lib.hid (show tfV a b ⟨d, t⟩ = G from by unfold tfV; rw [hX, hG])
  clear hX hG hf
  go_enter Try.func75, Try.ntmps75
  go_wp2_with fail
  refine (w_specPoint _ _ _ a1 a2 d1 d2 (by omega) (by omega) _).mono ?_
  rintro e w1 ⟨rfl, hL1⟩
  rw [HX.out]
  have HLw1 := Lib.hid ((((Later.refl w).alloc _).alloc _).trans hL1)
  obtain ⟨K0, K1⟩ := kept2 hL1
  have HK0_1 := Lib.hid K0
  have HK1_1 := Lib.hid K1
  clear K0 K1
  clear hL1
  obtain ⟨c0, f0, z0⟩ := blk_at HK0_1.out
  obtain ⟨c1, f1, z1⟩ := blk_at HK1_1.out
  go_wp2_with fail
  refine (w_l11Read _ _ _ b1 b2 (by omega) (by omega)).mono ?_
  rintro e w2 ⟨rfl, hL2⟩
  rw [HG.out]
  clear c0 f0 z0 c1 f1 z1
  have HLw2 := Lib.hid (HLw1.out.trans hL2)
  have HK0_2 := Lib.hid (hL2.keep HK0_1.out)
  have HK1_2 := Lib.hid (hL2.keep HK1_1.out)
  clear hL2
  obtain ⟨c0, f0, z0⟩ := blk_at HK0_2.out
  obtain ⟨c1, f1, z1⟩ := blk_at HK1_2.out
  go_wp2
  refine bodyPost_ret (v := .agg #[.int .i64 G.d, .int .i64 G.t]) (by simp [results, Try.results75, go_sem, c1, z1]) rfl ⟨by rw [HF.out], by have hLw := HLw2.out; (repeat (with_reducible first | exact Later.refl _ | refine Later.alloc ?_ _ | refine Later.drew ?_ | refine Later.drewN ?_ _ | refine Later.setCell ?_ (by simp; try omega) _ | refine Later.trans ?_ (by assumption)))⟩

theorem figs_lit1 {w : World} {k : Nat} {d t : Int} {T : TypeId} (h : w.heap[k]? = some (.cells #[.int .i64 d, .int .i64 t] T (0, 0))) : IsFigs w (.slice (some ⟨k, 0, none⟩) 1 1) [⟨d, t⟩] := by
  refine ⟨rfl, by simp, some ⟨k, 0, none⟩, 1, rfl, Nat.le_refl _, by decide, fun _ => ⟨k, 0, rfl, ?_⟩⟩
  have := row_blk h
  exact this

set_option maxHeartbeats 2000000 in
theorem w_implTransferFigure (n : Int) (u v : Value) (st sd : List Int) (a b : Int) (d t : Int) (w : World) (h : IsNums w u st) (h' : IsNums w v sd) :
    Calls Try.prog 24 #[.agg #[.int .i64 n, u, v], .int .i64 a, .int .i64 b, .agg #[.int .i64 d, .int .i64 t]] w fun e w' => e = .returned (.tuple #[.agg #[.int .i64 (tfF ⟨n, st, sd⟩ a b ⟨d, t⟩).d, .int .i64 (tfF ⟨n, st, sd⟩ a b ⟨d, t⟩).t], .int .i64 (tfC ⟨n, st, sd⟩ a b (isFig ⟨d, t⟩))]) ∧ Later w w' := by
  have H := Lib.hid h
  have H' := Lib.hid h'
  obtain ⟨_, _, au, capu, rfl, _, _, _⟩ := h
  obtain ⟨_, _, av, capv, rfl, _, _, _⟩ := h'
  obtain ⟨X, hX⟩ : ∃ y, tfC ⟨n, st, sd⟩ a b (isFig ⟨d, t⟩) = y := ⟨_, rfl⟩
  have HX := Lib.hid hX
  by_cases h0 : X = 0
  rotate_left
  · have HF := Lib.hid (tf_no hX h0)
    have hb : (X != 0) = true := by simp [h0]
    clear hX h0
    go_enter Try.func24, Try.ntmps24
    go_wp2_with fail
    refine (w_checkTransfer _ _ _ _ _ _ _ _ [⟨d, t⟩] _ (H.out.later ((((Later.refl _).alloc _).alloc _).alloc _ |>.alloc _)) (H'.out.later ((((Later.refl _).alloc _).alloc _).alloc _ |>.alloc _)) (figs_lit1 (heap_alloc_new' _ _ (by simp)))).mono ?_
    rintro e w1 ⟨rfl, hL1⟩
    rw [show ([⟨d, t⟩] : List Fig).all isFig = isFig ⟨d, t⟩ from by simp, HX.out]
    have HLw1 := Lib.hid ((((((Later.refl w).alloc _).alloc _).alloc _).alloc _).trans hL1)
    obtain ⟨K0, K1, K2, K3⟩ := kept4 hL1
    have HK0_1 := Lib.hid K0
    have HK1_1 := Lib.hid K1
    have HK2_1 := Lib.hid K2
    clear K0 K1 K2 K3 hL1
    obtain ⟨c0, f0, z0⟩ := blk_at HK0_1.out
    obtain ⟨c1, f1, z1⟩ := blk_at HK1_1.out
    obtain ⟨c2, f2, z2⟩ := blk_at HK2_1.out
    go_wp2
    refine bodyPost_ret (v := .tuple #[.agg #[.int .i64 0, .int .i64 0], .int .i64 X]) (by simp [results, Try.results24, go_sem, c2, z2]) rfl ⟨by rw [HX.out, HF.out], by have hLw := HLw1.out; (repeat (with_reducible first | exact Later.refl _ | refine Later.alloc ?_ _ | refine Later.drew ?_ | refine Later.drewN ?_ _ | refine Later.setCell ?_ (by simp; try omega) _ | refine Later.trans ?_ (by assumption)))⟩
  · subst h0
    have hq := tfC_0 hX
    have ha := rule_st hq.1 hq.2.2.1
    have hb := rule_st hq.1 hq.2.2.2
    obtain ⟨a1, a2⟩ := ha
    obtain ⟨b1, b2⟩ := hb
    have HFg := Lib.hid hq.2.1
    obtain ⟨G, hG⟩ : ∃ y, tfV a b ⟨d, t⟩ = y := ⟨_, rfl⟩
    have HG := Lib.hid hG
    have HF := Lib.hid ((tf_0 hX).trans hG)
    clear hX hq hG
    go_enter Try.func24, Try.ntmps24
    go_wp2_with fail
    refine (w_checkTransfer _ _ _ _ _ _ _ _ [⟨d, t⟩] _ (H.out.later ((((Later.refl _).alloc _).alloc _).alloc _ |>.alloc _)) (H'.out.later ((((Later.refl _).alloc _).alloc _).alloc _ |>.alloc _)) (figs_lit1 (heap_alloc_new' _ _ (by simp)))).mono ?_
    rintro e w1 ⟨rfl, hL1⟩
    rw [show ([⟨d, t⟩] : List Fig).all isFig = isFig ⟨d, t⟩ from by simp, HX.out]
    have HLw1 := Lib.hid ((((((Later.refl w).alloc _).alloc _).alloc _).alloc _).trans hL1)
    obtain ⟨K0, K1, K2, K3⟩ := kept4 hL1
    have HK0_1 := Lib.hid K0
    have HK1_1 := Lib.hid K1
    have HK2_1 := Lib.hid K2
    clear K0 K1 K2 K3 hL1
    obtain ⟨c0, f0, z0⟩ := blk_at HK0_1.out
    obtain ⟨c1, f1, z1⟩ := blk_at HK1_1.out
    obtain ⟨c2, f2, z2⟩ := blk_at HK2_1.out
    go_wp2_with fail
    refine (w_transferFigure _ _ _ _ (by omega) (by omega) (by omega) (by omega) HFg.out _).mono ?_
    rintro e w2 ⟨rfl, hL2⟩
    rw [HG.out]
    clear c0 f0 z0 c1 f1 z1 c2 f2 z2
    have HLw2 := Lib.hid (HLw1.out.trans hL2)
    have HK0_2 := Lib.hid (hL2.keep HK0_1.out)
    have HK1_2 := Lib.hid (hL2.keep HK1_1.out)
    have HK2_2 := Lib.hid (hL2.keep HK2_1.out)
    clear hL2
    obtain ⟨c0, f0, z0⟩ := blk_at HK0_2.out
    obtain ⟨c1, f1, z1⟩ := blk_at HK1_2.out
    obtain ⟨c2, f2, z2⟩ := blk_at HK2_2.out
    go_wp2
    refine bodyPost_ret (v := .tuple #[.agg #[.int .i64 G.d, .int .i64 G.t], .int .i64 0]) (by simp [results, Try.results24, go_sem, c2, z2]) rfl ⟨by rw [HX.out, HF.out], by have hLw := HLw2.out; (repeat (with_reducible first | exact Later.refl _ | refine Later.alloc ?_ _ | refine Later.drew ?_ | refine Later.drewN ?_ _ | refine Later.setCell ?_ (by simp; try omega) _ | refine Later.trans ?_ (by assumption)))⟩

set_option maxHeartbeats 2000000 in
theorem w_specTransferFigure (n : Int) (u v : Value) (st sd : List Int) (a b : Int) (d t : Int) (w : World) (h : IsNums w u st) (h' : IsNums w v sd) :
    Calls Try.prog 22 #[.agg #[.int .i64 n, u, v], .int .i64 a, .int .i64 b, .agg #[.int .i64 d, .int .i64 t]] w fun e w' => e = .returned (.tuple #[.agg #[.int .i64 (tfF ⟨n, st, sd⟩ a b ⟨d, t⟩).d, .int .i64 (tfF ⟨n, st, sd⟩ a b ⟨d, t⟩).t], .int .i64 (tfC ⟨n, st, sd⟩ a b (isFig ⟨d, t⟩))]) ∧ Later w w' := by
  have H := Lib.hid h
  have H' := Lib.hid h'
  obtain ⟨_, _, au, capu, rfl, _, _, _⟩ := h
  obtain ⟨_, _, av, capv, rfl, _, _, _⟩ := h'
  obtain ⟨X, hX⟩ : ∃ y, tfC ⟨n, st, sd⟩ a b (isFig ⟨d, t⟩) = y := ⟨_, rfl⟩
  have HX := Lib.hid hX
  by_cases h0 : X = 0
  rotate_left
  · have HF := Lib.hid (tf_no hX h0)
    have hb : (X != 0) = true := by simp [h0]
    clear hX h0
    go_enter Try.func22, Try.ntmps22
    go_wp2_with fail
    refine (w_l17Code _ _ _ _ _ _ _ _ _ _ (H.out.later ((((Later.refl _).alloc _).alloc _).alloc _)) (H'.out.later ((((Later.refl _).alloc _).alloc _).alloc _))).mono ?_
    rintro e w1 ⟨rfl, hL1⟩
    rw [HX.out]
    have HLw1 := Lib.hid (((((Later.refl w).alloc _).alloc _).alloc _).trans hL1)
    obtain ⟨K0, K1, K2⟩ := kept3 hL1
    have HK0_1 := Lib.hid K0
    have HK1_1 := Lib.hid K1
    have HK2_1 := Lib.hid K2
    clear K0 K1 K2
    clear hL1
    obtain ⟨c0, f0, z0⟩ := blk_at HK0_1.out
    obtain ⟨c1, f1, z1⟩ := blk_at HK1_1.out
    obtain ⟨c2, f2, z2⟩ := blk_at HK2_1.out
    go_wp2
    refine bodyPost_ret (v := .tuple #[.agg #[.int .i64 0, .int .i64 0], .int .i64 X]) (by simp [results, Try.results22, go_sem, c2, z2]) rfl ⟨by rw [HX.out, HF.out], by have hLw := HLw1.out; (repeat (with_reducible first | exact Later.refl _ | refine Later.alloc ?_ _ | refine Later.drew ?_ | refine Later.drewN ?_ _ | refine Later.setCell ?_ (by simp; try omega) _ | refine Later.trans ?_ (by assumption)))⟩
  · subst h0
    have hq := tfC_0 hX
    have ha := rule_st hq.1 hq.2.2.1
    have hb := rule_st hq.1 hq.2.2.2
    obtain ⟨a1, a2⟩ := ha
    obtain ⟨b1, b2⟩ := hb
    have HFg := Lib.hid hq.2.1
    obtain ⟨G, hG⟩ : ∃ y, tfV a b ⟨d, t⟩ = y := ⟨_, rfl⟩
    have HG := Lib.hid hG
    have HF := Lib.hid ((tf_0 hX).trans hG)
    clear hX hq hG
    go_enter Try.func22, Try.ntmps22
    go_wp2_with fail
    refine (w_l17Code _ _ _ _ _ _ _ _ _ _ (H.out.later ((((Later.refl _).alloc _).alloc _).alloc _)) (H'.out.later ((((Later.refl _).alloc _).alloc _).alloc _))).mono ?_
    rintro e w1 ⟨rfl, hL1⟩
    rw [HX.out]
    have HLw1 := Lib.hid (((((Later.refl w).alloc _).alloc _).alloc _).trans hL1)
    obtain ⟨K0, K1, K2⟩ := kept3 hL1
    have HK0_1 := Lib.hid K0
    have HK1_1 := Lib.hid K1
    have HK2_1 := Lib.hid K2
    clear K0 K1 K2
    clear hL1
    obtain ⟨c0, f0, z0⟩ := blk_at HK0_1.out
    obtain ⟨c1, f1, z1⟩ := blk_at HK1_1.out
    obtain ⟨c2, f2, z2⟩ := blk_at HK2_1.out
    go_wp2_with fail
    refine (w_l17Read _ _ _ _ (by omega) (by omega) (by omega) (by omega) HFg.out _).mono ?_
    rintro e w2 ⟨rfl, hL2⟩
    rw [HG.out]
    clear c0 f0 z0 c1 f1 z1 c2 f2 z2
    have HLw2 := Lib.hid (HLw1.out.trans hL2)
    have HK0_2 := Lib.hid (hL2.keep HK0_1.out)
    have HK1_2 := Lib.hid (hL2.keep HK1_1.out)
    have HK2_2 := Lib.hid (hL2.keep HK2_1.out)
    clear hL2
    obtain ⟨c0, f0, z0⟩ := blk_at HK0_2.out
    obtain ⟨c1, f1, z1⟩ := blk_at HK1_2.out
    obtain ⟨c2, f2, z2⟩ := blk_at HK2_2.out
    go_wp2
    refine bodyPost_ret (v := .tuple #[.agg #[.int .i64 G.d, .int .i64 G.t], .int .i64 0]) (by simp [results, Try.results22, go_sem, c2, z2]) rfl ⟨by rw [HX.out, HF.out], by have hLw := HLw2.out; (repeat (with_reducible first | exact Later.refl _ | refine Later.alloc ?_ _ | refine Later.drew ?_ | refine Later.drewN ?_ _ | refine Later.setCell ?_ (by simp; try omega) _ | refine Later.trans ?_ (by assumption)))⟩

end Go.Proofs.Ytfhppnmbmdpjeaa
