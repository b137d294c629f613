/- DERIVED. Walks: the slide that is read, a transfer. -/
import Derived.Test.YtgngbdacejghcaaGreatDoorKUM93
import Derived.Test.YtgngbdacejghcaaGreatDoorKUM83
import Derived.Test.YtgngbdacejghcaaGreatDoorKUM35
import Derived.Test.YtgngbdacejghcaaGreatDoorKUBA
import Derived.Test.YtgngbdacejghcaaGreatDoorKUPA
import Derived.Test.YtgngbdacejghcaaGreatDoorKUM18
namespace Go.Proofs.YtgngbdacejghcaaGreatDoor
set_option linter.unusedVariables false
set_option linter.unusedSimpArgs false
open Go.RowKit
set_option maxRecDepth 100000
def rsC (r : Rul) (s : Stg) (x : Int) : Int := if isRule r then (if isStg s then (if hasI r.sl x then (if inR (s.cu - s.sh) 0 1048576 then 0 else 5) else 2) else 1) else 1
noncomputable def rsF (r : Rul) (s : Stg) (x : Int) : Fig := if rsC r s x = 0 then readF x (s.cu - s.sh) else ⟨0, 0⟩
theorem rs_no {r : Rul} {s : Stg} {x k : Int} (h : rsC r s x = k) (h0 : k ≠ 0) : rsC r s x = k ∧ rsF r s x = ⟨0, 0⟩ := ⟨h, by unfold rsF; rw [h, if_neg h0]⟩
theorem rs_1 {r : Rul} {s : Stg} {x : Int} (h : isRule r = false) : rsC r s x = 1 ∧ rsF r s x = ⟨0, 0⟩ := rs_no (by unfold rsC; rw [h]; rfl) (by omega)
theorem rs_1b {r : Rul} {s : Stg} {x : Int} (h : isRule r = true) (h1 : isStg s = false) : rsC r s x = 1 ∧ rsF r s x = ⟨0, 0⟩ := rs_no (by unfold rsC; rw [h, h1]; rfl) (by omega)
theorem rs_2 {r : Rul} {s : Stg} {x : Int} (h : isRule r = true) (h1 : isStg s = true) (h2 : hasI r.sl x = false) : rsC r s x = 2 ∧ rsF r s x = ⟨0, 0⟩ := rs_no (by unfold rsC; rw [h, h1, h2]; rfl) (by omega)
theorem rs_5 {r : Rul} {s : Stg} {x : Int} (h : isRule r = true) (h1 : isStg s = true) (h2 : hasI r.sl x = true) (h3 : inR (s.cu - s.sh) 0 1048576 = false) : rsC r s x = 5 ∧ rsF r s x = ⟨0, 0⟩ := rs_no (by unfold rsC; rw [h, h1, h2, h3]; rfl) (by omega)
theorem rs_0 {r : Rul} {s : Stg} {x : Int} (h : isRule r = true) (h1 : isStg s = true) (h2 : hasI r.sl x = true) (h3 : inR (s.cu - s.sh) 0 1048576 = true) : rsC r s x = 0 ∧ rsF r s x = readF x (s.cu - s.sh) := by
 have e : rsC r s x = 0 := by unfold rsC; rw [h, h1, h2, h3]; rfl
 exact ⟨e, by unfold rsF; rw [if_pos e]⟩
theorem rule_sl {n : Int} {st sd : List Int} {x : Int} (h : isRule ⟨n, st, sd⟩ = true) (hx : hasI sd x = true) : 0 ≤ x ∧ x ≤ 4 := isScaleN_bd (areSc_has (isRule_and h).2.2 hx)
theorem rule_st {n : Int} {st sd : List Int} {x : Int} (h : isRule ⟨n, st, sd⟩ = true) (hx : hasI st x = true) : 0 ≤ x ∧ x ≤ 4 := isScaleN_bd (areSc_has (isRule_and h).2.1 hx)
def codeOn (r : Rul) (s : Stg) (b : Bool) (x : Int) : Int := if isRule r then (if isStg s then (if hasI (onR r b) x then 0 else 2) else 1) else 1
set_option maxHeartbeats 1000000 in
theorem w_l11Code (n : Int) (u v : Value) (st sd : List Int) (sa sb : Int) (b : Bool) (x : Int) (w : World) (h : IsNums w u st) (h' : IsNums w v sd) :
 Calls Tryz.prog 51 #[.agg #[.int .i64 n, u, v], .agg #[.int .i64 sa, .int .i64 sb], .bool b, .int .i64 x] w fun e w' => e = .returned (.int .i64 (codeOn ⟨n, st, sd⟩ ⟨sa, sb⟩ b x)) ∧ Later w w' := by
 have H := Lib.hid h
 have H' := Lib.hid h'
 obtain ⟨_, _, au, capu, rfl, _, _, _⟩ := h
 obtain ⟨_, _, av, capv, rfl, _, _, _⟩ := h'
 cases h1 : isRule ⟨n, st, sd⟩
 · have HF := Lib.hid (show codeOn ⟨n, st, sd⟩ ⟨sa, sb⟩ b x = 1 from by unfold codeOn; rw [h1]; rfl)
   have H1 := Lib.hid h1
   clear h1
   go_enter Tryz.func51, Tryz.ntmps51
   go_wp2_with fail
   refine (w_specIsRule _ _ _ _ _ _ (H.out.later (((Later.refl _).alloc _).alloc _)) (H'.out.later (((Later.refl _).alloc _).alloc _))).mono ?_
   rintro e w1 ⟨rfl, hL1⟩
   rw [H1.out]
   have HLw1 := Lib.hid ((((Later.refl w).alloc _).alloc _).trans hL1)
   obtain ⟨K0, K1⟩ := kept2 hL1
   have HK0_1 := Lib.hid K0
   have HK1_1 := Lib.hid K1
   clear K0 K1
   clear hL1
   obtain ⟨c0, f0, z0⟩ := blk_at HK0_1.out
   obtain ⟨c1, f1, z1⟩ := blk_at HK1_1.out
   go_wp2
   go_ret
   exact ⟨by rw [HF.out]; rfl, by have hLw := HLw1.out; exact qla⟩
 cases h2 : isStg ⟨sa, sb⟩
 · have HF := Lib.hid (show codeOn ⟨n, st, sd⟩ ⟨sa, sb⟩ b x = 1 from by unfold codeOn; rw [h1, h2]; rfl)
   have H1 := Lib.hid h1
   have H2 := Lib.hid h2
   clear h1 h2
   go_enter Tryz.func51, Tryz.ntmps51
   go_wp2_with fail
   refine (w_specIsRule _ _ _ _ _ _ (H.out.later (((Later.refl _).alloc _).alloc _)) (H'.out.later (((Later.refl _).alloc _).alloc _))).mono ?_
   rintro e w1 ⟨rfl, hL1⟩
   rw [H1.out]
   have HLw1 := Lib.hid ((((Later.refl w).alloc _).alloc _).trans hL1)
   obtain ⟨K0, K1⟩ := kept2 hL1
   have HK0_1 := Lib.hid K0
   have HK1_1 := Lib.hid K1
   clear K0 K1
   clear hL1
   obtain ⟨c0, f0, z0⟩ := blk_at HK0_1.out
   obtain ⟨c1, f1, z1⟩ := blk_at HK1_1.out
   go_wp2_with fail
   refine (w_specIsSetting _ _ _).mono ?_
   rintro e w2 ⟨rfl, hL2⟩
   rw [H2.out]
   clear c0 f0 z0 c1 f1 z1
   have HLw2 := Lib.hid (HLw1.out.trans hL2)
   have HK0_2 := Lib.hid (hL2.keep HK0_1.out)
   have HK1_2 := Lib.hid (hL2.keep HK1_1.out)
   clear hL2
   obtain ⟨c0, f0, z0⟩ := blk_at HK0_2.out
   obtain ⟨c1, f1, z1⟩ := blk_at HK1_2.out
   go_wp2
   go_ret
   exact ⟨by rw [HF.out]; rfl, by have hLw := HLw2.out; exact qla⟩
 by_cases kfalsefalse : b = false ∧ hasI (onR ⟨n, st, sd⟩ b) x = false
 · obtain ⟨rfl, h3⟩ := kfalsefalse
   have h3 : hasI st x = false := h3
   have HF := Lib.hid (show codeOn ⟨n, st, sd⟩ ⟨sa, sb⟩ false x = 2 from by unfold codeOn; rw [h1, h2, show hasI (onR ⟨n, st, sd⟩ false) x = _ from h3]; rfl)
   have H1 := Lib.hid h1
   have H2 := Lib.hid h2
   have H3 := Lib.hid h3
   clear h1 h2 h3
   go_enter Tryz.func51, Tryz.ntmps51
   go_wp2_with fail
   refine (w_specIsRule _ _ _ _ _ _ (H.out.later (((Later.refl _).alloc _).alloc _)) (H'.out.later (((Later.refl _).alloc _).alloc _))).mono ?_
   rintro e w1 ⟨rfl, hL1⟩
   rw [H1.out]
   have HLw1 := Lib.hid ((((Later.refl w).alloc _).alloc _).trans hL1)
   obtain ⟨K0, K1⟩ := kept2 hL1
   have HK0_1 := Lib.hid K0
   have HK1_1 := Lib.hid K1
   clear K0 K1
   clear hL1
   obtain ⟨c0, f0, z0⟩ := blk_at HK0_1.out
   obtain ⟨c1, f1, z1⟩ := blk_at HK1_1.out
   go_wp2_with fail
   refine (w_specIsSetting _ _ _).mono ?_
   rintro e w2 ⟨rfl, hL2⟩
   rw [H2.out]
   clear c0 f0 z0 c1 f1 z1
   have HLw2 := Lib.hid (HLw1.out.trans hL2)
   have HK0_2 := Lib.hid (hL2.keep HK0_1.out)
   have HK1_2 := Lib.hid (hL2.keep HK1_1.out)
   clear hL2
   obtain ⟨c0, f0, z0⟩ := blk_at HK0_2.out
   obtain ⟨c1, f1, z1⟩ := blk_at HK1_2.out
   go_wp2_with fail
   refine (w_l11On_st _ _ _ _ _ _ (H.out.later HLw2.out) (H'.out.later HLw2.out)).mono ?_
   rintro e w3 ⟨rfl, hL3⟩
   clear c0 f0 z0 c1 f1 z1
   have HLw3 := Lib.hid (HLw2.out.trans hL3)
   have HK0_3 := Lib.hid (hL3.keep HK0_2.out)
   have HK1_3 := Lib.hid (hL3.keep HK1_2.out)
   clear hL3
   obtain ⟨c0, f0, z0⟩ := blk_at HK0_3.out
   obtain ⟨c1, f1, z1⟩ := blk_at HK1_3.out
   go_wp2_with fail
   refine (w_l01Has _ _ _ _ (H.out.later HLw3.out)).mono ?_
   rintro e w0 ⟨rfl, rfl⟩
   rw [H3.out]
   go_wp2
   go_ret
   exact ⟨by rw [HF.out]; rfl, by have hLw := HLw3.out; exact qla⟩
 by_cases kfalsetrue : b = false ∧ hasI (onR ⟨n, st, sd⟩ b) x = true
 · obtain ⟨rfl, h3⟩ := kfalsetrue
   have h3 : hasI st x = true := h3
   have HF := Lib.hid (show codeOn ⟨n, st, sd⟩ ⟨sa, sb⟩ false x = 0 from by unfold codeOn; rw [h1, h2, show hasI (onR ⟨n, st, sd⟩ false) x = _ from h3]; rfl)
   have H1 := Lib.hid h1
   have H2 := Lib.hid h2
   have H3 := Lib.hid h3
   clear h1 h2 h3
   go_enter Tryz.func51, Tryz.ntmps51
   go_wp2_with fail
   refine (w_specIsRule _ _ _ _ _ _ (H.out.later (((Later.refl _).alloc _).alloc _)) (H'.out.later (((Later.refl _).alloc _).alloc _))).mono ?_
   rintro e w1 ⟨rfl, hL1⟩
   rw [H1.out]
   have HLw1 := Lib.hid ((((Later.refl w).alloc _).alloc _).trans hL1)
   obtain ⟨K0, K1⟩ := kept2 hL1
   have HK0_1 := Lib.hid K0
   have HK1_1 := Lib.hid K1
   clear K0 K1
   clear hL1
   obtain ⟨c0, f0, z0⟩ := blk_at HK0_1.out
   obtain ⟨c1, f1, z1⟩ := blk_at HK1_1.out
   go_wp2_with fail
   refine (w_specIsSetting _ _ _).mono ?_
   rintro e w2 ⟨rfl, hL2⟩
   rw [H2.out]
   clear c0 f0 z0 c1 f1 z1
   have HLw2 := Lib.hid (HLw1.out.trans hL2)
   have HK0_2 := Lib.hid (hL2.keep HK0_1.out)
   have HK1_2 := Lib.hid (hL2.keep HK1_1.out)
   clear hL2
   obtain ⟨c0, f0, z0⟩ := blk_at HK0_2.out
   obtain ⟨c1, f1, z1⟩ := blk_at HK1_2.out
   go_wp2_with fail
   refine (w_l11On_st _ _ _ _ _ _ (H.out.later HLw2.out) (H'.out.later HLw2.out)).mono ?_
   rintro e w3 ⟨rfl, hL3⟩
   clear c0 f0 z0 c1 f1 z1
   have HLw3 := Lib.hid (HLw2.out.trans hL3)
   have HK0_3 := Lib.hid (hL3.keep HK0_2.out)
   have HK1_3 := Lib.hid (hL3.keep HK1_2.out)
   clear hL3
   obtain ⟨c0, f0, z0⟩ := blk_at HK0_3.out
   obtain ⟨c1, f1, z1⟩ := blk_at HK1_3.out
   go_wp2_with fail
   refine (w_l01Has _ _ _ _ (H.out.later HLw3.out)).mono ?_
   rintro e w0 ⟨rfl, rfl⟩
   rw [H3.out]
   go_wp2
   go_ret
   exact ⟨by rw [HF.out]; rfl, by have hLw := HLw3.out; exact qla⟩
 by_cases ktruefalse : b = true ∧ hasI (onR ⟨n, st, sd⟩ b) x = false
 · obtain ⟨rfl, h3⟩ := ktruefalse
   have h3 : hasI sd x = false := h3
   have HF := Lib.hid (show codeOn ⟨n, st, sd⟩ ⟨sa, sb⟩ true x = 2 from by unfold codeOn; rw [h1, h2, show hasI (onR ⟨n, st, sd⟩ true) x = _ from h3]; rfl)
   have H1 := Lib.hid h1
   have H2 := Lib.hid h2
   have H3 := Lib.hid h3
   clear h1 h2 h3
   go_enter Tryz.func51, Tryz.ntmps51
   go_wp2_with fail
   refine (w_specIsRule _ _ _ _ _ _ (H.out.later (((Later.refl _).alloc _).alloc _)) (H'.out.later (((Later.refl _).alloc _).alloc _))).mono ?_
   rintro e w1 ⟨rfl, hL1⟩
   rw [H1.out]
   have HLw1 := Lib.hid ((((Later.refl w).alloc _).alloc _).trans hL1)
   obtain ⟨K0, K1⟩ := kept2 hL1
   have HK0_1 := Lib.hid K0
   have HK1_1 := Lib.hid K1
   clear K0 K1
   clear hL1
   obtain ⟨c0, f0, z0⟩ := blk_at HK0_1.out
   obtain ⟨c1, f1, z1⟩ := blk_at HK1_1.out
   go_wp2_with fail
   refine (w_specIsSetting _ _ _).mono ?_
   rintro e w2 ⟨rfl, hL2⟩
   rw [H2.out]
   clear c0 f0 z0 c1 f1 z1
   have HLw2 := Lib.hid (HLw1.out.trans hL2)
   have HK0_2 := Lib.hid (hL2.keep HK0_1.out)
   have HK1_2 := Lib.hid (hL2.keep HK1_1.out)
   clear hL2
   obtain ⟨c0, f0, z0⟩ := blk_at HK0_2.out
   obtain ⟨c1, f1, z1⟩ := blk_at HK1_2.out
   go_wp2_with fail
   refine (w_l11On_sl _ _ _ _ _ _ (H.out.later HLw2.out) (H'.out.later HLw2.out)).mono ?_
   rintro e w3 ⟨rfl, hL3⟩
   clear c0 f0 z0 c1 f1 z1
   have HLw3 := Lib.hid (HLw2.out.trans hL3)
   have HK0_3 := Lib.hid (hL3.keep HK0_2.out)
   have HK1_3 := Lib.hid (hL3.keep HK1_2.out)
   clear hL3
   obtain ⟨c0, f0, z0⟩ := blk_at HK0_3.out
   obtain ⟨c1, f1, z1⟩ := blk_at HK1_3.out
   go_wp2_with fail
   refine (w_l01Has _ _ _ _ (H'.out.later HLw3.out)).mono ?_
   rintro e w0 ⟨rfl, rfl⟩
   rw [H3.out]
   go_wp2
   go_ret
   exact ⟨by rw [HF.out]; rfl, by have hLw := HLw3.out; exact qla⟩
 by_cases ktruetrue : b = true ∧ hasI (onR ⟨n, st, sd⟩ b) x = true
 · obtain ⟨rfl, h3⟩ := ktruetrue
   have h3 : hasI sd x = true := h3
   have HF := Lib.hid (show codeOn ⟨n, st, sd⟩ ⟨sa, sb⟩ true x = 0 from by unfold codeOn; rw [h1, h2, show hasI (onR ⟨n, st, sd⟩ true) x = _ from h3]; rfl)
   have H1 := Lib.hid h1
   have H2 := Lib.hid h2
   have H3 := Lib.hid h3
   clear h1 h2 h3
   go_enter Tryz.func51, Tryz.ntmps51
   go_wp2_with fail
   refine (w_specIsRule _ _ _ _ _ _ (H.out.later (((Later.refl _).alloc _).alloc _)) (H'.out.later (((Later.refl _).alloc _).alloc _))).mono ?_
   rintro e w1 ⟨rfl, hL1⟩
   rw [H1.out]
   have HLw1 := Lib.hid ((((Later.refl w).alloc _).alloc _).trans hL1)
   obtain ⟨K0, K1⟩ := kept2 hL1
   have HK0_1 := Lib.hid K0
   have HK1_1 := Lib.hid K1
   clear K0 K1
   clear hL1
   obtain ⟨c0, f0, z0⟩ := blk_at HK0_1.out
   obtain ⟨c1, f1, z1⟩ := blk_at HK1_1.out
   go_wp2_with fail
   refine (w_specIsSetting _ _ _).mono ?_
   rintro e w2 ⟨rfl, hL2⟩
   rw [H2.out]
   clear c0 f0 z0 c1 f1 z1
   have HLw2 := Lib.hid (HLw1.out.trans hL2)
   have HK0_2 := Lib.hid (hL2.keep HK0_1.out)
   have HK1_2 := Lib.hid (hL2.keep HK1_1.out)
   clear hL2
   obtain ⟨c0, f0, z0⟩ := blk_at HK0_2.out
   obtain ⟨c1, f1, z1⟩ := blk_at HK1_2.out
   go_wp2_with fail
   refine (w_l11On_sl _ _ _ _ _ _ (H.out.later HLw2.out) (H'.out.later HLw2.out)).mono ?_
   rintro e w3 ⟨rfl, hL3⟩
   clear c0 f0 z0 c1 f1 z1
   have HLw3 := Lib.hid (HLw2.out.trans hL3)
   have HK0_3 := Lib.hid (hL3.keep HK0_2.out)
   have HK1_3 := Lib.hid (hL3.keep HK1_2.out)
   clear hL3
   obtain ⟨c0, f0, z0⟩ := blk_at HK0_3.out
   obtain ⟨c1, f1, z1⟩ := blk_at HK1_3.out
   go_wp2_with fail
   refine (w_l01Has _ _ _ _ (H'.out.later HLw3.out)).mono ?_
   rintro e w0 ⟨rfl, rfl⟩
   rw [H3.out]
   go_wp2
   go_ret
   exact ⟨by rw [HF.out]; rfl, by have hLw := HLw3.out; exact qla⟩
 exfalso
 obtain ⟨Y, hY⟩ : ∃ y, hasI (onR ⟨n, st, sd⟩ b) x = y := ⟨_, rfl⟩
 rw [hY] at kfalsefalse kfalsetrue ktruefalse ktruetrue
 cases b <;> cases Y <;> simp_all
set_option maxHeartbeats 2000000 in
theorem w_implReadSlide (n : Int) (u v : Value) (st sd : List Int) (sa sb x : Int) (w : World) (h : IsNums w u st) (h' : IsNums w v sd) :
 Calls Tryz.prog 21 #[.agg #[.int .i64 n, u, v], .agg #[.int .i64 sa, .int .i64 sb], .int .i64 x] w fun e w' => e = .returned (.tuple #[.agg #[.int .i64 (rsF ⟨n, st, sd⟩ ⟨sa, sb⟩ x).d, .int .i64 (rsF ⟨n, st, sd⟩ ⟨sa, sb⟩ x).t], .int .i64 (rsC ⟨n, st, sd⟩ ⟨sa, sb⟩ x)]) ∧ Later w w' := by
 have H := Lib.hid h
 have H' := Lib.hid h'
 obtain ⟨_, _, au, capu, rfl, _, _, _⟩ := h
 obtain ⟨_, _, av, capv, rfl, _, _, _⟩ := h'
 cases h1 : isRule ⟨n, st, sd⟩
 · have HF := Lib.hid (rs_1 (r := ⟨n, st, sd⟩) (s := ⟨sa, sb⟩) (x := x) h1)
   have H1 := Lib.hid h1
   clear h1
   go_enter Tryz.func21, Tryz.ntmps21
   go_wp2_with fail
   refine (w_implIsRule _ _ _ _ _ _ (H.out.later ((((Later.refl _).alloc _).alloc _).alloc _)) (H'.out.later ((((Later.refl _).alloc _).alloc _).alloc _))).mono ?_
   rintro e w1 ⟨rfl, hL1⟩
   rw [H1.out]
   have HLw1 := Lib.hid (((((Later.refl w).alloc _).alloc _).alloc _).trans hL1)
   obtain ⟨K0, K1, K2⟩ := kept3 hL1
   have HK0_1 := Lib.hid K0
   have HK1_1 := Lib.hid K1
   have HK2_1 := Lib.hid K2
   clear K0 K1 K2
   clear hL1
   obtain ⟨c0, f0, z0⟩ := blk_at HK0_1.out
   obtain ⟨c1, f1, z1⟩ := blk_at HK1_1.out
   obtain ⟨c2, f2, z2⟩ := blk_at HK2_1.out
   go_wp2
   refine bodyPost_ret (v := .tuple #[.agg #[.int .i64 0, .int .i64 0], .int .i64 1]) (by simp [results, Tryz.results21, go_sem, c2, z2]) rfl ⟨by rw [HF.out.1, HF.out.2], by have hLw := HLw1.out; exact qla⟩
 cases h2 : isStg ⟨sa, sb⟩
 · have HF := Lib.hid (rs_1b (r := ⟨n, st, sd⟩) (s := ⟨sa, sb⟩) (x := x) h1 h2)
   have H1 := Lib.hid h1
   have H2 := Lib.hid h2
   clear h1 h2
   go_enter Tryz.func21, Tryz.ntmps21
   go_wp2_with fail
   refine (w_implIsRule _ _ _ _ _ _ (H.out.later ((((Later.refl _).alloc _).alloc _).alloc _)) (H'.out.later ((((Later.refl _).alloc _).alloc _).alloc _))).mono ?_
   rintro e w1 ⟨rfl, hL1⟩
   rw [H1.out]
   have HLw1 := Lib.hid (((((Later.refl w).alloc _).alloc _).alloc _).trans hL1)
   obtain ⟨K0, K1, K2⟩ := kept3 hL1
   have HK0_1 := Lib.hid K0
   have HK1_1 := Lib.hid K1
   have HK2_1 := Lib.hid K2
   clear K0 K1 K2
   clear hL1
   obtain ⟨c0, f0, z0⟩ := blk_at HK0_1.out
   obtain ⟨c1, f1, z1⟩ := blk_at HK1_1.out
   obtain ⟨c2, f2, z2⟩ := blk_at HK2_1.out
   go_wp2_with fail
   refine (w_implIsSetting _ _ _).mono ?_
   rintro e w2 ⟨rfl, hL2⟩
   rw [H2.out]
   clear c0 f0 z0 c1 f1 z1 c2 f2 z2
   have HLw2 := Lib.hid (HLw1.out.trans hL2)
   have HK0_2 := Lib.hid (hL2.keep HK0_1.out)
   have HK1_2 := Lib.hid (hL2.keep HK1_1.out)
   have HK2_2 := Lib.hid (hL2.keep HK2_1.out)
   clear hL2
   obtain ⟨c0, f0, z0⟩ := blk_at HK0_2.out
   obtain ⟨c1, f1, z1⟩ := blk_at HK1_2.out
   obtain ⟨c2, f2, z2⟩ := blk_at HK2_2.out
   go_wp2
   refine bodyPost_ret (v := .tuple #[.agg #[.int .i64 0, .int .i64 0], .int .i64 1]) (by simp [results, Tryz.results21, go_sem, c2, z2]) rfl ⟨by rw [HF.out.1, HF.out.2], by have hLw := HLw2.out; exact qla⟩
 cases h3 : hasI sd x
 · have HF := Lib.hid (rs_2 (r := ⟨n, st, sd⟩) (s := ⟨sa, sb⟩) (x := x) h1 h2 h3)
   have hsb := isStg_bd h2
   simp only at hsb
   obtain ⟨b1, b2, b3, b4⟩ := hsb
   have H1 := Lib.hid h1
   have H2 := Lib.hid h2
   have H3 := Lib.hid h3
   clear h1 h2 h3
   go_enter Tryz.func21, Tryz.ntmps21
   go_wp2_with fail
   refine (w_implIsRule _ _ _ _ _ _ (H.out.later ((((Later.refl _).alloc _).alloc _).alloc _)) (H'.out.later ((((Later.refl _).alloc _).alloc _).alloc _))).mono ?_
   rintro e w1 ⟨rfl, hL1⟩
   rw [H1.out]
   have HLw1 := Lib.hid (((((Later.refl w).alloc _).alloc _).alloc _).trans hL1)
   obtain ⟨K0, K1, K2⟩ := kept3 hL1
   have HK0_1 := Lib.hid K0
   have HK1_1 := Lib.hid K1
   have HK2_1 := Lib.hid K2
   clear K0 K1 K2
   clear hL1
   obtain ⟨c0, f0, z0⟩ := blk_at HK0_1.out
   obtain ⟨c1, f1, z1⟩ := blk_at HK1_1.out
   obtain ⟨c2, f2, z2⟩ := blk_at HK2_1.out
   go_wp2_with fail
   refine (w_implIsSetting _ _ _).mono ?_
   rintro e w2 ⟨rfl, hL2⟩
   rw [H2.out]
   clear c0 f0 z0 c1 f1 z1 c2 f2 z2
   have HLw2 := Lib.hid (HLw1.out.trans hL2)
   have HK0_2 := Lib.hid (hL2.keep HK0_1.out)
   have HK1_2 := Lib.hid (hL2.keep HK1_1.out)
   have HK2_2 := Lib.hid (hL2.keep HK2_1.out)
   clear hL2
   obtain ⟨c0, f0, z0⟩ := blk_at HK0_2.out
   obtain ⟨c1, f1, z1⟩ := blk_at HK1_2.out
   obtain ⟨c2, f2, z2⟩ := blk_at HK2_2.out
   go_wp2_with fail
   refine (w_hasScale _ _ _ _ _ true _ _ (H.out.later HLw2.out) (H'.out.later HLw2.out)).mono ?_
   rintro e w3 ⟨rfl, hL3⟩
   rw [show hasI (onR ⟨n, st, sd⟩ true) x = _ from H3.out]
   clear c0 f0 z0 c1 f1 z1 c2 f2 z2
   have HLw3 := Lib.hid (HLw2.out.trans hL3)
   have HK0_3 := Lib.hid (hL3.keep HK0_2.out)
   have HK1_3 := Lib.hid (hL3.keep HK1_2.out)
   have HK2_3 := Lib.hid (hL3.keep HK2_2.out)
   clear hL3
   obtain ⟨c0, f0, z0⟩ := blk_at HK0_3.out
   obtain ⟨c1, f1, z1⟩ := blk_at HK1_3.out
   obtain ⟨c2, f2, z2⟩ := blk_at HK2_3.out
   go_wp2
   refine bodyPost_ret (v := .tuple #[.agg #[.int .i64 0, .int .i64 0], .int .i64 2]) (by simp [results, Tryz.results21, go_sem, c2, z2]) rfl ⟨by rw [HF.out.1, HF.out.2], by have hLw := HLw3.out; exact qla⟩
 cases h4 : inR (sb - sa) 0 1048576
 · have HF := Lib.hid (rs_5 (r := ⟨n, st, sd⟩) (s := ⟨sa, sb⟩) (x := x) h1 h2 h3 h4)
   have hsb := isStg_bd h2
   simp only at hsb
   obtain ⟨b1, b2, b3, b4⟩ := hsb
   have H1 := Lib.hid h1
   have H2 := Lib.hid h2
   have H3 := Lib.hid h3
   have H4 := Lib.hid h4
   clear h1 h2 h3 h4
   go_enter Tryz.func21, Tryz.ntmps21
   go_wp2_with fail
   refine (w_implIsRule _ _ _ _ _ _ (H.out.later ((((Later.refl _).alloc _).alloc _).alloc _)) (H'.out.later ((((Later.refl _).alloc _).alloc _).alloc _))).mono ?_
   rintro e w1 ⟨rfl, hL1⟩
   rw [H1.out]
   have HLw1 := Lib.hid (((((Later.refl w).alloc _).alloc _).alloc _).trans hL1)
   obtain ⟨K0, K1, K2⟩ := kept3 hL1
   have HK0_1 := Lib.hid K0
   have HK1_1 := Lib.hid K1
   have HK2_1 := Lib.hid K2
   clear K0 K1 K2
   clear hL1
   obtain ⟨c0, f0, z0⟩ := blk_at HK0_1.out
   obtain ⟨c1, f1, z1⟩ := blk_at HK1_1.out
   obtain ⟨c2, f2, z2⟩ := blk_at HK2_1.out
   go_wp2_with fail
   refine (w_implIsSetting _ _ _).mono ?_
   rintro e w2 ⟨rfl, hL2⟩
   rw [H2.out]
   clear c0 f0 z0 c1 f1 z1 c2 f2 z2
   have HLw2 := Lib.hid (HLw1.out.trans hL2)
   have HK0_2 := Lib.hid (hL2.keep HK0_1.out)
   have HK1_2 := Lib.hid (hL2.keep HK1_1.out)
   have HK2_2 := Lib.hid (hL2.keep HK2_1.out)
   clear hL2
   obtain ⟨c0, f0, z0⟩ := blk_at HK0_2.out
   obtain ⟨c1, f1, z1⟩ := blk_at HK1_2.out
   obtain ⟨c2, f2, z2⟩ := blk_at HK2_2.out
   go_wp2_with fail
   refine (w_hasScale _ _ _ _ _ true _ _ (H.out.later HLw2.out) (H'.out.later HLw2.out)).mono ?_
   rintro e w3 ⟨rfl, hL3⟩
   rw [show hasI (onR ⟨n, st, sd⟩ true) x = _ from H3.out]
   clear c0 f0 z0 c1 f1 z1 c2 f2 z2
   have HLw3 := Lib.hid (HLw2.out.trans hL3)
   have HK0_3 := Lib.hid (hL3.keep HK0_2.out)
   have HK1_3 := Lib.hid (hL3.keep HK1_2.out)
   have HK2_3 := Lib.hid (hL3.keep HK2_2.out)
   clear hL3
   obtain ⟨c0, f0, z0⟩ := blk_at HK0_3.out
   obtain ⟨c1, f1, z1⟩ := blk_at HK1_3.out
   obtain ⟨c2, f2, z2⟩ := blk_at HK2_3.out
   go_wp2_with fail
   refine (w_within _ _ _ _).mono ?_
   rintro e w0 ⟨rfl, rfl⟩
   rw [H4.out]
   go_wp2
   refine bodyPost_ret (v := .tuple #[.agg #[.int .i64 0, .int .i64 0], .int .i64 5]) (by simp [results, Tryz.results21, go_sem, c2, z2]) rfl ⟨by rw [HF.out.1, HF.out.2], by have hLw := HLw3.out; exact qla⟩
 have hsb := isStg_bd h2
 simp only at hsb
 obtain ⟨b1, b2, b3, b4⟩ := hsb
 have hx := rule_sl h1 h3
 obtain ⟨x1, x2⟩ := hx
 have hr4 := inR_true h4
 obtain ⟨r1, r2⟩ := hr4
 have HF := Lib.hid (rs_0 (r := ⟨n, st, sd⟩) (s := ⟨sa, sb⟩) (x := x) h1 h2 h3 h4)
 have H1 := Lib.hid h1
 have H2 := Lib.hid h2
 have H3 := Lib.hid h3
 have H4 := Lib.hid h4
 clear h1 h2 h3 h4
 obtain ⟨G, hG⟩ : ∃ y, readF x (sb - sa) = y := ⟨_, rfl⟩
 have HG := Lib.hid hG
 have HF := Lib.hid (show rsC ⟨n, st, sd⟩ ⟨sa, sb⟩ x = 0 ∧ rsF ⟨n, st, sd⟩ ⟨sa, sb⟩ x = G from hG ▸ HF.out)
 clear hG
 go_enter Tryz.func21, Tryz.ntmps21
 go_wp2_with fail
 refine (w_implIsRule _ _ _ _ _ _ (H.out.later ((((Later.refl _).alloc _).alloc _).alloc _)) (H'.out.later ((((Later.refl _).alloc _).alloc _).alloc _))).mono ?_
 rintro e w1 ⟨rfl, hL1⟩
 rw [H1.out]
 have HLw1 := Lib.hid (((((Later.refl w).alloc _).alloc _).alloc _).trans hL1)
 obtain ⟨K0, K1, K2⟩ := kept3 hL1
 have HK0_1 := Lib.hid K0
 have HK1_1 := Lib.hid K1
 have HK2_1 := Lib.hid K2
 clear K0 K1 K2
 clear hL1
 obtain ⟨c0, f0, z0⟩ := blk_at HK0_1.out
 obtain ⟨c1, f1, z1⟩ := blk_at HK1_1.out
 obtain ⟨c2, f2, z2⟩ := blk_at HK2_1.out
 go_wp2_with fail
 refine (w_implIsSetting _ _ _).mono ?_
 rintro e w2 ⟨rfl, hL2⟩
 rw [H2.out]
 clear c0 f0 z0 c1 f1 z1 c2 f2 z2
 have HLw2 := Lib.hid (HLw1.out.trans hL2)
 have HK0_2 := Lib.hid (hL2.keep HK0_1.out)
 have HK1_2 := Lib.hid (hL2.keep HK1_1.out)
 have HK2_2 := Lib.hid (hL2.keep HK2_1.out)
 clear hL2
 obtain ⟨c0, f0, z0⟩ := blk_at HK0_2.out
 obtain ⟨c1, f1, z1⟩ := blk_at HK1_2.out
 obtain ⟨c2, f2, z2⟩ := blk_at HK2_2.out
 go_wp2_with fail
 refine (w_hasScale _ _ _ _ _ true _ _ (H.out.later HLw2.out) (H'.out.later HLw2.out)).mono ?_
 rintro e w3 ⟨rfl, hL3⟩
 rw [show hasI (onR ⟨n, st, sd⟩ true) x = _ from H3.out]
 clear c0 f0 z0 c1 f1 z1 c2 f2 z2
 have HLw3 := Lib.hid (HLw2.out.trans hL3)
 have HK0_3 := Lib.hid (hL3.keep HK0_2.out)
 have HK1_3 := Lib.hid (hL3.keep HK1_2.out)
 have HK2_3 := Lib.hid (hL3.keep HK2_2.out)
 clear hL3
 obtain ⟨c0, f0, z0⟩ := blk_at HK0_3.out
 obtain ⟨c1, f1, z1⟩ := blk_at HK1_3.out
 obtain ⟨c2, f2, z2⟩ := blk_at HK2_3.out
 go_wp2_with fail
 refine (w_within _ _ _ _).mono ?_
 rintro e w0 ⟨rfl, rfl⟩
 rw [H4.out]
 go_wp2_with fail
 refine (w_readAt _ _ _ (by omega) (by omega) (by omega) (by omega)).mono ?_
 rintro e w4 ⟨rfl, hL4⟩
 clear c0 f0 z0 c1 f1 z1 c2 f2 z2
 have HLw4 := Lib.hid (HLw3.out.trans hL4)
 have HK0_4 := Lib.hid (hL4.keep HK0_3.out)
 have HK1_4 := Lib.hid (hL4.keep HK1_3.out)
 have HK2_4 := Lib.hid (hL4.keep HK2_3.out)
 clear hL4
 obtain ⟨c0, f0, z0⟩ := blk_at HK0_4.out
 obtain ⟨c1, f1, z1⟩ := blk_at HK1_4.out
 obtain ⟨c2, f2, z2⟩ := blk_at HK2_4.out
 rw [HG.out]
 go_wp2
 refine bodyPost_ret (v := .tuple #[.agg #[.int .i64 G.d, .int .i64 G.t], .int .i64 0]) (by simp [results, Tryz.results21, go_sem, c2, z2]) rfl ⟨by rw [HF.out.1, HF.out.2], by have hLw := HLw4.out; exact qla⟩
end Go.Proofs.YtgngbdacejghcaaGreatDoor
