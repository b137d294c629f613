/- DERIVED. Walks: the cursor that is set, whether a scale is there. -/
import Derived.Test.YtgngbdacejghcaaGreatDoorKUM119
import Derived.Test.YtgngbdacejghcaaGreatDoorKUM35
namespace Go.Proofs.YtgngbdacejghcaaGreatDoor
set_option linter.unusedVariables false
set_option linter.unusedSimpArgs false
open Go.RowKit
set_option maxRecDepth 100000
def curQ (s : Stg) (b : Bool) (x : Int) (f : Fig) : Int := if b then ptF x f + s.sh else ptF x f
def curC (r : Rul) (s : Stg) (b : Bool) (x : Int) (f : Fig) : Int := if isFig f then (if codeOn r s b x = 0 then (if isStg ⟨s.sh, curQ s b x f⟩ then 0 else 5) else codeOn r s b x) else 1
def curS (r : Rul) (s : Stg) (b : Bool) (x : Int) (f : Fig) : Stg := if curC r s b x f = 0 then ⟨s.sh, curQ s b x f⟩ else ⟨0, 0⟩
theorem cur_no {r : Rul} {s : Stg} {b : Bool} {x k : Int} {f : Fig} (h : curC r s b x f = k) (h0 : k ≠ 0) : curC r s b x f = k ∧ curS r s b x f = ⟨0, 0⟩ := ⟨h, by unfold curS; rw [h, if_neg h0]⟩
theorem cur_f {r : Rul} {s : Stg} {b : Bool} {x : Int} {f : Fig} (h : isFig f = false) : curC r s b x f = 1 ∧ curS r s b x f = ⟨0, 0⟩ := cur_no (by unfold curC; rw [h]; rfl) (by omega)
theorem cur_c {r : Rul} {s : Stg} {b : Bool} {x k : Int} {f : Fig} (h : codeOn r s b x = k) (h0 : k ≠ 0) (hf : isFig f = true) : curC r s b x f = k ∧ curS r s b x f = ⟨0, 0⟩ := cur_no (by unfold curC; rw [hf, h, if_neg h0]; rfl) h0
theorem cur_1 {r : Rul} {s : Stg} {b : Bool} {x : Int} {f : Fig} (h : codeOn r s b x = 1) : curC r s b x f = 1 ∧ curS r s b x f = ⟨0, 0⟩ := by
 cases hf : isFig f
 · exact cur_f hf
 · exact cur_c h (by omega) hf
theorem cur_5 {r : Rul} {s : Stg} {b : Bool} {x q : Int} {f : Fig} (h : codeOn r s b x = 0) (hf : isFig f = true) (hq : curQ s b x f = q) (hg : isStg ⟨s.sh, q⟩ = false) : curC r s b x f = 5 ∧ curS r s b x f = ⟨0, 0⟩ := cur_no (by unfold curC; rw [hf, h, if_pos rfl, hq, hg]; rfl) (by omega)
theorem cur_0 {r : Rul} {s : Stg} {b : Bool} {x q : Int} {f : Fig} (h : codeOn r s b x = 0) (hf : isFig f = true) (hq : curQ s b x f = q) (hg : isStg ⟨s.sh, q⟩ = true) : curC r s b x f = 0 ∧ curS r s b x f = ⟨s.sh, q⟩ := by
 have e : curC r s b x f = 0 := by unfold curC; rw [hf, h, if_pos rfl, hq, hg]; rfl
 exact ⟨e, by unfold curS; rw [if_pos e, hq]⟩
def hsC (r : Rul) : Int := if isRule r then 0 else 1
def hsB (r : Rul) (b : Bool) (x : Int) : Bool := isRule r && hasI (onR r b) x
set_option maxHeartbeats 2000000 in
theorem w_implSetCursor0 (n : Int) (u v : Value) (st sd : List Int) (sa sb x d t : Int) (w : World) (h : IsNums w u st) (h' : IsNums w v sd) :
 Calls Tryz.prog 7 #[.agg #[.int .i64 n, u, v], .agg #[.int .i64 sa, .int .i64 sb], .bool false, .int .i64 x, .agg #[.int .i64 d, .int .i64 t]] w fun e w' => e = .returned (.tuple #[.agg #[.int .i64 (curS ⟨n, st, sd⟩ ⟨sa, sb⟩ false x ⟨d, t⟩).sh, .int .i64 (curS ⟨n, st, sd⟩ ⟨sa, sb⟩ false x ⟨d, t⟩).cu], .int .i64 (curC ⟨n, st, sd⟩ ⟨sa, sb⟩ false x ⟨d, t⟩)]) ∧ Later w w' := by
 have H := Lib.hid h
 have H' := Lib.hid h'
 obtain ⟨_, _, au, capu, rfl, _, _, _⟩ := h
 obtain ⟨_, _, av, capv, rfl, _, _, _⟩ := h'
 cases h1 : isRule ⟨n, st, sd⟩
 · have HF := Lib.hid (cur_1 (codeOn_1 h1) : curC ⟨n, st, sd⟩ ⟨sa, sb⟩ false x ⟨d, t⟩ = 1 ∧ curS ⟨n, st, sd⟩ ⟨sa, sb⟩ false x ⟨d, t⟩ = ⟨0, 0⟩)
   have H1 := Lib.hid h1
   clear h1
   go_enter Tryz.func7, Tryz.ntmps7
   go_wp2_with fail
   refine (w_implIsRule _ _ _ _ _ _ (H.out.later (((((Later.refl _).alloc _).alloc _).alloc _).alloc _)) (H'.out.later (((((Later.refl _).alloc _).alloc _).alloc _).alloc _))).mono ?_
   rintro e w1 ⟨rfl, hL1⟩
   rw [H1.out]
   have HLw1 := Lib.hid ((((((Later.refl w).alloc _).alloc _).alloc _).alloc _).trans hL1)
   obtain ⟨K0, K1, K2, K3⟩ := kept4 hL1
   have HK0_1 := Lib.hid K0
   have HK1_1 := Lib.hid K1
   have HK2_1 := Lib.hid K2
   have HK3_1 := Lib.hid K3
   clear K0 K1 K2 K3
   clear hL1
   obtain ⟨c0, f0, z0⟩ := blk_at HK0_1.out
   obtain ⟨c1, f1, z1⟩ := blk_at HK1_1.out
   obtain ⟨c2, f2, z2⟩ := blk_at HK2_1.out
   obtain ⟨c3, f3, z3⟩ := blk_at HK3_1.out
   go_wp2
   refine bodyPost_ret (v := .tuple #[.agg #[.int .i64 0, .int .i64 0], .int .i64 1]) (by simp [results, Tryz.results7, go_sem, c3, z3]) rfl ⟨by rw [HF.out.1, HF.out.2], by have hLw := HLw1.out; exact qla⟩
 cases h2 : isStg ⟨sa, sb⟩
 · have HF := Lib.hid (cur_1 (codeOn_1b h1 h2) : curC ⟨n, st, sd⟩ ⟨sa, sb⟩ false x ⟨d, t⟩ = 1 ∧ curS ⟨n, st, sd⟩ ⟨sa, sb⟩ false x ⟨d, t⟩ = ⟨0, 0⟩)
   have H1 := Lib.hid h1
   have H2 := Lib.hid h2
   clear h1 h2
   go_enter Tryz.func7, Tryz.ntmps7
   go_wp2_with fail
   refine (w_implIsRule _ _ _ _ _ _ (H.out.later (((((Later.refl _).alloc _).alloc _).alloc _).alloc _)) (H'.out.later (((((Later.refl _).alloc _).alloc _).alloc _).alloc _))).mono ?_
   rintro e w1 ⟨rfl, hL1⟩
   rw [H1.out]
   have HLw1 := Lib.hid ((((((Later.refl w).alloc _).alloc _).alloc _).alloc _).trans hL1)
   obtain ⟨K0, K1, K2, K3⟩ := kept4 hL1
   have HK0_1 := Lib.hid K0
   have HK1_1 := Lib.hid K1
   have HK2_1 := Lib.hid K2
   have HK3_1 := Lib.hid K3
   clear K0 K1 K2 K3
   clear hL1
   obtain ⟨c0, f0, z0⟩ := blk_at HK0_1.out
   obtain ⟨c1, f1, z1⟩ := blk_at HK1_1.out
   obtain ⟨c2, f2, z2⟩ := blk_at HK2_1.out
   obtain ⟨c3, f3, z3⟩ := blk_at HK3_1.out
   go_wp2_with fail
   refine (w_implIsSetting _ _ _).mono ?_
   rintro e w2 ⟨rfl, hL2⟩
   rw [H2.out]
   clear c0 f0 z0 c1 f1 z1 c2 f2 z2 c3 f3 z3
   have HLw2 := Lib.hid (HLw1.out.trans hL2)
   have HK0_2 := Lib.hid (hL2.keep HK0_1.out)
   have HK1_2 := Lib.hid (hL2.keep HK1_1.out)
   have HK2_2 := Lib.hid (hL2.keep HK2_1.out)
   have HK3_2 := Lib.hid (hL2.keep HK3_1.out)
   clear hL2
   obtain ⟨c0, f0, z0⟩ := blk_at HK0_2.out
   obtain ⟨c1, f1, z1⟩ := blk_at HK1_2.out
   obtain ⟨c2, f2, z2⟩ := blk_at HK2_2.out
   obtain ⟨c3, f3, z3⟩ := blk_at HK3_2.out
   go_wp2
   refine bodyPost_ret (v := .tuple #[.agg #[.int .i64 0, .int .i64 0], .int .i64 1]) (by simp [results, Tryz.results7, go_sem, c3, z3]) rfl ⟨by rw [HF.out.1, HF.out.2], by have hLw := HLw2.out; exact qla⟩
 cases h3 : isFig ⟨d, t⟩
 · have HF := Lib.hid (cur_f h3 : curC ⟨n, st, sd⟩ ⟨sa, sb⟩ false x ⟨d, t⟩ = 1 ∧ curS ⟨n, st, sd⟩ ⟨sa, sb⟩ false x ⟨d, t⟩ = ⟨0, 0⟩)
   have H1 := Lib.hid h1
   have H2 := Lib.hid h2
   have H3 := Lib.hid h3
   clear h1 h2 h3
   go_enter Tryz.func7, Tryz.ntmps7
   go_wp2_with fail
   refine (w_implIsRule _ _ _ _ _ _ (H.out.later (((((Later.refl _).alloc _).alloc _).alloc _).alloc _)) (H'.out.later (((((Later.refl _).alloc _).alloc _).alloc _).alloc _))).mono ?_
   rintro e w1 ⟨rfl, hL1⟩
   rw [H1.out]
   have HLw1 := Lib.hid ((((((Later.refl w).alloc _).alloc _).alloc _).alloc _).trans hL1)
   obtain ⟨K0, K1, K2, K3⟩ := kept4 hL1
   have HK0_1 := Lib.hid K0
   have HK1_1 := Lib.hid K1
   have HK2_1 := Lib.hid K2
   have HK3_1 := Lib.hid K3
   clear K0 K1 K2 K3
   clear hL1
   obtain ⟨c0, f0, z0⟩ := blk_at HK0_1.out
   obtain ⟨c1, f1, z1⟩ := blk_at HK1_1.out
   obtain ⟨c2, f2, z2⟩ := blk_at HK2_1.out
   obtain ⟨c3, f3, z3⟩ := blk_at HK3_1.out
   go_wp2_with fail
   refine (w_implIsSetting _ _ _).mono ?_
   rintro e w2 ⟨rfl, hL2⟩
   rw [H2.out]
   clear c0 f0 z0 c1 f1 z1 c2 f2 z2 c3 f3 z3
   have HLw2 := Lib.hid (HLw1.out.trans hL2)
   have HK0_2 := Lib.hid (hL2.keep HK0_1.out)
   have HK1_2 := Lib.hid (hL2.keep HK1_1.out)
   have HK2_2 := Lib.hid (hL2.keep HK2_1.out)
   have HK3_2 := Lib.hid (hL2.keep HK3_1.out)
   clear hL2
   obtain ⟨c0, f0, z0⟩ := blk_at HK0_2.out
   obtain ⟨c1, f1, z1⟩ := blk_at HK1_2.out
   obtain ⟨c2, f2, z2⟩ := blk_at HK2_2.out
   obtain ⟨c3, f3, z3⟩ := blk_at HK3_2.out
   go_wp2_with fail
   refine (w_implIsFigure _ _ _).mono ?_
   rintro e w3 ⟨rfl, hL3⟩
   rw [H3.out]
   clear c0 f0 z0 c1 f1 z1 c2 f2 z2 c3 f3 z3
   have HLw3 := Lib.hid (HLw2.out.trans hL3)
   have HK0_3 := Lib.hid (hL3.keep HK0_2.out)
   have HK1_3 := Lib.hid (hL3.keep HK1_2.out)
   have HK2_3 := Lib.hid (hL3.keep HK2_2.out)
   have HK3_3 := Lib.hid (hL3.keep HK3_2.out)
   clear hL3
   obtain ⟨c0, f0, z0⟩ := blk_at HK0_3.out
   obtain ⟨c1, f1, z1⟩ := blk_at HK1_3.out
   obtain ⟨c2, f2, z2⟩ := blk_at HK2_3.out
   obtain ⟨c3, f3, z3⟩ := blk_at HK3_3.out
   go_wp2
   refine bodyPost_ret (v := .tuple #[.agg #[.int .i64 0, .int .i64 0], .int .i64 1]) (by simp [results, Tryz.results7, go_sem, c3, z3]) rfl ⟨by rw [HF.out.1, HF.out.2], by have hLw := HLw3.out; exact qla⟩
 cases h4 : hasI st x
 · have HF := Lib.hid (cur_c (codeOn_2 (b := false) h1 h2 h4) (by omega) h3 : curC ⟨n, st, sd⟩ ⟨sa, sb⟩ false x ⟨d, t⟩ = 2 ∧ curS ⟨n, st, sd⟩ ⟨sa, sb⟩ false x ⟨d, t⟩ = ⟨0, 0⟩)
   have H1 := Lib.hid h1
   have H2 := Lib.hid h2
   have H3 := Lib.hid h3
   have H4 := Lib.hid h4
   clear h1 h2 h3 h4
   go_enter Tryz.func7, Tryz.ntmps7
   go_wp2_with fail
   refine (w_implIsRule _ _ _ _ _ _ (H.out.later (((((Later.refl _).alloc _).alloc _).alloc _).alloc _)) (H'.out.later (((((Later.refl _).alloc _).alloc _).alloc _).alloc _))).mono ?_
   rintro e w1 ⟨rfl, hL1⟩
   rw [H1.out]
   have HLw1 := Lib.hid ((((((Later.refl w).alloc _).alloc _).alloc _).alloc _).trans hL1)
   obtain ⟨K0, K1, K2, K3⟩ := kept4 hL1
   have HK0_1 := Lib.hid K0
   have HK1_1 := Lib.hid K1
   have HK2_1 := Lib.hid K2
   have HK3_1 := Lib.hid K3
   clear K0 K1 K2 K3
   clear hL1
   obtain ⟨c0, f0, z0⟩ := blk_at HK0_1.out
   obtain ⟨c1, f1, z1⟩ := blk_at HK1_1.out
   obtain ⟨c2, f2, z2⟩ := blk_at HK2_1.out
   obtain ⟨c3, f3, z3⟩ := blk_at HK3_1.out
   go_wp2_with fail
   refine (w_implIsSetting _ _ _).mono ?_
   rintro e w2 ⟨rfl, hL2⟩
   rw [H2.out]
   clear c0 f0 z0 c1 f1 z1 c2 f2 z2 c3 f3 z3
   have HLw2 := Lib.hid (HLw1.out.trans hL2)
   have HK0_2 := Lib.hid (hL2.keep HK0_1.out)
   have HK1_2 := Lib.hid (hL2.keep HK1_1.out)
   have HK2_2 := Lib.hid (hL2.keep HK2_1.out)
   have HK3_2 := Lib.hid (hL2.keep HK3_1.out)
   clear hL2
   obtain ⟨c0, f0, z0⟩ := blk_at HK0_2.out
   obtain ⟨c1, f1, z1⟩ := blk_at HK1_2.out
   obtain ⟨c2, f2, z2⟩ := blk_at HK2_2.out
   obtain ⟨c3, f3, z3⟩ := blk_at HK3_2.out
   go_wp2_with fail
   refine (w_implIsFigure _ _ _).mono ?_
   rintro e w3 ⟨rfl, hL3⟩
   rw [H3.out]
   clear c0 f0 z0 c1 f1 z1 c2 f2 z2 c3 f3 z3
   have HLw3 := Lib.hid (HLw2.out.trans hL3)
   have HK0_3 := Lib.hid (hL3.keep HK0_2.out)
   have HK1_3 := Lib.hid (hL3.keep HK1_2.out)
   have HK2_3 := Lib.hid (hL3.keep HK2_2.out)
   have HK3_3 := Lib.hid (hL3.keep HK3_2.out)
   clear hL3
   obtain ⟨c0, f0, z0⟩ := blk_at HK0_3.out
   obtain ⟨c1, f1, z1⟩ := blk_at HK1_3.out
   obtain ⟨c2, f2, z2⟩ := blk_at HK2_3.out
   obtain ⟨c3, f3, z3⟩ := blk_at HK3_3.out
   go_wp2_with fail
   refine (w_hasScale _ _ _ _ _ false _ _ (H.out.later HLw3.out) (H'.out.later HLw3.out)).mono ?_
   rintro e w4 ⟨rfl, hL4⟩
   rw [show hasI (onR ⟨n, st, sd⟩ false) x = _ from H4.out]
   clear c0 f0 z0 c1 f1 z1 c2 f2 z2 c3 f3 z3
   have HLw4 := Lib.hid (HLw3.out.trans hL4)
   have HK0_4 := Lib.hid (hL4.keep HK0_3.out)
   have HK1_4 := Lib.hid (hL4.keep HK1_3.out)
   have HK2_4 := Lib.hid (hL4.keep HK2_3.out)
   have HK3_4 := Lib.hid (hL4.keep HK3_3.out)
   clear hL4
   obtain ⟨c0, f0, z0⟩ := blk_at HK0_4.out
   obtain ⟨c1, f1, z1⟩ := blk_at HK1_4.out
   obtain ⟨c2, f2, z2⟩ := blk_at HK2_4.out
   obtain ⟨c3, f3, z3⟩ := blk_at HK3_4.out
   go_wp2
   refine bodyPost_ret (v := .tuple #[.agg #[.int .i64 0, .int .i64 0], .int .i64 2]) (by simp [results, Tryz.results7, go_sem, c3, z3]) rfl ⟨by rw [HF.out.1, HF.out.2], by have hLw := HLw4.out; exact qla⟩
 have HC := Lib.hid (codeOn_0 (b := false) h1 h2 h4 : codeOn ⟨n, st, sd⟩ ⟨sa, sb⟩ false x = 0)
 have hx := rule_st h1 h4
 obtain ⟨sx1, sx2⟩ := hx
 have hsb := isStg_bd h2
 simp only at hsb
 obtain ⟨b1, b2, b3, b4⟩ := hsb
 have hfb := isFig_true h3
 simp only at hfb
 obtain ⟨fa, fb, fc, fd⟩ := hfb
 have hpb := ptF_bd (s := x) (f := ⟨d, t⟩) fa fb
 obtain ⟨p, hp⟩ : ∃ y, ptF x ⟨d, t⟩ = y := ⟨_, rfl⟩
 rw [hp] at hpb
 have HP := Lib.hid hp
 have hq : curQ ⟨sa, sb⟩ false x ⟨d, t⟩ = p := by simp only [curQ, hp]; rfl
 cases h9 : isStg ⟨sa, p⟩
 · have HF := Lib.hid (cur_5 HC.out h3 hq h9 : curC ⟨n, st, sd⟩ ⟨sa, sb⟩ false x ⟨d, t⟩ = 5 ∧ curS ⟨n, st, sd⟩ ⟨sa, sb⟩ false x ⟨d, t⟩ = ⟨0, 0⟩)
   have H9 := Lib.hid h9
   clear h9 hp hq
   have H1 := Lib.hid h1
   have H2 := Lib.hid h2
   have H3 := Lib.hid h3
   have H4 := Lib.hid h4
   clear h1 h2 h3 h4
   go_enter Tryz.func7, Tryz.ntmps7
   go_wp2_with fail
   refine (w_implIsRule _ _ _ _ _ _ (H.out.later (((((Later.refl _).alloc _).alloc _).alloc _).alloc _)) (H'.out.later (((((Later.refl _).alloc _).alloc _).alloc _).alloc _))).mono ?_
   rintro e w1 ⟨rfl, hL1⟩
   rw [H1.out]
   have HLw1 := Lib.hid ((((((Later.refl w).alloc _).alloc _).alloc _).alloc _).trans hL1)
   obtain ⟨K0, K1, K2, K3⟩ := kept4 hL1
   have HK0_1 := Lib.hid K0
   have HK1_1 := Lib.hid K1
   have HK2_1 := Lib.hid K2
   have HK3_1 := Lib.hid K3
   clear K0 K1 K2 K3
   clear hL1
   obtain ⟨c0, f0, z0⟩ := blk_at HK0_1.out
   obtain ⟨c1, f1, z1⟩ := blk_at HK1_1.out
   obtain ⟨c2, f2, z2⟩ := blk_at HK2_1.out
   obtain ⟨c3, f3, z3⟩ := blk_at HK3_1.out
   go_wp2_with fail
   refine (w_implIsSetting _ _ _).mono ?_
   rintro e w2 ⟨rfl, hL2⟩
   rw [H2.out]
   clear c0 f0 z0 c1 f1 z1 c2 f2 z2 c3 f3 z3
   have HLw2 := Lib.hid (HLw1.out.trans hL2)
   have HK0_2 := Lib.hid (hL2.keep HK0_1.out)
   have HK1_2 := Lib.hid (hL2.keep HK1_1.out)
   have HK2_2 := Lib.hid (hL2.keep HK2_1.out)
   have HK3_2 := Lib.hid (hL2.keep HK3_1.out)
   clear hL2
   obtain ⟨c0, f0, z0⟩ := blk_at HK0_2.out
   obtain ⟨c1, f1, z1⟩ := blk_at HK1_2.out
   obtain ⟨c2, f2, z2⟩ := blk_at HK2_2.out
   obtain ⟨c3, f3, z3⟩ := blk_at HK3_2.out
   go_wp2_with fail
   refine (w_implIsFigure _ _ _).mono ?_
   rintro e w3 ⟨rfl, hL3⟩
   rw [H3.out]
   clear c0 f0 z0 c1 f1 z1 c2 f2 z2 c3 f3 z3
   have HLw3 := Lib.hid (HLw2.out.trans hL3)
   have HK0_3 := Lib.hid (hL3.keep HK0_2.out)
   have HK1_3 := Lib.hid (hL3.keep HK1_2.out)
   have HK2_3 := Lib.hid (hL3.keep HK2_2.out)
   have HK3_3 := Lib.hid (hL3.keep HK3_2.out)
   clear hL3
   obtain ⟨c0, f0, z0⟩ := blk_at HK0_3.out
   obtain ⟨c1, f1, z1⟩ := blk_at HK1_3.out
   obtain ⟨c2, f2, z2⟩ := blk_at HK2_3.out
   obtain ⟨c3, f3, z3⟩ := blk_at HK3_3.out
   go_wp2_with fail
   refine (w_hasScale _ _ _ _ _ false _ _ (H.out.later HLw3.out) (H'.out.later HLw3.out)).mono ?_
   rintro e w4 ⟨rfl, hL4⟩
   rw [show hasI (onR ⟨n, st, sd⟩ false) x = _ from H4.out]
   clear c0 f0 z0 c1 f1 z1 c2 f2 z2 c3 f3 z3
   have HLw4 := Lib.hid (HLw3.out.trans hL4)
   have HK0_4 := Lib.hid (hL4.keep HK0_3.out)
   have HK1_4 := Lib.hid (hL4.keep HK1_3.out)
   have HK2_4 := Lib.hid (hL4.keep HK2_3.out)
   have HK3_4 := Lib.hid (hL4.keep HK3_3.out)
   clear hL4
   obtain ⟨c0, f0, z0⟩ := blk_at HK0_4.out
   obtain ⟨c1, f1, z1⟩ := blk_at HK1_4.out
   obtain ⟨c2, f2, z2⟩ := blk_at HK2_4.out
   obtain ⟨c3, f3, z3⟩ := blk_at HK3_4.out
   go_wp2_with fail
   clear c0 f0 z0 c1 f1 z1 c2 f2 z2 c3 f3 z3
   have hL0 := HLw4.out
   have hSB := hL0.size
   have K1 := HK1_4.out
   have K2 := HK2_4.out
   have Kq := HK3_4.out
   have hRBq : w.heap.size ≤ w.heap.size + 1 + 1 + 1 := by omega
   refine region_slots 43 [34, 35, 36, 37, 38, 39, 40, 41, 42, 11] (fun g ac wc => sl ac 2 = .bool false ∧
    sl ac 3 = .int .i64 x ∧
    sl ac 6 = .pointer (some ⟨w.heap.size + 1, 0, none⟩) ∧
    sl ac 9 = .pointer (some ⟨w.heap.size + 1 + 1, 0, none⟩) ∧
    sl ac 10 = .pointer (some ⟨w.heap.size + 1 + 1 + 1, 0, none⟩) ∧
    (g 0 = true → sl ac 34 = .agg #[.int .i64 sa, .int .i64 sb]) ∧
    (g 1 = true → sl ac 35 = .bool false) ∧
    (g 2 = true → sl ac 36 = .int .i64 x) ∧
    (g 3 = true → sl ac 37 = .agg #[.int .i64 d, .int .i64 t]) ∧
    (g 4 = true → sl ac 38 = .int .i64 p) ∧
    (g 5 = true → sl ac 39 = .agg #[.int .i64 sa, .int .i64 p]) ∧
    (g 6 = true → sl ac 40 = .tuple #[.agg #[.int .i64 0, .int .i64 0], .int .i64 5]) ∧
    (g 7 = true → sl ac 41 = .agg #[.int .i64 0, .int .i64 0]) ∧
    (g 8 = true → sl ac 42 = .int .i64 5) ∧
    (g 10 = true → sl ac 11 = .int .i64 5) ∧
    Later w wc ∧
    w4.heap.size ≤ wc.heap.size ∧
    wc.heap[w.heap.size + 1]? = some (.cells #[.int .i64 sa, .int .i64 sb] 28 (0, 0)) ∧
    wc.heap[w.heap.size + 1 + 1]? = some (.cells #[.int .i64 d, .int .i64 t] 30 (0, 0)) ∧
    (∃ q0 q1, wc.heap[w.heap.size + 1 + 1 + 1]? = some (.cells #[q0, q1] 28 (0, 0)) ∧ (g 9 = true → q0 = .int .i64 0 ∧ q1 = .int .i64 0))) (by kernel_rfl) (by kernel_rfl) rfl (by kernel_rfl) ?_ ?_ ?_
   · exact ⟨rfl, rfl, rfl, rfl, rfl, nofun, nofun, nofun, nofun, nofun, nofun, nofun, nofun, nofun, nofun, hL0.drew, Nat.le_refl _, K1, K2, ⟨_, _, Kq, nofun⟩⟩
   · intro g ac wu hg ha hI
     obtain ⟨x2, x3, x6, x9, x10, i0, i1, i2, i3, i4, i5, i6, i7, i8, i10, hL, hS, B1, B2, Rq⟩ := hI
     have a0 := i0 (hg 0 (by simp))
     have a1 := i1 (hg 1 (by simp))
     have a2 := i2 (hg 2 (by simp))
     have a3 := i3 (hg 3 (by simp))
     have a4 := i4 (hg 4 (by simp))
     have a5 := i5 (hg 5 (by simp))
     have a6 := i6 (hg 6 (by simp))
     have a7 := i7 (hg 7 (by simp))
     have a8 := i8 (hg 8 (by simp))
     have a10 := i10 (hg 10 (by simp))
     obtain ⟨q0, q1, Kq, gr⟩ := Rq
     have gr := gr (hg 9 (by simp))
     rw [gr.1, gr.2] at Kq
     clear gr
     simp only [putAll, a0, a1, a2, a3, a4, a5, a6, a7, a8, a10] at ha
     simp only [Act.put, List.setIfInBounds_toArray, List.set_cons_succ, List.set_cons_zero] at ha
     rw [ha]
     clear x2 x3 x6 x9 x10 i0 i1 i2 i3 i4 i5 i6 i7 i8 i10 a0 a1 a2 a3 a4 a5 a6 a7 a8 a10 hg ha
     obtain ⟨c3, f3, z3⟩ := blk_at Kq
     go_wp2
     refine bodyPost_ret (v := .tuple #[.agg #[.int .i64 0, .int .i64 0], .int .i64 5]) (by simp [results, Tryz.results7, go_sem, c3, z3]) rfl ⟨by rw [HF.out.1, HF.out.2], hL⟩
   · refine .cons ?_ (.cons ?_ (.cons ?_ (.cons ?_ (.cons ?_ (.cons ?_ (.cons ?_ (.cons ?_ (.cons ?_ (.cons ?_ (.cons ?_ .nil))))))))))
     · refine qst fun g ac wc hn hk hr HI K' hK => ?_
       obtain ⟨x2, x3, x6, x9, x10, -, -, -, -, -, -, -, -, -, -, hL, hS, B1, B2, Rq⟩ := HI.out
       simp [Region.binds] at hr
       obtain ⟨c0, f0, z0⟩ := blk_at B1
       go_simp
       obtain ⟨-, -, -, -, -, i0, i1, i2, i3, i4, i5, i6, i7, i8, i10, -⟩ := HI.out
       exact hK.out _ _ ⟨qB x2, qB x3, qB x6, qB x9, qB x10, qP, qF i1, qF i2, qF i3, qF i4, qF i5, qF i6, qF i7, qF i8, qF i10, hL, hS, B1, B2, Rq⟩
     · refine qst fun g ac wc hn hk hr HI K' hK => ?_
       obtain ⟨x2, x3, x6, x9, x10, -, -, -, -, -, -, -, -, -, -, hL, hS, B1, B2, Rq⟩ := HI.out
       simp [Region.binds] at hr
       go_simp
       obtain ⟨-, -, -, -, -, i0, i1, i2, i3, i4, i5, i6, i7, i8, i10, -⟩ := HI.out
       exact hK.out _ _ ⟨qB x2, qB x3, qB x6, qB x9, qB x10, qF i0, qP, qF i2, qF i3, qF i4, qF i5, qF i6, qF i7, qF i8, qF i10, hL, hS, B1, B2, Rq⟩
     · refine qst fun g ac wc hn hk hr HI K' hK => ?_
       obtain ⟨x2, x3, x6, x9, x10, -, -, -, -, -, -, -, -, -, -, hL, hS, B1, B2, Rq⟩ := HI.out
       simp [Region.binds] at hr
       go_simp
       obtain ⟨-, -, -, -, -, i0, i1, i2, i3, i4, i5, i6, i7, i8, i10, -⟩ := HI.out
       exact hK.out _ _ ⟨qB x2, qB x3, qB x6, qB x9, qB x10, qF i0, qF i1, qP, qF i3, qF i4, qF i5, qF i6, qF i7, qF i8, qF i10, hL, hS, B1, B2, Rq⟩
     · refine qst fun g ac wc hn hk hr HI K' hK => ?_
       obtain ⟨x2, x3, x6, x9, x10, -, -, -, -, -, -, -, -, -, -, hL, hS, B1, B2, Rq⟩ := HI.out
       simp [Region.binds] at hr
       obtain ⟨c0, f0, z0⟩ := blk_at B2
       go_simp
       obtain ⟨-, -, -, -, -, i0, i1, i2, i3, i4, i5, i6, i7, i8, i10, -⟩ := HI.out
       exact hK.out _ _ ⟨qB x2, qB x3, qB x6, qB x9, qB x10, qF i0, qF i1, qF i2, qP, qF i4, qF i5, qF i6, qF i7, qF i8, qF i10, hL, hS, B1, B2, Rq⟩
     · refine qst fun g ac wc hn hk hr HI K' hK => ?_
       obtain ⟨x2, x3, x6, x9, x10, -, -, i2, i3, -, -, -, -, -, -, hL, hS, B1, B2, Rq⟩ := HI.out
       simp [Region.binds] at hr
       have y2 := i2 (by simp [hr])
       have y3 := i3 (by simp [hr])
       clear i2 i3
       go_simp
       refine (w_implPoint _ _ _ sx1 sx2 fa fb (by omega) (by omega) _).mono ?_
       rintro e w4 ⟨rfl, hL4⟩
       rw [HP.out]
       obtain ⟨-, -, -, -, -, i0, i1, i2, i3, i4, i5, i6, i7, i8, i10, -⟩ := HI.out
       exact hK.out _ _ ⟨qB x2, qB x3, qB x6, qB x9, qB x10, qF i0, qF i1, qF i2, qF i3, qP, qF i5, qF i6, qF i7, qF i8, qF i10, hL.trans hL4, Nat.le_trans hS hL4.size, hL4.keep B1, hL4.keep B2, (by obtain ⟨q0, q1, R1, R2⟩ := Rq; exact ⟨q0, q1, hL4.keep R1, R2⟩)⟩
     · refine qst fun g ac wc hn hk hr HI K' hK => ?_
       obtain ⟨x2, x3, x6, x9, x10, i0, i1, -, -, i4, -, -, -, -, -, hL, hS, B1, B2, Rq⟩ := HI.out
       simp [Region.binds] at hr
       have y0 := i0 (by simp [hr])
       have y1 := i1 (by simp [hr])
       have y4 := i4 (by simp [hr])
       clear i0 i1 i4
       go_simp
       refine (w_setCursor0 sa sb p (by omega) (by omega) (by omega) (by omega) _).mono ?_
       rintro e w4 ⟨rfl, hL4⟩
       obtain ⟨-, -, -, -, -, i0, i1, i2, i3, i4, i5, i6, i7, i8, i10, -⟩ := HI.out
       exact hK.out _ _ ⟨qB x2, qB x3, qB x6, qB x9, qB x10, qF i0, qF i1, qF i2, qF i3, qF i4, qP, qF i6, qF i7, qF i8, qF i10, hL.trans hL4, Nat.le_trans hS hL4.size, hL4.keep B1, hL4.keep B2, (by obtain ⟨q0, q1, R1, R2⟩ := Rq; exact ⟨q0, q1, hL4.keep R1, R2⟩)⟩
     · refine qst fun g ac wc hn hk hr HI K' hK => ?_
       obtain ⟨x2, x3, x6, x9, x10, -, -, -, -, -, i5, -, -, -, -, hL, hS, B1, B2, Rq⟩ := HI.out
       simp [Region.binds] at hr
       have y5 := i5 (by simp [hr])
       clear i5
       go_simp
       refine (w_valid0 _ _ _ H9.out).mono ?_
       rintro e w4 ⟨rfl, hL4⟩
       obtain ⟨-, -, -, -, -, i0, i1, i2, i3, i4, i5, i6, i7, i8, i10, -⟩ := HI.out
       exact hK.out _ _ ⟨qB x2, qB x3, qB x6, qB x9, qB x10, qF i0, qF i1, qF i2, qF i3, qF i4, qF i5, qP, qF i7, qF i8, qF i10, hL.trans hL4, Nat.le_trans hS hL4.size, hL4.keep B1, hL4.keep B2, (by obtain ⟨q0, q1, R1, R2⟩ := Rq; exact ⟨q0, q1, hL4.keep R1, R2⟩)⟩
     · refine qst fun g ac wc hn hk hr HI K' hK => ?_
       obtain ⟨x2, x3, x6, x9, x10, -, -, -, -, -, -, i6, -, -, -, hL, hS, B1, B2, Rq⟩ := HI.out
       simp [Region.binds] at hr
       have y6 := i6 (by simp [hr])
       have z6 := sl_get y6 (by omega)
       clear i6
       go_simp
       obtain ⟨-, -, -, -, -, i0, i1, i2, i3, i4, i5, i6, i7, i8, i10, -⟩ := HI.out
       exact hK.out _ _ ⟨qB x2, qB x3, qB x6, qB x9, qB x10, qF i0, qF i1, qF i2, qF i3, qF i4, qF i5, qF i6, qP, qF i8, qF i10, hL, hS, B1, B2, Rq⟩
     · refine qst fun g ac wc hn hk hr HI K' hK => ?_
       obtain ⟨x2, x3, x6, x9, x10, -, -, -, -, -, -, i6, -, -, -, hL, hS, B1, B2, Rq⟩ := HI.out
       simp [Region.binds] at hr
       have y6 := i6 (by simp [hr])
       have z6 := sl_get y6 (by omega)
       clear i6
       go_simp
       obtain ⟨-, -, -, -, -, i0, i1, i2, i3, i4, i5, i6, i7, i8, i10, -⟩ := HI.out
       exact hK.out _ _ ⟨qB x2, qB x3, qB x6, qB x9, qB x10, qF i0, qF i1, qF i2, qF i3, qF i4, qF i5, qF i6, qF i7, qP, qF i10, hL, hS, B1, B2, Rq⟩
     · refine qst fun g ac wc hn hk hr HI K' hK => ?_
       obtain ⟨x2, x3, x6, x9, x10, -, -, -, -, -, -, -, i7, -, -, hL, hS, B1, B2, Rq⟩ := HI.out
       simp [Region.binds] at hr
       have y7 := i7 (by simp [hr])
       clear i7
       obtain ⟨q0, q1, R1, -⟩ := Rq
       obtain ⟨c0, f0, z0⟩ := blk_at R1
       go_simp
       obtain ⟨-, -, -, -, -, i0, i1, i2, i3, i4, i5, i6, i7, i8, i10, -⟩ := HI.out
       exact hK.out undef _ ⟨x2, x3, x6, x9, x10, i0, i1, i2, i3, i4, i5, i6, i7, i8, i10, ((hL.setCell hRBq _).setCell hRBq _), (by simp; omega), (other_set (other_set B1 (by omega) _) (by omega) _), (other_set (other_set B2 (by omega) _) (by omega) _), ⟨_, _, two_set R1 _ _, fun _ => ⟨rfl, rfl⟩⟩⟩
     · refine qst fun g ac wc hn hk hr HI K' hK => ?_
       obtain ⟨x2, x3, x6, x9, x10, -, -, -, -, -, -, -, -, i8, -, hL, hS, B1, B2, Rq⟩ := HI.out
       simp [Region.binds] at hr
       have y8 := i8 (by simp [hr])
       clear i8
       go_simp
       obtain ⟨-, -, -, -, -, i0, i1, i2, i3, i4, i5, i6, i7, i8, i10, -⟩ := HI.out
       exact hK.out _ _ ⟨qB x2, qB x3, qB x6, qB x9, qB x10, qF i0, qF i1, qF i2, qF i3, qF i4, qF i5, qF i6, qF i7, qF i8, qP, hL, hS, B1, B2, Rq⟩
 · have HF := Lib.hid (cur_0 HC.out h3 hq h9 : curC ⟨n, st, sd⟩ ⟨sa, sb⟩ false x ⟨d, t⟩ = 0 ∧ curS ⟨n, st, sd⟩ ⟨sa, sb⟩ false x ⟨d, t⟩ = ⟨sa, p⟩)
   have H9 := Lib.hid h9
   clear h9 hp hq
   have H1 := Lib.hid h1
   have H2 := Lib.hid h2
   have H3 := Lib.hid h3
   have H4 := Lib.hid h4
   clear h1 h2 h3 h4
   go_enter Tryz.func7, Tryz.ntmps7
   go_wp2_with fail
   refine (w_implIsRule _ _ _ _ _ _ (H.out.later (((((Later.refl _).alloc _).alloc _).alloc _).alloc _)) (H'.out.later (((((Later.refl _).alloc _).alloc _).alloc _).alloc _))).mono ?_
   rintro e w1 ⟨rfl, hL1⟩
   rw [H1.out]
   have HLw1 := Lib.hid ((((((Later.refl w).alloc _).alloc _).alloc _).alloc _).trans hL1)
   obtain ⟨K0, K1, K2, K3⟩ := kept4 hL1
   have HK0_1 := Lib.hid K0
   have HK1_1 := Lib.hid K1
   have HK2_1 := Lib.hid K2
   have HK3_1 := Lib.hid K3
   clear K0 K1 K2 K3
   clear hL1
   obtain ⟨c0, f0, z0⟩ := blk_at HK0_1.out
   obtain ⟨c1, f1, z1⟩ := blk_at HK1_1.out
   obtain ⟨c2, f2, z2⟩ := blk_at HK2_1.out
   obtain ⟨c3, f3, z3⟩ := blk_at HK3_1.out
   go_wp2_with fail
   refine (w_implIsSetting _ _ _).mono ?_
   rintro e w2 ⟨rfl, hL2⟩
   rw [H2.out]
   clear c0 f0 z0 c1 f1 z1 c2 f2 z2 c3 f3 z3
   have HLw2 := Lib.hid (HLw1.out.trans hL2)
   have HK0_2 := Lib.hid (hL2.keep HK0_1.out)
   have HK1_2 := Lib.hid (hL2.keep HK1_1.out)
   have HK2_2 := Lib.hid (hL2.keep HK2_1.out)
   have HK3_2 := Lib.hid (hL2.keep HK3_1.out)
   clear hL2
   obtain ⟨c0, f0, z0⟩ := blk_at HK0_2.out
   obtain ⟨c1, f1, z1⟩ := blk_at HK1_2.out
   obtain ⟨c2, f2, z2⟩ := blk_at HK2_2.out
   obtain ⟨c3, f3, z3⟩ := blk_at HK3_2.out
   go_wp2_with fail
   refine (w_implIsFigure _ _ _).mono ?_
   rintro e w3 ⟨rfl, hL3⟩
   rw [H3.out]
   clear c0 f0 z0 c1 f1 z1 c2 f2 z2 c3 f3 z3
   have HLw3 := Lib.hid (HLw2.out.trans hL3)
   have HK0_3 := Lib.hid (hL3.keep HK0_2.out)
   have HK1_3 := Lib.hid (hL3.keep HK1_2.out)
   have HK2_3 := Lib.hid (hL3.keep HK2_2.out)
   have HK3_3 := Lib.hid (hL3.keep HK3_2.out)
   clear hL3
   obtain ⟨c0, f0, z0⟩ := blk_at HK0_3.out
   obtain ⟨c1, f1, z1⟩ := blk_at HK1_3.out
   obtain ⟨c2, f2, z2⟩ := blk_at HK2_3.out
   obtain ⟨c3, f3, z3⟩ := blk_at HK3_3.out
   go_wp2_with fail
   refine (w_hasScale _ _ _ _ _ false _ _ (H.out.later HLw3.out) (H'.out.later HLw3.out)).mono ?_
   rintro e w4 ⟨rfl, hL4⟩
   rw [show hasI (onR ⟨n, st, sd⟩ false) x = _ from H4.out]
   clear c0 f0 z0 c1 f1 z1 c2 f2 z2 c3 f3 z3
   have HLw4 := Lib.hid (HLw3.out.trans hL4)
   have HK0_4 := Lib.hid (hL4.keep HK0_3.out)
   have HK1_4 := Lib.hid (hL4.keep HK1_3.out)
   have HK2_4 := Lib.hid (hL4.keep HK2_3.out)
   have HK3_4 := Lib.hid (hL4.keep HK3_3.out)
   clear hL4
   obtain ⟨c0, f0, z0⟩ := blk_at HK0_4.out
   obtain ⟨c1, f1, z1⟩ := blk_at HK1_4.out
   obtain ⟨c2, f2, z2⟩ := blk_at HK2_4.out
   obtain ⟨c3, f3, z3⟩ := blk_at HK3_4.out
   go_wp2_with fail
   clear c0 f0 z0 c1 f1 z1 c2 f2 z2 c3 f3 z3
   have hL0 := HLw4.out
   have hSB := hL0.size
   have K1 := HK1_4.out
   have K2 := HK2_4.out
   have Kq := HK3_4.out
   have hRBq : w.heap.size ≤ w.heap.size + 1 + 1 + 1 := by omega
   refine region_slots 43 [34, 35, 36, 37, 38, 39, 40, 41, 42, 11] (fun g ac wc => sl ac 2 = .bool false ∧
    sl ac 3 = .int .i64 x ∧
    sl ac 6 = .pointer (some ⟨w.heap.size + 1, 0, none⟩) ∧
    sl ac 9 = .pointer (some ⟨w.heap.size + 1 + 1, 0, none⟩) ∧
    sl ac 10 = .pointer (some ⟨w.heap.size + 1 + 1 + 1, 0, none⟩) ∧
    (g 0 = true → sl ac 34 = .agg #[.int .i64 sa, .int .i64 sb]) ∧
    (g 1 = true → sl ac 35 = .bool false) ∧
    (g 2 = true → sl ac 36 = .int .i64 x) ∧
    (g 3 = true → sl ac 37 = .agg #[.int .i64 d, .int .i64 t]) ∧
    (g 4 = true → sl ac 38 = .int .i64 p) ∧
    (g 5 = true → sl ac 39 = .agg #[.int .i64 sa, .int .i64 p]) ∧
    (g 6 = true → sl ac 40 = .tuple #[.agg #[.int .i64 sa, .int .i64 p], .int .i64 0]) ∧
    (g 7 = true → sl ac 41 = .agg #[.int .i64 sa, .int .i64 p]) ∧
    (g 8 = true → sl ac 42 = .int .i64 0) ∧
    (g 10 = true → sl ac 11 = .int .i64 0) ∧
    Later w wc ∧
    w4.heap.size ≤ wc.heap.size ∧
    wc.heap[w.heap.size + 1]? = some (.cells #[.int .i64 sa, .int .i64 sb] 28 (0, 0)) ∧
    wc.heap[w.heap.size + 1 + 1]? = some (.cells #[.int .i64 d, .int .i64 t] 30 (0, 0)) ∧
    (∃ q0 q1, wc.heap[w.heap.size + 1 + 1 + 1]? = some (.cells #[q0, q1] 28 (0, 0)) ∧ (g 9 = true → q0 = .int .i64 sa ∧ q1 = .int .i64 p))) (by kernel_rfl) (by kernel_rfl) rfl (by kernel_rfl) ?_ ?_ ?_
   · exact ⟨rfl, rfl, rfl, rfl, rfl, nofun, nofun, nofun, nofun, nofun, nofun, nofun, nofun, nofun, nofun, hL0.drew, Nat.le_refl _, K1, K2, ⟨_, _, Kq, nofun⟩⟩
   · intro g ac wu hg ha hI
     obtain ⟨x2, x3, x6, x9, x10, i0, i1, i2, i3, i4, i5, i6, i7, i8, i10, hL, hS, B1, B2, Rq⟩ := hI
     have a0 := i0 (hg 0 (by simp))
     have a1 := i1 (hg 1 (by simp))
     have a2 := i2 (hg 2 (by simp))
     have a3 := i3 (hg 3 (by simp))
     have a4 := i4 (hg 4 (by simp))
     have a5 := i5 (hg 5 (by simp))
     have a6 := i6 (hg 6 (by simp))
     have a7 := i7 (hg 7 (by simp))
     have a8 := i8 (hg 8 (by simp))
     have a10 := i10 (hg 10 (by simp))
     obtain ⟨q0, q1, Kq, gr⟩ := Rq
     have gr := gr (hg 9 (by simp))
     rw [gr.1, gr.2] at Kq
     clear gr
     simp only [putAll, a0, a1, a2, a3, a4, a5, a6, a7, a8, a10] at ha
     simp only [Act.put, List.setIfInBounds_toArray, List.set_cons_succ, List.set_cons_zero] at ha
     rw [ha]
     clear x2 x3 x6 x9 x10 i0 i1 i2 i3 i4 i5 i6 i7 i8 i10 a0 a1 a2 a3 a4 a5 a6 a7 a8 a10 hg ha
     obtain ⟨c3, f3, z3⟩ := blk_at Kq
     go_wp2
     refine bodyPost_ret (v := .tuple #[.agg #[.int .i64 sa, .int .i64 p], .int .i64 0]) (by simp [results, Tryz.results7, go_sem, c3, z3]) rfl ⟨by rw [HF.out.1, HF.out.2], hL⟩
   · refine .cons ?_ (.cons ?_ (.cons ?_ (.cons ?_ (.cons ?_ (.cons ?_ (.cons ?_ (.cons ?_ (.cons ?_ (.cons ?_ (.cons ?_ .nil))))))))))
     · refine qst fun g ac wc hn hk hr HI K' hK => ?_
       obtain ⟨x2, x3, x6, x9, x10, -, -, -, -, -, -, -, -, -, -, hL, hS, B1, B2, Rq⟩ := HI.out
       simp [Region.binds] at hr
       obtain ⟨c0, f0, z0⟩ := blk_at B1
       go_simp
       obtain ⟨-, -, -, -, -, i0, i1, i2, i3, i4, i5, i6, i7, i8, i10, -⟩ := HI.out
       exact hK.out _ _ ⟨qB x2, qB x3, qB x6, qB x9, qB x10, qP, qF i1, qF i2, qF i3, qF i4, qF i5, qF i6, qF i7, qF i8, qF i10, hL, hS, B1, B2, Rq⟩
     · refine qst fun g ac wc hn hk hr HI K' hK => ?_
       obtain ⟨x2, x3, x6, x9, x10, -, -, -, -, -, -, -, -, -, -, hL, hS, B1, B2, Rq⟩ := HI.out
       simp [Region.binds] at hr
       go_simp
       obtain ⟨-, -, -, -, -, i0, i1, i2, i3, i4, i5, i6, i7, i8, i10, -⟩ := HI.out
       exact hK.out _ _ ⟨qB x2, qB x3, qB x6, qB x9, qB x10, qF i0, qP, qF i2, qF i3, qF i4, qF i5, qF i6, qF i7, qF i8, qF i10, hL, hS, B1, B2, Rq⟩
     · refine qst fun g ac wc hn hk hr HI K' hK => ?_
       obtain ⟨x2, x3, x6, x9, x10, -, -, -, -, -, -, -, -, -, -, hL, hS, B1, B2, Rq⟩ := HI.out
       simp [Region.binds] at hr
       go_simp
       obtain ⟨-, -, -, -, -, i0, i1, i2, i3, i4, i5, i6, i7, i8, i10, -⟩ := HI.out
       exact hK.out _ _ ⟨qB x2, qB x3, qB x6, qB x9, qB x10, qF i0, qF i1, qP, qF i3, qF i4, qF i5, qF i6, qF i7, qF i8, qF i10, hL, hS, B1, B2, Rq⟩
     · refine qst fun g ac wc hn hk hr HI K' hK => ?_
       obtain ⟨x2, x3, x6, x9, x10, -, -, -, -, -, -, -, -, -, -, hL, hS, B1, B2, Rq⟩ := HI.out
       simp [Region.binds] at hr
       obtain ⟨c0, f0, z0⟩ := blk_at B2
       go_simp
       obtain ⟨-, -, -, -, -, i0, i1, i2, i3, i4, i5, i6, i7, i8, i10, -⟩ := HI.out
       exact hK.out _ _ ⟨qB x2, qB x3, qB x6, qB x9, qB x10, qF i0, qF i1, qF i2, qP, qF i4, qF i5, qF i6, qF i7, qF i8, qF i10, hL, hS, B1, B2, Rq⟩
     · refine qst fun g ac wc hn hk hr HI K' hK => ?_
       obtain ⟨x2, x3, x6, x9, x10, -, -, i2, i3, -, -, -, -, -, -, hL, hS, B1, B2, Rq⟩ := HI.out
       simp [Region.binds] at hr
       have y2 := i2 (by simp [hr])
       have y3 := i3 (by simp [hr])
       clear i2 i3
       go_simp
       refine (w_implPoint _ _ _ sx1 sx2 fa fb (by omega) (by omega) _).mono ?_
       rintro e w4 ⟨rfl, hL4⟩
       rw [HP.out]
       obtain ⟨-, -, -, -, -, i0, i1, i2, i3, i4, i5, i6, i7, i8, i10, -⟩ := HI.out
       exact hK.out _ _ ⟨qB x2, qB x3, qB x6, qB x9, qB x10, qF i0, qF i1, qF i2, qF i3, qP, qF i5, qF i6, qF i7, qF i8, qF i10, hL.trans hL4, Nat.le_trans hS hL4.size, hL4.keep B1, hL4.keep B2, (by obtain ⟨q0, q1, R1, R2⟩ := Rq; exact ⟨q0, q1, hL4.keep R1, R2⟩)⟩
     · refine qst fun g ac wc hn hk hr HI K' hK => ?_
       obtain ⟨x2, x3, x6, x9, x10, i0, i1, -, -, i4, -, -, -, -, -, hL, hS, B1, B2, Rq⟩ := HI.out
       simp [Region.binds] at hr
       have y0 := i0 (by simp [hr])
       have y1 := i1 (by simp [hr])
       have y4 := i4 (by simp [hr])
       clear i0 i1 i4
       go_simp
       refine (w_setCursor0 sa sb p (by omega) (by omega) (by omega) (by omega) _).mono ?_
       rintro e w4 ⟨rfl, hL4⟩
       obtain ⟨-, -, -, -, -, i0, i1, i2, i3, i4, i5, i6, i7, i8, i10, -⟩ := HI.out
       exact hK.out _ _ ⟨qB x2, qB x3, qB x6, qB x9, qB x10, qF i0, qF i1, qF i2, qF i3, qF i4, qP, qF i6, qF i7, qF i8, qF i10, hL.trans hL4, Nat.le_trans hS hL4.size, hL4.keep B1, hL4.keep B2, (by obtain ⟨q0, q1, R1, R2⟩ := Rq; exact ⟨q0, q1, hL4.keep R1, R2⟩)⟩
     · refine qst fun g ac wc hn hk hr HI K' hK => ?_
       obtain ⟨x2, x3, x6, x9, x10, -, -, -, -, -, i5, -, -, -, -, hL, hS, B1, B2, Rq⟩ := HI.out
       simp [Region.binds] at hr
       have y5 := i5 (by simp [hr])
       clear i5
       go_simp
       refine (w_valid1 _ _ _ H9.out).mono ?_
       rintro e w4 ⟨rfl, hL4⟩
       obtain ⟨-, -, -, -, -, i0, i1, i2, i3, i4, i5, i6, i7, i8, i10, -⟩ := HI.out
       exact hK.out _ _ ⟨qB x2, qB x3, qB x6, qB x9, qB x10, qF i0, qF i1, qF i2, qF i3, qF i4, qF i5, qP, qF i7, qF i8, qF i10, hL.trans hL4, Nat.le_trans hS hL4.size, hL4.keep B1, hL4.keep B2, (by obtain ⟨q0, q1, R1, R2⟩ := Rq; exact ⟨q0, q1, hL4.keep R1, R2⟩)⟩
     · refine qst fun g ac wc hn hk hr HI K' hK => ?_
       obtain ⟨x2, x3, x6, x9, x10, -, -, -, -, -, -, i6, -, -, -, hL, hS, B1, B2, Rq⟩ := HI.out
       simp [Region.binds] at hr
       have y6 := i6 (by simp [hr])
       have z6 := sl_get y6 (by omega)
       clear i6
       go_simp
       obtain ⟨-, -, -, -, -, i0, i1, i2, i3, i4, i5, i6, i7, i8, i10, -⟩ := HI.out
       exact hK.out _ _ ⟨qB x2, qB x3, qB x6, qB x9, qB x10, qF i0, qF i1, qF i2, qF i3, qF i4, qF i5, qF i6, qP, qF i8, qF i10, hL, hS, B1, B2, Rq⟩
     · refine qst fun g ac wc hn hk hr HI K' hK => ?_
       obtain ⟨x2, x3, x6, x9, x10, -, -, -, -, -, -, i6, -, -, -, hL, hS, B1, B2, Rq⟩ := HI.out
       simp [Region.binds] at hr
       have y6 := i6 (by simp [hr])
       have z6 := sl_get y6 (by omega)
       clear i6
       go_simp
       obtain ⟨-, -, -, -, -, i0, i1, i2, i3, i4, i5, i6, i7, i8, i10, -⟩ := HI.out
       exact hK.out _ _ ⟨qB x2, qB x3, qB x6, qB x9, qB x10, qF i0, qF i1, qF i2, qF i3, qF i4, qF i5, qF i6, qF i7, qP, qF i10, hL, hS, B1, B2, Rq⟩
     · refine qst fun g ac wc hn hk hr HI K' hK => ?_
       obtain ⟨x2, x3, x6, x9, x10, -, -, -, -, -, -, -, i7, -, -, hL, hS, B1, B2, Rq⟩ := HI.out
       simp [Region.binds] at hr
       have y7 := i7 (by simp [hr])
       clear i7
       obtain ⟨q0, q1, R1, -⟩ := Rq
       obtain ⟨c0, f0, z0⟩ := blk_at R1
       go_simp
       obtain ⟨-, -, -, -, -, i0, i1, i2, i3, i4, i5, i6, i7, i8, i10, -⟩ := HI.out
       exact hK.out undef _ ⟨x2, x3, x6, x9, x10, i0, i1, i2, i3, i4, i5, i6, i7, i8, i10, ((hL.setCell hRBq _).setCell hRBq _), (by simp; omega), (other_set (other_set B1 (by omega) _) (by omega) _), (other_set (other_set B2 (by omega) _) (by omega) _), ⟨_, _, two_set R1 _ _, fun _ => ⟨rfl, rfl⟩⟩⟩
     · refine qst fun g ac wc hn hk hr HI K' hK => ?_
       obtain ⟨x2, x3, x6, x9, x10, -, -, -, -, -, -, -, -, i8, -, hL, hS, B1, B2, Rq⟩ := HI.out
       simp [Region.binds] at hr
       have y8 := i8 (by simp [hr])
       clear i8
       go_simp
       obtain ⟨-, -, -, -, -, i0, i1, i2, i3, i4, i5, i6, i7, i8, i10, -⟩ := HI.out
       exact hK.out _ _ ⟨qB x2, qB x3, qB x6, qB x9, qB x10, qF i0, qF i1, qF i2, qF i3, qF i4, qF i5, qF i6, qF i7, qF i8, qP, hL, hS, B1, B2, Rq⟩
set_option maxHeartbeats 2000000 in
theorem w_implSetCursor1 (n : Int) (u v : Value) (st sd : List Int) (sa sb x d t : Int) (w : World) (h : IsNums w u st) (h' : IsNums w v sd) :
 Calls Tryz.prog 7 #[.agg #[.int .i64 n, u, v], .agg #[.int .i64 sa, .int .i64 sb], .bool true, .int .i64 x, .agg #[.int .i64 d, .int .i64 t]] w fun e w' => e = .returned (.tuple #[.agg #[.int .i64 (curS ⟨n, st, sd⟩ ⟨sa, sb⟩ true x ⟨d, t⟩).sh, .int .i64 (curS ⟨n, st, sd⟩ ⟨sa, sb⟩ true x ⟨d, t⟩).cu], .int .i64 (curC ⟨n, st, sd⟩ ⟨sa, sb⟩ true x ⟨d, t⟩)]) ∧ Later w w' := by
 have H := Lib.hid h
 have H' := Lib.hid h'
 obtain ⟨_, _, au, capu, rfl, _, _, _⟩ := h
 obtain ⟨_, _, av, capv, rfl, _, _, _⟩ := h'
 cases h1 : isRule ⟨n, st, sd⟩
 · have HF := Lib.hid (cur_1 (codeOn_1 h1) : curC ⟨n, st, sd⟩ ⟨sa, sb⟩ true x ⟨d, t⟩ = 1 ∧ curS ⟨n, st, sd⟩ ⟨sa, sb⟩ true x ⟨d, t⟩ = ⟨0, 0⟩)
   have H1 := Lib.hid h1
   clear h1
   go_enter Tryz.func7, Tryz.ntmps7
   go_wp2_with fail
   refine (w_implIsRule _ _ _ _ _ _ (H.out.later (((((Later.refl _).alloc _).alloc _).alloc _).alloc _)) (H'.out.later (((((Later.refl _).alloc _).alloc _).alloc _).alloc _))).mono ?_
   rintro e w1 ⟨rfl, hL1⟩
   rw [H1.out]
   have HLw1 := Lib.hid ((((((Later.refl w).alloc _).alloc _).alloc _).alloc _).trans hL1)
   obtain ⟨K0, K1, K2, K3⟩ := kept4 hL1
   have HK0_1 := Lib.hid K0
   have HK1_1 := Lib.hid K1
   have HK2_1 := Lib.hid K2
   have HK3_1 := Lib.hid K3
   clear K0 K1 K2 K3
   clear hL1
   obtain ⟨c0, f0, z0⟩ := blk_at HK0_1.out
   obtain ⟨c1, f1, z1⟩ := blk_at HK1_1.out
   obtain ⟨c2, f2, z2⟩ := blk_at HK2_1.out
   obtain ⟨c3, f3, z3⟩ := blk_at HK3_1.out
   go_wp2
   refine bodyPost_ret (v := .tuple #[.agg #[.int .i64 0, .int .i64 0], .int .i64 1]) (by simp [results, Tryz.results7, go_sem, c3, z3]) rfl ⟨by rw [HF.out.1, HF.out.2], by have hLw := HLw1.out; exact qla⟩
 cases h2 : isStg ⟨sa, sb⟩
 · have HF := Lib.hid (cur_1 (codeOn_1b h1 h2) : curC ⟨n, st, sd⟩ ⟨sa, sb⟩ true x ⟨d, t⟩ = 1 ∧ curS ⟨n, st, sd⟩ ⟨sa, sb⟩ true x ⟨d, t⟩ = ⟨0, 0⟩)
   have H1 := Lib.hid h1
   have H2 := Lib.hid h2
   clear h1 h2
   go_enter Tryz.func7, Tryz.ntmps7
   go_wp2_with fail
   refine (w_implIsRule _ _ _ _ _ _ (H.out.later (((((Later.refl _).alloc _).alloc _).alloc _).alloc _)) (H'.out.later (((((Later.refl _).alloc _).alloc _).alloc _).alloc _))).mono ?_
   rintro e w1 ⟨rfl, hL1⟩
   rw [H1.out]
   have HLw1 := Lib.hid ((((((Later.refl w).alloc _).alloc _).alloc _).alloc _).trans hL1)
   obtain ⟨K0, K1, K2, K3⟩ := kept4 hL1
   have HK0_1 := Lib.hid K0
   have HK1_1 := Lib.hid K1
   have HK2_1 := Lib.hid K2
   have HK3_1 := Lib.hid K3
   clear K0 K1 K2 K3
   clear hL1
   obtain ⟨c0, f0, z0⟩ := blk_at HK0_1.out
   obtain ⟨c1, f1, z1⟩ := blk_at HK1_1.out
   obtain ⟨c2, f2, z2⟩ := blk_at HK2_1.out
   obtain ⟨c3, f3, z3⟩ := blk_at HK3_1.out
   go_wp2_with fail
   refine (w_implIsSetting _ _ _).mono ?_
   rintro e w2 ⟨rfl, hL2⟩
   rw [H2.out]
   clear c0 f0 z0 c1 f1 z1 c2 f2 z2 c3 f3 z3
   have HLw2 := Lib.hid (HLw1.out.trans hL2)
   have HK0_2 := Lib.hid (hL2.keep HK0_1.out)
   have HK1_2 := Lib.hid (hL2.keep HK1_1.out)
   have HK2_2 := Lib.hid (hL2.keep HK2_1.out)
   have HK3_2 := Lib.hid (hL2.keep HK3_1.out)
   clear hL2
   obtain ⟨c0, f0, z0⟩ := blk_at HK0_2.out
   obtain ⟨c1, f1, z1⟩ := blk_at HK1_2.out
   obtain ⟨c2, f2, z2⟩ := blk_at HK2_2.out
   obtain ⟨c3, f3, z3⟩ := blk_at HK3_2.out
   go_wp2
   refine bodyPost_ret (v := .tuple #[.agg #[.int .i64 0, .int .i64 0], .int .i64 1]) (by simp [results, Tryz.results7, go_sem, c3, z3]) rfl ⟨by rw [HF.out.1, HF.out.2], by have hLw := HLw2.out; exact qla⟩
 cases h3 : isFig ⟨d, t⟩
 · have HF := Lib.hid (cur_f h3 : curC ⟨n, st, sd⟩ ⟨sa, sb⟩ true x ⟨d, t⟩ = 1 ∧ curS ⟨n, st, sd⟩ ⟨sa, sb⟩ true x ⟨d, t⟩ = ⟨0, 0⟩)
   have H1 := Lib.hid h1
   have H2 := Lib.hid h2
   have H3 := Lib.hid h3
   clear h1 h2 h3
   go_enter Tryz.func7, Tryz.ntmps7
   go_wp2_with fail
   refine (w_implIsRule _ _ _ _ _ _ (H.out.later (((((Later.refl _).alloc _).alloc _).alloc _).alloc _)) (H'.out.later (((((Later.refl _).alloc _).alloc _).alloc _).alloc _))).mono ?_
   rintro e w1 ⟨rfl, hL1⟩
   rw [H1.out]
   have HLw1 := Lib.hid ((((((Later.refl w).alloc _).alloc _).alloc _).alloc _).trans hL1)
   obtain ⟨K0, K1, K2, K3⟩ := kept4 hL1
   have HK0_1 := Lib.hid K0
   have HK1_1 := Lib.hid K1
   have HK2_1 := Lib.hid K2
   have HK3_1 := Lib.hid K3
   clear K0 K1 K2 K3
   clear hL1
   obtain ⟨c0, f0, z0⟩ := blk_at HK0_1.out
   obtain ⟨c1, f1, z1⟩ := blk_at HK1_1.out
   obtain ⟨c2, f2, z2⟩ := blk_at HK2_1.out
   obtain ⟨c3, f3, z3⟩ := blk_at HK3_1.out
   go_wp2_with fail
   refine (w_implIsSetting _ _ _).mono ?_
   rintro e w2 ⟨rfl, hL2⟩
   rw [H2.out]
   clear c0 f0 z0 c1 f1 z1 c2 f2 z2 c3 f3 z3
   have HLw2 := Lib.hid (HLw1.out.trans hL2)
   have HK0_2 := Lib.hid (hL2.keep HK0_1.out)
   have HK1_2 := Lib.hid (hL2.keep HK1_1.out)
   have HK2_2 := Lib.hid (hL2.keep HK2_1.out)
   have HK3_2 := Lib.hid (hL2.keep HK3_1.out)
   clear hL2
   obtain ⟨c0, f0, z0⟩ := blk_at HK0_2.out
   obtain ⟨c1, f1, z1⟩ := blk_at HK1_2.out
   obtain ⟨c2, f2, z2⟩ := blk_at HK2_2.out
   obtain ⟨c3, f3, z3⟩ := blk_at HK3_2.out
   go_wp2_with fail
   refine (w_implIsFigure _ _ _).mono ?_
   rintro e w3 ⟨rfl, hL3⟩
   rw [H3.out]
   clear c0 f0 z0 c1 f1 z1 c2 f2 z2 c3 f3 z3
   have HLw3 := Lib.hid (HLw2.out.trans hL3)
   have HK0_3 := Lib.hid (hL3.keep HK0_2.out)
   have HK1_3 := Lib.hid (hL3.keep HK1_2.out)
   have HK2_3 := Lib.hid (hL3.keep HK2_2.out)
   have HK3_3 := Lib.hid (hL3.keep HK3_2.out)
   clear hL3
   obtain ⟨c0, f0, z0⟩ := blk_at HK0_3.out
   obtain ⟨c1, f1, z1⟩ := blk_at HK1_3.out
   obtain ⟨c2, f2, z2⟩ := blk_at HK2_3.out
   obtain ⟨c3, f3, z3⟩ := blk_at HK3_3.out
   go_wp2
   refine bodyPost_ret (v := .tuple #[.agg #[.int .i64 0, .int .i64 0], .int .i64 1]) (by simp [results, Tryz.results7, go_sem, c3, z3]) rfl ⟨by rw [HF.out.1, HF.out.2], by have hLw := HLw3.out; exact qla⟩
 cases h4 : hasI sd x
 · have HF := Lib.hid (cur_c (codeOn_2 (b := true) h1 h2 h4) (by omega) h3 : curC ⟨n, st, sd⟩ ⟨sa, sb⟩ true x ⟨d, t⟩ = 2 ∧ curS ⟨n, st, sd⟩ ⟨sa, sb⟩ true x ⟨d, t⟩ = ⟨0, 0⟩)
   have H1 := Lib.hid h1
   have H2 := Lib.hid h2
   have H3 := Lib.hid h3
   have H4 := Lib.hid h4
   clear h1 h2 h3 h4
   go_enter Tryz.func7, Tryz.ntmps7
   go_wp2_with fail
   refine (w_implIsRule _ _ _ _ _ _ (H.out.later (((((Later.refl _).alloc _).alloc _).alloc _).alloc _)) (H'.out.later (((((Later.refl _).alloc _).alloc _).alloc _).alloc _))).mono ?_
   rintro e w1 ⟨rfl, hL1⟩
   rw [H1.out]
   have HLw1 := Lib.hid ((((((Later.refl w).alloc _).alloc _).alloc _).alloc _).trans hL1)
   obtain ⟨K0, K1, K2, K3⟩ := kept4 hL1
   have HK0_1 := Lib.hid K0
   have HK1_1 := Lib.hid K1
   have HK2_1 := Lib.hid K2
   have HK3_1 := Lib.hid K3
   clear K0 K1 K2 K3
   clear hL1
   obtain ⟨c0, f0, z0⟩ := blk_at HK0_1.out
   obtain ⟨c1, f1, z1⟩ := blk_at HK1_1.out
   obtain ⟨c2, f2, z2⟩ := blk_at HK2_1.out
   obtain ⟨c3, f3, z3⟩ := blk_at HK3_1.out
   go_wp2_with fail
   refine (w_implIsSetting _ _ _).mono ?_
   rintro e w2 ⟨rfl, hL2⟩
   rw [H2.out]
   clear c0 f0 z0 c1 f1 z1 c2 f2 z2 c3 f3 z3
   have HLw2 := Lib.hid (HLw1.out.trans hL2)
   have HK0_2 := Lib.hid (hL2.keep HK0_1.out)
   have HK1_2 := Lib.hid (hL2.keep HK1_1.out)
   have HK2_2 := Lib.hid (hL2.keep HK2_1.out)
   have HK3_2 := Lib.hid (hL2.keep HK3_1.out)
   clear hL2
   obtain ⟨c0, f0, z0⟩ := blk_at HK0_2.out
   obtain ⟨c1, f1, z1⟩ := blk_at HK1_2.out
   obtain ⟨c2, f2, z2⟩ := blk_at HK2_2.out
   obtain ⟨c3, f3, z3⟩ := blk_at HK3_2.out
   go_wp2_with fail
   refine (w_implIsFigure _ _ _).mono ?_
   rintro e w3 ⟨rfl, hL3⟩
   rw [H3.out]
   clear c0 f0 z0 c1 f1 z1 c2 f2 z2 c3 f3 z3
   have HLw3 := Lib.hid (HLw2.out.trans hL3)
   have HK0_3 := Lib.hid (hL3.keep HK0_2.out)
   have HK1_3 := Lib.hid (hL3.keep HK1_2.out)
   have HK2_3 := Lib.hid (hL3.keep HK2_2.out)
   have HK3_3 := Lib.hid (hL3.keep HK3_2.out)
   clear hL3
   obtain ⟨c0, f0, z0⟩ := blk_at HK0_3.out
   obtain ⟨c1, f1, z1⟩ := blk_at HK1_3.out
   obtain ⟨c2, f2, z2⟩ := blk_at HK2_3.out
   obtain ⟨c3, f3, z3⟩ := blk_at HK3_3.out
   go_wp2_with fail
   refine (w_hasScale _ _ _ _ _ true _ _ (H.out.later HLw3.out) (H'.out.later HLw3.out)).mono ?_
   rintro e w4 ⟨rfl, hL4⟩
   rw [show hasI (onR ⟨n, st, sd⟩ true) x = _ from H4.out]
   clear c0 f0 z0 c1 f1 z1 c2 f2 z2 c3 f3 z3
   have HLw4 := Lib.hid (HLw3.out.trans hL4)
   have HK0_4 := Lib.hid (hL4.keep HK0_3.out)
   have HK1_4 := Lib.hid (hL4.keep HK1_3.out)
   have HK2_4 := Lib.hid (hL4.keep HK2_3.out)
   have HK3_4 := Lib.hid (hL4.keep HK3_3.out)
   clear hL4
   obtain ⟨c0, f0, z0⟩ := blk_at HK0_4.out
   obtain ⟨c1, f1, z1⟩ := blk_at HK1_4.out
   obtain ⟨c2, f2, z2⟩ := blk_at HK2_4.out
   obtain ⟨c3, f3, z3⟩ := blk_at HK3_4.out
   go_wp2
   refine bodyPost_ret (v := .tuple #[.agg #[.int .i64 0, .int .i64 0], .int .i64 2]) (by simp [results, Tryz.results7, go_sem, c3, z3]) rfl ⟨by rw [HF.out.1, HF.out.2], by have hLw := HLw4.out; exact qla⟩
 have HC := Lib.hid (codeOn_0 (b := true) h1 h2 h4 : codeOn ⟨n, st, sd⟩ ⟨sa, sb⟩ true x = 0)
 have hx := rule_sl h1 h4
 obtain ⟨sx1, sx2⟩ := hx
 have hsb := isStg_bd h2
 simp only at hsb
 obtain ⟨b1, b2, b3, b4⟩ := hsb
 have hfb := isFig_true h3
 simp only at hfb
 obtain ⟨fa, fb, fc, fd⟩ := hfb
 have hpb := ptF_bd (s := x) (f := ⟨d, t⟩) fa fb
 obtain ⟨p, hp⟩ : ∃ y, ptF x ⟨d, t⟩ = y := ⟨_, rfl⟩
 rw [hp] at hpb
 have HP := Lib.hid hp
 have hq : curQ ⟨sa, sb⟩ true x ⟨d, t⟩ = (p + sa) := by simp only [curQ, hp]; rfl
 cases h9 : isStg ⟨sa, (p + sa)⟩
 · have HF := Lib.hid (cur_5 HC.out h3 hq h9 : curC ⟨n, st, sd⟩ ⟨sa, sb⟩ true x ⟨d, t⟩ = 5 ∧ curS ⟨n, st, sd⟩ ⟨sa, sb⟩ true x ⟨d, t⟩ = ⟨0, 0⟩)
   have H9 := Lib.hid h9
   clear h9 hp hq
   have H1 := Lib.hid h1
   have H2 := Lib.hid h2
   have H3 := Lib.hid h3
   have H4 := Lib.hid h4
   clear h1 h2 h3 h4
   go_enter Tryz.func7, Tryz.ntmps7
   go_wp2_with fail
   refine (w_implIsRule _ _ _ _ _ _ (H.out.later (((((Later.refl _).alloc _).alloc _).alloc _).alloc _)) (H'.out.later (((((Later.refl _).alloc _).alloc _).alloc _).alloc _))).mono ?_
   rintro e w1 ⟨rfl, hL1⟩
   rw [H1.out]
   have HLw1 := Lib.hid ((((((Later.refl w).alloc _).alloc _).alloc _).alloc _).trans hL1)
   obtain ⟨K0, K1, K2, K3⟩ := kept4 hL1
   have HK0_1 := Lib.hid K0
   have HK1_1 := Lib.hid K1
   have HK2_1 := Lib.hid K2
   have HK3_1 := Lib.hid K3
   clear K0 K1 K2 K3
   clear hL1
   obtain ⟨c0, f0, z0⟩ := blk_at HK0_1.out
   obtain ⟨c1, f1, z1⟩ := blk_at HK1_1.out
   obtain ⟨c2, f2, z2⟩ := blk_at HK2_1.out
   obtain ⟨c3, f3, z3⟩ := blk_at HK3_1.out
   go_wp2_with fail
   refine (w_implIsSetting _ _ _).mono ?_
   rintro e w2 ⟨rfl, hL2⟩
   rw [H2.out]
   clear c0 f0 z0 c1 f1 z1 c2 f2 z2 c3 f3 z3
   have HLw2 := Lib.hid (HLw1.out.trans hL2)
   have HK0_2 := Lib.hid (hL2.keep HK0_1.out)
   have HK1_2 := Lib.hid (hL2.keep HK1_1.out)
   have HK2_2 := Lib.hid (hL2.keep HK2_1.out)
   have HK3_2 := Lib.hid (hL2.keep HK3_1.out)
   clear hL2
   obtain ⟨c0, f0, z0⟩ := blk_at HK0_2.out
   obtain ⟨c1, f1, z1⟩ := blk_at HK1_2.out
   obtain ⟨c2, f2, z2⟩ := blk_at HK2_2.out
   obtain ⟨c3, f3, z3⟩ := blk_at HK3_2.out
   go_wp2_with fail
   refine (w_implIsFigure _ _ _).mono ?_
   rintro e w3 ⟨rfl, hL3⟩
   rw [H3.out]
   clear c0 f0 z0 c1 f1 z1 c2 f2 z2 c3 f3 z3
   have HLw3 := Lib.hid (HLw2.out.trans hL3)
   have HK0_3 := Lib.hid (hL3.keep HK0_2.out)
   have HK1_3 := Lib.hid (hL3.keep HK1_2.out)
   have HK2_3 := Lib.hid (hL3.keep HK2_2.out)
   have HK3_3 := Lib.hid (hL3.keep HK3_2.out)
   clear hL3
   obtain ⟨c0, f0, z0⟩ := blk_at HK0_3.out
   obtain ⟨c1, f1, z1⟩ := blk_at HK1_3.out
   obtain ⟨c2, f2, z2⟩ := blk_at HK2_3.out
   obtain ⟨c3, f3, z3⟩ := blk_at HK3_3.out
   go_wp2_with fail
   refine (w_hasScale _ _ _ _ _ true _ _ (H.out.later HLw3.out) (H'.out.later HLw3.out)).mono ?_
   rintro e w4 ⟨rfl, hL4⟩
   rw [show hasI (onR ⟨n, st, sd⟩ true) x = _ from H4.out]
   clear c0 f0 z0 c1 f1 z1 c2 f2 z2 c3 f3 z3
   have HLw4 := Lib.hid (HLw3.out.trans hL4)
   have HK0_4 := Lib.hid (hL4.keep HK0_3.out)
   have HK1_4 := Lib.hid (hL4.keep HK1_3.out)
   have HK2_4 := Lib.hid (hL4.keep HK2_3.out)
   have HK3_4 := Lib.hid (hL4.keep HK3_3.out)
   clear hL4
   obtain ⟨c0, f0, z0⟩ := blk_at HK0_4.out
   obtain ⟨c1, f1, z1⟩ := blk_at HK1_4.out
   obtain ⟨c2, f2, z2⟩ := blk_at HK2_4.out
   obtain ⟨c3, f3, z3⟩ := blk_at HK3_4.out
   go_wp2_with fail
   clear c0 f0 z0 c1 f1 z1 c2 f2 z2 c3 f3 z3
   have hL0 := HLw4.out
   have hSB := hL0.size
   have K1 := HK1_4.out
   have K2 := HK2_4.out
   have Kq := HK3_4.out
   have hRBq : w.heap.size ≤ w.heap.size + 1 + 1 + 1 := by omega
   refine region_slots 43 [34, 35, 36, 37, 38, 39, 40, 41, 42, 11] (fun g ac wc => sl ac 2 = .bool true ∧
    sl ac 3 = .int .i64 x ∧
    sl ac 6 = .pointer (some ⟨w.heap.size + 1, 0, none⟩) ∧
    sl ac 9 = .pointer (some ⟨w.heap.size + 1 + 1, 0, none⟩) ∧
    sl ac 10 = .pointer (some ⟨w.heap.size + 1 + 1 + 1, 0, none⟩) ∧
    (g 0 = true → sl ac 34 = .agg #[.int .i64 sa, .int .i64 sb]) ∧
    (g 1 = true → sl ac 35 = .bool true) ∧
    (g 2 = true → sl ac 36 = .int .i64 x) ∧
    (g 3 = true → sl ac 37 = .agg #[.int .i64 d, .int .i64 t]) ∧
    (g 4 = true → sl ac 38 = .int .i64 p) ∧
    (g 5 = true → sl ac 39 = .agg #[.int .i64 sa, .int .i64 (p + sa)]) ∧
    (g 6 = true → sl ac 40 = .tuple #[.agg #[.int .i64 0, .int .i64 0], .int .i64 5]) ∧
    (g 7 = true → sl ac 41 = .agg #[.int .i64 0, .int .i64 0]) ∧
    (g 8 = true → sl ac 42 = .int .i64 5) ∧
    (g 10 = true → sl ac 11 = .int .i64 5) ∧
    Later w wc ∧
    w4.heap.size ≤ wc.heap.size ∧
    wc.heap[w.heap.size + 1]? = some (.cells #[.int .i64 sa, .int .i64 sb] 28 (0, 0)) ∧
    wc.heap[w.heap.size + 1 + 1]? = some (.cells #[.int .i64 d, .int .i64 t] 30 (0, 0)) ∧
    (∃ q0 q1, wc.heap[w.heap.size + 1 + 1 + 1]? = some (.cells #[q0, q1] 28 (0, 0)) ∧ (g 9 = true → q0 = .int .i64 0 ∧ q1 = .int .i64 0))) (by kernel_rfl) (by kernel_rfl) rfl (by kernel_rfl) ?_ ?_ ?_
   · exact ⟨rfl, rfl, rfl, rfl, rfl, nofun, nofun, nofun, nofun, nofun, nofun, nofun, nofun, nofun, nofun, hL0.drew, Nat.le_refl _, K1, K2, ⟨_, _, Kq, nofun⟩⟩
   · intro g ac wu hg ha hI
     obtain ⟨x2, x3, x6, x9, x10, i0, i1, i2, i3, i4, i5, i6, i7, i8, i10, hL, hS, B1, B2, Rq⟩ := hI
     have a0 := i0 (hg 0 (by simp))
     have a1 := i1 (hg 1 (by simp))
     have a2 := i2 (hg 2 (by simp))
     have a3 := i3 (hg 3 (by simp))
     have a4 := i4 (hg 4 (by simp))
     have a5 := i5 (hg 5 (by simp))
     have a6 := i6 (hg 6 (by simp))
     have a7 := i7 (hg 7 (by simp))
     have a8 := i8 (hg 8 (by simp))
     have a10 := i10 (hg 10 (by simp))
     obtain ⟨q0, q1, Kq, gr⟩ := Rq
     have gr := gr (hg 9 (by simp))
     rw [gr.1, gr.2] at Kq
     clear gr
     simp only [putAll, a0, a1, a2, a3, a4, a5, a6, a7, a8, a10] at ha
     simp only [Act.put, List.setIfInBounds_toArray, List.set_cons_succ, List.set_cons_zero] at ha
     rw [ha]
     clear x2 x3 x6 x9 x10 i0 i1 i2 i3 i4 i5 i6 i7 i8 i10 a0 a1 a2 a3 a4 a5 a6 a7 a8 a10 hg ha
     obtain ⟨c3, f3, z3⟩ := blk_at Kq
     go_wp2
     refine bodyPost_ret (v := .tuple #[.agg #[.int .i64 0, .int .i64 0], .int .i64 5]) (by simp [results, Tryz.results7, go_sem, c3, z3]) rfl ⟨by rw [HF.out.1, HF.out.2], hL⟩
   · refine .cons ?_ (.cons ?_ (.cons ?_ (.cons ?_ (.cons ?_ (.cons ?_ (.cons ?_ (.cons ?_ (.cons ?_ (.cons ?_ (.cons ?_ .nil))))))))))
     · refine qst fun g ac wc hn hk hr HI K' hK => ?_
       obtain ⟨x2, x3, x6, x9, x10, -, -, -, -, -, -, -, -, -, -, hL, hS, B1, B2, Rq⟩ := HI.out
       simp [Region.binds] at hr
       obtain ⟨c0, f0, z0⟩ := blk_at B1
       go_simp
       obtain ⟨-, -, -, -, -, i0, i1, i2, i3, i4, i5, i6, i7, i8, i10, -⟩ := HI.out
       exact hK.out _ _ ⟨qB x2, qB x3, qB x6, qB x9, qB x10, qP, qF i1, qF i2, qF i3, qF i4, qF i5, qF i6, qF i7, qF i8, qF i10, hL, hS, B1, B2, Rq⟩
     · refine qst fun g ac wc hn hk hr HI K' hK => ?_
       obtain ⟨x2, x3, x6, x9, x10, -, -, -, -, -, -, -, -, -, -, hL, hS, B1, B2, Rq⟩ := HI.out
       simp [Region.binds] at hr
       go_simp
       obtain ⟨-, -, -, -, -, i0, i1, i2, i3, i4, i5, i6, i7, i8, i10, -⟩ := HI.out
       exact hK.out _ _ ⟨qB x2, qB x3, qB x6, qB x9, qB x10, qF i0, qP, qF i2, qF i3, qF i4, qF i5, qF i6, qF i7, qF i8, qF i10, hL, hS, B1, B2, Rq⟩
     · refine qst fun g ac wc hn hk hr HI K' hK => ?_
       obtain ⟨x2, x3, x6, x9, x10, -, -, -, -, -, -, -, -, -, -, hL, hS, B1, B2, Rq⟩ := HI.out
       simp [Region.binds] at hr
       go_simp
       obtain ⟨-, -, -, -, -, i0, i1, i2, i3, i4, i5, i6, i7, i8, i10, -⟩ := HI.out
       exact hK.out _ _ ⟨qB x2, qB x3, qB x6, qB x9, qB x10, qF i0, qF i1, qP, qF i3, qF i4, qF i5, qF i6, qF i7, qF i8, qF i10, hL, hS, B1, B2, Rq⟩
     · refine qst fun g ac wc hn hk hr HI K' hK => ?_
       obtain ⟨x2, x3, x6, x9, x10, -, -, -, -, -, -, -, -, -, -, hL, hS, B1, B2, Rq⟩ := HI.out
       simp [Region.binds] at hr
       obtain ⟨c0, f0, z0⟩ := blk_at B2
       go_simp
       obtain ⟨-, -, -, -, -, i0, i1, i2, i3, i4, i5, i6, i7, i8, i10, -⟩ := HI.out
       exact hK.out _ _ ⟨qB x2, qB x3, qB x6, qB x9, qB x10, qF i0, qF i1, qF i2, qP, qF i4, qF i5, qF i6, qF i7, qF i8, qF i10, hL, hS, B1, B2, Rq⟩
     · refine qst fun g ac wc hn hk hr HI K' hK => ?_
       obtain ⟨x2, x3, x6, x9, x10, -, -, i2, i3, -, -, -, -, -, -, hL, hS, B1, B2, Rq⟩ := HI.out
       simp [Region.binds] at hr
       have y2 := i2 (by simp [hr])
       have y3 := i3 (by simp [hr])
       clear i2 i3
       go_simp
       refine (w_implPoint _ _ _ sx1 sx2 fa fb (by omega) (by omega) _).mono ?_
       rintro e w4 ⟨rfl, hL4⟩
       rw [HP.out]
       obtain ⟨-, -, -, -, -, i0, i1, i2, i3, i4, i5, i6, i7, i8, i10, -⟩ := HI.out
       exact hK.out _ _ ⟨qB x2, qB x3, qB x6, qB x9, qB x10, qF i0, qF i1, qF i2, qF i3, qP, qF i5, qF i6, qF i7, qF i8, qF i10, hL.trans hL4, Nat.le_trans hS hL4.size, hL4.keep B1, hL4.keep B2, (by obtain ⟨q0, q1, R1, R2⟩ := Rq; exact ⟨q0, q1, hL4.keep R1, R2⟩)⟩
     · refine qst fun g ac wc hn hk hr HI K' hK => ?_
       obtain ⟨x2, x3, x6, x9, x10, i0, i1, -, -, i4, -, -, -, -, -, hL, hS, B1, B2, Rq⟩ := HI.out
       simp [Region.binds] at hr
       have y0 := i0 (by simp [hr])
       have y1 := i1 (by simp [hr])
       have y4 := i4 (by simp [hr])
       clear i0 i1 i4
       go_simp
       refine (w_setCursor1 sa sb p (by omega) (by omega) (by omega) (by omega) _).mono ?_
       rintro e w4 ⟨rfl, hL4⟩
       obtain ⟨-, -, -, -, -, i0, i1, i2, i3, i4, i5, i6, i7, i8, i10, -⟩ := HI.out
       exact hK.out _ _ ⟨qB x2, qB x3, qB x6, qB x9, qB x10, qF i0, qF i1, qF i2, qF i3, qF i4, qP, qF i6, qF i7, qF i8, qF i10, hL.trans hL4, Nat.le_trans hS hL4.size, hL4.keep B1, hL4.keep B2, (by obtain ⟨q0, q1, R1, R2⟩ := Rq; exact ⟨q0, q1, hL4.keep R1, R2⟩)⟩
     · refine qst fun g ac wc hn hk hr HI K' hK => ?_
       obtain ⟨x2, x3, x6, x9, x10, -, -, -, -, -, i5, -, -, -, -, hL, hS, B1, B2, Rq⟩ := HI.out
       simp [Region.binds] at hr
       have y5 := i5 (by simp [hr])
       clear i5
       go_simp
       refine (w_valid0 _ _ _ H9.out).mono ?_
       rintro e w4 ⟨rfl, hL4⟩
       obtain ⟨-, -, -, -, -, i0, i1, i2, i3, i4, i5, i6, i7, i8, i10, -⟩ := HI.out
       exact hK.out _ _ ⟨qB x2, qB x3, qB x6, qB x9, qB x10, qF i0, qF i1, qF i2, qF i3, qF i4, qF i5, qP, qF i7, qF i8, qF i10, hL.trans hL4, Nat.le_trans hS hL4.size, hL4.keep B1, hL4.keep B2, (by obtain ⟨q0, q1, R1, R2⟩ := Rq; exact ⟨q0, q1, hL4.keep R1, R2⟩)⟩
     · refine qst fun g ac wc hn hk hr HI K' hK => ?_
       obtain ⟨x2, x3, x6, x9, x10, -, -, -, -, -, -, i6, -, -, -, hL, hS, B1, B2, Rq⟩ := HI.out
       simp [Region.binds] at hr
       have y6 := i6 (by simp [hr])
       have z6 := sl_get y6 (by omega)
       clear i6
       go_simp
       obtain ⟨-, -, -, -, -, i0, i1, i2, i3, i4, i5, i6, i7, i8, i10, -⟩ := HI.out
       exact hK.out _ _ ⟨qB x2, qB x3, qB x6, qB x9, qB x10, qF i0, qF i1, qF i2, qF i3, qF i4, qF i5, qF i6, qP, qF i8, qF i10, hL, hS, B1, B2, Rq⟩
     · refine qst fun g ac wc hn hk hr HI K' hK => ?_
       obtain ⟨x2, x3, x6, x9, x10, -, -, -, -, -, -, i6, -, -, -, hL, hS, B1, B2, Rq⟩ := HI.out
       simp [Region.binds] at hr
       have y6 := i6 (by simp [hr])
       have z6 := sl_get y6 (by omega)
       clear i6
       go_simp
       obtain ⟨-, -, -, -, -, i0, i1, i2, i3, i4, i5, i6, i7, i8, i10, -⟩ := HI.out
       exact hK.out _ _ ⟨qB x2, qB x3, qB x6, qB x9, qB x10, qF i0, qF i1, qF i2, qF i3, qF i4, qF i5, qF i6, qF i7, qP, qF i10, hL, hS, B1, B2, Rq⟩
     · refine qst fun g ac wc hn hk hr HI K' hK => ?_
       obtain ⟨x2, x3, x6, x9, x10, -, -, -, -, -, -, -, i7, -, -, hL, hS, B1, B2, Rq⟩ := HI.out
       simp [Region.binds] at hr
       have y7 := i7 (by simp [hr])
       clear i7
       obtain ⟨q0, q1, R1, -⟩ := Rq
       obtain ⟨c0, f0, z0⟩ := blk_at R1
       go_simp
       obtain ⟨-, -, -, -, -, i0, i1, i2, i3, i4, i5, i6, i7, i8, i10, -⟩ := HI.out
       exact hK.out undef _ ⟨x2, x3, x6, x9, x10, i0, i1, i2, i3, i4, i5, i6, i7, i8, i10, ((hL.setCell hRBq _).setCell hRBq _), (by simp; omega), (other_set (other_set B1 (by omega) _) (by omega) _), (other_set (other_set B2 (by omega) _) (by omega) _), ⟨_, _, two_set R1 _ _, fun _ => ⟨rfl, rfl⟩⟩⟩
     · refine qst fun g ac wc hn hk hr HI K' hK => ?_
       obtain ⟨x2, x3, x6, x9, x10, -, -, -, -, -, -, -, -, i8, -, hL, hS, B1, B2, Rq⟩ := HI.out
       simp [Region.binds] at hr
       have y8 := i8 (by simp [hr])
       clear i8
       go_simp
       obtain ⟨-, -, -, -, -, i0, i1, i2, i3, i4, i5, i6, i7, i8, i10, -⟩ := HI.out
       exact hK.out _ _ ⟨qB x2, qB x3, qB x6, qB x9, qB x10, qF i0, qF i1, qF i2, qF i3, qF i4, qF i5, qF i6, qF i7, qF i8, qP, hL, hS, B1, B2, Rq⟩
 · have HF := Lib.hid (cur_0 HC.out h3 hq h9 : curC ⟨n, st, sd⟩ ⟨sa, sb⟩ true x ⟨d, t⟩ = 0 ∧ curS ⟨n, st, sd⟩ ⟨sa, sb⟩ true x ⟨d, t⟩ = ⟨sa, (p + sa)⟩)
   have H9 := Lib.hid h9
   clear h9 hp hq
   have H1 := Lib.hid h1
   have H2 := Lib.hid h2
   have H3 := Lib.hid h3
   have H4 := Lib.hid h4
   clear h1 h2 h3 h4
   go_enter Tryz.func7, Tryz.ntmps7
   go_wp2_with fail
   refine (w_implIsRule _ _ _ _ _ _ (H.out.later (((((Later.refl _).alloc _).alloc _).alloc _).alloc _)) (H'.out.later (((((Later.refl _).alloc _).alloc _).alloc _).alloc _))).mono ?_
   rintro e w1 ⟨rfl, hL1⟩
   rw [H1.out]
   have HLw1 := Lib.hid ((((((Later.refl w).alloc _).alloc _).alloc _).alloc _).trans hL1)
   obtain ⟨K0, K1, K2, K3⟩ := kept4 hL1
   have HK0_1 := Lib.hid K0
   have HK1_1 := Lib.hid K1
   have HK2_1 := Lib.hid K2
   have HK3_1 := Lib.hid K3
   clear K0 K1 K2 K3
   clear hL1
   obtain ⟨c0, f0, z0⟩ := blk_at HK0_1.out
   obtain ⟨c1, f1, z1⟩ := blk_at HK1_1.out
   obtain ⟨c2, f2, z2⟩ := blk_at HK2_1.out
   obtain ⟨c3, f3, z3⟩ := blk_at HK3_1.out
   go_wp2_with fail
   refine (w_implIsSetting _ _ _).mono ?_
   rintro e w2 ⟨rfl, hL2⟩
   rw [H2.out]
   clear c0 f0 z0 c1 f1 z1 c2 f2 z2 c3 f3 z3
   have HLw2 := Lib.hid (HLw1.out.trans hL2)
   have HK0_2 := Lib.hid (hL2.keep HK0_1.out)
   have HK1_2 := Lib.hid (hL2.keep HK1_1.out)
   have HK2_2 := Lib.hid (hL2.keep HK2_1.out)
   have HK3_2 := Lib.hid (hL2.keep HK3_1.out)
   clear hL2
   obtain ⟨c0, f0, z0⟩ := blk_at HK0_2.out
   obtain ⟨c1, f1, z1⟩ := blk_at HK1_2.out
   obtain ⟨c2, f2, z2⟩ := blk_at HK2_2.out
   obtain ⟨c3, f3, z3⟩ := blk_at HK3_2.out
   go_wp2_with fail
   refine (w_implIsFigure _ _ _).mono ?_
   rintro e w3 ⟨rfl, hL3⟩
   rw [H3.out]
   clear c0 f0 z0 c1 f1 z1 c2 f2 z2 c3 f3 z3
   have HLw3 := Lib.hid (HLw2.out.trans hL3)
   have HK0_3 := Lib.hid (hL3.keep HK0_2.out)
   have HK1_3 := Lib.hid (hL3.keep HK1_2.out)
   have HK2_3 := Lib.hid (hL3.keep HK2_2.out)
   have HK3_3 := Lib.hid (hL3.keep HK3_2.out)
   clear hL3
   obtain ⟨c0, f0, z0⟩ := blk_at HK0_3.out
   obtain ⟨c1, f1, z1⟩ := blk_at HK1_3.out
   obtain ⟨c2, f2, z2⟩ := blk_at HK2_3.out
   obtain ⟨c3, f3, z3⟩ := blk_at HK3_3.out
   go_wp2_with fail
   refine (w_hasScale _ _ _ _ _ true _ _ (H.out.later HLw3.out) (H'.out.later HLw3.out)).mono ?_
   rintro e w4 ⟨rfl, hL4⟩
   rw [show hasI (onR ⟨n, st, sd⟩ true) x = _ from H4.out]
   clear c0 f0 z0 c1 f1 z1 c2 f2 z2 c3 f3 z3
   have HLw4 := Lib.hid (HLw3.out.trans hL4)
   have HK0_4 := Lib.hid (hL4.keep HK0_3.out)
   have HK1_4 := Lib.hid (hL4.keep HK1_3.out)
   have HK2_4 := Lib.hid (hL4.keep HK2_3.out)
   have HK3_4 := Lib.hid (hL4.keep HK3_3.out)
   clear hL4
   obtain ⟨c0, f0, z0⟩ := blk_at HK0_4.out
   obtain ⟨c1, f1, z1⟩ := blk_at HK1_4.out
   obtain ⟨c2, f2, z2⟩ := blk_at HK2_4.out
   obtain ⟨c3, f3, z3⟩ := blk_at HK3_4.out
   go_wp2_with fail
   clear c0 f0 z0 c1 f1 z1 c2 f2 z2 c3 f3 z3
   have hL0 := HLw4.out
   have hSB := hL0.size
   have K1 := HK1_4.out
   have K2 := HK2_4.out
   have Kq := HK3_4.out
   have hRBq : w.heap.size ≤ w.heap.size + 1 + 1 + 1 := by omega
   refine region_slots 43 [34, 35, 36, 37, 38, 39, 40, 41, 42, 11] (fun g ac wc => sl ac 2 = .bool true ∧
    sl ac 3 = .int .i64 x ∧
    sl ac 6 = .pointer (some ⟨w.heap.size + 1, 0, none⟩) ∧
    sl ac 9 = .pointer (some ⟨w.heap.size + 1 + 1, 0, none⟩) ∧
    sl ac 10 = .pointer (some ⟨w.heap.size + 1 + 1 + 1, 0, none⟩) ∧
    (g 0 = true → sl ac 34 = .agg #[.int .i64 sa, .int .i64 sb]) ∧
    (g 1 = true → sl ac 35 = .bool true) ∧
    (g 2 = true → sl ac 36 = .int .i64 x) ∧
    (g 3 = true → sl ac 37 = .agg #[.int .i64 d, .int .i64 t]) ∧
    (g 4 = true → sl ac 38 = .int .i64 p) ∧
    (g 5 = true → sl ac 39 = .agg #[.int .i64 sa, .int .i64 (p + sa)]) ∧
    (g 6 = true → sl ac 40 = .tuple #[.agg #[.int .i64 sa, .int .i64 (p + sa)], .int .i64 0]) ∧
    (g 7 = true → sl ac 41 = .agg #[.int .i64 sa, .int .i64 (p + sa)]) ∧
    (g 8 = true → sl ac 42 = .int .i64 0) ∧
    (g 10 = true → sl ac 11 = .int .i64 0) ∧
    Later w wc ∧
    w4.heap.size ≤ wc.heap.size ∧
    wc.heap[w.heap.size + 1]? = some (.cells #[.int .i64 sa, .int .i64 sb] 28 (0, 0)) ∧
    wc.heap[w.heap.size + 1 + 1]? = some (.cells #[.int .i64 d, .int .i64 t] 30 (0, 0)) ∧
    (∃ q0 q1, wc.heap[w.heap.size + 1 + 1 + 1]? = some (.cells #[q0, q1] 28 (0, 0)) ∧ (g 9 = true → q0 = .int .i64 sa ∧ q1 = .int .i64 (p + sa)))) (by kernel_rfl) (by kernel_rfl) rfl (by kernel_rfl) ?_ ?_ ?_
   · exact ⟨rfl, rfl, rfl, rfl, rfl, nofun, nofun, nofun, nofun, nofun, nofun, nofun, nofun, nofun, nofun, hL0.drew, Nat.le_refl _, K1, K2, ⟨_, _, Kq, nofun⟩⟩
   · intro g ac wu hg ha hI
     obtain ⟨x2, x3, x6, x9, x10, i0, i1, i2, i3, i4, i5, i6, i7, i8, i10, hL, hS, B1, B2, Rq⟩ := hI
     have a0 := i0 (hg 0 (by simp))
     have a1 := i1 (hg 1 (by simp))
     have a2 := i2 (hg 2 (by simp))
     have a3 := i3 (hg 3 (by simp))
     have a4 := i4 (hg 4 (by simp))
     have a5 := i5 (hg 5 (by simp))
     have a6 := i6 (hg 6 (by simp))
     have a7 := i7 (hg 7 (by simp))
     have a8 := i8 (hg 8 (by simp))
     have a10 := i10 (hg 10 (by simp))
     obtain ⟨q0, q1, Kq, gr⟩ := Rq
     have gr := gr (hg 9 (by simp))
     rw [gr.1, gr.2] at Kq
     clear gr
     simp only [putAll, a0, a1, a2, a3, a4, a5, a6, a7, a8, a10] at ha
     simp only [Act.put, List.setIfInBounds_toArray, List.set_cons_succ, List.set_cons_zero] at ha
     rw [ha]
     clear x2 x3 x6 x9 x10 i0 i1 i2 i3 i4 i5 i6 i7 i8 i10 a0 a1 a2 a3 a4 a5 a6 a7 a8 a10 hg ha
     obtain ⟨c3, f3, z3⟩ := blk_at Kq
     go_wp2
     refine bodyPost_ret (v := .tuple #[.agg #[.int .i64 sa, .int .i64 (p + sa)], .int .i64 0]) (by simp [results, Tryz.results7, go_sem, c3, z3]) rfl ⟨by rw [HF.out.1, HF.out.2], hL⟩
   · refine .cons ?_ (.cons ?_ (.cons ?_ (.cons ?_ (.cons ?_ (.cons ?_ (.cons ?_ (.cons ?_ (.cons ?_ (.cons ?_ (.cons ?_ .nil))))))))))
     · refine qst fun g ac wc hn hk hr HI K' hK => ?_
       obtain ⟨x2, x3, x6, x9, x10, -, -, -, -, -, -, -, -, -, -, hL, hS, B1, B2, Rq⟩ := HI.out
       simp [Region.binds] at hr
       obtain ⟨c0, f0, z0⟩ := blk_at B1
       go_simp
       obtain ⟨-, -, -, -, -, i0, i1, i2, i3, i4, i5, i6, i7, i8, i10, -⟩ := HI.out
       exact hK.out _ _ ⟨qB x2, qB x3, qB x6, qB x9, qB x10, qP, qF i1, qF i2, qF i3, qF i4, qF i5, qF i6, qF i7, qF i8, qF i10, hL, hS, B1, B2, Rq⟩
     · refine qst fun g ac wc hn hk hr HI K' hK => ?_
       obtain ⟨x2, x3, x6, x9, x10, -, -, -, -, -, -, -, -, -, -, hL, hS, B1, B2, Rq⟩ := HI.out
       simp [Region.binds] at hr
       go_simp
       obtain ⟨-, -, -, -, -, i0, i1, i2, i3, i4, i5, i6, i7, i8, i10, -⟩ := HI.out
       exact hK.out _ _ ⟨qB x2, qB x3, qB x6, qB x9, qB x10, qF i0, qP, qF i2, qF i3, qF i4, qF i5, qF i6, qF i7, qF i8, qF i10, hL, hS, B1, B2, Rq⟩
     · refine qst fun g ac wc hn hk hr HI K' hK => ?_
       obtain ⟨x2, x3, x6, x9, x10, -, -, -, -, -, -, -, -, -, -, hL, hS, B1, B2, Rq⟩ := HI.out
       simp [Region.binds] at hr
       go_simp
       obtain ⟨-, -, -, -, -, i0, i1, i2, i3, i4, i5, i6, i7, i8, i10, -⟩ := HI.out
       exact hK.out _ _ ⟨qB x2, qB x3, qB x6, qB x9, qB x10, qF i0, qF i1, qP, qF i3, qF i4, qF i5, qF i6, qF i7, qF i8, qF i10, hL, hS, B1, B2, Rq⟩
     · refine qst fun g ac wc hn hk hr HI K' hK => ?_
       obtain ⟨x2, x3, x6, x9, x10, -, -, -, -, -, -, -, -, -, -, hL, hS, B1, B2, Rq⟩ := HI.out
       simp [Region.binds] at hr
       obtain ⟨c0, f0, z0⟩ := blk_at B2
       go_simp
       obtain ⟨-, -, -, -, -, i0, i1, i2, i3, i4, i5, i6, i7, i8, i10, -⟩ := HI.out
       exact hK.out _ _ ⟨qB x2, qB x3, qB x6, qB x9, qB x10, qF i0, qF i1, qF i2, qP, qF i4, qF i5, qF i6, qF i7, qF i8, qF i10, hL, hS, B1, B2, Rq⟩
     · refine qst fun g ac wc hn hk hr HI K' hK => ?_
       obtain ⟨x2, x3, x6, x9, x10, -, -, i2, i3, -, -, -, -, -, -, hL, hS, B1, B2, Rq⟩ := HI.out
       simp [Region.binds] at hr
       have y2 := i2 (by simp [hr])
       have y3 := i3 (by simp [hr])
       clear i2 i3
       go_simp
       refine (w_implPoint _ _ _ sx1 sx2 fa fb (by omega) (by omega) _).mono ?_
       rintro e w4 ⟨rfl, hL4⟩
       rw [HP.out]
       obtain ⟨-, -, -, -, -, i0, i1, i2, i3, i4, i5, i6, i7, i8, i10, -⟩ := HI.out
       exact hK.out _ _ ⟨qB x2, qB x3, qB x6, qB x9, qB x10, qF i0, qF i1, qF i2, qF i3, qP, qF i5, qF i6, qF i7, qF i8, qF i10, hL.trans hL4, Nat.le_trans hS hL4.size, hL4.keep B1, hL4.keep B2, (by obtain ⟨q0, q1, R1, R2⟩ := Rq; exact ⟨q0, q1, hL4.keep R1, R2⟩)⟩
     · refine qst fun g ac wc hn hk hr HI K' hK => ?_
       obtain ⟨x2, x3, x6, x9, x10, i0, i1, -, -, i4, -, -, -, -, -, hL, hS, B1, B2, Rq⟩ := HI.out
       simp [Region.binds] at hr
       have y0 := i0 (by simp [hr])
       have y1 := i1 (by simp [hr])
       have y4 := i4 (by simp [hr])
       clear i0 i1 i4
       go_simp
       refine (w_setCursor1 sa sb p (by omega) (by omega) (by omega) (by omega) _).mono ?_
       rintro e w4 ⟨rfl, hL4⟩
       obtain ⟨-, -, -, -, -, i0, i1, i2, i3, i4, i5, i6, i7, i8, i10, -⟩ := HI.out
       exact hK.out _ _ ⟨qB x2, qB x3, qB x6, qB x9, qB x10, qF i0, qF i1, qF i2, qF i3, qF i4, qP, qF i6, qF i7, qF i8, qF i10, hL.trans hL4, Nat.le_trans hS hL4.size, hL4.keep B1, hL4.keep B2, (by obtain ⟨q0, q1, R1, R2⟩ := Rq; exact ⟨q0, q1, hL4.keep R1, R2⟩)⟩
     · refine qst fun g ac wc hn hk hr HI K' hK => ?_
       obtain ⟨x2, x3, x6, x9, x10, -, -, -, -, -, i5, -, -, -, -, hL, hS, B1, B2, Rq⟩ := HI.out
       simp [Region.binds] at hr
       have y5 := i5 (by simp [hr])
       clear i5
       go_simp
       refine (w_valid1 _ _ _ H9.out).mono ?_
       rintro e w4 ⟨rfl, hL4⟩
       obtain ⟨-, -, -, -, -, i0, i1, i2, i3, i4, i5, i6, i7, i8, i10, -⟩ := HI.out
       exact hK.out _ _ ⟨qB x2, qB x3, qB x6, qB x9, qB x10, qF i0, qF i1, qF i2, qF i3, qF i4, qF i5, qP, qF i7, qF i8, qF i10, hL.trans hL4, Nat.le_trans hS hL4.size, hL4.keep B1, hL4.keep B2, (by obtain ⟨q0, q1, R1, R2⟩ := Rq; exact ⟨q0, q1, hL4.keep R1, R2⟩)⟩
     · refine qst fun g ac wc hn hk hr HI K' hK => ?_
       obtain ⟨x2, x3, x6, x9, x10, -, -, -, -, -, -, i6, -, -, -, hL, hS, B1, B2, Rq⟩ := HI.out
       simp [Region.binds] at hr
       have y6 := i6 (by simp [hr])
       have z6 := sl_get y6 (by omega)
       clear i6
       go_simp
       obtain ⟨-, -, -, -, -, i0, i1, i2, i3, i4, i5, i6, i7, i8, i10, -⟩ := HI.out
       exact hK.out _ _ ⟨qB x2, qB x3, qB x6, qB x9, qB x10, qF i0, qF i1, qF i2, qF i3, qF i4, qF i5, qF i6, qP, qF i8, qF i10, hL, hS, B1, B2, Rq⟩
     · refine qst fun g ac wc hn hk hr HI K' hK => ?_
       obtain ⟨x2, x3, x6, x9, x10, -, -, -, -, -, -, i6, -, -, -, hL, hS, B1, B2, Rq⟩ := HI.out
       simp [Region.binds] at hr
       have y6 := i6 (by simp [hr])
       have z6 := sl_get y6 (by omega)
       clear i6
       go_simp
       obtain ⟨-, -, -, -, -, i0, i1, i2, i3, i4, i5, i6, i7, i8, i10, -⟩ := HI.out
       exact hK.out _ _ ⟨qB x2, qB x3, qB x6, qB x9, qB x10, qF i0, qF i1, qF i2, qF i3, qF i4, qF i5, qF i6, qF i7, qP, qF i10, hL, hS, B1, B2, Rq⟩
     · refine qst fun g ac wc hn hk hr HI K' hK => ?_
       obtain ⟨x2, x3, x6, x9, x10, -, -, -, -, -, -, -, i7, -, -, hL, hS, B1, B2, Rq⟩ := HI.out
       simp [Region.binds] at hr
       have y7 := i7 (by simp [hr])
       clear i7
       obtain ⟨q0, q1, R1, -⟩ := Rq
       obtain ⟨c0, f0, z0⟩ := blk_at R1
       go_simp
       obtain ⟨-, -, -, -, -, i0, i1, i2, i3, i4, i5, i6, i7, i8, i10, -⟩ := HI.out
       exact hK.out undef _ ⟨x2, x3, x6, x9, x10, i0, i1, i2, i3, i4, i5, i6, i7, i8, i10, ((hL.setCell hRBq _).setCell hRBq _), (by simp; omega), (other_set (other_set B1 (by omega) _) (by omega) _), (other_set (other_set B2 (by omega) _) (by omega) _), ⟨_, _, two_set R1 _ _, fun _ => ⟨rfl, rfl⟩⟩⟩
     · refine qst fun g ac wc hn hk hr HI K' hK => ?_
       obtain ⟨x2, x3, x6, x9, x10, -, -, -, -, -, -, -, -, i8, -, hL, hS, B1, B2, Rq⟩ := HI.out
       simp [Region.binds] at hr
       have y8 := i8 (by simp [hr])
       clear i8
       go_simp
       obtain ⟨-, -, -, -, -, i0, i1, i2, i3, i4, i5, i6, i7, i8, i10, -⟩ := HI.out
       exact hK.out _ _ ⟨qB x2, qB x3, qB x6, qB x9, qB x10, qF i0, qF i1, qF i2, qF i3, qF i4, qF i5, qF i6, qF i7, qF i8, qP, hL, hS, B1, B2, Rq⟩
theorem w_implSetCursor (n : Int) (u v : Value) (st sd : List Int) (sa sb : Int) (b : Bool) (x d t : Int) (w : World) (h : IsNums w u st) (h' : IsNums w v sd) :
 Calls Tryz.prog 7 #[.agg #[.int .i64 n, u, v], .agg #[.int .i64 sa, .int .i64 sb], .bool b, .int .i64 x, .agg #[.int .i64 d, .int .i64 t]] w fun e w' => e = .returned (.tuple #[.agg #[.int .i64 (curS ⟨n, st, sd⟩ ⟨sa, sb⟩ b x ⟨d, t⟩).sh, .int .i64 (curS ⟨n, st, sd⟩ ⟨sa, sb⟩ b x ⟨d, t⟩).cu], .int .i64 (curC ⟨n, st, sd⟩ ⟨sa, sb⟩ b x ⟨d, t⟩)]) ∧ Later w w' := by
 cases b
 · exact w_implSetCursor0 n u v st sd sa sb x d t w h h'
 · exact w_implSetCursor1 n u v st sd sa sb x d t w h h'
set_option maxHeartbeats 2000000 in
theorem w_specSetCursor0 (n : Int) (u v : Value) (st sd : List Int) (sa sb x d t : Int) (w : World) (h : IsNums w u st) (h' : IsNums w v sd) :
 Calls Tryz.prog 8 #[.agg #[.int .i64 n, u, v], .agg #[.int .i64 sa, .int .i64 sb], .bool false, .int .i64 x, .agg #[.int .i64 d, .int .i64 t]] w fun e w' => e = .returned (.tuple #[.agg #[.int .i64 (curS ⟨n, st, sd⟩ ⟨sa, sb⟩ false x ⟨d, t⟩).sh, .int .i64 (curS ⟨n, st, sd⟩ ⟨sa, sb⟩ false x ⟨d, t⟩).cu], .int .i64 (curC ⟨n, st, sd⟩ ⟨sa, sb⟩ false x ⟨d, t⟩)]) ∧ Later w w' := by
 have H := Lib.hid h
 have H' := Lib.hid h'
 obtain ⟨_, _, au, capu, rfl, _, _, _⟩ := h
 obtain ⟨_, _, av, capv, rfl, _, _, _⟩ := h'
 obtain ⟨k, hk⟩ : ∃ k, codeOn ⟨n, st, sd⟩ ⟨sa, sb⟩ false x = k := ⟨_, rfl⟩
 cases h1 : isFig ⟨d, t⟩
 · have HF := Lib.hid (cur_f h1 : curC ⟨n, st, sd⟩ ⟨sa, sb⟩ false x ⟨d, t⟩ = 1 ∧ curS ⟨n, st, sd⟩ ⟨sa, sb⟩ false x ⟨d, t⟩ = ⟨0, 0⟩)
   have HC := Lib.hid hk
   clear hk
   have H1 := Lib.hid h1
   clear h1
   go_enter Tryz.func8, Tryz.ntmps8
   go_wp2_with fail
   refine (w_l11Code _ _ _ _ _ _ _ false _ _ (H.out.later (((((Later.refl _).alloc _).alloc _).alloc _).alloc _)) (H'.out.later (((((Later.refl _).alloc _).alloc _).alloc _).alloc _))).mono ?_
   rintro e w1 ⟨rfl, hL1⟩
   rw [HC.out]
   have HLw1 := Lib.hid ((((((Later.refl w).alloc _).alloc _).alloc _).alloc _).trans hL1)
   obtain ⟨K0, K1, K2, K3⟩ := kept4 hL1
   have HK0_1 := Lib.hid K0
   have HK1_1 := Lib.hid K1
   have HK2_1 := Lib.hid K2
   have HK3_1 := Lib.hid K3
   clear K0 K1 K2 K3
   clear hL1
   obtain ⟨c0, f0, z0⟩ := blk_at HK0_1.out
   obtain ⟨c1, f1, z1⟩ := blk_at HK1_1.out
   obtain ⟨c2, f2, z2⟩ := blk_at HK2_1.out
   obtain ⟨c3, f3, z3⟩ := blk_at HK3_1.out
   go_wp2_with fail
   refine (w_specIsFigure _ _ _).mono ?_
   rintro e w2 ⟨rfl, hL2⟩
   rw [H1.out]
   clear c0 f0 z0 c1 f1 z1 c2 f2 z2 c3 f3 z3
   have HLw2 := Lib.hid (HLw1.out.trans hL2)
   have HK0_2 := Lib.hid (hL2.keep HK0_1.out)
   have HK1_2 := Lib.hid (hL2.keep HK1_1.out)
   have HK2_2 := Lib.hid (hL2.keep HK2_1.out)
   have HK3_2 := Lib.hid (hL2.keep HK3_1.out)
   clear hL2
   obtain ⟨c0, f0, z0⟩ := blk_at HK0_2.out
   obtain ⟨c1, f1, z1⟩ := blk_at HK1_2.out
   obtain ⟨c2, f2, z2⟩ := blk_at HK2_2.out
   obtain ⟨c3, f3, z3⟩ := blk_at HK3_2.out
   go_wp2
   refine bodyPost_ret (v := .tuple #[.agg #[.int .i64 0, .int .i64 0], .int .i64 1]) (by simp [results, Tryz.results8, go_sem, c3, z3]) rfl ⟨by rw [HF.out.1, HF.out.2], by have hLw := HLw2.out; exact qla⟩
 by_cases hk0 : k = 0
 rotate_left
 · have HF := Lib.hid (cur_c hk hk0 h1 : curC ⟨n, st, sd⟩ ⟨sa, sb⟩ false x ⟨d, t⟩ = k ∧ curS ⟨n, st, sd⟩ ⟨sa, sb⟩ false x ⟨d, t⟩ = ⟨0, 0⟩)
   have HC := Lib.hid hk
   have hkb : (k == 0) = false := by simpa using hk0
   clear hk
   have H1 := Lib.hid h1
   clear h1
   go_enter Tryz.func8, Tryz.ntmps8
   go_wp2_with fail
   refine (w_l11Code _ _ _ _ _ _ _ false _ _ (H.out.later (((((Later.refl _).alloc _).alloc _).alloc _).alloc _)) (H'.out.later (((((Later.refl _).alloc _).alloc _).alloc _).alloc _))).mono ?_
   rintro e w1 ⟨rfl, hL1⟩
   rw [HC.out]
   have HLw1 := Lib.hid ((((((Later.refl w).alloc _).alloc _).alloc _).alloc _).trans hL1)
   obtain ⟨K0, K1, K2, K3⟩ := kept4 hL1
   have HK0_1 := Lib.hid K0
   have HK1_1 := Lib.hid K1
   have HK2_1 := Lib.hid K2
   have HK3_1 := Lib.hid K3
   clear K0 K1 K2 K3
   clear hL1
   obtain ⟨c0, f0, z0⟩ := blk_at HK0_1.out
   obtain ⟨c1, f1, z1⟩ := blk_at HK1_1.out
   obtain ⟨c2, f2, z2⟩ := blk_at HK2_1.out
   obtain ⟨c3, f3, z3⟩ := blk_at HK3_1.out
   go_wp2_with fail
   refine (w_specIsFigure _ _ _).mono ?_
   rintro e w2 ⟨rfl, hL2⟩
   rw [H1.out]
   clear c0 f0 z0 c1 f1 z1 c2 f2 z2 c3 f3 z3
   have HLw2 := Lib.hid (HLw1.out.trans hL2)
   have HK0_2 := Lib.hid (hL2.keep HK0_1.out)
   have HK1_2 := Lib.hid (hL2.keep HK1_1.out)
   have HK2_2 := Lib.hid (hL2.keep HK2_1.out)
   have HK3_2 := Lib.hid (hL2.keep HK3_1.out)
   clear hL2
   obtain ⟨c0, f0, z0⟩ := blk_at HK0_2.out
   obtain ⟨c1, f1, z1⟩ := blk_at HK1_2.out
   obtain ⟨c2, f2, z2⟩ := blk_at HK2_2.out
   obtain ⟨c3, f3, z3⟩ := blk_at HK3_2.out
   go_wp2
   refine bodyPost_ret (v := .tuple #[.agg #[.int .i64 0, .int .i64 0], .int .i64 k]) (by simp [results, Tryz.results8, go_sem, c3, z3]) rfl ⟨by rw [HF.out.1, HF.out.2], by have hLw := HLw2.out; exact qla⟩
 subst hk0
 obtain ⟨hr, h2, hs⟩ := codeOn_inv hk
 have hx := rule_st hr hs
 clear hr hs
 have HC := Lib.hid hk
 clear hk
 obtain ⟨sx1, sx2⟩ := hx
 have hsb := isStg_bd h2
 simp only at hsb
 obtain ⟨b1, b2, b3, b4⟩ := hsb
 have hfb := isFig_true h1
 simp only at hfb
 obtain ⟨fa, fb, fc, fd⟩ := hfb
 have hpb := ptF_bd (s := x) (f := ⟨d, t⟩) fa fb
 obtain ⟨p, hp⟩ : ∃ y, ptF x ⟨d, t⟩ = y := ⟨_, rfl⟩
 rw [hp] at hpb
 have HP := Lib.hid hp
 have hq : curQ ⟨sa, sb⟩ false x ⟨d, t⟩ = p := by simp only [curQ, hp]; rfl
 cases h9 : isStg ⟨sa, p⟩
 · have HF := Lib.hid (cur_5 HC.out h1 hq h9 : curC ⟨n, st, sd⟩ ⟨sa, sb⟩ false x ⟨d, t⟩ = 5 ∧ curS ⟨n, st, sd⟩ ⟨sa, sb⟩ false x ⟨d, t⟩ = ⟨0, 0⟩)
   have H9 := Lib.hid h9
   clear h9 hp hq
   have H1 := Lib.hid h1
   have H2 := Lib.hid h2
   clear h1 h2
   go_enter Tryz.func8, Tryz.ntmps8
   go_wp2_with fail
   refine (w_l11Code _ _ _ _ _ _ _ false _ _ (H.out.later (((((Later.refl _).alloc _).alloc _).alloc _).alloc _)) (H'.out.later (((((Later.refl _).alloc _).alloc _).alloc _).alloc _))).mono ?_
   rintro e w1 ⟨rfl, hL1⟩
   rw [HC.out]
   have HLw1 := Lib.hid ((((((Later.refl w).alloc _).alloc _).alloc _).alloc _).trans hL1)
   obtain ⟨K0, K1, K2, K3⟩ := kept4 hL1
   have HK0_1 := Lib.hid K0
   have HK1_1 := Lib.hid K1
   have HK2_1 := Lib.hid K2
   have HK3_1 := Lib.hid K3
   clear K0 K1 K2 K3
   clear hL1
   obtain ⟨c0, f0, z0⟩ := blk_at HK0_1.out
   obtain ⟨c1, f1, z1⟩ := blk_at HK1_1.out
   obtain ⟨c2, f2, z2⟩ := blk_at HK2_1.out
   obtain ⟨c3, f3, z3⟩ := blk_at HK3_1.out
   go_wp2_with fail
   refine (w_specIsFigure _ _ _).mono ?_
   rintro e w2 ⟨rfl, hL2⟩
   rw [H1.out]
   clear c0 f0 z0 c1 f1 z1 c2 f2 z2 c3 f3 z3
   have HLw2 := Lib.hid (HLw1.out.trans hL2)
   have HK0_2 := Lib.hid (hL2.keep HK0_1.out)
   have HK1_2 := Lib.hid (hL2.keep HK1_1.out)
   have HK2_2 := Lib.hid (hL2.keep HK2_1.out)
   have HK3_2 := Lib.hid (hL2.keep HK3_1.out)
   clear hL2
   obtain ⟨c0, f0, z0⟩ := blk_at HK0_2.out
   obtain ⟨c1, f1, z1⟩ := blk_at HK1_2.out
   obtain ⟨c2, f2, z2⟩ := blk_at HK2_2.out
   obtain ⟨c3, f3, z3⟩ := blk_at HK3_2.out
   go_wp2_with fail
   refine (w_l11Cursor0 _ _ _ _ _ sx1 sx2 fa fb (by omega) (by omega) (by omega) (by omega) (by omega) (by omega) _).mono ?_
   rintro e w3 ⟨rfl, hL3⟩
   rw [HP.out]
   clear c0 f0 z0 c1 f1 z1 c2 f2 z2 c3 f3 z3
   have HLw3 := Lib.hid (HLw2.out.trans hL3)
   have HK0_3 := Lib.hid (hL3.keep HK0_2.out)
   have HK1_3 := Lib.hid (hL3.keep HK1_2.out)
   have HK2_3 := Lib.hid (hL3.keep HK2_2.out)
   have HK3_3 := Lib.hid (hL3.keep HK3_2.out)
   clear hL3
   obtain ⟨c0, f0, z0⟩ := blk_at HK0_3.out
   obtain ⟨c1, f1, z1⟩ := blk_at HK1_3.out
   obtain ⟨c2, f2, z2⟩ := blk_at HK2_3.out
   obtain ⟨c3, f3, z3⟩ := blk_at HK3_3.out
   go_wp2_with fail
   refine (w_l11Result0 _ _ _ H9.out).mono ?_
   rintro e w4 ⟨rfl, hL4⟩
   clear c0 f0 z0 c1 f1 z1 c2 f2 z2 c3 f3 z3
   have HLw4 := Lib.hid (HLw3.out.trans hL4)
   have HK0_4 := Lib.hid (hL4.keep HK0_3.out)
   have HK1_4 := Lib.hid (hL4.keep HK1_3.out)
   have HK2_4 := Lib.hid (hL4.keep HK2_3.out)
   have HK3_4 := Lib.hid (hL4.keep HK3_3.out)
   clear hL4
   obtain ⟨c0, f0, z0⟩ := blk_at HK0_4.out
   obtain ⟨c1, f1, z1⟩ := blk_at HK1_4.out
   obtain ⟨c2, f2, z2⟩ := blk_at HK2_4.out
   obtain ⟨c3, f3, z3⟩ := blk_at HK3_4.out
   go_wp2
   refine bodyPost_ret (v := .tuple #[.agg #[.int .i64 0, .int .i64 0], .int .i64 5]) (by simp [results, Tryz.results8, go_sem, c3, z3]) rfl ⟨by rw [HF.out.1, HF.out.2], by have hLw := HLw4.out; exact qla⟩
 · have HF := Lib.hid (cur_0 HC.out h1 hq h9 : curC ⟨n, st, sd⟩ ⟨sa, sb⟩ false x ⟨d, t⟩ = 0 ∧ curS ⟨n, st, sd⟩ ⟨sa, sb⟩ false x ⟨d, t⟩ = ⟨sa, p⟩)
   have H9 := Lib.hid h9
   clear h9 hp hq
   have H1 := Lib.hid h1
   have H2 := Lib.hid h2
   clear h1 h2
   go_enter Tryz.func8, Tryz.ntmps8
   go_wp2_with fail
   refine (w_l11Code _ _ _ _ _ _ _ false _ _ (H.out.later (((((Later.refl _).alloc _).alloc _).alloc _).alloc _)) (H'.out.later (((((Later.refl _).alloc _).alloc _).alloc _).alloc _))).mono ?_
   rintro e w1 ⟨rfl, hL1⟩
   rw [HC.out]
   have HLw1 := Lib.hid ((((((Later.refl w).alloc _).alloc _).alloc _).alloc _).trans hL1)
   obtain ⟨K0, K1, K2, K3⟩ := kept4 hL1
   have HK0_1 := Lib.hid K0
   have HK1_1 := Lib.hid K1
   have HK2_1 := Lib.hid K2
   have HK3_1 := Lib.hid K3
   clear K0 K1 K2 K3
   clear hL1
   obtain ⟨c0, f0, z0⟩ := blk_at HK0_1.out
   obtain ⟨c1, f1, z1⟩ := blk_at HK1_1.out
   obtain ⟨c2, f2, z2⟩ := blk_at HK2_1.out
   obtain ⟨c3, f3, z3⟩ := blk_at HK3_1.out
   go_wp2_with fail
   refine (w_specIsFigure _ _ _).mono ?_
   rintro e w2 ⟨rfl, hL2⟩
   rw [H1.out]
   clear c0 f0 z0 c1 f1 z1 c2 f2 z2 c3 f3 z3
   have HLw2 := Lib.hid (HLw1.out.trans hL2)
   have HK0_2 := Lib.hid (hL2.keep HK0_1.out)
   have HK1_2 := Lib.hid (hL2.keep HK1_1.out)
   have HK2_2 := Lib.hid (hL2.keep HK2_1.out)
   have HK3_2 := Lib.hid (hL2.keep HK3_1.out)
   clear hL2
   obtain ⟨c0, f0, z0⟩ := blk_at HK0_2.out
   obtain ⟨c1, f1, z1⟩ := blk_at HK1_2.out
   obtain ⟨c2, f2, z2⟩ := blk_at HK2_2.out
   obtain ⟨c3, f3, z3⟩ := blk_at HK3_2.out
   go_wp2_with fail
   refine (w_l11Cursor0 _ _ _ _ _ sx1 sx2 fa fb (by omega) (by omega) (by omega) (by omega) (by omega) (by omega) _).mono ?_
   rintro e w3 ⟨rfl, hL3⟩
   rw [HP.out]
   clear c0 f0 z0 c1 f1 z1 c2 f2 z2 c3 f3 z3
   have HLw3 := Lib.hid (HLw2.out.trans hL3)
   have HK0_3 := Lib.hid (hL3.keep HK0_2.out)
   have HK1_3 := Lib.hid (hL3.keep HK1_2.out)
   have HK2_3 := Lib.hid (hL3.keep HK2_2.out)
   have HK3_3 := Lib.hid (hL3.keep HK3_2.out)
   clear hL3
   obtain ⟨c0, f0, z0⟩ := blk_at HK0_3.out
   obtain ⟨c1, f1, z1⟩ := blk_at HK1_3.out
   obtain ⟨c2, f2, z2⟩ := blk_at HK2_3.out
   obtain ⟨c3, f3, z3⟩ := blk_at HK3_3.out
   go_wp2_with fail
   refine (w_l11Result1 _ _ _ H9.out).mono ?_
   rintro e w4 ⟨rfl, hL4⟩
   clear c0 f0 z0 c1 f1 z1 c2 f2 z2 c3 f3 z3
   have HLw4 := Lib.hid (HLw3.out.trans hL4)
   have HK0_4 := Lib.hid (hL4.keep HK0_3.out)
   have HK1_4 := Lib.hid (hL4.keep HK1_3.out)
   have HK2_4 := Lib.hid (hL4.keep HK2_3.out)
   have HK3_4 := Lib.hid (hL4.keep HK3_3.out)
   clear hL4
   obtain ⟨c0, f0, z0⟩ := blk_at HK0_4.out
   obtain ⟨c1, f1, z1⟩ := blk_at HK1_4.out
   obtain ⟨c2, f2, z2⟩ := blk_at HK2_4.out
   obtain ⟨c3, f3, z3⟩ := blk_at HK3_4.out
   go_wp2
   refine bodyPost_ret (v := .tuple #[.agg #[.int .i64 sa, .int .i64 p], .int .i64 0]) (by simp [results, Tryz.results8, go_sem, c3, z3]) rfl ⟨by rw [HF.out.1, HF.out.2], by have hLw := HLw4.out; exact qla⟩
set_option maxHeartbeats 2000000 in
theorem w_specSetCursor1 (n : Int) (u v : Value) (st sd : List Int) (sa sb x d t : Int) (w : World) (h : IsNums w u st) (h' : IsNums w v sd) :
 Calls Tryz.prog 8 #[.agg #[.int .i64 n, u, v], .agg #[.int .i64 sa, .int .i64 sb], .bool true, .int .i64 x, .agg #[.int .i64 d, .int .i64 t]] w fun e w' => e = .returned (.tuple #[.agg #[.int .i64 (curS ⟨n, st, sd⟩ ⟨sa, sb⟩ true x ⟨d, t⟩).sh, .int .i64 (curS ⟨n, st, sd⟩ ⟨sa, sb⟩ true x ⟨d, t⟩).cu], .int .i64 (curC ⟨n, st, sd⟩ ⟨sa, sb⟩ true x ⟨d, t⟩)]) ∧ Later w w' := by
 have H := Lib.hid h
 have H' := Lib.hid h'
 obtain ⟨_, _, au, capu, rfl, _, _, _⟩ := h
 obtain ⟨_, _, av, capv, rfl, _, _, _⟩ := h'
 obtain ⟨k, hk⟩ : ∃ k, codeOn ⟨n, st, sd⟩ ⟨sa, sb⟩ true x = k := ⟨_, rfl⟩
 cases h1 : isFig ⟨d, t⟩
 · have HF := Lib.hid (cur_f h1 : curC ⟨n, st, sd⟩ ⟨sa, sb⟩ true x ⟨d, t⟩ = 1 ∧ curS ⟨n, st, sd⟩ ⟨sa, sb⟩ true x ⟨d, t⟩ = ⟨0, 0⟩)
   have HC := Lib.hid hk
   clear hk
   have H1 := Lib.hid h1
   clear h1
   go_enter Tryz.func8, Tryz.ntmps8
   go_wp2_with fail
   refine (w_l11Code _ _ _ _ _ _ _ true _ _ (H.out.later (((((Later.refl _).alloc _).alloc _).alloc _).alloc _)) (H'.out.later (((((Later.refl _).alloc _).alloc _).alloc _).alloc _))).mono ?_
   rintro e w1 ⟨rfl, hL1⟩
   rw [HC.out]
   have HLw1 := Lib.hid ((((((Later.refl w).alloc _).alloc _).alloc _).alloc _).trans hL1)
   obtain ⟨K0, K1, K2, K3⟩ := kept4 hL1
   have HK0_1 := Lib.hid K0
   have HK1_1 := Lib.hid K1
   have HK2_1 := Lib.hid K2
   have HK3_1 := Lib.hid K3
   clear K0 K1 K2 K3
   clear hL1
   obtain ⟨c0, f0, z0⟩ := blk_at HK0_1.out
   obtain ⟨c1, f1, z1⟩ := blk_at HK1_1.out
   obtain ⟨c2, f2, z2⟩ := blk_at HK2_1.out
   obtain ⟨c3, f3, z3⟩ := blk_at HK3_1.out
   go_wp2_with fail
   refine (w_specIsFigure _ _ _).mono ?_
   rintro e w2 ⟨rfl, hL2⟩
   rw [H1.out]
   clear c0 f0 z0 c1 f1 z1 c2 f2 z2 c3 f3 z3
   have HLw2 := Lib.hid (HLw1.out.trans hL2)
   have HK0_2 := Lib.hid (hL2.keep HK0_1.out)
   have HK1_2 := Lib.hid (hL2.keep HK1_1.out)
   have HK2_2 := Lib.hid (hL2.keep HK2_1.out)
   have HK3_2 := Lib.hid (hL2.keep HK3_1.out)
   clear hL2
   obtain ⟨c0, f0, z0⟩ := blk_at HK0_2.out
   obtain ⟨c1, f1, z1⟩ := blk_at HK1_2.out
   obtain ⟨c2, f2, z2⟩ := blk_at HK2_2.out
   obtain ⟨c3, f3, z3⟩ := blk_at HK3_2.out
   go_wp2
   refine bodyPost_ret (v := .tuple #[.agg #[.int .i64 0, .int .i64 0], .int .i64 1]) (by simp [results, Tryz.results8, go_sem, c3, z3]) rfl ⟨by rw [HF.out.1, HF.out.2], by have hLw := HLw2.out; exact qla⟩
 by_cases hk0 : k = 0
 rotate_left
 · have HF := Lib.hid (cur_c hk hk0 h1 : curC ⟨n, st, sd⟩ ⟨sa, sb⟩ true x ⟨d, t⟩ = k ∧ curS ⟨n, st, sd⟩ ⟨sa, sb⟩ true x ⟨d, t⟩ = ⟨0, 0⟩)
   have HC := Lib.hid hk
   have hkb : (k == 0) = false := by simpa using hk0
   clear hk
   have H1 := Lib.hid h1
   clear h1
   go_enter Tryz.func8, Tryz.ntmps8
   go_wp2_with fail
   refine (w_l11Code _ _ _ _ _ _ _ true _ _ (H.out.later (((((Later.refl _).alloc _).alloc _).alloc _).alloc _)) (H'.out.later (((((Later.refl _).alloc _).alloc _).alloc _).alloc _))).mono ?_
   rintro e w1 ⟨rfl, hL1⟩
   rw [HC.out]
   have HLw1 := Lib.hid ((((((Later.refl w).alloc _).alloc _).alloc _).alloc _).trans hL1)
   obtain ⟨K0, K1, K2, K3⟩ := kept4 hL1
   have HK0_1 := Lib.hid K0
   have HK1_1 := Lib.hid K1
   have HK2_1 := Lib.hid K2
   have HK3_1 := Lib.hid K3
   clear K0 K1 K2 K3
   clear hL1
   obtain ⟨c0, f0, z0⟩ := blk_at HK0_1.out
   obtain ⟨c1, f1, z1⟩ := blk_at HK1_1.out
   obtain ⟨c2, f2, z2⟩ := blk_at HK2_1.out
   obtain ⟨c3, f3, z3⟩ := blk_at HK3_1.out
   go_wp2_with fail
   refine (w_specIsFigure _ _ _).mono ?_
   rintro e w2 ⟨rfl, hL2⟩
   rw [H1.out]
   clear c0 f0 z0 c1 f1 z1 c2 f2 z2 c3 f3 z3
   have HLw2 := Lib.hid (HLw1.out.trans hL2)
   have HK0_2 := Lib.hid (hL2.keep HK0_1.out)
   have HK1_2 := Lib.hid (hL2.keep HK1_1.out)
   have HK2_2 := Lib.hid (hL2.keep HK2_1.out)
   have HK3_2 := Lib.hid (hL2.keep HK3_1.out)
   clear hL2
   obtain ⟨c0, f0, z0⟩ := blk_at HK0_2.out
   obtain ⟨c1, f1, z1⟩ := blk_at HK1_2.out
   obtain ⟨c2, f2, z2⟩ := blk_at HK2_2.out
   obtain ⟨c3, f3, z3⟩ := blk_at HK3_2.out
   go_wp2
   refine bodyPost_ret (v := .tuple #[.agg #[.int .i64 0, .int .i64 0], .int .i64 k]) (by simp [results, Tryz.results8, go_sem, c3, z3]) rfl ⟨by rw [HF.out.1, HF.out.2], by have hLw := HLw2.out; exact qla⟩
 subst hk0
 obtain ⟨hr, h2, hs⟩ := codeOn_inv hk
 have hx := rule_sl hr hs
 clear hr hs
 have HC := Lib.hid hk
 clear hk
 obtain ⟨sx1, sx2⟩ := hx
 have hsb := isStg_bd h2
 simp only at hsb
 obtain ⟨b1, b2, b3, b4⟩ := hsb
 have hfb := isFig_true h1
 simp only at hfb
 obtain ⟨fa, fb, fc, fd⟩ := hfb
 have hpb := ptF_bd (s := x) (f := ⟨d, t⟩) fa fb
 obtain ⟨p, hp⟩ : ∃ y, ptF x ⟨d, t⟩ = y := ⟨_, rfl⟩
 rw [hp] at hpb
 have HP := Lib.hid hp
 have hq : curQ ⟨sa, sb⟩ true x ⟨d, t⟩ = (p + sa) := by simp only [curQ, hp]; rfl
 cases h9 : isStg ⟨sa, (p + sa)⟩
 · have HF := Lib.hid (cur_5 HC.out h1 hq h9 : curC ⟨n, st, sd⟩ ⟨sa, sb⟩ true x ⟨d, t⟩ = 5 ∧ curS ⟨n, st, sd⟩ ⟨sa, sb⟩ true x ⟨d, t⟩ = ⟨0, 0⟩)
   have H9 := Lib.hid h9
   clear h9 hp hq
   have H1 := Lib.hid h1
   have H2 := Lib.hid h2
   clear h1 h2
   go_enter Tryz.func8, Tryz.ntmps8
   go_wp2_with fail
   refine (w_l11Code _ _ _ _ _ _ _ true _ _ (H.out.later (((((Later.refl _).alloc _).alloc _).alloc _).alloc _)) (H'.out.later (((((Later.refl _).alloc _).alloc _).alloc _).alloc _))).mono ?_
   rintro e w1 ⟨rfl, hL1⟩
   rw [HC.out]
   have HLw1 := Lib.hid ((((((Later.refl w).alloc _).alloc _).alloc _).alloc _).trans hL1)
   obtain ⟨K0, K1, K2, K3⟩ := kept4 hL1
   have HK0_1 := Lib.hid K0
   have HK1_1 := Lib.hid K1
   have HK2_1 := Lib.hid K2
   have HK3_1 := Lib.hid K3
   clear K0 K1 K2 K3
   clear hL1
   obtain ⟨c0, f0, z0⟩ := blk_at HK0_1.out
   obtain ⟨c1, f1, z1⟩ := blk_at HK1_1.out
   obtain ⟨c2, f2, z2⟩ := blk_at HK2_1.out
   obtain ⟨c3, f3, z3⟩ := blk_at HK3_1.out
   go_wp2_with fail
   refine (w_specIsFigure _ _ _).mono ?_
   rintro e w2 ⟨rfl, hL2⟩
   rw [H1.out]
   clear c0 f0 z0 c1 f1 z1 c2 f2 z2 c3 f3 z3
   have HLw2 := Lib.hid (HLw1.out.trans hL2)
   have HK0_2 := Lib.hid (hL2.keep HK0_1.out)
   have HK1_2 := Lib.hid (hL2.keep HK1_1.out)
   have HK2_2 := Lib.hid (hL2.keep HK2_1.out)
   have HK3_2 := Lib.hid (hL2.keep HK3_1.out)
   clear hL2
   obtain ⟨c0, f0, z0⟩ := blk_at HK0_2.out
   obtain ⟨c1, f1, z1⟩ := blk_at HK1_2.out
   obtain ⟨c2, f2, z2⟩ := blk_at HK2_2.out
   obtain ⟨c3, f3, z3⟩ := blk_at HK3_2.out
   go_wp2_with fail
   refine (w_l11Cursor1 _ _ _ _ _ sx1 sx2 fa fb (by omega) (by omega) (by omega) (by omega) (by omega) (by omega) _).mono ?_
   rintro e w3 ⟨rfl, hL3⟩
   rw [HP.out]
   clear c0 f0 z0 c1 f1 z1 c2 f2 z2 c3 f3 z3
   have HLw3 := Lib.hid (HLw2.out.trans hL3)
   have HK0_3 := Lib.hid (hL3.keep HK0_2.out)
   have HK1_3 := Lib.hid (hL3.keep HK1_2.out)
   have HK2_3 := Lib.hid (hL3.keep HK2_2.out)
   have HK3_3 := Lib.hid (hL3.keep HK3_2.out)
   clear hL3
   obtain ⟨c0, f0, z0⟩ := blk_at HK0_3.out
   obtain ⟨c1, f1, z1⟩ := blk_at HK1_3.out
   obtain ⟨c2, f2, z2⟩ := blk_at HK2_3.out
   obtain ⟨c3, f3, z3⟩ := blk_at HK3_3.out
   go_wp2_with fail
   refine (w_l11Result0 _ _ _ H9.out).mono ?_
   rintro e w4 ⟨rfl, hL4⟩
   clear c0 f0 z0 c1 f1 z1 c2 f2 z2 c3 f3 z3
   have HLw4 := Lib.hid (HLw3.out.trans hL4)
   have HK0_4 := Lib.hid (hL4.keep HK0_3.out)
   have HK1_4 := Lib.hid (hL4.keep HK1_3.out)
   have HK2_4 := Lib.hid (hL4.keep HK2_3.out)
   have HK3_4 := Lib.hid (hL4.keep HK3_3.out)
   clear hL4
   obtain ⟨c0, f0, z0⟩ := blk_at HK0_4.out
   obtain ⟨c1, f1, z1⟩ := blk_at HK1_4.out
   obtain ⟨c2, f2, z2⟩ := blk_at HK2_4.out
   obtain ⟨c3, f3, z3⟩ := blk_at HK3_4.out
   go_wp2
   refine bodyPost_ret (v := .tuple #[.agg #[.int .i64 0, .int .i64 0], .int .i64 5]) (by simp [results, Tryz.results8, go_sem, c3, z3]) rfl ⟨by rw [HF.out.1, HF.out.2], by have hLw := HLw4.out; exact qla⟩
 · have HF := Lib.hid (cur_0 HC.out h1 hq h9 : curC ⟨n, st, sd⟩ ⟨sa, sb⟩ true x ⟨d, t⟩ = 0 ∧ curS ⟨n, st, sd⟩ ⟨sa, sb⟩ true x ⟨d, t⟩ = ⟨sa, (p + sa)⟩)
   have H9 := Lib.hid h9
   clear h9 hp hq
   have H1 := Lib.hid h1
   have H2 := Lib.hid h2
   clear h1 h2
   go_enter Tryz.func8, Tryz.ntmps8
   go_wp2_with fail
   refine (w_l11Code _ _ _ _ _ _ _ true _ _ (H.out.later (((((Later.refl _).alloc _).alloc _).alloc _).alloc _)) (H'.out.later (((((Later.refl _).alloc _).alloc _).alloc _).alloc _))).mono ?_
   rintro e w1 ⟨rfl, hL1⟩
   rw [HC.out]
   have HLw1 := Lib.hid ((((((Later.refl w).alloc _).alloc _).alloc _).alloc _).trans hL1)
   obtain ⟨K0, K1, K2, K3⟩ := kept4 hL1
   have HK0_1 := Lib.hid K0
   have HK1_1 := Lib.hid K1
   have HK2_1 := Lib.hid K2
   have HK3_1 := Lib.hid K3
   clear K0 K1 K2 K3
   clear hL1
   obtain ⟨c0, f0, z0⟩ := blk_at HK0_1.out
   obtain ⟨c1, f1, z1⟩ := blk_at HK1_1.out
   obtain ⟨c2, f2, z2⟩ := blk_at HK2_1.out
   obtain ⟨c3, f3, z3⟩ := blk_at HK3_1.out
   go_wp2_with fail
   refine (w_specIsFigure _ _ _).mono ?_
   rintro e w2 ⟨rfl, hL2⟩
   rw [H1.out]
   clear c0 f0 z0 c1 f1 z1 c2 f2 z2 c3 f3 z3
   have HLw2 := Lib.hid (HLw1.out.trans hL2)
   have HK0_2 := Lib.hid (hL2.keep HK0_1.out)
   have HK1_2 := Lib.hid (hL2.keep HK1_1.out)
   have HK2_2 := Lib.hid (hL2.keep HK2_1.out)
   have HK3_2 := Lib.hid (hL2.keep HK3_1.out)
   clear hL2
   obtain ⟨c0, f0, z0⟩ := blk_at HK0_2.out
   obtain ⟨c1, f1, z1⟩ := blk_at HK1_2.out
   obtain ⟨c2, f2, z2⟩ := blk_at HK2_2.out
   obtain ⟨c3, f3, z3⟩ := blk_at HK3_2.out
   go_wp2_with fail
   refine (w_l11Cursor1 _ _ _ _ _ sx1 sx2 fa fb (by omega) (by omega) (by omega) (by omega) (by omega) (by omega) _).mono ?_
   rintro e w3 ⟨rfl, hL3⟩
   rw [HP.out]
   clear c0 f0 z0 c1 f1 z1 c2 f2 z2 c3 f3 z3
   have HLw3 := Lib.hid (HLw2.out.trans hL3)
   have HK0_3 := Lib.hid (hL3.keep HK0_2.out)
   have HK1_3 := Lib.hid (hL3.keep HK1_2.out)
   have HK2_3 := Lib.hid (hL3.keep HK2_2.out)
   have HK3_3 := Lib.hid (hL3.keep HK3_2.out)
   clear hL3
   obtain ⟨c0, f0, z0⟩ := blk_at HK0_3.out
   obtain ⟨c1, f1, z1⟩ := blk_at HK1_3.out
   obtain ⟨c2, f2, z2⟩ := blk_at HK2_3.out
   obtain ⟨c3, f3, z3⟩ := blk_at HK3_3.out
   go_wp2_with fail
   refine (w_l11Result1 _ _ _ H9.out).mono ?_
   rintro e w4 ⟨rfl, hL4⟩
   clear c0 f0 z0 c1 f1 z1 c2 f2 z2 c3 f3 z3
   have HLw4 := Lib.hid (HLw3.out.trans hL4)
   have HK0_4 := Lib.hid (hL4.keep HK0_3.out)
   have HK1_4 := Lib.hid (hL4.keep HK1_3.out)
   have HK2_4 := Lib.hid (hL4.keep HK2_3.out)
   have HK3_4 := Lib.hid (hL4.keep HK3_3.out)
   clear hL4
   obtain ⟨c0, f0, z0⟩ := blk_at HK0_4.out
   obtain ⟨c1, f1, z1⟩ := blk_at HK1_4.out
   obtain ⟨c2, f2, z2⟩ := blk_at HK2_4.out
   obtain ⟨c3, f3, z3⟩ := blk_at HK3_4.out
   go_wp2
   refine bodyPost_ret (v := .tuple #[.agg #[.int .i64 sa, .int .i64 (p + sa)], .int .i64 0]) (by simp [results, Tryz.results8, go_sem, c3, z3]) rfl ⟨by rw [HF.out.1, HF.out.2], by have hLw := HLw4.out; exact qla⟩
theorem w_specSetCursor (n : Int) (u v : Value) (st sd : List Int) (sa sb : Int) (b : Bool) (x d t : Int) (w : World) (h : IsNums w u st) (h' : IsNums w v sd) :
 Calls Tryz.prog 8 #[.agg #[.int .i64 n, u, v], .agg #[.int .i64 sa, .int .i64 sb], .bool b, .int .i64 x, .agg #[.int .i64 d, .int .i64 t]] w fun e w' => e = .returned (.tuple #[.agg #[.int .i64 (curS ⟨n, st, sd⟩ ⟨sa, sb⟩ b x ⟨d, t⟩).sh, .int .i64 (curS ⟨n, st, sd⟩ ⟨sa, sb⟩ b x ⟨d, t⟩).cu], .int .i64 (curC ⟨n, st, sd⟩ ⟨sa, sb⟩ b x ⟨d, t⟩)]) ∧ Later w w' := by
 cases b
 · exact w_specSetCursor0 n u v st sd sa sb x d t w h h'
 · exact w_specSetCursor1 n u v st sd sa sb x d t w h h'
set_option maxHeartbeats 1000000 in
theorem w_implHasScale (n : Int) (u v : Value) (st sd : List Int) (b : Bool) (x : Int) (w : World) (h : IsNums w u st) (h' : IsNums w v sd) :
 Calls Tryz.prog 16 #[.agg #[.int .i64 n, u, v], .bool b, .int .i64 x] w fun e w' => e = .returned (.tuple #[.bool (hsB ⟨n, st, sd⟩ b x), .int .i64 (hsC ⟨n, st, sd⟩)]) ∧ Later w w' := by
 have H := Lib.hid h
 have H' := Lib.hid h'
 obtain ⟨_, _, au, capu, rfl, _, _, _⟩ := h
 obtain ⟨_, _, av, capv, rfl, _, _, _⟩ := h'
 cases h1 : isRule ⟨n, st, sd⟩
 · have HF := Lib.hid (show hsB ⟨n, st, sd⟩ b x = false ∧ hsC ⟨n, st, sd⟩ = 1 from by simp [hsB, hsC, h1])
   have H1 := Lib.hid h1
   clear h1
   go_enter Tryz.func16, Tryz.ntmps16
   go_wp2_with fail
   refine (w_implIsRule _ _ _ _ _ _ (H.out.later ((Later.refl _).alloc _)) (H'.out.later ((Later.refl _).alloc _))).mono ?_
   rintro e w1 ⟨rfl, hL1⟩
   rw [H1.out]
   have HLw1 := Lib.hid (((Later.refl w).alloc _).trans hL1)
   have K0 := kept1 hL1
   have HK0_1 := Lib.hid K0
   clear K0
   clear hL1
   obtain ⟨c0, f0, z0⟩ := blk_at HK0_1.out
   go_wp2
   go_ret2
   exact ⟨by rw [HF.out.1, HF.out.2]; rfl, by have hLw := HLw1.out; exact qla⟩
 · obtain ⟨q, hq⟩ : ∃ q, hasI (onR ⟨n, st, sd⟩ b) x = q := ⟨_, rfl⟩
   have HF := Lib.hid (show hsB ⟨n, st, sd⟩ b x = q ∧ hsC ⟨n, st, sd⟩ = 0 from by simp [hsB, hsC, h1, hq])
   have H1 := Lib.hid h1
   have HQ := Lib.hid hq
   clear h1 hq
   go_enter Tryz.func16, Tryz.ntmps16
   go_wp2_with fail
   refine (w_implIsRule _ _ _ _ _ _ (H.out.later ((Later.refl _).alloc _)) (H'.out.later ((Later.refl _).alloc _))).mono ?_
   rintro e w1 ⟨rfl, hL1⟩
   rw [H1.out]
   have HLw1 := Lib.hid (((Later.refl w).alloc _).trans hL1)
   have K0 := kept1 hL1
   have HK0_1 := Lib.hid K0
   clear K0
   clear hL1
   obtain ⟨c0, f0, z0⟩ := blk_at HK0_1.out
   go_wp2_with fail
   refine (w_hasScale _ _ _ _ _ b _ _ (H.out.later HLw1.out) (H'.out.later HLw1.out)).mono ?_
   rintro e w2 ⟨rfl, hL2⟩
   rw [HQ.out]
   clear c0 f0 z0
   have HLw2 := Lib.hid (HLw1.out.trans hL2)
   have HK0_2 := Lib.hid (hL2.keep HK0_1.out)
   clear hL2
   obtain ⟨c0, f0, z0⟩ := blk_at HK0_2.out
   go_wp2
   go_ret2
   exact ⟨by rw [HF.out.1, HF.out.2]; rfl, by have hLw := HLw2.out; exact qla⟩
set_option maxHeartbeats 1000000 in
theorem w_specHasScale (n : Int) (u v : Value) (st sd : List Int) (b : Bool) (x : Int) (w : World) (h : IsNums w u st) (h' : IsNums w v sd) :
 Calls Tryz.prog 17 #[.agg #[.int .i64 n, u, v], .bool b, .int .i64 x] w fun e w' => e = .returned (.tuple #[.bool (hsB ⟨n, st, sd⟩ b x), .int .i64 (hsC ⟨n, st, sd⟩)]) ∧ Later w w' := by
 have H := Lib.hid h
 have H' := Lib.hid h'
 obtain ⟨_, _, au, capu, rfl, _, _, _⟩ := h
 obtain ⟨_, _, av, capv, rfl, _, _, _⟩ := h'
 cases h1 : isRule ⟨n, st, sd⟩
 · have HF := Lib.hid (show hsB ⟨n, st, sd⟩ b x = false ∧ hsC ⟨n, st, sd⟩ = 1 from by simp [hsB, hsC, h1])
   have H1 := Lib.hid h1
   clear h1
   go_enter Tryz.func17, Tryz.ntmps17
   go_wp2_with fail
   refine (w_specIsRule _ _ _ _ _ _ (H.out.later ((Later.refl _).alloc _)) (H'.out.later ((Later.refl _).alloc _))).mono ?_
   rintro e w1 ⟨rfl, hL1⟩
   rw [H1.out]
   have HLw1 := Lib.hid (((Later.refl w).alloc _).trans hL1)
   have K0 := kept1 hL1
   have HK0_1 := Lib.hid K0
   clear K0
   clear hL1
   obtain ⟨c0, f0, z0⟩ := blk_at HK0_1.out
   go_wp2
   go_ret2
   exact ⟨by rw [HF.out.1, HF.out.2]; rfl, by have hLw := HLw1.out; exact qla⟩
 · obtain ⟨q, hq⟩ : ∃ q, hasI (onR ⟨n, st, sd⟩ b) x = q := ⟨_, rfl⟩
   have HF := Lib.hid (show hsB ⟨n, st, sd⟩ b x = q ∧ hsC ⟨n, st, sd⟩ = 0 from by simp [hsB, hsC, h1, hq])
   have H1 := Lib.hid h1
   have HQ := Lib.hid hq
   clear h1 hq
   cases b
   · skip
     go_enter Tryz.func17, Tryz.ntmps17
     go_wp2_with fail
     refine (w_specIsRule _ _ _ _ _ _ (H.out.later ((Later.refl _).alloc _)) (H'.out.later ((Later.refl _).alloc _))).mono ?_
     rintro e w1 ⟨rfl, hL1⟩
     rw [H1.out]
     have HLw1 := Lib.hid (((Later.refl w).alloc _).trans hL1)
     have K0 := kept1 hL1
     have HK0_1 := Lib.hid K0
     clear K0
     clear hL1
     obtain ⟨c0, f0, z0⟩ := blk_at HK0_1.out
     go_wp2_with fail
     refine (w_l11On_st _ _ _ _ _ _ (H.out.later HLw1.out) (H'.out.later HLw1.out)).mono ?_
     rintro e w2 ⟨rfl, hL2⟩
     clear c0 f0 z0
     have HLw2 := Lib.hid (HLw1.out.trans hL2)
     have HK0_2 := Lib.hid (hL2.keep HK0_1.out)
     clear hL2
     obtain ⟨c0, f0, z0⟩ := blk_at HK0_2.out
     go_wp2_with fail
     refine (w_l01Has _ _ _ _ (H.out.later HLw2.out)).mono ?_
     rintro e w0 ⟨rfl, rfl⟩
     rw [show hasI st x = q from HQ.out]
     go_wp2
     go_ret2
     exact ⟨by rw [HF.out.1, HF.out.2]; rfl, by have hLw := HLw2.out; exact qla⟩
   · skip
     go_enter Tryz.func17, Tryz.ntmps17
     go_wp2_with fail
     refine (w_specIsRule _ _ _ _ _ _ (H.out.later ((Later.refl _).alloc _)) (H'.out.later ((Later.refl _).alloc _))).mono ?_
     rintro e w1 ⟨rfl, hL1⟩
     rw [H1.out]
     have HLw1 := Lib.hid (((Later.refl w).alloc _).trans hL1)
     have K0 := kept1 hL1
     have HK0_1 := Lib.hid K0
     clear K0
     clear hL1
     obtain ⟨c0, f0, z0⟩ := blk_at HK0_1.out
     go_wp2_with fail
     refine (w_l11On_sl _ _ _ _ _ _ (H.out.later HLw1.out) (H'.out.later HLw1.out)).mono ?_
     rintro e w2 ⟨rfl, hL2⟩
     clear c0 f0 z0
     have HLw2 := Lib.hid (HLw1.out.trans hL2)
     have HK0_2 := Lib.hid (hL2.keep HK0_1.out)
     clear hL2
     obtain ⟨c0, f0, z0⟩ := blk_at HK0_2.out
     go_wp2_with fail
     refine (w_l01Has _ _ _ _ (H'.out.later HLw2.out)).mono ?_
     rintro e w0 ⟨rfl, rfl⟩
     rw [show hasI sd x = q from HQ.out]
     go_wp2
     go_ret2
     exact ⟨by rw [HF.out.1, HF.out.2]; rfl, by have hLw := HLw2.out; exact qla⟩
end Go.Proofs.YtgngbdacejghcaaGreatDoor
