/- DERIVED. Walks: the stock that is read, the slide that is set, points. -/
import Derived.Test.YtkoojngonldcbaaKSM84
namespace Go.Proofs.Ytkoojngonldcbaa
set_option linter.unusedVariables false
set_option linter.unusedSimpArgs false
open Go.RowKit
set_option maxRecDepth 100000
noncomputable def rkF (r : Rul) (s : Stg) (x : Int) : Fig := if codeOn r s false x = 0 then readF x s.cu else ⟨0, 0⟩
def ssC (r : Rul) (s : Stg) (x : Int) (f : Fig) : Int := if isFig f then (if codeOn r s true x = 0 then (if isStg ⟨s.cu - ptF x f, s.cu⟩ then 0 else 5) else codeOn r s true x) else 1
def ssS (r : Rul) (s : Stg) (x : Int) (f : Fig) : Stg := if ssC r s x f = 0 then ⟨s.cu - ptF x f, s.cu⟩ else ⟨0, 0⟩
def pcC (s : Int) (f : Fig) : Int := if isFig f then (if isScale s then (if s = 5 ∧ f.t ≠ 0 then 2 else 0) else 2) else 1
def pcV (s : Int) (f : Fig) : Int := if pcC s f = 0 then ptF s f else 0
theorem codeOn_1 {r : Rul} {s : Stg} {b : Bool} {x : Int} (h : isRule r = false) : codeOn r s b x = 1 := by unfold codeOn; rw [h]; rfl
theorem codeOn_1b {r : Rul} {s : Stg} {b : Bool} {x : Int} (h : isRule r = true) (h1 : isStg s = false) : codeOn r s b x = 1 := by unfold codeOn; rw [h, h1]; rfl
theorem codeOn_2 {r : Rul} {s : Stg} {b : Bool} {x : Int} (h : isRule r = true) (h1 : isStg s = true) (h2 : hasI (onR r b) x = false) : codeOn r s b x = 2 := by unfold codeOn; rw [h, h1, h2]; rfl
theorem codeOn_0 {r : Rul} {s : Stg} {b : Bool} {x : Int} (h : isRule r = true) (h1 : isStg s = true) (h2 : hasI (onR r b) x = true) : codeOn r s b x = 0 := by unfold codeOn; rw [h, h1, h2]; rfl
theorem codeOn_inv {r : Rul} {s : Stg} {b : Bool} {x : Int} (h : codeOn r s b x = 0) : isRule r = true ∧ isStg s = true ∧ hasI (onR r b) x = true := by
 unfold codeOn at h
 cases h1 : isRule r <;> cases h2 : isStg s <;> cases h3 : hasI (onR r b) x <;> rw [h1, h2, h3] at h <;> simp at h ⊢
theorem rk_0 {r : Rul} {s : Stg} {x : Int} (h : codeOn r s false x = 0) : rkF r s x = readF x s.cu := by unfold rkF; rw [if_pos h]
theorem rk_no {r : Rul} {s : Stg} {x k : Int} (h : codeOn r s false x = k) (h0 : k ≠ 0) : rkF r s x = ⟨0, 0⟩ := by unfold rkF; rw [h, if_neg h0]
theorem ss_no {r : Rul} {s : Stg} {x k : Int} {f : Fig} (h : ssC r s x f = k) (h0 : k ≠ 0) : ssC r s x f = k ∧ ssS r s x f = ⟨0, 0⟩ := ⟨h, by unfold ssS; rw [h, if_neg h0]⟩
theorem ss_f {r : Rul} {s : Stg} {x : Int} {f : Fig} (h : isFig f = false) : ssC r s x f = 1 ∧ ssS r s x f = ⟨0, 0⟩ := ss_no (by unfold ssC; rw [h]; rfl) (by omega)
theorem ss_c {r : Rul} {s : Stg} {x k : Int} {f : Fig} (h : codeOn r s true x = k) (h0 : k ≠ 0) (hf : isFig f = true) : ssC r s x f = k ∧ ssS r s x f = ⟨0, 0⟩ := ss_no (by unfold ssC; rw [hf, h, if_neg h0]; rfl) h0
theorem ss_1 {r : Rul} {s : Stg} {x : Int} {f : Fig} (h : codeOn r s true x = 1) : ssC r s x f = 1 ∧ ssS r s x f = ⟨0, 0⟩ := by
 cases hf : isFig f
 · exact ss_f hf
 · exact ss_c h (by omega) hf
theorem ss_5 {r : Rul} {s : Stg} {x : Int} {f : Fig} (h : codeOn r s true x = 0) (hf : isFig f = true) (hg : isStg ⟨s.cu - ptF x f, s.cu⟩ = false) : ssC r s x f = 5 ∧ ssS r s x f = ⟨0, 0⟩ := ss_no (by unfold ssC; rw [hf, h, if_pos rfl, hg]; rfl) (by omega)
theorem ss_0 {r : Rul} {s : Stg} {x : Int} {f : Fig} (h : codeOn r s true x = 0) (hf : isFig f = true) (hg : isStg ⟨s.cu - ptF x f, s.cu⟩ = true) : ssC r s x f = 0 ∧ ssS r s x f = ⟨s.cu - ptF x f, s.cu⟩ := by
 have e : ssC r s x f = 0 := by unfold ssC; rw [hf, h, if_pos rfl, hg]; rfl
 exact ⟨e, by unfold ssS; rw [if_pos e]⟩
theorem pc_1 {s : Int} {f : Fig} (h : isFig f = false) : pcC s f = 1 ∧ pcV s f = 0 := by
 have e : pcC s f = 1 := by unfold pcC; rw [h]; rfl
 exact ⟨e, by unfold pcV; rw [e, if_neg (by omega)]⟩
theorem pc_2 {s : Int} {f : Fig} (h : isFig f = true) (h1 : isScale s = false) : pcC s f = 2 ∧ pcV s f = 0 := by
 have e : pcC s f = 2 := by unfold pcC; rw [h, h1]; rfl
 exact ⟨e, by unfold pcV; rw [e, if_neg (by omega)]⟩
theorem pc_2b {s : Int} {f : Fig} (h : isFig f = true) (h1 : isScale s = true) (h2 : s = 5 ∧ f.t ≠ 0) : pcC s f = 2 ∧ pcV s f = 0 := by
 have e : pcC s f = 2 := by unfold pcC; rw [h, h1, if_pos rfl, if_pos rfl, if_pos h2]
 exact ⟨e, by unfold pcV; rw [e, if_neg (by omega)]⟩
theorem pc_0 {s : Int} {f : Fig} (h : isFig f = true) (h1 : isScale s = true) (h2 : ¬ (s = 5 ∧ f.t ≠ 0)) : pcC s f = 0 ∧ pcV s f = ptF s f := by
 have e : pcC s f = 0 := by unfold pcC; rw [h, h1, if_pos rfl, if_pos rfl, if_neg h2]
 exact ⟨e, by unfold pcV; rw [if_pos e]⟩
theorem isScale_bd {s : Int} (h : isScale s = true) : 0 ≤ s ∧ s ≤ 5 := inR_true h
set_option maxHeartbeats 2000000 in
theorem w_implReadStock (n : Int) (u v : Value) (st sd : List Int) (sa sb x : Int) (w : World) (h : IsNums w u st) (h' : IsNums w v sd) :
 Calls Try.prog 69 #[.agg #[.int .i64 n, u, v], .agg #[.int .i64 sa, .int .i64 sb], .int .i64 x] w fun e w' => e = .returned (.tuple #[.agg #[.int .i64 (rkF ⟨n, st, sd⟩ ⟨sa, sb⟩ x).d, .int .i64 (rkF ⟨n, st, sd⟩ ⟨sa, sb⟩ x).t], .int .i64 (codeOn ⟨n, st, sd⟩ ⟨sa, sb⟩ false x)]) ∧ Later w w' := by
 have H := Lib.hid h
 have H' := Lib.hid h'
 obtain ⟨_, _, au, capu, rfl, _, _, _⟩ := h
 obtain ⟨_, _, av, capv, rfl, _, _, _⟩ := h'
 cases h1 : isRule ⟨n, st, sd⟩
 · have HC := (codeOn_1 h1 : codeOn ⟨n, st, sd⟩ ⟨sa, sb⟩ false x = 1)
   have HF := Lib.hid (And.intro HC (rk_no HC (by omega)))
   clear HC
   have H1 := Lib.hid h1
   clear h1
   go_enter Try.func69, Try.ntmps69
   go_wp2_with fail
   refine (w_implIsRule _ _ _ _ _ _ (H.out.later ((((Later.refl _).alloc _).alloc _).alloc _)) (H'.out.later ((((Later.refl _).alloc _).alloc _).alloc _))).mono ?_
   rintro e w1 ⟨rfl, hL1⟩
   rw [H1.out]
   have HLw1 := Lib.hid (((((Later.refl w).alloc _).alloc _).alloc _).trans hL1)
   obtain ⟨K0, K1, K2⟩ := kept3 hL1
   have HK0_1 := Lib.hid K0
   have HK1_1 := Lib.hid K1
   have HK2_1 := Lib.hid K2
   clear K0 K1 K2
   clear hL1
   obtain ⟨c0, f0, z0⟩ := blk_at HK0_1.out
   obtain ⟨c1, f1, z1⟩ := blk_at HK1_1.out
   obtain ⟨c2, f2, z2⟩ := blk_at HK2_1.out
   go_wp2
   refine bodyPost_ret (v := .tuple #[.agg #[.int .i64 0, .int .i64 0], .int .i64 1]) (by simp [results, Try.results69, go_sem, c2, z2]) rfl ⟨by rw [HF.out.1, HF.out.2], by have hLw := HLw1.out; exact qla⟩
 cases h2 : isStg ⟨sa, sb⟩
 · have HC := (codeOn_1b h1 h2 : codeOn ⟨n, st, sd⟩ ⟨sa, sb⟩ false x = 1)
   have HF := Lib.hid (And.intro HC (rk_no HC (by omega)))
   clear HC
   have H1 := Lib.hid h1
   have H2 := Lib.hid h2
   clear h1 h2
   go_enter Try.func69, Try.ntmps69
   go_wp2_with fail
   refine (w_implIsRule _ _ _ _ _ _ (H.out.later ((((Later.refl _).alloc _).alloc _).alloc _)) (H'.out.later ((((Later.refl _).alloc _).alloc _).alloc _))).mono ?_
   rintro e w1 ⟨rfl, hL1⟩
   rw [H1.out]
   have HLw1 := Lib.hid (((((Later.refl w).alloc _).alloc _).alloc _).trans hL1)
   obtain ⟨K0, K1, K2⟩ := kept3 hL1
   have HK0_1 := Lib.hid K0
   have HK1_1 := Lib.hid K1
   have HK2_1 := Lib.hid K2
   clear K0 K1 K2
   clear hL1
   obtain ⟨c0, f0, z0⟩ := blk_at HK0_1.out
   obtain ⟨c1, f1, z1⟩ := blk_at HK1_1.out
   obtain ⟨c2, f2, z2⟩ := blk_at HK2_1.out
   go_wp2_with fail
   refine (w_implIsSetting _ _ _).mono ?_
   rintro e w2 ⟨rfl, hL2⟩
   rw [H2.out]
   clear c0 f0 z0 c1 f1 z1 c2 f2 z2
   have HLw2 := Lib.hid (HLw1.out.trans hL2)
   have HK0_2 := Lib.hid (hL2.keep HK0_1.out)
   have HK1_2 := Lib.hid (hL2.keep HK1_1.out)
   have HK2_2 := Lib.hid (hL2.keep HK2_1.out)
   clear hL2
   obtain ⟨c0, f0, z0⟩ := blk_at HK0_2.out
   obtain ⟨c1, f1, z1⟩ := blk_at HK1_2.out
   obtain ⟨c2, f2, z2⟩ := blk_at HK2_2.out
   go_wp2
   refine bodyPost_ret (v := .tuple #[.agg #[.int .i64 0, .int .i64 0], .int .i64 1]) (by simp [results, Try.results69, go_sem, c2, z2]) rfl ⟨by rw [HF.out.1, HF.out.2], by have hLw := HLw2.out; exact qla⟩
 cases h3 : hasI st x
 · have HC := (codeOn_2 (b := false) h1 h2 h3 : codeOn ⟨n, st, sd⟩ ⟨sa, sb⟩ false x = 2)
   have HF := Lib.hid (And.intro HC (rk_no HC (by omega)))
   clear HC
   have H1 := Lib.hid h1
   have H2 := Lib.hid h2
   have H3 := Lib.hid h3
   clear h1 h2 h3
   go_enter Try.func69, Try.ntmps69
   go_wp2_with fail
   refine (w_implIsRule _ _ _ _ _ _ (H.out.later ((((Later.refl _).alloc _).alloc _).alloc _)) (H'.out.later ((((Later.refl _).alloc _).alloc _).alloc _))).mono ?_
   rintro e w1 ⟨rfl, hL1⟩
   rw [H1.out]
   have HLw1 := Lib.hid (((((Later.refl w).alloc _).alloc _).alloc _).trans hL1)
   obtain ⟨K0, K1, K2⟩ := kept3 hL1
   have HK0_1 := Lib.hid K0
   have HK1_1 := Lib.hid K1
   have HK2_1 := Lib.hid K2
   clear K0 K1 K2
   clear hL1
   obtain ⟨c0, f0, z0⟩ := blk_at HK0_1.out
   obtain ⟨c1, f1, z1⟩ := blk_at HK1_1.out
   obtain ⟨c2, f2, z2⟩ := blk_at HK2_1.out
   go_wp2_with fail
   refine (w_implIsSetting _ _ _).mono ?_
   rintro e w2 ⟨rfl, hL2⟩
   rw [H2.out]
   clear c0 f0 z0 c1 f1 z1 c2 f2 z2
   have HLw2 := Lib.hid (HLw1.out.trans hL2)
   have HK0_2 := Lib.hid (hL2.keep HK0_1.out)
   have HK1_2 := Lib.hid (hL2.keep HK1_1.out)
   have HK2_2 := Lib.hid (hL2.keep HK2_1.out)
   clear hL2
   obtain ⟨c0, f0, z0⟩ := blk_at HK0_2.out
   obtain ⟨c1, f1, z1⟩ := blk_at HK1_2.out
   obtain ⟨c2, f2, z2⟩ := blk_at HK2_2.out
   go_wp2_with fail
   refine (w_hasScale _ _ _ _ _ false _ _ (H.out.later HLw2.out) (H'.out.later HLw2.out)).mono ?_
   rintro e w3 ⟨rfl, hL3⟩
   rw [show hasI (onR ⟨n, st, sd⟩ false) x = _ from H3.out]
   clear c0 f0 z0 c1 f1 z1 c2 f2 z2
   have HLw3 := Lib.hid (HLw2.out.trans hL3)
   have HK0_3 := Lib.hid (hL3.keep HK0_2.out)
   have HK1_3 := Lib.hid (hL3.keep HK1_2.out)
   have HK2_3 := Lib.hid (hL3.keep HK2_2.out)
   clear hL3
   obtain ⟨c0, f0, z0⟩ := blk_at HK0_3.out
   obtain ⟨c1, f1, z1⟩ := blk_at HK1_3.out
   obtain ⟨c2, f2, z2⟩ := blk_at HK2_3.out
   go_wp2
   refine bodyPost_ret (v := .tuple #[.agg #[.int .i64 0, .int .i64 0], .int .i64 2]) (by simp [results, Try.results69, go_sem, c2, z2]) rfl ⟨by rw [HF.out.1, HF.out.2], by have hLw := HLw3.out; exact qla⟩
 have hsb := isStg_bd h2
 simp only at hsb
 obtain ⟨b1, b2, b3, b4⟩ := hsb
 have hx := rule_st h1 h3
 obtain ⟨x1, x2⟩ := hx
 have HC := (codeOn_0 (b := false) h1 h2 h3 : codeOn ⟨n, st, sd⟩ ⟨sa, sb⟩ false x = 0)
 obtain ⟨G, hG⟩ : ∃ y, readF x sb = y := ⟨_, rfl⟩
 have HG := Lib.hid hG
 have HF := Lib.hid (And.intro HC (show rkF ⟨n, st, sd⟩ ⟨sa, sb⟩ x = G from hG ▸ rk_0 HC))
 clear HC hG
 have H1 := Lib.hid h1
 have H2 := Lib.hid h2
 have H3 := Lib.hid h3
 clear h1 h2 h3
 go_enter Try.func69, Try.ntmps69
 go_wp2_with fail
 refine (w_implIsRule _ _ _ _ _ _ (H.out.later ((((Later.refl _).alloc _).alloc _).alloc _)) (H'.out.later ((((Later.refl _).alloc _).alloc _).alloc _))).mono ?_
 rintro e w1 ⟨rfl, hL1⟩
 rw [H1.out]
 have HLw1 := Lib.hid (((((Later.refl w).alloc _).alloc _).alloc _).trans hL1)
 obtain ⟨K0, K1, K2⟩ := kept3 hL1
 have HK0_1 := Lib.hid K0
 have HK1_1 := Lib.hid K1
 have HK2_1 := Lib.hid K2
 clear K0 K1 K2
 clear hL1
 obtain ⟨c0, f0, z0⟩ := blk_at HK0_1.out
 obtain ⟨c1, f1, z1⟩ := blk_at HK1_1.out
 obtain ⟨c2, f2, z2⟩ := blk_at HK2_1.out
 go_wp2_with fail
 refine (w_implIsSetting _ _ _).mono ?_
 rintro e w2 ⟨rfl, hL2⟩
 rw [H2.out]
 clear c0 f0 z0 c1 f1 z1 c2 f2 z2
 have HLw2 := Lib.hid (HLw1.out.trans hL2)
 have HK0_2 := Lib.hid (hL2.keep HK0_1.out)
 have HK1_2 := Lib.hid (hL2.keep HK1_1.out)
 have HK2_2 := Lib.hid (hL2.keep HK2_1.out)
 clear hL2
 obtain ⟨c0, f0, z0⟩ := blk_at HK0_2.out
 obtain ⟨c1, f1, z1⟩ := blk_at HK1_2.out
 obtain ⟨c2, f2, z2⟩ := blk_at HK2_2.out
 go_wp2_with fail
 refine (w_hasScale _ _ _ _ _ false _ _ (H.out.later HLw2.out) (H'.out.later HLw2.out)).mono ?_
 rintro e w3 ⟨rfl, hL3⟩
 rw [show hasI (onR ⟨n, st, sd⟩ false) x = _ from H3.out]
 clear c0 f0 z0 c1 f1 z1 c2 f2 z2
 have HLw3 := Lib.hid (HLw2.out.trans hL3)
 have HK0_3 := Lib.hid (hL3.keep HK0_2.out)
 have HK1_3 := Lib.hid (hL3.keep HK1_2.out)
 have HK2_3 := Lib.hid (hL3.keep HK2_2.out)
 clear hL3
 obtain ⟨c0, f0, z0⟩ := blk_at HK0_3.out
 obtain ⟨c1, f1, z1⟩ := blk_at HK1_3.out
 obtain ⟨c2, f2, z2⟩ := blk_at HK2_3.out
 go_wp2_with fail
 refine (w_readAt _ _ _ (by omega) (by omega) (by omega) (by omega)).mono ?_
 rintro e w4 ⟨rfl, hL4⟩
 clear c0 f0 z0 c1 f1 z1 c2 f2 z2
 have HLw4 := Lib.hid (HLw3.out.trans hL4)
 have HK0_4 := Lib.hid (hL4.keep HK0_3.out)
 have HK1_4 := Lib.hid (hL4.keep HK1_3.out)
 have HK2_4 := Lib.hid (hL4.keep HK2_3.out)
 clear hL4
 obtain ⟨c0, f0, z0⟩ := blk_at HK0_4.out
 obtain ⟨c1, f1, z1⟩ := blk_at HK1_4.out
 obtain ⟨c2, f2, z2⟩ := blk_at HK2_4.out
 rw [HG.out]
 go_wp2
 refine bodyPost_ret (v := .tuple #[.agg #[.int .i64 G.d, .int .i64 G.t], .int .i64 0]) (by simp [results, Try.results69, go_sem, c2, z2]) rfl ⟨by rw [HF.out.1, HF.out.2], by have hLw := HLw4.out; exact qla⟩
set_option maxHeartbeats 2000000 in
theorem w_specReadStock (n : Int) (u v : Value) (st sd : List Int) (sa sb x : Int) (w : World) (h : IsNums w u st) (h' : IsNums w v sd) :
 Calls Try.prog 70 #[.agg #[.int .i64 n, u, v], .agg #[.int .i64 sa, .int .i64 sb], .int .i64 x] w fun e w' => e = .returned (.tuple #[.agg #[.int .i64 (rkF ⟨n, st, sd⟩ ⟨sa, sb⟩ x).d, .int .i64 (rkF ⟨n, st, sd⟩ ⟨sa, sb⟩ x).t], .int .i64 (codeOn ⟨n, st, sd⟩ ⟨sa, sb⟩ false x)]) ∧ Later w w' := by
 have H := Lib.hid h
 have H' := Lib.hid h'
 obtain ⟨_, _, au, capu, rfl, _, _, _⟩ := h
 obtain ⟨_, _, av, capv, rfl, _, _, _⟩ := h'
 cases h1 : isRule ⟨n, st, sd⟩
 · have HC := (codeOn_1 h1 : codeOn ⟨n, st, sd⟩ ⟨sa, sb⟩ false x = 1)
   have HF := Lib.hid (And.intro HC (rk_no HC (by omega)))
   clear HC
   have H1 := Lib.hid h1
   clear h1
   go_enter Try.func70, Try.ntmps70
   go_wp2_with fail
   refine (w_l11Code _ _ _ _ _ _ _ false _ _ (H.out.later ((((Later.refl _).alloc _).alloc _).alloc _)) (H'.out.later ((((Later.refl _).alloc _).alloc _).alloc _))).mono ?_
   rintro e w1 ⟨rfl, hL1⟩
   rw [HF.out.1]
   have HLw1 := Lib.hid (((((Later.refl w).alloc _).alloc _).alloc _).trans hL1)
   obtain ⟨K0, K1, K2⟩ := kept3 hL1
   have HK0_1 := Lib.hid K0
   have HK1_1 := Lib.hid K1
   have HK2_1 := Lib.hid K2
   clear K0 K1 K2
   clear hL1
   obtain ⟨c0, f0, z0⟩ := blk_at HK0_1.out
   obtain ⟨c1, f1, z1⟩ := blk_at HK1_1.out
   obtain ⟨c2, f2, z2⟩ := blk_at HK2_1.out
   go_wp2
   refine bodyPost_ret (v := .tuple #[.agg #[.int .i64 0, .int .i64 0], .int .i64 1]) (by simp [results, Try.results70, go_sem, c2, z2]) rfl ⟨by rw [HF.out.1, HF.out.2], by have hLw := HLw1.out; exact qla⟩
 cases h2 : isStg ⟨sa, sb⟩
 · have HC := (codeOn_1b h1 h2 : codeOn ⟨n, st, sd⟩ ⟨sa, sb⟩ false x = 1)
   have HF := Lib.hid (And.intro HC (rk_no HC (by omega)))
   clear HC
   have H1 := Lib.hid h1
   have H2 := Lib.hid h2
   clear h1 h2
   go_enter Try.func70, Try.ntmps70
   go_wp2_with fail
   refine (w_l11Code _ _ _ _ _ _ _ false _ _ (H.out.later ((((Later.refl _).alloc _).alloc _).alloc _)) (H'.out.later ((((Later.refl _).alloc _).alloc _).alloc _))).mono ?_
   rintro e w1 ⟨rfl, hL1⟩
   rw [HF.out.1]
   have HLw1 := Lib.hid (((((Later.refl w).alloc _).alloc _).alloc _).trans hL1)
   obtain ⟨K0, K1, K2⟩ := kept3 hL1
   have HK0_1 := Lib.hid K0
   have HK1_1 := Lib.hid K1
   have HK2_1 := Lib.hid K2
   clear K0 K1 K2
   clear hL1
   obtain ⟨c0, f0, z0⟩ := blk_at HK0_1.out
   obtain ⟨c1, f1, z1⟩ := blk_at HK1_1.out
   obtain ⟨c2, f2, z2⟩ := blk_at HK2_1.out
   go_wp2
   refine bodyPost_ret (v := .tuple #[.agg #[.int .i64 0, .int .i64 0], .int .i64 1]) (by simp [results, Try.results70, go_sem, c2, z2]) rfl ⟨by rw [HF.out.1, HF.out.2], by have hLw := HLw1.out; exact qla⟩
 cases h3 : hasI st x
 · have HC := (codeOn_2 (b := false) h1 h2 h3 : codeOn ⟨n, st, sd⟩ ⟨sa, sb⟩ false x = 2)
   have HF := Lib.hid (And.intro HC (rk_no HC (by omega)))
   clear HC
   have H1 := Lib.hid h1
   have H2 := Lib.hid h2
   have H3 := Lib.hid h3
   clear h1 h2 h3
   go_enter Try.func70, Try.ntmps70
   go_wp2_with fail
   refine (w_l11Code _ _ _ _ _ _ _ false _ _ (H.out.later ((((Later.refl _).alloc _).alloc _).alloc _)) (H'.out.later ((((Later.refl _).alloc _).alloc _).alloc _))).mono ?_
   rintro e w1 ⟨rfl, hL1⟩
   rw [HF.out.1]
   have HLw1 := Lib.hid (((((Later.refl w).alloc _).alloc _).alloc _).trans hL1)
   obtain ⟨K0, K1, K2⟩ := kept3 hL1
   have HK0_1 := Lib.hid K0
   have HK1_1 := Lib.hid K1
   have HK2_1 := Lib.hid K2
   clear K0 K1 K2
   clear hL1
   obtain ⟨c0, f0, z0⟩ := blk_at HK0_1.out
   obtain ⟨c1, f1, z1⟩ := blk_at HK1_1.out
   obtain ⟨c2, f2, z2⟩ := blk_at HK2_1.out
   go_wp2
   refine bodyPost_ret (v := .tuple #[.agg #[.int .i64 0, .int .i64 0], .int .i64 2]) (by simp [results, Try.results70, go_sem, c2, z2]) rfl ⟨by rw [HF.out.1, HF.out.2], by have hLw := HLw1.out; exact qla⟩
 have hsb := isStg_bd h2
 simp only at hsb
 obtain ⟨b1, b2, b3, b4⟩ := hsb
 have hx := rule_st h1 h3
 obtain ⟨x1, x2⟩ := hx
 have HC := (codeOn_0 (b := false) h1 h2 h3 : codeOn ⟨n, st, sd⟩ ⟨sa, sb⟩ false x = 0)
 obtain ⟨G, hG⟩ : ∃ y, readF x sb = y := ⟨_, rfl⟩
 have HG := Lib.hid hG
 have HF := Lib.hid (And.intro HC (show rkF ⟨n, st, sd⟩ ⟨sa, sb⟩ x = G from hG ▸ rk_0 HC))
 clear HC hG
 have H1 := Lib.hid h1
 have H2 := Lib.hid h2
 have H3 := Lib.hid h3
 clear h1 h2 h3
 go_enter Try.func70, Try.ntmps70
 go_wp2_with fail
 refine (w_l11Code _ _ _ _ _ _ _ false _ _ (H.out.later ((((Later.refl _).alloc _).alloc _).alloc _)) (H'.out.later ((((Later.refl _).alloc _).alloc _).alloc _))).mono ?_
 rintro e w1 ⟨rfl, hL1⟩
 rw [HF.out.1]
 have HLw1 := Lib.hid (((((Later.refl w).alloc _).alloc _).alloc _).trans hL1)
 obtain ⟨K0, K1, K2⟩ := kept3 hL1
 have HK0_1 := Lib.hid K0
 have HK1_1 := Lib.hid K1
 have HK2_1 := Lib.hid K2
 clear K0 K1 K2
 clear hL1
 obtain ⟨c0, f0, z0⟩ := blk_at HK0_1.out
 obtain ⟨c1, f1, z1⟩ := blk_at HK1_1.out
 obtain ⟨c2, f2, z2⟩ := blk_at HK2_1.out
 go_wp2_with fail
 refine (w_l11Read _ _ _ (by omega) (by omega) (by omega) (by omega)).mono ?_
 rintro e w2 ⟨rfl, hL2⟩
 clear c0 f0 z0 c1 f1 z1 c2 f2 z2
 have HLw2 := Lib.hid (HLw1.out.trans hL2)
 have HK0_2 := Lib.hid (hL2.keep HK0_1.out)
 have HK1_2 := Lib.hid (hL2.keep HK1_1.out)
 have HK2_2 := Lib.hid (hL2.keep HK2_1.out)
 clear hL2
 obtain ⟨c0, f0, z0⟩ := blk_at HK0_2.out
 obtain ⟨c1, f1, z1⟩ := blk_at HK1_2.out
 obtain ⟨c2, f2, z2⟩ := blk_at HK2_2.out
 rw [HG.out]
 go_wp2
 refine bodyPost_ret (v := .tuple #[.agg #[.int .i64 G.d, .int .i64 G.t], .int .i64 0]) (by simp [results, Try.results70, go_sem, c2, z2]) rfl ⟨by rw [HF.out.1, HF.out.2], by have hLw := HLw2.out; exact qla⟩
theorem w_valid0 (a b : Int) (w : World) (h1 : isStg ⟨a, b⟩ = false) :
 Calls Try.prog 137 #[.agg #[.int .i64 a, .int .i64 b]] w fun e w' => e = .returned (.tuple #[.agg #[.int .i64 0, .int .i64 0], .int .i64 5]) ∧ Later w w' := by
 have H1 := Lib.hid h1
 clear h1
 go_enter Try.func137, Try.ntmps137
 go_wp2_with fail
 refine (w_implIsSetting _ _ _).mono ?_
 rintro e w1 ⟨rfl, hL1⟩
 rw [H1.out]
 have HLw1 := Lib.hid ((((Later.refl w).alloc _).alloc _).trans hL1)
 obtain ⟨K0, K1⟩ := kept2 hL1
 have HK0_1 := Lib.hid K0
 have HK1_1 := Lib.hid K1
 clear K0 K1
 clear hL1
 obtain ⟨c0, f0, z0⟩ := blk_at HK0_1.out
 obtain ⟨c1, f1, z1⟩ := blk_at HK1_1.out
 go_wp2
 refine bodyPost_ret (v := .tuple #[.agg #[.int .i64 0, .int .i64 0], .int .i64 5]) (by simp [results, Try.results137, go_sem, c1, z1]) rfl ⟨rfl, by have hLw := HLw1.out; exact qla⟩
theorem w_valid1 (a b : Int) (w : World) (h1 : isStg ⟨a, b⟩ = true) :
 Calls Try.prog 137 #[.agg #[.int .i64 a, .int .i64 b]] w fun e w' => e = .returned (.tuple #[.agg #[.int .i64 a, .int .i64 b], .int .i64 0]) ∧ Later w w' := by
 have H1 := Lib.hid h1
 clear h1
 go_enter Try.func137, Try.ntmps137
 go_wp2_with fail
 refine (w_implIsSetting _ _ _).mono ?_
 rintro e w1 ⟨rfl, hL1⟩
 rw [H1.out]
 have HLw1 := Lib.hid ((((Later.refl w).alloc _).alloc _).trans hL1)
 obtain ⟨K0, K1⟩ := kept2 hL1
 have HK0_1 := Lib.hid K0
 have HK1_1 := Lib.hid K1
 clear K0 K1
 clear hL1
 obtain ⟨c0, f0, z0⟩ := blk_at HK0_1.out
 obtain ⟨c1, f1, z1⟩ := blk_at HK1_1.out
 go_wp2
 refine bodyPost_ret (v := .tuple #[.agg #[.int .i64 a, .int .i64 b], .int .i64 0]) (by simp [results, Try.results137, go_sem, c1, z1]) rfl ⟨rfl, by have hLw := HLw1.out; exact qla⟩
theorem w_l11Result0 (a b : Int) (w : World) (h1 : isStg ⟨a, b⟩ = false) :
 Calls Try.prog 139 #[.agg #[.int .i64 a, .int .i64 b]] w fun e w' => e = .returned (.tuple #[.agg #[.int .i64 0, .int .i64 0], .int .i64 5]) ∧ Later w w' := by
 have H1 := Lib.hid h1
 clear h1
 go_enter Try.func139, Try.ntmps139
 go_wp2_with fail
 refine (w_specIsSetting _ _ _).mono ?_
 rintro e w1 ⟨rfl, hL1⟩
 rw [H1.out]
 have HLw1 := Lib.hid ((((Later.refl w).alloc _).alloc _).trans hL1)
 obtain ⟨K0, K1⟩ := kept2 hL1
 have HK0_1 := Lib.hid K0
 have HK1_1 := Lib.hid K1
 clear K0 K1
 clear hL1
 obtain ⟨c0, f0, z0⟩ := blk_at HK0_1.out
 obtain ⟨c1, f1, z1⟩ := blk_at HK1_1.out
 go_wp2
 refine bodyPost_ret (v := .tuple #[.agg #[.int .i64 0, .int .i64 0], .int .i64 5]) (by simp [results, Try.results139, go_sem, c1, z1]) rfl ⟨rfl, by have hLw := HLw1.out; exact qla⟩
theorem w_l11Result1 (a b : Int) (w : World) (h1 : isStg ⟨a, b⟩ = true) :
 Calls Try.prog 139 #[.agg #[.int .i64 a, .int .i64 b]] w fun e w' => e = .returned (.tuple #[.agg #[.int .i64 a, .int .i64 b], .int .i64 0]) ∧ Later w w' := by
 have H1 := Lib.hid h1
 clear h1
 go_enter Try.func139, Try.ntmps139
 go_wp2_with fail
 refine (w_specIsSetting _ _ _).mono ?_
 rintro e w1 ⟨rfl, hL1⟩
 rw [H1.out]
 have HLw1 := Lib.hid ((((Later.refl w).alloc _).alloc _).trans hL1)
 obtain ⟨K0, K1⟩ := kept2 hL1
 have HK0_1 := Lib.hid K0
 have HK1_1 := Lib.hid K1
 clear K0 K1
 clear hL1
 obtain ⟨c0, f0, z0⟩ := blk_at HK0_1.out
 obtain ⟨c1, f1, z1⟩ := blk_at HK1_1.out
 go_wp2
 refine bodyPost_ret (v := .tuple #[.agg #[.int .i64 a, .int .i64 b], .int .i64 0]) (by simp [results, Try.results139, go_sem, c1, z1]) rfl ⟨rfl, by have hLw := HLw1.out; exact qla⟩
set_option maxHeartbeats 2000000 in
theorem w_implSetSlide (n : Int) (u v : Value) (st sd : List Int) (sa sb x d t : Int) (w : World) (h : IsNums w u st) (h' : IsNums w v sd) :
 Calls Try.prog 66 #[.agg #[.int .i64 n, u, v], .agg #[.int .i64 sa, .int .i64 sb], .int .i64 x, .agg #[.int .i64 d, .int .i64 t]] w fun e w' => e = .returned (.tuple #[.agg #[.int .i64 (ssS ⟨n, st, sd⟩ ⟨sa, sb⟩ x ⟨d, t⟩).sh, .int .i64 (ssS ⟨n, st, sd⟩ ⟨sa, sb⟩ x ⟨d, t⟩).cu], .int .i64 (ssC ⟨n, st, sd⟩ ⟨sa, sb⟩ x ⟨d, t⟩)]) ∧ Later w w' := by
 have H := Lib.hid h
 have H' := Lib.hid h'
 obtain ⟨_, _, au, capu, rfl, _, _, _⟩ := h
 obtain ⟨_, _, av, capv, rfl, _, _, _⟩ := h'
 cases h1 : isRule ⟨n, st, sd⟩
 · have HF := Lib.hid (ss_1 (codeOn_1 h1) : ssC ⟨n, st, sd⟩ ⟨sa, sb⟩ x ⟨d, t⟩ = 1 ∧ ssS ⟨n, st, sd⟩ ⟨sa, sb⟩ x ⟨d, t⟩ = ⟨0, 0⟩)
   have H1 := Lib.hid h1
   clear h1
   go_enter Try.func66, Try.ntmps66
   go_wp2_with fail
   refine (w_implIsRule _ _ _ _ _ _ (H.out.later (((((Later.refl _).alloc _).alloc _).alloc _).alloc _)) (H'.out.later (((((Later.refl _).alloc _).alloc _).alloc _).alloc _))).mono ?_
   rintro e w1 ⟨rfl, hL1⟩
   rw [H1.out]
   have HLw1 := Lib.hid ((((((Later.refl w).alloc _).alloc _).alloc _).alloc _).trans hL1)
   obtain ⟨K0, K1, K2, K3⟩ := kept4 hL1
   have HK0_1 := Lib.hid K0
   have HK1_1 := Lib.hid K1
   have HK2_1 := Lib.hid K2
   have HK3_1 := Lib.hid K3
   clear K0 K1 K2 K3
   clear hL1
   obtain ⟨c0, f0, z0⟩ := blk_at HK0_1.out
   obtain ⟨c1, f1, z1⟩ := blk_at HK1_1.out
   obtain ⟨c2, f2, z2⟩ := blk_at HK2_1.out
   obtain ⟨c3, f3, z3⟩ := blk_at HK3_1.out
   go_wp2
   refine bodyPost_ret (v := .tuple #[.agg #[.int .i64 0, .int .i64 0], .int .i64 1]) (by simp [results, Try.results66, go_sem, c3, z3]) rfl ⟨by rw [HF.out.1, HF.out.2], by have hLw := HLw1.out; exact qla⟩
 cases h2 : isStg ⟨sa, sb⟩
 · have HF := Lib.hid (ss_1 (codeOn_1b h1 h2) : ssC ⟨n, st, sd⟩ ⟨sa, sb⟩ x ⟨d, t⟩ = 1 ∧ ssS ⟨n, st, sd⟩ ⟨sa, sb⟩ x ⟨d, t⟩ = ⟨0, 0⟩)
   have H1 := Lib.hid h1
   have H2 := Lib.hid h2
   clear h1 h2
   go_enter Try.func66, Try.ntmps66
   go_wp2_with fail
   refine (w_implIsRule _ _ _ _ _ _ (H.out.later (((((Later.refl _).alloc _).alloc _).alloc _).alloc _)) (H'.out.later (((((Later.refl _).alloc _).alloc _).alloc _).alloc _))).mono ?_
   rintro e w1 ⟨rfl, hL1⟩
   rw [H1.out]
   have HLw1 := Lib.hid ((((((Later.refl w).alloc _).alloc _).alloc _).alloc _).trans hL1)
   obtain ⟨K0, K1, K2, K3⟩ := kept4 hL1
   have HK0_1 := Lib.hid K0
   have HK1_1 := Lib.hid K1
   have HK2_1 := Lib.hid K2
   have HK3_1 := Lib.hid K3
   clear K0 K1 K2 K3
   clear hL1
   obtain ⟨c0, f0, z0⟩ := blk_at HK0_1.out
   obtain ⟨c1, f1, z1⟩ := blk_at HK1_1.out
   obtain ⟨c2, f2, z2⟩ := blk_at HK2_1.out
   obtain ⟨c3, f3, z3⟩ := blk_at HK3_1.out
   go_wp2_with fail
   refine (w_implIsSetting _ _ _).mono ?_
   rintro e w2 ⟨rfl, hL2⟩
   rw [H2.out]
   clear c0 f0 z0 c1 f1 z1 c2 f2 z2 c3 f3 z3
   have HLw2 := Lib.hid (HLw1.out.trans hL2)
   have HK0_2 := Lib.hid (hL2.keep HK0_1.out)
   have HK1_2 := Lib.hid (hL2.keep HK1_1.out)
   have HK2_2 := Lib.hid (hL2.keep HK2_1.out)
   have HK3_2 := Lib.hid (hL2.keep HK3_1.out)
   clear hL2
   obtain ⟨c0, f0, z0⟩ := blk_at HK0_2.out
   obtain ⟨c1, f1, z1⟩ := blk_at HK1_2.out
   obtain ⟨c2, f2, z2⟩ := blk_at HK2_2.out
   obtain ⟨c3, f3, z3⟩ := blk_at HK3_2.out
   go_wp2
   refine bodyPost_ret (v := .tuple #[.agg #[.int .i64 0, .int .i64 0], .int .i64 1]) (by simp [results, Try.results66, go_sem, c3, z3]) rfl ⟨by rw [HF.out.1, HF.out.2], by have hLw := HLw2.out; exact qla⟩
 cases h3 : isFig ⟨d, t⟩
 · have HF := Lib.hid (ss_f h3 : ssC ⟨n, st, sd⟩ ⟨sa, sb⟩ x ⟨d, t⟩ = 1 ∧ ssS ⟨n, st, sd⟩ ⟨sa, sb⟩ x ⟨d, t⟩ = ⟨0, 0⟩)
   have H1 := Lib.hid h1
   have H2 := Lib.hid h2
   have H3 := Lib.hid h3
   clear h1 h2 h3
   go_enter Try.func66, Try.ntmps66
   go_wp2_with fail
   refine (w_implIsRule _ _ _ _ _ _ (H.out.later (((((Later.refl _).alloc _).alloc _).alloc _).alloc _)) (H'.out.later (((((Later.refl _).alloc _).alloc _).alloc _).alloc _))).mono ?_
   rintro e w1 ⟨rfl, hL1⟩
   rw [H1.out]
   have HLw1 := Lib.hid ((((((Later.refl w).alloc _).alloc _).alloc _).alloc _).trans hL1)
   obtain ⟨K0, K1, K2, K3⟩ := kept4 hL1
   have HK0_1 := Lib.hid K0
   have HK1_1 := Lib.hid K1
   have HK2_1 := Lib.hid K2
   have HK3_1 := Lib.hid K3
   clear K0 K1 K2 K3
   clear hL1
   obtain ⟨c0, f0, z0⟩ := blk_at HK0_1.out
   obtain ⟨c1, f1, z1⟩ := blk_at HK1_1.out
   obtain ⟨c2, f2, z2⟩ := blk_at HK2_1.out
   obtain ⟨c3, f3, z3⟩ := blk_at HK3_1.out
   go_wp2_with fail
   refine (w_implIsSetting _ _ _).mono ?_
   rintro e w2 ⟨rfl, hL2⟩
   rw [H2.out]
   clear c0 f0 z0 c1 f1 z1 c2 f2 z2 c3 f3 z3
   have HLw2 := Lib.hid (HLw1.out.trans hL2)
   have HK0_2 := Lib.hid (hL2.keep HK0_1.out)
   have HK1_2 := Lib.hid (hL2.keep HK1_1.out)
   have HK2_2 := Lib.hid (hL2.keep HK2_1.out)
   have HK3_2 := Lib.hid (hL2.keep HK3_1.out)
   clear hL2
   obtain ⟨c0, f0, z0⟩ := blk_at HK0_2.out
   obtain ⟨c1, f1, z1⟩ := blk_at HK1_2.out
   obtain ⟨c2, f2, z2⟩ := blk_at HK2_2.out
   obtain ⟨c3, f3, z3⟩ := blk_at HK3_2.out
   go_wp2_with fail
   refine (w_implIsFigure _ _ _).mono ?_
   rintro e w3 ⟨rfl, hL3⟩
   rw [H3.out]
   clear c0 f0 z0 c1 f1 z1 c2 f2 z2 c3 f3 z3
   have HLw3 := Lib.hid (HLw2.out.trans hL3)
   have HK0_3 := Lib.hid (hL3.keep HK0_2.out)
   have HK1_3 := Lib.hid (hL3.keep HK1_2.out)
   have HK2_3 := Lib.hid (hL3.keep HK2_2.out)
   have HK3_3 := Lib.hid (hL3.keep HK3_2.out)
   clear hL3
   obtain ⟨c0, f0, z0⟩ := blk_at HK0_3.out
   obtain ⟨c1, f1, z1⟩ := blk_at HK1_3.out
   obtain ⟨c2, f2, z2⟩ := blk_at HK2_3.out
   obtain ⟨c3, f3, z3⟩ := blk_at HK3_3.out
   go_wp2
   refine bodyPost_ret (v := .tuple #[.agg #[.int .i64 0, .int .i64 0], .int .i64 1]) (by simp [results, Try.results66, go_sem, c3, z3]) rfl ⟨by rw [HF.out.1, HF.out.2], by have hLw := HLw3.out; exact qla⟩
 cases h4 : hasI sd x
 · have HF := Lib.hid (ss_c (codeOn_2 (b := true) h1 h2 h4) (by omega) h3 : ssC ⟨n, st, sd⟩ ⟨sa, sb⟩ x ⟨d, t⟩ = 2 ∧ ssS ⟨n, st, sd⟩ ⟨sa, sb⟩ x ⟨d, t⟩ = ⟨0, 0⟩)
   have H1 := Lib.hid h1
   have H2 := Lib.hid h2
   have H3 := Lib.hid h3
   have H4 := Lib.hid h4
   clear h1 h2 h3 h4
   go_enter Try.func66, Try.ntmps66
   go_wp2_with fail
   refine (w_implIsRule _ _ _ _ _ _ (H.out.later (((((Later.refl _).alloc _).alloc _).alloc _).alloc _)) (H'.out.later (((((Later.refl _).alloc _).alloc _).alloc _).alloc _))).mono ?_
   rintro e w1 ⟨rfl, hL1⟩
   rw [H1.out]
   have HLw1 := Lib.hid ((((((Later.refl w).alloc _).alloc _).alloc _).alloc _).trans hL1)
   obtain ⟨K0, K1, K2, K3⟩ := kept4 hL1
   have HK0_1 := Lib.hid K0
   have HK1_1 := Lib.hid K1
   have HK2_1 := Lib.hid K2
   have HK3_1 := Lib.hid K3
   clear K0 K1 K2 K3
   clear hL1
   obtain ⟨c0, f0, z0⟩ := blk_at HK0_1.out
   obtain ⟨c1, f1, z1⟩ := blk_at HK1_1.out
   obtain ⟨c2, f2, z2⟩ := blk_at HK2_1.out
   obtain ⟨c3, f3, z3⟩ := blk_at HK3_1.out
   go_wp2_with fail
   refine (w_implIsSetting _ _ _).mono ?_
   rintro e w2 ⟨rfl, hL2⟩
   rw [H2.out]
   clear c0 f0 z0 c1 f1 z1 c2 f2 z2 c3 f3 z3
   have HLw2 := Lib.hid (HLw1.out.trans hL2)
   have HK0_2 := Lib.hid (hL2.keep HK0_1.out)
   have HK1_2 := Lib.hid (hL2.keep HK1_1.out)
   have HK2_2 := Lib.hid (hL2.keep HK2_1.out)
   have HK3_2 := Lib.hid (hL2.keep HK3_1.out)
   clear hL2
   obtain ⟨c0, f0, z0⟩ := blk_at HK0_2.out
   obtain ⟨c1, f1, z1⟩ := blk_at HK1_2.out
   obtain ⟨c2, f2, z2⟩ := blk_at HK2_2.out
   obtain ⟨c3, f3, z3⟩ := blk_at HK3_2.out
   go_wp2_with fail
   refine (w_implIsFigure _ _ _).mono ?_
   rintro e w3 ⟨rfl, hL3⟩
   rw [H3.out]
   clear c0 f0 z0 c1 f1 z1 c2 f2 z2 c3 f3 z3
   have HLw3 := Lib.hid (HLw2.out.trans hL3)
   have HK0_3 := Lib.hid (hL3.keep HK0_2.out)
   have HK1_3 := Lib.hid (hL3.keep HK1_2.out)
   have HK2_3 := Lib.hid (hL3.keep HK2_2.out)
   have HK3_3 := Lib.hid (hL3.keep HK3_2.out)
   clear hL3
   obtain ⟨c0, f0, z0⟩ := blk_at HK0_3.out
   obtain ⟨c1, f1, z1⟩ := blk_at HK1_3.out
   obtain ⟨c2, f2, z2⟩ := blk_at HK2_3.out
   obtain ⟨c3, f3, z3⟩ := blk_at HK3_3.out
   go_wp2_with fail
   refine (w_hasScale _ _ _ _ _ true _ _ (H.out.later HLw3.out) (H'.out.later HLw3.out)).mono ?_
   rintro e w4 ⟨rfl, hL4⟩
   rw [show hasI (onR ⟨n, st, sd⟩ true) x = _ from H4.out]
   clear c0 f0 z0 c1 f1 z1 c2 f2 z2 c3 f3 z3
   have HLw4 := Lib.hid (HLw3.out.trans hL4)
   have HK0_4 := Lib.hid (hL4.keep HK0_3.out)
   have HK1_4 := Lib.hid (hL4.keep HK1_3.out)
   have HK2_4 := Lib.hid (hL4.keep HK2_3.out)
   have HK3_4 := Lib.hid (hL4.keep HK3_3.out)
   clear hL4
   obtain ⟨c0, f0, z0⟩ := blk_at HK0_4.out
   obtain ⟨c1, f1, z1⟩ := blk_at HK1_4.out
   obtain ⟨c2, f2, z2⟩ := blk_at HK2_4.out
   obtain ⟨c3, f3, z3⟩ := blk_at HK3_4.out
   go_wp2
   refine bodyPost_ret (v := .tuple #[.agg #[.int .i64 0, .int .i64 0], .int .i64 2]) (by simp [results, Try.results66, go_sem, c3, z3]) rfl ⟨by rw [HF.out.1, HF.out.2], by have hLw := HLw4.out; exact qla⟩
 have HC := Lib.hid (codeOn_0 (b := true) h1 h2 h4 : codeOn ⟨n, st, sd⟩ ⟨sa, sb⟩ true x = 0)
 have hx := rule_sl h1 h4
 obtain ⟨sx1, sx2⟩ := hx
 have hsb := isStg_bd h2
 simp only at hsb
 obtain ⟨b1, b2, b3, b4⟩ := hsb
 have hfb := isFig_true h3
 simp only at hfb
 obtain ⟨f1, f2, f3, f4⟩ := hfb
 have hpb := ptF_bd (s := x) (f := ⟨d, t⟩) f1 f2
 obtain ⟨p, hp⟩ : ∃ y, ptF x ⟨d, t⟩ = y := ⟨_, rfl⟩
 rw [hp] at hpb
 have HP := Lib.hid hp
 have wD : IntKind.i64.wrap (sb - p) = sb - p := wrap_same (by omega) (by omega)
 cases h9 : isStg ⟨sb - p, sb⟩
 · have HF := Lib.hid (show ssC ⟨n, st, sd⟩ ⟨sa, sb⟩ x ⟨d, t⟩ = 5 ∧ ssS ⟨n, st, sd⟩ ⟨sa, sb⟩ x ⟨d, t⟩ = ⟨0, 0⟩ from ss_5 HC.out h3 (by rw [hp]; exact h9))
   have H9 := Lib.hid h9
   clear h9 hp
   have H1 := Lib.hid h1
   have H2 := Lib.hid h2
   have H3 := Lib.hid h3
   have H4 := Lib.hid h4
   clear h1 h2 h3 h4
   go_enter Try.func66, Try.ntmps66
   go_wp2_with fail
   refine (w_implIsRule _ _ _ _ _ _ (H.out.later (((((Later.refl _).alloc _).alloc _).alloc _).alloc _)) (H'.out.later (((((Later.refl _).alloc _).alloc _).alloc _).alloc _))).mono ?_
   rintro e w1 ⟨rfl, hL1⟩
   rw [H1.out]
   have HLw1 := Lib.hid ((((((Later.refl w).alloc _).alloc _).alloc _).alloc _).trans hL1)
   obtain ⟨K0, K1, K2, K3⟩ := kept4 hL1
   have HK0_1 := Lib.hid K0
   have HK1_1 := Lib.hid K1
   have HK2_1 := Lib.hid K2
   have HK3_1 := Lib.hid K3
   clear K0 K1 K2 K3
   clear hL1
   obtain ⟨c0, f0, z0⟩ := blk_at HK0_1.out
   obtain ⟨c1, f1, z1⟩ := blk_at HK1_1.out
   obtain ⟨c2, f2, z2⟩ := blk_at HK2_1.out
   obtain ⟨c3, f3, z3⟩ := blk_at HK3_1.out
   go_wp2_with fail
   refine (w_implIsSetting _ _ _).mono ?_
   rintro e w2 ⟨rfl, hL2⟩
   rw [H2.out]
   clear c0 f0 z0 c1 f1 z1 c2 f2 z2 c3 f3 z3
   have HLw2 := Lib.hid (HLw1.out.trans hL2)
   have HK0_2 := Lib.hid (hL2.keep HK0_1.out)
   have HK1_2 := Lib.hid (hL2.keep HK1_1.out)
   have HK2_2 := Lib.hid (hL2.keep HK2_1.out)
   have HK3_2 := Lib.hid (hL2.keep HK3_1.out)
   clear hL2
   obtain ⟨c0, f0, z0⟩ := blk_at HK0_2.out
   obtain ⟨c1, f1, z1⟩ := blk_at HK1_2.out
   obtain ⟨c2, f2, z2⟩ := blk_at HK2_2.out
   obtain ⟨c3, f3, z3⟩ := blk_at HK3_2.out
   go_wp2_with fail
   refine (w_implIsFigure _ _ _).mono ?_
   rintro e w3 ⟨rfl, hL3⟩
   rw [H3.out]
   clear c0 f0 z0 c1 f1 z1 c2 f2 z2 c3 f3 z3
   have HLw3 := Lib.hid (HLw2.out.trans hL3)
   have HK0_3 := Lib.hid (hL3.keep HK0_2.out)
   have HK1_3 := Lib.hid (hL3.keep HK1_2.out)
   have HK2_3 := Lib.hid (hL3.keep HK2_2.out)
   have HK3_3 := Lib.hid (hL3.keep HK3_2.out)
   clear hL3
   obtain ⟨c0, f0, z0⟩ := blk_at HK0_3.out
   obtain ⟨c1, f1, z1⟩ := blk_at HK1_3.out
   obtain ⟨c2, f2, z2⟩ := blk_at HK2_3.out
   obtain ⟨c3, f3, z3⟩ := blk_at HK3_3.out
   go_wp2_with fail
   refine (w_hasScale _ _ _ _ _ true _ _ (H.out.later HLw3.out) (H'.out.later HLw3.out)).mono ?_
   rintro e w4 ⟨rfl, hL4⟩
   rw [show hasI (onR ⟨n, st, sd⟩ true) x = _ from H4.out]
   clear c0 f0 z0 c1 f1 z1 c2 f2 z2 c3 f3 z3
   have HLw4 := Lib.hid (HLw3.out.trans hL4)
   have HK0_4 := Lib.hid (hL4.keep HK0_3.out)
   have HK1_4 := Lib.hid (hL4.keep HK1_3.out)
   have HK2_4 := Lib.hid (hL4.keep HK2_3.out)
   have HK3_4 := Lib.hid (hL4.keep HK3_3.out)
   clear hL4
   obtain ⟨c0, f0, z0⟩ := blk_at HK0_4.out
   obtain ⟨c1, f1, z1⟩ := blk_at HK1_4.out
   obtain ⟨c2, f2, z2⟩ := blk_at HK2_4.out
   obtain ⟨c3, f3, z3⟩ := blk_at HK3_4.out
   go_wp2_with fail
   clear c0 f0 z0 c1 f1 z1 c2 f2 z2 c3 f3 z3
   have hL0 := HLw4.out
   have hSB := hL0.size
   have Kr := HK1_4.out
   have K2 := HK2_4.out
   have Kq := HK3_4.out
   have hRB : w.heap.size ≤ w.heap.size + 1 := by omega
   refine region_slots 42 [31, 32, 33, 34, 35, 36, 37] (fun g ac wc => sl ac 2 = .int .i64 x ∧
    sl ac 5 = .pointer (some ⟨w.heap.size + 1, 0, none⟩) ∧
    sl ac 7 = .pointer (some ⟨w.heap.size + 1 + 1, 0, none⟩) ∧
    (g 0 = true → sl ac 31 = .pointer (some ⟨w.heap.size + 1, 1, none⟩)) ∧
    (g 1 = true → sl ac 32 = .int .i64 sb) ∧
    (g 2 = true → sl ac 33 = .int .i64 x) ∧
    (g 3 = true → sl ac 34 = .agg #[.int .i64 d, .int .i64 t]) ∧
    (g 4 = true → sl ac 35 = .int .i64 p) ∧
    (g 5 = true → sl ac 36 = .int .i64 (sb - p)) ∧
    (g 6 = true → sl ac 37 = .pointer (some ⟨w.heap.size + 1, 0, none⟩)) ∧
    Later w wc ∧
    w4.heap.size ≤ wc.heap.size ∧
    wc.heap[w.heap.size + 1 + 1]? = some (.cells #[.int .i64 d, .int .i64 t] 41 (0, 0)) ∧
    wc.heap[w.heap.size + 1 + 1 + 1]? = some (.cells #[.int .i64 0, .int .i64 0] 66 (0, 0)) ∧
    (g 7 = true → g 1 = true) ∧
    (∃ r0 r1, wc.heap[w.heap.size + 1]? = some (.cells #[r0, r1] 66 (0, 0)) ∧ (g 7 = true → r0 = .int .i64 (sb - p) ∧ r1 = .int .i64 sb) ∧ (g 7 = false → r0 = .int .i64 sa ∧ r1 = .int .i64 sb))) (by kernel_rfl) (by kernel_rfl) rfl (by kernel_rfl) ?_ ?_ ?_
   · exact ⟨rfl, rfl, rfl, nofun, nofun, nofun, nofun, nofun, nofun, nofun, hL0.drew, Nat.le_refl _, K2, Kq, nofun, ⟨_, _, Kr, nofun, fun _ => ⟨rfl, rfl⟩⟩⟩
   · intro g ac wu hg ha hI
     obtain ⟨x2, x5, x7, i0, i1, i2, i3, i4, i5, i6, hL, hS, B2, Bq, -, Rr⟩ := hI
     have a0 := i0 (hg 0 (by simp))
     have a1 := i1 (hg 1 (by simp))
     have a2 := i2 (hg 2 (by simp))
     have a3 := i3 (hg 3 (by simp))
     have a4 := i4 (hg 4 (by simp))
     have a5 := i5 (hg 5 (by simp))
     have a6 := i6 (hg 6 (by simp))
     obtain ⟨r0, r1, Kr, gr⟩ := Rr
     have gr := gr.1 (hg 7 (by simp))
     rw [gr.1, gr.2] at Kr
     clear gr
     simp only [putAll, a0, a1, a2, a3, a4, a5, a6] at ha
     simp only [Act.put, List.setIfInBounds_toArray, List.set_cons_succ, List.set_cons_zero] at ha
     rw [ha]
     clear x2 x5 x7 i0 i1 i2 i3 i4 i5 i6 a0 a1 a2 a3 a4 a5 a6 hg ha
     have HKq := Lib.hid Bq
     have HLu := Lib.hid hL
     obtain ⟨c1, f1, z1⟩ := blk_at Kr
     clear hL0 hL Kr Bq B2 hS
     go_wp2_with fail
     refine (w_valid0 _ _ _ H9.out).mono ?_
     rintro e wv ⟨rfl, hL5⟩
     obtain ⟨c3, f3, z3⟩ := blk_at (hL5.keep HKq.out)
     have hLw := HLu.out.trans hL5
     go_wp2
     refine bodyPost_ret (v := .tuple #[.agg #[.int .i64 0, .int .i64 0], .int .i64 5]) (by simp [results, Try.results66, go_sem, c3, z3]) rfl ⟨by rw [HF.out.1, HF.out.2], qla⟩
   · refine .cons ?_ (.cons ?_ (.cons ?_ (.cons ?_ (.cons ?_ (.cons ?_ (.cons ?_ (.cons ?_ .nil)))))))
     · refine qst fun g ac wc hn hk hr HI K' hK => ?_
       obtain ⟨x2, x5, x7, -, -, -, -, -, -, -, hL, hS, B2, Bq, l7_1, Rr⟩ := HI.out
       simp [Region.binds] at hr
       go_simp
       obtain ⟨-, -, -, i0, i1, i2, i3, i4, i5, i6, -⟩ := HI.out
       exact hK.out _ _ ⟨qB x2, qB x5, qB x7, qP, qF i1, qF i2, qF i3, qF i4, qF i5, qF i6, hL, hS, B2, Bq, l7_1, Rr⟩
     · refine qst fun g ac wc hn hk hr HI K' hK => ?_
       obtain ⟨x2, x5, x7, i0, -, -, -, -, -, -, hL, hS, B2, Bq, l7_1, Rr⟩ := HI.out
       simp [Region.binds] at hr
       have y0 := i0 (by simp [hr])
       clear i0
       have hst : g 7 = false := by
        cases hq : g 7 with
        | false => rfl
        | true =>
         have := l7_1 hq
         rw [hk] at this
         cases this
       have RR := Rr
       obtain ⟨r0, r1, R1, -, R3⟩ := RR
       have R3 := R3 hst
       rw [R3.1, R3.2] at R1
       obtain ⟨cR, fR, zR⟩ := blk_at R1
       clear R1 R3
       go_simp
       obtain ⟨-, -, -, i0, i1, i2, i3, i4, i5, i6, -⟩ := HI.out
       exact hK.out _ _ ⟨qB x2, qB x5, qB x7, qF i0, qP, qF i2, qF i3, qF i4, qF i5, qF i6, hL, hS, B2, Bq, (fun _ => rfl), Rr⟩
     · refine qst fun g ac wc hn hk hr HI K' hK => ?_
       obtain ⟨x2, x5, x7, -, -, -, -, -, -, -, hL, hS, B2, Bq, l7_1, Rr⟩ := HI.out
       simp [Region.binds] at hr
       go_simp
       obtain ⟨-, -, -, i0, i1, i2, i3, i4, i5, i6, -⟩ := HI.out
       exact hK.out _ _ ⟨qB x2, qB x5, qB x7, qF i0, qF i1, qP, qF i3, qF i4, qF i5, qF i6, hL, hS, B2, Bq, l7_1, Rr⟩
     · refine qst fun g ac wc hn hk hr HI K' hK => ?_
       obtain ⟨x2, x5, x7, -, -, -, -, -, -, -, hL, hS, B2, Bq, l7_1, Rr⟩ := HI.out
       simp [Region.binds] at hr
       obtain ⟨c0, f0, z0⟩ := blk_at B2
       go_simp
       obtain ⟨-, -, -, i0, i1, i2, i3, i4, i5, i6, -⟩ := HI.out
       exact hK.out _ _ ⟨qB x2, qB x5, qB x7, qF i0, qF i1, qF i2, qP, qF i4, qF i5, qF i6, hL, hS, B2, Bq, l7_1, Rr⟩
     · refine qst fun g ac wc hn hk hr HI K' hK => ?_
       obtain ⟨x2, x5, x7, -, -, i2, i3, -, -, -, hL, hS, B2, Bq, l7_1, Rr⟩ := HI.out
       simp [Region.binds] at hr
       have y2 := i2 (by simp [hr])
       have y3 := i3 (by simp [hr])
       clear i2 i3
       go_simp
       refine (w_implPoint _ _ _ sx1 sx2 f1 f2 (by omega) (by omega) _).mono ?_
       rintro e w4 ⟨rfl, hL4⟩
       rw [HP.out]
       obtain ⟨-, -, -, i0, i1, i2, i3, i4, i5, i6, -⟩ := HI.out
       exact hK.out _ _ ⟨qB x2, qB x5, qB x7, qF i0, qF i1, qF i2, qF i3, qP, qF i5, qF i6, hL.trans hL4, Nat.le_trans hS hL4.size, hL4.keep B2, hL4.keep Bq, l7_1, (by obtain ⟨r0, r1, R1, R2⟩ := Rr; exact ⟨r0, r1, hL4.keep R1, R2⟩)⟩
     · refine qst fun g ac wc hn hk hr HI K' hK => ?_
       obtain ⟨x2, x5, x7, -, i1, -, -, i4, -, -, hL, hS, B2, Bq, l7_1, Rr⟩ := HI.out
       simp [Region.binds] at hr
       have y1 := i1 (by simp [hr])
       have y4 := i4 (by simp [hr])
       clear i1 i4
       have wD : IntKind.i64.wrap (sb - p) = sb - p := wrap_same (by omega) (by omega)
       go_simp
       obtain ⟨-, -, -, i0, i1, i2, i3, i4, i5, i6, -⟩ := HI.out
       exact hK.out _ _ ⟨qB x2, qB x5, qB x7, qF i0, qF i1, qF i2, qF i3, qF i4, qP, qF i6, hL, hS, B2, Bq, l7_1, Rr⟩
     · refine qst fun g ac wc hn hk hr HI K' hK => ?_
       obtain ⟨x2, x5, x7, -, -, -, -, -, -, -, hL, hS, B2, Bq, l7_1, Rr⟩ := HI.out
       simp [Region.binds] at hr
       go_simp
       obtain ⟨-, -, -, i0, i1, i2, i3, i4, i5, i6, -⟩ := HI.out
       exact hK.out _ _ ⟨qB x2, qB x5, qB x7, qF i0, qF i1, qF i2, qF i3, qF i4, qF i5, qP, hL, hS, B2, Bq, l7_1, Rr⟩
     · refine qst fun g ac wc hn hk hr HI K' hK => ?_
       obtain ⟨x2, x5, x7, -, -, -, -, -, i5, i6, hL, hS, B2, Bq, l7_1, Rr⟩ := HI.out
       simp [Region.binds] at hr
       have y6 := i6 (by simp [hr])
       have y5 := i5 (by simp [hr])
       clear i5 i6
       obtain ⟨r0, r1, R1, -, R3⟩ := Rr
       have R3 := R3 hk
       rw [R3.1, R3.2] at R1
       obtain ⟨c0, f0, z0⟩ := blk_at R1
       go_simp
       obtain ⟨-, -, -, i0, i1, i2, i3, i4, i5, i6, -⟩ := HI.out
       exact hK.out undef _ ⟨x2, x5, x7, i0, i1, i2, i3, i4, i5, i6, (hL.setCell hRB _), (by simp; omega), (other_set B2 (by omega) _), (other_set Bq (by omega) _), (fun _ => by simp [hr]), ⟨_, _, set_0of2 R1 _, fun _ => ⟨rfl, rfl⟩, fun h => absurd h (by simp)⟩⟩
 · have HF := Lib.hid (show ssC ⟨n, st, sd⟩ ⟨sa, sb⟩ x ⟨d, t⟩ = 0 ∧ ssS ⟨n, st, sd⟩ ⟨sa, sb⟩ x ⟨d, t⟩ = ⟨sb - p, sb⟩ from hp ▸ (ss_0 HC.out h3 (by rw [hp]; exact h9)))
   have H9 := Lib.hid h9
   clear h9 hp
   have H1 := Lib.hid h1
   have H2 := Lib.hid h2
   have H3 := Lib.hid h3
   have H4 := Lib.hid h4
   clear h1 h2 h3 h4
   go_enter Try.func66, Try.ntmps66
   go_wp2_with fail
   refine (w_implIsRule _ _ _ _ _ _ (H.out.later (((((Later.refl _).alloc _).alloc _).alloc _).alloc _)) (H'.out.later (((((Later.refl _).alloc _).alloc _).alloc _).alloc _))).mono ?_
   rintro e w1 ⟨rfl, hL1⟩
   rw [H1.out]
   have HLw1 := Lib.hid ((((((Later.refl w).alloc _).alloc _).alloc _).alloc _).trans hL1)
   obtain ⟨K0, K1, K2, K3⟩ := kept4 hL1
   have HK0_1 := Lib.hid K0
   have HK1_1 := Lib.hid K1
   have HK2_1 := Lib.hid K2
   have HK3_1 := Lib.hid K3
   clear K0 K1 K2 K3
   clear hL1
   obtain ⟨c0, f0, z0⟩ := blk_at HK0_1.out
   obtain ⟨c1, f1, z1⟩ := blk_at HK1_1.out
   obtain ⟨c2, f2, z2⟩ := blk_at HK2_1.out
   obtain ⟨c3, f3, z3⟩ := blk_at HK3_1.out
   go_wp2_with fail
   refine (w_implIsSetting _ _ _).mono ?_
   rintro e w2 ⟨rfl, hL2⟩
   rw [H2.out]
   clear c0 f0 z0 c1 f1 z1 c2 f2 z2 c3 f3 z3
   have HLw2 := Lib.hid (HLw1.out.trans hL2)
   have HK0_2 := Lib.hid (hL2.keep HK0_1.out)
   have HK1_2 := Lib.hid (hL2.keep HK1_1.out)
   have HK2_2 := Lib.hid (hL2.keep HK2_1.out)
   have HK3_2 := Lib.hid (hL2.keep HK3_1.out)
   clear hL2
   obtain ⟨c0, f0, z0⟩ := blk_at HK0_2.out
   obtain ⟨c1, f1, z1⟩ := blk_at HK1_2.out
   obtain ⟨c2, f2, z2⟩ := blk_at HK2_2.out
   obtain ⟨c3, f3, z3⟩ := blk_at HK3_2.out
   go_wp2_with fail
   refine (w_implIsFigure _ _ _).mono ?_
   rintro e w3 ⟨rfl, hL3⟩
   rw [H3.out]
   clear c0 f0 z0 c1 f1 z1 c2 f2 z2 c3 f3 z3
   have HLw3 := Lib.hid (HLw2.out.trans hL3)
   have HK0_3 := Lib.hid (hL3.keep HK0_2.out)
   have HK1_3 := Lib.hid (hL3.keep HK1_2.out)
   have HK2_3 := Lib.hid (hL3.keep HK2_2.out)
   have HK3_3 := Lib.hid (hL3.keep HK3_2.out)
   clear hL3
   obtain ⟨c0, f0, z0⟩ := blk_at HK0_3.out
   obtain ⟨c1, f1, z1⟩ := blk_at HK1_3.out
   obtain ⟨c2, f2, z2⟩ := blk_at HK2_3.out
   obtain ⟨c3, f3, z3⟩ := blk_at HK3_3.out
   go_wp2_with fail
   refine (w_hasScale _ _ _ _ _ true _ _ (H.out.later HLw3.out) (H'.out.later HLw3.out)).mono ?_
   rintro e w4 ⟨rfl, hL4⟩
   rw [show hasI (onR ⟨n, st, sd⟩ true) x = _ from H4.out]
   clear c0 f0 z0 c1 f1 z1 c2 f2 z2 c3 f3 z3
   have HLw4 := Lib.hid (HLw3.out.trans hL4)
   have HK0_4 := Lib.hid (hL4.keep HK0_3.out)
   have HK1_4 := Lib.hid (hL4.keep HK1_3.out)
   have HK2_4 := Lib.hid (hL4.keep HK2_3.out)
   have HK3_4 := Lib.hid (hL4.keep HK3_3.out)
   clear hL4
   obtain ⟨c0, f0, z0⟩ := blk_at HK0_4.out
   obtain ⟨c1, f1, z1⟩ := blk_at HK1_4.out
   obtain ⟨c2, f2, z2⟩ := blk_at HK2_4.out
   obtain ⟨c3, f3, z3⟩ := blk_at HK3_4.out
   go_wp2_with fail
   clear c0 f0 z0 c1 f1 z1 c2 f2 z2 c3 f3 z3
   have hL0 := HLw4.out
   have hSB := hL0.size
   have Kr := HK1_4.out
   have K2 := HK2_4.out
   have Kq := HK3_4.out
   have hRB : w.heap.size ≤ w.heap.size + 1 := by omega
   refine region_slots 42 [31, 32, 33, 34, 35, 36, 37] (fun g ac wc => sl ac 2 = .int .i64 x ∧
    sl ac 5 = .pointer (some ⟨w.heap.size + 1, 0, none⟩) ∧
    sl ac 7 = .pointer (some ⟨w.heap.size + 1 + 1, 0, none⟩) ∧
    (g 0 = true → sl ac 31 = .pointer (some ⟨w.heap.size + 1, 1, none⟩)) ∧
    (g 1 = true → sl ac 32 = .int .i64 sb) ∧
    (g 2 = true → sl ac 33 = .int .i64 x) ∧
    (g 3 = true → sl ac 34 = .agg #[.int .i64 d, .int .i64 t]) ∧
    (g 4 = true → sl ac 35 = .int .i64 p) ∧
    (g 5 = true → sl ac 36 = .int .i64 (sb - p)) ∧
    (g 6 = true → sl ac 37 = .pointer (some ⟨w.heap.size + 1, 0, none⟩)) ∧
    Later w wc ∧
    w4.heap.size ≤ wc.heap.size ∧
    wc.heap[w.heap.size + 1 + 1]? = some (.cells #[.int .i64 d, .int .i64 t] 41 (0, 0)) ∧
    wc.heap[w.heap.size + 1 + 1 + 1]? = some (.cells #[.int .i64 0, .int .i64 0] 66 (0, 0)) ∧
    (g 7 = true → g 1 = true) ∧
    (∃ r0 r1, wc.heap[w.heap.size + 1]? = some (.cells #[r0, r1] 66 (0, 0)) ∧ (g 7 = true → r0 = .int .i64 (sb - p) ∧ r1 = .int .i64 sb) ∧ (g 7 = false → r0 = .int .i64 sa ∧ r1 = .int .i64 sb))) (by kernel_rfl) (by kernel_rfl) rfl (by kernel_rfl) ?_ ?_ ?_
   · exact ⟨rfl, rfl, rfl, nofun, nofun, nofun, nofun, nofun, nofun, nofun, hL0.drew, Nat.le_refl _, K2, Kq, nofun, ⟨_, _, Kr, nofun, fun _ => ⟨rfl, rfl⟩⟩⟩
   · intro g ac wu hg ha hI
     obtain ⟨x2, x5, x7, i0, i1, i2, i3, i4, i5, i6, hL, hS, B2, Bq, -, Rr⟩ := hI
     have a0 := i0 (hg 0 (by simp))
     have a1 := i1 (hg 1 (by simp))
     have a2 := i2 (hg 2 (by simp))
     have a3 := i3 (hg 3 (by simp))
     have a4 := i4 (hg 4 (by simp))
     have a5 := i5 (hg 5 (by simp))
     have a6 := i6 (hg 6 (by simp))
     obtain ⟨r0, r1, Kr, gr⟩ := Rr
     have gr := gr.1 (hg 7 (by simp))
     rw [gr.1, gr.2] at Kr
     clear gr
     simp only [putAll, a0, a1, a2, a3, a4, a5, a6] at ha
     simp only [Act.put, List.setIfInBounds_toArray, List.set_cons_succ, List.set_cons_zero] at ha
     rw [ha]
     clear x2 x5 x7 i0 i1 i2 i3 i4 i5 i6 a0 a1 a2 a3 a4 a5 a6 hg ha
     have HKq := Lib.hid Bq
     have HLu := Lib.hid hL
     obtain ⟨c1, f1, z1⟩ := blk_at Kr
     clear hL0 hL Kr Bq B2 hS
     go_wp2_with fail
     refine (w_valid1 _ _ _ H9.out).mono ?_
     rintro e wv ⟨rfl, hL5⟩
     obtain ⟨c3, f3, z3⟩ := blk_at (hL5.keep HKq.out)
     have hLw := HLu.out.trans hL5
     go_wp2
     refine bodyPost_ret (v := .tuple #[.agg #[.int .i64 (sb - p), .int .i64 sb], .int .i64 0]) (by simp [results, Try.results66, go_sem, c3, z3]) rfl ⟨by rw [HF.out.1, HF.out.2], qla⟩
   · refine .cons ?_ (.cons ?_ (.cons ?_ (.cons ?_ (.cons ?_ (.cons ?_ (.cons ?_ (.cons ?_ .nil)))))))
     · refine qst fun g ac wc hn hk hr HI K' hK => ?_
       obtain ⟨x2, x5, x7, -, -, -, -, -, -, -, hL, hS, B2, Bq, l7_1, Rr⟩ := HI.out
       simp [Region.binds] at hr
       go_simp
       obtain ⟨-, -, -, i0, i1, i2, i3, i4, i5, i6, -⟩ := HI.out
       exact hK.out _ _ ⟨qB x2, qB x5, qB x7, qP, qF i1, qF i2, qF i3, qF i4, qF i5, qF i6, hL, hS, B2, Bq, l7_1, Rr⟩
     · refine qst fun g ac wc hn hk hr HI K' hK => ?_
       obtain ⟨x2, x5, x7, i0, -, -, -, -, -, -, hL, hS, B2, Bq, l7_1, Rr⟩ := HI.out
       simp [Region.binds] at hr
       have y0 := i0 (by simp [hr])
       clear i0
       have hst : g 7 = false := by
        cases hq : g 7 with
        | false => rfl
        | true =>
         have := l7_1 hq
         rw [hk] at this
         cases this
       have RR := Rr
       obtain ⟨r0, r1, R1, -, R3⟩ := RR
       have R3 := R3 hst
       rw [R3.1, R3.2] at R1
       obtain ⟨cR, fR, zR⟩ := blk_at R1
       clear R1 R3
       go_simp
       obtain ⟨-, -, -, i0, i1, i2, i3, i4, i5, i6, -⟩ := HI.out
       exact hK.out _ _ ⟨qB x2, qB x5, qB x7, qF i0, qP, qF i2, qF i3, qF i4, qF i5, qF i6, hL, hS, B2, Bq, (fun _ => rfl), Rr⟩
     · refine qst fun g ac wc hn hk hr HI K' hK => ?_
       obtain ⟨x2, x5, x7, -, -, -, -, -, -, -, hL, hS, B2, Bq, l7_1, Rr⟩ := HI.out
       simp [Region.binds] at hr
       go_simp
       obtain ⟨-, -, -, i0, i1, i2, i3, i4, i5, i6, -⟩ := HI.out
       exact hK.out _ _ ⟨qB x2, qB x5, qB x7, qF i0, qF i1, qP, qF i3, qF i4, qF i5, qF i6, hL, hS, B2, Bq, l7_1, Rr⟩
     · refine qst fun g ac wc hn hk hr HI K' hK => ?_
       obtain ⟨x2, x5, x7, -, -, -, -, -, -, -, hL, hS, B2, Bq, l7_1, Rr⟩ := HI.out
       simp [Region.binds] at hr
       obtain ⟨c0, f0, z0⟩ := blk_at B2
       go_simp
       obtain ⟨-, -, -, i0, i1, i2, i3, i4, i5, i6, -⟩ := HI.out
       exact hK.out _ _ ⟨qB x2, qB x5, qB x7, qF i0, qF i1, qF i2, qP, qF i4, qF i5, qF i6, hL, hS, B2, Bq, l7_1, Rr⟩
     · refine qst fun g ac wc hn hk hr HI K' hK => ?_
       obtain ⟨x2, x5, x7, -, -, i2, i3, -, -, -, hL, hS, B2, Bq, l7_1, Rr⟩ := HI.out
       simp [Region.binds] at hr
       have y2 := i2 (by simp [hr])
       have y3 := i3 (by simp [hr])
       clear i2 i3
       go_simp
       refine (w_implPoint _ _ _ sx1 sx2 f1 f2 (by omega) (by omega) _).mono ?_
       rintro e w4 ⟨rfl, hL4⟩
       rw [HP.out]
       obtain ⟨-, -, -, i0, i1, i2, i3, i4, i5, i6, -⟩ := HI.out
       exact hK.out _ _ ⟨qB x2, qB x5, qB x7, qF i0, qF i1, qF i2, qF i3, qP, qF i5, qF i6, hL.trans hL4, Nat.le_trans hS hL4.size, hL4.keep B2, hL4.keep Bq, l7_1, (by obtain ⟨r0, r1, R1, R2⟩ := Rr; exact ⟨r0, r1, hL4.keep R1, R2⟩)⟩
     · refine qst fun g ac wc hn hk hr HI K' hK => ?_
       obtain ⟨x2, x5, x7, -, i1, -, -, i4, -, -, hL, hS, B2, Bq, l7_1, Rr⟩ := HI.out
       simp [Region.binds] at hr
       have y1 := i1 (by simp [hr])
       have y4 := i4 (by simp [hr])
       clear i1 i4
       have wD : IntKind.i64.wrap (sb - p) = sb - p := wrap_same (by omega) (by omega)
       go_simp
       obtain ⟨-, -, -, i0, i1, i2, i3, i4, i5, i6, -⟩ := HI.out
       exact hK.out _ _ ⟨qB x2, qB x5, qB x7, qF i0, qF i1, qF i2, qF i3, qF i4, qP, qF i6, hL, hS, B2, Bq, l7_1, Rr⟩
     · refine qst fun g ac wc hn hk hr HI K' hK => ?_
       obtain ⟨x2, x5, x7, -, -, -, -, -, -, -, hL, hS, B2, Bq, l7_1, Rr⟩ := HI.out
       simp [Region.binds] at hr
       go_simp
       obtain ⟨-, -, -, i0, i1, i2, i3, i4, i5, i6, -⟩ := HI.out
       exact hK.out _ _ ⟨qB x2, qB x5, qB x7, qF i0, qF i1, qF i2, qF i3, qF i4, qF i5, qP, hL, hS, B2, Bq, l7_1, Rr⟩
     · refine qst fun g ac wc hn hk hr HI K' hK => ?_
       obtain ⟨x2, x5, x7, -, -, -, -, -, i5, i6, hL, hS, B2, Bq, l7_1, Rr⟩ := HI.out
       simp [Region.binds] at hr
       have y6 := i6 (by simp [hr])
       have y5 := i5 (by simp [hr])
       clear i5 i6
       obtain ⟨r0, r1, R1, -, R3⟩ := Rr
       have R3 := R3 hk
       rw [R3.1, R3.2] at R1
       obtain ⟨c0, f0, z0⟩ := blk_at R1
       go_simp
       obtain ⟨-, -, -, i0, i1, i2, i3, i4, i5, i6, -⟩ := HI.out
       exact hK.out undef _ ⟨x2, x5, x7, i0, i1, i2, i3, i4, i5, i6, (hL.setCell hRB _), (by simp; omega), (other_set B2 (by omega) _), (other_set Bq (by omega) _), (fun _ => by simp [hr]), ⟨_, _, set_0of2 R1 _, fun _ => ⟨rfl, rfl⟩, fun h => absurd h (by simp)⟩⟩
set_option maxHeartbeats 2000000 in
theorem w_specSetSlide (n : Int) (u v : Value) (st sd : List Int) (sa sb x d t : Int) (w : World) (h : IsNums w u st) (h' : IsNums w v sd) :
 Calls Try.prog 67 #[.agg #[.int .i64 n, u, v], .agg #[.int .i64 sa, .int .i64 sb], .int .i64 x, .agg #[.int .i64 d, .int .i64 t]] w fun e w' => e = .returned (.tuple #[.agg #[.int .i64 (ssS ⟨n, st, sd⟩ ⟨sa, sb⟩ x ⟨d, t⟩).sh, .int .i64 (ssS ⟨n, st, sd⟩ ⟨sa, sb⟩ x ⟨d, t⟩).cu], .int .i64 (ssC ⟨n, st, sd⟩ ⟨sa, sb⟩ x ⟨d, t⟩)]) ∧ Later w w' := by
 have H := Lib.hid h
 have H' := Lib.hid h'
 obtain ⟨_, _, au, capu, rfl, _, _, _⟩ := h
 obtain ⟨_, _, av, capv, rfl, _, _, _⟩ := h'
 obtain ⟨k, hk⟩ : ∃ k, codeOn ⟨n, st, sd⟩ ⟨sa, sb⟩ true x = k := ⟨_, rfl⟩
 cases h1 : isFig ⟨d, t⟩
 · have HF := Lib.hid (ss_f h1 : ssC ⟨n, st, sd⟩ ⟨sa, sb⟩ x ⟨d, t⟩ = 1 ∧ ssS ⟨n, st, sd⟩ ⟨sa, sb⟩ x ⟨d, t⟩ = ⟨0, 0⟩)
   have HC := Lib.hid hk
   clear hk
   have H1 := Lib.hid h1
   clear h1
   go_enter Try.func67, Try.ntmps67
   go_wp2_with fail
   refine (w_l11Code _ _ _ _ _ _ _ true _ _ (H.out.later (((((Later.refl _).alloc _).alloc _).alloc _).alloc _)) (H'.out.later (((((Later.refl _).alloc _).alloc _).alloc _).alloc _))).mono ?_
   rintro e w1 ⟨rfl, hL1⟩
   rw [HC.out]
   have HLw1 := Lib.hid ((((((Later.refl w).alloc _).alloc _).alloc _).alloc _).trans hL1)
   obtain ⟨K0, K1, K2, K3⟩ := kept4 hL1
   have HK0_1 := Lib.hid K0
   have HK1_1 := Lib.hid K1
   have HK2_1 := Lib.hid K2
   have HK3_1 := Lib.hid K3
   clear K0 K1 K2 K3
   clear hL1
   obtain ⟨c0, f0, z0⟩ := blk_at HK0_1.out
   obtain ⟨c1, f1, z1⟩ := blk_at HK1_1.out
   obtain ⟨c2, f2, z2⟩ := blk_at HK2_1.out
   obtain ⟨c3, f3, z3⟩ := blk_at HK3_1.out
   go_wp2_with fail
   refine (w_specIsFigure _ _ _).mono ?_
   rintro e w2 ⟨rfl, hL2⟩
   rw [H1.out]
   clear c0 f0 z0 c1 f1 z1 c2 f2 z2 c3 f3 z3
   have HLw2 := Lib.hid (HLw1.out.trans hL2)
   have HK0_2 := Lib.hid (hL2.keep HK0_1.out)
   have HK1_2 := Lib.hid (hL2.keep HK1_1.out)
   have HK2_2 := Lib.hid (hL2.keep HK2_1.out)
   have HK3_2 := Lib.hid (hL2.keep HK3_1.out)
   clear hL2
   obtain ⟨c0, f0, z0⟩ := blk_at HK0_2.out
   obtain ⟨c1, f1, z1⟩ := blk_at HK1_2.out
   obtain ⟨c2, f2, z2⟩ := blk_at HK2_2.out
   obtain ⟨c3, f3, z3⟩ := blk_at HK3_2.out
   go_wp2
   refine bodyPost_ret (v := .tuple #[.agg #[.int .i64 0, .int .i64 0], .int .i64 1]) (by simp [results, Try.results67, go_sem, c3, z3]) rfl ⟨by rw [HF.out.1, HF.out.2], by have hLw := HLw2.out; exact qla⟩
 by_cases hk0 : k = 0
 rotate_left
 · have HF := Lib.hid (ss_c hk hk0 h1 : ssC ⟨n, st, sd⟩ ⟨sa, sb⟩ x ⟨d, t⟩ = k ∧ ssS ⟨n, st, sd⟩ ⟨sa, sb⟩ x ⟨d, t⟩ = ⟨0, 0⟩)
   have HC := Lib.hid hk
   have hkb : (k == 0) = false := by simpa using hk0
   clear hk
   have H1 := Lib.hid h1
   clear h1
   go_enter Try.func67, Try.ntmps67
   go_wp2_with fail
   refine (w_l11Code _ _ _ _ _ _ _ true _ _ (H.out.later (((((Later.refl _).alloc _).alloc _).alloc _).alloc _)) (H'.out.later (((((Later.refl _).alloc _).alloc _).alloc _).alloc _))).mono ?_
   rintro e w1 ⟨rfl, hL1⟩
   rw [HC.out]
   have HLw1 := Lib.hid ((((((Later.refl w).alloc _).alloc _).alloc _).alloc _).trans hL1)
   obtain ⟨K0, K1, K2, K3⟩ := kept4 hL1
   have HK0_1 := Lib.hid K0
   have HK1_1 := Lib.hid K1
   have HK2_1 := Lib.hid K2
   have HK3_1 := Lib.hid K3
   clear K0 K1 K2 K3
   clear hL1
   obtain ⟨c0, f0, z0⟩ := blk_at HK0_1.out
   obtain ⟨c1, f1, z1⟩ := blk_at HK1_1.out
   obtain ⟨c2, f2, z2⟩ := blk_at HK2_1.out
   obtain ⟨c3, f3, z3⟩ := blk_at HK3_1.out
   go_wp2_with fail
   refine (w_specIsFigure _ _ _).mono ?_
   rintro e w2 ⟨rfl, hL2⟩
   rw [H1.out]
   clear c0 f0 z0 c1 f1 z1 c2 f2 z2 c3 f3 z3
   have HLw2 := Lib.hid (HLw1.out.trans hL2)
   have HK0_2 := Lib.hid (hL2.keep HK0_1.out)
   have HK1_2 := Lib.hid (hL2.keep HK1_1.out)
   have HK2_2 := Lib.hid (hL2.keep HK2_1.out)
   have HK3_2 := Lib.hid (hL2.keep HK3_1.out)
   clear hL2
   obtain ⟨c0, f0, z0⟩ := blk_at HK0_2.out
   obtain ⟨c1, f1, z1⟩ := blk_at HK1_2.out
   obtain ⟨c2, f2, z2⟩ := blk_at HK2_2.out
   obtain ⟨c3, f3, z3⟩ := blk_at HK3_2.out
   go_wp2
   refine bodyPost_ret (v := .tuple #[.agg #[.int .i64 0, .int .i64 0], .int .i64 k]) (by simp [results, Try.results67, go_sem, c3, z3]) rfl ⟨by rw [HF.out.1, HF.out.2], by have hLw := HLw2.out; exact qla⟩
 subst hk0
 obtain ⟨hr, h2, hs⟩ := codeOn_inv hk
 have hx := rule_sl hr hs
 clear hr hs
 have HC := Lib.hid hk
 clear hk
 obtain ⟨sx1, sx2⟩ := hx
 have hsb := isStg_bd h2
 simp only at hsb
 obtain ⟨b1, b2, b3, b4⟩ := hsb
 have hfb := isFig_true h1
 simp only at hfb
 obtain ⟨f1, f2, f3, f4⟩ := hfb
 have hpb := ptF_bd (s := x) (f := ⟨d, t⟩) f1 f2
 obtain ⟨p, hp⟩ : ∃ y, ptF x ⟨d, t⟩ = y := ⟨_, rfl⟩
 rw [hp] at hpb
 have HP := Lib.hid hp
 have wD : IntKind.i64.wrap (sb - p) = sb - p := wrap_same (by omega) (by omega)
 cases h9 : isStg ⟨sb - p, sb⟩
 · have HF := Lib.hid (show ssC ⟨n, st, sd⟩ ⟨sa, sb⟩ x ⟨d, t⟩ = 5 ∧ ssS ⟨n, st, sd⟩ ⟨sa, sb⟩ x ⟨d, t⟩ = ⟨0, 0⟩ from ss_5 HC.out h1 (by rw [hp]; exact h9))
   have H9 := Lib.hid h9
   clear h9 hp
   have H1 := Lib.hid h1
   have H2 := Lib.hid h2
   clear h1 h2
   go_enter Try.func67, Try.ntmps67
   go_wp2_with fail
   refine (w_l11Code _ _ _ _ _ _ _ true _ _ (H.out.later (((((Later.refl _).alloc _).alloc _).alloc _).alloc _)) (H'.out.later (((((Later.refl _).alloc _).alloc _).alloc _).alloc _))).mono ?_
   rintro e w1 ⟨rfl, hL1⟩
   rw [HC.out]
   have HLw1 := Lib.hid ((((((Later.refl w).alloc _).alloc _).alloc _).alloc _).trans hL1)
   obtain ⟨K0, K1, K2, K3⟩ := kept4 hL1
   have HK0_1 := Lib.hid K0
   have HK1_1 := Lib.hid K1
   have HK2_1 := Lib.hid K2
   have HK3_1 := Lib.hid K3
   clear K0 K1 K2 K3
   clear hL1
   obtain ⟨c0, f0, z0⟩ := blk_at HK0_1.out
   obtain ⟨c1, f1, z1⟩ := blk_at HK1_1.out
   obtain ⟨c2, f2, z2⟩ := blk_at HK2_1.out
   obtain ⟨c3, f3, z3⟩ := blk_at HK3_1.out
   go_wp2_with fail
   refine (w_specIsFigure _ _ _).mono ?_
   rintro e w2 ⟨rfl, hL2⟩
   rw [H1.out]
   clear c0 f0 z0 c1 f1 z1 c2 f2 z2 c3 f3 z3
   have HLw2 := Lib.hid (HLw1.out.trans hL2)
   have HK0_2 := Lib.hid (hL2.keep HK0_1.out)
   have HK1_2 := Lib.hid (hL2.keep HK1_1.out)
   have HK2_2 := Lib.hid (hL2.keep HK2_1.out)
   have HK3_2 := Lib.hid (hL2.keep HK3_1.out)
   clear hL2
   obtain ⟨c0, f0, z0⟩ := blk_at HK0_2.out
   obtain ⟨c1, f1, z1⟩ := blk_at HK1_2.out
   obtain ⟨c2, f2, z2⟩ := blk_at HK2_2.out
   obtain ⟨c3, f3, z3⟩ := blk_at HK3_2.out
   go_wp2_with fail
   clear c0 f0 z0 c1 f1 z1 c2 f2 z2 c3 f3 z3
   have hL0 := HLw2.out
   have hSB := hL0.size
   have K1 := HK1_2.out
   have K2 := HK2_2.out
   have Kq := HK3_2.out
   have hRBq : w.heap.size ≤ w.heap.size + 1 + 1 + 1 := by omega
   refine region_slots 34 [22, 23, 24, 25, 26, 27, 28, 29, 30, 31, 32, 33, 9] (fun g ac wc => sl ac 2 = .int .i64 x ∧
    sl ac 5 = .pointer (some ⟨w.heap.size + 1, 0, none⟩) ∧
    sl ac 7 = .pointer (some ⟨w.heap.size + 1 + 1, 0, none⟩) ∧
    sl ac 8 = .pointer (some ⟨w.heap.size + 1 + 1 + 1, 0, none⟩) ∧
    (g 0 = true → sl ac 22 = .pointer (some ⟨w.heap.size + 1, 1, none⟩)) ∧
    (g 1 = true → sl ac 23 = .int .i64 sb) ∧
    (g 2 = true → sl ac 24 = .int .i64 x) ∧
    (g 3 = true → sl ac 25 = .agg #[.int .i64 d, .int .i64 t]) ∧
    (g 4 = true → sl ac 26 = .int .i64 p) ∧
    (g 5 = true → sl ac 27 = .int .i64 (sb - p)) ∧
    (g 6 = true → sl ac 28 = .pointer (some ⟨w.heap.size + 1, 1, none⟩)) ∧
    (g 7 = true → sl ac 29 = .int .i64 sb) ∧
    (g 8 = true → sl ac 30 = .agg #[.int .i64 (sb - p), .int .i64 sb]) ∧
    (g 9 = true → sl ac 31 = .tuple #[.agg #[.int .i64 0, .int .i64 0], .int .i64 5]) ∧
    (g 10 = true → sl ac 32 = .agg #[.int .i64 0, .int .i64 0]) ∧
    (g 11 = true → sl ac 33 = .int .i64 5) ∧
    (g 13 = true → sl ac 9 = .int .i64 5) ∧
    Later w wc ∧
    w2.heap.size ≤ wc.heap.size ∧
    wc.heap[w.heap.size + 1]? = some (.cells #[.int .i64 sa, .int .i64 sb] 66 (0, 0)) ∧
    wc.heap[w.heap.size + 1 + 1]? = some (.cells #[.int .i64 d, .int .i64 t] 41 (0, 0)) ∧
    (∃ q0 q1, wc.heap[w.heap.size + 1 + 1 + 1]? = some (.cells #[q0, q1] 66 (0, 0)) ∧ (g 12 = true → q0 = .int .i64 0 ∧ q1 = .int .i64 0))) (by kernel_rfl) (by kernel_rfl) rfl (by kernel_rfl) ?_ ?_ ?_
   · exact ⟨rfl, rfl, rfl, rfl, nofun, nofun, nofun, nofun, nofun, nofun, nofun, nofun, nofun, nofun, nofun, nofun, nofun, hL0.drew, Nat.le_refl _, K1, K2, ⟨_, _, Kq, nofun⟩⟩
   · intro g ac wu hg ha hI
     obtain ⟨x2, x5, x7, x8, i0, i1, i2, i3, i4, i5, i6, i7, i8, i9, i10, i11, i13, hL, hS, B1, B2, Rq⟩ := hI
     have a0 := i0 (hg 0 (by simp))
     have a1 := i1 (hg 1 (by simp))
     have a2 := i2 (hg 2 (by simp))
     have a3 := i3 (hg 3 (by simp))
     have a4 := i4 (hg 4 (by simp))
     have a5 := i5 (hg 5 (by simp))
     have a6 := i6 (hg 6 (by simp))
     have a7 := i7 (hg 7 (by simp))
     have a8 := i8 (hg 8 (by simp))
     have a9 := i9 (hg 9 (by simp))
     have a10 := i10 (hg 10 (by simp))
     have a11 := i11 (hg 11 (by simp))
     have a13 := i13 (hg 13 (by simp))
     obtain ⟨q0, q1, Kq, gr⟩ := Rq
     have gr := gr (hg 12 (by simp))
     rw [gr.1, gr.2] at Kq
     clear gr
     simp only [putAll, a0, a1, a2, a3, a4, a5, a6, a7, a8, a9, a10, a11, a13] at ha
     simp only [Act.put, List.setIfInBounds_toArray, List.set_cons_succ, List.set_cons_zero] at ha
     rw [ha]
     clear x2 x5 x7 x8 i0 i1 i2 i3 i4 i5 i6 i7 i8 i9 i10 i11 i13 a0 a1 a2 a3 a4 a5 a6 a7 a8 a9 a10 a11 a13 hg ha
     obtain ⟨c3, f3, z3⟩ := blk_at Kq
     go_wp2
     refine bodyPost_ret (v := .tuple #[.agg #[.int .i64 0, .int .i64 0], .int .i64 5]) (by simp [results, Try.results67, go_sem, c3, z3]) rfl ⟨by rw [HF.out.1, HF.out.2], hL⟩
   · refine .cons ?_ (.cons ?_ (.cons ?_ (.cons ?_ (.cons ?_ (.cons ?_ (.cons ?_ (.cons ?_ (.cons ?_ (.cons ?_ (.cons ?_ (.cons ?_ (.cons ?_ (.cons ?_ .nil)))))))))))))
     · refine qst fun g ac wc hn hk hr HI K' hK => ?_
       obtain ⟨x2, x5, x7, x8, -, -, -, -, -, -, -, -, -, -, -, -, -, hL, hS, B1, B2, Rq⟩ := HI.out
       simp [Region.binds] at hr
       go_simp
       obtain ⟨-, -, -, -, i0, i1, i2, i3, i4, i5, i6, i7, i8, i9, i10, i11, i13, -⟩ := HI.out
       exact hK.out _ _ ⟨qB x2, qB x5, qB x7, qB x8, qP, qF i1, qF i2, qF i3, qF i4, qF i5, qF i6, qF i7, qF i8, qF i9, qF i10, qF i11, qF i13, hL, hS, B1, B2, Rq⟩
     · refine qst fun g ac wc hn hk hr HI K' hK => ?_
       obtain ⟨x2, x5, x7, x8, i0, -, -, -, -, -, -, -, -, -, -, -, -, hL, hS, B1, B2, Rq⟩ := HI.out
       simp [Region.binds] at hr
       have y0 := i0 (by simp [hr])
       clear i0
       obtain ⟨c0, f0, z0⟩ := blk_at B1
       go_simp
       obtain ⟨-, -, -, -, i0, i1, i2, i3, i4, i5, i6, i7, i8, i9, i10, i11, i13, -⟩ := HI.out
       exact hK.out _ _ ⟨qB x2, qB x5, qB x7, qB x8, qF i0, qP, qF i2, qF i3, qF i4, qF i5, qF i6, qF i7, qF i8, qF i9, qF i10, qF i11, qF i13, hL, hS, B1, B2, Rq⟩
     · refine qst fun g ac wc hn hk hr HI K' hK => ?_
       obtain ⟨x2, x5, x7, x8, -, -, -, -, -, -, -, -, -, -, -, -, -, hL, hS, B1, B2, Rq⟩ := HI.out
       simp [Region.binds] at hr
       go_simp
       obtain ⟨-, -, -, -, i0, i1, i2, i3, i4, i5, i6, i7, i8, i9, i10, i11, i13, -⟩ := HI.out
       exact hK.out _ _ ⟨qB x2, qB x5, qB x7, qB x8, qF i0, qF i1, qP, qF i3, qF i4, qF i5, qF i6, qF i7, qF i8, qF i9, qF i10, qF i11, qF i13, hL, hS, B1, B2, Rq⟩
     · refine qst fun g ac wc hn hk hr HI K' hK => ?_
       obtain ⟨x2, x5, x7, x8, -, -, -, -, -, -, -, -, -, -, -, -, -, hL, hS, B1, B2, Rq⟩ := HI.out
       simp [Region.binds] at hr
       obtain ⟨c0, f0, z0⟩ := blk_at B2
       go_simp
       obtain ⟨-, -, -, -, i0, i1, i2, i3, i4, i5, i6, i7, i8, i9, i10, i11, i13, -⟩ := HI.out
       exact hK.out _ _ ⟨qB x2, qB x5, qB x7, qB x8, qF i0, qF i1, qF i2, qP, qF i4, qF i5, qF i6, qF i7, qF i8, qF i9, qF i10, qF i11, qF i13, hL, hS, B1, B2, Rq⟩
     · refine qst fun g ac wc hn hk hr HI K' hK => ?_
       obtain ⟨x2, x5, x7, x8, -, -, i2, i3, -, -, -, -, -, -, -, -, -, hL, hS, B1, B2, Rq⟩ := HI.out
       simp [Region.binds] at hr
       have y2 := i2 (by simp [hr])
       have y3 := i3 (by simp [hr])
       clear i2 i3
       go_simp
       refine (w_specPoint _ _ _ sx1 sx2 f1 f2 (by omega) (by omega) _).mono ?_
       rintro e w4 ⟨rfl, hL4⟩
       rw [HP.out]
       obtain ⟨-, -, -, -, i0, i1, i2, i3, i4, i5, i6, i7, i8, i9, i10, i11, i13, -⟩ := HI.out
       exact hK.out _ _ ⟨qB x2, qB x5, qB x7, qB x8, qF i0, qF i1, qF i2, qF i3, qP, qF i5, qF i6, qF i7, qF i8, qF i9, qF i10, qF i11, qF i13, hL.trans hL4, Nat.le_trans hS hL4.size, hL4.keep B1, hL4.keep B2, (by obtain ⟨q0, q1, R1, R2⟩ := Rq; exact ⟨q0, q1, hL4.keep R1, R2⟩)⟩
     · refine qst fun g ac wc hn hk hr HI K' hK => ?_
       obtain ⟨x2, x5, x7, x8, -, i1, -, -, i4, -, -, -, -, -, -, -, -, hL, hS, B1, B2, Rq⟩ := HI.out
       simp [Region.binds] at hr
       have y1 := i1 (by simp [hr])
       have y4 := i4 (by simp [hr])
       clear i1 i4
       have wD : IntKind.i64.wrap (sb - p) = sb - p := wrap_same (by omega) (by omega)
       go_simp
       obtain ⟨-, -, -, -, i0, i1, i2, i3, i4, i5, i6, i7, i8, i9, i10, i11, i13, -⟩ := HI.out
       exact hK.out _ _ ⟨qB x2, qB x5, qB x7, qB x8, qF i0, qF i1, qF i2, qF i3, qF i4, qP, qF i6, qF i7, qF i8, qF i9, qF i10, qF i11, qF i13, hL, hS, B1, B2, Rq⟩
     · refine qst fun g ac wc hn hk hr HI K' hK => ?_
       obtain ⟨x2, x5, x7, x8, -, -, -, -, -, -, -, -, -, -, -, -, -, hL, hS, B1, B2, Rq⟩ := HI.out
       simp [Region.binds] at hr
       go_simp
       obtain ⟨-, -, -, -, i0, i1, i2, i3, i4, i5, i6, i7, i8, i9, i10, i11, i13, -⟩ := HI.out
       exact hK.out _ _ ⟨qB x2, qB x5, qB x7, qB x8, qF i0, qF i1, qF i2, qF i3, qF i4, qF i5, qP, qF i7, qF i8, qF i9, qF i10, qF i11, qF i13, hL, hS, B1, B2, Rq⟩
     · refine qst fun g ac wc hn hk hr HI K' hK => ?_
       obtain ⟨x2, x5, x7, x8, -, -, -, -, -, -, i6, -, -, -, -, -, -, hL, hS, B1, B2, Rq⟩ := HI.out
       simp [Region.binds] at hr
       have y6 := i6 (by simp [hr])
       clear i6
       obtain ⟨c0, f0, z0⟩ := blk_at B1
       go_simp
       obtain ⟨-, -, -, -, i0, i1, i2, i3, i4, i5, i6, i7, i8, i9, i10, i11, i13, -⟩ := HI.out
       exact hK.out _ _ ⟨qB x2, qB x5, qB x7, qB x8, qF i0, qF i1, qF i2, qF i3, qF i4, qF i5, qF i6, qP, qF i8, qF i9, qF i10, qF i11, qF i13, hL, hS, B1, B2, Rq⟩
     · refine qst fun g ac wc hn hk hr HI K' hK => ?_
       obtain ⟨x2, x5, x7, x8, -, -, -, -, -, i5, -, i7, -, -, -, -, -, hL, hS, B1, B2, Rq⟩ := HI.out
       simp [Region.binds] at hr
       have y5 := i5 (by simp [hr])
       have y7 := i7 (by simp [hr])
       have z5 := sl_get y5 (by omega)
       have z7 := sl_get y7 (by omega)
       clear i5 i7
       go_simp
       obtain ⟨-, -, -, -, i0, i1, i2, i3, i4, i5, i6, i7, i8, i9, i10, i11, i13, -⟩ := HI.out
       exact hK.out _ _ ⟨qB x2, qB x5, qB x7, qB x8, qF i0, qF i1, qF i2, qF i3, qF i4, qF i5, qF i6, qF i7, qP, qF i9, qF i10, qF i11, qF i13, hL, hS, B1, B2, Rq⟩
     · refine qst fun g ac wc hn hk hr HI K' hK => ?_
       obtain ⟨x2, x5, x7, x8, -, -, -, -, -, -, -, -, i8, -, -, -, -, hL, hS, B1, B2, Rq⟩ := HI.out
       simp [Region.binds] at hr
       have y8 := i8 (by simp [hr])
       clear i8
       go_simp
       refine (w_l11Result0 _ _ _ H9.out).mono ?_
       rintro e w4 ⟨rfl, hL4⟩
       obtain ⟨-, -, -, -, i0, i1, i2, i3, i4, i5, i6, i7, i8, i9, i10, i11, i13, -⟩ := HI.out
       exact hK.out _ _ ⟨qB x2, qB x5, qB x7, qB x8, qF i0, qF i1, qF i2, qF i3, qF i4, qF i5, qF i6, qF i7, qF i8, qP, qF i10, qF i11, qF i13, hL.trans hL4, Nat.le_trans hS hL4.size, hL4.keep B1, hL4.keep B2, (by obtain ⟨q0, q1, R1, R2⟩ := Rq; exact ⟨q0, q1, hL4.keep R1, R2⟩)⟩
     · refine qst fun g ac wc hn hk hr HI K' hK => ?_
       obtain ⟨x2, x5, x7, x8, -, -, -, -, -, -, -, -, -, i9, -, -, -, hL, hS, B1, B2, Rq⟩ := HI.out
       simp [Region.binds] at hr
       have y9 := i9 (by simp [hr])
       have z9 := sl_get y9 (by omega)
       clear i9
       go_simp
       obtain ⟨-, -, -, -, i0, i1, i2, i3, i4, i5, i6, i7, i8, i9, i10, i11, i13, -⟩ := HI.out
       exact hK.out _ _ ⟨qB x2, qB x5, qB x7, qB x8, qF i0, qF i1, qF i2, qF i3, qF i4, qF i5, qF i6, qF i7, qF i8, qF i9, qP, qF i11, qF i13, hL, hS, B1, B2, Rq⟩
     · refine qst fun g ac wc hn hk hr HI K' hK => ?_
       obtain ⟨x2, x5, x7, x8, -, -, -, -, -, -, -, -, -, i9, -, -, -, hL, hS, B1, B2, Rq⟩ := HI.out
       simp [Region.binds] at hr
       have y9 := i9 (by simp [hr])
       have z9 := sl_get y9 (by omega)
       clear i9
       go_simp
       obtain ⟨-, -, -, -, i0, i1, i2, i3, i4, i5, i6, i7, i8, i9, i10, i11, i13, -⟩ := HI.out
       exact hK.out _ _ ⟨qB x2, qB x5, qB x7, qB x8, qF i0, qF i1, qF i2, qF i3, qF i4, qF i5, qF i6, qF i7, qF i8, qF i9, qF i10, qP, qF i13, hL, hS, B1, B2, Rq⟩
     · refine qst fun g ac wc hn hk hr HI K' hK => ?_
       obtain ⟨x2, x5, x7, x8, -, -, -, -, -, -, -, -, -, -, i10, -, -, hL, hS, B1, B2, Rq⟩ := HI.out
       simp [Region.binds] at hr
       have y10 := i10 (by simp [hr])
       clear i10
       obtain ⟨q0, q1, R1, -⟩ := Rq
       obtain ⟨c0, f0, z0⟩ := blk_at R1
       go_simp
       obtain ⟨-, -, -, -, i0, i1, i2, i3, i4, i5, i6, i7, i8, i9, i10, i11, i13, -⟩ := HI.out
       exact hK.out undef _ ⟨x2, x5, x7, x8, i0, i1, i2, i3, i4, i5, i6, i7, i8, i9, i10, i11, i13, ((hL.setCell hRBq _).setCell hRBq _), (by simp; omega), (other_set (other_set B1 (by omega) _) (by omega) _), (other_set (other_set B2 (by omega) _) (by omega) _), ⟨_, _, two_set R1 _ _, fun _ => ⟨rfl, rfl⟩⟩⟩
     · refine qst fun g ac wc hn hk hr HI K' hK => ?_
       obtain ⟨x2, x5, x7, x8, -, -, -, -, -, -, -, -, -, -, -, i11, -, hL, hS, B1, B2, Rq⟩ := HI.out
       simp [Region.binds] at hr
       have y11 := i11 (by simp [hr])
       clear i11
       go_simp
       obtain ⟨-, -, -, -, i0, i1, i2, i3, i4, i5, i6, i7, i8, i9, i10, i11, i13, -⟩ := HI.out
       exact hK.out _ _ ⟨qB x2, qB x5, qB x7, qB x8, qF i0, qF i1, qF i2, qF i3, qF i4, qF i5, qF i6, qF i7, qF i8, qF i9, qF i10, qF i11, qP, hL, hS, B1, B2, Rq⟩
 · have HF := Lib.hid (show ssC ⟨n, st, sd⟩ ⟨sa, sb⟩ x ⟨d, t⟩ = 0 ∧ ssS ⟨n, st, sd⟩ ⟨sa, sb⟩ x ⟨d, t⟩ = ⟨sb - p, sb⟩ from hp ▸ (ss_0 HC.out h1 (by rw [hp]; exact h9)))
   have H9 := Lib.hid h9
   clear h9 hp
   have H1 := Lib.hid h1
   have H2 := Lib.hid h2
   clear h1 h2
   go_enter Try.func67, Try.ntmps67
   go_wp2_with fail
   refine (w_l11Code _ _ _ _ _ _ _ true _ _ (H.out.later (((((Later.refl _).alloc _).alloc _).alloc _).alloc _)) (H'.out.later (((((Later.refl _).alloc _).alloc _).alloc _).alloc _))).mono ?_
   rintro e w1 ⟨rfl, hL1⟩
   rw [HC.out]
   have HLw1 := Lib.hid ((((((Later.refl w).alloc _).alloc _).alloc _).alloc _).trans hL1)
   obtain ⟨K0, K1, K2, K3⟩ := kept4 hL1
   have HK0_1 := Lib.hid K0
   have HK1_1 := Lib.hid K1
   have HK2_1 := Lib.hid K2
   have HK3_1 := Lib.hid K3
   clear K0 K1 K2 K3
   clear hL1
   obtain ⟨c0, f0, z0⟩ := blk_at HK0_1.out
   obtain ⟨c1, f1, z1⟩ := blk_at HK1_1.out
   obtain ⟨c2, f2, z2⟩ := blk_at HK2_1.out
   obtain ⟨c3, f3, z3⟩ := blk_at HK3_1.out
   go_wp2_with fail
   refine (w_specIsFigure _ _ _).mono ?_
   rintro e w2 ⟨rfl, hL2⟩
   rw [H1.out]
   clear c0 f0 z0 c1 f1 z1 c2 f2 z2 c3 f3 z3
   have HLw2 := Lib.hid (HLw1.out.trans hL2)
   have HK0_2 := Lib.hid (hL2.keep HK0_1.out)
   have HK1_2 := Lib.hid (hL2.keep HK1_1.out)
   have HK2_2 := Lib.hid (hL2.keep HK2_1.out)
   have HK3_2 := Lib.hid (hL2.keep HK3_1.out)
   clear hL2
   obtain ⟨c0, f0, z0⟩ := blk_at HK0_2.out
   obtain ⟨c1, f1, z1⟩ := blk_at HK1_2.out
   obtain ⟨c2, f2, z2⟩ := blk_at HK2_2.out
   obtain ⟨c3, f3, z3⟩ := blk_at HK3_2.out
   go_wp2_with fail
   clear c0 f0 z0 c1 f1 z1 c2 f2 z2 c3 f3 z3
   have hL0 := HLw2.out
   have hSB := hL0.size
   have K1 := HK1_2.out
   have K2 := HK2_2.out
   have Kq := HK3_2.out
   have hRBq : w.heap.size ≤ w.heap.size + 1 + 1 + 1 := by omega
   refine region_slots 34 [22, 23, 24, 25, 26, 27, 28, 29, 30, 31, 32, 33, 9] (fun g ac wc => sl ac 2 = .int .i64 x ∧
    sl ac 5 = .pointer (some ⟨w.heap.size + 1, 0, none⟩) ∧
    sl ac 7 = .pointer (some ⟨w.heap.size + 1 + 1, 0, none⟩) ∧
    sl ac 8 = .pointer (some ⟨w.heap.size + 1 + 1 + 1, 0, none⟩) ∧
    (g 0 = true → sl ac 22 = .pointer (some ⟨w.heap.size + 1, 1, none⟩)) ∧
    (g 1 = true → sl ac 23 = .int .i64 sb) ∧
    (g 2 = true → sl ac 24 = .int .i64 x) ∧
    (g 3 = true → sl ac 25 = .agg #[.int .i64 d, .int .i64 t]) ∧
    (g 4 = true → sl ac 26 = .int .i64 p) ∧
    (g 5 = true → sl ac 27 = .int .i64 (sb - p)) ∧
    (g 6 = true → sl ac 28 = .pointer (some ⟨w.heap.size + 1, 1, none⟩)) ∧
    (g 7 = true → sl ac 29 = .int .i64 sb) ∧
    (g 8 = true → sl ac 30 = .agg #[.int .i64 (sb - p), .int .i64 sb]) ∧
    (g 9 = true → sl ac 31 = .tuple #[.agg #[.int .i64 (sb - p), .int .i64 sb], .int .i64 0]) ∧
    (g 10 = true → sl ac 32 = .agg #[.int .i64 (sb - p), .int .i64 sb]) ∧
    (g 11 = true → sl ac 33 = .int .i64 0) ∧
    (g 13 = true → sl ac 9 = .int .i64 0) ∧
    Later w wc ∧
    w2.heap.size ≤ wc.heap.size ∧
    wc.heap[w.heap.size + 1]? = some (.cells #[.int .i64 sa, .int .i64 sb] 66 (0, 0)) ∧
    wc.heap[w.heap.size + 1 + 1]? = some (.cells #[.int .i64 d, .int .i64 t] 41 (0, 0)) ∧
    (∃ q0 q1, wc.heap[w.heap.size + 1 + 1 + 1]? = some (.cells #[q0, q1] 66 (0, 0)) ∧ (g 12 = true → q0 = .int .i64 (sb - p) ∧ q1 = .int .i64 sb))) (by kernel_rfl) (by kernel_rfl) rfl (by kernel_rfl) ?_ ?_ ?_
   · exact ⟨rfl, rfl, rfl, rfl, nofun, nofun, nofun, nofun, nofun, nofun, nofun, nofun, nofun, nofun, nofun, nofun, nofun, hL0.drew, Nat.le_refl _, K1, K2, ⟨_, _, Kq, nofun⟩⟩
   · intro g ac wu hg ha hI
     obtain ⟨x2, x5, x7, x8, i0, i1, i2, i3, i4, i5, i6, i7, i8, i9, i10, i11, i13, hL, hS, B1, B2, Rq⟩ := hI
     have a0 := i0 (hg 0 (by simp))
     have a1 := i1 (hg 1 (by simp))
     have a2 := i2 (hg 2 (by simp))
     have a3 := i3 (hg 3 (by simp))
     have a4 := i4 (hg 4 (by simp))
     have a5 := i5 (hg 5 (by simp))
     have a6 := i6 (hg 6 (by simp))
     have a7 := i7 (hg 7 (by simp))
     have a8 := i8 (hg 8 (by simp))
     have a9 := i9 (hg 9 (by simp))
     have a10 := i10 (hg 10 (by simp))
     have a11 := i11 (hg 11 (by simp))
     have a13 := i13 (hg 13 (by simp))
     obtain ⟨q0, q1, Kq, gr⟩ := Rq
     have gr := gr (hg 12 (by simp))
     rw [gr.1, gr.2] at Kq
     clear gr
     simp only [putAll, a0, a1, a2, a3, a4, a5, a6, a7, a8, a9, a10, a11, a13] at ha
     simp only [Act.put, List.setIfInBounds_toArray, List.set_cons_succ, List.set_cons_zero] at ha
     rw [ha]
     clear x2 x5 x7 x8 i0 i1 i2 i3 i4 i5 i6 i7 i8 i9 i10 i11 i13 a0 a1 a2 a3 a4 a5 a6 a7 a8 a9 a10 a11 a13 hg ha
     obtain ⟨c3, f3, z3⟩ := blk_at Kq
     go_wp2
     refine bodyPost_ret (v := .tuple #[.agg #[.int .i64 (sb - p), .int .i64 sb], .int .i64 0]) (by simp [results, Try.results67, go_sem, c3, z3]) rfl ⟨by rw [HF.out.1, HF.out.2], hL⟩
   · refine .cons ?_ (.cons ?_ (.cons ?_ (.cons ?_ (.cons ?_ (.cons ?_ (.cons ?_ (.cons ?_ (.cons ?_ (.cons ?_ (.cons ?_ (.cons ?_ (.cons ?_ (.cons ?_ .nil)))))))))))))
     · refine qst fun g ac wc hn hk hr HI K' hK => ?_
       obtain ⟨x2, x5, x7, x8, -, -, -, -, -, -, -, -, -, -, -, -, -, hL, hS, B1, B2, Rq⟩ := HI.out
       simp [Region.binds] at hr
       go_simp
       obtain ⟨-, -, -, -, i0, i1, i2, i3, i4, i5, i6, i7, i8, i9, i10, i11, i13, -⟩ := HI.out
       exact hK.out _ _ ⟨qB x2, qB x5, qB x7, qB x8, qP, qF i1, qF i2, qF i3, qF i4, qF i5, qF i6, qF i7, qF i8, qF i9, qF i10, qF i11, qF i13, hL, hS, B1, B2, Rq⟩
     · refine qst fun g ac wc hn hk hr HI K' hK => ?_
       obtain ⟨x2, x5, x7, x8, i0, -, -, -, -, -, -, -, -, -, -, -, -, hL, hS, B1, B2, Rq⟩ := HI.out
       simp [Region.binds] at hr
       have y0 := i0 (by simp [hr])
       clear i0
       obtain ⟨c0, f0, z0⟩ := blk_at B1
       go_simp
       obtain ⟨-, -, -, -, i0, i1, i2, i3, i4, i5, i6, i7, i8, i9, i10, i11, i13, -⟩ := HI.out
       exact hK.out _ _ ⟨qB x2, qB x5, qB x7, qB x8, qF i0, qP, qF i2, qF i3, qF i4, qF i5, qF i6, qF i7, qF i8, qF i9, qF i10, qF i11, qF i13, hL, hS, B1, B2, Rq⟩
     · refine qst fun g ac wc hn hk hr HI K' hK => ?_
       obtain ⟨x2, x5, x7, x8, -, -, -, -, -, -, -, -, -, -, -, -, -, hL, hS, B1, B2, Rq⟩ := HI.out
       simp [Region.binds] at hr
       go_simp
       obtain ⟨-, -, -, -, i0, i1, i2, i3, i4, i5, i6, i7, i8, i9, i10, i11, i13, -⟩ := HI.out
       exact hK.out _ _ ⟨qB x2, qB x5, qB x7, qB x8, qF i0, qF i1, qP, qF i3, qF i4, qF i5, qF i6, qF i7, qF i8, qF i9, qF i10, qF i11, qF i13, hL, hS, B1, B2, Rq⟩
     · refine qst fun g ac wc hn hk hr HI K' hK => ?_
       obtain ⟨x2, x5, x7, x8, -, -, -, -, -, -, -, -, -, -, -, -, -, hL, hS, B1, B2, Rq⟩ := HI.out
       simp [Region.binds] at hr
       obtain ⟨c0, f0, z0⟩ := blk_at B2
       go_simp
       obtain ⟨-, -, -, -, i0, i1, i2, i3, i4, i5, i6, i7, i8, i9, i10, i11, i13, -⟩ := HI.out
       exact hK.out _ _ ⟨qB x2, qB x5, qB x7, qB x8, qF i0, qF i1, qF i2, qP, qF i4, qF i5, qF i6, qF i7, qF i8, qF i9, qF i10, qF i11, qF i13, hL, hS, B1, B2, Rq⟩
     · refine qst fun g ac wc hn hk hr HI K' hK => ?_
       obtain ⟨x2, x5, x7, x8, -, -, i2, i3, -, -, -, -, -, -, -, -, -, hL, hS, B1, B2, Rq⟩ := HI.out
       simp [Region.binds] at hr
       have y2 := i2 (by simp [hr])
       have y3 := i3 (by simp [hr])
       clear i2 i3
       go_simp
       refine (w_specPoint _ _ _ sx1 sx2 f1 f2 (by omega) (by omega) _).mono ?_
       rintro e w4 ⟨rfl, hL4⟩
       rw [HP.out]
       obtain ⟨-, -, -, -, i0, i1, i2, i3, i4, i5, i6, i7, i8, i9, i10, i11, i13, -⟩ := HI.out
       exact hK.out _ _ ⟨qB x2, qB x5, qB x7, qB x8, qF i0, qF i1, qF i2, qF i3, qP, qF i5, qF i6, qF i7, qF i8, qF i9, qF i10, qF i11, qF i13, hL.trans hL4, Nat.le_trans hS hL4.size, hL4.keep B1, hL4.keep B2, (by obtain ⟨q0, q1, R1, R2⟩ := Rq; exact ⟨q0, q1, hL4.keep R1, R2⟩)⟩
     · refine qst fun g ac wc hn hk hr HI K' hK => ?_
       obtain ⟨x2, x5, x7, x8, -, i1, -, -, i4, -, -, -, -, -, -, -, -, hL, hS, B1, B2, Rq⟩ := HI.out
       simp [Region.binds] at hr
       have y1 := i1 (by simp [hr])
       have y4 := i4 (by simp [hr])
       clear i1 i4
       have wD : IntKind.i64.wrap (sb - p) = sb - p := wrap_same (by omega) (by omega)
       go_simp
       obtain ⟨-, -, -, -, i0, i1, i2, i3, i4, i5, i6, i7, i8, i9, i10, i11, i13, -⟩ := HI.out
       exact hK.out _ _ ⟨qB x2, qB x5, qB x7, qB x8, qF i0, qF i1, qF i2, qF i3, qF i4, qP, qF i6, qF i7, qF i8, qF i9, qF i10, qF i11, qF i13, hL, hS, B1, B2, Rq⟩
     · refine qst fun g ac wc hn hk hr HI K' hK => ?_
       obtain ⟨x2, x5, x7, x8, -, -, -, -, -, -, -, -, -, -, -, -, -, hL, hS, B1, B2, Rq⟩ := HI.out
       simp [Region.binds] at hr
       go_simp
       obtain ⟨-, -, -, -, i0, i1, i2, i3, i4, i5, i6, i7, i8, i9, i10, i11, i13, -⟩ := HI.out
       exact hK.out _ _ ⟨qB x2, qB x5, qB x7, qB x8, qF i0, qF i1, qF i2, qF i3, qF i4, qF i5, qP, qF i7, qF i8, qF i9, qF i10, qF i11, qF i13, hL, hS, B1, B2, Rq⟩
     · refine qst fun g ac wc hn hk hr HI K' hK => ?_
       obtain ⟨x2, x5, x7, x8, -, -, -, -, -, -, i6, -, -, -, -, -, -, hL, hS, B1, B2, Rq⟩ := HI.out
       simp [Region.binds] at hr
       have y6 := i6 (by simp [hr])
       clear i6
       obtain ⟨c0, f0, z0⟩ := blk_at B1
       go_simp
       obtain ⟨-, -, -, -, i0, i1, i2, i3, i4, i5, i6, i7, i8, i9, i10, i11, i13, -⟩ := HI.out
       exact hK.out _ _ ⟨qB x2, qB x5, qB x7, qB x8, qF i0, qF i1, qF i2, qF i3, qF i4, qF i5, qF i6, qP, qF i8, qF i9, qF i10, qF i11, qF i13, hL, hS, B1, B2, Rq⟩
     · refine qst fun g ac wc hn hk hr HI K' hK => ?_
       obtain ⟨x2, x5, x7, x8, -, -, -, -, -, i5, -, i7, -, -, -, -, -, hL, hS, B1, B2, Rq⟩ := HI.out
       simp [Region.binds] at hr
       have y5 := i5 (by simp [hr])
       have y7 := i7 (by simp [hr])
       have z5 := sl_get y5 (by omega)
       have z7 := sl_get y7 (by omega)
       clear i5 i7
       go_simp
       obtain ⟨-, -, -, -, i0, i1, i2, i3, i4, i5, i6, i7, i8, i9, i10, i11, i13, -⟩ := HI.out
       exact hK.out _ _ ⟨qB x2, qB x5, qB x7, qB x8, qF i0, qF i1, qF i2, qF i3, qF i4, qF i5, qF i6, qF i7, qP, qF i9, qF i10, qF i11, qF i13, hL, hS, B1, B2, Rq⟩
     · refine qst fun g ac wc hn hk hr HI K' hK => ?_
       obtain ⟨x2, x5, x7, x8, -, -, -, -, -, -, -, -, i8, -, -, -, -, hL, hS, B1, B2, Rq⟩ := HI.out
       simp [Region.binds] at hr
       have y8 := i8 (by simp [hr])
       clear i8
       go_simp
       refine (w_l11Result1 _ _ _ H9.out).mono ?_
       rintro e w4 ⟨rfl, hL4⟩
       obtain ⟨-, -, -, -, i0, i1, i2, i3, i4, i5, i6, i7, i8, i9, i10, i11, i13, -⟩ := HI.out
       exact hK.out _ _ ⟨qB x2, qB x5, qB x7, qB x8, qF i0, qF i1, qF i2, qF i3, qF i4, qF i5, qF i6, qF i7, qF i8, qP, qF i10, qF i11, qF i13, hL.trans hL4, Nat.le_trans hS hL4.size, hL4.keep B1, hL4.keep B2, (by obtain ⟨q0, q1, R1, R2⟩ := Rq; exact ⟨q0, q1, hL4.keep R1, R2⟩)⟩
     · refine qst fun g ac wc hn hk hr HI K' hK => ?_
       obtain ⟨x2, x5, x7, x8, -, -, -, -, -, -, -, -, -, i9, -, -, -, hL, hS, B1, B2, Rq⟩ := HI.out
       simp [Region.binds] at hr
       have y9 := i9 (by simp [hr])
       have z9 := sl_get y9 (by omega)
       clear i9
       go_simp
       obtain ⟨-, -, -, -, i0, i1, i2, i3, i4, i5, i6, i7, i8, i9, i10, i11, i13, -⟩ := HI.out
       exact hK.out _ _ ⟨qB x2, qB x5, qB x7, qB x8, qF i0, qF i1, qF i2, qF i3, qF i4, qF i5, qF i6, qF i7, qF i8, qF i9, qP, qF i11, qF i13, hL, hS, B1, B2, Rq⟩
     · refine qst fun g ac wc hn hk hr HI K' hK => ?_
       obtain ⟨x2, x5, x7, x8, -, -, -, -, -, -, -, -, -, i9, -, -, -, hL, hS, B1, B2, Rq⟩ := HI.out
       simp [Region.binds] at hr
       have y9 := i9 (by simp [hr])
       have z9 := sl_get y9 (by omega)
       clear i9
       go_simp
       obtain ⟨-, -, -, -, i0, i1, i2, i3, i4, i5, i6, i7, i8, i9, i10, i11, i13, -⟩ := HI.out
       exact hK.out _ _ ⟨qB x2, qB x5, qB x7, qB x8, qF i0, qF i1, qF i2, qF i3, qF i4, qF i5, qF i6, qF i7, qF i8, qF i9, qF i10, qP, qF i13, hL, hS, B1, B2, Rq⟩
     · refine qst fun g ac wc hn hk hr HI K' hK => ?_
       obtain ⟨x2, x5, x7, x8, -, -, -, -, -, -, -, -, -, -, i10, -, -, hL, hS, B1, B2, Rq⟩ := HI.out
       simp [Region.binds] at hr
       have y10 := i10 (by simp [hr])
       clear i10
       obtain ⟨q0, q1, R1, -⟩ := Rq
       obtain ⟨c0, f0, z0⟩ := blk_at R1
       go_simp
       obtain ⟨-, -, -, -, i0, i1, i2, i3, i4, i5, i6, i7, i8, i9, i10, i11, i13, -⟩ := HI.out
       exact hK.out undef _ ⟨x2, x5, x7, x8, i0, i1, i2, i3, i4, i5, i6, i7, i8, i9, i10, i11, i13, ((hL.setCell hRBq _).setCell hRBq _), (by simp; omega), (other_set (other_set B1 (by omega) _) (by omega) _), (other_set (other_set B2 (by omega) _) (by omega) _), ⟨_, _, two_set R1 _ _, fun _ => ⟨rfl, rfl⟩⟩⟩
     · refine qst fun g ac wc hn hk hr HI K' hK => ?_
       obtain ⟨x2, x5, x7, x8, -, -, -, -, -, -, -, -, -, -, -, i11, -, hL, hS, B1, B2, Rq⟩ := HI.out
       simp [Region.binds] at hr
       have y11 := i11 (by simp [hr])
       clear i11
       go_simp
       obtain ⟨-, -, -, -, i0, i1, i2, i3, i4, i5, i6, i7, i8, i9, i10, i11, i13, -⟩ := HI.out
       exact hK.out _ _ ⟨qB x2, qB x5, qB x7, qB x8, qF i0, qF i1, qF i2, qF i3, qF i4, qF i5, qF i6, qF i7, qF i8, qF i9, qF i10, qF i11, qP, hL, hS, B1, B2, Rq⟩
end Go.Proofs.Ytkoojngonldcbaa
