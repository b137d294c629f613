/- DERIVED. Walks: the stock that is read, the slide that is set, points. -/
import Derived.Test.YtgngbdacejghcaaGreatDoorKUM84
namespace Go.Proofs.YtgngbdacejghcaaGreatDoor
set_option linter.unusedVariables false
set_option linter.unusedSimpArgs false
open Go.RowKit
set_option maxRecDepth 100000
noncomputable def rkF (r : Rul) (s : Stg) (x : Int) : Fig := if codeOn r s false x = 0 then readF x s.cu else ⟨0, 0⟩
def pcC (s : Int) (f : Fig) : Int := if isFig f then (if isScale s then (if s = 5 ∧ f.t ≠ 0 then 2 else 0) else 2) else 1
def pcV (s : Int) (f : Fig) : Int := if pcC s f = 0 then ptF s f else 0
theorem codeOn_1 {r : Rul} {s : Stg} {b : Bool} {x : Int} (h : isRule r = false) : codeOn r s b x = 1 := by unfold codeOn; rw [h]; rfl
theorem codeOn_1b {r : Rul} {s : Stg} {b : Bool} {x : Int} (h : isRule r = true) (h1 : isStg s = false) : codeOn r s b x = 1 := by unfold codeOn; rw [h, h1]; rfl
theorem codeOn_2 {r : Rul} {s : Stg} {b : Bool} {x : Int} (h : isRule r = true) (h1 : isStg s = true) (h2 : hasI (onR r b) x = false) : codeOn r s b x = 2 := by unfold codeOn; rw [h, h1, h2]; rfl
theorem codeOn_0 {r : Rul} {s : Stg} {b : Bool} {x : Int} (h : isRule r = true) (h1 : isStg s = true) (h2 : hasI (onR r b) x = true) : codeOn r s b x = 0 := by unfold codeOn; rw [h, h1, h2]; rfl
theorem codeOn_inv {r : Rul} {s : Stg} {b : Bool} {x : Int} (h : codeOn r s b x = 0) : isRule r = true ∧ isStg s = true ∧ hasI (onR r b) x = true := by
 unfold codeOn at h
 cases h1 : isRule r <;> cases h2 : isStg s <;> cases h3 : hasI (onR r b) x <;> rw [h1, h2, h3] at h <;> simp at h ⊢
theorem rk_0 {r : Rul} {s : Stg} {x : Int} (h : codeOn r s false x = 0) : rkF r s x = readF x s.cu := by unfold rkF; rw [if_pos h]
theorem rk_no {r : Rul} {s : Stg} {x k : Int} (h : codeOn r s false x = k) (h0 : k ≠ 0) : rkF r s x = ⟨0, 0⟩ := by unfold rkF; rw [h, if_neg h0]
theorem pc_0 {s : Int} {f : Fig} (h : isFig f = true) (h1 : isScale s = true) (h2 : ¬ (s = 5 ∧ f.t ≠ 0)) : pcC s f = 0 ∧ pcV s f = ptF s f := by
 have e : pcC s f = 0 := by unfold pcC; rw [h, h1, if_pos rfl, if_pos rfl, if_neg h2]
 exact ⟨e, by unfold pcV; rw [if_pos e]⟩
theorem isScale_bd {s : Int} (h : isScale s = true) : 0 ≤ s ∧ s ≤ 5 := inR_true h
set_option maxHeartbeats 2000000 in
theorem w_implReadStock (n : Int) (u v : Value) (st sd : List Int) (sa sb x : Int) (w : World) (h : IsNums w u st) (h' : IsNums w v sd) :
 Calls Tryz.prog 20 #[.agg #[.int .i64 n, u, v], .agg #[.int .i64 sa, .int .i64 sb], .int .i64 x] w fun e w' => e = .returned (.tuple #[.agg #[.int .i64 (rkF ⟨n, st, sd⟩ ⟨sa, sb⟩ x).d, .int .i64 (rkF ⟨n, st, sd⟩ ⟨sa, sb⟩ x).t], .int .i64 (codeOn ⟨n, st, sd⟩ ⟨sa, sb⟩ false x)]) ∧ Later w w' := by
 have H := Lib.hid h
 have H' := Lib.hid h'
 obtain ⟨_, _, au, capu, rfl, _, _, _⟩ := h
 obtain ⟨_, _, av, capv, rfl, _, _, _⟩ := h'
 cases h1 : isRule ⟨n, st, sd⟩
 · have HC := (codeOn_1 h1 : codeOn ⟨n, st, sd⟩ ⟨sa, sb⟩ false x = 1)
   have HF := Lib.hid (And.intro HC (rk_no HC (by omega)))
   clear HC
   have H1 := Lib.hid h1
   clear h1
   go_enter Tryz.func20, Tryz.ntmps20
   go_wp2_with fail
   refine (w_implIsRule _ _ _ _ _ _ (H.out.later ((((Later.refl _).alloc _).alloc _).alloc _)) (H'.out.later ((((Later.refl _).alloc _).alloc _).alloc _))).mono ?_
   rintro e w1 ⟨rfl, hL1⟩
   rw [H1.out]
   have HLw1 := Lib.hid (((((Later.refl w).alloc _).alloc _).alloc _).trans hL1)
   obtain ⟨K0, K1, K2⟩ := kept3 hL1
   have HK0_1 := Lib.hid K0
   have HK1_1 := Lib.hid K1
   have HK2_1 := Lib.hid K2
   clear K0 K1 K2
   clear hL1
   obtain ⟨c0, f0, z0⟩ := blk_at HK0_1.out
   obtain ⟨c1, f1, z1⟩ := blk_at HK1_1.out
   obtain ⟨c2, f2, z2⟩ := blk_at HK2_1.out
   go_wp2
   refine bodyPost_ret (v := .tuple #[.agg #[.int .i64 0, .int .i64 0], .int .i64 1]) (by simp [results, Tryz.results20, go_sem, c2, z2]) rfl ⟨by rw [HF.out.1, HF.out.2], by have hLw := HLw1.out; exact qla⟩
 cases h2 : isStg ⟨sa, sb⟩
 · have HC := (codeOn_1b h1 h2 : codeOn ⟨n, st, sd⟩ ⟨sa, sb⟩ false x = 1)
   have HF := Lib.hid (And.intro HC (rk_no HC (by omega)))
   clear HC
   have H1 := Lib.hid h1
   have H2 := Lib.hid h2
   clear h1 h2
   go_enter Tryz.func20, Tryz.ntmps20
   go_wp2_with fail
   refine (w_implIsRule _ _ _ _ _ _ (H.out.later ((((Later.refl _).alloc _).alloc _).alloc _)) (H'.out.later ((((Later.refl _).alloc _).alloc _).alloc _))).mono ?_
   rintro e w1 ⟨rfl, hL1⟩
   rw [H1.out]
   have HLw1 := Lib.hid (((((Later.refl w).alloc _).alloc _).alloc _).trans hL1)
   obtain ⟨K0, K1, K2⟩ := kept3 hL1
   have HK0_1 := Lib.hid K0
   have HK1_1 := Lib.hid K1
   have HK2_1 := Lib.hid K2
   clear K0 K1 K2
   clear hL1
   obtain ⟨c0, f0, z0⟩ := blk_at HK0_1.out
   obtain ⟨c1, f1, z1⟩ := blk_at HK1_1.out
   obtain ⟨c2, f2, z2⟩ := blk_at HK2_1.out
   go_wp2_with fail
   refine (w_implIsSetting _ _ _).mono ?_
   rintro e w2 ⟨rfl, hL2⟩
   rw [H2.out]
   clear c0 f0 z0 c1 f1 z1 c2 f2 z2
   have HLw2 := Lib.hid (HLw1.out.trans hL2)
   have HK0_2 := Lib.hid (hL2.keep HK0_1.out)
   have HK1_2 := Lib.hid (hL2.keep HK1_1.out)
   have HK2_2 := Lib.hid (hL2.keep HK2_1.out)
   clear hL2
   obtain ⟨c0, f0, z0⟩ := blk_at HK0_2.out
   obtain ⟨c1, f1, z1⟩ := blk_at HK1_2.out
   obtain ⟨c2, f2, z2⟩ := blk_at HK2_2.out
   go_wp2
   refine bodyPost_ret (v := .tuple #[.agg #[.int .i64 0, .int .i64 0], .int .i64 1]) (by simp [results, Tryz.results20, go_sem, c2, z2]) rfl ⟨by rw [HF.out.1, HF.out.2], by have hLw := HLw2.out; exact qla⟩
 cases h3 : hasI st x
 · have HC := (codeOn_2 (b := false) h1 h2 h3 : codeOn ⟨n, st, sd⟩ ⟨sa, sb⟩ false x = 2)
   have HF := Lib.hid (And.intro HC (rk_no HC (by omega)))
   clear HC
   have H1 := Lib.hid h1
   have H2 := Lib.hid h2
   have H3 := Lib.hid h3
   clear h1 h2 h3
   go_enter Tryz.func20, Tryz.ntmps20
   go_wp2_with fail
   refine (w_implIsRule _ _ _ _ _ _ (H.out.later ((((Later.refl _).alloc _).alloc _).alloc _)) (H'.out.later ((((Later.refl _).alloc _).alloc _).alloc _))).mono ?_
   rintro e w1 ⟨rfl, hL1⟩
   rw [H1.out]
   have HLw1 := Lib.hid (((((Later.refl w).alloc _).alloc _).alloc _).trans hL1)
   obtain ⟨K0, K1, K2⟩ := kept3 hL1
   have HK0_1 := Lib.hid K0
   have HK1_1 := Lib.hid K1
   have HK2_1 := Lib.hid K2
   clear K0 K1 K2
   clear hL1
   obtain ⟨c0, f0, z0⟩ := blk_at HK0_1.out
   obtain ⟨c1, f1, z1⟩ := blk_at HK1_1.out
   obtain ⟨c2, f2, z2⟩ := blk_at HK2_1.out
   go_wp2_with fail
   refine (w_implIsSetting _ _ _).mono ?_
   rintro e w2 ⟨rfl, hL2⟩
   rw [H2.out]
   clear c0 f0 z0 c1 f1 z1 c2 f2 z2
   have HLw2 := Lib.hid (HLw1.out.trans hL2)
   have HK0_2 := Lib.hid (hL2.keep HK0_1.out)
   have HK1_2 := Lib.hid (hL2.keep HK1_1.out)
   have HK2_2 := Lib.hid (hL2.keep HK2_1.out)
   clear hL2
   obtain ⟨c0, f0, z0⟩ := blk_at HK0_2.out
   obtain ⟨c1, f1, z1⟩ := blk_at HK1_2.out
   obtain ⟨c2, f2, z2⟩ := blk_at HK2_2.out
   go_wp2_with fail
   refine (w_hasScale _ _ _ _ _ false _ _ (H.out.later HLw2.out) (H'.out.later HLw2.out)).mono ?_
   rintro e w3 ⟨rfl, hL3⟩
   rw [show hasI (onR ⟨n, st, sd⟩ false) x = _ from H3.out]
   clear c0 f0 z0 c1 f1 z1 c2 f2 z2
   have HLw3 := Lib.hid (HLw2.out.trans hL3)
   have HK0_3 := Lib.hid (hL3.keep HK0_2.out)
   have HK1_3 := Lib.hid (hL3.keep HK1_2.out)
   have HK2_3 := Lib.hid (hL3.keep HK2_2.out)
   clear hL3
   obtain ⟨c0, f0, z0⟩ := blk_at HK0_3.out
   obtain ⟨c1, f1, z1⟩ := blk_at HK1_3.out
   obtain ⟨c2, f2, z2⟩ := blk_at HK2_3.out
   go_wp2
   refine bodyPost_ret (v := .tuple #[.agg #[.int .i64 0, .int .i64 0], .int .i64 2]) (by simp [results, Tryz.results20, go_sem, c2, z2]) rfl ⟨by rw [HF.out.1, HF.out.2], by have hLw := HLw3.out; exact qla⟩
 have hsb := isStg_bd h2
 simp only at hsb
 obtain ⟨b1, b2, b3, b4⟩ := hsb
 have hx := rule_st h1 h3
 obtain ⟨x1, x2⟩ := hx
 have HC := (codeOn_0 (b := false) h1 h2 h3 : codeOn ⟨n, st, sd⟩ ⟨sa, sb⟩ false x = 0)
 obtain ⟨G, hG⟩ : ∃ y, readF x sb = y := ⟨_, rfl⟩
 have HG := Lib.hid hG
 have HF := Lib.hid (And.intro HC (show rkF ⟨n, st, sd⟩ ⟨sa, sb⟩ x = G from hG ▸ rk_0 HC))
 clear HC hG
 have H1 := Lib.hid h1
 have H2 := Lib.hid h2
 have H3 := Lib.hid h3
 clear h1 h2 h3
 go_enter Tryz.func20, Tryz.ntmps20
 go_wp2_with fail
 refine (w_implIsRule _ _ _ _ _ _ (H.out.later ((((Later.refl _).alloc _).alloc _).alloc _)) (H'.out.later ((((Later.refl _).alloc _).alloc _).alloc _))).mono ?_
 rintro e w1 ⟨rfl, hL1⟩
 rw [H1.out]
 have HLw1 := Lib.hid (((((Later.refl w).alloc _).alloc _).alloc _).trans hL1)
 obtain ⟨K0, K1, K2⟩ := kept3 hL1
 have HK0_1 := Lib.hid K0
 have HK1_1 := Lib.hid K1
 have HK2_1 := Lib.hid K2
 clear K0 K1 K2
 clear hL1
 obtain ⟨c0, f0, z0⟩ := blk_at HK0_1.out
 obtain ⟨c1, f1, z1⟩ := blk_at HK1_1.out
 obtain ⟨c2, f2, z2⟩ := blk_at HK2_1.out
 go_wp2_with fail
 refine (w_implIsSetting _ _ _).mono ?_
 rintro e w2 ⟨rfl, hL2⟩
 rw [H2.out]
 clear c0 f0 z0 c1 f1 z1 c2 f2 z2
 have HLw2 := Lib.hid (HLw1.out.trans hL2)
 have HK0_2 := Lib.hid (hL2.keep HK0_1.out)
 have HK1_2 := Lib.hid (hL2.keep HK1_1.out)
 have HK2_2 := Lib.hid (hL2.keep HK2_1.out)
 clear hL2
 obtain ⟨c0, f0, z0⟩ := blk_at HK0_2.out
 obtain ⟨c1, f1, z1⟩ := blk_at HK1_2.out
 obtain ⟨c2, f2, z2⟩ := blk_at HK2_2.out
 go_wp2_with fail
 refine (w_hasScale _ _ _ _ _ false _ _ (H.out.later HLw2.out) (H'.out.later HLw2.out)).mono ?_
 rintro e w3 ⟨rfl, hL3⟩
 rw [show hasI (onR ⟨n, st, sd⟩ false) x = _ from H3.out]
 clear c0 f0 z0 c1 f1 z1 c2 f2 z2
 have HLw3 := Lib.hid (HLw2.out.trans hL3)
 have HK0_3 := Lib.hid (hL3.keep HK0_2.out)
 have HK1_3 := Lib.hid (hL3.keep HK1_2.out)
 have HK2_3 := Lib.hid (hL3.keep HK2_2.out)
 clear hL3
 obtain ⟨c0, f0, z0⟩ := blk_at HK0_3.out
 obtain ⟨c1, f1, z1⟩ := blk_at HK1_3.out
 obtain ⟨c2, f2, z2⟩ := blk_at HK2_3.out
 go_wp2_with fail
 refine (w_readAt _ _ _ (by omega) (by omega) (by omega) (by omega)).mono ?_
 rintro e w4 ⟨rfl, hL4⟩
 clear c0 f0 z0 c1 f1 z1 c2 f2 z2
 have HLw4 := Lib.hid (HLw3.out.trans hL4)
 have HK0_4 := Lib.hid (hL4.keep HK0_3.out)
 have HK1_4 := Lib.hid (hL4.keep HK1_3.out)
 have HK2_4 := Lib.hid (hL4.keep HK2_3.out)
 clear hL4
 obtain ⟨c0, f0, z0⟩ := blk_at HK0_4.out
 obtain ⟨c1, f1, z1⟩ := blk_at HK1_4.out
 obtain ⟨c2, f2, z2⟩ := blk_at HK2_4.out
 rw [HG.out]
 go_wp2
 refine bodyPost_ret (v := .tuple #[.agg #[.int .i64 G.d, .int .i64 G.t], .int .i64 0]) (by simp [results, Tryz.results20, go_sem, c2, z2]) rfl ⟨by rw [HF.out.1, HF.out.2], by have hLw := HLw4.out; exact qla⟩
theorem w_valid0 (a b : Int) (w : World) (h1 : isStg ⟨a, b⟩ = false) :
 Calls Tryz.prog 50 #[.agg #[.int .i64 a, .int .i64 b]] w fun e w' => e = .returned (.tuple #[.agg #[.int .i64 0, .int .i64 0], .int .i64 5]) ∧ Later w w' := by
 have H1 := Lib.hid h1
 clear h1
 go_enter Tryz.func50, Tryz.ntmps50
 go_wp2_with fail
 refine (w_implIsSetting _ _ _).mono ?_
 rintro e w1 ⟨rfl, hL1⟩
 rw [H1.out]
 have HLw1 := Lib.hid ((((Later.refl w).alloc _).alloc _).trans hL1)
 obtain ⟨K0, K1⟩ := kept2 hL1
 have HK0_1 := Lib.hid K0
 have HK1_1 := Lib.hid K1
 clear K0 K1
 clear hL1
 obtain ⟨c0, f0, z0⟩ := blk_at HK0_1.out
 obtain ⟨c1, f1, z1⟩ := blk_at HK1_1.out
 go_wp2
 refine bodyPost_ret (v := .tuple #[.agg #[.int .i64 0, .int .i64 0], .int .i64 5]) (by simp [results, Tryz.results50, go_sem, c1, z1]) rfl ⟨rfl, by have hLw := HLw1.out; exact qla⟩
theorem w_valid1 (a b : Int) (w : World) (h1 : isStg ⟨a, b⟩ = true) :
 Calls Tryz.prog 50 #[.agg #[.int .i64 a, .int .i64 b]] w fun e w' => e = .returned (.tuple #[.agg #[.int .i64 a, .int .i64 b], .int .i64 0]) ∧ Later w w' := by
 have H1 := Lib.hid h1
 clear h1
 go_enter Tryz.func50, Tryz.ntmps50
 go_wp2_with fail
 refine (w_implIsSetting _ _ _).mono ?_
 rintro e w1 ⟨rfl, hL1⟩
 rw [H1.out]
 have HLw1 := Lib.hid ((((Later.refl w).alloc _).alloc _).trans hL1)
 obtain ⟨K0, K1⟩ := kept2 hL1
 have HK0_1 := Lib.hid K0
 have HK1_1 := Lib.hid K1
 clear K0 K1
 clear hL1
 obtain ⟨c0, f0, z0⟩ := blk_at HK0_1.out
 obtain ⟨c1, f1, z1⟩ := blk_at HK1_1.out
 go_wp2
 refine bodyPost_ret (v := .tuple #[.agg #[.int .i64 a, .int .i64 b], .int .i64 0]) (by simp [results, Tryz.results50, go_sem, c1, z1]) rfl ⟨rfl, by have hLw := HLw1.out; exact qla⟩
theorem w_l11Result0 (a b : Int) (w : World) (h1 : isStg ⟨a, b⟩ = false) :
 Calls Tryz.prog 53 #[.agg #[.int .i64 a, .int .i64 b]] w fun e w' => e = .returned (.tuple #[.agg #[.int .i64 0, .int .i64 0], .int .i64 5]) ∧ Later w w' := by
 have H1 := Lib.hid h1
 clear h1
 go_enter Tryz.func53, Tryz.ntmps53
 go_wp2_with fail
 refine (w_specIsSetting _ _ _).mono ?_
 rintro e w1 ⟨rfl, hL1⟩
 rw [H1.out]
 have HLw1 := Lib.hid ((((Later.refl w).alloc _).alloc _).trans hL1)
 obtain ⟨K0, K1⟩ := kept2 hL1
 have HK0_1 := Lib.hid K0
 have HK1_1 := Lib.hid K1
 clear K0 K1
 clear hL1
 obtain ⟨c0, f0, z0⟩ := blk_at HK0_1.out
 obtain ⟨c1, f1, z1⟩ := blk_at HK1_1.out
 go_wp2
 refine bodyPost_ret (v := .tuple #[.agg #[.int .i64 0, .int .i64 0], .int .i64 5]) (by simp [results, Tryz.results53, go_sem, c1, z1]) rfl ⟨rfl, by have hLw := HLw1.out; exact qla⟩
theorem w_l11Result1 (a b : Int) (w : World) (h1 : isStg ⟨a, b⟩ = true) :
 Calls Tryz.prog 53 #[.agg #[.int .i64 a, .int .i64 b]] w fun e w' => e = .returned (.tuple #[.agg #[.int .i64 a, .int .i64 b], .int .i64 0]) ∧ Later w w' := by
 have H1 := Lib.hid h1
 clear h1
 go_enter Tryz.func53, Tryz.ntmps53
 go_wp2_with fail
 refine (w_specIsSetting _ _ _).mono ?_
 rintro e w1 ⟨rfl, hL1⟩
 rw [H1.out]
 have HLw1 := Lib.hid ((((Later.refl w).alloc _).alloc _).trans hL1)
 obtain ⟨K0, K1⟩ := kept2 hL1
 have HK0_1 := Lib.hid K0
 have HK1_1 := Lib.hid K1
 clear K0 K1
 clear hL1
 obtain ⟨c0, f0, z0⟩ := blk_at HK0_1.out
 obtain ⟨c1, f1, z1⟩ := blk_at HK1_1.out
 go_wp2
 refine bodyPost_ret (v := .tuple #[.agg #[.int .i64 a, .int .i64 b], .int .i64 0]) (by simp [results, Tryz.results53, go_sem, c1, z1]) rfl ⟨rfl, by have hLw := HLw1.out; exact qla⟩
end Go.Proofs.YtgngbdacejghcaaGreatDoor
