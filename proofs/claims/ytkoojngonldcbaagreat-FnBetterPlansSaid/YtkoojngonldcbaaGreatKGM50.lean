/- DERIVED. Walks: the code of a rule and a chain. -/
import Derived.Test.YtkoojngonldcbaaGreatKGM37
import Derived.Test.YtkoojngonldcbaaGreatKGM3
import Derived.Test.YtkoojngonldcbaaGreatKGP9
namespace Go.Proofs.YtkoojngonldcbaaGreat
set_option linter.unusedVariables false
set_option linter.unusedSimpArgs false
open Go.RowKit
set_option maxRecDepth 100000
set_option maxHeartbeats 1000000 in
theorem w_checkPlan (n : Int) (u v z : Value) (st sl : List Int) (c : List Trm) (w : World) (h : IsNums w u st) (h' : IsNums w v sl) (hc : IsTrms w z c) :
 Calls Tryz.prog 54 #[.agg #[.int .i64 n, u, v], z] w fun e w' => e = .returned (.int .i64 (codePlan ⟨n, st, sl⟩ c)) ∧ Later w w' := by
 have H := Lib.hid h
 have H' := Lib.hid h'
 have HZ := Lib.hid hc
 obtain ⟨_, _, au, capu, rfl, _, _, _⟩ := h
 obtain ⟨_, _, av, capv, rfl, _, _, _⟩ := h'
 obtain ⟨_, _, az, capz, rfl, _, _, _⟩ := hc
 cases h1 : isRule ⟨n, st, sl⟩
 · have HF := Lib.hid (codePlan_1a (c := c) h1)
   have H1 := Lib.hid h1
   clear h1
   go_enter Tryz.func54, Tryz.ntmps54
   go_wp2_with fail
   refine (w_implIsRule _ _ _ _ _ _ (H.out.later ((Later.refl _).alloc _)) (H'.out.later ((Later.refl _).alloc _))).mono ?_
   rintro e w1 ⟨rfl, hL⟩
   rw [H1.out]
   go_wp2
   go_ret
   exact ⟨by rw [HF.out]; rfl, qla⟩
 cases h2 : isChain c
 · have HF := Lib.hid (codePlan_1b h1 h2)
   have H1 := Lib.hid h1
   have H2 := Lib.hid h2
   clear h1 h2
   go_enter Tryz.func54, Tryz.ntmps54
   go_wp2_with fail
   refine (w_implIsRule _ _ _ _ _ _ (H.out.later ((Later.refl _).alloc _)) (H'.out.later ((Later.refl _).alloc _))).mono ?_
   rintro e w1 ⟨rfl, hL⟩
   rw [H1.out]
   obtain ⟨c0, f0, z0⟩ := blk1 hL
   go_wp2_with fail
   refine (w_implIsChain _ _ _ ((HZ.out.later ((Later.refl _).alloc _)).later hL)).mono ?_
   rintro e w2 ⟨rfl, hL2⟩
   rw [H2.out]
   go_wp2
   go_ret
   exact ⟨by rw [HF.out]; rfl, qla⟩
 cases h3 : hasI st 0
 · have HF := Lib.hid (codePlan_5a h1 h2 h3)
   have H1 := Lib.hid h1
   have H2 := Lib.hid h2
   have H3 := Lib.hid h3
   clear h1 h2 h3
   go_enter Tryz.func54, Tryz.ntmps54
   go_wp2_with fail
   refine (w_implIsRule _ _ _ _ _ _ (H.out.later ((Later.refl _).alloc _)) (H'.out.later ((Later.refl _).alloc _))).mono ?_
   rintro e w1 ⟨rfl, hL⟩
   rw [H1.out]
   obtain ⟨c0, f0, z0⟩ := blk1 hL
   go_wp2_with fail
   refine (w_implIsChain _ _ _ ((HZ.out.later ((Later.refl _).alloc _)).later hL)).mono ?_
   rintro e w2 ⟨rfl, hL2⟩
   rw [H2.out]
   clear c0 f0 z0
   obtain ⟨c0, f0, z0⟩ := blk1 (hL.trans hL2)
   go_wp2_with fail
   refine (w_hasScale _ _ _ _ _ _ _ _ ((H.out.later ((Later.refl _).alloc _)).later (hL.trans hL2)) ((H'.out.later ((Later.refl _).alloc _)).later (hL.trans hL2))).mono ?_
   rintro e w3 ⟨rfl, hL3⟩
   rw [show hasI (onR ⟨n, st, sl⟩ false) 0 = _ from H3.out]
   go_wp2
   go_ret
   exact ⟨by rw [HF.out]; rfl, qla⟩
 cases h4 : hasI sl 0
 · have HF := Lib.hid (codePlan_5b h1 h2 h3 h4)
   have H1 := Lib.hid h1
   have H2 := Lib.hid h2
   have H3 := Lib.hid h3
   have H4 := Lib.hid h4
   clear h1 h2 h3 h4
   go_enter Tryz.func54, Tryz.ntmps54
   go_wp2_with fail
   refine (w_implIsRule _ _ _ _ _ _ (H.out.later ((Later.refl _).alloc _)) (H'.out.later ((Later.refl _).alloc _))).mono ?_
   rintro e w1 ⟨rfl, hL⟩
   rw [H1.out]
   obtain ⟨c0, f0, z0⟩ := blk1 hL
   go_wp2_with fail
   refine (w_implIsChain _ _ _ ((HZ.out.later ((Later.refl _).alloc _)).later hL)).mono ?_
   rintro e w2 ⟨rfl, hL2⟩
   rw [H2.out]
   clear c0 f0 z0
   obtain ⟨c0, f0, z0⟩ := blk1 (hL.trans hL2)
   go_wp2_with fail
   refine (w_hasScale _ _ _ _ _ _ _ _ ((H.out.later ((Later.refl _).alloc _)).later (hL.trans hL2)) ((H'.out.later ((Later.refl _).alloc _)).later (hL.trans hL2))).mono ?_
   rintro e w3 ⟨rfl, hL3⟩
   rw [show hasI (onR ⟨n, st, sl⟩ false) 0 = _ from H3.out]
   clear c0 f0 z0
   obtain ⟨c0, f0, z0⟩ := blk1 ((hL.trans hL2).trans hL3)
   go_wp2_with fail
   refine (w_hasScale _ _ _ _ _ _ _ _ ((H.out.later ((Later.refl _).alloc _)).later ((hL.trans hL2).trans hL3)) ((H'.out.later ((Later.refl _).alloc _)).later ((hL.trans hL2).trans hL3))).mono ?_
   rintro e w4 ⟨rfl, hL4⟩
   rw [show hasI (onR ⟨n, st, sl⟩ true) 0 = _ from H4.out]
   go_wp2
   go_ret
   exact ⟨by rw [HF.out]; rfl, qla⟩
 have HF := Lib.hid (codePlan_ok h1 h2 h3 h4)
 have H1 := Lib.hid h1
 have H2 := Lib.hid h2
 have H3 := Lib.hid h3
 have H4 := Lib.hid h4
 clear h1 h2 h3 h4
 go_enter Tryz.func54, Tryz.ntmps54
 go_wp2_with fail
 refine (w_implIsRule _ _ _ _ _ _ (H.out.later ((Later.refl _).alloc _)) (H'.out.later ((Later.refl _).alloc _))).mono ?_
 rintro e w1 ⟨rfl, hL⟩
 rw [H1.out]
 obtain ⟨c0, f0, z0⟩ := blk1 hL
 go_wp2_with fail
 refine (w_implIsChain _ _ _ ((HZ.out.later ((Later.refl _).alloc _)).later hL)).mono ?_
 rintro e w2 ⟨rfl, hL2⟩
 rw [H2.out]
 clear c0 f0 z0
 obtain ⟨c0, f0, z0⟩ := blk1 (hL.trans hL2)
 go_wp2_with fail
 refine (w_hasScale _ _ _ _ _ _ _ _ ((H.out.later ((Later.refl _).alloc _)).later (hL.trans hL2)) ((H'.out.later ((Later.refl _).alloc _)).later (hL.trans hL2))).mono ?_
 rintro e w3 ⟨rfl, hL3⟩
 rw [show hasI (onR ⟨n, st, sl⟩ false) 0 = _ from H3.out]
 clear c0 f0 z0
 obtain ⟨c0, f0, z0⟩ := blk1 ((hL.trans hL2).trans hL3)
 go_wp2_with fail
 refine (w_hasScale _ _ _ _ _ _ _ _ ((H.out.later ((Later.refl _).alloc _)).later ((hL.trans hL2).trans hL3)) ((H'.out.later ((Later.refl _).alloc _)).later ((hL.trans hL2).trans hL3))).mono ?_
 rintro e w4 ⟨rfl, hL4⟩
 rw [show hasI (onR ⟨n, st, sl⟩ true) 0 = _ from H4.out]
 go_wp2
 go_ret
 exact ⟨by rw [HF.out]; rfl, qla⟩
set_option maxHeartbeats 1000000 in
theorem w_l14Code (n : Int) (u v z : Value) (st sl : List Int) (c : List Trm) (w : World) (h : IsNums w u st) (h' : IsNums w v sl) (hc : IsTrms w z c) :
 Calls Tryz.prog 58 #[.agg #[.int .i64 n, u, v], z] w fun e w' => e = .returned (.int .i64 (codePlan ⟨n, st, sl⟩ c)) ∧ Later w w' := by
 have H := Lib.hid h
 have H' := Lib.hid h'
 have HZ := Lib.hid hc
 obtain ⟨_, _, au, capu, rfl, _, _, _⟩ := h
 obtain ⟨_, _, av, capv, rfl, _, _, _⟩ := h'
 obtain ⟨_, _, az, capz, rfl, _, _, _⟩ := hc
 cases h1 : isRule ⟨n, st, sl⟩
 · have HF := Lib.hid (codePlan_1a (c := c) h1)
   have H1 := Lib.hid h1
   clear h1
   go_enter Tryz.func58, Tryz.ntmps58
   go_wp2_with fail
   refine (w_specIsRule _ _ _ _ _ _ (H.out.later ((Later.refl _).alloc _)) (H'.out.later ((Later.refl _).alloc _))).mono ?_
   rintro e w1 ⟨rfl, hL⟩
   rw [H1.out]
   go_wp2
   go_ret
   exact ⟨by rw [HF.out]; rfl, qla⟩
 cases h2 : isChain c
 · have HF := Lib.hid (codePlan_1b h1 h2)
   have H1 := Lib.hid h1
   have H2 := Lib.hid h2
   clear h1 h2
   go_enter Tryz.func58, Tryz.ntmps58
   go_wp2_with fail
   refine (w_specIsRule _ _ _ _ _ _ (H.out.later ((Later.refl _).alloc _)) (H'.out.later ((Later.refl _).alloc _))).mono ?_
   rintro e w1 ⟨rfl, hL⟩
   rw [H1.out]
   obtain ⟨c0, f0, z0⟩ := blk1 hL
   go_wp2_with fail
   refine (w_specIsChain _ _ _ ((HZ.out.later ((Later.refl _).alloc _)).later hL)).mono ?_
   rintro e w2 ⟨rfl, hL2⟩
   rw [H2.out]
   go_wp2
   go_ret
   exact ⟨by rw [HF.out]; rfl, qla⟩
 cases h3 : hasI st 0
 · have HF := Lib.hid (codePlan_5a h1 h2 h3)
   have H1 := Lib.hid h1
   have H2 := Lib.hid h2
   have H3 := Lib.hid h3
   clear h1 h2 h3
   go_enter Tryz.func58, Tryz.ntmps58
   go_wp2_with fail
   refine (w_specIsRule _ _ _ _ _ _ (H.out.later ((Later.refl _).alloc _)) (H'.out.later ((Later.refl _).alloc _))).mono ?_
   rintro e w1 ⟨rfl, hL⟩
   rw [H1.out]
   obtain ⟨c0, f0, z0⟩ := blk1 hL
   go_wp2_with fail
   refine (w_specIsChain _ _ _ ((HZ.out.later ((Later.refl _).alloc _)).later hL)).mono ?_
   rintro e w2 ⟨rfl, hL2⟩
   rw [H2.out]
   clear c0 f0 z0
   obtain ⟨c0, f0, z0⟩ := blk1 (hL.trans hL2)
   go_wp2_with fail
   refine (w_l01Has _ _ _ _ ((H.out.later ((Later.refl _).alloc _)).later (hL.trans hL2))).mono ?_
   rintro e w3 ⟨rfl, rfl⟩
   rw [H3.out]
   go_wp2
   go_ret
   exact ⟨by rw [HF.out]; rfl, qla⟩
 cases h4 : hasI sl 0
 · have HF := Lib.hid (codePlan_5b h1 h2 h3 h4)
   have H1 := Lib.hid h1
   have H2 := Lib.hid h2
   have H3 := Lib.hid h3
   have H4 := Lib.hid h4
   clear h1 h2 h3 h4
   go_enter Tryz.func58, Tryz.ntmps58
   go_wp2_with fail
   refine (w_specIsRule _ _ _ _ _ _ (H.out.later ((Later.refl _).alloc _)) (H'.out.later ((Later.refl _).alloc _))).mono ?_
   rintro e w1 ⟨rfl, hL⟩
   rw [H1.out]
   obtain ⟨c0, f0, z0⟩ := blk1 hL
   go_wp2_with fail
   refine (w_specIsChain _ _ _ ((HZ.out.later ((Later.refl _).alloc _)).later hL)).mono ?_
   rintro e w2 ⟨rfl, hL2⟩
   rw [H2.out]
   clear c0 f0 z0
   obtain ⟨c0, f0, z0⟩ := blk1 (hL.trans hL2)
   go_wp2_with fail
   refine (w_l01Has _ _ _ _ ((H.out.later ((Later.refl _).alloc _)).later (hL.trans hL2))).mono ?_
   rintro e w3 ⟨rfl, rfl⟩
   rw [H3.out]
   go_wp2_with fail
   refine (w_l01Has _ _ _ _ ((H'.out.later ((Later.refl _).alloc _)).later (hL.trans hL2))).mono ?_
   rintro e w4 ⟨rfl, rfl⟩
   rw [H4.out]
   go_wp2
   go_ret
   exact ⟨by rw [HF.out]; rfl, qla⟩
 have HF := Lib.hid (codePlan_ok h1 h2 h3 h4)
 have H1 := Lib.hid h1
 have H2 := Lib.hid h2
 have H3 := Lib.hid h3
 have H4 := Lib.hid h4
 clear h1 h2 h3 h4
 go_enter Tryz.func58, Tryz.ntmps58
 go_wp2_with fail
 refine (w_specIsRule _ _ _ _ _ _ (H.out.later ((Later.refl _).alloc _)) (H'.out.later ((Later.refl _).alloc _))).mono ?_
 rintro e w1 ⟨rfl, hL⟩
 rw [H1.out]
 obtain ⟨c0, f0, z0⟩ := blk1 hL
 go_wp2_with fail
 refine (w_specIsChain _ _ _ ((HZ.out.later ((Later.refl _).alloc _)).later hL)).mono ?_
 rintro e w2 ⟨rfl, hL2⟩
 rw [H2.out]
 clear c0 f0 z0
 obtain ⟨c0, f0, z0⟩ := blk1 (hL.trans hL2)
 go_wp2_with fail
 refine (w_l01Has _ _ _ _ ((H.out.later ((Later.refl _).alloc _)).later (hL.trans hL2))).mono ?_
 rintro e w3 ⟨rfl, rfl⟩
 rw [H3.out]
 go_wp2_with fail
 refine (w_l01Has _ _ _ _ ((H'.out.later ((Later.refl _).alloc _)).later (hL.trans hL2))).mono ?_
 rintro e w4 ⟨rfl, rfl⟩
 rw [H4.out]
 go_wp2
 go_ret
 exact ⟨by rw [HF.out]; rfl, qla⟩
theorem w_l14Point (d t : Int) (h1 : 1000 ≤ d) (h2 : d ≤ 9999) (h3 : -100 ≤ t) (h4 : t ≤ 100) (w : World) :
 Calls Tryz.prog 119 #[.agg #[.int .i64 d, .int .i64 t]] w fun e w' => e = .returned (.int .i64 (ptF 0 ⟨d, t⟩)) ∧ Later w w' := by
 go_enter Tryz.func119, Tryz.ntmps119
 go_wp2_with fail
 refine (w_specPoint _ _ _ (by decide) (by decide) h1 h2 h3 h4 _).mono ?_
 rintro e w1 ⟨rfl, hL⟩
 go_wp2
 go_ret
 exact ⟨rfl, qla⟩
end Go.Proofs.YtkoojngonldcbaaGreat
