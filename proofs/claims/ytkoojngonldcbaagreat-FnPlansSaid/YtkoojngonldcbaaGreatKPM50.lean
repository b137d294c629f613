/- DERIVED. Walks: the code of a rule and a chain. -/
import Derived.Test.YtkoojngonldcbaaGreatKPM37
import Derived.Test.YtkoojngonldcbaaGreatKPM3
import Derived.Test.YtkoojngonldcbaaGreatKPP9
namespace Go.Proofs.YtkoojngonldcbaaGreat
set_option linter.unusedVariables false
set_option linter.unusedSimpArgs false
open Go.RowKit
set_option maxRecDepth 100000
set_option maxHeartbeats 1000000 in
theorem w_checkPlan (n : Int) (u v z : Value) (st sl : List Int) (c : List Trm) (w : World) (h : IsNums w u st) (h' : IsNums w v sl) (hc : IsTrms w z c) :
 Calls Tryz.prog 54 #[.agg #[.int .i64 n, u, v], z] w fun e w' => e = .returned (.int .i64 (codePlan ⟨n, st, sl⟩ c)) ∧ Later w w' := by
 have H := Lib.hid h
 have H' := Lib.hid h'
 have HZ := Lib.hid hc
 obtain ⟨_, _, au, capu, rfl, _, _, _⟩ := h
 obtain ⟨_, _, av, capv, rfl, _, _, _⟩ := h'
 obtain ⟨_, _, az, capz, rfl, _, _, _⟩ := hc
 cases h1 : isRule ⟨n, st, sl⟩
 · have HF := Lib.hid (codePlan_1a (c := c) h1)
   have H1 := Lib.hid h1
   clear h1
   go_enter Tryz.func54, Tryz.ntmps54
   go_wp2_with fail
   refine (w_implIsRule _ _ _ _ _ _ (H.out.later ((Later.refl _).alloc _)) (H'.out.later ((Later.refl _).alloc _))).mono ?_
   rintro e w1 ⟨rfl, hL⟩
   rw [H1.out]
   go_wp2
   go_ret
   exact ⟨by rw [HF.out]; rfl, by (repeat (with_reducible first | exact Later.refl _ | refine qLa ?_ | refine qLd ?_ | refine qLe ?_ | refine qLs ?_ | refine qLt ?_ (by assumption)))⟩
 cases h2 : isChain c
 · have HF := Lib.hid (codePlan_1b h1 h2)
   have H1 := Lib.hid h1
   have H2 := Lib.hid h2
   clear h1 h2
   go_enter Tryz.func54, Tryz.ntmps54
   go_wp2_with fail
   refine (w_implIsRule _ _ _ _ _ _ (H.out.later ((Later.refl _).alloc _)) (H'.out.later ((Later.refl _).alloc _))).mono ?_
   rintro e w1 ⟨rfl, hL⟩
   rw [H1.out]
   obtain ⟨c0, f0, z0⟩ := blk1 hL
   go_wp2_with fail
   refine (w_implIsChain _ _ _ ((HZ.out.later ((Later.refl _).alloc _)).later hL)).mono ?_
   rintro e w2 ⟨rfl, hL2⟩
   rw [H2.out]
   go_wp2
   go_ret
   exact ⟨by rw [HF.out]; rfl, by (repeat (with_reducible first | exact Later.refl _ | refine qLa ?_ | refine qLd ?_ | refine qLe ?_ | refine qLs ?_ | refine qLt ?_ (by assumption)))⟩
 cases h3 : hasI st 0
 · have HF := Lib.hid (codePlan_5a h1 h2 h3)
   have H1 := Lib.hid h1
   have H2 := Lib.hid h2
   have H3 := Lib.hid h3
   clear h1 h2 h3
   go_enter Tryz.func54, Tryz.ntmps54
   go_wp2_with fail
   refine (w_implIsRule _ _ _ _ _ _ (H.out.later ((Later.refl _).alloc _)) (H'.out.later ((Later.refl _).alloc _))).mono ?_
   rintro e w1 ⟨rfl, hL⟩
   rw [H1.out]
   obtain ⟨c0, f0, z0⟩ := blk1 hL
   go_wp2_with fail
   refine (w_implIsChain _ _ _ ((HZ.out.later ((Later.refl _).alloc _)).later hL)).mono ?_
   rintro e w2 ⟨rfl, hL2⟩
   rw [H2.out]
   clear c0 f0 z0
   obtain ⟨c0, f0, z0⟩ := blk1 (hL.trans hL2)
   go_wp2_with fail
   refine (w_hasScale _ _ _ _ _ _ _ _ ((H.out.later ((Later.refl _).alloc _)).later (hL.trans hL2)) ((H'.out.later ((Later.refl _).alloc _)).later (hL.trans hL2))).mono ?_
   rintro e w3 ⟨rfl, hL3⟩
   rw [show hasI (onR ⟨n, st, sl⟩ false) 0 = _ from H3.out]
   go_wp2
   go_ret
   exact ⟨by rw [HF.out]; rfl, by (repeat (with_reducible first | exact Later.refl _ | refine qLa ?_ | refine qLd ?_ | refine qLe ?_ | refine qLs ?_ | refine qLt ?_ (by assumption)))⟩
 cases h4 : hasI sl 0
 · have HF := Lib.hid (codePlan_5b h1 h2 h3 h4)
   have H1 := Lib.hid h1
   have H2 := Lib.hid h2
   have H3 := Lib.hid h3
   have H4 := Lib.hid h4
   clear h1 h2 h3 h4
   go_enter Tryz.func54, Tryz.ntmps54
   go_wp2_with fail
   refine (w_implIsRule _ _ _ _ _ _ (H.out.later ((Later.refl _).alloc _)) (H'.out.later ((Later.refl _).alloc _))).mono ?_
   rintro e w1 ⟨rfl, hL⟩
   rw [H1.out]
   obtain ⟨c0, f0, z0⟩ := blk1 hL
   go_wp2_with fail
   refine (w_implIsChain _ _ _ ((HZ.out.later ((Later.refl _).alloc _)).later hL)).mono ?_
   rintro e w2 ⟨rfl, hL2⟩
   rw [H2.out]
   clear c0 f0 z0
   obtain ⟨c0, f0, z0⟩ := blk1 (hL.trans hL2)
   go_wp2_with fail
   refine (w_hasScale _ _ _ _ _ _ _ _ ((H.out.later ((Later.refl _).alloc _)).later (hL.trans hL2)) ((H'.out.later ((Later.refl _).alloc _)).later (hL.trans hL2))).mono ?_
   rintro e w3 ⟨rfl, hL3⟩
   rw [show hasI (onR ⟨n, st, sl⟩ false) 0 = _ from H3.out]
   clear c0 f0 z0
   obtain ⟨c0, f0, z0⟩ := blk1 ((hL.trans hL2).trans hL3)
   go_wp2_with fail
   refine (w_hasScale _ _ _ _ _ _ _ _ ((H.out.later ((Later.refl _).alloc _)).later ((hL.trans hL2).trans hL3)) ((H'.out.later ((Later.refl _).alloc _)).later ((hL.trans hL2).trans hL3))).mono ?_
   rintro e w4 ⟨rfl, hL4⟩
   rw [show hasI (onR ⟨n, st, sl⟩ true) 0 = _ from H4.out]
   go_wp2
   go_ret
   exact ⟨by rw [HF.out]; rfl, by (repeat (with_reducible first | exact Later.refl _ | refine qLa ?_ | refine qLd ?_ | refine qLe ?_ | refine qLs ?_ | refine qLt ?_ (by assumption)))⟩
 have HF := Lib.hid (codePlan_ok h1 h2 h3 h4)
 have H1 := Lib.hid h1
 have H2 := Lib.hid h2
 have H3 := Lib.hid h3
 have H4 := Lib.hid h4
 clear h1 h2 h3 h4
 go_enter Tryz.func54, Tryz.ntmps54
 go_wp2_with fail
 refine (w_implIsRule _ _ _ _ _ _ (H.out.later ((Later.refl _).alloc _)) (H'.out.later ((Later.refl _).alloc _))).mono ?_
 rintro e w1 ⟨rfl, hL⟩
 rw [H1.out]
 obtain ⟨c0, f0, z0⟩ := blk1 hL
 go_wp2_with fail
 refine (w_implIsChain _ _ _ ((HZ.out.later ((Later.refl _).alloc _)).later hL)).mono ?_
 rintro e w2 ⟨rfl, hL2⟩
 rw [H2.out]
 clear c0 f0 z0
 obtain ⟨c0, f0, z0⟩ := blk1 (hL.trans hL2)
 go_wp2_with fail
 refine (w_hasScale _ _ _ _ _ _ _ _ ((H.out.later ((Later.refl _).alloc _)).later (hL.trans hL2)) ((H'.out.later ((Later.refl _).alloc _)).later (hL.trans hL2))).mono ?_
 rintro e w3 ⟨rfl, hL3⟩
 rw [show hasI (onR ⟨n, st, sl⟩ false) 0 = _ from H3.out]
 clear c0 f0 z0
 obtain ⟨c0, f0, z0⟩ := blk1 ((hL.trans hL2).trans hL3)
 go_wp2_with fail
 refine (w_hasScale _ _ _ _ _ _ _ _ ((H.out.later ((Later.refl _).alloc _)).later ((hL.trans hL2).trans hL3)) ((H'.out.later ((Later.refl _).alloc _)).later ((hL.trans hL2).trans hL3))).mono ?_
 rintro e w4 ⟨rfl, hL4⟩
 rw [show hasI (onR ⟨n, st, sl⟩ true) 0 = _ from H4.out]
 go_wp2
 go_ret
 exact ⟨by rw [HF.out]; rfl, by (repeat (with_reducible first | exact Later.refl _ | refine qLa ?_ | refine qLd ?_ | refine qLe ?_ | refine qLs ?_ | refine qLt ?_ (by assumption)))⟩
set_option maxHeartbeats 1000000 in
theorem w_l14Code (n : Int) (u v z : Value) (st sl : List Int) (c : List Trm) (w : World) (h : IsNums w u st) (h' : IsNums w v sl) (hc : IsTrms w z c) :
 Calls Tryz.prog 58 #[.agg #[.int .i64 n, u, v], z] w fun e w' => e = .returned (.int .i64 (codePlan ⟨n, st, sl⟩ c)) ∧ Later w w' := by
 have H := Lib.hid h
 have H' := Lib.hid h'
 have HZ := Lib.hid hc
 obtain ⟨_, _, au, capu, rfl, _, _, _⟩ := h
 obtain ⟨_, _, av, capv, rfl, _, _, _⟩ := h'
 obtain ⟨_, _, az, capz, rfl, _, _, _⟩ := hc
 cases h1 : isRule ⟨n, st, sl⟩
 · have HF := Lib.hid (codePlan_1a (c := c) h1)
   have H1 := Lib.hid h1
   clear h1
   go_enter Tryz.func58, Tryz.ntmps58
   go_wp2_with fail
   refine (w_specIsRule _ _ _ _ _ _ (H.out.later ((Later.refl _).alloc _)) (H'.out.later ((Later.refl _).alloc _))).mono ?_
   rintro e w1 ⟨rfl, hL⟩
   rw [H1.out]
   go_wp2
   go_ret
   exact ⟨by rw [HF.out]; rfl, by (repeat (with_reducible first | exact Later.refl _ | refine qLa ?_ | refine qLd ?_ | refine qLe ?_ | refine qLs ?_ | refine qLt ?_ (by assumption)))⟩
 cases h2 : isChain c
 · have HF := Lib.hid (codePlan_1b h1 h2)
   have H1 := Lib.hid h1
   have H2 := Lib.hid h2
   clear h1 h2
   go_enter Tryz.func58, Tryz.ntmps58
   go_wp2_with fail
   refine (w_specIsRule _ _ _ _ _ _ (H.out.later ((Later.refl _).alloc _)) (H'.out.later ((Later.refl _).alloc _))).mono ?_
   rintro e w1 ⟨rfl, hL⟩
   rw [H1.out]
   obtain ⟨c0, f0, z0⟩ := blk1 hL
   go_wp2_with fail
   refine (w_specIsChain _ _ _ ((HZ.out.later ((Later.refl _).alloc _)).later hL)).mono ?_
   rintro e w2 ⟨rfl, hL2⟩
   rw [H2.out]
   go_wp2
   go_ret
   exact ⟨by rw [HF.out]; rfl, by (repeat (with_reducible first | exact Later.refl _ | refine qLa ?_ | refine qLd ?_ | refine qLe ?_ | refine qLs ?_ | refine qLt ?_ (by assumption)))⟩
 cases h3 : hasI st 0
 · have HF := Lib.hid (codePlan_5a h1 h2 h3)
   have H1 := Lib.hid h1
   have H2 := Lib.hid h2
   have H3 := Lib.hid h3
   clear h1 h2 h3
   go_enter Tryz.func58, Tryz.ntmps58
   go_wp2_with fail
   refine (w_specIsRule _ _ _ _ _ _ (H.out.later ((Later.refl _).alloc _)) (H'.out.later ((Later.refl _).alloc _))).mono ?_
   rintro e w1 ⟨rfl, hL⟩
   rw [H1.out]
   obtain ⟨c0, f0, z0⟩ := blk1 hL
   go_wp2_with fail
   refine (w_specIsChain _ _ _ ((HZ.out.later ((Later.refl _).alloc _)).later hL)).mono ?_
   rintro e w2 ⟨rfl, hL2⟩
   rw [H2.out]
   clear c0 f0 z0
   obtain ⟨c0, f0, z0⟩ := blk1 (hL.trans hL2)
   go_wp2_with fail
   refine (w_l01Has _ _ _ _ ((H.out.later ((Later.refl _).alloc _)).later (hL.trans hL2))).mono ?_
   rintro e w3 ⟨rfl, rfl⟩
   rw [H3.out]
   go_wp2
   go_ret
   exact ⟨by rw [HF.out]; rfl, by (repeat (with_reducible first | exact Later.refl _ | refine qLa ?_ | refine qLd ?_ | refine qLe ?_ | refine qLs ?_ | refine qLt ?_ (by assumption)))⟩
 cases h4 : hasI sl 0
 · have HF := Lib.hid (codePlan_5b h1 h2 h3 h4)
   have H1 := Lib.hid h1
   have H2 := Lib.hid h2
   have H3 := Lib.hid h3
   have H4 := Lib.hid h4
   clear h1 h2 h3 h4
   go_enter Tryz.func58, Tryz.ntmps58
   go_wp2_with fail
   refine (w_specIsRule _ _ _ _ _ _ (H.out.later ((Later.refl _).alloc _)) (H'.out.later ((Later.refl _).alloc _))).mono ?_
   rintro e w1 ⟨rfl, hL⟩
   rw [H1.out]
   obtain ⟨c0, f0, z0⟩ := blk1 hL
   go_wp2_with fail
   refine (w_specIsChain _ _ _ ((HZ.out.later ((Later.refl _).alloc _)).later hL)).mono ?_
   rintro e w2 ⟨rfl, hL2⟩
   rw [H2.out]
   clear c0 f0 z0
   obtain ⟨c0, f0, z0⟩ := blk1 (hL.trans hL2)
   go_wp2_with fail
   refine (w_l01Has _ _ _ _ ((H.out.later ((Later.refl _).alloc _)).later (hL.trans hL2))).mono ?_
   rintro e w3 ⟨rfl, rfl⟩
   rw [H3.out]
   go_wp2_with fail
   refine (w_l01Has _ _ _ _ ((H'.out.later ((Later.refl _).alloc _)).later (hL.trans hL2))).mono ?_
   rintro e w4 ⟨rfl, rfl⟩
   rw [H4.out]
   go_wp2
   go_ret
   exact ⟨by rw [HF.out]; rfl, by (repeat (with_reducible first | exact Later.refl _ | refine qLa ?_ | refine qLd ?_ | refine qLe ?_ | refine qLs ?_ | refine qLt ?_ (by assumption)))⟩
 have HF := Lib.hid (codePlan_ok h1 h2 h3 h4)
 have H1 := Lib.hid h1
 have H2 := Lib.hid h2
 have H3 := Lib.hid h3
 have H4 := Lib.hid h4
 clear h1 h2 h3 h4
 go_enter Tryz.func58, Tryz.ntmps58
 go_wp2_with fail
 refine (w_specIsRule _ _ _ _ _ _ (H.out.later ((Later.refl _).alloc _)) (H'.out.later ((Later.refl _).alloc _))).mono ?_
 rintro e w1 ⟨rfl, hL⟩
 rw [H1.out]
 obtain ⟨c0, f0, z0⟩ := blk1 hL
 go_wp2_with fail
 refine (w_specIsChain _ _ _ ((HZ.out.later ((Later.refl _).alloc _)).later hL)).mono ?_
 rintro e w2 ⟨rfl, hL2⟩
 rw [H2.out]
 clear c0 f0 z0
 obtain ⟨c0, f0, z0⟩ := blk1 (hL.trans hL2)
 go_wp2_with fail
 refine (w_l01Has _ _ _ _ ((H.out.later ((Later.refl _).alloc _)).later (hL.trans hL2))).mono ?_
 rintro e w3 ⟨rfl, rfl⟩
 rw [H3.out]
 go_wp2_with fail
 refine (w_l01Has _ _ _ _ ((H'.out.later ((Later.refl _).alloc _)).later (hL.trans hL2))).mono ?_
 rintro e w4 ⟨rfl, rfl⟩
 rw [H4.out]
 go_wp2
 go_ret
 exact ⟨by rw [HF.out]; rfl, by (repeat (with_reducible first | exact Later.refl _ | refine qLa ?_ | refine qLd ?_ | refine qLe ?_ | refine qLs ?_ | refine qLt ?_ (by assumption)))⟩
theorem w_l14Point (d t : Int) (h1 : 1000 ≤ d) (h2 : d ≤ 9999) (h3 : -100 ≤ t) (h4 : t ≤ 100) (w : World) :
 Calls Tryz.prog 119 #[.agg #[.int .i64 d, .int .i64 t]] w fun e w' => e = .returned (.int .i64 (ptF 0 ⟨d, t⟩)) ∧ Later w w' := by
 go_enter Tryz.func119, Tryz.ntmps119
 go_wp2_with fail
 refine (w_specPoint _ _ _ (by decide) (by decide) h1 h2 h3 h4 _).mono ?_
 rintro e w1 ⟨rfl, hL⟩
 go_wp2
 go_ret
 exact ⟨rfl, by (repeat (with_reducible first | exact Later.refl _ | refine qLa ?_ | refine qLd ?_ | refine qLe ?_ | refine qLs ?_ | refine qLt ?_ (by assumption)))⟩
theorem w_moduloD (a : Int) (h1 : -100000000000 ≤ a) (h2 : a ≤ 100000000000) (w : World) :
 Calls Tryz.prog 66 #[.int .i64 a, .int .i64 1048576] w fun e w' => e = .returned (.int .i64 (a % 1048576)) ∧ w = w' := by
 have HE := Lib.hid (show a % 1048576 = a - 1048576 * (a / 1048576) by omega)
 go_enter Tryz.func66, Tryz.ntmps66
 go_wp2_with fail
 refine (w_down _ _ (by decide) (by decide) (by omega) (by omega) _).mono ?_
 rintro e w' ⟨rfl, rfl⟩
 go_wp2
 go_ret
 exact ⟨by rw [HE.out]; rfl, rfl⟩
set_option maxHeartbeats 1000000 in
theorem w_l14Sum (v : Value) (ts : List Trm) (w : World) (h : IsTrms w v ts) (hc : isChain ts = true) :
 Calls Tryz.prog 70 #[v] w fun e w' => e = .returned (.int .i64 (sumPts ts)) ∧ Later w w' := by
 have HC := Lib.hid hc
 have h6 := (isChain_true hc).2.1
 clear hc
 obtain ⟨hxl1, hn1, a1, cap1, rfl, hcap1, hmax1, hrow1⟩ := h
 have HR1 := Lib.hid hrow1
 clear hrow1 hxl1
 go_enter Tryz.func70, Tryz.ntmps70
 go_wp2
 go_loopw [3, 4] (fun r i wr => ∃ k : Nat, k ≤ ts.length ∧ i = .int .i64 k ∧ Later w wr ∧ ∃ S : Int, r = .int .i64 S ∧ Hid (S = sumPts (ts.take k)) ∧ -1048576 * (k : Int) ≤ S ∧ S ≤ 1048576 * k) (fun _ i _ => ts.length - (intOf i).toNat)
 case atStart => exact ⟨0, Nat.zero_le _, rfl, Later.refl _, 0, rfl, by simp [Hid, sumPts], by simp, by simp⟩
 case round =>
  obtain ⟨k, hk, rfl, hL, S, rfl, HS, hlo, hhi⟩ := hrel
  by_cases hlt : k < ts.length
  · obtain ⟨b1, off1, rfl, hr1⟩ := HR1.out (by omega)
    obtain ⟨t, ht1⟩ := get_ex (l := ts) (k := k) (by omega)
    have HT1 := Lib.hid ht1
    obtain ⟨c1_0, c1_1, c1_2⟩ := (hr1.later hL).trm ht1
    clear ht1
    obtain ⟨t1, t2, t3, t4⟩ := isChain_ok HC.out HT1.out
    obtain ⟨p1, p2⟩ := pt0_bd t1 t2
    obtain ⟨PT, hPT⟩ : ∃ x, ptF 0 t.f = x := ⟨_, rfl⟩
    rw [hPT] at p1 p2
    have HPT := Lib.hid hPT
    clear hPT
    cases hq : t.dv
    all_goals
     rw [hq] at c1_2
     have HQ := Lib.hid hq
     clear hq
     go_wp2_with fail
     refine (w_l14Point _ _ t1 t2 (by omega) (by omega) _).mono ?_
     rintro e w1 ⟨rfl, hL1⟩
     rw [show ptF 0 ⟨t.f.d, t.f.t⟩ = PT from HPT.out]
     go_wp2
     go_roundw
     case rel => first | exact ⟨k + 1, by omega, by go_num, by (repeat (with_reducible first | exact Later.refl _ | refine qLa ?_ | refine qLd ?_ | refine qLe ?_ | refine qLs ?_ | refine qLt ?_ (by assumption))), S + PT, rfl, by rw [Hid, take_snoc' HT1.out, sumPts_snoc, ptStep_n HQ.out, ← HS.out, HPT.out], by omega, by omega⟩ | exact ⟨k + 1, by omega, by go_num, by (repeat (with_reducible first | exact Later.refl _ | refine qLa ?_ | refine qLd ?_ | refine qLe ?_ | refine qLs ?_ | refine qLt ?_ (by assumption))), S - PT, rfl, by rw [Hid, take_snoc' HT1.out, sumPts_snoc, ptStep_y HQ.out, ← HS.out, HPT.out], by omega, by omega⟩
     case measure => simp [intOf]; omega
  · have hf : S = sumPts ts := by
     have := HS.out
     rwa [take_eq_all (by omega)] at this
    have HF := Lib.hid hf
    clear hf
    go_wp2
    go_ret
    exact ⟨by rw [← HF.out]; rfl, by (repeat (with_reducible first | exact Later.refl _ | refine qLa ?_ | refine qLd ?_ | refine qLe ?_ | refine qLs ?_ | refine qLt ?_ (by assumption)))⟩
end Go.Proofs.YtkoojngonldcbaaGreat
