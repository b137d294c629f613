/- DERIVED. Walks: errors, and the units of a plan. -/
import Derived.Test.YtkoojngonldcbaaGreatKGM56
import Derived.Test.YtkoojngonldcbaaGreatKGM59
import Derived.Test.YtkoojngonldcbaaGreatKGP10
import Derived.Test.YtkoojngonldcbaaGreatKGM12
import Derived.Test.YtkoojngonldcbaaGreatKGM7
namespace Go.Proofs.YtkoojngonldcbaaGreat
set_option linter.unusedVariables false
set_option linter.unusedSimpArgs false
open Go.RowKit
set_option maxRecDepth 100000
theorem w_l10Eye (n : Int) (w : World) :
 Calls Tryz.prog 193 #[.int .i64 n] w fun e w' => e = .returned (.bool (inR n 0 200)) ∧ w = w' := by
 go_enter Tryz.func193, Tryz.ntmps193
 go_wp2_with fail
 refine (w_l01In _ _ _ _).mono ?_
 rintro e w1 ⟨rfl, rfl⟩
 go_wp2
 go_ret
 exact ⟨rfl, rfl⟩
theorem w_implAreErrors (ea eb ec : Int) (w : World) :
 Calls Tryz.prog 152 #[.agg #[.int .i64 ea, .int .i64 eb, .int .i64 ec]] w fun e w' => e = .returned (.bool (isErs ⟨ea, eb, ec⟩)) ∧ Later w w' := by
 cases h1 : inR ea 0 200
 · have HF := Lib.hid (show isErs ⟨ea, eb, ec⟩ = false from by unfold isErs; rw [h1]; rfl)
   have H1 := Lib.hid h1
   clear h1
   go_enter Tryz.func152, Tryz.ntmps152
   go_wp2_with fail
   refine (w_within _ _ _ _).mono ?_
   rintro e w1 ⟨rfl, rfl⟩
   rw [H1.out]
   go_wp2
   go_ret
   exact ⟨by rw [HF.out]; rfl, qla⟩
 cases h2 : inR eb 0 200
 · have HF := Lib.hid (show isErs ⟨ea, eb, ec⟩ = false from by unfold isErs; rw [h1, h2]; rfl)
   have H1 := Lib.hid h1
   have H2 := Lib.hid h2
   clear h1 h2
   go_enter Tryz.func152, Tryz.ntmps152
   go_wp2_with fail
   refine (w_within _ _ _ _).mono ?_
   rintro e w1 ⟨rfl, rfl⟩
   rw [H1.out]
   go_wp2_with fail
   refine (w_within _ _ _ _).mono ?_
   rintro e w1 ⟨rfl, rfl⟩
   rw [H2.out]
   go_wp2
   go_ret
   exact ⟨by rw [HF.out]; rfl, qla⟩
 cases h3 : inR ec 0 200
 · have HF := Lib.hid (show isErs ⟨ea, eb, ec⟩ = false from by unfold isErs; rw [h1, h2, h3]; rfl)
   have H1 := Lib.hid h1
   have H2 := Lib.hid h2
   have H3 := Lib.hid h3
   clear h1 h2 h3
   go_enter Tryz.func152, Tryz.ntmps152
   go_wp2_with fail
   refine (w_within _ _ _ _).mono ?_
   rintro e w1 ⟨rfl, rfl⟩
   rw [H1.out]
   go_wp2_with fail
   refine (w_within _ _ _ _).mono ?_
   rintro e w1 ⟨rfl, rfl⟩
   rw [H2.out]
   go_wp2_with fail
   refine (w_within _ _ _ _).mono ?_
   rintro e w1 ⟨rfl, rfl⟩
   rw [H3.out]
   go_wp2
   go_ret
   exact ⟨by rw [HF.out]; rfl, qla⟩
 have HF := Lib.hid (show isErs ⟨ea, eb, ec⟩ = true from by unfold isErs; rw [h1, h2, h3]; rfl)
 have H1 := Lib.hid h1
 have H2 := Lib.hid h2
 have H3 := Lib.hid h3
 clear h1 h2 h3
 go_enter Tryz.func152, Tryz.ntmps152
 go_wp2_with fail
 refine (w_within _ _ _ _).mono ?_
 rintro e w1 ⟨rfl, rfl⟩
 rw [H1.out]
 go_wp2_with fail
 refine (w_within _ _ _ _).mono ?_
 rintro e w1 ⟨rfl, rfl⟩
 rw [H2.out]
 go_wp2_with fail
 refine (w_within _ _ _ _).mono ?_
 rintro e w1 ⟨rfl, rfl⟩
 rw [H3.out]
 go_wp2
 go_ret
 exact ⟨by rw [HF.out]; rfl, qla⟩
theorem w_specAreErrors (ea eb ec : Int) (w : World) :
 Calls Tryz.prog 154 #[.agg #[.int .i64 ea, .int .i64 eb, .int .i64 ec]] w fun e w' => e = .returned (.bool (isErs ⟨ea, eb, ec⟩)) ∧ Later w w' := by
 cases h1 : inR ea 0 200
 · have HF := Lib.hid (show isErs ⟨ea, eb, ec⟩ = false from by unfold isErs; rw [h1]; rfl)
   have H1 := Lib.hid h1
   clear h1
   go_enter Tryz.func154, Tryz.ntmps154
   go_wp2_with fail
   refine (w_l10Eye _ _).mono ?_
   rintro e w1 ⟨rfl, rfl⟩
   rw [H1.out]
   go_wp2
   go_ret
   exact ⟨by rw [HF.out]; rfl, qla⟩
 cases h2 : inR eb 0 200
 · have HF := Lib.hid (show isErs ⟨ea, eb, ec⟩ = false from by unfold isErs; rw [h1, h2]; rfl)
   have H1 := Lib.hid h1
   have H2 := Lib.hid h2
   clear h1 h2
   go_enter Tryz.func154, Tryz.ntmps154
   go_wp2_with fail
   refine (w_l10Eye _ _).mono ?_
   rintro e w1 ⟨rfl, rfl⟩
   rw [H1.out]
   go_wp2_with fail
   refine (w_l10Eye _ _).mono ?_
   rintro e w1 ⟨rfl, rfl⟩
   rw [H2.out]
   go_wp2
   go_ret
   exact ⟨by rw [HF.out]; rfl, qla⟩
 cases h3 : inR ec 0 200
 · have HF := Lib.hid (show isErs ⟨ea, eb, ec⟩ = false from by unfold isErs; rw [h1, h2, h3]; rfl)
   have H1 := Lib.hid h1
   have H2 := Lib.hid h2
   have H3 := Lib.hid h3
   clear h1 h2 h3
   go_enter Tryz.func154, Tryz.ntmps154
   go_wp2_with fail
   refine (w_l10Eye _ _).mono ?_
   rintro e w1 ⟨rfl, rfl⟩
   rw [H1.out]
   go_wp2_with fail
   refine (w_l10Eye _ _).mono ?_
   rintro e w1 ⟨rfl, rfl⟩
   rw [H2.out]
   go_wp2_with fail
   refine (w_l10Eye _ _).mono ?_
   rintro e w1 ⟨rfl, rfl⟩
   rw [H3.out]
   go_wp2
   go_ret
   exact ⟨by rw [HF.out]; rfl, qla⟩
 have HF := Lib.hid (show isErs ⟨ea, eb, ec⟩ = true from by unfold isErs; rw [h1, h2, h3]; rfl)
 have H1 := Lib.hid h1
 have H2 := Lib.hid h2
 have H3 := Lib.hid h3
 clear h1 h2 h3
 go_enter Tryz.func154, Tryz.ntmps154
 go_wp2_with fail
 refine (w_l10Eye _ _).mono ?_
 rintro e w1 ⟨rfl, rfl⟩
 rw [H1.out]
 go_wp2_with fail
 refine (w_l10Eye _ _).mono ?_
 rintro e w1 ⟨rfl, rfl⟩
 rw [H2.out]
 go_wp2_with fail
 refine (w_l10Eye _ _).mono ?_
 rintro e w1 ⟨rfl, rfl⟩
 rw [H3.out]
 go_wp2
 go_ret
 exact ⟨by rw [HF.out]; rfl, qla⟩
set_option maxHeartbeats 1000000 in
theorem w_checkBound (n : Int) (u v y : Value) (st sd : List Int) (c : List Trm) (ea eb ec : Int) (w : World) (h : IsNums w u st) (h' : IsNums w v sd) (hy : IsTrms w y c) :
 Calls Tryz.prog 89 #[.agg #[.int .i64 n, u, v], y, .agg #[.int .i64 ea, .int .i64 eb, .int .i64 ec]] w fun e w' => e = .returned (.int .i64 (codeBound ⟨n, st, sd⟩ c ⟨ea, eb, ec⟩)) ∧ Later w w' := by
 have H := Lib.hid h
 have H' := Lib.hid h'
 have HY := Lib.hid hy
 obtain ⟨_, _, au, capu, rfl, _, _, _⟩ := h
 obtain ⟨_, _, av, capv, rfl, _, _, _⟩ := h'
 obtain ⟨_, _, ay, capy, rfl, _, _, _⟩ := hy
 cases h1 : isErs ⟨ea, eb, ec⟩
 · have HF := Lib.hid (show codeBound ⟨n, st, sd⟩ c ⟨ea, eb, ec⟩ = 1 from by unfold codeBound; rw [h1]; rfl)
   have H1 := Lib.hid h1
   clear h1
   go_enter Tryz.func89, Tryz.ntmps89
   go_wp2_with fail
   refine (w_implAreErrors _ _ _ _).mono ?_
   rintro e w1 ⟨rfl, hL⟩
   rw [H1.out]
   go_wp2
   go_ret
   exact ⟨by rw [HF.out]; rfl, qla⟩
 have HF := Lib.hid (show codeBound ⟨n, st, sd⟩ c ⟨ea, eb, ec⟩ = codePlan ⟨n, st, sd⟩ c from by unfold codeBound; rw [h1]; rfl)
 have H1 := Lib.hid h1
 clear h1
 go_enter Tryz.func89, Tryz.ntmps89
 go_wp2_with fail
 refine (w_implAreErrors _ _ _ _).mono ?_
 rintro e w1 ⟨rfl, hL⟩
 rw [H1.out]
 have hL1 := (((Later.refl w).alloc _).alloc _).trans hL
 obtain ⟨c0, f0, z0⟩ := (blk2 hL).1
 clear hL
 go_wp2_with fail
 refine (w_checkPlan _ _ _ _ _ _ _ _ (H.out.later hL1) (H'.out.later hL1) (HY.out.later hL1)).mono ?_
 rintro e w2 ⟨rfl, hL2⟩
 go_wp2
 go_ret
 exact ⟨by rw [HF.out]; rfl, qla⟩
set_option maxHeartbeats 1000000 in
theorem w_l15Code (n : Int) (u v y : Value) (st sd : List Int) (c : List Trm) (ea eb ec : Int) (w : World) (h : IsNums w u st) (h' : IsNums w v sd) (hy : IsTrms w y c) :
 Calls Tryz.prog 92 #[.agg #[.int .i64 n, u, v], y, .agg #[.int .i64 ea, .int .i64 eb, .int .i64 ec]] w fun e w' => e = .returned (.int .i64 (codeBound ⟨n, st, sd⟩ c ⟨ea, eb, ec⟩)) ∧ Later w w' := by
 have H := Lib.hid h
 have H' := Lib.hid h'
 have HY := Lib.hid hy
 obtain ⟨_, _, au, capu, rfl, _, _, _⟩ := h
 obtain ⟨_, _, av, capv, rfl, _, _, _⟩ := h'
 obtain ⟨_, _, ay, capy, rfl, _, _, _⟩ := hy
 cases h1 : isErs ⟨ea, eb, ec⟩
 · have HF := Lib.hid (show codeBound ⟨n, st, sd⟩ c ⟨ea, eb, ec⟩ = 1 from by unfold codeBound; rw [h1]; rfl)
   have H1 := Lib.hid h1
   clear h1
   go_enter Tryz.func92, Tryz.ntmps92
   go_wp2_with fail
   refine (w_specAreErrors _ _ _ _).mono ?_
   rintro e w1 ⟨rfl, hL⟩
   rw [H1.out]
   go_wp2
   go_ret
   exact ⟨by rw [HF.out]; rfl, qla⟩
 have HF := Lib.hid (show codeBound ⟨n, st, sd⟩ c ⟨ea, eb, ec⟩ = codePlan ⟨n, st, sd⟩ c from by unfold codeBound; rw [h1]; rfl)
 have H1 := Lib.hid h1
 clear h1
 go_enter Tryz.func92, Tryz.ntmps92
 go_wp2_with fail
 refine (w_specAreErrors _ _ _ _).mono ?_
 rintro e w1 ⟨rfl, hL⟩
 rw [H1.out]
 have hL1 := (((Later.refl w).alloc _).alloc _).trans hL
 obtain ⟨c0, f0, z0⟩ := (blk2 hL).1
 clear hL
 go_wp2_with fail
 refine (w_l14Code _ _ _ _ _ _ _ _ (H.out.later hL1) (H'.out.later hL1) (HY.out.later hL1)).mono ?_
 rintro e w2 ⟨rfl, hL2⟩
 go_wp2
 go_ret
 exact ⟨by rw [HF.out]; rfl, qla⟩
theorem w_totalError (ea eb ec : Int) (h : isErs ⟨ea, eb, ec⟩ = true) (w : World) :
 Calls Tryz.prog 155 #[.agg #[.int .i64 ea, .int .i64 eb, .int .i64 ec]] w fun e w' => e = .returned (.int .i64 (totE ⟨ea, eb, ec⟩)) ∧ Later w w' := by
 have hb := isErs_bd h
 simp only at hb
 obtain ⟨a1, a2, b1, b2, c1, c2⟩ := hb
 have HF := Lib.hid (show totE ⟨ea, eb, ec⟩ = 2 * ea + eb + ec from rfl)
 go_enter Tryz.func155, Tryz.ntmps155
 go_wp2
 go_ret
 exact ⟨by rw [HF.out]; rfl, qla⟩
theorem w_l10Total (ea eb ec : Int) (h : isErs ⟨ea, eb, ec⟩ = true) (w : World) :
 Calls Tryz.prog 195 #[.agg #[.int .i64 ea, .int .i64 eb, .int .i64 ec]] w fun e w' => e = .returned (.int .i64 (totE ⟨ea, eb, ec⟩)) ∧ Later w w' := by
 have hb := isErs_bd h
 simp only at hb
 obtain ⟨a1, a2, b1, b2, c1, c2⟩ := hb
 have HF := Lib.hid (show totE ⟨ea, eb, ec⟩ = 2 * ea + eb + ec from rfl)
 go_enter Tryz.func195, Tryz.ntmps195
 go_wp2
 go_ret
 exact ⟨by rw [HF.out]; rfl, qla⟩
theorem w_decades0 (w : World) : Calls Tryz.prog 133 #[.int .i64 0] w fun e w' => e = .returned (.int .i64 1) ∧ Later w w' := by
 go_enter Tryz.func133, Tryz.ntmps133
 go_wp2
 go_ret
 exact ⟨rfl, qla⟩
theorem w_l05Decades0 (w : World) : Calls Tryz.prog 143 #[.int .i64 0] w fun e w' => e = .returned (.int .i64 1) ∧ Later w w' := by
 go_enter Tryz.func143, Tryz.ntmps143
 go_wp2
 go_ret
 exact ⟨rfl, qla⟩
set_option maxHeartbeats 1000000 in
theorem w_errorUnits (n ea eb ec : Int) (h : isErs ⟨ea, eb, ec⟩ = true) (h1 : 1 ≤ n) (h2 : n ≤ 100000) (w : World) :
 Calls Tryz.prog 153 #[.int .i64 0, .int .i64 n, .agg #[.int .i64 ea, .int .i64 eb, .int .i64 ec]] w fun e w' => e = .returned (.int .i64 (unE n ⟨ea, eb, ec⟩)) ∧ Later w w' := by
 have ht := totE_bd h
 obtain ⟨T, hT⟩ : ∃ x, totE ⟨ea, eb, ec⟩ = x := ⟨_, rfl⟩
 rw [hT] at ht
 obtain ⟨t1, t2⟩ := ht
 have HF := Lib.hid (show unE n ⟨ea, eb, ec⟩ = cdiv (T * 1048576) n from by rw [← hT]; rfl)
 have HT := Lib.hid hT
 have HE := Lib.hid h
 clear hT h
 go_enter Tryz.func153, Tryz.ntmps153
 go_wp2_with fail
 refine (w_totalError _ _ _ HE.out _).mono ?_
 rintro e w1 ⟨rfl, hL⟩
 rw [HT.out]
 go_wp2_with fail
 refine (w_decades0 _).mono ?_
 rintro e w2 ⟨rfl, hL2⟩
 go_wp2_with fail
 refine (w_up _ _ (by omega) (by omega) (by omega) (by omega) _).mono ?_
 rintro e w3 ⟨rfl, rfl⟩
 go_wp2
 go_ret
 exact ⟨by rw [HF.out]; first | rfl | simp [cdiv], qla⟩
set_option maxHeartbeats 1000000 in
theorem w_l10Units (n ea eb ec : Int) (h : isErs ⟨ea, eb, ec⟩ = true) (h1 : 1 ≤ n) (h2 : n ≤ 100000) (w : World) :
 Calls Tryz.prog 158 #[.int .i64 0, .int .i64 n, .agg #[.int .i64 ea, .int .i64 eb, .int .i64 ec]] w fun e w' => e = .returned (.int .i64 (unE n ⟨ea, eb, ec⟩)) ∧ Later w w' := by
 have ht := totE_bd h
 obtain ⟨T, hT⟩ : ∃ x, totE ⟨ea, eb, ec⟩ = x := ⟨_, rfl⟩
 rw [hT] at ht
 obtain ⟨t1, t2⟩ := ht
 have HF := Lib.hid (show unE n ⟨ea, eb, ec⟩ = cdiv (T * 1048576) n from by rw [← hT]; rfl)
 have HT := Lib.hid hT
 have HE := Lib.hid h
 clear hT h
 go_enter Tryz.func158, Tryz.ntmps158
 go_wp2_with fail
 refine (w_l10Total _ _ _ HE.out _).mono ?_
 rintro e w1 ⟨rfl, hL⟩
 rw [HT.out]
 go_wp2_with fail
 refine (w_l05Decades0 _).mono ?_
 rintro e w2 ⟨rfl, hL2⟩
 go_wp2_with fail
 refine (w_l01Ceil _ _ (by omega) (by omega) (by omega) (by omega) _).mono ?_
 rintro e w3 ⟨rfl, rfl⟩
 go_wp2
 go_ret
 exact ⟨by rw [HF.out]; first | rfl | simp [cdiv], qla⟩
set_option maxHeartbeats 4000000 in
theorem w_planUnits0 (n : Int) (u v y : Value) (st sd : List Int) (c : List Trm) (ea eb ec : Int) (w : World) (h : IsNums w u st) (h' : IsNums w v sd) (hy : IsTrms w y c) (hC : hasI st 0 = true ∧ hasI sd 0 = true) (hc : isChain c = true) (he : isErs ⟨ea, eb, ec⟩ = true) (h1 : 1 ≤ n) (h2 : n ≤ 100000) :
 Calls Tryz.prog 91 #[.agg #[.int .i64 n, u, v], y, .agg #[.int .i64 ea, .int .i64 eb, .int .i64 ec]] w fun e w' => e = .returned (.int .i64 (unP n c ⟨ea, eb, ec⟩)) ∧ Later w w' := by
 have H := Lib.hid h
 have H' := Lib.hid h'
 have HY := Lib.hid hy
 obtain ⟨_, _, au, capu, rfl, _, _, _⟩ := h
 obtain ⟨_, _, av, capv, rfl, _, _, _⟩ := h'
 obtain ⟨_, _, ay, capy, rfl, _, _, _⟩ := hy
 have h17 := planL_len (r := ⟨n, st, sd⟩) hC hc
 obtain ⟨l, hl⟩ : ∃ x, planL c = x := ⟨_, rfl⟩
 have hcs := countSet_bd l
 obtain ⟨CS, hCS⟩ : ∃ x, countSet l = x := ⟨_, rfl⟩
 obtain ⟨UE, hUE⟩ : ∃ x, unE n ⟨ea, eb, ec⟩ = x := ⟨_, rfl⟩
 have hub := unE_bd he h1
 have hpb := unP_bd (c := c) he h1 h17
 have HF := Lib.hid (show unP n c ⟨ea, eb, ec⟩ = (CS + 1) * (UE + 2) from by rw [← hCS, ← hUE, ← hl]; rfl)
 rw [HF.out] at hpb
 rw [hCS] at hcs
 rw [hUE] at hub
 rw [hl] at h17
 obtain ⟨k1, k2⟩ := hcs
 obtain ⟨m1, m2⟩ := hub
 obtain ⟨p1, p2⟩ := hpb
 have HL0 := Lib.hid hl
 have HCS := Lib.hid hCS
 have HUE := Lib.hid hUE
 have HC := Lib.hid hC
 have HCh := Lib.hid hc
 have HE := Lib.hid he
 clear hC hc he hl hCS hUE
 go_enter Tryz.func91, Tryz.ntmps91
 go_wp2_with fail
 refine (w_usualPlan _ _ _ _ _ _ _ _ (H.out.later (((Later.refl _).alloc _).alloc _)) (H'.out.later (((Later.refl _).alloc _).alloc _)) (HY.out.later (((Later.refl _).alloc _).alloc _)) HC.out HCh.out).mono ?_
 rintro e w2 ⟨a2, l2, q2, rfl, hL, ho⟩
 have ho' : w2.ownsRow _ 88 4 (.slice a2 l2 q2) l.length (movs l) := HL0.out ▸ ho
 have HM := Lib.hid (reads_of_owns ho' (by omega))
 obtain ⟨a3, k3, e3⟩ := isSl_of ho'
 simp only [Value.slice.injEq] at e3
 obtain ⟨rfl, rfl, rfl⟩ := e3
 obtain ⟨K0, K1⟩ := kept2 hL
 have HK0 := Lib.hid K0
 have HK1 := Lib.hid K1
 have HL1 := Lib.hid ((((Later.refl w).alloc _).alloc _).trans hL)
 clear ho ho' hL K0 K1
 go_wp2_with fail
 refine wp_name ?_
 intro z hz
 have hLz : Later w2 z := by rw [hz]; exact (Later.refl _).alloc _
 have hLzz : Later w z := HL1.out.trans hLz
 have Kr := hLz.keep HK0.out
 have Ke := hLz.keep HK1.out
 have HMz := Lib.hid (HM.out.later hLz)
 clear hz hLz
 refine region_slots 24 [15, 16, 17, 18, 19, 20, 21, 22, 23, 6] (fun g ac wc => sl ac 7 = .slice a2 l.length q2 ∧
  sl ac 3 = .pointer (some ⟨w.heap.size, 0, none⟩) ∧
  sl ac 5 = .pointer (some ⟨w.heap.size + 1, 0, none⟩) ∧
  (g 0 = true → sl ac 15 = .slice a2 l.length q2) ∧
  (g 1 = true → sl ac 16 = .int .i64 CS) ∧
  (g 2 = true → sl ac 17 = .int .i64 (CS + 1)) ∧
  (g 3 = true → sl ac 18 = .pointer (some ⟨w.heap.size, 0, none⟩)) ∧
  (g 4 = true → sl ac 19 = .int .i64 n) ∧
  (g 5 = true → sl ac 20 = .agg #[.int .i64 ea, .int .i64 eb, .int .i64 ec]) ∧
  (g 6 = true → sl ac 21 = .int .i64 UE) ∧
  (g 7 = true → sl ac 22 = .int .i64 (UE + 2)) ∧
  (g 8 = true → sl ac 23 = .int .i64 ((CS + 1) * (UE + 2))) ∧
  (g 9 = true → sl ac 6 = .int .i64 ((CS + 1) * (UE + 2))) ∧
  Later z wc ∧
  z.heap.size ≤ wc.heap.size ∧
  wc.heap[w.heap.size]? = some (.cells #[.int .i64 n, .slice au st.length capu, .slice av sd.length capv] 26 (0, 0)) ∧
  wc.heap[w.heap.size + 1]? = some (.cells #[.int .i64 ea, .int .i64 eb, .int .i64 ec] 60 (0, 0))) (by kernel_rfl) (by kernel_rfl) rfl (by kernel_rfl) ?_ ?_ ?_
 · exact ⟨rfl, rfl, rfl, nofun, nofun, nofun, nofun, nofun, nofun, nofun, nofun, nofun, nofun, (Later.refl z).drew, Nat.le_refl _, Kr, Ke⟩
 · intro g ac wu hg ha hI
   obtain ⟨x7, x3, x5, i0, i1, i2, i3, i4, i5, i6, i7, i8, i9, hL, hS, Br, Be⟩ := hI
   have a0 := i0 (hg 0 (by simp))
   have a1 := i1 (hg 1 (by simp))
   have a2 := i2 (hg 2 (by simp))
   have a3 := i3 (hg 3 (by simp))
   have a4 := i4 (hg 4 (by simp))
   have a5 := i5 (hg 5 (by simp))
   have a6 := i6 (hg 6 (by simp))
   have a7 := i7 (hg 7 (by simp))
   have a8 := i8 (hg 8 (by simp))
   have a9 := i9 (hg 9 (by simp))
   simp only [putAll, a0, a1, a2, a3, a4, a5, a6, a7, a8, a9] at ha
   simp only [Act.put, List.setIfInBounds_toArray, List.set_cons_succ, List.set_cons_zero] at ha
   rw [ha]
   clear x7 x3 x5 i0 i1 i2 i3 i4 i5 i6 i7 i8 i9 a0 a1 a2 a3 a4 a5 a6 a7 a8 a9 hg ha
   go_wp2
   go_ret
   exact ⟨by rw [HF.out]; rfl, hLzz.trans hL⟩
 · refine .cons ?_ (.cons ?_ (.cons ?_ (.cons ?_ (.cons ?_ (.cons ?_ (.cons ?_ (.cons ?_ (.cons ?_ (.cons ?_ .nil)))))))))
   · refine qst fun g ac wc hn hk hr HI K' hK => ?_
     obtain ⟨x7, x3, x5, -, -, -, -, -, -, -, -, -, -, hL, hS, Br, Be⟩ := HI.out
     simp [Region.binds] at hr
     go_simp
     obtain ⟨-, -, -, i0, i1, i2, i3, i4, i5, i6, i7, i8, i9, -⟩ := HI.out
     exact hK.out _ _ ⟨qB x7, qB x3, qB x5, qP, qF i1, qF i2, qF i3, qF i4, qF i5, qF i6, qF i7, qF i8, qF i9, hL, hS, Br, Be⟩
   · refine qst fun g ac wc hn hk hr HI K' hK => ?_
     obtain ⟨x7, x3, x5, i0, -, -, -, -, -, -, -, -, -, hL, hS, Br, Be⟩ := HI.out
     simp [Region.binds] at hr
     have y0 := i0 (by simp [hr])
     clear i0
     go_simp
     refine (w_countSettings0 _ l _ (HMz.out.later hL)).mono ?_
     rintro e w4 ⟨rfl, hL4⟩
     rw [HCS.out]
     obtain ⟨-, -, -, i0, i1, i2, i3, i4, i5, i6, i7, i8, i9, -⟩ := HI.out
     exact hK.out _ _ ⟨qB x7, qB x3, qB x5, qF i0, qP, qF i2, qF i3, qF i4, qF i5, qF i6, qF i7, qF i8, qF i9, hL.trans hL4, Nat.le_trans hS hL4.size, hL4.keep Br, hL4.keep Be⟩
   · refine qst fun g ac wc hn hk hr HI K' hK => ?_
     obtain ⟨x7, x3, x5, -, i1, -, -, -, -, -, -, -, -, hL, hS, Br, Be⟩ := HI.out
     simp [Region.binds] at hr
     have y1 := i1 (by simp [hr])
     clear i1
     have wD : IntKind.i64.wrap (CS + 1) = CS + 1 := wrap_same (by omega) (by omega)
     go_simp
     obtain ⟨-, -, -, i0, i1, i2, i3, i4, i5, i6, i7, i8, i9, -⟩ := HI.out
     exact hK.out _ _ ⟨qB x7, qB x3, qB x5, qF i0, qF i1, qP, qF i3, qF i4, qF i5, qF i6, qF i7, qF i8, qF i9, hL, hS, Br, Be⟩
   · refine qst fun g ac wc hn hk hr HI K' hK => ?_
     obtain ⟨x7, x3, x5, -, -, -, -, -, -, -, -, -, -, hL, hS, Br, Be⟩ := HI.out
     simp [Region.binds] at hr
     go_simp
     obtain ⟨-, -, -, i0, i1, i2, i3, i4, i5, i6, i7, i8, i9, -⟩ := HI.out
     exact hK.out _ _ ⟨qB x7, qB x3, qB x5, qF i0, qF i1, qF i2, qP, qF i4, qF i5, qF i6, qF i7, qF i8, qF i9, hL, hS, Br, Be⟩
   · refine qst fun g ac wc hn hk hr HI K' hK => ?_
     obtain ⟨x7, x3, x5, -, -, -, i3, -, -, -, -, -, -, hL, hS, Br, Be⟩ := HI.out
     simp [Region.binds] at hr
     have y3 := i3 (by simp [hr])
     clear i3
     obtain ⟨c0, f0, z0⟩ := blk_at Br
     go_simp
     obtain ⟨-, -, -, i0, i1, i2, i3, i4, i5, i6, i7, i8, i9, -⟩ := HI.out
     exact hK.out _ _ ⟨qB x7, qB x3, qB x5, qF i0, qF i1, qF i2, qF i3, qP, qF i5, qF i6, qF i7, qF i8, qF i9, hL, hS, Br, Be⟩
   · refine qst fun g ac wc hn hk hr HI K' hK => ?_
     obtain ⟨x7, x3, x5, -, -, -, -, -, -, -, -, -, -, hL, hS, Br, Be⟩ := HI.out
     simp [Region.binds] at hr
     obtain ⟨c0, f0, z0⟩ := blk_at Be
     go_simp
     obtain ⟨-, -, -, i0, i1, i2, i3, i4, i5, i6, i7, i8, i9, -⟩ := HI.out
     exact hK.out _ _ ⟨qB x7, qB x3, qB x5, qF i0, qF i1, qF i2, qF i3, qF i4, qP, qF i6, qF i7, qF i8, qF i9, hL, hS, Br, Be⟩
   · refine qst fun g ac wc hn hk hr HI K' hK => ?_
     obtain ⟨x7, x3, x5, -, -, -, -, i4, i5, -, -, -, -, hL, hS, Br, Be⟩ := HI.out
     simp [Region.binds] at hr
     have y4 := i4 (by simp [hr])
     have y5 := i5 (by simp [hr])
     clear i4 i5
     go_simp
     refine (w_errorUnits _ _ _ _ HE.out h1 h2 _).mono ?_
     rintro e w4 ⟨rfl, hL4⟩
     rw [HUE.out]
     obtain ⟨-, -, -, i0, i1, i2, i3, i4, i5, i6, i7, i8, i9, -⟩ := HI.out
     exact hK.out _ _ ⟨qB x7, qB x3, qB x5, qF i0, qF i1, qF i2, qF i3, qF i4, qF i5, qP, qF i7, qF i8, qF i9, hL.trans hL4, Nat.le_trans hS hL4.size, hL4.keep Br, hL4.keep Be⟩
   · refine qst fun g ac wc hn hk hr HI K' hK => ?_
     obtain ⟨x7, x3, x5, -, -, -, -, -, -, i6, -, -, -, hL, hS, Br, Be⟩ := HI.out
     simp [Region.binds] at hr
     have y6 := i6 (by simp [hr])
     clear i6
     have wD : IntKind.i64.wrap (UE + 2) = UE + 2 := wrap_same (by omega) (by omega)
     go_simp
     obtain ⟨-, -, -, i0, i1, i2, i3, i4, i5, i6, i7, i8, i9, -⟩ := HI.out
     exact hK.out _ _ ⟨qB x7, qB x3, qB x5, qF i0, qF i1, qF i2, qF i3, qF i4, qF i5, qF i6, qP, qF i8, qF i9, hL, hS, Br, Be⟩
   · refine qst fun g ac wc hn hk hr HI K' hK => ?_
     obtain ⟨x7, x3, x5, -, -, i2, -, -, -, -, i7, -, -, hL, hS, Br, Be⟩ := HI.out
     simp [Region.binds] at hr
     have y2 := i2 (by simp [hr])
     have y7 := i7 (by simp [hr])
     clear i2 i7
     have wD : IntKind.i64.wrap (CS * UE) = IntKind.i64.wrap (CS * UE) := rfl
     have wE : IntKind.i64.wrap ((CS + 1) * (UE + 2)) = (CS + 1) * (UE + 2) := wrap_same (by omega) (by omega)
     go_simp
     obtain ⟨-, -, -, i0, i1, i2, i3, i4, i5, i6, i7, i8, i9, -⟩ := HI.out
     exact hK.out _ _ ⟨qB x7, qB x3, qB x5, qF i0, qF i1, qF i2, qF i3, qF i4, qF i5, qF i6, qF i7, qP, qF i9, hL, hS, Br, Be⟩
   · refine qst fun g ac wc hn hk hr HI K' hK => ?_
     obtain ⟨x7, x3, x5, -, -, -, -, -, -, -, -, i8, -, hL, hS, Br, Be⟩ := HI.out
     simp [Region.binds] at hr
     have y8 := i8 (by simp [hr])
     clear i8
     go_simp
     obtain ⟨-, -, -, i0, i1, i2, i3, i4, i5, i6, i7, i8, i9, -⟩ := HI.out
     exact hK.out _ _ ⟨qB x7, qB x3, qB x5, qF i0, qF i1, qF i2, qF i3, qF i4, qF i5, qF i6, qF i7, qF i8, qP, hL, hS, Br, Be⟩
set_option maxHeartbeats 4000000 in
theorem w_l15Units (n : Int) (u v y : Value) (st sd : List Int) (c : List Trm) (ea eb ec : Int) (w : World) (h : IsNums w u st) (h' : IsNums w v sd) (hy : IsTrms w y c) (hC : hasI st 0 = true ∧ hasI sd 0 = true) (hc : isChain c = true) (he : isErs ⟨ea, eb, ec⟩ = true) (h1 : 1 ≤ n) (h2 : n ≤ 100000) :
 Calls Tryz.prog 96 #[.agg #[.int .i64 n, u, v], y, .agg #[.int .i64 ea, .int .i64 eb, .int .i64 ec]] w fun e w' => e = .returned (.int .i64 (unP n c ⟨ea, eb, ec⟩)) ∧ Later w w' := by
 have H := Lib.hid h
 have H' := Lib.hid h'
 have HY := Lib.hid hy
 obtain ⟨_, _, au, capu, rfl, _, _, _⟩ := h
 obtain ⟨_, _, av, capv, rfl, _, _, _⟩ := h'
 obtain ⟨_, _, ay, capy, rfl, _, _, _⟩ := hy
 have h17 := planL_len (r := ⟨n, st, sd⟩) hC hc
 obtain ⟨l, hl⟩ : ∃ x, planL c = x := ⟨_, rfl⟩
 have hcs := countSet_bd l
 obtain ⟨CS, hCS⟩ : ∃ x, countSet l = x := ⟨_, rfl⟩
 obtain ⟨UE, hUE⟩ : ∃ x, unE n ⟨ea, eb, ec⟩ = x := ⟨_, rfl⟩
 have hub := unE_bd he h1
 have hpb := unP_bd (c := c) he h1 h17
 have HF := Lib.hid (show unP n c ⟨ea, eb, ec⟩ = (CS + 1) * (UE + 2) from by rw [← hCS, ← hUE, ← hl]; rfl)
 rw [HF.out] at hpb
 rw [hCS] at hcs
 rw [hUE] at hub
 rw [hl] at h17
 obtain ⟨k1, k2⟩ := hcs
 obtain ⟨m1, m2⟩ := hub
 obtain ⟨p1, p2⟩ := hpb
 have HL0 := Lib.hid hl
 have HCS := Lib.hid hCS
 have HUE := Lib.hid hUE
 have HC := Lib.hid hC
 have HCh := Lib.hid hc
 have HE := Lib.hid he
 have HCM := Lib.hid (hl ▸ codeMoves_plan (r := ⟨n, st, sd⟩) hC hc)
 have HSet := Lib.hid (show countSettings l = CS from by unfold countSettings; rw [if_pos HCM.out, hCS])
 clear hC hc he hl hCS hUE
 go_enter Tryz.func96, Tryz.ntmps96
 go_wp2_with fail
 refine (w_l14Usual _ _ _ _ _ _ _ _ (H.out.later (((Later.refl _).alloc _).alloc _)) (H'.out.later (((Later.refl _).alloc _).alloc _)) (HY.out.later (((Later.refl _).alloc _).alloc _)) HC.out HCh.out).mono ?_
 rintro e w2 ⟨a2, l2, q2, rfl, hL, ho⟩
 have ho' : w2.ownsRow _ 88 4 (.slice a2 l2 q2) l.length (movs l) := HL0.out ▸ ho
 have HM := Lib.hid (reads_of_owns ho' (by omega))
 obtain ⟨a3, k3, e3⟩ := isSl_of ho'
 simp only [Value.slice.injEq] at e3
 obtain ⟨rfl, rfl, rfl⟩ := e3
 obtain ⟨K0, K1⟩ := kept2 hL
 have HK0 := Lib.hid K0
 have HK1 := Lib.hid K1
 have HL1 := Lib.hid ((((Later.refl w).alloc _).alloc _).trans hL)
 clear ho ho' hL K0 K1
 go_wp2_with fail
 refine (w_specCountSettings _ l _ HM.out).mono ?_
 rintro e w3 ⟨rfl, hL3⟩
 rw [HSet.out, HCM.out]
 have HL3 := Lib.hid (HL1.out.trans hL3)
 obtain ⟨c0, f0, z0⟩ := blk_at (hL3.keep HK0.out)
 obtain ⟨c1, f1, z1⟩ := blk_at (hL3.keep HK1.out)
 clear hL3
 go_wp2_with fail
 refine (w_l10Units _ _ _ _ HE.out h1 h2 _).mono ?_
 rintro e w4 ⟨rfl, hL4⟩
 rw [HUE.out]
 go_wp2
 go_ret
 exact ⟨by rw [HF.out]; rfl, HL3.out.trans hL4⟩
set_option maxHeartbeats 2000000 in
theorem w_implPlanUnits (n : Int) (u v y : Value) (st sd : List Int) (c : List Trm) (ea eb ec : Int) (w : World) (h : IsNums w u st) (h' : IsNums w v sd) (hy : IsTrms w y c) :
 Calls Tryz.prog 42 #[.agg #[.int .i64 n, u, v], y, .agg #[.int .i64 ea, .int .i64 eb, .int .i64 ec]] w fun e w' => e = .returned (.tuple #[.int .i64 (planUn ⟨n, st, sd⟩ c ⟨ea, eb, ec⟩), .int .i64 (codeBound ⟨n, st, sd⟩ c ⟨ea, eb, ec⟩)]) ∧ Later w w' := by
 have H := Lib.hid h
 have H' := Lib.hid h'
 have HY := Lib.hid hy
 obtain ⟨_, _, au, capu, rfl, _, _, _⟩ := h
 obtain ⟨_, _, av, capv, rfl, _, _, _⟩ := h'
 obtain ⟨_, _, ay, capy, rfl, _, _, _⟩ := hy
 obtain ⟨X, hX⟩ : ∃ x, codeBound ⟨n, st, sd⟩ c ⟨ea, eb, ec⟩ = x := ⟨_, rfl⟩
 have HX := Lib.hid hX
 by_cases h0 : X = 0
 rotate_left
 · have HF := Lib.hid (show planUn ⟨n, st, sd⟩ c ⟨ea, eb, ec⟩ = 0 from by unfold planUn; rw [if_neg (by omega)])
   have hb : (X != 0) = true := by simp [h0]
   rw [hX]
   clear hX h0
   go_enter Tryz.func42, Tryz.ntmps42
   go_wp2_with fail
   refine (w_checkBound _ _ _ _ _ _ _ _ _ _ _ (H.out.later (((Later.refl _).alloc _).alloc _)) (H'.out.later (((Later.refl _).alloc _).alloc _)) (HY.out.later (((Later.refl _).alloc _).alloc _))).mono ?_
   rintro e w1 ⟨rfl, hL⟩
   rw [HX.out]
   go_wp2
   go_ret2
   exact ⟨by rw [HF.out]; rfl, qla⟩
 subst h0
 have hq := codeBound_0 hX
 have hr := codePlan_0 hq.2
 have hln := isRule_len hr.1
 have HF := Lib.hid (show planUn ⟨n, st, sd⟩ c ⟨ea, eb, ec⟩ = unP n c ⟨ea, eb, ec⟩ from by unfold planUn; rw [if_pos hX])
 have HE := Lib.hid hq.1
 have HC := Lib.hid hr.2.2
 have HCh := Lib.hid hr.2.1
 simp only at hln
 obtain ⟨n1, n2⟩ := hln
 rw [hX]
 clear hX hq hr
 go_enter Tryz.func42, Tryz.ntmps42
 go_wp2_with fail
 refine (w_checkBound _ _ _ _ _ _ _ _ _ _ _ (H.out.later (((Later.refl _).alloc _).alloc _)) (H'.out.later (((Later.refl _).alloc _).alloc _)) (HY.out.later (((Later.refl _).alloc _).alloc _))).mono ?_
 rintro e w1 ⟨rfl, hL⟩
 rw [HX.out]
 have hL1 := (((Later.refl w).alloc _).alloc _).trans hL
 obtain ⟨⟨c0, f0, z0⟩, ⟨c1, f1, z1⟩⟩ := blk2 hL
 clear hL
 go_wp2_with fail
 refine (w_planUnits0 _ _ _ _ _ _ _ _ _ _ _ (H.out.later hL1) (H'.out.later hL1) (HY.out.later hL1) HC.out HCh.out HE.out n1 n2).mono ?_
 rintro e w2 ⟨rfl, hL2⟩
 go_wp2
 go_ret2
 exact ⟨by rw [HF.out]; rfl, qla⟩
end Go.Proofs.YtkoojngonldcbaaGreat
