/- DERIVED. Walks: the length that is needed. -/
import Derived.Test.YtkoojngonldcbaaGreatKGM61
namespace Go.Proofs.YtkoojngonldcbaaGreat
set_option linter.unusedVariables false
set_option linter.unusedSimpArgs false
open Go.RowKit
set_option maxRecDepth 100000
theorem codeLen_no {r : Rul} {c : List Trm} {e : Ers} {u X : Int} (h : codeBound r c e = X) (h0 : X ≠ 0) : codeLen r c e u = X ∧ lenNeed r c e u = 0 := by
 have h1 : codeLen r c e u = X := by unfold codeLen; rw [if_neg (by omega), h]
 exact ⟨h1, by unfold lenNeed; rw [if_neg (by omega)]⟩
theorem codeLen_2 {r : Rul} {c : List Trm} {e : Ers} {u : Int} (h : codeBound r c e = 0) (h0 : inR u 1 1048576 = false) : codeLen r c e u = 2 ∧ lenNeed r c e u = 0 := by
 have h1 : codeLen r c e u = 2 := by unfold codeLen; rw [if_pos h, if_neg (by simp [h0])]
 exact ⟨h1, by unfold lenNeed; rw [if_neg (by omega)]⟩
theorem codeLen_4 {r : Rul} {c : List Trm} {e : Ers} {u : Int} (h : codeBound r c e = 0) (h0 : inR u 1 1048576 = true) (hb : lenB c e u = false) : codeLen r c e u = 4 ∧ lenNeed r c e u = 0 := by
 have h1 : codeLen r c e u = 4 := by unfold codeLen; rw [if_pos h, if_pos h0, if_neg (by simp [hb])]
 exact ⟨h1, by unfold lenNeed; rw [if_neg (by omega)]⟩
theorem codeLen_0 {r : Rul} {c : List Trm} {e : Ers} {u : Int} (h : codeBound r c e = 0) (h0 : inR u 1 1048576 = true) (hb : lenB c e u = true) : codeLen r c e u = 0 ∧ lenNeed r c e u = lenV c e u := by
 have h1 : codeLen r c e u = 0 := by unfold codeLen; rw [if_pos h, if_pos h0, if_pos hb]
 exact ⟨h1, by unfold lenNeed; rw [if_pos h1]⟩
set_option maxHeartbeats 1000000 in
theorem w_lengthForV (ea eb ec U V : Int) (B : Bool) (h : isErs ⟨ea, eb, ec⟩ = true) (h1 : -10 ≤ U) (h2 : U ≤ 2000000) (hV : V = (if U < 1 then 1 else max 1 (cdiv (needE ⟨ea, eb, ec⟩) U))) (hB : B = (if U < 1 then U == 0 && needE ⟨ea, eb, ec⟩ == 0 else decide (V ≤ 100000))) (w : World) :
 Calls Tryz.prog 94 #[.int .i64 0, .agg #[.int .i64 ea, .int .i64 eb, .int .i64 ec], .int .i64 U] w fun e w' => e = .returned (.tuple #[.int .i64 V, .bool B]) ∧ Later w w' := by
 have ht := totE_bd h
 obtain ⟨T, hT⟩ : ∃ x, totE ⟨ea, eb, ec⟩ = x := ⟨_, rfl⟩
 rw [hT] at ht
 obtain ⟨t1, t2⟩ := ht
 have hN : needE ⟨ea, eb, ec⟩ = T * 1048576 := by rw [← hT]; rfl
 rw [hN] at hV hB
 have HT := Lib.hid hT
 have HE := Lib.hid h
 clear hT h hN
 by_cases hu : U < 1
 · rw [if_pos hu] at hV hB
   subst hV
   by_cases hz : U = 0
   · subst hz
     have HB := Lib.hid (show B = (T * 1048576 == 0) from by rw [hB]; rfl)
     clear hu hB
     go_enter Tryz.func94, Tryz.ntmps94
     go_wp2_with fail
     refine (w_totalError _ _ _ HE.out _).mono ?_
     rintro e w1 ⟨rfl, hL⟩
     rw [HT.out]
     go_wp2_with fail
     refine (w_decades0 _).mono ?_
     rintro e w2 ⟨rfl, hL2⟩
     go_wp2
     go_ret2
     exact ⟨by rw [HB.out]; rfl, qla⟩
   · have hz2 : (U == 0) = false := by simp [hz]
     have HB := Lib.hid (show B = false from by rw [hB, hz2]; rfl)
     clear hz hB
     go_enter Tryz.func94, Tryz.ntmps94
     go_wp2_with fail
     refine (w_totalError _ _ _ HE.out _).mono ?_
     rintro e w1 ⟨rfl, hL⟩
     rw [HT.out]
     go_wp2_with fail
     refine (w_decades0 _).mono ?_
     rintro e w2 ⟨rfl, hL2⟩
     go_wp2
     go_ret2
     exact ⟨by rw [HB.out]; rfl, qla⟩
 · rw [if_neg hu] at hV hB
   have hc1 := cdiv_nonneg (a := T * 1048576) (L := U) (by omega) (by omega)
   have hc2 := cdiv_self_le (a := T * 1048576) (L := U) (by omega) (by omega)
   obtain ⟨C, hC⟩ : ∃ x, cdiv (T * 1048576) U = x := ⟨_, rfl⟩
   rw [hC] at hc1 hc2 hV
   have HC := Lib.hid hC
   have HV := Lib.hid hV
   have HB := Lib.hid hB
   clear hC hV hB
   go_enter Tryz.func94, Tryz.ntmps94
   go_wp2_with fail
   refine (w_totalError _ _ _ HE.out _).mono ?_
   rintro e w1 ⟨rfl, hL⟩
   rw [HT.out]
   go_wp2_with fail
   refine (w_decades0 _).mono ?_
   rintro e w2 ⟨rfl, hL2⟩
   go_wp2_with fail
   refine (w_up _ _ (by omega) (by omega) (by omega) (by omega) _).mono ?_
   rintro e w3 ⟨rfl, rfl⟩
   rw [show cdiv (T * 1048576) U = C from HC.out]
   go_wp2
   all_goals
    go_ret2
    first
     | exact ⟨by rw [HB.out, HV.out, show max 1 C = C from by omega]; rfl, qla⟩
     | exact ⟨by rw [HB.out, HV.out, show max 1 C = 1 from by omega]; rfl, qla⟩
set_option maxHeartbeats 4000000 in
theorem w_implLengthNeeded (n : Int) (u v y : Value) (st sd : List Int) (c : List Trm) (ea eb ec un : Int) (w : World) (h : IsNums w u st) (h' : IsNums w v sd) (hy : IsTrms w y c) :
 Calls Tryz.prog 37 #[.agg #[.int .i64 n, u, v], y, .agg #[.int .i64 ea, .int .i64 eb, .int .i64 ec], .int .i64 un] w fun e w' => e = .returned (.tuple #[.int .i64 (lenNeed ⟨n, st, sd⟩ c ⟨ea, eb, ec⟩ un), .int .i64 (codeLen ⟨n, st, sd⟩ c ⟨ea, eb, ec⟩ un)]) ∧ Later w w' := by
 have H := Lib.hid h
 have H' := Lib.hid h'
 have HY := Lib.hid hy
 obtain ⟨_, _, au, capu, rfl, _, _, _⟩ := h
 obtain ⟨_, _, av, capv, rfl, _, _, _⟩ := h'
 obtain ⟨_, _, ay, capy, rfl, _, _, _⟩ := hy
 obtain ⟨X, hX⟩ : ∃ x, codeBound ⟨n, st, sd⟩ c ⟨ea, eb, ec⟩ = x := ⟨_, rfl⟩
 have HX := Lib.hid hX
 by_cases h0 : X = 0
 rotate_left
 · have HF := Lib.hid (codeLen_no (u := un) hX h0)
   have hb : (X != 0) = true := by simp [h0]
   have hb2 : (X == 0) = false := by simp [h0]
   clear hX h0
   go_enter Tryz.func37, Tryz.ntmps37
   go_wp2_with fail
   refine (w_checkBound _ _ _ _ _ _ _ _ _ _ _ (H.out.later (((Later.refl _).alloc _).alloc _)) (H'.out.later (((Later.refl _).alloc _).alloc _)) (HY.out.later (((Later.refl _).alloc _).alloc _))).mono ?_
   rintro e w1 ⟨rfl, hL⟩
   rw [HX.out]
   go_wp2
   go_ret2
   exact ⟨by rw [HF.out.1, HF.out.2]; rfl, qla⟩
 subst h0
 cases hr : inR un 1 1048576
 · have HF := Lib.hid (codeLen_2 hX hr)
   have HR := Lib.hid hr
   clear hX hr
   go_enter Tryz.func37, Tryz.ntmps37
   go_wp2_with fail
   refine (w_checkBound _ _ _ _ _ _ _ _ _ _ _ (H.out.later (((Later.refl _).alloc _).alloc _)) (H'.out.later (((Later.refl _).alloc _).alloc _)) (HY.out.later (((Later.refl _).alloc _).alloc _))).mono ?_
   rintro e w1 ⟨rfl, hL⟩
   rw [HX.out]
   go_wp2_with fail
   refine (w_within _ _ _ _).mono ?_
   rintro e w2 ⟨rfl, rfl⟩
   rw [HR.out]
   go_wp2
   go_ret2
   exact ⟨by rw [HF.out.1, HF.out.2]; rfl, qla⟩
 have hq := codeBound_0 hX
 have hp := codePlan_0 hq.2
 have hun := inR_true hr
 obtain ⟨u1, u2⟩ := hun
 have HE := Lib.hid hq.1
 have HC := Lib.hid hp.2.2
 have HCh := Lib.hid hp.2.1
 have HR := Lib.hid hr
 have HX0 := Lib.hid hX
 have h17 := planL_len (r := ⟨n, st, sd⟩) hp.2.2 hp.2.1
 obtain ⟨l, hl⟩ : ∃ x, planL c = x := ⟨_, rfl⟩
 have hcs := countSet_bd l
 rw [hl] at h17
 obtain ⟨CS, hCS⟩ : ∃ x, countSet l = x := ⟨_, rfl⟩
 rw [hCS] at hcs
 obtain ⟨k1, k2⟩ := hcs
 have hd0 : 0 ≤ un / (CS + 1) := Int.ediv_nonneg (by omega) (by omega)
 have hd1 : un / (CS + 1) ≤ un := Int.ediv_le_self _ (by omega)
 obtain ⟨Q, hQ⟩ : ∃ x, un / (CS + 1) = x := ⟨_, rfl⟩
 rw [hQ] at hd0 hd1
 have HQ := Lib.hid (show IntKind.i64.wrap (un.tdiv (CS + 1)) = Q from by rw [Int.tdiv_eq_ediv_of_nonneg (by omega), hQ]; exact wrap_same (by omega) (by omega))
 have HU := Lib.hid (show lenU c un = Q - 2 from by unfold lenU; rw [hl, hCS, hQ])
 have HL0 := Lib.hid hl
 have HCS := Lib.hid hCS
 clear hX hq hp hr hl hCS hQ
 go_enter Tryz.func37, Tryz.ntmps37
 go_wp2_with fail
 refine (w_checkBound _ _ _ _ _ _ _ _ _ _ _ (H.out.later (((Later.refl _).alloc _).alloc _)) (H'.out.later (((Later.refl _).alloc _).alloc _)) (HY.out.later (((Later.refl _).alloc _).alloc _))).mono ?_
 rintro e w1 ⟨rfl, hL⟩
 rw [HX.out]
 have hL1 := (((Later.refl w).alloc _).alloc _).trans hL
 obtain ⟨K0, K1⟩ := kept2 hL
 obtain ⟨c0, f0, z0⟩ := blk_at K0
 go_wp2_with fail
 refine (w_within _ _ _ _).mono ?_
 rintro e w2 ⟨rfl, rfl⟩
 rw [HR.out]
 go_wp2_with fail
 refine (w_usualPlan _ _ _ _ _ _ _ _ (H.out.later hL1) (H'.out.later hL1) (HY.out.later hL1) HC.out HCh.out).mono ?_
 rintro e w3 ⟨a2, l2, q2, rfl, hL3, ho⟩
 have ho' : w3.ownsRow _ 88 4 (.slice a2 l2 q2) l.length (movs l) := HL0.out ▸ ho
 have HM := Lib.hid (reads_of_owns ho' (by omega))
 obtain ⟨a3, k3, e3⟩ := isSl_of ho'
 simp only [Value.slice.injEq] at e3
 obtain ⟨rfl, rfl, rfl⟩ := e3
 have HK1 := Lib.hid (hL3.keep K1)
 have HL1 := Lib.hid (hL1.trans hL3)
 clear ho ho' hL hL1 hL3 K0 K1 c0 f0 z0
 go_wp2_with fail
 refine wp_name ?_
 intro z hz
 have hLz : Later w3 z := by rw [hz]; exact (Later.refl _).alloc _
 have hLzz : Later w z := HL1.out.trans hLz
 have Ke := hLz.keep HK1.out
 have HMz := Lib.hid (HM.out.later hLz)
 clear hz hLz
 obtain ⟨V0, hV0⟩ : ∃ x, x = (if Q - 2 < 1 then 1 else max 1 (cdiv (needE ⟨ea, eb, ec⟩) (Q - 2))) := ⟨_, rfl⟩
 obtain ⟨B0, hB0⟩ : ∃ x, x = (if Q - 2 < 1 then Q - 2 == 0 && needE ⟨ea, eb, ec⟩ == 0 else decide (V0 ≤ 100000)) := ⟨_, rfl⟩
 have HV0 := Lib.hid hV0
 have HB0 := Lib.hid hB0
 clear hV0 hB0
 refine region_slots 45 [32, 33, 34, 35, 36, 37, 38, 39, 31, 40, 41, 13, 14] (fun g ac wc => sl ac 11 = .slice a2 l.length q2 ∧
  sl ac 3 = .int .i64 un ∧
  sl ac 6 = .pointer (some ⟨w.heap.size + 1, 0, none⟩) ∧
  (g 0 = true → sl ac 32 = .agg #[.int .i64 ea, .int .i64 eb, .int .i64 ec]) ∧
  (g 1 = true → sl ac 33 = .int .i64 un) ∧
  (g 2 = true → sl ac 34 = .slice a2 l.length q2) ∧
  (g 3 = true → sl ac 35 = .int .i64 CS) ∧
  (g 4 = true → sl ac 36 = .int .i64 (CS + 1)) ∧
  (g 5 = true → sl ac 37 = .int .i64 Q) ∧
  (g 6 = true → sl ac 38 = .int .i64 (Q - 2)) ∧
  (g 7 = true → sl ac 39 = .tuple #[.int .i64 V0, .bool B0]) ∧
  (g 8 = true → sl ac 31 = .tuple #[.int .i64 V0, .bool B0]) ∧
  (g 9 = true → sl ac 40 = .int .i64 V0) ∧
  (g 10 = true → sl ac 41 = .bool B0) ∧
  (g 11 = true → sl ac 13 = .int .i64 V0) ∧
  (g 12 = true → sl ac 14 = .bool B0) ∧
  Later z wc ∧
  z.heap.size ≤ wc.heap.size ∧
  wc.heap[w.heap.size + 1]? = some (.cells #[.int .i64 ea, .int .i64 eb, .int .i64 ec] 60 (0, 0))) (by kernel_rfl) (by kernel_rfl) rfl (by kernel_rfl) ?_ ?_ ?_
 · exact ⟨rfl, rfl, rfl, nofun, nofun, nofun, nofun, nofun, nofun, nofun, nofun, nofun, nofun, nofun, nofun, nofun, (Later.refl z).drew, Nat.le_refl _, Ke⟩
 · intro g ac wu hg ha hI
   obtain ⟨x11, x3, x6, i0, i1, i2, i3, i4, i5, i6, i7, i8, i9, i10, i11, i12, hL, hS, Be⟩ := hI
   have a0 := i0 (hg 0 (by simp))
   have a1 := i1 (hg 1 (by simp))
   have a2 := i2 (hg 2 (by simp))
   have a3 := i3 (hg 3 (by simp))
   have a4 := i4 (hg 4 (by simp))
   have a5 := i5 (hg 5 (by simp))
   have a6 := i6 (hg 6 (by simp))
   have a7 := i7 (hg 7 (by simp))
   have a8 := i8 (hg 8 (by simp))
   have a9 := i9 (hg 9 (by simp))
   have a10 := i10 (hg 10 (by simp))
   have a11 := i11 (hg 11 (by simp))
   have a12 := i12 (hg 12 (by simp))
   simp only [putAll, a0, a1, a2, a3, a4, a5, a6, a7, a8, a9, a10, a11, a12] at ha
   simp only [Act.put, List.setIfInBounds_toArray, List.set_cons_succ, List.set_cons_zero] at ha
   rw [ha]
   clear x11 x3 x6 i0 i1 i2 i3 i4 i5 i6 i7 i8 i9 i10 i11 i12 a0 a1 a2 a3 a4 a5 a6 a7 a8 a9 a10 a11 a12 hg ha
   have HLw := Lib.hid (hLzz.trans hL)
   clear hL hS Be
   have HLv := Lib.hid (show lenV c ⟨ea, eb, ec⟩ un = V0 from by unfold lenV; rw [HU.out]; exact HV0.out.symm)
   have HLb := Lib.hid (show lenB c ⟨ea, eb, ec⟩ un = B0 from by unfold lenB; rw [HLv.out, HU.out]; exact HB0.out.symm)
   cases B0
   · have HF := Lib.hid (codeLen_4 HX0.out HR.out HLb.out)
     go_wp2
     go_ret2
     exact ⟨by rw [HF.out.1, HF.out.2]; rfl, HLw.out⟩
   · have HF := Lib.hid (codeLen_0 HX0.out HR.out HLb.out)
     go_wp2
     go_ret2
     exact ⟨by rw [HF.out.1, HF.out.2, HLv.out]; rfl, HLw.out⟩
 · refine .cons ?_ (.cons ?_ (.cons ?_ (.cons ?_ (.cons ?_ (.cons ?_ (.cons ?_ (.cons ?_ (.cons ?_ (.cons ?_ (.cons ?_ (.cons ?_ (.cons ?_ .nil))))))))))))
   · refine qst fun g ac wc hn hk hr HI K' hK => ?_
     obtain ⟨x11, x3, x6, -, -, -, -, -, -, -, -, -, -, -, -, -, hL, hS, Be⟩ := HI.out
     simp [Region.binds] at hr
     obtain ⟨c0, f0, z0⟩ := blk_at Be
     go_simp
     obtain ⟨-, -, -, i0, i1, i2, i3, i4, i5, i6, i7, i8, i9, i10, i11, i12, -⟩ := HI.out
     exact hK.out _ _ ⟨qB x11, qB x3, qB x6, qP, qF i1, qF i2, qF i3, qF i4, qF i5, qF i6, qF i7, qF i8, qF i9, qF i10, qF i11, qF i12, hL, hS, Be⟩
   · refine qst fun g ac wc hn hk hr HI K' hK => ?_
     obtain ⟨x11, x3, x6, -, -, -, -, -, -, -, -, -, -, -, -, -, hL, hS, Be⟩ := HI.out
     simp [Region.binds] at hr
     go_simp
     obtain ⟨-, -, -, i0, i1, i2, i3, i4, i5, i6, i7, i8, i9, i10, i11, i12, -⟩ := HI.out
     exact hK.out _ _ ⟨qB x11, qB x3, qB x6, qF i0, qP, qF i2, qF i3, qF i4, qF i5, qF i6, qF i7, qF i8, qF i9, qF i10, qF i11, qF i12, hL, hS, Be⟩
   · refine qst fun g ac wc hn hk hr HI K' hK => ?_
     obtain ⟨x11, x3, x6, -, -, -, -, -, -, -, -, -, -, -, -, -, hL, hS, Be⟩ := HI.out
     simp [Region.binds] at hr
     go_simp
     obtain ⟨-, -, -, i0, i1, i2, i3, i4, i5, i6, i7, i8, i9, i10, i11, i12, -⟩ := HI.out
     exact hK.out _ _ ⟨qB x11, qB x3, qB x6, qF i0, qF i1, qP, qF i3, qF i4, qF i5, qF i6, qF i7, qF i8, qF i9, qF i10, qF i11, qF i12, hL, hS, Be⟩
   · refine qst fun g ac wc hn hk hr HI K' hK => ?_
     obtain ⟨x11, x3, x6, -, -, i2, -, -, -, -, -, -, -, -, -, -, hL, hS, Be⟩ := HI.out
     simp [Region.binds] at hr
     have y2 := i2 (by simp [hr])
     clear i2
     go_simp
     refine (w_countSettings0 _ l _ (HMz.out.later hL)).mono ?_
     rintro e w4 ⟨rfl, hL4⟩
     rw [HCS.out]
     obtain ⟨-, -, -, i0, i1, i2, i3, i4, i5, i6, i7, i8, i9, i10, i11, i12, -⟩ := HI.out
     exact hK.out _ _ ⟨qB x11, qB x3, qB x6, qF i0, qF i1, qF i2, qP, qF i4, qF i5, qF i6, qF i7, qF i8, qF i9, qF i10, qF i11, qF i12, hL.trans hL4, Nat.le_trans hS hL4.size, hL4.keep Be⟩
   · refine qst fun g ac wc hn hk hr HI K' hK => ?_
     obtain ⟨x11, x3, x6, -, -, -, i3, -, -, -, -, -, -, -, -, -, hL, hS, Be⟩ := HI.out
     simp [Region.binds] at hr
     have y3 := i3 (by simp [hr])
     clear i3
     have wD : IntKind.i64.wrap (CS + 1) = CS + 1 := wrap_same (by omega) (by omega)
     go_simp
     obtain ⟨-, -, -, i0, i1, i2, i3, i4, i5, i6, i7, i8, i9, i10, i11, i12, -⟩ := HI.out
     exact hK.out _ _ ⟨qB x11, qB x3, qB x6, qF i0, qF i1, qF i2, qF i3, qP, qF i5, qF i6, qF i7, qF i8, qF i9, qF i10, qF i11, qF i12, hL, hS, Be⟩
   · refine qst fun g ac wc hn hk hr HI K' hK => ?_
     obtain ⟨x11, x3, x6, -, i1, -, -, i4, -, -, -, -, -, -, -, -, hL, hS, Be⟩ := HI.out
     simp [Region.binds] at hr
     have y1 := i1 (by simp [hr])
     have y4 := i4 (by simp [hr])
     clear i1 i4
     go_simp
     rw [if_neg (show ¬ (CS + 1 = 0) by omega), HQ.out]
     obtain ⟨-, -, -, i0, i1, i2, i3, i4, i5, i6, i7, i8, i9, i10, i11, i12, -⟩ := HI.out
     exact hK.out _ _ ⟨qB x11, qB x3, qB x6, qF i0, qF i1, qF i2, qF i3, qF i4, qP, qF i6, qF i7, qF i8, qF i9, qF i10, qF i11, qF i12, hL, hS, Be⟩
   · refine qst fun g ac wc hn hk hr HI K' hK => ?_
     obtain ⟨x11, x3, x6, -, -, -, -, -, i5, -, -, -, -, -, -, -, hL, hS, Be⟩ := HI.out
     simp [Region.binds] at hr
     have y5 := i5 (by simp [hr])
     clear i5
     have wD : IntKind.i64.wrap (Q - 2) = Q - 2 := wrap_same (by omega) (by omega)
     go_simp
     obtain ⟨-, -, -, i0, i1, i2, i3, i4, i5, i6, i7, i8, i9, i10, i11, i12, -⟩ := HI.out
     exact hK.out _ _ ⟨qB x11, qB x3, qB x6, qF i0, qF i1, qF i2, qF i3, qF i4, qF i5, qP, qF i7, qF i8, qF i9, qF i10, qF i11, qF i12, hL, hS, Be⟩
   · refine qst fun g ac wc hn hk hr HI K' hK => ?_
     obtain ⟨x11, x3, x6, i0, -, -, -, -, -, i6, -, -, -, -, -, -, hL, hS, Be⟩ := HI.out
     simp [Region.binds] at hr
     have y0 := i0 (by simp [hr])
     have y6 := i6 (by simp [hr])
     clear i0 i6
     go_simp
     refine (w_lengthForV _ _ _ _ _ _ HE.out (by omega) (by omega) HV0.out HB0.out _).mono ?_
     rintro e w4 ⟨rfl, hL4⟩
     obtain ⟨-, -, -, i0, i1, i2, i3, i4, i5, i6, i7, i8, i9, i10, i11, i12, -⟩ := HI.out
     exact hK.out _ _ ⟨qB x11, qB x3, qB x6, qF i0, qF i1, qF i2, qF i3, qF i4, qF i5, qF i6, qP, qF i8, qF i9, qF i10, qF i11, qF i12, hL.trans hL4, Nat.le_trans hS hL4.size, hL4.keep Be⟩
   · refine qst fun g ac wc hn hk hr HI K' hK => ?_
     obtain ⟨x11, x3, x6, -, -, -, -, -, -, -, i7, -, -, -, -, -, hL, hS, Be⟩ := HI.out
     simp [Region.binds] at hr
     have y7 := i7 (by simp [hr])
     clear i7
     go_simp
     obtain ⟨-, -, -, i0, i1, i2, i3, i4, i5, i6, i7, i8, i9, i10, i11, i12, -⟩ := HI.out
     exact hK.out _ _ ⟨qB x11, qB x3, qB x6, qF i0, qF i1, qF i2, qF i3, qF i4, qF i5, qF i6, qF i7, qP, qF i9, qF i10, qF i11, qF i12, hL, hS, Be⟩
   · refine qst fun g ac wc hn hk hr HI K' hK => ?_
     obtain ⟨x11, x3, x6, -, -, -, -, -, -, -, -, i8, -, -, -, -, hL, hS, Be⟩ := HI.out
     simp [Region.binds] at hr
     have y8 := i8 (by simp [hr])
     clear i8
     go_simp
     obtain ⟨-, -, -, i0, i1, i2, i3, i4, i5, i6, i7, i8, i9, i10, i11, i12, -⟩ := HI.out
     exact hK.out _ _ ⟨qB x11, qB x3, qB x6, qF i0, qF i1, qF i2, qF i3, qF i4, qF i5, qF i6, qF i7, qF i8, qP, qF i10, qF i11, qF i12, hL, hS, Be⟩
   · refine qst fun g ac wc hn hk hr HI K' hK => ?_
     obtain ⟨x11, x3, x6, -, -, -, -, -, -, -, -, i8, -, -, -, -, hL, hS, Be⟩ := HI.out
     simp [Region.binds] at hr
     have y8 := i8 (by simp [hr])
     clear i8
     go_simp
     obtain ⟨-, -, -, i0, i1, i2, i3, i4, i5, i6, i7, i8, i9, i10, i11, i12, -⟩ := HI.out
     exact hK.out _ _ ⟨qB x11, qB x3, qB x6, qF i0, qF i1, qF i2, qF i3, qF i4, qF i5, qF i6, qF i7, qF i8, qF i9, qP, qF i11, qF i12, hL, hS, Be⟩
   · refine qst fun g ac wc hn hk hr HI K' hK => ?_
     obtain ⟨x11, x3, x6, -, -, -, -, -, -, -, -, -, i9, -, -, -, hL, hS, Be⟩ := HI.out
     simp [Region.binds] at hr
     have y9 := i9 (by simp [hr])
     clear i9
     go_simp
     obtain ⟨-, -, -, i0, i1, i2, i3, i4, i5, i6, i7, i8, i9, i10, i11, i12, -⟩ := HI.out
     exact hK.out _ _ ⟨qB x11, qB x3, qB x6, qF i0, qF i1, qF i2, qF i3, qF i4, qF i5, qF i6, qF i7, qF i8, qF i9, qF i10, qP, qF i12, hL, hS, Be⟩
   · refine qst fun g ac wc hn hk hr HI K' hK => ?_
     obtain ⟨x11, x3, x6, -, -, -, -, -, -, -, -, -, -, i10, -, -, hL, hS, Be⟩ := HI.out
     simp [Region.binds] at hr
     have y10 := i10 (by simp [hr])
     clear i10
     go_simp
     obtain ⟨-, -, -, i0, i1, i2, i3, i4, i5, i6, i7, i8, i9, i10, i11, i12, -⟩ := HI.out
     exact hK.out _ _ ⟨qB x11, qB x3, qB x6, qF i0, qF i1, qF i2, qF i3, qF i4, qF i5, qF i6, qF i7, qF i8, qF i9, qF i10, qF i11, qP, hL, hS, Be⟩
set_option maxHeartbeats 4000000 in
theorem w_specLengthNeeded (n : Int) (u v y : Value) (st sd : List Int) (c : List Trm) (ea eb ec un : Int) (w : World) (h : IsNums w u st) (h' : IsNums w v sd) (hy : IsTrms w y c) :
 Calls Tryz.prog 38 #[.agg #[.int .i64 n, u, v], y, .agg #[.int .i64 ea, .int .i64 eb, .int .i64 ec], .int .i64 un] w fun e w' => e = .returned (.tuple #[.int .i64 (lenNeed ⟨n, st, sd⟩ c ⟨ea, eb, ec⟩ un), .int .i64 (codeLen ⟨n, st, sd⟩ c ⟨ea, eb, ec⟩ un)]) ∧ Later w w' := by
 have H := Lib.hid h
 have H' := Lib.hid h'
 have HY := Lib.hid hy
 obtain ⟨_, _, au, capu, rfl, _, _, _⟩ := h
 obtain ⟨_, _, av, capv, rfl, _, _, _⟩ := h'
 obtain ⟨_, _, ay, capy, rfl, _, _, _⟩ := hy
 obtain ⟨X, hX⟩ : ∃ x, codeBound ⟨n, st, sd⟩ c ⟨ea, eb, ec⟩ = x := ⟨_, rfl⟩
 have HX := Lib.hid hX
 by_cases h0 : X = 0
 rotate_left
 · have HF := Lib.hid (codeLen_no (u := un) hX h0)
   have hb : (X != 0) = true := by simp [h0]
   have hb2 : (X == 0) = false := by simp [h0]
   clear hX h0
   go_enter Tryz.func38, Tryz.ntmps38
   go_wp2_with fail
   refine (w_l15Code _ _ _ _ _ _ _ _ _ _ _ (H.out.later (((Later.refl _).alloc _).alloc _)) (H'.out.later (((Later.refl _).alloc _).alloc _)) (HY.out.later (((Later.refl _).alloc _).alloc _))).mono ?_
   rintro e w1 ⟨rfl, hL⟩
   rw [HX.out]
   go_wp2
   go_ret2
   exact ⟨by rw [HF.out.1, HF.out.2]; rfl, qla⟩
 subst h0
 cases hr : inR un 1 1048576
 · have HF := Lib.hid (codeLen_2 hX hr)
   have HR := Lib.hid hr
   clear hX hr
   go_enter Tryz.func38, Tryz.ntmps38
   go_wp2_with fail
   refine (w_l15Code _ _ _ _ _ _ _ _ _ _ _ (H.out.later (((Later.refl _).alloc _).alloc _)) (H'.out.later (((Later.refl _).alloc _).alloc _)) (HY.out.later (((Later.refl _).alloc _).alloc _))).mono ?_
   rintro e w1 ⟨rfl, hL⟩
   rw [HX.out]
   go_wp2_with fail
   refine (w_l01In _ _ _ _).mono ?_
   rintro e w2 ⟨rfl, rfl⟩
   rw [HR.out]
   go_wp2
   go_ret2
   exact ⟨by rw [HF.out.1, HF.out.2]; rfl, qla⟩
 have hq := codeBound_0 hX
 have hp := codePlan_0 hq.2
 have hun := inR_true hr
 obtain ⟨u1, u2⟩ := hun
 have HE := Lib.hid hq.1
 have HC := Lib.hid hp.2.2
 have HCh := Lib.hid hp.2.1
 have HR := Lib.hid hr
 have HX0 := Lib.hid hX
 clear hX hq hp hr
 have hln : 1 ≤ n ∧ n ≤ 100000 := isRule_len (codePlan_0 (codeBound_0 HX0.out).2).1
 obtain ⟨n1, n2⟩ := hln
 go_enter Tryz.func38, Tryz.ntmps38
 go_wp2_with fail
 refine (w_l15Code _ _ _ _ _ _ _ _ _ _ _ (H.out.later (((Later.refl _).alloc _).alloc _)) (H'.out.later (((Later.refl _).alloc _).alloc _)) (HY.out.later (((Later.refl _).alloc _).alloc _))).mono ?_
 rintro e w1 ⟨rfl, hL⟩
 rw [HX.out]
 have HL1 := Lib.hid ((((Later.refl w).alloc _).alloc _).trans hL)
 have HK0 := Lib.hid (kept2 hL).1
 have HK1 := Lib.hid (kept2 hL).2
 clear hL
 go_wp2_with fail
 refine (w_l01In _ _ _ _).mono ?_
 rintro e w2 ⟨rfl, rfl⟩
 rw [HR.out]
 go_wp2
 go_loopw [11, 12] (fun a b wr => ∃ L T : Int, a = .int .i64 L ∧ b = .int .i64 T ∧ 0 ≤ L ∧ L < T ∧ T ≤ 100001 ∧ Later w wr ∧ wr.heap[w.heap.size]? = some (.cells #[.int .i64 n, .slice au st.length capu, .slice av sd.length capv] 26 (0, 0)) ∧ wr.heap[w.heap.size + 1]? = some (.cells #[.int .i64 ea, .int .i64 eb, .int .i64 ec] 60 (0, 0)) ∧ Hid ((L = 0 ∨ un < unP L c ⟨ea, eb, ec⟩) ∧ (T = 100001 ∨ unP T c ⟨ea, eb, ec⟩ ≤ un))) (fun a b _ => (intOf b - intOf a).toNat)
 case atStart => exact ⟨0, 100001, rfl, rfl, by omega, by omega, by omega, HL1.out, HK0.out, HK1.out, ⟨.inl rfl, .inl rfl⟩⟩
 case round =>
  obtain ⟨L, T, rfl, rfl, l1, l2, l3, hL, hK0, hK1, HD⟩ := hrel
  have HK0r := Lib.hid hK0
  have HK1r := Lib.hid hK1
  by_cases hgt : 1 < T - L
  · have hm1 : L < (L + T) / 2 := by omega
    have hm2 : (L + T) / 2 < T := by omega
    obtain ⟨m, hm⟩ : ∃ m, (L + T) / 2 = m := ⟨_, rfl⟩
    rw [hm] at hm1 hm2
    have HM := Lib.hid hm
    have HMe := Lib.hid (show (Int.tdiv (L + T) 2) = m from by rw [Int.tdiv_eq_ediv_of_nonneg (by omega)]; exact hm)
    obtain ⟨c0, f0, z0⟩ := blk_at hK0
    obtain ⟨c1, f1, z1⟩ := blk_at hK1
    have hub := unP_bd (c := c) (len := m) HE.out (by omega) (planL_len (r := ⟨n, st, sd⟩) HC.out HCh.out)
    obtain ⟨UP, hUP⟩ : ∃ x, unP m c ⟨ea, eb, ec⟩ = x := ⟨_, rfl⟩
    rw [hUP] at hub
    obtain ⟨b1, b2⟩ := hub
    have HUP := Lib.hid hUP
    clear hm hK0 hK1 hUP
    by_cases hp : UP ≤ un
    all_goals
     have HP := Lib.hid hp
     go_wp2_with fail
     rw [HM.out]
     refine (w_l15Units _ _ _ _ _ _ _ _ _ _ _ (H.out.later hL) (H'.out.later hL) (HY.out.later hL) HC.out HCh.out HE.out (by omega) (by omega)).mono ?_
     rintro e w3 ⟨rfl, hL3⟩
     rw [HUP.out]
     have HK0n := Lib.hid (hL3.keep HK0r.out)
     have HK1n := Lib.hid (hL3.keep HK1r.out)
     clear c0 f0 z0 c1 f1 z1
     go_wp2
     go_roundw
     case rel => first | exact ⟨m, T, by first | rfl | rw [HM.out], rfl, by omega, by omega, by omega, hL.trans hL3, HK0n.out, HK1n.out, ⟨.inr (by rw [HUP.out]; have := HP.out; omega), HD.out.2⟩⟩ | exact ⟨L, m, rfl, by first | rfl | rw [HM.out], by omega, by omega, by omega, hL.trans hL3, HK0n.out, HK1n.out, ⟨HD.out.1, .inr (by rw [HUP.out]; have := HP.out; omega)⟩⟩
     case measure => simp [intOf]; omega
  · have hT : L = T - 1 := by omega
    subst hT
    have hff := len_found (c := c) (e := ⟨ea, eb, ec⟩) (u := un) HE.out (by omega) l3 HD.out.2 (HD.out.1.imp_right Int.not_le.2)
    clear hK0 hK1
    rcases hff with ⟨hb, hv, h5⟩ | ⟨hb, hv⟩
    · have HF := Lib.hid (codeLen_0 HX0.out HR.out hb)
      have HV := Lib.hid hv
      clear hb hv
      go_wp2
      go_ret2
      exact ⟨by rw [HF.out.1, HF.out.2, ← HV.out]; rfl, qla⟩
    · have HF := Lib.hid (codeLen_4 HX0.out HR.out hb)
      clear hb
      subst hv
      go_wp2
      go_ret2
      exact ⟨by rw [HF.out.1, HF.out.2]; rfl, qla⟩
end Go.Proofs.YtkoojngonldcbaaGreat
