/- DERIVED. Walks: whether moves are a plan for a chain. -/
import Derived.Test.YtkoojngonldcbaaGreatKPM50
import Derived.Test.YtkoojngonldcbaaGreatKPM40
namespace Go.Proofs.YtkoojngonldcbaaGreat
set_option linter.unusedVariables false
set_option linter.unusedSimpArgs false
open Go.RowKit
set_option maxRecDepth 100000
theorem lastSt_stg : ∀ (s : Stg) (l : List Stg), isStg s = true → (∀ x ∈ l, isStg x = true) → isStg (lastSt s l) = true
 | s, [], h, _ => h
 | s, x :: l, _, h => lastSt_stg x l (h x (by simp)) (fun y hy => h y (List.mem_cons_of_mem _ hy))
theorem runMv_stg (r : Rul) (s : Stg) (l : List Mov) : isStg (runMv r s l) = true := by
 unfold runMv
 split
 · rename_i h
   split
   · exact lastSt_stg _ _ (codeRun_0 h).2.1 (runSt_stg r s l)
   · decide
 · decide
theorem isPlan_no {r : Rul} {c : List Trm} {l : List Mov} {k : Int} (h : codePlan r c = k) (hk : k ≠ 0) : isPlan r c l = false := by
 unfold isPlan; rw [if_neg (by omega)]
theorem isPlan_run {r : Rul} {c : List Trm} {l : List Mov} (h : codePlan r c = 0) (hk : runC r ⟨0, 0⟩ l ≠ 0) : isPlan r c l = false := by
 unfold isPlan; rw [if_pos h, if_neg hk]
theorem isPlan_yes {r : Rul} {c : List Trm} {l : List Mov} (h : codePlan r c = 0) (hk : runC r ⟨0, 0⟩ l = 0) : isPlan r c l = (((runMv r ⟨0, 0⟩ l).cu - sumPts c) % 1048576 == 0) := by
 unfold isPlan; rw [if_pos h, if_pos hk]
set_option maxHeartbeats 2000000 in
theorem w_implIsPlanFor (n : Int) (u v y z : Value) (st sl : List Int) (c : List Trm) (l : List Mov) (w : World) (h : IsNums w u st) (h' : IsNums w v sl) (hc : IsTrms w y c) (hl : IsMovs w z l) :
 Calls Tryz.prog 16 #[.agg #[.int .i64 n, u, v], y, z] w fun e w' => e = .returned (.tuple #[.bool (isPlan ⟨n, st, sl⟩ c l), .int .i64 (codePlan ⟨n, st, sl⟩ c)]) ∧ Later w w' := by
 have H := Lib.hid h
 have H' := Lib.hid h'
 have HY := Lib.hid hc
 have HZ := Lib.hid hl
 obtain ⟨_, _, au, capu, rfl, _, _, _⟩ := h
 obtain ⟨_, _, av, capv, rfl, _, _, _⟩ := h'
 obtain ⟨_, _, az, capz, rfl, _, _, _⟩ := hl
 obtain ⟨X, hX⟩ : ∃ x, codePlan ⟨n, st, sl⟩ c = x := ⟨_, rfl⟩
 by_cases h0 : X = 0
 rotate_left
 · have HF := Lib.hid (isPlan_no (l := l) hX h0)
   have HX := Lib.hid hX
   have hb : (X != 0) = true := by simp [h0]
   obtain ⟨_, _, ay, capy, rfl, _, _, _⟩ := hc
   rw [hX]
   clear hX h0
   go_enter Tryz.func16, Tryz.ntmps16
   go_wp2_with fail
   refine (w_checkPlan _ _ _ _ _ _ _ _ (H.out.later ((Later.refl _).alloc _)) (H'.out.later ((Later.refl _).alloc _)) (HY.out.later ((Later.refl _).alloc _))).mono ?_
   rintro e w1 ⟨rfl, hL⟩
   rw [HX.out]
   go_wp2
   go_ret2
   exact ⟨by rw [HF.out]; rfl, by (repeat (with_reducible first | exact Later.refl _ | refine qLa ?_ | refine qLd ?_ | refine qLe ?_ | refine qLs ?_ | refine qLt ?_ (by assumption)))⟩
 subst h0
 have hCh := (codePlan_0 hX).2.1
 have HX := Lib.hid hX
 obtain ⟨RC, hRC⟩ : ∃ x, runC ⟨n, st, sl⟩ ⟨0, 0⟩ l = x := ⟨_, rfl⟩
 have HRC := Lib.hid hRC
 by_cases h0 : RC = 0
 rotate_left
 · have HF := Lib.hid (isPlan_run (l := l) hX (by rw [hRC]; exact h0))
   have hb : (RC != 0) = true := by simp [h0]
   obtain ⟨_, _, ay, capy, rfl, _, _, _⟩ := hc
   rw [hX]
   clear hX h0 hRC
   go_enter Tryz.func16, Tryz.ntmps16
   go_wp2_with fail
   refine (w_checkPlan _ _ _ _ _ _ _ _ (H.out.later ((Later.refl _).alloc _)) (H'.out.later ((Later.refl _).alloc _)) (HY.out.later ((Later.refl _).alloc _))).mono ?_
   rintro e w1 ⟨rfl, hL⟩
   rw [HX.out]
   obtain ⟨c0, f0, z0⟩ := blk1 hL
   go_wp2_with fail
   refine (w_implRunMoves _ _ _ _ _ _ _ _ _ _ ((H.out.later ((Later.refl _).alloc _)).later hL) ((H'.out.later ((Later.refl _).alloc _)).later hL) ((HZ.out.later ((Later.refl _).alloc _)).later hL)).mono ?_
   rintro e w2 ⟨rfl, hL2⟩
   rw [HRC.out]
   go_wp2
   go_ret2
   exact ⟨by rw [HF.out]; rfl, by (repeat (with_reducible first | exact Later.refl _ | refine qLa ?_ | refine qLd ?_ | refine qLe ?_ | refine qLs ?_ | refine qLt ?_ (by assumption)))⟩
 subst h0
 have HF := Lib.hid (isPlan_yes (l := l) hX hRC)
 have hsb := isStg_bd (runMv_stg ⟨n, st, sl⟩ ⟨0, 0⟩ l)
 obtain ⟨S, hS⟩ : ∃ x, runMv ⟨n, st, sl⟩ ⟨0, 0⟩ l = x := ⟨_, rfl⟩
 have HS := Lib.hid hS
 rw [hS] at hsb
 obtain ⟨-, -, s3, s4⟩ := hsb
 have HC := Lib.hid hCh
 have h6 := (isChain_true hCh).2.1
 rw [hX]
 clear hX hRC hS hCh
 obtain ⟨hxl1, hn1, a1, cap1, rfl, hcap1, hmax1, hrow1⟩ := hc
 have HR1 := Lib.hid hrow1
 clear hrow1 hxl1
 go_enter Tryz.func16, Tryz.ntmps16
 go_wp2_with fail
 refine (w_checkPlan _ _ _ _ _ _ _ _ (H.out.later ((Later.refl _).alloc _)) (H'.out.later ((Later.refl _).alloc _)) (HY.out.later ((Later.refl _).alloc _))).mono ?_
 rintro e w1 ⟨rfl, hL⟩
 rw [HX.out]
 obtain ⟨c0, f0, z0⟩ := blk1 hL
 go_wp2_with fail
 refine (w_implRunMoves _ _ _ _ _ _ _ _ _ _ ((H.out.later ((Later.refl _).alloc _)).later hL) ((H'.out.later ((Later.refl _).alloc _)).later hL) ((HZ.out.later ((Later.refl _).alloc _)).later hL)).mono ?_
 rintro e w2 ⟨rfl, hL2⟩
 rw [HRC.out, HS.out]
 have HL2 := Lib.hid (show Later w w2 from by (repeat (with_reducible first | exact Later.refl _ | refine qLa ?_ | refine qLd ?_ | refine qLe ?_ | refine qLs ?_ | refine qLt ?_ (by assumption))))
 clear hL hL2 c0 f0 z0
 go_wp2
 go_loopw [11, 31] (fun r i wr => ∃ k : Nat, k ≤ c.length ∧ i = .int .i64 k ∧ Later w wr ∧ wr.heap[w2.heap.size]? = some (.cells #[.int .i64 S.sh, .int .i64 S.cu] 78 (0, 0)) ∧ ∃ P : Int, r = .int .i64 P ∧ Hid (P = sumPts (c.take k)) ∧ -1048576 * (k : Int) ≤ P ∧ P ≤ 1048576 * k) (fun _ i _ => c.length - (intOf i).toNat)
 case atStart => exact ⟨0, Nat.zero_le _, rfl, HL2.out.alloc _, heap_alloc_new _ _, 0, rfl, by simp [Hid, sumPts], by simp, by simp⟩
 case round =>
  obtain ⟨k, hk, rfl, hL, hB, P, rfl, HP, hlo, hhi⟩ := hrel
  have HB := Lib.hid hB
  clear hB
  by_cases hlt : k < c.length
  · obtain ⟨b1, off1, rfl, hr1⟩ := HR1.out (by omega)
    obtain ⟨t, ht1⟩ := get_ex (l := c) (k := k) (by omega)
    have HT1 := Lib.hid ht1
    obtain ⟨c1_0, c1_1, c1_2⟩ := (hr1.later hL).trm ht1
    clear ht1
    obtain ⟨t1, t2, t3, t4⟩ := isChain_ok HC.out HT1.out
    obtain ⟨p1, p2⟩ := pt0_bd t1 t2
    obtain ⟨PT, hPT⟩ : ∃ x, ptF 0 t.f = x := ⟨_, rfl⟩
    rw [hPT] at p1 p2
    have HPT := Lib.hid hPT
    clear hPT
    cases hq : t.dv
    all_goals
     rw [hq] at c1_2
     have HQ := Lib.hid hq
     clear hq
     go_wp2_with fail
     refine (w_implPoint _ _ _ (by decide) (by decide) t1 t2 (by omega) (by omega) _).mono ?_
     rintro e w4 ⟨rfl, hL1⟩
     rw [show ptF 0 ⟨t.f.d, t.f.t⟩ = PT from HPT.out]
     have HB4 := Lib.hid (hL1.keep (heap_alloc_old _ _ HB.out))
     go_wp2
     go_roundw
     case rel => first | exact ⟨k + 1, by omega, by go_num, by (repeat (with_reducible first | exact Later.refl _ | refine qLa ?_ | refine qLd ?_ | refine qLe ?_ | refine qLs ?_ | refine qLt ?_ (by assumption))), HB4.out, P + PT, rfl, by rw [Hid, take_snoc' HT1.out, sumPts_snoc, ptStep_n HQ.out, ← HP.out, HPT.out], by omega, by omega⟩ | exact ⟨k + 1, by omega, by go_num, by (repeat (with_reducible first | exact Later.refl _ | refine qLa ?_ | refine qLd ?_ | refine qLe ?_ | refine qLs ?_ | refine qLt ?_ (by assumption))), HB4.out, P - PT, rfl, by rw [Hid, take_snoc' HT1.out, sumPts_snoc, ptStep_y HQ.out, ← HP.out, HPT.out], by omega, by omega⟩
     case measure => simp [intOf]; omega
  · have hf : P = sumPts c := by
     have := HP.out
     rwa [take_eq_all (by omega)] at this
    have HG := Lib.hid hf
    clear hf
    obtain ⟨c9, f9, z9⟩ := blk_at HB.out
    go_wp2_with fail
    refine (w_moduloD _ (by omega) (by omega) _).mono ?_
    rintro e w4 ⟨rfl, rfl⟩
    go_wp2
    go_ret2
    exact ⟨by rw [HF.out, HS.out, ← HG.out]; rfl, by (repeat (with_reducible first | exact Later.refl _ | refine qLa ?_ | refine qLd ?_ | refine qLe ?_ | refine qLs ?_ | refine qLt ?_ (by assumption)))⟩
set_option maxHeartbeats 2000000 in
theorem w_specIsPlanFor (n : Int) (u v y z : Value) (st sd : List Int) (c : List Trm) (l : List Mov) (w : World) (h : IsNums w u st) (h' : IsNums w v sd) (hc : IsTrms w y c) (hl : IsMovs w z l) :
 Calls Tryz.prog 17 #[.agg #[.int .i64 n, u, v], y, z] w fun e w' => e = .returned (.tuple #[.bool (isPlan ⟨n, st, sd⟩ c l), .int .i64 (codePlan ⟨n, st, sd⟩ c)]) ∧ Later w w' := by
 have H := Lib.hid h
 have H' := Lib.hid h'
 have HY := Lib.hid hc
 have HZ := Lib.hid hl
 obtain ⟨_, _, au, capu, rfl, _, _, _⟩ := h
 obtain ⟨_, _, av, capv, rfl, _, _, _⟩ := h'
 obtain ⟨_, _, ay, capy, rfl, _, _, _⟩ := hc
 obtain ⟨_, _, az, capz, rfl, _, _, _⟩ := hl
 obtain ⟨X, hX⟩ : ∃ x, codePlan ⟨n, st, sd⟩ c = x := ⟨_, rfl⟩
 by_cases h0 : X = 0
 rotate_left
 · have HF := Lib.hid (isPlan_no (l := l) hX h0)
   have HX := Lib.hid hX
   have hb : (X != 0) = true := by simp [h0]
   rw [hX]
   clear hX h0
   go_enter Tryz.func17, Tryz.ntmps17
   go_wp2_with fail
   refine (w_l14Code _ _ _ _ _ _ _ _ (H.out.later ((Later.refl _).alloc _)) (H'.out.later ((Later.refl _).alloc _)) (HY.out.later ((Later.refl _).alloc _))).mono ?_
   rintro e w1 ⟨rfl, hL⟩
   rw [HX.out]
   go_wp2
   go_ret2
   exact ⟨by rw [HF.out]; rfl, by (repeat (with_reducible first | exact Later.refl _ | refine qLa ?_ | refine qLd ?_ | refine qLe ?_ | refine qLs ?_ | refine qLt ?_ (by assumption)))⟩
 subst h0
 have hCh := (codePlan_0 hX).2.1
 have HCh := Lib.hid hCh
 have hRu := (codePlan_0 hX).1
 have HX := Lib.hid hX
 cases hA : areMoves l
 · have hrc : runC ⟨n, st, sd⟩ ⟨0, 0⟩ l ≠ 0 := by
    have hcm : codeMoves l ≠ 0 := by
     intro hh
     have := codeMoves_eq l
     rw [hA] at this
     simp [hh] at this
    unfold runC codeRun
    rw [hRu]
    simp only [show isStg ⟨0, 0⟩ = true from by decide, Bool.and_self, if_true]
    rw [if_neg hcm]
    exact hcm
   have HF := Lib.hid (isPlan_run (l := l) hX hrc)
   have HA := Lib.hid hA
   rw [hX]
   clear hX hA hrc hRu hCh
   go_enter Tryz.func17, Tryz.ntmps17
   go_wp2_with fail
   refine (w_l14Code _ _ _ _ _ _ _ _ (H.out.later ((Later.refl _).alloc _)) (H'.out.later ((Later.refl _).alloc _)) (HY.out.later ((Later.refl _).alloc _))).mono ?_
   rintro e w1 ⟨rfl, hL⟩
   rw [HX.out]
   go_wp2_with fail
   refine (w_specAreMoves _ _ _ ((HZ.out.later ((Later.refl _).alloc _)).later hL)).mono ?_
   rintro e w2 ⟨rfl, hL2⟩
   rw [HA.out]
   go_wp2
   go_ret2
   exact ⟨by rw [HF.out]; rfl, by (repeat (with_reducible first | exact Later.refl _ | refine qLa ?_ | refine qLd ?_ | refine qLe ?_ | refine qLs ?_ | refine qLt ?_ (by assumption)))⟩
 have hA' := hA
 simp only [areMoves, Bool.and_eq_true, decide_eq_true_eq] at hA'
 have hcr : codeRun ⟨n, st, sd⟩ ⟨0, 0⟩ l = 0 := by
  unfold codeRun codeMoves
  rw [hRu]
  simp only [show isStg ⟨0, 0⟩ = true from by decide, Bool.and_self, if_true]
  rw [if_pos hA'.1, if_pos hA'.2]
 have HM := Lib.hid hA'.1
 have h30 := hA'.2
 have hsb := isStg_bd (lastSt_stg ⟨0, 0⟩ (runSt ⟨n, st, sd⟩ ⟨0, 0⟩ l) (by decide) (runSt_stg _ _ _))
 obtain ⟨S, hS⟩ : ∃ x, lastSt ⟨0, 0⟩ (runSt ⟨n, st, sd⟩ ⟨0, 0⟩ l) = x := ⟨_, rfl⟩
 obtain ⟨PS, hPS⟩ : ∃ x, sumPts c = x := ⟨_, rfl⟩
 have hpb := sumPts_bd hCh
 have HS := Lib.hid hS
 have HPS := Lib.hid hPS
 rw [hS] at hsb
 rw [hPS] at hpb
 obtain ⟨-, -, s3, s4⟩ := hsb
 obtain ⟨pb1, pb2⟩ := hpb
 have HA := Lib.hid hA
 by_cases hd : (runSt ⟨n, st, sd⟩ ⟨0, 0⟩ l).length = l.length
 rotate_left
 · have hrc : runC ⟨n, st, sd⟩ ⟨0, 0⟩ l = 5 := by
    unfold runC allDone
    rw [if_pos hcr, if_neg (by simp [hd])]
   have HF := Lib.hid (isPlan_run (l := l) hX (by omega))
   have hst : stopI ⟨n, st, sd⟩ ⟨0, 0⟩ l = ((runSt ⟨n, st, sd⟩ ⟨0, 0⟩ l).length : Int) := by unfold stopI; rw [if_neg hd]
   obtain ⟨T, hT⟩ : ∃ x, stopI ⟨n, st, sd⟩ ⟨0, 0⟩ l = x := ⟨_, rfl⟩
   have hT0 : 0 ≤ T := by omega
   have HT := Lib.hid hT
   rw [hX]
   clear hX hA hrc hRu hCh hA' hcr hS hPS hd hst hT
   go_enter Tryz.func17, Tryz.ntmps17
   go_wp2_with fail
   refine (w_l14Code _ _ _ _ _ _ _ _ (H.out.later ((Later.refl _).alloc _)) (H'.out.later ((Later.refl _).alloc _)) (HY.out.later ((Later.refl _).alloc _))).mono ?_
   rintro e w1 ⟨rfl, hL⟩
   rw [HX.out]
   go_wp2_with fail
   refine (w_specAreMoves _ _ _ ((HZ.out.later ((Later.refl _).alloc _)).later hL)).mono ?_
   rintro e w2 ⟨rfl, hL2⟩
   rw [HA.out]
   obtain ⟨c0, f0, z0⟩ := blk1 (hL.trans hL2)
   go_wp2_with fail
   refine (w_l12Run _ _ _ _ _ _ _ _ _ _ (((H.out.later ((Later.refl _).alloc _)).later hL).later hL2) (((H'.out.later ((Later.refl _).alloc _)).later hL).later hL2) (by decide) (((HZ.out.later ((Later.refl _).alloc _)).later hL).later hL2) HM.out h30).mono ?_
   rintro e w3 ⟨rfl, hL3⟩
   rw [HT.out]
   have HL3 := Lib.hid (show Later w w3 from by (repeat (with_reducible first | exact Later.refl _ | refine qLa ?_ | refine qLd ?_ | refine qLe ?_ | refine qLs ?_ | refine qLt ?_ (by assumption))))
   clear hL hL2 hL3 c0 f0 z0
   go_wp2_with fail
   refine wp_name ?_
   intro u hu
   have hL0 : Later w u := by rw [hu]; exact HL3.out.alloc _
   have hSB := hL0.size
   clear hu
   refine region_guards 38 [27, 28, 29, 30, 31, 32, 33, 34, 35, 36, 37, 6, 7] (fun g ac wc => sl ac 10 = .int .i64 T ∧
    (g 0 = true → sl ac 27 = .int .i64 T) ∧
    (g 1 = true → sl ac 28 = .bool false) ∧
    (g 2 = true → sl ac 29 = .bool false) ∧
    (g 3 = true → sl ac 30 = undef) ∧
    (g 4 = true → sl ac 31 = undef) ∧
    (g 5 = true → sl ac 32 = undef) ∧
    (g 6 = true → sl ac 33 = undef) ∧
    (g 7 = true → sl ac 34 = undef) ∧
    (g 8 = true → sl ac 35 = undef) ∧
    (g 9 = true → sl ac 36 = undef) ∧
    (g 10 = true → sl ac 37 = .bool false) ∧
    (g 11 = true → sl ac 6 = .bool false) ∧
    (g 12 = true → sl ac 7 = .int .i64 0) ∧
    Later w wc ∧
    u.heap.size ≤ wc.heap.size) (by kernel_rfl) (by kernel_rfl) rfl (by kernel_rfl) ?_ ?_ ?_
   · exact ⟨rfl, nofun, nofun, nofun, nofun, nofun, nofun, nofun, nofun, nofun, nofun, nofun, nofun, nofun, hL0.drew, Nat.le_refl _⟩
   · intro g ac wu hg ha hI
     obtain ⟨x10, i0, i1, i2, i3, i4, i5, i6, i7, i8, i9, i10, i11, i12, hL, hS⟩ := hI
     have a0 := i0 (hg 0 (by simp))
     have a1 := i1 (hg 1 (by simp))
     have a2 := i2 (hg 2 (by simp))
     have a3 := i3 (hg 3 (by simp))
     have a4 := i4 (hg 4 (by simp))
     have a5 := i5 (hg 5 (by simp))
     have a6 := i6 (hg 6 (by simp))
     have a7 := i7 (hg 7 (by simp))
     have a8 := i8 (hg 8 (by simp))
     have a9 := i9 (hg 9 (by simp))
     have a10 := i10 (hg 10 (by simp))
     have a11 := i11 (hg 11 (by simp))
     have a12 := i12 (hg 12 (by simp))
     simp only [putAll, a0, a1, a2, a3, a4, a5, a6, a7, a8, a9, a10, a11, a12] at ha
     simp only [Act.put, List.setIfInBounds_toArray, List.set_cons_succ, List.set_cons_zero] at ha
     rw [ha]
     clear x10 i0 i1 i2 i3 i4 i5 i6 i7 i8 i9 i10 i11 i12 a0 a1 a2 a3 a4 a5 a6 a7 a8 a9 a10 a11 a12 hg ha
     go_wp2
     go_ret2
     exact ⟨by rw [HF.out]; rfl, hL⟩
   · refine .cons ?_ (.cons ?_ (.cons ?_ (.cons ?_ (.cons ?_ (.cons ?_ (.cons ?_ (.cons ?_ (.cons ?_ (.cons ?_ (.cons ?_ (.cons ?_ (.cons ?_ .nil))))))))))))
     · refine GSlot.of rfl ?_
       unfold SlotStep
       intro g ac wc hn hk hr hI K' hK
       have HI := Lib.hid hI
       obtain ⟨x10, i0, i1, i2, i3, i4, i5, i6, i7, i8, i9, i10, i11, i12, hL, hS⟩ := hI
       simp [Region.binds] at hr
       replace hK := Lib.hid hK
       clear i0 i1 i2 i3 i4 i5 i6 i7 i8 i9 i10 i11 i12
       go_simp
       obtain ⟨-, i0, i1, i2, i3, i4, i5, i6, i7, i8, i9, i10, i11, i12, -⟩ := HI.out
       exact hK.out _ _ ⟨qB x10, qP, qF i1, qF i2, qF i3, qF i4, qF i5, qF i6, qF i7, qF i8, qF i9, qF i10, qF i11, qF i12, hL, hS⟩
     · refine GSlot.of rfl ?_
       unfold SlotStep
       intro g ac wc hn hk hr hI K' hK
       have HI := Lib.hid hI
       obtain ⟨x10, i0, i1, i2, i3, i4, i5, i6, i7, i8, i9, i10, i11, i12, hL, hS⟩ := hI
       simp [Region.binds] at hr
       replace hK := Lib.hid hK
       have y0 := i0 (by simp [hr])
       clear i0 i1 i2 i3 i4 i5 i6 i7 i8 i9 i10 i11 i12
       go_simp
       rw [show decide (T < 0) = false from by simp; omega]
       obtain ⟨-, i0, i1, i2, i3, i4, i5, i6, i7, i8, i9, i10, i11, i12, -⟩ := HI.out
       exact hK.out _ _ ⟨qB x10, qF i0, qP, qF i2, qF i3, qF i4, qF i5, qF i6, qF i7, qF i8, qF i9, qF i10, qF i11, qF i12, hL, hS⟩
     · refine GSlot.of rfl ?_
       unfold SlotStep
       intro g ac wc hn hk hr hI K' hK
       have HI := Lib.hid hI
       obtain ⟨x10, i0, i1, i2, i3, i4, i5, i6, i7, i8, i9, i10, i11, i12, hL, hS⟩ := hI
       simp [Region.binds] at hr
       replace hK := Lib.hid hK
       have y1 := i1 (by simp [hr])
       clear i0 i1 i2 i3 i4 i5 i6 i7 i8 i9 i10 i11 i12
       go_simp
       obtain ⟨-, i0, i1, i2, i3, i4, i5, i6, i7, i8, i9, i10, i11, i12, -⟩ := HI.out
       exact hK.out _ _ ⟨qB x10, qF i0, qF i1, qP, qF i3, qF i4, qF i5, qF i6, qF i7, qF i8, qF i9, qF i10, qF i11, qF i12, hL, hS⟩
     · refine GSlot.skip rfl rfl (by decide) (fun g ac wc hr hI => ?_) ?_
       · obtain ⟨x10, i0, i1, i2, i3, i4, i5, i6, i7, i8, i9, i10, i11, i12, hL, hS⟩ := hI
         simp [Region.binds] at hr
         exact i2 (by simp [hr])
       intro g ac wc hn hk hr hI
       obtain ⟨x10, i0, i1, i2, i3, i4, i5, i6, i7, i8, i9, i10, i11, i12, hL, hS⟩ := hI
       simp [Region.binds] at hr
       exact ⟨qB x10, qF i0, qF i1, qF i2, qP, qF i4, qF i5, qF i6, qF i7, qF i8, qF i9, qF i10, qF i11, qF i12, hL, hS⟩
     · refine GSlot.skip rfl rfl (by decide) (fun g ac wc hr hI => ?_) ?_
       · obtain ⟨x10, i0, i1, i2, i3, i4, i5, i6, i7, i8, i9, i10, i11, i12, hL, hS⟩ := hI
         simp [Region.binds] at hr
         exact i2 (by simp [hr])
       intro g ac wc hn hk hr hI
       obtain ⟨x10, i0, i1, i2, i3, i4, i5, i6, i7, i8, i9, i10, i11, i12, hL, hS⟩ := hI
       simp [Region.binds] at hr
       exact ⟨qB x10, qF i0, qF i1, qF i2, qF i3, qP, qF i5, qF i6, qF i7, qF i8, qF i9, qF i10, qF i11, qF i12, hL, hS⟩
     · refine GSlot.skip rfl rfl (by decide) (fun g ac wc hr hI => ?_) ?_
       · obtain ⟨x10, i0, i1, i2, i3, i4, i5, i6, i7, i8, i9, i10, i11, i12, hL, hS⟩ := hI
         simp [Region.binds] at hr
         exact i2 (by simp [hr])
       intro g ac wc hn hk hr hI
       obtain ⟨x10, i0, i1, i2, i3, i4, i5, i6, i7, i8, i9, i10, i11, i12, hL, hS⟩ := hI
       simp [Region.binds] at hr
       exact ⟨qB x10, qF i0, qF i1, qF i2, qF i3, qF i4, qP, qF i6, qF i7, qF i8, qF i9, qF i10, qF i11, qF i12, hL, hS⟩
     · refine GSlot.skip rfl rfl (by decide) (fun g ac wc hr hI => ?_) ?_
       · obtain ⟨x10, i0, i1, i2, i3, i4, i5, i6, i7, i8, i9, i10, i11, i12, hL, hS⟩ := hI
         simp [Region.binds] at hr
         exact i2 (by simp [hr])
       intro g ac wc hn hk hr hI
       obtain ⟨x10, i0, i1, i2, i3, i4, i5, i6, i7, i8, i9, i10, i11, i12, hL, hS⟩ := hI
       simp [Region.binds] at hr
       exact ⟨qB x10, qF i0, qF i1, qF i2, qF i3, qF i4, qF i5, qP, qF i7, qF i8, qF i9, qF i10, qF i11, qF i12, hL, hS⟩
     · refine GSlot.skip rfl rfl (by decide) (fun g ac wc hr hI => ?_) ?_
       · obtain ⟨x10, i0, i1, i2, i3, i4, i5, i6, i7, i8, i9, i10, i11, i12, hL, hS⟩ := hI
         simp [Region.binds] at hr
         exact i2 (by simp [hr])
       intro g ac wc hn hk hr hI
       obtain ⟨x10, i0, i1, i2, i3, i4, i5, i6, i7, i8, i9, i10, i11, i12, hL, hS⟩ := hI
       simp [Region.binds] at hr
       exact ⟨qB x10, qF i0, qF i1, qF i2, qF i3, qF i4, qF i5, qF i6, qP, qF i8, qF i9, qF i10, qF i11, qF i12, hL, hS⟩
     · refine GSlot.skip rfl rfl (by decide) (fun g ac wc hr hI => ?_) ?_
       · obtain ⟨x10, i0, i1, i2, i3, i4, i5, i6, i7, i8, i9, i10, i11, i12, hL, hS⟩ := hI
         simp [Region.binds] at hr
         exact i2 (by simp [hr])
       intro g ac wc hn hk hr hI
       obtain ⟨x10, i0, i1, i2, i3, i4, i5, i6, i7, i8, i9, i10, i11, i12, hL, hS⟩ := hI
       simp [Region.binds] at hr
       exact ⟨qB x10, qF i0, qF i1, qF i2, qF i3, qF i4, qF i5, qF i6, qF i7, qP, qF i9, qF i10, qF i11, qF i12, hL, hS⟩
     · refine GSlot.skip rfl rfl (by decide) (fun g ac wc hr hI => ?_) ?_
       · obtain ⟨x10, i0, i1, i2, i3, i4, i5, i6, i7, i8, i9, i10, i11, i12, hL, hS⟩ := hI
         simp [Region.binds] at hr
         exact i2 (by simp [hr])
       intro g ac wc hn hk hr hI
       obtain ⟨x10, i0, i1, i2, i3, i4, i5, i6, i7, i8, i9, i10, i11, i12, hL, hS⟩ := hI
       simp [Region.binds] at hr
       exact ⟨qB x10, qF i0, qF i1, qF i2, qF i3, qF i4, qF i5, qF i6, qF i7, qF i8, qP, qF i10, qF i11, qF i12, hL, hS⟩
     · refine GSlot.of rfl ?_
       unfold SlotStep
       intro g ac wc hn hk hr hI K' hK
       have HI := Lib.hid hI
       obtain ⟨x10, i0, i1, i2, i3, i4, i5, i6, i7, i8, i9, i10, i11, i12, hL, hS⟩ := hI
       simp [Region.binds] at hr
       replace hK := Lib.hid hK
       have y2 := i2 (by simp [hr])
       have z2 := sl_get y2 (by omega)
       clear i0 i1 i2 i3 i4 i5 i6 i7 i8 i9 i10 i11 i12
       go_simp
       obtain ⟨-, i0, i1, i2, i3, i4, i5, i6, i7, i8, i9, i10, i11, i12, -⟩ := HI.out
       exact hK.out _ _ ⟨qB x10, qF i0, qF i1, qF i2, qF i3, qF i4, qF i5, qF i6, qF i7, qF i8, qF i9, qP, qF i11, qF i12, hL, hS⟩
     · refine GSlot.of rfl ?_
       unfold SlotStep
       intro g ac wc hn hk hr hI K' hK
       have HI := Lib.hid hI
       obtain ⟨x10, i0, i1, i2, i3, i4, i5, i6, i7, i8, i9, i10, i11, i12, hL, hS⟩ := hI
       simp [Region.binds] at hr
       replace hK := Lib.hid hK
       have y10 := i10 (by simp [hr])
       clear i0 i1 i2 i3 i4 i5 i6 i7 i8 i9 i10 i11 i12
       go_simp
       obtain ⟨-, i0, i1, i2, i3, i4, i5, i6, i7, i8, i9, i10, i11, i12, -⟩ := HI.out
       exact hK.out _ _ ⟨qB x10, qF i0, qF i1, qF i2, qF i3, qF i4, qF i5, qF i6, qF i7, qF i8, qF i9, qF i10, qP, qF i12, hL, hS⟩
     · refine GSlot.of rfl ?_
       unfold SlotStep
       intro g ac wc hn hk hr hI K' hK
       have HI := Lib.hid hI
       obtain ⟨x10, i0, i1, i2, i3, i4, i5, i6, i7, i8, i9, i10, i11, i12, hL, hS⟩ := hI
       simp [Region.binds] at hr
       replace hK := Lib.hid hK
       clear i0 i1 i2 i3 i4 i5 i6 i7 i8 i9 i10 i11 i12
       go_simp
       obtain ⟨-, i0, i1, i2, i3, i4, i5, i6, i7, i8, i9, i10, i11, i12, -⟩ := HI.out
       exact hK.out _ _ ⟨qB x10, qF i0, qF i1, qF i2, qF i3, qF i4, qF i5, qF i6, qF i7, qF i8, qF i9, qF i10, qF i11, qP, hL, hS⟩
 have hrc : runC ⟨n, st, sd⟩ ⟨0, 0⟩ l = 0 := by
  unfold runC allDone
  rw [if_pos hcr, if_pos (by simp [hd])]
 have hmv : runMv ⟨n, st, sd⟩ ⟨0, 0⟩ l = S := by
  unfold runMv allDone
  rw [if_pos hcr, if_pos (by simp [hd]), hS]
 have HF := Lib.hid (show isPlan ⟨n, st, sd⟩ c l = ((S.cu - PS) % 1048576 == 0) from by rw [isPlan_yes hX hrc, hmv, hPS])
 have HT := Lib.hid (show stopI ⟨n, st, sd⟩ ⟨0, 0⟩ l = -1 from by unfold stopI; rw [if_pos hd])
 rw [hX]
 clear hX hA hrc hRu hCh hA' hcr hS hPS hd hmv
 go_enter Tryz.func17, Tryz.ntmps17
 go_wp2_with fail
 refine (w_l14Code _ _ _ _ _ _ _ _ (H.out.later ((Later.refl _).alloc _)) (H'.out.later ((Later.refl _).alloc _)) (HY.out.later ((Later.refl _).alloc _))).mono ?_
 rintro e w1 ⟨rfl, hL⟩
 rw [HX.out]
 go_wp2_with fail
 refine (w_specAreMoves _ _ _ ((HZ.out.later ((Later.refl _).alloc _)).later hL)).mono ?_
 rintro e w2 ⟨rfl, hL2⟩
 rw [HA.out]
 obtain ⟨c0, f0, z0⟩ := blk1 (hL.trans hL2)
 go_wp2_with fail
 refine (w_l12Run _ _ _ _ _ _ _ _ _ _ (((H.out.later ((Later.refl _).alloc _)).later hL).later hL2) (((H'.out.later ((Later.refl _).alloc _)).later hL).later hL2) (by decide) (((HZ.out.later ((Later.refl _).alloc _)).later hL).later hL2) HM.out h30).mono ?_
 rintro e w3 ⟨rfl, hL3⟩
 rw [HT.out, HS.out]
 clear c0 f0 z0
 have HL3 := Lib.hid (show Later w w3 from by (repeat (with_reducible first | exact Later.refl _ | refine qLa ?_ | refine qLd ?_ | refine qLe ?_ | refine qLs ?_ | refine qLt ?_ (by assumption))))
 clear hL hL2 hL3
 go_wp2_with fail
 refine wp_name ?_
 intro u hu
 have hL0 : Later w u := by rw [hu]; exact HL3.out.alloc _
 have Ks : u.heap[w3.heap.size]? = some (.cells #[.int .i64 S.sh, .int .i64 S.cu] 78 (0, 0)) := by rw [hu]; exact heap_alloc_new _ _
 have hSB := hL0.size
 clear hu
 refine region_guards 38 [27, 28, 29, 30, 31, 32, 33, 34, 35, 36, 37, 6, 7] (fun g ac wc => sl ac 1 = .slice ay c.length capy ∧
  sl ac 9 = .pointer (some ⟨w3.heap.size, 0, none⟩) ∧
  sl ac 10 = .int .i64 (-1) ∧
  (g 0 = true → sl ac 27 = .int .i64 (-1)) ∧
  (g 1 = true → sl ac 28 = .bool true) ∧
  (g 2 = true → sl ac 29 = .bool true) ∧
  (g 3 = true → sl ac 30 = .pointer (some ⟨w3.heap.size, 1, none⟩)) ∧
  (g 4 = true → sl ac 31 = .int .i64 S.cu) ∧
  (g 5 = true → sl ac 32 = .slice ay c.length capy) ∧
  (g 6 = true → sl ac 33 = .int .i64 PS) ∧
  (g 7 = true → sl ac 34 = .int .i64 (S.cu - PS)) ∧
  (g 8 = true → sl ac 35 = .int .i64 ((S.cu - PS) % 1048576)) ∧
  (g 9 = true → sl ac 36 = .bool (((S.cu - PS) % 1048576) == 0)) ∧
  (g 10 = true → sl ac 37 = .bool (((S.cu - PS) % 1048576) == 0)) ∧
  (g 11 = true → sl ac 6 = .bool (((S.cu - PS) % 1048576) == 0)) ∧
  (g 12 = true → sl ac 7 = .int .i64 0) ∧
  Later w wc ∧
  u.heap.size ≤ wc.heap.size ∧
  wc.heap[w3.heap.size]? = some (.cells #[.int .i64 S.sh, .int .i64 S.cu] 78 (0, 0))) (by kernel_rfl) (by kernel_rfl) rfl (by kernel_rfl) ?_ ?_ ?_
 · exact ⟨rfl, rfl, rfl, nofun, nofun, nofun, nofun, nofun, nofun, nofun, nofun, nofun, nofun, nofun, nofun, nofun, hL0.drew, Nat.le_refl _, Ks⟩
 · intro g ac wu hg ha hI
   obtain ⟨x1, x9, x10, i0, i1, i2, i3, i4, i5, i6, i7, i8, i9, i10, i11, i12, hL, hS, Bs⟩ := hI
   have a0 := i0 (hg 0 (by simp))
   have a1 := i1 (hg 1 (by simp))
   have a2 := i2 (hg 2 (by simp))
   have a3 := i3 (hg 3 (by simp))
   have a4 := i4 (hg 4 (by simp))
   have a5 := i5 (hg 5 (by simp))
   have a6 := i6 (hg 6 (by simp))
   have a7 := i7 (hg 7 (by simp))
   have a8 := i8 (hg 8 (by simp))
   have a9 := i9 (hg 9 (by simp))
   have a10 := i10 (hg 10 (by simp))
   have a11 := i11 (hg 11 (by simp))
   have a12 := i12 (hg 12 (by simp))
   simp only [putAll, a0, a1, a2, a3, a4, a5, a6, a7, a8, a9, a10, a11, a12] at ha
   simp only [Act.put, List.setIfInBounds_toArray, List.set_cons_succ, List.set_cons_zero] at ha
   rw [ha]
   clear x1 x9 x10 i0 i1 i2 i3 i4 i5 i6 i7 i8 i9 i10 i11 i12 a0 a1 a2 a3 a4 a5 a6 a7 a8 a9 a10 a11 a12 hg ha
   go_wp2
   go_ret2
   exact ⟨by rw [HF.out]; rfl, hL⟩
 · refine .cons ?_ (.cons ?_ (.cons ?_ (.cons ?_ (.cons ?_ (.cons ?_ (.cons ?_ (.cons ?_ (.cons ?_ (.cons ?_ (.cons ?_ (.cons ?_ (.cons ?_ .nil))))))))))))
   · refine GSlot.of rfl ?_
     unfold SlotStep
     intro g ac wc hn hk hr hI K' hK
     have HI := Lib.hid hI
     obtain ⟨x1, x9, x10, i0, i1, i2, i3, i4, i5, i6, i7, i8, i9, i10, i11, i12, hL, hS, Bs⟩ := hI
     simp [Region.binds] at hr
     replace hK := Lib.hid hK
     clear i0 i1 i2 i3 i4 i5 i6 i7 i8 i9 i10 i11 i12
     go_simp
     obtain ⟨-, -, -, i0, i1, i2, i3, i4, i5, i6, i7, i8, i9, i10, i11, i12, -⟩ := HI.out
     exact hK.out _ _ ⟨qB x1, qB x9, qB x10, qP, qF i1, qF i2, qF i3, qF i4, qF i5, qF i6, qF i7, qF i8, qF i9, qF i10, qF i11, qF i12, hL, hS, Bs⟩
   · refine GSlot.of rfl ?_
     unfold SlotStep
     intro g ac wc hn hk hr hI K' hK
     have HI := Lib.hid hI
     obtain ⟨x1, x9, x10, i0, i1, i2, i3, i4, i5, i6, i7, i8, i9, i10, i11, i12, hL, hS, Bs⟩ := hI
     simp [Region.binds] at hr
     replace hK := Lib.hid hK
     have y0 := i0 (by simp [hr])
     clear i0 i1 i2 i3 i4 i5 i6 i7 i8 i9 i10 i11 i12
     go_simp
     obtain ⟨-, -, -, i0, i1, i2, i3, i4, i5, i6, i7, i8, i9, i10, i11, i12, -⟩ := HI.out
     exact hK.out _ _ ⟨qB x1, qB x9, qB x10, qF i0, qP, qF i2, qF i3, qF i4, qF i5, qF i6, qF i7, qF i8, qF i9, qF i10, qF i11, qF i12, hL, hS, Bs⟩
   · refine GSlot.of rfl ?_
     unfold SlotStep
     intro g ac wc hn hk hr hI K' hK
     have HI := Lib.hid hI
     obtain ⟨x1, x9, x10, i0, i1, i2, i3, i4, i5, i6, i7, i8, i9, i10, i11, i12, hL, hS, Bs⟩ := hI
     simp [Region.binds] at hr
     replace hK := Lib.hid hK
     have y1 := i1 (by simp [hr])
     clear i0 i1 i2 i3 i4 i5 i6 i7 i8 i9 i10 i11 i12
     go_simp
     obtain ⟨-, -, -, i0, i1, i2, i3, i4, i5, i6, i7, i8, i9, i10, i11, i12, -⟩ := HI.out
     exact hK.out _ _ ⟨qB x1, qB x9, qB x10, qF i0, qF i1, qP, qF i3, qF i4, qF i5, qF i6, qF i7, qF i8, qF i9, qF i10, qF i11, qF i12, hL, hS, Bs⟩
   · refine GSlot.want rfl rfl (by decide) (fun g ac wc hr hI => ?_) ?_
     · obtain ⟨x1, x9, x10, i0, i1, i2, i3, i4, i5, i6, i7, i8, i9, i10, i11, i12, hL, hS, Bs⟩ := hI
       simp [Region.binds] at hr
       exact i2 (by simp [hr])
     unfold SlotStep
     intro g ac wc hn hk hr hI K' hK
     have HI := Lib.hid hI
     obtain ⟨x1, x9, x10, i0, i1, i2, i3, i4, i5, i6, i7, i8, i9, i10, i11, i12, hL, hS, Bs⟩ := hI
     simp [Region.binds] at hr
     replace hK := Lib.hid hK
     clear i0 i1 i2 i3 i4 i5 i6 i7 i8 i9 i10 i11 i12
     go_simp
     obtain ⟨-, -, -, i0, i1, i2, i3, i4, i5, i6, i7, i8, i9, i10, i11, i12, -⟩ := HI.out
     exact hK.out _ _ ⟨qB x1, qB x9, qB x10, qF i0, qF i1, qF i2, qP, qF i4, qF i5, qF i6, qF i7, qF i8, qF i9, qF i10, qF i11, qF i12, hL, hS, Bs⟩
   · refine GSlot.want rfl rfl (by decide) (fun g ac wc hr hI => ?_) ?_
     · obtain ⟨x1, x9, x10, i0, i1, i2, i3, i4, i5, i6, i7, i8, i9, i10, i11, i12, hL, hS, Bs⟩ := hI
       simp [Region.binds] at hr
       exact i2 (by simp [hr])
     unfold SlotStep
     intro g ac wc hn hk hr hI K' hK
     have HI := Lib.hid hI
     obtain ⟨x1, x9, x10, i0, i1, i2, i3, i4, i5, i6, i7, i8, i9, i10, i11, i12, hL, hS, Bs⟩ := hI
     simp [Region.binds] at hr
     replace hK := Lib.hid hK
     have y3 := i3 (by simp [hr])
     clear i0 i1 i2 i3 i4 i5 i6 i7 i8 i9 i10 i11 i12
     obtain ⟨c0, f0, z0⟩ := blk_at Bs
     go_simp
     obtain ⟨-, -, -, i0, i1, i2, i3, i4, i5, i6, i7, i8, i9, i10, i11, i12, -⟩ := HI.out
     exact hK.out _ _ ⟨qB x1, qB x9, qB x10, qF i0, qF i1, qF i2, qF i3, qP, qF i5, qF i6, qF i7, qF i8, qF i9, qF i10, qF i11, qF i12, hL, hS, Bs⟩
   · refine GSlot.want rfl rfl (by decide) (fun g ac wc hr hI => ?_) ?_
     · obtain ⟨x1, x9, x10, i0, i1, i2, i3, i4, i5, i6, i7, i8, i9, i10, i11, i12, hL, hS, Bs⟩ := hI
       simp [Region.binds] at hr
       exact i2 (by simp [hr])
     unfold SlotStep
     intro g ac wc hn hk hr hI K' hK
     have HI := Lib.hid hI
     obtain ⟨x1, x9, x10, i0, i1, i2, i3, i4, i5, i6, i7, i8, i9, i10, i11, i12, hL, hS, Bs⟩ := hI
     simp [Region.binds] at hr
     replace hK := Lib.hid hK
     clear i0 i1 i2 i3 i4 i5 i6 i7 i8 i9 i10 i11 i12
     go_simp
     obtain ⟨-, -, -, i0, i1, i2, i3, i4, i5, i6, i7, i8, i9, i10, i11, i12, -⟩ := HI.out
     exact hK.out _ _ ⟨qB x1, qB x9, qB x10, qF i0, qF i1, qF i2, qF i3, qF i4, qP, qF i6, qF i7, qF i8, qF i9, qF i10, qF i11, qF i12, hL, hS, Bs⟩
   · refine GSlot.want rfl rfl (by decide) (fun g ac wc hr hI => ?_) ?_
     · obtain ⟨x1, x9, x10, i0, i1, i2, i3, i4, i5, i6, i7, i8, i9, i10, i11, i12, hL, hS, Bs⟩ := hI
       simp [Region.binds] at hr
       exact i2 (by simp [hr])
     unfold SlotStep
     intro g ac wc hn hk hr hI K' hK
     have HI := Lib.hid hI
     obtain ⟨x1, x9, x10, i0, i1, i2, i3, i4, i5, i6, i7, i8, i9, i10, i11, i12, hL, hS, Bs⟩ := hI
     simp [Region.binds] at hr
     replace hK := Lib.hid hK
     have y5 := i5 (by simp [hr])
     clear i0 i1 i2 i3 i4 i5 i6 i7 i8 i9 i10 i11 i12
     go_simp
     refine (w_l14Sum _ _ _ (HY.out.later hL) HCh.out).mono ?_
     rintro e w4 ⟨rfl, hL4⟩
     rw [HPS.out]
     obtain ⟨-, -, -, i0, i1, i2, i3, i4, i5, i6, i7, i8, i9, i10, i11, i12, -⟩ := HI.out
     exact hK.out _ _ ⟨qB x1, qB x9, qB x10, qF i0, qF i1, qF i2, qF i3, qF i4, qF i5, qP, qF i7, qF i8, qF i9, qF i10, qF i11, qF i12, hL.trans hL4, Nat.le_trans hS hL4.size, hL4.keep Bs⟩
   · refine GSlot.want rfl rfl (by decide) (fun g ac wc hr hI => ?_) ?_
     · obtain ⟨x1, x9, x10, i0, i1, i2, i3, i4, i5, i6, i7, i8, i9, i10, i11, i12, hL, hS, Bs⟩ := hI
       simp [Region.binds] at hr
       exact i2 (by simp [hr])
     unfold SlotStep
     intro g ac wc hn hk hr hI K' hK
     have HI := Lib.hid hI
     obtain ⟨x1, x9, x10, i0, i1, i2, i3, i4, i5, i6, i7, i8, i9, i10, i11, i12, hL, hS, Bs⟩ := hI
     simp [Region.binds] at hr
     replace hK := Lib.hid hK
     have y4 := i4 (by simp [hr])
     have y6 := i6 (by simp [hr])
     clear i0 i1 i2 i3 i4 i5 i6 i7 i8 i9 i10 i11 i12
     have wD : IntKind.i64.wrap (S.cu - PS) = S.cu - PS := wrap_same (by omega) (by omega)
     go_simp
     obtain ⟨-, -, -, i0, i1, i2, i3, i4, i5, i6, i7, i8, i9, i10, i11, i12, -⟩ := HI.out
     exact hK.out _ _ ⟨qB x1, qB x9, qB x10, qF i0, qF i1, qF i2, qF i3, qF i4, qF i5, qF i6, qP, qF i8, qF i9, qF i10, qF i11, qF i12, hL, hS, Bs⟩
   · refine GSlot.want rfl rfl (by decide) (fun g ac wc hr hI => ?_) ?_
     · obtain ⟨x1, x9, x10, i0, i1, i2, i3, i4, i5, i6, i7, i8, i9, i10, i11, i12, hL, hS, Bs⟩ := hI
       simp [Region.binds] at hr
       exact i2 (by simp [hr])
     unfold SlotStep
     intro g ac wc hn hk hr hI K' hK
     have HI := Lib.hid hI
     obtain ⟨x1, x9, x10, i0, i1, i2, i3, i4, i5, i6, i7, i8, i9, i10, i11, i12, hL, hS, Bs⟩ := hI
     simp [Region.binds] at hr
     replace hK := Lib.hid hK
     have y7 := i7 (by simp [hr])
     clear i0 i1 i2 i3 i4 i5 i6 i7 i8 i9 i10 i11 i12
     go_simp
     refine (w_l01Mod _ _ (by decide) (by decide) (by omega) (by omega) _).mono ?_
     rintro e w4 ⟨rfl, rfl⟩
     obtain ⟨-, -, -, i0, i1, i2, i3, i4, i5, i6, i7, i8, i9, i10, i11, i12, -⟩ := HI.out
     exact hK.out _ _ ⟨qB x1, qB x9, qB x10, qF i0, qF i1, qF i2, qF i3, qF i4, qF i5, qF i6, qF i7, qP, qF i9, qF i10, qF i11, qF i12, hL, hS, Bs⟩
   · refine GSlot.want rfl rfl (by decide) (fun g ac wc hr hI => ?_) ?_
     · obtain ⟨x1, x9, x10, i0, i1, i2, i3, i4, i5, i6, i7, i8, i9, i10, i11, i12, hL, hS, Bs⟩ := hI
       simp [Region.binds] at hr
       exact i2 (by simp [hr])
     unfold SlotStep
     intro g ac wc hn hk hr hI K' hK
     have HI := Lib.hid hI
     obtain ⟨x1, x9, x10, i0, i1, i2, i3, i4, i5, i6, i7, i8, i9, i10, i11, i12, hL, hS, Bs⟩ := hI
     simp [Region.binds] at hr
     replace hK := Lib.hid hK
     have y8 := i8 (by simp [hr])
     clear i0 i1 i2 i3 i4 i5 i6 i7 i8 i9 i10 i11 i12
     go_simp
     obtain ⟨-, -, -, i0, i1, i2, i3, i4, i5, i6, i7, i8, i9, i10, i11, i12, -⟩ := HI.out
     exact hK.out _ _ ⟨qB x1, qB x9, qB x10, qF i0, qF i1, qF i2, qF i3, qF i4, qF i5, qF i6, qF i7, qF i8, qP, qF i10, qF i11, qF i12, hL, hS, Bs⟩
   · refine GSlot.of rfl ?_
     unfold SlotStep
     intro g ac wc hn hk hr hI K' hK
     have HI := Lib.hid hI
     obtain ⟨x1, x9, x10, i0, i1, i2, i3, i4, i5, i6, i7, i8, i9, i10, i11, i12, hL, hS, Bs⟩ := hI
     simp [Region.binds] at hr
     replace hK := Lib.hid hK
     have y2 := i2 (by simp [hr])
     have y9 := i9 (by simp [hr])
     have z2 := sl_get y2 (by omega)
     have z9 := sl_get y9 (by omega)
     clear i0 i1 i2 i3 i4 i5 i6 i7 i8 i9 i10 i11 i12
     go_simp
     obtain ⟨-, -, -, i0, i1, i2, i3, i4, i5, i6, i7, i8, i9, i10, i11, i12, -⟩ := HI.out
     exact hK.out _ _ ⟨qB x1, qB x9, qB x10, qF i0, qF i1, qF i2, qF i3, qF i4, qF i5, qF i6, qF i7, qF i8, qF i9, qP, qF i11, qF i12, hL, hS, Bs⟩
   · refine GSlot.of rfl ?_
     unfold SlotStep
     intro g ac wc hn hk hr hI K' hK
     have HI := Lib.hid hI
     obtain ⟨x1, x9, x10, i0, i1, i2, i3, i4, i5, i6, i7, i8, i9, i10, i11, i12, hL, hS, Bs⟩ := hI
     simp [Region.binds] at hr
     replace hK := Lib.hid hK
     have y10 := i10 (by simp [hr])
     clear i0 i1 i2 i3 i4 i5 i6 i7 i8 i9 i10 i11 i12
     go_simp
     obtain ⟨-, -, -, i0, i1, i2, i3, i4, i5, i6, i7, i8, i9, i10, i11, i12, -⟩ := HI.out
     exact hK.out _ _ ⟨qB x1, qB x9, qB x10, qF i0, qF i1, qF i2, qF i3, qF i4, qF i5, qF i6, qF i7, qF i8, qF i9, qF i10, qP, qF i12, hL, hS, Bs⟩
   · refine GSlot.of rfl ?_
     unfold SlotStep
     intro g ac wc hn hk hr hI K' hK
     have HI := Lib.hid hI
     obtain ⟨x1, x9, x10, i0, i1, i2, i3, i4, i5, i6, i7, i8, i9, i10, i11, i12, hL, hS, Bs⟩ := hI
     simp [Region.binds] at hr
     replace hK := Lib.hid hK
     clear i0 i1 i2 i3 i4 i5 i6 i7 i8 i9 i10 i11 i12
     go_simp
     obtain ⟨-, -, -, i0, i1, i2, i3, i4, i5, i6, i7, i8, i9, i10, i11, i12, -⟩ := HI.out
     exact hK.out _ _ ⟨qB x1, qB x9, qB x10, qF i0, qF i1, qF i2, qF i3, qF i4, qF i5, qF i6, qF i7, qF i8, qF i9, qF i10, qF i11, qP, hL, hS, Bs⟩
end Go.Proofs.YtkoojngonldcbaaGreat
