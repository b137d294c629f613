/- DERIVED. Walks: whether moves are a plan for a chain. -/
import Derived.Test.YtfhppnmbmdpjeaaM50
namespace Go.Proofs.Ytfhppnmbmdpjeaa
set_option linter.unusedVariables false
set_option linter.unusedSimpArgs false
open Go.RowKit
set_option maxRecDepth 100000

theorem lastSt_stg : ∀ (s : Stg) (l : List Stg), isStg s = true → (∀ x ∈ l, isStg x = true) → isStg (lastSt s l) = true
  | s, [], h, _ => h
  | s, x :: l, _, h => lastSt_stg x l (h x (by simp)) (fun y hy => h y (List.mem_cons_of_mem _ hy))
theorem runMv_stg (r : Rul) (s : Stg) (l : List Mov) : isStg (runMv r s l) = true := by
  unfold runMv
  split
  · rename_i h
    split
    · exact lastSt_stg _ _ (codeRun_0 h).2.1 (runSt_stg r s l)
    · decide
  · decide
theorem isPlan_no {r : Rul} {c : List Trm} {l : List Mov} {k : Int} (h : codePlan r c = k) (hk : k ≠ 0) : isPlan r c l = false := by
  unfold isPlan; rw [if_neg (by omega)]
theorem isPlan_run {r : Rul} {c : List Trm} {l : List Mov} (h : codePlan r c = 0) (hk : runC r ⟨0, 0⟩ l ≠ 0) : isPlan r c l = false := by
  unfold isPlan; rw [if_pos h, if_neg hk]
theorem isPlan_yes {r : Rul} {c : List Trm} {l : List Mov} (h : codePlan r c = 0) (hk : runC r ⟨0, 0⟩ l = 0) : isPlan r c l = (((runMv r ⟨0, 0⟩ l).cu - sumPts c) % 1048576 == 0) := by
  unfold isPlan; rw [if_pos h, if_pos hk]

set_option maxHeartbeats 2000000 in
theorem w_implIsPlanFor (n : Int) (u v y z : Value) (st sl : List Int) (c : List Trm) (l : List Mov) (w : World) (h : IsNums w u st) (h' : IsNums w v sl) (hc : IsTrms w y c) (hl : IsMovs w z l) :
    Calls Try.prog 43 #[.agg #[.int .i64 n, u, v], y, z] w fun e w' => e = .returned (.tuple #[.bool (isPlan ⟨n, st, sl⟩ c l), .int .i64 (codePlan ⟨n, st, sl⟩ c)]) ∧ Later w w' := by
  have H := Lib.hid h
  have H' := Lib.hid h'
  have HY := Lib.hid hc
  have HZ := Lib.hid hl
  obtain ⟨_, _, au, capu, rfl, _, _, _⟩ := h
  obtain ⟨_, _, av, capv, rfl, _, _, _⟩ := h'
  obtain ⟨_, _, az, capz, rfl, _, _, _⟩ := hl
  obtain ⟨X, hX⟩ : ∃ x, codePlan ⟨n, st, sl⟩ c = x := ⟨_, rfl⟩
  by_cases h0 : X = 0
  rotate_left
  · have HF := Lib.hid (isPlan_no (l := l) hX h0)
    have HX := Lib.hid hX
    have hb : (X != 0) = true := by simp [h0]
    obtain ⟨_, _, ay, capy, rfl, _, _, _⟩ := hc
    rw [hX]
    clear hX h0
    go_enter Try.func43, Try.ntmps43
    go_wp2_with fail
    refine (w_checkPlan _ _ _ _ _ _ _ _ (H.out.later ((Later.refl _).alloc _)) (H'.out.later ((Later.refl _).alloc _)) (HY.out.later ((Later.refl _).alloc _))).mono ?_
    rintro e w1 ⟨rfl, hL⟩
    rw [HX.out]
    go_wp2
    go_ret2
    exact ⟨by rw [HF.out]; rfl, by (repeat (with_reducible first | exact Later.refl _ | refine Later.alloc ?_ _ | refine Later.drew ?_ | refine Later.drewN ?_ _ | refine Later.setCell ?_ (by simp; try omega) _ | refine Later.trans ?_ (by assumption)))⟩
  subst h0
  have hCh := (codePlan_0 hX).2.1
  have HX := Lib.hid hX
  obtain ⟨RC, hRC⟩ : ∃ x, runC ⟨n, st, sl⟩ ⟨0, 0⟩ l = x := ⟨_, rfl⟩
  have HRC := Lib.hid hRC
  by_cases h0 : RC = 0
  rotate_left
  · have HF := Lib.hid (isPlan_run (l := l) hX (by rw [hRC]; exact h0))
    have hb : (RC != 0) = true := by simp [h0]
    obtain ⟨_, _, ay, capy, rfl, _, _, _⟩ := hc
    rw [hX]
    clear hX h0 hRC
    go_enter Try.func43, Try.ntmps43
    go_wp2_with fail
    refine (w_checkPlan _ _ _ _ _ _ _ _ (H.out.later ((Later.refl _).alloc _)) (H'.out.later ((Later.refl _).alloc _)) (HY.out.later ((Later.refl _).alloc _))).mono ?_
    rintro e w1 ⟨rfl, hL⟩
    rw [HX.out]
    obtain ⟨c0, f0, z0⟩ := blk1 hL
    go_wp2_with fail
    refine (w_implRunMoves _ _ _ _ _ _ _ _ _ _ ((H.out.later ((Later.refl _).alloc _)).later hL) ((H'.out.later ((Later.refl _).alloc _)).later hL) ((HZ.out.later ((Later.refl _).alloc _)).later hL)).mono ?_
    rintro e w2 ⟨rfl, hL2⟩
    rw [HRC.out]
    go_wp2
    go_ret2
    exact ⟨by rw [HF.out]; rfl, by (repeat (with_reducible first | exact Later.refl _ | refine Later.alloc ?_ _ | refine Later.drew ?_ | refine Later.drewN ?_ _ | refine Later.setCell ?_ (by simp; try omega) _ | refine Later.trans ?_ (by assumption)))⟩
  subst h0
  have HF := Lib.hid (isPlan_yes (l := l) hX hRC)
  have hsb := isStg_bd (runMv_stg ⟨n, st, sl⟩ ⟨0, 0⟩ l)
  obtain ⟨S, hS⟩ : ∃ x, runMv ⟨n, st, sl⟩ ⟨0, 0⟩ l = x := ⟨_, rfl⟩
  have HS := Lib.hid hS
  rw [hS] at hsb
  obtain ⟨-, -, s3, s4⟩ := hsb
  have HC := Lib.hid hCh
  have h6 := (isChain_true hCh).2.1
  rw [hX]
  clear hX hRC hS hCh
  obtain ⟨hxl1, hn1, a1, cap1, rfl, hcap1, hmax1, hrow1⟩ := hc
  have HR1 := Lib.hid hrow1
  clear hrow1 hxl1
  go_enter Try.func43, Try.ntmps43
  go_wp2_with fail
  refine (w_checkPlan _ _ _ _ _ _ _ _ (H.out.later ((Later.refl _).alloc _)) (H'.out.later ((Later.refl _).alloc _)) (HY.out.later ((Later.refl _).alloc _))).mono ?_
  rintro e w1 ⟨rfl, hL⟩
  rw [HX.out]
  obtain ⟨c0, f0, z0⟩ := blk1 hL
  go_wp2_with fail
  refine (w_implRunMoves _ _ _ _ _ _ _ _ _ _ ((H.out.later ((Later.refl _).alloc _)).later hL) ((H'.out.later ((Later.refl _).alloc _)).later hL) ((HZ.out.later ((Later.refl _).alloc _)).later hL)).mono ?_
  rintro e w2 ⟨rfl, hL2⟩
  rw [HRC.out, HS.out]
  have HL2 := Lib.hid (show Later w w2 from by (repeat (with_reducible first | exact Later.refl _ | refine Later.alloc ?_ _ | refine Later.drew ?_ | refine Later.drewN ?_ _ | refine Later.setCell ?_ (by simp; try omega) _ | refine Later.trans ?_ (by assumption))))
  clear hL hL2 c0 f0 z0
  go_wp2
  go_loopw [11, 31] (fun r i wr => ∃ k : Nat, k ≤ c.length ∧ i = .int .i64 k ∧ Later w wr ∧ wr.heap[w2.heap.size]? = some (.cells #[.int .i64 S.sh, .int .i64 S.cu] 34 (0, 0)) ∧ ∃ P : Int, r = .int .i64 P ∧ Hid (P = sumPts (c.take k)) ∧ -1048576 * (k : Int) ≤ P ∧ P ≤ 1048576 * k) (fun _ i _ => c.length - (intOf i).toNat)
  case atStart => exact ⟨0, Nat.zero_le _, rfl, HL2.out.alloc _, heap_alloc_new _ _, 0, rfl, by simp [Hid, sumPts], by simp, by simp⟩
  case round =>
    obtain ⟨k, hk, rfl, hL, hB, P, rfl, HP, hlo, hhi⟩ := hrel
    have HB := Lib.hid hB
    clear hB
    by_cases hlt : k < c.length
    · obtain ⟨b1, off1, rfl, hr1⟩ := HR1.out (by omega)
      obtain ⟨t, ht1⟩ := get_ex (l := c) (k := k) (by omega)
      have HT1 := Lib.hid ht1
      obtain ⟨c1_0, c1_1, c1_2⟩ := (hr1.later hL).trm ht1
      clear ht1
      obtain ⟨t1, t2, t3, t4⟩ := isChain_ok HC.out HT1.out
      obtain ⟨p1, p2⟩ := pt0_bd t1 t2
      obtain ⟨PT, hPT⟩ : ∃ x, ptF 0 t.f = x := ⟨_, rfl⟩
      rw [hPT] at p1 p2
      have HPT := Lib.hid hPT
      clear hPT
      cases hq : t.dv
      all_goals
        rw [hq] at c1_2
        have HQ := Lib.hid hq
        clear hq
        go_wp2_with fail
        refine (w_implPoint _ _ _ (by decide) (by decide) t1 t2 (by omega) (by omega) _).mono ?_
        rintro e w4 ⟨rfl, hL1⟩
        rw [show ptF 0 ⟨t.f.d, t.f.t⟩ = PT from HPT.out]
        have HB4 := Lib.hid (hL1.keep (heap_alloc_old _ _ HB.out))
        go_wp2
        go_roundw
        case rel => first | exact ⟨k + 1, by omega, by go_num, by (repeat (with_reducible first | exact Later.refl _ | refine Later.alloc ?_ _ | refine Later.drew ?_ | refine Later.drewN ?_ _ | refine Later.setCell ?_ (by simp; try omega) _ | refine Later.trans ?_ (by assumption))), HB4.out, P + PT, rfl, by rw [Hid, take_snoc' HT1.out, sumPts_snoc, ptStep_n HQ.out, ← HP.out, HPT.out], by omega, by omega⟩ | exact ⟨k + 1, by omega, by go_num, by (repeat (with_reducible first | exact Later.refl _ | refine Later.alloc ?_ _ | refine Later.drew ?_ | refine Later.drewN ?_ _ | refine Later.setCell ?_ (by simp; try omega) _ | refine Later.trans ?_ (by assumption))), HB4.out, P - PT, rfl, by rw [Hid, take_snoc' HT1.out, sumPts_snoc, ptStep_y HQ.out, ← HP.out, HPT.out], by omega, by omega⟩
        case measure => simp [intOf]; omega
    · have hf : P = sumPts c := by
        have := HP.out
        rwa [take_eq_all (by omega)] at this
      have HG := Lib.hid hf
      clear hf
      obtain ⟨c9, f9, z9⟩ := blk_at HB.out
      go_wp2_with fail
      refine (w_moduloD _ (by omega) (by omega) _).mono ?_
      rintro e w4 ⟨rfl, rfl⟩
      go_wp2
      go_ret2
      exact ⟨by rw [HF.out, HS.out, ← HG.out]; rfl, by (repeat (with_reducible first | exact Later.refl _ | refine Later.alloc ?_ _ | refine Later.drew ?_ | refine Later.drewN ?_ _ | refine Later.setCell ?_ (by simp; try omega) _ | refine Later.trans ?_ (by assumption)))⟩

set_option maxHeartbeats 2000000 in
theorem w_specIsPlanFor (n : Int) (u v y z : Value) (st sd : List Int) (c : List Trm) (l : List Mov) (w : World) (h : IsNums w u st) (h' : IsNums w v sd) (hc : IsTrms w y c) (hl : IsMovs w z l) :
    Calls Try.prog 41 #[.agg #[.int .i64 n, u, v], y, z] w fun e w' => e = .returned (.tuple #[.bool (isPlan ⟨n, st, sd⟩ c l), .int .i64 (codePlan ⟨n, st, sd⟩ c)]) ∧ Later w w' := by
  have H := Lib.hid h
  have H' := Lib.hid h'
  have HY := Lib.hid hc
  have HZ := Lib.hid hl
  obtain ⟨_, _, au, capu, rfl, _, _, _⟩ := h
  obtain ⟨_, _, av, capv, rfl, _, _, _⟩ := h'
  obtain ⟨_, _, ay, capy, rfl, _, _, _⟩ := hc
  obtain ⟨_, _, az, capz, rfl, _, _, _⟩ := hl
  obtain ⟨X, hX⟩ : ∃ x, codePlan ⟨n, st, sd⟩ c = x := ⟨_, rfl⟩
  by_cases h0 : X = 0
  rotate_left
  · have HF := Lib.hid (isPlan_no (l := l) hX h0)
    have HX := Lib.hid hX
    have hb : (X != 0) = true := by simp [h0]
    rw [hX]
    clear hX h0
    go_enter Try.func41, Try.ntmps41
    go_wp2_with fail
    refine (w_l14Code _ _ _ _ _ _ _ _ (H.out.later ((Later.refl _).alloc _)) (H'.out.later ((Later.refl _).alloc _)) (HY.out.later ((Later.refl _).alloc _))).mono ?_
    rintro e w1 ⟨rfl, hL⟩
    rw [HX.out]
    go_wp2
    go_ret2
    exact ⟨by rw [HF.out]; rfl, by (repeat (with_reducible first | exact Later.refl _ | refine Later.alloc ?_ _ | refine Later.drew ?_ | refine Later.drewN ?_ _ | refine Later.setCell ?_ (by simp; try omega) _ | refine Later.trans ?_ (by assumption)))⟩
  subst h0
  have hCh := (codePlan_0 hX).2.1
  have HCh := Lib.hid hCh
  have hRu := (codePlan_0 hX).1
  have HX := Lib.hid hX
  cases hA : areMoves l
  · have hrc : runC ⟨n, st, sd⟩ ⟨0, 0⟩ l ≠ 0 := by
      have hcm : codeMoves l ≠ 0 := by
        intro hh
        have := codeMoves_eq l
        rw [hA] at this
        simp [hh] at this
      unfold runC codeRun
      rw [hRu]
      simp only [show isStg ⟨0, 0⟩ = true from by decide, Bool.and_self, if_true]
      rw [if_neg hcm]
      exact hcm
    have HF := Lib.hid (isPlan_run (l := l) hX hrc)
    have HA := Lib.hid hA
    rw [hX]
    clear hX hA hrc hRu hCh
    go_enter Try.func41, Try.ntmps41
    go_wp2_with fail
    refine (w_l14Code _ _ _ _ _ _ _ _ (H.out.later ((Later.refl _).alloc _)) (H'.out.later ((Later.refl _).alloc _)) (HY.out.later ((Later.refl _).alloc _))).mono ?_
    rintro e w1 ⟨rfl, hL⟩
    rw [HX.out]
    go_wp2_with fail
    refine (w_specAreMoves _ _ _ ((HZ.out.later ((Later.refl _).alloc _)).later hL)).mono ?_
    rintro e w2 ⟨rfl, hL2⟩
    rw [HA.out]
    go_wp2
    go_ret2
    exact ⟨by rw [HF.out]; rfl, by (repeat (with_reducible first | exact Later.refl _ | refine Later.alloc ?_ _ | refine Later.drew ?_ | refine Later.drewN ?_ _ | refine Later.setCell ?_ (by simp; try omega) _ | refine Later.trans ?_ (by assumption)))⟩
  have hA' := hA
  simp only [areMoves, Bool.and_eq_true, decide_eq_true_eq] at hA'
  have hcr : codeRun ⟨n, st, sd⟩ ⟨0, 0⟩ l = 0 := by
    unfold codeRun codeMoves
    rw [hRu]
    simp only [show isStg ⟨0, 0⟩ = true from by decide, Bool.and_self, if_true]
    rw [if_pos hA'.1, if_pos hA'.2]
  have HM := Lib.hid hA'.1
  have h30 := hA'.2
  have hsb := isStg_bd (lastSt_stg ⟨0, 0⟩ (runSt ⟨n, st, sd⟩ ⟨0, 0⟩ l) (by decide) (runSt_stg _ _ _))
  obtain ⟨S, hS⟩ : ∃ x, lastSt ⟨0, 0⟩ (runSt ⟨n, st, sd⟩ ⟨0, 0⟩ l) = x := ⟨_, rfl⟩
  obtain ⟨PS, hPS⟩ : ∃ x, sumPts c = x := ⟨_, rfl⟩
  have hpb := sumPts_bd hCh
  have HS := Lib.hid hS
  have HPS := Lib.hid hPS
  rw [hS] at hsb
  rw [hPS] at hpb
  obtain ⟨-, -, s3, s4⟩ := hsb
  obtain ⟨pb1, pb2⟩ := hpb
  have HA := Lib.hid hA
  by_cases hd : (runSt ⟨n, st, sd⟩ ⟨0, 0⟩ l).length = l.length
  rotate_left
  · have hrc : runC ⟨n, st, sd⟩ ⟨0, 0⟩ l = 5 := by
      unfold runC allDone
      rw [if_pos hcr, if_neg (by simp [hd])]
    have HF := Lib.hid (isPlan_run (l := l) hX (by omega))
    have hst : stopI ⟨n, st, sd⟩ ⟨0, 0⟩ l = ((runSt ⟨n, st, sd⟩ ⟨0, 0⟩ l).length : Int) := by unfold stopI; rw [if_neg hd]
    obtain ⟨T, hT⟩ : ∃ x, stopI ⟨n, st, sd⟩ ⟨0, 0⟩ l = x := ⟨_, rfl⟩
    have hT0 : 0 ≤ T := by omega
    have HT := Lib.hid hT
    rw [hX]
    clear hX hA hrc hRu hCh hA' hcr hS hPS hd hst hT
    go_enter Try.func41, Try.ntmps41
    go_wp2_with fail
    refine (w_l14Code _ _ _ _ _ _ _ _ (H.out.later ((Later.refl _).alloc _)) (H'.out.later ((Later.refl _).alloc _)) (HY.out.later ((Later.refl _).alloc _))).mono ?_
    rintro e w1 ⟨rfl, hL⟩
    rw [HX.out]
    go_wp2_with fail
    refine (w_specAreMoves _ _ _ ((HZ.out.later ((Later.refl _).alloc _)).later hL)).mono ?_
    rintro e w2 ⟨rfl, hL2⟩
    rw [HA.out]
    obtain ⟨c0, f0, z0⟩ := blk1 (hL.trans hL2)
    go_wp2_with fail
    refine (w_l12Run _ _ _ _ _ _ _ _ _ _ (((H.out.later ((Later.refl _).alloc _)).later hL).later hL2) (((H'.out.later ((Later.refl _).alloc _)).later hL).later hL2) (by decide) (((HZ.out.later ((Later.refl _).alloc _)).later hL).later hL2) HM.out h30).mono ?_
    rintro e w3 ⟨rfl, hL3⟩
    rw [HT.out]
    have HL3 := Lib.hid (show Later w w3 from by (repeat (with_reducible first | exact Later.refl _ | refine Later.alloc ?_ _ | refine Later.drew ?_ | refine Later.drewN ?_ _ | refine Later.setCell ?_ (by simp; try omega) _ | refine Later.trans ?_ (by assumption))))
    clear hL hL2 hL3 c0 f0 z0
    go_wp2_with fail
    refine wp_name ?_
    intro u hu
    have hL0 : Later w u := by rw [hu]; exact HL3.out.alloc _
    have hSB := hL0.size
    clear hu
    refine region_guards 38 [27, 28, 29, 30, 31, 32, 33, 34, 35, 36, 37, 6, 7] (fun g ac wc => sl ac 10 = .int .i64 T ∧
      (g 0 = true → sl ac 27 = .int .i64 T) ∧
      (g 1 = true → sl ac 28 = .bool false) ∧
      (g 2 = true → sl ac 29 = .bool false) ∧
      (g 3 = true → sl ac 30 = undef) ∧
      (g 4 = true → sl ac 31 = undef) ∧
      (g 5 = true → sl ac 32 = undef) ∧
      (g 6 = true → sl ac 33 = undef) ∧
      (g 7 = true → sl ac 34 = undef) ∧
      (g 8 = true → sl ac 35 = undef) ∧
      (g 9 = true → sl ac 36 = undef) ∧
      (g 10 = true → sl ac 37 = .bool false) ∧
      (g 11 = true → sl ac 6 = .bool false) ∧
      (g 12 = true → sl ac 7 = .int .i64 0) ∧
      Later w wc ∧
      u.heap.size ≤ wc.heap.size) (by kernel_rfl) (by kernel_rfl) rfl (by kernel_rfl) ?_ ?_ ?_
    · exact ⟨rfl, nofun, nofun, nofun, nofun, nofun, nofun, nofun, nofun, nofun, nofun, nofun, nofun, nofun, hL0.drew, Nat.le_refl _⟩
    · intro g ac wu hg ha hI
      obtain ⟨x10, i0, i1, i2, i3, i4, i5, i6, i7, i8, i9, i10, i11, i12, hL, hS⟩ := hI
      have a0 := i0 (hg 0 (by simp))
      have a1 := i1 (hg 1 (by simp))
      have a2 := i2 (hg 2 (by simp))
      have a3 := i3 (hg 3 (by simp))
      have a4 := i4 (hg 4 (by simp))
      have a5 := i5 (hg 5 (by simp))
      have a6 := i6 (hg 6 (by simp))
      have a7 := i7 (hg 7 (by simp))
      have a8 := i8 (hg 8 (by simp))
      have a9 := i9 (hg 9 (by simp))
      have a10 := i10 (hg 10 (by simp))
      have a11 := i11 (hg 11 (by simp))
      have a12 := i12 (hg 12 (by simp))
      simp only [putAll, a0, a1, a2, a3, a4, a5, a6, a7, a8, a9, a10, a11, a12] at ha
      simp only [Act.put, List.setIfInBounds_toArray, List.set_cons_succ, List.set_cons_zero] at ha
      rw [ha]
      clear x10 i0 i1 i2 i3 i4 i5 i6 i7 i8 i9 i10 i11 i12 a0 a1 a2 a3 a4 a5 a6 a7 a8 a9 a10 a11 a12 hg ha
      go_wp2
      go_ret2
      exact ⟨by rw [HF.out]; rfl, hL⟩
    · refine .cons ?_ (.cons ?_ (.cons ?_ (.cons ?_ (.cons ?_ (.cons ?_ (.cons ?_ (.cons ?_ (.cons ?_ (.cons ?_ (.cons ?_ (.cons ?_ (.cons ?_ .nil))))))))))))
      · refine GSlot.of rfl ?_
        unfold SlotStep
        intro g ac wc hn hk hr hI K' hK
        obtain ⟨x10, i0, i1, i2, i3, i4, i5, i6, i7, i8, i9, i10, i11, i12, hL, hS⟩ := hI
        simp only [Region.binds] at hr
        simp at hr
        replace hK := Lib.hid hK
        replace i0 := Lib.hid i0
        replace i1 := Lib.hid i1
        replace i2 := Lib.hid i2
        replace i3 := Lib.hid i3
        replace i4 := Lib.hid i4
        replace i5 := Lib.hid i5
        replace i6 := Lib.hid i6
        replace i7 := Lib.hid i7
        replace i8 := Lib.hid i8
        replace i9 := Lib.hid i9
        replace i10 := Lib.hid i10
        replace i11 := Lib.hid i11
        replace i12 := Lib.hid i12
        go_simp
        exact hK.out _ _ ⟨(keepB x10 (by decide)), (fun _ => put_eq (by omega)), (keepF i1.out (by decide)), (keepF i2.out (by decide)), (keepF i3.out (by decide)), (keepF i4.out (by decide)), (keepF i5.out (by decide)), (keepF i6.out (by decide)), (keepF i7.out (by decide)), (keepF i8.out (by decide)), (keepF i9.out (by decide)), (keepF i10.out (by decide)), (keepF i11.out (by decide)), (keepF i12.out (by decide)), hL, hS⟩
      · refine GSlot.of rfl ?_
        unfold SlotStep
        intro g ac wc hn hk hr hI K' hK
        obtain ⟨x10, i0, i1, i2, i3, i4, i5, i6, i7, i8, i9, i10, i11, i12, hL, hS⟩ := hI
        simp only [Region.binds] at hr
        simp at hr
        replace hK := Lib.hid hK
        have y0 := i0 (by first | exact hr | exact hr.1 | exact hr.2 | exact hr.2.1 | exact hr.2.2 | exact hr.2.2.1 | exact hr.2.2.2 | simp [hr])
        replace i0 := Lib.hid i0
        replace i1 := Lib.hid i1
        replace i2 := Lib.hid i2
        replace i3 := Lib.hid i3
        replace i4 := Lib.hid i4
        replace i5 := Lib.hid i5
        replace i6 := Lib.hid i6
        replace i7 := Lib.hid i7
        replace i8 := Lib.hid i8
        replace i9 := Lib.hid i9
        replace i10 := Lib.hid i10
        replace i11 := Lib.hid i11
        replace i12 := Lib.hid i12
        go_simp
        rw [show decide (T < 0) = false from by simp; omega]
        exact hK.out _ _ ⟨(keepB x10 (by decide)), (keepF i0.out (by decide)), (fun _ => put_eq (by omega)), (keepF i2.out (by decide)), (keepF i3.out (by decide)), (keepF i4.out (by decide)), (keepF i5.out (by decide)), (keepF i6.out (by decide)), (keepF i7.out (by decide)), (keepF i8.out (by decide)), (keepF i9.out (by decide)), (keepF i10.out (by decide)), (keepF i11.out (by decide)), (keepF i12.out (by decide)), hL, hS⟩
      · refine GSlot.of rfl ?_
        unfold SlotStep
        intro g ac wc hn hk hr hI K' hK
        obtain ⟨x10, i0, i1, i2, i3, i4, i5, i6, i7, i8, i9, i10, i11, i12, hL, hS⟩ := hI
        simp only [Region.binds] at hr
        simp at hr
        replace hK := Lib.hid hK
        have y1 := i1 (by first | exact hr | exact hr.1 | exact hr.2 | exact hr.2.1 | exact hr.2.2 | exact hr.2.2.1 | exact hr.2.2.2 | simp [hr])
        replace i0 := Lib.hid i0
        replace i1 := Lib.hid i1
        replace i2 := Lib.hid i2
        replace i3 := Lib.hid i3
        replace i4 := Lib.hid i4
        replace i5 := Lib.hid i5
        replace i6 := Lib.hid i6
        replace i7 := Lib.hid i7
        replace i8 := Lib.hid i8
        replace i9 := Lib.hid i9
        replace i10 := Lib.hid i10
        replace i11 := Lib.hid i11
        replace i12 := Lib.hid i12
        go_simp
        exact hK.out _ _ ⟨(keepB x10 (by decide)), (keepF i0.out (by decide)), (keepF i1.out (by decide)), (fun _ => put_eq (by omega)), (keepF i3.out (by decide)), (keepF i4.out (by decide)), (keepF i5.out (by decide)), (keepF i6.out (by decide)), (keepF i7.out (by decide)), (keepF i8.out (by decide)), (keepF i9.out (by decide)), (keepF i10.out (by decide)), (keepF i11.out (by decide)), (keepF i12.out (by decide)), hL, hS⟩
      · refine GSlot.skip rfl rfl (by decide) (fun g ac wc hr hI => ?_) ?_
        · obtain ⟨x10, i0, i1, i2, i3, i4, i5, i6, i7, i8, i9, i10, i11, i12, hL, hS⟩ := hI
          simp only [Region.binds] at hr
          simp at hr
          exact i2 (by first | exact hr | exact hr.1 | exact hr.2 | exact hr.2.1 | exact hr.2.2 | exact hr.2.2.1 | exact hr.2.2.2 | simp [hr])
        intro g ac wc hn hk hr hI
        obtain ⟨x10, i0, i1, i2, i3, i4, i5, i6, i7, i8, i9, i10, i11, i12, hL, hS⟩ := hI
        simp only [Region.binds] at hr
        simp at hr
        exact ⟨(keepB x10 (by decide)), (keepF i0 (by decide)), (keepF i1 (by decide)), (keepF i2 (by decide)), (fun _ => put_eq (by omega)), (keepF i4 (by decide)), (keepF i5 (by decide)), (keepF i6 (by decide)), (keepF i7 (by decide)), (keepF i8 (by decide)), (keepF i9 (by decide)), (keepF i10 (by decide)), (keepF i11 (by decide)), (keepF i12 (by decide)), hL, hS⟩
      · refine GSlot.skip rfl rfl (by decide) (fun g ac wc hr hI => ?_) ?_
        · obtain ⟨x10, i0, i1, i2, i3, i4, i5, i6, i7, i8, i9, i10, i11, i12, hL, hS⟩ := hI
          simp only [Region.binds] at hr
          simp at hr
          exact i2 (by first | exact hr | exact hr.1 | exact hr.2 | exact hr.2.1 | exact hr.2.2 | exact hr.2.2.1 | exact hr.2.2.2 | simp [hr])
        intro g ac wc hn hk hr hI
        obtain ⟨x10, i0, i1, i2, i3, i4, i5, i6, i7, i8, i9, i10, i11, i12, hL, hS⟩ := hI
        simp only [Region.binds] at hr
        simp at hr
        exact ⟨(keepB x10 (by decide)), (keepF i0 (by decide)), (keepF i1 (by decide)), (keepF i2 (by decide)), (keepF i3 (by decide)), (fun _ => put_eq (by omega)), (keepF i5 (by decide)), (keepF i6 (by decide)), (keepF i7 (by decide)), (keepF i8 (by decide)), (keepF i9 (by decide)), (keepF i10 (by decide)), (keepF i11 (by decide)), (keepF i12 (by decide)), hL, hS⟩
      · refine GSlot.skip rfl rfl (by decide) (fun g ac wc hr hI => ?_) ?_
        · obtain ⟨x10, i0, i1, i2, i3, i4, i5, i6, i7, i8, i9, i10, i11, i12, hL, hS⟩ := hI
          simp only [Region.binds] at hr
          simp at hr
          exact i2 (by first | exact hr | exact hr.1 | exact hr.2 | exact hr.2.1 | exact hr.2.2 | exact hr.2.2.1 | exact hr.2.2.2 | simp [hr])
        intro g ac wc hn hk hr hI
        obtain ⟨x10, i0, i1, i2, i3, i4, i5, i6, i7, i8, i9, i10, i11, i12, hL, hS⟩ := hI
        simp only [Region.binds] at hr
        simp at hr
        exact ⟨(keepB x10 (by decide)), (keepF i0 (by decide)), (keepF i1 (by decide)), (keepF i2 (by decide)), (keepF i3 (by decide)), (keepF i4 (by decide)), (fun _ => put_eq (by omega)), (keepF i6 (by decide)), (keepF i7 (by decide)), (keepF i8 (by decide)), (keepF i9 (by decide)), (keepF i10 (by decide)), (keepF i11 (by decide)), (keepF i12 (by decide)), hL, hS⟩
      · refine GSlot.skip rfl rfl (by decide) (fun g ac wc hr hI => ?_) ?_
        · obtain ⟨x10, i0, i1, i2, i3, i4, i5, i6, i7, i8, i9, i10, i11, i12, hL, hS⟩ := hI
          simp only [Region.binds] at hr
          simp at hr
          exact i2 (by first | exact hr | exact hr.1 | exact hr.2 | exact hr.2.1 | exact hr.2.2 | exact hr.2.2.1 | exact hr.2.2.2 | simp [hr])
        intro g ac wc hn hk hr hI
        obtain ⟨x10, i0, i1, i2, i3, i4, i5, i6, i7, i8, i9, i10, i11, i12, hL, hS⟩ := hI
        simp only [Region.binds] at hr
        simp at hr
        exact ⟨(keepB x10 (by decide)), (keepF i0 (by decide)), (keepF i1 (by decide)), (keepF i2 (by decide)), (keepF i3 (by decide)), (keepF i4 (by decide)), (keepF i5 (by decide)), (fun _ => put_eq (by omega)), (keepF i7 (by decide)), (keepF i8 (by decide)), (keepF i9 (by decide)), (keepF i10 (by decide)), (keepF i11 (by decide)), (keepF i12 (by decide)), hL, hS⟩
      · refine GSlot.skip rfl rfl (by decide) (fun g ac wc hr hI => ?_) ?_
        · obtain ⟨x10, i0, i1, i2, i3, i4, i5, i6, i7, i8, i9, i10, i11, i12, hL, hS⟩ := hI
          simp only [Region.binds] at hr
          simp at hr
          exact i2 (by first | exact hr | exact hr.1 | exact hr.2 | exact hr.2.1 | exact hr.2.2 | exact hr.2.2.1 | exact hr.2.2.2 | simp [hr])
        intro g ac wc hn hk hr hI
        obtain ⟨x10, i0, i1, i2, i3, i4, i5, i6, i7, i8, i9, i10, i11, i12, hL, hS⟩ := hI
        simp only [Region.binds] at hr
        simp at hr
        exact ⟨(keepB x10 (by decide)), (keepF i0 (by decide)), (keepF i1 (by decide)), (keepF i2 (by decide)), (keepF i3 (by decide)), (keepF i4 (by decide)), (keepF i5 (by decide)), (keepF i6 (by decide)), (fun _ => put_eq (by omega)), (keepF i8 (by decide)), (keepF i9 (by decide)), (keepF i10 (by decide)), (keepF i11 (by decide)), (keepF i12 (by decide)), hL, hS⟩
      · refine GSlot.skip rfl rfl (by decide) (fun g ac wc hr hI => ?_) ?_
        · obtain ⟨x10, i0, i1, i2, i3, i4, i5, i6, i7, i8, i9, i10, i11, i12, hL, hS⟩ := hI
          simp only [Region.binds] at hr
          simp at hr
          exact i2 (by first | exact hr | exact hr.1 | exact hr.2 | exact hr.2.1 | exact hr.2.2 | exact hr.2.2.1 | exact hr.2.2.2 | simp [hr])
        intro g ac wc hn hk hr hI
        obtain ⟨x10, i0, i1, i2, i3, i4, i5, i6, i7, i8, i9, i10, i11, i12, hL, hS⟩ := hI
        simp only [Region.binds] at hr
        simp at hr
        exact ⟨(keepB x10 (by decide)), (keepF i0 (by decide)), (keepF i1 (by decide)), (keepF i2 (by decide)), (keepF i3 (by decide)), (keepF i4 (by decide)), (keepF i5 (by decide)), (keepF i6 (by decide)), (keepF i7 (by decide)), (fun _ => put_eq (by omega)), (keepF i9 (by decide)), (keepF i10 (by decide)), (keepF i11 (by decide)), (keepF i12 (by decide)), hL, hS⟩
      · refine GSlot.skip rfl rfl (by decide) (fun g ac wc hr hI => ?_) ?_
        · obtain ⟨x10, i0, i1, i2, i3, i4, i5, i6, i7, i8, i9, i10, i11, i12, hL, hS⟩ := hI
          simp only [Region.binds] at hr
          simp at hr
          exact i2 (by first | exact hr | exact hr.1 | exact hr.2 | exact hr.2.1 | exact hr.2.2 | exact hr.2.2.1 | exact hr.2.2.2 | simp [hr])
        intro g ac wc hn hk hr hI
        obtain ⟨x10, i0, i1, i2, i3, i4, i5, i6, i7, i8, i9, i10, i11, i12, hL, hS⟩ := hI
        simp only [Region.binds] at hr
        simp at hr
        exact ⟨(keepB x10 (by decide)), (keepF i0 (by decide)), (keepF i1 (by decide)), (keepF i2 (by decide)), (keepF i3 (by decide)), (keepF i4 (by decide)), (keepF i5 (by decide)), (keepF i6 (by decide)), (keepF i7 (by decide)), (keepF i8 (by decide)), (fun _ => put_eq (by omega)), (keepF i10 (by decide)), (keepF i11 (by decide)), (keepF i12 (by decide)), hL, hS⟩
      · refine GSlot.of rfl ?_
        unfold SlotStep
        intro g ac wc hn hk hr hI K' hK
        obtain ⟨x10, i0, i1, i2, i3, i4, i5, i6, i7, i8, i9, i10, i11, i12, hL, hS⟩ := hI
        simp only [Region.binds] at hr
        simp at hr
        replace hK := Lib.hid hK
        have y2 := i2 (by first | exact hr | exact hr.1 | exact hr.2 | exact hr.2.1 | exact hr.2.2 | exact hr.2.2.1 | exact hr.2.2.2 | simp [hr])
        have z2 := sl_get y2 (by omega)
        replace i0 := Lib.hid i0
        replace i1 := Lib.hid i1
        replace i2 := Lib.hid i2
        replace i3 := Lib.hid i3
        replace i4 := Lib.hid i4
        replace i5 := Lib.hid i5
        replace i6 := Lib.hid i6
        replace i7 := Lib.hid i7
        replace i8 := Lib.hid i8
        replace i9 := Lib.hid i9
        replace i10 := Lib.hid i10
        replace i11 := Lib.hid i11
        replace i12 := Lib.hid i12
        go_simp
        exact hK.out _ _ ⟨(keepB x10 (by decide)), (keepF i0.out (by decide)), (keepF i1.out (by decide)), (keepF i2.out (by decide)), (keepF i3.out (by decide)), (keepF i4.out (by decide)), (keepF i5.out (by decide)), (keepF i6.out (by decide)), (keepF i7.out (by decide)), (keepF i8.out (by decide)), (keepF i9.out (by decide)), (fun _ => put_eq (by omega)), (keepF i11.out (by decide)), (keepF i12.out (by decide)), hL, hS⟩
      · refine GSlot.of rfl ?_
        unfold SlotStep
        intro g ac wc hn hk hr hI K' hK
        obtain ⟨x10, i0, i1, i2, i3, i4, i5, i6, i7, i8, i9, i10, i11, i12, hL, hS⟩ := hI
        simp only [Region.binds] at hr
        simp at hr
        replace hK := Lib.hid hK
        have y10 := i10 (by first | exact hr | exact hr.1 | exact hr.2 | exact hr.2.1 | exact hr.2.2 | exact hr.2.2.1 | exact hr.2.2.2 | simp [hr])
        replace i0 := Lib.hid i0
        replace i1 := Lib.hid i1
        replace i2 := Lib.hid i2
        replace i3 := Lib.hid i3
        replace i4 := Lib.hid i4
        replace i5 := Lib.hid i5
        replace i6 := Lib.hid i6
        replace i7 := Lib.hid i7
        replace i8 := Lib.hid i8
        replace i9 := Lib.hid i9
        replace i10 := Lib.hid i10
        replace i11 := Lib.hid i11
        replace i12 := Lib.hid i12
        go_simp
        exact hK.out _ _ ⟨(keepB x10 (by decide)), (keepF i0.out (by decide)), (keepF i1.out (by decide)), (keepF i2.out (by decide)), (keepF i3.out (by decide)), (keepF i4.out (by decide)), (keepF i5.out (by decide)), (keepF i6.out (by decide)), (keepF i7.out (by decide)), (keepF i8.out (by decide)), (keepF i9.out (by decide)), (keepF i10.out (by decide)), (fun _ => put_eq (by omega)), (keepF i12.out (by decide)), hL, hS⟩
      · refine GSlot.of rfl ?_
        unfold SlotStep
        intro g ac wc hn hk hr hI K' hK
        obtain ⟨x10, i0, i1, i2, i3, i4, i5, i6, i7, i8, i9, i10, i11, i12, hL, hS⟩ := hI
        simp only [Region.binds] at hr
        simp at hr
        replace hK := Lib.hid hK
        replace i0 := Lib.hid i0
        replace i1 := Lib.hid i1
        replace i2 := Lib.hid i2
        replace i3 := Lib.hid i3
        replace i4 := Lib.hid i4
        replace i5 := Lib.hid i5
        replace i6 := Lib.hid i6
        replace i7 := Lib.hid i7
        replace i8 := Lib.hid i8
        replace i9 := Lib.hid i9
        replace i10 := Lib.hid i10
        replace i11 := Lib.hid i11
        replace i12 := Lib.hid i12
        go_simp
        exact hK.out _ _ ⟨(keepB x10 (by decide)), (keepF i0.out (by decide)), (keepF i1.out (by decide)), (keepF i2.out (by decide)), (keepF i3.out (by decide)), (keepF i4.out (by decide)), (keepF i5.out (by decide)), (keepF i6.out (by decide)), (keepF i7.out (by decide)), (keepF i8.out (by decide)), (keepF i9.out (by decide)), (keepF i10.out (by decide)), (keepF i11.out (by decide)), (fun _ => put_eq (by omega)), hL, hS⟩
  have hrc : runC ⟨n, st, sd⟩ ⟨0, 0⟩ l = 0 := by
    unfold runC allDone
    rw [if_pos hcr, if_pos (by simp [hd])]
  have hmv : runMv ⟨n, st, sd⟩ ⟨0, 0⟩ l = S := by
    unfold runMv allDone
    rw [if_pos hcr, if_pos (by simp [hd]), hS]
  have HF := Lib.hid (show isPlan ⟨n, st, sd⟩ c l = ((S.cu - PS) % 1048576 == 0) from by rw [isPlan_yes hX hrc, hmv, hPS])
  have HT := Lib.hid (show stopI ⟨n, st, sd⟩ ⟨0, 0⟩ l = -1 from by unfold stopI; rw [if_pos hd])
  rw [hX]
  clear hX hA hrc hRu hCh hA' hcr hS hPS hd hmv
  go_enter Try.func41, Try.ntmps41
  go_wp2_with fail
  refine (w_l14Code _ _ _ _ _ _ _ _ (H.out.later ((Later.refl _).alloc _)) (H'.out.later ((Later.refl _).alloc _)) (HY.out.later ((Later.refl _).alloc _))).mono ?_
  rintro e w1 ⟨rfl, hL⟩
  rw [HX.out]
  go_wp2_with fail
  refine (w_specAreMoves _ _ _ ((HZ.out.later ((Later.refl _).alloc _)).later hL)).mono ?_
  rintro e w2 ⟨rfl, hL2⟩
  rw [HA.out]
  obtain ⟨c0, f0, z0⟩ := blk1 (hL.trans hL2)
  go_wp2_with fail
  refine (w_l12Run _ _ _ _ _ _ _ _ _ _ (((H.out.later ((Later.refl _).alloc _)).later hL).later hL2) (((H'.out.later ((Later.refl _).alloc _)).later hL).later hL2) (by decide) (((HZ.out.later ((Later.refl _).alloc _)).later hL).later hL2) HM.out h30).mono ?_
  rintro e w3 ⟨rfl, hL3⟩
  rw [HT.out, HS.out]
  clear c0 f0 z0
  have HL3 := Lib.hid (show Later w w3 from by (repeat (with_reducible first | exact Later.refl _ | refine Later.alloc ?_ _ | refine Later.drew ?_ | refine Later.drewN ?_ _ | refine Later.setCell ?_ (by simp; try omega) _ | refine Later.trans ?_ (by assumption))))
  clear hL hL2 hL3
  go_wp2_with fail
  refine wp_name ?_
  intro u hu
  have hL0 : Later w u := by rw [hu]; exact HL3.out.alloc _
  have Ks : u.heap[w3.heap.size]? = some (.cells #[.int .i64 S.sh, .int .i64 S.cu] 34 (0, 0)) := by rw [hu]; exact heap_alloc_new _ _
  have hSB := hL0.size
  clear hu
  refine region_guards 38 [27, 28, 29, 30, 31, 32, 33, 34, 35, 36, 37, 6, 7] (fun g ac wc => sl ac 1 = .slice ay c.length capy ∧
    sl ac 9 = .pointer (some ⟨w3.heap.size, 0, none⟩) ∧
    sl ac 10 = .int .i64 (-1) ∧
    (g 0 = true → sl ac 27 = .int .i64 (-1)) ∧
    (g 1 = true → sl ac 28 = .bool true) ∧
    (g 2 = true → sl ac 29 = .bool true) ∧
    (g 3 = true → sl ac 30 = .pointer (some ⟨w3.heap.size, 1, none⟩)) ∧
    (g 4 = true → sl ac 31 = .int .i64 S.cu) ∧
    (g 5 = true → sl ac 32 = .slice ay c.length capy) ∧
    (g 6 = true → sl ac 33 = .int .i64 PS) ∧
    (g 7 = true → sl ac 34 = .int .i64 (S.cu - PS)) ∧
    (g 8 = true → sl ac 35 = .int .i64 ((S.cu - PS) % 1048576)) ∧
    (g 9 = true → sl ac 36 = .bool (((S.cu - PS) % 1048576) == 0)) ∧
    (g 10 = true → sl ac 37 = .bool (((S.cu - PS) % 1048576) == 0)) ∧
    (g 11 = true → sl ac 6 = .bool (((S.cu - PS) % 1048576) == 0)) ∧
    (g 12 = true → sl ac 7 = .int .i64 0) ∧
    Later w wc ∧
    u.heap.size ≤ wc.heap.size ∧
    wc.heap[w3.heap.size]? = some (.cells #[.int .i64 S.sh, .int .i64 S.cu] 34 (0, 0))) (by kernel_rfl) (by kernel_rfl) rfl (by kernel_rfl) ?_ ?_ ?_
  · exact ⟨rfl, rfl, rfl, nofun, nofun, nofun, nofun, nofun, nofun, nofun, nofun, nofun, nofun, nofun, nofun, nofun, hL0.drew, Nat.le_refl _, Ks⟩
  · intro g ac wu hg ha hI
    obtain ⟨x1, x9, x10, i0, i1, i2, i3, i4, i5, i6, i7, i8, i9, i10, i11, i12, hL, hS, Bs⟩ := hI
    have a0 := i0 (hg 0 (by simp))
    have a1 := i1 (hg 1 (by simp))
    have a2 := i2 (hg 2 (by simp))
    have a3 := i3 (hg 3 (by simp))
    have a4 := i4 (hg 4 (by simp))
    have a5 := i5 (hg 5 (by simp))
    have a6 := i6 (hg 6 (by simp))
    have a7 := i7 (hg 7 (by simp))
    have a8 := i8 (hg 8 (by simp))
    have a9 := i9 (hg 9 (by simp))
    have a10 := i10 (hg 10 (by simp))
    have a11 := i11 (hg 11 (by simp))
    have a12 := i12 (hg 12 (by simp))
    simp only [putAll, a0, a1, a2, a3, a4, a5, a6, a7, a8, a9, a10, a11, a12] at ha
    simp only [Act.put, List.setIfInBounds_toArray, List.set_cons_succ, List.set_cons_zero] at ha
    rw [ha]
    clear x1 x9 x10 i0 i1 i2 i3 i4 i5 i6 i7 i8 i9 i10 i11 i12 a0 a1 a2 a3 a4 a5 a6 a7 a8 a9 a10 a11 a12 hg ha
    go_wp2
    go_ret2
    exact ⟨by rw [HF.out]; rfl, hL⟩
  · refine .cons ?_ (.cons ?_ (.cons ?_ (.cons ?_ (.cons ?_ (.cons ?_ (.cons ?_ (.cons ?_ (.cons ?_ (.cons ?_ (.cons ?_ (.cons ?_ (.cons ?_ .nil))))))))))))
    · refine GSlot.of rfl ?_
      unfold SlotStep
      intro g ac wc hn hk hr hI K' hK
      obtain ⟨x1, x9, x10, i0, i1, i2, i3, i4, i5, i6, i7, i8, i9, i10, i11, i12, hL, hS, Bs⟩ := hI
      simp only [Region.binds] at hr
      simp at hr
      replace hK := Lib.hid hK
      replace i0 := Lib.hid i0
      replace i1 := Lib.hid i1
      replace i2 := Lib.hid i2
      replace i3 := Lib.hid i3
      replace i4 := Lib.hid i4
      replace i5 := Lib.hid i5
      replace i6 := Lib.hid i6
      replace i7 := Lib.hid i7
      replace i8 := Lib.hid i8
      replace i9 := Lib.hid i9
      replace i10 := Lib.hid i10
      replace i11 := Lib.hid i11
      replace i12 := Lib.hid i12
      go_simp
      exact hK.out _ _ ⟨(keepB x1 (by decide)), (keepB x9 (by decide)), (keepB x10 (by decide)), (fun _ => put_eq (by omega)), (keepF i1.out (by decide)), (keepF i2.out (by decide)), (keepF i3.out (by decide)), (keepF i4.out (by decide)), (keepF i5.out (by decide)), (keepF i6.out (by decide)), (keepF i7.out (by decide)), (keepF i8.out (by decide)), (keepF i9.out (by decide)), (keepF i10.out (by decide)), (keepF i11.out (by decide)), (keepF i12.out (by decide)), hL, hS, Bs⟩
    · refine GSlot.of rfl ?_
      unfold SlotStep
      intro g ac wc hn hk hr hI K' hK
      obtain ⟨x1, x9, x10, i0, i1, i2, i3, i4, i5, i6, i7, i8, i9, i10, i11, i12, hL, hS, Bs⟩ := hI
      simp only [Region.binds] at hr
      simp at hr
      replace hK := Lib.hid hK
      have y0 := i0 (by first | exact hr | exact hr.1 | exact hr.2 | exact hr.2.1 | exact hr.2.2 | exact hr.2.2.1 | exact hr.2.2.2 | simp [hr])
      replace i0 := Lib.hid i0
      replace i1 := Lib.hid i1
      replace i2 := Lib.hid i2
      replace i3 := Lib.hid i3
      replace i4 := Lib.hid i4
      replace i5 := Lib.hid i5
      replace i6 := Lib.hid i6
      replace i7 := Lib.hid i7
      replace i8 := Lib.hid i8
      replace i9 := Lib.hid i9
      replace i10 := Lib.hid i10
      replace i11 := Lib.hid i11
      replace i12 := Lib.hid i12
      go_simp
      exact hK.out _ _ ⟨(keepB x1 (by decide)), (keepB x9 (by decide)), (keepB x10 (by decide)), (keepF i0.out (by decide)), (fun _ => put_eq (by omega)), (keepF i2.out (by decide)), (keepF i3.out (by decide)), (keepF i4.out (by decide)), (keepF i5.out (by decide)), (keepF i6.out (by decide)), (keepF i7.out (by decide)), (keepF i8.out (by decide)), (keepF i9.out (by decide)), (keepF i10.out (by decide)), (keepF i11.out (by decide)), (keepF i12.out (by decide)), hL, hS, Bs⟩
    · refine GSlot.of rfl ?_
      unfold SlotStep
      intro g ac wc hn hk hr hI K' hK
      obtain ⟨x1, x9, x10, i0, i1, i2, i3, i4, i5, i6, i7, i8, i9, i10, i11, i12, hL, hS, Bs⟩ := hI
      simp only [Region.binds] at hr
      simp at hr
      replace hK := Lib.hid hK
      have y1 := i1 (by first | exact hr | exact hr.1 | exact hr.2 | exact hr.2.1 | exact hr.2.2 | exact hr.2.2.1 | exact hr.2.2.2 | simp [hr])
      replace i0 := Lib.hid i0
      replace i1 := Lib.hid i1
      replace i2 := Lib.hid i2
      replace i3 := Lib.hid i3
      replace i4 := Lib.hid i4
      replace i5 := Lib.hid i5
      replace i6 := Lib.hid i6
      replace i7 := Lib.hid i7
      replace i8 := Lib.hid i8
      replace i9 := Lib.hid i9
      replace i10 := Lib.hid i10
      replace i11 := Lib.hid i11
      replace i12 := Lib.hid i12
      go_simp
      exact hK.out _ _ ⟨(keepB x1 (by decide)), (keepB x9 (by decide)), (keepB x10 (by decide)), (keepF i0.out (by decide)), (keepF i1.out (by decide)), (fun _ => put_eq (by omega)), (keepF i3.out (by decide)), (keepF i4.out (by decide)), (keepF i5.out (by decide)), (keepF i6.out (by decide)), (keepF i7.out (by decide)), (keepF i8.out (by decide)), (keepF i9.out (by decide)), (keepF i10.out (by decide)), (keepF i11.out (by decide)), (keepF i12.out (by decide)), hL, hS, Bs⟩
    · refine GSlot.want rfl rfl (by decide) (fun g ac wc hr hI => ?_) ?_
      · obtain ⟨x1, x9, x10, i0, i1, i2, i3, i4, i5, i6, i7, i8, i9, i10, i11, i12, hL, hS, Bs⟩ := hI
        simp only [Region.binds] at hr
        simp at hr
        exact i2 (by first | exact hr | exact hr.1 | exact hr.2 | exact hr.2.1 | exact hr.2.2 | exact hr.2.2.1 | exact hr.2.2.2 | simp [hr])
      unfold SlotStep
      intro g ac wc hn hk hr hI K' hK
      obtain ⟨x1, x9, x10, i0, i1, i2, i3, i4, i5, i6, i7, i8, i9, i10, i11, i12, hL, hS, Bs⟩ := hI
      simp only [Region.binds] at hr
      simp at hr
      replace hK := Lib.hid hK
      replace i0 := Lib.hid i0
      replace i1 := Lib.hid i1
      replace i2 := Lib.hid i2
      replace i3 := Lib.hid i3
      replace i4 := Lib.hid i4
      replace i5 := Lib.hid i5
      replace i6 := Lib.hid i6
      replace i7 := Lib.hid i7
      replace i8 := Lib.hid i8
      replace i9 := Lib.hid i9
      replace i10 := Lib.hid i10
      replace i11 := Lib.hid i11
      replace i12 := Lib.hid i12
      go_simp
      exact hK.out _ _ ⟨(keepB x1 (by decide)), (keepB x9 (by decide)), (keepB x10 (by decide)), (keepF i0.out (by decide)), (keepF i1.out (by decide)), (keepF i2.out (by decide)), (fun _ => put_eq (by omega)), (keepF i4.out (by decide)), (keepF i5.out (by decide)), (keepF i6.out (by decide)), (keepF i7.out (by decide)), (keepF i8.out (by decide)), (keepF i9.out (by decide)), (keepF i10.out (by decide)), (keepF i11.out (by decide)), (keepF i12.out (by decide)), hL, hS, Bs⟩
    · refine GSlot.want rfl rfl (by decide) (fun g ac wc hr hI => ?_) ?_
      · obtain ⟨x1, x9, x10, i0, i1, i2, i3, i4, i5, i6, i7, i8, i9, i10, i11, i12, hL, hS, Bs⟩ := hI
        simp only [Region.binds] at hr
        simp at hr
        exact i2 (by first | exact hr | exact hr.1 | exact hr.2 | exact hr.2.1 | exact hr.2.2 | exact hr.2.2.1 | exact hr.2.2.2 | simp [hr])
      unfold SlotStep
      intro g ac wc hn hk hr hI K' hK
      obtain ⟨x1, x9, x10, i0, i1, i2, i3, i4, i5, i6, i7, i8, i9, i10, i11, i12, hL, hS, Bs⟩ := hI
      simp only [Region.binds] at hr
      simp at hr
      replace hK := Lib.hid hK
      have y3 := i3 (by first | exact hr | exact hr.1 | exact hr.2 | exact hr.2.1 | exact hr.2.2 | exact hr.2.2.1 | exact hr.2.2.2 | simp [hr])
      replace i0 := Lib.hid i0
      replace i1 := Lib.hid i1
      replace i2 := Lib.hid i2
      replace i3 := Lib.hid i3
      replace i4 := Lib.hid i4
      replace i5 := Lib.hid i5
      replace i6 := Lib.hid i6
      replace i7 := Lib.hid i7
      replace i8 := Lib.hid i8
      replace i9 := Lib.hid i9
      replace i10 := Lib.hid i10
      replace i11 := Lib.hid i11
      replace i12 := Lib.hid i12
      have hbb := blk_at Bs
      have c0 := hbb.1
      have f0 := hbb.2.1
      have z0 := hbb.2.2
      clear hbb
      go_simp
      exact hK.out _ _ ⟨(keepB x1 (by decide)), (keepB x9 (by decide)), (keepB x10 (by decide)), (keepF i0.out (by decide)), (keepF i1.out (by decide)), (keepF i2.out (by decide)), (keepF i3.out (by decide)), (fun _ => put_eq (by omega)), (keepF i5.out (by decide)), (keepF i6.out (by decide)), (keepF i7.out (by decide)), (keepF i8.out (by decide)), (keepF i9.out (by decide)), (keepF i10.out (by decide)), (keepF i11.out (by decide)), (keepF i12.out (by decide)), hL, hS, Bs⟩
    · refine GSlot.want rfl rfl (by decide) (fun g ac wc hr hI => ?_) ?_
      · obtain ⟨x1, x9, x10, i0, i1, i2, i3, i4, i5, i6, i7, i8, i9, i10, i11, i12, hL, hS, Bs⟩ := hI
        simp only [Region.binds] at hr
        simp at hr
        exact i2 (by first | exact hr | exact hr.1 | exact hr.2 | exact hr.2.1 | exact hr.2.2 | exact hr.2.2.1 | exact hr.2.2.2 | simp [hr])
      unfold SlotStep
      intro g ac wc hn hk hr hI K' hK
      obtain ⟨x1, x9, x10, i0, i1, i2, i3, i4, i5, i6, i7, i8, i9, i10, i11, i12, hL, hS, Bs⟩ := hI
      simp only [Region.binds] at hr
      simp at hr
      replace hK := Lib.hid hK
      replace i0 := Lib.hid i0
      replace i1 := Lib.hid i1
      replace i2 := Lib.hid i2
      replace i3 := Lib.hid i3
      replace i4 := Lib.hid i4
      replace i5 := Lib.hid i5
      replace i6 := Lib.hid i6
      replace i7 := Lib.hid i7
      replace i8 := Lib.hid i8
      replace i9 := Lib.hid i9
      replace i10 := Lib.hid i10
      replace i11 := Lib.hid i11
      replace i12 := Lib.hid i12
      go_simp
      exact hK.out _ _ ⟨(keepB x1 (by decide)), (keepB x9 (by decide)), (keepB x10 (by decide)), (keepF i0.out (by decide)), (keepF i1.out (by decide)), (keepF i2.out (by decide)), (keepF i3.out (by decide)), (keepF i4.out (by decide)), (fun _ => put_eq (by omega)), (keepF i6.out (by decide)), (keepF i7.out (by decide)), (keepF i8.out (by decide)), (keepF i9.out (by decide)), (keepF i10.out (by decide)), (keepF i11.out (by decide)), (keepF i12.out (by decide)), hL, hS, Bs⟩
    · refine GSlot.want rfl rfl (by decide) (fun g ac wc hr hI => ?_) ?_
      · obtain ⟨x1, x9, x10, i0, i1, i2, i3, i4, i5, i6, i7, i8, i9, i10, i11, i12, hL, hS, Bs⟩ := hI
        simp only [Region.binds] at hr
        simp at hr
        exact i2 (by first | exact hr | exact hr.1 | exact hr.2 | exact hr.2.1 | exact hr.2.2 | exact hr.2.2.1 | exact hr.2.2.2 | simp [hr])
      unfold SlotStep
      intro g ac wc hn hk hr hI K' hK
      obtain ⟨x1, x9, x10, i0, i1, i2, i3, i4, i5, i6, i7, i8, i9, i10, i11, i12, hL, hS, Bs⟩ := hI
      simp only [Region.binds] at hr
      simp at hr
      replace hK := Lib.hid hK
      have y5 := i5 (by first | exact hr | exact hr.1 | exact hr.2 | exact hr.2.1 | exact hr.2.2 | exact hr.2.2.1 | exact hr.2.2.2 | simp [hr])
      replace i0 := Lib.hid i0
      replace i1 := Lib.hid i1
      replace i2 := Lib.hid i2
      replace i3 := Lib.hid i3
      replace i4 := Lib.hid i4
      replace i5 := Lib.hid i5
      replace i6 := Lib.hid i6
      replace i7 := Lib.hid i7
      replace i8 := Lib.hid i8
      replace i9 := Lib.hid i9
      replace i10 := Lib.hid i10
      replace i11 := Lib.hid i11
      replace i12 := Lib.hid i12
      go_simp
      refine (w_l14Sum _ _ _ (HY.out.later hL) HCh.out).mono ?_
      rintro e w4 ⟨rfl, hL4⟩
      rw [HPS.out]
      exact hK.out _ _ ⟨(keepB x1 (by decide)), (keepB x9 (by decide)), (keepB x10 (by decide)), (keepF i0.out (by decide)), (keepF i1.out (by decide)), (keepF i2.out (by decide)), (keepF i3.out (by decide)), (keepF i4.out (by decide)), (keepF i5.out (by decide)), (fun _ => put_eq (by omega)), (keepF i7.out (by decide)), (keepF i8.out (by decide)), (keepF i9.out (by decide)), (keepF i10.out (by decide)), (keepF i11.out (by decide)), (keepF i12.out (by decide)), hL.trans hL4, Nat.le_trans hS hL4.size, hL4.keep Bs⟩
    · refine GSlot.want rfl rfl (by decide) (fun g ac wc hr hI => ?_) ?_
      · obtain ⟨x1, x9, x10, i0, i1, i2, i3, i4, i5, i6, i7, i8, i9, i10, i11, i12, hL, hS, Bs⟩ := hI
        simp only [Region.binds] at hr
        simp at hr
        exact i2 (by first | exact hr | exact hr.1 | exact hr.2 | exact hr.2.1 | exact hr.2.2 | exact hr.2.2.1 | exact hr.2.2.2 | simp [hr])
      unfold SlotStep
      intro g ac wc hn hk hr hI K' hK
      obtain ⟨x1, x9, x10, i0, i1, i2, i3, i4, i5, i6, i7, i8, i9, i10, i11, i12, hL, hS, Bs⟩ := hI
      simp only [Region.binds] at hr
      simp at hr
      replace hK := Lib.hid hK
      have y4 := i4 (by first | exact hr | exact hr.1 | exact hr.2 | exact hr.2.1 | exact hr.2.2 | exact hr.2.2.1 | exact hr.2.2.2 | simp [hr])
      have y6 := i6 (by first | exact hr | exact hr.1 | exact hr.2 | exact hr.2.1 | exact hr.2.2 | exact hr.2.2.1 | exact hr.2.2.2 | simp [hr])
      replace i0 := Lib.hid i0
      replace i1 := Lib.hid i1
      replace i2 := Lib.hid i2
      replace i3 := Lib.hid i3
      replace i4 := Lib.hid i4
      replace i5 := Lib.hid i5
      replace i6 := Lib.hid i6
      replace i7 := Lib.hid i7
      replace i8 := Lib.hid i8
      replace i9 := Lib.hid i9
      replace i10 := Lib.hid i10
      replace i11 := Lib.hid i11
      replace i12 := Lib.hid i12
      have wD : IntKind.i64.wrap (S.cu - PS) = S.cu - PS := wrap_same (by omega) (by omega)
      go_simp
      exact hK.out _ _ ⟨(keepB x1 (by decide)), (keepB x9 (by decide)), (keepB x10 (by decide)), (keepF i0.out (by decide)), (keepF i1.out (by decide)), (keepF i2.out (by decide)), (keepF i3.out (by decide)), (keepF i4.out (by decide)), (keepF i5.out (by decide)), (keepF i6.out (by decide)), (fun _ => put_eq (by omega)), (keepF i8.out (by decide)), (keepF i9.out (by decide)), (keepF i10.out (by decide)), (keepF i11.out (by decide)), (keepF i12.out (by decide)), hL, hS, Bs⟩
    · refine GSlot.want rfl rfl (by decide) (fun g ac wc hr hI => ?_) ?_
      · obtain ⟨x1, x9, x10, i0, i1, i2, i3, i4, i5, i6, i7, i8, i9, i10, i11, i12, hL, hS, Bs⟩ := hI
        simp only [Region.binds] at hr
        simp at hr
        exact i2 (by first | exact hr | exact hr.1 | exact hr.2 | exact hr.2.1 | exact hr.2.2 | exact hr.2.2.1 | exact hr.2.2.2 | simp [hr])
      unfold SlotStep
      intro g ac wc hn hk hr hI K' hK
      obtain ⟨x1, x9, x10, i0, i1, i2, i3, i4, i5, i6, i7, i8, i9, i10, i11, i12, hL, hS, Bs⟩ := hI
      simp only [Region.binds] at hr
      simp at hr
      replace hK := Lib.hid hK
      have y7 := i7 (by first | exact hr | exact hr.1 | exact hr.2 | exact hr.2.1 | exact hr.2.2 | exact hr.2.2.1 | exact hr.2.2.2 | simp [hr])
      replace i0 := Lib.hid i0
      replace i1 := Lib.hid i1
      replace i2 := Lib.hid i2
      replace i3 := Lib.hid i3
      replace i4 := Lib.hid i4
      replace i5 := Lib.hid i5
      replace i6 := Lib.hid i6
      replace i7 := Lib.hid i7
      replace i8 := Lib.hid i8
      replace i9 := Lib.hid i9
      replace i10 := Lib.hid i10
      replace i11 := Lib.hid i11
      replace i12 := Lib.hid i12
      go_simp
      refine (w_l01Mod _ _ (by decide) (by decide) (by omega) (by omega) _).mono ?_
      rintro e w4 ⟨rfl, rfl⟩
      exact hK.out _ _ ⟨(keepB x1 (by decide)), (keepB x9 (by decide)), (keepB x10 (by decide)), (keepF i0.out (by decide)), (keepF i1.out (by decide)), (keepF i2.out (by decide)), (keepF i3.out (by decide)), (keepF i4.out (by decide)), (keepF i5.out (by decide)), (keepF i6.out (by decide)), (keepF i7.out (by decide)), (fun _ => put_eq (by omega)), (keepF i9.out (by decide)), (keepF i10.out (by decide)), (keepF i11.out (by decide)), (keepF i12.out (by decide)), hL, hS, Bs⟩
    · refine GSlot.want rfl rfl (by decide) (fun g ac wc hr hI => ?_) ?_
      · obtain ⟨x1, x9, x10, i0, i1, i2, i3, i4, i5, i6, i7, i8, i9, i10, i11, i12, hL, hS, Bs⟩ := hI
        simp only [Region.binds] at hr
        simp at hr
        exact i2 (by first | exact hr | exact hr.1 | exact hr.2 | exact hr.2.1 | exact hr.2.2 | exact hr.2.2.1 | exact hr.2.2.2 | simp [hr])
      unfold SlotStep
      intro g ac wc hn hk hr hI K' hK
      obtain ⟨x1, x9, x10, i0, i1, i2, i3, i4, i5, i6, i7, i8, i9, i10, i11, i12, hL, hS, Bs⟩ := hI
      simp only [Region.binds] at hr
      simp at hr
      replace hK := Lib.hid hK
      have y8 := i8 (by first | exact hr | exact hr.1 | exact hr.2 | exact hr.2.1 | exact hr.2.2 | exact hr.2.2.1 | exact hr.2.2.2 | simp [hr])
      replace i0 := Lib.hid i0
      replace i1 := Lib.hid i1
      replace i2 := Lib.hid i2
      replace i3 := Lib.hid i3
      replace i4 := Lib.hid i4
      replace i5 := Lib.hid i5
      replace i6 := Lib.hid i6
      replace i7 := Lib.hid i7
      replace i8 := Lib.hid i8
      replace i9 := Lib.hid i9
      replace i10 := Lib.hid i10
      replace i11 := Lib.hid i11
      replace i12 := Lib.hid i12
      go_simp
      exact hK.out _ _ ⟨(keepB x1 (by decide)), (keepB x9 (by decide)), (keepB x10 (by decide)), (keepF i0.out (by decide)), (keepF i1.out (by decide)), (keepF i2.out (by decide)), (keepF i3.out (by decide)), (keepF i4.out (by decide)), (keepF i5.out (by decide)), (keepF i6.out (by decide)), (keepF i7.out (by decide)), (keepF i8.out (by decide)), (fun _ => put_eq (by omega)), (keepF i10.out (by decide)), (keepF i11.out (by decide)), (keepF i12.out (by decide)), hL, hS, Bs⟩
    · refine GSlot.of rfl ?_
      unfold SlotStep
      intro g ac wc hn hk hr hI K' hK
      obtain ⟨x1, x9, x10, i0, i1, i2, i3, i4, i5, i6, i7, i8, i9, i10, i11, i12, hL, hS, Bs⟩ := hI
      simp only [Region.binds] at hr
      simp at hr
      replace hK := Lib.hid hK
      have y2 := i2 (by first | exact hr | exact hr.1 | exact hr.2 | exact hr.2.1 | exact hr.2.2 | exact hr.2.2.1 | exact hr.2.2.2 | simp [hr])
      have y9 := i9 (by first | exact hr | exact hr.1 | exact hr.2 | exact hr.2.1 | exact hr.2.2 | exact hr.2.2.1 | exact hr.2.2.2 | simp [hr])
      have z2 := sl_get y2 (by omega)
      have z9 := sl_get y9 (by omega)
      replace i0 := Lib.hid i0
      replace i1 := Lib.hid i1
      replace i2 := Lib.hid i2
      replace i3 := Lib.hid i3
      replace i4 := Lib.hid i4
      replace i5 := Lib.hid i5
      replace i6 := Lib.hid i6
      replace i7 := Lib.hid i7
      replace i8 := Lib.hid i8
      replace i9 := Lib.hid i9
      replace i10 := Lib.hid i10
      replace i11 := Lib.hid i11
      replace i12 := Lib.hid i12
      go_simp
      exact hK.out _ _ ⟨(keepB x1 (by decide)), (keepB x9 (by decide)), (keepB x10 (by decide)), (keepF i0.out (by decide)), (keepF i1.out (by decide)), (keepF i2.out (by decide)), (keepF i3.out (by decide)), (keepF i4.out (by decide)), (keepF i5.out (by decide)), (keepF i6.out (by decide)), (keepF i7.out (by decide)), (keepF i8.out (by decide)), (keepF i9.out (by decide)), (fun _ => put_eq (by omega)), (keepF i11.out (by decide)), (keepF i12.out (by decide)), hL, hS, Bs⟩
    · refine GSlot.of rfl ?_
      unfold SlotStep
      intro g ac wc hn hk hr hI K' hK
      obtain ⟨x1, x9, x10, i0, i1, i2, i3, i4, i5, i6, i7, i8, i9, i10, i11, i12, hL, hS, Bs⟩ := hI
      simp only [Region.binds] at hr
      simp at hr
      replace hK := Lib.hid hK
      have y10 := i10 (by first | exact hr | exact hr.1 | exact hr.2 | exact hr.2.1 | exact hr.2.2 | exact hr.2.2.1 | exact hr.2.2.2 | simp [hr])
      replace i0 := Lib.hid i0
      replace i1 := Lib.hid i1
      replace i2 := Lib.hid i2
      replace i3 := Lib.hid i3
      replace i4 := Lib.hid i4
      replace i5 := Lib.hid i5
      replace i6 := Lib.hid i6
      replace i7 := Lib.hid i7
      replace i8 := Lib.hid i8
      replace i9 := Lib.hid i9
      replace i10 := Lib.hid i10
      replace i11 := Lib.hid i11
      replace i12 := Lib.hid i12
      go_simp
      exact hK.out _ _ ⟨(keepB x1 (by decide)), (keepB x9 (by decide)), (keepB x10 (by decide)), (keepF i0.out (by decide)), (keepF i1.out (by decide)), (keepF i2.out (by decide)), (keepF i3.out (by decide)), (keepF i4.out (by decide)), (keepF i5.out (by decide)), (keepF i6.out (by decide)), (keepF i7.out (by decide)), (keepF i8.out (by decide)), (keepF i9.out (by decide)), (keepF i10.out (by decide)), (fun _ => put_eq (by omega)), (keepF i12.out (by decide)), hL, hS, Bs⟩
    · refine GSlot.of rfl ?_
      unfold SlotStep
      intro g ac wc hn hk hr hI K' hK
      obtain ⟨x1, x9, x10, i0, i1, i2, i3, i4, i5, i6, i7, i8, i9, i10, i11, i12, hL, hS, Bs⟩ := hI
      simp only [Region.binds] at hr
      simp at hr
      replace hK := Lib.hid hK
      replace i0 := Lib.hid i0
      replace i1 := Lib.hid i1
      replace i2 := Lib.hid i2
      replace i3 := Lib.hid i3
      replace i4 := Lib.hid i4
      replace i5 := Lib.hid i5
      replace i6 := Lib.hid i6
      replace i7 := Lib.hid i7
      replace i8 := Lib.hid i8
      replace i9 := Lib.hid i9
      replace i10 := Lib.hid i10
      replace i11 := Lib.hid i11
      replace i12 := Lib.hid i12
      go_simp
      exact hK.out _ _ ⟨(keepB x1 (by decide)), (keepB x9 (by decide)), (keepB x10 (by decide)), (keepF i0.out (by decide)), (keepF i1.out (by decide)), (keepF i2.out (by decide)), (keepF i3.out (by decide)), (keepF i4.out (by decide)), (keepF i5.out (by decide)), (keepF i6.out (by decide)), (keepF i7.out (by decide)), (keepF i8.out (by decide)), (keepF i9.out (by decide)), (keepF i10.out (by decide)), (keepF i11.out (by decide)), (fun _ => put_eq (by omega)), hL, hS, Bs⟩

end Go.Proofs.Ytfhppnmbmdpjeaa
