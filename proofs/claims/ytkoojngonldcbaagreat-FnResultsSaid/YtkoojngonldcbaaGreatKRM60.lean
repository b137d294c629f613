/- DERIVED. Walks: plans, how many moves, how many go the other way, how far they go. -/
import Derived.Test.YtkoojngonldcbaaGreatKRM56
import Derived.Test.YtkoojngonldcbaaGreatKRM59
import Derived.Test.YtkoojngonldcbaaGreatKRM43
namespace Go.Proofs.YtkoojngonldcbaaGreat
set_option linter.unusedVariables false
set_option linter.unusedSimpArgs false
open Go.RowKit
set_option maxRecDepth 100000
set_option maxHeartbeats 2000000 in
theorem w_implPlanFor (n : Int) (u v y : Value) (st sd : List Int) (c : List Trm) (w : World) (h : IsNums w u st) (h' : IsNums w v sd) (hy : IsTrms w y c) :
 Calls Tryz.prog 11 #[.agg #[.int .i64 n, u, v], y] w fun e w' => ∃ a l k, e = .returned (.tuple #[.slice a l k, .int .i64 (codePlan ⟨n, st, sd⟩ c)]) ∧ Later w w' ∧ w'.ownsRow w.heap.size 88 4 (.slice a l k) (planFor ⟨n, st, sd⟩ c).length (movs (planFor ⟨n, st, sd⟩ c)) := by
 have H := Lib.hid h
 have H' := Lib.hid h'
 have HY := Lib.hid hy
 obtain ⟨_, _, au, capu, rfl, _, _, _⟩ := h
 obtain ⟨_, _, av, capv, rfl, _, _, _⟩ := h'
 obtain ⟨_, _, ay, capy, rfl, _, _, _⟩ := hy
 obtain ⟨X, hX⟩ : ∃ x, codePlan ⟨n, st, sd⟩ c = x := ⟨_, rfl⟩
 have HX := Lib.hid hX
 by_cases h0 : X = 0
 rotate_left
 · have HF := Lib.hid (planFor_no hX h0)
   have hb : (X != 0) = true := by simp [h0]
   rw [hX]
   clear hX h0
   go_enter Tryz.func11, Tryz.ntmps11
   go_wp2_with fail
   refine (w_checkPlan _ _ _ _ _ _ _ _ (H.out.later ((Later.refl _).alloc _)) (H'.out.later ((Later.refl _).alloc _)) (HY.out.later ((Later.refl _).alloc _))).mono ?_
   rintro e w1 ⟨rfl, hL⟩
   rw [HX.out]
   go_wp2
   go_ret2
   exact ⟨none, 0, 0, rfl, qla, by rw [HF.out]; exact World.ownsRow_nil _ _ _ _⟩
 subst h0
 have hc := codePlan_0 hX
 have HF := Lib.hid (planFor_yes hX)
 have HC := Lib.hid hc.2.2
 have HCh := Lib.hid hc.2.1
 rw [hX]
 clear hX hc
 go_enter Tryz.func11, Tryz.ntmps11
 go_wp2_with fail
 refine (w_checkPlan _ _ _ _ _ _ _ _ (H.out.later ((Later.refl _).alloc _)) (H'.out.later ((Later.refl _).alloc _)) (HY.out.later ((Later.refl _).alloc _))).mono ?_
 rintro e w1 ⟨rfl, hL⟩
 rw [HX.out]
 obtain ⟨c0, f0, z0⟩ := blk1 hL
 go_wp2_with fail
 refine (w_usualPlan _ _ _ _ _ _ _ _ ((H.out.later ((Later.refl _).alloc _)).later hL) ((H'.out.later ((Later.refl _).alloc _)).later hL) ((HY.out.later ((Later.refl _).alloc _)).later hL) HC.out HCh.out).mono ?_
 rintro e w2 ⟨a2, l2, k2, rfl, hL2, ho2⟩
 have HO := Lib.hid ho2
 have HL := Lib.hid (show Later w w2 from qla)
 have hsz := hL.size
 simp only [World.size_alloc] at hsz
 clear hL hL2 ho2 c0 f0 z0
 go_wp2
 go_ret2
 exact ⟨a2, l2, k2, rfl, HL.out.alloc _, by rw [HF.out]; exact owns_base (HO.out.alloc _) (by omega)⟩
theorem backStep_y {n : Int} {m : Mov} (h : isBack m = true) : backStep n m = n + 1 := by simp [backStep, h]
theorem backStep_n {n : Int} {m : Mov} (h : isBack m = false) : backStep n m = n := by simp [backStep, h]
set_option maxHeartbeats 2000000 in
theorem w_implReverseMoves (n : Int) (u v y : Value) (st sd : List Int) (c : List Trm) (w : World) (h : IsNums w u st) (h' : IsNums w v sd) (hy : IsTrms w y c) :
 Calls Tryz.prog 26 #[.agg #[.int .i64 n, u, v], y] w fun e w' => e = .returned (.tuple #[.int .i64 (reverseC ⟨n, st, sd⟩ c), .int .i64 (codePlan ⟨n, st, sd⟩ c)]) ∧ Later w w' := by
 have H := Lib.hid h
 have H' := Lib.hid h'
 have HY := Lib.hid hy
 obtain ⟨_, _, au, capu, rfl, _, _, _⟩ := h
 obtain ⟨_, _, av, capv, rfl, _, _, _⟩ := h'
 obtain ⟨_, _, ay, capy, rfl, _, _, _⟩ := hy
 obtain ⟨X, hX⟩ : ∃ x, codePlan ⟨n, st, sd⟩ c = x := ⟨_, rfl⟩
 have HX := Lib.hid hX
 have h17 := planFor_len ⟨n, st, sd⟩ c
 by_cases h0 : X = 0
 rotate_left
 · have HF := Lib.hid (show reverseC ⟨n, st, sd⟩ c = 0 from by unfold reverseC; rw [planFor_no hX h0]; rfl)
   have hb : (X != 0) = true := by simp [h0]
   rw [hX]
   clear hX h0
   go_enter Tryz.func26, Tryz.ntmps26
   go_wp2_with fail
   refine (w_implPlanFor _ _ _ _ _ _ _ _ (H.out.later ((Later.refl _).alloc _)) (H'.out.later ((Later.refl _).alloc _)) (HY.out.later ((Later.refl _).alloc _))).mono ?_
   rintro e w2 ⟨a2, l2, k2, rfl, hL, ho⟩
   rw [HX.out]
   clear ho
   go_wp2
   go_ret2
   exact ⟨by rw [HF.out]; rfl, qla⟩
 subst h0
 have HF := Lib.hid (show reverseC ⟨n, st, sd⟩ c = countBack (planFor ⟨n, st, sd⟩ c) from rfl)
 obtain ⟨l, hl⟩ : ∃ x, planFor ⟨n, st, sd⟩ c = x := ⟨_, rfl⟩
 have HLd := Lib.hid hl
 rw [hl] at h17
 rw [hX]
 clear hX hl
 go_enter Tryz.func26, Tryz.ntmps26
 go_wp2_with fail
 refine (w_implPlanFor _ _ _ _ _ _ _ _ (H.out.later ((Later.refl _).alloc _)) (H'.out.later ((Later.refl _).alloc _)) (HY.out.later ((Later.refl _).alloc _))).mono ?_
 rintro e w2 ⟨a2, l2, k2, rfl, hL, ho⟩
 rw [HX.out]
 rw [HLd.out] at ho
 obtain ⟨_, _, a3, k3, e3, _, hk3, hrow⟩ := reads_of_owns ho (by omega)
 simp only [Value.slice.injEq] at e3
 obtain ⟨rfl, rfl, rfl⟩ := e3
 have HR3 := Lib.hid hrow
 have HL := Lib.hid (show Later w w2 from qla)
 clear ho hrow hL
 go_wp2
 go_loopw [8, 22] (fun r i wr => ∃ k : Nat, k ≤ l.length ∧ i = .int .i64 k ∧ Later w2 wr ∧ ∃ S : Int, r = .int .i64 S ∧ Hid (S = countBack (l.take k)) ∧ 0 ≤ S ∧ S ≤ k) (fun _ i _ => l.length - (intOf i).toNat)
 case atStart => exact ⟨0, Nat.zero_le _, rfl, Later.refl _, 0, rfl, by simp [Hid, countBack], by simp, by simp⟩
 case round =>
  obtain ⟨k, hk, rfl, hL3, S, rfl, HS, hlo, hhi⟩ := hrel
  by_cases hlt : k < l.length
  · obtain ⟨b3, off3, rfl, hr3⟩ := HR3.out (by omega)
    obtain ⟨m, hm⟩ := get_ex (l := l) (k := k) (by omega)
    have HT := Lib.hid hm
    obtain ⟨r1, r2, r3, r4⟩ := (hr3.later hL3).mov hm
    have hbr := (hr3.later hL3).1
    clear hm
    by_cases h4 : m.k = 4
    · have HB := Lib.hid (show isBack m = true from by simp [isBack, h4])
      rw [h4] at r1
      clear h4
      go_wp2
      go_roundw
      case rel => exact ⟨k + 1, by omega, by go_num, qla, S + 1, rfl, by rw [Hid, take_snoc' HT.out, countBack_snoc, backStep_y HB.out, ← HS.out], by omega, by omega⟩
      case measure => simp [intOf]; omega
    · by_cases h6 : m.k = 6
      · have HB := Lib.hid (show isBack m = true from by simp [isBack, h6])
        rw [h6] at r1
        clear h4 h6
        go_wp2
        go_roundw
        case rel => exact ⟨k + 1, by omega, by go_num, qla, S + 1, rfl, by rw [Hid, take_snoc' HT.out, countBack_snoc, backStep_y HB.out, ← HS.out], by omega, by omega⟩
        case measure => simp [intOf]; omega
      · have HB := Lib.hid (show isBack m = false from by simp [isBack, h4, h6])
        have hb4 : (m.k == 4) = false := by simp [h4]
        have hb6 : (m.k == 6) = false := by simp [h6]
        clear h4 h6
        go_wp2
        go_roundw
        case rel => exact ⟨k + 1, by omega, by go_num, qla, S, rfl, by rw [Hid, take_snoc' HT.out, countBack_snoc, backStep_n HB.out, ← HS.out], by omega, by omega⟩
        case measure => simp [intOf]; omega
  · have hf : S = countBack l := by
     have := HS.out
     rwa [take_eq_all (by omega)] at this
    have HG := Lib.hid hf
    clear hf
    go_wp2
    go_ret2
    exact ⟨by rw [HF.out, HLd.out, ← HG.out]; rfl, HL.out.trans hL3⟩
set_option maxHeartbeats 2000000 in
theorem w_specReverseMoves (n : Int) (u v y : Value) (st sd : List Int) (c : List Trm) (w : World) (h : IsNums w u st) (h' : IsNums w v sd) (hy : IsTrms w y c) :
 Calls Tryz.prog 27 #[.agg #[.int .i64 n, u, v], y] w fun e w' => e = .returned (.tuple #[.int .i64 (reverseC ⟨n, st, sd⟩ c), .int .i64 (codePlan ⟨n, st, sd⟩ c)]) ∧ Later w w' := by
 have H := Lib.hid h
 have H' := Lib.hid h'
 have HY := Lib.hid hy
 obtain ⟨_, _, au, capu, rfl, _, _, _⟩ := h
 obtain ⟨_, _, av, capv, rfl, _, _, _⟩ := h'
 obtain ⟨_, _, ay, capy, rfl, _, _, _⟩ := hy
 obtain ⟨X, hX⟩ : ∃ x, codePlan ⟨n, st, sd⟩ c = x := ⟨_, rfl⟩
 have HX := Lib.hid hX
 by_cases h0 : X = 0
 rotate_left
 · have HF := Lib.hid (show reverseC ⟨n, st, sd⟩ c = 0 from by unfold reverseC; rw [planFor_no hX h0]; rfl)
   have hb : (X != 0) = true := by simp [h0]
   rw [hX]
   clear hX h0
   go_enter Tryz.func27, Tryz.ntmps27
   go_wp2_with fail
   refine (w_l14Code _ _ _ _ _ _ _ _ (H.out.later ((Later.refl _).alloc _)) (H'.out.later ((Later.refl _).alloc _)) (HY.out.later ((Later.refl _).alloc _))).mono ?_
   rintro e w1 ⟨rfl, hL⟩
   rw [HX.out]
   go_wp2
   go_ret2
   exact ⟨by rw [HF.out]; rfl, qla⟩
 subst h0
 have hc := codePlan_0 hX
 have h17 := planL_len hc.2.2 hc.2.1
 have HF := Lib.hid (show reverseC ⟨n, st, sd⟩ c = countBack (planL c) from by unfold reverseC; rw [planFor_yes hX])
 have HC := Lib.hid hc.2.2
 have HCh := Lib.hid hc.2.1
 obtain ⟨l, hl⟩ : ∃ x, planL c = x := ⟨_, rfl⟩
 have HLd := Lib.hid hl
 rw [hl] at h17
 rw [hX]
 clear hX hc hl
 go_enter Tryz.func27, Tryz.ntmps27
 go_wp2_with fail
 refine (w_l14Code _ _ _ _ _ _ _ _ (H.out.later ((Later.refl _).alloc _)) (H'.out.later ((Later.refl _).alloc _)) (HY.out.later ((Later.refl _).alloc _))).mono ?_
 rintro e w1 ⟨rfl, hL⟩
 rw [HX.out]
 obtain ⟨c0, f0, z0⟩ := blk1 hL
 go_wp2_with fail
 refine (w_l14Usual _ _ _ _ _ _ _ _ ((H.out.later ((Later.refl _).alloc _)).later hL) ((H'.out.later ((Later.refl _).alloc _)).later hL) ((HY.out.later ((Later.refl _).alloc _)).later hL) HC.out HCh.out).mono ?_
 rintro e w2 ⟨a2, l2, k2, rfl, hL2, ho⟩
 rw [HLd.out] at ho
 obtain ⟨_, _, a3, k3, e3, _, hk3, hrow⟩ := reads_of_owns ho (by omega)
 simp only [Value.slice.injEq] at e3
 obtain ⟨rfl, rfl, rfl⟩ := e3
 have HR3 := Lib.hid hrow
 have HL := Lib.hid (show Later w w2 from qla)
 clear ho hrow hL hL2 c0 f0 z0
 go_wp2
 go_loopw [8, 9] (fun r i wr => ∃ k : Nat, k ≤ l.length ∧ i = .int .i64 k ∧ Later w2 wr ∧ ∃ S : Int, r = .int .i64 S ∧ Hid (S = countBack (l.take k)) ∧ 0 ≤ S ∧ S ≤ k) (fun _ i _ => l.length - (intOf i).toNat)
 case atStart => exact ⟨0, Nat.zero_le _, rfl, Later.refl _, 0, rfl, by simp [Hid, countBack], by simp, by simp⟩
 case round =>
  obtain ⟨k, hk, rfl, hL3, S, rfl, HS, hlo, hhi⟩ := hrel
  by_cases hlt : k < l.length
  · obtain ⟨b3, off3, rfl, hr3⟩ := HR3.out (by omega)
    obtain ⟨m, hm⟩ := get_ex (l := l) (k := k) (by omega)
    have HT := Lib.hid hm
    obtain ⟨r1, r2, r3, r4⟩ := (hr3.later hL3).mov hm
    have hbr := (hr3.later hL3).1
    clear hm
    by_cases h4 : m.k = 4
    · have HB := Lib.hid (show isBack m = true from by simp [isBack, h4])
      rw [h4] at r1
      clear h4
      go_wp2
      go_roundw
      case rel => exact ⟨k + 1, by omega, by go_num, qla, S + 1, rfl, by rw [Hid, take_snoc' HT.out, countBack_snoc, backStep_y HB.out, ← HS.out], by omega, by omega⟩
      case measure => simp [intOf]; omega
    · by_cases h6 : m.k = 6
      · have HB := Lib.hid (show isBack m = true from by simp [isBack, h6])
        rw [h6] at r1
        clear h4 h6
        go_wp2
        go_roundw
        case rel => exact ⟨k + 1, by omega, by go_num, qla, S + 1, rfl, by rw [Hid, take_snoc' HT.out, countBack_snoc, backStep_y HB.out, ← HS.out], by omega, by omega⟩
        case measure => simp [intOf]; omega
      · have HB := Lib.hid (show isBack m = false from by simp [isBack, h4, h6])
        have hb4 : (m.k == 4) = false := by simp [h4]
        have hb6 : (m.k == 6) = false := by simp [h6]
        clear h4 h6
        go_wp2
        go_roundw
        case rel => exact ⟨k + 1, by omega, by go_num, qla, S, rfl, by rw [Hid, take_snoc' HT.out, countBack_snoc, backStep_n HB.out, ← HS.out], by omega, by omega⟩
        case measure => simp [intOf]; omega
  · have hf : S = countBack l := by
     have := HS.out
     rwa [take_eq_all (by omega)] at this
    have HG := Lib.hid hf
    clear hf
    go_wp2
    go_ret2
    exact ⟨by rw [HF.out, HLd.out, ← HG.out]; rfl, HL.out.trans hL3⟩
set_option maxHeartbeats 2000000 in
theorem w_implPlanTravel (n : Int) (u v y : Value) (st sd : List Int) (c : List Trm) (w : World) (h : IsNums w u st) (h' : IsNums w v sd) (hy : IsTrms w y c) :
 Calls Tryz.prog 24 #[.agg #[.int .i64 n, u, v], y] w fun e w' => e = .returned (.tuple #[.int .i64 (planTS ⟨n, st, sd⟩ c), .int .i64 (planTK ⟨n, st, sd⟩ c), .int .i64 (planTC ⟨n, st, sd⟩ c)]) ∧ Later w w' := by
 have H := Lib.hid h
 have H' := Lib.hid h'
 have HY := Lib.hid hy
 obtain ⟨_, _, au, capu, rfl, _, _, _⟩ := h
 obtain ⟨_, _, av, capv, rfl, _, _, _⟩ := h'
 obtain ⟨_, _, ay, capy, rfl, _, _, _⟩ := hy
 obtain ⟨X, hX⟩ : ∃ x, codePlan ⟨n, st, sd⟩ c = x := ⟨_, rfl⟩
 have HX := Lib.hid hX
 by_cases h0 : X = 0
 rotate_left
 · have HF := Lib.hid (show planTS ⟨n, st, sd⟩ c = 0 ∧ planTK ⟨n, st, sd⟩ c = 0 ∧ planTC ⟨n, st, sd⟩ c = X from by unfold planTS planTK planTC; rw [hX, if_neg h0, if_neg h0, if_neg h0]; exact ⟨rfl, rfl, rfl⟩)
   have hb : (X != 0) = true := by simp [h0]
   clear hX h0
   go_enter Tryz.func24, Tryz.ntmps24
   go_wp2_with fail
   refine (w_implPlanFor _ _ _ _ _ _ _ _ (H.out.later ((Later.refl _).alloc _)) (H'.out.later ((Later.refl _).alloc _)) (HY.out.later ((Later.refl _).alloc _))).mono ?_
   rintro e w2 ⟨a2, l2, k2, rfl, hL, ho⟩
   rw [HX.out]
   clear ho
   go_wp2
   go_ret3
   exact ⟨by rw [HF.out.1, HF.out.2.1, HF.out.2.2]; rfl, qla⟩
 subst h0
 have hc := codePlan_0 hX
 have HF := Lib.hid (show planTS ⟨n, st, sd⟩ c = travS ⟨n, st, sd⟩ ⟨0, 0⟩ (planL c) ∧ planTK ⟨n, st, sd⟩ c = travK ⟨n, st, sd⟩ ⟨0, 0⟩ (planL c) ∧ planTC ⟨n, st, sd⟩ c = runC ⟨n, st, sd⟩ ⟨0, 0⟩ (planL c) from by unfold planTS planTK planTC; rw [if_pos hX, if_pos hX, if_pos hX]; exact ⟨rfl, rfl, rfl⟩)
 have HPF := Lib.hid (planFor_yes hX)
 have h17 := planL_len hc.2.2 hc.2.1
 have HC := Lib.hid hc.2.2
 have HCh := Lib.hid hc.2.1
 obtain ⟨l, hl⟩ : ∃ x, planL c = x := ⟨_, rfl⟩
 have HLd := Lib.hid hl
 rw [hl] at h17
 obtain ⟨T1, hT1⟩ : ∃ x, travS ⟨n, st, sd⟩ ⟨0, 0⟩ l = x := ⟨_, rfl⟩
 obtain ⟨T2, hT2⟩ : ∃ x, travK ⟨n, st, sd⟩ ⟨0, 0⟩ l = x := ⟨_, rfl⟩
 obtain ⟨T3, hT3⟩ : ∃ x, runC ⟨n, st, sd⟩ ⟨0, 0⟩ l = x := ⟨_, rfl⟩
 have HT1 := Lib.hid hT1
 have HT2 := Lib.hid hT2
 have HT3 := Lib.hid hT3
 clear hX hc hl hT1 hT2 hT3
 go_enter Tryz.func24, Tryz.ntmps24
 go_wp2_with fail
 refine (w_implPlanFor _ _ _ _ _ _ _ _ (H.out.later ((Later.refl _).alloc _)) (H'.out.later ((Later.refl _).alloc _)) (HY.out.later ((Later.refl _).alloc _))).mono ?_
 rintro e w2 ⟨a2, l2, k2, rfl, hL, ho⟩
 rw [HX.out]
 rw [HPF.out, HLd.out] at ho
 have HM := Lib.hid (reads_of_owns ho (by omega))
 obtain ⟨c0, f0, z0⟩ := blk1 hL
 clear ho
 go_wp2_with fail
 refine (w_implTravelOf _ _ _ _ _ _ _ _ l _ ((H.out.later ((Later.refl _).alloc _)).later hL) ((H'.out.later ((Later.refl _).alloc _)).later hL) HM.out).mono ?_
 rintro e w3 ⟨rfl, hL3⟩
 rw [HT1.out, HT2.out, HT3.out]
 go_wp2
 go_ret3
 exact ⟨by rw [HF.out.1, HF.out.2.1, HF.out.2.2, HLd.out, HT1.out, HT2.out, HT3.out]; rfl, qla⟩
set_option maxHeartbeats 2000000 in
theorem w_specPlanTravel (n : Int) (u v y : Value) (st sd : List Int) (c : List Trm) (w : World) (h : IsNums w u st) (h' : IsNums w v sd) (hy : IsTrms w y c) :
 Calls Tryz.prog 25 #[.agg #[.int .i64 n, u, v], y] w fun e w' => e = .returned (.tuple #[.int .i64 (planTS ⟨n, st, sd⟩ c), .int .i64 (planTK ⟨n, st, sd⟩ c), .int .i64 (planTC ⟨n, st, sd⟩ c)]) ∧ Later w w' := by
 have H := Lib.hid h
 have H' := Lib.hid h'
 have HY := Lib.hid hy
 obtain ⟨_, _, au, capu, rfl, _, _, _⟩ := h
 obtain ⟨_, _, av, capv, rfl, _, _, _⟩ := h'
 obtain ⟨_, _, ay, capy, rfl, _, _, _⟩ := hy
 obtain ⟨X, hX⟩ : ∃ x, codePlan ⟨n, st, sd⟩ c = x := ⟨_, rfl⟩
 have HX := Lib.hid hX
 by_cases h0 : X = 0
 rotate_left
 · have HF := Lib.hid (show planTS ⟨n, st, sd⟩ c = 0 ∧ planTK ⟨n, st, sd⟩ c = 0 ∧ planTC ⟨n, st, sd⟩ c = X from by unfold planTS planTK planTC; rw [hX, if_neg h0, if_neg h0, if_neg h0]; exact ⟨rfl, rfl, rfl⟩)
   have hb : (X != 0) = true := by simp [h0]
   clear hX h0
   go_enter Tryz.func25, Tryz.ntmps25
   go_wp2_with fail
   refine (w_l14Code _ _ _ _ _ _ _ _ (H.out.later ((Later.refl _).alloc _)) (H'.out.later ((Later.refl _).alloc _)) (HY.out.later ((Later.refl _).alloc _))).mono ?_
   rintro e w1 ⟨rfl, hL⟩
   rw [HX.out]
   go_wp2
   go_ret3
   exact ⟨by rw [HF.out.1, HF.out.2.1, HF.out.2.2]; rfl, qla⟩
 subst h0
 have hc := codePlan_0 hX
 have HF := Lib.hid (show planTS ⟨n, st, sd⟩ c = travS ⟨n, st, sd⟩ ⟨0, 0⟩ (planL c) ∧ planTK ⟨n, st, sd⟩ c = travK ⟨n, st, sd⟩ ⟨0, 0⟩ (planL c) ∧ planTC ⟨n, st, sd⟩ c = runC ⟨n, st, sd⟩ ⟨0, 0⟩ (planL c) from by unfold planTS planTK planTC; rw [if_pos hX, if_pos hX, if_pos hX]; exact ⟨rfl, rfl, rfl⟩)
 have HPF := Lib.hid (planFor_yes hX)
 have h17 := planL_len hc.2.2 hc.2.1
 have HC := Lib.hid hc.2.2
 have HCh := Lib.hid hc.2.1
 obtain ⟨l, hl⟩ : ∃ x, planL c = x := ⟨_, rfl⟩
 have HLd := Lib.hid hl
 rw [hl] at h17
 obtain ⟨T1, hT1⟩ : ∃ x, travS ⟨n, st, sd⟩ ⟨0, 0⟩ l = x := ⟨_, rfl⟩
 obtain ⟨T2, hT2⟩ : ∃ x, travK ⟨n, st, sd⟩ ⟨0, 0⟩ l = x := ⟨_, rfl⟩
 obtain ⟨T3, hT3⟩ : ∃ x, runC ⟨n, st, sd⟩ ⟨0, 0⟩ l = x := ⟨_, rfl⟩
 have HT1 := Lib.hid hT1
 have HT2 := Lib.hid hT2
 have HT3 := Lib.hid hT3
 clear hX hc hl hT1 hT2 hT3
 go_enter Tryz.func25, Tryz.ntmps25
 go_wp2_with fail
 refine (w_l14Code _ _ _ _ _ _ _ _ (H.out.later ((Later.refl _).alloc _)) (H'.out.later ((Later.refl _).alloc _)) (HY.out.later ((Later.refl _).alloc _))).mono ?_
 rintro e w1 ⟨rfl, hL⟩
 rw [HX.out]
 have HK := Lib.hid (kept1 hL)
 have HL1 := Lib.hid (show Later w w1 from qla)
 clear hL
 go_wp2_with fail
 refine wp_name ?_
 intro z hz
 have hL0 : Later w z := by rw [hz]; exact HL1.out
 have Kr : z.heap[w.heap.size]? = some (.cells #[.int .i64 n, .slice au st.length capu, .slice av sd.length capv] 26 (0, 0)) := by rw [hz]; exact HK.out
 have hSB := hL0.size
 have lt1 := (Array.getElem?_eq_some_iff.1 Kr).1
 clear hz
 refine region_slots 23 [14, 15, 16, 17, 18, 19, 20, 21, 22, 4, 5, 6] (fun g ac wc => sl ac 1 = .slice ay c.length capy ∧
  sl ac 2 = .pointer (some ⟨w.heap.size, 0, none⟩) ∧
  (g 0 = true → sl ac 14 = .agg #[.int .i64 n, .slice au st.length capu, .slice av sd.length capv]) ∧
  (g 1 = true → sl ac 15 = .agg #[.int .i64 0, .int .i64 0]) ∧
  (g 2 = true → sl ac 16 = .agg #[.int .i64 n, .slice au st.length capu, .slice av sd.length capv]) ∧
  (g 3 = true → sl ac 17 = .slice ay c.length capy) ∧
  (g 5 = true → sl ac 19 = .tuple #[.int .i64 T1, .int .i64 T2, .int .i64 T3]) ∧
  (g 6 = true → sl ac 20 = .int .i64 T1) ∧
  (g 7 = true → sl ac 21 = .int .i64 T2) ∧
  (g 8 = true → sl ac 22 = .int .i64 T3) ∧
  (g 9 = true → sl ac 4 = .int .i64 T1) ∧
  (g 10 = true → sl ac 5 = .int .i64 T2) ∧
  (g 11 = true → sl ac 6 = .int .i64 T3) ∧
  Later w wc ∧
  (g 4 = true → (IsSl (sl ac 18) (l.length) ∧ sl ac 18 = sl ac 18) ∧ (g 5 = false → wc.ownsRow z.heap.size 88 4 (sl ac 18) (l.length) (movs l))) ∧
  z.heap.size ≤ wc.heap.size ∧
  wc.heap[w.heap.size]? = some (.cells #[.int .i64 n, .slice au st.length capu, .slice av sd.length capv] 26 (0, 0))) (by kernel_rfl) (by kernel_rfl) rfl (by kernel_rfl) ?_ ?_ ?_
 · exact ⟨rfl, rfl, nofun, nofun, nofun, nofun, nofun, nofun, nofun, nofun, nofun, nofun, nofun, hL0.drew, nofun, Nat.le_refl _, Kr⟩
 · intro g ac wu hg ha hI
   obtain ⟨x1, x2, i0, i1, i2, i3, i5, i6, i7, i8, i9, i10, i11, hL, p4, hS, Br⟩ := hI
   obtain ⟨⟨⟨ar4, capr4, f4⟩, e4⟩, -⟩ := p4 (hg 4 (by simp))
   clear e4
   have e4 := f4
   have a0 := i0 (hg 0 (by simp))
   have a1 := i1 (hg 1 (by simp))
   have a2 := i2 (hg 2 (by simp))
   have a3 := i3 (hg 3 (by simp))
   have a5 := i5 (hg 5 (by simp))
   have a6 := i6 (hg 6 (by simp))
   have a7 := i7 (hg 7 (by simp))
   have a8 := i8 (hg 8 (by simp))
   have a9 := i9 (hg 9 (by simp))
   have a10 := i10 (hg 10 (by simp))
   have a11 := i11 (hg 11 (by simp))
   simp only [putAll, e4, a0, a1, a2, a3, a5, a6, a7, a8, a9, a10, a11] at ha
   simp only [Act.put, List.setIfInBounds_toArray, List.set_cons_succ, List.set_cons_zero] at ha
   rw [ha]
   clear x1 x2 i0 i1 i2 i3 i5 i6 i7 i8 i9 i10 i11 a0 a1 a2 a3 a5 a6 a7 a8 a9 a10 a11 p4 e4 f4 hg ha
   go_wp2
   go_ret3
   exact ⟨by rw [HF.out.1, HF.out.2.1, HF.out.2.2, HLd.out, HT1.out, HT2.out, HT3.out]; rfl, hL⟩
 · refine .cons ?_ (.cons ?_ (.cons ?_ (.cons ?_ (.cons ?_ (.cons ?_ (.cons ?_ (.cons ?_ (.cons ?_ (.cons ?_ (.cons ?_ (.cons ?_ .nil)))))))))))
   · refine qst fun g ac wc hn hk hr HI K' hK => ?_
     obtain ⟨x1, x2, i0, i1, i2, i3, i5, i6, i7, i8, i9, i10, i11, hL, p4, hS, Br⟩ := HI.out
     simp [Region.binds] at hr
     clear i0 i1 i2 i3 i5 i6 i7 i8 i9 i10 i11 p4
     obtain ⟨c0, f0, z0⟩ := blk_at Br
     go_simp
     obtain ⟨-, -, i0, i1, i2, i3, i5, i6, i7, i8, i9, i10, i11, -, p4, -⟩ := HI.out
     exact hK.out _ _ ⟨qB x1, qB x2, qP, qF i1, qF i2, qF i3, qF i5, qF i6, qF i7, qF i8, qF i9, qF i10, qF i11, hL, (fun h => by obtain ⟨⟨hs, hv⟩, ho⟩ := p4 h; exact ⟨⟨by rw [put_ne (show 18 ≠ 14 by decide)]; exact hs, rfl⟩, fun ht => by have ho := ho ht; exact (by rw [put_ne (show 18 ≠ 14 by decide)]; exact ho)⟩), hS, Br⟩
   · refine qst fun g ac wc hn hk hr HI K' hK => ?_
     obtain ⟨x1, x2, i0, i1, i2, i3, i5, i6, i7, i8, i9, i10, i11, hL, p4, hS, Br⟩ := HI.out
     simp [Region.binds] at hr
     clear i0 i1 i2 i3 i5 i6 i7 i8 i9 i10 i11 p4
     go_simp
     obtain ⟨-, -, i0, i1, i2, i3, i5, i6, i7, i8, i9, i10, i11, -, p4, -⟩ := HI.out
     exact hK.out _ _ ⟨qB x1, qB x2, qF i0, qP, qF i2, qF i3, qF i5, qF i6, qF i7, qF i8, qF i9, qF i10, qF i11, hL, (fun h => by obtain ⟨⟨hs, hv⟩, ho⟩ := p4 h; exact ⟨⟨by rw [put_ne (show 18 ≠ 15 by decide)]; exact hs, rfl⟩, fun ht => by have ho := ho ht; exact (by rw [put_ne (show 18 ≠ 15 by decide)]; exact ho)⟩), hS, Br⟩
   · refine qst fun g ac wc hn hk hr HI K' hK => ?_
     obtain ⟨x1, x2, i0, i1, i2, i3, i5, i6, i7, i8, i9, i10, i11, hL, p4, hS, Br⟩ := HI.out
     simp [Region.binds] at hr
     clear i0 i1 i2 i3 i5 i6 i7 i8 i9 i10 i11 p4
     obtain ⟨c0, f0, z0⟩ := blk_at Br
     go_simp
     obtain ⟨-, -, i0, i1, i2, i3, i5, i6, i7, i8, i9, i10, i11, -, p4, -⟩ := HI.out
     exact hK.out _ _ ⟨qB x1, qB x2, qF i0, qF i1, qP, qF i3, qF i5, qF i6, qF i7, qF i8, qF i9, qF i10, qF i11, hL, (fun h => by obtain ⟨⟨hs, hv⟩, ho⟩ := p4 h; exact ⟨⟨by rw [put_ne (show 18 ≠ 16 by decide)]; exact hs, rfl⟩, fun ht => by have ho := ho ht; exact (by rw [put_ne (show 18 ≠ 16 by decide)]; exact ho)⟩), hS, Br⟩
   · refine qst fun g ac wc hn hk hr HI K' hK => ?_
     obtain ⟨x1, x2, i0, i1, i2, i3, i5, i6, i7, i8, i9, i10, i11, hL, p4, hS, Br⟩ := HI.out
     simp [Region.binds] at hr
     clear i0 i1 i2 i3 i5 i6 i7 i8 i9 i10 i11 p4
     go_simp
     obtain ⟨-, -, i0, i1, i2, i3, i5, i6, i7, i8, i9, i10, i11, -, p4, -⟩ := HI.out
     exact hK.out _ _ ⟨qB x1, qB x2, qF i0, qF i1, qF i2, qP, qF i5, qF i6, qF i7, qF i8, qF i9, qF i10, qF i11, hL, (fun h => by obtain ⟨⟨hs, hv⟩, ho⟩ := p4 h; exact ⟨⟨by rw [put_ne (show 18 ≠ 17 by decide)]; exact hs, rfl⟩, fun ht => by have ho := ho ht; exact (by rw [put_ne (show 18 ≠ 17 by decide)]; exact ho)⟩), hS, Br⟩
   · refine qst fun g ac wc hn hk hr HI K' hK => ?_
     obtain ⟨x1, x2, i0, i1, i2, i3, i5, i6, i7, i8, i9, i10, i11, hL, p4, hS, Br⟩ := HI.out
     simp [Region.binds] at hr
     have y2 := i2 (by simp [hr])
     have y3 := i3 (by simp [hr])
     clear i0 i1 i2 i3 i5 i6 i7 i8 i9 i10 i11 p4
     go_simp
     refine (w_l14Usual n _ _ _ st sd c _ (H.out.later hL) (H'.out.later hL) (HY.out.later hL) HC.out HCh.out).mono ?_
     rintro e w4 ⟨a4, l4, c4, rfl, hL4, ho4⟩
     rw [HLd.out] at ho4
     obtain ⟨a5, c5, e5⟩ := isSl_of ho4
     simp only [Value.slice.injEq] at e5
     obtain ⟨rfl, rfl, rfl⟩ := e5
     obtain ⟨-, -, i0, i1, i2, i3, i5, i6, i7, i8, i9, i10, i11, -, p4, -⟩ := HI.out
     exact hK.out _ _ ⟨qB x1, qB x2, qF i0, qF i1, qF i2, qF i3, qF i5, qF i6, qF i7, qF i8, qF i9, qF i10, qF i11, hL.trans hL4, (fun _ => ⟨⟨by rw [put_eq (by omega)]; exact ⟨_, _, rfl⟩, rfl⟩, fun _ => by rw [put_eq (by omega)]; exact owns_base ho4 hS⟩), Nat.le_trans hS hL4.size, (hL4.keep Br)⟩
   · refine qst fun g ac wc hn hk hr HI K' hK => ?_
     obtain ⟨x1, x2, i0, i1, i2, i3, i5, i6, i7, i8, i9, i10, i11, hL, p4, hS, Br⟩ := HI.out
     simp [Region.binds] at hr
     have y0 := i0 (by simp [hr])
     have y1 := i1 (by simp [hr])
     obtain ⟨⟨⟨aa4, cc4, ff4⟩, y4⟩, ho4⟩ := p4 (by simp [hr])
     have ho4 := ho4 hk
     clear y4
     have y4 := ff4
     rw [ff4] at ho4
     have z4 := sl_get y4 (by omega)
     clear i0 i1 i2 i3 i5 i6 i7 i8 i9 i10 i11 p4
     go_simp
     refine (w_specTravelOf n _ _ st sd 0 0 _ l _ (H.out.later hL) (H'.out.later hL) (reads_of_owns ho4 (by omega))).mono ?_
     rintro e w4 ⟨rfl, hL4⟩
     rw [HT1.out, HT2.out, HT3.out]
     obtain ⟨-, -, i0, i1, i2, i3, i5, i6, i7, i8, i9, i10, i11, -, p4, -⟩ := HI.out
     exact hK.out _ _ ⟨qB x1, qB x2, qF i0, qF i1, qF i2, qF i3, qP, qF i6, qF i7, qF i8, qF i9, qF i10, qF i11, hL.trans hL4, (fun h => by obtain ⟨⟨hs, hv⟩, ho⟩ := p4 h; exact ⟨⟨by rw [put_ne (show 18 ≠ 19 by decide)]; exact hs, rfl⟩, fun h => absurd h (by simp)⟩), Nat.le_trans hS hL4.size, (hL4.keep Br)⟩
   · refine qst fun g ac wc hn hk hr HI K' hK => ?_
     obtain ⟨x1, x2, i0, i1, i2, i3, i5, i6, i7, i8, i9, i10, i11, hL, p4, hS, Br⟩ := HI.out
     simp [Region.binds] at hr
     have y5 := i5 (by simp [hr])
     clear i0 i1 i2 i3 i5 i6 i7 i8 i9 i10 i11 p4
     go_simp
     obtain ⟨-, -, i0, i1, i2, i3, i5, i6, i7, i8, i9, i10, i11, -, p4, -⟩ := HI.out
     exact hK.out _ _ ⟨qB x1, qB x2, qF i0, qF i1, qF i2, qF i3, qF i5, qP, qF i7, qF i8, qF i9, qF i10, qF i11, hL, (fun h => by obtain ⟨⟨hs, hv⟩, ho⟩ := p4 h; exact ⟨⟨by rw [put_ne (show 18 ≠ 20 by decide)]; exact hs, rfl⟩, fun ht => by have ho := ho ht; exact (by rw [put_ne (show 18 ≠ 20 by decide)]; exact ho)⟩), hS, Br⟩
   · refine qst fun g ac wc hn hk hr HI K' hK => ?_
     obtain ⟨x1, x2, i0, i1, i2, i3, i5, i6, i7, i8, i9, i10, i11, hL, p4, hS, Br⟩ := HI.out
     simp [Region.binds] at hr
     have y5 := i5 (by simp [hr])
     clear i0 i1 i2 i3 i5 i6 i7 i8 i9 i10 i11 p4
     go_simp
     obtain ⟨-, -, i0, i1, i2, i3, i5, i6, i7, i8, i9, i10, i11, -, p4, -⟩ := HI.out
     exact hK.out _ _ ⟨qB x1, qB x2, qF i0, qF i1, qF i2, qF i3, qF i5, qF i6, qP, qF i8, qF i9, qF i10, qF i11, hL, (fun h => by obtain ⟨⟨hs, hv⟩, ho⟩ := p4 h; exact ⟨⟨by rw [put_ne (show 18 ≠ 21 by decide)]; exact hs, rfl⟩, fun ht => by have ho := ho ht; exact (by rw [put_ne (show 18 ≠ 21 by decide)]; exact ho)⟩), hS, Br⟩
   · refine qst fun g ac wc hn hk hr HI K' hK => ?_
     obtain ⟨x1, x2, i0, i1, i2, i3, i5, i6, i7, i8, i9, i10, i11, hL, p4, hS, Br⟩ := HI.out
     simp [Region.binds] at hr
     have y5 := i5 (by simp [hr])
     clear i0 i1 i2 i3 i5 i6 i7 i8 i9 i10 i11 p4
     go_simp
     obtain ⟨-, -, i0, i1, i2, i3, i5, i6, i7, i8, i9, i10, i11, -, p4, -⟩ := HI.out
     exact hK.out _ _ ⟨qB x1, qB x2, qF i0, qF i1, qF i2, qF i3, qF i5, qF i6, qF i7, qP, qF i9, qF i10, qF i11, hL, (fun h => by obtain ⟨⟨hs, hv⟩, ho⟩ := p4 h; exact ⟨⟨by rw [put_ne (show 18 ≠ 22 by decide)]; exact hs, rfl⟩, fun ht => by have ho := ho ht; exact (by rw [put_ne (show 18 ≠ 22 by decide)]; exact ho)⟩), hS, Br⟩
   · refine qst fun g ac wc hn hk hr HI K' hK => ?_
     obtain ⟨x1, x2, i0, i1, i2, i3, i5, i6, i7, i8, i9, i10, i11, hL, p4, hS, Br⟩ := HI.out
     simp [Region.binds] at hr
     have y6 := i6 (by simp [hr])
     clear i0 i1 i2 i3 i5 i6 i7 i8 i9 i10 i11 p4
     go_simp
     obtain ⟨-, -, i0, i1, i2, i3, i5, i6, i7, i8, i9, i10, i11, -, p4, -⟩ := HI.out
     exact hK.out _ _ ⟨qB x1, qB x2, qF i0, qF i1, qF i2, qF i3, qF i5, qF i6, qF i7, qF i8, qP, qF i10, qF i11, hL, (fun h => by obtain ⟨⟨hs, hv⟩, ho⟩ := p4 h; exact ⟨⟨by rw [put_ne (show 18 ≠ 4 by decide)]; exact hs, rfl⟩, fun ht => by have ho := ho ht; exact (by rw [put_ne (show 18 ≠ 4 by decide)]; exact ho)⟩), hS, Br⟩
   · refine qst fun g ac wc hn hk hr HI K' hK => ?_
     obtain ⟨x1, x2, i0, i1, i2, i3, i5, i6, i7, i8, i9, i10, i11, hL, p4, hS, Br⟩ := HI.out
     simp [Region.binds] at hr
     have y7 := i7 (by simp [hr])
     clear i0 i1 i2 i3 i5 i6 i7 i8 i9 i10 i11 p4
     go_simp
     obtain ⟨-, -, i0, i1, i2, i3, i5, i6, i7, i8, i9, i10, i11, -, p4, -⟩ := HI.out
     exact hK.out _ _ ⟨qB x1, qB x2, qF i0, qF i1, qF i2, qF i3, qF i5, qF i6, qF i7, qF i8, qF i9, qP, qF i11, hL, (fun h => by obtain ⟨⟨hs, hv⟩, ho⟩ := p4 h; exact ⟨⟨by rw [put_ne (show 18 ≠ 5 by decide)]; exact hs, rfl⟩, fun ht => by have ho := ho ht; exact (by rw [put_ne (show 18 ≠ 5 by decide)]; exact ho)⟩), hS, Br⟩
   · refine qst fun g ac wc hn hk hr HI K' hK => ?_
     obtain ⟨x1, x2, i0, i1, i2, i3, i5, i6, i7, i8, i9, i10, i11, hL, p4, hS, Br⟩ := HI.out
     simp [Region.binds] at hr
     have y8 := i8 (by simp [hr])
     clear i0 i1 i2 i3 i5 i6 i7 i8 i9 i10 i11 p4
     go_simp
     obtain ⟨-, -, i0, i1, i2, i3, i5, i6, i7, i8, i9, i10, i11, -, p4, -⟩ := HI.out
     exact hK.out _ _ ⟨qB x1, qB x2, qF i0, qF i1, qF i2, qF i3, qF i5, qF i6, qF i7, qF i8, qF i9, qF i10, qP, hL, (fun h => by obtain ⟨⟨hs, hv⟩, ho⟩ := p4 h; exact ⟨⟨by rw [put_ne (show 18 ≠ 6 by decide)]; exact hs, rfl⟩, fun ht => by have ho := ho ht; exact (by rw [put_ne (show 18 ≠ 6 by decide)]; exact ho)⟩), hS, Br⟩
end Go.Proofs.YtkoojngonldcbaaGreat
