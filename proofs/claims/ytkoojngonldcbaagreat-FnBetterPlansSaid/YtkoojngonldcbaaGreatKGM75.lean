/- DERIVED. Walks: the part of the errors that keeps a bound. -/
import Derived.Test.YtkoojngonldcbaaGreatKGM72
namespace Go.Proofs.YtkoojngonldcbaaGreat
set_option linter.unusedVariables false
set_option linter.unusedSimpArgs false
open Go.RowKit
set_option maxRecDepth 100000
theorem keeps_true {r : Rul} {c : List Trm} {e : Ers} {b n : Int} (h1 : pbC r c (partE e n) = 0) (h2 : pbV r c (partE e n) ≤ b) : keepsE r c e b n = true := by
 unfold keepsE
 rw [decide_eq_true h1, decide_eq_true h2]
 rfl
theorem keeps_code {r : Rul} {c : List Trm} {e : Ers} {b n : Int} (h1 : pbC r c (partE e n) ≠ 0) : keepsE r c e b n = false := by
 unfold keepsE
 rw [decide_eq_false h1]
 rfl
theorem keeps_val {r : Rul} {c : List Trm} {e : Ers} {b n : Int} (h2 : ¬ pbV r c (partE e n) ≤ b) : keepsE r c e b n = false := by
 unfold keepsE
 rw [decide_eq_false h2, Bool.and_false]
set_option maxHeartbeats 1000000 in
theorem w_implErrorsFor (n : Int) (u v y : Value) (st sd : List Int) (c : List Trm) (ea eb ec bd : Int) (w : World) (h : IsNums w u st) (h' : IsNums w v sd) (hy : IsTrms w y c) :
 Calls Tryz.prog 40 #[.agg #[.int .i64 n, u, v], y, .agg #[.int .i64 ea, .int .i64 eb, .int .i64 ec], .int .i64 bd] w fun e w' => e = .returned (.tuple #[.int .i64 (efV ⟨n, st, sd⟩ c ⟨ea, eb, ec⟩ bd), .int .i64 (efC ⟨n, st, sd⟩ c ⟨ea, eb, ec⟩ bd)]) ∧ Later w w' := by
 have H := Lib.hid h
 have H' := Lib.hid h'
 have HY := Lib.hid hy
 obtain ⟨_, _, au, capu, rfl, _, _, _⟩ := h
 obtain ⟨_, _, av, capv, rfl, _, _, _⟩ := h'
 obtain ⟨_, _, ay, capy, rfl, _, _, _⟩ := hy
 obtain ⟨X, hX⟩ : ∃ x, codeBound ⟨n, st, sd⟩ c ⟨ea, eb, ec⟩ = x := ⟨_, rfl⟩
 have HX := Lib.hid hX
 by_cases h0 : X = 0
 rotate_left
 · have HF := Lib.hid (ef_no (b := bd) hX h0)
   have hb : (X != 0) = true := by simp [h0]
   have hb2 : (X == 0) = false := by simp [h0]
   clear hX h0
   go_enter Tryz.func40, Tryz.ntmps40
   go_wp2_with fail
   refine (w_checkBound _ _ _ _ _ _ _ _ _ _ _ (H.out.later (((Later.refl _).alloc _).alloc _)) (H'.out.later (((Later.refl _).alloc _).alloc _)) (HY.out.later (((Later.refl _).alloc _).alloc _))).mono ?_
   rintro e w1 ⟨rfl, hL⟩
   rw [HX.out]
   go_wp2
   go_ret2
   exact ⟨by rw [HF.out.1, HF.out.2]; rfl, qla⟩
 subst h0
 cases hr : inR bd 0 1000000
 · have HF := Lib.hid (ef_2 hX hr)
   have HR := Lib.hid hr
   clear hX hr
   go_enter Tryz.func40, Tryz.ntmps40
   go_wp2_with fail
   refine (w_checkBound _ _ _ _ _ _ _ _ _ _ _ (H.out.later (((Later.refl _).alloc _).alloc _)) (H'.out.later (((Later.refl _).alloc _).alloc _)) (HY.out.later (((Later.refl _).alloc _).alloc _))).mono ?_
   rintro e w1 ⟨rfl, hL⟩
   rw [HX.out]
   go_wp2_with fail
   refine (w_within _ _ _ _).mono ?_
   rintro e w2 ⟨rfl, rfl⟩
   rw [HR.out]
   go_wp2
   go_ret2
   exact ⟨by rw [HF.out.1, HF.out.2]; rfl, qla⟩
 have hq := codeBound_0 hX
 have hp := codePlan_0 hq.2
 have hln : 1 ≤ n ∧ n ≤ 100000 := isRule_len hp.1
 obtain ⟨n1, n2⟩ := hln
 have HE := Lib.hid hq.1
 have HC := Lib.hid hp.2.2
 have HCh := Lib.hid hp.2.1
 have HR := Lib.hid hr
 have HX0 := Lib.hid hX
 have HRb := Lib.hid (inR_true hr)
 clear hX hq hp hr
 go_enter Tryz.func40, Tryz.ntmps40
 go_wp2_with fail
 refine (w_checkBound _ _ _ _ _ _ _ _ _ _ _ (H.out.later (((Later.refl _).alloc _).alloc _)) (H'.out.later (((Later.refl _).alloc _).alloc _)) (HY.out.later (((Later.refl _).alloc _).alloc _))).mono ?_
 rintro e w1 ⟨rfl, hL⟩
 rw [HX.out]
 have HL1 := Lib.hid ((((Later.refl w).alloc _).alloc _).trans hL)
 have HK0 := Lib.hid (kept2 hL).1
 have HK1 := Lib.hid (kept2 hL).2
 clear hL
 go_wp2_with fail
 refine (w_within _ _ _ _).mono ?_
 rintro e w2 ⟨rfl, rfl⟩
 rw [HR.out]
 go_wp2
 go_loopw [11] (fun a wr => ∃ k : Int, a = .int .i64 k ∧ -1 ≤ k ∧ k ≤ 20 ∧ Later w wr ∧ wr.heap[w.heap.size]? = some (.cells #[.int .i64 n, .slice au st.length capu, .slice av sd.length capv] 26 (0, 0)) ∧ wr.heap[w.heap.size + 1]? = some (.cells #[.int .i64 ea, .int .i64 eb, .int .i64 ec] 60 (0, 0)) ∧ Hid (mostI ⟨n, st, sd⟩ c ⟨ea, eb, ec⟩ bd 20 = mostI ⟨n, st, sd⟩ c ⟨ea, eb, ec⟩ bd k)) (fun a _ => (intOf a + 1).toNat)
 case atStart => exact ⟨20, rfl, by omega, by omega, HL1.out, HK0.out, HK1.out, rfl⟩
 case round =>
  obtain ⟨k, rfl, k1, k2, hL, hK0, hK1, HD⟩ := hrel
  have HK0r := Lib.hid hK0
  have HK1r := Lib.hid hK1
  have HLr := Lib.hid hL
  by_cases hk : 0 ≤ k
  · have he := isErs_bd HE.out
    simp only at he
    obtain ⟨p1, p2, p3, p4, p5, p6⟩ := he
    obtain ⟨_, _, pa1, pa2⟩ := part_bd p1 p2 hk k2
    obtain ⟨_, _, pb1, pb2⟩ := part_bd p3 p4 hk k2
    obtain ⟨_, _, pc1, pc2⟩ := part_bd p5 p6 hk k2
    have HPt := Lib.hid (show partE ⟨ea, eb, ec⟩ k = ⟨ea * k / 20, eb * k / 20, ec * k / 20⟩ from rfl)
    have HPc := Lib.hid (HPt.out ▸ part_code HX0.out hk k2)
    have HPe := Lib.hid (HPt.out ▸ part_isErs HE.out hk k2)
    obtain ⟨PV, hPV⟩ : ∃ x, pbV ⟨n, st, sd⟩ c ⟨ea * k / 20, eb * k / 20, ec * k / 20⟩ = x := ⟨_, rfl⟩
    obtain ⟨PC, hPC⟩ : ∃ x, pbC ⟨n, st, sd⟩ c ⟨ea * k / 20, eb * k / 20, ec * k / 20⟩ = x := ⟨_, rfl⟩
    have HPV := Lib.hid hPV
    have HPC := Lib.hid hPC
    have HKy := Lib.hid (show PC = 0 → PV ≤ bd → keepsE ⟨n, st, sd⟩ c ⟨ea, eb, ec⟩ bd k = true from fun a b => keeps_true (by rw [HPt.out, hPC]; exact a) (by rw [HPt.out, hPV]; exact b))
    have HKc := Lib.hid (show PC ≠ 0 → keepsE ⟨n, st, sd⟩ c ⟨ea, eb, ec⟩ bd k = false from fun a => keeps_code (by rw [HPt.out, hPC]; exact a))
    have HKv := Lib.hid (show ¬ PV ≤ bd → keepsE ⟨n, st, sd⟩ c ⟨ea, eb, ec⟩ bd k = false from fun a => keeps_val (by rw [HPt.out, hPV]; exact a))
    obtain ⟨c0, f0, z0⟩ := blk_at hK0
    obtain ⟨c1, f1, z1⟩ := blk_at hK1
    clear hK0 hK1 hL hPV hPC
    by_cases q1 : PC = 0
    · subst q1
      by_cases q2 : PV ≤ bd
      · have HFd := Lib.hid (ef_0 HX0.out HR.out hk (HD.out.trans (mostI_yes hk (HKy.out rfl q2))))
        go_wp2_with fail
        refine (w_implPlanBound _ _ _ _ _ _ _ _ _ _ _ (H.out.later (HLr.out.alloc _)) (H'.out.later (HLr.out.alloc _)) (HY.out.later (HLr.out.alloc _))).mono ?_
        rintro e w3 ⟨rfl, hL3⟩
        rw [HPV.out, HPC.out]
        go_wp2
        go_ret2
        exact ⟨by rw [HFd.out.1, HFd.out.2]; rfl, (HLr.out.alloc _).trans hL3⟩
      · have HNx := Lib.hid (HD.out.trans (mostI_no hk (HKv.out q2)))
        go_wp2_with fail
        refine (w_implPlanBound _ _ _ _ _ _ _ _ _ _ _ (H.out.later (HLr.out.alloc _)) (H'.out.later (HLr.out.alloc _)) (HY.out.later (HLr.out.alloc _))).mono ?_
        rintro e w3 ⟨rfl, hL3⟩
        rw [HPV.out, HPC.out]
        have HK0n := Lib.hid (hL3.keep (heap_alloc_old _ _ HK0r.out))
        have HK1n := Lib.hid (hL3.keep (heap_alloc_old _ _ HK1r.out))
        clear c0 f0 z0 c1 f1 z1
        go_wp2
        go_roundw
        case rel => exact ⟨k - 1, rfl, by omega, by omega, (HLr.out.alloc _).trans hL3, HK0n.out, HK1n.out, HNx.out⟩
        case measure => simp [intOf]; omega
    · have HNx := Lib.hid (HD.out.trans (mostI_no hk (HKc.out q1)))
      have q1b : (PC == 0) = false := by simp [q1]
      go_wp2_with fail
      refine (w_implPlanBound _ _ _ _ _ _ _ _ _ _ _ (H.out.later (HLr.out.alloc _)) (H'.out.later (HLr.out.alloc _)) (HY.out.later (HLr.out.alloc _))).mono ?_
      rintro e w3 ⟨rfl, hL3⟩
      rw [HPV.out, HPC.out]
      have HK0n := Lib.hid (hL3.keep (heap_alloc_old _ _ HK0r.out))
      have HK1n := Lib.hid (hL3.keep (heap_alloc_old _ _ HK1r.out))
      clear c0 f0 z0 c1 f1 z1
      go_wp2
      go_roundw
      case rel => exact ⟨k - 1, rfl, by omega, by omega, (HLr.out.alloc _).trans hL3, HK0n.out, HK1n.out, HNx.out⟩
      case measure => simp [intOf]; omega
  · have HF := Lib.hid (ef_4 HX0.out HR.out (HD.out.trans (mostI_neg (by omega))))
    go_wp2
    go_ret2
    exact ⟨by rw [HF.out.1, HF.out.2]; rfl, HLr.out⟩
set_option maxHeartbeats 1000000 in
theorem w_specErrorsFor (n : Int) (u v y : Value) (st sd : List Int) (c : List Trm) (ea eb ec bd : Int) (w : World) (h : IsNums w u st) (h' : IsNums w v sd) (hy : IsTrms w y c) :
 Calls Tryz.prog 41 #[.agg #[.int .i64 n, u, v], y, .agg #[.int .i64 ea, .int .i64 eb, .int .i64 ec], .int .i64 bd] w fun e w' => e = .returned (.tuple #[.int .i64 (efV ⟨n, st, sd⟩ c ⟨ea, eb, ec⟩ bd), .int .i64 (efC ⟨n, st, sd⟩ c ⟨ea, eb, ec⟩ bd)]) ∧ Later w w' := by
 have H := Lib.hid h
 have H' := Lib.hid h'
 have HY := Lib.hid hy
 obtain ⟨_, _, au, capu, rfl, _, _, _⟩ := h
 obtain ⟨_, _, av, capv, rfl, _, _, _⟩ := h'
 obtain ⟨_, _, ay, capy, rfl, _, _, _⟩ := hy
 obtain ⟨X, hX⟩ : ∃ x, codeBound ⟨n, st, sd⟩ c ⟨ea, eb, ec⟩ = x := ⟨_, rfl⟩
 have HX := Lib.hid hX
 by_cases h0 : X = 0
 rotate_left
 · have HF := Lib.hid (ef_no (b := bd) hX h0)
   have hb : (X != 0) = true := by simp [h0]
   have hb2 : (X == 0) = false := by simp [h0]
   clear hX h0
   go_enter Tryz.func41, Tryz.ntmps41
   go_wp2_with fail
   refine (w_l15Code _ _ _ _ _ _ _ _ _ _ _ (H.out.later (((Later.refl _).alloc _).alloc _)) (H'.out.later (((Later.refl _).alloc _).alloc _)) (HY.out.later (((Later.refl _).alloc _).alloc _))).mono ?_
   rintro e w1 ⟨rfl, hL⟩
   rw [HX.out]
   go_wp2
   go_ret2
   exact ⟨by rw [HF.out.1, HF.out.2]; rfl, qla⟩
 subst h0
 cases hr : inR bd 0 1000000
 · have HF := Lib.hid (ef_2 hX hr)
   have HR := Lib.hid hr
   clear hX hr
   go_enter Tryz.func41, Tryz.ntmps41
   go_wp2_with fail
   refine (w_l15Code _ _ _ _ _ _ _ _ _ _ _ (H.out.later (((Later.refl _).alloc _).alloc _)) (H'.out.later (((Later.refl _).alloc _).alloc _)) (HY.out.later (((Later.refl _).alloc _).alloc _))).mono ?_
   rintro e w1 ⟨rfl, hL⟩
   rw [HX.out]
   go_wp2_with fail
   refine (w_l01In _ _ _ _).mono ?_
   rintro e w2 ⟨rfl, rfl⟩
   rw [HR.out]
   go_wp2
   go_ret2
   exact ⟨by rw [HF.out.1, HF.out.2]; rfl, qla⟩
 have hq := codeBound_0 hX
 have hp := codePlan_0 hq.2
 have hln : 1 ≤ n ∧ n ≤ 100000 := isRule_len hp.1
 obtain ⟨n1, n2⟩ := hln
 have HE := Lib.hid hq.1
 have HC := Lib.hid hp.2.2
 have HCh := Lib.hid hp.2.1
 have HR := Lib.hid hr
 have HX0 := Lib.hid hX
 have HRb := Lib.hid (inR_true hr)
 clear hX hq hp hr
 go_enter Tryz.func41, Tryz.ntmps41
 go_wp2_with fail
 refine (w_l15Code _ _ _ _ _ _ _ _ _ _ _ (H.out.later (((Later.refl _).alloc _).alloc _)) (H'.out.later (((Later.refl _).alloc _).alloc _)) (HY.out.later (((Later.refl _).alloc _).alloc _))).mono ?_
 rintro e w1 ⟨rfl, hL⟩
 rw [HX.out]
 have HL1 := Lib.hid ((((Later.refl w).alloc _).alloc _).trans hL)
 have HK0 := Lib.hid (kept2 hL).1
 have HK1 := Lib.hid (kept2 hL).2
 clear hL
 go_wp2_with fail
 refine (w_l01In _ _ _ _).mono ?_
 rintro e w2 ⟨rfl, rfl⟩
 rw [HR.out]
 go_wp2
 go_loopw [11] (fun a wr => ∃ k : Int, a = .int .i64 k ∧ -1 ≤ k ∧ k ≤ 20 ∧ Later w wr ∧ wr.heap[w.heap.size]? = some (.cells #[.int .i64 n, .slice au st.length capu, .slice av sd.length capv] 26 (0, 0)) ∧ wr.heap[w.heap.size + 1]? = some (.cells #[.int .i64 ea, .int .i64 eb, .int .i64 ec] 60 (0, 0)) ∧ Hid (mostI ⟨n, st, sd⟩ c ⟨ea, eb, ec⟩ bd 20 = mostI ⟨n, st, sd⟩ c ⟨ea, eb, ec⟩ bd k)) (fun a _ => (intOf a + 1).toNat)
 case atStart => exact ⟨20, rfl, by omega, by omega, HL1.out, HK0.out, HK1.out, rfl⟩
 case round =>
  obtain ⟨k, rfl, k1, k2, hL, hK0, hK1, HD⟩ := hrel
  have HK0r := Lib.hid hK0
  have HK1r := Lib.hid hK1
  have HLr := Lib.hid hL
  by_cases hk : 0 ≤ k
  · have he := isErs_bd HE.out
    simp only at he
    obtain ⟨p1, p2, p3, p4, p5, p6⟩ := he
    obtain ⟨_, _, pa1, pa2⟩ := part_bd p1 p2 hk k2
    obtain ⟨_, _, pb1, pb2⟩ := part_bd p3 p4 hk k2
    obtain ⟨_, _, pc1, pc2⟩ := part_bd p5 p6 hk k2
    have HPt := Lib.hid (show partE ⟨ea, eb, ec⟩ k = ⟨ea * k / 20, eb * k / 20, ec * k / 20⟩ from rfl)
    have HPc := Lib.hid (HPt.out ▸ part_code HX0.out hk k2)
    have HPe := Lib.hid (HPt.out ▸ part_isErs HE.out hk k2)
    obtain ⟨PV, hPV⟩ : ∃ x, pbV ⟨n, st, sd⟩ c ⟨ea * k / 20, eb * k / 20, ec * k / 20⟩ = x := ⟨_, rfl⟩
    obtain ⟨PC, hPC⟩ : ∃ x, pbC ⟨n, st, sd⟩ c ⟨ea * k / 20, eb * k / 20, ec * k / 20⟩ = x := ⟨_, rfl⟩
    have HPV := Lib.hid hPV
    have HPC := Lib.hid hPC
    have HKy := Lib.hid (show PC = 0 → PV ≤ bd → keepsE ⟨n, st, sd⟩ c ⟨ea, eb, ec⟩ bd k = true from fun a b => keeps_true (by rw [HPt.out, hPC]; exact a) (by rw [HPt.out, hPV]; exact b))
    have HKc := Lib.hid (show PC ≠ 0 → keepsE ⟨n, st, sd⟩ c ⟨ea, eb, ec⟩ bd k = false from fun a => keeps_code (by rw [HPt.out, hPC]; exact a))
    have HKv := Lib.hid (show ¬ PV ≤ bd → keepsE ⟨n, st, sd⟩ c ⟨ea, eb, ec⟩ bd k = false from fun a => keeps_val (by rw [HPt.out, hPV]; exact a))
    obtain ⟨c0, f0, z0⟩ := blk_at hK0
    obtain ⟨c1, f1, z1⟩ := blk_at hK1
    clear hK0 hK1 hL hPV hPC
    by_cases q1 : PC = 0
    · subst q1
      by_cases q2 : PV ≤ bd
      · have HFd := Lib.hid (ef_0 HX0.out HR.out hk (HD.out.trans (mostI_yes hk (HKy.out rfl q2))))
        go_wp2_with fail
        refine (w_l15Bound _ _ _ _ _ _ _ _ _ _ _ (H.out.later (HLr.out.alloc _)) (H'.out.later (HLr.out.alloc _)) (HY.out.later (HLr.out.alloc _)) HC.out HCh.out HPe.out n1 n2 HPc.out).mono ?_
        rintro e w3 ⟨rfl, hL3⟩
        rw [HPV.out, HPC.out]
        go_wp2
        go_ret2
        exact ⟨by rw [HFd.out.1, HFd.out.2]; rfl, (HLr.out.alloc _).trans hL3⟩
      · have HNx := Lib.hid (HD.out.trans (mostI_no hk (HKv.out q2)))
        go_wp2_with fail
        refine (w_l15Bound _ _ _ _ _ _ _ _ _ _ _ (H.out.later (HLr.out.alloc _)) (H'.out.later (HLr.out.alloc _)) (HY.out.later (HLr.out.alloc _)) HC.out HCh.out HPe.out n1 n2 HPc.out).mono ?_
        rintro e w3 ⟨rfl, hL3⟩
        rw [HPV.out, HPC.out]
        have HK0n := Lib.hid (hL3.keep (heap_alloc_old _ _ HK0r.out))
        have HK1n := Lib.hid (hL3.keep (heap_alloc_old _ _ HK1r.out))
        clear c0 f0 z0 c1 f1 z1
        go_wp2
        go_roundw
        case rel => exact ⟨k - 1, rfl, by omega, by omega, (HLr.out.alloc _).trans hL3, HK0n.out, HK1n.out, HNx.out⟩
        case measure => simp [intOf]; omega
    · have HNx := Lib.hid (HD.out.trans (mostI_no hk (HKc.out q1)))
      have q1b : (PC == 0) = false := by simp [q1]
      go_wp2_with fail
      refine (w_l15Bound _ _ _ _ _ _ _ _ _ _ _ (H.out.later (HLr.out.alloc _)) (H'.out.later (HLr.out.alloc _)) (HY.out.later (HLr.out.alloc _)) HC.out HCh.out HPe.out n1 n2 HPc.out).mono ?_
      rintro e w3 ⟨rfl, hL3⟩
      rw [HPV.out, HPC.out]
      have HK0n := Lib.hid (hL3.keep (heap_alloc_old _ _ HK0r.out))
      have HK1n := Lib.hid (hL3.keep (heap_alloc_old _ _ HK1r.out))
      clear c0 f0 z0 c1 f1 z1
      go_wp2
      go_roundw
      case rel => exact ⟨k - 1, rfl, by omega, by omega, (HLr.out.alloc _).trans hL3, HK0n.out, HK1n.out, HNx.out⟩
      case measure => simp [intOf]; omega
  · have HF := Lib.hid (ef_4 HX0.out HR.out (HD.out.trans (mostI_neg (by omega))))
    go_wp2
    go_ret2
    exact ⟨by rw [HF.out.1, HF.out.2]; rfl, HLr.out⟩
end Go.Proofs.YtkoojngonldcbaaGreat
