/- DERIVED. Walks: the planner's moves for a term. -/
import Derived.Test.YtkoojngonldcbaaGreatKGM54
import Derived.Test.YtkoojngonldcbaaGreatKGBA
namespace Go.Proofs.YtkoojngonldcbaaGreat
set_option linter.unusedVariables false
set_option linter.unusedSimpArgs false
open Go.RowKit
set_option maxRecDepth 100000
theorem PlGo.ne {k : Nat} {q q' : Value} {a b : World} (h : PlGo k q q' a b) {j : Nat} (hq : q.ownBlock ≠ some j) (hj : j < a.heap.size) : q'.ownBlock ≠ some j := by
 intro e
 rcases h.own j e with e | e
 · exact hq e
 · omega
theorem fits_eq {r : Rul} (hC : hasI r.st 0 = true ∧ hasI r.sl 0 = true) {s : Stg} (hs : isStg s = true) (f : Fig) : mvOk r s ⟨1, 0, f⟩ = fitsP s f := by
 rw [(mv0 hC s 1 f).2, mvTo1]
 have hb := isStg_bd hs
 unfold isStg fitsP
 rw [inR_mk ⟨hb.1, hb.2.1⟩, Bool.true_and, Int.add_comm]
theorem left_eq {r : Rul} (hC : hasI r.st 0 = true ∧ hasI r.sl 0 = true) {s : Stg} (hs : isStg s = true) (f : Fig) : mvOk r ⟨s.cu, s.cu⟩ ⟨1, 0, f⟩ = leftP s f := by
 have hb := isStg_bd hs
 rw [fits_eq hC (isStg_mk (by omega) (by omega) (by omega) (by omega))]
 rfl
theorem left_stg {s : Stg} (hs : isStg s = true) : isStg ⟨s.cu, s.cu⟩ = true := by
 have hb := isStg_bd hs
 exact isStg_mk (by omega) (by omega) (by omega) (by omega)
theorem doP_e (p : Pln) (K : Int) (f : Fig) (e : Bool) : (doP p K f e).e = e := rfl
theorem side_y {p : Pln} {f : Fig} (h : leftP p.s f = true) : sideP p f = doP p 3 ⟨0, 0⟩ false := by unfold sideP; rw [if_pos h]
theorem side_n {p : Pln} {f : Fig} (h : leftP p.s f = false) : sideP p f = doP p 4 ⟨0, 0⟩ false := by unfold sideP; rw [if_neg (by simp [h])]
theorem termP_y {p : Pln} {f : Fig} : termP p ⟨f, true⟩ = doP (underP p) 2 f true := rfl
theorem termP_f {p : Pln} {f : Fig} (h : p.e = true) (h' : fitsP p.s f = true) : termP p ⟨f, false⟩ = doP p 1 f false := by
 unfold termP; simp only [Bool.false_eq_true, if_false]; rw [h, h']; rfl
theorem termP_n {p : Pln} {f : Fig} (h : (p.e && fitsP p.s f) = false) : termP p ⟨f, false⟩ = doP (sideP (underP p) f) 1 f false := by
 unfold termP; simp only [Bool.false_eq_true, if_false]; rw [h]; simp only [Bool.false_eq_true, if_false]
set_option maxHeartbeats 8000000 in
theorem w_termA (n : Int) (au av aq : Option Addr) (capu capv lq capq : Nat) (st sd : List Int) (k : Nat) (p : Pln) (d t : Int) (w0 w : World) (hP : PlAt w k n (.slice au st.length capu) (.slice av sd.length capv) (.slice aq lq capq) p)
 (h : IsNums w0 (.slice au st.length capu) st) (h' : IsNums w0 (.slice av sd.length capv) sd) (hL0 : Later w0 w) (hk0 : w0.heap.size ≤ k) (hC : hasI st 0 = true ∧ hasI sd 0 = true) (ho : OkP ⟨n, st, sd⟩ p 20) (hf : isFig ⟨d, t⟩ = true) :
 Calls Tryz.prog 113 #[.pointer (some ⟨k, 0, none⟩), .agg #[.int .i64 d, .int .i64 t, .bool true]] w fun e w' => e = .returned (.tuple #[]) ∧
  ∃ aq' lq' capq', PlAt w' k n (.slice au st.length capu) (.slice av sd.length capv) (.slice aq' lq' capq') (termP p ⟨⟨d, t⟩, true⟩) ∧ PlGo k (.slice aq lq capq) (.slice aq' lq' capq') w w' := by
 have H := Lib.hid h
 have H' := Lib.hid h'
 have HC := Lib.hid hC
 have HO := Lib.hid ho
 have HFg := Lib.hid hf
 have HPl := Lib.hid hP
 have hkw := hP.lt
 have hkB := hP.1
 have HN0 := Lib.hid (hP.ne (j := w.heap.size) (.inr (Nat.le_refl _)))
 have HN1 := Lib.hid (hP.ne (j := w.heap.size + 1) (.inr (Nat.le_succ _)))
 clear h h' hC ho hf hP
 obtain ⟨c0, f0, z0⟩ := blk_at hkB
 clear hkB
 go_enter Tryz.func113, Tryz.ntmps113
 go_wp2_with fail
 refine (w_toCursor n au av aq capu capv lq capq st sd k p w0 _ (HPl.out.later (((Later.refl _).alloc _).alloc _)) H.out H'.out (hL0.trans (((Later.refl _).alloc _).alloc _)) hk0 HC.out HO.out.st (by have := HO.out.len; omega)).mono ?_
 rintro e w1 ⟨rfl, aq1, lq1, capq1, hP1, hG1⟩
 have HP1 := Lib.hid hP1
 have HG1 := Lib.hid hG1
 have hK0 := hG1.keep (heap_alloc_old _ _ (heap_alloc_new _ _)) (by omega) HN0.out
 obtain ⟨c1, f1, z1⟩ := blk_at hK0
 have HO1 := Lib.hid (HO.out.under HC.out)
 have hsz := hG1.size
 simp only [World.size_alloc] at hsz
 have HL1 := Lib.hid (show Later w0 w1 from Below.trans hL0 (((PlGo.later (((Later.refl _).alloc _).alloc _)).trans hG1).below hL0.size hk0 (fun j e => by have := HPl.out.ownk j e; omega)))
 clear hP1 hG1 hK0 c0 f0 z0
 go_wp2_with fail
 refine (w_do n au av aq1 capu capv lq1 capq1 st sd k (underP p) 2 d t w0 _ HP1.out H.out H'.out HL1.out hk0 HC.out HO1.out.st (isMove_fig (by decide) (by decide) HFg.out) (by have := HO1.out.len; omega)).mono ?_
 rintro e w2 ⟨rfl, aq2, lq2, capq2, hP2, hG2⟩
 have HP2 := Lib.hid hP2
 have HG2 := Lib.hid hG2
 have h2 := hP2.1
 obtain ⟨c0, f0, z0⟩ := blk_at h2
 clear hP2 hG2 c1 f1 z1 h2
 go_wp2
 first
  | refine bodyPost_ret (results_none rfl _ _ _) rfl ?_
  | go_end0
 exact ⟨rfl, aq2, lq2, capq2, by rw [termP_y]; exact HP2.out.mark true, (((PlGo.later (((Later.refl _).alloc _).alloc _)).trans HG1.out).trans HG2.out).trans (PlGo.setCell _ _ _)⟩
set_option maxHeartbeats 8000000 in
theorem w_termB (n : Int) (au av aq : Option Addr) (capu capv lq capq : Nat) (st sd : List Int) (k : Nat) (p : Pln) (d t : Int) (w0 w : World) (hP : PlAt w k n (.slice au st.length capu) (.slice av sd.length capv) (.slice aq lq capq) p)
 (h : IsNums w0 (.slice au st.length capu) st) (h' : IsNums w0 (.slice av sd.length capv) sd) (hL0 : Later w0 w) (hk0 : w0.heap.size ≤ k) (hC : hasI st 0 = true ∧ hasI sd 0 = true) (ho : OkP ⟨n, st, sd⟩ p 20) (hf : isFig ⟨d, t⟩ = true) (he : p.e = true) (hfit : fitsP p.s ⟨d, t⟩ = true) :
 Calls Tryz.prog 113 #[.pointer (some ⟨k, 0, none⟩), .agg #[.int .i64 d, .int .i64 t, .bool false]] w fun e w' => e = .returned (.tuple #[]) ∧
  ∃ aq' lq' capq', PlAt w' k n (.slice au st.length capu) (.slice av sd.length capv) (.slice aq' lq' capq') (termP p ⟨⟨d, t⟩, false⟩) ∧ PlGo k (.slice aq lq capq) (.slice aq' lq' capq') w w' := by
 have H := Lib.hid h
 have H' := Lib.hid h'
 have HC := Lib.hid hC
 have HO := Lib.hid ho
 have HFg := Lib.hid hf
 have HPl := Lib.hid hP
 have hkw := hP.lt
 have hkB := hP.1
 have HN0 := Lib.hid (hP.ne (j := w.heap.size) (.inr (Nat.le_refl _)))
 have HN1 := Lib.hid (hP.ne (j := w.heap.size + 1) (.inr (Nat.le_succ _)))
 have HM1 := Lib.hid (isMove_fig (k := 1) (by decide) (by decide) hf)
 have HOK := Lib.hid ((fits_eq (r := ⟨n, st, sd⟩) hC ho.st ⟨d, t⟩).trans hfit)
 have HT := Lib.hid (termP_f he hfit)
 rw [he] at hkB
 clear he hfit
 clear h h' hC ho hf hP
 obtain ⟨c0, f0, z0⟩ := blk_at hkB
 clear hkB
 go_enter Tryz.func113, Tryz.ntmps113
 go_wp2_with fail
 refine (w_can n au av aq capu capv lq capq st sd k p ⟨1, 0, ⟨d, t⟩⟩ _ (HPl.out.later (((Later.refl _).alloc _).alloc _)) (H.out.later (hL0.trans (((Later.refl _).alloc _).alloc _))) (H'.out.later (hL0.trans (((Later.refl _).alloc _).alloc _))) HO.out.st HM1.out).mono ?_
 rintro e w1 ⟨rfl, hL⟩
 rw [HOK.out]
 obtain ⟨K0, K1⟩ := kept2 hL
 obtain ⟨c1, f1, z1⟩ := blk_at K0
 have hL1 := (((Later.refl _).alloc _).alloc _).trans hL
 clear c0 f0 z0 K0 K1 hL
 go_wp2_with fail
 refine (w_do n au av aq capu capv lq capq st sd k p 1 d t w0 _ (HPl.out.later (hL1.alloc _)) H.out H'.out (hL0.trans (hL1.alloc _)) hk0 HC.out HO.out.st HM1.out (by have := HO.out.len; omega)).mono ?_
 rintro e w2 ⟨rfl, aq2, lq2, capq2, hP2, hG2⟩
 have HP2 := Lib.hid hP2
 have HG2 := Lib.hid hG2
 have h2 := hP2.1
 obtain ⟨c0, f0, z0⟩ := blk_at h2
 clear hP2 hG2 c1 f1 z1 h2
 go_wp2
 first
  | refine bodyPost_ret (results_none rfl _ _ _) rfl ?_
  | go_end0
 exact ⟨rfl, aq2, lq2, capq2, by rw [HT.out]; exact HP2.out.mark false, ((PlGo.later (hL1.alloc _)).trans HG2.out).trans (PlGo.setCell _ _ _)⟩
set_option maxHeartbeats 8000000 in
theorem w_termC (n : Int) (au av aq : Option Addr) (capu capv lq capq : Nat) (st sd : List Int) (k : Nat) (p : Pln) (d t : Int) (w0 w : World) (hP : PlAt w k n (.slice au st.length capu) (.slice av sd.length capv) (.slice aq lq capq) p)
 (h : IsNums w0 (.slice au st.length capu) st) (h' : IsNums w0 (.slice av sd.length capv) sd) (hL0 : Later w0 w) (hk0 : w0.heap.size ≤ k) (hC : hasI st 0 = true ∧ hasI sd 0 = true) (ho : OkP ⟨n, st, sd⟩ p 20) (hf : isFig ⟨d, t⟩ = true) (he : p.e = true) (hfit : fitsP p.s ⟨d, t⟩ = false) :
 Calls Tryz.prog 113 #[.pointer (some ⟨k, 0, none⟩), .agg #[.int .i64 d, .int .i64 t, .bool false]] w fun e w' => e = .returned (.tuple #[]) ∧
  ∃ aq' lq' capq', PlAt w' k n (.slice au st.length capu) (.slice av sd.length capv) (.slice aq' lq' capq') (termP p ⟨⟨d, t⟩, false⟩) ∧ PlGo k (.slice aq lq capq) (.slice aq' lq' capq') w w' := by
 have H := Lib.hid h
 have H' := Lib.hid h'
 have HC := Lib.hid hC
 have HO := Lib.hid ho
 have HFg := Lib.hid hf
 have HPl := Lib.hid hP
 have hkw := hP.lt
 have hkB := hP.1
 have HN0 := Lib.hid (hP.ne (j := w.heap.size) (.inr (Nat.le_refl _)))
 have HN1 := Lib.hid (hP.ne (j := w.heap.size + 1) (.inr (Nat.le_succ _)))
 have HM1 := Lib.hid (isMove_fig (k := 1) (by decide) (by decide) hf)
 have HOK := Lib.hid ((fits_eq (r := ⟨n, st, sd⟩) hC ho.st ⟨d, t⟩).trans hfit)
 have HO2 := Lib.hid (ho.under hC)
 have HT := Lib.hid (termP_n (p := p) (f := ⟨d, t⟩) (by rw [hfit, Bool.and_false]))
 have HE2 := Lib.hid (underP_e p)
 have HLS := Lib.hid ((mv0 (r := ⟨n, st, sd⟩) hC (underP p).s 3 ⟨0, 0⟩).1.trans (mvTo3 _ _))
 have HLM := Lib.hid (left_stg HO2.out.st)
 have HLO := Lib.hid (left_eq (r := ⟨n, st, sd⟩) hC HO2.out.st ⟨d, t⟩)
 rw [he] at hkB
 clear he hfit
 clear h h' hC ho hf hP
 obtain ⟨c0, f0, z0⟩ := blk_at hkB
 clear hkB
 go_enter Tryz.func113, Tryz.ntmps113
 go_wp2_with fail
 refine (w_can n au av aq capu capv lq capq st sd k p ⟨1, 0, ⟨d, t⟩⟩ _ (HPl.out.later (((Later.refl _).alloc _).alloc _)) (H.out.later (hL0.trans (((Later.refl _).alloc _).alloc _))) (H'.out.later (hL0.trans (((Later.refl _).alloc _).alloc _))) HO.out.st HM1.out).mono ?_
 rintro e w1 ⟨rfl, hL⟩
 rw [HOK.out]
 obtain ⟨K0, K1⟩ := kept2 hL
 have HK0 := Lib.hid K0
 have HK1 := Lib.hid K1
 have hL1 := (((Later.refl _).alloc _).alloc _).trans hL
 have hsz1 := hL1.size
 clear c0 f0 z0 K0 K1 hL
 go_wp2_with fail
 refine (w_toCursor n au av aq capu capv lq capq st sd k p w0 _ (HPl.out.later (hL1.alloc _)) H.out H'.out (hL0.trans (hL1.alloc _)) hk0 HC.out HO.out.st (by have := HO.out.len; omega)).mono ?_
 rintro e w2 ⟨rfl, aq2, lq2, capq2, hP2, hG2⟩
 have HP2 := Lib.hid hP2
 have HG2 := Lib.hid hG2
 have HK02 := Lib.hid (hG2.keep (heap_alloc_old _ _ HK0.out) (by omega) HN0.out)
 have HK12 := Lib.hid (hG2.keep (heap_alloc_old _ _ HK1.out) (by omega) HN1.out)
 have HNe := Lib.hid (hG2.ne HN0.out (by simp; omega))
 have HGw := Lib.hid ((PlGo.later (hL1.alloc _)).trans hG2)
 have HL2 := Lib.hid (show Later w0 w2 from Below.trans hL0 (((PlGo.later (hL1.alloc _)).trans hG2).below hL0.size hk0 (fun j e => by have := HPl.out.ownk j e; omega)))
 clear hP2 hG2
 go_wp2_with fail
 refine (w_can n au av aq2 capu capv lq2 capq2 st sd k (underP p) ⟨3, 0, ⟨0, 0⟩⟩ _ HP2.out (H.out.later HL2.out) (H'.out.later HL2.out) HO2.out.st (isMove_end (by decide) (by decide))).mono ?_
 rintro e w3 ⟨rfl, hL3⟩
 rw [HLS.out]
 have hP3 := HP2.out.later hL3
 have hG3 := HGw.out.trans (PlGo.later hL3)
 have K0 := hL3.keep HK02.out
 have K1 := hL3.keep HK12.out
 have hLw3 := HL2.out.trans hL3
 clear hL3 hL1
 have HP3 := Lib.hid hP3
 have HG3 := Lib.hid hG3
 have HK0 := Lib.hid K0
 have HK1 := Lib.hid K1
 have HLz := Lib.hid hLw3
 have hsz3 := hG3.size
 clear hP3 hG3 K0 K1 hLw3
 go_wp2_with fail
 refine wp_name ?_
 intro z hz
 have hLz : Later w3 z := by rw [hz]; exact (Later.refl _).alloc _
 have Ks : z.heap[w3.heap.size]? = some (.cells #[.int .i64 (underP p).s.cu, .int .i64 (underP p).s.cu] 78 (0, 0)) := by rw [hz]; exact heap_alloc_new _ _
 have HPz := Lib.hid (HP3.out.later hLz)
 have Kp := HPz.out.1
 have Km := hLz.keep HK1.out
 have Kt := hLz.keep HK0.out
 have HGz := Lib.hid (HG3.out.trans (PlGo.later hLz))
 have HZ := Lib.hid (H.out.later (HLz.out.trans hLz))
 have HZ' := Lib.hid (H'.out.later (HLz.out.trans hLz))
 have HLw := Lib.hid (HLz.out.trans hLz)
 have hSB := hLz.size
 have lt1 := (Array.getElem?_eq_some_iff.1 Km).1
 have lt2 := (Array.getElem?_eq_some_iff.1 Ks).1
 have lt3 := (Array.getElem?_eq_some_iff.1 Kp).1
 have hL0 := Later.refl z
 clear hz hLz
 refine region_slots 72 [52, 53, 54, 55, 56, 57, 58, 51, 59, 60, 9, 10] (fun g ac wc => sl ac 0 = .pointer (some ⟨k, 0, none⟩) ∧
  sl ac 4 = .pointer (some ⟨w.heap.size + 1, 0, none⟩) ∧
  sl ac 7 = .pointer (some ⟨w3.heap.size, 0, none⟩) ∧
  (g 0 = true → sl ac 52 = .pointer (some ⟨k, 0, none⟩)) ∧
  (g 1 = true → sl ac 53 = .pointer (some ⟨k, 0, none⟩)) ∧
  (g 2 = true → sl ac 54 = .pointer (some ⟨k, 0, none⟩)) ∧
  (g 3 = true → sl ac 55 = .agg #[.int .i64 n, .slice au st.length capu, .slice av sd.length capv]) ∧
  (g 4 = true → sl ac 56 = .agg #[.int .i64 (underP p).s.cu, .int .i64 (underP p).s.cu]) ∧
  (g 5 = true → sl ac 57 = .agg #[.int .i64 1, .int .i64 0, .int .i64 d, .int .i64 t]) ∧
  (g 6 = true → sl ac 58 = .tuple #[.agg #[.int .i64 (mvS ⟨n, st, sd⟩ ⟨(underP p).s.cu, (underP p).s.cu⟩ ⟨1, 0, ⟨d, t⟩⟩).sh, .int .i64 (mvS ⟨n, st, sd⟩ ⟨(underP p).s.cu, (underP p).s.cu⟩ ⟨1, 0, ⟨d, t⟩⟩).cu], .bool (leftP (underP p).s ⟨d, t⟩)]) ∧
  (g 7 = true → sl ac 51 = .tuple #[.agg #[.int .i64 (mvS ⟨n, st, sd⟩ ⟨(underP p).s.cu, (underP p).s.cu⟩ ⟨1, 0, ⟨d, t⟩⟩).sh, .int .i64 (mvS ⟨n, st, sd⟩ ⟨(underP p).s.cu, (underP p).s.cu⟩ ⟨1, 0, ⟨d, t⟩⟩).cu], .bool (leftP (underP p).s ⟨d, t⟩)]) ∧
  (g 8 = true → sl ac 59 = .agg #[.int .i64 (mvS ⟨n, st, sd⟩ ⟨(underP p).s.cu, (underP p).s.cu⟩ ⟨1, 0, ⟨d, t⟩⟩).sh, .int .i64 (mvS ⟨n, st, sd⟩ ⟨(underP p).s.cu, (underP p).s.cu⟩ ⟨1, 0, ⟨d, t⟩⟩).cu]) ∧
  (g 9 = true → sl ac 60 = .bool (leftP (underP p).s ⟨d, t⟩)) ∧
  (g 12 = true → sl ac 10 = .bool (leftP (underP p).s ⟨d, t⟩)) ∧
  Later z wc ∧
  (g 10 = true → ∃ k, sl ac 9 = .pointer (some ⟨k, 0, none⟩) ∧ z.heap.size ≤ k ∧ ∃ p10_0 p10_1, wc.heap[k]? = some (.cells #[p10_0, p10_1] 78 (0, 0)) ∧ (g 11 = true → p10_0 = .int .i64 (mvS ⟨n, st, sd⟩ ⟨(underP p).s.cu, (underP p).s.cu⟩ ⟨1, 0, ⟨d, t⟩⟩).sh ∧ p10_1 = .int .i64 (mvS ⟨n, st, sd⟩ ⟨(underP p).s.cu, (underP p).s.cu⟩ ⟨1, 0, ⟨d, t⟩⟩).cu)) ∧
  (g 11 = true → g 10 = true) ∧
  z.heap.size ≤ wc.heap.size ∧
  wc.heap[k]? = some (.cells #[.int .i64 n, .slice au st.length capu, .slice av sd.length capv, .int .i64 (underP p).s.sh, .int .i64 (underP p).s.cu, .slice aq2 lq2 capq2, .bool (underP p).e] 125 (0, 0)) ∧
  wc.heap[w3.heap.size]? = some (.cells #[.int .i64 (underP p).s.cu, .int .i64 (underP p).s.cu] 78 (0, 0)) ∧
  wc.heap[w.heap.size + 1]? = some (.cells #[.int .i64 1, .int .i64 0, .int .i64 d, .int .i64 t] 88 (0, 0)) ∧
  wc.heap[w.heap.size]? = some (.cells #[.int .i64 d, .int .i64 t, .bool false] 93 (0, 0))) (by kernel_rfl) (by kernel_rfl) rfl (by kernel_rfl) ?_ ?_ ?_
 · exact ⟨rfl, rfl, rfl, nofun, nofun, nofun, nofun, nofun, nofun, nofun, nofun, nofun, nofun, nofun, hL0.drew, nofun, nofun, Nat.le_refl _, Kp, Ks, Km, Kt⟩
 · intro g ac wu hg ha hI
   obtain ⟨x0, x4, x7, i0, i1, i2, i3, i4, i5, i6, i7, i8, i9, i12, hL, i10, -, hS, Bp, Bs, Bm, Bt⟩ := hI
   obtain ⟨kr10, e10, br10, p10_0, p10_1, Kr10, g10⟩ := i10 (hg 10 (by simp))
   have g10 := g10 (hg 11 (by simp))
   rw [g10.1, g10.2] at Kr10
   have a0 := i0 (hg 0 (by simp))
   have a1 := i1 (hg 1 (by simp))
   have a2 := i2 (hg 2 (by simp))
   have a3 := i3 (hg 3 (by simp))
   have a4 := i4 (hg 4 (by simp))
   have a5 := i5 (hg 5 (by simp))
   have a6 := i6 (hg 6 (by simp))
   have a7 := i7 (hg 7 (by simp))
   have a8 := i8 (hg 8 (by simp))
   have a9 := i9 (hg 9 (by simp))
   have a12 := i12 (hg 12 (by simp))
   simp only [putAll, a0, a1, a2, a3, a4, a5, a6, a7, a8, a9, a12, e10] at ha
   simp only [Act.put, List.setIfInBounds_toArray, List.set_cons_succ, List.set_cons_zero] at ha
   rw [ha]
   clear x0 x4 x7 i0 i1 i2 i3 i4 i5 i6 i7 i8 i9 i12 i10 a0 a1 a2 a3 a4 a5 a6 a7 a8 a9 a12 e10 g10 hg ha
   have HKt := Lib.hid Bt
   have hLwu := HLw.out.trans hL
   have hGu := HGz.out.trans (PlGo.later hL)
   have HPu := Lib.hid (HPz.out.later hL)
   have HLu := Lib.hid hLwu
   have HGu := Lib.hid hGu
   have hszu := hGu.size
   clear hL hS Bp Bs Bm Bt Kr10 hLwu hGu hL0
   obtain ⟨LB, hLB⟩ : ∃ x, leftP (underP p).s ⟨d, t⟩ = x := ⟨_, rfl⟩
   have HLB := Lib.hid hLB
   rw [hLB]
   clear hLB
   cases LB
   · have HO3 := Lib.hid (HO2.out.right HC.out (underP p).e)
     have HS3 := Lib.hid (((HO2.out.side HC.out (f := ⟨d, t⟩) HFg.out).1).st)
     go_wp2_with fail
     refine (w_do n au av aq2 capu capv lq2 capq2 st sd k (underP p) 4 0 0 w0 _ HPu.out H.out H'.out HLu.out hk0 HC.out HO2.out.st (isMove_end (by decide) (by decide)) (by have := HO2.out.len; omega)).mono ?_
     rintro e w5 ⟨rfl, aq5, lq5, capq5, hP5, hG5⟩
     have HP5 := Lib.hid hP5
     have HG5 := Lib.hid (HGu.out.trans hG5)
     have hKt5 := hG5.keep HKt.out (by omega) HNe.out
     have HL5 := Lib.hid (show Later w0 w5 from Below.trans HLu.out (hG5.below HLu.out.size hk0 (fun j e => by have := HPu.out.ownk j e; omega)))
     obtain ⟨c1, f1, z1⟩ := blk_at hKt5
     clear hP5 hG5 hKt5
     go_wp2_with fail
     refine (w_do n au av aq5 capu capv lq5 capq5 st sd k (doP (underP p) 4 ⟨0, 0⟩ (underP p).e) 1 d t w0 _ HP5.out H.out H'.out HL5.out hk0 HC.out HO3.out.st HM1.out (by have := HO3.out.len; omega)).mono ?_
     rintro e w6 ⟨rfl, aq6, lq6, capq6, hP6, hG6⟩
     clear c1 f1 z1
     go_wp2
     first
      | go_end0
      | refine bodyPost_ret (results_none rfl _ _ _) rfl ?_
     refine ⟨rfl, aq6, lq6, capq6, ?_, HG5.out.trans hG6⟩
     rw [HT.out, side_n HLB.out]
     rw [doP_e, HE2.out] at hP6
     exact hP6
   · have HO3 := Lib.hid (HO2.out.left HC.out (underP p).e)
     have HS3 := Lib.hid (((HO2.out.side HC.out (f := ⟨d, t⟩) HFg.out).1).st)
     go_wp2_with fail
     refine (w_do n au av aq2 capu capv lq2 capq2 st sd k (underP p) 3 0 0 w0 _ HPu.out H.out H'.out HLu.out hk0 HC.out HO2.out.st (isMove_end (by decide) (by decide)) (by have := HO2.out.len; omega)).mono ?_
     rintro e w5 ⟨rfl, aq5, lq5, capq5, hP5, hG5⟩
     have HP5 := Lib.hid hP5
     have HG5 := Lib.hid (HGu.out.trans hG5)
     have hKt5 := hG5.keep HKt.out (by omega) HNe.out
     have HL5 := Lib.hid (show Later w0 w5 from Below.trans HLu.out (hG5.below HLu.out.size hk0 (fun j e => by have := HPu.out.ownk j e; omega)))
     obtain ⟨c1, f1, z1⟩ := blk_at hKt5
     clear hP5 hG5 hKt5
     go_wp2_with fail
     refine (w_do n au av aq5 capu capv lq5 capq5 st sd k (doP (underP p) 3 ⟨0, 0⟩ (underP p).e) 1 d t w0 _ HP5.out H.out H'.out HL5.out hk0 HC.out HO3.out.st HM1.out (by have := HO3.out.len; omega)).mono ?_
     rintro e w6 ⟨rfl, aq6, lq6, capq6, hP6, hG6⟩
     clear c1 f1 z1
     go_wp2
     first
      | go_end0
      | refine bodyPost_ret (results_none rfl _ _ _) rfl ?_
     refine ⟨rfl, aq6, lq6, capq6, ?_, HG5.out.trans hG6⟩
     rw [HT.out, side_y HLB.out]
     rw [doP_e, HE2.out] at hP6
     exact hP6
 · refine .cons ?_ (.cons ?_ (.cons ?_ (.cons ?_ (.cons ?_ (.cons ?_ (.cons ?_ (.cons ?_ (.cons ?_ (.cons ?_ (.cons ?_ (.cons ?_ (.cons ?_ .nil))))))))))))
   · refine qst fun g ac wc hn hk hr HI K' hK => ?_
     obtain ⟨x0, x4, x7, -, -, -, -, -, -, -, -, -, -, -, hL, i10, q10, hS, Bp, Bs, Bm, Bt⟩ := HI.out
     simp [Region.binds] at hr
     go_simp
     obtain ⟨-, -, -, i0, i1, i2, i3, i4, i5, i6, i7, i8, i9, i12, -⟩ := HI.out
     exact hK.out _ _ ⟨qB x0, qB x4, qB x7, qP, qF i1, qF i2, qF i3, qF i4, qF i5, qF i6, qF i7, qF i8, qF i9, qF i12, hL, (fun j => by obtain ⟨k, e1, e2, p10_0, p10_1, e3, e4⟩ := i10 j; exact ⟨k, (put_ne (by decide)).trans e1, e2, p10_0, p10_1, e3, e4⟩), q10, hS, Bp, Bs, Bm, Bt⟩
   · refine qst fun g ac wc hn hk hr HI K' hK => ?_
     obtain ⟨x0, x4, x7, i0, -, -, -, -, -, -, -, -, -, -, hL, i10, q10, hS, Bp, Bs, Bm, Bt⟩ := HI.out
     simp [Region.binds] at hr
     have y0 := i0 (by simp [hr])
     clear i0
     go_simp
     obtain ⟨-, -, -, i0, i1, i2, i3, i4, i5, i6, i7, i8, i9, i12, -⟩ := HI.out
     exact hK.out _ _ ⟨qB x0, qB x4, qB x7, qF i0, qP, qF i2, qF i3, qF i4, qF i5, qF i6, qF i7, qF i8, qF i9, qF i12, hL, (fun j => by obtain ⟨k, e1, e2, p10_0, p10_1, e3, e4⟩ := i10 j; exact ⟨k, (put_ne (by decide)).trans e1, e2, p10_0, p10_1, e3, e4⟩), q10, hS, Bp, Bs, Bm, Bt⟩
   · refine qst fun g ac wc hn hk hr HI K' hK => ?_
     obtain ⟨x0, x4, x7, -, i1, -, -, -, -, -, -, -, -, -, hL, i10, q10, hS, Bp, Bs, Bm, Bt⟩ := HI.out
     simp [Region.binds] at hr
     have y1 := i1 (by simp [hr])
     clear i1
     go_simp
     obtain ⟨-, -, -, i0, i1, i2, i3, i4, i5, i6, i7, i8, i9, i12, -⟩ := HI.out
     exact hK.out _ _ ⟨qB x0, qB x4, qB x7, qF i0, qF i1, qP, qF i3, qF i4, qF i5, qF i6, qF i7, qF i8, qF i9, qF i12, hL, (fun j => by obtain ⟨k, e1, e2, p10_0, p10_1, e3, e4⟩ := i10 j; exact ⟨k, (put_ne (by decide)).trans e1, e2, p10_0, p10_1, e3, e4⟩), q10, hS, Bp, Bs, Bm, Bt⟩
   · refine qst fun g ac wc hn hk hr HI K' hK => ?_
     obtain ⟨x0, x4, x7, -, -, i2, -, -, -, -, -, -, -, -, hL, i10, q10, hS, Bp, Bs, Bm, Bt⟩ := HI.out
     simp [Region.binds] at hr
     have y2 := i2 (by simp [hr])
     clear i2
     obtain ⟨c0, f0, z0⟩ := blk_at Bp
     go_simp
     obtain ⟨-, -, -, i0, i1, i2, i3, i4, i5, i6, i7, i8, i9, i12, -⟩ := HI.out
     exact hK.out _ _ ⟨qB x0, qB x4, qB x7, qF i0, qF i1, qF i2, qP, qF i4, qF i5, qF i6, qF i7, qF i8, qF i9, qF i12, hL, (fun j => by obtain ⟨k, e1, e2, p10_0, p10_1, e3, e4⟩ := i10 j; exact ⟨k, (put_ne (by decide)).trans e1, e2, p10_0, p10_1, e3, e4⟩), q10, hS, Bp, Bs, Bm, Bt⟩
   · refine qst fun g ac wc hn hk hr HI K' hK => ?_
     obtain ⟨x0, x4, x7, -, -, -, -, -, -, -, -, -, -, -, hL, i10, q10, hS, Bp, Bs, Bm, Bt⟩ := HI.out
     simp [Region.binds] at hr
     obtain ⟨c0, f0, z0⟩ := blk_at Bs
     go_simp
     obtain ⟨-, -, -, i0, i1, i2, i3, i4, i5, i6, i7, i8, i9, i12, -⟩ := HI.out
     exact hK.out _ _ ⟨qB x0, qB x4, qB x7, qF i0, qF i1, qF i2, qF i3, qP, qF i5, qF i6, qF i7, qF i8, qF i9, qF i12, hL, (fun j => by obtain ⟨k, e1, e2, p10_0, p10_1, e3, e4⟩ := i10 j; exact ⟨k, (put_ne (by decide)).trans e1, e2, p10_0, p10_1, e3, e4⟩), q10, hS, Bp, Bs, Bm, Bt⟩
   · refine qst fun g ac wc hn hk hr HI K' hK => ?_
     obtain ⟨x0, x4, x7, -, -, -, -, -, -, -, -, -, -, -, hL, i10, q10, hS, Bp, Bs, Bm, Bt⟩ := HI.out
     simp [Region.binds] at hr
     obtain ⟨c0, f0, z0⟩ := blk_at Bm
     go_simp
     obtain ⟨-, -, -, i0, i1, i2, i3, i4, i5, i6, i7, i8, i9, i12, -⟩ := HI.out
     exact hK.out _ _ ⟨qB x0, qB x4, qB x7, qF i0, qF i1, qF i2, qF i3, qF i4, qP, qF i6, qF i7, qF i8, qF i9, qF i12, hL, (fun j => by obtain ⟨k, e1, e2, p10_0, p10_1, e3, e4⟩ := i10 j; exact ⟨k, (put_ne (by decide)).trans e1, e2, p10_0, p10_1, e3, e4⟩), q10, hS, Bp, Bs, Bm, Bt⟩
   · refine qst fun g ac wc hn hk hr HI K' hK => ?_
     obtain ⟨x0, x4, x7, -, -, -, i3, i4, i5, -, -, -, -, -, hL, i10, q10, hS, Bp, Bs, Bm, Bt⟩ := HI.out
     simp [Region.binds] at hr
     have y3 := i3 (by simp [hr])
     have y4 := i4 (by simp [hr])
     have y5 := i5 (by simp [hr])
     clear i3 i4 i5
     go_simp
     refine (w_implMoved _ _ _ _ _ _ _ ⟨1, 0, ⟨d, t⟩⟩ _ (HZ.out.later hL) (HZ'.out.later hL) HLM.out HM1.out).mono ?_
     rintro e w4 ⟨rfl, hL4⟩
     rw [HLO.out]
     obtain ⟨-, -, -, i0, i1, i2, i3, i4, i5, i6, i7, i8, i9, i12, -⟩ := HI.out
     exact hK.out _ _ ⟨qB x0, qB x4, qB x7, qF i0, qF i1, qF i2, qF i3, qF i4, qF i5, qP, qF i7, qF i8, qF i9, qF i12, hL.trans hL4, (fun j => by obtain ⟨k, e1, e2, p10_0, p10_1, e3, e4⟩ := i10 j; exact ⟨k, (put_ne (by decide)).trans e1, e2, p10_0, p10_1, hL4.keep e3, e4⟩), q10, Nat.le_trans hS hL4.size, hL4.keep Bp, hL4.keep Bs, hL4.keep Bm, hL4.keep Bt⟩
   · refine qst fun g ac wc hn hk hr HI K' hK => ?_
     obtain ⟨x0, x4, x7, -, -, -, -, -, -, i6, -, -, -, -, hL, i10, q10, hS, Bp, Bs, Bm, Bt⟩ := HI.out
     simp [Region.binds] at hr
     have y6 := i6 (by simp [hr])
     clear i6
     go_simp
     obtain ⟨-, -, -, i0, i1, i2, i3, i4, i5, i6, i7, i8, i9, i12, -⟩ := HI.out
     exact hK.out _ _ ⟨qB x0, qB x4, qB x7, qF i0, qF i1, qF i2, qF i3, qF i4, qF i5, qF i6, qP, qF i8, qF i9, qF i12, hL, (fun j => by obtain ⟨k, e1, e2, p10_0, p10_1, e3, e4⟩ := i10 j; exact ⟨k, (put_ne (by decide)).trans e1, e2, p10_0, p10_1, e3, e4⟩), q10, hS, Bp, Bs, Bm, Bt⟩
   · refine qst fun g ac wc hn hk hr HI K' hK => ?_
     obtain ⟨x0, x4, x7, -, -, -, -, -, -, -, i7, -, -, -, hL, i10, q10, hS, Bp, Bs, Bm, Bt⟩ := HI.out
     simp [Region.binds] at hr
     have y7 := i7 (by simp [hr])
     clear i7
     go_simp
     obtain ⟨-, -, -, i0, i1, i2, i3, i4, i5, i6, i7, i8, i9, i12, -⟩ := HI.out
     exact hK.out _ _ ⟨qB x0, qB x4, qB x7, qF i0, qF i1, qF i2, qF i3, qF i4, qF i5, qF i6, qF i7, qP, qF i9, qF i12, hL, (fun j => by obtain ⟨k, e1, e2, p10_0, p10_1, e3, e4⟩ := i10 j; exact ⟨k, (put_ne (by decide)).trans e1, e2, p10_0, p10_1, e3, e4⟩), q10, hS, Bp, Bs, Bm, Bt⟩
   · refine qst fun g ac wc hn hk hr HI K' hK => ?_
     obtain ⟨x0, x4, x7, -, -, -, -, -, -, -, i7, -, -, -, hL, i10, q10, hS, Bp, Bs, Bm, Bt⟩ := HI.out
     simp [Region.binds] at hr
     have y7 := i7 (by simp [hr])
     clear i7
     go_simp
     obtain ⟨-, -, -, i0, i1, i2, i3, i4, i5, i6, i7, i8, i9, i12, -⟩ := HI.out
     exact hK.out _ _ ⟨qB x0, qB x4, qB x7, qF i0, qF i1, qF i2, qF i3, qF i4, qF i5, qF i6, qF i7, qF i8, qP, qF i12, hL, (fun j => by obtain ⟨k, e1, e2, p10_0, p10_1, e3, e4⟩ := i10 j; exact ⟨k, (put_ne (by decide)).trans e1, e2, p10_0, p10_1, e3, e4⟩), q10, hS, Bp, Bs, Bm, Bt⟩
   · refine qst fun g ac wc hn hk hr HI K' hK => ?_
     obtain ⟨x0, x4, x7, -, -, -, -, -, -, -, -, -, -, -, hL, i10, q10, hS, Bp, Bs, Bm, Bt⟩ := HI.out
     simp [Region.binds] at hr
     go_simp
     obtain ⟨-, -, -, i0, i1, i2, i3, i4, i5, i6, i7, i8, i9, i12, -⟩ := HI.out
     refine hK.out _ _ ⟨qB x0, qB x4, qB x7, qF i0, qF i1, qF i2, qF i3, qF i4, qF i5, qF i6, qF i7, qF i8, qF i9, qF i12, hL.alloc _, (fun _ => ⟨_, put_eq (by omega), hS, _, _, heap_alloc_new _ _, fun j6 => absurd ((q10 j6).symm.trans hk) (by simp)⟩), fun _ => rfl, (by simp; omega), heap_alloc_old _ _ Bp, heap_alloc_old _ _ Bs, heap_alloc_old _ _ Bm, heap_alloc_old _ _ Bt⟩
   · refine qst fun g ac wc hn hk hr HI K' hK => ?_
     obtain ⟨x0, x4, x7, -, -, -, -, -, -, -, -, i8, -, -, hL, i10, q10, hS, Bp, Bs, Bm, Bt⟩ := HI.out
     simp [Region.binds] at hr
     have y8 := i8 (by simp [hr])
     clear i8
     have hda : g 10 = true := by simp [hr]
     obtain ⟨k, e1, e2, p10_0, p10_1, e3, -⟩ := i10 hda
     obtain ⟨c0, f0, z0⟩ := blk_at e3
     go_simp
     obtain ⟨-, -, -, i0, i1, i2, i3, i4, i5, i6, i7, i8, i9, i12, -⟩ := HI.out
     exact hK.out undef _ ⟨x0, x4, x7, i0, i1, i2, i3, i4, i5, i6, i7, i8, i9, i12, ((hL.setCell e2 _).setCell e2 _), (fun _ => ⟨k, e1, e2, _, _, two_set e3 _ _, fun _ => ⟨rfl, rfl⟩⟩), (fun _ => hda), (by simp; omega), (other_set (other_set Bp (by omega) _) (by omega) _), (other_set (other_set Bs (by omega) _) (by omega) _), (other_set (other_set Bm (by omega) _) (by omega) _), (other_set (other_set Bt (by omega) _) (by omega) _)⟩
   · refine qst fun g ac wc hn hk hr HI K' hK => ?_
     obtain ⟨x0, x4, x7, -, -, -, -, -, -, -, -, -, i9, -, hL, i10, q10, hS, Bp, Bs, Bm, Bt⟩ := HI.out
     simp [Region.binds] at hr
     have y9 := i9 (by simp [hr])
     clear i9
     go_simp
     obtain ⟨-, -, -, i0, i1, i2, i3, i4, i5, i6, i7, i8, i9, i12, -⟩ := HI.out
     exact hK.out _ _ ⟨qB x0, qB x4, qB x7, qF i0, qF i1, qF i2, qF i3, qF i4, qF i5, qF i6, qF i7, qF i8, qF i9, qP, hL, (fun j => by obtain ⟨k, e1, e2, p10_0, p10_1, e3, e4⟩ := i10 j; exact ⟨k, (put_ne (by decide)).trans e1, e2, p10_0, p10_1, e3, e4⟩), q10, hS, Bp, Bs, Bm, Bt⟩
set_option maxHeartbeats 8000000 in
theorem w_termD (n : Int) (au av aq : Option Addr) (capu capv lq capq : Nat) (st sd : List Int) (k : Nat) (p : Pln) (d t : Int) (w0 w : World) (hP : PlAt w k n (.slice au st.length capu) (.slice av sd.length capv) (.slice aq lq capq) p)
 (h : IsNums w0 (.slice au st.length capu) st) (h' : IsNums w0 (.slice av sd.length capv) sd) (hL0 : Later w0 w) (hk0 : w0.heap.size ≤ k) (hC : hasI st 0 = true ∧ hasI sd 0 = true) (ho : OkP ⟨n, st, sd⟩ p 20) (hf : isFig ⟨d, t⟩ = true) (he : p.e = false) :
 Calls Tryz.prog 113 #[.pointer (some ⟨k, 0, none⟩), .agg #[.int .i64 d, .int .i64 t, .bool false]] w fun e w' => e = .returned (.tuple #[]) ∧
  ∃ aq' lq' capq', PlAt w' k n (.slice au st.length capu) (.slice av sd.length capv) (.slice aq' lq' capq') (termP p ⟨⟨d, t⟩, false⟩) ∧ PlGo k (.slice aq lq capq) (.slice aq' lq' capq') w w' := by
 have H := Lib.hid h
 have H' := Lib.hid h'
 have HC := Lib.hid hC
 have HO := Lib.hid ho
 have HFg := Lib.hid hf
 have HPl := Lib.hid hP
 have hkw := hP.lt
 have hkB := hP.1
 have HN0 := Lib.hid (hP.ne (j := w.heap.size) (.inr (Nat.le_refl _)))
 have HN1 := Lib.hid (hP.ne (j := w.heap.size + 1) (.inr (Nat.le_succ _)))
 have HM1 := Lib.hid (isMove_fig (k := 1) (by decide) (by decide) hf)
 have HO2 := Lib.hid ho
 have HT := Lib.hid ((termP_n (p := p) (f := ⟨d, t⟩) (by rw [he, Bool.false_and])).trans (by rw [underP_no he]))
 have HE2 := Lib.hid he
 have HNe := HN0
 have HLS := Lib.hid ((mv0 (r := ⟨n, st, sd⟩) hC p.s 3 ⟨0, 0⟩).1.trans (mvTo3 _ _))
 have HLM := Lib.hid (left_stg HO2.out.st)
 have HLO := Lib.hid (left_eq (r := ⟨n, st, sd⟩) hC HO2.out.st ⟨d, t⟩)
 rw [he] at hkB
 clear he
 clear h h' hC ho hf hP
 obtain ⟨c0, f0, z0⟩ := blk_at hkB
 clear hkB
 go_enter Tryz.func113, Tryz.ntmps113
 go_wp2_with fail
 refine (w_can n au av aq capu capv lq capq st sd k p ⟨3, 0, ⟨0, 0⟩⟩ _ (HPl.out.later (((Later.refl _).alloc _).alloc _)) (H.out.later (hL0.trans (((Later.refl _).alloc _).alloc _))) (H'.out.later (hL0.trans (((Later.refl _).alloc _).alloc _))) HO.out.st (isMove_end (by decide) (by decide))).mono ?_
 rintro e w3 ⟨rfl, hL3⟩
 rw [HLS.out]
 obtain ⟨K0, K1⟩ := kept2 hL3
 have hL1 := (((Later.refl _).alloc _).alloc _).trans hL3
 have hP3 := HPl.out.later hL1
 have hG3 : PlGo k (.slice aq lq capq) (.slice aq lq capq) w w3 := PlGo.later hL1
 have hLw3 := hL0.trans hL1
 clear hL3 hL1 c0 f0 z0
 have HP3 := Lib.hid hP3
 have HG3 := Lib.hid hG3
 have HK0 := Lib.hid K0
 have HK1 := Lib.hid K1
 have HLz := Lib.hid hLw3
 have hsz3 := hG3.size
 clear hP3 hG3 K0 K1 hLw3
 go_wp2_with fail
 refine wp_name ?_
 intro z hz
 have hLz : Later w3 z := by rw [hz]; exact (Later.refl _).alloc _
 have Ks : z.heap[w3.heap.size]? = some (.cells #[.int .i64 p.s.cu, .int .i64 p.s.cu] 78 (0, 0)) := by rw [hz]; exact heap_alloc_new _ _
 have HPz := Lib.hid (HP3.out.later hLz)
 have Kp := HPz.out.1
 have Km := hLz.keep HK1.out
 have Kt := hLz.keep HK0.out
 have HGz := Lib.hid (HG3.out.trans (PlGo.later hLz))
 have HZ := Lib.hid (H.out.later (HLz.out.trans hLz))
 have HZ' := Lib.hid (H'.out.later (HLz.out.trans hLz))
 have HLw := Lib.hid (HLz.out.trans hLz)
 have hSB := hLz.size
 have lt1 := (Array.getElem?_eq_some_iff.1 Km).1
 have lt2 := (Array.getElem?_eq_some_iff.1 Ks).1
 have lt3 := (Array.getElem?_eq_some_iff.1 Kp).1
 have hL0 := Later.refl z
 clear hz hLz
 refine region_slots 72 [52, 53, 54, 55, 56, 57, 58, 51, 59, 60, 9, 10] (fun g ac wc => sl ac 0 = .pointer (some ⟨k, 0, none⟩) ∧
  sl ac 4 = .pointer (some ⟨w.heap.size + 1, 0, none⟩) ∧
  sl ac 7 = .pointer (some ⟨w3.heap.size, 0, none⟩) ∧
  (g 0 = true → sl ac 52 = .pointer (some ⟨k, 0, none⟩)) ∧
  (g 1 = true → sl ac 53 = .pointer (some ⟨k, 0, none⟩)) ∧
  (g 2 = true → sl ac 54 = .pointer (some ⟨k, 0, none⟩)) ∧
  (g 3 = true → sl ac 55 = .agg #[.int .i64 n, .slice au st.length capu, .slice av sd.length capv]) ∧
  (g 4 = true → sl ac 56 = .agg #[.int .i64 p.s.cu, .int .i64 p.s.cu]) ∧
  (g 5 = true → sl ac 57 = .agg #[.int .i64 1, .int .i64 0, .int .i64 d, .int .i64 t]) ∧
  (g 6 = true → sl ac 58 = .tuple #[.agg #[.int .i64 (mvS ⟨n, st, sd⟩ ⟨p.s.cu, p.s.cu⟩ ⟨1, 0, ⟨d, t⟩⟩).sh, .int .i64 (mvS ⟨n, st, sd⟩ ⟨p.s.cu, p.s.cu⟩ ⟨1, 0, ⟨d, t⟩⟩).cu], .bool (leftP p.s ⟨d, t⟩)]) ∧
  (g 7 = true → sl ac 51 = .tuple #[.agg #[.int .i64 (mvS ⟨n, st, sd⟩ ⟨p.s.cu, p.s.cu⟩ ⟨1, 0, ⟨d, t⟩⟩).sh, .int .i64 (mvS ⟨n, st, sd⟩ ⟨p.s.cu, p.s.cu⟩ ⟨1, 0, ⟨d, t⟩⟩).cu], .bool (leftP p.s ⟨d, t⟩)]) ∧
  (g 8 = true → sl ac 59 = .agg #[.int .i64 (mvS ⟨n, st, sd⟩ ⟨p.s.cu, p.s.cu⟩ ⟨1, 0, ⟨d, t⟩⟩).sh, .int .i64 (mvS ⟨n, st, sd⟩ ⟨p.s.cu, p.s.cu⟩ ⟨1, 0, ⟨d, t⟩⟩).cu]) ∧
  (g 9 = true → sl ac 60 = .bool (leftP p.s ⟨d, t⟩)) ∧
  (g 12 = true → sl ac 10 = .bool (leftP p.s ⟨d, t⟩)) ∧
  Later z wc ∧
  (g 10 = true → ∃ k, sl ac 9 = .pointer (some ⟨k, 0, none⟩) ∧ z.heap.size ≤ k ∧ ∃ p10_0 p10_1, wc.heap[k]? = some (.cells #[p10_0, p10_1] 78 (0, 0)) ∧ (g 11 = true → p10_0 = .int .i64 (mvS ⟨n, st, sd⟩ ⟨p.s.cu, p.s.cu⟩ ⟨1, 0, ⟨d, t⟩⟩).sh ∧ p10_1 = .int .i64 (mvS ⟨n, st, sd⟩ ⟨p.s.cu, p.s.cu⟩ ⟨1, 0, ⟨d, t⟩⟩).cu)) ∧
  (g 11 = true → g 10 = true) ∧
  z.heap.size ≤ wc.heap.size ∧
  wc.heap[k]? = some (.cells #[.int .i64 n, .slice au st.length capu, .slice av sd.length capv, .int .i64 p.s.sh, .int .i64 p.s.cu, .slice aq lq capq, .bool p.e] 125 (0, 0)) ∧
  wc.heap[w3.heap.size]? = some (.cells #[.int .i64 p.s.cu, .int .i64 p.s.cu] 78 (0, 0)) ∧
  wc.heap[w.heap.size + 1]? = some (.cells #[.int .i64 1, .int .i64 0, .int .i64 d, .int .i64 t] 88 (0, 0)) ∧
  wc.heap[w.heap.size]? = some (.cells #[.int .i64 d, .int .i64 t, .bool false] 93 (0, 0))) (by kernel_rfl) (by kernel_rfl) rfl (by kernel_rfl) ?_ ?_ ?_
 · exact ⟨rfl, rfl, rfl, nofun, nofun, nofun, nofun, nofun, nofun, nofun, nofun, nofun, nofun, nofun, hL0.drew, nofun, nofun, Nat.le_refl _, Kp, Ks, Km, Kt⟩
 · intro g ac wu hg ha hI
   obtain ⟨x0, x4, x7, i0, i1, i2, i3, i4, i5, i6, i7, i8, i9, i12, hL, i10, -, hS, Bp, Bs, Bm, Bt⟩ := hI
   obtain ⟨kr10, e10, br10, p10_0, p10_1, Kr10, g10⟩ := i10 (hg 10 (by simp))
   have g10 := g10 (hg 11 (by simp))
   rw [g10.1, g10.2] at Kr10
   have a0 := i0 (hg 0 (by simp))
   have a1 := i1 (hg 1 (by simp))
   have a2 := i2 (hg 2 (by simp))
   have a3 := i3 (hg 3 (by simp))
   have a4 := i4 (hg 4 (by simp))
   have a5 := i5 (hg 5 (by simp))
   have a6 := i6 (hg 6 (by simp))
   have a7 := i7 (hg 7 (by simp))
   have a8 := i8 (hg 8 (by simp))
   have a9 := i9 (hg 9 (by simp))
   have a12 := i12 (hg 12 (by simp))
   simp only [putAll, a0, a1, a2, a3, a4, a5, a6, a7, a8, a9, a12, e10] at ha
   simp only [Act.put, List.setIfInBounds_toArray, List.set_cons_succ, List.set_cons_zero] at ha
   rw [ha]
   clear x0 x4 x7 i0 i1 i2 i3 i4 i5 i6 i7 i8 i9 i12 i10 a0 a1 a2 a3 a4 a5 a6 a7 a8 a9 a12 e10 g10 hg ha
   have HKt := Lib.hid Bt
   have hLwu := HLw.out.trans hL
   have hGu := HGz.out.trans (PlGo.later hL)
   have HPu := Lib.hid (HPz.out.later hL)
   have HLu := Lib.hid hLwu
   have HGu := Lib.hid hGu
   have hszu := hGu.size
   clear hL hS Bp Bs Bm Bt Kr10 hLwu hGu hL0
   obtain ⟨LB, hLB⟩ : ∃ x, leftP p.s ⟨d, t⟩ = x := ⟨_, rfl⟩
   have HLB := Lib.hid hLB
   rw [hLB]
   clear hLB
   cases LB
   · have HO3 := Lib.hid (HO2.out.right HC.out p.e)
     have HS3 := Lib.hid (((HO2.out.side HC.out (f := ⟨d, t⟩) HFg.out).1).st)
     go_wp2_with fail
     refine (w_do n au av aq capu capv lq capq st sd k p 4 0 0 w0 _ HPu.out H.out H'.out HLu.out hk0 HC.out HO2.out.st (isMove_end (by decide) (by decide)) (by have := HO2.out.len; omega)).mono ?_
     rintro e w5 ⟨rfl, aq5, lq5, capq5, hP5, hG5⟩
     have HP5 := Lib.hid hP5
     have HG5 := Lib.hid (HGu.out.trans hG5)
     have hKt5 := hG5.keep HKt.out (by omega) HNe.out
     have HL5 := Lib.hid (show Later w0 w5 from Below.trans HLu.out (hG5.below HLu.out.size hk0 (fun j e => by have := HPu.out.ownk j e; omega)))
     obtain ⟨c1, f1, z1⟩ := blk_at hKt5
     clear hP5 hG5 hKt5
     go_wp2_with fail
     refine (w_do n au av aq5 capu capv lq5 capq5 st sd k (doP p 4 ⟨0, 0⟩ p.e) 1 d t w0 _ HP5.out H.out H'.out HL5.out hk0 HC.out HO3.out.st HM1.out (by have := HO3.out.len; omega)).mono ?_
     rintro e w6 ⟨rfl, aq6, lq6, capq6, hP6, hG6⟩
     clear c1 f1 z1
     go_wp2
     first
      | go_end0
      | refine bodyPost_ret (results_none rfl _ _ _) rfl ?_
     refine ⟨rfl, aq6, lq6, capq6, ?_, HG5.out.trans hG6⟩
     rw [HT.out, side_n HLB.out]
     rw [doP_e, HE2.out] at hP6
     exact hP6
   · have HO3 := Lib.hid (HO2.out.left HC.out p.e)
     have HS3 := Lib.hid (((HO2.out.side HC.out (f := ⟨d, t⟩) HFg.out).1).st)
     go_wp2_with fail
     refine (w_do n au av aq capu capv lq capq st sd k p 3 0 0 w0 _ HPu.out H.out H'.out HLu.out hk0 HC.out HO2.out.st (isMove_end (by decide) (by decide)) (by have := HO2.out.len; omega)).mono ?_
     rintro e w5 ⟨rfl, aq5, lq5, capq5, hP5, hG5⟩
     have HP5 := Lib.hid hP5
     have HG5 := Lib.hid (HGu.out.trans hG5)
     have hKt5 := hG5.keep HKt.out (by omega) HNe.out
     have HL5 := Lib.hid (show Later w0 w5 from Below.trans HLu.out (hG5.below HLu.out.size hk0 (fun j e => by have := HPu.out.ownk j e; omega)))
     obtain ⟨c1, f1, z1⟩ := blk_at hKt5
     clear hP5 hG5 hKt5
     go_wp2_with fail
     refine (w_do n au av aq5 capu capv lq5 capq5 st sd k (doP p 3 ⟨0, 0⟩ p.e) 1 d t w0 _ HP5.out H.out H'.out HL5.out hk0 HC.out HO3.out.st HM1.out (by have := HO3.out.len; omega)).mono ?_
     rintro e w6 ⟨rfl, aq6, lq6, capq6, hP6, hG6⟩
     clear c1 f1 z1
     go_wp2
     first
      | go_end0
      | refine bodyPost_ret (results_none rfl _ _ _) rfl ?_
     refine ⟨rfl, aq6, lq6, capq6, ?_, HG5.out.trans hG6⟩
     rw [HT.out, side_y HLB.out]
     rw [doP_e, HE2.out] at hP6
     exact hP6
 · refine .cons ?_ (.cons ?_ (.cons ?_ (.cons ?_ (.cons ?_ (.cons ?_ (.cons ?_ (.cons ?_ (.cons ?_ (.cons ?_ (.cons ?_ (.cons ?_ (.cons ?_ .nil))))))))))))
   · refine qst fun g ac wc hn hk hr HI K' hK => ?_
     obtain ⟨x0, x4, x7, -, -, -, -, -, -, -, -, -, -, -, hL, i10, q10, hS, Bp, Bs, Bm, Bt⟩ := HI.out
     simp [Region.binds] at hr
     go_simp
     obtain ⟨-, -, -, i0, i1, i2, i3, i4, i5, i6, i7, i8, i9, i12, -⟩ := HI.out
     exact hK.out _ _ ⟨qB x0, qB x4, qB x7, qP, qF i1, qF i2, qF i3, qF i4, qF i5, qF i6, qF i7, qF i8, qF i9, qF i12, hL, (fun j => by obtain ⟨k, e1, e2, p10_0, p10_1, e3, e4⟩ := i10 j; exact ⟨k, (put_ne (by decide)).trans e1, e2, p10_0, p10_1, e3, e4⟩), q10, hS, Bp, Bs, Bm, Bt⟩
   · refine qst fun g ac wc hn hk hr HI K' hK => ?_
     obtain ⟨x0, x4, x7, i0, -, -, -, -, -, -, -, -, -, -, hL, i10, q10, hS, Bp, Bs, Bm, Bt⟩ := HI.out
     simp [Region.binds] at hr
     have y0 := i0 (by simp [hr])
     clear i0
     go_simp
     obtain ⟨-, -, -, i0, i1, i2, i3, i4, i5, i6, i7, i8, i9, i12, -⟩ := HI.out
     exact hK.out _ _ ⟨qB x0, qB x4, qB x7, qF i0, qP, qF i2, qF i3, qF i4, qF i5, qF i6, qF i7, qF i8, qF i9, qF i12, hL, (fun j => by obtain ⟨k, e1, e2, p10_0, p10_1, e3, e4⟩ := i10 j; exact ⟨k, (put_ne (by decide)).trans e1, e2, p10_0, p10_1, e3, e4⟩), q10, hS, Bp, Bs, Bm, Bt⟩
   · refine qst fun g ac wc hn hk hr HI K' hK => ?_
     obtain ⟨x0, x4, x7, -, i1, -, -, -, -, -, -, -, -, -, hL, i10, q10, hS, Bp, Bs, Bm, Bt⟩ := HI.out
     simp [Region.binds] at hr
     have y1 := i1 (by simp [hr])
     clear i1
     go_simp
     obtain ⟨-, -, -, i0, i1, i2, i3, i4, i5, i6, i7, i8, i9, i12, -⟩ := HI.out
     exact hK.out _ _ ⟨qB x0, qB x4, qB x7, qF i0, qF i1, qP, qF i3, qF i4, qF i5, qF i6, qF i7, qF i8, qF i9, qF i12, hL, (fun j => by obtain ⟨k, e1, e2, p10_0, p10_1, e3, e4⟩ := i10 j; exact ⟨k, (put_ne (by decide)).trans e1, e2, p10_0, p10_1, e3, e4⟩), q10, hS, Bp, Bs, Bm, Bt⟩
   · refine qst fun g ac wc hn hk hr HI K' hK => ?_
     obtain ⟨x0, x4, x7, -, -, i2, -, -, -, -, -, -, -, -, hL, i10, q10, hS, Bp, Bs, Bm, Bt⟩ := HI.out
     simp [Region.binds] at hr
     have y2 := i2 (by simp [hr])
     clear i2
     obtain ⟨c0, f0, z0⟩ := blk_at Bp
     go_simp
     obtain ⟨-, -, -, i0, i1, i2, i3, i4, i5, i6, i7, i8, i9, i12, -⟩ := HI.out
     exact hK.out _ _ ⟨qB x0, qB x4, qB x7, qF i0, qF i1, qF i2, qP, qF i4, qF i5, qF i6, qF i7, qF i8, qF i9, qF i12, hL, (fun j => by obtain ⟨k, e1, e2, p10_0, p10_1, e3, e4⟩ := i10 j; exact ⟨k, (put_ne (by decide)).trans e1, e2, p10_0, p10_1, e3, e4⟩), q10, hS, Bp, Bs, Bm, Bt⟩
   · refine qst fun g ac wc hn hk hr HI K' hK => ?_
     obtain ⟨x0, x4, x7, -, -, -, -, -, -, -, -, -, -, -, hL, i10, q10, hS, Bp, Bs, Bm, Bt⟩ := HI.out
     simp [Region.binds] at hr
     obtain ⟨c0, f0, z0⟩ := blk_at Bs
     go_simp
     obtain ⟨-, -, -, i0, i1, i2, i3, i4, i5, i6, i7, i8, i9, i12, -⟩ := HI.out
     exact hK.out _ _ ⟨qB x0, qB x4, qB x7, qF i0, qF i1, qF i2, qF i3, qP, qF i5, qF i6, qF i7, qF i8, qF i9, qF i12, hL, (fun j => by obtain ⟨k, e1, e2, p10_0, p10_1, e3, e4⟩ := i10 j; exact ⟨k, (put_ne (by decide)).trans e1, e2, p10_0, p10_1, e3, e4⟩), q10, hS, Bp, Bs, Bm, Bt⟩
   · refine qst fun g ac wc hn hk hr HI K' hK => ?_
     obtain ⟨x0, x4, x7, -, -, -, -, -, -, -, -, -, -, -, hL, i10, q10, hS, Bp, Bs, Bm, Bt⟩ := HI.out
     simp [Region.binds] at hr
     obtain ⟨c0, f0, z0⟩ := blk_at Bm
     go_simp
     obtain ⟨-, -, -, i0, i1, i2, i3, i4, i5, i6, i7, i8, i9, i12, -⟩ := HI.out
     exact hK.out _ _ ⟨qB x0, qB x4, qB x7, qF i0, qF i1, qF i2, qF i3, qF i4, qP, qF i6, qF i7, qF i8, qF i9, qF i12, hL, (fun j => by obtain ⟨k, e1, e2, p10_0, p10_1, e3, e4⟩ := i10 j; exact ⟨k, (put_ne (by decide)).trans e1, e2, p10_0, p10_1, e3, e4⟩), q10, hS, Bp, Bs, Bm, Bt⟩
   · refine qst fun g ac wc hn hk hr HI K' hK => ?_
     obtain ⟨x0, x4, x7, -, -, -, i3, i4, i5, -, -, -, -, -, hL, i10, q10, hS, Bp, Bs, Bm, Bt⟩ := HI.out
     simp [Region.binds] at hr
     have y3 := i3 (by simp [hr])
     have y4 := i4 (by simp [hr])
     have y5 := i5 (by simp [hr])
     clear i3 i4 i5
     go_simp
     refine (w_implMoved _ _ _ _ _ _ _ ⟨1, 0, ⟨d, t⟩⟩ _ (HZ.out.later hL) (HZ'.out.later hL) HLM.out HM1.out).mono ?_
     rintro e w4 ⟨rfl, hL4⟩
     rw [HLO.out]
     obtain ⟨-, -, -, i0, i1, i2, i3, i4, i5, i6, i7, i8, i9, i12, -⟩ := HI.out
     exact hK.out _ _ ⟨qB x0, qB x4, qB x7, qF i0, qF i1, qF i2, qF i3, qF i4, qF i5, qP, qF i7, qF i8, qF i9, qF i12, hL.trans hL4, (fun j => by obtain ⟨k, e1, e2, p10_0, p10_1, e3, e4⟩ := i10 j; exact ⟨k, (put_ne (by decide)).trans e1, e2, p10_0, p10_1, hL4.keep e3, e4⟩), q10, Nat.le_trans hS hL4.size, hL4.keep Bp, hL4.keep Bs, hL4.keep Bm, hL4.keep Bt⟩
   · refine qst fun g ac wc hn hk hr HI K' hK => ?_
     obtain ⟨x0, x4, x7, -, -, -, -, -, -, i6, -, -, -, -, hL, i10, q10, hS, Bp, Bs, Bm, Bt⟩ := HI.out
     simp [Region.binds] at hr
     have y6 := i6 (by simp [hr])
     clear i6
     go_simp
     obtain ⟨-, -, -, i0, i1, i2, i3, i4, i5, i6, i7, i8, i9, i12, -⟩ := HI.out
     exact hK.out _ _ ⟨qB x0, qB x4, qB x7, qF i0, qF i1, qF i2, qF i3, qF i4, qF i5, qF i6, qP, qF i8, qF i9, qF i12, hL, (fun j => by obtain ⟨k, e1, e2, p10_0, p10_1, e3, e4⟩ := i10 j; exact ⟨k, (put_ne (by decide)).trans e1, e2, p10_0, p10_1, e3, e4⟩), q10, hS, Bp, Bs, Bm, Bt⟩
   · refine qst fun g ac wc hn hk hr HI K' hK => ?_
     obtain ⟨x0, x4, x7, -, -, -, -, -, -, -, i7, -, -, -, hL, i10, q10, hS, Bp, Bs, Bm, Bt⟩ := HI.out
     simp [Region.binds] at hr
     have y7 := i7 (by simp [hr])
     clear i7
     go_simp
     obtain ⟨-, -, -, i0, i1, i2, i3, i4, i5, i6, i7, i8, i9, i12, -⟩ := HI.out
     exact hK.out _ _ ⟨qB x0, qB x4, qB x7, qF i0, qF i1, qF i2, qF i3, qF i4, qF i5, qF i6, qF i7, qP, qF i9, qF i12, hL, (fun j => by obtain ⟨k, e1, e2, p10_0, p10_1, e3, e4⟩ := i10 j; exact ⟨k, (put_ne (by decide)).trans e1, e2, p10_0, p10_1, e3, e4⟩), q10, hS, Bp, Bs, Bm, Bt⟩
   · refine qst fun g ac wc hn hk hr HI K' hK => ?_
     obtain ⟨x0, x4, x7, -, -, -, -, -, -, -, i7, -, -, -, hL, i10, q10, hS, Bp, Bs, Bm, Bt⟩ := HI.out
     simp [Region.binds] at hr
     have y7 := i7 (by simp [hr])
     clear i7
     go_simp
     obtain ⟨-, -, -, i0, i1, i2, i3, i4, i5, i6, i7, i8, i9, i12, -⟩ := HI.out
     exact hK.out _ _ ⟨qB x0, qB x4, qB x7, qF i0, qF i1, qF i2, qF i3, qF i4, qF i5, qF i6, qF i7, qF i8, qP, qF i12, hL, (fun j => by obtain ⟨k, e1, e2, p10_0, p10_1, e3, e4⟩ := i10 j; exact ⟨k, (put_ne (by decide)).trans e1, e2, p10_0, p10_1, e3, e4⟩), q10, hS, Bp, Bs, Bm, Bt⟩
   · refine qst fun g ac wc hn hk hr HI K' hK => ?_
     obtain ⟨x0, x4, x7, -, -, -, -, -, -, -, -, -, -, -, hL, i10, q10, hS, Bp, Bs, Bm, Bt⟩ := HI.out
     simp [Region.binds] at hr
     go_simp
     obtain ⟨-, -, -, i0, i1, i2, i3, i4, i5, i6, i7, i8, i9, i12, -⟩ := HI.out
     refine hK.out _ _ ⟨qB x0, qB x4, qB x7, qF i0, qF i1, qF i2, qF i3, qF i4, qF i5, qF i6, qF i7, qF i8, qF i9, qF i12, hL.alloc _, (fun _ => ⟨_, put_eq (by omega), hS, _, _, heap_alloc_new _ _, fun j6 => absurd ((q10 j6).symm.trans hk) (by simp)⟩), fun _ => rfl, (by simp; omega), heap_alloc_old _ _ Bp, heap_alloc_old _ _ Bs, heap_alloc_old _ _ Bm, heap_alloc_old _ _ Bt⟩
   · refine qst fun g ac wc hn hk hr HI K' hK => ?_
     obtain ⟨x0, x4, x7, -, -, -, -, -, -, -, -, i8, -, -, hL, i10, q10, hS, Bp, Bs, Bm, Bt⟩ := HI.out
     simp [Region.binds] at hr
     have y8 := i8 (by simp [hr])
     clear i8
     have hda : g 10 = true := by simp [hr]
     obtain ⟨k, e1, e2, p10_0, p10_1, e3, -⟩ := i10 hda
     obtain ⟨c0, f0, z0⟩ := blk_at e3
     go_simp
     obtain ⟨-, -, -, i0, i1, i2, i3, i4, i5, i6, i7, i8, i9, i12, -⟩ := HI.out
     exact hK.out undef _ ⟨x0, x4, x7, i0, i1, i2, i3, i4, i5, i6, i7, i8, i9, i12, ((hL.setCell e2 _).setCell e2 _), (fun _ => ⟨k, e1, e2, _, _, two_set e3 _ _, fun _ => ⟨rfl, rfl⟩⟩), (fun _ => hda), (by simp; omega), (other_set (other_set Bp (by omega) _) (by omega) _), (other_set (other_set Bs (by omega) _) (by omega) _), (other_set (other_set Bm (by omega) _) (by omega) _), (other_set (other_set Bt (by omega) _) (by omega) _)⟩
   · refine qst fun g ac wc hn hk hr HI K' hK => ?_
     obtain ⟨x0, x4, x7, -, -, -, -, -, -, -, -, -, i9, -, hL, i10, q10, hS, Bp, Bs, Bm, Bt⟩ := HI.out
     simp [Region.binds] at hr
     have y9 := i9 (by simp [hr])
     clear i9
     go_simp
     obtain ⟨-, -, -, i0, i1, i2, i3, i4, i5, i6, i7, i8, i9, i12, -⟩ := HI.out
     exact hK.out _ _ ⟨qB x0, qB x4, qB x7, qF i0, qF i1, qF i2, qF i3, qF i4, qF i5, qF i6, qF i7, qF i8, qF i9, qP, hL, (fun j => by obtain ⟨k, e1, e2, p10_0, p10_1, e3, e4⟩ := i10 j; exact ⟨k, (put_ne (by decide)).trans e1, e2, p10_0, p10_1, e3, e4⟩), q10, hS, Bp, Bs, Bm, Bt⟩
theorem w_term (n : Int) (au av aq : Option Addr) (capu capv lq capq : Nat) (st sd : List Int) (k : Nat) (p : Pln) (d t : Int) (dv : Bool) (w0 w : World) (hP : PlAt w k n (.slice au st.length capu) (.slice av sd.length capv) (.slice aq lq capq) p)
 (h : IsNums w0 (.slice au st.length capu) st) (h' : IsNums w0 (.slice av sd.length capv) sd) (hL0 : Later w0 w) (hk0 : w0.heap.size ≤ k) (hC : hasI st 0 = true ∧ hasI sd 0 = true) (ho : OkP ⟨n, st, sd⟩ p 20) (hf : isFig ⟨d, t⟩ = true) :
 Calls Tryz.prog 113 #[.pointer (some ⟨k, 0, none⟩), .agg #[.int .i64 d, .int .i64 t, .bool dv]] w fun e w' => e = .returned (.tuple #[]) ∧
  ∃ aq' lq' capq', PlAt w' k n (.slice au st.length capu) (.slice av sd.length capv) (.slice aq' lq' capq') (termP p ⟨⟨d, t⟩, dv⟩) ∧ PlGo k (.slice aq lq capq) (.slice aq' lq' capq') w w' := by
 cases dv
 · cases he : p.e
   · exact w_termD n au av aq capu capv lq capq st sd k p d t w0 w hP h h' hL0 hk0 hC ho hf he
   · cases hfit : fitsP p.s ⟨d, t⟩
     · exact w_termC n au av aq capu capv lq capq st sd k p d t w0 w hP h h' hL0 hk0 hC ho hf he hfit
     · exact w_termB n au av aq capu capv lq capq st sd k p d t w0 w hP h h' hL0 hk0 hC ho hf he hfit
 · exact w_termA n au av aq capu capv lq capq st sd k p d t w0 w hP h h' hL0 hk0 hC ho hf
end Go.Proofs.YtkoojngonldcbaaGreat
