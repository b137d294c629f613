/- DERIVED. Walks: the planner brings the value under the cursor; a term. -/
import Derived.Test.YtkoojngonldcbaaGreatKPM53
namespace Go.Proofs.YtkoojngonldcbaaGreat
set_option linter.unusedVariables false
set_option linter.unusedSimpArgs false
open Go.RowKit
set_option maxRecDepth 100000
theorem underP_no {p : Pln} (h : p.e = false) : underP p = p := by unfold underP; rw [h]; rfl
theorem underP_5 {p : Pln} (h : p.e = true) (h' : 0 ≤ p.s.sh) : underP p = doP p 5 ⟨0, 0⟩ false := by unfold underP; rw [h, if_pos rfl, if_pos h']
theorem underP_6 {p : Pln} (h : p.e = true) (h' : ¬ 0 ≤ p.s.sh) : underP p = doP p 6 ⟨0, 0⟩ false := by unfold underP; rw [h, if_pos rfl, if_neg h']
theorem PlAt.mark {w : World} {k : Nat} {n : Int} {u v q : Value} {p : Pln} {K : Int} {f : Fig} {e0 : Bool} (h : PlAt w k n u v q (doP p K f e0)) (e : Bool) : PlAt (w.setCell ⟨k, 6, none⟩ (.bool e)) k n u v q (doP p K f e) :=
 ⟨set_6of7 h.1 _, owns_set h.2 (by omega) _ _⟩
set_option maxHeartbeats 4000000 in
theorem w_toCursor (n : Int) (au av aq : Option Addr) (capu capv lq capq : Nat) (st sd : List Int) (k : Nat) (p : Pln) (w0 w : World) (hP : PlAt w k n (.slice au st.length capu) (.slice av sd.length capv) (.slice aq lq capq) p)
 (h : IsNums w0 (.slice au st.length capu) st) (h' : IsNums w0 (.slice av sd.length capv) sd) (hL0 : Later w0 w) (hk0 : w0.heap.size ≤ k) (hC : hasI st 0 = true ∧ hasI sd 0 = true) (hs : isStg p.s = true) (hlen : p.l.length ≤ 30) :
 Calls Tryz.prog 114 #[.pointer (some ⟨k, 0, none⟩)] w fun e w' => e = .returned (.tuple #[]) ∧
  ∃ aq' lq' capq', PlAt w' k n (.slice au st.length capu) (.slice av sd.length capv) (.slice aq' lq' capq') (underP p) ∧ PlGo k (.slice aq lq capq) (.slice aq' lq' capq') w w' := by
 have H := Lib.hid h
 have H' := Lib.hid h'
 have HS := Lib.hid hs
 have HPl := Lib.hid hP
 have HLen := Lib.hid hlen
 have HC := Lib.hid hC
 have hkw := hP.lt
 have h1 := hP.1
 clear h h' hs hlen hC hP
 cases he : p.e
 · have HE := Lib.hid (underP_no he)
   rw [he] at h1
   obtain ⟨c0, f0, z0⟩ := blk_at h1
   clear he h1
   go_enter Tryz.func114, Tryz.ntmps114
   go_wp2
   refine bodyPost_ret (results_none rfl _ _ _) rfl ⟨rfl, aq, lq, capq, ?_, PlGo.refl _ _ _⟩
   rw [HE.out]
   exact HPl.out
 rw [he] at h1
 by_cases hq : 0 ≤ p.s.sh
 · have HE := Lib.hid (underP_5 he hq)
   obtain ⟨c0, f0, z0⟩ := blk_at h1
   clear he h1
   go_enter Tryz.func114, Tryz.ntmps114
   go_wp2_with fail
   refine (w_do n au av aq capu capv lq capq st sd k p 5 0 0 w0 _ HPl.out H.out H'.out hL0 hk0 HC.out HS.out (isMove_end (by decide) (by decide)) HLen.out).mono ?_
   rintro e w1 ⟨rfl, aq', lq', capq', hP1, hG1⟩
   have h2 := hP1.1
   clear c0 f0 z0
   obtain ⟨c0, f0, z0⟩ := blk_at h2
   have HP1 := Lib.hid hP1
   have HG1 := Lib.hid hG1
   clear hP1 hG1 h2
   go_wp2
   go_end0
   refine ⟨rfl, aq', lq', capq', ?_, HG1.out.trans (PlGo.setCell _ _ _)⟩
   rw [HE.out]
   exact HP1.out.mark false
 · have HE := Lib.hid (underP_6 he hq)
   obtain ⟨c0, f0, z0⟩ := blk_at h1
   clear he h1
   go_enter Tryz.func114, Tryz.ntmps114
   go_wp2_with fail
   refine (w_do n au av aq capu capv lq capq st sd k p 6 0 0 w0 _ HPl.out H.out H'.out hL0 hk0 HC.out HS.out (isMove_end (by decide) (by decide)) HLen.out).mono ?_
   rintro e w1 ⟨rfl, aq', lq', capq', hP1, hG1⟩
   have h2 := hP1.1
   clear c0 f0 z0
   obtain ⟨c0, f0, z0⟩ := blk_at h2
   have HP1 := Lib.hid hP1
   have HG1 := Lib.hid hG1
   clear hP1 hG1 h2
   go_wp2
   go_end0
   refine ⟨rfl, aq', lq', capq', ?_, HG1.out.trans (PlGo.setCell _ _ _)⟩
   rw [HE.out]
   exact HP1.out.mark false
end Go.Proofs.YtkoojngonldcbaaGreat
