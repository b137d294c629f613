/- DERIVED. Walks: the planner's moves, made. -/
import Derived.Test.YtkoojngonldcbaaGreatKGM52
import Derived.Test.YtkoojngonldcbaaGreatKGBA
namespace Go.Proofs.YtkoojngonldcbaaGreat
set_option linter.unusedVariables false
set_option linter.unusedSimpArgs false
open Go.RowKit
set_option maxRecDepth 100000
set_option maxHeartbeats 4000000 in
theorem w_do (n : Int) (au av aq : Option Addr) (capu capv lq capq : Nat) (st sd : List Int) (k : Nat) (p : Pln) (K d t : Int) (w0 w : World) (hP : PlAt w k n (.slice au st.length capu) (.slice av sd.length capv) (.slice aq lq capq) p)
 (h : IsNums w0 (.slice au st.length capu) st) (h' : IsNums w0 (.slice av sd.length capv) sd) (hL0 : Later w0 w) (hk0 : w0.heap.size ≤ k) (hC : hasI st 0 = true ∧ hasI sd 0 = true) (hs : isStg p.s = true) (hm : isMove ⟨K, 0, ⟨d, t⟩⟩ = true) (hlen : p.l.length ≤ 30) :
 Calls Tryz.prog 112 #[.pointer (some ⟨k, 0, none⟩), .int .i64 K, .agg #[.int .i64 d, .int .i64 t]] w fun e w' => e = .returned (.tuple #[]) ∧
  ∃ aq' lq' capq', PlAt w' k n (.slice au st.length capu) (.slice av sd.length capv) (.slice aq' lq' capq') (doP p K ⟨d, t⟩ p.e) ∧ PlGo k (.slice aq lq capq) (.slice aq' lq' capq') w w' := by
 have H := Lib.hid (h.later hL0)
 have H' := Lib.hid (h'.later hL0)
 have HS := Lib.hid hs
 have HM := Lib.hid hm
 have HPl := Lib.hid hP
 have hkw := hP.lt
 have hm0 := mv0 (r := ⟨n, st, sd⟩) hC p.s K ⟨d, t⟩
 obtain ⟨NS, hNS⟩ : ∃ x, mvTo p.s ⟨K, 0, ⟨d, t⟩⟩ = x := ⟨_, rfl⟩
 rw [hNS] at hm0
 have HNS := Lib.hid hm0.1
 have HND := Lib.hid (show doP p K ⟨d, t⟩ p.e = ⟨NS, p.l ++ [⟨K, 0, ⟨d, t⟩⟩], p.e⟩ from by unfold doP; rw [hNS])
 have HLen := Lib.hid hlen
 clear h h' hs hm hNS hm0 hP hC hlen
 go_enter Tryz.func112, Tryz.ntmps112
 go_wp2_with fail
 refine (w_can n au av aq capu capv lq capq st sd k p ⟨K, 0, ⟨d, t⟩⟩ _ (HPl.out.later (((Later.refl _).alloc _).alloc _)) (H.out.later (((Later.refl _).alloc _).alloc _)) (H'.out.later (((Later.refl _).alloc _).alloc _)) HS.out HM.out).mono ?_
 rintro e w1 ⟨rfl, hL⟩
 rw [HNS.out]
 obtain ⟨K0, K1⟩ := kept2 hL
 have hL1 : Later w w1 := (((Later.refl w).alloc _).alloc _).trans hL
 have HP1 := Lib.hid (HPl.out.later hL1)
 have hsz := hL1.size
 have HK1 := Lib.hid K1
 have HL1 := Lib.hid hL1
 obtain ⟨c0, f0, z0⟩ := blk_at HP1.out.1
 obtain ⟨c1, f1, z1⟩ := blk_at K1
 clear K0 K1 hL hL1
 go_wp2_with fail
 refine wp_name ?_
 intro z hz
 have K2 : z.heap[k]? = some (.cells #[.int .i64 n, .slice au st.length capu, .slice av sd.length capv, .int .i64 NS.sh, .int .i64 NS.cu, .slice aq lq capq, .bool p.e] 125 (0, 0)) := by rw [hz]; exact set_4of7 (set_3of7 HP1.out.1 _) _
 have hown : z.ownsRow (k + 1) 88 4 (.slice aq lq capq) p.l.length (movs p.l) := by rw [hz]; exact owns_set (owns_set HP1.out.2 (by omega) _ _) (by omega) _ _
 have hgo : PlGo k (.slice aq lq capq) (.slice aq lq capq) w z := by rw [hz]; exact ((PlGo.later HL1.out).trans (PlGo.setCell _ _ _)).trans (PlGo.setCell _ _ _)
 have K3 : z.heap[w.heap.size + 1]? = some (.cells #[.int .i64 K, .int .i64 0, .int .i64 d, .int .i64 t] 88 (0, 0)) := by rw [hz]; exact other_set (other_set HK1.out (by omega) _) (by omega) _
 clear hz c0 f0 z0 c1 f1 z1
 obtain ⟨c0, f0, z0⟩ := blk_at K2
 obtain ⟨c1, f1, z1⟩ := blk_at K3
 have hb1 : k + 1 ≤ z.heap.size := by omega
 have HK2 := Lib.hid K2
 have HGo := Lib.hid hgo
 clear K2 K3 hgo
 go_region_law (refine stepA1at_Move rfl (.tmp 23) (.tmp 25) rfl (k + 1) _ p.l ⟨K, 0, ⟨d, t⟩⟩ (by simp [Act.eval, Act.put]) hown (by simp [Act.eval, Act.put]) (by have := HLen.out; omega) hb1 ?_; intro v1 w3 ho3 hg3 hat3; have hk3 := grown_keep hg3 HK2.out (own_ne hown (.inl (by omega))); have d0 := (blk_at hk3).1; have e0 := (blk_at hk3).2.1; have g0 := (blk_at hk3).2.2; have HK3 := Lib.hid hk3; clear hk3; have hv1 := (reads_of_owns ho3 (by have := HLen.out; simp; omega)).2.2; obtain ⟨a2, cap2, rfl, _⟩ := hv1)
 all_goals
  go_end0
  have e1 : (p.l ++ ([⟨K, 0, ⟨d, t⟩⟩] : List Mov)).length = p.l.length + 1 := by simp
  refine ⟨rfl, a2, p.l.length + 1, cap2, ?_, ?_⟩
  · rw [HND.out]
    refine ⟨set_5of7 HK3.out _, ?_⟩
    show World.ownsRow _ (k + 1) 88 4 _ (p.l ++ ([⟨K, 0, ⟨d, t⟩⟩] : List Mov)).length (movs (p.l ++ ([⟨K, 0, ⟨d, t⟩⟩] : List Mov)))
    refine owns_set ?_ (by omega) _ _
    rw [e1] at ho3 ⊢
    exact ho3
  · rw [e1] at hat3
    exact (HGo.out.trans (PlGo.grown hg3 hat3)).trans (PlGo.setCell _ _ _)
end Go.Proofs.YtkoojngonldcbaaGreat
namespace Go.Proofs.YtkoojngonldcbaaGreat
set_option linter.unusedVariables false
set_option linter.unusedSimpArgs false
open Go.RowKit
set_option maxRecDepth 100000
theorem underP_no {p : Pln} (h : p.e = false) : underP p = p := by unfold underP; rw [h]; rfl
theorem underP_5 {p : Pln} (h : p.e = true) (h' : 0 ≤ p.s.sh) : underP p = doP p 5 ⟨0, 0⟩ false := by unfold underP; rw [h, if_pos rfl, if_pos h']
theorem underP_6 {p : Pln} (h : p.e = true) (h' : ¬ 0 ≤ p.s.sh) : underP p = doP p 6 ⟨0, 0⟩ false := by unfold underP; rw [h, if_pos rfl, if_neg h']
theorem PlAt.mark {w : World} {k : Nat} {n : Int} {u v q : Value} {p : Pln} {K : Int} {f : Fig} {e0 : Bool} (h : PlAt w k n u v q (doP p K f e0)) (e : Bool) : PlAt (w.setCell ⟨k, 6, none⟩ (.bool e)) k n u v q (doP p K f e) :=
 ⟨set_6of7 h.1 _, owns_set h.2 (by omega) _ _⟩
set_option maxHeartbeats 4000000 in
theorem w_toCursor (n : Int) (au av aq : Option Addr) (capu capv lq capq : Nat) (st sd : List Int) (k : Nat) (p : Pln) (w0 w : World) (hP : PlAt w k n (.slice au st.length capu) (.slice av sd.length capv) (.slice aq lq capq) p)
 (h : IsNums w0 (.slice au st.length capu) st) (h' : IsNums w0 (.slice av sd.length capv) sd) (hL0 : Later w0 w) (hk0 : w0.heap.size ≤ k) (hC : hasI st 0 = true ∧ hasI sd 0 = true) (hs : isStg p.s = true) (hlen : p.l.length ≤ 30) :
 Calls Tryz.prog 114 #[.pointer (some ⟨k, 0, none⟩)] w fun e w' => e = .returned (.tuple #[]) ∧
  ∃ aq' lq' capq', PlAt w' k n (.slice au st.length capu) (.slice av sd.length capv) (.slice aq' lq' capq') (underP p) ∧ PlGo k (.slice aq lq capq) (.slice aq' lq' capq') w w' := by
 have H := Lib.hid h
 have H' := Lib.hid h'
 have HS := Lib.hid hs
 have HPl := Lib.hid hP
 have HLen := Lib.hid hlen
 have HC := Lib.hid hC
 have hkw := hP.lt
 have h1 := hP.1
 clear h h' hs hlen hC hP
 cases he : p.e
 · have HE := Lib.hid (underP_no he)
   rw [he] at h1
   obtain ⟨c0, f0, z0⟩ := blk_at h1
   clear he h1
   go_enter Tryz.func114, Tryz.ntmps114
   go_wp2
   refine bodyPost_ret (results_none rfl _ _ _) rfl ⟨rfl, aq, lq, capq, ?_, PlGo.refl _ _ _⟩
   rw [HE.out]
   exact HPl.out
 rw [he] at h1
 by_cases hq : 0 ≤ p.s.sh
 · have HE := Lib.hid (underP_5 he hq)
   obtain ⟨c0, f0, z0⟩ := blk_at h1
   clear he h1
   go_enter Tryz.func114, Tryz.ntmps114
   go_wp2_with fail
   refine (w_do n au av aq capu capv lq capq st sd k p 5 0 0 w0 _ HPl.out H.out H'.out hL0 hk0 HC.out HS.out (isMove_end (by decide) (by decide)) HLen.out).mono ?_
   rintro e w1 ⟨rfl, aq', lq', capq', hP1, hG1⟩
   have h2 := hP1.1
   clear c0 f0 z0
   obtain ⟨c0, f0, z0⟩ := blk_at h2
   have HP1 := Lib.hid hP1
   have HG1 := Lib.hid hG1
   clear hP1 hG1 h2
   go_wp2
   go_end0
   refine ⟨rfl, aq', lq', capq', ?_, HG1.out.trans (PlGo.setCell _ _ _)⟩
   rw [HE.out]
   exact HP1.out.mark false
 · have HE := Lib.hid (underP_6 he hq)
   obtain ⟨c0, f0, z0⟩ := blk_at h1
   clear he h1
   go_enter Tryz.func114, Tryz.ntmps114
   go_wp2_with fail
   refine (w_do n au av aq capu capv lq capq st sd k p 6 0 0 w0 _ HPl.out H.out H'.out hL0 hk0 HC.out HS.out (isMove_end (by decide) (by decide)) HLen.out).mono ?_
   rintro e w1 ⟨rfl, aq', lq', capq', hP1, hG1⟩
   have h2 := hP1.1
   clear c0 f0 z0
   obtain ⟨c0, f0, z0⟩ := blk_at h2
   have HP1 := Lib.hid hP1
   have HG1 := Lib.hid hG1
   clear hP1 hG1 h2
   go_wp2
   go_end0
   refine ⟨rfl, aq', lq', capq', ?_, HG1.out.trans (PlGo.setCell _ _ _)⟩
   rw [HE.out]
   exact HP1.out.mark false
end Go.Proofs.YtkoojngonldcbaaGreat
