/- DERIVED. Walks: the usual plan, the reference's: under the cursor; whether a figure fits. -/
import Derived.Test.YtkoojngonldcbaaGreatKGM57
import Derived.Test.YtkoojngonldcbaaGreatKGM54
import Derived.Test.YtkoojngonldcbaaGreatKGM50
namespace Go.Proofs.YtkoojngonldcbaaGreat
set_option linter.unusedVariables false
set_option linter.unusedSimpArgs false
open Go.RowKit
set_option maxRecDepth 100000
theorem doP_ne (p : Pln) (K : Int) (f : Fig) (e : Bool) : (doP p K f e).l ≠ [] := by simp [doP]
theorem underP_ne {p : Pln} (h : p.l ≠ []) : (underP p).l ≠ [] := by
 unfold underP
 split
 · split <;> exact doP_ne _ _ _ _
 · exact h
set_option maxHeartbeats 4000000 in
theorem w_l14UnderX (n : Int) (au av aq : Option Addr) (capu capv lq capq base : Nat) (st sd : List Int) (p : Pln) (e0 : Bool) (he0 : e0 = p.e) (w : World) 
 (h : IsNums w (.slice au st.length capu) st) (h' : IsNums w (.slice av sd.length capv) sd) (hq : w.ownsRow base 88 4 (.slice aq lq capq) p.l.length (movs p.l)) (hb : base ≤ w.heap.size) (hne : p.l ≠ []) (hC : hasI st 0 = true ∧ hasI sd 0 = true) (hs : isStg p.s = true) (hlen : p.l.length ≤ 30) :
 Calls Tryz.prog 117 #[.agg #[.int .i64 p.s.sh, .int .i64 p.s.cu, .slice aq lq capq, .bool e0], .agg #[.int .i64 n, .slice au st.length capu, .slice av sd.length capv]] w fun e w' => 
  ∃ aq' lq' capq', e = .returned (.agg #[.int .i64 (underP p).s.sh, .int .i64 (underP p).s.cu, .slice aq' lq' capq', .bool (underP p).e]) ∧ Later w w' ∧ w'.ownsRow base 88 4 (.slice aq' lq' capq') (underP p).l.length (movs (underP p).l) ∧ (∀ j, (Value.slice aq' lq' capq').ownBlock = some j → (Value.slice aq lq capq).ownBlock = some j ∨ w.heap.size ≤ j) := by
 have H := Lib.hid h
 have H' := Lib.hid h'
 have HQ := Lib.hid hq
 have HM := Lib.hid (reads_of_owns hq (by omega))
 clear h h' hq
 cases he : p.e
 all_goals rw [he] at he0; subst he0
 · have HE := Lib.hid (underP_no he)
   have HEE := Lib.hid he
   rw [HE.out]
   clear he
   go_enter Tryz.func117, Tryz.ntmps117
   go_wp2
   refine bodyPost_ret (v := .agg #[.int .i64 p.s.sh, .int .i64 p.s.cu, .slice aq lq capq, .bool false]) (by simp [results, Tryz.results117, go_sem]) rfl ⟨aq, lq, capq, by rw [HEE.out], qla, ?_, fun j h => .inl h⟩
   have ho := HQ.out
   exact owns_later ho (qla)
 by_cases hsh : 0 ≤ p.s.sh
 · have HE := Lib.hid (underP_5 he hsh)
   rw [HE.out]
   clear he
   go_enter Tryz.func117, Tryz.ntmps117
   go_wp2_with fail
   refine (w_l14Do n au av aq capu capv lq capq st sd p true 5 0 0 _ (H.out.later ((((Later.refl _).alloc _).alloc _).alloc _)) (H'.out.later ((((Later.refl _).alloc _).alloc _).alloc _)) (HM.out.later ((((Later.refl _).alloc _).alloc _).alloc _)) hne hC hs (isMove_end (by decide) (by decide)) hlen).mono ?_
   rintro e w1 ⟨aq', lq', capq', rfl, hL, ho⟩
   obtain ⟨K0, K1, K2⟩ := kept3 hL
   obtain ⟨c2, f2, z2⟩ := blk_at K2
   have hL1 := ((((Later.refl w).alloc _).alloc _).alloc _).trans hL
   have HO := Lib.hid (owns_base ho (show w.heap.size + 3 ≤ _ by simp))
   clear K0 K1 K2 hL ho
   go_wp2
   refine bodyPost_ret (v := .agg #[.int .i64 (doP p 5 ⟨0, 0⟩ false).s.sh, .int .i64 (doP p 5 ⟨0, 0⟩ false).s.cu, .slice aq' lq' capq', .bool false]) (by simp [results, Tryz.results117, go_sem, c2, z2]) rfl ⟨aq', lq', capq', rfl, qla, ?_, fun j h => .inr (by have := (HO.out.lt j h).1; omega)⟩
   exact owns_base (owns_set (owns_set (owns_set (owns_set HO.out (by omega) _ _) (by omega) _ _) (by omega) _ _) (by omega) _ _) (by omega)
 · have HE := Lib.hid (underP_6 he hsh)
   rw [HE.out]
   clear he
   go_enter Tryz.func117, Tryz.ntmps117
   go_wp2_with fail
   refine (w_l14Do n au av aq capu capv lq capq st sd p true 6 0 0 _ (H.out.later ((((Later.refl _).alloc _).alloc _).alloc _)) (H'.out.later ((((Later.refl _).alloc _).alloc _).alloc _)) (HM.out.later ((((Later.refl _).alloc _).alloc _).alloc _)) hne hC hs (isMove_end (by decide) (by decide)) hlen).mono ?_
   rintro e w1 ⟨aq', lq', capq', rfl, hL, ho⟩
   obtain ⟨K0, K1, K2⟩ := kept3 hL
   obtain ⟨c2, f2, z2⟩ := blk_at K2
   have hL1 := ((((Later.refl w).alloc _).alloc _).alloc _).trans hL
   have HO := Lib.hid (owns_base ho (show w.heap.size + 3 ≤ _ by simp))
   clear K0 K1 K2 hL ho
   go_wp2
   refine bodyPost_ret (v := .agg #[.int .i64 (doP p 6 ⟨0, 0⟩ false).s.sh, .int .i64 (doP p 6 ⟨0, 0⟩ false).s.cu, .slice aq' lq' capq', .bool false]) (by simp [results, Tryz.results117, go_sem, c2, z2]) rfl ⟨aq', lq', capq', rfl, qla, ?_, fun j h => .inr (by have := (HO.out.lt j h).1; omega)⟩
   exact owns_base (owns_set (owns_set (owns_set (owns_set HO.out (by omega) _ _) (by omega) _ _) (by omega) _ _) (by omega) _ _) (by omega)
theorem w_l14Under (n : Int) (au av aq : Option Addr) (capu capv lq capq base : Nat) (st sd : List Int) (p : Pln) (w : World) 
 (h : IsNums w (.slice au st.length capu) st) (h' : IsNums w (.slice av sd.length capv) sd) (hq : w.ownsRow base 88 4 (.slice aq lq capq) p.l.length (movs p.l)) (hb : base ≤ w.heap.size) (hne : p.l ≠ []) (hC : hasI st 0 = true ∧ hasI sd 0 = true) (hs : isStg p.s = true) (hlen : p.l.length ≤ 30) :
 Calls Tryz.prog 117 #[.agg #[.int .i64 p.s.sh, .int .i64 p.s.cu, .slice aq lq capq, .bool p.e], .agg #[.int .i64 n, .slice au st.length capu, .slice av sd.length capv]] w fun e w' => 
  ∃ aq' lq' capq', e = .returned (.agg #[.int .i64 (underP p).s.sh, .int .i64 (underP p).s.cu, .slice aq' lq' capq', .bool (underP p).e]) ∧ Later w w' ∧ w'.ownsRow base 88 4 (.slice aq' lq' capq') (underP p).l.length (movs (underP p).l) :=
 (w_l14UnderX n au av aq capu capv lq capq base st sd p p.e rfl w h h' hq hb hne hC hs hlen).mono fun e w' ⟨a, b, c, h1, h2, h3, _⟩ => ⟨a, b, c, h1, h2, h3⟩
end Go.Proofs.YtkoojngonldcbaaGreat
