/- DERIVED. Walks: the usual plan, the program's. -/
import Derived.Test.YtkoojngonldcbaaGreatKGM55
import Derived.Test.YtkoojngonldcbaaGreatKGM50
namespace Go.Proofs.YtkoojngonldcbaaGreat
set_option linter.unusedVariables false
set_option linter.unusedSimpArgs false
open Go.RowKit
set_option maxRecDepth 100000
theorem trms_drop' (l : List Trm) (k : Nat) : (trms l).drop (k * 3) = trms (l.drop k) := flat_drop Trm.cells 3 (fun _ => rfl) l k
theorem headF_of' {l : List Trm} {t : Trm} (h : l[0]? = some t) : headF l = t.f := by
 cases l with
 | nil => simp at h
 | cons x l => simp at h; subst h; rfl
theorem drop1_get' {l : List Trm} {k : Nat} {t : Trm} (h : l[k + 1]? = some t) : (l.drop 1)[k]? = some t := by
 rw [List.getElem?_drop, Nat.add_comm]; exact h
theorem take1_snoc {l : List Trm} {k : Nat} {t : Trm} (h : l[k + 1]? = some t) (p : Pln) : ((l.drop 1).take (k + 1)).foldl termP p = termP (((l.drop 1).take k).foldl termP p) t := by
 rw [take_snoc' (drop1_get' h), foldP_snoc]
set_option maxHeartbeats 8000000 in
theorem w_usualPlan (n : Int) (u v y : Value) (st sd : List Int) (c : List Trm) (w : World) (h : IsNums w u st) (h' : IsNums w v sd) (hy : IsTrms w y c) (hC : hasI st 0 = true ∧ hasI sd 0 = true) (hc : isChain c = true) :
 Calls Tryz.prog 57 #[.agg #[.int .i64 n, u, v], y] w fun e w' => ∃ aq lq capq, e = .returned (.tuple #[.slice aq lq capq, .agg #[.int .i64 (usualP c).s.sh, .int .i64 (usualP c).s.cu]]) ∧ Later w w' ∧ w'.ownsRow w.heap.size 88 4 (.slice aq lq capq) (planL c).length (movs (planL c)) := by
 have H := Lib.hid h
 have H' := Lib.hid h'
 have HY := Lib.hid hy
 obtain ⟨_, _, au, capu, rfl, _, _, _⟩ := h
 obtain ⟨_, _, av, capv, rfl, _, _, _⟩ := h'
 have h6 := (isChain_true hc).2.1
 have h1 := (isChain_true hc).1
 obtain ⟨hxl1, hn1, a1, cap1, rfl, hcap1, hmax1, hrow1⟩ := hy
 have HR1 := Lib.hid hrow1
 clear hrow1 hxl1
 obtain ⟨b1, off1, rfl, hr1⟩ := HR1.out (by omega)
 obtain ⟨t, ht⟩ := get_ex (l := c) (k := 0) (by omega)
 have HT := Lib.hid ht
 have HK := Lib.hid (show isFig t.f = true from (isChain_true hc).2.2.2 t (List.mem_of_getElem? ht))
 have HHd := Lib.hid (headF_of' ht)
 have HC := Lib.hid hC
 have HCh := Lib.hid hc
 have HA := Lib.hid (fun k => OkP.atK (r := ⟨n, st, sd⟩) hC hc k)
 clear hc ht hC
 rcases (show cap1 = 1 ∨ 1 < cap1 by omega) with rfl | hcap
 all_goals
  have hrz := hr1.later (show Later w (((w.alloc (.cells #[.int .i64 n, .slice au st.length capu, .slice av sd.length capv] 26)).alloc (.cells #[.int .i64 0, .int .i64 0] 78)).alloc (.cells #[.int .i64 n, .slice au st.length capu, .slice av sd.length capv, .int .i64 0, .int .i64 0, .slice none 0 0, .bool false] 125)) from (((Later.refl _).alloc _).alloc _).alloc _)
  obtain ⟨r1, r2, r3⟩ := hrz.trm HT.out
  simp only [Nat.zero_mul, Nat.add_zero] at r1 r2 r3
  go_enter Tryz.func57, Tryz.ntmps57
  go_wp2_with fail
  have hP0 : PlAt (((w.alloc (.cells #[.int .i64 n, .slice au st.length capu, .slice av sd.length capv] 26)).alloc (.cells #[.int .i64 0, .int .i64 0] 78)).alloc (.cells #[.int .i64 n, .slice au st.length capu, .slice av sd.length capv, .int .i64 0, .int .i64 0, .slice none 0 0, .bool false] 125)) (w.heap.size + 1 + 1) n (.slice au st.length capu) (.slice av sd.length capv) (.slice none 0 0) ⟨⟨0, 0⟩, [], false⟩ := ⟨heap_alloc_new' _ _ (by simp), World.ownsRow_nil _ _ _ _⟩
  refine (w_do n au av none capu capv 0 0 st sd (w.heap.size + 1 + 1) ⟨⟨0, 0⟩, [], false⟩ 0 t.f.d t.f.t w _ hP0 H.out H'.out ((((Later.refl _).alloc _).alloc _).alloc _) (by omega) HC.out (by decide) (isMove_fig (by decide) (by decide) HK.out) (by simp)).mono ?_
  rintro e w3 ⟨rfl, aq, lq, capq, hP3, hG3⟩
  have hB3 : Below (w.heap.size + 2) ((((w.alloc (.cells #[.int .i64 n, .slice au st.length capu, .slice av sd.length capv] 26)).alloc (.cells #[.int .i64 0, .int .i64 0] 78)).alloc (.cells #[.int .i64 n, .slice au st.length capu, .slice av sd.length capv, .int .i64 0, .int .i64 0, .slice none 0 0, .bool false] 125))) w3 := hG3.below (by simp) (by omega) (fun j e => by cases e)
  have hres : w3.heap[w.heap.size + 1]? = some (.cells #[.int .i64 0, .int .i64 0] 78 (0, 0)) := (hB3.block (w.heap.size + 1) (by omega)).trans (heap_alloc_old _ _ (heap_alloc_new' _ _ (by simp)))
  have hLw : Later w w3 := Below.trans ((((Later.refl w).alloc _).alloc _).alloc _) (hB3.mono (by omega))
  have HP3 := Lib.hid hP3
  have HRes := Lib.hid hres
  have HLw := Lib.hid hLw
  have HS0 := Lib.hid (show startP (headF c) = doP ⟨⟨0, 0⟩, [], false⟩ 0 ⟨t.f.d, t.f.t⟩ false from by rw [HHd.out]; rfl)
  clear hP0 hP3 hG3 hB3 hres hLw r1 r2 r3
  go_wp2
  go_loopw [21] (fun i wr => ∃ k : Nat, k ≤ c.length - 1 ∧ i = .int .i64 k ∧ Later w wr ∧ wr.heap[w.heap.size + 1]? = some (.cells #[.int .i64 0, .int .i64 0] 78 (0, 0)) ∧ ∃ aq lq capq, Hid (PlAt wr (w.heap.size + 1 + 1) n (.slice au st.length capu) (.slice av sd.length capv) (.slice aq lq capq) (((c.drop 1).take k).foldl termP (startP (headF c))))) (fun i _ => c.length - 1 - (intOf i).toNat)
  case atStart => exact ⟨0, Nat.zero_le _, rfl, HLw.out, HRes.out, aq, lq, capq, by rw [List.take_zero, List.foldl_nil, HS0.out]; exact HP3.out⟩
  case round =>
   obtain ⟨k, hk, rfl, hL2, hres, aq2, lq2, capq2, HP⟩ := hrel
   have HRes2 := Lib.hid hres
   clear hres
   by_cases hlt : k < c.length - 1
   · try (exfalso; omega)
     all_goals
      obtain ⟨t', ht'⟩ := get_ex (l := c) (k := k + 1) (by omega)
      have hr2 : RowAt w b1 (off1 + 3) (trms (c.drop 1)) := by
       have := hr1.drop 3
       rwa [show (3 : Nat) = 1 * 3 from rfl, trms_drop'] at this
      have HT2 := Lib.hid ht'
      obtain ⟨r1, r2, r3⟩ := (hr2.later hL2).trm (drop1_get' ht')
      have hbr2 := (hr2.later hL2).1
      have HK2 := Lib.hid (show isFig t'.f = true from (isChain_true HCh.out).2.2.2 t' (List.mem_of_getElem? ht'))
      clear ht'
      go_wp2_with fail
      refine (w_term n au av aq2 capu capv lq2 capq2 st sd (w.heap.size + 1 + 1) _ t'.f.d t'.f.t t'.dv w _ (HP.out.later ((Later.refl _).alloc _)) H.out H'.out (hL2.alloc _) (by omega) HC.out ((HA.out k).more (by omega)) HK2.out).mono ?_
      rintro e w5 ⟨rfl, aq5, lq5, capq5, hP5, hG5⟩
      have hB5 : Below (w.heap.size + 2) (wr.alloc (.cells #[.int .i64 t'.f.d, .int .i64 t'.f.t, .bool t'.dv] 93)) w5 := hG5.below (by have := HP.out.lt; simp; omega) (by omega) (fun j e => by have := HP.out.ownk j e; omega)
      have HP5 := Lib.hid hP5
      have HL5 := Lib.hid (show Later w w5 from Below.trans (hL2.alloc _) (hB5.mono (by omega)))
      have HRes5 := Lib.hid ((hB5.block (w.heap.size + 1) (by omega)).trans (heap_alloc_old _ _ HRes2.out))
      clear hP5 hG5 hB5 r1 r2 r3
      go_wp2
      go_roundw
      case rel => exact ⟨k + 1, by omega, by go_num, HL5.out, HRes5.out, aq5, lq5, capq5, by rw [take1_snoc HT2.out]; exact HP5.out⟩
      case measure => simp [intOf]; omega
   · have HFp := Lib.hid (show ((c.drop 1).take k).foldl termP (startP (headF c)) = foldP c from by rw [List.take_of_length_le (by rw [List.length_drop]; omega)]; rfl)
     have HO := Lib.hid (HFp.out ▸ HA.out k)
     have HPf := Lib.hid (HFp.out ▸ HP.out)
     clear HP
     go_wp2_with fail
     refine (w_toCursor n au av aq2 capu capv lq2 capq2 st sd (w.heap.size + 1 + 1) (foldP c) w _ HPf.out H.out H'.out hL2 (by omega) HC.out HO.out.st (by have := HO.out.len; omega)).mono ?_
     rintro e w6 ⟨rfl, aq6, lq6, capq6, hP6, hG6⟩
     have hB6 : Below (w.heap.size + 2) wr w6 := hG6.below (by have := HPf.out.lt; omega) (by omega) (fun j e => by have := HPf.out.ownk j e; omega)
     have Kr := (hB6.block (w.heap.size + 1) (by omega)).trans HRes2.out
     have hL0 : Later w w6 := Below.trans hL2 (hB6.mono (by omega))
     have HOwn := Lib.hid hP6.2
     have Kp := hP6.1
     have hSB := hL0.size
     have hRB : w.heap.size ≤ w.heap.size + 1 := by omega
     clear hP6 hG6 hB6
     go_wp2_with fail
     obtain ⟨c0, f0, z0⟩ := blk_at Kp
     obtain ⟨c1, f1, z1⟩ := blk_at Kr
     clear Kp Kr
     go_region
     all_goals
      go_wp2
      refine bodyPost_ret (v := .tuple #[.slice aq6 lq6 capq6, .agg #[.int .i64 (underP (foldP c)).s.sh, .int .i64 (underP (foldP c)).s.cu]]) (by simp [results, Tryz.results57, go_sem, c1, z1]) rfl ⟨aq6, lq6, capq6, rfl, ?_, ?_⟩
      · exact (hL0.drew.setCell (Nat.le_succ _) _).setCell (Nat.le_succ _) _
      · exact owns_base (owns_set (owns_set (owns_later HOwn.out (Later.refl _).drew) (by omega) _ _) (by omega) _ _) (by omega)
end Go.Proofs.YtkoojngonldcbaaGreat
