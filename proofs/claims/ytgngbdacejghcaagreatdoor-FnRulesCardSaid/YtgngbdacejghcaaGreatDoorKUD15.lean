/- DERIVED. Walks: rules read from text, the program's. -/
import Derived.Test.YtgngbdacejghcaaGreatDoorKUD14
namespace Go.Proofs.YtgngbdacejghcaaGreatDoor
set_option linter.unusedVariables false
set_option linter.unusedSimpArgs false
open Go.RowKit
set_option maxRecDepth 100000
set_option linter.unusedVariables false
theorem ap_of {u v : Value} (h : ∀ q, u.ownBlock = some q → v.ownBlock ≠ some q) : v.ownBlock = none ∨ v.ownBlock ≠ u.ownBlock := by
 cases hv : v.ownBlock with
 | none => exact .inl rfl
 | some k =>
  right
  intro e
  exact h k e.symm hv
set_option maxHeartbeats 4000000 in
theorem w_implReadRule (s : List UInt8) (hs : s.length ≤ 1048576) (w : World) (he : Env w) :
 Calls Tryz.prog 13 #[sv s] w fun e w' => RdOut s w e w' := by
 have HE := Lib.hid he
 clear he
 obtain ⟨P, hP⟩ : ∃ P, spl 32 s = P := ⟨_, rfl⟩
 have hl := spl_len 32 s
 rw [hP] at hl
 have HP := Lib.hid hP
 clear hP
 go_enter Tryz.func13, Tryz.ntmps13
 go_wp2_with fail
 refine (w_Split 32 s (by omega) _ (HE.out.later ((Later.refl _).alloc _))).mono ?_
 rintro e w1 ⟨⟨gP, rfl, ho⟩, hL1⟩
 rw [HP.out] at ho ⊢
 have HK2 := Lib.hid (hL1.keep (heap_alloc_new _ _))
 have hz1 := hL1.size
 simp only [World.size_alloc] at hz1
 have HW1 := ((Later.refl w).alloc _).trans hL1
 clear hL1
 have HO := Lib.hid ho
 have hg1 := (ho.lt gP rfl).1
 have hg2 := (ho.lt gP rfl).2
 simp only [World.size_alloc] at hg1
 clear ho
 obtain ⟨c2, f2, z2⟩ := blk_at HK2.out
 by_cases h3 : P.length = 3
 rotate_left
 · have hb : ((P.length : Int) != 3) = true := by simp; omega
   have HRD := Lib.hid (rd_no (s := s) (by rw [HP.out]; exact h3))
   go_wp2
   refine bodyPost_ret (v := .tuple #[.agg #[.int .i64 0, .slice none 0 0, .slice none 0 0], .int .i64 6]) (by simp [results, Tryz.results13, go_sem, c2, z2]) rfl ?_
   exact rd_zero HRD.out (qla)
 obtain ⟨a, b, c, rfl⟩ := len_3 h3
 have hl3 := spl3_len HP.out
 have cA := row_add HO.out 0 _ (show (strs [a, b, c])[0]? = some (sv a) from rfl)
 rw [addr0] at cA
 clear h3
 go_wp2_with fail
 refine (w_number a (by omega) _ (HE.out.later HW1)).mono ?_
 rintro e w2 ⟨rfl, hL2⟩
 obtain ⟨nv, hnv⟩ : ∃ x, numV a = x := ⟨_, rfl⟩
 obtain ⟨nb, hnb⟩ : ∃ x, numB a = x := ⟨_, rfl⟩
 rw [hnv, hnb]
 have HNV := Lib.hid hnv
 have HNB := Lib.hid hnb
 have K2 := hL2.keep HK2.out
 have QP : w2.ownsRow (w.heap.size + 1) 9 1 (.slice (some ⟨gP, 0, none⟩) 3 3) 3 (strs [a, b, c]) := owns_base (owns_later HO.out hL2) (by simp)
 have HW2 := HW1.trans hL2
 have hz2 := hL2.size
 have hSB := HW2.size
 clear hL2 c2 f2 z2 cA hnv hnb
 have hlb := spl_len 44 b
 have hlc := spl_len 44 c
 obtain ⟨LB, hLB⟩ : ∃ X, (spl 44 b).map scZ = X := ⟨_, rfl⟩
 obtain ⟨LC, hLC⟩ : ∃ X, (spl 44 c).map scZ = X := ⟨_, rfl⟩
 have nb1 : LB.length ≤ 1048576 := by rw [← hLB]; simp; omega
 have nc1 : LC.length ≤ 1048576 := by rw [← hLC]; simp; omega
 have HLB := Lib.hid hLB
 have HLC := Lib.hid hLC
 clear hLB hLC hlb hlc hl
 have hw2 : w.heap.size < w2.heap.size := by omega
 have NBP : ∀ j, (Value.slice (some ⟨gP, 0, none⟩) 3 3).ownBlock = some j → j < w2.heap.size := fun j e => (QP.lt j e).2
 go_wp2_with fail
 refine region_slots 40 [21, 22, 23, 24, 25, 26, 27, 28, 29, 30, 7] (fun g ac wc => sl ac 5 = .int .i64 nv ∧
  sl ac 4 = .slice (some ⟨gP, 0, none⟩) 3 3 ∧
  (g 0 = true → sl ac 21 = .int .i64 nv) ∧
  (g 1 = true → sl ac 22 = .slice (some ⟨gP, 0, none⟩) 3 3) ∧
  (g 2 = true → sl ac 23 = .pointer (some ⟨gP, 1, none⟩)) ∧
  (g 3 = true → sl ac 24 = sv b) ∧
  (g 5 = true → sl ac 26 = .slice (some ⟨gP, 0, none⟩) 3 3) ∧
  (g 6 = true → sl ac 27 = .pointer (some ⟨gP, 2, none⟩)) ∧
  (g 7 = true → sl ac 28 = sv c) ∧
  (g 9 = true → sl ac 30 = .agg #[.int .i64 nv, sl ac 25, sl ac 29]) ∧
  Later w wc ∧
  (g 4 = true → (IsSl (sl ac 25) (LB.length) ∧ sl ac 25 = sl ac 25) ∧ wc.ownsRow w2.heap.size 2 1 (sl ac 25) (LB.length) (nums LB)) ∧
  (g 8 = true → (IsSl (sl ac 29) (LC.length) ∧ sl ac 29 = sl ac 29) ∧ wc.ownsRow w2.heap.size 2 1 (sl ac 29) (LC.length) (nums LC)) ∧
  (g 4 = true → g 8 = true → ∀ q, (sl ac 25).ownBlock = some q → (sl ac 29).ownBlock ≠ some q) ∧
  (g 10 = true → ∃ k, sl ac 7 = .pointer (some ⟨k, 0, none⟩) ∧ w2.heap.size ≤ k ∧ ∃ q10_0 q10_1 q10_2, wc.heap[k]? = some (.cells #[q10_0, q10_1, q10_2] 26 (0, 0)) ∧ (g 11 = true → q10_0 = .int .i64 nv ∧ q10_1 = sl ac 25 ∧ q10_2 = sl ac 29)) ∧
  (g 10 = true → g 4 = true → ∀ k, sl ac 7 = .pointer (some ⟨k, 0, none⟩) → (sl ac 25).ownBlock ≠ some k) ∧
  (g 10 = true → g 8 = true → ∀ k, sl ac 7 = .pointer (some ⟨k, 0, none⟩) → (sl ac 29).ownBlock ≠ some k) ∧
  wc.ownsRow (w.heap.size + 1) 9 1 (.slice (some ⟨gP, 0, none⟩) 3 3) (3) (strs [a, b, c]) ∧
  (g 11 = true → g 10 = true) ∧
  (g 9 = true → g 4 = true) ∧
  (g 9 = true → g 8 = true) ∧
  (g 11 = true → g 4 = true) ∧
  (g 11 = true → g 8 = true) ∧
  w2.heap.size ≤ wc.heap.size ∧
  wc.heap[w.heap.size]? = some (.cells #[.int .i64 0, .slice none 0 0, .slice none 0 0] 26 (0, 0))) (by kernel_rfl) (by kernel_rfl) rfl (by kernel_rfl) ?_ ?_ ?_
 · exact ⟨rfl, rfl, nofun, nofun, nofun, nofun, nofun, nofun, nofun, nofun, HW2.drew, nofun, nofun, nofun, nofun, nofun, nofun, owns_later QP (Later.refl _).drew, nofun, nofun, nofun, nofun, nofun, Nat.le_refl _, K2⟩
 · intro g ac wu hg ha hI
   obtain ⟨x5, x4, i0, i1, i2, i3, i5, i6, i7, i9, hL, p4, p8, d4_8, n10, dn10_4, dn10_8, QP, -, -, -, -, -, hS, B2⟩ := hI
   have AP4_8 := d4_8 (hg 4 (by simp)) (hg 8 (by simp))
   clear d4_8
   obtain ⟨⟨⟨ar4, capr4, f4⟩, e4⟩, HO4⟩ := p4 (hg 4 (by simp))
   clear e4
   have e4 := f4
   rw [f4] at HO4
   obtain ⟨⟨⟨ar8, capr8, f8⟩, e8⟩, HO8⟩ := p8 (hg 8 (by simp))
   clear e8
   have e8 := f8
   rw [f8] at HO8
   have a0 := i0 (hg 0 (by simp))
   have a1 := i1 (hg 1 (by simp))
   have a2 := i2 (hg 2 (by simp))
   have a3 := i3 (hg 3 (by simp))
   have a5 := i5 (hg 5 (by simp))
   have a6 := i6 (hg 6 (by simp))
   have a7 := i7 (hg 7 (by simp))
   have a9 := i9 (hg 9 (by simp))
   rw [e4] at a9
   rw [e8] at a9
   obtain ⟨kr10, e10, br10, q10_0, q10_1, q10_2, Kr10, g10⟩ := n10 (hg 10 (by simp))
   have g10 := g10 (hg 11 (by simp))
   rw [g10.1, g10.2.1, g10.2.2] at Kr10
   clear g10
   rw [f4] at Kr10
   rw [f8] at Kr10
   have NEr10_4 := dn10_4 (hg 10 (by simp)) (hg 4 (by simp)) _ e10
   rw [f4] at NEr10_4
   have NEr10_8 := dn10_8 (hg 10 (by simp)) (hg 8 (by simp)) _ e10
   rw [f8] at NEr10_8
   rw [e4, e8] at AP4_8
   simp only [putAll, e4, e8, a0, a1, a2, a3, a5, a6, a7, a9, e10] at ha
   simp only [Act.put, List.setIfInBounds_toArray, List.set_cons_succ, List.set_cons_zero] at ha
   rw [ha]
   clear x5 x4 i0 i1 i2 i3 i5 i6 i7 i9 a0 a1 a2 a3 a5 a6 a7 a9 p4 p8 e4 e8 f4 f8 e10 n10 dn10_4 dn10_8 hg ha
   have HB4 := Lib.hid HO4
   have HC4 := Lib.hid HO8
   have KR := Lib.hid Kr10
   have KB := Lib.hid B2
   have hzu := hL.size
   have hAP := Lib.hid AP4_8
   clear HO4 HO8 Kr10 B2 AP4_8 QP
   obtain ⟨c2, f2, z2⟩ := blk_at KB.out
   obtain ⟨c7, f7, z7⟩ := blk_at KR.out
   cases nb
   · have HRD := Lib.hid (show rdRule s = none from by rw [rd_3 HP.out, HNB.out]; simp)
     go_wp2
     refine bodyPost_ret (v := .tuple #[.agg #[.int .i64 0, .slice none 0 0, .slice none 0 0], .int .i64 6]) (by simp [results, Tryz.results13, go_sem, c2, z2]) rfl ?_
     exact rd_zero HRD.out (qla)
   cases hr : isRule ⟨nv, LB, LC⟩
   all_goals
    have HR := Lib.hid hr
    clear hr
    go_wp2_with fail
    refine (w_implIsRule nv _ _ LB LC _ (reads_of_owns HB4.out nb1) (reads_of_owns HC4.out nc1)).mono ?_
    rintro e w5 ⟨rfl, hL5⟩
    rw [HR.out]
    have HK6 := Lib.hid (hL5.keep KB.out)
    have HK7 := Lib.hid (hL5.keep KR.out)
    have HB6 := Lib.hid (owns_later HB4.out hL5)
    have HC6 := Lib.hid (owns_later HC4.out hL5)
    have HW5 := hL.trans hL5
    have hz5 := hL5.size
    clear hL5 c2 f2 z2 c7 f7 z7
    obtain ⟨c2, f2, z2⟩ := blk_at HK6.out
    obtain ⟨c7, f7, z7⟩ := blk_at HK7.out
   · have HRD := Lib.hid (show rdRule s = none from by rw [rd_3 HP.out, HLB.out, HLC.out, HNV.out, HR.out]; simp)
     go_wp2
     refine bodyPost_ret (v := .tuple #[.agg #[.int .i64 0, .slice none 0 0, .slice none 0 0], .int .i64 6]) (by simp [results, Tryz.results13, go_sem, c2, z2]) rfl ?_
     exact rd_zero HRD.out (qla)
   · have HRD := Lib.hid (show rdRule s = some ⟨nv, LB, LC⟩ from by rw [rd_3 HP.out, HLB.out, HLC.out, HNV.out, HNB.out, HR.out]; simp)
     go_wp2
     refine bodyPost_ret (v := .tuple #[.agg #[.int .i64 nv, .slice ar4 LB.length capr4, .slice ar8 LC.length capr8], .int .i64 0]) (by simp [results, Tryz.results13, go_sem, c2, z2]) rfl ?_
     refine rd_full (n1 := LB.length) (n2 := LC.length) HRD.out (qla) (owns_base (base := w2.heap.size) ?_ hSB) (owns_base (base := w2.heap.size) ?_ hSB) ?_
     · exact owns_setNe (owns_setNe (owns_setNe HB6.out (fun e => by have := (HB6.out.lt _ e).1; omega) _ _) (fun e => by have := (HB6.out.lt _ e).1; omega) _ _) (fun e => by have := (HB6.out.lt _ e).1; omega) _ _
     · exact owns_setNe (owns_setNe (owns_setNe HC6.out (fun e => by have := (HC6.out.lt _ e).1; omega) _ _) (fun e => by have := (HC6.out.lt _ e).1; omega) _ _) (fun e => by have := (HC6.out.lt _ e).1; omega) _ _
     · exact ap_of hAP.out
 · refine .cons ?_ (.cons ?_ (.cons ?_ (.cons ?_ (.cons ?_ (.cons ?_ (.cons ?_ (.cons ?_ (.cons ?_ (.cons ?_ (.cons ?_ (.cons ?_ .nil)))))))))))
   · refine qst fun g ac wc hn hk hr HI K' hK => ?_
     obtain ⟨x5, x4, i0, i1, i2, i3, i5, i6, i7, i9, hL, p4, p8, d4_8, n10, dn10_4, dn10_8, QP, m11_10, m9_4, m9_8, m11_4, m11_8, hS, B2⟩ := HI.out
     simp [Region.binds] at hr
     clear i0 i1 i2 i3 i5 i6 i7 i9 d4_8 p4 p8 n10 dn10_4 dn10_8 QP
     go_simp
     obtain ⟨-, -, i0, i1, i2, i3, i5, i6, i7, i9, -, p4, p8, d4_8, n10, dn10_4, dn10_8, QP, -⟩ := HI.out
     exact hK.out _ _ ⟨qB x5, qB x4, qP, qF i1, qF i2, qF i3, qF i5, qF i6, qF i7, (fun h => by rw [put_ne (show 30 ≠ 21 by decide), put_ne (show 25 ≠ 21 by decide), put_ne (show 29 ≠ 21 by decide)]; exact i9 h), hL, (fun h => by obtain ⟨⟨hs, hv⟩, ho⟩ := p4 h; exact ⟨⟨by rw [put_ne (show 25 ≠ 21 by decide)]; exact hs, rfl⟩, (by rw [put_ne (show 25 ≠ 21 by decide)]; exact ho)⟩), (fun h => by obtain ⟨⟨hs, hv⟩, ho⟩ := p8 h; exact ⟨⟨by rw [put_ne (show 29 ≠ 21 by decide)]; exact hs, rfl⟩, (by rw [put_ne (show 29 ≠ 21 by decide)]; exact ho)⟩), (fun h h' => by rw [put_ne (show 25 ≠ 21 by decide), put_ne (show 29 ≠ 21 by decide)]; exact d4_8 h h' ), (fun h => by obtain ⟨k, e1, e2, q10_0, q10_1, q10_2, e3, e4⟩ := n10 h; exact ⟨k, (put_ne (by decide)).trans e1, e2, q10_0, q10_1, q10_2, e3, (fun h => by rw [put_ne (show 25 ≠ 21 by decide), put_ne (show 29 ≠ 21 by decide)]; exact e4 h)⟩), (fun h h' k e => by rw [put_ne (show 25 ≠ 21 by decide)]; rw [put_ne (show 7 ≠ 21 by decide)] at e; exact dn10_4 h h' k e), (fun h h' k e => by rw [put_ne (show 29 ≠ 21 by decide)]; rw [put_ne (show 7 ≠ 21 by decide)] at e; exact dn10_8 h h' k e), QP, m11_10, m9_4, m9_8, m11_4, m11_8, hS, B2⟩
   · refine qst fun g ac wc hn hk hr HI K' hK => ?_
     obtain ⟨x5, x4, i0, i1, i2, i3, i5, i6, i7, i9, hL, p4, p8, d4_8, n10, dn10_4, dn10_8, QP, m11_10, m9_4, m9_8, m11_4, m11_8, hS, B2⟩ := HI.out
     simp [Region.binds] at hr
     clear i0 i1 i2 i3 i5 i6 i7 i9 d4_8 p4 p8 n10 dn10_4 dn10_8 QP
     go_simp
     obtain ⟨-, -, i0, i1, i2, i3, i5, i6, i7, i9, -, p4, p8, d4_8, n10, dn10_4, dn10_8, QP, -⟩ := HI.out
     exact hK.out _ _ ⟨qB x5, qB x4, qF i0, qP, qF i2, qF i3, qF i5, qF i6, qF i7, (fun h => by rw [put_ne (show 30 ≠ 22 by decide), put_ne (show 25 ≠ 22 by decide), put_ne (show 29 ≠ 22 by decide)]; exact i9 h), hL, (fun h => by obtain ⟨⟨hs, hv⟩, ho⟩ := p4 h; exact ⟨⟨by rw [put_ne (show 25 ≠ 22 by decide)]; exact hs, rfl⟩, (by rw [put_ne (show 25 ≠ 22 by decide)]; exact ho)⟩), (fun h => by obtain ⟨⟨hs, hv⟩, ho⟩ := p8 h; exact ⟨⟨by rw [put_ne (show 29 ≠ 22 by decide)]; exact hs, rfl⟩, (by rw [put_ne (show 29 ≠ 22 by decide)]; exact ho)⟩), (fun h h' => by rw [put_ne (show 25 ≠ 22 by decide), put_ne (show 29 ≠ 22 by decide)]; exact d4_8 h h' ), (fun h => by obtain ⟨k, e1, e2, q10_0, q10_1, q10_2, e3, e4⟩ := n10 h; exact ⟨k, (put_ne (by decide)).trans e1, e2, q10_0, q10_1, q10_2, e3, (fun h => by rw [put_ne (show 25 ≠ 22 by decide), put_ne (show 29 ≠ 22 by decide)]; exact e4 h)⟩), (fun h h' k e => by rw [put_ne (show 25 ≠ 22 by decide)]; rw [put_ne (show 7 ≠ 22 by decide)] at e; exact dn10_4 h h' k e), (fun h h' k e => by rw [put_ne (show 29 ≠ 22 by decide)]; rw [put_ne (show 7 ≠ 22 by decide)] at e; exact dn10_8 h h' k e), QP, m11_10, m9_4, m9_8, m11_4, m11_8, hS, B2⟩
   · refine qst fun g ac wc hn hk hr HI K' hK => ?_
     obtain ⟨x5, x4, i0, i1, i2, i3, i5, i6, i7, i9, hL, p4, p8, d4_8, n10, dn10_4, dn10_8, QP, m11_10, m9_4, m9_8, m11_4, m11_8, hS, B2⟩ := HI.out
     simp [Region.binds] at hr
     have y1 := i1 (by simp [hr])
     have z1 := sl_get y1 (by omega)
     clear i0 i1 i2 i3 i5 i6 i7 i9 d4_8 p4 p8 n10 dn10_4 dn10_8 QP
     go_simp
     obtain ⟨-, -, i0, i1, i2, i3, i5, i6, i7, i9, -, p4, p8, d4_8, n10, dn10_4, dn10_8, QP, -⟩ := HI.out
     exact hK.out _ _ ⟨qB x5, qB x4, qF i0, qF i1, qP, qF i3, qF i5, qF i6, qF i7, (fun h => by rw [put_ne (show 30 ≠ 23 by decide), put_ne (show 25 ≠ 23 by decide), put_ne (show 29 ≠ 23 by decide)]; exact i9 h), hL, (fun h => by obtain ⟨⟨hs, hv⟩, ho⟩ := p4 h; exact ⟨⟨by rw [put_ne (show 25 ≠ 23 by decide)]; exact hs, rfl⟩, (by rw [put_ne (show 25 ≠ 23 by decide)]; exact ho)⟩), (fun h => by obtain ⟨⟨hs, hv⟩, ho⟩ := p8 h; exact ⟨⟨by rw [put_ne (show 29 ≠ 23 by decide)]; exact hs, rfl⟩, (by rw [put_ne (show 29 ≠ 23 by decide)]; exact ho)⟩), (fun h h' => by rw [put_ne (show 25 ≠ 23 by decide), put_ne (show 29 ≠ 23 by decide)]; exact d4_8 h h' ), (fun h => by obtain ⟨k, e1, e2, q10_0, q10_1, q10_2, e3, e4⟩ := n10 h; exact ⟨k, (put_ne (by decide)).trans e1, e2, q10_0, q10_1, q10_2, e3, (fun h => by rw [put_ne (show 25 ≠ 23 by decide), put_ne (show 29 ≠ 23 by decide)]; exact e4 h)⟩), (fun h h' k e => by rw [put_ne (show 25 ≠ 23 by decide)]; rw [put_ne (show 7 ≠ 23 by decide)] at e; exact dn10_4 h h' k e), (fun h h' k e => by rw [put_ne (show 29 ≠ 23 by decide)]; rw [put_ne (show 7 ≠ 23 by decide)] at e; exact dn10_8 h h' k e), QP, m11_10, m9_4, m9_8, m11_4, m11_8, hS, B2⟩
   · refine qst fun g ac wc hn hk hr HI K' hK => ?_
     obtain ⟨x5, x4, i0, i1, i2, i3, i5, i6, i7, i9, hL, p4, p8, d4_8, n10, dn10_4, dn10_8, QP, m11_10, m9_4, m9_8, m11_4, m11_8, hS, B2⟩ := HI.out
     simp [Region.binds] at hr
     have y2 := i2 (by simp [hr])
     have z2 := sl_get y2 (by omega)
     replace i0 := Lib.hid i0
     replace i1 := Lib.hid i1
     replace i2 := Lib.hid i2
     replace i3 := Lib.hid i3
     replace i5 := Lib.hid i5
     replace i6 := Lib.hid i6
     replace i7 := Lib.hid i7
     replace i9 := Lib.hid i9
     replace d4_8 := Lib.hid d4_8
     replace p4 := Lib.hid p4
     replace p8 := Lib.hid p8
     replace n10 := Lib.hid n10
     replace dn10_4 := Lib.hid dn10_4
     replace dn10_8 := Lib.hid dn10_8
     replace QP := Lib.hid QP
     have cN := row_add QP.out 1 _ (show (strs [a, b, c])[1]? = some (sv b) from rfl)
     rw [addr0] at cN
     go_simp
     exact hK.out _ _ ⟨qB x5, qB x4, qF i0.out, qF i1.out, qF i2.out, qP, qF i5.out, qF i6.out, qF i7.out, (fun h => by rw [put_ne (show 30 ≠ 24 by decide), put_ne (show 25 ≠ 24 by decide), put_ne (show 29 ≠ 24 by decide)]; exact i9.out h), hL, (fun h => by obtain ⟨⟨hs, hv⟩, ho⟩ := p4.out h; exact ⟨⟨by rw [put_ne (show 25 ≠ 24 by decide)]; exact hs, rfl⟩, (by rw [put_ne (show 25 ≠ 24 by decide)]; exact ho)⟩), (fun h => by obtain ⟨⟨hs, hv⟩, ho⟩ := p8.out h; exact ⟨⟨by rw [put_ne (show 29 ≠ 24 by decide)]; exact hs, rfl⟩, (by rw [put_ne (show 29 ≠ 24 by decide)]; exact ho)⟩), (fun h h' => by rw [put_ne (show 25 ≠ 24 by decide), put_ne (show 29 ≠ 24 by decide)]; exact d4_8.out h h' ), (fun h => by obtain ⟨k, e1, e2, q10_0, q10_1, q10_2, e3, e4⟩ := n10.out h; exact ⟨k, (put_ne (by decide)).trans e1, e2, q10_0, q10_1, q10_2, e3, (fun h => by rw [put_ne (show 25 ≠ 24 by decide), put_ne (show 29 ≠ 24 by decide)]; exact e4 h)⟩), (fun h h' k e => by rw [put_ne (show 25 ≠ 24 by decide)]; rw [put_ne (show 7 ≠ 24 by decide)] at e; exact dn10_4.out h h' k e), (fun h h' k e => by rw [put_ne (show 29 ≠ 24 by decide)]; rw [put_ne (show 7 ≠ 24 by decide)] at e; exact dn10_8.out h h' k e), QP.out, m11_10, m9_4, m9_8, m11_4, m11_8, hS, B2⟩
   · refine qst fun g ac wc hn hk hr HI K' hK => ?_
     obtain ⟨x5, x4, i0, i1, i2, i3, i5, i6, i7, i9, hL, p4, p8, d4_8, n10, dn10_4, dn10_8, QP, m11_10, m9_4, m9_8, m11_4, m11_8, hS, B2⟩ := HI.out
     simp [Region.binds] at hr
     have y3 := i3 (by simp [hr])
     clear i0 i1 i2 i3 i5 i6 i7 i9 d4_8 p4 p8 n10 dn10_4 dn10_8 QP
     go_simp
     refine (w_readNames b (by omega) _ (HE.out.later hL)).mono ?_
     rintro e w4 ⟨a4, l4, c4, rfl, hL4, ho4⟩
     rw [HLB.out] at ho4
     obtain ⟨a5, c5, e5⟩ := isSl_of ho4
     simp only [Value.slice.injEq] at e5
     obtain ⟨rfl, rfl, rfl⟩ := e5
     obtain ⟨-, -, i0, i1, i2, i3, i5, i6, i7, i9, -, p4, p8, d4_8, n10, dn10_4, dn10_8, QP, -⟩ := HI.out
     exact hK.out _ _ ⟨qB x5, qB x4, qF i0, qF i1, qF i2, qF i3, qF i5, qF i6, qF i7, (fun h => absurd (m9_4 h) (by rw [hk]; simp)), hL.trans hL4, (fun _ => ⟨⟨by rw [put_eq (by omega)]; exact ⟨_, _, rfl⟩, rfl⟩, by rw [put_eq (by omega)]; exact owns_base ho4 hS⟩), (fun h => by obtain ⟨⟨hs, hv⟩, ho⟩ := p8 h; exact ⟨⟨by rw [put_ne (show 29 ≠ 25 by decide)]; exact hs, rfl⟩, (by rw [put_ne (show 29 ≠ 25 by decide)]; exact (owns_later ho hL4))⟩), (fun h h' q hq => by rw [put_eq (by omega)] at hq; rw [put_ne (show 29 ≠ 25 by decide)]; have ho := (p8 h').2; intro e; have h8 := ho.lt q e; have h9 := (ho4.lt q hq).1; omega), (fun h => by obtain ⟨k, e1, e2, q10_0, q10_1, q10_2, e3, e4⟩ := n10 h; exact ⟨k, (put_ne (by decide)).trans e1, e2, q10_0, q10_1, q10_2, hL4.keep e3, (fun h => absurd (m11_4 h) (by rw [hk]; simp))⟩), (fun h h' k e => by rw [put_ne (show 7 ≠ 25 by decide)] at e; rw [put_eq (by omega)]; obtain ⟨k2, e1, e2, q10_0, q10_1, q10_2, e3, -⟩ := n10 h; have e5 := e.symm.trans e1; simp only [Value.pointer.injEq, Option.some.injEq, Addr.mk.injEq, and_true] at e5; subst e5; intro e6; have h7 := (ho4.lt _ e6).1; have h8 := (Array.getElem?_eq_some_iff.1 e3).1; omega), (fun h h' k e => by rw [put_ne (show 29 ≠ 25 by decide)]; rw [put_ne (show 7 ≠ 25 by decide)] at e; exact dn10_8 h h' k e), (owns_later QP hL4), m11_10, (fun _ => rfl), m9_8, (fun _ => rfl), m11_8, Nat.le_trans hS hL4.size, (hL4.keep B2)⟩
   · refine qst fun g ac wc hn hk hr HI K' hK => ?_
     obtain ⟨x5, x4, i0, i1, i2, i3, i5, i6, i7, i9, hL, p4, p8, d4_8, n10, dn10_4, dn10_8, QP, m11_10, m9_4, m9_8, m11_4, m11_8, hS, B2⟩ := HI.out
     simp [Region.binds] at hr
     clear i0 i1 i2 i3 i5 i6 i7 i9 d4_8 p4 p8 n10 dn10_4 dn10_8 QP
     go_simp
     obtain ⟨-, -, i0, i1, i2, i3, i5, i6, i7, i9, -, p4, p8, d4_8, n10, dn10_4, dn10_8, QP, -⟩ := HI.out
     exact hK.out _ _ ⟨qB x5, qB x4, qF i0, qF i1, qF i2, qF i3, qP, qF i6, qF i7, (fun h => by rw [put_ne (show 30 ≠ 26 by decide), put_ne (show 25 ≠ 26 by decide), put_ne (show 29 ≠ 26 by decide)]; exact i9 h), hL, (fun h => by obtain ⟨⟨hs, hv⟩, ho⟩ := p4 h; exact ⟨⟨by rw [put_ne (show 25 ≠ 26 by decide)]; exact hs, rfl⟩, (by rw [put_ne (show 25 ≠ 26 by decide)]; exact ho)⟩), (fun h => by obtain ⟨⟨hs, hv⟩, ho⟩ := p8 h; exact ⟨⟨by rw [put_ne (show 29 ≠ 26 by decide)]; exact hs, rfl⟩, (by rw [put_ne (show 29 ≠ 26 by decide)]; exact ho)⟩), (fun h h' => by rw [put_ne (show 25 ≠ 26 by decide), put_ne (show 29 ≠ 26 by decide)]; exact d4_8 h h' ), (fun h => by obtain ⟨k, e1, e2, q10_0, q10_1, q10_2, e3, e4⟩ := n10 h; exact ⟨k, (put_ne (by decide)).trans e1, e2, q10_0, q10_1, q10_2, e3, (fun h => by rw [put_ne (show 25 ≠ 26 by decide), put_ne (show 29 ≠ 26 by decide)]; exact e4 h)⟩), (fun h h' k e => by rw [put_ne (show 25 ≠ 26 by decide)]; rw [put_ne (show 7 ≠ 26 by decide)] at e; exact dn10_4 h h' k e), (fun h h' k e => by rw [put_ne (show 29 ≠ 26 by decide)]; rw [put_ne (show 7 ≠ 26 by decide)] at e; exact dn10_8 h h' k e), QP, m11_10, m9_4, m9_8, m11_4, m11_8, hS, B2⟩
   · refine qst fun g ac wc hn hk hr HI K' hK => ?_
     obtain ⟨x5, x4, i0, i1, i2, i3, i5, i6, i7, i9, hL, p4, p8, d4_8, n10, dn10_4, dn10_8, QP, m11_10, m9_4, m9_8, m11_4, m11_8, hS, B2⟩ := HI.out
     simp [Region.binds] at hr
     have y5 := i5 (by simp [hr])
     have z5 := sl_get y5 (by omega)
     clear i0 i1 i2 i3 i5 i6 i7 i9 d4_8 p4 p8 n10 dn10_4 dn10_8 QP
     go_simp
     obtain ⟨-, -, i0, i1, i2, i3, i5, i6, i7, i9, -, p4, p8, d4_8, n10, dn10_4, dn10_8, QP, -⟩ := HI.out
     exact hK.out _ _ ⟨qB x5, qB x4, qF i0, qF i1, qF i2, qF i3, qF i5, qP, qF i7, (fun h => by rw [put_ne (show 30 ≠ 27 by decide), put_ne (show 25 ≠ 27 by decide), put_ne (show 29 ≠ 27 by decide)]; exact i9 h), hL, (fun h => by obtain ⟨⟨hs, hv⟩, ho⟩ := p4 h; exact ⟨⟨by rw [put_ne (show 25 ≠ 27 by decide)]; exact hs, rfl⟩, (by rw [put_ne (show 25 ≠ 27 by decide)]; exact ho)⟩), (fun h => by obtain ⟨⟨hs, hv⟩, ho⟩ := p8 h; exact ⟨⟨by rw [put_ne (show 29 ≠ 27 by decide)]; exact hs, rfl⟩, (by rw [put_ne (show 29 ≠ 27 by decide)]; exact ho)⟩), (fun h h' => by rw [put_ne (show 25 ≠ 27 by decide), put_ne (show 29 ≠ 27 by decide)]; exact d4_8 h h' ), (fun h => by obtain ⟨k, e1, e2, q10_0, q10_1, q10_2, e3, e4⟩ := n10 h; exact ⟨k, (put_ne (by decide)).trans e1, e2, q10_0, q10_1, q10_2, e3, (fun h => by rw [put_ne (show 25 ≠ 27 by decide), put_ne (show 29 ≠ 27 by decide)]; exact e4 h)⟩), (fun h h' k e => by rw [put_ne (show 25 ≠ 27 by decide)]; rw [put_ne (show 7 ≠ 27 by decide)] at e; exact dn10_4 h h' k e), (fun h h' k e => by rw [put_ne (show 29 ≠ 27 by decide)]; rw [put_ne (show 7 ≠ 27 by decide)] at e; exact dn10_8 h h' k e), QP, m11_10, m9_4, m9_8, m11_4, m11_8, hS, B2⟩
   · refine qst fun g ac wc hn hk hr HI K' hK => ?_
     obtain ⟨x5, x4, i0, i1, i2, i3, i5, i6, i7, i9, hL, p4, p8, d4_8, n10, dn10_4, dn10_8, QP, m11_10, m9_4, m9_8, m11_4, m11_8, hS, B2⟩ := HI.out
     simp [Region.binds] at hr
     have y6 := i6 (by simp [hr])
     have z6 := sl_get y6 (by omega)
     replace i0 := Lib.hid i0
     replace i1 := Lib.hid i1
     replace i2 := Lib.hid i2
     replace i3 := Lib.hid i3
     replace i5 := Lib.hid i5
     replace i6 := Lib.hid i6
     replace i7 := Lib.hid i7
     replace i9 := Lib.hid i9
     replace d4_8 := Lib.hid d4_8
     replace p4 := Lib.hid p4
     replace p8 := Lib.hid p8
     replace n10 := Lib.hid n10
     replace dn10_4 := Lib.hid dn10_4
     replace dn10_8 := Lib.hid dn10_8
     replace QP := Lib.hid QP
     have cN := row_add QP.out 2 _ (show (strs [a, b, c])[2]? = some (sv c) from rfl)
     rw [addr0] at cN
     go_simp
     exact hK.out _ _ ⟨qB x5, qB x4, qF i0.out, qF i1.out, qF i2.out, qF i3.out, qF i5.out, qF i6.out, qP, (fun h => by rw [put_ne (show 30 ≠ 28 by decide), put_ne (show 25 ≠ 28 by decide), put_ne (show 29 ≠ 28 by decide)]; exact i9.out h), hL, (fun h => by obtain ⟨⟨hs, hv⟩, ho⟩ := p4.out h; exact ⟨⟨by rw [put_ne (show 25 ≠ 28 by decide)]; exact hs, rfl⟩, (by rw [put_ne (show 25 ≠ 28 by decide)]; exact ho)⟩), (fun h => by obtain ⟨⟨hs, hv⟩, ho⟩ := p8.out h; exact ⟨⟨by rw [put_ne (show 29 ≠ 28 by decide)]; exact hs, rfl⟩, (by rw [put_ne (show 29 ≠ 28 by decide)]; exact ho)⟩), (fun h h' => by rw [put_ne (show 25 ≠ 28 by decide), put_ne (show 29 ≠ 28 by decide)]; exact d4_8.out h h' ), (fun h => by obtain ⟨k, e1, e2, q10_0, q10_1, q10_2, e3, e4⟩ := n10.out h; exact ⟨k, (put_ne (by decide)).trans e1, e2, q10_0, q10_1, q10_2, e3, (fun h => by rw [put_ne (show 25 ≠ 28 by decide), put_ne (show 29 ≠ 28 by decide)]; exact e4 h)⟩), (fun h h' k e => by rw [put_ne (show 25 ≠ 28 by decide)]; rw [put_ne (show 7 ≠ 28 by decide)] at e; exact dn10_4.out h h' k e), (fun h h' k e => by rw [put_ne (show 29 ≠ 28 by decide)]; rw [put_ne (show 7 ≠ 28 by decide)] at e; exact dn10_8.out h h' k e), QP.out, m11_10, m9_4, m9_8, m11_4, m11_8, hS, B2⟩
   · refine qst fun g ac wc hn hk hr HI K' hK => ?_
     obtain ⟨x5, x4, i0, i1, i2, i3, i5, i6, i7, i9, hL, p4, p8, d4_8, n10, dn10_4, dn10_8, QP, m11_10, m9_4, m9_8, m11_4, m11_8, hS, B2⟩ := HI.out
     simp [Region.binds] at hr
     have y7 := i7 (by simp [hr])
     clear i0 i1 i2 i3 i5 i6 i7 i9 d4_8 p4 p8 n10 dn10_4 dn10_8 QP
     go_simp
     refine (w_readNames c (by omega) _ (HE.out.later hL)).mono ?_
     rintro e w4 ⟨a4, l4, c4, rfl, hL4, ho4⟩
     rw [HLC.out] at ho4
     obtain ⟨a5, c5, e5⟩ := isSl_of ho4
     simp only [Value.slice.injEq] at e5
     obtain ⟨rfl, rfl, rfl⟩ := e5
     obtain ⟨-, -, i0, i1, i2, i3, i5, i6, i7, i9, -, p4, p8, d4_8, n10, dn10_4, dn10_8, QP, -⟩ := HI.out
     exact hK.out _ _ ⟨qB x5, qB x4, qF i0, qF i1, qF i2, qF i3, qF i5, qF i6, qF i7, (fun h => absurd (m9_8 h) (by rw [hk]; simp)), hL.trans hL4, (fun h => by obtain ⟨⟨hs, hv⟩, ho⟩ := p4 h; exact ⟨⟨by rw [put_ne (show 25 ≠ 29 by decide)]; exact hs, rfl⟩, (by rw [put_ne (show 25 ≠ 29 by decide)]; exact (owns_later ho hL4))⟩), (fun _ => ⟨⟨by rw [put_eq (by omega)]; exact ⟨_, _, rfl⟩, rfl⟩, by rw [put_eq (by omega)]; exact owns_base ho4 hS⟩), (fun h h' q hq => by rw [put_ne (show 25 ≠ 29 by decide)] at hq; rw [put_eq (by omega)]; have ho := (p4 h).2; have h8 := ho.lt q hq; intro e; have h9 := (ho4.lt q e).1; omega), (fun h => by obtain ⟨k, e1, e2, q10_0, q10_1, q10_2, e3, e4⟩ := n10 h; exact ⟨k, (put_ne (by decide)).trans e1, e2, q10_0, q10_1, q10_2, hL4.keep e3, (fun h => absurd (m11_8 h) (by rw [hk]; simp))⟩), (fun h h' k e => by rw [put_ne (show 25 ≠ 29 by decide)]; rw [put_ne (show 7 ≠ 29 by decide)] at e; exact dn10_4 h h' k e), (fun h h' k e => by rw [put_ne (show 7 ≠ 29 by decide)] at e; rw [put_eq (by omega)]; obtain ⟨k2, e1, e2, q10_0, q10_1, q10_2, e3, -⟩ := n10 h; have e5 := e.symm.trans e1; simp only [Value.pointer.injEq, Option.some.injEq, Addr.mk.injEq, and_true] at e5; subst e5; intro e6; have h7 := (ho4.lt _ e6).1; have h8 := (Array.getElem?_eq_some_iff.1 e3).1; omega), (owns_later QP hL4), m11_10, m9_4, (fun _ => rfl), m11_4, (fun _ => rfl), Nat.le_trans hS hL4.size, (hL4.keep B2)⟩
   · refine qst fun g ac wc hn hk hr HI K' hK => ?_
     obtain ⟨x5, x4, i0, i1, i2, i3, i5, i6, i7, i9, hL, p4, p8, d4_8, n10, dn10_4, dn10_8, QP, m11_10, m9_4, m9_8, m11_4, m11_8, hS, B2⟩ := HI.out
     simp [Region.binds] at hr
     have y0 := i0 (by simp [hr])
     have gm4 : g 4 = true := by first | exact m9_4 (by simp [hr]) | exact hr | exact hr.1 | exact hr.2 | exact hr.2.1 | simp [hr]
     have gm8 : g 8 = true := by first | exact m9_8 (by simp [hr]) | exact hr | exact hr.1 | exact hr.2 | exact hr.2.1 | simp [hr]
     obtain ⟨⟨⟨aa4, cc4, ff4⟩, y4⟩, ho4⟩ := p4 (by simp [hr])
     clear y4
     have y4 := ff4
     rw [ff4] at ho4
     have z4 := sl_get y4 (by omega)
     obtain ⟨⟨⟨aa8, cc8, ff8⟩, y8⟩, ho8⟩ := p8 (by simp [hr])
     clear y8
     have y8 := ff8
     rw [ff8] at ho8
     have z8 := sl_get y8 (by omega)
     have z0 := sl_get y0 (by omega)
     clear i0 i1 i2 i3 i5 i6 i7 i9 d4_8 p4 p8 n10 dn10_4 dn10_8 QP
     go_simp
     obtain ⟨-, -, i0, i1, i2, i3, i5, i6, i7, i9, -, p4, p8, d4_8, n10, dn10_4, dn10_8, QP, -⟩ := HI.out
     exact hK.out _ _ ⟨qB x5, qB x4, qF i0, qF i1, qF i2, qF i3, qF i5, qF i6, qF i7, (fun _ => by rw [put_ne (show 25 ≠ 30 by decide), y4, put_ne (show 29 ≠ 30 by decide), y8]; exact put_eq (a := ac) (i := 30) (by omega)), hL, (fun h => by obtain ⟨⟨hs, hv⟩, ho⟩ := p4 h; exact ⟨⟨by rw [put_ne (show 25 ≠ 30 by decide)]; exact hs, rfl⟩, (by rw [put_ne (show 25 ≠ 30 by decide)]; exact ho)⟩), (fun h => by obtain ⟨⟨hs, hv⟩, ho⟩ := p8 h; exact ⟨⟨by rw [put_ne (show 29 ≠ 30 by decide)]; exact hs, rfl⟩, (by rw [put_ne (show 29 ≠ 30 by decide)]; exact ho)⟩), (fun h h' => by rw [put_ne (show 25 ≠ 30 by decide), put_ne (show 29 ≠ 30 by decide)]; exact d4_8 h h' ), (fun h => by obtain ⟨k, e1, e2, q10_0, q10_1, q10_2, e3, e4⟩ := n10 h; exact ⟨k, (put_ne (by decide)).trans e1, e2, q10_0, q10_1, q10_2, e3, (fun h => by rw [put_ne (show 25 ≠ 30 by decide), put_ne (show 29 ≠ 30 by decide)]; exact e4 h)⟩), (fun h h' k e => by rw [put_ne (show 25 ≠ 30 by decide)]; rw [put_ne (show 7 ≠ 30 by decide)] at e; exact dn10_4 h h' k e), (fun h h' k e => by rw [put_ne (show 29 ≠ 30 by decide)]; rw [put_ne (show 7 ≠ 30 by decide)] at e; exact dn10_8 h h' k e), QP, m11_10, (fun _ => gm4), (fun _ => gm8), m11_4, m11_8, hS, B2⟩
   · refine qst fun g ac wc hn hk hr HI K' hK => ?_
     obtain ⟨x5, x4, i0, i1, i2, i3, i5, i6, i7, i9, hL, p4, p8, d4_8, n10, dn10_4, dn10_8, QP, m11_10, m9_4, m9_8, m11_4, m11_8, hS, B2⟩ := HI.out
     simp [Region.binds] at hr
     clear i0 i1 i2 i3 i5 i6 i7 i9 d4_8 p4 p8 n10 dn10_4 dn10_8 QP
     go_simp
     have hL4 := (Later.refl wc).alloc (.cells #[.int .i64 0, .slice none 0 0, .slice none 0 0] 26)
     obtain ⟨-, -, i0, i1, i2, i3, i5, i6, i7, i9, -, p4, p8, d4_8, n10, dn10_4, dn10_8, QP, -⟩ := HI.out
     exact hK.out _ _ ⟨qB x5, qB x4, qF i0, qF i1, qF i2, qF i3, qF i5, qF i6, qF i7, (fun h => by rw [put_ne (show 30 ≠ 7 by decide), put_ne (show 25 ≠ 7 by decide), put_ne (show 29 ≠ 7 by decide)]; exact i9 h), hL.alloc _, (fun h => by obtain ⟨⟨hs, hv⟩, ho⟩ := p4 h; exact ⟨⟨by rw [put_ne (show 25 ≠ 7 by decide)]; exact hs, rfl⟩, (by rw [put_ne (show 25 ≠ 7 by decide)]; exact (owns_later ho hL4))⟩), (fun h => by obtain ⟨⟨hs, hv⟩, ho⟩ := p8 h; exact ⟨⟨by rw [put_ne (show 29 ≠ 7 by decide)]; exact hs, rfl⟩, (by rw [put_ne (show 29 ≠ 7 by decide)]; exact (owns_later ho hL4))⟩), (fun h h' => by rw [put_ne (show 25 ≠ 7 by decide), put_ne (show 29 ≠ 7 by decide)]; exact d4_8 h h' ), (fun _ => ⟨_, put_eq (by omega), hS, _, _, _, heap_alloc_new _ _, fun h => absurd (m11_10 h) (by rw [hk]; simp)⟩), (fun h h' k e => by rw [put_ne (show 25 ≠ 7 by decide)]; rw [put_eq (by omega)] at e; simp only [Value.pointer.injEq, Option.some.injEq, Addr.mk.injEq, and_true] at e; subst e; intro e2; have ho := (p4 h').2; have := (ho.lt _ e2).2; omega), (fun h h' k e => by rw [put_ne (show 29 ≠ 7 by decide)]; rw [put_eq (by omega)] at e; simp only [Value.pointer.injEq, Option.some.injEq, Addr.mk.injEq, and_true] at e; subst e; intro e2; have ho := (p8 h').2; have := (ho.lt _ e2).2; omega), (owns_later QP hL4), (fun _ => rfl), m9_4, m9_8, m11_4, m11_8, (by simp; omega), (hL4.keep B2)⟩
   · refine qst fun g ac wc hn hk hr HI K' hK => ?_
     obtain ⟨x5, x4, i0, i1, i2, i3, i5, i6, i7, i9, hL, p4, p8, d4_8, n10, dn10_4, dn10_8, QP, m11_10, m9_4, m9_8, m11_4, m11_8, hS, B2⟩ := HI.out
     simp [Region.binds] at hr
     have y9 := i9 (by simp [hr])
     have gm10 : g 10 = true := by first | exact m11_10 (by simp [hr]) | exact hr | exact hr.1 | exact hr.2 | exact hr.2.1 | simp [hr]
     have gm4 : g 4 = true := by first | exact m11_4 (by simp [hr]) | exact hr | exact hr.1 | exact hr.2 | exact hr.2.1 | simp [hr]
     have gm8 : g 8 = true := by first | exact m11_8 (by simp [hr]) | exact hr | exact hr.1 | exact hr.2 | exact hr.2.1 | simp [hr]
     replace i0 := Lib.hid i0
     replace i1 := Lib.hid i1
     replace i2 := Lib.hid i2
     replace i3 := Lib.hid i3
     replace i5 := Lib.hid i5
     replace i6 := Lib.hid i6
     replace i7 := Lib.hid i7
     replace i9 := Lib.hid i9
     replace d4_8 := Lib.hid d4_8
     replace p4 := Lib.hid p4
     replace p8 := Lib.hid p8
     replace n10 := Lib.hid n10
     replace dn10_4 := Lib.hid dn10_4
     replace dn10_8 := Lib.hid dn10_8
     replace QP := Lib.hid QP
     obtain ⟨k, e1, e2, q10_0, q10_1, q10_2, e3, -⟩ := n10.out gm10
     obtain ⟨c0, f0, z0⟩ := blk_at e3
     have ze := sl_get e1 (by omega)
     obtain ⟨⟨⟨aa, cc, yy4⟩, -⟩, -⟩ := p4.out gm4
     rw [yy4] at y9
     obtain ⟨⟨⟨aa, cc, yy8⟩, -⟩, -⟩ := p8.out gm8
     rw [yy8] at y9
     have z9 := sl_get y9 (by omega)
     go_simp
     have NEs4 := fun h => dn10_4.out gm10 h k e1
     have NEs8 := fun h => dn10_8.out gm10 h k e1
     exact hK.out undef _ ⟨x5, x4, i0.out, i1.out, i2.out, i3.out, i5.out, i6.out, i7.out, i9.out, (((hL.setCell (show w.heap.size ≤ k by omega) _).setCell (show w.heap.size ≤ k by omega) _).setCell (show w.heap.size ≤ k by omega) _), (fun h => by obtain ⟨⟨hs, hv⟩, ho⟩ := p4.out h; exact ⟨⟨hs, rfl⟩, (owns_setNe (owns_setNe (owns_setNe ho (NEs4 h) _ _) (NEs4 h) _ _) (NEs4 h) _ _)⟩), (fun h => by obtain ⟨⟨hs, hv⟩, ho⟩ := p8.out h; exact ⟨⟨hs, rfl⟩, (owns_setNe (owns_setNe (owns_setNe ho (NEs8 h) _ _) (NEs8 h) _ _) (NEs8 h) _ _)⟩), d4_8.out, (fun _ => ⟨k, e1, e2, _, _, _, three_set e3 _ _ _, fun _ => ⟨rfl, yy4.symm, yy8.symm⟩⟩), dn10_4.out, dn10_8.out, (owns_setNe (owns_setNe (owns_setNe QP.out (fun e => by have := NBP _ e; omega) _ _) (fun e => by have := NBP _ e; omega) _ _) (fun e => by have := NBP _ e; omega) _ _), (fun _ => gm10), m9_4, m9_8, (fun _ => gm4), (fun _ => gm8), (by simp; omega), (other_set (other_set (other_set B2 (by omega) _) (by omega) _) (by omega) _)⟩
end Go.Proofs.YtgngbdacejghcaaGreatDoor
