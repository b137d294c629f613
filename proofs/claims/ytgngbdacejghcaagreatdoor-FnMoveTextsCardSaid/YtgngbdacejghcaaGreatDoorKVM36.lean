/- DERIVED. Walks: one move, the reference's. -/
import Derived.Test.YtgngbdacejghcaaGreatDoorKVM35
namespace Go.Proofs.YtgngbdacejghcaaGreatDoor
set_option linter.unusedVariables false
set_option linter.unusedSimpArgs false
open Go.RowKit
set_option maxRecDepth 100000
set_option maxHeartbeats 4000000 in
theorem w_specMv0 (n : Int) (u v : Value) (st sd : List Int) (a b s d t : Int) (w : World) (h : IsNums w u st) (h' : IsNums w v sd) (hs : isStg ⟨a, b⟩ = true) (s1 : 0 ≤ s) (s2 : s ≤ 4) (hf : isFig ⟨d, t⟩ = true) :
 Calls Tryz.prog 90 #[.agg #[.int .i64 n, u, v], .agg #[.int .i64 a, .int .i64 b], .agg #[.int .i64 0, .int .i64 s, .int .i64 d, .int .i64 t]] w fun e w' => e = .returned (.tuple #[.agg #[.int .i64 (mvS ⟨n, st, sd⟩ ⟨a, b⟩ ⟨0, s, ⟨d, t⟩⟩).sh, .int .i64 (mvS ⟨n, st, sd⟩ ⟨a, b⟩ ⟨0, s, ⟨d, t⟩⟩).cu], .bool (mvOk ⟨n, st, sd⟩ ⟨a, b⟩ ⟨0, s, ⟨d, t⟩⟩)]) ∧ Later w w' := by
 have hsb := isStg_bd hs
 simp only at hsb
 obtain ⟨a1, a2, b1, b2⟩ := hsb
 clear hs
 have hfb := isFig_true hf
 simp only at hfb
 obtain ⟨t1, t2, t3, t4⟩ := hfb
 clear hf
 have hp := ptF_bd (s := s) (f := ⟨d, t⟩) t1 t2
 obtain ⟨PT, hPT⟩ : ∃ PT, ptF s ⟨d, t⟩ = PT := ⟨_, rfl⟩
 rw [hPT] at hp
 obtain ⟨p1, p2⟩ := hp
 obtain ⟨Hb, hHb⟩ : ∃ Hb, hasI st s = Hb := ⟨_, rfl⟩
 have hon : mvOn ⟨n, st, sd⟩ ⟨0, s, ⟨d, t⟩⟩ = Hb := hHb
 have hF0 := Lib.hid (show Hb = false → mvS ⟨n, st, sd⟩ ⟨a, b⟩ ⟨0, s, ⟨d, t⟩⟩ = ⟨0, 0⟩ ∧ mvOk ⟨n, st, sd⟩ ⟨a, b⟩ ⟨0, s, ⟨d, t⟩⟩ = false from fun e => by rw [mvS, mvOk, hon, e]; exact ⟨rfl, rfl⟩)
 have hF1 := Lib.hid (show Hb = true → mvS ⟨n, st, sd⟩ ⟨a, b⟩ ⟨0, s, ⟨d, t⟩⟩ = ⟨a, PT⟩ ∧ mvOk ⟨n, st, sd⟩ ⟨a, b⟩ ⟨0, s, ⟨d, t⟩⟩ = isStg ⟨a, PT⟩ from fun e => by rw [mvS, mvOk, hon, e, ← hPT]; exact ⟨rfl, rfl⟩)
 have HPT := Lib.hid hPT
 have HH := Lib.hid hHb
 have H := Lib.hid h
 have H' := Lib.hid h'
 obtain ⟨_, _, au, capu, rfl, _, _, _⟩ := h
 obtain ⟨_, _, av, capv, rfl, _, _, _⟩ := h'
 clear hPT hHb hon
 go_enter Tryz.func90, Tryz.ntmps90
 go_wp2_with fail
 refine wp_name ?_
 intro u hu
 have K0 : u.heap[w.heap.size]? = some (.cells #[.int .i64 n, .slice au st.length capu, .slice av sd.length capv] 26 (0, 0)) := by rw [hu]; exact heap_alloc_old _ _ (heap_alloc_old _ _ (heap_alloc_old _ _ (heap_alloc_new _ _)))
 have K1 : u.heap[w.heap.size + 1]? = some (.cells #[.int .i64 a, .int .i64 b] 28 (0, 0)) := by rw [hu]; exact heap_alloc_old _ _ (heap_alloc_old _ _ (heap_alloc_new' _ _ (by simp)))
 have K2 : u.heap[w.heap.size + 1 + 1]? = some (.cells #[.int .i64 0, .int .i64 s, .int .i64 d, .int .i64 t] 107 (0, 0)) := by rw [hu]; exact heap_alloc_old _ _ (heap_alloc_new' _ _ (by simp))
 have Kq : u.heap[w.heap.size + 1 + 1 + 1]? = some (.cells #[.int .i64 0, .int .i64 0] 28 (0, 0)) := by rw [hu]; exact heap_alloc_new' _ _ (by simp)
 have hL0 : Later w u := by rw [hu]; exact qla
 have hsz : w.heap.size + 1 + 1 + 1 + 1 ≤ u.heap.size := by rw [hu]; simp
 have hSB := hL0.size
 clear hu
 refine region_guards 75 [9, 10, 11, 12, 13, 14, 15, 16, 17, 18, 19, 20, 21, 22] (fun g ac wc => sl ac 3 = .pointer (some ⟨w.heap.size, 0, none⟩) ∧
  sl ac 5 = .pointer (some ⟨w.heap.size + 1 + 1, 0, none⟩) ∧
  (g 0 = true → sl ac 9 = .pointer (some ⟨w.heap.size + 1 + 1, 0, none⟩)) ∧
  (g 1 = true → sl ac 10 = .int .i64 0) ∧
  (g 2 = true → sl ac 11 = .bool true) ∧
  (g 3 = true → sl ac 12 = .bool true) ∧
  (g 4 = true → sl ac 13 = .agg #[.int .i64 n, .slice au st.length capu, .slice av sd.length capv]) ∧
  (g 5 = true → sl ac 14 = .pointer (some ⟨w.heap.size + 1 + 1, 0, none⟩)) ∧
  (g 6 = true → sl ac 15 = .int .i64 0) ∧
  (g 7 = true → sl ac 16 = .bool false) ∧
  (g 8 = true → sl ac 17 = .slice au st.length capu) ∧
  (g 9 = true → sl ac 18 = .pointer (some ⟨w.heap.size + 1 + 1, 1, none⟩)) ∧
  (g 10 = true → sl ac 19 = .int .i64 s) ∧
  (g 11 = true → sl ac 20 = .bool Hb) ∧
  (g 12 = true → sl ac 21 = .bool (!Hb)) ∧
  (g 13 = true → sl ac 22 = .bool (!Hb)) ∧
  Later w wc ∧
  u.heap.size ≤ wc.heap.size ∧
  wc.heap[w.heap.size]? = some (.cells #[.int .i64 n, .slice au st.length capu, .slice av sd.length capv] 26 (0, 0)) ∧
  wc.heap[w.heap.size + 1]? = some (.cells #[.int .i64 a, .int .i64 b] 28 (0, 0)) ∧
  wc.heap[w.heap.size + 1 + 1]? = some (.cells #[.int .i64 0, .int .i64 s, .int .i64 d, .int .i64 t] 107 (0, 0)) ∧
  wc.heap[w.heap.size + 1 + 1 + 1]? = some (.cells #[.int .i64 0, .int .i64 0] 28 (0, 0))) (by kernel_rfl) (by kernel_rfl) rfl (by kernel_rfl) ?_ ?_ ?_
 · exact ⟨rfl, rfl, nofun, nofun, nofun, nofun, nofun, nofun, nofun, nofun, nofun, nofun, nofun, nofun, nofun, nofun, hL0.drew, Nat.le_refl _, K0, K1, K2, Kq⟩
 · intro g ac wu hg ha hI
   obtain ⟨x3, x5, i0, i1, i2, i3, i4, i5, i6, i7, i8, i9, i10, i11, i12, i13, hL, hS, B0, B1, B2, Bq⟩ := hI
   have a0 := i0 (hg 0 (by simp))
   have a1 := i1 (hg 1 (by simp))
   have a2 := i2 (hg 2 (by simp))
   have a3 := i3 (hg 3 (by simp))
   have a4 := i4 (hg 4 (by simp))
   have a5 := i5 (hg 5 (by simp))
   have a6 := i6 (hg 6 (by simp))
   have a7 := i7 (hg 7 (by simp))
   have a8 := i8 (hg 8 (by simp))
   have a9 := i9 (hg 9 (by simp))
   have a10 := i10 (hg 10 (by simp))
   have a11 := i11 (hg 11 (by simp))
   have a12 := i12 (hg 12 (by simp))
   have a13 := i13 (hg 13 (by simp))
   simp only [putAll, a0, a1, a2, a3, a4, a5, a6, a7, a8, a9, a10, a11, a12, a13] at ha
   simp only [Act.put, List.setIfInBounds_toArray, List.set_cons_succ, List.set_cons_zero] at ha
   rw [ha]
   clear x3 x5 i0 i1 i2 i3 i4 i5 i6 i7 i8 i9 i10 i11 i12 i13 a0 a1 a2 a3 a4 a5 a6 a7 a8 a9 a10 a11 a12 a13 hg ha
   have hSu : w.heap.size + 1 + 1 + 1 + 1 ≤ wu.heap.size := by omega
   obtain ⟨c2, f2, z2⟩ := blk_at B2
   obtain ⟨c1, f1, z1⟩ := blk_at B1
   obtain ⟨c3, f3, z3⟩ := blk_at Bq
   have HB1 := Lib.hid B1
   have HB2 := Lib.hid B2
   have HBq := Lib.hid Bq
   clear B0 B1 B2 Bq
   cases Hb
   · have HF := Lib.hid (hF0.out rfl)
     go_wp2
     refine bodyPost_ret (v := .tuple #[.agg #[.int .i64 0, .int .i64 0], .bool false]) (by simp [results, Tryz.results90, go_sem, c3, z3]) rfl ⟨by rw [HF.out.1, HF.out.2], qla⟩
   have HF := Lib.hid (hF1.out rfl)
   go_wp2_with fail
   refine (w_l11Cursor0 _ _ _ _ _ s1 s2 t1 t2 (by omega) (by omega) (by omega) (by omega) (by omega) (by omega) _).mono ?_
   rintro e w5 ⟨rfl, hL5⟩
   rw [HPT.out]
   have h8 := kept1 hL5
   clear c1 f1 z1 c2 f2 z2 c3 f3 z3
   obtain ⟨c8, f8, z8⟩ := blk_at h8
   have H8 := Lib.hid h8
   clear h8
   go_wp2
   refine wp_name ?_
   intro u hu
   have hsz := hL5.size
   simp only [World.size_alloc] at hsz
   have K1 : u.heap[wu.heap.size]? = some (.cells #[.int .i64 a, .int .i64 PT] 28 (0, 0)) := by rw [hu]; exact two_set H8.out _ _
   have Kq : u.heap[w.heap.size + 1 + 1 + 1]? = some (.cells #[.int .i64 0, .int .i64 0] 28 (0, 0)) := by rw [hu]; exact other_set (other_set (hL5.keep (heap_alloc_old _ _ HBq.out)) (by omega) _) (by omega) _
   have hL0 : Later w u := by rw [hu]; exact qla
   have hSB := hL0.size
   have hRBq : w.heap.size ≤ w.heap.size + 1 + 1 + 1 := by omega
   have lt1 := (Array.getElem?_eq_some_iff.1 K1).1
   clear hu hL hL5 hS c8 f8 z8 H8
   refine region_slots 75 [72, 73, 74, 7] (fun g ac wc => sl ac 8 = .pointer (some ⟨wu.heap.size, 0, none⟩) ∧
    sl ac 6 = .pointer (some ⟨w.heap.size + 1 + 1 + 1, 0, none⟩) ∧
    (g 0 = true → sl ac 72 = .agg #[.int .i64 a, .int .i64 PT]) ∧
    (g 1 = true → sl ac 73 = .agg #[.int .i64 a, .int .i64 PT]) ∧
    (g 2 = true → sl ac 74 = .bool (isStg ⟨a, PT⟩)) ∧
    (g 4 = true → sl ac 7 = .bool (isStg ⟨a, PT⟩)) ∧
    Later w wc ∧
    u.heap.size ≤ wc.heap.size ∧
    wc.heap[wu.heap.size]? = some (.cells #[.int .i64 a, .int .i64 PT] 28 (0, 0)) ∧
    (∃ q0 q1, wc.heap[w.heap.size + 1 + 1 + 1]? = some (.cells #[q0, q1] 28 (0, 0)) ∧ (g 3 = true → q0 = .int .i64 a ∧ q1 = .int .i64 PT))) (by kernel_rfl) (by kernel_rfl) rfl (by kernel_rfl) ?_ ?_ ?_
   · exact ⟨rfl, rfl, nofun, nofun, nofun, nofun, hL0.drew, Nat.le_refl _, K1, ⟨_, _, Kq, nofun⟩⟩
   · intro g ac wt hg ha hI
     obtain ⟨x8, x6, i0, i1, i2, i4, hL, hS, B1, Rq⟩ := hI
     have a0 := i0 (hg 0 (by simp))
     have a1 := i1 (hg 1 (by simp))
     have a2 := i2 (hg 2 (by simp))
     have a4 := i4 (hg 4 (by simp))
     obtain ⟨q0, q1, Kq, gr⟩ := Rq
     have gr := gr (hg 3 (by simp))
     rw [gr.1, gr.2] at Kq
     clear gr
     simp only [putAll, a0, a1, a2, a4] at ha
     simp only [Act.put, List.setIfInBounds_toArray, List.set_cons_succ, List.set_cons_zero] at ha
     rw [ha]
     clear x8 x6 i0 i1 i2 i4 a0 a1 a2 a4 hg ha
     have c0 := (blk_at Kq).1
     have z0 := (blk_at Kq).2.2
     go_wp2
     refine bodyPost_ret (v := .tuple #[.agg #[.int .i64 a, .int .i64 PT], .bool (isStg ⟨a, PT⟩)]) (by simp [results, Tryz.results90, go_sem, c0, z0]) rfl ⟨by rw [HF.out.1, HF.out.2], hL⟩
   · refine .cons ?_ (.cons ?_ (.cons ?_ (.cons ?_ (.cons ?_ .nil))))
     · refine qst fun g ac wc hn hk hr HI K' hK => ?_
       obtain ⟨x8, x6, -, -, -, -, hL, hS, B1, Rq⟩ := HI.out
       simp [Region.binds] at hr
       obtain ⟨c0, f0, z0⟩ := blk_at B1
       go_simp
       obtain ⟨-, -, i0, i1, i2, i4, -⟩ := HI.out
       exact hK.out _ _ ⟨qB x8, qB x6, qP, qF i1, qF i2, qF i4, hL, hS, B1, Rq⟩
     · refine qst fun g ac wc hn hk hr HI K' hK => ?_
       obtain ⟨x8, x6, -, -, -, -, hL, hS, B1, Rq⟩ := HI.out
       simp [Region.binds] at hr
       obtain ⟨c0, f0, z0⟩ := blk_at B1
       go_simp
       obtain ⟨-, -, i0, i1, i2, i4, -⟩ := HI.out
       exact hK.out _ _ ⟨qB x8, qB x6, qF i0, qP, qF i2, qF i4, hL, hS, B1, Rq⟩
     · refine qst fun g ac wc hn hk hr HI K' hK => ?_
       obtain ⟨x8, x6, -, i1, -, -, hL, hS, B1, Rq⟩ := HI.out
       simp [Region.binds] at hr
       have y1 := i1 (by simp [hr])
       clear i1
       go_simp
       refine (w_specIsSetting _ _ _).mono ?_
       rintro e w4 ⟨rfl, hL4⟩
       obtain ⟨-, -, i0, i1, i2, i4, -⟩ := HI.out
       exact hK.out _ _ ⟨qB x8, qB x6, qF i0, qF i1, qP, qF i4, hL.trans hL4, Nat.le_trans hS hL4.size, hL4.keep B1, (by obtain ⟨q0, q1, R1, R2⟩ := Rq; exact ⟨q0, q1, hL4.keep R1, R2⟩)⟩
     · refine qst fun g ac wc hn hk hr HI K' hK => ?_
       obtain ⟨x8, x6, i0, -, -, -, hL, hS, B1, Rq⟩ := HI.out
       simp [Region.binds] at hr
       have y0 := i0 (by simp [hr])
       clear i0
       obtain ⟨q0, q1, R1, -⟩ := Rq
       obtain ⟨c0, f0, z0⟩ := blk_at R1
       go_simp
       obtain ⟨-, -, i0, i1, i2, i4, -⟩ := HI.out
       exact hK.out undef _ ⟨x8, x6, i0, i1, i2, i4, ((hL.setCell hRBq _).setCell hRBq _), (by simp; omega), (other_set (other_set B1 (by omega) _) (by omega) _), ⟨_, _, two_set R1 _ _, fun _ => ⟨rfl, rfl⟩⟩⟩
     · refine qst fun g ac wc hn hk hr HI K' hK => ?_
       obtain ⟨x8, x6, -, -, i2, -, hL, hS, B1, Rq⟩ := HI.out
       simp [Region.binds] at hr
       have y2 := i2 (by simp [hr])
       clear i2
       go_simp
       obtain ⟨-, -, i0, i1, i2, i4, -⟩ := HI.out
       exact hK.out _ _ ⟨qB x8, qB x6, qF i0, qF i1, qF i2, qP, hL, hS, B1, Rq⟩
 · refine .cons ?_ (.cons ?_ (.cons ?_ (.cons ?_ (.cons ?_ (.cons ?_ (.cons ?_ (.cons ?_ (.cons ?_ (.cons ?_ (.cons ?_ (.cons ?_ (.cons ?_ (.cons ?_ .nil)))))))))))))
   · refine GSlot.of rfl ?_
     unfold SlotStep
     intro g ac wc hn hk hr hI K' hK
     have HI := Lib.hid hI
     obtain ⟨x3, x5, i0, i1, i2, i3, i4, i5, i6, i7, i8, i9, i10, i11, i12, i13, hL, hS, B0, B1, B2, Bq⟩ := hI
     simp [Region.binds] at hr
     replace hK := Lib.hid hK
     clear i0 i1 i2 i3 i4 i5 i6 i7 i8 i9 i10 i11 i12 i13
     go_simp
     obtain ⟨-, -, i0, i1, i2, i3, i4, i5, i6, i7, i8, i9, i10, i11, i12, i13, -⟩ := HI.out
     exact hK.out _ _ ⟨qB x3, qB x5, qP, qF i1, qF i2, qF i3, qF i4, qF i5, qF i6, qF i7, qF i8, qF i9, qF i10, qF i11, qF i12, qF i13, hL, hS, B0, B1, B2, Bq⟩
   · refine GSlot.of rfl ?_
     unfold SlotStep
     intro g ac wc hn hk hr hI K' hK
     have HI := Lib.hid hI
     obtain ⟨x3, x5, i0, i1, i2, i3, i4, i5, i6, i7, i8, i9, i10, i11, i12, i13, hL, hS, B0, B1, B2, Bq⟩ := hI
     simp [Region.binds] at hr
     replace hK := Lib.hid hK
     have y0 := i0 (by simp [hr])
     clear i0 i1 i2 i3 i4 i5 i6 i7 i8 i9 i10 i11 i12 i13
     obtain ⟨c0, f0, z0⟩ := blk_at B2
     go_simp
     obtain ⟨-, -, i0, i1, i2, i3, i4, i5, i6, i7, i8, i9, i10, i11, i12, i13, -⟩ := HI.out
     exact hK.out _ _ ⟨qB x3, qB x5, qF i0, qP, qF i2, qF i3, qF i4, qF i5, qF i6, qF i7, qF i8, qF i9, qF i10, qF i11, qF i12, qF i13, hL, hS, B0, B1, B2, Bq⟩
   · refine GSlot.of rfl ?_
     unfold SlotStep
     intro g ac wc hn hk hr hI K' hK
     have HI := Lib.hid hI
     obtain ⟨x3, x5, i0, i1, i2, i3, i4, i5, i6, i7, i8, i9, i10, i11, i12, i13, hL, hS, B0, B1, B2, Bq⟩ := hI
     simp [Region.binds] at hr
     replace hK := Lib.hid hK
     have y1 := i1 (by simp [hr])
     clear i0 i1 i2 i3 i4 i5 i6 i7 i8 i9 i10 i11 i12 i13
     go_simp
     obtain ⟨-, -, i0, i1, i2, i3, i4, i5, i6, i7, i8, i9, i10, i11, i12, i13, -⟩ := HI.out
     exact hK.out _ _ ⟨qB x3, qB x5, qF i0, qF i1, qP, qF i3, qF i4, qF i5, qF i6, qF i7, qF i8, qF i9, qF i10, qF i11, qF i12, qF i13, hL, hS, B0, B1, B2, Bq⟩
   · refine GSlot.of rfl ?_
     unfold SlotStep
     intro g ac wc hn hk hr hI K' hK
     have HI := Lib.hid hI
     obtain ⟨x3, x5, i0, i1, i2, i3, i4, i5, i6, i7, i8, i9, i10, i11, i12, i13, hL, hS, B0, B1, B2, Bq⟩ := hI
     simp [Region.binds] at hr
     replace hK := Lib.hid hK
     have y2 := i2 (by simp [hr])
     clear i0 i1 i2 i3 i4 i5 i6 i7 i8 i9 i10 i11 i12 i13
     go_simp
     obtain ⟨-, -, i0, i1, i2, i3, i4, i5, i6, i7, i8, i9, i10, i11, i12, i13, -⟩ := HI.out
     exact hK.out _ _ ⟨qB x3, qB x5, qF i0, qF i1, qF i2, qP, qF i4, qF i5, qF i6, qF i7, qF i8, qF i9, qF i10, qF i11, qF i12, qF i13, hL, hS, B0, B1, B2, Bq⟩
   · refine GSlot.want rfl rfl (by decide) (fun g ac wc hr hI => ?_) ?_
     · obtain ⟨x3, x5, i0, i1, i2, i3, i4, i5, i6, i7, i8, i9, i10, i11, i12, i13, hL, hS, B0, B1, B2, Bq⟩ := hI
       simp [Region.binds] at hr
       exact i3 (by simp [hr])
     unfold SlotStep
     intro g ac wc hn hk hr hI K' hK
     have HI := Lib.hid hI
     obtain ⟨x3, x5, i0, i1, i2, i3, i4, i5, i6, i7, i8, i9, i10, i11, i12, i13, hL, hS, B0, B1, B2, Bq⟩ := hI
     simp [Region.binds] at hr
     replace hK := Lib.hid hK
     clear i0 i1 i2 i3 i4 i5 i6 i7 i8 i9 i10 i11 i12 i13
     obtain ⟨c0, f0, z0⟩ := blk_at B0
     go_simp
     obtain ⟨-, -, i0, i1, i2, i3, i4, i5, i6, i7, i8, i9, i10, i11, i12, i13, -⟩ := HI.out
     exact hK.out _ _ ⟨qB x3, qB x5, qF i0, qF i1, qF i2, qF i3, qP, qF i5, qF i6, qF i7, qF i8, qF i9, qF i10, qF i11, qF i12, qF i13, hL, hS, B0, B1, B2, Bq⟩
   · refine GSlot.want rfl rfl (by decide) (fun g ac wc hr hI => ?_) ?_
     · obtain ⟨x3, x5, i0, i1, i2, i3, i4, i5, i6, i7, i8, i9, i10, i11, i12, i13, hL, hS, B0, B1, B2, Bq⟩ := hI
       simp [Region.binds] at hr
       exact i3 (by simp [hr])
     unfold SlotStep
     intro g ac wc hn hk hr hI K' hK
     have HI := Lib.hid hI
     obtain ⟨x3, x5, i0, i1, i2, i3, i4, i5, i6, i7, i8, i9, i10, i11, i12, i13, hL, hS, B0, B1, B2, Bq⟩ := hI
     simp [Region.binds] at hr
     replace hK := Lib.hid hK
     clear i0 i1 i2 i3 i4 i5 i6 i7 i8 i9 i10 i11 i12 i13
     go_simp
     obtain ⟨-, -, i0, i1, i2, i3, i4, i5, i6, i7, i8, i9, i10, i11, i12, i13, -⟩ := HI.out
     exact hK.out _ _ ⟨qB x3, qB x5, qF i0, qF i1, qF i2, qF i3, qF i4, qP, qF i6, qF i7, qF i8, qF i9, qF i10, qF i11, qF i12, qF i13, hL, hS, B0, B1, B2, Bq⟩
   · refine GSlot.want rfl rfl (by decide) (fun g ac wc hr hI => ?_) ?_
     · obtain ⟨x3, x5, i0, i1, i2, i3, i4, i5, i6, i7, i8, i9, i10, i11, i12, i13, hL, hS, B0, B1, B2, Bq⟩ := hI
       simp [Region.binds] at hr
       exact i3 (by simp [hr])
     unfold SlotStep
     intro g ac wc hn hk hr hI K' hK
     have HI := Lib.hid hI
     obtain ⟨x3, x5, i0, i1, i2, i3, i4, i5, i6, i7, i8, i9, i10, i11, i12, i13, hL, hS, B0, B1, B2, Bq⟩ := hI
     simp [Region.binds] at hr
     replace hK := Lib.hid hK
     have y5 := i5 (by simp [hr])
     clear i0 i1 i2 i3 i4 i5 i6 i7 i8 i9 i10 i11 i12 i13
     obtain ⟨c0, f0, z0⟩ := blk_at B2
     go_simp
     obtain ⟨-, -, i0, i1, i2, i3, i4, i5, i6, i7, i8, i9, i10, i11, i12, i13, -⟩ := HI.out
     exact hK.out _ _ ⟨qB x3, qB x5, qF i0, qF i1, qF i2, qF i3, qF i4, qF i5, qP, qF i7, qF i8, qF i9, qF i10, qF i11, qF i12, qF i13, hL, hS, B0, B1, B2, Bq⟩
   · refine GSlot.want rfl rfl (by decide) (fun g ac wc hr hI => ?_) ?_
     · obtain ⟨x3, x5, i0, i1, i2, i3, i4, i5, i6, i7, i8, i9, i10, i11, i12, i13, hL, hS, B0, B1, B2, Bq⟩ := hI
       simp [Region.binds] at hr
       exact i3 (by simp [hr])
     unfold SlotStep
     intro g ac wc hn hk hr hI K' hK
     have HI := Lib.hid hI
     obtain ⟨x3, x5, i0, i1, i2, i3, i4, i5, i6, i7, i8, i9, i10, i11, i12, i13, hL, hS, B0, B1, B2, Bq⟩ := hI
     simp [Region.binds] at hr
     replace hK := Lib.hid hK
     have y6 := i6 (by simp [hr])
     clear i0 i1 i2 i3 i4 i5 i6 i7 i8 i9 i10 i11 i12 i13
     go_simp
     obtain ⟨-, -, i0, i1, i2, i3, i4, i5, i6, i7, i8, i9, i10, i11, i12, i13, -⟩ := HI.out
     exact hK.out _ _ ⟨qB x3, qB x5, qF i0, qF i1, qF i2, qF i3, qF i4, qF i5, qF i6, qP, qF i8, qF i9, qF i10, qF i11, qF i12, qF i13, hL, hS, B0, B1, B2, Bq⟩
   · refine GSlot.want rfl rfl (by decide) (fun g ac wc hr hI => ?_) ?_
     · obtain ⟨x3, x5, i0, i1, i2, i3, i4, i5, i6, i7, i8, i9, i10, i11, i12, i13, hL, hS, B0, B1, B2, Bq⟩ := hI
       simp [Region.binds] at hr
       exact i3 (by simp [hr])
     unfold SlotStep
     intro g ac wc hn hk hr hI K' hK
     have HI := Lib.hid hI
     obtain ⟨x3, x5, i0, i1, i2, i3, i4, i5, i6, i7, i8, i9, i10, i11, i12, i13, hL, hS, B0, B1, B2, Bq⟩ := hI
     simp [Region.binds] at hr
     replace hK := Lib.hid hK
     have y4 := i4 (by simp [hr])
     have y7 := i7 (by simp [hr])
     clear i0 i1 i2 i3 i4 i5 i6 i7 i8 i9 i10 i11 i12 i13
     go_simp
     refine (w_l11On_st _ _ _ _ _ _ (H.out.later hL) (H'.out.later hL)).mono ?_
     rintro e w4 ⟨rfl, hL4⟩
     obtain ⟨-, -, i0, i1, i2, i3, i4, i5, i6, i7, i8, i9, i10, i11, i12, i13, -⟩ := HI.out
     exact hK.out _ _ ⟨qB x3, qB x5, qF i0, qF i1, qF i2, qF i3, qF i4, qF i5, qF i6, qF i7, qP, qF i9, qF i10, qF i11, qF i12, qF i13, hL.trans hL4, Nat.le_trans hS hL4.size, hL4.keep B0, hL4.keep B1, hL4.keep B2, hL4.keep Bq⟩
   · refine GSlot.want rfl rfl (by decide) (fun g ac wc hr hI => ?_) ?_
     · obtain ⟨x3, x5, i0, i1, i2, i3, i4, i5, i6, i7, i8, i9, i10, i11, i12, i13, hL, hS, B0, B1, B2, Bq⟩ := hI
       simp [Region.binds] at hr
       exact i3 (by simp [hr])
     unfold SlotStep
     intro g ac wc hn hk hr hI K' hK
     have HI := Lib.hid hI
     obtain ⟨x3, x5, i0, i1, i2, i3, i4, i5, i6, i7, i8, i9, i10, i11, i12, i13, hL, hS, B0, B1, B2, Bq⟩ := hI
     simp [Region.binds] at hr
     replace hK := Lib.hid hK
     clear i0 i1 i2 i3 i4 i5 i6 i7 i8 i9 i10 i11 i12 i13
     go_simp
     obtain ⟨-, -, i0, i1, i2, i3, i4, i5, i6, i7, i8, i9, i10, i11, i12, i13, -⟩ := HI.out
     exact hK.out _ _ ⟨qB x3, qB x5, qF i0, qF i1, qF i2, qF i3, qF i4, qF i5, qF i6, qF i7, qF i8, qP, qF i10, qF i11, qF i12, qF i13, hL, hS, B0, B1, B2, Bq⟩
   · refine GSlot.want rfl rfl (by decide) (fun g ac wc hr hI => ?_) ?_
     · obtain ⟨x3, x5, i0, i1, i2, i3, i4, i5, i6, i7, i8, i9, i10, i11, i12, i13, hL, hS, B0, B1, B2, Bq⟩ := hI
       simp [Region.binds] at hr
       exact i3 (by simp [hr])
     unfold SlotStep
     intro g ac wc hn hk hr hI K' hK
     have HI := Lib.hid hI
     obtain ⟨x3, x5, i0, i1, i2, i3, i4, i5, i6, i7, i8, i9, i10, i11, i12, i13, hL, hS, B0, B1, B2, Bq⟩ := hI
     simp [Region.binds] at hr
     replace hK := Lib.hid hK
     have y9 := i9 (by simp [hr])
     clear i0 i1 i2 i3 i4 i5 i6 i7 i8 i9 i10 i11 i12 i13
     obtain ⟨c0, f0, z0⟩ := blk_at B2
     go_simp
     obtain ⟨-, -, i0, i1, i2, i3, i4, i5, i6, i7, i8, i9, i10, i11, i12, i13, -⟩ := HI.out
     exact hK.out _ _ ⟨qB x3, qB x5, qF i0, qF i1, qF i2, qF i3, qF i4, qF i5, qF i6, qF i7, qF i8, qF i9, qP, qF i11, qF i12, qF i13, hL, hS, B0, B1, B2, Bq⟩
   · refine GSlot.want rfl rfl (by decide) (fun g ac wc hr hI => ?_) ?_
     · obtain ⟨x3, x5, i0, i1, i2, i3, i4, i5, i6, i7, i8, i9, i10, i11, i12, i13, hL, hS, B0, B1, B2, Bq⟩ := hI
       simp [Region.binds] at hr
       exact i3 (by simp [hr])
     unfold SlotStep
     intro g ac wc hn hk hr hI K' hK
     have HI := Lib.hid hI
     obtain ⟨x3, x5, i0, i1, i2, i3, i4, i5, i6, i7, i8, i9, i10, i11, i12, i13, hL, hS, B0, B1, B2, Bq⟩ := hI
     simp [Region.binds] at hr
     replace hK := Lib.hid hK
     have y8 := i8 (by simp [hr])
     have y10 := i10 (by simp [hr])
     clear i0 i1 i2 i3 i4 i5 i6 i7 i8 i9 i10 i11 i12 i13
     go_simp
     refine (w_l01Has _ _ _ _ (H.out.later hL)).mono ?_
     rintro e w4 ⟨rfl, rfl⟩
     rw [HH.out]
     obtain ⟨-, -, i0, i1, i2, i3, i4, i5, i6, i7, i8, i9, i10, i11, i12, i13, -⟩ := HI.out
     exact hK.out _ _ ⟨qB x3, qB x5, qF i0, qF i1, qF i2, qF i3, qF i4, qF i5, qF i6, qF i7, qF i8, qF i9, qF i10, qP, qF i12, qF i13, hL, hS, B0, B1, B2, Bq⟩
   · refine GSlot.want rfl rfl (by decide) (fun g ac wc hr hI => ?_) ?_
     · obtain ⟨x3, x5, i0, i1, i2, i3, i4, i5, i6, i7, i8, i9, i10, i11, i12, i13, hL, hS, B0, B1, B2, Bq⟩ := hI
       simp [Region.binds] at hr
       exact i3 (by simp [hr])
     unfold SlotStep
     intro g ac wc hn hk hr hI K' hK
     have HI := Lib.hid hI
     obtain ⟨x3, x5, i0, i1, i2, i3, i4, i5, i6, i7, i8, i9, i10, i11, i12, i13, hL, hS, B0, B1, B2, Bq⟩ := hI
     simp [Region.binds] at hr
     replace hK := Lib.hid hK
     have y11 := i11 (by simp [hr])
     clear i0 i1 i2 i3 i4 i5 i6 i7 i8 i9 i10 i11 i12 i13
     go_simp
     obtain ⟨-, -, i0, i1, i2, i3, i4, i5, i6, i7, i8, i9, i10, i11, i12, i13, -⟩ := HI.out
     exact hK.out _ _ ⟨qB x3, qB x5, qF i0, qF i1, qF i2, qF i3, qF i4, qF i5, qF i6, qF i7, qF i8, qF i9, qF i10, qF i11, qP, qF i13, hL, hS, B0, B1, B2, Bq⟩
   · refine GSlot.of rfl ?_
     unfold SlotStep
     intro g ac wc hn hk hr hI K' hK
     have HI := Lib.hid hI
     obtain ⟨x3, x5, i0, i1, i2, i3, i4, i5, i6, i7, i8, i9, i10, i11, i12, i13, hL, hS, B0, B1, B2, Bq⟩ := hI
     simp [Region.binds] at hr
     replace hK := Lib.hid hK
     have y3 := i3 (by simp [hr])
     have y12 := i12 (by simp [hr])
     have z3 := sl_get y3 (by omega)
     have z12 := sl_get y12 (by omega)
     clear i0 i1 i2 i3 i4 i5 i6 i7 i8 i9 i10 i11 i12 i13
     go_simp
     obtain ⟨-, -, i0, i1, i2, i3, i4, i5, i6, i7, i8, i9, i10, i11, i12, i13, -⟩ := HI.out
     exact hK.out _ _ ⟨qB x3, qB x5, qF i0, qF i1, qF i2, qF i3, qF i4, qF i5, qF i6, qF i7, qF i8, qF i9, qF i10, qF i11, qF i12, qP, hL, hS, B0, B1, B2, Bq⟩
set_option maxHeartbeats 4000000 in
theorem w_specMv1 (n : Int) (u v : Value) (st sd : List Int) (a b s d t : Int) (w : World) (h : IsNums w u st) (h' : IsNums w v sd) (hs : isStg ⟨a, b⟩ = true) (s1 : 0 ≤ s) (s2 : s ≤ 4) (hf : isFig ⟨d, t⟩ = true) :
 Calls Tryz.prog 90 #[.agg #[.int .i64 n, u, v], .agg #[.int .i64 a, .int .i64 b], .agg #[.int .i64 1, .int .i64 s, .int .i64 d, .int .i64 t]] w fun e w' => e = .returned (.tuple #[.agg #[.int .i64 (mvS ⟨n, st, sd⟩ ⟨a, b⟩ ⟨1, s, ⟨d, t⟩⟩).sh, .int .i64 (mvS ⟨n, st, sd⟩ ⟨a, b⟩ ⟨1, s, ⟨d, t⟩⟩).cu], .bool (mvOk ⟨n, st, sd⟩ ⟨a, b⟩ ⟨1, s, ⟨d, t⟩⟩)]) ∧ Later w w' := by
 have hsb := isStg_bd hs
 simp only at hsb
 obtain ⟨a1, a2, b1, b2⟩ := hsb
 clear hs
 have hfb := isFig_true hf
 simp only at hfb
 obtain ⟨t1, t2, t3, t4⟩ := hfb
 clear hf
 have hp := ptF_bd (s := s) (f := ⟨d, t⟩) t1 t2
 obtain ⟨PT, hPT⟩ : ∃ PT, ptF s ⟨d, t⟩ = PT := ⟨_, rfl⟩
 rw [hPT] at hp
 obtain ⟨p1, p2⟩ := hp
 obtain ⟨Hb, hHb⟩ : ∃ Hb, hasI sd s = Hb := ⟨_, rfl⟩
 have hon : mvOn ⟨n, st, sd⟩ ⟨1, s, ⟨d, t⟩⟩ = Hb := hHb
 have hF0 := Lib.hid (show Hb = false → mvS ⟨n, st, sd⟩ ⟨a, b⟩ ⟨1, s, ⟨d, t⟩⟩ = ⟨0, 0⟩ ∧ mvOk ⟨n, st, sd⟩ ⟨a, b⟩ ⟨1, s, ⟨d, t⟩⟩ = false from fun e => by rw [mvS, mvOk, hon, e]; exact ⟨rfl, rfl⟩)
 have hF1 := Lib.hid (show Hb = true → mvS ⟨n, st, sd⟩ ⟨a, b⟩ ⟨1, s, ⟨d, t⟩⟩ = ⟨a, PT + a⟩ ∧ mvOk ⟨n, st, sd⟩ ⟨a, b⟩ ⟨1, s, ⟨d, t⟩⟩ = isStg ⟨a, PT + a⟩ from fun e => by rw [mvS, mvOk, hon, e, ← hPT]; exact ⟨rfl, rfl⟩)
 have HPT := Lib.hid hPT
 have HH := Lib.hid hHb
 have H := Lib.hid h
 have H' := Lib.hid h'
 obtain ⟨_, _, au, capu, rfl, _, _, _⟩ := h
 obtain ⟨_, _, av, capv, rfl, _, _, _⟩ := h'
 clear hPT hHb hon
 go_enter Tryz.func90, Tryz.ntmps90
 go_wp2_with fail
 refine wp_name ?_
 intro u hu
 have K0 : u.heap[w.heap.size]? = some (.cells #[.int .i64 n, .slice au st.length capu, .slice av sd.length capv] 26 (0, 0)) := by rw [hu]; exact heap_alloc_old _ _ (heap_alloc_old _ _ (heap_alloc_old _ _ (heap_alloc_new _ _)))
 have K1 : u.heap[w.heap.size + 1]? = some (.cells #[.int .i64 a, .int .i64 b] 28 (0, 0)) := by rw [hu]; exact heap_alloc_old _ _ (heap_alloc_old _ _ (heap_alloc_new' _ _ (by simp)))
 have K2 : u.heap[w.heap.size + 1 + 1]? = some (.cells #[.int .i64 1, .int .i64 s, .int .i64 d, .int .i64 t] 107 (0, 0)) := by rw [hu]; exact heap_alloc_old _ _ (heap_alloc_new' _ _ (by simp))
 have Kq : u.heap[w.heap.size + 1 + 1 + 1]? = some (.cells #[.int .i64 0, .int .i64 0] 28 (0, 0)) := by rw [hu]; exact heap_alloc_new' _ _ (by simp)
 have hL0 : Later w u := by rw [hu]; exact qla
 have hsz : w.heap.size + 1 + 1 + 1 + 1 ≤ u.heap.size := by rw [hu]; simp
 have hSB := hL0.size
 clear hu
 refine region_guards 75 [9, 10, 11, 12, 13, 14, 15, 16, 17, 18, 19, 20, 21, 22] (fun g ac wc => sl ac 3 = .pointer (some ⟨w.heap.size, 0, none⟩) ∧
  sl ac 5 = .pointer (some ⟨w.heap.size + 1 + 1, 0, none⟩) ∧
  (g 0 = true → sl ac 9 = .pointer (some ⟨w.heap.size + 1 + 1, 0, none⟩)) ∧
  (g 1 = true → sl ac 10 = .int .i64 1) ∧
  (g 2 = true → sl ac 11 = .bool true) ∧
  (g 3 = true → sl ac 12 = .bool true) ∧
  (g 4 = true → sl ac 13 = .agg #[.int .i64 n, .slice au st.length capu, .slice av sd.length capv]) ∧
  (g 5 = true → sl ac 14 = .pointer (some ⟨w.heap.size + 1 + 1, 0, none⟩)) ∧
  (g 6 = true → sl ac 15 = .int .i64 1) ∧
  (g 7 = true → sl ac 16 = .bool true) ∧
  (g 8 = true → sl ac 17 = .slice av sd.length capv) ∧
  (g 9 = true → sl ac 18 = .pointer (some ⟨w.heap.size + 1 + 1, 1, none⟩)) ∧
  (g 10 = true → sl ac 19 = .int .i64 s) ∧
  (g 11 = true → sl ac 20 = .bool Hb) ∧
  (g 12 = true → sl ac 21 = .bool (!Hb)) ∧
  (g 13 = true → sl ac 22 = .bool (!Hb)) ∧
  Later w wc ∧
  u.heap.size ≤ wc.heap.size ∧
  wc.heap[w.heap.size]? = some (.cells #[.int .i64 n, .slice au st.length capu, .slice av sd.length capv] 26 (0, 0)) ∧
  wc.heap[w.heap.size + 1]? = some (.cells #[.int .i64 a, .int .i64 b] 28 (0, 0)) ∧
  wc.heap[w.heap.size + 1 + 1]? = some (.cells #[.int .i64 1, .int .i64 s, .int .i64 d, .int .i64 t] 107 (0, 0)) ∧
  wc.heap[w.heap.size + 1 + 1 + 1]? = some (.cells #[.int .i64 0, .int .i64 0] 28 (0, 0))) (by kernel_rfl) (by kernel_rfl) rfl (by kernel_rfl) ?_ ?_ ?_
 · exact ⟨rfl, rfl, nofun, nofun, nofun, nofun, nofun, nofun, nofun, nofun, nofun, nofun, nofun, nofun, nofun, nofun, hL0.drew, Nat.le_refl _, K0, K1, K2, Kq⟩
 · intro g ac wu hg ha hI
   obtain ⟨x3, x5, i0, i1, i2, i3, i4, i5, i6, i7, i8, i9, i10, i11, i12, i13, hL, hS, B0, B1, B2, Bq⟩ := hI
   have a0 := i0 (hg 0 (by simp))
   have a1 := i1 (hg 1 (by simp))
   have a2 := i2 (hg 2 (by simp))
   have a3 := i3 (hg 3 (by simp))
   have a4 := i4 (hg 4 (by simp))
   have a5 := i5 (hg 5 (by simp))
   have a6 := i6 (hg 6 (by simp))
   have a7 := i7 (hg 7 (by simp))
   have a8 := i8 (hg 8 (by simp))
   have a9 := i9 (hg 9 (by simp))
   have a10 := i10 (hg 10 (by simp))
   have a11 := i11 (hg 11 (by simp))
   have a12 := i12 (hg 12 (by simp))
   have a13 := i13 (hg 13 (by simp))
   simp only [putAll, a0, a1, a2, a3, a4, a5, a6, a7, a8, a9, a10, a11, a12, a13] at ha
   simp only [Act.put, List.setIfInBounds_toArray, List.set_cons_succ, List.set_cons_zero] at ha
   rw [ha]
   clear x3 x5 i0 i1 i2 i3 i4 i5 i6 i7 i8 i9 i10 i11 i12 i13 a0 a1 a2 a3 a4 a5 a6 a7 a8 a9 a10 a11 a12 a13 hg ha
   have hSu : w.heap.size + 1 + 1 + 1 + 1 ≤ wu.heap.size := by omega
   obtain ⟨c2, f2, z2⟩ := blk_at B2
   obtain ⟨c1, f1, z1⟩ := blk_at B1
   obtain ⟨c3, f3, z3⟩ := blk_at Bq
   have HB1 := Lib.hid B1
   have HB2 := Lib.hid B2
   have HBq := Lib.hid Bq
   clear B0 B1 B2 Bq
   cases Hb
   · have HF := Lib.hid (hF0.out rfl)
     go_wp2
     refine bodyPost_ret (v := .tuple #[.agg #[.int .i64 0, .int .i64 0], .bool false]) (by simp [results, Tryz.results90, go_sem, c3, z3]) rfl ⟨by rw [HF.out.1, HF.out.2], qla⟩
   have HF := Lib.hid (hF1.out rfl)
   go_wp2_with fail
   refine (w_l11Cursor1 _ _ _ _ _ s1 s2 t1 t2 (by omega) (by omega) (by omega) (by omega) (by omega) (by omega) _).mono ?_
   rintro e w5 ⟨rfl, hL5⟩
   rw [HPT.out]
   have h8 := kept1 hL5
   clear c1 f1 z1 c2 f2 z2 c3 f3 z3
   obtain ⟨c8, f8, z8⟩ := blk_at h8
   have H8 := Lib.hid h8
   clear h8
   go_wp2
   refine wp_name ?_
   intro u hu
   have hsz := hL5.size
   simp only [World.size_alloc] at hsz
   have K1 : u.heap[wu.heap.size]? = some (.cells #[.int .i64 a, .int .i64 (PT + a)] 28 (0, 0)) := by rw [hu]; exact two_set H8.out _ _
   have Kq : u.heap[w.heap.size + 1 + 1 + 1]? = some (.cells #[.int .i64 0, .int .i64 0] 28 (0, 0)) := by rw [hu]; exact other_set (other_set (hL5.keep (heap_alloc_old _ _ HBq.out)) (by omega) _) (by omega) _
   have hL0 : Later w u := by rw [hu]; exact qla
   have hSB := hL0.size
   have hRBq : w.heap.size ≤ w.heap.size + 1 + 1 + 1 := by omega
   have lt1 := (Array.getElem?_eq_some_iff.1 K1).1
   clear hu hL hL5 hS c8 f8 z8 H8
   refine region_slots 75 [72, 73, 74, 7] (fun g ac wc => sl ac 8 = .pointer (some ⟨wu.heap.size, 0, none⟩) ∧
    sl ac 6 = .pointer (some ⟨w.heap.size + 1 + 1 + 1, 0, none⟩) ∧
    (g 0 = true → sl ac 72 = .agg #[.int .i64 a, .int .i64 (PT + a)]) ∧
    (g 1 = true → sl ac 73 = .agg #[.int .i64 a, .int .i64 (PT + a)]) ∧
    (g 2 = true → sl ac 74 = .bool (isStg ⟨a, (PT + a)⟩)) ∧
    (g 4 = true → sl ac 7 = .bool (isStg ⟨a, (PT + a)⟩)) ∧
    Later w wc ∧
    u.heap.size ≤ wc.heap.size ∧
    wc.heap[wu.heap.size]? = some (.cells #[.int .i64 a, .int .i64 (PT + a)] 28 (0, 0)) ∧
    (∃ q0 q1, wc.heap[w.heap.size + 1 + 1 + 1]? = some (.cells #[q0, q1] 28 (0, 0)) ∧ (g 3 = true → q0 = .int .i64 a ∧ q1 = .int .i64 (PT + a)))) (by kernel_rfl) (by kernel_rfl) rfl (by kernel_rfl) ?_ ?_ ?_
   · exact ⟨rfl, rfl, nofun, nofun, nofun, nofun, hL0.drew, Nat.le_refl _, K1, ⟨_, _, Kq, nofun⟩⟩
   · intro g ac wt hg ha hI
     obtain ⟨x8, x6, i0, i1, i2, i4, hL, hS, B1, Rq⟩ := hI
     have a0 := i0 (hg 0 (by simp))
     have a1 := i1 (hg 1 (by simp))
     have a2 := i2 (hg 2 (by simp))
     have a4 := i4 (hg 4 (by simp))
     obtain ⟨q0, q1, Kq, gr⟩ := Rq
     have gr := gr (hg 3 (by simp))
     rw [gr.1, gr.2] at Kq
     clear gr
     simp only [putAll, a0, a1, a2, a4] at ha
     simp only [Act.put, List.setIfInBounds_toArray, List.set_cons_succ, List.set_cons_zero] at ha
     rw [ha]
     clear x8 x6 i0 i1 i2 i4 a0 a1 a2 a4 hg ha
     have c0 := (blk_at Kq).1
     have z0 := (blk_at Kq).2.2
     go_wp2
     refine bodyPost_ret (v := .tuple #[.agg #[.int .i64 a, .int .i64 (PT + a)], .bool (isStg ⟨a, (PT + a)⟩)]) (by simp [results, Tryz.results90, go_sem, c0, z0]) rfl ⟨by rw [HF.out.1, HF.out.2], hL⟩
   · refine .cons ?_ (.cons ?_ (.cons ?_ (.cons ?_ (.cons ?_ .nil))))
     · refine qst fun g ac wc hn hk hr HI K' hK => ?_
       obtain ⟨x8, x6, -, -, -, -, hL, hS, B1, Rq⟩ := HI.out
       simp [Region.binds] at hr
       obtain ⟨c0, f0, z0⟩ := blk_at B1
       go_simp
       obtain ⟨-, -, i0, i1, i2, i4, -⟩ := HI.out
       exact hK.out _ _ ⟨qB x8, qB x6, qP, qF i1, qF i2, qF i4, hL, hS, B1, Rq⟩
     · refine qst fun g ac wc hn hk hr HI K' hK => ?_
       obtain ⟨x8, x6, -, -, -, -, hL, hS, B1, Rq⟩ := HI.out
       simp [Region.binds] at hr
       obtain ⟨c0, f0, z0⟩ := blk_at B1
       go_simp
       obtain ⟨-, -, i0, i1, i2, i4, -⟩ := HI.out
       exact hK.out _ _ ⟨qB x8, qB x6, qF i0, qP, qF i2, qF i4, hL, hS, B1, Rq⟩
     · refine qst fun g ac wc hn hk hr HI K' hK => ?_
       obtain ⟨x8, x6, -, i1, -, -, hL, hS, B1, Rq⟩ := HI.out
       simp [Region.binds] at hr
       have y1 := i1 (by simp [hr])
       clear i1
       go_simp
       refine (w_specIsSetting _ _ _).mono ?_
       rintro e w4 ⟨rfl, hL4⟩
       obtain ⟨-, -, i0, i1, i2, i4, -⟩ := HI.out
       exact hK.out _ _ ⟨qB x8, qB x6, qF i0, qF i1, qP, qF i4, hL.trans hL4, Nat.le_trans hS hL4.size, hL4.keep B1, (by obtain ⟨q0, q1, R1, R2⟩ := Rq; exact ⟨q0, q1, hL4.keep R1, R2⟩)⟩
     · refine qst fun g ac wc hn hk hr HI K' hK => ?_
       obtain ⟨x8, x6, i0, -, -, -, hL, hS, B1, Rq⟩ := HI.out
       simp [Region.binds] at hr
       have y0 := i0 (by simp [hr])
       clear i0
       obtain ⟨q0, q1, R1, -⟩ := Rq
       obtain ⟨c0, f0, z0⟩ := blk_at R1
       go_simp
       obtain ⟨-, -, i0, i1, i2, i4, -⟩ := HI.out
       exact hK.out undef _ ⟨x8, x6, i0, i1, i2, i4, ((hL.setCell hRBq _).setCell hRBq _), (by simp; omega), (other_set (other_set B1 (by omega) _) (by omega) _), ⟨_, _, two_set R1 _ _, fun _ => ⟨rfl, rfl⟩⟩⟩
     · refine qst fun g ac wc hn hk hr HI K' hK => ?_
       obtain ⟨x8, x6, -, -, i2, -, hL, hS, B1, Rq⟩ := HI.out
       simp [Region.binds] at hr
       have y2 := i2 (by simp [hr])
       clear i2
       go_simp
       obtain ⟨-, -, i0, i1, i2, i4, -⟩ := HI.out
       exact hK.out _ _ ⟨qB x8, qB x6, qF i0, qF i1, qF i2, qP, hL, hS, B1, Rq⟩
 · refine .cons ?_ (.cons ?_ (.cons ?_ (.cons ?_ (.cons ?_ (.cons ?_ (.cons ?_ (.cons ?_ (.cons ?_ (.cons ?_ (.cons ?_ (.cons ?_ (.cons ?_ (.cons ?_ .nil)))))))))))))
   · refine GSlot.of rfl ?_
     unfold SlotStep
     intro g ac wc hn hk hr hI K' hK
     have HI := Lib.hid hI
     obtain ⟨x3, x5, i0, i1, i2, i3, i4, i5, i6, i7, i8, i9, i10, i11, i12, i13, hL, hS, B0, B1, B2, Bq⟩ := hI
     simp [Region.binds] at hr
     replace hK := Lib.hid hK
     clear i0 i1 i2 i3 i4 i5 i6 i7 i8 i9 i10 i11 i12 i13
     go_simp
     obtain ⟨-, -, i0, i1, i2, i3, i4, i5, i6, i7, i8, i9, i10, i11, i12, i13, -⟩ := HI.out
     exact hK.out _ _ ⟨qB x3, qB x5, qP, qF i1, qF i2, qF i3, qF i4, qF i5, qF i6, qF i7, qF i8, qF i9, qF i10, qF i11, qF i12, qF i13, hL, hS, B0, B1, B2, Bq⟩
   · refine GSlot.of rfl ?_
     unfold SlotStep
     intro g ac wc hn hk hr hI K' hK
     have HI := Lib.hid hI
     obtain ⟨x3, x5, i0, i1, i2, i3, i4, i5, i6, i7, i8, i9, i10, i11, i12, i13, hL, hS, B0, B1, B2, Bq⟩ := hI
     simp [Region.binds] at hr
     replace hK := Lib.hid hK
     have y0 := i0 (by simp [hr])
     clear i0 i1 i2 i3 i4 i5 i6 i7 i8 i9 i10 i11 i12 i13
     obtain ⟨c0, f0, z0⟩ := blk_at B2
     go_simp
     obtain ⟨-, -, i0, i1, i2, i3, i4, i5, i6, i7, i8, i9, i10, i11, i12, i13, -⟩ := HI.out
     exact hK.out _ _ ⟨qB x3, qB x5, qF i0, qP, qF i2, qF i3, qF i4, qF i5, qF i6, qF i7, qF i8, qF i9, qF i10, qF i11, qF i12, qF i13, hL, hS, B0, B1, B2, Bq⟩
   · refine GSlot.of rfl ?_
     unfold SlotStep
     intro g ac wc hn hk hr hI K' hK
     have HI := Lib.hid hI
     obtain ⟨x3, x5, i0, i1, i2, i3, i4, i5, i6, i7, i8, i9, i10, i11, i12, i13, hL, hS, B0, B1, B2, Bq⟩ := hI
     simp [Region.binds] at hr
     replace hK := Lib.hid hK
     have y1 := i1 (by simp [hr])
     clear i0 i1 i2 i3 i4 i5 i6 i7 i8 i9 i10 i11 i12 i13
     go_simp
     obtain ⟨-, -, i0, i1, i2, i3, i4, i5, i6, i7, i8, i9, i10, i11, i12, i13, -⟩ := HI.out
     exact hK.out _ _ ⟨qB x3, qB x5, qF i0, qF i1, qP, qF i3, qF i4, qF i5, qF i6, qF i7, qF i8, qF i9, qF i10, qF i11, qF i12, qF i13, hL, hS, B0, B1, B2, Bq⟩
   · refine GSlot.of rfl ?_
     unfold SlotStep
     intro g ac wc hn hk hr hI K' hK
     have HI := Lib.hid hI
     obtain ⟨x3, x5, i0, i1, i2, i3, i4, i5, i6, i7, i8, i9, i10, i11, i12, i13, hL, hS, B0, B1, B2, Bq⟩ := hI
     simp [Region.binds] at hr
     replace hK := Lib.hid hK
     have y2 := i2 (by simp [hr])
     clear i0 i1 i2 i3 i4 i5 i6 i7 i8 i9 i10 i11 i12 i13
     go_simp
     obtain ⟨-, -, i0, i1, i2, i3, i4, i5, i6, i7, i8, i9, i10, i11, i12, i13, -⟩ := HI.out
     exact hK.out _ _ ⟨qB x3, qB x5, qF i0, qF i1, qF i2, qP, qF i4, qF i5, qF i6, qF i7, qF i8, qF i9, qF i10, qF i11, qF i12, qF i13, hL, hS, B0, B1, B2, Bq⟩
   · refine GSlot.want rfl rfl (by decide) (fun g ac wc hr hI => ?_) ?_
     · obtain ⟨x3, x5, i0, i1, i2, i3, i4, i5, i6, i7, i8, i9, i10, i11, i12, i13, hL, hS, B0, B1, B2, Bq⟩ := hI
       simp [Region.binds] at hr
       exact i3 (by simp [hr])
     unfold SlotStep
     intro g ac wc hn hk hr hI K' hK
     have HI := Lib.hid hI
     obtain ⟨x3, x5, i0, i1, i2, i3, i4, i5, i6, i7, i8, i9, i10, i11, i12, i13, hL, hS, B0, B1, B2, Bq⟩ := hI
     simp [Region.binds] at hr
     replace hK := Lib.hid hK
     clear i0 i1 i2 i3 i4 i5 i6 i7 i8 i9 i10 i11 i12 i13
     obtain ⟨c0, f0, z0⟩ := blk_at B0
     go_simp
     obtain ⟨-, -, i0, i1, i2, i3, i4, i5, i6, i7, i8, i9, i10, i11, i12, i13, -⟩ := HI.out
     exact hK.out _ _ ⟨qB x3, qB x5, qF i0, qF i1, qF i2, qF i3, qP, qF i5, qF i6, qF i7, qF i8, qF i9, qF i10, qF i11, qF i12, qF i13, hL, hS, B0, B1, B2, Bq⟩
   · refine GSlot.want rfl rfl (by decide) (fun g ac wc hr hI => ?_) ?_
     · obtain ⟨x3, x5, i0, i1, i2, i3, i4, i5, i6, i7, i8, i9, i10, i11, i12, i13, hL, hS, B0, B1, B2, Bq⟩ := hI
       simp [Region.binds] at hr
       exact i3 (by simp [hr])
     unfold SlotStep
     intro g ac wc hn hk hr hI K' hK
     have HI := Lib.hid hI
     obtain ⟨x3, x5, i0, i1, i2, i3, i4, i5, i6, i7, i8, i9, i10, i11, i12, i13, hL, hS, B0, B1, B2, Bq⟩ := hI
     simp [Region.binds] at hr
     replace hK := Lib.hid hK
     clear i0 i1 i2 i3 i4 i5 i6 i7 i8 i9 i10 i11 i12 i13
     go_simp
     obtain ⟨-, -, i0, i1, i2, i3, i4, i5, i6, i7, i8, i9, i10, i11, i12, i13, -⟩ := HI.out
     exact hK.out _ _ ⟨qB x3, qB x5, qF i0, qF i1, qF i2, qF i3, qF i4, qP, qF i6, qF i7, qF i8, qF i9, qF i10, qF i11, qF i12, qF i13, hL, hS, B0, B1, B2, Bq⟩
   · refine GSlot.want rfl rfl (by decide) (fun g ac wc hr hI => ?_) ?_
     · obtain ⟨x3, x5, i0, i1, i2, i3, i4, i5, i6, i7, i8, i9, i10, i11, i12, i13, hL, hS, B0, B1, B2, Bq⟩ := hI
       simp [Region.binds] at hr
       exact i3 (by simp [hr])
     unfold SlotStep
     intro g ac wc hn hk hr hI K' hK
     have HI := Lib.hid hI
     obtain ⟨x3, x5, i0, i1, i2, i3, i4, i5, i6, i7, i8, i9, i10, i11, i12, i13, hL, hS, B0, B1, B2, Bq⟩ := hI
     simp [Region.binds] at hr
     replace hK := Lib.hid hK
     have y5 := i5 (by simp [hr])
     clear i0 i1 i2 i3 i4 i5 i6 i7 i8 i9 i10 i11 i12 i13
     obtain ⟨c0, f0, z0⟩ := blk_at B2
     go_simp
     obtain ⟨-, -, i0, i1, i2, i3, i4, i5, i6, i7, i8, i9, i10, i11, i12, i13, -⟩ := HI.out
     exact hK.out _ _ ⟨qB x3, qB x5, qF i0, qF i1, qF i2, qF i3, qF i4, qF i5, qP, qF i7, qF i8, qF i9, qF i10, qF i11, qF i12, qF i13, hL, hS, B0, B1, B2, Bq⟩
   · refine GSlot.want rfl rfl (by decide) (fun g ac wc hr hI => ?_) ?_
     · obtain ⟨x3, x5, i0, i1, i2, i3, i4, i5, i6, i7, i8, i9, i10, i11, i12, i13, hL, hS, B0, B1, B2, Bq⟩ := hI
       simp [Region.binds] at hr
       exact i3 (by simp [hr])
     unfold SlotStep
     intro g ac wc hn hk hr hI K' hK
     have HI := Lib.hid hI
     obtain ⟨x3, x5, i0, i1, i2, i3, i4, i5, i6, i7, i8, i9, i10, i11, i12, i13, hL, hS, B0, B1, B2, Bq⟩ := hI
     simp [Region.binds] at hr
     replace hK := Lib.hid hK
     have y6 := i6 (by simp [hr])
     clear i0 i1 i2 i3 i4 i5 i6 i7 i8 i9 i10 i11 i12 i13
     go_simp
     obtain ⟨-, -, i0, i1, i2, i3, i4, i5, i6, i7, i8, i9, i10, i11, i12, i13, -⟩ := HI.out
     exact hK.out _ _ ⟨qB x3, qB x5, qF i0, qF i1, qF i2, qF i3, qF i4, qF i5, qF i6, qP, qF i8, qF i9, qF i10, qF i11, qF i12, qF i13, hL, hS, B0, B1, B2, Bq⟩
   · refine GSlot.want rfl rfl (by decide) (fun g ac wc hr hI => ?_) ?_
     · obtain ⟨x3, x5, i0, i1, i2, i3, i4, i5, i6, i7, i8, i9, i10, i11, i12, i13, hL, hS, B0, B1, B2, Bq⟩ := hI
       simp [Region.binds] at hr
       exact i3 (by simp [hr])
     unfold SlotStep
     intro g ac wc hn hk hr hI K' hK
     have HI := Lib.hid hI
     obtain ⟨x3, x5, i0, i1, i2, i3, i4, i5, i6, i7, i8, i9, i10, i11, i12, i13, hL, hS, B0, B1, B2, Bq⟩ := hI
     simp [Region.binds] at hr
     replace hK := Lib.hid hK
     have y4 := i4 (by simp [hr])
     have y7 := i7 (by simp [hr])
     clear i0 i1 i2 i3 i4 i5 i6 i7 i8 i9 i10 i11 i12 i13
     go_simp
     refine (w_l11On_sl _ _ _ _ _ _ (H.out.later hL) (H'.out.later hL)).mono ?_
     rintro e w4 ⟨rfl, hL4⟩
     obtain ⟨-, -, i0, i1, i2, i3, i4, i5, i6, i7, i8, i9, i10, i11, i12, i13, -⟩ := HI.out
     exact hK.out _ _ ⟨qB x3, qB x5, qF i0, qF i1, qF i2, qF i3, qF i4, qF i5, qF i6, qF i7, qP, qF i9, qF i10, qF i11, qF i12, qF i13, hL.trans hL4, Nat.le_trans hS hL4.size, hL4.keep B0, hL4.keep B1, hL4.keep B2, hL4.keep Bq⟩
   · refine GSlot.want rfl rfl (by decide) (fun g ac wc hr hI => ?_) ?_
     · obtain ⟨x3, x5, i0, i1, i2, i3, i4, i5, i6, i7, i8, i9, i10, i11, i12, i13, hL, hS, B0, B1, B2, Bq⟩ := hI
       simp [Region.binds] at hr
       exact i3 (by simp [hr])
     unfold SlotStep
     intro g ac wc hn hk hr hI K' hK
     have HI := Lib.hid hI
     obtain ⟨x3, x5, i0, i1, i2, i3, i4, i5, i6, i7, i8, i9, i10, i11, i12, i13, hL, hS, B0, B1, B2, Bq⟩ := hI
     simp [Region.binds] at hr
     replace hK := Lib.hid hK
     clear i0 i1 i2 i3 i4 i5 i6 i7 i8 i9 i10 i11 i12 i13
     go_simp
     obtain ⟨-, -, i0, i1, i2, i3, i4, i5, i6, i7, i8, i9, i10, i11, i12, i13, -⟩ := HI.out
     exact hK.out _ _ ⟨qB x3, qB x5, qF i0, qF i1, qF i2, qF i3, qF i4, qF i5, qF i6, qF i7, qF i8, qP, qF i10, qF i11, qF i12, qF i13, hL, hS, B0, B1, B2, Bq⟩
   · refine GSlot.want rfl rfl (by decide) (fun g ac wc hr hI => ?_) ?_
     · obtain ⟨x3, x5, i0, i1, i2, i3, i4, i5, i6, i7, i8, i9, i10, i11, i12, i13, hL, hS, B0, B1, B2, Bq⟩ := hI
       simp [Region.binds] at hr
       exact i3 (by simp [hr])
     unfold SlotStep
     intro g ac wc hn hk hr hI K' hK
     have HI := Lib.hid hI
     obtain ⟨x3, x5, i0, i1, i2, i3, i4, i5, i6, i7, i8, i9, i10, i11, i12, i13, hL, hS, B0, B1, B2, Bq⟩ := hI
     simp [Region.binds] at hr
     replace hK := Lib.hid hK
     have y9 := i9 (by simp [hr])
     clear i0 i1 i2 i3 i4 i5 i6 i7 i8 i9 i10 i11 i12 i13
     obtain ⟨c0, f0, z0⟩ := blk_at B2
     go_simp
     obtain ⟨-, -, i0, i1, i2, i3, i4, i5, i6, i7, i8, i9, i10, i11, i12, i13, -⟩ := HI.out
     exact hK.out _ _ ⟨qB x3, qB x5, qF i0, qF i1, qF i2, qF i3, qF i4, qF i5, qF i6, qF i7, qF i8, qF i9, qP, qF i11, qF i12, qF i13, hL, hS, B0, B1, B2, Bq⟩
   · refine GSlot.want rfl rfl (by decide) (fun g ac wc hr hI => ?_) ?_
     · obtain ⟨x3, x5, i0, i1, i2, i3, i4, i5, i6, i7, i8, i9, i10, i11, i12, i13, hL, hS, B0, B1, B2, Bq⟩ := hI
       simp [Region.binds] at hr
       exact i3 (by simp [hr])
     unfold SlotStep
     intro g ac wc hn hk hr hI K' hK
     have HI := Lib.hid hI
     obtain ⟨x3, x5, i0, i1, i2, i3, i4, i5, i6, i7, i8, i9, i10, i11, i12, i13, hL, hS, B0, B1, B2, Bq⟩ := hI
     simp [Region.binds] at hr
     replace hK := Lib.hid hK
     have y8 := i8 (by simp [hr])
     have y10 := i10 (by simp [hr])
     clear i0 i1 i2 i3 i4 i5 i6 i7 i8 i9 i10 i11 i12 i13
     go_simp
     refine (w_l01Has _ _ _ _ (H'.out.later hL)).mono ?_
     rintro e w4 ⟨rfl, rfl⟩
     rw [HH.out]
     obtain ⟨-, -, i0, i1, i2, i3, i4, i5, i6, i7, i8, i9, i10, i11, i12, i13, -⟩ := HI.out
     exact hK.out _ _ ⟨qB x3, qB x5, qF i0, qF i1, qF i2, qF i3, qF i4, qF i5, qF i6, qF i7, qF i8, qF i9, qF i10, qP, qF i12, qF i13, hL, hS, B0, B1, B2, Bq⟩
   · refine GSlot.want rfl rfl (by decide) (fun g ac wc hr hI => ?_) ?_
     · obtain ⟨x3, x5, i0, i1, i2, i3, i4, i5, i6, i7, i8, i9, i10, i11, i12, i13, hL, hS, B0, B1, B2, Bq⟩ := hI
       simp [Region.binds] at hr
       exact i3 (by simp [hr])
     unfold SlotStep
     intro g ac wc hn hk hr hI K' hK
     have HI := Lib.hid hI
     obtain ⟨x3, x5, i0, i1, i2, i3, i4, i5, i6, i7, i8, i9, i10, i11, i12, i13, hL, hS, B0, B1, B2, Bq⟩ := hI
     simp [Region.binds] at hr
     replace hK := Lib.hid hK
     have y11 := i11 (by simp [hr])
     clear i0 i1 i2 i3 i4 i5 i6 i7 i8 i9 i10 i11 i12 i13
     go_simp
     obtain ⟨-, -, i0, i1, i2, i3, i4, i5, i6, i7, i8, i9, i10, i11, i12, i13, -⟩ := HI.out
     exact hK.out _ _ ⟨qB x3, qB x5, qF i0, qF i1, qF i2, qF i3, qF i4, qF i5, qF i6, qF i7, qF i8, qF i9, qF i10, qF i11, qP, qF i13, hL, hS, B0, B1, B2, Bq⟩
   · refine GSlot.of rfl ?_
     unfold SlotStep
     intro g ac wc hn hk hr hI K' hK
     have HI := Lib.hid hI
     obtain ⟨x3, x5, i0, i1, i2, i3, i4, i5, i6, i7, i8, i9, i10, i11, i12, i13, hL, hS, B0, B1, B2, Bq⟩ := hI
     simp [Region.binds] at hr
     replace hK := Lib.hid hK
     have y3 := i3 (by simp [hr])
     have y12 := i12 (by simp [hr])
     have z3 := sl_get y3 (by omega)
     have z12 := sl_get y12 (by omega)
     clear i0 i1 i2 i3 i4 i5 i6 i7 i8 i9 i10 i11 i12 i13
     go_simp
     obtain ⟨-, -, i0, i1, i2, i3, i4, i5, i6, i7, i8, i9, i10, i11, i12, i13, -⟩ := HI.out
     exact hK.out _ _ ⟨qB x3, qB x5, qF i0, qF i1, qF i2, qF i3, qF i4, qF i5, qF i6, qF i7, qF i8, qF i9, qF i10, qF i11, qF i12, qP, hL, hS, B0, B1, B2, Bq⟩
set_option maxHeartbeats 4000000 in
theorem w_specMv2 (n : Int) (u v : Value) (st sd : List Int) (a b s d t : Int) (w : World) (h : IsNums w u st) (h' : IsNums w v sd) (hs : isStg ⟨a, b⟩ = true) (s1 : 0 ≤ s) (s2 : s ≤ 4) (hf : isFig ⟨d, t⟩ = true) :
 Calls Tryz.prog 90 #[.agg #[.int .i64 n, u, v], .agg #[.int .i64 a, .int .i64 b], .agg #[.int .i64 2, .int .i64 s, .int .i64 d, .int .i64 t]] w fun e w' => e = .returned (.tuple #[.agg #[.int .i64 (mvS ⟨n, st, sd⟩ ⟨a, b⟩ ⟨2, s, ⟨d, t⟩⟩).sh, .int .i64 (mvS ⟨n, st, sd⟩ ⟨a, b⟩ ⟨2, s, ⟨d, t⟩⟩).cu], .bool (mvOk ⟨n, st, sd⟩ ⟨a, b⟩ ⟨2, s, ⟨d, t⟩⟩)]) ∧ Later w w' := by
 have hsb := isStg_bd hs
 simp only at hsb
 obtain ⟨a1, a2, b1, b2⟩ := hsb
 clear hs
 have hfb := isFig_true hf
 simp only at hfb
 obtain ⟨t1, t2, t3, t4⟩ := hfb
 clear hf
 have hp := ptF_bd (s := s) (f := ⟨d, t⟩) t1 t2
 obtain ⟨PT, hPT⟩ : ∃ PT, ptF s ⟨d, t⟩ = PT := ⟨_, rfl⟩
 rw [hPT] at hp
 obtain ⟨p1, p2⟩ := hp
 obtain ⟨Hb, hHb⟩ : ∃ Hb, hasI sd s = Hb := ⟨_, rfl⟩
 have hon : mvOn ⟨n, st, sd⟩ ⟨2, s, ⟨d, t⟩⟩ = Hb := hHb
 have hF0 := Lib.hid (show Hb = false → mvS ⟨n, st, sd⟩ ⟨a, b⟩ ⟨2, s, ⟨d, t⟩⟩ = ⟨0, 0⟩ ∧ mvOk ⟨n, st, sd⟩ ⟨a, b⟩ ⟨2, s, ⟨d, t⟩⟩ = false from fun e => by rw [mvS, mvOk, hon, e]; exact ⟨rfl, rfl⟩)
 have hF1 := Lib.hid (show Hb = true → mvS ⟨n, st, sd⟩ ⟨a, b⟩ ⟨2, s, ⟨d, t⟩⟩ = ⟨b - PT, b⟩ ∧ mvOk ⟨n, st, sd⟩ ⟨a, b⟩ ⟨2, s, ⟨d, t⟩⟩ = isStg ⟨b - PT, b⟩ from fun e => by rw [mvS, mvOk, hon, e, ← hPT]; exact ⟨rfl, rfl⟩)
 have HPT := Lib.hid hPT
 have HH := Lib.hid hHb
 have H := Lib.hid h
 have H' := Lib.hid h'
 obtain ⟨_, _, au, capu, rfl, _, _, _⟩ := h
 obtain ⟨_, _, av, capv, rfl, _, _, _⟩ := h'
 clear hPT hHb hon
 go_enter Tryz.func90, Tryz.ntmps90
 go_wp2_with fail
 refine wp_name ?_
 intro u hu
 have K0 : u.heap[w.heap.size]? = some (.cells #[.int .i64 n, .slice au st.length capu, .slice av sd.length capv] 26 (0, 0)) := by rw [hu]; exact heap_alloc_old _ _ (heap_alloc_old _ _ (heap_alloc_old _ _ (heap_alloc_new _ _)))
 have K1 : u.heap[w.heap.size + 1]? = some (.cells #[.int .i64 a, .int .i64 b] 28 (0, 0)) := by rw [hu]; exact heap_alloc_old _ _ (heap_alloc_old _ _ (heap_alloc_new' _ _ (by simp)))
 have K2 : u.heap[w.heap.size + 1 + 1]? = some (.cells #[.int .i64 2, .int .i64 s, .int .i64 d, .int .i64 t] 107 (0, 0)) := by rw [hu]; exact heap_alloc_old _ _ (heap_alloc_new' _ _ (by simp))
 have Kq : u.heap[w.heap.size + 1 + 1 + 1]? = some (.cells #[.int .i64 0, .int .i64 0] 28 (0, 0)) := by rw [hu]; exact heap_alloc_new' _ _ (by simp)
 have hL0 : Later w u := by rw [hu]; exact qla
 have hsz : w.heap.size + 1 + 1 + 1 + 1 ≤ u.heap.size := by rw [hu]; simp
 have hSB := hL0.size
 clear hu
 refine region_guards 75 [9, 10, 11, 12, 13, 14, 15, 16, 17, 18, 19, 20, 21, 22] (fun g ac wc => sl ac 3 = .pointer (some ⟨w.heap.size, 0, none⟩) ∧
  sl ac 5 = .pointer (some ⟨w.heap.size + 1 + 1, 0, none⟩) ∧
  (g 0 = true → sl ac 9 = .pointer (some ⟨w.heap.size + 1 + 1, 0, none⟩)) ∧
  (g 1 = true → sl ac 10 = .int .i64 2) ∧
  (g 2 = true → sl ac 11 = .bool true) ∧
  (g 3 = true → sl ac 12 = .bool true) ∧
  (g 4 = true → sl ac 13 = .agg #[.int .i64 n, .slice au st.length capu, .slice av sd.length capv]) ∧
  (g 5 = true → sl ac 14 = .pointer (some ⟨w.heap.size + 1 + 1, 0, none⟩)) ∧
  (g 6 = true → sl ac 15 = .int .i64 2) ∧
  (g 7 = true → sl ac 16 = .bool true) ∧
  (g 8 = true → sl ac 17 = .slice av sd.length capv) ∧
  (g 9 = true → sl ac 18 = .pointer (some ⟨w.heap.size + 1 + 1, 1, none⟩)) ∧
  (g 10 = true → sl ac 19 = .int .i64 s) ∧
  (g 11 = true → sl ac 20 = .bool Hb) ∧
  (g 12 = true → sl ac 21 = .bool (!Hb)) ∧
  (g 13 = true → sl ac 22 = .bool (!Hb)) ∧
  Later w wc ∧
  u.heap.size ≤ wc.heap.size ∧
  wc.heap[w.heap.size]? = some (.cells #[.int .i64 n, .slice au st.length capu, .slice av sd.length capv] 26 (0, 0)) ∧
  wc.heap[w.heap.size + 1]? = some (.cells #[.int .i64 a, .int .i64 b] 28 (0, 0)) ∧
  wc.heap[w.heap.size + 1 + 1]? = some (.cells #[.int .i64 2, .int .i64 s, .int .i64 d, .int .i64 t] 107 (0, 0)) ∧
  wc.heap[w.heap.size + 1 + 1 + 1]? = some (.cells #[.int .i64 0, .int .i64 0] 28 (0, 0))) (by kernel_rfl) (by kernel_rfl) rfl (by kernel_rfl) ?_ ?_ ?_
 · exact ⟨rfl, rfl, nofun, nofun, nofun, nofun, nofun, nofun, nofun, nofun, nofun, nofun, nofun, nofun, nofun, nofun, hL0.drew, Nat.le_refl _, K0, K1, K2, Kq⟩
 · intro g ac wu hg ha hI
   obtain ⟨x3, x5, i0, i1, i2, i3, i4, i5, i6, i7, i8, i9, i10, i11, i12, i13, hL, hS, B0, B1, B2, Bq⟩ := hI
   have a0 := i0 (hg 0 (by simp))
   have a1 := i1 (hg 1 (by simp))
   have a2 := i2 (hg 2 (by simp))
   have a3 := i3 (hg 3 (by simp))
   have a4 := i4 (hg 4 (by simp))
   have a5 := i5 (hg 5 (by simp))
   have a6 := i6 (hg 6 (by simp))
   have a7 := i7 (hg 7 (by simp))
   have a8 := i8 (hg 8 (by simp))
   have a9 := i9 (hg 9 (by simp))
   have a10 := i10 (hg 10 (by simp))
   have a11 := i11 (hg 11 (by simp))
   have a12 := i12 (hg 12 (by simp))
   have a13 := i13 (hg 13 (by simp))
   simp only [putAll, a0, a1, a2, a3, a4, a5, a6, a7, a8, a9, a10, a11, a12, a13] at ha
   simp only [Act.put, List.setIfInBounds_toArray, List.set_cons_succ, List.set_cons_zero] at ha
   rw [ha]
   clear x3 x5 i0 i1 i2 i3 i4 i5 i6 i7 i8 i9 i10 i11 i12 i13 a0 a1 a2 a3 a4 a5 a6 a7 a8 a9 a10 a11 a12 a13 hg ha
   have hSu : w.heap.size + 1 + 1 + 1 + 1 ≤ wu.heap.size := by omega
   obtain ⟨c2, f2, z2⟩ := blk_at B2
   obtain ⟨c1, f1, z1⟩ := blk_at B1
   obtain ⟨c3, f3, z3⟩ := blk_at Bq
   have HB1 := Lib.hid B1
   have HB2 := Lib.hid B2
   have HBq := Lib.hid Bq
   clear B0 B1 B2 Bq
   cases Hb
   · have HF := Lib.hid (hF0.out rfl)
     go_wp2
     refine bodyPost_ret (v := .tuple #[.agg #[.int .i64 0, .int .i64 0], .bool false]) (by simp [results, Tryz.results90, go_sem, c3, z3]) rfl ⟨by rw [HF.out.1, HF.out.2], qla⟩
   have HF := Lib.hid (hF1.out rfl)
   go_wp2_with fail
   refine wp_name ?_
   intro u8 hu
   have Kr : u8.heap[wu.heap.size]? = some (.cells #[.int .i64 a, .int .i64 b] 28 (0, 0)) := by rw [hu]; exact heap_alloc_new _ _
   have K1 : u8.heap[w.heap.size + 1]? = some (.cells #[.int .i64 a, .int .i64 b] 28 (0, 0)) := by rw [hu]; exact heap_alloc_old _ _ HB1.out
   have K2 : u8.heap[w.heap.size + 1 + 1]? = some (.cells #[.int .i64 2, .int .i64 s, .int .i64 d, .int .i64 t] 107 (0, 0)) := by rw [hu]; exact heap_alloc_old _ _ HB2.out
   have Kq : u8.heap[w.heap.size + 1 + 1 + 1]? = some (.cells #[.int .i64 0, .int .i64 0] 28 (0, 0)) := by rw [hu]; exact heap_alloc_old _ _ HBq.out
   have hL0 : Later w u8 := by rw [hu]; exact qla
   have hSB := hL0.size
   have hRB : w.heap.size ≤ wu.heap.size := hL.size
   have hlt8 : wu.heap.size < u8.heap.size := by rw [hu]; simp
   clear hu hL hS c1 f1 z1 c2 f2 z2 c3 f3 z3
   refine region_slots 75 [41, 42, 43, 44, 45, 46, 47, 48, 49] (fun g ac wc => sl ac 4 = .pointer (some ⟨w.heap.size + 1, 0, none⟩) ∧
    sl ac 5 = .pointer (some ⟨w.heap.size + 1 + 1, 0, none⟩) ∧
    sl ac 8 = .pointer (some ⟨wu.heap.size, 0, none⟩) ∧
    (g 0 = true → sl ac 41 = .pointer (some ⟨w.heap.size + 1, 1, none⟩)) ∧
    (g 1 = true → sl ac 42 = .int .i64 b) ∧
    (g 2 = true → sl ac 43 = .pointer (some ⟨w.heap.size + 1 + 1, 1, none⟩)) ∧
    (g 3 = true → sl ac 44 = .int .i64 s) ∧
    (g 4 = true → sl ac 45 = .pointer (some ⟨w.heap.size + 1 + 1, 2, none⟩)) ∧
    (g 5 = true → sl ac 46 = .agg #[.int .i64 d, .int .i64 t]) ∧
    (g 6 = true → sl ac 47 = .int .i64 PT) ∧
    (g 7 = true → sl ac 48 = .int .i64 (b - PT)) ∧
    (g 8 = true → sl ac 49 = .pointer (some ⟨wu.heap.size, 0, none⟩)) ∧
    Later w wc ∧
    u8.heap.size ≤ wc.heap.size ∧
    wc.heap[w.heap.size + 1]? = some (.cells #[.int .i64 a, .int .i64 b] 28 (0, 0)) ∧
    wc.heap[w.heap.size + 1 + 1]? = some (.cells #[.int .i64 2, .int .i64 s, .int .i64 d, .int .i64 t] 107 (0, 0)) ∧
    wc.heap[w.heap.size + 1 + 1 + 1]? = some (.cells #[.int .i64 0, .int .i64 0] 28 (0, 0)) ∧
    (∃ r0 r1, wc.heap[wu.heap.size]? = some (.cells #[r0, r1] 28 (0, 0)) ∧ (g 9 = true → r0 = .int .i64 (b - PT) ∧ r1 = .int .i64 b) ∧ (g 9 = false → r0 = .int .i64 a ∧ r1 = .int .i64 b))) (by kernel_rfl) (by kernel_rfl) rfl (by kernel_rfl) ?_ ?_ ?_
   · exact ⟨rfl, rfl, rfl, nofun, nofun, nofun, nofun, nofun, nofun, nofun, nofun, nofun, hL0.drew, Nat.le_refl _, K1, K2, Kq, ⟨_, _, Kr, nofun, fun _ => ⟨rfl, rfl⟩⟩⟩
   · intro g ac wv hg ha hI
     obtain ⟨x4, x5, x8, i0, i1, i2, i3, i4, i5, i6, i7, i8, hL, hS, B1, B2, Bq, Rr⟩ := hI
     have a0 := i0 (hg 0 (by simp))
     have a1 := i1 (hg 1 (by simp))
     have a2 := i2 (hg 2 (by simp))
     have a3 := i3 (hg 3 (by simp))
     have a4 := i4 (hg 4 (by simp))
     have a5 := i5 (hg 5 (by simp))
     have a6 := i6 (hg 6 (by simp))
     have a7 := i7 (hg 7 (by simp))
     have a8 := i8 (hg 8 (by simp))
     obtain ⟨r0, r1, Kr, gr⟩ := Rr
     have gr := gr.1 (hg 9 (by simp))
     rw [gr.1, gr.2] at Kr
     clear gr
     simp only [putAll, a0, a1, a2, a3, a4, a5, a6, a7, a8] at ha
     simp only [Act.put, List.setIfInBounds_toArray, List.set_cons_succ, List.set_cons_zero] at ha
     rw [ha]
     clear x4 x5 x8 i0 i1 i2 i3 i4 i5 i6 i7 i8 a0 a1 a2 a3 a4 a5 a6 a7 a8 hg ha
     have K1 := Kr
     have Kq := Bq
     have hL0 := hL
     have hSB := hL0.size
     have hRBq : w.heap.size ≤ w.heap.size + 1 + 1 + 1 := by omega
     have lt1 := (Array.getElem?_eq_some_iff.1 K1).1
     clear hL hS Kr Bq B1 B2
     go_wp2_with fail
     refine region_slots 75 [72, 73, 74, 7] (fun g ac wc => sl ac 8 = .pointer (some ⟨wu.heap.size, 0, none⟩) ∧
      sl ac 6 = .pointer (some ⟨w.heap.size + 1 + 1 + 1, 0, none⟩) ∧
      (g 0 = true → sl ac 72 = .agg #[.int .i64 (b - PT), .int .i64 b]) ∧
      (g 1 = true → sl ac 73 = .agg #[.int .i64 (b - PT), .int .i64 b]) ∧
      (g 2 = true → sl ac 74 = .bool (isStg ⟨(b - PT), b⟩)) ∧
      (g 4 = true → sl ac 7 = .bool (isStg ⟨(b - PT), b⟩)) ∧
      Later w wc ∧
      wv.heap.size ≤ wc.heap.size ∧
      wc.heap[wu.heap.size]? = some (.cells #[.int .i64 (b - PT), .int .i64 b] 28 (0, 0)) ∧
      (∃ q0 q1, wc.heap[w.heap.size + 1 + 1 + 1]? = some (.cells #[q0, q1] 28 (0, 0)) ∧ (g 3 = true → q0 = .int .i64 (b - PT) ∧ q1 = .int .i64 b))) (by kernel_rfl) (by kernel_rfl) rfl (by kernel_rfl) ?_ ?_ ?_
     · exact ⟨rfl, rfl, nofun, nofun, nofun, nofun, hL0.drew, Nat.le_refl _, K1, ⟨_, _, Kq, nofun⟩⟩
     · intro g ac wt hg ha hI
       obtain ⟨x8, x6, i0, i1, i2, i4, hL, hS, B1, Rq⟩ := hI
       have a0 := i0 (hg 0 (by simp))
       have a1 := i1 (hg 1 (by simp))
       have a2 := i2 (hg 2 (by simp))
       have a4 := i4 (hg 4 (by simp))
       obtain ⟨q0, q1, Kq, gr⟩ := Rq
       have gr := gr (hg 3 (by simp))
       rw [gr.1, gr.2] at Kq
       clear gr
       simp only [putAll, a0, a1, a2, a4] at ha
       simp only [Act.put, List.setIfInBounds_toArray, List.set_cons_succ, List.set_cons_zero] at ha
       rw [ha]
       clear x8 x6 i0 i1 i2 i4 a0 a1 a2 a4 hg ha
       have c0 := (blk_at Kq).1
       have z0 := (blk_at Kq).2.2
       go_wp2
       refine bodyPost_ret (v := .tuple #[.agg #[.int .i64 (b - PT), .int .i64 b], .bool (isStg ⟨(b - PT), b⟩)]) (by simp [results, Tryz.results90, go_sem, c0, z0]) rfl ⟨by rw [HF.out.1, HF.out.2], hL⟩
     · refine .cons ?_ (.cons ?_ (.cons ?_ (.cons ?_ (.cons ?_ .nil))))
       · refine qst fun g ac wc hn hk hr HI K' hK => ?_
         obtain ⟨x8, x6, -, -, -, -, hL, hS, B1, Rq⟩ := HI.out
         simp [Region.binds] at hr
         obtain ⟨c0, f0, z0⟩ := blk_at B1
         go_simp
         obtain ⟨-, -, i0, i1, i2, i4, -⟩ := HI.out
         exact hK.out _ _ ⟨qB x8, qB x6, qP, qF i1, qF i2, qF i4, hL, hS, B1, Rq⟩
       · refine qst fun g ac wc hn hk hr HI K' hK => ?_
         obtain ⟨x8, x6, -, -, -, -, hL, hS, B1, Rq⟩ := HI.out
         simp [Region.binds] at hr
         obtain ⟨c0, f0, z0⟩ := blk_at B1
         go_simp
         obtain ⟨-, -, i0, i1, i2, i4, -⟩ := HI.out
         exact hK.out _ _ ⟨qB x8, qB x6, qF i0, qP, qF i2, qF i4, hL, hS, B1, Rq⟩
       · refine qst fun g ac wc hn hk hr HI K' hK => ?_
         obtain ⟨x8, x6, -, i1, -, -, hL, hS, B1, Rq⟩ := HI.out
         simp [Region.binds] at hr
         have y1 := i1 (by simp [hr])
         clear i1
         go_simp
         refine (w_specIsSetting _ _ _).mono ?_
         rintro e w4 ⟨rfl, hL4⟩
         obtain ⟨-, -, i0, i1, i2, i4, -⟩ := HI.out
         exact hK.out _ _ ⟨qB x8, qB x6, qF i0, qF i1, qP, qF i4, hL.trans hL4, Nat.le_trans hS hL4.size, hL4.keep B1, (by obtain ⟨q0, q1, R1, R2⟩ := Rq; exact ⟨q0, q1, hL4.keep R1, R2⟩)⟩
       · refine qst fun g ac wc hn hk hr HI K' hK => ?_
         obtain ⟨x8, x6, i0, -, -, -, hL, hS, B1, Rq⟩ := HI.out
         simp [Region.binds] at hr
         have y0 := i0 (by simp [hr])
         clear i0
         obtain ⟨q0, q1, R1, -⟩ := Rq
         obtain ⟨c0, f0, z0⟩ := blk_at R1
         go_simp
         obtain ⟨-, -, i0, i1, i2, i4, -⟩ := HI.out
         exact hK.out undef _ ⟨x8, x6, i0, i1, i2, i4, ((hL.setCell hRBq _).setCell hRBq _), (by simp; omega), (other_set (other_set B1 (by omega) _) (by omega) _), ⟨_, _, two_set R1 _ _, fun _ => ⟨rfl, rfl⟩⟩⟩
       · refine qst fun g ac wc hn hk hr HI K' hK => ?_
         obtain ⟨x8, x6, -, -, i2, -, hL, hS, B1, Rq⟩ := HI.out
         simp [Region.binds] at hr
         have y2 := i2 (by simp [hr])
         clear i2
         go_simp
         obtain ⟨-, -, i0, i1, i2, i4, -⟩ := HI.out
         exact hK.out _ _ ⟨qB x8, qB x6, qF i0, qF i1, qF i2, qP, hL, hS, B1, Rq⟩
   · refine .cons ?_ (.cons ?_ (.cons ?_ (.cons ?_ (.cons ?_ (.cons ?_ (.cons ?_ (.cons ?_ (.cons ?_ (.cons ?_ .nil)))))))))
     · refine qst fun g ac wc hn hk hr HI K' hK => ?_
       obtain ⟨x4, x5, x8, -, -, -, -, -, -, -, -, -, hL, hS, B1, B2, Bq, Rr⟩ := HI.out
       simp [Region.binds] at hr
       go_simp
       obtain ⟨-, -, -, i0, i1, i2, i3, i4, i5, i6, i7, i8, -⟩ := HI.out
       exact hK.out _ _ ⟨qB x4, qB x5, qB x8, qP, qF i1, qF i2, qF i3, qF i4, qF i5, qF i6, qF i7, qF i8, hL, hS, B1, B2, Bq, Rr⟩
     · refine qst fun g ac wc hn hk hr HI K' hK => ?_
       obtain ⟨x4, x5, x8, i0, -, -, -, -, -, -, -, -, hL, hS, B1, B2, Bq, Rr⟩ := HI.out
       simp [Region.binds] at hr
       have y0 := i0 (by simp [hr])
       clear i0
       obtain ⟨c0, f0, z0⟩ := blk_at B1
       go_simp
       obtain ⟨-, -, -, i0, i1, i2, i3, i4, i5, i6, i7, i8, -⟩ := HI.out
       exact hK.out _ _ ⟨qB x4, qB x5, qB x8, qF i0, qP, qF i2, qF i3, qF i4, qF i5, qF i6, qF i7, qF i8, hL, hS, B1, B2, Bq, Rr⟩
     · refine qst fun g ac wc hn hk hr HI K' hK => ?_
       obtain ⟨x4, x5, x8, -, -, -, -, -, -, -, -, -, hL, hS, B1, B2, Bq, Rr⟩ := HI.out
       simp [Region.binds] at hr
       go_simp
       obtain ⟨-, -, -, i0, i1, i2, i3, i4, i5, i6, i7, i8, -⟩ := HI.out
       exact hK.out _ _ ⟨qB x4, qB x5, qB x8, qF i0, qF i1, qP, qF i3, qF i4, qF i5, qF i6, qF i7, qF i8, hL, hS, B1, B2, Bq, Rr⟩
     · refine qst fun g ac wc hn hk hr HI K' hK => ?_
       obtain ⟨x4, x5, x8, -, -, i2, -, -, -, -, -, -, hL, hS, B1, B2, Bq, Rr⟩ := HI.out
       simp [Region.binds] at hr
       have y2 := i2 (by simp [hr])
       clear i2
       obtain ⟨c0, f0, z0⟩ := blk_at B2
       go_simp
       obtain ⟨-, -, -, i0, i1, i2, i3, i4, i5, i6, i7, i8, -⟩ := HI.out
       exact hK.out _ _ ⟨qB x4, qB x5, qB x8, qF i0, qF i1, qF i2, qP, qF i4, qF i5, qF i6, qF i7, qF i8, hL, hS, B1, B2, Bq, Rr⟩
     · refine qst fun g ac wc hn hk hr HI K' hK => ?_
       obtain ⟨x4, x5, x8, -, -, -, -, -, -, -, -, -, hL, hS, B1, B2, Bq, Rr⟩ := HI.out
       simp [Region.binds] at hr
       go_simp
       obtain ⟨-, -, -, i0, i1, i2, i3, i4, i5, i6, i7, i8, -⟩ := HI.out
       exact hK.out _ _ ⟨qB x4, qB x5, qB x8, qF i0, qF i1, qF i2, qF i3, qP, qF i5, qF i6, qF i7, qF i8, hL, hS, B1, B2, Bq, Rr⟩
     · refine qst fun g ac wc hn hk hr HI K' hK => ?_
       obtain ⟨x4, x5, x8, -, -, -, -, i4, -, -, -, -, hL, hS, B1, B2, Bq, Rr⟩ := HI.out
       simp [Region.binds] at hr
       have y4 := i4 (by simp [hr])
       clear i4
       obtain ⟨c0, f0, z0⟩ := blk_at B2
       go_simp
       obtain ⟨-, -, -, i0, i1, i2, i3, i4, i5, i6, i7, i8, -⟩ := HI.out
       exact hK.out _ _ ⟨qB x4, qB x5, qB x8, qF i0, qF i1, qF i2, qF i3, qF i4, qP, qF i6, qF i7, qF i8, hL, hS, B1, B2, Bq, Rr⟩
     · refine qst fun g ac wc hn hk hr HI K' hK => ?_
       obtain ⟨x4, x5, x8, -, -, -, i3, -, i5, -, -, -, hL, hS, B1, B2, Bq, Rr⟩ := HI.out
       simp [Region.binds] at hr
       have y3 := i3 (by simp [hr])
       have y5 := i5 (by simp [hr])
       clear i3 i5
       go_simp
       refine (w_specPoint _ _ _ s1 s2 t1 t2 (by omega) (by omega) _).mono ?_
       rintro e w4 ⟨rfl, hL4⟩
       rw [HPT.out]
       obtain ⟨-, -, -, i0, i1, i2, i3, i4, i5, i6, i7, i8, -⟩ := HI.out
       exact hK.out _ _ ⟨qB x4, qB x5, qB x8, qF i0, qF i1, qF i2, qF i3, qF i4, qF i5, qP, qF i7, qF i8, hL.trans hL4, Nat.le_trans hS hL4.size, hL4.keep B1, hL4.keep B2, hL4.keep Bq, (by obtain ⟨r0, r1, R1, R2⟩ := Rr; exact ⟨r0, r1, hL4.keep R1, R2⟩)⟩
     · refine qst fun g ac wc hn hk hr HI K' hK => ?_
       obtain ⟨x4, x5, x8, -, i1, -, -, -, -, i6, -, -, hL, hS, B1, B2, Bq, Rr⟩ := HI.out
       simp [Region.binds] at hr
       have y1 := i1 (by simp [hr])
       have y6 := i6 (by simp [hr])
       clear i1 i6
       have wD : IntKind.i64.wrap (b - PT) = b - PT := wrap_same (by omega) (by omega)
       go_simp
       obtain ⟨-, -, -, i0, i1, i2, i3, i4, i5, i6, i7, i8, -⟩ := HI.out
       exact hK.out _ _ ⟨qB x4, qB x5, qB x8, qF i0, qF i1, qF i2, qF i3, qF i4, qF i5, qF i6, qP, qF i8, hL, hS, B1, B2, Bq, Rr⟩
     · refine qst fun g ac wc hn hk hr HI K' hK => ?_
       obtain ⟨x4, x5, x8, -, -, -, -, -, -, -, -, -, hL, hS, B1, B2, Bq, Rr⟩ := HI.out
       simp [Region.binds] at hr
       go_simp
       obtain ⟨-, -, -, i0, i1, i2, i3, i4, i5, i6, i7, i8, -⟩ := HI.out
       exact hK.out _ _ ⟨qB x4, qB x5, qB x8, qF i0, qF i1, qF i2, qF i3, qF i4, qF i5, qF i6, qF i7, qP, hL, hS, B1, B2, Bq, Rr⟩
     · refine qst fun g ac wc hn hk hr HI K' hK => ?_
       obtain ⟨x4, x5, x8, -, -, -, -, -, -, -, i7, i8, hL, hS, B1, B2, Bq, Rr⟩ := HI.out
       simp [Region.binds] at hr
       have y8 := i8 (by simp [hr])
       have y7 := i7 (by simp [hr])
       clear i7 i8
       obtain ⟨r0, r1, R1, -, R3⟩ := Rr
       have R3 := R3 hk
       rw [R3.1, R3.2] at R1
       obtain ⟨c0, f0, z0⟩ := blk_at R1
       go_simp
       obtain ⟨-, -, -, i0, i1, i2, i3, i4, i5, i6, i7, i8, -⟩ := HI.out
       exact hK.out undef _ ⟨x4, x5, x8, i0, i1, i2, i3, i4, i5, i6, i7, i8, (hL.setCell hRB _), (by simp; omega), (other_set B1 (by omega) _), (other_set B2 (by omega) _), (other_set Bq (by omega) _), ⟨_, _, set_0of2 R1 _, fun _ => ⟨rfl, rfl⟩, fun h => absurd h (by simp)⟩⟩
 · refine .cons ?_ (.cons ?_ (.cons ?_ (.cons ?_ (.cons ?_ (.cons ?_ (.cons ?_ (.cons ?_ (.cons ?_ (.cons ?_ (.cons ?_ (.cons ?_ (.cons ?_ (.cons ?_ .nil)))))))))))))
   · refine GSlot.of rfl ?_
     unfold SlotStep
     intro g ac wc hn hk hr hI K' hK
     have HI := Lib.hid hI
     obtain ⟨x3, x5, i0, i1, i2, i3, i4, i5, i6, i7, i8, i9, i10, i11, i12, i13, hL, hS, B0, B1, B2, Bq⟩ := hI
     simp [Region.binds] at hr
     replace hK := Lib.hid hK
     clear i0 i1 i2 i3 i4 i5 i6 i7 i8 i9 i10 i11 i12 i13
     go_simp
     obtain ⟨-, -, i0, i1, i2, i3, i4, i5, i6, i7, i8, i9, i10, i11, i12, i13, -⟩ := HI.out
     exact hK.out _ _ ⟨qB x3, qB x5, qP, qF i1, qF i2, qF i3, qF i4, qF i5, qF i6, qF i7, qF i8, qF i9, qF i10, qF i11, qF i12, qF i13, hL, hS, B0, B1, B2, Bq⟩
   · refine GSlot.of rfl ?_
     unfold SlotStep
     intro g ac wc hn hk hr hI K' hK
     have HI := Lib.hid hI
     obtain ⟨x3, x5, i0, i1, i2, i3, i4, i5, i6, i7, i8, i9, i10, i11, i12, i13, hL, hS, B0, B1, B2, Bq⟩ := hI
     simp [Region.binds] at hr
     replace hK := Lib.hid hK
     have y0 := i0 (by simp [hr])
     clear i0 i1 i2 i3 i4 i5 i6 i7 i8 i9 i10 i11 i12 i13
     obtain ⟨c0, f0, z0⟩ := blk_at B2
     go_simp
     obtain ⟨-, -, i0, i1, i2, i3, i4, i5, i6, i7, i8, i9, i10, i11, i12, i13, -⟩ := HI.out
     exact hK.out _ _ ⟨qB x3, qB x5, qF i0, qP, qF i2, qF i3, qF i4, qF i5, qF i6, qF i7, qF i8, qF i9, qF i10, qF i11, qF i12, qF i13, hL, hS, B0, B1, B2, Bq⟩
   · refine GSlot.of rfl ?_
     unfold SlotStep
     intro g ac wc hn hk hr hI K' hK
     have HI := Lib.hid hI
     obtain ⟨x3, x5, i0, i1, i2, i3, i4, i5, i6, i7, i8, i9, i10, i11, i12, i13, hL, hS, B0, B1, B2, Bq⟩ := hI
     simp [Region.binds] at hr
     replace hK := Lib.hid hK
     have y1 := i1 (by simp [hr])
     clear i0 i1 i2 i3 i4 i5 i6 i7 i8 i9 i10 i11 i12 i13
     go_simp
     obtain ⟨-, -, i0, i1, i2, i3, i4, i5, i6, i7, i8, i9, i10, i11, i12, i13, -⟩ := HI.out
     exact hK.out _ _ ⟨qB x3, qB x5, qF i0, qF i1, qP, qF i3, qF i4, qF i5, qF i6, qF i7, qF i8, qF i9, qF i10, qF i11, qF i12, qF i13, hL, hS, B0, B1, B2, Bq⟩
   · refine GSlot.of rfl ?_
     unfold SlotStep
     intro g ac wc hn hk hr hI K' hK
     have HI := Lib.hid hI
     obtain ⟨x3, x5, i0, i1, i2, i3, i4, i5, i6, i7, i8, i9, i10, i11, i12, i13, hL, hS, B0, B1, B2, Bq⟩ := hI
     simp [Region.binds] at hr
     replace hK := Lib.hid hK
     have y2 := i2 (by simp [hr])
     clear i0 i1 i2 i3 i4 i5 i6 i7 i8 i9 i10 i11 i12 i13
     go_simp
     obtain ⟨-, -, i0, i1, i2, i3, i4, i5, i6, i7, i8, i9, i10, i11, i12, i13, -⟩ := HI.out
     exact hK.out _ _ ⟨qB x3, qB x5, qF i0, qF i1, qF i2, qP, qF i4, qF i5, qF i6, qF i7, qF i8, qF i9, qF i10, qF i11, qF i12, qF i13, hL, hS, B0, B1, B2, Bq⟩
   · refine GSlot.want rfl rfl (by decide) (fun g ac wc hr hI => ?_) ?_
     · obtain ⟨x3, x5, i0, i1, i2, i3, i4, i5, i6, i7, i8, i9, i10, i11, i12, i13, hL, hS, B0, B1, B2, Bq⟩ := hI
       simp [Region.binds] at hr
       exact i3 (by simp [hr])
     unfold SlotStep
     intro g ac wc hn hk hr hI K' hK
     have HI := Lib.hid hI
     obtain ⟨x3, x5, i0, i1, i2, i3, i4, i5, i6, i7, i8, i9, i10, i11, i12, i13, hL, hS, B0, B1, B2, Bq⟩ := hI
     simp [Region.binds] at hr
     replace hK := Lib.hid hK
     clear i0 i1 i2 i3 i4 i5 i6 i7 i8 i9 i10 i11 i12 i13
     obtain ⟨c0, f0, z0⟩ := blk_at B0
     go_simp
     obtain ⟨-, -, i0, i1, i2, i3, i4, i5, i6, i7, i8, i9, i10, i11, i12, i13, -⟩ := HI.out
     exact hK.out _ _ ⟨qB x3, qB x5, qF i0, qF i1, qF i2, qF i3, qP, qF i5, qF i6, qF i7, qF i8, qF i9, qF i10, qF i11, qF i12, qF i13, hL, hS, B0, B1, B2, Bq⟩
   · refine GSlot.want rfl rfl (by decide) (fun g ac wc hr hI => ?_) ?_
     · obtain ⟨x3, x5, i0, i1, i2, i3, i4, i5, i6, i7, i8, i9, i10, i11, i12, i13, hL, hS, B0, B1, B2, Bq⟩ := hI
       simp [Region.binds] at hr
       exact i3 (by simp [hr])
     unfold SlotStep
     intro g ac wc hn hk hr hI K' hK
     have HI := Lib.hid hI
     obtain ⟨x3, x5, i0, i1, i2, i3, i4, i5, i6, i7, i8, i9, i10, i11, i12, i13, hL, hS, B0, B1, B2, Bq⟩ := hI
     simp [Region.binds] at hr
     replace hK := Lib.hid hK
     clear i0 i1 i2 i3 i4 i5 i6 i7 i8 i9 i10 i11 i12 i13
     go_simp
     obtain ⟨-, -, i0, i1, i2, i3, i4, i5, i6, i7, i8, i9, i10, i11, i12, i13, -⟩ := HI.out
     exact hK.out _ _ ⟨qB x3, qB x5, qF i0, qF i1, qF i2, qF i3, qF i4, qP, qF i6, qF i7, qF i8, qF i9, qF i10, qF i11, qF i12, qF i13, hL, hS, B0, B1, B2, Bq⟩
   · refine GSlot.want rfl rfl (by decide) (fun g ac wc hr hI => ?_) ?_
     · obtain ⟨x3, x5, i0, i1, i2, i3, i4, i5, i6, i7, i8, i9, i10, i11, i12, i13, hL, hS, B0, B1, B2, Bq⟩ := hI
       simp [Region.binds] at hr
       exact i3 (by simp [hr])
     unfold SlotStep
     intro g ac wc hn hk hr hI K' hK
     have HI := Lib.hid hI
     obtain ⟨x3, x5, i0, i1, i2, i3, i4, i5, i6, i7, i8, i9, i10, i11, i12, i13, hL, hS, B0, B1, B2, Bq⟩ := hI
     simp [Region.binds] at hr
     replace hK := Lib.hid hK
     have y5 := i5 (by simp [hr])
     clear i0 i1 i2 i3 i4 i5 i6 i7 i8 i9 i10 i11 i12 i13
     obtain ⟨c0, f0, z0⟩ := blk_at B2
     go_simp
     obtain ⟨-, -, i0, i1, i2, i3, i4, i5, i6, i7, i8, i9, i10, i11, i12, i13, -⟩ := HI.out
     exact hK.out _ _ ⟨qB x3, qB x5, qF i0, qF i1, qF i2, qF i3, qF i4, qF i5, qP, qF i7, qF i8, qF i9, qF i10, qF i11, qF i12, qF i13, hL, hS, B0, B1, B2, Bq⟩
   · refine GSlot.want rfl rfl (by decide) (fun g ac wc hr hI => ?_) ?_
     · obtain ⟨x3, x5, i0, i1, i2, i3, i4, i5, i6, i7, i8, i9, i10, i11, i12, i13, hL, hS, B0, B1, B2, Bq⟩ := hI
       simp [Region.binds] at hr
       exact i3 (by simp [hr])
     unfold SlotStep
     intro g ac wc hn hk hr hI K' hK
     have HI := Lib.hid hI
     obtain ⟨x3, x5, i0, i1, i2, i3, i4, i5, i6, i7, i8, i9, i10, i11, i12, i13, hL, hS, B0, B1, B2, Bq⟩ := hI
     simp [Region.binds] at hr
     replace hK := Lib.hid hK
     have y6 := i6 (by simp [hr])
     clear i0 i1 i2 i3 i4 i5 i6 i7 i8 i9 i10 i11 i12 i13
     go_simp
     obtain ⟨-, -, i0, i1, i2, i3, i4, i5, i6, i7, i8, i9, i10, i11, i12, i13, -⟩ := HI.out
     exact hK.out _ _ ⟨qB x3, qB x5, qF i0, qF i1, qF i2, qF i3, qF i4, qF i5, qF i6, qP, qF i8, qF i9, qF i10, qF i11, qF i12, qF i13, hL, hS, B0, B1, B2, Bq⟩
   · refine GSlot.want rfl rfl (by decide) (fun g ac wc hr hI => ?_) ?_
     · obtain ⟨x3, x5, i0, i1, i2, i3, i4, i5, i6, i7, i8, i9, i10, i11, i12, i13, hL, hS, B0, B1, B2, Bq⟩ := hI
       simp [Region.binds] at hr
       exact i3 (by simp [hr])
     unfold SlotStep
     intro g ac wc hn hk hr hI K' hK
     have HI := Lib.hid hI
     obtain ⟨x3, x5, i0, i1, i2, i3, i4, i5, i6, i7, i8, i9, i10, i11, i12, i13, hL, hS, B0, B1, B2, Bq⟩ := hI
     simp [Region.binds] at hr
     replace hK := Lib.hid hK
     have y4 := i4 (by simp [hr])
     have y7 := i7 (by simp [hr])
     clear i0 i1 i2 i3 i4 i5 i6 i7 i8 i9 i10 i11 i12 i13
     go_simp
     refine (w_l11On_sl _ _ _ _ _ _ (H.out.later hL) (H'.out.later hL)).mono ?_
     rintro e w4 ⟨rfl, hL4⟩
     obtain ⟨-, -, i0, i1, i2, i3, i4, i5, i6, i7, i8, i9, i10, i11, i12, i13, -⟩ := HI.out
     exact hK.out _ _ ⟨qB x3, qB x5, qF i0, qF i1, qF i2, qF i3, qF i4, qF i5, qF i6, qF i7, qP, qF i9, qF i10, qF i11, qF i12, qF i13, hL.trans hL4, Nat.le_trans hS hL4.size, hL4.keep B0, hL4.keep B1, hL4.keep B2, hL4.keep Bq⟩
   · refine GSlot.want rfl rfl (by decide) (fun g ac wc hr hI => ?_) ?_
     · obtain ⟨x3, x5, i0, i1, i2, i3, i4, i5, i6, i7, i8, i9, i10, i11, i12, i13, hL, hS, B0, B1, B2, Bq⟩ := hI
       simp [Region.binds] at hr
       exact i3 (by simp [hr])
     unfold SlotStep
     intro g ac wc hn hk hr hI K' hK
     have HI := Lib.hid hI
     obtain ⟨x3, x5, i0, i1, i2, i3, i4, i5, i6, i7, i8, i9, i10, i11, i12, i13, hL, hS, B0, B1, B2, Bq⟩ := hI
     simp [Region.binds] at hr
     replace hK := Lib.hid hK
     clear i0 i1 i2 i3 i4 i5 i6 i7 i8 i9 i10 i11 i12 i13
     go_simp
     obtain ⟨-, -, i0, i1, i2, i3, i4, i5, i6, i7, i8, i9, i10, i11, i12, i13, -⟩ := HI.out
     exact hK.out _ _ ⟨qB x3, qB x5, qF i0, qF i1, qF i2, qF i3, qF i4, qF i5, qF i6, qF i7, qF i8, qP, qF i10, qF i11, qF i12, qF i13, hL, hS, B0, B1, B2, Bq⟩
   · refine GSlot.want rfl rfl (by decide) (fun g ac wc hr hI => ?_) ?_
     · obtain ⟨x3, x5, i0, i1, i2, i3, i4, i5, i6, i7, i8, i9, i10, i11, i12, i13, hL, hS, B0, B1, B2, Bq⟩ := hI
       simp [Region.binds] at hr
       exact i3 (by simp [hr])
     unfold SlotStep
     intro g ac wc hn hk hr hI K' hK
     have HI := Lib.hid hI
     obtain ⟨x3, x5, i0, i1, i2, i3, i4, i5, i6, i7, i8, i9, i10, i11, i12, i13, hL, hS, B0, B1, B2, Bq⟩ := hI
     simp [Region.binds] at hr
     replace hK := Lib.hid hK
     have y9 := i9 (by simp [hr])
     clear i0 i1 i2 i3 i4 i5 i6 i7 i8 i9 i10 i11 i12 i13
     obtain ⟨c0, f0, z0⟩ := blk_at B2
     go_simp
     obtain ⟨-, -, i0, i1, i2, i3, i4, i5, i6, i7, i8, i9, i10, i11, i12, i13, -⟩ := HI.out
     exact hK.out _ _ ⟨qB x3, qB x5, qF i0, qF i1, qF i2, qF i3, qF i4, qF i5, qF i6, qF i7, qF i8, qF i9, qP, qF i11, qF i12, qF i13, hL, hS, B0, B1, B2, Bq⟩
   · refine GSlot.want rfl rfl (by decide) (fun g ac wc hr hI => ?_) ?_
     · obtain ⟨x3, x5, i0, i1, i2, i3, i4, i5, i6, i7, i8, i9, i10, i11, i12, i13, hL, hS, B0, B1, B2, Bq⟩ := hI
       simp [Region.binds] at hr
       exact i3 (by simp [hr])
     unfold SlotStep
     intro g ac wc hn hk hr hI K' hK
     have HI := Lib.hid hI
     obtain ⟨x3, x5, i0, i1, i2, i3, i4, i5, i6, i7, i8, i9, i10, i11, i12, i13, hL, hS, B0, B1, B2, Bq⟩ := hI
     simp [Region.binds] at hr
     replace hK := Lib.hid hK
     have y8 := i8 (by simp [hr])
     have y10 := i10 (by simp [hr])
     clear i0 i1 i2 i3 i4 i5 i6 i7 i8 i9 i10 i11 i12 i13
     go_simp
     refine (w_l01Has _ _ _ _ (H'.out.later hL)).mono ?_
     rintro e w4 ⟨rfl, rfl⟩
     rw [HH.out]
     obtain ⟨-, -, i0, i1, i2, i3, i4, i5, i6, i7, i8, i9, i10, i11, i12, i13, -⟩ := HI.out
     exact hK.out _ _ ⟨qB x3, qB x5, qF i0, qF i1, qF i2, qF i3, qF i4, qF i5, qF i6, qF i7, qF i8, qF i9, qF i10, qP, qF i12, qF i13, hL, hS, B0, B1, B2, Bq⟩
   · refine GSlot.want rfl rfl (by decide) (fun g ac wc hr hI => ?_) ?_
     · obtain ⟨x3, x5, i0, i1, i2, i3, i4, i5, i6, i7, i8, i9, i10, i11, i12, i13, hL, hS, B0, B1, B2, Bq⟩ := hI
       simp [Region.binds] at hr
       exact i3 (by simp [hr])
     unfold SlotStep
     intro g ac wc hn hk hr hI K' hK
     have HI := Lib.hid hI
     obtain ⟨x3, x5, i0, i1, i2, i3, i4, i5, i6, i7, i8, i9, i10, i11, i12, i13, hL, hS, B0, B1, B2, Bq⟩ := hI
     simp [Region.binds] at hr
     replace hK := Lib.hid hK
     have y11 := i11 (by simp [hr])
     clear i0 i1 i2 i3 i4 i5 i6 i7 i8 i9 i10 i11 i12 i13
     go_simp
     obtain ⟨-, -, i0, i1, i2, i3, i4, i5, i6, i7, i8, i9, i10, i11, i12, i13, -⟩ := HI.out
     exact hK.out _ _ ⟨qB x3, qB x5, qF i0, qF i1, qF i2, qF i3, qF i4, qF i5, qF i6, qF i7, qF i8, qF i9, qF i10, qF i11, qP, qF i13, hL, hS, B0, B1, B2, Bq⟩
   · refine GSlot.of rfl ?_
     unfold SlotStep
     intro g ac wc hn hk hr hI K' hK
     have HI := Lib.hid hI
     obtain ⟨x3, x5, i0, i1, i2, i3, i4, i5, i6, i7, i8, i9, i10, i11, i12, i13, hL, hS, B0, B1, B2, Bq⟩ := hI
     simp [Region.binds] at hr
     replace hK := Lib.hid hK
     have y3 := i3 (by simp [hr])
     have y12 := i12 (by simp [hr])
     have z3 := sl_get y3 (by omega)
     have z12 := sl_get y12 (by omega)
     clear i0 i1 i2 i3 i4 i5 i6 i7 i8 i9 i10 i11 i12 i13
     go_simp
     obtain ⟨-, -, i0, i1, i2, i3, i4, i5, i6, i7, i8, i9, i10, i11, i12, i13, -⟩ := HI.out
     exact hK.out _ _ ⟨qB x3, qB x5, qF i0, qF i1, qF i2, qF i3, qF i4, qF i5, qF i6, qF i7, qF i8, qF i9, qF i10, qF i11, qF i12, qP, hL, hS, B0, B1, B2, Bq⟩
set_option maxHeartbeats 4000000 in
theorem w_specMv3 (n : Int) (u v : Value) (st sd : List Int) (a b : Int) (w : World) (h : IsNums w u st) (h' : IsNums w v sd) (hs : isStg ⟨a, b⟩ = true) :
 Calls Tryz.prog 90 #[.agg #[.int .i64 n, u, v], .agg #[.int .i64 a, .int .i64 b], .agg #[.int .i64 3, .int .i64 0, .int .i64 0, .int .i64 0]] w fun e w' => e = .returned (.tuple #[.agg #[.int .i64 (mvS ⟨n, st, sd⟩ ⟨a, b⟩ ⟨3, 0, ⟨0, 0⟩⟩).sh, .int .i64 (mvS ⟨n, st, sd⟩ ⟨a, b⟩ ⟨3, 0, ⟨0, 0⟩⟩).cu], .bool (mvOk ⟨n, st, sd⟩ ⟨a, b⟩ ⟨3, 0, ⟨0, 0⟩⟩)]) ∧ Later w w' := by
 have hsb := isStg_bd hs
 simp only at hsb
 obtain ⟨a1, a2, b1, b2⟩ := hsb
 clear hs
 have HF := Lib.hid (show mvS ⟨n, st, sd⟩ ⟨a, b⟩ ⟨3, 0, ⟨0, 0⟩⟩ = ⟨b, b⟩ ∧ mvOk ⟨n, st, sd⟩ ⟨a, b⟩ ⟨3, 0, ⟨0, 0⟩⟩ = isStg ⟨b, b⟩ from ⟨rfl, rfl⟩)
 obtain ⟨_, _, au, capu, rfl, _, _, _⟩ := h
 obtain ⟨_, _, av, capv, rfl, _, _, _⟩ := h'
 have hd : decide ((3 : Int) ≤ 2) = false := by decide
 go_enter Tryz.func90, Tryz.ntmps90
 go_wp2
 go_quiet (fail)
 go_wp2
 refine wp_name ?_
 intro u hu
 have K1 : u.heap[w.heap.size + 1 + 1 + 1 + 1]? = some (.cells #[.int .i64 b, .int .i64 b] 28 (0, 0)) := by rw [hu]; exact heap_alloc_new' _ _ (by simp)
 have Kq : u.heap[w.heap.size + 1 + 1 + 1]? = some (.cells #[.int .i64 0, .int .i64 0] 28 (0, 0)) := by rw [hu]; exact heap_alloc_old _ _ (show (World.alloc _ _).heap[_]? = _ from heap_alloc_new' _ _ (by simp))
 have hL0 : Later w u := by rw [hu]; exact qla
 have hsz : w.heap.size + 1 + 1 + 1 + 1 + 1 ≤ u.heap.size := by rw [hu]; simp
 have hSB := hL0.size
 have hRBq : w.heap.size ≤ w.heap.size + 1 + 1 + 1 := by omega
 clear hu
 refine region_slots 75 [72, 73, 74, 7] (fun g ac wc => sl ac 8 = .pointer (some ⟨w.heap.size + 1 + 1 + 1 + 1, 0, none⟩) ∧
  sl ac 6 = .pointer (some ⟨w.heap.size + 1 + 1 + 1, 0, none⟩) ∧
  (g 0 = true → sl ac 72 = .agg #[.int .i64 b, .int .i64 b]) ∧
  (g 1 = true → sl ac 73 = .agg #[.int .i64 b, .int .i64 b]) ∧
  (g 2 = true → sl ac 74 = .bool (isStg ⟨b, b⟩)) ∧
  (g 4 = true → sl ac 7 = .bool (isStg ⟨b, b⟩)) ∧
  Later w wc ∧
  u.heap.size ≤ wc.heap.size ∧
  wc.heap[w.heap.size + 1 + 1 + 1 + 1]? = some (.cells #[.int .i64 b, .int .i64 b] 28 (0, 0)) ∧
  (∃ q0 q1, wc.heap[w.heap.size + 1 + 1 + 1]? = some (.cells #[q0, q1] 28 (0, 0)) ∧ (g 3 = true → q0 = .int .i64 b ∧ q1 = .int .i64 b))) (by kernel_rfl) (by kernel_rfl) rfl (by kernel_rfl) ?_ ?_ ?_
 · exact ⟨rfl, rfl, nofun, nofun, nofun, nofun, hL0.drew, Nat.le_refl _, K1, ⟨_, _, Kq, nofun⟩⟩
 · intro g ac wt hg ha hI
   obtain ⟨x8, x6, i0, i1, i2, i4, hL, hS, B1, Rq⟩ := hI
   have a0 := i0 (hg 0 (by simp))
   have a1 := i1 (hg 1 (by simp))
   have a2 := i2 (hg 2 (by simp))
   have a4 := i4 (hg 4 (by simp))
   obtain ⟨q0, q1, Kq, gr⟩ := Rq
   have gr := gr (hg 3 (by simp))
   rw [gr.1, gr.2] at Kq
   clear gr
   simp only [putAll, a0, a1, a2, a4] at ha
   simp only [Act.put, List.setIfInBounds_toArray, List.set_cons_succ, List.set_cons_zero] at ha
   rw [ha]
   clear x8 x6 i0 i1 i2 i4 a0 a1 a2 a4 hg ha
   have c0 := (blk_at Kq).1
   have z0 := (blk_at Kq).2.2
   go_wp2
   refine bodyPost_ret (v := .tuple #[.agg #[.int .i64 b, .int .i64 b], .bool (isStg ⟨b, b⟩)]) (by simp [results, Tryz.results90, go_sem, c0, z0]) rfl ⟨by rw [HF.out.1, HF.out.2], hL⟩
 · refine .cons ?_ (.cons ?_ (.cons ?_ (.cons ?_ (.cons ?_ .nil))))
   · refine qst fun g ac wc hn hk hr HI K' hK => ?_
     obtain ⟨x8, x6, -, -, -, -, hL, hS, B1, Rq⟩ := HI.out
     simp [Region.binds] at hr
     obtain ⟨c0, f0, z0⟩ := blk_at B1
     go_simp
     obtain ⟨-, -, i0, i1, i2, i4, -⟩ := HI.out
     exact hK.out _ _ ⟨qB x8, qB x6, qP, qF i1, qF i2, qF i4, hL, hS, B1, Rq⟩
   · refine qst fun g ac wc hn hk hr HI K' hK => ?_
     obtain ⟨x8, x6, -, -, -, -, hL, hS, B1, Rq⟩ := HI.out
     simp [Region.binds] at hr
     obtain ⟨c0, f0, z0⟩ := blk_at B1
     go_simp
     obtain ⟨-, -, i0, i1, i2, i4, -⟩ := HI.out
     exact hK.out _ _ ⟨qB x8, qB x6, qF i0, qP, qF i2, qF i4, hL, hS, B1, Rq⟩
   · refine qst fun g ac wc hn hk hr HI K' hK => ?_
     obtain ⟨x8, x6, -, i1, -, -, hL, hS, B1, Rq⟩ := HI.out
     simp [Region.binds] at hr
     have y1 := i1 (by simp [hr])
     clear i1
     go_simp
     refine (w_specIsSetting _ _ _).mono ?_
     rintro e w4 ⟨rfl, hL4⟩
     obtain ⟨-, -, i0, i1, i2, i4, -⟩ := HI.out
     exact hK.out _ _ ⟨qB x8, qB x6, qF i0, qF i1, qP, qF i4, hL.trans hL4, Nat.le_trans hS hL4.size, hL4.keep B1, (by obtain ⟨q0, q1, R1, R2⟩ := Rq; exact ⟨q0, q1, hL4.keep R1, R2⟩)⟩
   · refine qst fun g ac wc hn hk hr HI K' hK => ?_
     obtain ⟨x8, x6, i0, -, -, -, hL, hS, B1, Rq⟩ := HI.out
     simp [Region.binds] at hr
     have y0 := i0 (by simp [hr])
     clear i0
     obtain ⟨q0, q1, R1, -⟩ := Rq
     obtain ⟨c0, f0, z0⟩ := blk_at R1
     go_simp
     obtain ⟨-, -, i0, i1, i2, i4, -⟩ := HI.out
     exact hK.out undef _ ⟨x8, x6, i0, i1, i2, i4, ((hL.setCell hRBq _).setCell hRBq _), (by simp; omega), (other_set (other_set B1 (by omega) _) (by omega) _), ⟨_, _, two_set R1 _ _, fun _ => ⟨rfl, rfl⟩⟩⟩
   · refine qst fun g ac wc hn hk hr HI K' hK => ?_
     obtain ⟨x8, x6, -, -, i2, -, hL, hS, B1, Rq⟩ := HI.out
     simp [Region.binds] at hr
     have y2 := i2 (by simp [hr])
     clear i2
     go_simp
     obtain ⟨-, -, i0, i1, i2, i4, -⟩ := HI.out
     exact hK.out _ _ ⟨qB x8, qB x6, qF i0, qF i1, qF i2, qP, hL, hS, B1, Rq⟩
set_option maxHeartbeats 4000000 in
theorem w_specMv4 (n : Int) (u v : Value) (st sd : List Int) (a b : Int) (w : World) (h : IsNums w u st) (h' : IsNums w v sd) (hs : isStg ⟨a, b⟩ = true) :
 Calls Tryz.prog 90 #[.agg #[.int .i64 n, u, v], .agg #[.int .i64 a, .int .i64 b], .agg #[.int .i64 4, .int .i64 0, .int .i64 0, .int .i64 0]] w fun e w' => e = .returned (.tuple #[.agg #[.int .i64 (mvS ⟨n, st, sd⟩ ⟨a, b⟩ ⟨4, 0, ⟨0, 0⟩⟩).sh, .int .i64 (mvS ⟨n, st, sd⟩ ⟨a, b⟩ ⟨4, 0, ⟨0, 0⟩⟩).cu], .bool (mvOk ⟨n, st, sd⟩ ⟨a, b⟩ ⟨4, 0, ⟨0, 0⟩⟩)]) ∧ Later w w' := by
 have hsb := isStg_bd hs
 simp only at hsb
 obtain ⟨a1, a2, b1, b2⟩ := hsb
 clear hs
 have HF := Lib.hid (show mvS ⟨n, st, sd⟩ ⟨a, b⟩ ⟨4, 0, ⟨0, 0⟩⟩ = ⟨b - 1048576, b⟩ ∧ mvOk ⟨n, st, sd⟩ ⟨a, b⟩ ⟨4, 0, ⟨0, 0⟩⟩ = isStg ⟨b - 1048576, b⟩ from ⟨rfl, rfl⟩)
 obtain ⟨_, _, au, capu, rfl, _, _, _⟩ := h
 obtain ⟨_, _, av, capv, rfl, _, _, _⟩ := h'
 have hd : decide ((4 : Int) ≤ 2) = false := by decide
 go_enter Tryz.func90, Tryz.ntmps90
 go_wp2
 go_quiet (fail)
 go_wp2
 refine wp_name ?_
 intro u hu
 have K1 : u.heap[w.heap.size + 1 + 1 + 1 + 1]? = some (.cells #[.int .i64 (b - 1048576), .int .i64 b] 28 (0, 0)) := by rw [hu]; exact heap_alloc_new' _ _ (by simp)
 have Kq : u.heap[w.heap.size + 1 + 1 + 1]? = some (.cells #[.int .i64 0, .int .i64 0] 28 (0, 0)) := by rw [hu]; exact heap_alloc_old _ _ (show (World.alloc _ _).heap[_]? = _ from heap_alloc_new' _ _ (by simp))
 have hL0 : Later w u := by rw [hu]; exact qla
 have hsz : w.heap.size + 1 + 1 + 1 + 1 + 1 ≤ u.heap.size := by rw [hu]; simp
 have hSB := hL0.size
 have hRBq : w.heap.size ≤ w.heap.size + 1 + 1 + 1 := by omega
 clear hu
 refine region_slots 75 [72, 73, 74, 7] (fun g ac wc => sl ac 8 = .pointer (some ⟨w.heap.size + 1 + 1 + 1 + 1, 0, none⟩) ∧
  sl ac 6 = .pointer (some ⟨w.heap.size + 1 + 1 + 1, 0, none⟩) ∧
  (g 0 = true → sl ac 72 = .agg #[.int .i64 (b - 1048576), .int .i64 b]) ∧
  (g 1 = true → sl ac 73 = .agg #[.int .i64 (b - 1048576), .int .i64 b]) ∧
  (g 2 = true → sl ac 74 = .bool (isStg ⟨(b - 1048576), b⟩)) ∧
  (g 4 = true → sl ac 7 = .bool (isStg ⟨(b - 1048576), b⟩)) ∧
  Later w wc ∧
  u.heap.size ≤ wc.heap.size ∧
  wc.heap[w.heap.size + 1 + 1 + 1 + 1]? = some (.cells #[.int .i64 (b - 1048576), .int .i64 b] 28 (0, 0)) ∧
  (∃ q0 q1, wc.heap[w.heap.size + 1 + 1 + 1]? = some (.cells #[q0, q1] 28 (0, 0)) ∧ (g 3 = true → q0 = .int .i64 (b - 1048576) ∧ q1 = .int .i64 b))) (by kernel_rfl) (by kernel_rfl) rfl (by kernel_rfl) ?_ ?_ ?_
 · exact ⟨rfl, rfl, nofun, nofun, nofun, nofun, hL0.drew, Nat.le_refl _, K1, ⟨_, _, Kq, nofun⟩⟩
 · intro g ac wt hg ha hI
   obtain ⟨x8, x6, i0, i1, i2, i4, hL, hS, B1, Rq⟩ := hI
   have a0 := i0 (hg 0 (by simp))
   have a1 := i1 (hg 1 (by simp))
   have a2 := i2 (hg 2 (by simp))
   have a4 := i4 (hg 4 (by simp))
   obtain ⟨q0, q1, Kq, gr⟩ := Rq
   have gr := gr (hg 3 (by simp))
   rw [gr.1, gr.2] at Kq
   clear gr
   simp only [putAll, a0, a1, a2, a4] at ha
   simp only [Act.put, List.setIfInBounds_toArray, List.set_cons_succ, List.set_cons_zero] at ha
   rw [ha]
   clear x8 x6 i0 i1 i2 i4 a0 a1 a2 a4 hg ha
   have c0 := (blk_at Kq).1
   have z0 := (blk_at Kq).2.2
   go_wp2
   refine bodyPost_ret (v := .tuple #[.agg #[.int .i64 (b - 1048576), .int .i64 b], .bool (isStg ⟨(b - 1048576), b⟩)]) (by simp [results, Tryz.results90, go_sem, c0, z0]) rfl ⟨by rw [HF.out.1, HF.out.2], hL⟩
 · refine .cons ?_ (.cons ?_ (.cons ?_ (.cons ?_ (.cons ?_ .nil))))
   · refine qst fun g ac wc hn hk hr HI K' hK => ?_
     obtain ⟨x8, x6, -, -, -, -, hL, hS, B1, Rq⟩ := HI.out
     simp [Region.binds] at hr
     obtain ⟨c0, f0, z0⟩ := blk_at B1
     go_simp
     obtain ⟨-, -, i0, i1, i2, i4, -⟩ := HI.out
     exact hK.out _ _ ⟨qB x8, qB x6, qP, qF i1, qF i2, qF i4, hL, hS, B1, Rq⟩
   · refine qst fun g ac wc hn hk hr HI K' hK => ?_
     obtain ⟨x8, x6, -, -, -, -, hL, hS, B1, Rq⟩ := HI.out
     simp [Region.binds] at hr
     obtain ⟨c0, f0, z0⟩ := blk_at B1
     go_simp
     obtain ⟨-, -, i0, i1, i2, i4, -⟩ := HI.out
     exact hK.out _ _ ⟨qB x8, qB x6, qF i0, qP, qF i2, qF i4, hL, hS, B1, Rq⟩
   · refine qst fun g ac wc hn hk hr HI K' hK => ?_
     obtain ⟨x8, x6, -, i1, -, -, hL, hS, B1, Rq⟩ := HI.out
     simp [Region.binds] at hr
     have y1 := i1 (by simp [hr])
     clear i1
     go_simp
     refine (w_specIsSetting _ _ _).mono ?_
     rintro e w4 ⟨rfl, hL4⟩
     obtain ⟨-, -, i0, i1, i2, i4, -⟩ := HI.out
     exact hK.out _ _ ⟨qB x8, qB x6, qF i0, qF i1, qP, qF i4, hL.trans hL4, Nat.le_trans hS hL4.size, hL4.keep B1, (by obtain ⟨q0, q1, R1, R2⟩ := Rq; exact ⟨q0, q1, hL4.keep R1, R2⟩)⟩
   · refine qst fun g ac wc hn hk hr HI K' hK => ?_
     obtain ⟨x8, x6, i0, -, -, -, hL, hS, B1, Rq⟩ := HI.out
     simp [Region.binds] at hr
     have y0 := i0 (by simp [hr])
     clear i0
     obtain ⟨q0, q1, R1, -⟩ := Rq
     obtain ⟨c0, f0, z0⟩ := blk_at R1
     go_simp
     obtain ⟨-, -, i0, i1, i2, i4, -⟩ := HI.out
     exact hK.out undef _ ⟨x8, x6, i0, i1, i2, i4, ((hL.setCell hRBq _).setCell hRBq _), (by simp; omega), (other_set (other_set B1 (by omega) _) (by omega) _), ⟨_, _, two_set R1 _ _, fun _ => ⟨rfl, rfl⟩⟩⟩
   · refine qst fun g ac wc hn hk hr HI K' hK => ?_
     obtain ⟨x8, x6, -, -, i2, -, hL, hS, B1, Rq⟩ := HI.out
     simp [Region.binds] at hr
     have y2 := i2 (by simp [hr])
     clear i2
     go_simp
     obtain ⟨-, -, i0, i1, i2, i4, -⟩ := HI.out
     exact hK.out _ _ ⟨qB x8, qB x6, qF i0, qF i1, qF i2, qP, hL, hS, B1, Rq⟩
set_option maxHeartbeats 4000000 in
theorem w_specMv5 (n : Int) (u v : Value) (st sd : List Int) (a b : Int) (w : World) (h : IsNums w u st) (h' : IsNums w v sd) (hs : isStg ⟨a, b⟩ = true) :
 Calls Tryz.prog 90 #[.agg #[.int .i64 n, u, v], .agg #[.int .i64 a, .int .i64 b], .agg #[.int .i64 5, .int .i64 0, .int .i64 0, .int .i64 0]] w fun e w' => e = .returned (.tuple #[.agg #[.int .i64 (mvS ⟨n, st, sd⟩ ⟨a, b⟩ ⟨5, 0, ⟨0, 0⟩⟩).sh, .int .i64 (mvS ⟨n, st, sd⟩ ⟨a, b⟩ ⟨5, 0, ⟨0, 0⟩⟩).cu], .bool (mvOk ⟨n, st, sd⟩ ⟨a, b⟩ ⟨5, 0, ⟨0, 0⟩⟩)]) ∧ Later w w' := by
 have hsb := isStg_bd hs
 simp only at hsb
 obtain ⟨a1, a2, b1, b2⟩ := hsb
 clear hs
 have HF := Lib.hid (show mvS ⟨n, st, sd⟩ ⟨a, b⟩ ⟨5, 0, ⟨0, 0⟩⟩ = ⟨a, a⟩ ∧ mvOk ⟨n, st, sd⟩ ⟨a, b⟩ ⟨5, 0, ⟨0, 0⟩⟩ = isStg ⟨a, a⟩ from ⟨rfl, rfl⟩)
 obtain ⟨_, _, au, capu, rfl, _, _, _⟩ := h
 obtain ⟨_, _, av, capv, rfl, _, _, _⟩ := h'
 have hd : decide ((5 : Int) ≤ 2) = false := by decide
 go_enter Tryz.func90, Tryz.ntmps90
 go_wp2
 go_quiet (fail)
 go_wp2
 refine wp_name ?_
 intro u hu
 have K1 : u.heap[w.heap.size + 1 + 1 + 1 + 1]? = some (.cells #[.int .i64 a, .int .i64 a] 28 (0, 0)) := by rw [hu]; exact heap_alloc_new' _ _ (by simp)
 have Kq : u.heap[w.heap.size + 1 + 1 + 1]? = some (.cells #[.int .i64 0, .int .i64 0] 28 (0, 0)) := by rw [hu]; exact heap_alloc_old _ _ (show (World.alloc _ _).heap[_]? = _ from heap_alloc_new' _ _ (by simp))
 have hL0 : Later w u := by rw [hu]; exact qla
 have hsz : w.heap.size + 1 + 1 + 1 + 1 + 1 ≤ u.heap.size := by rw [hu]; simp
 have hSB := hL0.size
 have hRBq : w.heap.size ≤ w.heap.size + 1 + 1 + 1 := by omega
 clear hu
 refine region_slots 75 [72, 73, 74, 7] (fun g ac wc => sl ac 8 = .pointer (some ⟨w.heap.size + 1 + 1 + 1 + 1, 0, none⟩) ∧
  sl ac 6 = .pointer (some ⟨w.heap.size + 1 + 1 + 1, 0, none⟩) ∧
  (g 0 = true → sl ac 72 = .agg #[.int .i64 a, .int .i64 a]) ∧
  (g 1 = true → sl ac 73 = .agg #[.int .i64 a, .int .i64 a]) ∧
  (g 2 = true → sl ac 74 = .bool (isStg ⟨a, a⟩)) ∧
  (g 4 = true → sl ac 7 = .bool (isStg ⟨a, a⟩)) ∧
  Later w wc ∧
  u.heap.size ≤ wc.heap.size ∧
  wc.heap[w.heap.size + 1 + 1 + 1 + 1]? = some (.cells #[.int .i64 a, .int .i64 a] 28 (0, 0)) ∧
  (∃ q0 q1, wc.heap[w.heap.size + 1 + 1 + 1]? = some (.cells #[q0, q1] 28 (0, 0)) ∧ (g 3 = true → q0 = .int .i64 a ∧ q1 = .int .i64 a))) (by kernel_rfl) (by kernel_rfl) rfl (by kernel_rfl) ?_ ?_ ?_
 · exact ⟨rfl, rfl, nofun, nofun, nofun, nofun, hL0.drew, Nat.le_refl _, K1, ⟨_, _, Kq, nofun⟩⟩
 · intro g ac wt hg ha hI
   obtain ⟨x8, x6, i0, i1, i2, i4, hL, hS, B1, Rq⟩ := hI
   have a0 := i0 (hg 0 (by simp))
   have a1 := i1 (hg 1 (by simp))
   have a2 := i2 (hg 2 (by simp))
   have a4 := i4 (hg 4 (by simp))
   obtain ⟨q0, q1, Kq, gr⟩ := Rq
   have gr := gr (hg 3 (by simp))
   rw [gr.1, gr.2] at Kq
   clear gr
   simp only [putAll, a0, a1, a2, a4] at ha
   simp only [Act.put, List.setIfInBounds_toArray, List.set_cons_succ, List.set_cons_zero] at ha
   rw [ha]
   clear x8 x6 i0 i1 i2 i4 a0 a1 a2 a4 hg ha
   have c0 := (blk_at Kq).1
   have z0 := (blk_at Kq).2.2
   go_wp2
   refine bodyPost_ret (v := .tuple #[.agg #[.int .i64 a, .int .i64 a], .bool (isStg ⟨a, a⟩)]) (by simp [results, Tryz.results90, go_sem, c0, z0]) rfl ⟨by rw [HF.out.1, HF.out.2], hL⟩
 · refine .cons ?_ (.cons ?_ (.cons ?_ (.cons ?_ (.cons ?_ .nil))))
   · refine qst fun g ac wc hn hk hr HI K' hK => ?_
     obtain ⟨x8, x6, -, -, -, -, hL, hS, B1, Rq⟩ := HI.out
     simp [Region.binds] at hr
     obtain ⟨c0, f0, z0⟩ := blk_at B1
     go_simp
     obtain ⟨-, -, i0, i1, i2, i4, -⟩ := HI.out
     exact hK.out _ _ ⟨qB x8, qB x6, qP, qF i1, qF i2, qF i4, hL, hS, B1, Rq⟩
   · refine qst fun g ac wc hn hk hr HI K' hK => ?_
     obtain ⟨x8, x6, -, -, -, -, hL, hS, B1, Rq⟩ := HI.out
     simp [Region.binds] at hr
     obtain ⟨c0, f0, z0⟩ := blk_at B1
     go_simp
     obtain ⟨-, -, i0, i1, i2, i4, -⟩ := HI.out
     exact hK.out _ _ ⟨qB x8, qB x6, qF i0, qP, qF i2, qF i4, hL, hS, B1, Rq⟩
   · refine qst fun g ac wc hn hk hr HI K' hK => ?_
     obtain ⟨x8, x6, -, i1, -, -, hL, hS, B1, Rq⟩ := HI.out
     simp [Region.binds] at hr
     have y1 := i1 (by simp [hr])
     clear i1
     go_simp
     refine (w_specIsSetting _ _ _).mono ?_
     rintro e w4 ⟨rfl, hL4⟩
     obtain ⟨-, -, i0, i1, i2, i4, -⟩ := HI.out
     exact hK.out _ _ ⟨qB x8, qB x6, qF i0, qF i1, qP, qF i4, hL.trans hL4, Nat.le_trans hS hL4.size, hL4.keep B1, (by obtain ⟨q0, q1, R1, R2⟩ := Rq; exact ⟨q0, q1, hL4.keep R1, R2⟩)⟩
   · refine qst fun g ac wc hn hk hr HI K' hK => ?_
     obtain ⟨x8, x6, i0, -, -, -, hL, hS, B1, Rq⟩ := HI.out
     simp [Region.binds] at hr
     have y0 := i0 (by simp [hr])
     clear i0
     obtain ⟨q0, q1, R1, -⟩ := Rq
     obtain ⟨c0, f0, z0⟩ := blk_at R1
     go_simp
     obtain ⟨-, -, i0, i1, i2, i4, -⟩ := HI.out
     exact hK.out undef _ ⟨x8, x6, i0, i1, i2, i4, ((hL.setCell hRBq _).setCell hRBq _), (by simp; omega), (other_set (other_set B1 (by omega) _) (by omega) _), ⟨_, _, two_set R1 _ _, fun _ => ⟨rfl, rfl⟩⟩⟩
   · refine qst fun g ac wc hn hk hr HI K' hK => ?_
     obtain ⟨x8, x6, -, -, i2, -, hL, hS, B1, Rq⟩ := HI.out
     simp [Region.binds] at hr
     have y2 := i2 (by simp [hr])
     clear i2
     go_simp
     obtain ⟨-, -, i0, i1, i2, i4, -⟩ := HI.out
     exact hK.out _ _ ⟨qB x8, qB x6, qF i0, qF i1, qF i2, qP, hL, hS, B1, Rq⟩
set_option maxHeartbeats 4000000 in
theorem w_specMv6 (n : Int) (u v : Value) (st sd : List Int) (a b : Int) (w : World) (h : IsNums w u st) (h' : IsNums w v sd) (hs : isStg ⟨a, b⟩ = true) :
 Calls Tryz.prog 90 #[.agg #[.int .i64 n, u, v], .agg #[.int .i64 a, .int .i64 b], .agg #[.int .i64 6, .int .i64 0, .int .i64 0, .int .i64 0]] w fun e w' => e = .returned (.tuple #[.agg #[.int .i64 (mvS ⟨n, st, sd⟩ ⟨a, b⟩ ⟨6, 0, ⟨0, 0⟩⟩).sh, .int .i64 (mvS ⟨n, st, sd⟩ ⟨a, b⟩ ⟨6, 0, ⟨0, 0⟩⟩).cu], .bool (mvOk ⟨n, st, sd⟩ ⟨a, b⟩ ⟨6, 0, ⟨0, 0⟩⟩)]) ∧ Later w w' := by
 have hsb := isStg_bd hs
 simp only at hsb
 obtain ⟨a1, a2, b1, b2⟩ := hsb
 clear hs
 have HF := Lib.hid (show mvS ⟨n, st, sd⟩ ⟨a, b⟩ ⟨6, 0, ⟨0, 0⟩⟩ = ⟨a, a + 1048576⟩ ∧ mvOk ⟨n, st, sd⟩ ⟨a, b⟩ ⟨6, 0, ⟨0, 0⟩⟩ = isStg ⟨a, a + 1048576⟩ from ⟨rfl, rfl⟩)
 obtain ⟨_, _, au, capu, rfl, _, _, _⟩ := h
 obtain ⟨_, _, av, capv, rfl, _, _, _⟩ := h'
 have hd : decide ((6 : Int) ≤ 2) = false := by decide
 go_enter Tryz.func90, Tryz.ntmps90
 go_wp2
 go_quiet (fail)
 go_wp2
 refine wp_name ?_
 intro u hu
 have K1 : u.heap[w.heap.size + 1 + 1 + 1 + 1]? = some (.cells #[.int .i64 a, .int .i64 (a + 1048576)] 28 (0, 0)) := by rw [hu]; exact heap_alloc_new' _ _ (by simp)
 have Kq : u.heap[w.heap.size + 1 + 1 + 1]? = some (.cells #[.int .i64 0, .int .i64 0] 28 (0, 0)) := by rw [hu]; exact heap_alloc_old _ _ (show (World.alloc _ _).heap[_]? = _ from heap_alloc_new' _ _ (by simp))
 have hL0 : Later w u := by rw [hu]; exact qla
 have hsz : w.heap.size + 1 + 1 + 1 + 1 + 1 ≤ u.heap.size := by rw [hu]; simp
 have hSB := hL0.size
 have hRBq : w.heap.size ≤ w.heap.size + 1 + 1 + 1 := by omega
 clear hu
 refine region_slots 75 [72, 73, 74, 7] (fun g ac wc => sl ac 8 = .pointer (some ⟨w.heap.size + 1 + 1 + 1 + 1, 0, none⟩) ∧
  sl ac 6 = .pointer (some ⟨w.heap.size + 1 + 1 + 1, 0, none⟩) ∧
  (g 0 = true → sl ac 72 = .agg #[.int .i64 a, .int .i64 (a + 1048576)]) ∧
  (g 1 = true → sl ac 73 = .agg #[.int .i64 a, .int .i64 (a + 1048576)]) ∧
  (g 2 = true → sl ac 74 = .bool (isStg ⟨a, (a + 1048576)⟩)) ∧
  (g 4 = true → sl ac 7 = .bool (isStg ⟨a, (a + 1048576)⟩)) ∧
  Later w wc ∧
  u.heap.size ≤ wc.heap.size ∧
  wc.heap[w.heap.size + 1 + 1 + 1 + 1]? = some (.cells #[.int .i64 a, .int .i64 (a + 1048576)] 28 (0, 0)) ∧
  (∃ q0 q1, wc.heap[w.heap.size + 1 + 1 + 1]? = some (.cells #[q0, q1] 28 (0, 0)) ∧ (g 3 = true → q0 = .int .i64 a ∧ q1 = .int .i64 (a + 1048576)))) (by kernel_rfl) (by kernel_rfl) rfl (by kernel_rfl) ?_ ?_ ?_
 · exact ⟨rfl, rfl, nofun, nofun, nofun, nofun, hL0.drew, Nat.le_refl _, K1, ⟨_, _, Kq, nofun⟩⟩
 · intro g ac wt hg ha hI
   obtain ⟨x8, x6, i0, i1, i2, i4, hL, hS, B1, Rq⟩ := hI
   have a0 := i0 (hg 0 (by simp))
   have a1 := i1 (hg 1 (by simp))
   have a2 := i2 (hg 2 (by simp))
   have a4 := i4 (hg 4 (by simp))
   obtain ⟨q0, q1, Kq, gr⟩ := Rq
   have gr := gr (hg 3 (by simp))
   rw [gr.1, gr.2] at Kq
   clear gr
   simp only [putAll, a0, a1, a2, a4] at ha
   simp only [Act.put, List.setIfInBounds_toArray, List.set_cons_succ, List.set_cons_zero] at ha
   rw [ha]
   clear x8 x6 i0 i1 i2 i4 a0 a1 a2 a4 hg ha
   have c0 := (blk_at Kq).1
   have z0 := (blk_at Kq).2.2
   go_wp2
   refine bodyPost_ret (v := .tuple #[.agg #[.int .i64 a, .int .i64 (a + 1048576)], .bool (isStg ⟨a, (a + 1048576)⟩)]) (by simp [results, Tryz.results90, go_sem, c0, z0]) rfl ⟨by rw [HF.out.1, HF.out.2], hL⟩
 · refine .cons ?_ (.cons ?_ (.cons ?_ (.cons ?_ (.cons ?_ .nil))))
   · refine qst fun g ac wc hn hk hr HI K' hK => ?_
     obtain ⟨x8, x6, -, -, -, -, hL, hS, B1, Rq⟩ := HI.out
     simp [Region.binds] at hr
     obtain ⟨c0, f0, z0⟩ := blk_at B1
     go_simp
     obtain ⟨-, -, i0, i1, i2, i4, -⟩ := HI.out
     exact hK.out _ _ ⟨qB x8, qB x6, qP, qF i1, qF i2, qF i4, hL, hS, B1, Rq⟩
   · refine qst fun g ac wc hn hk hr HI K' hK => ?_
     obtain ⟨x8, x6, -, -, -, -, hL, hS, B1, Rq⟩ := HI.out
     simp [Region.binds] at hr
     obtain ⟨c0, f0, z0⟩ := blk_at B1
     go_simp
     obtain ⟨-, -, i0, i1, i2, i4, -⟩ := HI.out
     exact hK.out _ _ ⟨qB x8, qB x6, qF i0, qP, qF i2, qF i4, hL, hS, B1, Rq⟩
   · refine qst fun g ac wc hn hk hr HI K' hK => ?_
     obtain ⟨x8, x6, -, i1, -, -, hL, hS, B1, Rq⟩ := HI.out
     simp [Region.binds] at hr
     have y1 := i1 (by simp [hr])
     clear i1
     go_simp
     refine (w_specIsSetting _ _ _).mono ?_
     rintro e w4 ⟨rfl, hL4⟩
     obtain ⟨-, -, i0, i1, i2, i4, -⟩ := HI.out
     exact hK.out _ _ ⟨qB x8, qB x6, qF i0, qF i1, qP, qF i4, hL.trans hL4, Nat.le_trans hS hL4.size, hL4.keep B1, (by obtain ⟨q0, q1, R1, R2⟩ := Rq; exact ⟨q0, q1, hL4.keep R1, R2⟩)⟩
   · refine qst fun g ac wc hn hk hr HI K' hK => ?_
     obtain ⟨x8, x6, i0, -, -, -, hL, hS, B1, Rq⟩ := HI.out
     simp [Region.binds] at hr
     have y0 := i0 (by simp [hr])
     clear i0
     obtain ⟨q0, q1, R1, -⟩ := Rq
     obtain ⟨c0, f0, z0⟩ := blk_at R1
     go_simp
     obtain ⟨-, -, i0, i1, i2, i4, -⟩ := HI.out
     exact hK.out undef _ ⟨x8, x6, i0, i1, i2, i4, ((hL.setCell hRBq _).setCell hRBq _), (by simp; omega), (other_set (other_set B1 (by omega) _) (by omega) _), ⟨_, _, two_set R1 _ _, fun _ => ⟨rfl, rfl⟩⟩⟩
   · refine qst fun g ac wc hn hk hr HI K' hK => ?_
     obtain ⟨x8, x6, -, -, i2, -, hL, hS, B1, Rq⟩ := HI.out
     simp [Region.binds] at hr
     have y2 := i2 (by simp [hr])
     clear i2
     go_simp
     obtain ⟨-, -, i0, i1, i2, i4, -⟩ := HI.out
     exact hK.out _ _ ⟨qB x8, qB x6, qF i0, qF i1, qF i2, qP, hL, hS, B1, Rq⟩
end Go.Proofs.YtgngbdacejghcaaGreatDoor
