/- DERIVED. Walks: one move. -/
import Derived.Test.YtgngbdacejghcaaGreatDoorKVM34
import Derived.Test.YtgngbdacejghcaaGreatDoorKVBA
namespace Go.Proofs.YtgngbdacejghcaaGreatDoor
set_option linter.unusedVariables false
set_option linter.unusedSimpArgs false
open Go.RowKit
set_option maxRecDepth 100000
theorem wp_name {P : Program} {c : Code} {Q : Exit → Act → World → Prop} {a : Act} {W : World} (h : ∀ u, u = W → Code.wp P c Q a u) : Code.wp P c Q a W := h W rfl
theorem w_setCursor0 (a b q : Int) (h1 : -100000000 ≤ a) (h2 : a ≤ 100000000) (h3 : -100000000 ≤ q) (h4 : q ≤ 100000000) (w : World) :
 Calls Tryz.prog 48 #[.agg #[.int .i64 a, .int .i64 b], .bool false, .int .i64 q] w fun e w' => e = .returned (.agg #[.int .i64 a, .int .i64 q]) ∧ Later w w' := by
 go_enter Tryz.func48, Tryz.ntmps48
 go_wp2
 refine bodyPost_ret (v := .agg #[.int .i64 a, .int .i64 q]) (by simp [results, Tryz.results48, go_sem]) rfl ⟨rfl, qla⟩
theorem w_setCursor1 (a b q : Int) (h1 : -100000000 ≤ a) (h2 : a ≤ 100000000) (h3 : -100000000 ≤ q) (h4 : q ≤ 100000000) (w : World) :
 Calls Tryz.prog 48 #[.agg #[.int .i64 a, .int .i64 b], .bool true, .int .i64 q] w fun e w' => e = .returned (.agg #[.int .i64 a, .int .i64 (q + a)]) ∧ Later w w' := by
 go_enter Tryz.func48, Tryz.ntmps48
 go_wp2
 refine bodyPost_ret (v := .agg #[.int .i64 a, .int .i64 (q + a)]) (by simp [results, Tryz.results48, go_sem]) rfl ⟨rfl, qla⟩
theorem w_l11Cursor0 (a b s d t : Int) (s1 : 0 ≤ s) (s2 : s ≤ 4) (t1 : 1000 ≤ d) (t2 : d ≤ 9999) (t3 : -100 ≤ t) (t4 : t ≤ 100) (h1 : -100000000 ≤ a) (h2 : a ≤ 100000000) (h3 : -100000000 ≤ b) (h4 : b ≤ 100000000) (w : World) :
 Calls Tryz.prog 54 #[.agg #[.int .i64 a, .int .i64 b], .bool false, .int .i64 s, .agg #[.int .i64 d, .int .i64 t]] w fun e w' => e = .returned (.agg #[.int .i64 a, .int .i64 (ptF s ⟨d, t⟩)]) ∧ Later w w' := by
 have hp := ptF_bd (s := s) (f := ⟨d, t⟩) t1 t2
 obtain ⟨PT, hPT⟩ : ∃ PT, ptF s ⟨d, t⟩ = PT := ⟨_, rfl⟩
 rw [hPT] at hp ⊢
 obtain ⟨p1, p2⟩ := hp
 have HPT := Lib.hid hPT
 clear hPT
 go_enter Tryz.func54, Tryz.ntmps54
 go_wp2_with fail
 refine (w_specPoint _ _ _ s1 s2 t1 t2 t3 t4 _).mono ?_
 rintro e w1 ⟨rfl, hL⟩
 rw [HPT.out]
 obtain ⟨K0, K1, K2⟩ := kept3 hL
 obtain ⟨c0, f0, z0⟩ := blk_at K0
 obtain ⟨c2, f2, z2⟩ := blk_at K2
 go_wp2
 refine bodyPost_ret (v := .agg #[.int .i64 a, .int .i64 (PT)]) (by simp [results, Tryz.results54, go_sem, c2, z2]) rfl ⟨rfl, qla⟩
theorem w_l11Cursor1 (a b s d t : Int) (s1 : 0 ≤ s) (s2 : s ≤ 4) (t1 : 1000 ≤ d) (t2 : d ≤ 9999) (t3 : -100 ≤ t) (t4 : t ≤ 100) (h1 : -100000000 ≤ a) (h2 : a ≤ 100000000) (h3 : -100000000 ≤ b) (h4 : b ≤ 100000000) (w : World) :
 Calls Tryz.prog 54 #[.agg #[.int .i64 a, .int .i64 b], .bool true, .int .i64 s, .agg #[.int .i64 d, .int .i64 t]] w fun e w' => e = .returned (.agg #[.int .i64 a, .int .i64 (ptF s ⟨d, t⟩ + a)]) ∧ Later w w' := by
 have hp := ptF_bd (s := s) (f := ⟨d, t⟩) t1 t2
 obtain ⟨PT, hPT⟩ : ∃ PT, ptF s ⟨d, t⟩ = PT := ⟨_, rfl⟩
 rw [hPT] at hp ⊢
 obtain ⟨p1, p2⟩ := hp
 have HPT := Lib.hid hPT
 clear hPT
 go_enter Tryz.func54, Tryz.ntmps54
 go_wp2_with fail
 refine (w_specPoint _ _ _ s1 s2 t1 t2 t3 t4 _).mono ?_
 rintro e w1 ⟨rfl, hL⟩
 rw [HPT.out]
 obtain ⟨K0, K1, K2⟩ := kept3 hL
 obtain ⟨c0, f0, z0⟩ := blk_at K0
 obtain ⟨c2, f2, z2⟩ := blk_at K2
 go_wp2
 refine bodyPost_ret (v := .agg #[.int .i64 a, .int .i64 (PT + a)]) (by simp [results, Tryz.results54, go_sem, c2, z2]) rfl ⟨rfl, qla⟩
theorem w_l11On_st (n : Int) (u v : Value) (st sd : List Int) (w : World) (h : IsNums w u st) (h' : IsNums w v sd) :
 Calls Tryz.prog 70 #[.agg #[.int .i64 n, u, v], .bool false] w fun e w' => e = .returned u ∧ Later w w' := w_l11On n u v st sd false w h h'
theorem w_l11On_sl (n : Int) (u v : Value) (st sd : List Int) (w : World) (h : IsNums w u st) (h' : IsNums w v sd) :
 Calls Tryz.prog 70 #[.agg #[.int .i64 n, u, v], .bool true] w fun e w' => e = .returned v ∧ Later w w' := w_l11On n u v st sd true w h h'
set_option maxHeartbeats 4000000 in
theorem w_implMv0 (n : Int) (u v : Value) (st sd : List Int) (a b s d t : Int) (w : World) (h : IsNums w u st) (h' : IsNums w v sd) (hs : isStg ⟨a, b⟩ = true) (s1 : 0 ≤ s) (s2 : s ≤ 4) (hf : isFig ⟨d, t⟩ = true) :
 Calls Tryz.prog 135 #[.agg #[.int .i64 n, u, v], .agg #[.int .i64 a, .int .i64 b], .agg #[.int .i64 0, .int .i64 s, .int .i64 d, .int .i64 t]] w fun e w' => e = .returned (.tuple #[.agg #[.int .i64 (mvS ⟨n, st, sd⟩ ⟨a, b⟩ ⟨0, s, ⟨d, t⟩⟩).sh, .int .i64 (mvS ⟨n, st, sd⟩ ⟨a, b⟩ ⟨0, s, ⟨d, t⟩⟩).cu], .bool (mvOk ⟨n, st, sd⟩ ⟨a, b⟩ ⟨0, s, ⟨d, t⟩⟩)]) ∧ Later w w' := by
 have hsb := isStg_bd hs
 simp only at hsb
 obtain ⟨a1, a2, b1, b2⟩ := hsb
 clear hs
 have hfb := isFig_true hf
 simp only at hfb
 obtain ⟨t1, t2, t3, t4⟩ := hfb
 clear hf
 have hp := ptF_bd (s := s) (f := ⟨d, t⟩) t1 t2
 obtain ⟨PT, hPT⟩ : ∃ PT, ptF s ⟨d, t⟩ = PT := ⟨_, rfl⟩
 rw [hPT] at hp
 obtain ⟨p1, p2⟩ := hp
 obtain ⟨Hb, hHb⟩ : ∃ Hb, hasI st s = Hb := ⟨_, rfl⟩
 have hon : mvOn ⟨n, st, sd⟩ ⟨0, s, ⟨d, t⟩⟩ = Hb := hHb
 have hF0 := Lib.hid (show Hb = false → mvS ⟨n, st, sd⟩ ⟨a, b⟩ ⟨0, s, ⟨d, t⟩⟩ = ⟨0, 0⟩ ∧ mvOk ⟨n, st, sd⟩ ⟨a, b⟩ ⟨0, s, ⟨d, t⟩⟩ = false from fun e => by rw [mvS, mvOk, hon, e]; exact ⟨rfl, rfl⟩)
 have hF1 := Lib.hid (show Hb = true → mvS ⟨n, st, sd⟩ ⟨a, b⟩ ⟨0, s, ⟨d, t⟩⟩ = ⟨a, PT⟩ ∧ mvOk ⟨n, st, sd⟩ ⟨a, b⟩ ⟨0, s, ⟨d, t⟩⟩ = isStg ⟨a, PT⟩ from fun e => by rw [mvS, mvOk, hon, e, ← hPT]; exact ⟨rfl, rfl⟩)
 have HPT := Lib.hid hPT
 have HH := Lib.hid hHb
 have H := Lib.hid h
 have H' := Lib.hid h'
 obtain ⟨_, _, au, capu, rfl, _, _, _⟩ := h
 obtain ⟨_, _, av, capv, rfl, _, _, _⟩ := h'
 clear hPT hHb hon
 go_enter Tryz.func135, Tryz.ntmps135
 go_wp2_with fail
 refine (w_hasScale _ _ _ _ _ _ _ _ (H.out.later (((((Later.refl _).alloc _).alloc _).alloc _).alloc _)) (H'.out.later (((((Later.refl _).alloc _).alloc _).alloc _).alloc _))).mono ?_
 rintro e w1 ⟨rfl, hL⟩
 rw [show hasI (onR ⟨n, st, sd⟩ false) s = Hb from HH.out]
 have hL0 : Later w w1 := ((((((Later.refl w).alloc (.cells #[.int .i64 n, .slice au st.length capu, .slice av sd.length capv] 26)).alloc (.cells #[.int .i64 a, .int .i64 b] 28)).alloc (.cells #[.int .i64 0, .int .i64 s, .int .i64 d, .int .i64 t] 107)).alloc (.cells #[.int .i64 0, .int .i64 0] 28))).trans hL
 obtain ⟨K0, K1, K2, Kq⟩ := kept4 hL
 have hsz := hL.size
 simp only [World.size_alloc] at hsz
 obtain ⟨c2, f2, z2⟩ := blk_at K2
 obtain ⟨c3, f3, z3⟩ := blk_at Kq
 cases Hb
 · have HF := Lib.hid (hF0.out rfl)
   clear K0 K1 K2 Kq
   go_wp2
   refine bodyPost_ret (v := .tuple #[.agg #[.int .i64 0, .int .i64 0], .bool false]) (by simp [results, Tryz.results135, go_sem, c3, z3]) rfl ⟨by rw [HF.out.1, HF.out.2], qla⟩
 have HF := Lib.hid (hF1.out rfl)
 have Kr := K1
 have hSB := hL0.size
 have hRB : w.heap.size ≤ w.heap.size + 1 := by omega
 have HKr := Lib.hid Kr
 have HK2 := Lib.hid K2
 have HKq := Lib.hid Kq
 clear K0 K1 hL c3 f3 z3 Kr K2 Kq
 go_wp2_with fail
 have Kr := HKr.out
 have K2 := HK2.out
 have Kq := HKq.out
 refine region_slots 73 [27, 28, 29, 30, 31, 32, 33, 34, 35, 36] (fun g ac wc => sl ac 4 = .pointer (some ⟨w.heap.size + 1, 0, none⟩) ∧
  sl ac 5 = .pointer (some ⟨w.heap.size + 1 + 1, 0, none⟩) ∧
  (g 0 = true → sl ac 27 = .agg #[.int .i64 a, .int .i64 b]) ∧
  (g 1 = true → sl ac 28 = .pointer (some ⟨w.heap.size + 1 + 1, 0, none⟩)) ∧
  (g 2 = true → sl ac 29 = .int .i64 0) ∧
  (g 3 = true → sl ac 30 = .bool false) ∧
  (g 4 = true → sl ac 31 = .pointer (some ⟨w.heap.size + 1 + 1, 1, none⟩)) ∧
  (g 5 = true → sl ac 32 = .int .i64 s) ∧
  (g 6 = true → sl ac 33 = .pointer (some ⟨w.heap.size + 1 + 1, 2, none⟩)) ∧
  (g 7 = true → sl ac 34 = .agg #[.int .i64 d, .int .i64 t]) ∧
  (g 8 = true → sl ac 35 = .int .i64 PT) ∧
  (g 9 = true → sl ac 36 = .agg #[.int .i64 a, .int .i64 PT]) ∧
  Later w wc ∧
  w1.heap.size ≤ wc.heap.size ∧
  wc.heap[w.heap.size + 1 + 1]? = some (.cells #[.int .i64 0, .int .i64 s, .int .i64 d, .int .i64 t] 107 (0, 0)) ∧
  wc.heap[w.heap.size + 1 + 1 + 1]? = some (.cells #[.int .i64 0, .int .i64 0] 28 (0, 0)) ∧
  (g 10 = true → g 0 = true) ∧
  (∃ r0 r1, wc.heap[w.heap.size + 1]? = some (.cells #[r0, r1] 28 (0, 0)) ∧ (g 10 = true → r0 = .int .i64 a ∧ r1 = .int .i64 PT) ∧ (g 10 = false → r0 = .int .i64 a ∧ r1 = .int .i64 b))) (by kernel_rfl) (by kernel_rfl) rfl (by kernel_rfl) ?_ ?_ ?_
 · exact ⟨rfl, rfl, nofun, nofun, nofun, nofun, nofun, nofun, nofun, nofun, nofun, nofun, hL0.drew, Nat.le_refl _, K2, Kq, nofun, ⟨_, _, Kr, nofun, fun _ => ⟨rfl, rfl⟩⟩⟩
 · intro g ac wu hg ha hI
   obtain ⟨x4, x5, i0, i1, i2, i3, i4, i5, i6, i7, i8, i9, hL, hS, B2, Bq, -, Rr⟩ := hI
   have a0 := i0 (hg 0 (by simp))
   have a1 := i1 (hg 1 (by simp))
   have a2 := i2 (hg 2 (by simp))
   have a3 := i3 (hg 3 (by simp))
   have a4 := i4 (hg 4 (by simp))
   have a5 := i5 (hg 5 (by simp))
   have a6 := i6 (hg 6 (by simp))
   have a7 := i7 (hg 7 (by simp))
   have a8 := i8 (hg 8 (by simp))
   have a9 := i9 (hg 9 (by simp))
   obtain ⟨r0, r1, Kr, gr⟩ := Rr
   have gr := gr.1 (hg 10 (by simp))
   rw [gr.1, gr.2] at Kr
   clear gr
   simp only [putAll, a0, a1, a2, a3, a4, a5, a6, a7, a8, a9] at ha
   simp only [Act.put, List.setIfInBounds_toArray, List.set_cons_succ, List.set_cons_zero] at ha
   rw [ha]
   clear x4 x5 i0 i1 i2 i3 i4 i5 i6 i7 i8 i9 a0 a1 a2 a3 a4 a5 a6 a7 a8 a9 hg ha
   have K1 := Kr
   have Kq := Bq
   have hL0 := hL
   have hSB := hL0.size
   have hRBq : w.heap.size ≤ w.heap.size + 1 + 1 + 1 := by omega
   have lt1 := (Array.getElem?_eq_some_iff.1 K1).1
   clear hL hS Kr Bq B2
   go_wp2_with fail
   refine region_slots 73 [70, 71, 72, 7] (fun g ac wc => sl ac 4 = .pointer (some ⟨w.heap.size + 1, 0, none⟩) ∧
    sl ac 6 = .pointer (some ⟨w.heap.size + 1 + 1 + 1, 0, none⟩) ∧
    (g 0 = true → sl ac 70 = .agg #[.int .i64 a, .int .i64 PT]) ∧
    (g 1 = true → sl ac 71 = .agg #[.int .i64 a, .int .i64 PT]) ∧
    (g 2 = true → sl ac 72 = .bool (isStg ⟨a, PT⟩)) ∧
    (g 4 = true → sl ac 7 = .bool (isStg ⟨a, PT⟩)) ∧
    Later w wc ∧
    wu.heap.size ≤ wc.heap.size ∧
    wc.heap[w.heap.size + 1]? = some (.cells #[.int .i64 a, .int .i64 PT] 28 (0, 0)) ∧
    (∃ q0 q1, wc.heap[w.heap.size + 1 + 1 + 1]? = some (.cells #[q0, q1] 28 (0, 0)) ∧ (g 3 = true → q0 = .int .i64 a ∧ q1 = .int .i64 PT))) (by kernel_rfl) (by kernel_rfl) rfl (by kernel_rfl) ?_ ?_ ?_
   · exact ⟨rfl, rfl, nofun, nofun, nofun, nofun, hL0.drew, Nat.le_refl _, K1, ⟨_, _, Kq, nofun⟩⟩
   · intro g ac wt hg ha hI
     obtain ⟨x4, x6, i0, i1, i2, i4, hL, hS, B1, Rq⟩ := hI
     have a0 := i0 (hg 0 (by simp))
     have a1 := i1 (hg 1 (by simp))
     have a2 := i2 (hg 2 (by simp))
     have a4 := i4 (hg 4 (by simp))
     obtain ⟨q0, q1, Kq, gr⟩ := Rq
     have gr := gr (hg 3 (by simp))
     rw [gr.1, gr.2] at Kq
     clear gr
     simp only [putAll, a0, a1, a2, a4] at ha
     simp only [Act.put, List.setIfInBounds_toArray, List.set_cons_succ, List.set_cons_zero] at ha
     rw [ha]
     clear x4 x6 i0 i1 i2 i4 a0 a1 a2 a4 hg ha
     have c0 := (blk_at Kq).1
     have z0 := (blk_at Kq).2.2
     go_wp2
     refine bodyPost_ret (v := .tuple #[.agg #[.int .i64 a, .int .i64 PT], .bool (isStg ⟨a, PT⟩)]) (by simp [results, Tryz.results135, go_sem, c0, z0]) rfl ⟨by rw [HF.out.1, HF.out.2], hL⟩
   · refine .cons ?_ (.cons ?_ (.cons ?_ (.cons ?_ (.cons ?_ .nil))))
     · refine qst fun g ac wc hn hk hr HI K' hK => ?_
       obtain ⟨x4, x6, -, -, -, -, hL, hS, B1, Rq⟩ := HI.out
       simp [Region.binds] at hr
       obtain ⟨c0, f0, z0⟩ := blk_at B1
       go_simp
       obtain ⟨-, -, i0, i1, i2, i4, -⟩ := HI.out
       exact hK.out _ _ ⟨qB x4, qB x6, qP, qF i1, qF i2, qF i4, hL, hS, B1, Rq⟩
     · refine qst fun g ac wc hn hk hr HI K' hK => ?_
       obtain ⟨x4, x6, -, -, -, -, hL, hS, B1, Rq⟩ := HI.out
       simp [Region.binds] at hr
       obtain ⟨c0, f0, z0⟩ := blk_at B1
       go_simp
       obtain ⟨-, -, i0, i1, i2, i4, -⟩ := HI.out
       exact hK.out _ _ ⟨qB x4, qB x6, qF i0, qP, qF i2, qF i4, hL, hS, B1, Rq⟩
     · refine qst fun g ac wc hn hk hr HI K' hK => ?_
       obtain ⟨x4, x6, -, i1, -, -, hL, hS, B1, Rq⟩ := HI.out
       simp [Region.binds] at hr
       have y1 := i1 (by simp [hr])
       clear i1
       go_simp
       refine (w_implIsSetting _ _ _).mono ?_
       rintro e w4 ⟨rfl, hL4⟩
       obtain ⟨-, -, i0, i1, i2, i4, -⟩ := HI.out
       exact hK.out _ _ ⟨qB x4, qB x6, qF i0, qF i1, qP, qF i4, hL.trans hL4, Nat.le_trans hS hL4.size, hL4.keep B1, (by obtain ⟨q0, q1, R1, R2⟩ := Rq; exact ⟨q0, q1, hL4.keep R1, R2⟩)⟩
     · refine qst fun g ac wc hn hk hr HI K' hK => ?_
       obtain ⟨x4, x6, i0, -, -, -, hL, hS, B1, Rq⟩ := HI.out
       simp [Region.binds] at hr
       have y0 := i0 (by simp [hr])
       clear i0
       obtain ⟨q0, q1, R1, -⟩ := Rq
       obtain ⟨c0, f0, z0⟩ := blk_at R1
       go_simp
       obtain ⟨-, -, i0, i1, i2, i4, -⟩ := HI.out
       exact hK.out undef _ ⟨x4, x6, i0, i1, i2, i4, ((hL.setCell hRBq _).setCell hRBq _), (by simp; omega), (other_set (other_set B1 (by omega) _) (by omega) _), ⟨_, _, two_set R1 _ _, fun _ => ⟨rfl, rfl⟩⟩⟩
     · refine qst fun g ac wc hn hk hr HI K' hK => ?_
       obtain ⟨x4, x6, -, -, i2, -, hL, hS, B1, Rq⟩ := HI.out
       simp [Region.binds] at hr
       have y2 := i2 (by simp [hr])
       clear i2
       go_simp
       obtain ⟨-, -, i0, i1, i2, i4, -⟩ := HI.out
       exact hK.out _ _ ⟨qB x4, qB x6, qF i0, qF i1, qF i2, qP, hL, hS, B1, Rq⟩
 · refine .cons ?_ (.cons ?_ (.cons ?_ (.cons ?_ (.cons ?_ (.cons ?_ (.cons ?_ (.cons ?_ (.cons ?_ (.cons ?_ (.cons ?_ .nil))))))))))
   · refine qst fun g ac wc hn hk hr HI K' hK => ?_
     obtain ⟨x4, x5, -, -, -, -, -, -, -, -, -, -, hL, hS, B2, Bq, l10_0, Rr⟩ := HI.out
     simp [Region.binds] at hr
     have hst : g 10 = false := by
      cases hq : g 10 with
      | false => rfl
      | true =>
       have := l10_0 hq
       rw [hk] at this
       cases this
     have RR := Rr
     obtain ⟨r0, r1, R1, -, R3⟩ := RR
     have R3 := R3 hst
     rw [R3.1, R3.2] at R1
     obtain ⟨cR, fR, zR⟩ := blk_at R1
     clear R1 R3
     go_simp
     obtain ⟨-, -, i0, i1, i2, i3, i4, i5, i6, i7, i8, i9, -⟩ := HI.out
     exact hK.out _ _ ⟨qB x4, qB x5, qP, qF i1, qF i2, qF i3, qF i4, qF i5, qF i6, qF i7, qF i8, qF i9, hL, hS, B2, Bq, (fun _ => rfl), Rr⟩
   · refine qst fun g ac wc hn hk hr HI K' hK => ?_
     obtain ⟨x4, x5, -, -, -, -, -, -, -, -, -, -, hL, hS, B2, Bq, l10_0, Rr⟩ := HI.out
     simp [Region.binds] at hr
     go_simp
     obtain ⟨-, -, i0, i1, i2, i3, i4, i5, i6, i7, i8, i9, -⟩ := HI.out
     exact hK.out _ _ ⟨qB x4, qB x5, qF i0, qP, qF i2, qF i3, qF i4, qF i5, qF i6, qF i7, qF i8, qF i9, hL, hS, B2, Bq, l10_0, Rr⟩
   · refine qst fun g ac wc hn hk hr HI K' hK => ?_
     obtain ⟨x4, x5, -, i1, -, -, -, -, -, -, -, -, hL, hS, B2, Bq, l10_0, Rr⟩ := HI.out
     simp [Region.binds] at hr
     have y1 := i1 (by simp [hr])
     clear i1
     obtain ⟨c0, f0, z0⟩ := blk_at B2
     go_simp
     obtain ⟨-, -, i0, i1, i2, i3, i4, i5, i6, i7, i8, i9, -⟩ := HI.out
     exact hK.out _ _ ⟨qB x4, qB x5, qF i0, qF i1, qP, qF i3, qF i4, qF i5, qF i6, qF i7, qF i8, qF i9, hL, hS, B2, Bq, l10_0, Rr⟩
   · refine qst fun g ac wc hn hk hr HI K' hK => ?_
     obtain ⟨x4, x5, -, -, i2, -, -, -, -, -, -, -, hL, hS, B2, Bq, l10_0, Rr⟩ := HI.out
     simp [Region.binds] at hr
     have y2 := i2 (by simp [hr])
     clear i2
     go_simp
     obtain ⟨-, -, i0, i1, i2, i3, i4, i5, i6, i7, i8, i9, -⟩ := HI.out
     exact hK.out _ _ ⟨qB x4, qB x5, qF i0, qF i1, qF i2, qP, qF i4, qF i5, qF i6, qF i7, qF i8, qF i9, hL, hS, B2, Bq, l10_0, Rr⟩
   · refine qst fun g ac wc hn hk hr HI K' hK => ?_
     obtain ⟨x4, x5, -, -, -, -, -, -, -, -, -, -, hL, hS, B2, Bq, l10_0, Rr⟩ := HI.out
     simp [Region.binds] at hr
     go_simp
     obtain ⟨-, -, i0, i1, i2, i3, i4, i5, i6, i7, i8, i9, -⟩ := HI.out
     exact hK.out _ _ ⟨qB x4, qB x5, qF i0, qF i1, qF i2, qF i3, qP, qF i5, qF i6, qF i7, qF i8, qF i9, hL, hS, B2, Bq, l10_0, Rr⟩
   · refine qst fun g ac wc hn hk hr HI K' hK => ?_
     obtain ⟨x4, x5, -, -, -, -, i4, -, -, -, -, -, hL, hS, B2, Bq, l10_0, Rr⟩ := HI.out
     simp [Region.binds] at hr
     have y4 := i4 (by simp [hr])
     clear i4
     obtain ⟨c0, f0, z0⟩ := blk_at B2
     go_simp
     obtain ⟨-, -, i0, i1, i2, i3, i4, i5, i6, i7, i8, i9, -⟩ := HI.out
     exact hK.out _ _ ⟨qB x4, qB x5, qF i0, qF i1, qF i2, qF i3, qF i4, qP, qF i6, qF i7, qF i8, qF i9, hL, hS, B2, Bq, l10_0, Rr⟩
   · refine qst fun g ac wc hn hk hr HI K' hK => ?_
     obtain ⟨x4, x5, -, -, -, -, -, -, -, -, -, -, hL, hS, B2, Bq, l10_0, Rr⟩ := HI.out
     simp [Region.binds] at hr
     go_simp
     obtain ⟨-, -, i0, i1, i2, i3, i4, i5, i6, i7, i8, i9, -⟩ := HI.out
     exact hK.out _ _ ⟨qB x4, qB x5, qF i0, qF i1, qF i2, qF i3, qF i4, qF i5, qP, qF i7, qF i8, qF i9, hL, hS, B2, Bq, l10_0, Rr⟩
   · refine qst fun g ac wc hn hk hr HI K' hK => ?_
     obtain ⟨x4, x5, -, -, -, -, -, -, i6, -, -, -, hL, hS, B2, Bq, l10_0, Rr⟩ := HI.out
     simp [Region.binds] at hr
     have y6 := i6 (by simp [hr])
     clear i6
     obtain ⟨c0, f0, z0⟩ := blk_at B2
     go_simp
     obtain ⟨-, -, i0, i1, i2, i3, i4, i5, i6, i7, i8, i9, -⟩ := HI.out
     exact hK.out _ _ ⟨qB x4, qB x5, qF i0, qF i1, qF i2, qF i3, qF i4, qF i5, qF i6, qP, qF i8, qF i9, hL, hS, B2, Bq, l10_0, Rr⟩
   · refine qst fun g ac wc hn hk hr HI K' hK => ?_
     obtain ⟨x4, x5, -, -, -, -, -, i5, -, i7, -, -, hL, hS, B2, Bq, l10_0, Rr⟩ := HI.out
     simp [Region.binds] at hr
     have y5 := i5 (by simp [hr])
     have y7 := i7 (by simp [hr])
     clear i5 i7
     go_simp
     refine (w_implPoint _ _ _ s1 s2 t1 t2 (by omega) (by omega) _).mono ?_
     rintro e w4 ⟨rfl, hL4⟩
     rw [HPT.out]
     obtain ⟨-, -, i0, i1, i2, i3, i4, i5, i6, i7, i8, i9, -⟩ := HI.out
     exact hK.out _ _ ⟨qB x4, qB x5, qF i0, qF i1, qF i2, qF i3, qF i4, qF i5, qF i6, qF i7, qP, qF i9, hL.trans hL4, Nat.le_trans hS hL4.size, hL4.keep B2, hL4.keep Bq, l10_0, (by obtain ⟨r0, r1, R1, R2⟩ := Rr; exact ⟨r0, r1, hL4.keep R1, R2⟩)⟩
   · refine qst fun g ac wc hn hk hr HI K' hK => ?_
     obtain ⟨x4, x5, i0, -, -, i3, -, -, -, -, i8, -, hL, hS, B2, Bq, l10_0, Rr⟩ := HI.out
     simp [Region.binds] at hr
     have y0 := i0 (by simp [hr])
     have y3 := i3 (by simp [hr])
     have y8 := i8 (by simp [hr])
     clear i0 i3 i8
     go_simp
     refine (w_setCursor0 _ _ _ (by omega) (by omega) (by omega) (by omega) _).mono ?_
     rintro e w4 ⟨rfl, hL4⟩
     obtain ⟨-, -, i0, i1, i2, i3, i4, i5, i6, i7, i8, i9, -⟩ := HI.out
     exact hK.out _ _ ⟨qB x4, qB x5, qF i0, qF i1, qF i2, qF i3, qF i4, qF i5, qF i6, qF i7, qF i8, qP, hL.trans hL4, Nat.le_trans hS hL4.size, hL4.keep B2, hL4.keep Bq, l10_0, (by obtain ⟨r0, r1, R1, R2⟩ := Rr; exact ⟨r0, r1, hL4.keep R1, R2⟩)⟩
   · refine qst fun g ac wc hn hk hr HI K' hK => ?_
     obtain ⟨x4, x5, -, -, -, -, -, -, -, -, -, i9, hL, hS, B2, Bq, l10_0, Rr⟩ := HI.out
     simp [Region.binds] at hr
     have y9 := i9 (by simp [hr])
     clear i9
     obtain ⟨r0, r1, R1, -, R3⟩ := Rr
     have R3 := R3 hk
     rw [R3.1, R3.2] at R1
     obtain ⟨c0, f0, z0⟩ := blk_at R1
     go_simp
     obtain ⟨-, -, i0, i1, i2, i3, i4, i5, i6, i7, i8, i9, -⟩ := HI.out
     exact hK.out undef _ ⟨x4, x5, i0, i1, i2, i3, i4, i5, i6, i7, i8, i9, ((hL.setCell hRB _).setCell hRB _), (by simp; omega), (other_set (other_set B2 (by omega) _) (by omega) _), (other_set (other_set Bq (by omega) _) (by omega) _), (fun _ => by simp [hr]), ⟨_, _, two_set R1 _ _, fun _ => ⟨rfl, rfl⟩, fun h => absurd h (by simp)⟩⟩
set_option maxHeartbeats 4000000 in
theorem w_implMv1 (n : Int) (u v : Value) (st sd : List Int) (a b s d t : Int) (w : World) (h : IsNums w u st) (h' : IsNums w v sd) (hs : isStg ⟨a, b⟩ = true) (s1 : 0 ≤ s) (s2 : s ≤ 4) (hf : isFig ⟨d, t⟩ = true) :
 Calls Tryz.prog 135 #[.agg #[.int .i64 n, u, v], .agg #[.int .i64 a, .int .i64 b], .agg #[.int .i64 1, .int .i64 s, .int .i64 d, .int .i64 t]] w fun e w' => e = .returned (.tuple #[.agg #[.int .i64 (mvS ⟨n, st, sd⟩ ⟨a, b⟩ ⟨1, s, ⟨d, t⟩⟩).sh, .int .i64 (mvS ⟨n, st, sd⟩ ⟨a, b⟩ ⟨1, s, ⟨d, t⟩⟩).cu], .bool (mvOk ⟨n, st, sd⟩ ⟨a, b⟩ ⟨1, s, ⟨d, t⟩⟩)]) ∧ Later w w' := by
 have hsb := isStg_bd hs
 simp only at hsb
 obtain ⟨a1, a2, b1, b2⟩ := hsb
 clear hs
 have hfb := isFig_true hf
 simp only at hfb
 obtain ⟨t1, t2, t3, t4⟩ := hfb
 clear hf
 have hp := ptF_bd (s := s) (f := ⟨d, t⟩) t1 t2
 obtain ⟨PT, hPT⟩ : ∃ PT, ptF s ⟨d, t⟩ = PT := ⟨_, rfl⟩
 rw [hPT] at hp
 obtain ⟨p1, p2⟩ := hp
 obtain ⟨Hb, hHb⟩ : ∃ Hb, hasI sd s = Hb := ⟨_, rfl⟩
 have hon : mvOn ⟨n, st, sd⟩ ⟨1, s, ⟨d, t⟩⟩ = Hb := hHb
 have hF0 := Lib.hid (show Hb = false → mvS ⟨n, st, sd⟩ ⟨a, b⟩ ⟨1, s, ⟨d, t⟩⟩ = ⟨0, 0⟩ ∧ mvOk ⟨n, st, sd⟩ ⟨a, b⟩ ⟨1, s, ⟨d, t⟩⟩ = false from fun e => by rw [mvS, mvOk, hon, e]; exact ⟨rfl, rfl⟩)
 have hF1 := Lib.hid (show Hb = true → mvS ⟨n, st, sd⟩ ⟨a, b⟩ ⟨1, s, ⟨d, t⟩⟩ = ⟨a, PT + a⟩ ∧ mvOk ⟨n, st, sd⟩ ⟨a, b⟩ ⟨1, s, ⟨d, t⟩⟩ = isStg ⟨a, PT + a⟩ from fun e => by rw [mvS, mvOk, hon, e, ← hPT]; exact ⟨rfl, rfl⟩)
 have HPT := Lib.hid hPT
 have HH := Lib.hid hHb
 have H := Lib.hid h
 have H' := Lib.hid h'
 obtain ⟨_, _, au, capu, rfl, _, _, _⟩ := h
 obtain ⟨_, _, av, capv, rfl, _, _, _⟩ := h'
 clear hPT hHb hon
 go_enter Tryz.func135, Tryz.ntmps135
 go_wp2_with fail
 refine (w_hasScale _ _ _ _ _ _ _ _ (H.out.later (((((Later.refl _).alloc _).alloc _).alloc _).alloc _)) (H'.out.later (((((Later.refl _).alloc _).alloc _).alloc _).alloc _))).mono ?_
 rintro e w1 ⟨rfl, hL⟩
 rw [show hasI (onR ⟨n, st, sd⟩ true) s = Hb from HH.out]
 have hL0 : Later w w1 := ((((((Later.refl w).alloc (.cells #[.int .i64 n, .slice au st.length capu, .slice av sd.length capv] 26)).alloc (.cells #[.int .i64 a, .int .i64 b] 28)).alloc (.cells #[.int .i64 1, .int .i64 s, .int .i64 d, .int .i64 t] 107)).alloc (.cells #[.int .i64 0, .int .i64 0] 28))).trans hL
 obtain ⟨K0, K1, K2, Kq⟩ := kept4 hL
 have hsz := hL.size
 simp only [World.size_alloc] at hsz
 obtain ⟨c2, f2, z2⟩ := blk_at K2
 obtain ⟨c3, f3, z3⟩ := blk_at Kq
 cases Hb
 · have HF := Lib.hid (hF0.out rfl)
   clear K0 K1 K2 Kq
   go_wp2
   refine bodyPost_ret (v := .tuple #[.agg #[.int .i64 0, .int .i64 0], .bool false]) (by simp [results, Tryz.results135, go_sem, c3, z3]) rfl ⟨by rw [HF.out.1, HF.out.2], qla⟩
 have HF := Lib.hid (hF1.out rfl)
 have Kr := K1
 have hSB := hL0.size
 have hRB : w.heap.size ≤ w.heap.size + 1 := by omega
 have HKr := Lib.hid Kr
 have HK2 := Lib.hid K2
 have HKq := Lib.hid Kq
 clear K0 K1 hL c3 f3 z3 Kr K2 Kq
 go_wp2_with fail
 have Kr := HKr.out
 have K2 := HK2.out
 have Kq := HKq.out
 refine region_slots 73 [27, 28, 29, 30, 31, 32, 33, 34, 35, 36] (fun g ac wc => sl ac 4 = .pointer (some ⟨w.heap.size + 1, 0, none⟩) ∧
  sl ac 5 = .pointer (some ⟨w.heap.size + 1 + 1, 0, none⟩) ∧
  (g 0 = true → sl ac 27 = .agg #[.int .i64 a, .int .i64 b]) ∧
  (g 1 = true → sl ac 28 = .pointer (some ⟨w.heap.size + 1 + 1, 0, none⟩)) ∧
  (g 2 = true → sl ac 29 = .int .i64 1) ∧
  (g 3 = true → sl ac 30 = .bool true) ∧
  (g 4 = true → sl ac 31 = .pointer (some ⟨w.heap.size + 1 + 1, 1, none⟩)) ∧
  (g 5 = true → sl ac 32 = .int .i64 s) ∧
  (g 6 = true → sl ac 33 = .pointer (some ⟨w.heap.size + 1 + 1, 2, none⟩)) ∧
  (g 7 = true → sl ac 34 = .agg #[.int .i64 d, .int .i64 t]) ∧
  (g 8 = true → sl ac 35 = .int .i64 PT) ∧
  (g 9 = true → sl ac 36 = .agg #[.int .i64 a, .int .i64 (PT + a)]) ∧
  Later w wc ∧
  w1.heap.size ≤ wc.heap.size ∧
  wc.heap[w.heap.size + 1 + 1]? = some (.cells #[.int .i64 1, .int .i64 s, .int .i64 d, .int .i64 t] 107 (0, 0)) ∧
  wc.heap[w.heap.size + 1 + 1 + 1]? = some (.cells #[.int .i64 0, .int .i64 0] 28 (0, 0)) ∧
  (g 10 = true → g 0 = true) ∧
  (∃ r0 r1, wc.heap[w.heap.size + 1]? = some (.cells #[r0, r1] 28 (0, 0)) ∧ (g 10 = true → r0 = .int .i64 a ∧ r1 = .int .i64 (PT + a)) ∧ (g 10 = false → r0 = .int .i64 a ∧ r1 = .int .i64 b))) (by kernel_rfl) (by kernel_rfl) rfl (by kernel_rfl) ?_ ?_ ?_
 · exact ⟨rfl, rfl, nofun, nofun, nofun, nofun, nofun, nofun, nofun, nofun, nofun, nofun, hL0.drew, Nat.le_refl _, K2, Kq, nofun, ⟨_, _, Kr, nofun, fun _ => ⟨rfl, rfl⟩⟩⟩
 · intro g ac wu hg ha hI
   obtain ⟨x4, x5, i0, i1, i2, i3, i4, i5, i6, i7, i8, i9, hL, hS, B2, Bq, -, Rr⟩ := hI
   have a0 := i0 (hg 0 (by simp))
   have a1 := i1 (hg 1 (by simp))
   have a2 := i2 (hg 2 (by simp))
   have a3 := i3 (hg 3 (by simp))
   have a4 := i4 (hg 4 (by simp))
   have a5 := i5 (hg 5 (by simp))
   have a6 := i6 (hg 6 (by simp))
   have a7 := i7 (hg 7 (by simp))
   have a8 := i8 (hg 8 (by simp))
   have a9 := i9 (hg 9 (by simp))
   obtain ⟨r0, r1, Kr, gr⟩ := Rr
   have gr := gr.1 (hg 10 (by simp))
   rw [gr.1, gr.2] at Kr
   clear gr
   simp only [putAll, a0, a1, a2, a3, a4, a5, a6, a7, a8, a9] at ha
   simp only [Act.put, List.setIfInBounds_toArray, List.set_cons_succ, List.set_cons_zero] at ha
   rw [ha]
   clear x4 x5 i0 i1 i2 i3 i4 i5 i6 i7 i8 i9 a0 a1 a2 a3 a4 a5 a6 a7 a8 a9 hg ha
   have K1 := Kr
   have Kq := Bq
   have hL0 := hL
   have hSB := hL0.size
   have hRBq : w.heap.size ≤ w.heap.size + 1 + 1 + 1 := by omega
   have lt1 := (Array.getElem?_eq_some_iff.1 K1).1
   clear hL hS Kr Bq B2
   go_wp2_with fail
   refine region_slots 73 [70, 71, 72, 7] (fun g ac wc => sl ac 4 = .pointer (some ⟨w.heap.size + 1, 0, none⟩) ∧
    sl ac 6 = .pointer (some ⟨w.heap.size + 1 + 1 + 1, 0, none⟩) ∧
    (g 0 = true → sl ac 70 = .agg #[.int .i64 a, .int .i64 (PT + a)]) ∧
    (g 1 = true → sl ac 71 = .agg #[.int .i64 a, .int .i64 (PT + a)]) ∧
    (g 2 = true → sl ac 72 = .bool (isStg ⟨a, (PT + a)⟩)) ∧
    (g 4 = true → sl ac 7 = .bool (isStg ⟨a, (PT + a)⟩)) ∧
    Later w wc ∧
    wu.heap.size ≤ wc.heap.size ∧
    wc.heap[w.heap.size + 1]? = some (.cells #[.int .i64 a, .int .i64 (PT + a)] 28 (0, 0)) ∧
    (∃ q0 q1, wc.heap[w.heap.size + 1 + 1 + 1]? = some (.cells #[q0, q1] 28 (0, 0)) ∧ (g 3 = true → q0 = .int .i64 a ∧ q1 = .int .i64 (PT + a)))) (by kernel_rfl) (by kernel_rfl) rfl (by kernel_rfl) ?_ ?_ ?_
   · exact ⟨rfl, rfl, nofun, nofun, nofun, nofun, hL0.drew, Nat.le_refl _, K1, ⟨_, _, Kq, nofun⟩⟩
   · intro g ac wt hg ha hI
     obtain ⟨x4, x6, i0, i1, i2, i4, hL, hS, B1, Rq⟩ := hI
     have a0 := i0 (hg 0 (by simp))
     have a1 := i1 (hg 1 (by simp))
     have a2 := i2 (hg 2 (by simp))
     have a4 := i4 (hg 4 (by simp))
     obtain ⟨q0, q1, Kq, gr⟩ := Rq
     have gr := gr (hg 3 (by simp))
     rw [gr.1, gr.2] at Kq
     clear gr
     simp only [putAll, a0, a1, a2, a4] at ha
     simp only [Act.put, List.setIfInBounds_toArray, List.set_cons_succ, List.set_cons_zero] at ha
     rw [ha]
     clear x4 x6 i0 i1 i2 i4 a0 a1 a2 a4 hg ha
     have c0 := (blk_at Kq).1
     have z0 := (blk_at Kq).2.2
     go_wp2
     refine bodyPost_ret (v := .tuple #[.agg #[.int .i64 a, .int .i64 (PT + a)], .bool (isStg ⟨a, (PT + a)⟩)]) (by simp [results, Tryz.results135, go_sem, c0, z0]) rfl ⟨by rw [HF.out.1, HF.out.2], hL⟩
   · refine .cons ?_ (.cons ?_ (.cons ?_ (.cons ?_ (.cons ?_ .nil))))
     · refine qst fun g ac wc hn hk hr HI K' hK => ?_
       obtain ⟨x4, x6, -, -, -, -, hL, hS, B1, Rq⟩ := HI.out
       simp [Region.binds] at hr
       obtain ⟨c0, f0, z0⟩ := blk_at B1
       go_simp
       obtain ⟨-, -, i0, i1, i2, i4, -⟩ := HI.out
       exact hK.out _ _ ⟨qB x4, qB x6, qP, qF i1, qF i2, qF i4, hL, hS, B1, Rq⟩
     · refine qst fun g ac wc hn hk hr HI K' hK => ?_
       obtain ⟨x4, x6, -, -, -, -, hL, hS, B1, Rq⟩ := HI.out
       simp [Region.binds] at hr
       obtain ⟨c0, f0, z0⟩ := blk_at B1
       go_simp
       obtain ⟨-, -, i0, i1, i2, i4, -⟩ := HI.out
       exact hK.out _ _ ⟨qB x4, qB x6, qF i0, qP, qF i2, qF i4, hL, hS, B1, Rq⟩
     · refine qst fun g ac wc hn hk hr HI K' hK => ?_
       obtain ⟨x4, x6, -, i1, -, -, hL, hS, B1, Rq⟩ := HI.out
       simp [Region.binds] at hr
       have y1 := i1 (by simp [hr])
       clear i1
       go_simp
       refine (w_implIsSetting _ _ _).mono ?_
       rintro e w4 ⟨rfl, hL4⟩
       obtain ⟨-, -, i0, i1, i2, i4, -⟩ := HI.out
       exact hK.out _ _ ⟨qB x4, qB x6, qF i0, qF i1, qP, qF i4, hL.trans hL4, Nat.le_trans hS hL4.size, hL4.keep B1, (by obtain ⟨q0, q1, R1, R2⟩ := Rq; exact ⟨q0, q1, hL4.keep R1, R2⟩)⟩
     · refine qst fun g ac wc hn hk hr HI K' hK => ?_
       obtain ⟨x4, x6, i0, -, -, -, hL, hS, B1, Rq⟩ := HI.out
       simp [Region.binds] at hr
       have y0 := i0 (by simp [hr])
       clear i0
       obtain ⟨q0, q1, R1, -⟩ := Rq
       obtain ⟨c0, f0, z0⟩ := blk_at R1
       go_simp
       obtain ⟨-, -, i0, i1, i2, i4, -⟩ := HI.out
       exact hK.out undef _ ⟨x4, x6, i0, i1, i2, i4, ((hL.setCell hRBq _).setCell hRBq _), (by simp; omega), (other_set (other_set B1 (by omega) _) (by omega) _), ⟨_, _, two_set R1 _ _, fun _ => ⟨rfl, rfl⟩⟩⟩
     · refine qst fun g ac wc hn hk hr HI K' hK => ?_
       obtain ⟨x4, x6, -, -, i2, -, hL, hS, B1, Rq⟩ := HI.out
       simp [Region.binds] at hr
       have y2 := i2 (by simp [hr])
       clear i2
       go_simp
       obtain ⟨-, -, i0, i1, i2, i4, -⟩ := HI.out
       exact hK.out _ _ ⟨qB x4, qB x6, qF i0, qF i1, qF i2, qP, hL, hS, B1, Rq⟩
 · refine .cons ?_ (.cons ?_ (.cons ?_ (.cons ?_ (.cons ?_ (.cons ?_ (.cons ?_ (.cons ?_ (.cons ?_ (.cons ?_ (.cons ?_ .nil))))))))))
   · refine qst fun g ac wc hn hk hr HI K' hK => ?_
     obtain ⟨x4, x5, -, -, -, -, -, -, -, -, -, -, hL, hS, B2, Bq, l10_0, Rr⟩ := HI.out
     simp [Region.binds] at hr
     have hst : g 10 = false := by
      cases hq : g 10 with
      | false => rfl
      | true =>
       have := l10_0 hq
       rw [hk] at this
       cases this
     have RR := Rr
     obtain ⟨r0, r1, R1, -, R3⟩ := RR
     have R3 := R3 hst
     rw [R3.1, R3.2] at R1
     obtain ⟨cR, fR, zR⟩ := blk_at R1
     clear R1 R3
     go_simp
     obtain ⟨-, -, i0, i1, i2, i3, i4, i5, i6, i7, i8, i9, -⟩ := HI.out
     exact hK.out _ _ ⟨qB x4, qB x5, qP, qF i1, qF i2, qF i3, qF i4, qF i5, qF i6, qF i7, qF i8, qF i9, hL, hS, B2, Bq, (fun _ => rfl), Rr⟩
   · refine qst fun g ac wc hn hk hr HI K' hK => ?_
     obtain ⟨x4, x5, -, -, -, -, -, -, -, -, -, -, hL, hS, B2, Bq, l10_0, Rr⟩ := HI.out
     simp [Region.binds] at hr
     go_simp
     obtain ⟨-, -, i0, i1, i2, i3, i4, i5, i6, i7, i8, i9, -⟩ := HI.out
     exact hK.out _ _ ⟨qB x4, qB x5, qF i0, qP, qF i2, qF i3, qF i4, qF i5, qF i6, qF i7, qF i8, qF i9, hL, hS, B2, Bq, l10_0, Rr⟩
   · refine qst fun g ac wc hn hk hr HI K' hK => ?_
     obtain ⟨x4, x5, -, i1, -, -, -, -, -, -, -, -, hL, hS, B2, Bq, l10_0, Rr⟩ := HI.out
     simp [Region.binds] at hr
     have y1 := i1 (by simp [hr])
     clear i1
     obtain ⟨c0, f0, z0⟩ := blk_at B2
     go_simp
     obtain ⟨-, -, i0, i1, i2, i3, i4, i5, i6, i7, i8, i9, -⟩ := HI.out
     exact hK.out _ _ ⟨qB x4, qB x5, qF i0, qF i1, qP, qF i3, qF i4, qF i5, qF i6, qF i7, qF i8, qF i9, hL, hS, B2, Bq, l10_0, Rr⟩
   · refine qst fun g ac wc hn hk hr HI K' hK => ?_
     obtain ⟨x4, x5, -, -, i2, -, -, -, -, -, -, -, hL, hS, B2, Bq, l10_0, Rr⟩ := HI.out
     simp [Region.binds] at hr
     have y2 := i2 (by simp [hr])
     clear i2
     go_simp
     obtain ⟨-, -, i0, i1, i2, i3, i4, i5, i6, i7, i8, i9, -⟩ := HI.out
     exact hK.out _ _ ⟨qB x4, qB x5, qF i0, qF i1, qF i2, qP, qF i4, qF i5, qF i6, qF i7, qF i8, qF i9, hL, hS, B2, Bq, l10_0, Rr⟩
   · refine qst fun g ac wc hn hk hr HI K' hK => ?_
     obtain ⟨x4, x5, -, -, -, -, -, -, -, -, -, -, hL, hS, B2, Bq, l10_0, Rr⟩ := HI.out
     simp [Region.binds] at hr
     go_simp
     obtain ⟨-, -, i0, i1, i2, i3, i4, i5, i6, i7, i8, i9, -⟩ := HI.out
     exact hK.out _ _ ⟨qB x4, qB x5, qF i0, qF i1, qF i2, qF i3, qP, qF i5, qF i6, qF i7, qF i8, qF i9, hL, hS, B2, Bq, l10_0, Rr⟩
   · refine qst fun g ac wc hn hk hr HI K' hK => ?_
     obtain ⟨x4, x5, -, -, -, -, i4, -, -, -, -, -, hL, hS, B2, Bq, l10_0, Rr⟩ := HI.out
     simp [Region.binds] at hr
     have y4 := i4 (by simp [hr])
     clear i4
     obtain ⟨c0, f0, z0⟩ := blk_at B2
     go_simp
     obtain ⟨-, -, i0, i1, i2, i3, i4, i5, i6, i7, i8, i9, -⟩ := HI.out
     exact hK.out _ _ ⟨qB x4, qB x5, qF i0, qF i1, qF i2, qF i3, qF i4, qP, qF i6, qF i7, qF i8, qF i9, hL, hS, B2, Bq, l10_0, Rr⟩
   · refine qst fun g ac wc hn hk hr HI K' hK => ?_
     obtain ⟨x4, x5, -, -, -, -, -, -, -, -, -, -, hL, hS, B2, Bq, l10_0, Rr⟩ := HI.out
     simp [Region.binds] at hr
     go_simp
     obtain ⟨-, -, i0, i1, i2, i3, i4, i5, i6, i7, i8, i9, -⟩ := HI.out
     exact hK.out _ _ ⟨qB x4, qB x5, qF i0, qF i1, qF i2, qF i3, qF i4, qF i5, qP, qF i7, qF i8, qF i9, hL, hS, B2, Bq, l10_0, Rr⟩
   · refine qst fun g ac wc hn hk hr HI K' hK => ?_
     obtain ⟨x4, x5, -, -, -, -, -, -, i6, -, -, -, hL, hS, B2, Bq, l10_0, Rr⟩ := HI.out
     simp [Region.binds] at hr
     have y6 := i6 (by simp [hr])
     clear i6
     obtain ⟨c0, f0, z0⟩ := blk_at B2
     go_simp
     obtain ⟨-, -, i0, i1, i2, i3, i4, i5, i6, i7, i8, i9, -⟩ := HI.out
     exact hK.out _ _ ⟨qB x4, qB x5, qF i0, qF i1, qF i2, qF i3, qF i4, qF i5, qF i6, qP, qF i8, qF i9, hL, hS, B2, Bq, l10_0, Rr⟩
   · refine qst fun g ac wc hn hk hr HI K' hK => ?_
     obtain ⟨x4, x5, -, -, -, -, -, i5, -, i7, -, -, hL, hS, B2, Bq, l10_0, Rr⟩ := HI.out
     simp [Region.binds] at hr
     have y5 := i5 (by simp [hr])
     have y7 := i7 (by simp [hr])
     clear i5 i7
     go_simp
     refine (w_implPoint _ _ _ s1 s2 t1 t2 (by omega) (by omega) _).mono ?_
     rintro e w4 ⟨rfl, hL4⟩
     rw [HPT.out]
     obtain ⟨-, -, i0, i1, i2, i3, i4, i5, i6, i7, i8, i9, -⟩ := HI.out
     exact hK.out _ _ ⟨qB x4, qB x5, qF i0, qF i1, qF i2, qF i3, qF i4, qF i5, qF i6, qF i7, qP, qF i9, hL.trans hL4, Nat.le_trans hS hL4.size, hL4.keep B2, hL4.keep Bq, l10_0, (by obtain ⟨r0, r1, R1, R2⟩ := Rr; exact ⟨r0, r1, hL4.keep R1, R2⟩)⟩
   · refine qst fun g ac wc hn hk hr HI K' hK => ?_
     obtain ⟨x4, x5, i0, -, -, i3, -, -, -, -, i8, -, hL, hS, B2, Bq, l10_0, Rr⟩ := HI.out
     simp [Region.binds] at hr
     have y0 := i0 (by simp [hr])
     have y3 := i3 (by simp [hr])
     have y8 := i8 (by simp [hr])
     clear i0 i3 i8
     go_simp
     refine (w_setCursor1 _ _ _ (by omega) (by omega) (by omega) (by omega) _).mono ?_
     rintro e w4 ⟨rfl, hL4⟩
     obtain ⟨-, -, i0, i1, i2, i3, i4, i5, i6, i7, i8, i9, -⟩ := HI.out
     exact hK.out _ _ ⟨qB x4, qB x5, qF i0, qF i1, qF i2, qF i3, qF i4, qF i5, qF i6, qF i7, qF i8, qP, hL.trans hL4, Nat.le_trans hS hL4.size, hL4.keep B2, hL4.keep Bq, l10_0, (by obtain ⟨r0, r1, R1, R2⟩ := Rr; exact ⟨r0, r1, hL4.keep R1, R2⟩)⟩
   · refine qst fun g ac wc hn hk hr HI K' hK => ?_
     obtain ⟨x4, x5, -, -, -, -, -, -, -, -, -, i9, hL, hS, B2, Bq, l10_0, Rr⟩ := HI.out
     simp [Region.binds] at hr
     have y9 := i9 (by simp [hr])
     clear i9
     obtain ⟨r0, r1, R1, -, R3⟩ := Rr
     have R3 := R3 hk
     rw [R3.1, R3.2] at R1
     obtain ⟨c0, f0, z0⟩ := blk_at R1
     go_simp
     obtain ⟨-, -, i0, i1, i2, i3, i4, i5, i6, i7, i8, i9, -⟩ := HI.out
     exact hK.out undef _ ⟨x4, x5, i0, i1, i2, i3, i4, i5, i6, i7, i8, i9, ((hL.setCell hRB _).setCell hRB _), (by simp; omega), (other_set (other_set B2 (by omega) _) (by omega) _), (other_set (other_set Bq (by omega) _) (by omega) _), (fun _ => by simp [hr]), ⟨_, _, two_set R1 _ _, fun _ => ⟨rfl, rfl⟩, fun h => absurd h (by simp)⟩⟩
set_option maxHeartbeats 4000000 in
theorem w_implMv2 (n : Int) (u v : Value) (st sd : List Int) (a b s d t : Int) (w : World) (h : IsNums w u st) (h' : IsNums w v sd) (hs : isStg ⟨a, b⟩ = true) (s1 : 0 ≤ s) (s2 : s ≤ 4) (hf : isFig ⟨d, t⟩ = true) :
 Calls Tryz.prog 135 #[.agg #[.int .i64 n, u, v], .agg #[.int .i64 a, .int .i64 b], .agg #[.int .i64 2, .int .i64 s, .int .i64 d, .int .i64 t]] w fun e w' => e = .returned (.tuple #[.agg #[.int .i64 (mvS ⟨n, st, sd⟩ ⟨a, b⟩ ⟨2, s, ⟨d, t⟩⟩).sh, .int .i64 (mvS ⟨n, st, sd⟩ ⟨a, b⟩ ⟨2, s, ⟨d, t⟩⟩).cu], .bool (mvOk ⟨n, st, sd⟩ ⟨a, b⟩ ⟨2, s, ⟨d, t⟩⟩)]) ∧ Later w w' := by
 have hsb := isStg_bd hs
 simp only at hsb
 obtain ⟨a1, a2, b1, b2⟩ := hsb
 clear hs
 have hfb := isFig_true hf
 simp only at hfb
 obtain ⟨t1, t2, t3, t4⟩ := hfb
 clear hf
 have hp := ptF_bd (s := s) (f := ⟨d, t⟩) t1 t2
 obtain ⟨PT, hPT⟩ : ∃ PT, ptF s ⟨d, t⟩ = PT := ⟨_, rfl⟩
 rw [hPT] at hp
 obtain ⟨p1, p2⟩ := hp
 obtain ⟨Hb, hHb⟩ : ∃ Hb, hasI sd s = Hb := ⟨_, rfl⟩
 have hon : mvOn ⟨n, st, sd⟩ ⟨2, s, ⟨d, t⟩⟩ = Hb := hHb
 have hF0 := Lib.hid (show Hb = false → mvS ⟨n, st, sd⟩ ⟨a, b⟩ ⟨2, s, ⟨d, t⟩⟩ = ⟨0, 0⟩ ∧ mvOk ⟨n, st, sd⟩ ⟨a, b⟩ ⟨2, s, ⟨d, t⟩⟩ = false from fun e => by rw [mvS, mvOk, hon, e]; exact ⟨rfl, rfl⟩)
 have hF1 := Lib.hid (show Hb = true → mvS ⟨n, st, sd⟩ ⟨a, b⟩ ⟨2, s, ⟨d, t⟩⟩ = ⟨b - PT, b⟩ ∧ mvOk ⟨n, st, sd⟩ ⟨a, b⟩ ⟨2, s, ⟨d, t⟩⟩ = isStg ⟨b - PT, b⟩ from fun e => by rw [mvS, mvOk, hon, e, ← hPT]; exact ⟨rfl, rfl⟩)
 have HPT := Lib.hid hPT
 have HH := Lib.hid hHb
 have H := Lib.hid h
 have H' := Lib.hid h'
 obtain ⟨_, _, au, capu, rfl, _, _, _⟩ := h
 obtain ⟨_, _, av, capv, rfl, _, _, _⟩ := h'
 clear hPT hHb hon
 go_enter Tryz.func135, Tryz.ntmps135
 go_wp2_with fail
 refine (w_hasScale _ _ _ _ _ _ _ _ (H.out.later (((((Later.refl _).alloc _).alloc _).alloc _).alloc _)) (H'.out.later (((((Later.refl _).alloc _).alloc _).alloc _).alloc _))).mono ?_
 rintro e w1 ⟨rfl, hL⟩
 rw [show hasI (onR ⟨n, st, sd⟩ true) s = Hb from HH.out]
 have hL0 : Later w w1 := ((((((Later.refl w).alloc (.cells #[.int .i64 n, .slice au st.length capu, .slice av sd.length capv] 26)).alloc (.cells #[.int .i64 a, .int .i64 b] 28)).alloc (.cells #[.int .i64 2, .int .i64 s, .int .i64 d, .int .i64 t] 107)).alloc (.cells #[.int .i64 0, .int .i64 0] 28))).trans hL
 obtain ⟨K0, K1, K2, Kq⟩ := kept4 hL
 have hsz := hL.size
 simp only [World.size_alloc] at hsz
 obtain ⟨c2, f2, z2⟩ := blk_at K2
 obtain ⟨c3, f3, z3⟩ := blk_at Kq
 cases Hb
 · have HF := Lib.hid (hF0.out rfl)
   clear K0 K1 K2 Kq
   go_wp2
   refine bodyPost_ret (v := .tuple #[.agg #[.int .i64 0, .int .i64 0], .bool false]) (by simp [results, Tryz.results135, go_sem, c3, z3]) rfl ⟨by rw [HF.out.1, HF.out.2], qla⟩
 have HF := Lib.hid (hF1.out rfl)
 have Kr := K1
 have hSB := hL0.size
 have hRB : w.heap.size ≤ w.heap.size + 1 := by omega
 have HKr := Lib.hid Kr
 have HK2 := Lib.hid K2
 have HKq := Lib.hid Kq
 clear K0 K1 hL c3 f3 z3 Kr K2 Kq
 go_wp2_with fail
 have Kr := HKr.out
 have K2 := HK2.out
 have Kq := HKq.out
 refine region_slots 73 [39, 40, 41, 42, 43, 44, 45, 46, 47] (fun g ac wc => sl ac 4 = .pointer (some ⟨w.heap.size + 1, 0, none⟩) ∧
  sl ac 5 = .pointer (some ⟨w.heap.size + 1 + 1, 0, none⟩) ∧
  (g 0 = true → sl ac 39 = .pointer (some ⟨w.heap.size + 1, 1, none⟩)) ∧
  (g 1 = true → sl ac 40 = .int .i64 b) ∧
  (g 2 = true → sl ac 41 = .pointer (some ⟨w.heap.size + 1 + 1, 1, none⟩)) ∧
  (g 3 = true → sl ac 42 = .int .i64 s) ∧
  (g 4 = true → sl ac 43 = .pointer (some ⟨w.heap.size + 1 + 1, 2, none⟩)) ∧
  (g 5 = true → sl ac 44 = .agg #[.int .i64 d, .int .i64 t]) ∧
  (g 6 = true → sl ac 45 = .int .i64 PT) ∧
  (g 7 = true → sl ac 46 = .int .i64 (b - PT)) ∧
  (g 8 = true → sl ac 47 = .pointer (some ⟨w.heap.size + 1, 0, none⟩)) ∧
  Later w wc ∧
  w1.heap.size ≤ wc.heap.size ∧
  wc.heap[w.heap.size + 1 + 1]? = some (.cells #[.int .i64 2, .int .i64 s, .int .i64 d, .int .i64 t] 107 (0, 0)) ∧
  wc.heap[w.heap.size + 1 + 1 + 1]? = some (.cells #[.int .i64 0, .int .i64 0] 28 (0, 0)) ∧
  (g 9 = true → g 1 = true) ∧
  (∃ r0 r1, wc.heap[w.heap.size + 1]? = some (.cells #[r0, r1] 28 (0, 0)) ∧ (g 9 = true → r0 = .int .i64 (b - PT) ∧ r1 = .int .i64 b) ∧ (g 9 = false → r0 = .int .i64 a ∧ r1 = .int .i64 b))) (by kernel_rfl) (by kernel_rfl) rfl (by kernel_rfl) ?_ ?_ ?_
 · exact ⟨rfl, rfl, nofun, nofun, nofun, nofun, nofun, nofun, nofun, nofun, nofun, hL0.drew, Nat.le_refl _, K2, Kq, nofun, ⟨_, _, Kr, nofun, fun _ => ⟨rfl, rfl⟩⟩⟩
 · intro g ac wu hg ha hI
   obtain ⟨x4, x5, i0, i1, i2, i3, i4, i5, i6, i7, i8, hL, hS, B2, Bq, -, Rr⟩ := hI
   have a0 := i0 (hg 0 (by simp))
   have a1 := i1 (hg 1 (by simp))
   have a2 := i2 (hg 2 (by simp))
   have a3 := i3 (hg 3 (by simp))
   have a4 := i4 (hg 4 (by simp))
   have a5 := i5 (hg 5 (by simp))
   have a6 := i6 (hg 6 (by simp))
   have a7 := i7 (hg 7 (by simp))
   have a8 := i8 (hg 8 (by simp))
   obtain ⟨r0, r1, Kr, gr⟩ := Rr
   have gr := gr.1 (hg 9 (by simp))
   rw [gr.1, gr.2] at Kr
   clear gr
   simp only [putAll, a0, a1, a2, a3, a4, a5, a6, a7, a8] at ha
   simp only [Act.put, List.setIfInBounds_toArray, List.set_cons_succ, List.set_cons_zero] at ha
   rw [ha]
   clear x4 x5 i0 i1 i2 i3 i4 i5 i6 i7 i8 a0 a1 a2 a3 a4 a5 a6 a7 a8 hg ha
   have K1 := Kr
   have Kq := Bq
   have hL0 := hL
   have hSB := hL0.size
   have hRBq : w.heap.size ≤ w.heap.size + 1 + 1 + 1 := by omega
   have lt1 := (Array.getElem?_eq_some_iff.1 K1).1
   clear hL hS Kr Bq B2
   go_wp2_with fail
   refine region_slots 73 [70, 71, 72, 7] (fun g ac wc => sl ac 4 = .pointer (some ⟨w.heap.size + 1, 0, none⟩) ∧
    sl ac 6 = .pointer (some ⟨w.heap.size + 1 + 1 + 1, 0, none⟩) ∧
    (g 0 = true → sl ac 70 = .agg #[.int .i64 (b - PT), .int .i64 b]) ∧
    (g 1 = true → sl ac 71 = .agg #[.int .i64 (b - PT), .int .i64 b]) ∧
    (g 2 = true → sl ac 72 = .bool (isStg ⟨(b - PT), b⟩)) ∧
    (g 4 = true → sl ac 7 = .bool (isStg ⟨(b - PT), b⟩)) ∧
    Later w wc ∧
    wu.heap.size ≤ wc.heap.size ∧
    wc.heap[w.heap.size + 1]? = some (.cells #[.int .i64 (b - PT), .int .i64 b] 28 (0, 0)) ∧
    (∃ q0 q1, wc.heap[w.heap.size + 1 + 1 + 1]? = some (.cells #[q0, q1] 28 (0, 0)) ∧ (g 3 = true → q0 = .int .i64 (b - PT) ∧ q1 = .int .i64 b))) (by kernel_rfl) (by kernel_rfl) rfl (by kernel_rfl) ?_ ?_ ?_
   · exact ⟨rfl, rfl, nofun, nofun, nofun, nofun, hL0.drew, Nat.le_refl _, K1, ⟨_, _, Kq, nofun⟩⟩
   · intro g ac wt hg ha hI
     obtain ⟨x4, x6, i0, i1, i2, i4, hL, hS, B1, Rq⟩ := hI
     have a0 := i0 (hg 0 (by simp))
     have a1 := i1 (hg 1 (by simp))
     have a2 := i2 (hg 2 (by simp))
     have a4 := i4 (hg 4 (by simp))
     obtain ⟨q0, q1, Kq, gr⟩ := Rq
     have gr := gr (hg 3 (by simp))
     rw [gr.1, gr.2] at Kq
     clear gr
     simp only [putAll, a0, a1, a2, a4] at ha
     simp only [Act.put, List.setIfInBounds_toArray, List.set_cons_succ, List.set_cons_zero] at ha
     rw [ha]
     clear x4 x6 i0 i1 i2 i4 a0 a1 a2 a4 hg ha
     have c0 := (blk_at Kq).1
     have z0 := (blk_at Kq).2.2
     go_wp2
     refine bodyPost_ret (v := .tuple #[.agg #[.int .i64 (b - PT), .int .i64 b], .bool (isStg ⟨(b - PT), b⟩)]) (by simp [results, Tryz.results135, go_sem, c0, z0]) rfl ⟨by rw [HF.out.1, HF.out.2], hL⟩
   · refine .cons ?_ (.cons ?_ (.cons ?_ (.cons ?_ (.cons ?_ .nil))))
     · refine qst fun g ac wc hn hk hr HI K' hK => ?_
       obtain ⟨x4, x6, -, -, -, -, hL, hS, B1, Rq⟩ := HI.out
       simp [Region.binds] at hr
       obtain ⟨c0, f0, z0⟩ := blk_at B1
       go_simp
       obtain ⟨-, -, i0, i1, i2, i4, -⟩ := HI.out
       exact hK.out _ _ ⟨qB x4, qB x6, qP, qF i1, qF i2, qF i4, hL, hS, B1, Rq⟩
     · refine qst fun g ac wc hn hk hr HI K' hK => ?_
       obtain ⟨x4, x6, -, -, -, -, hL, hS, B1, Rq⟩ := HI.out
       simp [Region.binds] at hr
       obtain ⟨c0, f0, z0⟩ := blk_at B1
       go_simp
       obtain ⟨-, -, i0, i1, i2, i4, -⟩ := HI.out
       exact hK.out _ _ ⟨qB x4, qB x6, qF i0, qP, qF i2, qF i4, hL, hS, B1, Rq⟩
     · refine qst fun g ac wc hn hk hr HI K' hK => ?_
       obtain ⟨x4, x6, -, i1, -, -, hL, hS, B1, Rq⟩ := HI.out
       simp [Region.binds] at hr
       have y1 := i1 (by simp [hr])
       clear i1
       go_simp
       refine (w_implIsSetting _ _ _).mono ?_
       rintro e w4 ⟨rfl, hL4⟩
       obtain ⟨-, -, i0, i1, i2, i4, -⟩ := HI.out
       exact hK.out _ _ ⟨qB x4, qB x6, qF i0, qF i1, qP, qF i4, hL.trans hL4, Nat.le_trans hS hL4.size, hL4.keep B1, (by obtain ⟨q0, q1, R1, R2⟩ := Rq; exact ⟨q0, q1, hL4.keep R1, R2⟩)⟩
     · refine qst fun g ac wc hn hk hr HI K' hK => ?_
       obtain ⟨x4, x6, i0, -, -, -, hL, hS, B1, Rq⟩ := HI.out
       simp [Region.binds] at hr
       have y0 := i0 (by simp [hr])
       clear i0
       obtain ⟨q0, q1, R1, -⟩ := Rq
       obtain ⟨c0, f0, z0⟩ := blk_at R1
       go_simp
       obtain ⟨-, -, i0, i1, i2, i4, -⟩ := HI.out
       exact hK.out undef _ ⟨x4, x6, i0, i1, i2, i4, ((hL.setCell hRBq _).setCell hRBq _), (by simp; omega), (other_set (other_set B1 (by omega) _) (by omega) _), ⟨_, _, two_set R1 _ _, fun _ => ⟨rfl, rfl⟩⟩⟩
     · refine qst fun g ac wc hn hk hr HI K' hK => ?_
       obtain ⟨x4, x6, -, -, i2, -, hL, hS, B1, Rq⟩ := HI.out
       simp [Region.binds] at hr
       have y2 := i2 (by simp [hr])
       clear i2
       go_simp
       obtain ⟨-, -, i0, i1, i2, i4, -⟩ := HI.out
       exact hK.out _ _ ⟨qB x4, qB x6, qF i0, qF i1, qF i2, qP, hL, hS, B1, Rq⟩
 · refine .cons ?_ (.cons ?_ (.cons ?_ (.cons ?_ (.cons ?_ (.cons ?_ (.cons ?_ (.cons ?_ (.cons ?_ (.cons ?_ .nil)))))))))
   · refine qst fun g ac wc hn hk hr HI K' hK => ?_
     obtain ⟨x4, x5, -, -, -, -, -, -, -, -, -, hL, hS, B2, Bq, l9_1, Rr⟩ := HI.out
     simp [Region.binds] at hr
     go_simp
     obtain ⟨-, -, i0, i1, i2, i3, i4, i5, i6, i7, i8, -⟩ := HI.out
     exact hK.out _ _ ⟨qB x4, qB x5, qP, qF i1, qF i2, qF i3, qF i4, qF i5, qF i6, qF i7, qF i8, hL, hS, B2, Bq, l9_1, Rr⟩
   · refine qst fun g ac wc hn hk hr HI K' hK => ?_
     obtain ⟨x4, x5, i0, -, -, -, -, -, -, -, -, hL, hS, B2, Bq, l9_1, Rr⟩ := HI.out
     simp [Region.binds] at hr
     have y0 := i0 (by simp [hr])
     clear i0
     have hst : g 9 = false := by
      cases hq : g 9 with
      | false => rfl
      | true =>
       have := l9_1 hq
       rw [hk] at this
       cases this
     have RR := Rr
     obtain ⟨r0, r1, R1, -, R3⟩ := RR
     have R3 := R3 hst
     rw [R3.1, R3.2] at R1
     obtain ⟨cR, fR, zR⟩ := blk_at R1
     clear R1 R3
     go_simp
     obtain ⟨-, -, i0, i1, i2, i3, i4, i5, i6, i7, i8, -⟩ := HI.out
     exact hK.out _ _ ⟨qB x4, qB x5, qF i0, qP, qF i2, qF i3, qF i4, qF i5, qF i6, qF i7, qF i8, hL, hS, B2, Bq, (fun _ => rfl), Rr⟩
   · refine qst fun g ac wc hn hk hr HI K' hK => ?_
     obtain ⟨x4, x5, -, -, -, -, -, -, -, -, -, hL, hS, B2, Bq, l9_1, Rr⟩ := HI.out
     simp [Region.binds] at hr
     go_simp
     obtain ⟨-, -, i0, i1, i2, i3, i4, i5, i6, i7, i8, -⟩ := HI.out
     exact hK.out _ _ ⟨qB x4, qB x5, qF i0, qF i1, qP, qF i3, qF i4, qF i5, qF i6, qF i7, qF i8, hL, hS, B2, Bq, l9_1, Rr⟩
   · refine qst fun g ac wc hn hk hr HI K' hK => ?_
     obtain ⟨x4, x5, -, -, i2, -, -, -, -, -, -, hL, hS, B2, Bq, l9_1, Rr⟩ := HI.out
     simp [Region.binds] at hr
     have y2 := i2 (by simp [hr])
     clear i2
     obtain ⟨c0, f0, z0⟩ := blk_at B2
     go_simp
     obtain ⟨-, -, i0, i1, i2, i3, i4, i5, i6, i7, i8, -⟩ := HI.out
     exact hK.out _ _ ⟨qB x4, qB x5, qF i0, qF i1, qF i2, qP, qF i4, qF i5, qF i6, qF i7, qF i8, hL, hS, B2, Bq, l9_1, Rr⟩
   · refine qst fun g ac wc hn hk hr HI K' hK => ?_
     obtain ⟨x4, x5, -, -, -, -, -, -, -, -, -, hL, hS, B2, Bq, l9_1, Rr⟩ := HI.out
     simp [Region.binds] at hr
     go_simp
     obtain ⟨-, -, i0, i1, i2, i3, i4, i5, i6, i7, i8, -⟩ := HI.out
     exact hK.out _ _ ⟨qB x4, qB x5, qF i0, qF i1, qF i2, qF i3, qP, qF i5, qF i6, qF i7, qF i8, hL, hS, B2, Bq, l9_1, Rr⟩
   · refine qst fun g ac wc hn hk hr HI K' hK => ?_
     obtain ⟨x4, x5, -, -, -, -, i4, -, -, -, -, hL, hS, B2, Bq, l9_1, Rr⟩ := HI.out
     simp [Region.binds] at hr
     have y4 := i4 (by simp [hr])
     clear i4
     obtain ⟨c0, f0, z0⟩ := blk_at B2
     go_simp
     obtain ⟨-, -, i0, i1, i2, i3, i4, i5, i6, i7, i8, -⟩ := HI.out
     exact hK.out _ _ ⟨qB x4, qB x5, qF i0, qF i1, qF i2, qF i3, qF i4, qP, qF i6, qF i7, qF i8, hL, hS, B2, Bq, l9_1, Rr⟩
   · refine qst fun g ac wc hn hk hr HI K' hK => ?_
     obtain ⟨x4, x5, -, -, -, i3, -, i5, -, -, -, hL, hS, B2, Bq, l9_1, Rr⟩ := HI.out
     simp [Region.binds] at hr
     have y3 := i3 (by simp [hr])
     have y5 := i5 (by simp [hr])
     clear i3 i5
     go_simp
     refine (w_implPoint _ _ _ s1 s2 t1 t2 (by omega) (by omega) _).mono ?_
     rintro e w4 ⟨rfl, hL4⟩
     rw [HPT.out]
     obtain ⟨-, -, i0, i1, i2, i3, i4, i5, i6, i7, i8, -⟩ := HI.out
     exact hK.out _ _ ⟨qB x4, qB x5, qF i0, qF i1, qF i2, qF i3, qF i4, qF i5, qP, qF i7, qF i8, hL.trans hL4, Nat.le_trans hS hL4.size, hL4.keep B2, hL4.keep Bq, l9_1, (by obtain ⟨r0, r1, R1, R2⟩ := Rr; exact ⟨r0, r1, hL4.keep R1, R2⟩)⟩
   · refine qst fun g ac wc hn hk hr HI K' hK => ?_
     obtain ⟨x4, x5, -, i1, -, -, -, -, i6, -, -, hL, hS, B2, Bq, l9_1, Rr⟩ := HI.out
     simp [Region.binds] at hr
     have y1 := i1 (by simp [hr])
     have y6 := i6 (by simp [hr])
     clear i1 i6
     have wD : IntKind.i64.wrap (b - PT) = b - PT := wrap_same (by omega) (by omega)
     go_simp
     obtain ⟨-, -, i0, i1, i2, i3, i4, i5, i6, i7, i8, -⟩ := HI.out
     exact hK.out _ _ ⟨qB x4, qB x5, qF i0, qF i1, qF i2, qF i3, qF i4, qF i5, qF i6, qP, qF i8, hL, hS, B2, Bq, l9_1, Rr⟩
   · refine qst fun g ac wc hn hk hr HI K' hK => ?_
     obtain ⟨x4, x5, -, -, -, -, -, -, -, -, -, hL, hS, B2, Bq, l9_1, Rr⟩ := HI.out
     simp [Region.binds] at hr
     go_simp
     obtain ⟨-, -, i0, i1, i2, i3, i4, i5, i6, i7, i8, -⟩ := HI.out
     exact hK.out _ _ ⟨qB x4, qB x5, qF i0, qF i1, qF i2, qF i3, qF i4, qF i5, qF i6, qF i7, qP, hL, hS, B2, Bq, l9_1, Rr⟩
   · refine qst fun g ac wc hn hk hr HI K' hK => ?_
     obtain ⟨x4, x5, -, -, -, -, -, -, -, i7, i8, hL, hS, B2, Bq, l9_1, Rr⟩ := HI.out
     simp [Region.binds] at hr
     have y8 := i8 (by simp [hr])
     have y7 := i7 (by simp [hr])
     clear i7 i8
     obtain ⟨r0, r1, R1, -, R3⟩ := Rr
     have R3 := R3 hk
     rw [R3.1, R3.2] at R1
     obtain ⟨c0, f0, z0⟩ := blk_at R1
     go_simp
     obtain ⟨-, -, i0, i1, i2, i3, i4, i5, i6, i7, i8, -⟩ := HI.out
     exact hK.out undef _ ⟨x4, x5, i0, i1, i2, i3, i4, i5, i6, i7, i8, (hL.setCell hRB _), (by simp; omega), (other_set B2 (by omega) _), (other_set Bq (by omega) _), (fun _ => by simp [hr]), ⟨_, _, set_0of2 R1 _, fun _ => ⟨rfl, rfl⟩, fun h => absurd h (by simp)⟩⟩
set_option maxHeartbeats 4000000 in
theorem w_implMv3 (n : Int) (u v : Value) (st sd : List Int) (a b : Int) (w : World) (h : IsNums w u st) (h' : IsNums w v sd) (hs : isStg ⟨a, b⟩ = true) :
 Calls Tryz.prog 135 #[.agg #[.int .i64 n, u, v], .agg #[.int .i64 a, .int .i64 b], .agg #[.int .i64 3, .int .i64 0, .int .i64 0, .int .i64 0]] w fun e w' => e = .returned (.tuple #[.agg #[.int .i64 (mvS ⟨n, st, sd⟩ ⟨a, b⟩ ⟨3, 0, ⟨0, 0⟩⟩).sh, .int .i64 (mvS ⟨n, st, sd⟩ ⟨a, b⟩ ⟨3, 0, ⟨0, 0⟩⟩).cu], .bool (mvOk ⟨n, st, sd⟩ ⟨a, b⟩ ⟨3, 0, ⟨0, 0⟩⟩)]) ∧ Later w w' := by
 have hsb := isStg_bd hs
 simp only at hsb
 obtain ⟨a1, a2, b1, b2⟩ := hsb
 clear hs
 have HF := Lib.hid (show mvS ⟨n, st, sd⟩ ⟨a, b⟩ ⟨3, 0, ⟨0, 0⟩⟩ = ⟨b, b⟩ ∧ mvOk ⟨n, st, sd⟩ ⟨a, b⟩ ⟨3, 0, ⟨0, 0⟩⟩ = isStg ⟨b, b⟩ from ⟨rfl, rfl⟩)
 obtain ⟨_, _, au, capu, rfl, _, _, _⟩ := h
 obtain ⟨_, _, av, capv, rfl, _, _, _⟩ := h'
 go_enter Tryz.func135, Tryz.ntmps135
 go_wp2
 refine wp_name ?_
 intro u hu
 have K1 : u.heap[w.heap.size + 1]? = some (.cells #[.int .i64 b, .int .i64 b] 28 (0, 0)) := by rw [hu]; exact heap_alloc_old _ _ (heap_alloc_old _ _ (heap_alloc_new' _ _ (by simp)))
 have Kq : u.heap[w.heap.size + 1 + 1 + 1]? = some (.cells #[.int .i64 0, .int .i64 0] 28 (0, 0)) := by rw [hu]; exact heap_alloc_new' _ _ (by simp)
 have hL0 : Later w u := by rw [hu]; exact qla
 have hsz : w.heap.size + 1 + 1 + 1 + 1 ≤ u.heap.size := by rw [hu]; simp
 have hSB := hL0.size
 have hRBq : w.heap.size ≤ w.heap.size + 1 + 1 + 1 := by omega
 clear hu
 refine region_slots 73 [70, 71, 72, 7] (fun g ac wc => sl ac 4 = .pointer (some ⟨w.heap.size + 1, 0, none⟩) ∧
  sl ac 6 = .pointer (some ⟨w.heap.size + 1 + 1 + 1, 0, none⟩) ∧
  (g 0 = true → sl ac 70 = .agg #[.int .i64 b, .int .i64 b]) ∧
  (g 1 = true → sl ac 71 = .agg #[.int .i64 b, .int .i64 b]) ∧
  (g 2 = true → sl ac 72 = .bool (isStg ⟨b, b⟩)) ∧
  (g 4 = true → sl ac 7 = .bool (isStg ⟨b, b⟩)) ∧
  Later w wc ∧
  u.heap.size ≤ wc.heap.size ∧
  wc.heap[w.heap.size + 1]? = some (.cells #[.int .i64 b, .int .i64 b] 28 (0, 0)) ∧
  (∃ q0 q1, wc.heap[w.heap.size + 1 + 1 + 1]? = some (.cells #[q0, q1] 28 (0, 0)) ∧ (g 3 = true → q0 = .int .i64 b ∧ q1 = .int .i64 b))) (by kernel_rfl) (by kernel_rfl) rfl (by kernel_rfl) ?_ ?_ ?_
 · exact ⟨rfl, rfl, nofun, nofun, nofun, nofun, hL0.drew, Nat.le_refl _, K1, ⟨_, _, Kq, nofun⟩⟩
 · intro g ac wt hg ha hI
   obtain ⟨x4, x6, i0, i1, i2, i4, hL, hS, B1, Rq⟩ := hI
   have a0 := i0 (hg 0 (by simp))
   have a1 := i1 (hg 1 (by simp))
   have a2 := i2 (hg 2 (by simp))
   have a4 := i4 (hg 4 (by simp))
   obtain ⟨q0, q1, Kq, gr⟩ := Rq
   have gr := gr (hg 3 (by simp))
   rw [gr.1, gr.2] at Kq
   clear gr
   simp only [putAll, a0, a1, a2, a4] at ha
   simp only [Act.put, List.setIfInBounds_toArray, List.set_cons_succ, List.set_cons_zero] at ha
   rw [ha]
   clear x4 x6 i0 i1 i2 i4 a0 a1 a2 a4 hg ha
   have c0 := (blk_at Kq).1
   have z0 := (blk_at Kq).2.2
   go_wp2
   refine bodyPost_ret (v := .tuple #[.agg #[.int .i64 b, .int .i64 b], .bool (isStg ⟨b, b⟩)]) (by simp [results, Tryz.results135, go_sem, c0, z0]) rfl ⟨by rw [HF.out.1, HF.out.2], hL⟩
 · refine .cons ?_ (.cons ?_ (.cons ?_ (.cons ?_ (.cons ?_ .nil))))
   · refine qst fun g ac wc hn hk hr HI K' hK => ?_
     obtain ⟨x4, x6, -, -, -, -, hL, hS, B1, Rq⟩ := HI.out
     simp [Region.binds] at hr
     obtain ⟨c0, f0, z0⟩ := blk_at B1
     go_simp
     obtain ⟨-, -, i0, i1, i2, i4, -⟩ := HI.out
     exact hK.out _ _ ⟨qB x4, qB x6, qP, qF i1, qF i2, qF i4, hL, hS, B1, Rq⟩
   · refine qst fun g ac wc hn hk hr HI K' hK => ?_
     obtain ⟨x4, x6, -, -, -, -, hL, hS, B1, Rq⟩ := HI.out
     simp [Region.binds] at hr
     obtain ⟨c0, f0, z0⟩ := blk_at B1
     go_simp
     obtain ⟨-, -, i0, i1, i2, i4, -⟩ := HI.out
     exact hK.out _ _ ⟨qB x4, qB x6, qF i0, qP, qF i2, qF i4, hL, hS, B1, Rq⟩
   · refine qst fun g ac wc hn hk hr HI K' hK => ?_
     obtain ⟨x4, x6, -, i1, -, -, hL, hS, B1, Rq⟩ := HI.out
     simp [Region.binds] at hr
     have y1 := i1 (by simp [hr])
     clear i1
     go_simp
     refine (w_implIsSetting _ _ _).mono ?_
     rintro e w4 ⟨rfl, hL4⟩
     obtain ⟨-, -, i0, i1, i2, i4, -⟩ := HI.out
     exact hK.out _ _ ⟨qB x4, qB x6, qF i0, qF i1, qP, qF i4, hL.trans hL4, Nat.le_trans hS hL4.size, hL4.keep B1, (by obtain ⟨q0, q1, R1, R2⟩ := Rq; exact ⟨q0, q1, hL4.keep R1, R2⟩)⟩
   · refine qst fun g ac wc hn hk hr HI K' hK => ?_
     obtain ⟨x4, x6, i0, -, -, -, hL, hS, B1, Rq⟩ := HI.out
     simp [Region.binds] at hr
     have y0 := i0 (by simp [hr])
     clear i0
     obtain ⟨q0, q1, R1, -⟩ := Rq
     obtain ⟨c0, f0, z0⟩ := blk_at R1
     go_simp
     obtain ⟨-, -, i0, i1, i2, i4, -⟩ := HI.out
     exact hK.out undef _ ⟨x4, x6, i0, i1, i2, i4, ((hL.setCell hRBq _).setCell hRBq _), (by simp; omega), (other_set (other_set B1 (by omega) _) (by omega) _), ⟨_, _, two_set R1 _ _, fun _ => ⟨rfl, rfl⟩⟩⟩
   · refine qst fun g ac wc hn hk hr HI K' hK => ?_
     obtain ⟨x4, x6, -, -, i2, -, hL, hS, B1, Rq⟩ := HI.out
     simp [Region.binds] at hr
     have y2 := i2 (by simp [hr])
     clear i2
     go_simp
     obtain ⟨-, -, i0, i1, i2, i4, -⟩ := HI.out
     exact hK.out _ _ ⟨qB x4, qB x6, qF i0, qF i1, qF i2, qP, hL, hS, B1, Rq⟩
set_option maxHeartbeats 4000000 in
theorem w_implMv4 (n : Int) (u v : Value) (st sd : List Int) (a b : Int) (w : World) (h : IsNums w u st) (h' : IsNums w v sd) (hs : isStg ⟨a, b⟩ = true) :
 Calls Tryz.prog 135 #[.agg #[.int .i64 n, u, v], .agg #[.int .i64 a, .int .i64 b], .agg #[.int .i64 4, .int .i64 0, .int .i64 0, .int .i64 0]] w fun e w' => e = .returned (.tuple #[.agg #[.int .i64 (mvS ⟨n, st, sd⟩ ⟨a, b⟩ ⟨4, 0, ⟨0, 0⟩⟩).sh, .int .i64 (mvS ⟨n, st, sd⟩ ⟨a, b⟩ ⟨4, 0, ⟨0, 0⟩⟩).cu], .bool (mvOk ⟨n, st, sd⟩ ⟨a, b⟩ ⟨4, 0, ⟨0, 0⟩⟩)]) ∧ Later w w' := by
 have hsb := isStg_bd hs
 simp only at hsb
 obtain ⟨a1, a2, b1, b2⟩ := hsb
 clear hs
 have HF := Lib.hid (show mvS ⟨n, st, sd⟩ ⟨a, b⟩ ⟨4, 0, ⟨0, 0⟩⟩ = ⟨b - 1048576, b⟩ ∧ mvOk ⟨n, st, sd⟩ ⟨a, b⟩ ⟨4, 0, ⟨0, 0⟩⟩ = isStg ⟨b - 1048576, b⟩ from ⟨rfl, rfl⟩)
 obtain ⟨_, _, au, capu, rfl, _, _, _⟩ := h
 obtain ⟨_, _, av, capv, rfl, _, _, _⟩ := h'
 go_enter Tryz.func135, Tryz.ntmps135
 go_wp2
 refine wp_name ?_
 intro u hu
 have K1 : u.heap[w.heap.size + 1]? = some (.cells #[.int .i64 (b - 1048576), .int .i64 b] 28 (0, 0)) := by rw [hu]; exact heap_alloc_old _ _ (heap_alloc_old _ _ (heap_alloc_new' _ _ (by simp)))
 have Kq : u.heap[w.heap.size + 1 + 1 + 1]? = some (.cells #[.int .i64 0, .int .i64 0] 28 (0, 0)) := by rw [hu]; exact heap_alloc_new' _ _ (by simp)
 have hL0 : Later w u := by rw [hu]; exact qla
 have hsz : w.heap.size + 1 + 1 + 1 + 1 ≤ u.heap.size := by rw [hu]; simp
 have hSB := hL0.size
 have hRBq : w.heap.size ≤ w.heap.size + 1 + 1 + 1 := by omega
 clear hu
 refine region_slots 73 [70, 71, 72, 7] (fun g ac wc => sl ac 4 = .pointer (some ⟨w.heap.size + 1, 0, none⟩) ∧
  sl ac 6 = .pointer (some ⟨w.heap.size + 1 + 1 + 1, 0, none⟩) ∧
  (g 0 = true → sl ac 70 = .agg #[.int .i64 (b - 1048576), .int .i64 b]) ∧
  (g 1 = true → sl ac 71 = .agg #[.int .i64 (b - 1048576), .int .i64 b]) ∧
  (g 2 = true → sl ac 72 = .bool (isStg ⟨(b - 1048576), b⟩)) ∧
  (g 4 = true → sl ac 7 = .bool (isStg ⟨(b - 1048576), b⟩)) ∧
  Later w wc ∧
  u.heap.size ≤ wc.heap.size ∧
  wc.heap[w.heap.size + 1]? = some (.cells #[.int .i64 (b - 1048576), .int .i64 b] 28 (0, 0)) ∧
  (∃ q0 q1, wc.heap[w.heap.size + 1 + 1 + 1]? = some (.cells #[q0, q1] 28 (0, 0)) ∧ (g 3 = true → q0 = .int .i64 (b - 1048576) ∧ q1 = .int .i64 b))) (by kernel_rfl) (by kernel_rfl) rfl (by kernel_rfl) ?_ ?_ ?_
 · exact ⟨rfl, rfl, nofun, nofun, nofun, nofun, hL0.drew, Nat.le_refl _, K1, ⟨_, _, Kq, nofun⟩⟩
 · intro g ac wt hg ha hI
   obtain ⟨x4, x6, i0, i1, i2, i4, hL, hS, B1, Rq⟩ := hI
   have a0 := i0 (hg 0 (by simp))
   have a1 := i1 (hg 1 (by simp))
   have a2 := i2 (hg 2 (by simp))
   have a4 := i4 (hg 4 (by simp))
   obtain ⟨q0, q1, Kq, gr⟩ := Rq
   have gr := gr (hg 3 (by simp))
   rw [gr.1, gr.2] at Kq
   clear gr
   simp only [putAll, a0, a1, a2, a4] at ha
   simp only [Act.put, List.setIfInBounds_toArray, List.set_cons_succ, List.set_cons_zero] at ha
   rw [ha]
   clear x4 x6 i0 i1 i2 i4 a0 a1 a2 a4 hg ha
   have c0 := (blk_at Kq).1
   have z0 := (blk_at Kq).2.2
   go_wp2
   refine bodyPost_ret (v := .tuple #[.agg #[.int .i64 (b - 1048576), .int .i64 b], .bool (isStg ⟨(b - 1048576), b⟩)]) (by simp [results, Tryz.results135, go_sem, c0, z0]) rfl ⟨by rw [HF.out.1, HF.out.2], hL⟩
 · refine .cons ?_ (.cons ?_ (.cons ?_ (.cons ?_ (.cons ?_ .nil))))
   · refine qst fun g ac wc hn hk hr HI K' hK => ?_
     obtain ⟨x4, x6, -, -, -, -, hL, hS, B1, Rq⟩ := HI.out
     simp [Region.binds] at hr
     obtain ⟨c0, f0, z0⟩ := blk_at B1
     go_simp
     obtain ⟨-, -, i0, i1, i2, i4, -⟩ := HI.out
     exact hK.out _ _ ⟨qB x4, qB x6, qP, qF i1, qF i2, qF i4, hL, hS, B1, Rq⟩
   · refine qst fun g ac wc hn hk hr HI K' hK => ?_
     obtain ⟨x4, x6, -, -, -, -, hL, hS, B1, Rq⟩ := HI.out
     simp [Region.binds] at hr
     obtain ⟨c0, f0, z0⟩ := blk_at B1
     go_simp
     obtain ⟨-, -, i0, i1, i2, i4, -⟩ := HI.out
     exact hK.out _ _ ⟨qB x4, qB x6, qF i0, qP, qF i2, qF i4, hL, hS, B1, Rq⟩
   · refine qst fun g ac wc hn hk hr HI K' hK => ?_
     obtain ⟨x4, x6, -, i1, -, -, hL, hS, B1, Rq⟩ := HI.out
     simp [Region.binds] at hr
     have y1 := i1 (by simp [hr])
     clear i1
     go_simp
     refine (w_implIsSetting _ _ _).mono ?_
     rintro e w4 ⟨rfl, hL4⟩
     obtain ⟨-, -, i0, i1, i2, i4, -⟩ := HI.out
     exact hK.out _ _ ⟨qB x4, qB x6, qF i0, qF i1, qP, qF i4, hL.trans hL4, Nat.le_trans hS hL4.size, hL4.keep B1, (by obtain ⟨q0, q1, R1, R2⟩ := Rq; exact ⟨q0, q1, hL4.keep R1, R2⟩)⟩
   · refine qst fun g ac wc hn hk hr HI K' hK => ?_
     obtain ⟨x4, x6, i0, -, -, -, hL, hS, B1, Rq⟩ := HI.out
     simp [Region.binds] at hr
     have y0 := i0 (by simp [hr])
     clear i0
     obtain ⟨q0, q1, R1, -⟩ := Rq
     obtain ⟨c0, f0, z0⟩ := blk_at R1
     go_simp
     obtain ⟨-, -, i0, i1, i2, i4, -⟩ := HI.out
     exact hK.out undef _ ⟨x4, x6, i0, i1, i2, i4, ((hL.setCell hRBq _).setCell hRBq _), (by simp; omega), (other_set (other_set B1 (by omega) _) (by omega) _), ⟨_, _, two_set R1 _ _, fun _ => ⟨rfl, rfl⟩⟩⟩
   · refine qst fun g ac wc hn hk hr HI K' hK => ?_
     obtain ⟨x4, x6, -, -, i2, -, hL, hS, B1, Rq⟩ := HI.out
     simp [Region.binds] at hr
     have y2 := i2 (by simp [hr])
     clear i2
     go_simp
     obtain ⟨-, -, i0, i1, i2, i4, -⟩ := HI.out
     exact hK.out _ _ ⟨qB x4, qB x6, qF i0, qF i1, qF i2, qP, hL, hS, B1, Rq⟩
set_option maxHeartbeats 4000000 in
theorem w_implMv5 (n : Int) (u v : Value) (st sd : List Int) (a b : Int) (w : World) (h : IsNums w u st) (h' : IsNums w v sd) (hs : isStg ⟨a, b⟩ = true) :
 Calls Tryz.prog 135 #[.agg #[.int .i64 n, u, v], .agg #[.int .i64 a, .int .i64 b], .agg #[.int .i64 5, .int .i64 0, .int .i64 0, .int .i64 0]] w fun e w' => e = .returned (.tuple #[.agg #[.int .i64 (mvS ⟨n, st, sd⟩ ⟨a, b⟩ ⟨5, 0, ⟨0, 0⟩⟩).sh, .int .i64 (mvS ⟨n, st, sd⟩ ⟨a, b⟩ ⟨5, 0, ⟨0, 0⟩⟩).cu], .bool (mvOk ⟨n, st, sd⟩ ⟨a, b⟩ ⟨5, 0, ⟨0, 0⟩⟩)]) ∧ Later w w' := by
 have hsb := isStg_bd hs
 simp only at hsb
 obtain ⟨a1, a2, b1, b2⟩ := hsb
 clear hs
 have HF := Lib.hid (show mvS ⟨n, st, sd⟩ ⟨a, b⟩ ⟨5, 0, ⟨0, 0⟩⟩ = ⟨a, a⟩ ∧ mvOk ⟨n, st, sd⟩ ⟨a, b⟩ ⟨5, 0, ⟨0, 0⟩⟩ = isStg ⟨a, a⟩ from ⟨rfl, rfl⟩)
 obtain ⟨_, _, au, capu, rfl, _, _, _⟩ := h
 obtain ⟨_, _, av, capv, rfl, _, _, _⟩ := h'
 go_enter Tryz.func135, Tryz.ntmps135
 go_wp2
 refine wp_name ?_
 intro u hu
 have K1 : u.heap[w.heap.size + 1]? = some (.cells #[.int .i64 a, .int .i64 a] 28 (0, 0)) := by rw [hu]; exact heap_alloc_old _ _ (heap_alloc_old _ _ (heap_alloc_new' _ _ (by simp)))
 have Kq : u.heap[w.heap.size + 1 + 1 + 1]? = some (.cells #[.int .i64 0, .int .i64 0] 28 (0, 0)) := by rw [hu]; exact heap_alloc_new' _ _ (by simp)
 have hL0 : Later w u := by rw [hu]; exact qla
 have hsz : w.heap.size + 1 + 1 + 1 + 1 ≤ u.heap.size := by rw [hu]; simp
 have hSB := hL0.size
 have hRBq : w.heap.size ≤ w.heap.size + 1 + 1 + 1 := by omega
 clear hu
 refine region_slots 73 [70, 71, 72, 7] (fun g ac wc => sl ac 4 = .pointer (some ⟨w.heap.size + 1, 0, none⟩) ∧
  sl ac 6 = .pointer (some ⟨w.heap.size + 1 + 1 + 1, 0, none⟩) ∧
  (g 0 = true → sl ac 70 = .agg #[.int .i64 a, .int .i64 a]) ∧
  (g 1 = true → sl ac 71 = .agg #[.int .i64 a, .int .i64 a]) ∧
  (g 2 = true → sl ac 72 = .bool (isStg ⟨a, a⟩)) ∧
  (g 4 = true → sl ac 7 = .bool (isStg ⟨a, a⟩)) ∧
  Later w wc ∧
  u.heap.size ≤ wc.heap.size ∧
  wc.heap[w.heap.size + 1]? = some (.cells #[.int .i64 a, .int .i64 a] 28 (0, 0)) ∧
  (∃ q0 q1, wc.heap[w.heap.size + 1 + 1 + 1]? = some (.cells #[q0, q1] 28 (0, 0)) ∧ (g 3 = true → q0 = .int .i64 a ∧ q1 = .int .i64 a))) (by kernel_rfl) (by kernel_rfl) rfl (by kernel_rfl) ?_ ?_ ?_
 · exact ⟨rfl, rfl, nofun, nofun, nofun, nofun, hL0.drew, Nat.le_refl _, K1, ⟨_, _, Kq, nofun⟩⟩
 · intro g ac wt hg ha hI
   obtain ⟨x4, x6, i0, i1, i2, i4, hL, hS, B1, Rq⟩ := hI
   have a0 := i0 (hg 0 (by simp))
   have a1 := i1 (hg 1 (by simp))
   have a2 := i2 (hg 2 (by simp))
   have a4 := i4 (hg 4 (by simp))
   obtain ⟨q0, q1, Kq, gr⟩ := Rq
   have gr := gr (hg 3 (by simp))
   rw [gr.1, gr.2] at Kq
   clear gr
   simp only [putAll, a0, a1, a2, a4] at ha
   simp only [Act.put, List.setIfInBounds_toArray, List.set_cons_succ, List.set_cons_zero] at ha
   rw [ha]
   clear x4 x6 i0 i1 i2 i4 a0 a1 a2 a4 hg ha
   have c0 := (blk_at Kq).1
   have z0 := (blk_at Kq).2.2
   go_wp2
   refine bodyPost_ret (v := .tuple #[.agg #[.int .i64 a, .int .i64 a], .bool (isStg ⟨a, a⟩)]) (by simp [results, Tryz.results135, go_sem, c0, z0]) rfl ⟨by rw [HF.out.1, HF.out.2], hL⟩
 · refine .cons ?_ (.cons ?_ (.cons ?_ (.cons ?_ (.cons ?_ .nil))))
   · refine qst fun g ac wc hn hk hr HI K' hK => ?_
     obtain ⟨x4, x6, -, -, -, -, hL, hS, B1, Rq⟩ := HI.out
     simp [Region.binds] at hr
     obtain ⟨c0, f0, z0⟩ := blk_at B1
     go_simp
     obtain ⟨-, -, i0, i1, i2, i4, -⟩ := HI.out
     exact hK.out _ _ ⟨qB x4, qB x6, qP, qF i1, qF i2, qF i4, hL, hS, B1, Rq⟩
   · refine qst fun g ac wc hn hk hr HI K' hK => ?_
     obtain ⟨x4, x6, -, -, -, -, hL, hS, B1, Rq⟩ := HI.out
     simp [Region.binds] at hr
     obtain ⟨c0, f0, z0⟩ := blk_at B1
     go_simp
     obtain ⟨-, -, i0, i1, i2, i4, -⟩ := HI.out
     exact hK.out _ _ ⟨qB x4, qB x6, qF i0, qP, qF i2, qF i4, hL, hS, B1, Rq⟩
   · refine qst fun g ac wc hn hk hr HI K' hK => ?_
     obtain ⟨x4, x6, -, i1, -, -, hL, hS, B1, Rq⟩ := HI.out
     simp [Region.binds] at hr
     have y1 := i1 (by simp [hr])
     clear i1
     go_simp
     refine (w_implIsSetting _ _ _).mono ?_
     rintro e w4 ⟨rfl, hL4⟩
     obtain ⟨-, -, i0, i1, i2, i4, -⟩ := HI.out
     exact hK.out _ _ ⟨qB x4, qB x6, qF i0, qF i1, qP, qF i4, hL.trans hL4, Nat.le_trans hS hL4.size, hL4.keep B1, (by obtain ⟨q0, q1, R1, R2⟩ := Rq; exact ⟨q0, q1, hL4.keep R1, R2⟩)⟩
   · refine qst fun g ac wc hn hk hr HI K' hK => ?_
     obtain ⟨x4, x6, i0, -, -, -, hL, hS, B1, Rq⟩ := HI.out
     simp [Region.binds] at hr
     have y0 := i0 (by simp [hr])
     clear i0
     obtain ⟨q0, q1, R1, -⟩ := Rq
     obtain ⟨c0, f0, z0⟩ := blk_at R1
     go_simp
     obtain ⟨-, -, i0, i1, i2, i4, -⟩ := HI.out
     exact hK.out undef _ ⟨x4, x6, i0, i1, i2, i4, ((hL.setCell hRBq _).setCell hRBq _), (by simp; omega), (other_set (other_set B1 (by omega) _) (by omega) _), ⟨_, _, two_set R1 _ _, fun _ => ⟨rfl, rfl⟩⟩⟩
   · refine qst fun g ac wc hn hk hr HI K' hK => ?_
     obtain ⟨x4, x6, -, -, i2, -, hL, hS, B1, Rq⟩ := HI.out
     simp [Region.binds] at hr
     have y2 := i2 (by simp [hr])
     clear i2
     go_simp
     obtain ⟨-, -, i0, i1, i2, i4, -⟩ := HI.out
     exact hK.out _ _ ⟨qB x4, qB x6, qF i0, qF i1, qF i2, qP, hL, hS, B1, Rq⟩
set_option maxHeartbeats 4000000 in
theorem w_implMv6 (n : Int) (u v : Value) (st sd : List Int) (a b : Int) (w : World) (h : IsNums w u st) (h' : IsNums w v sd) (hs : isStg ⟨a, b⟩ = true) :
 Calls Tryz.prog 135 #[.agg #[.int .i64 n, u, v], .agg #[.int .i64 a, .int .i64 b], .agg #[.int .i64 6, .int .i64 0, .int .i64 0, .int .i64 0]] w fun e w' => e = .returned (.tuple #[.agg #[.int .i64 (mvS ⟨n, st, sd⟩ ⟨a, b⟩ ⟨6, 0, ⟨0, 0⟩⟩).sh, .int .i64 (mvS ⟨n, st, sd⟩ ⟨a, b⟩ ⟨6, 0, ⟨0, 0⟩⟩).cu], .bool (mvOk ⟨n, st, sd⟩ ⟨a, b⟩ ⟨6, 0, ⟨0, 0⟩⟩)]) ∧ Later w w' := by
 have hsb := isStg_bd hs
 simp only at hsb
 obtain ⟨a1, a2, b1, b2⟩ := hsb
 clear hs
 have HF := Lib.hid (show mvS ⟨n, st, sd⟩ ⟨a, b⟩ ⟨6, 0, ⟨0, 0⟩⟩ = ⟨a, a + 1048576⟩ ∧ mvOk ⟨n, st, sd⟩ ⟨a, b⟩ ⟨6, 0, ⟨0, 0⟩⟩ = isStg ⟨a, a + 1048576⟩ from ⟨rfl, rfl⟩)
 obtain ⟨_, _, au, capu, rfl, _, _, _⟩ := h
 obtain ⟨_, _, av, capv, rfl, _, _, _⟩ := h'
 go_enter Tryz.func135, Tryz.ntmps135
 go_wp2
 refine wp_name ?_
 intro u hu
 have K1 : u.heap[w.heap.size + 1]? = some (.cells #[.int .i64 a, .int .i64 (a + 1048576)] 28 (0, 0)) := by rw [hu]; exact heap_alloc_old _ _ (heap_alloc_old _ _ (heap_alloc_new' _ _ (by simp)))
 have Kq : u.heap[w.heap.size + 1 + 1 + 1]? = some (.cells #[.int .i64 0, .int .i64 0] 28 (0, 0)) := by rw [hu]; exact heap_alloc_new' _ _ (by simp)
 have hL0 : Later w u := by rw [hu]; exact qla
 have hsz : w.heap.size + 1 + 1 + 1 + 1 ≤ u.heap.size := by rw [hu]; simp
 have hSB := hL0.size
 have hRBq : w.heap.size ≤ w.heap.size + 1 + 1 + 1 := by omega
 clear hu
 refine region_slots 73 [70, 71, 72, 7] (fun g ac wc => sl ac 4 = .pointer (some ⟨w.heap.size + 1, 0, none⟩) ∧
  sl ac 6 = .pointer (some ⟨w.heap.size + 1 + 1 + 1, 0, none⟩) ∧
  (g 0 = true → sl ac 70 = .agg #[.int .i64 a, .int .i64 (a + 1048576)]) ∧
  (g 1 = true → sl ac 71 = .agg #[.int .i64 a, .int .i64 (a + 1048576)]) ∧
  (g 2 = true → sl ac 72 = .bool (isStg ⟨a, (a + 1048576)⟩)) ∧
  (g 4 = true → sl ac 7 = .bool (isStg ⟨a, (a + 1048576)⟩)) ∧
  Later w wc ∧
  u.heap.size ≤ wc.heap.size ∧
  wc.heap[w.heap.size + 1]? = some (.cells #[.int .i64 a, .int .i64 (a + 1048576)] 28 (0, 0)) ∧
  (∃ q0 q1, wc.heap[w.heap.size + 1 + 1 + 1]? = some (.cells #[q0, q1] 28 (0, 0)) ∧ (g 3 = true → q0 = .int .i64 a ∧ q1 = .int .i64 (a + 1048576)))) (by kernel_rfl) (by kernel_rfl) rfl (by kernel_rfl) ?_ ?_ ?_
 · exact ⟨rfl, rfl, nofun, nofun, nofun, nofun, hL0.drew, Nat.le_refl _, K1, ⟨_, _, Kq, nofun⟩⟩
 · intro g ac wt hg ha hI
   obtain ⟨x4, x6, i0, i1, i2, i4, hL, hS, B1, Rq⟩ := hI
   have a0 := i0 (hg 0 (by simp))
   have a1 := i1 (hg 1 (by simp))
   have a2 := i2 (hg 2 (by simp))
   have a4 := i4 (hg 4 (by simp))
   obtain ⟨q0, q1, Kq, gr⟩ := Rq
   have gr := gr (hg 3 (by simp))
   rw [gr.1, gr.2] at Kq
   clear gr
   simp only [putAll, a0, a1, a2, a4] at ha
   simp only [Act.put, List.setIfInBounds_toArray, List.set_cons_succ, List.set_cons_zero] at ha
   rw [ha]
   clear x4 x6 i0 i1 i2 i4 a0 a1 a2 a4 hg ha
   have c0 := (blk_at Kq).1
   have z0 := (blk_at Kq).2.2
   go_wp2
   refine bodyPost_ret (v := .tuple #[.agg #[.int .i64 a, .int .i64 (a + 1048576)], .bool (isStg ⟨a, (a + 1048576)⟩)]) (by simp [results, Tryz.results135, go_sem, c0, z0]) rfl ⟨by rw [HF.out.1, HF.out.2], hL⟩
 · refine .cons ?_ (.cons ?_ (.cons ?_ (.cons ?_ (.cons ?_ .nil))))
   · refine qst fun g ac wc hn hk hr HI K' hK => ?_
     obtain ⟨x4, x6, -, -, -, -, hL, hS, B1, Rq⟩ := HI.out
     simp [Region.binds] at hr
     obtain ⟨c0, f0, z0⟩ := blk_at B1
     go_simp
     obtain ⟨-, -, i0, i1, i2, i4, -⟩ := HI.out
     exact hK.out _ _ ⟨qB x4, qB x6, qP, qF i1, qF i2, qF i4, hL, hS, B1, Rq⟩
   · refine qst fun g ac wc hn hk hr HI K' hK => ?_
     obtain ⟨x4, x6, -, -, -, -, hL, hS, B1, Rq⟩ := HI.out
     simp [Region.binds] at hr
     obtain ⟨c0, f0, z0⟩ := blk_at B1
     go_simp
     obtain ⟨-, -, i0, i1, i2, i4, -⟩ := HI.out
     exact hK.out _ _ ⟨qB x4, qB x6, qF i0, qP, qF i2, qF i4, hL, hS, B1, Rq⟩
   · refine qst fun g ac wc hn hk hr HI K' hK => ?_
     obtain ⟨x4, x6, -, i1, -, -, hL, hS, B1, Rq⟩ := HI.out
     simp [Region.binds] at hr
     have y1 := i1 (by simp [hr])
     clear i1
     go_simp
     refine (w_implIsSetting _ _ _).mono ?_
     rintro e w4 ⟨rfl, hL4⟩
     obtain ⟨-, -, i0, i1, i2, i4, -⟩ := HI.out
     exact hK.out _ _ ⟨qB x4, qB x6, qF i0, qF i1, qP, qF i4, hL.trans hL4, Nat.le_trans hS hL4.size, hL4.keep B1, (by obtain ⟨q0, q1, R1, R2⟩ := Rq; exact ⟨q0, q1, hL4.keep R1, R2⟩)⟩
   · refine qst fun g ac wc hn hk hr HI K' hK => ?_
     obtain ⟨x4, x6, i0, -, -, -, hL, hS, B1, Rq⟩ := HI.out
     simp [Region.binds] at hr
     have y0 := i0 (by simp [hr])
     clear i0
     obtain ⟨q0, q1, R1, -⟩ := Rq
     obtain ⟨c0, f0, z0⟩ := blk_at R1
     go_simp
     obtain ⟨-, -, i0, i1, i2, i4, -⟩ := HI.out
     exact hK.out undef _ ⟨x4, x6, i0, i1, i2, i4, ((hL.setCell hRBq _).setCell hRBq _), (by simp; omega), (other_set (other_set B1 (by omega) _) (by omega) _), ⟨_, _, two_set R1 _ _, fun _ => ⟨rfl, rfl⟩⟩⟩
   · refine qst fun g ac wc hn hk hr HI K' hK => ?_
     obtain ⟨x4, x6, -, -, i2, -, hL, hS, B1, Rq⟩ := HI.out
     simp [Region.binds] at hr
     have y2 := i2 (by simp [hr])
     clear i2
     go_simp
     obtain ⟨-, -, i0, i1, i2, i4, -⟩ := HI.out
     exact hK.out _ _ ⟨qB x4, qB x6, qF i0, qF i1, qF i2, qP, hL, hS, B1, Rq⟩
end Go.Proofs.YtgngbdacejghcaaGreatDoor
