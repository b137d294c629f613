/- DERIVED. Walks: drawn moves. -/
import Derived.Test.YtgngbdacejghcaaGreatDoorKVM108
namespace Go.Proofs.YtgngbdacejghcaaGreatDoor
set_option linter.unusedVariables false
set_option linter.unusedSimpArgs false
open Go.RowKit
set_option maxRecDepth 100000
theorem Reads.setNew {w : World} {v : Value} {n sz B j : Nat} {xs : List Value} (h : Reads w v n sz xs) (hv : AllIn v fun b => b < B) (hj : B ≤ j) (o : Nat) (x : Value) : Reads (w.setCell ⟨j, o, none⟩ x) v n sz xs := by
 refine rd_keep h (by simp) fun b off m c e h0 => ?_
 have hb := hv b off m c e h0
 obtain ⟨_, _, a, cap, he, _, _, hrow⟩ := h
 subst e
 cases he
 obtain ⟨b', off', he, hr⟩ := hrow h0
 cases he
 exact (grown_setCell (grown_refl w (some j)) o x).block b hr.1 (fun e => by cases e; omega)
theorem allIn_reads {w : World} {v : Value} {n sz : Nat} {xs : List Value} (h : Reads w v n sz xs) : AllIn v fun b => b < w.heap.size := by
 intro b off m c e h0
 obtain ⟨_, _, a, cap, he, _, _, hrow⟩ := h
 subst e
 cases he
 obtain ⟨b', off', he, hr⟩ := hrow h0
 cases he
 exact hr.1
set_option maxHeartbeats 1000000 in
theorem w_l12DrawMove (k : Nat) (c : Value) (n : Int) (u v : Value) (st sd : List Int) (w : World) (h : Src w k c) (hu : IsNums w u st) (hv : IsNums w v sd) (ha : AllIn u fun b => b ≠ k) (ha' : AllIn v fun b => b ≠ k) :
 Calls Tryz.prog 129 #[.pointer (some ⟨k, 0, none⟩), .agg #[.int .i64 n, u, v]] w fun e w' => ∃ m : Mov, e = .returned (.agg #[.int .i64 m.k, .int .i64 m.s, .int .i64 m.f.d, .int .i64 m.f.t]) ∧ Drawn w w' k ∧ Src w' k c := by
 have hk := h.lt
 obtain ⟨au, capu, rfl, hcu, hmu⟩ := sl_of_reads hu
 obtain ⟨av, capv, rfl, hcv, hmv⟩ := sl_of_reads hv
 have HU := Lib.hid hu
 have HV := Lib.hid hv
 have HAU := Lib.hid ha
 have HAV := Lib.hid ha'
 have hBU := allIn_reads hu
 have hBV := allIn_reads hv
 clear hu hv ha ha'
 go_enter Tryz.func129, Tryz.ntmps129
 go_wp2_with fail
 refine (w_l01Pick k c _ [0, 1, 1, 2, 2, 3, 4, 5, 6] _ qsh (reads_new' _ _ [0, 1, 1, 2, 2, 3, 4, 5, 6] (by simp) (by first | rfl | (simp; done))) (by simp) (allIn_new (by omega))).mono ?_
 rintro e w1 ⟨x1, rfl, x1m, hD, hS1⟩
 have hz1 : w.heap.size ≤ w1.heap.size := qsz hD.size
 have hD1 : Drawn w w1 k := Drawn.trans qdh hD
 have HK3_1 := Lib.hid (hD.keep (j := w.heap.size) qkh (by omega))
 have HK4_1 := Lib.hid (hD.keep (j := w.heap.size + 1) qkh (by omega))
 clear hD
 obtain ⟨c3, f3, z3_1⟩ := blk_at HK3_1.out
 obtain ⟨c4, f4, z4_1⟩ := blk_at HK4_1.out
 have hx1 : 0 ≤ x1 ∧ x1 ≤ 6 := by simp at x1m; omega
 clear x1m
 by_cases hk2 : x1 ≤ 2
 rotate_left
 · skip
   go_wp2_with fail
   refine (w_l01Next k c 60 _ qsh).mono ?_
   rintro e w2 ⟨x2, rfl, x2a, x2b, hD, hS2⟩
   have hz2 : w1.heap.size ≤ w2.heap.size := qsz hD.size
   have hD2 : Drawn w w2 k := Drawn.trans qdh hD
   have HK3_2 := Lib.hid (hD.keep (j := w.heap.size) qkh (by omega))
   have HK4_2 := Lib.hid (hD.keep (j := w.heap.size + 1) qkh (by omega))
   have HK5_2 := Lib.hid (hD.keep (j := w1.heap.size) qkh (by omega))
   clear hD c3 f3 c4 f4
   obtain ⟨c3, f3, z3_2⟩ := blk_at HK3_2.out
   obtain ⟨c4, f4, z4_2⟩ := blk_at HK4_2.out
   obtain ⟨c5, f5, z5_2⟩ := blk_at HK5_2.out
   by_cases hq0 : x2 = 0
   · skip
     subst hq0
     go_wp2_with fail
     refine (w_l01Pick k c _ [-1, 7, 3] _ qsh (reads_new' _ _ [-1, 7, 3] (by simp) (by first | rfl | (simp; done))) (by simp) (allIn_new (by omega))).mono ?_
     rintro e w3 ⟨x3, rfl, x3m, hD, hS3⟩
     have hz3 : w2.heap.size ≤ w3.heap.size := qsz hD.size
     have hD3 : Drawn w w3 k := Drawn.trans qdh hD
     have HK3_3 := Lib.hid (hD.keep (j := w.heap.size) qkh (by omega))
     have HK4_3 := Lib.hid (hD.keep (j := w.heap.size + 1) qkh (by omega))
     have HK5_3 := Lib.hid (hD.keep (j := w1.heap.size) qkh (by omega))
     clear hD c3 f3 c4 f4 c5 f5
     obtain ⟨c3, f3, z3_3⟩ := blk_at HK3_3.out
     obtain ⟨c4, f4, z4_3⟩ := blk_at HK4_3.out
     obtain ⟨c5, f5, z5_3⟩ := blk_at HK5_3.out
     go_wp2
     refine bodyPost_ret (v := .agg #[.int .i64 x3, .int .i64 0, .int .i64 0, .int .i64 0]) (by simp [results, Tryz.results129, go_sem, c4, z4_3]) rfl ⟨⟨x3, 0, ⟨0, 0⟩⟩, rfl, qdh, qsh⟩
   have hb0 : (x2 == 0) = false := by simpa using hq0
   by_cases hq1 : x2 = 1
   · skip
     subst hq1
     go_wp2_with fail
     refine (w_l02Draw k c _ qsh).mono ?_
     rintro e w3 ⟨ff, rfl, hD, hS3⟩
     have hz3 : w2.heap.size ≤ w3.heap.size := qsz hD.size
     have hD3 : Drawn w w3 k := Drawn.trans qdh hD
     have HK3_3 := Lib.hid (hD.keep (j := w.heap.size) qkh (by omega))
     have HK4_3 := Lib.hid (hD.keep (j := w.heap.size + 1) qkh (by omega))
     have HK5_3 := Lib.hid (hD.keep (j := w1.heap.size) qkh (by omega))
     clear hD c3 f3 c4 f4 c5 f5
     obtain ⟨c3, f3, z3_3⟩ := blk_at HK3_3.out
     obtain ⟨c4, f4, z4_3⟩ := blk_at HK4_3.out
     obtain ⟨c5, f5, z5_3⟩ := blk_at HK5_3.out
     go_wp2
     refine bodyPost_ret (v := .agg #[.int .i64 x1, .int .i64 0, .int .i64 ff.d, .int .i64 ff.t]) (by simp [results, Tryz.results129, go_sem, c4, z4_3]) rfl ⟨⟨x1, 0, ⟨ff.d, ff.t⟩⟩, rfl, qdh, qsh⟩
   have hb1 : (x2 == 1) = false := by simpa using hq1
   go_wp2
   refine bodyPost_ret (v := .agg #[.int .i64 x1, .int .i64 0, .int .i64 0, .int .i64 0]) (by simp [results, Tryz.results129, go_sem, c4, z4_2]) rfl ⟨⟨x1, 0, ⟨0, 0⟩⟩, rfl, qdh, qsh⟩
 go_wp2_with fail
 obtain ⟨B, hBe, hBi⟩ : ∃ B, B = (w1.alloc (.cells #[.int .i64 x1, .int .i64 0, .int .i64 0, .int .i64 0] 107)).heap.size ∧ w1.heap.size + 1 ≤ B := ⟨_, rfl, by simp⟩
 have hZ0 : B ≤ (w1.alloc (.cells #[.int .i64 x1, .int .i64 0, .int .i64 0, .int .i64 0] 107)).drew.heap.size := Nat.le_of_eq hBe
 have hD0 : Drawn w (w1.alloc (.cells #[.int .i64 x1, .int .i64 0, .int .i64 0, .int .i64 0] 107)) k := qdh
 have hS0 : Src (w1.alloc (.cells #[.int .i64 x1, .int .i64 0, .int .i64 0, .int .i64 0] 107)) k c := qsh
 have Q3 : (w1.alloc (.cells #[.int .i64 x1, .int .i64 0, .int .i64 0, .int .i64 0] 107)).heap[w.heap.size]? = some (.cells #[.int .i64 n, .slice au st.length capu, .slice av sd.length capv] 26 (0, 0)) := qkh
 have Q4 : (w1.alloc (.cells #[.int .i64 x1, .int .i64 0, .int .i64 0, .int .i64 0] 107)).heap[w.heap.size + 1]? = some (.cells #[.int .i64 0, .int .i64 0, .int .i64 0, .int .i64 0] 107 (0, 0)) := qkh
 have Q5 : (w1.alloc (.cells #[.int .i64 x1, .int .i64 0, .int .i64 0, .int .i64 0] 107)).heap[w1.heap.size]? = some (.cells #[.int .i64 x1, .int .i64 0, .int .i64 0, .int .i64 0] 107 (0, 0)) := heap_alloc_new _ _
 have hRU : IsNums (w1.alloc (.cells #[.int .i64 x1, .int .i64 0, .int .i64 0, .int .i64 0] 107)) (.slice au st.length capu) st := (HU.out.drawn HAU.out hD1).later ((Later.refl _).alloc _)
 have hRV : IsNums (w1.alloc (.cells #[.int .i64 x1, .int .i64 0, .int .i64 0, .int .i64 0] 107)) (.slice av sd.length capv) sd := (HV.out.drawn HAV.out hD1).later ((Later.refl _).alloc _)
 clear c3 f3 c4 f4
 refine region_slots 38 [13, 14, 15, 16, 17, 18, 19, 20, 21, 22, 23] (fun g ac wc => sl ac 0 = .pointer (some ⟨k, 0, none⟩) ∧
  sl ac 3 = .pointer (some ⟨w.heap.size, 0, none⟩) ∧
  sl ac 4 = .pointer (some ⟨w.heap.size + 1, 0, none⟩) ∧
  sl ac 5 = .pointer (some ⟨w1.heap.size, 0, none⟩) ∧
  (g 0 = true → (sl ac 13) = .pointer (some ⟨w1.heap.size, 0, none⟩)) ∧
  (g 1 = true → (sl ac 14) = .int .i64 x1) ∧
  (g 2 = true → (sl ac 15) = .pointer (some ⟨k, 0, none⟩)) ∧
  (g 3 = true → (sl ac 16) = .agg #[.int .i64 n, .slice au st.length capu, .slice av sd.length capv]) ∧
  (g 4 = true → (sl ac 17) = .pointer (some ⟨w1.heap.size, 0, none⟩)) ∧
  (g 5 = true → (sl ac 18) = .int .i64 x1) ∧
  (g 6 = true → (sl ac 19) = .bool (x1 != 0)) ∧
  (g 7 = true → ∃ x : Int, (sl ac 20) = .int .i64 x) ∧
  (g 8 = true → (sl ac 21) = .pointer (some ⟨k, 0, none⟩)) ∧
  (g 9 = true → ∃ f : Fig, (sl ac 22) = .agg #[.int .i64 f.d, .int .i64 f.t]) ∧
  (g 10 = true → ∃ (y : Int) (f : Fig), (sl ac 23) = .agg #[.int .i64 x1, .int .i64 y, .int .i64 f.d, .int .i64 f.t]) ∧
  Drawn w wc k ∧
  Src wc k c ∧
  B ≤ wc.heap.size ∧
  IsNums wc (.slice au st.length capu) st ∧
  IsNums wc (.slice av sd.length capv) sd ∧
  wc.heap[w.heap.size]? = some (.cells #[.int .i64 n, .slice au st.length capu, .slice av sd.length capv] 26 (0, 0)) ∧
  wc.heap[w.heap.size + 1]? = some (.cells #[.int .i64 0, .int .i64 0, .int .i64 0, .int .i64 0] 107 (0, 0)) ∧
  (g 11 = false → wc.heap[w1.heap.size]? = some (.cells #[.int .i64 x1, .int .i64 0, .int .i64 0, .int .i64 0] 107 (0, 0))) ∧
  (g 11 = true → ∃ (y : Int) (f : Fig), wc.heap[w1.heap.size]? = some (.cells #[.int .i64 x1, .int .i64 y, .int .i64 f.d, .int .i64 f.t] 107 (0, 0))) ∧
  (g 1 = true → g 0 = true) ∧
  (g 5 = true → g 4 = true) ∧
  (g 6 = true → g 5 = true) ∧
  (g 7 = true → g 2 = true) ∧
  (g 7 = true → g 3 = true) ∧
  (g 7 = true → g 6 = true) ∧
  (g 9 = true → g 8 = true) ∧
  (g 10 = true → g 1 = true) ∧
  (g 10 = true → g 7 = true) ∧
  (g 10 = true → g 9 = true) ∧
  (g 11 = true → g 1 = true) ∧
  (g 11 = true → g 5 = true) ∧
  (g 11 = true → g 10 = true)) (by kernel_rfl) (by kernel_rfl) rfl (by kernel_rfl) ?_ ?_ ?_
 · exact ⟨rfl, rfl, rfl, rfl, nofun, nofun, nofun, nofun, nofun, nofun, nofun, nofun, nofun, nofun, nofun, hD0.drew, hS0.drew, hZ0, Reads.later hRU (Later.refl _).drew, Reads.later hRV (Later.refl _).drew, Q3, Q4, fun _ => Q5, nofun, nofun, nofun, nofun, nofun, nofun, nofun, nofun, nofun, nofun, nofun, nofun, nofun, nofun⟩
 · intro g ac wu hg ha hI
   obtain ⟨xi0, xi3, xi4, xi5, i0, i1, i2, i3, i4, i5, i6, i7, i8, i9, i10, hD, hS, hZ, -, -, B3, B4, -, N5, -, -, -, -, -, -, -, -, -, -, -, -, -⟩ := hI
   obtain e0 := i0 (hg 0 (by simp))
   obtain e1 := i1 (hg 1 (by simp))
   obtain e2 := i2 (hg 2 (by simp))
   obtain e3 := i3 (hg 3 (by simp))
   obtain e4 := i4 (hg 4 (by simp))
   obtain e5 := i5 (hg 5 (by simp))
   obtain e6 := i6 (hg 6 (by simp))
   obtain ⟨pd7, e7⟩ := i7 (hg 7 (by simp))
   obtain e8 := i8 (hg 8 (by simp))
   obtain ⟨pd9, e9⟩ := i9 (hg 9 (by simp))
   obtain ⟨yd10y, fd10, e10⟩ := i10 (hg 10 (by simp))
   replace N5 := N5 (hg 11 (by simp))
   obtain ⟨my, mf, N5⟩ := N5
   simp only [putAll, e0, e1, e2, e3, e4, e5, e6, e7, e8, e9, e10] at ha
   simp only [Act.put, List.setIfInBounds_toArray, List.set_cons_succ, List.set_cons_zero] at ha
   rw [ha]
   clear xi0 xi3 xi4 xi5 i0 i1 i2 i3 i4 i5 i6 i7 i8 i9 i10 e0 e1 e2 e3 e4 e5 e6 e7 e8 e9 e10 hg ha
   have hDw : Drawn w wu k := hD
   have hSw : Src wu k c := hS
   have HK3_90 := Lib.hid B3
   have HK4_90 := Lib.hid B4
   have HK5_90 := Lib.hid N5
   obtain ⟨c3, f3, z3_90⟩ := blk_at HK3_90.out
   obtain ⟨c4, f4, z4_90⟩ := blk_at HK4_90.out
   obtain ⟨c5, f5, z5_90⟩ := blk_at HK5_90.out
   clear hD hS B3 B4 N5
   go_wp2_with fail
   refine (w_l01Next k c 60 _ qsh).mono ?_
   rintro e w91 ⟨x91, rfl, x91a, x91b, hD, hS91⟩
   have hz91 : wu.heap.size ≤ w91.heap.size := qsz hD.size
   have hD91 : Drawn w w91 k := Drawn.trans qdh hD
   have HK3_91 := Lib.hid (hD.keep (j := w.heap.size) qkh (by omega))
   have HK4_91 := Lib.hid (hD.keep (j := w.heap.size + 1) qkh (by omega))
   have HK5_91 := Lib.hid (hD.keep (j := w1.heap.size) qkh (by omega))
   clear hD c3 f3 c4 f4 c5 f5
   obtain ⟨c3, f3, z3_91⟩ := blk_at HK3_91.out
   obtain ⟨c4, f4, z4_91⟩ := blk_at HK4_91.out
   obtain ⟨c5, f5, z5_91⟩ := blk_at HK5_91.out
   by_cases hq0 : x91 = 0
   · skip
     subst hq0
     go_wp2_with fail
     refine (w_l01Pick k c _ [-1, 7, 3] _ qsh (reads_new' _ _ [-1, 7, 3] (by simp) (by first | rfl | (simp; done))) (by simp) (allIn_new (by omega))).mono ?_
     rintro e w92 ⟨x92, rfl, x92m, hD, hS92⟩
     have hz92 : w91.heap.size ≤ w92.heap.size := qsz hD.size
     have hD92 : Drawn w w92 k := Drawn.trans qdh hD
     have HK3_92 := Lib.hid (hD.keep (j := w.heap.size) qkh (by omega))
     have HK4_92 := Lib.hid (hD.keep (j := w.heap.size + 1) qkh (by omega))
     have HK5_92 := Lib.hid (hD.keep (j := w1.heap.size) qkh (by omega))
     clear hD c3 f3 c4 f4 c5 f5
     obtain ⟨c3, f3, z3_92⟩ := blk_at HK3_92.out
     obtain ⟨c4, f4, z4_92⟩ := blk_at HK4_92.out
     obtain ⟨c5, f5, z5_92⟩ := blk_at HK5_92.out
     go_wp2
     refine bodyPost_ret (v := .agg #[.int .i64 x92, .int .i64 my, .int .i64 mf.d, .int .i64 mf.t]) (by simp [results, Tryz.results129, go_sem, c4, z4_92]) rfl ⟨⟨x92, my, ⟨mf.d, mf.t⟩⟩, rfl, qdh, qsh⟩
   have hb0 : (x91 == 0) = false := by simpa using hq0
   by_cases hq1 : x91 = 1
   · skip
     subst hq1
     go_wp2_with fail
     refine (w_l02Draw k c _ qsh).mono ?_
     rintro e w92 ⟨ff, rfl, hD, hS92⟩
     have hz92 : w91.heap.size ≤ w92.heap.size := qsz hD.size
     have hD92 : Drawn w w92 k := Drawn.trans qdh hD
     have HK3_92 := Lib.hid (hD.keep (j := w.heap.size) qkh (by omega))
     have HK4_92 := Lib.hid (hD.keep (j := w.heap.size + 1) qkh (by omega))
     have HK5_92 := Lib.hid (hD.keep (j := w1.heap.size) qkh (by omega))
     clear hD c3 f3 c4 f4 c5 f5
     obtain ⟨c3, f3, z3_92⟩ := blk_at HK3_92.out
     obtain ⟨c4, f4, z4_92⟩ := blk_at HK4_92.out
     obtain ⟨c5, f5, z5_92⟩ := blk_at HK5_92.out
     go_wp2
     refine bodyPost_ret (v := .agg #[.int .i64 x1, .int .i64 my, .int .i64 ff.d, .int .i64 ff.t]) (by simp [results, Tryz.results129, go_sem, c4, z4_92]) rfl ⟨⟨x1, my, ⟨ff.d, ff.t⟩⟩, rfl, qdh, qsh⟩
   have hb1 : (x91 == 1) = false := by simpa using hq1
   go_wp2
   refine bodyPost_ret (v := .agg #[.int .i64 x1, .int .i64 my, .int .i64 mf.d, .int .i64 mf.t]) (by simp [results, Tryz.results129, go_sem, c4, z4_91]) rfl ⟨⟨x1, my, ⟨mf.d, mf.t⟩⟩, rfl, qdh, qsh⟩
 · refine .cons ?_ (.cons ?_ (.cons ?_ (.cons ?_ (.cons ?_ (.cons ?_ (.cons ?_ (.cons ?_ (.cons ?_ (.cons ?_ (.cons ?_ (.cons ?_ .nil)))))))))))
   · refine qst fun g ac wc hn hk hr HI K' hK => ?_
     obtain ⟨xi0, xi3, xi4, xi5, -, -, -, -, -, -, -, -, -, -, -, hD, hS, hZ, RU, RV, B3, B4, R5, N5, m1_0, m5_4, m6_5, m7_2, m7_3, m7_6, m9_8, m10_1, m10_7, m10_9, m11_1, m11_5, m11_10⟩ := HI.out
     simp [Region.binds] at hr
     have zi5 := sl_get xi5 (by omega)
     go_simp
     obtain ⟨-, -, -, -, i0, i1, i2, i3, i4, i5, i6, i7, i8, i9, i10, -⟩ := HI.out
     exact hK.out _ _ ⟨qB xi0, qB xi3, qB xi4, qB xi5, qP, (fun h => absurd (m1_0 h) (by rw [hk]; simp)), (fun h => by rw [put_ne (by decide)]; exact i2 h), (fun h => by rw [put_ne (by decide)]; exact i3 h), (fun h => by rw [put_ne (by decide)]; exact i4 h), (fun h => by rw [put_ne (by decide)]; exact i5 h), (fun h => by rw [put_ne (by decide)]; exact i6 h), (fun h => by rw [put_ne (by decide)]; exact i7 h), (fun h => by rw [put_ne (by decide)]; exact i8 h), (fun h => by rw [put_ne (by decide)]; exact i9 h), (fun h => by rw [put_ne (by decide)]; exact i10 h), hD, hS, hZ, RU, RV, B3, B4, (fun h => (R5 h)), (fun h => N5 h), (fun _ => rfl), m5_4, m6_5, m7_2, m7_3, m7_6, m9_8, m10_1, m10_7, m10_9, m11_1, m11_5, m11_10⟩
   · refine qst fun g ac wc hn hk hr HI K' hK => ?_
     obtain ⟨xi0, xi3, xi4, xi5, i0, -, -, -, -, -, -, -, -, -, -, hD, hS, hZ, RU, RV, B3, B4, R5, N5, m1_0, m5_4, m6_5, m7_2, m7_3, m7_6, m9_8, m10_1, m10_7, m10_9, m11_1, m11_5, m11_10⟩ := HI.out
     simp [Region.binds] at hr
     have g0 : g 0 = true := (by simp [hr])
     obtain y0 := i0 g0
     have z0 := sl_get y0 (by omega)
     have hst : g 11 = false := by cases hq : g 11 with | false => rfl | true => exact absurd (m11_1 hq) (by rw [hk]; simp)
     have hbb := blk_at (R5 hst)
     have cb := hbb.1
     have fb := hbb.2.1
     have zb := hbb.2.2
     clear hbb
     clear i0
     go_simp
     obtain ⟨-, -, -, -, i0, i1, i2, i3, i4, i5, i6, i7, i8, i9, i10, -⟩ := HI.out
     exact hK.out _ _ ⟨qB xi0, qB xi3, qB xi4, qB xi5, (fun h => by rw [put_ne (by decide)]; exact i0 h), qP, (fun h => by rw [put_ne (by decide)]; exact i2 h), (fun h => by rw [put_ne (by decide)]; exact i3 h), (fun h => by rw [put_ne (by decide)]; exact i4 h), (fun h => by rw [put_ne (by decide)]; exact i5 h), (fun h => by rw [put_ne (by decide)]; exact i6 h), (fun h => by rw [put_ne (by decide)]; exact i7 h), (fun h => by rw [put_ne (by decide)]; exact i8 h), (fun h => by rw [put_ne (by decide)]; exact i9 h), (fun h => absurd (m10_1 h) (by rw [hk]; simp)), hD, hS, hZ, RU, RV, B3, B4, (fun h => (R5 h)), (fun h => N5 h), (fun _ => g0), m5_4, m6_5, m7_2, m7_3, m7_6, m9_8, (fun _ => rfl), m10_7, m10_9, (fun _ => rfl), m11_5, m11_10⟩
   · refine qst fun g ac wc hn hk hr HI K' hK => ?_
     obtain ⟨xi0, xi3, xi4, xi5, -, -, -, -, -, -, -, -, -, -, -, hD, hS, hZ, RU, RV, B3, B4, R5, N5, m1_0, m5_4, m6_5, m7_2, m7_3, m7_6, m9_8, m10_1, m10_7, m10_9, m11_1, m11_5, m11_10⟩ := HI.out
     simp [Region.binds] at hr
     have zi0 := sl_get xi0 (by omega)
     go_simp
     obtain ⟨-, -, -, -, i0, i1, i2, i3, i4, i5, i6, i7, i8, i9, i10, -⟩ := HI.out
     exact hK.out _ _ ⟨qB xi0, qB xi3, qB xi4, qB xi5, (fun h => by rw [put_ne (by decide)]; exact i0 h), (fun h => by rw [put_ne (by decide)]; exact i1 h), qP, (fun h => by rw [put_ne (by decide)]; exact i3 h), (fun h => by rw [put_ne (by decide)]; exact i4 h), (fun h => by rw [put_ne (by decide)]; exact i5 h), (fun h => by rw [put_ne (by decide)]; exact i6 h), (fun h => absurd (m7_2 h) (by rw [hk]; simp)), (fun h => by rw [put_ne (by decide)]; exact i8 h), (fun h => by rw [put_ne (by decide)]; exact i9 h), (fun h => by rw [put_ne (by decide)]; exact i10 h), hD, hS, hZ, RU, RV, B3, B4, (fun h => (R5 h)), (fun h => N5 h), m1_0, m5_4, m6_5, (fun _ => rfl), m7_3, m7_6, m9_8, m10_1, m10_7, m10_9, m11_1, m11_5, m11_10⟩
   · refine qst fun g ac wc hn hk hr HI K' hK => ?_
     obtain ⟨xi0, xi3, xi4, xi5, -, -, -, -, -, -, -, -, -, -, -, hD, hS, hZ, RU, RV, B3, B4, R5, N5, m1_0, m5_4, m6_5, m7_2, m7_3, m7_6, m9_8, m10_1, m10_7, m10_9, m11_1, m11_5, m11_10⟩ := HI.out
     simp [Region.binds] at hr
     have zi3 := sl_get xi3 (by omega)
     obtain ⟨cb, fb, zb⟩ := blk_at B3
     go_simp
     obtain ⟨-, -, -, -, i0, i1, i2, i3, i4, i5, i6, i7, i8, i9, i10, -⟩ := HI.out
     exact hK.out _ _ ⟨qB xi0, qB xi3, qB xi4, qB xi5, (fun h => by rw [put_ne (by decide)]; exact i0 h), (fun h => by rw [put_ne (by decide)]; exact i1 h), (fun h => by rw [put_ne (by decide)]; exact i2 h), qP, (fun h => by rw [put_ne (by decide)]; exact i4 h), (fun h => by rw [put_ne (by decide)]; exact i5 h), (fun h => by rw [put_ne (by decide)]; exact i6 h), (fun h => absurd (m7_3 h) (by rw [hk]; simp)), (fun h => by rw [put_ne (by decide)]; exact i8 h), (fun h => by rw [put_ne (by decide)]; exact i9 h), (fun h => by rw [put_ne (by decide)]; exact i10 h), hD, hS, hZ, RU, RV, B3, B4, (fun h => (R5 h)), (fun h => N5 h), m1_0, m5_4, m6_5, m7_2, (fun _ => rfl), m7_6, m9_8, m10_1, m10_7, m10_9, m11_1, m11_5, m11_10⟩
   · refine qst fun g ac wc hn hk hr HI K' hK => ?_
     obtain ⟨xi0, xi3, xi4, xi5, -, -, -, -, -, -, -, -, -, -, -, hD, hS, hZ, RU, RV, B3, B4, R5, N5, m1_0, m5_4, m6_5, m7_2, m7_3, m7_6, m9_8, m10_1, m10_7, m10_9, m11_1, m11_5, m11_10⟩ := HI.out
     simp [Region.binds] at hr
     have zi5 := sl_get xi5 (by omega)
     go_simp
     obtain ⟨-, -, -, -, i0, i1, i2, i3, i4, i5, i6, i7, i8, i9, i10, -⟩ := HI.out
     exact hK.out _ _ ⟨qB xi0, qB xi3, qB xi4, qB xi5, (fun h => by rw [put_ne (by decide)]; exact i0 h), (fun h => by rw [put_ne (by decide)]; exact i1 h), (fun h => by rw [put_ne (by decide)]; exact i2 h), (fun h => by rw [put_ne (by decide)]; exact i3 h), qP, (fun h => absurd (m5_4 h) (by rw [hk]; simp)), (fun h => by rw [put_ne (by decide)]; exact i6 h), (fun h => by rw [put_ne (by decide)]; exact i7 h), (fun h => by rw [put_ne (by decide)]; exact i8 h), (fun h => by rw [put_ne (by decide)]; exact i9 h), (fun h => by rw [put_ne (by decide)]; exact i10 h), hD, hS, hZ, RU, RV, B3, B4, (fun h => (R5 h)), (fun h => N5 h), m1_0, (fun _ => rfl), m6_5, m7_2, m7_3, m7_6, m9_8, m10_1, m10_7, m10_9, m11_1, m11_5, m11_10⟩
   · refine qst fun g ac wc hn hk hr HI K' hK => ?_
     obtain ⟨xi0, xi3, xi4, xi5, -, -, -, -, i4, -, -, -, -, -, -, hD, hS, hZ, RU, RV, B3, B4, R5, N5, m1_0, m5_4, m6_5, m7_2, m7_3, m7_6, m9_8, m10_1, m10_7, m10_9, m11_1, m11_5, m11_10⟩ := HI.out
     simp [Region.binds] at hr
     have g4 : g 4 = true := (by simp [hr])
     obtain y4 := i4 g4
     have z4 := sl_get y4 (by omega)
     have hst : g 11 = false := by cases hq : g 11 with | false => rfl | true => exact absurd (m11_5 hq) (by rw [hk]; simp)
     have hbb := blk_at (R5 hst)
     have cb := hbb.1
     have fb := hbb.2.1
     have zb := hbb.2.2
     clear hbb
     clear i4
     go_simp
     obtain ⟨-, -, -, -, i0, i1, i2, i3, i4, i5, i6, i7, i8, i9, i10, -⟩ := HI.out
     exact hK.out _ _ ⟨qB xi0, qB xi3, qB xi4, qB xi5, (fun h => by rw [put_ne (by decide)]; exact i0 h), (fun h => by rw [put_ne (by decide)]; exact i1 h), (fun h => by rw [put_ne (by decide)]; exact i2 h), (fun h => by rw [put_ne (by decide)]; exact i3 h), (fun h => by rw [put_ne (by decide)]; exact i4 h), qP, (fun h => absurd (m6_5 h) (by rw [hk]; simp)), (fun h => by rw [put_ne (by decide)]; exact i7 h), (fun h => by rw [put_ne (by decide)]; exact i8 h), (fun h => by rw [put_ne (by decide)]; exact i9 h), (fun h => by rw [put_ne (by decide)]; exact i10 h), hD, hS, hZ, RU, RV, B3, B4, (fun h => (R5 h)), (fun h => N5 h), m1_0, (fun _ => g4), (fun _ => rfl), m7_2, m7_3, m7_6, m9_8, m10_1, m10_7, m10_9, m11_1, (fun _ => rfl), m11_10⟩
   · refine qst fun g ac wc hn hk hr HI K' hK => ?_
     obtain ⟨xi0, xi3, xi4, xi5, -, -, -, -, -, i5, -, -, -, -, -, hD, hS, hZ, RU, RV, B3, B4, R5, N5, m1_0, m5_4, m6_5, m7_2, m7_3, m7_6, m9_8, m10_1, m10_7, m10_9, m11_1, m11_5, m11_10⟩ := HI.out
     simp [Region.binds] at hr
     have g5 : g 5 = true := (by simp [hr])
     obtain y5 := i5 g5
     have z5 := sl_get y5 (by omega)
     clear i5
     go_simp
     obtain ⟨-, -, -, -, i0, i1, i2, i3, i4, i5, i6, i7, i8, i9, i10, -⟩ := HI.out
     exact hK.out _ _ ⟨qB xi0, qB xi3, qB xi4, qB xi5, (fun h => by rw [put_ne (by decide)]; exact i0 h), (fun h => by rw [put_ne (by decide)]; exact i1 h), (fun h => by rw [put_ne (by decide)]; exact i2 h), (fun h => by rw [put_ne (by decide)]; exact i3 h), (fun h => by rw [put_ne (by decide)]; exact i4 h), (fun h => by rw [put_ne (by decide)]; exact i5 h), qP, (fun h => absurd (m7_6 h) (by rw [hk]; simp)), (fun h => by rw [put_ne (by decide)]; exact i8 h), (fun h => by rw [put_ne (by decide)]; exact i9 h), (fun h => by rw [put_ne (by decide)]; exact i10 h), hD, hS, hZ, RU, RV, B3, B4, (fun h => (R5 h)), (fun h => N5 h), m1_0, m5_4, (fun _ => g5), m7_2, m7_3, (fun _ => rfl), m9_8, m10_1, m10_7, m10_9, m11_1, m11_5, m11_10⟩
   · refine qst fun g ac wc hn hk hr HI K' hK => ?_
     obtain ⟨xi0, xi3, xi4, xi5, -, -, i2, i3, -, -, i6, -, -, -, -, hD, hS, hZ, RU, RV, B3, B4, R5, N5, m1_0, m5_4, m6_5, m7_2, m7_3, m7_6, m9_8, m10_1, m10_7, m10_9, m11_1, m11_5, m11_10⟩ := HI.out
     simp [Region.binds] at hr
     have g2 : g 2 = true := (by simp [hr])
     obtain y2 := i2 g2
     have z2 := sl_get y2 (by omega)
     have g3 : g 3 = true := (by simp [hr])
     obtain y3 := i3 g3
     have z3 := sl_get y3 (by omega)
     have g6 : g 6 = true := (by simp [hr])
     obtain y6 := i6 g6
     have z6 := sl_get y6 (by omega)
     clear i2 i3 i6
     go_simp
     refine (w_l11DrawOn k c n _ _ st sd _ wc hS RU RV HAU.out HAV.out).mono ?_
     rintro e w4 ⟨x, rfl, hD4, hS4⟩
     obtain ⟨-, -, -, -, i0, i1, i2, i3, i4, i5, i6, i7, i8, i9, i10, -⟩ := HI.out
     exact hK.out _ _ ⟨qB xi0, qB xi3, qB xi4, qB xi5, (fun h => by rw [put_ne (by decide)]; exact i0 h), (fun h => by rw [put_ne (by decide)]; exact i1 h), (fun h => by rw [put_ne (by decide)]; exact i2 h), (fun h => by rw [put_ne (by decide)]; exact i3 h), (fun h => by rw [put_ne (by decide)]; exact i4 h), (fun h => by rw [put_ne (by decide)]; exact i5 h), (fun h => by rw [put_ne (by decide)]; exact i6 h), (fun _ => ⟨_, put_eq (by omega)⟩), (fun h => by rw [put_ne (by decide)]; exact i8 h), (fun h => by rw [put_ne (by decide)]; exact i9 h), (fun h => absurd (m10_7 h) (by rw [hk]; simp)), (hD.trans hD4), hS4, (Nat.le_trans hZ hD4.size), (RU.drawn HAU.out hD4), (RV.drawn HAV.out hD4), (hD4.keep B3 (by omega)), (hD4.keep B4 (by omega)), (fun h => (hD4.keep (R5 h) (by omega))), (fun h => absurd (m10_7 (m11_10 h)) (by rw [hk]; simp)), m1_0, m5_4, m6_5, (fun _ => g2), (fun _ => g3), (fun _ => g6), m9_8, m10_1, (fun _ => rfl), m10_9, m11_1, m11_5, m11_10⟩
   · refine qst fun g ac wc hn hk hr HI K' hK => ?_
     obtain ⟨xi0, xi3, xi4, xi5, -, -, -, -, -, -, -, -, -, -, -, hD, hS, hZ, RU, RV, B3, B4, R5, N5, m1_0, m5_4, m6_5, m7_2, m7_3, m7_6, m9_8, m10_1, m10_7, m10_9, m11_1, m11_5, m11_10⟩ := HI.out
     simp [Region.binds] at hr
     have zi0 := sl_get xi0 (by omega)
     go_simp
     obtain ⟨-, -, -, -, i0, i1, i2, i3, i4, i5, i6, i7, i8, i9, i10, -⟩ := HI.out
     exact hK.out _ _ ⟨qB xi0, qB xi3, qB xi4, qB xi5, (fun h => by rw [put_ne (by decide)]; exact i0 h), (fun h => by rw [put_ne (by decide)]; exact i1 h), (fun h => by rw [put_ne (by decide)]; exact i2 h), (fun h => by rw [put_ne (by decide)]; exact i3 h), (fun h => by rw [put_ne (by decide)]; exact i4 h), (fun h => by rw [put_ne (by decide)]; exact i5 h), (fun h => by rw [put_ne (by decide)]; exact i6 h), (fun h => by rw [put_ne (by decide)]; exact i7 h), qP, (fun h => absurd (m9_8 h) (by rw [hk]; simp)), (fun h => by rw [put_ne (by decide)]; exact i10 h), hD, hS, hZ, RU, RV, B3, B4, (fun h => (R5 h)), (fun h => N5 h), m1_0, m5_4, m6_5, m7_2, m7_3, m7_6, (fun _ => rfl), m10_1, m10_7, m10_9, m11_1, m11_5, m11_10⟩
   · refine qst fun g ac wc hn hk hr HI K' hK => ?_
     obtain ⟨xi0, xi3, xi4, xi5, -, -, -, -, -, -, -, -, i8, -, -, hD, hS, hZ, RU, RV, B3, B4, R5, N5, m1_0, m5_4, m6_5, m7_2, m7_3, m7_6, m9_8, m10_1, m10_7, m10_9, m11_1, m11_5, m11_10⟩ := HI.out
     simp [Region.binds] at hr
     have g8 : g 8 = true := (by simp [hr])
     obtain y8 := i8 g8
     have z8 := sl_get y8 (by omega)
     clear i8
     go_simp
     refine (w_l02Valid k c wc hS).mono ?_
     rintro e w4 ⟨x, rfl, -, hD4, hS4⟩
     obtain ⟨-, -, -, -, i0, i1, i2, i3, i4, i5, i6, i7, i8, i9, i10, -⟩ := HI.out
     exact hK.out _ _ ⟨qB xi0, qB xi3, qB xi4, qB xi5, (fun h => by rw [put_ne (by decide)]; exact i0 h), (fun h => by rw [put_ne (by decide)]; exact i1 h), (fun h => by rw [put_ne (by decide)]; exact i2 h), (fun h => by rw [put_ne (by decide)]; exact i3 h), (fun h => by rw [put_ne (by decide)]; exact i4 h), (fun h => by rw [put_ne (by decide)]; exact i5 h), (fun h => by rw [put_ne (by decide)]; exact i6 h), (fun h => by rw [put_ne (by decide)]; exact i7 h), (fun h => by rw [put_ne (by decide)]; exact i8 h), (fun _ => ⟨_, put_eq (by omega)⟩), (fun h => absurd (m10_9 h) (by rw [hk]; simp)), (hD.trans hD4), hS4, (Nat.le_trans hZ hD4.size), (RU.drawn HAU.out hD4), (RV.drawn HAV.out hD4), (hD4.keep B3 (by omega)), (hD4.keep B4 (by omega)), (fun h => (hD4.keep (R5 h) (by omega))), (fun h => absurd (m10_9 (m11_10 h)) (by rw [hk]; simp)), m1_0, m5_4, m6_5, m7_2, m7_3, m7_6, (fun _ => g8), m10_1, m10_7, (fun _ => rfl), m11_1, m11_5, m11_10⟩
   · refine qst fun g ac wc hn hk hr HI K' hK => ?_
     obtain ⟨xi0, xi3, xi4, xi5, -, i1, -, -, -, -, -, i7, -, i9, -, hD, hS, hZ, RU, RV, B3, B4, R5, N5, m1_0, m5_4, m6_5, m7_2, m7_3, m7_6, m9_8, m10_1, m10_7, m10_9, m11_1, m11_5, m11_10⟩ := HI.out
     simp [Region.binds] at hr
     have g1 : g 1 = true := (by simp [hr])
     obtain y1 := i1 g1
     have z1 := sl_get y1 (by omega)
     have g7 : g 7 = true := (by simp [hr])
     obtain ⟨p7, y7⟩ := i7 g7
     have z7 := sl_get y7 (by omega)
     have g9 : g 9 = true := (by simp [hr])
     obtain ⟨p9, y9⟩ := i9 g9
     have z9 := sl_get y9 (by omega)
     clear i1 i7 i9
     go_simp
     obtain ⟨-, -, -, -, i0, i1, i2, i3, i4, i5, i6, i7, i8, i9, i10, -⟩ := HI.out
     exact hK.out _ _ ⟨qB xi0, qB xi3, qB xi4, qB xi5, (fun h => by rw [put_ne (by decide)]; exact i0 h), (fun h => by rw [put_ne (by decide)]; exact i1 h), (fun h => by rw [put_ne (by decide)]; exact i2 h), (fun h => by rw [put_ne (by decide)]; exact i3 h), (fun h => by rw [put_ne (by decide)]; exact i4 h), (fun h => by rw [put_ne (by decide)]; exact i5 h), (fun h => by rw [put_ne (by decide)]; exact i6 h), (fun h => by rw [put_ne (by decide)]; exact i7 h), (fun h => by rw [put_ne (by decide)]; exact i8 h), (fun h => by rw [put_ne (by decide)]; exact i9 h), (fun _ => ⟨_, _, put_eq (by omega)⟩), hD, hS, hZ, RU, RV, B3, B4, (fun h => (R5 h)), (fun h => N5 h), m1_0, m5_4, m6_5, m7_2, m7_3, m7_6, m9_8, (fun _ => g1), (fun _ => g7), (fun _ => g9), m11_1, m11_5, (fun _ => rfl)⟩
   · refine qst fun g ac wc hn hk hr HI K' hK => ?_
     obtain ⟨xi0, xi3, xi4, xi5, -, -, -, -, -, -, -, -, -, -, i10, hD, hS, hZ, RU, RV, B3, B4, R5, N5, m1_0, m5_4, m6_5, m7_2, m7_3, m7_6, m9_8, m10_1, m10_7, m10_9, m11_1, m11_5, m11_10⟩ := HI.out
     simp [Region.binds] at hr
     have g10 : g 10 = true := (by simp [hr])
     obtain ⟨y10y, f10, y10⟩ := i10 g10
     have z10 := sl_get y10 (by omega)
     have zi5 := sl_get xi5 (by omega)
     have hst := hk
     have hbb := blk_at (R5 hst)
     have cb := hbb.1
     have fb := hbb.2.1
     have zb := hbb.2.2
     clear hbb
     clear i10
     go_simp
     obtain ⟨-, -, -, -, i0, i1, i2, i3, i4, i5, i6, i7, i8, i9, i10, -⟩ := HI.out
     exact hK.out undef _ ⟨xi0, xi3, xi4, xi5, (fun h => i0 h), (fun h => i1 h), (fun h => i2 h), (fun h => i3 h), (fun h => i4 h), (fun h => i5 h), (fun h => i6 h), (fun h => i7 h), (fun h => i8 h), (fun h => i9 h), (fun h => i10 h), ((((hD.setCell (by omega) _ _).setCell (by omega) _ _).setCell (by omega) _ _).setCell (by omega) _ _), ((((hS.setCell (by omega) _ _).setCell (by omega) _ _).setCell (by omega) _ _).setCell (by omega) _ _), (by simpa using hZ), (Reads.setNew (Reads.setNew (Reads.setNew (Reads.setNew RU hBU (by omega) _ _) hBU (by omega) _ _) hBU (by omega) _ _) hBU (by omega) _ _), (Reads.setNew (Reads.setNew (Reads.setNew (Reads.setNew RV hBV (by omega) _ _) hBV (by omega) _ _) hBV (by omega) _ _) hBV (by omega) _ _), (other_set (other_set (other_set (other_set B3 (by omega) _) (by omega) _) (by omega) _) (by omega) _), (other_set (other_set (other_set (other_set B4 (by omega) _) (by omega) _) (by omega) _) (by omega) _), (fun h => absurd h (by simp)), (fun _ => ⟨_, _, st_3_4 (st_2_4 (st_1_4 (st_0_4 (R5 hk) _) _) _) _⟩), m1_0, m5_4, m6_5, m7_2, m7_3, m7_6, m9_8, m10_1, m10_7, m10_9, (fun _ => (m10_1 g10)), (fun _ => (m6_5 (m7_6 (m10_7 g10)))), (fun _ => g10)⟩
end Go.Proofs.YtgngbdacejghcaaGreatDoor
