/- DERIVED. Walks: the draws of bounds. -/
import Derived.Test.YtkoojngonldcbaaGreatKBM107
import Derived.Test.YtkoojngonldcbaaGreatKBM113
import Derived.Test.YtkoojngonldcbaaGreatKBM86
namespace Go.Proofs.YtkoojngonldcbaaGreat
set_option linter.unusedVariables false
set_option linter.unusedSimpArgs false
open Go.RowKit
set_option maxRecDepth 100000
theorem rd_setNew {w : World} {v : Value} {n sz B j : Nat} {xs : List Value} (h : Reads w v n sz xs) (hv : AllIn v fun b => b < B) (hj : B ≤ j) (o : Nat) (x : Value) : Reads (w.setCell ⟨j, o, none⟩ x) v n sz xs := by
 refine rd_keep h (by simp) fun b off m c e h0 => ?_
 have hb := hv b off m c e h0
 obtain ⟨_, _, a, cap, he, _, _, hrow⟩ := h
 subst e
 cases he
 obtain ⟨b', off', he, hr⟩ := hrow h0
 cases he
 exact (grown_setCell (grown_refl w (some j)) o x).block b hr.1 (fun e => by cases e; omega)
set_option maxHeartbeats 2000000 in
theorem w_l10Draw (k : Nat) (c : Value) (w : World) (h : Src w k c) :
 Calls Tryz.prog 151 #[.pointer (some ⟨k, 0, none⟩)] w fun e w' => ∃ r : Ers, e = .returned (.agg #[.int .i64 r.en, .int .i64 r.pa, .int .i64 r.ey]) ∧ Drawn w w' k ∧ Src w' k c := by
 have hk := h.lt
 go_enter Tryz.func151, Tryz.ntmps151
 go_wp2_with fail
 refine (w_l01Next k c 4 _ qsh).mono ?_
 rintro e w1 ⟨x1, rfl, x1a, x1b, hD, hS1⟩
 have hz1 : w.heap.size ≤ w1.heap.size := qsz hD.size
 have hD1 : Drawn w w1 k := Drawn.trans qdh hD
 have HK0_1 := Lib.hid (hD.keep (j := w.heap.size) qkh (by omega))
 clear hD
 obtain ⟨c0, f0, z0_1⟩ := blk_at HK0_1.out
 go_wp2_with fail
 refine (w_l01Next k c 6 _ qsh).mono ?_
 rintro e w2 ⟨x2, rfl, x2a, x2b, hD, hS2⟩
 have hz2 : w1.heap.size ≤ w2.heap.size := qsz hD.size
 have hD2 : Drawn w w2 k := Drawn.trans qdh hD
 have HK0_2 := Lib.hid (hD.keep (j := w.heap.size) qkh (by omega))
 clear hD c0 f0
 obtain ⟨c0, f0, z0_2⟩ := blk_at HK0_2.out
 go_wp2_with fail
 refine (w_l01Next k c 12 _ qsh).mono ?_
 rintro e w3 ⟨x3, rfl, x3a, x3b, hD, hS3⟩
 have hz3 : w2.heap.size ≤ w3.heap.size := qsz hD.size
 have hD3 : Drawn w w3 k := Drawn.trans qdh hD
 have HK0_3 := Lib.hid (hD.keep (j := w.heap.size) qkh (by omega))
 clear hD c0 f0
 obtain ⟨c0, f0, z0_3⟩ := blk_at HK0_3.out
 go_wp2_with fail
 refine (w_l01Next k c 20 _ qsh).mono ?_
 rintro e w4 ⟨x4, rfl, x4a, x4b, hD, hS4⟩
 have hz4 : w3.heap.size ≤ w4.heap.size := qsz hD.size
 have hD4 : Drawn w w4 k := Drawn.trans qdh hD
 have HK0_4 := Lib.hid (hD.keep (j := w.heap.size) qkh (by omega))
 have HK1_4 := Lib.hid (hD.keep (j := w3.heap.size) qkh (by omega))
 clear hD c0 f0
 obtain ⟨c0, f0, z0_4⟩ := blk_at HK0_4.out
 obtain ⟨c1, f1, z1_4⟩ := blk_at HK1_4.out
 by_cases hq : x4 = 0
 · skip
   obtain rfl := hq
   go_wp2_with fail
   refine (w_l01Pick k c _ [-1, 200, 201] _ qsh (reads_new' _ _ [-1, 200, 201] (by simp) (by first | rfl | (simp; done))) (by simp) (allIn_new (by omega))).mono ?_
   rintro e w5 ⟨x5, rfl, x5m, hD, hS5⟩
   have hz5 : w4.heap.size ≤ w5.heap.size := qsz hD.size
   have hD5 : Drawn w w5 k := Drawn.trans qdh hD
   have HK0_5 := Lib.hid (hD.keep (j := w.heap.size) qkh (by omega))
   have HK1_5 := Lib.hid (hD.keep (j := w3.heap.size) qkh (by omega))
   clear hD c0 f0 c1 f1
   obtain ⟨c0, f0, z0_5⟩ := blk_at HK0_5.out
   obtain ⟨c1, f1, z1_5⟩ := blk_at HK1_5.out
   go_wp2
   refine bodyPost_ret (v := .agg #[.int .i64 x1, .int .i64 x2, .int .i64 x5]) (by simp [results, Tryz.results151, go_sem, c0, z0_5]) rfl ⟨⟨x1, x2, x5⟩, rfl, qdh, qsh⟩
 have hqb : (x4 == 0) = false := by simpa using hq
 by_cases hq2 : x4 = 1
 · skip
   obtain rfl := hq2
   go_wp2_with fail
   refine (w_l01Pick k c _ [-1, 200, 201] _ qsh (reads_new' _ _ [-1, 200, 201] (by simp) (by first | rfl | (simp; done))) (by simp) (allIn_new (by omega))).mono ?_
   rintro e w5 ⟨x5, rfl, x5m, hD, hS5⟩
   have hz5 : w4.heap.size ≤ w5.heap.size := qsz hD.size
   have hD5 : Drawn w w5 k := Drawn.trans qdh hD
   have HK0_5 := Lib.hid (hD.keep (j := w.heap.size) qkh (by omega))
   have HK1_5 := Lib.hid (hD.keep (j := w3.heap.size) qkh (by omega))
   clear hD c0 f0 c1 f1
   obtain ⟨c0, f0, z0_5⟩ := blk_at HK0_5.out
   obtain ⟨c1, f1, z1_5⟩ := blk_at HK1_5.out
   go_wp2
   refine bodyPost_ret (v := .agg #[.int .i64 x5, .int .i64 x2, .int .i64 x3]) (by simp [results, Tryz.results151, go_sem, c0, z0_5]) rfl ⟨⟨x5, x2, x3⟩, rfl, qdh, qsh⟩
 have hqb2 : (x4 == 1) = false := by simpa using hq2
 by_cases hq3 : x4 = 2
 · skip
   obtain rfl := hq3
   go_wp2
   refine bodyPost_ret (v := .agg #[.int .i64 0, .int .i64 0, .int .i64 0]) (by simp [results, Tryz.results151, go_sem, c0, z0_4]) rfl ⟨⟨0, 0, 0⟩, rfl, qdh, qsh⟩
 · have hqb3 : (x4 == 2) = false := by simpa using hq3
   go_wp2
   refine bodyPost_ret (v := .agg #[.int .i64 x1, .int .i64 x2, .int .i64 x3]) (by simp [results, Tryz.results151, go_sem, c0, z0_4]) rfl ⟨⟨x1, x2, x3⟩, rfl, qdh, qsh⟩
set_option maxHeartbeats 4000000 in
theorem w_DrawPlanUnits (c : Value) (bs : List Int) (w : World) (h : IsByts w c bs) (hB : ∀ b ∈ bs, 0 ≤ b ∧ b ≤ 255) (hl : bs.length ≤ 4096) :
 Calls Tryz.prog 88 #[c] w fun e w' => ∃ (n : Int) (u v : Value) (st sd : List Int) (y : Value) (c' : List Trm) (r : Ers), e = .returned (.tuple #[.agg #[.int .i64 n, u, v], y, .agg #[.int .i64 r.en, .int .i64 r.pa, .int .i64 r.ey]]) ∧ w'.ownsRow w.heap.size 2 1 u st.length (nums st) ∧ w'.ownsRow w.heap.size 2 1 v sd.length (nums sd) ∧ st.length ≤ 5 ∧ sd.length ≤ 5 ∧ w'.ownsRow w.heap.size 93 3 y c'.length (trms c') ∧ c'.length ≤ 7 ∧ Later w w' := by
 go_enter Tryz.func88, Tryz.ntmps88
 go_wp2_with fail
 refine (w_l01From' c bs _ (h.later (qla)) hB hl).mono ?_
 rintro e w1 ⟨k, rfl, hk0, hL1, hS1⟩
 have hk0 : w.heap.size + 2 ≤ k := by simpa using hk0
 have hk := hS1.lt
 have hAc := byts_in h
 have hD1 : Drawn w w1 k := Drawn.later (by repeat (with_reducible first | exact grown_refl _ _ | refine Drawn.alloc ?_ _)) hL1
 have HK0_1 := Lib.hid (hL1.keep (k := w.heap.size) qkh)
 have HK1_1 := Lib.hid (hL1.keep (k := w.heap.size + 1) qkh)
 obtain ⟨c0, f0, z0_1⟩ := blk_at HK0_1.out
 obtain ⟨c1, f1, z1_1⟩ := blk_at HK1_1.out
 have hz1 := hD1.size
 have hIB : IsByts w1 c bs := (h.later (qla)).later hL1
 clear hL1
 go_wp2_with fail
 refine (w_DrawPlanFor c bs _ (hIB.later (qla)) hB hl).mono ?_
 rintro e w2 ⟨n, vu, vv, st, sd, vy, l, rfl, hOu, hOv, hu5, hv5, hOy, hl7, hL⟩
 have hz2 : w1.heap.size ≤ w2.heap.size := qsz hL.size
 have hD2 : Drawn w w2 k := Drawn.later qdh hL
 have hS2 : Src w2 k c := Src.later qsh hL
 have HK0_2 := Lib.hid (hL.keep (k := w.heap.size) qkh)
 have HK1_2 := Lib.hid (hL.keep (k := w.heap.size + 1) qkh)
 clear hL c0 f0 c1 f1
 obtain ⟨c0, f0, z0_2⟩ := blk_at HK0_2.out
 obtain ⟨c1, f1, z1_2⟩ := blk_at HK1_2.out
 obtain ⟨au, capu, rfl⟩ := isSl_of hOu
 have HOu_2 := Lib.hid (owns_base (base' := w1.heap.size) hOu (by first | omega | (simp; omega)))
 clear hOu
 obtain ⟨av, capv, rfl⟩ := isSl_of hOv
 have HOv_2 := Lib.hid (owns_base (base' := w1.heap.size) hOv (by first | omega | (simp; omega)))
 clear hOv
 obtain ⟨ay, capy, rfl⟩ := isSl_of hOy
 have HOy_2 := Lib.hid (owns_base (base' := w1.heap.size) hOy (by first | omega | (simp; omega)))
 clear hOy
 have hnu6 := ne_own (k := w2.heap.size) HOu_2.out (by omega)
 have hnv6 := ne_own (k := w2.heap.size) HOv_2.out (by omega)
 have hny6 := ne_own (k := w2.heap.size) HOy_2.out (by omega)
 go_wp2_with fail
 have hD0 : Drawn w (w2.alloc (.cells #[.int .i64 n, .slice au st.length capu, .slice av sd.length capv] 26)) k := qdh
 have hS0 : Src (w2.alloc (.cells #[.int .i64 n, .slice au st.length capu, .slice av sd.length capv] 26)) k c := qsh
 have Q6 : (w2.alloc (.cells #[.int .i64 n, .slice au st.length capu, .slice av sd.length capv] 26)).heap[w2.heap.size]? = some (.cells #[.int .i64 n, .slice au st.length capu, .slice av sd.length capv] 26 (0, 0)) := heap_alloc_new' _ _ (by first | rfl | (simp; done))
 have Q0 : (w2.alloc (.cells #[.int .i64 n, .slice au st.length capu, .slice av sd.length capv] 26)).heap[w.heap.size]? = some (.cells #[.int .i64 0, .slice none 0 0, .slice none 0 0] 26 (0, 0)) := qkh
 have Q1 : (w2.alloc (.cells #[.int .i64 n, .slice au st.length capu, .slice av sd.length capv] 26)).heap[w.heap.size + 1]? = some (.cells #[.int .i64 0, .int .i64 0, .int .i64 0] 60 (0, 0)) := qkh
 have Qu : (w2.alloc (.cells #[.int .i64 n, .slice au st.length capu, .slice av sd.length capv] 26)).ownsRow w1.heap.size 2 1 (.slice au st.length capu) st.length (nums st) := (qoh HOu_2)
 have Qv : (w2.alloc (.cells #[.int .i64 n, .slice au st.length capu, .slice av sd.length capv] 26)).ownsRow w1.heap.size 2 1 (.slice av sd.length capv) sd.length (nums sd) := (qoh HOv_2)
 have Qy : (w2.alloc (.cells #[.int .i64 n, .slice au st.length capu, .slice av sd.length capv] 26)).ownsRow w1.heap.size 93 3 (.slice ay l.length capy) l.length (trms l) := (qoh HOy_2)
 have hnu0 := ne_low (k := w.heap.size) Qu (by omega)
 have hnu1 := ne_low (k := w.heap.size + 1) Qu (by omega)
 have hnv0 := ne_low (k := w.heap.size) Qv (by omega)
 have hnv1 := ne_low (k := w.heap.size + 1) Qv (by omega)
 have hny0 := ne_low (k := w.heap.size) Qy (by omega)
 have hny1 := ne_low (k := w.heap.size + 1) Qy (by omega)
 clear c0 f0 c1 f1
 refine region_slots 19 [15, 16, 17, 18, 3] (fun g ac wc => sl ac 2 = .pointer (some ⟨w.heap.size, 0, none⟩) ∧
  sl ac 4 = .pointer (some ⟨w.heap.size + 1, 0, none⟩) ∧
  sl ac 5 = .pointer (some ⟨k, 0, none⟩) ∧
  sl ac 6 = .pointer (some ⟨w2.heap.size, 0, none⟩) ∧
  sl ac 7 = .slice ay l.length capy ∧
  (g 0 = true → (sl ac 15) = .agg #[.int .i64 n, .slice au st.length capu, .slice av sd.length capv]) ∧
  (g 1 = true → (sl ac 16) = .slice ay l.length capy) ∧
  (g 2 = true → (sl ac 17) = .pointer (some ⟨k, 0, none⟩)) ∧
  (g 3 = true → ∃ r : Ers, (sl ac 18) = .agg #[.int .i64 r.en, .int .i64 r.pa, .int .i64 r.ey]) ∧
  (g 5 = true → (sl ac 3) = .slice ay l.length capy) ∧
  Drawn w wc k ∧
  Src wc k c ∧
  wc.ownsRow w1.heap.size 2 1 (.slice au st.length capu) st.length (nums st) ∧
  wc.ownsRow w1.heap.size 2 1 (.slice av sd.length capv) sd.length (nums sd) ∧
  wc.ownsRow w1.heap.size 93 3 (.slice ay l.length capy) l.length (trms l) ∧
  wc.heap[w2.heap.size]? = some (.cells #[.int .i64 n, .slice au st.length capu, .slice av sd.length capv] 26 (0, 0)) ∧
  (g 4 = false → wc.heap[w.heap.size]? = some (.cells #[.int .i64 0, .slice none 0 0, .slice none 0 0] 26 (0, 0))) ∧
  (g 4 = true → wc.heap[w.heap.size]? = some (.cells #[.int .i64 n, .slice au st.length capu, .slice av sd.length capv] 26 (0, 0))) ∧
  (g 6 = false → wc.heap[w.heap.size + 1]? = some (.cells #[.int .i64 0, .int .i64 0, .int .i64 0] 60 (0, 0))) ∧
  (g 6 = true → ∃ m : Ers, wc.heap[w.heap.size + 1]? = some (.cells #[.int .i64 m.en, .int .i64 m.pa, .int .i64 m.ey] 60 (0, 0))) ∧
  (g 3 = true → g 2 = true) ∧
  (g 4 = true → g 0 = true) ∧
  (g 5 = true → g 1 = true) ∧
  (g 6 = true → g 3 = true)) (by kernel_rfl) (by kernel_rfl) rfl (by kernel_rfl) ?_ ?_ ?_
 · exact ⟨rfl, rfl, rfl, rfl, rfl, nofun, nofun, nofun, nofun, nofun, hD0.drew, hS0.drew, owns_later Qu (Later.refl _).drew, owns_later Qv (Later.refl _).drew, owns_later Qy (Later.refl _).drew, Q6, fun _ => Q0, nofun, fun _ => Q1, nofun, nofun, nofun, nofun, nofun⟩
 · intro g ac wu hg ha hI
   obtain ⟨xi2, xi4, xi5, xi6, xi7, i0, i1, i2, i3, i5, hD, hS, Ou, Ov, Oy, B6, -, N0, -, N1, -, -, -, -⟩ := hI
   obtain e0 := i0 (hg 0 (by simp))
   obtain e1 := i1 (hg 1 (by simp))
   obtain e2 := i2 (hg 2 (by simp))
   obtain ⟨rd3, e3⟩ := i3 (hg 3 (by simp))
   obtain e5 := i5 (hg 5 (by simp))
   replace N0 := N0 (hg 4 (by simp))
   replace N1 := N1 (hg 6 (by simp))
   obtain ⟨mr, N1⟩ := N1
   simp only [putAll, e0, e1, e2, e3, e5] at ha
   simp only [Act.put, List.setIfInBounds_toArray, List.set_cons_succ, List.set_cons_zero] at ha
   rw [ha]
   clear xi2 xi4 xi5 xi6 xi7 i0 i1 i2 i3 i5 e0 e1 e2 e3 e5 hg ha
   have hc0 := (blk_at N0).1
   have hz0' := (blk_at N0).2.2
   have hc1 := (blk_at N1).1
   have hz1' := (blk_at N1).2.2
   have HDu := Lib.hid hD
   have HUu := Lib.hid Ou
   have HVu := Lib.hid Ov
   have HYu := Lib.hid Oy
   clear hD hS Ou Ov Oy B6 N0 N1
   go_wp2
   refine bodyPost_ret (v := .tuple #[.agg #[.int .i64 n, .slice au st.length capu, .slice av sd.length capv], .slice ay l.length capy, .agg #[.int .i64 mr.en, .int .i64 mr.pa, .int .i64 mr.ey]]) (by simp [results, Tryz.results88, go_sem, hc0, hz0', hc1, hz1']) rfl ⟨n, _, _, st, sd, _, l, mr, rfl, owns_base HUu.out (by omega), owns_base HVu.out (by omega), hu5, hv5, owns_base HYu.out (by omega), hl7, Later.drawn (k := k) (Later.refl w) (by omega) HDu.out⟩
 · refine .cons ?_ (.cons ?_ (.cons ?_ (.cons ?_ (.cons ?_ (.cons ?_ (.cons ?_ .nil))))))
   · refine qst fun g ac wc hn hk hr HI K' hK => ?_
     obtain ⟨xi2, xi4, xi5, xi6, xi7, -, -, -, -, -, hD, hS, Ou, Ov, Oy, B6, R0, N0, R1, N1, m3_2, m4_0, m5_1, m6_3⟩ := HI.out
     simp [Region.binds] at hr
     have zi6 := sl_get xi6 (by omega)
     obtain ⟨cb, fb, zb⟩ := blk_at B6
     go_simp
     obtain ⟨-, -, -, -, -, i0, i1, i2, i3, i5, -⟩ := HI.out
     exact hK.out _ _ ⟨qB xi2, qB xi4, qB xi5, qB xi6, qB xi7, qP, (fun h => by rw [put_ne (by decide)]; exact i1 h), (fun h => by rw [put_ne (by decide)]; exact i2 h), (fun h => by rw [put_ne (by decide)]; exact i3 h), (fun h => by rw [put_ne (by decide)]; exact i5 h), hD, hS, Ou, Ov, Oy, B6, (fun h => (R0 h)), (fun h => N0 h), (fun h => (R1 h)), (fun h => N1 h), m3_2, (fun _ => rfl), m5_1, m6_3⟩
   · refine qst fun g ac wc hn hk hr HI K' hK => ?_
     obtain ⟨xi2, xi4, xi5, xi6, xi7, -, -, -, -, -, hD, hS, Ou, Ov, Oy, B6, R0, N0, R1, N1, m3_2, m4_0, m5_1, m6_3⟩ := HI.out
     simp [Region.binds] at hr
     have zi7 := sl_get xi7 (by omega)
     go_simp
     obtain ⟨-, -, -, -, -, i0, i1, i2, i3, i5, -⟩ := HI.out
     exact hK.out _ _ ⟨qB xi2, qB xi4, qB xi5, qB xi6, qB xi7, (fun h => by rw [put_ne (by decide)]; exact i0 h), qP, (fun h => by rw [put_ne (by decide)]; exact i2 h), (fun h => by rw [put_ne (by decide)]; exact i3 h), (fun h => absurd (m5_1 h) (by rw [hk]; simp)), hD, hS, Ou, Ov, Oy, B6, (fun h => (R0 h)), (fun h => N0 h), (fun h => (R1 h)), (fun h => N1 h), m3_2, m4_0, (fun _ => rfl), m6_3⟩
   · refine qst fun g ac wc hn hk hr HI K' hK => ?_
     obtain ⟨xi2, xi4, xi5, xi6, xi7, -, -, -, -, -, hD, hS, Ou, Ov, Oy, B6, R0, N0, R1, N1, m3_2, m4_0, m5_1, m6_3⟩ := HI.out
     simp [Region.binds] at hr
     have zi5 := sl_get xi5 (by omega)
     go_simp
     obtain ⟨-, -, -, -, -, i0, i1, i2, i3, i5, -⟩ := HI.out
     exact hK.out _ _ ⟨qB xi2, qB xi4, qB xi5, qB xi6, qB xi7, (fun h => by rw [put_ne (by decide)]; exact i0 h), (fun h => by rw [put_ne (by decide)]; exact i1 h), qP, (fun h => absurd (m3_2 h) (by rw [hk]; simp)), (fun h => by rw [put_ne (by decide)]; exact i5 h), hD, hS, Ou, Ov, Oy, B6, (fun h => (R0 h)), (fun h => N0 h), (fun h => (R1 h)), (fun h => N1 h), (fun _ => rfl), m4_0, m5_1, m6_3⟩
   · refine qst fun g ac wc hn hk hr HI K' hK => ?_
     obtain ⟨xi2, xi4, xi5, xi6, xi7, -, -, i2, -, -, hD, hS, Ou, Ov, Oy, B6, R0, N0, R1, N1, m3_2, m4_0, m5_1, m6_3⟩ := HI.out
     simp [Region.binds] at hr
     have g2 : g 2 = true := (by simp [hr])
     obtain y2 := i2 g2
     have z2 := sl_get y2 (by omega)
     clear i2
     go_simp
     refine (w_l10Draw k c _ hS).mono ?_
     rintro e w4 ⟨r, rfl, hD4, hS4⟩
     obtain ⟨-, -, -, -, -, i0, i1, i2, i3, i5, -⟩ := HI.out
     exact hK.out _ _ ⟨qB xi2, qB xi4, qB xi5, qB xi6, qB xi7, (fun h => by rw [put_ne (by decide)]; exact i0 h), (fun h => by rw [put_ne (by decide)]; exact i1 h), (fun h => by rw [put_ne (by decide)]; exact i2 h), (fun _ => ⟨_, put_eq (by omega)⟩), (fun h => by rw [put_ne (by decide)]; exact i5 h), (hD.trans hD4), hS4, (hD4.owns Ou (by omega)), (hD4.owns Ov (by omega)), (hD4.owns Oy (by omega)), (hD4.keep B6 (by omega)), (fun h => (hD4.keep (R0 h) (by omega))), (fun h => (hD4.keep (N0 h) (by omega))), (fun h => (hD4.keep (R1 h) (by omega))), (fun h => absurd (m6_3 h) (by rw [hk]; simp)), (fun _ => g2), m4_0, m5_1, (fun _ => rfl)⟩
   · refine qst fun g ac wc hn hk hr HI K' hK => ?_
     obtain ⟨xi2, xi4, xi5, xi6, xi7, i0, -, -, -, -, hD, hS, Ou, Ov, Oy, B6, R0, N0, R1, N1, m3_2, m4_0, m5_1, m6_3⟩ := HI.out
     simp [Region.binds] at hr
     have g0 : g 0 = true := (by simp [hr])
     obtain y0 := i0 g0
     have z0 := sl_get y0 (by omega)
     have zi2 := sl_get xi2 (by omega)
     have hst := hk
     have hbb := blk_at (R0 hst)
     have cb := hbb.1
     have fb := hbb.2.1
     have zb := hbb.2.2
     clear hbb
     clear i0
     go_simp
     obtain ⟨-, -, -, -, -, i0, i1, i2, i3, i5, -⟩ := HI.out
     exact hK.out undef _ ⟨xi2, xi4, xi5, xi6, xi7, (fun h => i0 h), (fun h => i1 h), (fun h => i2 h), (fun h => i3 h), (fun h => i5 h), (((hD.setCell (by omega) _ _).setCell (by omega) _ _).setCell (by omega) _ _), (((hS.setLow (hAc.mono fun b hb => by omega) (by omega) _ _).setLow (hAc.mono fun b hb => by omega) (by omega) _ _).setLow (hAc.mono fun b hb => by omega) (by omega) _ _), (owns_setNe (owns_setNe (owns_setNe Ou (by assumption) _ _) (by assumption) _ _) (by assumption) _ _), (owns_setNe (owns_setNe (owns_setNe Ov (by assumption) _ _) (by assumption) _ _) (by assumption) _ _), (owns_setNe (owns_setNe (owns_setNe Oy (by assumption) _ _) (by assumption) _ _) (by assumption) _ _), (other_set (other_set (other_set B6 (by omega) _) (by omega) _) (by omega) _), (fun h => absurd h (by simp)), (fun _ => st_2_3 (st_1_3 (st_0_3 (R0 hk) _) _) _), (fun h => (other_set (other_set (other_set (R1 h) (by omega) _) (by omega) _) (by omega) _)), (fun h => by obtain ⟨q0, qq⟩ := N1 h; exact ⟨q0, (other_set (other_set (other_set qq (by omega) _) (by omega) _) (by omega) _)⟩), m3_2, (fun _ => g0), m5_1, m6_3⟩
   · refine qst fun g ac wc hn hk hr HI K' hK => ?_
     obtain ⟨xi2, xi4, xi5, xi6, xi7, -, i1, -, -, -, hD, hS, Ou, Ov, Oy, B6, R0, N0, R1, N1, m3_2, m4_0, m5_1, m6_3⟩ := HI.out
     simp [Region.binds] at hr
     have g1 : g 1 = true := (by simp [hr])
     obtain y1 := i1 g1
     have z1 := sl_get y1 (by omega)
     clear i1
     go_simp
     obtain ⟨-, -, -, -, -, i0, i1, i2, i3, i5, -⟩ := HI.out
     exact hK.out _ _ ⟨qB xi2, qB xi4, qB xi5, qB xi6, qB xi7, (fun h => by rw [put_ne (by decide)]; exact i0 h), (fun h => by rw [put_ne (by decide)]; exact i1 h), (fun h => by rw [put_ne (by decide)]; exact i2 h), (fun h => by rw [put_ne (by decide)]; exact i3 h), qP, hD, hS, Ou, Ov, Oy, B6, (fun h => (R0 h)), (fun h => N0 h), (fun h => (R1 h)), (fun h => N1 h), m3_2, m4_0, (fun _ => g1), m6_3⟩
   · refine qst fun g ac wc hn hk hr HI K' hK => ?_
     obtain ⟨xi2, xi4, xi5, xi6, xi7, -, -, -, i3, -, hD, hS, Ou, Ov, Oy, B6, R0, N0, R1, N1, m3_2, m4_0, m5_1, m6_3⟩ := HI.out
     simp [Region.binds] at hr
     have g3 : g 3 = true := (by simp [hr])
     obtain ⟨r3, y3⟩ := i3 g3
     have z3 := sl_get y3 (by omega)
     have zi4 := sl_get xi4 (by omega)
     have hst := hk
     have hbb := blk_at (R1 hst)
     have cb := hbb.1
     have fb := hbb.2.1
     have zb := hbb.2.2
     clear hbb
     clear i3
     go_simp
     obtain ⟨-, -, -, -, -, i0, i1, i2, i3, i5, -⟩ := HI.out
     exact hK.out undef _ ⟨xi2, xi4, xi5, xi6, xi7, (fun h => i0 h), (fun h => i1 h), (fun h => i2 h), (fun h => i3 h), (fun h => i5 h), (((hD.setCell (by omega) _ _).setCell (by omega) _ _).setCell (by omega) _ _), (((hS.setLow (hAc.mono fun b hb => by omega) (by omega) _ _).setLow (hAc.mono fun b hb => by omega) (by omega) _ _).setLow (hAc.mono fun b hb => by omega) (by omega) _ _), (owns_setNe (owns_setNe (owns_setNe Ou (by assumption) _ _) (by assumption) _ _) (by assumption) _ _), (owns_setNe (owns_setNe (owns_setNe Ov (by assumption) _ _) (by assumption) _ _) (by assumption) _ _), (owns_setNe (owns_setNe (owns_setNe Oy (by assumption) _ _) (by assumption) _ _) (by assumption) _ _), (other_set (other_set (other_set B6 (by omega) _) (by omega) _) (by omega) _), (fun h => (other_set (other_set (other_set (R0 h) (by omega) _) (by omega) _) (by omega) _)), (fun h => (other_set (other_set (other_set (N0 h) (by omega) _) (by omega) _) (by omega) _)), (fun h => absurd h (by simp)), (fun _ => ⟨_, st_2_3 (st_1_3 (st_0_3 (R1 hk) _) _) _⟩), m3_2, m4_0, m5_1, (fun _ => g3)⟩
set_option maxHeartbeats 4000000 in
theorem w_DrawPlanSpan (c : Value) (bs : List Int) (w : World) (h : IsByts w c bs) (hB : ∀ b ∈ bs, 0 ≤ b ∧ b ≤ 255) (hl : bs.length ≤ 4096) :
 Calls Tryz.prog 44 #[c] w fun e w' => ∃ (n : Int) (u v : Value) (st sd : List Int) (y : Value) (c' : List Trm) (r : Ers), e = .returned (.tuple #[.agg #[.int .i64 n, u, v], y, .agg #[.int .i64 r.en, .int .i64 r.pa, .int .i64 r.ey]]) ∧ w'.ownsRow w.heap.size 2 1 u st.length (nums st) ∧ w'.ownsRow w.heap.size 2 1 v sd.length (nums sd) ∧ st.length ≤ 5 ∧ sd.length ≤ 5 ∧ w'.ownsRow w.heap.size 93 3 y c'.length (trms c') ∧ c'.length ≤ 7 ∧ Later w w' := by
 go_enter Tryz.func44, Tryz.ntmps44
 go_wp2_with fail
 refine (w_l01From' c bs _ (h.later (qla)) hB hl).mono ?_
 rintro e w1 ⟨k, rfl, hk0, hL1, hS1⟩
 have hk0 : w.heap.size + 2 ≤ k := by simpa using hk0
 have hk := hS1.lt
 have hAc := byts_in h
 have hD1 : Drawn w w1 k := Drawn.later (by repeat (with_reducible first | exact grown_refl _ _ | refine Drawn.alloc ?_ _)) hL1
 have HK0_1 := Lib.hid (hL1.keep (k := w.heap.size) qkh)
 have HK1_1 := Lib.hid (hL1.keep (k := w.heap.size + 1) qkh)
 obtain ⟨c0, f0, z0_1⟩ := blk_at HK0_1.out
 obtain ⟨c1, f1, z1_1⟩ := blk_at HK1_1.out
 have hz1 := hD1.size
 have hIB : IsByts w1 c bs := (h.later (qla)).later hL1
 clear hL1
 go_wp2_with fail
 refine (w_DrawPlanUnits c bs _ (hIB.later (qla)) hB hl).mono ?_
 rintro e w2 ⟨n, vu, vv, st, sd, vy, l, r, rfl, hOu, hOv, hu5, hv5, hOy, hl7, hL⟩
 have hz2 : w1.heap.size ≤ w2.heap.size := qsz hL.size
 have hD2 : Drawn w w2 k := Drawn.later qdh hL
 have hS2 : Src w2 k c := Src.later qsh hL
 have HK0_2 := Lib.hid (hL.keep (k := w.heap.size) qkh)
 have HK1_2 := Lib.hid (hL.keep (k := w.heap.size + 1) qkh)
 clear hL c0 f0 c1 f1
 obtain ⟨c0, f0, z0_2⟩ := blk_at HK0_2.out
 obtain ⟨c1, f1, z1_2⟩ := blk_at HK1_2.out
 obtain ⟨au, capu, rfl⟩ := isSl_of hOu
 have HOu_2 := Lib.hid (owns_base (base' := w1.heap.size) hOu (by first | omega | (simp; omega)))
 clear hOu
 obtain ⟨av, capv, rfl⟩ := isSl_of hOv
 have HOv_2 := Lib.hid (owns_base (base' := w1.heap.size) hOv (by first | omega | (simp; omega)))
 clear hOv
 obtain ⟨ay, capy, rfl⟩ := isSl_of hOy
 have HOy_2 := Lib.hid (owns_base (base' := w1.heap.size) hOy (by first | omega | (simp; omega)))
 clear hOy
 have hnu6 := ne_own (k := w2.heap.size) HOu_2.out (by omega)
 have hnv6 := ne_own (k := w2.heap.size) HOv_2.out (by omega)
 have hny6 := ne_own (k := w2.heap.size) HOy_2.out (by omega)
 have hnu8 := ne_own (k := w2.heap.size + 1) HOu_2.out (by omega)
 have hnv8 := ne_own (k := w2.heap.size + 1) HOv_2.out (by omega)
 have hny8 := ne_own (k := w2.heap.size + 1) HOy_2.out (by omega)
 go_wp2_with fail
 refine (w_l01Next k c 8 _ qsh).mono ?_
 rintro e w3 ⟨x3, rfl, x3a, x3b, hD, hS3⟩
 have hz3 : w2.heap.size ≤ w3.heap.size := qsz hD.size
 have hD3 : Drawn w w3 k := Drawn.trans qdh hD
 have HK0_3 := Lib.hid (hD.keep (j := w.heap.size) qkh (by omega))
 have HK1_3 := Lib.hid (hD.keep (j := w.heap.size + 1) qkh (by omega))
 have HK6_3 := Lib.hid (hD.keep (j := w2.heap.size) qkh (by omega))
 have HK8_3 := Lib.hid (hD.keep (j := w2.heap.size + 1) qkh (by omega))
 have HOu_3 := Lib.hid (hD.owns (qoh HOu_2) (by omega))
 have HOv_3 := Lib.hid (hD.owns (qoh HOv_2) (by omega))
 have HOy_3 := Lib.hid (hD.owns (qoh HOy_2) (by omega))
 clear hD c0 f0 c1 f1
 obtain ⟨c0, f0, z0_3⟩ := blk_at HK0_3.out
 obtain ⟨c1, f1, z1_3⟩ := blk_at HK1_3.out
 obtain ⟨c6, f6, z6_3⟩ := blk_at HK6_3.out
 obtain ⟨c8, f8, z8_3⟩ := blk_at HK8_3.out
 by_cases hq : x3 = 0
 · skip
   obtain rfl := hq
   go_wp2_with fail
   obtain ⟨B, hBe, hBi⟩ : ∃ B, B = w3.heap.size ∧ w3.heap.size ≤ B := ⟨_, rfl, Nat.le_refl _⟩
   have hZ0 : B ≤ w3.drew.heap.size := Nat.le_of_eq hBe
   have hIB0 : IsByts w3 c bs := (h.later (Later.refl _)).later (Later.drawn (k := k) (Later.refl w) (by omega) hD3)
   have hIBk : AllIn c fun b => b ≠ k := (byts_in h).mono fun b hb => by omega
   have hIBl := byts_in h
   have hD0 : Drawn w w3 k := qdh
   have hS0 : Src w3 k c := qsh
   have Q6 : w3.heap[w2.heap.size]? = some (.cells #[.int .i64 n, .slice au st.length capu, .slice av sd.length capv] 26 (0, 0)) := qkh
   have Q8 : w3.heap[w2.heap.size + 1]? = some (.cells #[.int .i64 r.en, .int .i64 r.pa, .int .i64 r.ey] 60 (0, 0)) := qkh
   have Q0 : w3.heap[w.heap.size]? = some (.cells #[.int .i64 0, .slice none 0 0, .slice none 0 0] 26 (0, 0)) := qkh
   have Q1 : w3.heap[w.heap.size + 1]? = some (.cells #[.int .i64 0, .int .i64 0, .int .i64 0] 60 (0, 0)) := qkh
   have Qu : w3.ownsRow w1.heap.size 2 1 (.slice au st.length capu) st.length (nums st) := (qoh HOu_3)
   have Qv : w3.ownsRow w1.heap.size 2 1 (.slice av sd.length capv) sd.length (nums sd) := (qoh HOv_3)
   have Qy : w3.ownsRow w1.heap.size 93 3 (.slice ay l.length capy) l.length (trms l) := (qoh HOy_3)
   have hnu0 := ne_low (k := w.heap.size) Qu (by omega)
   have hnu1 := ne_low (k := w.heap.size + 1) Qu (by omega)
   have hnv0 := ne_low (k := w.heap.size) Qv (by omega)
   have hnv1 := ne_low (k := w.heap.size + 1) Qv (by omega)
   have hny0 := ne_low (k := w.heap.size) Qy (by omega)
   have hny1 := ne_low (k := w.heap.size + 1) Qy (by omega)
   clear c0 f0 c1 f1 c6 f6 c8 f8
   refine region_slots 27 [20, 21, 22, 23, 3] (fun g ac wc => sl ac 0 = c ∧
    sl ac 2 = .pointer (some ⟨w.heap.size, 0, none⟩) ∧
    sl ac 4 = .pointer (some ⟨w.heap.size + 1, 0, none⟩) ∧
    sl ac 6 = .pointer (some ⟨w2.heap.size, 0, none⟩) ∧
    sl ac 8 = .pointer (some ⟨w2.heap.size + 1, 0, none⟩) ∧
    (g 0 = true → (sl ac 20) = .agg #[.int .i64 n, .slice au st.length capu, .slice av sd.length capv]) ∧
    (g 1 = true → (sl ac 21) = c) ∧
    (g 2 = true → NewT wc B (sl ac 22)) ∧
    (g 3 = true → (sl ac 23) = .agg #[.int .i64 r.en, .int .i64 r.pa, .int .i64 r.ey]) ∧
    (g 5 = true → (sl ac 3) = sl ac 22) ∧
    Drawn w wc k ∧
    Src wc k c ∧
    B ≤ wc.heap.size ∧
    IsByts wc c bs ∧
    wc.ownsRow w1.heap.size 2 1 (.slice au st.length capu) st.length (nums st) ∧
    wc.ownsRow w1.heap.size 2 1 (.slice av sd.length capv) sd.length (nums sd) ∧
    wc.ownsRow w1.heap.size 93 3 (.slice ay l.length capy) l.length (trms l) ∧
    wc.heap[w2.heap.size]? = some (.cells #[.int .i64 n, .slice au st.length capu, .slice av sd.length capv] 26 (0, 0)) ∧
    wc.heap[w2.heap.size + 1]? = some (.cells #[.int .i64 r.en, .int .i64 r.pa, .int .i64 r.ey] 60 (0, 0)) ∧
    (g 4 = false → wc.heap[w.heap.size]? = some (.cells #[.int .i64 0, .slice none 0 0, .slice none 0 0] 26 (0, 0))) ∧
    (g 4 = true → wc.heap[w.heap.size]? = some (.cells #[.int .i64 n, .slice au st.length capu, .slice av sd.length capv] 26 (0, 0))) ∧
    (g 6 = false → wc.heap[w.heap.size + 1]? = some (.cells #[.int .i64 0, .int .i64 0, .int .i64 0] 60 (0, 0))) ∧
    (g 6 = true → wc.heap[w.heap.size + 1]? = some (.cells #[.int .i64 r.en, .int .i64 r.pa, .int .i64 r.ey] 60 (0, 0))) ∧
    (g 2 = true → g 1 = true) ∧
    (g 4 = true → g 0 = true) ∧
    (g 5 = true → g 2 = true) ∧
    (g 6 = true → g 3 = true)) (by kernel_rfl) (by kernel_rfl) rfl (by kernel_rfl) ?_ ?_ ?_
   · exact ⟨rfl, rfl, rfl, rfl, rfl, nofun, nofun, nofun, nofun, nofun, hD0.drew, hS0.drew, hZ0, Reads.later hIB0 (Later.refl _).drew, owns_later Qu (Later.refl _).drew, owns_later Qv (Later.refl _).drew, owns_later Qy (Later.refl _).drew, Q6, Q8, fun _ => Q0, nofun, fun _ => Q1, nofun, nofun, nofun, nofun, nofun⟩
   · intro g ac wu hg ha hI
     obtain ⟨xi0, xi2, xi4, xi6, xi8, i0, i1, i2, i3, i5, hD, hS, hZ, hIB, Ou, Ov, Oy, B6, B8, -, N0, -, N1, -, -, -, -⟩ := hI
     obtain e0 := i0 (hg 0 (by simp))
     obtain e1 := i1 (hg 1 (by simp))
     obtain ⟨ad2, capd2, ld2, e2, hld2, hod2⟩ := i2 (hg 2 (by simp))
     obtain e3 := i3 (hg 3 (by simp))
     obtain e5 := i5 (hg 5 (by simp))
     replace N0 := N0 (hg 4 (by simp))
     replace N1 := N1 (hg 6 (by simp))
     rw [e2] at e5 hod2
     simp only [putAll, e0, e1, e2, e3, e5] at ha
     simp only [Act.put, List.setIfInBounds_toArray, List.set_cons_succ, List.set_cons_zero] at ha
     rw [ha]
     clear xi0 xi2 xi4 xi6 xi8 i0 i1 i2 i3 i5 e0 e1 e2 e3 e5 hg ha
     have HNx := Lib.hid hod2
     have hc0 := (blk_at N0).1
     have hz0' := (blk_at N0).2.2
     have hc1 := (blk_at N1).1
     have hz1' := (blk_at N1).2.2
     have HDu := Lib.hid hD
     have HUu := Lib.hid Ou
     have HVu := Lib.hid Ov
     have HYu := Lib.hid Oy
     clear hIB hod2 hD hS Ou Ov Oy B6 B8 N0 N1
     go_wp2
     refine bodyPost_ret (v := .tuple #[.agg #[.int .i64 n, .slice au st.length capu, .slice av sd.length capv], .slice ad2 ld2.length capd2, .agg #[.int .i64 r.en, .int .i64 r.pa, .int .i64 r.ey]]) (by simp [results, Tryz.results44, go_sem, hc0, hz0', hc1, hz1']) rfl ⟨n, _, _, st, sd, _, ld2, r, rfl, owns_base HUu.out (by omega), owns_base HVu.out (by omega), hu5, hv5, owns_base HNx.out (by omega), hld2, Later.drawn (k := k) (Later.refl w) (by omega) HDu.out⟩
   · refine .cons ?_ (.cons ?_ (.cons ?_ (.cons ?_ (.cons ?_ (.cons ?_ (.cons ?_ .nil))))))
     · refine qst fun g ac wc hn hk hr HI K' hK => ?_
       obtain ⟨xi0, xi2, xi4, xi6, xi8, -, -, -, -, -, hD, hS, hZ, hIB, Ou, Ov, Oy, B6, B8, R0, N0, R1, N1, m2_1, m4_0, m5_2, m6_3⟩ := HI.out
       simp [Region.binds] at hr
       have zi6 := sl_get xi6 (by omega)
       obtain ⟨cb, fb, zb⟩ := blk_at B6
       go_simp
       obtain ⟨-, -, -, -, -, i0, i1, i2, i3, i5, -⟩ := HI.out
       exact hK.out _ _ ⟨qB xi0, qB xi2, qB xi4, qB xi6, qB xi8, qP, (fun h => by rw [put_ne (by decide)]; exact i1 h), (fun h => by rw [put_ne (by decide)]; exact i2 h), (fun h => by rw [put_ne (by decide)]; exact i3 h), (fun h => by rw [put_ne (by decide), put_ne (by decide)]; exact i5 h), hD, hS, hZ, hIB, Ou, Ov, Oy, B6, B8, (fun h => (R0 h)), (fun h => N0 h), (fun h => (R1 h)), (fun h => N1 h), m2_1, (fun _ => rfl), m5_2, m6_3⟩
     · refine qst fun g ac wc hn hk hr HI K' hK => ?_
       obtain ⟨xi0, xi2, xi4, xi6, xi8, -, -, -, -, -, hD, hS, hZ, hIB, Ou, Ov, Oy, B6, B8, R0, N0, R1, N1, m2_1, m4_0, m5_2, m6_3⟩ := HI.out
       simp [Region.binds] at hr
       have zi0 := sl_get xi0 (by omega)
       go_simp
       obtain ⟨-, -, -, -, -, i0, i1, i2, i3, i5, -⟩ := HI.out
       exact hK.out _ _ ⟨qB xi0, qB xi2, qB xi4, qB xi6, qB xi8, (fun h => by rw [put_ne (by decide)]; exact i0 h), qP, (fun h => absurd (m2_1 h) (by rw [hk]; simp)), (fun h => by rw [put_ne (by decide)]; exact i3 h), (fun h => by rw [put_ne (by decide), put_ne (by decide)]; exact i5 h), hD, hS, hZ, hIB, Ou, Ov, Oy, B6, B8, (fun h => (R0 h)), (fun h => N0 h), (fun h => (R1 h)), (fun h => N1 h), (fun _ => rfl), m4_0, m5_2, m6_3⟩
     · refine qst fun g ac wc hn hk hr HI K' hK => ?_
       obtain ⟨xi0, xi2, xi4, xi6, xi8, -, i1, -, -, -, hD, hS, hZ, hIB, Ou, Ov, Oy, B6, B8, R0, N0, R1, N1, m2_1, m4_0, m5_2, m6_3⟩ := HI.out
       simp [Region.binds] at hr
       have g1 : g 1 = true := (by simp [hr])
       obtain y1 := i1 g1
       have z1 := sl_get y1 (by omega)
       clear i1
       go_simp
       refine (w_l13DrawLarge c bs wc hIB hB hl).mono ?_
       rintro e w4 ⟨vx, lx, rfl, hox, hl7x, hL4⟩
       obtain ⟨-, -, -, -, -, i0, i1, i2, i3, i5, -⟩ := HI.out
       exact hK.out _ _ ⟨qB xi0, qB xi2, qB xi4, qB xi6, qB xi8, (fun h => by rw [put_ne (by decide)]; exact i0 h), (fun h => by rw [put_ne (by decide)]; exact i1 h), (fun _ => by rw [put_eq (by omega)]; exact NewT.mk hZ hox hl7x), (fun h => by rw [put_ne (by decide)]; exact i3 h), (fun h => absurd (m5_2 h) (by rw [hk]; simp)), (hD.later hL4), (hS.later hL4), (Nat.le_trans hZ hL4.size), (hIB.later hL4), (owns_later Ou hL4), (owns_later Ov hL4), (owns_later Oy hL4), (hL4.keep B6), (hL4.keep B8), (fun h => (hL4.keep (R0 h))), (fun h => (hL4.keep (N0 h))), (fun h => (hL4.keep (R1 h))), (fun h => (hL4.keep (N1 h))), (fun _ => g1), m4_0, (fun _ => rfl), m6_3⟩
     · refine qst fun g ac wc hn hk hr HI K' hK => ?_
       obtain ⟨xi0, xi2, xi4, xi6, xi8, -, -, -, -, -, hD, hS, hZ, hIB, Ou, Ov, Oy, B6, B8, R0, N0, R1, N1, m2_1, m4_0, m5_2, m6_3⟩ := HI.out
       simp [Region.binds] at hr
       have zi8 := sl_get xi8 (by omega)
       obtain ⟨cb, fb, zb⟩ := blk_at B8
       go_simp
       obtain ⟨-, -, -, -, -, i0, i1, i2, i3, i5, -⟩ := HI.out
       exact hK.out _ _ ⟨qB xi0, qB xi2, qB xi4, qB xi6, qB xi8, (fun h => by rw [put_ne (by decide)]; exact i0 h), (fun h => by rw [put_ne (by decide)]; exact i1 h), (fun h => by rw [put_ne (by decide)]; exact i2 h), qP, (fun h => by rw [put_ne (by decide), put_ne (by decide)]; exact i5 h), hD, hS, hZ, hIB, Ou, Ov, Oy, B6, B8, (fun h => (R0 h)), (fun h => N0 h), (fun h => (R1 h)), (fun h => N1 h), m2_1, m4_0, m5_2, (fun _ => rfl)⟩
     · refine qst fun g ac wc hn hk hr HI K' hK => ?_
       obtain ⟨xi0, xi2, xi4, xi6, xi8, i0, -, -, -, -, hD, hS, hZ, hIB, Ou, Ov, Oy, B6, B8, R0, N0, R1, N1, m2_1, m4_0, m5_2, m6_3⟩ := HI.out
       simp [Region.binds] at hr
       have g0 : g 0 = true := (by simp [hr])
       obtain y0 := i0 g0
       have z0 := sl_get y0 (by omega)
       have zi2 := sl_get xi2 (by omega)
       have hst := hk
       have hbb := blk_at (R0 hst)
       have cb := hbb.1
       have fb := hbb.2.1
       have zb := hbb.2.2
       clear hbb
       clear i0
       go_simp
       obtain ⟨-, -, -, -, -, i0, i1, i2, i3, i5, -⟩ := HI.out
       exact hK.out undef _ ⟨xi0, xi2, xi4, xi6, xi8, (fun h => i0 h), (fun h => i1 h), (fun h => (((i2 h).setCell (by omega) _ _).setCell (by omega) _ _).setCell (by omega) _ _), (fun h => i3 h), (fun h => i5 h), (((hD.setCell (by omega) _ _).setCell (by omega) _ _).setCell (by omega) _ _), (((hS.setLow (hAc.mono fun b hb => by omega) (by omega) _ _).setLow (hAc.mono fun b hb => by omega) (by omega) _ _).setLow (hAc.mono fun b hb => by omega) (by omega) _ _), (by simpa using hZ), (rd_setNew (rd_setNew (rd_setNew hIB hIBl (by omega) _ _) hIBl (by omega) _ _) hIBl (by omega) _ _), (owns_setNe (owns_setNe (owns_setNe Ou (by assumption) _ _) (by assumption) _ _) (by assumption) _ _), (owns_setNe (owns_setNe (owns_setNe Ov (by assumption) _ _) (by assumption) _ _) (by assumption) _ _), (owns_setNe (owns_setNe (owns_setNe Oy (by assumption) _ _) (by assumption) _ _) (by assumption) _ _), (other_set (other_set (other_set B6 (by omega) _) (by omega) _) (by omega) _), (other_set (other_set (other_set B8 (by omega) _) (by omega) _) (by omega) _), (fun h => absurd h (by simp)), (fun _ => st_2_3 (st_1_3 (st_0_3 (R0 hk) _) _) _), (fun h => (other_set (other_set (other_set (R1 h) (by omega) _) (by omega) _) (by omega) _)), (fun h => (other_set (other_set (other_set (N1 h) (by omega) _) (by omega) _) (by omega) _)), m2_1, (fun _ => g0), m5_2, m6_3⟩
     · refine qst fun g ac wc hn hk hr HI K' hK => ?_
       obtain ⟨xi0, xi2, xi4, xi6, xi8, -, -, i2, -, -, hD, hS, hZ, hIB, Ou, Ov, Oy, B6, B8, R0, N0, R1, N1, m2_1, m4_0, m5_2, m6_3⟩ := HI.out
       simp [Region.binds] at hr
       have g2 : g 2 = true := (by simp [hr])
       obtain ⟨a2, cap2, l2, y2, hl2, ho2⟩ := i2 g2
       have z2 := sl_get y2 (by omega)
       clear i2
       go_simp
       obtain ⟨-, -, -, -, -, i0, i1, i2, i3, i5, -⟩ := HI.out
       exact hK.out _ _ ⟨qB xi0, qB xi2, qB xi4, qB xi6, qB xi8, (fun h => by rw [put_ne (by decide)]; exact i0 h), (fun h => by rw [put_ne (by decide)]; exact i1 h), (fun h => by rw [put_ne (by decide)]; exact i2 h), (fun h => by rw [put_ne (by decide)]; exact i3 h), (fun _ => by rw [put_ne (show 22 ≠ 3 by decide), y2]; exact put_eq (by omega)), hD, hS, hZ, hIB, Ou, Ov, Oy, B6, B8, (fun h => (R0 h)), (fun h => N0 h), (fun h => (R1 h)), (fun h => N1 h), m2_1, m4_0, (fun _ => g2), m6_3⟩
     · refine qst fun g ac wc hn hk hr HI K' hK => ?_
       obtain ⟨xi0, xi2, xi4, xi6, xi8, -, -, -, i3, -, hD, hS, hZ, hIB, Ou, Ov, Oy, B6, B8, R0, N0, R1, N1, m2_1, m4_0, m5_2, m6_3⟩ := HI.out
       simp [Region.binds] at hr
       have g3 : g 3 = true := (by simp [hr])
       obtain y3 := i3 g3
       have z3 := sl_get y3 (by omega)
       have zi4 := sl_get xi4 (by omega)
       have hst := hk
       have hbb := blk_at (R1 hst)
       have cb := hbb.1
       have fb := hbb.2.1
       have zb := hbb.2.2
       clear hbb
       clear i3
       go_simp
       obtain ⟨-, -, -, -, -, i0, i1, i2, i3, i5, -⟩ := HI.out
       exact hK.out undef _ ⟨xi0, xi2, xi4, xi6, xi8, (fun h => i0 h), (fun h => i1 h), (fun h => (((i2 h).setCell (by omega) _ _).setCell (by omega) _ _).setCell (by omega) _ _), (fun h => i3 h), (fun h => i5 h), (((hD.setCell (by omega) _ _).setCell (by omega) _ _).setCell (by omega) _ _), (((hS.setLow (hAc.mono fun b hb => by omega) (by omega) _ _).setLow (hAc.mono fun b hb => by omega) (by omega) _ _).setLow (hAc.mono fun b hb => by omega) (by omega) _ _), (by simpa using hZ), (rd_setNew (rd_setNew (rd_setNew hIB hIBl (by omega) _ _) hIBl (by omega) _ _) hIBl (by omega) _ _), (owns_setNe (owns_setNe (owns_setNe Ou (by assumption) _ _) (by assumption) _ _) (by assumption) _ _), (owns_setNe (owns_setNe (owns_setNe Ov (by assumption) _ _) (by assumption) _ _) (by assumption) _ _), (owns_setNe (owns_setNe (owns_setNe Oy (by assumption) _ _) (by assumption) _ _) (by assumption) _ _), (other_set (other_set (other_set B6 (by omega) _) (by omega) _) (by omega) _), (other_set (other_set (other_set B8 (by omega) _) (by omega) _) (by omega) _), (fun h => (other_set (other_set (other_set (R0 h) (by omega) _) (by omega) _) (by omega) _)), (fun h => (other_set (other_set (other_set (N0 h) (by omega) _) (by omega) _) (by omega) _)), (fun h => absurd h (by simp)), (fun _ => st_2_3 (st_1_3 (st_0_3 (R1 hk) _) _) _), m2_1, m4_0, m5_2, (fun _ => g3)⟩
 · skip
   have hqb : (x3 == 0) = false := by simpa using hq
   have hnua := ne_low (k := w.heap.size) HOu_3.out (by omega)
   have hnub := ne_low (k := w.heap.size + 1) HOu_3.out (by omega)
   have hnva := ne_low (k := w.heap.size) HOv_3.out (by omega)
   have hnvb := ne_low (k := w.heap.size + 1) HOv_3.out (by omega)
   have hnya := ne_low (k := w.heap.size) HOy_3.out (by omega)
   have hnyb := ne_low (k := w.heap.size + 1) HOy_3.out (by omega)
   go_wp2_with fail
   go_region
   go_wp2
   refine bodyPost_ret (v := .tuple #[.agg #[.int .i64 n, .slice au st.length capu, .slice av sd.length capv], .slice ay l.length capy, .agg #[.int .i64 r.en, .int .i64 r.pa, .int .i64 r.ey]]) (by simp [results, Tryz.results44, go_sem, c0, z0_3, c1, z1_3]) rfl ⟨n, _, _, st, sd, _, l, r, rfl, owns_base (base := w1.heap.size) (qoh HOu_3) (by omega), owns_base (base := w1.heap.size) (qoh HOv_3) (by omega), hu5, hv5, owns_base (base := w1.heap.size) (qoh HOy_3) (by omega), hl7, Later.drawn (k := k) (Later.refl w) (by omega) qdh⟩
theorem resF_d {r : Rul} {c : List Trm} (h : codePlan r c = 0) : 1000 ≤ (resF r c).d ∧ (resF r c).d ≤ 9999 := by
 unfold resF readF
 rw [if_pos h]
 simp only [atF]
 omega
set_option maxHeartbeats 4000000 in
theorem w_DrawIsWithin (c : Value) (bs : List Int) (w : World) (h : IsByts w c bs) (hB : ∀ b ∈ bs, 0 ≤ b ∧ b ≤ 255) (hl : bs.length ≤ 4096) :
 Calls Tryz.prog 49 #[c] w fun e w' => ∃ (n : Int) (u v : Value) (st sd : List Int) (y : Value) (c' : List Trm) (r : Ers) (f : Fig), e = .returned (.tuple #[.agg #[.int .i64 n, u, v], y, .agg #[.int .i64 r.en, .int .i64 r.pa, .int .i64 r.ey], .agg #[.int .i64 f.d, .int .i64 f.t]]) ∧ w'.ownsRow w.heap.size 2 1 u st.length (nums st) ∧ w'.ownsRow w.heap.size 2 1 v sd.length (nums sd) ∧ st.length ≤ 5 ∧ sd.length ≤ 5 ∧ w'.ownsRow w.heap.size 93 3 y c'.length (trms c') ∧ c'.length ≤ 7 ∧ Later w w' := by
 go_enter Tryz.func49, Tryz.ntmps49
 go_wp2_with fail
 refine (w_l01From' c bs _ (h.later (qla)) hB hl).mono ?_
 rintro e w1 ⟨k, rfl, hk0, hL1, hS1⟩
 have hk0 : w.heap.size + 3 ≤ k := by simpa using hk0
 have hk := hS1.lt
 have hAc := byts_in h
 have hD1 : Drawn w w1 k := Drawn.later (by repeat (with_reducible first | exact grown_refl _ _ | refine Drawn.alloc ?_ _)) hL1
 have HK0_1 := Lib.hid (hL1.keep (k := w.heap.size) qkh)
 have HK1_1 := Lib.hid (hL1.keep (k := w.heap.size + 1) qkh)
 have HK2_1 := Lib.hid (hL1.keep (k := w.heap.size + 1 + 1) qkh)
 obtain ⟨c0, f0, z0_1⟩ := blk_at HK0_1.out
 obtain ⟨c1, f1, z1_1⟩ := blk_at HK1_1.out
 obtain ⟨c2, f2, z2_1⟩ := blk_at HK2_1.out
 have hz1 := hD1.size
 have hIB : IsByts w1 c bs := (h.later (qla)).later hL1
 clear hL1
 go_wp2_with fail
 refine (w_DrawPlanUnits c bs _ (hIB.later (qla)) hB hl).mono ?_
 rintro e w2 ⟨n, vu, vv, st, sd, vy, l, r, rfl, hOu, hOv, hu5, hv5, hOy, hl7, hL⟩
 have hz2 : w1.heap.size ≤ w2.heap.size := qsz hL.size
 have hD2 : Drawn w w2 k := Drawn.later qdh hL
 have hS2 : Src w2 k c := Src.later qsh hL
 have HK0_2 := Lib.hid (hL.keep (k := w.heap.size) qkh)
 have HK1_2 := Lib.hid (hL.keep (k := w.heap.size + 1) qkh)
 have HK2_2 := Lib.hid (hL.keep (k := w.heap.size + 1 + 1) qkh)
 clear hL c0 f0 c1 f1 c2 f2
 obtain ⟨c0, f0, z0_2⟩ := blk_at HK0_2.out
 obtain ⟨c1, f1, z1_2⟩ := blk_at HK1_2.out
 obtain ⟨c2, f2, z2_2⟩ := blk_at HK2_2.out
 obtain ⟨au, capu, rfl⟩ := isSl_of hOu
 have HOu_2 := Lib.hid (owns_base (base' := w1.heap.size) hOu (by first | omega | (simp; omega)))
 clear hOu
 obtain ⟨av, capv, rfl⟩ := isSl_of hOv
 have HOv_2 := Lib.hid (owns_base (base' := w1.heap.size) hOv (by first | omega | (simp; omega)))
 clear hOv
 obtain ⟨ay, capy, rfl⟩ := isSl_of hOy
 have HOy_2 := Lib.hid (owns_base (base' := w1.heap.size) hOy (by first | omega | (simp; omega)))
 clear hOy
 have hnu6 := ne_own (k := w2.heap.size) HOu_2.out (by omega)
 have hnv6 := ne_own (k := w2.heap.size) HOv_2.out (by omega)
 have hny6 := ne_own (k := w2.heap.size) HOy_2.out (by omega)
 have hnu8 := ne_own (k := w2.heap.size + 1) HOu_2.out (by omega)
 have hnv8 := ne_own (k := w2.heap.size + 1) HOv_2.out (by omega)
 have hny8 := ne_own (k := w2.heap.size + 1) HOy_2.out (by omega)
 go_wp2_with fail
 refine (w_specResultOf n _ _ _ st sd l _ (reads_of_owns (qoh HOu_2) (by omega)) (reads_of_owns (qoh HOv_2) (by omega)) (reads_of_owns (qoh HOy_2) (by omega))).mono ?_
 rintro e w3 ⟨rfl, hL⟩
 have hz3 : w2.heap.size ≤ w3.heap.size := qsz hL.size
 have hD3 : Drawn w w3 k := Drawn.later qdh hL
 have hS3 : Src w3 k c := Src.later qsh hL
 have HK0_3 := Lib.hid (hL.keep (k := w.heap.size) qkh)
 have HK1_3 := Lib.hid (hL.keep (k := w.heap.size + 1) qkh)
 have HK2_3 := Lib.hid (hL.keep (k := w.heap.size + 1 + 1) qkh)
 have HK6_3 := Lib.hid (hL.keep (k := w2.heap.size) qkh)
 have HK8_3 := Lib.hid (hL.keep (k := w2.heap.size + 1) qkh)
 have HOu_3 := Lib.hid (owns_later (qoh HOu_2) hL)
 have HOv_3 := Lib.hid (owns_later (qoh HOv_2) hL)
 have HOy_3 := Lib.hid (owns_later (qoh HOy_2) hL)
 clear hL c0 f0 c1 f1 c2 f2
 obtain ⟨c0, f0, z0_3⟩ := blk_at HK0_3.out
 obtain ⟨c1, f1, z1_3⟩ := blk_at HK1_3.out
 obtain ⟨c2, f2, z2_3⟩ := blk_at HK2_3.out
 obtain ⟨c6, f6, z6_3⟩ := blk_at HK6_3.out
 obtain ⟨c8, f8, z8_3⟩ := blk_at HK8_3.out
 have hnu10 := ne_own (k := w3.heap.size) HOu_3.out (by omega)
 have hnv10 := ne_own (k := w3.heap.size) HOv_3.out (by omega)
 have hny10 := ne_own (k := w3.heap.size) HOy_3.out (by omega)
 by_cases hc : codePlan ⟨n, st, sd⟩ l = 0
 rotate_left
 · skip
   have hcb : (codePlan ⟨n, st, sd⟩ l != 0) = true := by simpa using hc
   go_wp2_with fail
   have hD0 : Drawn w (w3.alloc (.cells #[.int .i64 (resF ⟨n, st, sd⟩ l).d, .int .i64 (resF ⟨n, st, sd⟩ l).t] 46)) k := qdh
   have hS0 : Src (w3.alloc (.cells #[.int .i64 (resF ⟨n, st, sd⟩ l).d, .int .i64 (resF ⟨n, st, sd⟩ l).t] 46)) k c := qsh
   have Q6 : (w3.alloc (.cells #[.int .i64 (resF ⟨n, st, sd⟩ l).d, .int .i64 (resF ⟨n, st, sd⟩ l).t] 46)).heap[w2.heap.size]? = some (.cells #[.int .i64 n, .slice au st.length capu, .slice av sd.length capv] 26 (0, 0)) := qkh
   have Q8 : (w3.alloc (.cells #[.int .i64 (resF ⟨n, st, sd⟩ l).d, .int .i64 (resF ⟨n, st, sd⟩ l).t] 46)).heap[w2.heap.size + 1]? = some (.cells #[.int .i64 r.en, .int .i64 r.pa, .int .i64 r.ey] 60 (0, 0)) := qkh
   have Q10 : (w3.alloc (.cells #[.int .i64 (resF ⟨n, st, sd⟩ l).d, .int .i64 (resF ⟨n, st, sd⟩ l).t] 46)).heap[w3.heap.size]? = some (.cells #[.int .i64 (resF ⟨n, st, sd⟩ l).d, .int .i64 (resF ⟨n, st, sd⟩ l).t] 46 (0, 0)) := qkh
   have Q0 : (w3.alloc (.cells #[.int .i64 (resF ⟨n, st, sd⟩ l).d, .int .i64 (resF ⟨n, st, sd⟩ l).t] 46)).heap[w.heap.size]? = some (.cells #[.int .i64 0, .slice none 0 0, .slice none 0 0] 26 (0, 0)) := qkh
   have Q1 : (w3.alloc (.cells #[.int .i64 (resF ⟨n, st, sd⟩ l).d, .int .i64 (resF ⟨n, st, sd⟩ l).t] 46)).heap[w.heap.size + 1]? = some (.cells #[.int .i64 0, .int .i64 0, .int .i64 0] 60 (0, 0)) := qkh
   have Q2 : (w3.alloc (.cells #[.int .i64 (resF ⟨n, st, sd⟩ l).d, .int .i64 (resF ⟨n, st, sd⟩ l).t] 46)).heap[w.heap.size + 1 + 1]? = some (.cells #[.int .i64 0, .int .i64 0] 46 (0, 0)) := qkh
   have Qu : (w3.alloc (.cells #[.int .i64 (resF ⟨n, st, sd⟩ l).d, .int .i64 (resF ⟨n, st, sd⟩ l).t] 46)).ownsRow w1.heap.size 2 1 (.slice au st.length capu) st.length (nums st) := (qoh HOu_3)
   have Qv : (w3.alloc (.cells #[.int .i64 (resF ⟨n, st, sd⟩ l).d, .int .i64 (resF ⟨n, st, sd⟩ l).t] 46)).ownsRow w1.heap.size 2 1 (.slice av sd.length capv) sd.length (nums sd) := (qoh HOv_3)
   have Qy : (w3.alloc (.cells #[.int .i64 (resF ⟨n, st, sd⟩ l).d, .int .i64 (resF ⟨n, st, sd⟩ l).t] 46)).ownsRow w1.heap.size 93 3 (.slice ay l.length capy) l.length (trms l) := (qoh HOy_3)
   have hnu0 := ne_low (k := w.heap.size) Qu (by omega)
   have hnu1 := ne_low (k := w.heap.size + 1) Qu (by omega)
   have hnu2 := ne_low (k := w.heap.size + 1 + 1) Qu (by omega)
   have hnv0 := ne_low (k := w.heap.size) Qv (by omega)
   have hnv1 := ne_low (k := w.heap.size + 1) Qv (by omega)
   have hnv2 := ne_low (k := w.heap.size + 1 + 1) Qv (by omega)
   have hny0 := ne_low (k := w.heap.size) Qy (by omega)
   have hny1 := ne_low (k := w.heap.size + 1) Qy (by omega)
   have hny2 := ne_low (k := w.heap.size + 1 + 1) Qy (by omega)
   clear c0 f0 c1 f1 c2 f2 c6 f6 c8 f8
   refine region_slots 50 [33, 34, 35, 36, 37, 3] (fun g ac wc => sl ac 2 = .pointer (some ⟨w.heap.size, 0, none⟩) ∧
    sl ac 4 = .pointer (some ⟨w.heap.size + 1, 0, none⟩) ∧
    sl ac 5 = .pointer (some ⟨w.heap.size + 1 + 1, 0, none⟩) ∧
    sl ac 6 = .pointer (some ⟨k, 0, none⟩) ∧
    sl ac 7 = .pointer (some ⟨w2.heap.size, 0, none⟩) ∧
    sl ac 8 = .slice ay l.length capy ∧
    sl ac 9 = .pointer (some ⟨w2.heap.size + 1, 0, none⟩) ∧
    sl ac 10 = .pointer (some ⟨w3.heap.size, 0, none⟩) ∧
    (g 0 = true → (sl ac 33) = .agg #[.int .i64 n, .slice au st.length capu, .slice av sd.length capv]) ∧
    (g 1 = true → (sl ac 34) = .slice ay l.length capy) ∧
    (g 2 = true → (sl ac 35) = .agg #[.int .i64 r.en, .int .i64 r.pa, .int .i64 r.ey]) ∧
    (g 3 = true → (sl ac 36) = .pointer (some ⟨k, 0, none⟩)) ∧
    (g 4 = true → ∃ f : Fig, (sl ac 37) = .agg #[.int .i64 f.d, .int .i64 f.t]) ∧
    (g 6 = true → (sl ac 3) = .slice ay l.length capy) ∧
    Drawn w wc k ∧
    Src wc k c ∧
    wc.ownsRow w1.heap.size 2 1 (.slice au st.length capu) st.length (nums st) ∧
    wc.ownsRow w1.heap.size 2 1 (.slice av sd.length capv) sd.length (nums sd) ∧
    wc.ownsRow w1.heap.size 93 3 (.slice ay l.length capy) l.length (trms l) ∧
    wc.heap[w2.heap.size]? = some (.cells #[.int .i64 n, .slice au st.length capu, .slice av sd.length capv] 26 (0, 0)) ∧
    wc.heap[w2.heap.size + 1]? = some (.cells #[.int .i64 r.en, .int .i64 r.pa, .int .i64 r.ey] 60 (0, 0)) ∧
    wc.heap[w3.heap.size]? = some (.cells #[.int .i64 (resF ⟨n, st, sd⟩ l).d, .int .i64 (resF ⟨n, st, sd⟩ l).t] 46 (0, 0)) ∧
    (g 5 = false → wc.heap[w.heap.size]? = some (.cells #[.int .i64 0, .slice none 0 0, .slice none 0 0] 26 (0, 0))) ∧
    (g 5 = true → wc.heap[w.heap.size]? = some (.cells #[.int .i64 n, .slice au st.length capu, .slice av sd.length capv] 26 (0, 0))) ∧
    (g 7 = false → wc.heap[w.heap.size + 1]? = some (.cells #[.int .i64 0, .int .i64 0, .int .i64 0] 60 (0, 0))) ∧
    (g 7 = true → wc.heap[w.heap.size + 1]? = some (.cells #[.int .i64 r.en, .int .i64 r.pa, .int .i64 r.ey] 60 (0, 0))) ∧
    (g 8 = false → wc.heap[w.heap.size + 1 + 1]? = some (.cells #[.int .i64 0, .int .i64 0] 46 (0, 0))) ∧
    (g 8 = true → ∃ m : Fig, wc.heap[w.heap.size + 1 + 1]? = some (.cells #[.int .i64 m.d, .int .i64 m.t] 46 (0, 0))) ∧
    (g 4 = true → g 3 = true) ∧
    (g 5 = true → g 0 = true) ∧
    (g 6 = true → g 1 = true) ∧
    (g 7 = true → g 2 = true) ∧
    (g 8 = true → g 4 = true)) (by kernel_rfl) (by kernel_rfl) rfl (by kernel_rfl) ?_ ?_ ?_
   · exact ⟨rfl, rfl, rfl, rfl, rfl, rfl, rfl, rfl, nofun, nofun, nofun, nofun, nofun, nofun, hD0.drew, hS0.drew, owns_later Qu (Later.refl _).drew, owns_later Qv (Later.refl _).drew, owns_later Qy (Later.refl _).drew, Q6, Q8, Q10, fun _ => Q0, nofun, fun _ => Q1, nofun, fun _ => Q2, nofun, nofun, nofun, nofun, nofun, nofun⟩
   · intro g ac wu hg ha hI
     obtain ⟨xi2, xi4, xi5, xi6, xi7, xi8, xi9, xi10, i0, i1, i2, i3, i4, i6, hD, hS, Ou, Ov, Oy, B6, B8, B10, -, N0, -, N1, -, N2, -, -, -, -, -⟩ := hI
     obtain e0 := i0 (hg 0 (by simp))
     obtain e1 := i1 (hg 1 (by simp))
     obtain e2 := i2 (hg 2 (by simp))
     obtain e3 := i3 (hg 3 (by simp))
     obtain ⟨fd4, e4⟩ := i4 (hg 4 (by simp))
     obtain e6 := i6 (hg 6 (by simp))
     replace N0 := N0 (hg 5 (by simp))
     replace N1 := N1 (hg 7 (by simp))
     replace N2 := N2 (hg 8 (by simp))
     obtain ⟨mf, N2⟩ := N2
     simp only [putAll, e0, e1, e2, e3, e4, e6] at ha
     simp only [Act.put, List.setIfInBounds_toArray, List.set_cons_succ, List.set_cons_zero] at ha
     rw [ha]
     clear xi2 xi4 xi5 xi6 xi7 xi8 xi9 xi10 i0 i1 i2 i3 i4 i6 e0 e1 e2 e3 e4 e6 hg ha
     have hc0 := (blk_at N0).1
     have hz0' := (blk_at N0).2.2
     have hc1 := (blk_at N1).1
     have hz1' := (blk_at N1).2.2
     have hc2 := (blk_at N2).1
     have hz2' := (blk_at N2).2.2
     have HDu := Lib.hid hD
     have HUu := Lib.hid Ou
     have HVu := Lib.hid Ov
     have HYu := Lib.hid Oy
     clear hD hS Ou Ov Oy B6 B8 B10 N0 N1 N2
     go_wp2
     refine bodyPost_ret (v := .tuple #[.agg #[.int .i64 n, .slice au st.length capu, .slice av sd.length capv], .slice ay l.length capy, .agg #[.int .i64 r.en, .int .i64 r.pa, .int .i64 r.ey], .agg #[.int .i64 mf.d, .int .i64 mf.t]]) (by simp [results, Tryz.results49, go_sem, hc0, hz0', hc1, hz1', hc2, hz2']) rfl ⟨n, _, _, st, sd, _, l, r, mf, rfl, owns_base HUu.out (by omega), owns_base HVu.out (by omega), hu5, hv5, owns_base HYu.out (by omega), hl7, Later.drawn (k := k) (Later.refl w) (by omega) HDu.out⟩
   · refine .cons ?_ (.cons ?_ (.cons ?_ (.cons ?_ (.cons ?_ (.cons ?_ (.cons ?_ (.cons ?_ (.cons ?_ .nil))))))))
     · refine qst fun g ac wc hn hk hr HI K' hK => ?_
       obtain ⟨xi2, xi4, xi5, xi6, xi7, xi8, xi9, xi10, -, -, -, -, -, -, hD, hS, Ou, Ov, Oy, B6, B8, B10, R0, N0, R1, N1, R2, N2, m4_3, m5_0, m6_1, m7_2, m8_4⟩ := HI.out
       simp [Region.binds] at hr
       have zi7 := sl_get xi7 (by omega)
       obtain ⟨cb, fb, zb⟩ := blk_at B6
       go_simp
       obtain ⟨-, -, -, -, -, -, -, -, i0, i1, i2, i3, i4, i6, -⟩ := HI.out
       exact hK.out _ _ ⟨qB xi2, qB xi4, qB xi5, qB xi6, qB xi7, qB xi8, qB xi9, qB xi10, qP, (fun h => by rw [put_ne (by decide)]; exact i1 h), (fun h => by rw [put_ne (by decide)]; exact i2 h), (fun h => by rw [put_ne (by decide)]; exact i3 h), (fun h => by rw [put_ne (by decide)]; exact i4 h), (fun h => by rw [put_ne (by decide)]; exact i6 h), hD, hS, Ou, Ov, Oy, B6, B8, B10, (fun h => (R0 h)), (fun h => N0 h), (fun h => (R1 h)), (fun h => N1 h), (fun h => (R2 h)), (fun h => N2 h), m4_3, (fun _ => rfl), m6_1, m7_2, m8_4⟩
     · refine qst fun g ac wc hn hk hr HI K' hK => ?_
       obtain ⟨xi2, xi4, xi5, xi6, xi7, xi8, xi9, xi10, -, -, -, -, -, -, hD, hS, Ou, Ov, Oy, B6, B8, B10, R0, N0, R1, N1, R2, N2, m4_3, m5_0, m6_1, m7_2, m8_4⟩ := HI.out
       simp [Region.binds] at hr
       have zi8 := sl_get xi8 (by omega)
       go_simp
       obtain ⟨-, -, -, -, -, -, -, -, i0, i1, i2, i3, i4, i6, -⟩ := HI.out
       exact hK.out _ _ ⟨qB xi2, qB xi4, qB xi5, qB xi6, qB xi7, qB xi8, qB xi9, qB xi10, (fun h => by rw [put_ne (by decide)]; exact i0 h), qP, (fun h => by rw [put_ne (by decide)]; exact i2 h), (fun h => by rw [put_ne (by decide)]; exact i3 h), (fun h => by rw [put_ne (by decide)]; exact i4 h), (fun h => absurd (m6_1 h) (by rw [hk]; simp)), hD, hS, Ou, Ov, Oy, B6, B8, B10, (fun h => (R0 h)), (fun h => N0 h), (fun h => (R1 h)), (fun h => N1 h), (fun h => (R2 h)), (fun h => N2 h), m4_3, m5_0, (fun _ => rfl), m7_2, m8_4⟩
     · refine qst fun g ac wc hn hk hr HI K' hK => ?_
       obtain ⟨xi2, xi4, xi5, xi6, xi7, xi8, xi9, xi10, -, -, -, -, -, -, hD, hS, Ou, Ov, Oy, B6, B8, B10, R0, N0, R1, N1, R2, N2, m4_3, m5_0, m6_1, m7_2, m8_4⟩ := HI.out
       simp [Region.binds] at hr
       have zi9 := sl_get xi9 (by omega)
       obtain ⟨cb, fb, zb⟩ := blk_at B8
       go_simp
       obtain ⟨-, -, -, -, -, -, -, -, i0, i1, i2, i3, i4, i6, -⟩ := HI.out
       exact hK.out _ _ ⟨qB xi2, qB xi4, qB xi5, qB xi6, qB xi7, qB xi8, qB xi9, qB xi10, (fun h => by rw [put_ne (by decide)]; exact i0 h), (fun h => by rw [put_ne (by decide)]; exact i1 h), qP, (fun h => by rw [put_ne (by decide)]; exact i3 h), (fun h => by rw [put_ne (by decide)]; exact i4 h), (fun h => by rw [put_ne (by decide)]; exact i6 h), hD, hS, Ou, Ov, Oy, B6, B8, B10, (fun h => (R0 h)), (fun h => N0 h), (fun h => (R1 h)), (fun h => N1 h), (fun h => (R2 h)), (fun h => N2 h), m4_3, m5_0, m6_1, (fun _ => rfl), m8_4⟩
     · refine qst fun g ac wc hn hk hr HI K' hK => ?_
       obtain ⟨xi2, xi4, xi5, xi6, xi7, xi8, xi9, xi10, -, -, -, -, -, -, hD, hS, Ou, Ov, Oy, B6, B8, B10, R0, N0, R1, N1, R2, N2, m4_3, m5_0, m6_1, m7_2, m8_4⟩ := HI.out
       simp [Region.binds] at hr
       have zi6 := sl_get xi6 (by omega)
       go_simp
       obtain ⟨-, -, -, -, -, -, -, -, i0, i1, i2, i3, i4, i6, -⟩ := HI.out
       exact hK.out _ _ ⟨qB xi2, qB xi4, qB xi5, qB xi6, qB xi7, qB xi8, qB xi9, qB xi10, (fun h => by rw [put_ne (by decide)]; exact i0 h), (fun h => by rw [put_ne (by decide)]; exact i1 h), (fun h => by rw [put_ne (by decide)]; exact i2 h), qP, (fun h => absurd (m4_3 h) (by rw [hk]; simp)), (fun h => by rw [put_ne (by decide)]; exact i6 h), hD, hS, Ou, Ov, Oy, B6, B8, B10, (fun h => (R0 h)), (fun h => N0 h), (fun h => (R1 h)), (fun h => N1 h), (fun h => (R2 h)), (fun h => N2 h), (fun _ => rfl), m5_0, m6_1, m7_2, m8_4⟩
     · refine qst fun g ac wc hn hk hr HI K' hK => ?_
       obtain ⟨xi2, xi4, xi5, xi6, xi7, xi8, xi9, xi10, -, -, -, i3, -, -, hD, hS, Ou, Ov, Oy, B6, B8, B10, R0, N0, R1, N1, R2, N2, m4_3, m5_0, m6_1, m7_2, m8_4⟩ := HI.out
       simp [Region.binds] at hr
       have g3 : g 3 = true := (by simp [hr])
       obtain y3 := i3 g3
       have z3 := sl_get y3 (by omega)
       clear i3
       go_simp
       refine (w_l02Draw k c _ hS).mono ?_
       rintro e w4 ⟨f, rfl, hD4, hS4⟩
       obtain ⟨-, -, -, -, -, -, -, -, i0, i1, i2, i3, i4, i6, -⟩ := HI.out
       exact hK.out _ _ ⟨qB xi2, qB xi4, qB xi5, qB xi6, qB xi7, qB xi8, qB xi9, qB xi10, (fun h => by rw [put_ne (by decide)]; exact i0 h), (fun h => by rw [put_ne (by decide)]; exact i1 h), (fun h => by rw [put_ne (by decide)]; exact i2 h), (fun h => by rw [put_ne (by decide)]; exact i3 h), (fun _ => ⟨_, put_eq (by omega)⟩), (fun h => by rw [put_ne (by decide)]; exact i6 h), (hD.trans hD4), hS4, (hD4.owns Ou (by omega)), (hD4.owns Ov (by omega)), (hD4.owns Oy (by omega)), (hD4.keep B6 (by omega)), (hD4.keep B8 (by omega)), (hD4.keep B10 (by omega)), (fun h => (hD4.keep (R0 h) (by omega))), (fun h => (hD4.keep (N0 h) (by omega))), (fun h => (hD4.keep (R1 h) (by omega))), (fun h => (hD4.keep (N1 h) (by omega))), (fun h => (hD4.keep (R2 h) (by omega))), (fun h => absurd (m8_4 h) (by rw [hk]; simp)), (fun _ => g3), m5_0, m6_1, m7_2, (fun _ => rfl)⟩
     · refine qst fun g ac wc hn hk hr HI K' hK => ?_
       obtain ⟨xi2, xi4, xi5, xi6, xi7, xi8, xi9, xi10, i0, -, -, -, -, -, hD, hS, Ou, Ov, Oy, B6, B8, B10, R0, N0, R1, N1, R2, N2, m4_3, m5_0, m6_1, m7_2, m8_4⟩ := HI.out
       simp [Region.binds] at hr
       have g0 : g 0 = true := (by simp [hr])
       obtain y0 := i0 g0
       have z0 := sl_get y0 (by omega)
       have zi2 := sl_get xi2 (by omega)
       have hst := hk
       have hbb := blk_at (R0 hst)
       have cb := hbb.1
       have fb := hbb.2.1
       have zb := hbb.2.2
       clear hbb
       clear i0
       go_simp
       obtain ⟨-, -, -, -, -, -, -, -, i0, i1, i2, i3, i4, i6, -⟩ := HI.out
       exact hK.out undef _ ⟨xi2, xi4, xi5, xi6, xi7, xi8, xi9, xi10, (fun h => i0 h), (fun h => i1 h), (fun h => i2 h), (fun h => i3 h), (fun h => i4 h), (fun h => i6 h), (((hD.setCell (by omega) _ _).setCell (by omega) _ _).setCell (by omega) _ _), (((hS.setLow (hAc.mono fun b hb => by omega) (by omega) _ _).setLow (hAc.mono fun b hb => by omega) (by omega) _ _).setLow (hAc.mono fun b hb => by omega) (by omega) _ _), (owns_setNe (owns_setNe (owns_setNe Ou (by assumption) _ _) (by assumption) _ _) (by assumption) _ _), (owns_setNe (owns_setNe (owns_setNe Ov (by assumption) _ _) (by assumption) _ _) (by assumption) _ _), (owns_setNe (owns_setNe (owns_setNe Oy (by assumption) _ _) (by assumption) _ _) (by assumption) _ _), (other_set (other_set (other_set B6 (by omega) _) (by omega) _) (by omega) _), (other_set (other_set (other_set B8 (by omega) _) (by omega) _) (by omega) _), (other_set (other_set (other_set B10 (by omega) _) (by omega) _) (by omega) _), (fun h => absurd h (by simp)), (fun _ => st_2_3 (st_1_3 (st_0_3 (R0 hk) _) _) _), (fun h => (other_set (other_set (other_set (R1 h) (by omega) _) (by omega) _) (by omega) _)), (fun h => (other_set (other_set (other_set (N1 h) (by omega) _) (by omega) _) (by omega) _)), (fun h => (other_set (other_set (other_set (R2 h) (by omega) _) (by omega) _) (by omega) _)), (fun h => by obtain ⟨q0, qq⟩ := N2 h; exact ⟨q0, (other_set (other_set (other_set qq (by omega) _) (by omega) _) (by omega) _)⟩), m4_3, (fun _ => g0), m6_1, m7_2, m8_4⟩
     · refine qst fun g ac wc hn hk hr HI K' hK => ?_
       obtain ⟨xi2, xi4, xi5, xi6, xi7, xi8, xi9, xi10, -, i1, -, -, -, -, hD, hS, Ou, Ov, Oy, B6, B8, B10, R0, N0, R1, N1, R2, N2, m4_3, m5_0, m6_1, m7_2, m8_4⟩ := HI.out
       simp [Region.binds] at hr
       have g1 : g 1 = true := (by simp [hr])
       obtain y1 := i1 g1
       have z1 := sl_get y1 (by omega)
       clear i1
       go_simp
       obtain ⟨-, -, -, -, -, -, -, -, i0, i1, i2, i3, i4, i6, -⟩ := HI.out
       exact hK.out _ _ ⟨qB xi2, qB xi4, qB xi5, qB xi6, qB xi7, qB xi8, qB xi9, qB xi10, (fun h => by rw [put_ne (by decide)]; exact i0 h), (fun h => by rw [put_ne (by decide)]; exact i1 h), (fun h => by rw [put_ne (by decide)]; exact i2 h), (fun h => by rw [put_ne (by decide)]; exact i3 h), (fun h => by rw [put_ne (by decide)]; exact i4 h), qP, hD, hS, Ou, Ov, Oy, B6, B8, B10, (fun h => (R0 h)), (fun h => N0 h), (fun h => (R1 h)), (fun h => N1 h), (fun h => (R2 h)), (fun h => N2 h), m4_3, m5_0, (fun _ => g1), m7_2, m8_4⟩
     · refine qst fun g ac wc hn hk hr HI K' hK => ?_
       obtain ⟨xi2, xi4, xi5, xi6, xi7, xi8, xi9, xi10, -, -, i2, -, -, -, hD, hS, Ou, Ov, Oy, B6, B8, B10, R0, N0, R1, N1, R2, N2, m4_3, m5_0, m6_1, m7_2, m8_4⟩ := HI.out
       simp [Region.binds] at hr
       have g2 : g 2 = true := (by simp [hr])
       obtain y2 := i2 g2
       have z2 := sl_get y2 (by omega)
       have zi4 := sl_get xi4 (by omega)
       have hst := hk
       have hbb := blk_at (R1 hst)
       have cb := hbb.1
       have fb := hbb.2.1
       have zb := hbb.2.2
       clear hbb
       clear i2
       go_simp
       obtain ⟨-, -, -, -, -, -, -, -, i0, i1, i2, i3, i4, i6, -⟩ := HI.out
       exact hK.out undef _ ⟨xi2, xi4, xi5, xi6, xi7, xi8, xi9, xi10, (fun h => i0 h), (fun h => i1 h), (fun h => i2 h), (fun h => i3 h), (fun h => i4 h), (fun h => i6 h), (((hD.setCell (by omega) _ _).setCell (by omega) _ _).setCell (by omega) _ _), (((hS.setLow (hAc.mono fun b hb => by omega) (by omega) _ _).setLow (hAc.mono fun b hb => by omega) (by omega) _ _).setLow (hAc.mono fun b hb => by omega) (by omega) _ _), (owns_setNe (owns_setNe (owns_setNe Ou (by assumption) _ _) (by assumption) _ _) (by assumption) _ _), (owns_setNe (owns_setNe (owns_setNe Ov (by assumption) _ _) (by assumption) _ _) (by assumption) _ _), (owns_setNe (owns_setNe (owns_setNe Oy (by assumption) _ _) (by assumption) _ _) (by assumption) _ _), (other_set (other_set (other_set B6 (by omega) _) (by omega) _) (by omega) _), (other_set (other_set (other_set B8 (by omega) _) (by omega) _) (by omega) _), (other_set (other_set (other_set B10 (by omega) _) (by omega) _) (by omega) _), (fun h => (other_set (other_set (other_set (R0 h) (by omega) _) (by omega) _) (by omega) _)), (fun h => (other_set (other_set (other_set (N0 h) (by omega) _) (by omega) _) (by omega) _)), (fun h => absurd h (by simp)), (fun _ => st_2_3 (st_1_3 (st_0_3 (R1 hk) _) _) _), (fun h => (other_set (other_set (other_set (R2 h) (by omega) _) (by omega) _) (by omega) _)), (fun h => by obtain ⟨q0, qq⟩ := N2 h; exact ⟨q0, (other_set (other_set (other_set qq (by omega) _) (by omega) _) (by omega) _)⟩), m4_3, m5_0, m6_1, (fun _ => g2), m8_4⟩
     · refine qst fun g ac wc hn hk hr HI K' hK => ?_
       obtain ⟨xi2, xi4, xi5, xi6, xi7, xi8, xi9, xi10, -, -, -, -, i4, -, hD, hS, Ou, Ov, Oy, B6, B8, B10, R0, N0, R1, N1, R2, N2, m4_3, m5_0, m6_1, m7_2, m8_4⟩ := HI.out
       simp [Region.binds] at hr
       have g4 : g 4 = true := (by simp [hr])
       obtain ⟨f4, y4⟩ := i4 g4
       have z4 := sl_get y4 (by omega)
       have zi5 := sl_get xi5 (by omega)
       have hst := hk
       have hbb := blk_at (R2 hst)
       have cb := hbb.1
       have fb := hbb.2.1
       have zb := hbb.2.2
       clear hbb
       clear i4
       go_simp
       obtain ⟨-, -, -, -, -, -, -, -, i0, i1, i2, i3, i4, i6, -⟩ := HI.out
       exact hK.out undef _ ⟨xi2, xi4, xi5, xi6, xi7, xi8, xi9, xi10, (fun h => i0 h), (fun h => i1 h), (fun h => i2 h), (fun h => i3 h), (fun h => i4 h), (fun h => i6 h), ((hD.setCell (by omega) _ _).setCell (by omega) _ _), ((hS.setLow (hAc.mono fun b hb => by omega) (by omega) _ _).setLow (hAc.mono fun b hb => by omega) (by omega) _ _), (owns_setNe (owns_setNe Ou (by assumption) _ _) (by assumption) _ _), (owns_setNe (owns_setNe Ov (by assumption) _ _) (by assumption) _ _), (owns_setNe (owns_setNe Oy (by assumption) _ _) (by assumption) _ _), (other_set (other_set B6 (by omega) _) (by omega) _), (other_set (other_set B8 (by omega) _) (by omega) _), (other_set (other_set B10 (by omega) _) (by omega) _), (fun h => (other_set (other_set (R0 h) (by omega) _) (by omega) _)), (fun h => (other_set (other_set (N0 h) (by omega) _) (by omega) _)), (fun h => (other_set (other_set (R1 h) (by omega) _) (by omega) _)), (fun h => (other_set (other_set (N1 h) (by omega) _) (by omega) _)), (fun h => absurd h (by simp)), (fun _ => ⟨_, st_1_2 (st_0_2 (R2 hk) _) _⟩), m4_3, m5_0, m6_1, m7_2, (fun _ => g4)⟩
 have hcb : (codePlan ⟨n, st, sd⟩ l != 0) = false := by simpa using hc
 obtain ⟨hd1, hd2⟩ := resF_d hc
 go_wp2_with fail
 refine (w_l01Next k c 3 _ qsh).mono ?_
 rintro e w4 ⟨x4, rfl, x4a, x4b, hD, hS4⟩
 have hz4 : w3.heap.size ≤ w4.heap.size := qsz hD.size
 have hD4 : Drawn w w4 k := Drawn.trans qdh hD
 have HK0_4 := Lib.hid (hD.keep (j := w.heap.size) qkh (by omega))
 have HK1_4 := Lib.hid (hD.keep (j := w.heap.size + 1) qkh (by omega))
 have HK2_4 := Lib.hid (hD.keep (j := w.heap.size + 1 + 1) qkh (by omega))
 have HK6_4 := Lib.hid (hD.keep (j := w2.heap.size) qkh (by omega))
 have HK8_4 := Lib.hid (hD.keep (j := w2.heap.size + 1) qkh (by omega))
 have HK10_4 := Lib.hid (hD.keep (j := w3.heap.size) qkh (by omega))
 have HOu_4 := Lib.hid (hD.owns (qoh HOu_3) (by omega))
 have HOv_4 := Lib.hid (hD.owns (qoh HOv_3) (by omega))
 have HOy_4 := Lib.hid (hD.owns (qoh HOy_3) (by omega))
 clear hD c0 f0 c1 f1 c2 f2 c6 f6 c8 f8
 obtain ⟨c0, f0, z0_4⟩ := blk_at HK0_4.out
 obtain ⟨c1, f1, z1_4⟩ := blk_at HK1_4.out
 obtain ⟨c2, f2, z2_4⟩ := blk_at HK2_4.out
 obtain ⟨c6, f6, z6_4⟩ := blk_at HK6_4.out
 obtain ⟨c8, f8, z8_4⟩ := blk_at HK8_4.out
 obtain ⟨c10, f10, z10_4⟩ := blk_at HK10_4.out
 by_cases hq : x4 = 0
 · skip
   obtain rfl := hq
   go_wp2_with fail
   have hD0 : Drawn w w4 k := qdh
   have hS0 : Src w4 k c := qsh
   have Q6 : w4.heap[w2.heap.size]? = some (.cells #[.int .i64 n, .slice au st.length capu, .slice av sd.length capv] 26 (0, 0)) := qkh
   have Q8 : w4.heap[w2.heap.size + 1]? = some (.cells #[.int .i64 r.en, .int .i64 r.pa, .int .i64 r.ey] 60 (0, 0)) := qkh
   have Q10 : w4.heap[w3.heap.size]? = some (.cells #[.int .i64 (resF ⟨n, st, sd⟩ l).d, .int .i64 (resF ⟨n, st, sd⟩ l).t] 46 (0, 0)) := qkh
   have Q0 : w4.heap[w.heap.size]? = some (.cells #[.int .i64 0, .slice none 0 0, .slice none 0 0] 26 (0, 0)) := qkh
   have Q1 : w4.heap[w.heap.size + 1]? = some (.cells #[.int .i64 0, .int .i64 0, .int .i64 0] 60 (0, 0)) := qkh
   have Q2 : w4.heap[w.heap.size + 1 + 1]? = some (.cells #[.int .i64 0, .int .i64 0] 46 (0, 0)) := qkh
   have Qu : w4.ownsRow w1.heap.size 2 1 (.slice au st.length capu) st.length (nums st) := (qoh HOu_4)
   have Qv : w4.ownsRow w1.heap.size 2 1 (.slice av sd.length capv) sd.length (nums sd) := (qoh HOv_4)
   have Qy : w4.ownsRow w1.heap.size 93 3 (.slice ay l.length capy) l.length (trms l) := (qoh HOy_4)
   have hnu0 := ne_low (k := w.heap.size) Qu (by omega)
   have hnu1 := ne_low (k := w.heap.size + 1) Qu (by omega)
   have hnu2 := ne_low (k := w.heap.size + 1 + 1) Qu (by omega)
   have hnv0 := ne_low (k := w.heap.size) Qv (by omega)
   have hnv1 := ne_low (k := w.heap.size + 1) Qv (by omega)
   have hnv2 := ne_low (k := w.heap.size + 1 + 1) Qv (by omega)
   have hny0 := ne_low (k := w.heap.size) Qy (by omega)
   have hny1 := ne_low (k := w.heap.size + 1) Qy (by omega)
   have hny2 := ne_low (k := w.heap.size + 1 + 1) Qy (by omega)
   clear c0 f0 c1 f1 c2 f2 c6 f6 c8 f8 c10 f10
   refine region_slots 50 [33, 34, 35, 36, 37, 3] (fun g ac wc => sl ac 2 = .pointer (some ⟨w.heap.size, 0, none⟩) ∧
    sl ac 4 = .pointer (some ⟨w.heap.size + 1, 0, none⟩) ∧
    sl ac 5 = .pointer (some ⟨w.heap.size + 1 + 1, 0, none⟩) ∧
    sl ac 6 = .pointer (some ⟨k, 0, none⟩) ∧
    sl ac 7 = .pointer (some ⟨w2.heap.size, 0, none⟩) ∧
    sl ac 8 = .slice ay l.length capy ∧
    sl ac 9 = .pointer (some ⟨w2.heap.size + 1, 0, none⟩) ∧
    sl ac 10 = .pointer (some ⟨w3.heap.size, 0, none⟩) ∧
    (g 0 = true → (sl ac 33) = .agg #[.int .i64 n, .slice au st.length capu, .slice av sd.length capv]) ∧
    (g 1 = true → (sl ac 34) = .slice ay l.length capy) ∧
    (g 2 = true → (sl ac 35) = .agg #[.int .i64 r.en, .int .i64 r.pa, .int .i64 r.ey]) ∧
    (g 3 = true → (sl ac 36) = .pointer (some ⟨k, 0, none⟩)) ∧
    (g 4 = true → ∃ f : Fig, (sl ac 37) = .agg #[.int .i64 f.d, .int .i64 f.t]) ∧
    (g 6 = true → (sl ac 3) = .slice ay l.length capy) ∧
    Drawn w wc k ∧
    Src wc k c ∧
    wc.ownsRow w1.heap.size 2 1 (.slice au st.length capu) st.length (nums st) ∧
    wc.ownsRow w1.heap.size 2 1 (.slice av sd.length capv) sd.length (nums sd) ∧
    wc.ownsRow w1.heap.size 93 3 (.slice ay l.length capy) l.length (trms l) ∧
    wc.heap[w2.heap.size]? = some (.cells #[.int .i64 n, .slice au st.length capu, .slice av sd.length capv] 26 (0, 0)) ∧
    wc.heap[w2.heap.size + 1]? = some (.cells #[.int .i64 r.en, .int .i64 r.pa, .int .i64 r.ey] 60 (0, 0)) ∧
    wc.heap[w3.heap.size]? = some (.cells #[.int .i64 (resF ⟨n, st, sd⟩ l).d, .int .i64 (resF ⟨n, st, sd⟩ l).t] 46 (0, 0)) ∧
    (g 5 = false → wc.heap[w.heap.size]? = some (.cells #[.int .i64 0, .slice none 0 0, .slice none 0 0] 26 (0, 0))) ∧
    (g 5 = true → wc.heap[w.heap.size]? = some (.cells #[.int .i64 n, .slice au st.length capu, .slice av sd.length capv] 26 (0, 0))) ∧
    (g 7 = false → wc.heap[w.heap.size + 1]? = some (.cells #[.int .i64 0, .int .i64 0, .int .i64 0] 60 (0, 0))) ∧
    (g 7 = true → wc.heap[w.heap.size + 1]? = some (.cells #[.int .i64 r.en, .int .i64 r.pa, .int .i64 r.ey] 60 (0, 0))) ∧
    (g 8 = false → wc.heap[w.heap.size + 1 + 1]? = some (.cells #[.int .i64 0, .int .i64 0] 46 (0, 0))) ∧
    (g 8 = true → ∃ m : Fig, wc.heap[w.heap.size + 1 + 1]? = some (.cells #[.int .i64 m.d, .int .i64 m.t] 46 (0, 0))) ∧
    (g 4 = true → g 3 = true) ∧
    (g 5 = true → g 0 = true) ∧
    (g 6 = true → g 1 = true) ∧
    (g 7 = true → g 2 = true) ∧
    (g 8 = true → g 4 = true)) (by kernel_rfl) (by kernel_rfl) rfl (by kernel_rfl) ?_ ?_ ?_
   · exact ⟨rfl, rfl, rfl, rfl, rfl, rfl, rfl, rfl, nofun, nofun, nofun, nofun, nofun, nofun, hD0.drew, hS0.drew, owns_later Qu (Later.refl _).drew, owns_later Qv (Later.refl _).drew, owns_later Qy (Later.refl _).drew, Q6, Q8, Q10, fun _ => Q0, nofun, fun _ => Q1, nofun, fun _ => Q2, nofun, nofun, nofun, nofun, nofun, nofun⟩
   · intro g ac wu hg ha hI
     obtain ⟨xi2, xi4, xi5, xi6, xi7, xi8, xi9, xi10, i0, i1, i2, i3, i4, i6, hD, hS, Ou, Ov, Oy, B6, B8, B10, -, N0, -, N1, -, N2, -, -, -, -, -⟩ := hI
     obtain e0 := i0 (hg 0 (by simp))
     obtain e1 := i1 (hg 1 (by simp))
     obtain e2 := i2 (hg 2 (by simp))
     obtain e3 := i3 (hg 3 (by simp))
     obtain ⟨fd4, e4⟩ := i4 (hg 4 (by simp))
     obtain e6 := i6 (hg 6 (by simp))
     replace N0 := N0 (hg 5 (by simp))
     replace N1 := N1 (hg 7 (by simp))
     replace N2 := N2 (hg 8 (by simp))
     obtain ⟨mf, N2⟩ := N2
     simp only [putAll, e0, e1, e2, e3, e4, e6] at ha
     simp only [Act.put, List.setIfInBounds_toArray, List.set_cons_succ, List.set_cons_zero] at ha
     rw [ha]
     clear xi2 xi4 xi5 xi6 xi7 xi8 xi9 xi10 i0 i1 i2 i3 i4 i6 e0 e1 e2 e3 e4 e6 hg ha
     have hc0 := (blk_at N0).1
     have hz0' := (blk_at N0).2.2
     have hc1 := (blk_at N1).1
     have hz1' := (blk_at N1).2.2
     have hc2 := (blk_at N2).1
     have hz2' := (blk_at N2).2.2
     have HDu := Lib.hid hD
     have HUu := Lib.hid Ou
     have HVu := Lib.hid Ov
     have HYu := Lib.hid Oy
     clear hD hS Ou Ov Oy B6 B8 B10 N0 N1 N2
     go_wp2
     refine bodyPost_ret (v := .tuple #[.agg #[.int .i64 n, .slice au st.length capu, .slice av sd.length capv], .slice ay l.length capy, .agg #[.int .i64 r.en, .int .i64 r.pa, .int .i64 r.ey], .agg #[.int .i64 mf.d, .int .i64 mf.t]]) (by simp [results, Tryz.results49, go_sem, hc0, hz0', hc1, hz1', hc2, hz2']) rfl ⟨n, _, _, st, sd, _, l, r, mf, rfl, owns_base HUu.out (by omega), owns_base HVu.out (by omega), hu5, hv5, owns_base HYu.out (by omega), hl7, Later.drawn (k := k) (Later.refl w) (by omega) HDu.out⟩
   · refine .cons ?_ (.cons ?_ (.cons ?_ (.cons ?_ (.cons ?_ (.cons ?_ (.cons ?_ (.cons ?_ (.cons ?_ .nil))))))))
     · refine qst fun g ac wc hn hk hr HI K' hK => ?_
       obtain ⟨xi2, xi4, xi5, xi6, xi7, xi8, xi9, xi10, -, -, -, -, -, -, hD, hS, Ou, Ov, Oy, B6, B8, B10, R0, N0, R1, N1, R2, N2, m4_3, m5_0, m6_1, m7_2, m8_4⟩ := HI.out
       simp [Region.binds] at hr
       have zi7 := sl_get xi7 (by omega)
       obtain ⟨cb, fb, zb⟩ := blk_at B6
       go_simp
       obtain ⟨-, -, -, -, -, -, -, -, i0, i1, i2, i3, i4, i6, -⟩ := HI.out
       exact hK.out _ _ ⟨qB xi2, qB xi4, qB xi5, qB xi6, qB xi7, qB xi8, qB xi9, qB xi10, qP, (fun h => by rw [put_ne (by decide)]; exact i1 h), (fun h => by rw [put_ne (by decide)]; exact i2 h), (fun h => by rw [put_ne (by decide)]; exact i3 h), (fun h => by rw [put_ne (by decide)]; exact i4 h), (fun h => by rw [put_ne (by decide)]; exact i6 h), hD, hS, Ou, Ov, Oy, B6, B8, B10, (fun h => (R0 h)), (fun h => N0 h), (fun h => (R1 h)), (fun h => N1 h), (fun h => (R2 h)), (fun h => N2 h), m4_3, (fun _ => rfl), m6_1, m7_2, m8_4⟩
     · refine qst fun g ac wc hn hk hr HI K' hK => ?_
       obtain ⟨xi2, xi4, xi5, xi6, xi7, xi8, xi9, xi10, -, -, -, -, -, -, hD, hS, Ou, Ov, Oy, B6, B8, B10, R0, N0, R1, N1, R2, N2, m4_3, m5_0, m6_1, m7_2, m8_4⟩ := HI.out
       simp [Region.binds] at hr
       have zi8 := sl_get xi8 (by omega)
       go_simp
       obtain ⟨-, -, -, -, -, -, -, -, i0, i1, i2, i3, i4, i6, -⟩ := HI.out
       exact hK.out _ _ ⟨qB xi2, qB xi4, qB xi5, qB xi6, qB xi7, qB xi8, qB xi9, qB xi10, (fun h => by rw [put_ne (by decide)]; exact i0 h), qP, (fun h => by rw [put_ne (by decide)]; exact i2 h), (fun h => by rw [put_ne (by decide)]; exact i3 h), (fun h => by rw [put_ne (by decide)]; exact i4 h), (fun h => absurd (m6_1 h) (by rw [hk]; simp)), hD, hS, Ou, Ov, Oy, B6, B8, B10, (fun h => (R0 h)), (fun h => N0 h), (fun h => (R1 h)), (fun h => N1 h), (fun h => (R2 h)), (fun h => N2 h), m4_3, m5_0, (fun _ => rfl), m7_2, m8_4⟩
     · refine qst fun g ac wc hn hk hr HI K' hK => ?_
       obtain ⟨xi2, xi4, xi5, xi6, xi7, xi8, xi9, xi10, -, -, -, -, -, -, hD, hS, Ou, Ov, Oy, B6, B8, B10, R0, N0, R1, N1, R2, N2, m4_3, m5_0, m6_1, m7_2, m8_4⟩ := HI.out
       simp [Region.binds] at hr
       have zi9 := sl_get xi9 (by omega)
       obtain ⟨cb, fb, zb⟩ := blk_at B8
       go_simp
       obtain ⟨-, -, -, -, -, -, -, -, i0, i1, i2, i3, i4, i6, -⟩ := HI.out
       exact hK.out _ _ ⟨qB xi2, qB xi4, qB xi5, qB xi6, qB xi7, qB xi8, qB xi9, qB xi10, (fun h => by rw [put_ne (by decide)]; exact i0 h), (fun h => by rw [put_ne (by decide)]; exact i1 h), qP, (fun h => by rw [put_ne (by decide)]; exact i3 h), (fun h => by rw [put_ne (by decide)]; exact i4 h), (fun h => by rw [put_ne (by decide)]; exact i6 h), hD, hS, Ou, Ov, Oy, B6, B8, B10, (fun h => (R0 h)), (fun h => N0 h), (fun h => (R1 h)), (fun h => N1 h), (fun h => (R2 h)), (fun h => N2 h), m4_3, m5_0, m6_1, (fun _ => rfl), m8_4⟩
     · refine qst fun g ac wc hn hk hr HI K' hK => ?_
       obtain ⟨xi2, xi4, xi5, xi6, xi7, xi8, xi9, xi10, -, -, -, -, -, -, hD, hS, Ou, Ov, Oy, B6, B8, B10, R0, N0, R1, N1, R2, N2, m4_3, m5_0, m6_1, m7_2, m8_4⟩ := HI.out
       simp [Region.binds] at hr
       have zi6 := sl_get xi6 (by omega)
       go_simp
       obtain ⟨-, -, -, -, -, -, -, -, i0, i1, i2, i3, i4, i6, -⟩ := HI.out
       exact hK.out _ _ ⟨qB xi2, qB xi4, qB xi5, qB xi6, qB xi7, qB xi8, qB xi9, qB xi10, (fun h => by rw [put_ne (by decide)]; exact i0 h), (fun h => by rw [put_ne (by decide)]; exact i1 h), (fun h => by rw [put_ne (by decide)]; exact i2 h), qP, (fun h => absurd (m4_3 h) (by rw [hk]; simp)), (fun h => by rw [put_ne (by decide)]; exact i6 h), hD, hS, Ou, Ov, Oy, B6, B8, B10, (fun h => (R0 h)), (fun h => N0 h), (fun h => (R1 h)), (fun h => N1 h), (fun h => (R2 h)), (fun h => N2 h), (fun _ => rfl), m5_0, m6_1, m7_2, m8_4⟩
     · refine qst fun g ac wc hn hk hr HI K' hK => ?_
       obtain ⟨xi2, xi4, xi5, xi6, xi7, xi8, xi9, xi10, -, -, -, i3, -, -, hD, hS, Ou, Ov, Oy, B6, B8, B10, R0, N0, R1, N1, R2, N2, m4_3, m5_0, m6_1, m7_2, m8_4⟩ := HI.out
       simp [Region.binds] at hr
       have g3 : g 3 = true := (by simp [hr])
       obtain y3 := i3 g3
       have z3 := sl_get y3 (by omega)
       clear i3
       go_simp
       refine (w_l02Draw k c _ hS).mono ?_
       rintro e w4 ⟨f, rfl, hD4, hS4⟩
       obtain ⟨-, -, -, -, -, -, -, -, i0, i1, i2, i3, i4, i6, -⟩ := HI.out
       exact hK.out _ _ ⟨qB xi2, qB xi4, qB xi5, qB xi6, qB xi7, qB xi8, qB xi9, qB xi10, (fun h => by rw [put_ne (by decide)]; exact i0 h), (fun h => by rw [put_ne (by decide)]; exact i1 h), (fun h => by rw [put_ne (by decide)]; exact i2 h), (fun h => by rw [put_ne (by decide)]; exact i3 h), (fun _ => ⟨_, put_eq (by omega)⟩), (fun h => by rw [put_ne (by decide)]; exact i6 h), (hD.trans hD4), hS4, (hD4.owns Ou (by omega)), (hD4.owns Ov (by omega)), (hD4.owns Oy (by omega)), (hD4.keep B6 (by omega)), (hD4.keep B8 (by omega)), (hD4.keep B10 (by omega)), (fun h => (hD4.keep (R0 h) (by omega))), (fun h => (hD4.keep (N0 h) (by omega))), (fun h => (hD4.keep (R1 h) (by omega))), (fun h => (hD4.keep (N1 h) (by omega))), (fun h => (hD4.keep (R2 h) (by omega))), (fun h => absurd (m8_4 h) (by rw [hk]; simp)), (fun _ => g3), m5_0, m6_1, m7_2, (fun _ => rfl)⟩
     · refine qst fun g ac wc hn hk hr HI K' hK => ?_
       obtain ⟨xi2, xi4, xi5, xi6, xi7, xi8, xi9, xi10, i0, -, -, -, -, -, hD, hS, Ou, Ov, Oy, B6, B8, B10, R0, N0, R1, N1, R2, N2, m4_3, m5_0, m6_1, m7_2, m8_4⟩ := HI.out
       simp [Region.binds] at hr
       have g0 : g 0 = true := (by simp [hr])
       obtain y0 := i0 g0
       have z0 := sl_get y0 (by omega)
       have zi2 := sl_get xi2 (by omega)
       have hst := hk
       have hbb := blk_at (R0 hst)
       have cb := hbb.1
       have fb := hbb.2.1
       have zb := hbb.2.2
       clear hbb
       clear i0
       go_simp
       obtain ⟨-, -, -, -, -, -, -, -, i0, i1, i2, i3, i4, i6, -⟩ := HI.out
       exact hK.out undef _ ⟨xi2, xi4, xi5, xi6, xi7, xi8, xi9, xi10, (fun h => i0 h), (fun h => i1 h), (fun h => i2 h), (fun h => i3 h), (fun h => i4 h), (fun h => i6 h), (((hD.setCell (by omega) _ _).setCell (by omega) _ _).setCell (by omega) _ _), (((hS.setLow (hAc.mono fun b hb => by omega) (by omega) _ _).setLow (hAc.mono fun b hb => by omega) (by omega) _ _).setLow (hAc.mono fun b hb => by omega) (by omega) _ _), (owns_setNe (owns_setNe (owns_setNe Ou (by assumption) _ _) (by assumption) _ _) (by assumption) _ _), (owns_setNe (owns_setNe (owns_setNe Ov (by assumption) _ _) (by assumption) _ _) (by assumption) _ _), (owns_setNe (owns_setNe (owns_setNe Oy (by assumption) _ _) (by assumption) _ _) (by assumption) _ _), (other_set (other_set (other_set B6 (by omega) _) (by omega) _) (by omega) _), (other_set (other_set (other_set B8 (by omega) _) (by omega) _) (by omega) _), (other_set (other_set (other_set B10 (by omega) _) (by omega) _) (by omega) _), (fun h => absurd h (by simp)), (fun _ => st_2_3 (st_1_3 (st_0_3 (R0 hk) _) _) _), (fun h => (other_set (other_set (other_set (R1 h) (by omega) _) (by omega) _) (by omega) _)), (fun h => (other_set (other_set (other_set (N1 h) (by omega) _) (by omega) _) (by omega) _)), (fun h => (other_set (other_set (other_set (R2 h) (by omega) _) (by omega) _) (by omega) _)), (fun h => by obtain ⟨q0, qq⟩ := N2 h; exact ⟨q0, (other_set (other_set (other_set qq (by omega) _) (by omega) _) (by omega) _)⟩), m4_3, (fun _ => g0), m6_1, m7_2, m8_4⟩
     · refine qst fun g ac wc hn hk hr HI K' hK => ?_
       obtain ⟨xi2, xi4, xi5, xi6, xi7, xi8, xi9, xi10, -, i1, -, -, -, -, hD, hS, Ou, Ov, Oy, B6, B8, B10, R0, N0, R1, N1, R2, N2, m4_3, m5_0, m6_1, m7_2, m8_4⟩ := HI.out
       simp [Region.binds] at hr
       have g1 : g 1 = true := (by simp [hr])
       obtain y1 := i1 g1
       have z1 := sl_get y1 (by omega)
       clear i1
       go_simp
       obtain ⟨-, -, -, -, -, -, -, -, i0, i1, i2, i3, i4, i6, -⟩ := HI.out
       exact hK.out _ _ ⟨qB xi2, qB xi4, qB xi5, qB xi6, qB xi7, qB xi8, qB xi9, qB xi10, (fun h => by rw [put_ne (by decide)]; exact i0 h), (fun h => by rw [put_ne (by decide)]; exact i1 h), (fun h => by rw [put_ne (by decide)]; exact i2 h), (fun h => by rw [put_ne (by decide)]; exact i3 h), (fun h => by rw [put_ne (by decide)]; exact i4 h), qP, hD, hS, Ou, Ov, Oy, B6, B8, B10, (fun h => (R0 h)), (fun h => N0 h), (fun h => (R1 h)), (fun h => N1 h), (fun h => (R2 h)), (fun h => N2 h), m4_3, m5_0, (fun _ => g1), m7_2, m8_4⟩
     · refine qst fun g ac wc hn hk hr HI K' hK => ?_
       obtain ⟨xi2, xi4, xi5, xi6, xi7, xi8, xi9, xi10, -, -, i2, -, -, -, hD, hS, Ou, Ov, Oy, B6, B8, B10, R0, N0, R1, N1, R2, N2, m4_3, m5_0, m6_1, m7_2, m8_4⟩ := HI.out
       simp [Region.binds] at hr
       have g2 : g 2 = true := (by simp [hr])
       obtain y2 := i2 g2
       have z2 := sl_get y2 (by omega)
       have zi4 := sl_get xi4 (by omega)
       have hst := hk
       have hbb := blk_at (R1 hst)
       have cb := hbb.1
       have fb := hbb.2.1
       have zb := hbb.2.2
       clear hbb
       clear i2
       go_simp
       obtain ⟨-, -, -, -, -, -, -, -, i0, i1, i2, i3, i4, i6, -⟩ := HI.out
       exact hK.out undef _ ⟨xi2, xi4, xi5, xi6, xi7, xi8, xi9, xi10, (fun h => i0 h), (fun h => i1 h), (fun h => i2 h), (fun h => i3 h), (fun h => i4 h), (fun h => i6 h), (((hD.setCell (by omega) _ _).setCell (by omega) _ _).setCell (by omega) _ _), (((hS.setLow (hAc.mono fun b hb => by omega) (by omega) _ _).setLow (hAc.mono fun b hb => by omega) (by omega) _ _).setLow (hAc.mono fun b hb => by omega) (by omega) _ _), (owns_setNe (owns_setNe (owns_setNe Ou (by assumption) _ _) (by assumption) _ _) (by assumption) _ _), (owns_setNe (owns_setNe (owns_setNe Ov (by assumption) _ _) (by assumption) _ _) (by assumption) _ _), (owns_setNe (owns_setNe (owns_setNe Oy (by assumption) _ _) (by assumption) _ _) (by assumption) _ _), (other_set (other_set (other_set B6 (by omega) _) (by omega) _) (by omega) _), (other_set (other_set (other_set B8 (by omega) _) (by omega) _) (by omega) _), (other_set (other_set (other_set B10 (by omega) _) (by omega) _) (by omega) _), (fun h => (other_set (other_set (other_set (R0 h) (by omega) _) (by omega) _) (by omega) _)), (fun h => (other_set (other_set (other_set (N0 h) (by omega) _) (by omega) _) (by omega) _)), (fun h => absurd h (by simp)), (fun _ => st_2_3 (st_1_3 (st_0_3 (R1 hk) _) _) _), (fun h => (other_set (other_set (other_set (R2 h) (by omega) _) (by omega) _) (by omega) _)), (fun h => by obtain ⟨q0, qq⟩ := N2 h; exact ⟨q0, (other_set (other_set (other_set qq (by omega) _) (by omega) _) (by omega) _)⟩), m4_3, m5_0, m6_1, (fun _ => g2), m8_4⟩
     · refine qst fun g ac wc hn hk hr HI K' hK => ?_
       obtain ⟨xi2, xi4, xi5, xi6, xi7, xi8, xi9, xi10, -, -, -, -, i4, -, hD, hS, Ou, Ov, Oy, B6, B8, B10, R0, N0, R1, N1, R2, N2, m4_3, m5_0, m6_1, m7_2, m8_4⟩ := HI.out
       simp [Region.binds] at hr
       have g4 : g 4 = true := (by simp [hr])
       obtain ⟨f4, y4⟩ := i4 g4
       have z4 := sl_get y4 (by omega)
       have zi5 := sl_get xi5 (by omega)
       have hst := hk
       have hbb := blk_at (R2 hst)
       have cb := hbb.1
       have fb := hbb.2.1
       have zb := hbb.2.2
       clear hbb
       clear i4
       go_simp
       obtain ⟨-, -, -, -, -, -, -, -, i0, i1, i2, i3, i4, i6, -⟩ := HI.out
       exact hK.out undef _ ⟨xi2, xi4, xi5, xi6, xi7, xi8, xi9, xi10, (fun h => i0 h), (fun h => i1 h), (fun h => i2 h), (fun h => i3 h), (fun h => i4 h), (fun h => i6 h), ((hD.setCell (by omega) _ _).setCell (by omega) _ _), ((hS.setLow (hAc.mono fun b hb => by omega) (by omega) _ _).setLow (hAc.mono fun b hb => by omega) (by omega) _ _), (owns_setNe (owns_setNe Ou (by assumption) _ _) (by assumption) _ _), (owns_setNe (owns_setNe Ov (by assumption) _ _) (by assumption) _ _), (owns_setNe (owns_setNe Oy (by assumption) _ _) (by assumption) _ _), (other_set (other_set B6 (by omega) _) (by omega) _), (other_set (other_set B8 (by omega) _) (by omega) _), (other_set (other_set B10 (by omega) _) (by omega) _), (fun h => (other_set (other_set (R0 h) (by omega) _) (by omega) _)), (fun h => (other_set (other_set (N0 h) (by omega) _) (by omega) _)), (fun h => (other_set (other_set (R1 h) (by omega) _) (by omega) _)), (fun h => (other_set (other_set (N1 h) (by omega) _) (by omega) _)), (fun h => absurd h (by simp)), (fun _ => ⟨_, st_1_2 (st_0_2 (R2 hk) _) _⟩), m4_3, m5_0, m6_1, m7_2, (fun _ => g4)⟩
 · skip
   have hqb : (x4 == 0) = false := by simpa using hq
   go_wp2_with fail
   have hD0 : Drawn w w4 k := qdh
   have hS0 : Src w4 k c := qsh
   have Q6 : w4.heap[w2.heap.size]? = some (.cells #[.int .i64 n, .slice au st.length capu, .slice av sd.length capv] 26 (0, 0)) := qkh
   have Q8 : w4.heap[w2.heap.size + 1]? = some (.cells #[.int .i64 r.en, .int .i64 r.pa, .int .i64 r.ey] 60 (0, 0)) := qkh
   have Q10 : w4.heap[w3.heap.size]? = some (.cells #[.int .i64 (resF ⟨n, st, sd⟩ l).d, .int .i64 (resF ⟨n, st, sd⟩ l).t] 46 (0, 0)) := qkh
   have Q0 : w4.heap[w.heap.size]? = some (.cells #[.int .i64 0, .slice none 0 0, .slice none 0 0] 26 (0, 0)) := qkh
   have Q1 : w4.heap[w.heap.size + 1]? = some (.cells #[.int .i64 0, .int .i64 0, .int .i64 0] 60 (0, 0)) := qkh
   have Q2 : w4.heap[w.heap.size + 1 + 1]? = some (.cells #[.int .i64 0, .int .i64 0] 46 (0, 0)) := qkh
   have Qu : w4.ownsRow w1.heap.size 2 1 (.slice au st.length capu) st.length (nums st) := (qoh HOu_4)
   have Qv : w4.ownsRow w1.heap.size 2 1 (.slice av sd.length capv) sd.length (nums sd) := (qoh HOv_4)
   have Qy : w4.ownsRow w1.heap.size 93 3 (.slice ay l.length capy) l.length (trms l) := (qoh HOy_4)
   have hnu0 := ne_low (k := w.heap.size) Qu (by omega)
   have hnu1 := ne_low (k := w.heap.size + 1) Qu (by omega)
   have hnu2 := ne_low (k := w.heap.size + 1 + 1) Qu (by omega)
   have hnv0 := ne_low (k := w.heap.size) Qv (by omega)
   have hnv1 := ne_low (k := w.heap.size + 1) Qv (by omega)
   have hnv2 := ne_low (k := w.heap.size + 1 + 1) Qv (by omega)
   have hny0 := ne_low (k := w.heap.size) Qy (by omega)
   have hny1 := ne_low (k := w.heap.size + 1) Qy (by omega)
   have hny2 := ne_low (k := w.heap.size + 1 + 1) Qy (by omega)
   clear c0 f0 c1 f1 c2 f2 c6 f6 c8 f8 c10 f10
   refine region_slots 50 [38, 39, 40, 41, 42, 43, 44, 45, 46, 47, 48, 49, 3] (fun g ac wc => sl ac 2 = .pointer (some ⟨w.heap.size, 0, none⟩) ∧
    sl ac 4 = .pointer (some ⟨w.heap.size + 1, 0, none⟩) ∧
    sl ac 5 = .pointer (some ⟨w.heap.size + 1 + 1, 0, none⟩) ∧
    sl ac 6 = .pointer (some ⟨k, 0, none⟩) ∧
    sl ac 7 = .pointer (some ⟨w2.heap.size, 0, none⟩) ∧
    sl ac 8 = .slice ay l.length capy ∧
    sl ac 9 = .pointer (some ⟨w2.heap.size + 1, 0, none⟩) ∧
    sl ac 10 = .pointer (some ⟨w3.heap.size, 0, none⟩) ∧
    (g 0 = true → (sl ac 38) = .agg #[.int .i64 n, .slice au st.length capu, .slice av sd.length capv]) ∧
    (g 1 = true → (sl ac 39) = .slice ay l.length capy) ∧
    (g 2 = true → (sl ac 40) = .agg #[.int .i64 r.en, .int .i64 r.pa, .int .i64 r.ey]) ∧
    (g 3 = true → (sl ac 41) = .pointer (some ⟨w3.heap.size, 0, none⟩)) ∧
    (g 4 = true → (sl ac 42) = .int .i64 (resF ⟨n, st, sd⟩ l).d) ∧
    (g 5 = true → (sl ac 43) = .pointer (some ⟨k, 0, none⟩)) ∧
    (g 6 = true → (∃ x : Int, (sl ac 44) = .int .i64 x ∧ 0 ≤ x ∧ x ≤ 41)) ∧
    (g 7 = true → (∃ x : Int, (sl ac 45) = .int .i64 x ∧ -100 ≤ x ∧ x ≤ 20000)) ∧
    (g 8 = true → (∃ x : Int, (sl ac 46) = .int .i64 x ∧ -200 ≤ x ∧ x ≤ 20000)) ∧
    (g 9 = true → ∃ x : Int, (sl ac 47) = .int .i64 x) ∧
    (g 10 = true → ∃ x : Int, (sl ac 48) = .int .i64 x) ∧
    (g 11 = true → ∃ f : Fig, (sl ac 49) = .agg #[.int .i64 f.d, .int .i64 f.t]) ∧
    (g 13 = true → (sl ac 3) = .slice ay l.length capy) ∧
    Drawn w wc k ∧
    Src wc k c ∧
    wc.ownsRow w1.heap.size 2 1 (.slice au st.length capu) st.length (nums st) ∧
    wc.ownsRow w1.heap.size 2 1 (.slice av sd.length capv) sd.length (nums sd) ∧
    wc.ownsRow w1.heap.size 93 3 (.slice ay l.length capy) l.length (trms l) ∧
    wc.heap[w2.heap.size]? = some (.cells #[.int .i64 n, .slice au st.length capu, .slice av sd.length capv] 26 (0, 0)) ∧
    wc.heap[w2.heap.size + 1]? = some (.cells #[.int .i64 r.en, .int .i64 r.pa, .int .i64 r.ey] 60 (0, 0)) ∧
    wc.heap[w3.heap.size]? = some (.cells #[.int .i64 (resF ⟨n, st, sd⟩ l).d, .int .i64 (resF ⟨n, st, sd⟩ l).t] 46 (0, 0)) ∧
    (g 12 = false → wc.heap[w.heap.size]? = some (.cells #[.int .i64 0, .slice none 0 0, .slice none 0 0] 26 (0, 0))) ∧
    (g 12 = true → wc.heap[w.heap.size]? = some (.cells #[.int .i64 n, .slice au st.length capu, .slice av sd.length capv] 26 (0, 0))) ∧
    (g 14 = false → wc.heap[w.heap.size + 1]? = some (.cells #[.int .i64 0, .int .i64 0, .int .i64 0] 60 (0, 0))) ∧
    (g 14 = true → wc.heap[w.heap.size + 1]? = some (.cells #[.int .i64 r.en, .int .i64 r.pa, .int .i64 r.ey] 60 (0, 0))) ∧
    (g 15 = false → wc.heap[w.heap.size + 1 + 1]? = some (.cells #[.int .i64 0, .int .i64 0] 46 (0, 0))) ∧
    (g 15 = true → ∃ m : Fig, wc.heap[w.heap.size + 1 + 1]? = some (.cells #[.int .i64 m.d, .int .i64 m.t] 46 (0, 0))) ∧
    (g 4 = true → g 3 = true) ∧
    (g 6 = true → g 5 = true) ∧
    (g 7 = true → g 4 = true) ∧
    (g 7 = true → g 6 = true) ∧
    (g 8 = true → g 7 = true) ∧
    (g 9 = true → g 8 = true) ∧
    (g 10 = true → g 9 = true) ∧
    (g 11 = true → g 10 = true) ∧
    (g 12 = true → g 0 = true) ∧
    (g 13 = true → g 1 = true) ∧
    (g 14 = true → g 2 = true) ∧
    (g 15 = true → g 11 = true)) (by kernel_rfl) (by kernel_rfl) rfl (by kernel_rfl) ?_ ?_ ?_
   · exact ⟨rfl, rfl, rfl, rfl, rfl, rfl, rfl, rfl, nofun, nofun, nofun, nofun, nofun, nofun, nofun, nofun, nofun, nofun, nofun, nofun, nofun, hD0.drew, hS0.drew, owns_later Qu (Later.refl _).drew, owns_later Qv (Later.refl _).drew, owns_later Qy (Later.refl _).drew, Q6, Q8, Q10, fun _ => Q0, nofun, fun _ => Q1, nofun, fun _ => Q2, nofun, nofun, nofun, nofun, nofun, nofun, nofun, nofun, nofun, nofun, nofun, nofun, nofun⟩
   · intro g ac wu hg ha hI
     obtain ⟨xi2, xi4, xi5, xi6, xi7, xi8, xi9, xi10, i0, i1, i2, i3, i4, i5, i6, i7, i8, i9, i10, i11, i13, hD, hS, Ou, Ov, Oy, B6, B8, B10, -, N0, -, N1, -, N2, -, -, -, -, -, -, -, -, -, -, -, -⟩ := hI
     obtain e0 := i0 (hg 0 (by simp))
     obtain e1 := i1 (hg 1 (by simp))
     obtain e2 := i2 (hg 2 (by simp))
     obtain e3 := i3 (hg 3 (by simp))
     obtain e4 := i4 (hg 4 (by simp))
     obtain e5 := i5 (hg 5 (by simp))
     obtain ⟨xd6, e6, xad6, xbd6⟩ := i6 (hg 6 (by simp))
     obtain ⟨xd7, e7, xad7, xbd7⟩ := i7 (hg 7 (by simp))
     obtain ⟨xd8, e8, xad8, xbd8⟩ := i8 (hg 8 (by simp))
     obtain ⟨xd9, e9⟩ := i9 (hg 9 (by simp))
     obtain ⟨xd10, e10⟩ := i10 (hg 10 (by simp))
     obtain ⟨fd11, e11⟩ := i11 (hg 11 (by simp))
     obtain e13 := i13 (hg 13 (by simp))
     replace N0 := N0 (hg 12 (by simp))
     replace N1 := N1 (hg 14 (by simp))
     replace N2 := N2 (hg 15 (by simp))
     obtain ⟨mf, N2⟩ := N2
     simp only [putAll, e0, e1, e2, e3, e4, e5, e6, e7, e8, e9, e10, e11, e13] at ha
     simp only [Act.put, List.setIfInBounds_toArray, List.set_cons_succ, List.set_cons_zero] at ha
     rw [ha]
     clear xi2 xi4 xi5 xi6 xi7 xi8 xi9 xi10 i0 i1 i2 i3 i4 i5 i6 i7 i8 i9 i10 i11 i13 e0 e1 e2 e3 e4 e5 e6 e7 e8 e9 e10 e11 e13 hg ha
     have hc0 := (blk_at N0).1
     have hz0' := (blk_at N0).2.2
     have hc1 := (blk_at N1).1
     have hz1' := (blk_at N1).2.2
     have hc2 := (blk_at N2).1
     have hz2' := (blk_at N2).2.2
     have HDu := Lib.hid hD
     have HUu := Lib.hid Ou
     have HVu := Lib.hid Ov
     have HYu := Lib.hid Oy
     clear hD hS Ou Ov Oy B6 B8 B10 N0 N1 N2
     go_wp2
     refine bodyPost_ret (v := .tuple #[.agg #[.int .i64 n, .slice au st.length capu, .slice av sd.length capv], .slice ay l.length capy, .agg #[.int .i64 r.en, .int .i64 r.pa, .int .i64 r.ey], .agg #[.int .i64 mf.d, .int .i64 mf.t]]) (by simp [results, Tryz.results49, go_sem, hc0, hz0', hc1, hz1', hc2, hz2']) rfl ⟨n, _, _, st, sd, _, l, r, mf, rfl, owns_base HUu.out (by omega), owns_base HVu.out (by omega), hu5, hv5, owns_base HYu.out (by omega), hl7, Later.drawn (k := k) (Later.refl w) (by omega) HDu.out⟩
   · refine .cons ?_ (.cons ?_ (.cons ?_ (.cons ?_ (.cons ?_ (.cons ?_ (.cons ?_ (.cons ?_ (.cons ?_ (.cons ?_ (.cons ?_ (.cons ?_ (.cons ?_ (.cons ?_ (.cons ?_ (.cons ?_ .nil)))))))))))))))
     · refine qst fun g ac wc hn hk hr HI K' hK => ?_
       obtain ⟨xi2, xi4, xi5, xi6, xi7, xi8, xi9, xi10, -, -, -, -, -, -, -, -, -, -, -, -, -, hD, hS, Ou, Ov, Oy, B6, B8, B10, R0, N0, R1, N1, R2, N2, m4_3, m6_5, m7_4, m7_6, m8_7, m9_8, m10_9, m11_10, m12_0, m13_1, m14_2, m15_11⟩ := HI.out
       simp [Region.binds] at hr
       have zi7 := sl_get xi7 (by omega)
       obtain ⟨cb, fb, zb⟩ := blk_at B6
       go_simp
       obtain ⟨-, -, -, -, -, -, -, -, i0, i1, i2, i3, i4, i5, i6, i7, i8, i9, i10, i11, i13, -⟩ := HI.out
       exact hK.out _ _ ⟨qB xi2, qB xi4, qB xi5, qB xi6, qB xi7, qB xi8, qB xi9, qB xi10, qP, (fun h => by rw [put_ne (by decide)]; exact i1 h), (fun h => by rw [put_ne (by decide)]; exact i2 h), (fun h => by rw [put_ne (by decide)]; exact i3 h), (fun h => by rw [put_ne (by decide)]; exact i4 h), (fun h => by rw [put_ne (by decide)]; exact i5 h), (fun h => by rw [put_ne (by decide)]; exact i6 h), (fun h => by rw [put_ne (by decide)]; exact i7 h), (fun h => by rw [put_ne (by decide)]; exact i8 h), (fun h => by rw [put_ne (by decide)]; exact i9 h), (fun h => by rw [put_ne (by decide)]; exact i10 h), (fun h => by rw [put_ne (by decide)]; exact i11 h), (fun h => by rw [put_ne (by decide)]; exact i13 h), hD, hS, Ou, Ov, Oy, B6, B8, B10, (fun h => (R0 h)), (fun h => N0 h), (fun h => (R1 h)), (fun h => N1 h), (fun h => (R2 h)), (fun h => N2 h), m4_3, m6_5, m7_4, m7_6, m8_7, m9_8, m10_9, m11_10, (fun _ => rfl), m13_1, m14_2, m15_11⟩
     · refine qst fun g ac wc hn hk hr HI K' hK => ?_
       obtain ⟨xi2, xi4, xi5, xi6, xi7, xi8, xi9, xi10, -, -, -, -, -, -, -, -, -, -, -, -, -, hD, hS, Ou, Ov, Oy, B6, B8, B10, R0, N0, R1, N1, R2, N2, m4_3, m6_5, m7_4, m7_6, m8_7, m9_8, m10_9, m11_10, m12_0, m13_1, m14_2, m15_11⟩ := HI.out
       simp [Region.binds] at hr
       have zi8 := sl_get xi8 (by omega)
       go_simp
       obtain ⟨-, -, -, -, -, -, -, -, i0, i1, i2, i3, i4, i5, i6, i7, i8, i9, i10, i11, i13, -⟩ := HI.out
       exact hK.out _ _ ⟨qB xi2, qB xi4, qB xi5, qB xi6, qB xi7, qB xi8, qB xi9, qB xi10, (fun h => by rw [put_ne (by decide)]; exact i0 h), qP, (fun h => by rw [put_ne (by decide)]; exact i2 h), (fun h => by rw [put_ne (by decide)]; exact i3 h), (fun h => by rw [put_ne (by decide)]; exact i4 h), (fun h => by rw [put_ne (by decide)]; exact i5 h), (fun h => by rw [put_ne (by decide)]; exact i6 h), (fun h => by rw [put_ne (by decide)]; exact i7 h), (fun h => by rw [put_ne (by decide)]; exact i8 h), (fun h => by rw [put_ne (by decide)]; exact i9 h), (fun h => by rw [put_ne (by decide)]; exact i10 h), (fun h => by rw [put_ne (by decide)]; exact i11 h), (fun h => absurd (m13_1 h) (by rw [hk]; simp)), hD, hS, Ou, Ov, Oy, B6, B8, B10, (fun h => (R0 h)), (fun h => N0 h), (fun h => (R1 h)), (fun h => N1 h), (fun h => (R2 h)), (fun h => N2 h), m4_3, m6_5, m7_4, m7_6, m8_7, m9_8, m10_9, m11_10, m12_0, (fun _ => rfl), m14_2, m15_11⟩
     · refine qst fun g ac wc hn hk hr HI K' hK => ?_
       obtain ⟨xi2, xi4, xi5, xi6, xi7, xi8, xi9, xi10, -, -, -, -, -, -, -, -, -, -, -, -, -, hD, hS, Ou, Ov, Oy, B6, B8, B10, R0, N0, R1, N1, R2, N2, m4_3, m6_5, m7_4, m7_6, m8_7, m9_8, m10_9, m11_10, m12_0, m13_1, m14_2, m15_11⟩ := HI.out
       simp [Region.binds] at hr
       have zi9 := sl_get xi9 (by omega)
       obtain ⟨cb, fb, zb⟩ := blk_at B8
       go_simp
       obtain ⟨-, -, -, -, -, -, -, -, i0, i1, i2, i3, i4, i5, i6, i7, i8, i9, i10, i11, i13, -⟩ := HI.out
       exact hK.out _ _ ⟨qB xi2, qB xi4, qB xi5, qB xi6, qB xi7, qB xi8, qB xi9, qB xi10, (fun h => by rw [put_ne (by decide)]; exact i0 h), (fun h => by rw [put_ne (by decide)]; exact i1 h), qP, (fun h => by rw [put_ne (by decide)]; exact i3 h), (fun h => by rw [put_ne (by decide)]; exact i4 h), (fun h => by rw [put_ne (by decide)]; exact i5 h), (fun h => by rw [put_ne (by decide)]; exact i6 h), (fun h => by rw [put_ne (by decide)]; exact i7 h), (fun h => by rw [put_ne (by decide)]; exact i8 h), (fun h => by rw [put_ne (by decide)]; exact i9 h), (fun h => by rw [put_ne (by decide)]; exact i10 h), (fun h => by rw [put_ne (by decide)]; exact i11 h), (fun h => by rw [put_ne (by decide)]; exact i13 h), hD, hS, Ou, Ov, Oy, B6, B8, B10, (fun h => (R0 h)), (fun h => N0 h), (fun h => (R1 h)), (fun h => N1 h), (fun h => (R2 h)), (fun h => N2 h), m4_3, m6_5, m7_4, m7_6, m8_7, m9_8, m10_9, m11_10, m12_0, m13_1, (fun _ => rfl), m15_11⟩
     · refine qst fun g ac wc hn hk hr HI K' hK => ?_
       obtain ⟨xi2, xi4, xi5, xi6, xi7, xi8, xi9, xi10, -, -, -, -, -, -, -, -, -, -, -, -, -, hD, hS, Ou, Ov, Oy, B6, B8, B10, R0, N0, R1, N1, R2, N2, m4_3, m6_5, m7_4, m7_6, m8_7, m9_8, m10_9, m11_10, m12_0, m13_1, m14_2, m15_11⟩ := HI.out
       simp [Region.binds] at hr
       have zi10 := sl_get xi10 (by omega)
       go_simp
       obtain ⟨-, -, -, -, -, -, -, -, i0, i1, i2, i3, i4, i5, i6, i7, i8, i9, i10, i11, i13, -⟩ := HI.out
       exact hK.out _ _ ⟨qB xi2, qB xi4, qB xi5, qB xi6, qB xi7, qB xi8, qB xi9, qB xi10, (fun h => by rw [put_ne (by decide)]; exact i0 h), (fun h => by rw [put_ne (by decide)]; exact i1 h), (fun h => by rw [put_ne (by decide)]; exact i2 h), qP, (fun h => absurd (m4_3 h) (by rw [hk]; simp)), (fun h => by rw [put_ne (by decide)]; exact i5 h), (fun h => by rw [put_ne (by decide)]; exact i6 h), (fun h => by rw [put_ne (by decide)]; exact i7 h), (fun h => by rw [put_ne (by decide)]; exact i8 h), (fun h => by rw [put_ne (by decide)]; exact i9 h), (fun h => by rw [put_ne (by decide)]; exact i10 h), (fun h => by rw [put_ne (by decide)]; exact i11 h), (fun h => by rw [put_ne (by decide)]; exact i13 h), hD, hS, Ou, Ov, Oy, B6, B8, B10, (fun h => (R0 h)), (fun h => N0 h), (fun h => (R1 h)), (fun h => N1 h), (fun h => (R2 h)), (fun h => N2 h), (fun _ => rfl), m6_5, m7_4, m7_6, m8_7, m9_8, m10_9, m11_10, m12_0, m13_1, m14_2, m15_11⟩
     · refine qst fun g ac wc hn hk hr HI K' hK => ?_
       obtain ⟨xi2, xi4, xi5, xi6, xi7, xi8, xi9, xi10, -, -, -, i3, -, -, -, -, -, -, -, -, -, hD, hS, Ou, Ov, Oy, B6, B8, B10, R0, N0, R1, N1, R2, N2, m4_3, m6_5, m7_4, m7_6, m8_7, m9_8, m10_9, m11_10, m12_0, m13_1, m14_2, m15_11⟩ := HI.out
       simp [Region.binds] at hr
       have g3 : g 3 = true := (by simp [hr])
       obtain y3 := i3 g3
       have z3 := sl_get y3 (by omega)
       obtain ⟨cb, fb, zb⟩ := blk_at B10
       clear i3
       go_simp
       obtain ⟨-, -, -, -, -, -, -, -, i0, i1, i2, i3, i4, i5, i6, i7, i8, i9, i10, i11, i13, -⟩ := HI.out
       exact hK.out _ _ ⟨qB xi2, qB xi4, qB xi5, qB xi6, qB xi7, qB xi8, qB xi9, qB xi10, (fun h => by rw [put_ne (by decide)]; exact i0 h), (fun h => by rw [put_ne (by decide)]; exact i1 h), (fun h => by rw [put_ne (by decide)]; exact i2 h), (fun h => by rw [put_ne (by decide)]; exact i3 h), qP, (fun h => by rw [put_ne (by decide)]; exact i5 h), (fun h => by rw [put_ne (by decide)]; exact i6 h), (fun h => absurd (m7_4 h) (by rw [hk]; simp)), (fun h => by rw [put_ne (by decide)]; exact i8 h), (fun h => by rw [put_ne (by decide)]; exact i9 h), (fun h => by rw [put_ne (by decide)]; exact i10 h), (fun h => by rw [put_ne (by decide)]; exact i11 h), (fun h => by rw [put_ne (by decide)]; exact i13 h), hD, hS, Ou, Ov, Oy, B6, B8, B10, (fun h => (R0 h)), (fun h => N0 h), (fun h => (R1 h)), (fun h => N1 h), (fun h => (R2 h)), (fun h => N2 h), (fun _ => g3), m6_5, (fun _ => rfl), m7_6, m8_7, m9_8, m10_9, m11_10, m12_0, m13_1, m14_2, m15_11⟩
     · refine qst fun g ac wc hn hk hr HI K' hK => ?_
       obtain ⟨xi2, xi4, xi5, xi6, xi7, xi8, xi9, xi10, -, -, -, -, -, -, -, -, -, -, -, -, -, hD, hS, Ou, Ov, Oy, B6, B8, B10, R0, N0, R1, N1, R2, N2, m4_3, m6_5, m7_4, m7_6, m8_7, m9_8, m10_9, m11_10, m12_0, m13_1, m14_2, m15_11⟩ := HI.out
       simp [Region.binds] at hr
       have zi6 := sl_get xi6 (by omega)
       go_simp
       obtain ⟨-, -, -, -, -, -, -, -, i0, i1, i2, i3, i4, i5, i6, i7, i8, i9, i10, i11, i13, -⟩ := HI.out
       exact hK.out _ _ ⟨qB xi2, qB xi4, qB xi5, qB xi6, qB xi7, qB xi8, qB xi9, qB xi10, (fun h => by rw [put_ne (by decide)]; exact i0 h), (fun h => by rw [put_ne (by decide)]; exact i1 h), (fun h => by rw [put_ne (by decide)]; exact i2 h), (fun h => by rw [put_ne (by decide)]; exact i3 h), (fun h => by rw [put_ne (by decide)]; exact i4 h), qP, (fun h => absurd (m6_5 h) (by rw [hk]; simp)), (fun h => by rw [put_ne (by decide)]; exact i7 h), (fun h => by rw [put_ne (by decide)]; exact i8 h), (fun h => by rw [put_ne (by decide)]; exact i9 h), (fun h => by rw [put_ne (by decide)]; exact i10 h), (fun h => by rw [put_ne (by decide)]; exact i11 h), (fun h => by rw [put_ne (by decide)]; exact i13 h), hD, hS, Ou, Ov, Oy, B6, B8, B10, (fun h => (R0 h)), (fun h => N0 h), (fun h => (R1 h)), (fun h => N1 h), (fun h => (R2 h)), (fun h => N2 h), m4_3, (fun _ => rfl), m7_4, m7_6, m8_7, m9_8, m10_9, m11_10, m12_0, m13_1, m14_2, m15_11⟩
     · refine qst fun g ac wc hn hk hr HI K' hK => ?_
       obtain ⟨xi2, xi4, xi5, xi6, xi7, xi8, xi9, xi10, -, -, -, -, -, i5, -, -, -, -, -, -, -, hD, hS, Ou, Ov, Oy, B6, B8, B10, R0, N0, R1, N1, R2, N2, m4_3, m6_5, m7_4, m7_6, m8_7, m9_8, m10_9, m11_10, m12_0, m13_1, m14_2, m15_11⟩ := HI.out
       simp [Region.binds] at hr
       have g5 : g 5 = true := (by simp [hr])
       obtain y5 := i5 g5
       have z5 := sl_get y5 (by omega)
       clear i5
       go_simp
       refine (w_l01Next k c 41 _ hS).mono ?_
       rintro e w4 ⟨x, rfl, x1, x2, hD4, hS4⟩
       obtain ⟨-, -, -, -, -, -, -, -, i0, i1, i2, i3, i4, i5, i6, i7, i8, i9, i10, i11, i13, -⟩ := HI.out
       exact hK.out _ _ ⟨qB xi2, qB xi4, qB xi5, qB xi6, qB xi7, qB xi8, qB xi9, qB xi10, (fun h => by rw [put_ne (by decide)]; exact i0 h), (fun h => by rw [put_ne (by decide)]; exact i1 h), (fun h => by rw [put_ne (by decide)]; exact i2 h), (fun h => by rw [put_ne (by decide)]; exact i3 h), (fun h => by rw [put_ne (by decide)]; exact i4 h), (fun h => by rw [put_ne (by decide)]; exact i5 h), (fun _ => ⟨_, put_eq (by omega), x1, by omega⟩), (fun h => absurd (m7_6 h) (by rw [hk]; simp)), (fun h => by rw [put_ne (by decide)]; exact i8 h), (fun h => by rw [put_ne (by decide)]; exact i9 h), (fun h => by rw [put_ne (by decide)]; exact i10 h), (fun h => by rw [put_ne (by decide)]; exact i11 h), (fun h => by rw [put_ne (by decide)]; exact i13 h), (hD.trans hD4), hS4, (hD4.owns Ou (by omega)), (hD4.owns Ov (by omega)), (hD4.owns Oy (by omega)), (hD4.keep B6 (by omega)), (hD4.keep B8 (by omega)), (hD4.keep B10 (by omega)), (fun h => (hD4.keep (R0 h) (by omega))), (fun h => (hD4.keep (N0 h) (by omega))), (fun h => (hD4.keep (R1 h) (by omega))), (fun h => (hD4.keep (N1 h) (by omega))), (fun h => (hD4.keep (R2 h) (by omega))), (fun h => absurd (m7_6 (m8_7 (m9_8 (m10_9 (m11_10 (m15_11 h)))))) (by rw [hk]; simp)), m4_3, (fun _ => g5), m7_4, (fun _ => rfl), m8_7, m9_8, m10_9, m11_10, m12_0, m13_1, m14_2, m15_11⟩
     · refine qst fun g ac wc hn hk hr HI K' hK => ?_
       obtain ⟨xi2, xi4, xi5, xi6, xi7, xi8, xi9, xi10, -, -, -, -, i4, -, i6, -, -, -, -, -, -, hD, hS, Ou, Ov, Oy, B6, B8, B10, R0, N0, R1, N1, R2, N2, m4_3, m6_5, m7_4, m7_6, m8_7, m9_8, m10_9, m11_10, m12_0, m13_1, m14_2, m15_11⟩ := HI.out
       simp [Region.binds] at hr
       have g4 : g 4 = true := (by simp [hr])
       obtain y4 := i4 g4
       have z4 := sl_get y4 (by omega)
       have g6 : g 6 = true := (by simp [hr])
       obtain ⟨x6, y6, xa6, xb6⟩ := i6 g6
       have z6 := sl_get y6 (by omega)
       have wD : IntKind.i64.wrap ((resF ⟨n, st, sd⟩ l).d + x6) = (resF ⟨n, st, sd⟩ l).d + x6 := wrap_same (by omega) (by omega)
       clear i4 i6
       go_simp
       obtain ⟨-, -, -, -, -, -, -, -, i0, i1, i2, i3, i4, i5, i6, i7, i8, i9, i10, i11, i13, -⟩ := HI.out
       exact hK.out _ _ ⟨qB xi2, qB xi4, qB xi5, qB xi6, qB xi7, qB xi8, qB xi9, qB xi10, (fun h => by rw [put_ne (by decide)]; exact i0 h), (fun h => by rw [put_ne (by decide)]; exact i1 h), (fun h => by rw [put_ne (by decide)]; exact i2 h), (fun h => by rw [put_ne (by decide)]; exact i3 h), (fun h => by rw [put_ne (by decide)]; exact i4 h), (fun h => by rw [put_ne (by decide)]; exact i5 h), (fun h => by rw [put_ne (by decide)]; exact i6 h), (fun _ => ⟨_, put_eq (by omega), by omega, by omega⟩), (fun h => absurd (m8_7 h) (by rw [hk]; simp)), (fun h => by rw [put_ne (by decide)]; exact i9 h), (fun h => by rw [put_ne (by decide)]; exact i10 h), (fun h => by rw [put_ne (by decide)]; exact i11 h), (fun h => by rw [put_ne (by decide)]; exact i13 h), hD, hS, Ou, Ov, Oy, B6, B8, B10, (fun h => (R0 h)), (fun h => N0 h), (fun h => (R1 h)), (fun h => N1 h), (fun h => (R2 h)), (fun h => N2 h), m4_3, m6_5, (fun _ => g4), (fun _ => g6), (fun _ => rfl), m9_8, m10_9, m11_10, m12_0, m13_1, m14_2, m15_11⟩
     · refine qst fun g ac wc hn hk hr HI K' hK => ?_
       obtain ⟨xi2, xi4, xi5, xi6, xi7, xi8, xi9, xi10, -, -, -, -, -, -, -, i7, -, -, -, -, -, hD, hS, Ou, Ov, Oy, B6, B8, B10, R0, N0, R1, N1, R2, N2, m4_3, m6_5, m7_4, m7_6, m8_7, m9_8, m10_9, m11_10, m12_0, m13_1, m14_2, m15_11⟩ := HI.out
       simp [Region.binds] at hr
       have g7 : g 7 = true := (by simp [hr])
       obtain ⟨x7, y7, xa7, xb7⟩ := i7 g7
       have z7 := sl_get y7 (by omega)
       have wD : IntKind.i64.wrap (x7 - 20) = x7 - 20 := wrap_same (by omega) (by omega)
       clear i7
       go_simp
       obtain ⟨-, -, -, -, -, -, -, -, i0, i1, i2, i3, i4, i5, i6, i7, i8, i9, i10, i11, i13, -⟩ := HI.out
       exact hK.out _ _ ⟨qB xi2, qB xi4, qB xi5, qB xi6, qB xi7, qB xi8, qB xi9, qB xi10, (fun h => by rw [put_ne (by decide)]; exact i0 h), (fun h => by rw [put_ne (by decide)]; exact i1 h), (fun h => by rw [put_ne (by decide)]; exact i2 h), (fun h => by rw [put_ne (by decide)]; exact i3 h), (fun h => by rw [put_ne (by decide)]; exact i4 h), (fun h => by rw [put_ne (by decide)]; exact i5 h), (fun h => by rw [put_ne (by decide)]; exact i6 h), (fun h => by rw [put_ne (by decide)]; exact i7 h), (fun _ => ⟨_, put_eq (by omega), by omega, by omega⟩), (fun h => absurd (m9_8 h) (by rw [hk]; simp)), (fun h => by rw [put_ne (by decide)]; exact i10 h), (fun h => by rw [put_ne (by decide)]; exact i11 h), (fun h => by rw [put_ne (by decide)]; exact i13 h), hD, hS, Ou, Ov, Oy, B6, B8, B10, (fun h => (R0 h)), (fun h => N0 h), (fun h => (R1 h)), (fun h => N1 h), (fun h => (R2 h)), (fun h => N2 h), m4_3, m6_5, m7_4, m7_6, (fun _ => g7), (fun _ => rfl), m10_9, m11_10, m12_0, m13_1, m14_2, m15_11⟩
     · refine qst fun g ac wc hn hk hr HI K' hK => ?_
       obtain ⟨xi2, xi4, xi5, xi6, xi7, xi8, xi9, xi10, -, -, -, -, -, -, -, -, i8, -, -, -, -, hD, hS, Ou, Ov, Oy, B6, B8, B10, R0, N0, R1, N1, R2, N2, m4_3, m6_5, m7_4, m7_6, m8_7, m9_8, m10_9, m11_10, m12_0, m13_1, m14_2, m15_11⟩ := HI.out
       simp [Region.binds] at hr
       have g8 : g 8 = true := (by simp [hr])
       obtain ⟨x8, y8, xa8, xb8⟩ := i8 g8
       have z8 := sl_get y8 (by omega)
       clear i8
       go_simp
       obtain ⟨-, -, -, -, -, -, -, -, i0, i1, i2, i3, i4, i5, i6, i7, i8, i9, i10, i11, i13, -⟩ := HI.out
       exact hK.out _ _ ⟨qB xi2, qB xi4, qB xi5, qB xi6, qB xi7, qB xi8, qB xi9, qB xi10, (fun h => by rw [put_ne (by decide)]; exact i0 h), (fun h => by rw [put_ne (by decide)]; exact i1 h), (fun h => by rw [put_ne (by decide)]; exact i2 h), (fun h => by rw [put_ne (by decide)]; exact i3 h), (fun h => by rw [put_ne (by decide)]; exact i4 h), (fun h => by rw [put_ne (by decide)]; exact i5 h), (fun h => by rw [put_ne (by decide)]; exact i6 h), (fun h => by rw [put_ne (by decide)]; exact i7 h), (fun h => by rw [put_ne (by decide)]; exact i8 h), (fun _ => ⟨_, put_eq (by omega)⟩), (fun h => absurd (m10_9 h) (by rw [hk]; simp)), (fun h => by rw [put_ne (by decide)]; exact i11 h), (fun h => by rw [put_ne (by decide)]; exact i13 h), hD, hS, Ou, Ov, Oy, B6, B8, B10, (fun h => (R0 h)), (fun h => N0 h), (fun h => (R1 h)), (fun h => N1 h), (fun h => (R2 h)), (fun h => N2 h), m4_3, m6_5, m7_4, m7_6, m8_7, (fun _ => g8), (fun _ => rfl), m11_10, m12_0, m13_1, m14_2, m15_11⟩
     · refine qst fun g ac wc hn hk hr HI K' hK => ?_
       obtain ⟨xi2, xi4, xi5, xi6, xi7, xi8, xi9, xi10, -, -, -, -, -, -, -, -, -, i9, -, -, -, hD, hS, Ou, Ov, Oy, B6, B8, B10, R0, N0, R1, N1, R2, N2, m4_3, m6_5, m7_4, m7_6, m8_7, m9_8, m10_9, m11_10, m12_0, m13_1, m14_2, m15_11⟩ := HI.out
       simp [Region.binds] at hr
       have g9 : g 9 = true := (by simp [hr])
       obtain ⟨x9, y9⟩ := i9 g9
       have z9 := sl_get y9 (by omega)
       clear i9
       go_simp
       obtain ⟨-, -, -, -, -, -, -, -, i0, i1, i2, i3, i4, i5, i6, i7, i8, i9, i10, i11, i13, -⟩ := HI.out
       exact hK.out _ _ ⟨qB xi2, qB xi4, qB xi5, qB xi6, qB xi7, qB xi8, qB xi9, qB xi10, (fun h => by rw [put_ne (by decide)]; exact i0 h), (fun h => by rw [put_ne (by decide)]; exact i1 h), (fun h => by rw [put_ne (by decide)]; exact i2 h), (fun h => by rw [put_ne (by decide)]; exact i3 h), (fun h => by rw [put_ne (by decide)]; exact i4 h), (fun h => by rw [put_ne (by decide)]; exact i5 h), (fun h => by rw [put_ne (by decide)]; exact i6 h), (fun h => by rw [put_ne (by decide)]; exact i7 h), (fun h => by rw [put_ne (by decide)]; exact i8 h), (fun h => by rw [put_ne (by decide)]; exact i9 h), (fun _ => ⟨_, put_eq (by omega)⟩), (fun h => absurd (m11_10 h) (by rw [hk]; simp)), (fun h => by rw [put_ne (by decide)]; exact i13 h), hD, hS, Ou, Ov, Oy, B6, B8, B10, (fun h => (R0 h)), (fun h => N0 h), (fun h => (R1 h)), (fun h => N1 h), (fun h => (R2 h)), (fun h => N2 h), m4_3, m6_5, m7_4, m7_6, m8_7, m9_8, (fun _ => g9), (fun _ => rfl), m12_0, m13_1, m14_2, m15_11⟩
     · refine qst fun g ac wc hn hk hr HI K' hK => ?_
       obtain ⟨xi2, xi4, xi5, xi6, xi7, xi8, xi9, xi10, -, -, -, -, -, -, -, -, -, -, i10, -, -, hD, hS, Ou, Ov, Oy, B6, B8, B10, R0, N0, R1, N1, R2, N2, m4_3, m6_5, m7_4, m7_6, m8_7, m9_8, m10_9, m11_10, m12_0, m13_1, m14_2, m15_11⟩ := HI.out
       simp [Region.binds] at hr
       have g10 : g 10 = true := (by simp [hr])
       obtain ⟨x10, y10⟩ := i10 g10
       have z10 := sl_get y10 (by omega)
       clear i10
       go_simp
       obtain ⟨-, -, -, -, -, -, -, -, i0, i1, i2, i3, i4, i5, i6, i7, i8, i9, i10, i11, i13, -⟩ := HI.out
       exact hK.out _ _ ⟨qB xi2, qB xi4, qB xi5, qB xi6, qB xi7, qB xi8, qB xi9, qB xi10, (fun h => by rw [put_ne (by decide)]; exact i0 h), (fun h => by rw [put_ne (by decide)]; exact i1 h), (fun h => by rw [put_ne (by decide)]; exact i2 h), (fun h => by rw [put_ne (by decide)]; exact i3 h), (fun h => by rw [put_ne (by decide)]; exact i4 h), (fun h => by rw [put_ne (by decide)]; exact i5 h), (fun h => by rw [put_ne (by decide)]; exact i6 h), (fun h => by rw [put_ne (by decide)]; exact i7 h), (fun h => by rw [put_ne (by decide)]; exact i8 h), (fun h => by rw [put_ne (by decide)]; exact i9 h), (fun h => by rw [put_ne (by decide)]; exact i10 h), (fun _ => ⟨⟨_, _⟩, put_eq (by omega)⟩), (fun h => by rw [put_ne (by decide)]; exact i13 h), hD, hS, Ou, Ov, Oy, B6, B8, B10, (fun h => (R0 h)), (fun h => N0 h), (fun h => (R1 h)), (fun h => N1 h), (fun h => (R2 h)), (fun h => N2 h), m4_3, m6_5, m7_4, m7_6, m8_7, m9_8, m10_9, (fun _ => g10), m12_0, m13_1, m14_2, (fun _ => rfl)⟩
     · refine qst fun g ac wc hn hk hr HI K' hK => ?_
       obtain ⟨xi2, xi4, xi5, xi6, xi7, xi8, xi9, xi10, i0, -, -, -, -, -, -, -, -, -, -, -, -, hD, hS, Ou, Ov, Oy, B6, B8, B10, R0, N0, R1, N1, R2, N2, m4_3, m6_5, m7_4, m7_6, m8_7, m9_8, m10_9, m11_10, m12_0, m13_1, m14_2, m15_11⟩ := HI.out
       simp [Region.binds] at hr
       have g0 : g 0 = true := (by simp [hr])
       obtain y0 := i0 g0
       have z0 := sl_get y0 (by omega)
       have zi2 := sl_get xi2 (by omega)
       have hst := hk
       have hbb := blk_at (R0 hst)
       have cb := hbb.1
       have fb := hbb.2.1
       have zb := hbb.2.2
       clear hbb
       clear i0
       go_simp
       obtain ⟨-, -, -, -, -, -, -, -, i0, i1, i2, i3, i4, i5, i6, i7, i8, i9, i10, i11, i13, -⟩ := HI.out
       exact hK.out undef _ ⟨xi2, xi4, xi5, xi6, xi7, xi8, xi9, xi10, (fun h => i0 h), (fun h => i1 h), (fun h => i2 h), (fun h => i3 h), (fun h => i4 h), (fun h => i5 h), (fun h => i6 h), (fun h => i7 h), (fun h => i8 h), (fun h => i9 h), (fun h => i10 h), (fun h => i11 h), (fun h => i13 h), (((hD.setCell (by omega) _ _).setCell (by omega) _ _).setCell (by omega) _ _), (((hS.setLow (hAc.mono fun b hb => by omega) (by omega) _ _).setLow (hAc.mono fun b hb => by omega) (by omega) _ _).setLow (hAc.mono fun b hb => by omega) (by omega) _ _), (owns_setNe (owns_setNe (owns_setNe Ou (by assumption) _ _) (by assumption) _ _) (by assumption) _ _), (owns_setNe (owns_setNe (owns_setNe Ov (by assumption) _ _) (by assumption) _ _) (by assumption) _ _), (owns_setNe (owns_setNe (owns_setNe Oy (by assumption) _ _) (by assumption) _ _) (by assumption) _ _), (other_set (other_set (other_set B6 (by omega) _) (by omega) _) (by omega) _), (other_set (other_set (other_set B8 (by omega) _) (by omega) _) (by omega) _), (other_set (other_set (other_set B10 (by omega) _) (by omega) _) (by omega) _), (fun h => absurd h (by simp)), (fun _ => st_2_3 (st_1_3 (st_0_3 (R0 hk) _) _) _), (fun h => (other_set (other_set (other_set (R1 h) (by omega) _) (by omega) _) (by omega) _)), (fun h => (other_set (other_set (other_set (N1 h) (by omega) _) (by omega) _) (by omega) _)), (fun h => (other_set (other_set (other_set (R2 h) (by omega) _) (by omega) _) (by omega) _)), (fun h => by obtain ⟨q0, qq⟩ := N2 h; exact ⟨q0, (other_set (other_set (other_set qq (by omega) _) (by omega) _) (by omega) _)⟩), m4_3, m6_5, m7_4, m7_6, m8_7, m9_8, m10_9, m11_10, (fun _ => g0), m13_1, m14_2, m15_11⟩
     · refine qst fun g ac wc hn hk hr HI K' hK => ?_
       obtain ⟨xi2, xi4, xi5, xi6, xi7, xi8, xi9, xi10, -, i1, -, -, -, -, -, -, -, -, -, -, -, hD, hS, Ou, Ov, Oy, B6, B8, B10, R0, N0, R1, N1, R2, N2, m4_3, m6_5, m7_4, m7_6, m8_7, m9_8, m10_9, m11_10, m12_0, m13_1, m14_2, m15_11⟩ := HI.out
       simp [Region.binds] at hr
       have g1 : g 1 = true := (by simp [hr])
       obtain y1 := i1 g1
       have z1 := sl_get y1 (by omega)
       clear i1
       go_simp
       obtain ⟨-, -, -, -, -, -, -, -, i0, i1, i2, i3, i4, i5, i6, i7, i8, i9, i10, i11, i13, -⟩ := HI.out
       exact hK.out _ _ ⟨qB xi2, qB xi4, qB xi5, qB xi6, qB xi7, qB xi8, qB xi9, qB xi10, (fun h => by rw [put_ne (by decide)]; exact i0 h), (fun h => by rw [put_ne (by decide)]; exact i1 h), (fun h => by rw [put_ne (by decide)]; exact i2 h), (fun h => by rw [put_ne (by decide)]; exact i3 h), (fun h => by rw [put_ne (by decide)]; exact i4 h), (fun h => by rw [put_ne (by decide)]; exact i5 h), (fun h => by rw [put_ne (by decide)]; exact i6 h), (fun h => by rw [put_ne (by decide)]; exact i7 h), (fun h => by rw [put_ne (by decide)]; exact i8 h), (fun h => by rw [put_ne (by decide)]; exact i9 h), (fun h => by rw [put_ne (by decide)]; exact i10 h), (fun h => by rw [put_ne (by decide)]; exact i11 h), qP, hD, hS, Ou, Ov, Oy, B6, B8, B10, (fun h => (R0 h)), (fun h => N0 h), (fun h => (R1 h)), (fun h => N1 h), (fun h => (R2 h)), (fun h => N2 h), m4_3, m6_5, m7_4, m7_6, m8_7, m9_8, m10_9, m11_10, m12_0, (fun _ => g1), m14_2, m15_11⟩
     · refine qst fun g ac wc hn hk hr HI K' hK => ?_
       obtain ⟨xi2, xi4, xi5, xi6, xi7, xi8, xi9, xi10, -, -, i2, -, -, -, -, -, -, -, -, -, -, hD, hS, Ou, Ov, Oy, B6, B8, B10, R0, N0, R1, N1, R2, N2, m4_3, m6_5, m7_4, m7_6, m8_7, m9_8, m10_9, m11_10, m12_0, m13_1, m14_2, m15_11⟩ := HI.out
       simp [Region.binds] at hr
       have g2 : g 2 = true := (by simp [hr])
       obtain y2 := i2 g2
       have z2 := sl_get y2 (by omega)
       have zi4 := sl_get xi4 (by omega)
       have hst := hk
       have hbb := blk_at (R1 hst)
       have cb := hbb.1
       have fb := hbb.2.1
       have zb := hbb.2.2
       clear hbb
       clear i2
       go_simp
       obtain ⟨-, -, -, -, -, -, -, -, i0, i1, i2, i3, i4, i5, i6, i7, i8, i9, i10, i11, i13, -⟩ := HI.out
       exact hK.out undef _ ⟨xi2, xi4, xi5, xi6, xi7, xi8, xi9, xi10, (fun h => i0 h), (fun h => i1 h), (fun h => i2 h), (fun h => i3 h), (fun h => i4 h), (fun h => i5 h), (fun h => i6 h), (fun h => i7 h), (fun h => i8 h), (fun h => i9 h), (fun h => i10 h), (fun h => i11 h), (fun h => i13 h), (((hD.setCell (by omega) _ _).setCell (by omega) _ _).setCell (by omega) _ _), (((hS.setLow (hAc.mono fun b hb => by omega) (by omega) _ _).setLow (hAc.mono fun b hb => by omega) (by omega) _ _).setLow (hAc.mono fun b hb => by omega) (by omega) _ _), (owns_setNe (owns_setNe (owns_setNe Ou (by assumption) _ _) (by assumption) _ _) (by assumption) _ _), (owns_setNe (owns_setNe (owns_setNe Ov (by assumption) _ _) (by assumption) _ _) (by assumption) _ _), (owns_setNe (owns_setNe (owns_setNe Oy (by assumption) _ _) (by assumption) _ _) (by assumption) _ _), (other_set (other_set (other_set B6 (by omega) _) (by omega) _) (by omega) _), (other_set (other_set (other_set B8 (by omega) _) (by omega) _) (by omega) _), (other_set (other_set (other_set B10 (by omega) _) (by omega) _) (by omega) _), (fun h => (other_set (other_set (other_set (R0 h) (by omega) _) (by omega) _) (by omega) _)), (fun h => (other_set (other_set (other_set (N0 h) (by omega) _) (by omega) _) (by omega) _)), (fun h => absurd h (by simp)), (fun _ => st_2_3 (st_1_3 (st_0_3 (R1 hk) _) _) _), (fun h => (other_set (other_set (other_set (R2 h) (by omega) _) (by omega) _) (by omega) _)), (fun h => by obtain ⟨q0, qq⟩ := N2 h; exact ⟨q0, (other_set (other_set (other_set qq (by omega) _) (by omega) _) (by omega) _)⟩), m4_3, m6_5, m7_4, m7_6, m8_7, m9_8, m10_9, m11_10, m12_0, m13_1, (fun _ => g2), m15_11⟩
     · refine qst fun g ac wc hn hk hr HI K' hK => ?_
       obtain ⟨xi2, xi4, xi5, xi6, xi7, xi8, xi9, xi10, -, -, -, -, -, -, -, -, -, -, -, i11, -, hD, hS, Ou, Ov, Oy, B6, B8, B10, R0, N0, R1, N1, R2, N2, m4_3, m6_5, m7_4, m7_6, m8_7, m9_8, m10_9, m11_10, m12_0, m13_1, m14_2, m15_11⟩ := HI.out
       simp [Region.binds] at hr
       have g11 : g 11 = true := (by simp [hr])
       obtain ⟨f11, y11⟩ := i11 g11
       have z11 := sl_get y11 (by omega)
       have zi5 := sl_get xi5 (by omega)
       have hst := hk
       have hbb := blk_at (R2 hst)
       have cb := hbb.1
       have fb := hbb.2.1
       have zb := hbb.2.2
       clear hbb
       clear i11
       go_simp
       obtain ⟨-, -, -, -, -, -, -, -, i0, i1, i2, i3, i4, i5, i6, i7, i8, i9, i10, i11, i13, -⟩ := HI.out
       exact hK.out undef _ ⟨xi2, xi4, xi5, xi6, xi7, xi8, xi9, xi10, (fun h => i0 h), (fun h => i1 h), (fun h => i2 h), (fun h => i3 h), (fun h => i4 h), (fun h => i5 h), (fun h => i6 h), (fun h => i7 h), (fun h => i8 h), (fun h => i9 h), (fun h => i10 h), (fun h => i11 h), (fun h => i13 h), ((hD.setCell (by omega) _ _).setCell (by omega) _ _), ((hS.setLow (hAc.mono fun b hb => by omega) (by omega) _ _).setLow (hAc.mono fun b hb => by omega) (by omega) _ _), (owns_setNe (owns_setNe Ou (by assumption) _ _) (by assumption) _ _), (owns_setNe (owns_setNe Ov (by assumption) _ _) (by assumption) _ _), (owns_setNe (owns_setNe Oy (by assumption) _ _) (by assumption) _ _), (other_set (other_set B6 (by omega) _) (by omega) _), (other_set (other_set B8 (by omega) _) (by omega) _), (other_set (other_set B10 (by omega) _) (by omega) _), (fun h => (other_set (other_set (R0 h) (by omega) _) (by omega) _)), (fun h => (other_set (other_set (N0 h) (by omega) _) (by omega) _)), (fun h => (other_set (other_set (R1 h) (by omega) _) (by omega) _)), (fun h => (other_set (other_set (N1 h) (by omega) _) (by omega) _)), (fun h => absurd h (by simp)), (fun _ => ⟨_, st_1_2 (st_0_2 (R2 hk) _) _⟩), m4_3, m6_5, m7_4, m7_6, m8_7, m9_8, m10_9, m11_10, m12_0, m13_1, m14_2, (fun _ => g11)⟩
end Go.Proofs.YtkoojngonldcbaaGreat
