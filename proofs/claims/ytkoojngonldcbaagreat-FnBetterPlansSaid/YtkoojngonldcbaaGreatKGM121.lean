/- DERIVED. Walks: the draws of bounds. -/
import Derived.Test.YtkoojngonldcbaaGreatKGM107
import Derived.Test.YtkoojngonldcbaaGreatKGM113
import Derived.Test.YtkoojngonldcbaaGreatKGM117
import Derived.Test.YtkoojngonldcbaaGreatKGM56
import Derived.Test.YtkoojngonldcbaaGreatKGM59
namespace Go.Proofs.YtkoojngonldcbaaGreat
set_option linter.unusedVariables false
set_option linter.unusedSimpArgs false
open Go.RowKit
set_option maxRecDepth 100000
set_option maxHeartbeats 2000000 in
theorem w_l10Draw (k : Nat) (c : Value) (w : World) (h : Src w k c) :
 Calls Tryz.prog 151 #[.pointer (some ⟨k, 0, none⟩)] w fun e w' => ∃ r : Ers, e = .returned (.agg #[.int .i64 r.en, .int .i64 r.pa, .int .i64 r.ey]) ∧ Drawn w w' k ∧ Src w' k c := by
 have hk := h.lt
 go_enter Tryz.func151, Tryz.ntmps151
 go_wp2_with fail
 refine (w_l01Next k c 4 _ qsh).mono ?_
 rintro e w1 ⟨x1, rfl, x1a, x1b, hD, hS1⟩
 have hz1 : w.heap.size ≤ w1.heap.size := qsz hD.size
 have hD1 : Drawn w w1 k := Drawn.trans qdh hD
 have HK0_1 := Lib.hid (hD.keep (j := w.heap.size) qkh (by omega))
 clear hD
 obtain ⟨c0, f0, z0_1⟩ := blk_at HK0_1.out
 go_wp2_with fail
 refine (w_l01Next k c 6 _ qsh).mono ?_
 rintro e w2 ⟨x2, rfl, x2a, x2b, hD, hS2⟩
 have hz2 : w1.heap.size ≤ w2.heap.size := qsz hD.size
 have hD2 : Drawn w w2 k := Drawn.trans qdh hD
 have HK0_2 := Lib.hid (hD.keep (j := w.heap.size) qkh (by omega))
 clear hD c0 f0
 obtain ⟨c0, f0, z0_2⟩ := blk_at HK0_2.out
 go_wp2_with fail
 refine (w_l01Next k c 12 _ qsh).mono ?_
 rintro e w3 ⟨x3, rfl, x3a, x3b, hD, hS3⟩
 have hz3 : w2.heap.size ≤ w3.heap.size := qsz hD.size
 have hD3 : Drawn w w3 k := Drawn.trans qdh hD
 have HK0_3 := Lib.hid (hD.keep (j := w.heap.size) qkh (by omega))
 clear hD c0 f0
 obtain ⟨c0, f0, z0_3⟩ := blk_at HK0_3.out
 go_wp2_with fail
 refine (w_l01Next k c 20 _ qsh).mono ?_
 rintro e w4 ⟨x4, rfl, x4a, x4b, hD, hS4⟩
 have hz4 : w3.heap.size ≤ w4.heap.size := qsz hD.size
 have hD4 : Drawn w w4 k := Drawn.trans qdh hD
 have HK0_4 := Lib.hid (hD.keep (j := w.heap.size) qkh (by omega))
 have HK1_4 := Lib.hid (hD.keep (j := w3.heap.size) qkh (by omega))
 clear hD c0 f0
 obtain ⟨c0, f0, z0_4⟩ := blk_at HK0_4.out
 obtain ⟨c1, f1, z1_4⟩ := blk_at HK1_4.out
 by_cases hq : x4 = 0
 · skip
   obtain rfl := hq
   go_wp2_with fail
   refine (w_l01Pick k c _ [-1, 200, 201] _ qsh (reads_new' _ _ [-1, 200, 201] (by simp) (by first | rfl | (simp; done))) (by simp) (allIn_new (by omega))).mono ?_
   rintro e w5 ⟨x5, rfl, x5m, hD, hS5⟩
   have hz5 : w4.heap.size ≤ w5.heap.size := qsz hD.size
   have hD5 : Drawn w w5 k := Drawn.trans qdh hD
   have HK0_5 := Lib.hid (hD.keep (j := w.heap.size) qkh (by omega))
   have HK1_5 := Lib.hid (hD.keep (j := w3.heap.size) qkh (by omega))
   clear hD c0 f0 c1 f1
   obtain ⟨c0, f0, z0_5⟩ := blk_at HK0_5.out
   obtain ⟨c1, f1, z1_5⟩ := blk_at HK1_5.out
   go_wp2
   refine bodyPost_ret (v := .agg #[.int .i64 x1, .int .i64 x2, .int .i64 x5]) (by simp [results, Tryz.results151, go_sem, c0, z0_5]) rfl ⟨⟨x1, x2, x5⟩, rfl, qdh, qsh⟩
 have hqb : (x4 == 0) = false := by simpa using hq
 by_cases hq2 : x4 = 1
 · skip
   obtain rfl := hq2
   go_wp2_with fail
   refine (w_l01Pick k c _ [-1, 200, 201] _ qsh (reads_new' _ _ [-1, 200, 201] (by simp) (by first | rfl | (simp; done))) (by simp) (allIn_new (by omega))).mono ?_
   rintro e w5 ⟨x5, rfl, x5m, hD, hS5⟩
   have hz5 : w4.heap.size ≤ w5.heap.size := qsz hD.size
   have hD5 : Drawn w w5 k := Drawn.trans qdh hD
   have HK0_5 := Lib.hid (hD.keep (j := w.heap.size) qkh (by omega))
   have HK1_5 := Lib.hid (hD.keep (j := w3.heap.size) qkh (by omega))
   clear hD c0 f0 c1 f1
   obtain ⟨c0, f0, z0_5⟩ := blk_at HK0_5.out
   obtain ⟨c1, f1, z1_5⟩ := blk_at HK1_5.out
   go_wp2
   refine bodyPost_ret (v := .agg #[.int .i64 x5, .int .i64 x2, .int .i64 x3]) (by simp [results, Tryz.results151, go_sem, c0, z0_5]) rfl ⟨⟨x5, x2, x3⟩, rfl, qdh, qsh⟩
 have hqb2 : (x4 == 1) = false := by simpa using hq2
 by_cases hq3 : x4 = 2
 · skip
   obtain rfl := hq3
   go_wp2
   refine bodyPost_ret (v := .agg #[.int .i64 0, .int .i64 0, .int .i64 0]) (by simp [results, Tryz.results151, go_sem, c0, z0_4]) rfl ⟨⟨0, 0, 0⟩, rfl, qdh, qsh⟩
 · have hqb3 : (x4 == 2) = false := by simpa using hq3
   go_wp2
   refine bodyPost_ret (v := .agg #[.int .i64 x1, .int .i64 x2, .int .i64 x3]) (by simp [results, Tryz.results151, go_sem, c0, z0_4]) rfl ⟨⟨x1, x2, x3⟩, rfl, qdh, qsh⟩
set_option maxHeartbeats 4000000 in
theorem w_DrawPlanUnits (c : Value) (bs : List Int) (w : World) (h : IsByts w c bs) (hB : ∀ b ∈ bs, 0 ≤ b ∧ b ≤ 255) (hl : bs.length ≤ 4096) :
 Calls Tryz.prog 88 #[c] w fun e w' => ∃ (n : Int) (u v : Value) (st sd : List Int) (y : Value) (c' : List Trm) (r : Ers), e = .returned (.tuple #[.agg #[.int .i64 n, u, v], y, .agg #[.int .i64 r.en, .int .i64 r.pa, .int .i64 r.ey]]) ∧ w'.ownsRow w.heap.size 2 1 u st.length (nums st) ∧ w'.ownsRow w.heap.size 2 1 v sd.length (nums sd) ∧ st.length ≤ 5 ∧ sd.length ≤ 5 ∧ w'.ownsRow w.heap.size 93 3 y c'.length (trms c') ∧ c'.length ≤ 7 ∧ Later w w' := by
 go_enter Tryz.func88, Tryz.ntmps88
 go_wp2_with fail
 refine (w_l01From' c bs _ (h.later (qla)) hB hl).mono ?_
 rintro e w1 ⟨k, rfl, hk0, hL1, hS1⟩
 have hk0 : w.heap.size + 2 ≤ k := by simpa using hk0
 have hk := hS1.lt
 have hAc := byts_in h
 have hD1 : Drawn w w1 k := Drawn.later (by repeat (with_reducible first | exact grown_refl _ _ | refine Drawn.alloc ?_ _)) hL1
 have HK0_1 := Lib.hid (hL1.keep (k := w.heap.size) qkh)
 have HK1_1 := Lib.hid (hL1.keep (k := w.heap.size + 1) qkh)
 obtain ⟨c0, f0, z0_1⟩ := blk_at HK0_1.out
 obtain ⟨c1, f1, z1_1⟩ := blk_at HK1_1.out
 have hz1 := hD1.size
 have hIB : IsByts w1 c bs := (h.later (qla)).later hL1
 clear hL1
 go_wp2_with fail
 refine (w_DrawPlanFor c bs _ (hIB.later (qla)) hB hl).mono ?_
 rintro e w2 ⟨n, vu, vv, st, sd, vy, l, rfl, hOu, hOv, hu5, hv5, hOy, hl7, hL⟩
 have hz2 : w1.heap.size ≤ w2.heap.size := qsz hL.size
 have hD2 : Drawn w w2 k := Drawn.later qdh hL
 have hS2 : Src w2 k c := Src.later qsh hL
 have HK0_2 := Lib.hid (hL.keep (k := w.heap.size) qkh)
 have HK1_2 := Lib.hid (hL.keep (k := w.heap.size + 1) qkh)
 clear hL c0 f0 c1 f1
 obtain ⟨c0, f0, z0_2⟩ := blk_at HK0_2.out
 obtain ⟨c1, f1, z1_2⟩ := blk_at HK1_2.out
 obtain ⟨au, capu, rfl⟩ := isSl_of hOu
 have HOu_2 := Lib.hid (owns_base (base' := w1.heap.size) hOu (by first | omega | (simp; omega)))
 clear hOu
 obtain ⟨av, capv, rfl⟩ := isSl_of hOv
 have HOv_2 := Lib.hid (owns_base (base' := w1.heap.size) hOv (by first | omega | (simp; omega)))
 clear hOv
 obtain ⟨ay, capy, rfl⟩ := isSl_of hOy
 have HOy_2 := Lib.hid (owns_base (base' := w1.heap.size) hOy (by first | omega | (simp; omega)))
 clear hOy
 have hnu6 := ne_own (k := w2.heap.size) HOu_2.out (by omega)
 have hnv6 := ne_own (k := w2.heap.size) HOv_2.out (by omega)
 have hny6 := ne_own (k := w2.heap.size) HOy_2.out (by omega)
 go_wp2_with fail
 have hD0 : Drawn w (w2.alloc (.cells #[.int .i64 n, .slice au st.length capu, .slice av sd.length capv] 26)) k := qdh
 have hS0 : Src (w2.alloc (.cells #[.int .i64 n, .slice au st.length capu, .slice av sd.length capv] 26)) k c := qsh
 have Q6 : (w2.alloc (.cells #[.int .i64 n, .slice au st.length capu, .slice av sd.length capv] 26)).heap[w2.heap.size]? = some (.cells #[.int .i64 n, .slice au st.length capu, .slice av sd.length capv] 26 (0, 0)) := heap_alloc_new' _ _ (by first | rfl | (simp; done))
 have Q0 : (w2.alloc (.cells #[.int .i64 n, .slice au st.length capu, .slice av sd.length capv] 26)).heap[w.heap.size]? = some (.cells #[.int .i64 0, .slice none 0 0, .slice none 0 0] 26 (0, 0)) := qkh
 have Q1 : (w2.alloc (.cells #[.int .i64 n, .slice au st.length capu, .slice av sd.length capv] 26)).heap[w.heap.size + 1]? = some (.cells #[.int .i64 0, .int .i64 0, .int .i64 0] 60 (0, 0)) := qkh
 have Qu : (w2.alloc (.cells #[.int .i64 n, .slice au st.length capu, .slice av sd.length capv] 26)).ownsRow w1.heap.size 2 1 (.slice au st.length capu) st.length (nums st) := (qoh HOu_2)
 have Qv : (w2.alloc (.cells #[.int .i64 n, .slice au st.length capu, .slice av sd.length capv] 26)).ownsRow w1.heap.size 2 1 (.slice av sd.length capv) sd.length (nums sd) := (qoh HOv_2)
 have Qy : (w2.alloc (.cells #[.int .i64 n, .slice au st.length capu, .slice av sd.length capv] 26)).ownsRow w1.heap.size 93 3 (.slice ay l.length capy) l.length (trms l) := (qoh HOy_2)
 have hnu0 := ne_low (k := w.heap.size) Qu (by omega)
 have hnu1 := ne_low (k := w.heap.size + 1) Qu (by omega)
 have hnv0 := ne_low (k := w.heap.size) Qv (by omega)
 have hnv1 := ne_low (k := w.heap.size + 1) Qv (by omega)
 have hny0 := ne_low (k := w.heap.size) Qy (by omega)
 have hny1 := ne_low (k := w.heap.size + 1) Qy (by omega)
 clear c0 f0 c1 f1
 refine region_slots 19 [15, 16, 17, 18, 3] (fun g ac wc => sl ac 2 = .pointer (some ⟨w.heap.size, 0, none⟩) ∧
  sl ac 4 = .pointer (some ⟨w.heap.size + 1, 0, none⟩) ∧
  sl ac 5 = .pointer (some ⟨k, 0, none⟩) ∧
  sl ac 6 = .pointer (some ⟨w2.heap.size, 0, none⟩) ∧
  sl ac 7 = .slice ay l.length capy ∧
  (g 0 = true → (sl ac 15) = .agg #[.int .i64 n, .slice au st.length capu, .slice av sd.length capv]) ∧
  (g 1 = true → (sl ac 16) = .slice ay l.length capy) ∧
  (g 2 = true → (sl ac 17) = .pointer (some ⟨k, 0, none⟩)) ∧
  (g 3 = true → ∃ r : Ers, (sl ac 18) = .agg #[.int .i64 r.en, .int .i64 r.pa, .int .i64 r.ey]) ∧
  (g 5 = true → (sl ac 3) = .slice ay l.length capy) ∧
  Drawn w wc k ∧
  Src wc k c ∧
  wc.ownsRow w1.heap.size 2 1 (.slice au st.length capu) st.length (nums st) ∧
  wc.ownsRow w1.heap.size 2 1 (.slice av sd.length capv) sd.length (nums sd) ∧
  wc.ownsRow w1.heap.size 93 3 (.slice ay l.length capy) l.length (trms l) ∧
  wc.heap[w2.heap.size]? = some (.cells #[.int .i64 n, .slice au st.length capu, .slice av sd.length capv] 26 (0, 0)) ∧
  (g 4 = false → wc.heap[w.heap.size]? = some (.cells #[.int .i64 0, .slice none 0 0, .slice none 0 0] 26 (0, 0))) ∧
  (g 4 = true → wc.heap[w.heap.size]? = some (.cells #[.int .i64 n, .slice au st.length capu, .slice av sd.length capv] 26 (0, 0))) ∧
  (g 6 = false → wc.heap[w.heap.size + 1]? = some (.cells #[.int .i64 0, .int .i64 0, .int .i64 0] 60 (0, 0))) ∧
  (g 6 = true → ∃ m : Ers, wc.heap[w.heap.size + 1]? = some (.cells #[.int .i64 m.en, .int .i64 m.pa, .int .i64 m.ey] 60 (0, 0))) ∧
  (g 3 = true → g 2 = true) ∧
  (g 4 = true → g 0 = true) ∧
  (g 5 = true → g 1 = true) ∧
  (g 6 = true → g 3 = true)) (by kernel_rfl) (by kernel_rfl) rfl (by kernel_rfl) ?_ ?_ ?_
 · exact ⟨rfl, rfl, rfl, rfl, rfl, nofun, nofun, nofun, nofun, nofun, hD0.drew, hS0.drew, owns_later Qu (Later.refl _).drew, owns_later Qv (Later.refl _).drew, owns_later Qy (Later.refl _).drew, Q6, fun _ => Q0, nofun, fun _ => Q1, nofun, nofun, nofun, nofun, nofun⟩
 · intro g ac wu hg ha hI
   obtain ⟨xi2, xi4, xi5, xi6, xi7, i0, i1, i2, i3, i5, hD, hS, Ou, Ov, Oy, B6, -, N0, -, N1, -, -, -, -⟩ := hI
   obtain e0 := i0 (hg 0 (by simp))
   obtain e1 := i1 (hg 1 (by simp))
   obtain e2 := i2 (hg 2 (by simp))
   obtain ⟨rd3, e3⟩ := i3 (hg 3 (by simp))
   obtain e5 := i5 (hg 5 (by simp))
   replace N0 := N0 (hg 4 (by simp))
   replace N1 := N1 (hg 6 (by simp))
   obtain ⟨mr, N1⟩ := N1
   simp only [putAll, e0, e1, e2, e3, e5] at ha
   simp only [Act.put, List.setIfInBounds_toArray, List.set_cons_succ, List.set_cons_zero] at ha
   rw [ha]
   clear xi2 xi4 xi5 xi6 xi7 i0 i1 i2 i3 i5 e0 e1 e2 e3 e5 hg ha
   have hc0 := (blk_at N0).1
   have hz0' := (blk_at N0).2.2
   have hc1 := (blk_at N1).1
   have hz1' := (blk_at N1).2.2
   have HDu := Lib.hid hD
   have HUu := Lib.hid Ou
   have HVu := Lib.hid Ov
   have HYu := Lib.hid Oy
   clear hD hS Ou Ov Oy B6 N0 N1
   go_wp2
   refine bodyPost_ret (v := .tuple #[.agg #[.int .i64 n, .slice au st.length capu, .slice av sd.length capv], .slice ay l.length capy, .agg #[.int .i64 mr.en, .int .i64 mr.pa, .int .i64 mr.ey]]) (by simp [results, Tryz.results88, go_sem, hc0, hz0', hc1, hz1']) rfl ⟨n, _, _, st, sd, _, l, mr, rfl, owns_base HUu.out (by omega), owns_base HVu.out (by omega), hu5, hv5, owns_base HYu.out (by omega), hl7, Later.drawn (k := k) (Later.refl w) (by omega) HDu.out⟩
 · refine .cons ?_ (.cons ?_ (.cons ?_ (.cons ?_ (.cons ?_ (.cons ?_ (.cons ?_ .nil))))))
   · refine qst fun g ac wc hn hk hr HI K' hK => ?_
     obtain ⟨xi2, xi4, xi5, xi6, xi7, -, -, -, -, -, hD, hS, Ou, Ov, Oy, B6, R0, N0, R1, N1, m3_2, m4_0, m5_1, m6_3⟩ := HI.out
     simp [Region.binds] at hr
     have zi6 := sl_get xi6 (by omega)
     obtain ⟨cb, fb, zb⟩ := blk_at B6
     go_simp
     obtain ⟨-, -, -, -, -, i0, i1, i2, i3, i5, -⟩ := HI.out
     exact hK.out _ _ ⟨qB xi2, qB xi4, qB xi5, qB xi6, qB xi7, qP, (fun h => by rw [put_ne (by decide)]; exact i1 h), (fun h => by rw [put_ne (by decide)]; exact i2 h), (fun h => by rw [put_ne (by decide)]; exact i3 h), (fun h => by rw [put_ne (by decide)]; exact i5 h), hD, hS, Ou, Ov, Oy, B6, (fun h => (R0 h)), (fun h => N0 h), (fun h => (R1 h)), (fun h => N1 h), m3_2, (fun _ => rfl), m5_1, m6_3⟩
   · refine qst fun g ac wc hn hk hr HI K' hK => ?_
     obtain ⟨xi2, xi4, xi5, xi6, xi7, -, -, -, -, -, hD, hS, Ou, Ov, Oy, B6, R0, N0, R1, N1, m3_2, m4_0, m5_1, m6_3⟩ := HI.out
     simp [Region.binds] at hr
     have zi7 := sl_get xi7 (by omega)
     go_simp
     obtain ⟨-, -, -, -, -, i0, i1, i2, i3, i5, -⟩ := HI.out
     exact hK.out _ _ ⟨qB xi2, qB xi4, qB xi5, qB xi6, qB xi7, (fun h => by rw [put_ne (by decide)]; exact i0 h), qP, (fun h => by rw [put_ne (by decide)]; exact i2 h), (fun h => by rw [put_ne (by decide)]; exact i3 h), (fun h => absurd (m5_1 h) (by rw [hk]; simp)), hD, hS, Ou, Ov, Oy, B6, (fun h => (R0 h)), (fun h => N0 h), (fun h => (R1 h)), (fun h => N1 h), m3_2, m4_0, (fun _ => rfl), m6_3⟩
   · refine qst fun g ac wc hn hk hr HI K' hK => ?_
     obtain ⟨xi2, xi4, xi5, xi6, xi7, -, -, -, -, -, hD, hS, Ou, Ov, Oy, B6, R0, N0, R1, N1, m3_2, m4_0, m5_1, m6_3⟩ := HI.out
     simp [Region.binds] at hr
     have zi5 := sl_get xi5 (by omega)
     go_simp
     obtain ⟨-, -, -, -, -, i0, i1, i2, i3, i5, -⟩ := HI.out
     exact hK.out _ _ ⟨qB xi2, qB xi4, qB xi5, qB xi6, qB xi7, (fun h => by rw [put_ne (by decide)]; exact i0 h), (fun h => by rw [put_ne (by decide)]; exact i1 h), qP, (fun h => absurd (m3_2 h) (by rw [hk]; simp)), (fun h => by rw [put_ne (by decide)]; exact i5 h), hD, hS, Ou, Ov, Oy, B6, (fun h => (R0 h)), (fun h => N0 h), (fun h => (R1 h)), (fun h => N1 h), (fun _ => rfl), m4_0, m5_1, m6_3⟩
   · refine qst fun g ac wc hn hk hr HI K' hK => ?_
     obtain ⟨xi2, xi4, xi5, xi6, xi7, -, -, i2, -, -, hD, hS, Ou, Ov, Oy, B6, R0, N0, R1, N1, m3_2, m4_0, m5_1, m6_3⟩ := HI.out
     simp [Region.binds] at hr
     have g2 : g 2 = true := (by simp [hr])
     obtain y2 := i2 g2
     have z2 := sl_get y2 (by omega)
     clear i2
     go_simp
     refine (w_l10Draw k c _ hS).mono ?_
     rintro e w4 ⟨r, rfl, hD4, hS4⟩
     obtain ⟨-, -, -, -, -, i0, i1, i2, i3, i5, -⟩ := HI.out
     exact hK.out _ _ ⟨qB xi2, qB xi4, qB xi5, qB xi6, qB xi7, (fun h => by rw [put_ne (by decide)]; exact i0 h), (fun h => by rw [put_ne (by decide)]; exact i1 h), (fun h => by rw [put_ne (by decide)]; exact i2 h), (fun _ => ⟨_, put_eq (by omega)⟩), (fun h => by rw [put_ne (by decide)]; exact i5 h), (hD.trans hD4), hS4, (hD4.owns Ou (by omega)), (hD4.owns Ov (by omega)), (hD4.owns Oy (by omega)), (hD4.keep B6 (by omega)), (fun h => (hD4.keep (R0 h) (by omega))), (fun h => (hD4.keep (N0 h) (by omega))), (fun h => (hD4.keep (R1 h) (by omega))), (fun h => absurd (m6_3 h) (by rw [hk]; simp)), (fun _ => g2), m4_0, m5_1, (fun _ => rfl)⟩
   · refine qst fun g ac wc hn hk hr HI K' hK => ?_
     obtain ⟨xi2, xi4, xi5, xi6, xi7, i0, -, -, -, -, hD, hS, Ou, Ov, Oy, B6, R0, N0, R1, N1, m3_2, m4_0, m5_1, m6_3⟩ := HI.out
     simp [Region.binds] at hr
     have g0 : g 0 = true := (by simp [hr])
     obtain y0 := i0 g0
     have z0 := sl_get y0 (by omega)
     have zi2 := sl_get xi2 (by omega)
     have hst := hk
     have hbb := blk_at (R0 hst)
     have cb := hbb.1
     have fb := hbb.2.1
     have zb := hbb.2.2
     clear hbb
     clear i0
     go_simp
     obtain ⟨-, -, -, -, -, i0, i1, i2, i3, i5, -⟩ := HI.out
     exact hK.out undef _ ⟨xi2, xi4, xi5, xi6, xi7, (fun h => i0 h), (fun h => i1 h), (fun h => i2 h), (fun h => i3 h), (fun h => i5 h), (((hD.setCell (by omega) _ _).setCell (by omega) _ _).setCell (by omega) _ _), (((hS.setLow (hAc.mono fun b hb => by omega) (by omega) _ _).setLow (hAc.mono fun b hb => by omega) (by omega) _ _).setLow (hAc.mono fun b hb => by omega) (by omega) _ _), (owns_setNe (owns_setNe (owns_setNe Ou (by assumption) _ _) (by assumption) _ _) (by assumption) _ _), (owns_setNe (owns_setNe (owns_setNe Ov (by assumption) _ _) (by assumption) _ _) (by assumption) _ _), (owns_setNe (owns_setNe (owns_setNe Oy (by assumption) _ _) (by assumption) _ _) (by assumption) _ _), (other_set (other_set (other_set B6 (by omega) _) (by omega) _) (by omega) _), (fun h => absurd h (by simp)), (fun _ => st_2_3 (st_1_3 (st_0_3 (R0 hk) _) _) _), (fun h => (other_set (other_set (other_set (R1 h) (by omega) _) (by omega) _) (by omega) _)), (fun h => by obtain ⟨q0, qq⟩ := N1 h; exact ⟨q0, (other_set (other_set (other_set qq (by omega) _) (by omega) _) (by omega) _)⟩), m3_2, (fun _ => g0), m5_1, m6_3⟩
   · refine qst fun g ac wc hn hk hr HI K' hK => ?_
     obtain ⟨xi2, xi4, xi5, xi6, xi7, -, i1, -, -, -, hD, hS, Ou, Ov, Oy, B6, R0, N0, R1, N1, m3_2, m4_0, m5_1, m6_3⟩ := HI.out
     simp [Region.binds] at hr
     have g1 : g 1 = true := (by simp [hr])
     obtain y1 := i1 g1
     have z1 := sl_get y1 (by omega)
     clear i1
     go_simp
     obtain ⟨-, -, -, -, -, i0, i1, i2, i3, i5, -⟩ := HI.out
     exact hK.out _ _ ⟨qB xi2, qB xi4, qB xi5, qB xi6, qB xi7, (fun h => by rw [put_ne (by decide)]; exact i0 h), (fun h => by rw [put_ne (by decide)]; exact i1 h), (fun h => by rw [put_ne (by decide)]; exact i2 h), (fun h => by rw [put_ne (by decide)]; exact i3 h), qP, hD, hS, Ou, Ov, Oy, B6, (fun h => (R0 h)), (fun h => N0 h), (fun h => (R1 h)), (fun h => N1 h), m3_2, m4_0, (fun _ => g1), m6_3⟩
   · refine qst fun g ac wc hn hk hr HI K' hK => ?_
     obtain ⟨xi2, xi4, xi5, xi6, xi7, -, -, -, i3, -, hD, hS, Ou, Ov, Oy, B6, R0, N0, R1, N1, m3_2, m4_0, m5_1, m6_3⟩ := HI.out
     simp [Region.binds] at hr
     have g3 : g 3 = true := (by simp [hr])
     obtain ⟨r3, y3⟩ := i3 g3
     have z3 := sl_get y3 (by omega)
     have zi4 := sl_get xi4 (by omega)
     have hst := hk
     have hbb := blk_at (R1 hst)
     have cb := hbb.1
     have fb := hbb.2.1
     have zb := hbb.2.2
     clear hbb
     clear i3
     go_simp
     obtain ⟨-, -, -, -, -, i0, i1, i2, i3, i5, -⟩ := HI.out
     exact hK.out undef _ ⟨xi2, xi4, xi5, xi6, xi7, (fun h => i0 h), (fun h => i1 h), (fun h => i2 h), (fun h => i3 h), (fun h => i5 h), (((hD.setCell (by omega) _ _).setCell (by omega) _ _).setCell (by omega) _ _), (((hS.setLow (hAc.mono fun b hb => by omega) (by omega) _ _).setLow (hAc.mono fun b hb => by omega) (by omega) _ _).setLow (hAc.mono fun b hb => by omega) (by omega) _ _), (owns_setNe (owns_setNe (owns_setNe Ou (by assumption) _ _) (by assumption) _ _) (by assumption) _ _), (owns_setNe (owns_setNe (owns_setNe Ov (by assumption) _ _) (by assumption) _ _) (by assumption) _ _), (owns_setNe (owns_setNe (owns_setNe Oy (by assumption) _ _) (by assumption) _ _) (by assumption) _ _), (other_set (other_set (other_set B6 (by omega) _) (by omega) _) (by omega) _), (fun h => (other_set (other_set (other_set (R0 h) (by omega) _) (by omega) _) (by omega) _)), (fun h => (other_set (other_set (other_set (N0 h) (by omega) _) (by omega) _) (by omega) _)), (fun h => absurd h (by simp)), (fun _ => ⟨_, st_2_3 (st_1_3 (st_0_3 (R1 hk) _) _) _⟩), m3_2, m4_0, m5_1, (fun _ => g3)⟩
theorem w_l01PickR (k B : Nat) (c v : Value) (n : Nat) (w : World) (h : Src w k c) (hN : NewR w B v n) (h0 : 0 < n) (hn : n ≤ 1048576) (hk : k < B) :
 Calls Tryz.prog 80 #[.pointer (some ⟨k, 0, none⟩), v] w fun e w' => ∃ x : Int, e = .returned (.int .i64 x) ∧ Drawn w w' k ∧ Src w' k c := by
 obtain ⟨b, xs, hv, hb, hl, ho⟩ := hN
 subst hl
 have hal : AllIn v fun b => b ≠ k := allIn_own ho hk
 exact (w_l01Pick k c v xs w h (reads_of_owns ho (by omega)) h0 hal).mono fun e w' ⟨x, h1, _, h2, h3⟩ => ⟨x, h1, h2, h3⟩
set_option maxHeartbeats 4000000 in
theorem w_DrawErrorsFor (c : Value) (bs : List Int) (w : World) (h : IsByts w c bs) (hB : ∀ b ∈ bs, 0 ≤ b ∧ b ≤ 255) (hl : bs.length ≤ 4096) :
 Calls Tryz.prog 39 #[c] w fun e w' => ∃ (n : Int) (u v : Value) (st sd : List Int) (y : Value) (c' : List Trm) (r : Ers) (x : Int), e = .returned (.tuple #[.agg #[.int .i64 n, u, v], y, .agg #[.int .i64 r.en, .int .i64 r.pa, .int .i64 r.ey], .int .i64 x]) ∧ w'.ownsRow w.heap.size 2 1 u st.length (nums st) ∧ w'.ownsRow w.heap.size 2 1 v sd.length (nums sd) ∧ st.length ≤ 5 ∧ sd.length ≤ 5 ∧ w'.ownsRow w.heap.size 93 3 y c'.length (trms c') ∧ c'.length ≤ 7 ∧ Later w w' := by
 go_enter Tryz.func39, Tryz.ntmps39
 go_wp2_with fail
 refine (w_l01From' c bs _ (h.later (qla)) hB hl).mono ?_
 rintro e w1 ⟨k, rfl, hk0, hL1, hS1⟩
 have hk0 : w.heap.size + 2 ≤ k := by simpa using hk0
 have hk := hS1.lt
 have hAc := byts_in h
 have hD1 : Drawn w w1 k := Drawn.later (by repeat (with_reducible first | exact grown_refl _ _ | refine Drawn.alloc ?_ _)) hL1
 have HK0_1 := Lib.hid (hL1.keep (k := w.heap.size) qkh)
 have HK1_1 := Lib.hid (hL1.keep (k := w.heap.size + 1) qkh)
 obtain ⟨c0, f0, z0_1⟩ := blk_at HK0_1.out
 obtain ⟨c1, f1, z1_1⟩ := blk_at HK1_1.out
 have hz1 := hD1.size
 have hIB : IsByts w1 c bs := (h.later (qla)).later hL1
 clear hL1
 go_wp2_with fail
 refine (w_DrawPlanUnits c bs _ (hIB.later (qla)) hB hl).mono ?_
 rintro e w2 ⟨n, vu, vv, st, sd, vy, l, r, rfl, hOu, hOv, hu5, hv5, hOy, hl7, hL⟩
 have hz2 : w1.heap.size ≤ w2.heap.size := qsz hL.size
 have hD2 : Drawn w w2 k := Drawn.later qdh hL
 have hS2 : Src w2 k c := Src.later qsh hL
 have HK0_2 := Lib.hid (hL.keep (k := w.heap.size) qkh)
 have HK1_2 := Lib.hid (hL.keep (k := w.heap.size + 1) qkh)
 clear hL c0 f0 c1 f1
 obtain ⟨c0, f0, z0_2⟩ := blk_at HK0_2.out
 obtain ⟨c1, f1, z1_2⟩ := blk_at HK1_2.out
 obtain ⟨au, capu, rfl⟩ := isSl_of hOu
 have HOu_2 := Lib.hid (owns_base (base' := w1.heap.size) hOu (by first | omega | (simp; omega)))
 clear hOu
 obtain ⟨av, capv, rfl⟩ := isSl_of hOv
 have HOv_2 := Lib.hid (owns_base (base' := w1.heap.size) hOv (by first | omega | (simp; omega)))
 clear hOv
 obtain ⟨ay, capy, rfl⟩ := isSl_of hOy
 have HOy_2 := Lib.hid (owns_base (base' := w1.heap.size) hOy (by first | omega | (simp; omega)))
 clear hOy
 have hnu6 := ne_own (k := w2.heap.size) HOu_2.out (by omega)
 have hnv6 := ne_own (k := w2.heap.size) HOv_2.out (by omega)
 have hny6 := ne_own (k := w2.heap.size) HOy_2.out (by omega)
 have hnu8 := ne_own (k := w2.heap.size + 1) HOu_2.out (by omega)
 have hnv8 := ne_own (k := w2.heap.size + 1) HOv_2.out (by omega)
 have hny8 := ne_own (k := w2.heap.size + 1) HOy_2.out (by omega)
 go_wp2_with fail
 obtain ⟨B, hBe, hBi⟩ : ∃ B, B = (((w2.alloc (.cells #[.int .i64 n, .slice au st.length capu, .slice av sd.length capv] 26)).alloc (.cells #[.int .i64 r.en, .int .i64 r.pa, .int .i64 r.ey] 60))).heap.size ∧ w2.heap.size + 1 + 1 ≤ B := ⟨_, rfl, by simp⟩
 have hZ0 : B ≤ (((w2.alloc (.cells #[.int .i64 n, .slice au st.length capu, .slice av sd.length capv] 26)).alloc (.cells #[.int .i64 r.en, .int .i64 r.pa, .int .i64 r.ey] 60))).drew.heap.size := Nat.le_of_eq hBe
 have hD0 : Drawn w ((w2.alloc (.cells #[.int .i64 n, .slice au st.length capu, .slice av sd.length capv] 26)).alloc (.cells #[.int .i64 r.en, .int .i64 r.pa, .int .i64 r.ey] 60)) k := qdh
 have hS0 : Src ((w2.alloc (.cells #[.int .i64 n, .slice au st.length capu, .slice av sd.length capv] 26)).alloc (.cells #[.int .i64 r.en, .int .i64 r.pa, .int .i64 r.ey] 60)) k c := qsh
 have Q6 : ((w2.alloc (.cells #[.int .i64 n, .slice au st.length capu, .slice av sd.length capv] 26)).alloc (.cells #[.int .i64 r.en, .int .i64 r.pa, .int .i64 r.ey] 60)).heap[w2.heap.size]? = some (.cells #[.int .i64 n, .slice au st.length capu, .slice av sd.length capv] 26 (0, 0)) := heap_alloc_old _ _ (heap_alloc_new _ _)
 have Q8 : ((w2.alloc (.cells #[.int .i64 n, .slice au st.length capu, .slice av sd.length capv] 26)).alloc (.cells #[.int .i64 r.en, .int .i64 r.pa, .int .i64 r.ey] 60)).heap[w2.heap.size + 1]? = some (.cells #[.int .i64 r.en, .int .i64 r.pa, .int .i64 r.ey] 60 (0, 0)) := heap_alloc_new' _ _ (by first | rfl | (simp; done))
 have Q0 : ((w2.alloc (.cells #[.int .i64 n, .slice au st.length capu, .slice av sd.length capv] 26)).alloc (.cells #[.int .i64 r.en, .int .i64 r.pa, .int .i64 r.ey] 60)).heap[w.heap.size]? = some (.cells #[.int .i64 0, .slice none 0 0, .slice none 0 0] 26 (0, 0)) := qkh
 have Q1 : ((w2.alloc (.cells #[.int .i64 n, .slice au st.length capu, .slice av sd.length capv] 26)).alloc (.cells #[.int .i64 r.en, .int .i64 r.pa, .int .i64 r.ey] 60)).heap[w.heap.size + 1]? = some (.cells #[.int .i64 0, .int .i64 0, .int .i64 0] 60 (0, 0)) := qkh
 have Qu : ((w2.alloc (.cells #[.int .i64 n, .slice au st.length capu, .slice av sd.length capv] 26)).alloc (.cells #[.int .i64 r.en, .int .i64 r.pa, .int .i64 r.ey] 60)).ownsRow w1.heap.size 2 1 (.slice au st.length capu) st.length (nums st) := (qoh HOu_2)
 have Qv : ((w2.alloc (.cells #[.int .i64 n, .slice au st.length capu, .slice av sd.length capv] 26)).alloc (.cells #[.int .i64 r.en, .int .i64 r.pa, .int .i64 r.ey] 60)).ownsRow w1.heap.size 2 1 (.slice av sd.length capv) sd.length (nums sd) := (qoh HOv_2)
 have Qy : ((w2.alloc (.cells #[.int .i64 n, .slice au st.length capu, .slice av sd.length capv] 26)).alloc (.cells #[.int .i64 r.en, .int .i64 r.pa, .int .i64 r.ey] 60)).ownsRow w1.heap.size 93 3 (.slice ay l.length capy) l.length (trms l) := (qoh HOy_2)
 have hnu0 := ne_low (k := w.heap.size) Qu (by omega)
 have hnu1 := ne_low (k := w.heap.size + 1) Qu (by omega)
 have hnv0 := ne_low (k := w.heap.size) Qv (by omega)
 have hnv1 := ne_low (k := w.heap.size + 1) Qv (by omega)
 have hny0 := ne_low (k := w.heap.size) Qy (by omega)
 have hny1 := ne_low (k := w.heap.size + 1) Qy (by omega)
 clear c0 f0 c1 f1
 refine region_slots 26 [18, 19, 20, 21, 22, 23, 24, 25, 3, 5] (fun g ac wc => sl ac 2 = .pointer (some ⟨w.heap.size, 0, none⟩) ∧
  sl ac 4 = .pointer (some ⟨w.heap.size + 1, 0, none⟩) ∧
  sl ac 6 = .pointer (some ⟨k, 0, none⟩) ∧
  sl ac 7 = .pointer (some ⟨w2.heap.size, 0, none⟩) ∧
  sl ac 8 = .slice ay l.length capy ∧
  sl ac 9 = .pointer (some ⟨w2.heap.size + 1, 0, none⟩) ∧
  (g 0 = true → (sl ac 18) = .agg #[.int .i64 n, .slice au st.length capu, .slice av sd.length capv]) ∧
  (g 1 = true → (sl ac 19) = .slice ay l.length capy) ∧
  (g 2 = true → (sl ac 20) = .agg #[.int .i64 r.en, .int .i64 r.pa, .int .i64 r.ey]) ∧
  (g 3 = true → (sl ac 21) = .pointer (some ⟨k, 0, none⟩)) ∧
  (g 4 = true → (sl ac 22) = .pointer (some ⟨k, 0, none⟩)) ∧
  (g 5 = true → (∃ x : Int, (sl ac 23) = .int .i64 x ∧ 0 ≤ x ∧ x ≤ 10000)) ∧
  (g 6 = true → NewR wc B (sl ac 24) 8) ∧
  (g 7 = true → ∃ x : Int, (sl ac 25) = .int .i64 x) ∧
  (g 9 = true → (sl ac 3) = .slice ay l.length capy) ∧
  (g 11 = true → ∃ x : Int, (sl ac 5) = .int .i64 x) ∧
  Drawn w wc k ∧
  Src wc k c ∧
  B ≤ wc.heap.size ∧
  wc.ownsRow w1.heap.size 2 1 (.slice au st.length capu) st.length (nums st) ∧
  wc.ownsRow w1.heap.size 2 1 (.slice av sd.length capv) sd.length (nums sd) ∧
  wc.ownsRow w1.heap.size 93 3 (.slice ay l.length capy) l.length (trms l) ∧
  wc.heap[w2.heap.size]? = some (.cells #[.int .i64 n, .slice au st.length capu, .slice av sd.length capv] 26 (0, 0)) ∧
  wc.heap[w2.heap.size + 1]? = some (.cells #[.int .i64 r.en, .int .i64 r.pa, .int .i64 r.ey] 60 (0, 0)) ∧
  (g 8 = false → wc.heap[w.heap.size]? = some (.cells #[.int .i64 0, .slice none 0 0, .slice none 0 0] 26 (0, 0))) ∧
  (g 8 = true → wc.heap[w.heap.size]? = some (.cells #[.int .i64 n, .slice au st.length capu, .slice av sd.length capv] 26 (0, 0))) ∧
  (g 10 = false → wc.heap[w.heap.size + 1]? = some (.cells #[.int .i64 0, .int .i64 0, .int .i64 0] 60 (0, 0))) ∧
  (g 10 = true → wc.heap[w.heap.size + 1]? = some (.cells #[.int .i64 r.en, .int .i64 r.pa, .int .i64 r.ey] 60 (0, 0))) ∧
  (g 5 = true → g 4 = true) ∧
  (g 6 = true → g 5 = true) ∧
  (g 7 = true → g 3 = true) ∧
  (g 7 = true → g 6 = true) ∧
  (g 8 = true → g 0 = true) ∧
  (g 9 = true → g 1 = true) ∧
  (g 10 = true → g 2 = true) ∧
  (g 11 = true → g 7 = true)) (by kernel_rfl) (by kernel_rfl) rfl (by kernel_rfl) ?_ ?_ ?_
 · exact ⟨rfl, rfl, rfl, rfl, rfl, rfl, nofun, nofun, nofun, nofun, nofun, nofun, nofun, nofun, nofun, nofun, hD0.drew, hS0.drew, hZ0, owns_later Qu (Later.refl _).drew, owns_later Qv (Later.refl _).drew, owns_later Qy (Later.refl _).drew, Q6, Q8, fun _ => Q0, nofun, fun _ => Q1, nofun, nofun, nofun, nofun, nofun, nofun, nofun, nofun, nofun⟩
 · intro g ac wu hg ha hI
   obtain ⟨xi2, xi4, xi6, xi7, xi8, xi9, i0, i1, i2, i3, i4, i5, i6, i7, i9, i11, hD, hS, hZ, Ou, Ov, Oy, B6, B8, -, N0, -, N1, -, -, -, -, -, -, -, -⟩ := hI
   obtain e0 := i0 (hg 0 (by simp))
   obtain e1 := i1 (hg 1 (by simp))
   obtain e2 := i2 (hg 2 (by simp))
   obtain e3 := i3 (hg 3 (by simp))
   obtain e4 := i4 (hg 4 (by simp))
   obtain ⟨xd5, e5, xad5, xbd5⟩ := i5 (hg 5 (by simp))
   obtain ⟨bd6, xsd6, e6, hned6, hxld6, hrdd6⟩ := i6 (hg 6 (by simp))
   obtain ⟨xd7, e7⟩ := i7 (hg 7 (by simp))
   obtain e9 := i9 (hg 9 (by simp))
   obtain ⟨xd11, e11⟩ := i11 (hg 11 (by simp))
   replace N0 := N0 (hg 8 (by simp))
   replace N1 := N1 (hg 10 (by simp))
   simp only [putAll, e0, e1, e2, e3, e4, e5, e6, e7, e9, e11] at ha
   simp only [Act.put, List.setIfInBounds_toArray, List.set_cons_succ, List.set_cons_zero] at ha
   rw [ha]
   clear xi2 xi4 xi6 xi7 xi8 xi9 i0 i1 i2 i3 i4 i5 i6 i7 i9 i11 e0 e1 e2 e3 e4 e5 e6 e7 e9 e11 hg ha
   have hc0 := (blk_at N0).1
   have hz0' := (blk_at N0).2.2
   have hc1 := (blk_at N1).1
   have hz1' := (blk_at N1).2.2
   have HDu := Lib.hid hD
   have HUu := Lib.hid Ou
   have HVu := Lib.hid Ov
   have HYu := Lib.hid Oy
   clear hD hS Ou Ov Oy B6 B8 N0 N1
   go_wp2
   refine bodyPost_ret (v := .tuple #[.agg #[.int .i64 n, .slice au st.length capu, .slice av sd.length capv], .slice ay l.length capy, .agg #[.int .i64 r.en, .int .i64 r.pa, .int .i64 r.ey], .int .i64 xd11]) (by simp [results, Tryz.results39, go_sem, hc0, hz0', hc1, hz1']) rfl ⟨n, _, _, st, sd, _, l, r, xd11, rfl, owns_base HUu.out (by omega), owns_base HVu.out (by omega), hu5, hv5, owns_base HYu.out (by omega), hl7, Later.drawn (k := k) (Later.refl w) (by omega) HDu.out⟩
 · refine .cons ?_ (.cons ?_ (.cons ?_ (.cons ?_ (.cons ?_ (.cons ?_ (.cons ?_ (.cons ?_ (.cons ?_ (.cons ?_ (.cons ?_ (.cons ?_ .nil)))))))))))
   · refine qst fun g ac wc hn hk hr HI K' hK => ?_
     obtain ⟨xi2, xi4, xi6, xi7, xi8, xi9, -, -, -, -, -, -, -, -, -, -, hD, hS, hZ, Ou, Ov, Oy, B6, B8, R0, N0, R1, N1, m5_4, m6_5, m7_3, m7_6, m8_0, m9_1, m10_2, m11_7⟩ := HI.out
     simp [Region.binds] at hr
     have zi7 := sl_get xi7 (by omega)
     obtain ⟨cb, fb, zb⟩ := blk_at B6
     go_simp
     obtain ⟨-, -, -, -, -, -, i0, i1, i2, i3, i4, i5, i6, i7, i9, i11, -⟩ := HI.out
     exact hK.out _ _ ⟨qB xi2, qB xi4, qB xi6, qB xi7, qB xi8, qB xi9, qP, (fun h => by rw [put_ne (by decide)]; exact i1 h), (fun h => by rw [put_ne (by decide)]; exact i2 h), (fun h => by rw [put_ne (by decide)]; exact i3 h), (fun h => by rw [put_ne (by decide)]; exact i4 h), (fun h => by rw [put_ne (by decide)]; exact i5 h), (fun h => by rw [put_ne (by decide)]; exact i6 h), (fun h => by rw [put_ne (by decide)]; exact i7 h), (fun h => by rw [put_ne (by decide)]; exact i9 h), (fun h => by rw [put_ne (by decide)]; exact i11 h), hD, hS, hZ, Ou, Ov, Oy, B6, B8, (fun h => (R0 h)), (fun h => N0 h), (fun h => (R1 h)), (fun h => N1 h), m5_4, m6_5, m7_3, m7_6, (fun _ => rfl), m9_1, m10_2, m11_7⟩
   · refine qst fun g ac wc hn hk hr HI K' hK => ?_
     obtain ⟨xi2, xi4, xi6, xi7, xi8, xi9, -, -, -, -, -, -, -, -, -, -, hD, hS, hZ, Ou, Ov, Oy, B6, B8, R0, N0, R1, N1, m5_4, m6_5, m7_3, m7_6, m8_0, m9_1, m10_2, m11_7⟩ := HI.out
     simp [Region.binds] at hr
     have zi8 := sl_get xi8 (by omega)
     go_simp
     obtain ⟨-, -, -, -, -, -, i0, i1, i2, i3, i4, i5, i6, i7, i9, i11, -⟩ := HI.out
     exact hK.out _ _ ⟨qB xi2, qB xi4, qB xi6, qB xi7, qB xi8, qB xi9, (fun h => by rw [put_ne (by decide)]; exact i0 h), qP, (fun h => by rw [put_ne (by decide)]; exact i2 h), (fun h => by rw [put_ne (by decide)]; exact i3 h), (fun h => by rw [put_ne (by decide)]; exact i4 h), (fun h => by rw [put_ne (by decide)]; exact i5 h), (fun h => by rw [put_ne (by decide)]; exact i6 h), (fun h => by rw [put_ne (by decide)]; exact i7 h), (fun h => absurd (m9_1 h) (by rw [hk]; simp)), (fun h => by rw [put_ne (by decide)]; exact i11 h), hD, hS, hZ, Ou, Ov, Oy, B6, B8, (fun h => (R0 h)), (fun h => N0 h), (fun h => (R1 h)), (fun h => N1 h), m5_4, m6_5, m7_3, m7_6, m8_0, (fun _ => rfl), m10_2, m11_7⟩
   · refine qst fun g ac wc hn hk hr HI K' hK => ?_
     obtain ⟨xi2, xi4, xi6, xi7, xi8, xi9, -, -, -, -, -, -, -, -, -, -, hD, hS, hZ, Ou, Ov, Oy, B6, B8, R0, N0, R1, N1, m5_4, m6_5, m7_3, m7_6, m8_0, m9_1, m10_2, m11_7⟩ := HI.out
     simp [Region.binds] at hr
     have zi9 := sl_get xi9 (by omega)
     obtain ⟨cb, fb, zb⟩ := blk_at B8
     go_simp
     obtain ⟨-, -, -, -, -, -, i0, i1, i2, i3, i4, i5, i6, i7, i9, i11, -⟩ := HI.out
     exact hK.out _ _ ⟨qB xi2, qB xi4, qB xi6, qB xi7, qB xi8, qB xi9, (fun h => by rw [put_ne (by decide)]; exact i0 h), (fun h => by rw [put_ne (by decide)]; exact i1 h), qP, (fun h => by rw [put_ne (by decide)]; exact i3 h), (fun h => by rw [put_ne (by decide)]; exact i4 h), (fun h => by rw [put_ne (by decide)]; exact i5 h), (fun h => by rw [put_ne (by decide)]; exact i6 h), (fun h => by rw [put_ne (by decide)]; exact i7 h), (fun h => by rw [put_ne (by decide)]; exact i9 h), (fun h => by rw [put_ne (by decide)]; exact i11 h), hD, hS, hZ, Ou, Ov, Oy, B6, B8, (fun h => (R0 h)), (fun h => N0 h), (fun h => (R1 h)), (fun h => N1 h), m5_4, m6_5, m7_3, m7_6, m8_0, m9_1, (fun _ => rfl), m11_7⟩
   · refine qst fun g ac wc hn hk hr HI K' hK => ?_
     obtain ⟨xi2, xi4, xi6, xi7, xi8, xi9, -, -, -, -, -, -, -, -, -, -, hD, hS, hZ, Ou, Ov, Oy, B6, B8, R0, N0, R1, N1, m5_4, m6_5, m7_3, m7_6, m8_0, m9_1, m10_2, m11_7⟩ := HI.out
     simp [Region.binds] at hr
     have zi6 := sl_get xi6 (by omega)
     go_simp
     obtain ⟨-, -, -, -, -, -, i0, i1, i2, i3, i4, i5, i6, i7, i9, i11, -⟩ := HI.out
     exact hK.out _ _ ⟨qB xi2, qB xi4, qB xi6, qB xi7, qB xi8, qB xi9, (fun h => by rw [put_ne (by decide)]; exact i0 h), (fun h => by rw [put_ne (by decide)]; exact i1 h), (fun h => by rw [put_ne (by decide)]; exact i2 h), qP, (fun h => by rw [put_ne (by decide)]; exact i4 h), (fun h => by rw [put_ne (by decide)]; exact i5 h), (fun h => by rw [put_ne (by decide)]; exact i6 h), (fun h => absurd (m7_3 h) (by rw [hk]; simp)), (fun h => by rw [put_ne (by decide)]; exact i9 h), (fun h => by rw [put_ne (by decide)]; exact i11 h), hD, hS, hZ, Ou, Ov, Oy, B6, B8, (fun h => (R0 h)), (fun h => N0 h), (fun h => (R1 h)), (fun h => N1 h), m5_4, m6_5, (fun _ => rfl), m7_6, m8_0, m9_1, m10_2, m11_7⟩
   · refine qst fun g ac wc hn hk hr HI K' hK => ?_
     obtain ⟨xi2, xi4, xi6, xi7, xi8, xi9, -, -, -, -, -, -, -, -, -, -, hD, hS, hZ, Ou, Ov, Oy, B6, B8, R0, N0, R1, N1, m5_4, m6_5, m7_3, m7_6, m8_0, m9_1, m10_2, m11_7⟩ := HI.out
     simp [Region.binds] at hr
     have zi6 := sl_get xi6 (by omega)
     go_simp
     obtain ⟨-, -, -, -, -, -, i0, i1, i2, i3, i4, i5, i6, i7, i9, i11, -⟩ := HI.out
     exact hK.out _ _ ⟨qB xi2, qB xi4, qB xi6, qB xi7, qB xi8, qB xi9, (fun h => by rw [put_ne (by decide)]; exact i0 h), (fun h => by rw [put_ne (by decide)]; exact i1 h), (fun h => by rw [put_ne (by decide)]; exact i2 h), (fun h => by rw [put_ne (by decide)]; exact i3 h), qP, (fun h => absurd (m5_4 h) (by rw [hk]; simp)), (fun h => absurd (m5_4 (m6_5 h)) (by rw [hk]; simp)), (fun h => by rw [put_ne (by decide)]; exact i7 h), (fun h => by rw [put_ne (by decide)]; exact i9 h), (fun h => by rw [put_ne (by decide)]; exact i11 h), hD, hS, hZ, Ou, Ov, Oy, B6, B8, (fun h => (R0 h)), (fun h => N0 h), (fun h => (R1 h)), (fun h => N1 h), (fun _ => rfl), m6_5, m7_3, m7_6, m8_0, m9_1, m10_2, m11_7⟩
   · refine qst fun g ac wc hn hk hr HI K' hK => ?_
     obtain ⟨xi2, xi4, xi6, xi7, xi8, xi9, -, -, -, -, i4, -, -, -, -, -, hD, hS, hZ, Ou, Ov, Oy, B6, B8, R0, N0, R1, N1, m5_4, m6_5, m7_3, m7_6, m8_0, m9_1, m10_2, m11_7⟩ := HI.out
     simp [Region.binds] at hr
     have g4 : g 4 = true := (by simp [hr])
     obtain y4 := i4 g4
     have z4 := sl_get y4 (by omega)
     clear i4
     go_simp
     refine (w_l01Next k c 10000 _ hS).mono ?_
     rintro e w4 ⟨x, rfl, x1, x2, hD4, hS4⟩
     obtain ⟨-, -, -, -, -, -, i0, i1, i2, i3, i4, i5, i6, i7, i9, i11, -⟩ := HI.out
     exact hK.out _ _ ⟨qB xi2, qB xi4, qB xi6, qB xi7, qB xi8, qB xi9, (fun h => by rw [put_ne (by decide)]; exact i0 h), (fun h => by rw [put_ne (by decide)]; exact i1 h), (fun h => by rw [put_ne (by decide)]; exact i2 h), (fun h => by rw [put_ne (by decide)]; exact i3 h), (fun h => by rw [put_ne (by decide)]; exact i4 h), (fun _ => ⟨_, put_eq (by omega), x1, by omega⟩), (fun h => absurd (m6_5 h) (by rw [hk]; simp)), (fun h => by rw [put_ne (by decide)]; exact i7 h), (fun h => by rw [put_ne (by decide)]; exact i9 h), (fun h => by rw [put_ne (by decide)]; exact i11 h), (hD.trans hD4), hS4, (Nat.le_trans hZ hD4.size), (hD4.owns Ou (by omega)), (hD4.owns Ov (by omega)), (hD4.owns Oy (by omega)), (hD4.keep B6 (by omega)), (hD4.keep B8 (by omega)), (fun h => (hD4.keep (R0 h) (by omega))), (fun h => (hD4.keep (N0 h) (by omega))), (fun h => (hD4.keep (R1 h) (by omega))), (fun h => (hD4.keep (N1 h) (by omega))), (fun _ => g4), (fun _ => rfl), m7_3, m7_6, m8_0, m9_1, m10_2, m11_7⟩
   · refine qst fun g ac wc hn hk hr HI K' hK => ?_
     obtain ⟨xi2, xi4, xi6, xi7, xi8, xi9, -, -, -, -, -, i5, -, -, -, -, hD, hS, hZ, Ou, Ov, Oy, B6, B8, R0, N0, R1, N1, m5_4, m6_5, m7_3, m7_6, m8_0, m9_1, m10_2, m11_7⟩ := HI.out
     simp [Region.binds] at hr
     have g5 : g 5 = true := (by simp [hr])
     obtain ⟨x5, y5, xa5, xb5⟩ := i5 g5
     have z5 := sl_get y5 (by omega)
     clear i5
     go_simp
     have hL4 := (Later.refl wc).alloc (.cells (nums [1000, 5000, 20000, x5, 0, 1000000, 1000001, -1]).toArray 2)
     obtain ⟨-, -, -, -, -, -, i0, i1, i2, i3, i4, i5, i6, i7, i9, i11, -⟩ := HI.out
     exact hK.out _ _ ⟨qB xi2, qB xi4, qB xi6, qB xi7, qB xi8, qB xi9, (fun h => by rw [put_ne (by decide)]; exact i0 h), (fun h => by rw [put_ne (by decide)]; exact i1 h), (fun h => by rw [put_ne (by decide)]; exact i2 h), (fun h => by rw [put_ne (by decide)]; exact i3 h), (fun h => by rw [put_ne (by decide)]; exact i4 h), (fun h => by rw [put_ne (by decide)]; exact i5 h), (fun _ => by rw [put_eq (by omega)]; exact NewR.mk hZ [1000, 5000, 20000, x5, 0, 1000000, 1000001, -1] (by simp)), (fun h => absurd (m7_6 h) (by rw [hk]; simp)), (fun h => by rw [put_ne (by decide)]; exact i9 h), (fun h => by rw [put_ne (by decide)]; exact i11 h), (hD.later hL4), (hS.later hL4), (Nat.le_trans hZ hL4.size), (owns_later Ou hL4), (owns_later Ov hL4), (owns_later Oy hL4), (hL4.keep B6), (hL4.keep B8), (fun h => (hL4.keep (R0 h))), (fun h => (hL4.keep (N0 h))), (fun h => (hL4.keep (R1 h))), (fun h => (hL4.keep (N1 h))), m5_4, (fun _ => g5), m7_3, (fun _ => rfl), m8_0, m9_1, m10_2, m11_7⟩
   · refine qst fun g ac wc hn hk hr HI K' hK => ?_
     obtain ⟨xi2, xi4, xi6, xi7, xi8, xi9, -, -, -, i3, -, -, i6, -, -, -, hD, hS, hZ, Ou, Ov, Oy, B6, B8, R0, N0, R1, N1, m5_4, m6_5, m7_3, m7_6, m8_0, m9_1, m10_2, m11_7⟩ := HI.out
     simp [Region.binds] at hr
     have g3 : g 3 = true := (by simp [hr])
     obtain y3 := i3 g3
     have z3 := sl_get y3 (by omega)
     have g6 : g 6 = true := (by simp [hr])
     obtain ⟨b6, xs6, y6, hne6, hxl6, hrd6⟩ := i6 g6
     have z6 := sl_get y6 (by omega)
     clear i3 i6
     go_simp
     refine (w_l01PickR k B c _ 8 wc hS ⟨b6, xs6, rfl, hne6, hxl6, y6 ▸ hrd6⟩ (by omega) (by omega) (by omega)).mono ?_
     rintro e w4 ⟨x, rfl, hD4, hS4⟩
     obtain ⟨-, -, -, -, -, -, i0, i1, i2, i3, i4, i5, i6, i7, i9, i11, -⟩ := HI.out
     exact hK.out _ _ ⟨qB xi2, qB xi4, qB xi6, qB xi7, qB xi8, qB xi9, (fun h => by rw [put_ne (by decide)]; exact i0 h), (fun h => by rw [put_ne (by decide)]; exact i1 h), (fun h => by rw [put_ne (by decide)]; exact i2 h), (fun h => by rw [put_ne (by decide)]; exact i3 h), (fun h => by rw [put_ne (by decide)]; exact i4 h), (fun h => by rw [put_ne (by decide)]; exact i5 h), (fun h => by rw [put_ne (by decide)]; exact (i6 h).drawn hD4 (by omega)), (fun _ => ⟨_, put_eq (by omega)⟩), (fun h => by rw [put_ne (by decide)]; exact i9 h), (fun h => absurd (m11_7 h) (by rw [hk]; simp)), (hD.trans hD4), hS4, (Nat.le_trans hZ hD4.size), (hD4.owns Ou (by omega)), (hD4.owns Ov (by omega)), (hD4.owns Oy (by omega)), (hD4.keep B6 (by omega)), (hD4.keep B8 (by omega)), (fun h => (hD4.keep (R0 h) (by omega))), (fun h => (hD4.keep (N0 h) (by omega))), (fun h => (hD4.keep (R1 h) (by omega))), (fun h => (hD4.keep (N1 h) (by omega))), m5_4, m6_5, (fun _ => g3), (fun _ => g6), m8_0, m9_1, m10_2, (fun _ => rfl)⟩
   · refine qst fun g ac wc hn hk hr HI K' hK => ?_
     obtain ⟨xi2, xi4, xi6, xi7, xi8, xi9, i0, -, -, -, -, -, -, -, -, -, hD, hS, hZ, Ou, Ov, Oy, B6, B8, R0, N0, R1, N1, m5_4, m6_5, m7_3, m7_6, m8_0, m9_1, m10_2, m11_7⟩ := HI.out
     simp [Region.binds] at hr
     have g0 : g 0 = true := (by simp [hr])
     obtain y0 := i0 g0
     have z0 := sl_get y0 (by omega)
     have zi2 := sl_get xi2 (by omega)
     have hst := hk
     have hbb := blk_at (R0 hst)
     have cb := hbb.1
     have fb := hbb.2.1
     have zb := hbb.2.2
     clear hbb
     clear i0
     go_simp
     obtain ⟨-, -, -, -, -, -, i0, i1, i2, i3, i4, i5, i6, i7, i9, i11, -⟩ := HI.out
     exact hK.out undef _ ⟨xi2, xi4, xi6, xi7, xi8, xi9, (fun h => i0 h), (fun h => i1 h), (fun h => i2 h), (fun h => i3 h), (fun h => i4 h), (fun h => i5 h), (fun h => (((i6 h).setCell (by omega) _ _).setCell (by omega) _ _).setCell (by omega) _ _), (fun h => i7 h), (fun h => i9 h), (fun h => i11 h), (((hD.setCell (by omega) _ _).setCell (by omega) _ _).setCell (by omega) _ _), (((hS.setLow (hAc.mono fun b hb => by omega) (by omega) _ _).setLow (hAc.mono fun b hb => by omega) (by omega) _ _).setLow (hAc.mono fun b hb => by omega) (by omega) _ _), (by simpa using hZ), (owns_setNe (owns_setNe (owns_setNe Ou (by assumption) _ _) (by assumption) _ _) (by assumption) _ _), (owns_setNe (owns_setNe (owns_setNe Ov (by assumption) _ _) (by assumption) _ _) (by assumption) _ _), (owns_setNe (owns_setNe (owns_setNe Oy (by assumption) _ _) (by assumption) _ _) (by assumption) _ _), (other_set (other_set (other_set B6 (by omega) _) (by omega) _) (by omega) _), (other_set (other_set (other_set B8 (by omega) _) (by omega) _) (by omega) _), (fun h => absurd h (by simp)), (fun _ => st_2_3 (st_1_3 (st_0_3 (R0 hk) _) _) _), (fun h => (other_set (other_set (other_set (R1 h) (by omega) _) (by omega) _) (by omega) _)), (fun h => (other_set (other_set (other_set (N1 h) (by omega) _) (by omega) _) (by omega) _)), m5_4, m6_5, m7_3, m7_6, (fun _ => g0), m9_1, m10_2, m11_7⟩
   · refine qst fun g ac wc hn hk hr HI K' hK => ?_
     obtain ⟨xi2, xi4, xi6, xi7, xi8, xi9, -, i1, -, -, -, -, -, -, -, -, hD, hS, hZ, Ou, Ov, Oy, B6, B8, R0, N0, R1, N1, m5_4, m6_5, m7_3, m7_6, m8_0, m9_1, m10_2, m11_7⟩ := HI.out
     simp [Region.binds] at hr
     have g1 : g 1 = true := (by simp [hr])
     obtain y1 := i1 g1
     have z1 := sl_get y1 (by omega)
     clear i1
     go_simp
     obtain ⟨-, -, -, -, -, -, i0, i1, i2, i3, i4, i5, i6, i7, i9, i11, -⟩ := HI.out
     exact hK.out _ _ ⟨qB xi2, qB xi4, qB xi6, qB xi7, qB xi8, qB xi9, (fun h => by rw [put_ne (by decide)]; exact i0 h), (fun h => by rw [put_ne (by decide)]; exact i1 h), (fun h => by rw [put_ne (by decide)]; exact i2 h), (fun h => by rw [put_ne (by decide)]; exact i3 h), (fun h => by rw [put_ne (by decide)]; exact i4 h), (fun h => by rw [put_ne (by decide)]; exact i5 h), (fun h => by rw [put_ne (by decide)]; exact i6 h), (fun h => by rw [put_ne (by decide)]; exact i7 h), qP, (fun h => by rw [put_ne (by decide)]; exact i11 h), hD, hS, hZ, Ou, Ov, Oy, B6, B8, (fun h => (R0 h)), (fun h => N0 h), (fun h => (R1 h)), (fun h => N1 h), m5_4, m6_5, m7_3, m7_6, m8_0, (fun _ => g1), m10_2, m11_7⟩
   · refine qst fun g ac wc hn hk hr HI K' hK => ?_
     obtain ⟨xi2, xi4, xi6, xi7, xi8, xi9, -, -, i2, -, -, -, -, -, -, -, hD, hS, hZ, Ou, Ov, Oy, B6, B8, R0, N0, R1, N1, m5_4, m6_5, m7_3, m7_6, m8_0, m9_1, m10_2, m11_7⟩ := HI.out
     simp [Region.binds] at hr
     have g2 : g 2 = true := (by simp [hr])
     obtain y2 := i2 g2
     have z2 := sl_get y2 (by omega)
     have zi4 := sl_get xi4 (by omega)
     have hst := hk
     have hbb := blk_at (R1 hst)
     have cb := hbb.1
     have fb := hbb.2.1
     have zb := hbb.2.2
     clear hbb
     clear i2
     go_simp
     obtain ⟨-, -, -, -, -, -, i0, i1, i2, i3, i4, i5, i6, i7, i9, i11, -⟩ := HI.out
     exact hK.out undef _ ⟨xi2, xi4, xi6, xi7, xi8, xi9, (fun h => i0 h), (fun h => i1 h), (fun h => i2 h), (fun h => i3 h), (fun h => i4 h), (fun h => i5 h), (fun h => (((i6 h).setCell (by omega) _ _).setCell (by omega) _ _).setCell (by omega) _ _), (fun h => i7 h), (fun h => i9 h), (fun h => i11 h), (((hD.setCell (by omega) _ _).setCell (by omega) _ _).setCell (by omega) _ _), (((hS.setLow (hAc.mono fun b hb => by omega) (by omega) _ _).setLow (hAc.mono fun b hb => by omega) (by omega) _ _).setLow (hAc.mono fun b hb => by omega) (by omega) _ _), (by simpa using hZ), (owns_setNe (owns_setNe (owns_setNe Ou (by assumption) _ _) (by assumption) _ _) (by assumption) _ _), (owns_setNe (owns_setNe (owns_setNe Ov (by assumption) _ _) (by assumption) _ _) (by assumption) _ _), (owns_setNe (owns_setNe (owns_setNe Oy (by assumption) _ _) (by assumption) _ _) (by assumption) _ _), (other_set (other_set (other_set B6 (by omega) _) (by omega) _) (by omega) _), (other_set (other_set (other_set B8 (by omega) _) (by omega) _) (by omega) _), (fun h => (other_set (other_set (other_set (R0 h) (by omega) _) (by omega) _) (by omega) _)), (fun h => (other_set (other_set (other_set (N0 h) (by omega) _) (by omega) _) (by omega) _)), (fun h => absurd h (by simp)), (fun _ => st_2_3 (st_1_3 (st_0_3 (R1 hk) _) _) _), m5_4, m6_5, m7_3, m7_6, m8_0, m9_1, (fun _ => g2), m11_7⟩
   · refine qst fun g ac wc hn hk hr HI K' hK => ?_
     obtain ⟨xi2, xi4, xi6, xi7, xi8, xi9, -, -, -, -, -, -, -, i7, -, -, hD, hS, hZ, Ou, Ov, Oy, B6, B8, R0, N0, R1, N1, m5_4, m6_5, m7_3, m7_6, m8_0, m9_1, m10_2, m11_7⟩ := HI.out
     simp [Region.binds] at hr
     have g7 : g 7 = true := (by simp [hr])
     obtain ⟨x7, y7⟩ := i7 g7
     have z7 := sl_get y7 (by omega)
     clear i7
     go_simp
     obtain ⟨-, -, -, -, -, -, i0, i1, i2, i3, i4, i5, i6, i7, i9, i11, -⟩ := HI.out
     exact hK.out _ _ ⟨qB xi2, qB xi4, qB xi6, qB xi7, qB xi8, qB xi9, (fun h => by rw [put_ne (by decide)]; exact i0 h), (fun h => by rw [put_ne (by decide)]; exact i1 h), (fun h => by rw [put_ne (by decide)]; exact i2 h), (fun h => by rw [put_ne (by decide)]; exact i3 h), (fun h => by rw [put_ne (by decide)]; exact i4 h), (fun h => by rw [put_ne (by decide)]; exact i5 h), (fun h => by rw [put_ne (by decide)]; exact i6 h), (fun h => by rw [put_ne (by decide)]; exact i7 h), (fun h => by rw [put_ne (by decide)]; exact i9 h), (fun _ => ⟨_, put_eq (by omega)⟩), hD, hS, hZ, Ou, Ov, Oy, B6, B8, (fun h => (R0 h)), (fun h => N0 h), (fun h => (R1 h)), (fun h => N1 h), m5_4, m6_5, m7_3, m7_6, m8_0, m9_1, m10_2, (fun _ => g7)⟩
set_option maxHeartbeats 4000000 in
theorem w_DrawLengthNeeded (c : Value) (bs : List Int) (w : World) (h : IsByts w c bs) (hB : ∀ b ∈ bs, 0 ≤ b ∧ b ≤ 255) (hl : bs.length ≤ 4096) :
 Calls Tryz.prog 36 #[c] w fun e w' => ∃ (n : Int) (u v : Value) (st sd : List Int) (y : Value) (c' : List Trm) (r : Ers) (x : Int), e = .returned (.tuple #[.agg #[.int .i64 n, u, v], y, .agg #[.int .i64 r.en, .int .i64 r.pa, .int .i64 r.ey], .int .i64 x]) ∧ w'.ownsRow w.heap.size 2 1 u st.length (nums st) ∧ w'.ownsRow w.heap.size 2 1 v sd.length (nums sd) ∧ st.length ≤ 5 ∧ sd.length ≤ 5 ∧ w'.ownsRow w.heap.size 93 3 y c'.length (trms c') ∧ c'.length ≤ 7 ∧ Later w w' := by
 go_enter Tryz.func36, Tryz.ntmps36
 go_wp2_with fail
 refine (w_l01From' c bs _ (h.later (qla)) hB hl).mono ?_
 rintro e w1 ⟨k, rfl, hk0, hL1, hS1⟩
 have hk0 : w.heap.size + 2 ≤ k := by simpa using hk0
 have hk := hS1.lt
 have hAc := byts_in h
 have hD1 : Drawn w w1 k := Drawn.later (by repeat (with_reducible first | exact grown_refl _ _ | refine Drawn.alloc ?_ _)) hL1
 have HK0_1 := Lib.hid (hL1.keep (k := w.heap.size) qkh)
 have HK1_1 := Lib.hid (hL1.keep (k := w.heap.size + 1) qkh)
 obtain ⟨c0, f0, z0_1⟩ := blk_at HK0_1.out
 obtain ⟨c1, f1, z1_1⟩ := blk_at HK1_1.out
 have hz1 := hD1.size
 have hIB : IsByts w1 c bs := (h.later (qla)).later hL1
 clear hL1
 go_wp2_with fail
 refine (w_DrawPlanUnits c bs _ (hIB.later (qla)) hB hl).mono ?_
 rintro e w2 ⟨n, vu, vv, st, sd, vy, l, r, rfl, hOu, hOv, hu5, hv5, hOy, hl7, hL⟩
 have hz2 : w1.heap.size ≤ w2.heap.size := qsz hL.size
 have hD2 : Drawn w w2 k := Drawn.later qdh hL
 have hS2 : Src w2 k c := Src.later qsh hL
 have HK0_2 := Lib.hid (hL.keep (k := w.heap.size) qkh)
 have HK1_2 := Lib.hid (hL.keep (k := w.heap.size + 1) qkh)
 clear hL c0 f0 c1 f1
 obtain ⟨c0, f0, z0_2⟩ := blk_at HK0_2.out
 obtain ⟨c1, f1, z1_2⟩ := blk_at HK1_2.out
 obtain ⟨au, capu, rfl⟩ := isSl_of hOu
 have HOu_2 := Lib.hid (owns_base (base' := w1.heap.size) hOu (by first | omega | (simp; omega)))
 clear hOu
 obtain ⟨av, capv, rfl⟩ := isSl_of hOv
 have HOv_2 := Lib.hid (owns_base (base' := w1.heap.size) hOv (by first | omega | (simp; omega)))
 clear hOv
 obtain ⟨ay, capy, rfl⟩ := isSl_of hOy
 have HOy_2 := Lib.hid (owns_base (base' := w1.heap.size) hOy (by first | omega | (simp; omega)))
 clear hOy
 have hnu6 := ne_own (k := w2.heap.size) HOu_2.out (by omega)
 have hnv6 := ne_own (k := w2.heap.size) HOv_2.out (by omega)
 have hny6 := ne_own (k := w2.heap.size) HOy_2.out (by omega)
 have hnu8 := ne_own (k := w2.heap.size + 1) HOu_2.out (by omega)
 have hnv8 := ne_own (k := w2.heap.size + 1) HOv_2.out (by omega)
 have hny8 := ne_own (k := w2.heap.size + 1) HOy_2.out (by omega)
 go_wp2_with fail
 obtain ⟨B, hBe, hBi⟩ : ∃ B, B = (((w2.alloc (.cells #[.int .i64 n, .slice au st.length capu, .slice av sd.length capv] 26)).alloc (.cells #[.int .i64 r.en, .int .i64 r.pa, .int .i64 r.ey] 60))).heap.size ∧ w2.heap.size + 1 + 1 ≤ B := ⟨_, rfl, by simp⟩
 have hZ0 : B ≤ (((w2.alloc (.cells #[.int .i64 n, .slice au st.length capu, .slice av sd.length capv] 26)).alloc (.cells #[.int .i64 r.en, .int .i64 r.pa, .int .i64 r.ey] 60))).drew.heap.size := Nat.le_of_eq hBe
 have hD0 : Drawn w ((w2.alloc (.cells #[.int .i64 n, .slice au st.length capu, .slice av sd.length capv] 26)).alloc (.cells #[.int .i64 r.en, .int .i64 r.pa, .int .i64 r.ey] 60)) k := qdh
 have hS0 : Src ((w2.alloc (.cells #[.int .i64 n, .slice au st.length capu, .slice av sd.length capv] 26)).alloc (.cells #[.int .i64 r.en, .int .i64 r.pa, .int .i64 r.ey] 60)) k c := qsh
 have Q6 : ((w2.alloc (.cells #[.int .i64 n, .slice au st.length capu, .slice av sd.length capv] 26)).alloc (.cells #[.int .i64 r.en, .int .i64 r.pa, .int .i64 r.ey] 60)).heap[w2.heap.size]? = some (.cells #[.int .i64 n, .slice au st.length capu, .slice av sd.length capv] 26 (0, 0)) := heap_alloc_old _ _ (heap_alloc_new _ _)
 have Q8 : ((w2.alloc (.cells #[.int .i64 n, .slice au st.length capu, .slice av sd.length capv] 26)).alloc (.cells #[.int .i64 r.en, .int .i64 r.pa, .int .i64 r.ey] 60)).heap[w2.heap.size + 1]? = some (.cells #[.int .i64 r.en, .int .i64 r.pa, .int .i64 r.ey] 60 (0, 0)) := heap_alloc_new' _ _ (by first | rfl | (simp; done))
 have Q0 : ((w2.alloc (.cells #[.int .i64 n, .slice au st.length capu, .slice av sd.length capv] 26)).alloc (.cells #[.int .i64 r.en, .int .i64 r.pa, .int .i64 r.ey] 60)).heap[w.heap.size]? = some (.cells #[.int .i64 0, .slice none 0 0, .slice none 0 0] 26 (0, 0)) := qkh
 have Q1 : ((w2.alloc (.cells #[.int .i64 n, .slice au st.length capu, .slice av sd.length capv] 26)).alloc (.cells #[.int .i64 r.en, .int .i64 r.pa, .int .i64 r.ey] 60)).heap[w.heap.size + 1]? = some (.cells #[.int .i64 0, .int .i64 0, .int .i64 0] 60 (0, 0)) := qkh
 have Qu : ((w2.alloc (.cells #[.int .i64 n, .slice au st.length capu, .slice av sd.length capv] 26)).alloc (.cells #[.int .i64 r.en, .int .i64 r.pa, .int .i64 r.ey] 60)).ownsRow w1.heap.size 2 1 (.slice au st.length capu) st.length (nums st) := (qoh HOu_2)
 have Qv : ((w2.alloc (.cells #[.int .i64 n, .slice au st.length capu, .slice av sd.length capv] 26)).alloc (.cells #[.int .i64 r.en, .int .i64 r.pa, .int .i64 r.ey] 60)).ownsRow w1.heap.size 2 1 (.slice av sd.length capv) sd.length (nums sd) := (qoh HOv_2)
 have Qy : ((w2.alloc (.cells #[.int .i64 n, .slice au st.length capu, .slice av sd.length capv] 26)).alloc (.cells #[.int .i64 r.en, .int .i64 r.pa, .int .i64 r.ey] 60)).ownsRow w1.heap.size 93 3 (.slice ay l.length capy) l.length (trms l) := (qoh HOy_2)
 have hnu0 := ne_low (k := w.heap.size) Qu (by omega)
 have hnu1 := ne_low (k := w.heap.size + 1) Qu (by omega)
 have hnv0 := ne_low (k := w.heap.size) Qv (by omega)
 have hnv1 := ne_low (k := w.heap.size + 1) Qv (by omega)
 have hny0 := ne_low (k := w.heap.size) Qy (by omega)
 have hny1 := ne_low (k := w.heap.size + 1) Qy (by omega)
 clear c0 f0 c1 f1
 refine region_slots 27 [18, 19, 20, 21, 22, 23, 24, 25, 26, 3, 5] (fun g ac wc => sl ac 2 = .pointer (some ⟨w.heap.size, 0, none⟩) ∧
  sl ac 4 = .pointer (some ⟨w.heap.size + 1, 0, none⟩) ∧
  sl ac 6 = .pointer (some ⟨k, 0, none⟩) ∧
  sl ac 7 = .pointer (some ⟨w2.heap.size, 0, none⟩) ∧
  sl ac 8 = .slice ay l.length capy ∧
  sl ac 9 = .pointer (some ⟨w2.heap.size + 1, 0, none⟩) ∧
  (g 0 = true → (sl ac 18) = .agg #[.int .i64 n, .slice au st.length capu, .slice av sd.length capv]) ∧
  (g 1 = true → (sl ac 19) = .slice ay l.length capy) ∧
  (g 2 = true → (sl ac 20) = .agg #[.int .i64 r.en, .int .i64 r.pa, .int .i64 r.ey]) ∧
  (g 3 = true → (sl ac 21) = .pointer (some ⟨k, 0, none⟩)) ∧
  (g 4 = true → (sl ac 22) = .pointer (some ⟨k, 0, none⟩)) ∧
  (g 5 = true → (∃ x : Int, (sl ac 23) = .int .i64 x ∧ 0 ≤ x ∧ x ≤ 20000)) ∧
  (g 6 = true → (∃ x : Int, (sl ac 24) = .int .i64 x)) ∧
  (g 7 = true → NewR wc B (sl ac 25) 7) ∧
  (g 8 = true → ∃ x : Int, (sl ac 26) = .int .i64 x) ∧
  (g 10 = true → (sl ac 3) = .slice ay l.length capy) ∧
  (g 12 = true → ∃ x : Int, (sl ac 5) = .int .i64 x) ∧
  Drawn w wc k ∧
  Src wc k c ∧
  B ≤ wc.heap.size ∧
  wc.ownsRow w1.heap.size 2 1 (.slice au st.length capu) st.length (nums st) ∧
  wc.ownsRow w1.heap.size 2 1 (.slice av sd.length capv) sd.length (nums sd) ∧
  wc.ownsRow w1.heap.size 93 3 (.slice ay l.length capy) l.length (trms l) ∧
  wc.heap[w2.heap.size]? = some (.cells #[.int .i64 n, .slice au st.length capu, .slice av sd.length capv] 26 (0, 0)) ∧
  wc.heap[w2.heap.size + 1]? = some (.cells #[.int .i64 r.en, .int .i64 r.pa, .int .i64 r.ey] 60 (0, 0)) ∧
  (g 9 = false → wc.heap[w.heap.size]? = some (.cells #[.int .i64 0, .slice none 0 0, .slice none 0 0] 26 (0, 0))) ∧
  (g 9 = true → wc.heap[w.heap.size]? = some (.cells #[.int .i64 n, .slice au st.length capu, .slice av sd.length capv] 26 (0, 0))) ∧
  (g 11 = false → wc.heap[w.heap.size + 1]? = some (.cells #[.int .i64 0, .int .i64 0, .int .i64 0] 60 (0, 0))) ∧
  (g 11 = true → wc.heap[w.heap.size + 1]? = some (.cells #[.int .i64 r.en, .int .i64 r.pa, .int .i64 r.ey] 60 (0, 0))) ∧
  (g 5 = true → g 4 = true) ∧
  (g 6 = true → g 5 = true) ∧
  (g 7 = true → g 6 = true) ∧
  (g 8 = true → g 3 = true) ∧
  (g 8 = true → g 7 = true) ∧
  (g 9 = true → g 0 = true) ∧
  (g 10 = true → g 1 = true) ∧
  (g 11 = true → g 2 = true) ∧
  (g 12 = true → g 8 = true)) (by kernel_rfl) (by kernel_rfl) rfl (by kernel_rfl) ?_ ?_ ?_
 · exact ⟨rfl, rfl, rfl, rfl, rfl, rfl, nofun, nofun, nofun, nofun, nofun, nofun, nofun, nofun, nofun, nofun, nofun, hD0.drew, hS0.drew, hZ0, owns_later Qu (Later.refl _).drew, owns_later Qv (Later.refl _).drew, owns_later Qy (Later.refl _).drew, Q6, Q8, fun _ => Q0, nofun, fun _ => Q1, nofun, nofun, nofun, nofun, nofun, nofun, nofun, nofun, nofun, nofun⟩
 · intro g ac wu hg ha hI
   obtain ⟨xi2, xi4, xi6, xi7, xi8, xi9, i0, i1, i2, i3, i4, i5, i6, i7, i8, i10, i12, hD, hS, hZ, Ou, Ov, Oy, B6, B8, -, N0, -, N1, -, -, -, -, -, -, -, -, -⟩ := hI
   obtain e0 := i0 (hg 0 (by simp))
   obtain e1 := i1 (hg 1 (by simp))
   obtain e2 := i2 (hg 2 (by simp))
   obtain e3 := i3 (hg 3 (by simp))
   obtain e4 := i4 (hg 4 (by simp))
   obtain ⟨xd5, e5, xad5, xbd5⟩ := i5 (hg 5 (by simp))
   obtain ⟨xd6, e6⟩ := i6 (hg 6 (by simp))
   obtain ⟨bd7, xsd7, e7, hned7, hxld7, hrdd7⟩ := i7 (hg 7 (by simp))
   obtain ⟨xd8, e8⟩ := i8 (hg 8 (by simp))
   obtain e10 := i10 (hg 10 (by simp))
   obtain ⟨xd12, e12⟩ := i12 (hg 12 (by simp))
   replace N0 := N0 (hg 9 (by simp))
   replace N1 := N1 (hg 11 (by simp))
   simp only [putAll, e0, e1, e2, e3, e4, e5, e6, e7, e8, e10, e12] at ha
   simp only [Act.put, List.setIfInBounds_toArray, List.set_cons_succ, List.set_cons_zero] at ha
   rw [ha]
   clear xi2 xi4 xi6 xi7 xi8 xi9 i0 i1 i2 i3 i4 i5 i6 i7 i8 i10 i12 e0 e1 e2 e3 e4 e5 e6 e7 e8 e10 e12 hg ha
   have hc0 := (blk_at N0).1
   have hz0' := (blk_at N0).2.2
   have hc1 := (blk_at N1).1
   have hz1' := (blk_at N1).2.2
   have HDu := Lib.hid hD
   have HUu := Lib.hid Ou
   have HVu := Lib.hid Ov
   have HYu := Lib.hid Oy
   clear hD hS Ou Ov Oy B6 B8 N0 N1
   go_wp2
   refine bodyPost_ret (v := .tuple #[.agg #[.int .i64 n, .slice au st.length capu, .slice av sd.length capv], .slice ay l.length capy, .agg #[.int .i64 r.en, .int .i64 r.pa, .int .i64 r.ey], .int .i64 xd12]) (by simp [results, Tryz.results36, go_sem, hc0, hz0', hc1, hz1']) rfl ⟨n, _, _, st, sd, _, l, r, xd12, rfl, owns_base HUu.out (by omega), owns_base HVu.out (by omega), hu5, hv5, owns_base HYu.out (by omega), hl7, Later.drawn (k := k) (Later.refl w) (by omega) HDu.out⟩
 · refine .cons ?_ (.cons ?_ (.cons ?_ (.cons ?_ (.cons ?_ (.cons ?_ (.cons ?_ (.cons ?_ (.cons ?_ (.cons ?_ (.cons ?_ (.cons ?_ (.cons ?_ .nil))))))))))))
   · refine qst fun g ac wc hn hk hr HI K' hK => ?_
     obtain ⟨xi2, xi4, xi6, xi7, xi8, xi9, -, -, -, -, -, -, -, -, -, -, -, hD, hS, hZ, Ou, Ov, Oy, B6, B8, R0, N0, R1, N1, m5_4, m6_5, m7_6, m8_3, m8_7, m9_0, m10_1, m11_2, m12_8⟩ := HI.out
     simp [Region.binds] at hr
     have zi7 := sl_get xi7 (by omega)
     obtain ⟨cb, fb, zb⟩ := blk_at B6
     go_simp
     obtain ⟨-, -, -, -, -, -, i0, i1, i2, i3, i4, i5, i6, i7, i8, i10, i12, -⟩ := HI.out
     exact hK.out _ _ ⟨qB xi2, qB xi4, qB xi6, qB xi7, qB xi8, qB xi9, qP, (fun h => by rw [put_ne (by decide)]; exact i1 h), (fun h => by rw [put_ne (by decide)]; exact i2 h), (fun h => by rw [put_ne (by decide)]; exact i3 h), (fun h => by rw [put_ne (by decide)]; exact i4 h), (fun h => by rw [put_ne (by decide)]; exact i5 h), (fun h => by rw [put_ne (by decide)]; exact i6 h), (fun h => by rw [put_ne (by decide)]; exact i7 h), (fun h => by rw [put_ne (by decide)]; exact i8 h), (fun h => by rw [put_ne (by decide)]; exact i10 h), (fun h => by rw [put_ne (by decide)]; exact i12 h), hD, hS, hZ, Ou, Ov, Oy, B6, B8, (fun h => (R0 h)), (fun h => N0 h), (fun h => (R1 h)), (fun h => N1 h), m5_4, m6_5, m7_6, m8_3, m8_7, (fun _ => rfl), m10_1, m11_2, m12_8⟩
   · refine qst fun g ac wc hn hk hr HI K' hK => ?_
     obtain ⟨xi2, xi4, xi6, xi7, xi8, xi9, -, -, -, -, -, -, -, -, -, -, -, hD, hS, hZ, Ou, Ov, Oy, B6, B8, R0, N0, R1, N1, m5_4, m6_5, m7_6, m8_3, m8_7, m9_0, m10_1, m11_2, m12_8⟩ := HI.out
     simp [Region.binds] at hr
     have zi8 := sl_get xi8 (by omega)
     go_simp
     obtain ⟨-, -, -, -, -, -, i0, i1, i2, i3, i4, i5, i6, i7, i8, i10, i12, -⟩ := HI.out
     exact hK.out _ _ ⟨qB xi2, qB xi4, qB xi6, qB xi7, qB xi8, qB xi9, (fun h => by rw [put_ne (by decide)]; exact i0 h), qP, (fun h => by rw [put_ne (by decide)]; exact i2 h), (fun h => by rw [put_ne (by decide)]; exact i3 h), (fun h => by rw [put_ne (by decide)]; exact i4 h), (fun h => by rw [put_ne (by decide)]; exact i5 h), (fun h => by rw [put_ne (by decide)]; exact i6 h), (fun h => by rw [put_ne (by decide)]; exact i7 h), (fun h => by rw [put_ne (by decide)]; exact i8 h), (fun h => absurd (m10_1 h) (by rw [hk]; simp)), (fun h => by rw [put_ne (by decide)]; exact i12 h), hD, hS, hZ, Ou, Ov, Oy, B6, B8, (fun h => (R0 h)), (fun h => N0 h), (fun h => (R1 h)), (fun h => N1 h), m5_4, m6_5, m7_6, m8_3, m8_7, m9_0, (fun _ => rfl), m11_2, m12_8⟩
   · refine qst fun g ac wc hn hk hr HI K' hK => ?_
     obtain ⟨xi2, xi4, xi6, xi7, xi8, xi9, -, -, -, -, -, -, -, -, -, -, -, hD, hS, hZ, Ou, Ov, Oy, B6, B8, R0, N0, R1, N1, m5_4, m6_5, m7_6, m8_3, m8_7, m9_0, m10_1, m11_2, m12_8⟩ := HI.out
     simp [Region.binds] at hr
     have zi9 := sl_get xi9 (by omega)
     obtain ⟨cb, fb, zb⟩ := blk_at B8
     go_simp
     obtain ⟨-, -, -, -, -, -, i0, i1, i2, i3, i4, i5, i6, i7, i8, i10, i12, -⟩ := HI.out
     exact hK.out _ _ ⟨qB xi2, qB xi4, qB xi6, qB xi7, qB xi8, qB xi9, (fun h => by rw [put_ne (by decide)]; exact i0 h), (fun h => by rw [put_ne (by decide)]; exact i1 h), qP, (fun h => by rw [put_ne (by decide)]; exact i3 h), (fun h => by rw [put_ne (by decide)]; exact i4 h), (fun h => by rw [put_ne (by decide)]; exact i5 h), (fun h => by rw [put_ne (by decide)]; exact i6 h), (fun h => by rw [put_ne (by decide)]; exact i7 h), (fun h => by rw [put_ne (by decide)]; exact i8 h), (fun h => by rw [put_ne (by decide)]; exact i10 h), (fun h => by rw [put_ne (by decide)]; exact i12 h), hD, hS, hZ, Ou, Ov, Oy, B6, B8, (fun h => (R0 h)), (fun h => N0 h), (fun h => (R1 h)), (fun h => N1 h), m5_4, m6_5, m7_6, m8_3, m8_7, m9_0, m10_1, (fun _ => rfl), m12_8⟩
   · refine qst fun g ac wc hn hk hr HI K' hK => ?_
     obtain ⟨xi2, xi4, xi6, xi7, xi8, xi9, -, -, -, -, -, -, -, -, -, -, -, hD, hS, hZ, Ou, Ov, Oy, B6, B8, R0, N0, R1, N1, m5_4, m6_5, m7_6, m8_3, m8_7, m9_0, m10_1, m11_2, m12_8⟩ := HI.out
     simp [Region.binds] at hr
     have zi6 := sl_get xi6 (by omega)
     go_simp
     obtain ⟨-, -, -, -, -, -, i0, i1, i2, i3, i4, i5, i6, i7, i8, i10, i12, -⟩ := HI.out
     exact hK.out _ _ ⟨qB xi2, qB xi4, qB xi6, qB xi7, qB xi8, qB xi9, (fun h => by rw [put_ne (by decide)]; exact i0 h), (fun h => by rw [put_ne (by decide)]; exact i1 h), (fun h => by rw [put_ne (by decide)]; exact i2 h), qP, (fun h => by rw [put_ne (by decide)]; exact i4 h), (fun h => by rw [put_ne (by decide)]; exact i5 h), (fun h => by rw [put_ne (by decide)]; exact i6 h), (fun h => by rw [put_ne (by decide)]; exact i7 h), (fun h => absurd (m8_3 h) (by rw [hk]; simp)), (fun h => by rw [put_ne (by decide)]; exact i10 h), (fun h => by rw [put_ne (by decide)]; exact i12 h), hD, hS, hZ, Ou, Ov, Oy, B6, B8, (fun h => (R0 h)), (fun h => N0 h), (fun h => (R1 h)), (fun h => N1 h), m5_4, m6_5, m7_6, (fun _ => rfl), m8_7, m9_0, m10_1, m11_2, m12_8⟩
   · refine qst fun g ac wc hn hk hr HI K' hK => ?_
     obtain ⟨xi2, xi4, xi6, xi7, xi8, xi9, -, -, -, -, -, -, -, -, -, -, -, hD, hS, hZ, Ou, Ov, Oy, B6, B8, R0, N0, R1, N1, m5_4, m6_5, m7_6, m8_3, m8_7, m9_0, m10_1, m11_2, m12_8⟩ := HI.out
     simp [Region.binds] at hr
     have zi6 := sl_get xi6 (by omega)
     go_simp
     obtain ⟨-, -, -, -, -, -, i0, i1, i2, i3, i4, i5, i6, i7, i8, i10, i12, -⟩ := HI.out
     exact hK.out _ _ ⟨qB xi2, qB xi4, qB xi6, qB xi7, qB xi8, qB xi9, (fun h => by rw [put_ne (by decide)]; exact i0 h), (fun h => by rw [put_ne (by decide)]; exact i1 h), (fun h => by rw [put_ne (by decide)]; exact i2 h), (fun h => by rw [put_ne (by decide)]; exact i3 h), qP, (fun h => absurd (m5_4 h) (by rw [hk]; simp)), (fun h => by rw [put_ne (by decide)]; exact i6 h), (fun h => absurd (m5_4 (m6_5 (m7_6 h))) (by rw [hk]; simp)), (fun h => by rw [put_ne (by decide)]; exact i8 h), (fun h => by rw [put_ne (by decide)]; exact i10 h), (fun h => by rw [put_ne (by decide)]; exact i12 h), hD, hS, hZ, Ou, Ov, Oy, B6, B8, (fun h => (R0 h)), (fun h => N0 h), (fun h => (R1 h)), (fun h => N1 h), (fun _ => rfl), m6_5, m7_6, m8_3, m8_7, m9_0, m10_1, m11_2, m12_8⟩
   · refine qst fun g ac wc hn hk hr HI K' hK => ?_
     obtain ⟨xi2, xi4, xi6, xi7, xi8, xi9, -, -, -, -, i4, -, -, -, -, -, -, hD, hS, hZ, Ou, Ov, Oy, B6, B8, R0, N0, R1, N1, m5_4, m6_5, m7_6, m8_3, m8_7, m9_0, m10_1, m11_2, m12_8⟩ := HI.out
     simp [Region.binds] at hr
     have g4 : g 4 = true := (by simp [hr])
     obtain y4 := i4 g4
     have z4 := sl_get y4 (by omega)
     clear i4
     go_simp
     refine (w_l01Next k c 20000 _ hS).mono ?_
     rintro e w4 ⟨x, rfl, x1, x2, hD4, hS4⟩
     obtain ⟨-, -, -, -, -, -, i0, i1, i2, i3, i4, i5, i6, i7, i8, i10, i12, -⟩ := HI.out
     exact hK.out _ _ ⟨qB xi2, qB xi4, qB xi6, qB xi7, qB xi8, qB xi9, (fun h => by rw [put_ne (by decide)]; exact i0 h), (fun h => by rw [put_ne (by decide)]; exact i1 h), (fun h => by rw [put_ne (by decide)]; exact i2 h), (fun h => by rw [put_ne (by decide)]; exact i3 h), (fun h => by rw [put_ne (by decide)]; exact i4 h), (fun _ => ⟨_, put_eq (by omega), x1, by omega⟩), (fun h => absurd (m6_5 h) (by rw [hk]; simp)), (fun h => absurd (m6_5 (m7_6 h)) (by rw [hk]; simp)), (fun h => by rw [put_ne (by decide)]; exact i8 h), (fun h => by rw [put_ne (by decide)]; exact i10 h), (fun h => by rw [put_ne (by decide)]; exact i12 h), (hD.trans hD4), hS4, (Nat.le_trans hZ hD4.size), (hD4.owns Ou (by omega)), (hD4.owns Ov (by omega)), (hD4.owns Oy (by omega)), (hD4.keep B6 (by omega)), (hD4.keep B8 (by omega)), (fun h => (hD4.keep (R0 h) (by omega))), (fun h => (hD4.keep (N0 h) (by omega))), (fun h => (hD4.keep (R1 h) (by omega))), (fun h => (hD4.keep (N1 h) (by omega))), (fun _ => g4), (fun _ => rfl), m7_6, m8_3, m8_7, m9_0, m10_1, m11_2, m12_8⟩
   · refine qst fun g ac wc hn hk hr HI K' hK => ?_
     obtain ⟨xi2, xi4, xi6, xi7, xi8, xi9, -, -, -, -, -, i5, -, -, -, -, -, hD, hS, hZ, Ou, Ov, Oy, B6, B8, R0, N0, R1, N1, m5_4, m6_5, m7_6, m8_3, m8_7, m9_0, m10_1, m11_2, m12_8⟩ := HI.out
     simp [Region.binds] at hr
     have g5 : g 5 = true := (by simp [hr])
     obtain ⟨x5, y5, xa5, xb5⟩ := i5 g5
     have z5 := sl_get y5 (by omega)
     have wD : IntKind.i64.wrap (1 + x5) = 1 + x5 := wrap_same (by omega) (by omega)
     clear i5
     go_simp
     obtain ⟨-, -, -, -, -, -, i0, i1, i2, i3, i4, i5, i6, i7, i8, i10, i12, -⟩ := HI.out
     exact hK.out _ _ ⟨qB xi2, qB xi4, qB xi6, qB xi7, qB xi8, qB xi9, (fun h => by rw [put_ne (by decide)]; exact i0 h), (fun h => by rw [put_ne (by decide)]; exact i1 h), (fun h => by rw [put_ne (by decide)]; exact i2 h), (fun h => by rw [put_ne (by decide)]; exact i3 h), (fun h => by rw [put_ne (by decide)]; exact i4 h), (fun h => by rw [put_ne (by decide)]; exact i5 h), (fun _ => ⟨_, put_eq (by omega)⟩), (fun h => absurd (m7_6 h) (by rw [hk]; simp)), (fun h => by rw [put_ne (by decide)]; exact i8 h), (fun h => by rw [put_ne (by decide)]; exact i10 h), (fun h => by rw [put_ne (by decide)]; exact i12 h), hD, hS, hZ, Ou, Ov, Oy, B6, B8, (fun h => (R0 h)), (fun h => N0 h), (fun h => (R1 h)), (fun h => N1 h), m5_4, (fun _ => g5), (fun _ => rfl), m8_3, m8_7, m9_0, m10_1, m11_2, m12_8⟩
   · refine qst fun g ac wc hn hk hr HI K' hK => ?_
     obtain ⟨xi2, xi4, xi6, xi7, xi8, xi9, -, -, -, -, -, -, i6, -, -, -, -, hD, hS, hZ, Ou, Ov, Oy, B6, B8, R0, N0, R1, N1, m5_4, m6_5, m7_6, m8_3, m8_7, m9_0, m10_1, m11_2, m12_8⟩ := HI.out
     simp [Region.binds] at hr
     have g6 : g 6 = true := (by simp [hr])
     obtain ⟨x6, y6⟩ := i6 g6
     have z6 := sl_get y6 (by omega)
     clear i6
     go_simp
     have hL4 := (Later.refl wc).alloc (.cells (nums [1000, 5000, x6, 1, 1048576, 1048577, 0]).toArray 2)
     obtain ⟨-, -, -, -, -, -, i0, i1, i2, i3, i4, i5, i6, i7, i8, i10, i12, -⟩ := HI.out
     exact hK.out _ _ ⟨qB xi2, qB xi4, qB xi6, qB xi7, qB xi8, qB xi9, (fun h => by rw [put_ne (by decide)]; exact i0 h), (fun h => by rw [put_ne (by decide)]; exact i1 h), (fun h => by rw [put_ne (by decide)]; exact i2 h), (fun h => by rw [put_ne (by decide)]; exact i3 h), (fun h => by rw [put_ne (by decide)]; exact i4 h), (fun h => by rw [put_ne (by decide)]; exact i5 h), (fun h => by rw [put_ne (by decide)]; exact i6 h), (fun _ => by rw [put_eq (by omega)]; exact NewR.mk hZ [1000, 5000, x6, 1, 1048576, 1048577, 0] (by simp)), (fun h => absurd (m8_7 h) (by rw [hk]; simp)), (fun h => by rw [put_ne (by decide)]; exact i10 h), (fun h => by rw [put_ne (by decide)]; exact i12 h), (hD.later hL4), (hS.later hL4), (Nat.le_trans hZ hL4.size), (owns_later Ou hL4), (owns_later Ov hL4), (owns_later Oy hL4), (hL4.keep B6), (hL4.keep B8), (fun h => (hL4.keep (R0 h))), (fun h => (hL4.keep (N0 h))), (fun h => (hL4.keep (R1 h))), (fun h => (hL4.keep (N1 h))), m5_4, m6_5, (fun _ => g6), m8_3, (fun _ => rfl), m9_0, m10_1, m11_2, m12_8⟩
   · refine qst fun g ac wc hn hk hr HI K' hK => ?_
     obtain ⟨xi2, xi4, xi6, xi7, xi8, xi9, -, -, -, i3, -, -, -, i7, -, -, -, hD, hS, hZ, Ou, Ov, Oy, B6, B8, R0, N0, R1, N1, m5_4, m6_5, m7_6, m8_3, m8_7, m9_0, m10_1, m11_2, m12_8⟩ := HI.out
     simp [Region.binds] at hr
     have g3 : g 3 = true := (by simp [hr])
     obtain y3 := i3 g3
     have z3 := sl_get y3 (by omega)
     have g7 : g 7 = true := (by simp [hr])
     obtain ⟨b7, xs7, y7, hne7, hxl7, hrd7⟩ := i7 g7
     have z7 := sl_get y7 (by omega)
     clear i3 i7
     go_simp
     refine (w_l01PickR k B c _ 7 wc hS ⟨b7, xs7, rfl, hne7, hxl7, y7 ▸ hrd7⟩ (by omega) (by omega) (by omega)).mono ?_
     rintro e w4 ⟨x, rfl, hD4, hS4⟩
     obtain ⟨-, -, -, -, -, -, i0, i1, i2, i3, i4, i5, i6, i7, i8, i10, i12, -⟩ := HI.out
     exact hK.out _ _ ⟨qB xi2, qB xi4, qB xi6, qB xi7, qB xi8, qB xi9, (fun h => by rw [put_ne (by decide)]; exact i0 h), (fun h => by rw [put_ne (by decide)]; exact i1 h), (fun h => by rw [put_ne (by decide)]; exact i2 h), (fun h => by rw [put_ne (by decide)]; exact i3 h), (fun h => by rw [put_ne (by decide)]; exact i4 h), (fun h => by rw [put_ne (by decide)]; exact i5 h), (fun h => by rw [put_ne (by decide)]; exact i6 h), (fun h => by rw [put_ne (by decide)]; exact (i7 h).drawn hD4 (by omega)), (fun _ => ⟨_, put_eq (by omega)⟩), (fun h => by rw [put_ne (by decide)]; exact i10 h), (fun h => absurd (m12_8 h) (by rw [hk]; simp)), (hD.trans hD4), hS4, (Nat.le_trans hZ hD4.size), (hD4.owns Ou (by omega)), (hD4.owns Ov (by omega)), (hD4.owns Oy (by omega)), (hD4.keep B6 (by omega)), (hD4.keep B8 (by omega)), (fun h => (hD4.keep (R0 h) (by omega))), (fun h => (hD4.keep (N0 h) (by omega))), (fun h => (hD4.keep (R1 h) (by omega))), (fun h => (hD4.keep (N1 h) (by omega))), m5_4, m6_5, m7_6, (fun _ => g3), (fun _ => g7), m9_0, m10_1, m11_2, (fun _ => rfl)⟩
   · refine qst fun g ac wc hn hk hr HI K' hK => ?_
     obtain ⟨xi2, xi4, xi6, xi7, xi8, xi9, i0, -, -, -, -, -, -, -, -, -, -, hD, hS, hZ, Ou, Ov, Oy, B6, B8, R0, N0, R1, N1, m5_4, m6_5, m7_6, m8_3, m8_7, m9_0, m10_1, m11_2, m12_8⟩ := HI.out
     simp [Region.binds] at hr
     have g0 : g 0 = true := (by simp [hr])
     obtain y0 := i0 g0
     have z0 := sl_get y0 (by omega)
     have zi2 := sl_get xi2 (by omega)
     have hst := hk
     have hbb := blk_at (R0 hst)
     have cb := hbb.1
     have fb := hbb.2.1
     have zb := hbb.2.2
     clear hbb
     clear i0
     go_simp
     obtain ⟨-, -, -, -, -, -, i0, i1, i2, i3, i4, i5, i6, i7, i8, i10, i12, -⟩ := HI.out
     exact hK.out undef _ ⟨xi2, xi4, xi6, xi7, xi8, xi9, (fun h => i0 h), (fun h => i1 h), (fun h => i2 h), (fun h => i3 h), (fun h => i4 h), (fun h => i5 h), (fun h => i6 h), (fun h => (((i7 h).setCell (by omega) _ _).setCell (by omega) _ _).setCell (by omega) _ _), (fun h => i8 h), (fun h => i10 h), (fun h => i12 h), (((hD.setCell (by omega) _ _).setCell (by omega) _ _).setCell (by omega) _ _), (((hS.setLow (hAc.mono fun b hb => by omega) (by omega) _ _).setLow (hAc.mono fun b hb => by omega) (by omega) _ _).setLow (hAc.mono fun b hb => by omega) (by omega) _ _), (by simpa using hZ), (owns_setNe (owns_setNe (owns_setNe Ou (by assumption) _ _) (by assumption) _ _) (by assumption) _ _), (owns_setNe (owns_setNe (owns_setNe Ov (by assumption) _ _) (by assumption) _ _) (by assumption) _ _), (owns_setNe (owns_setNe (owns_setNe Oy (by assumption) _ _) (by assumption) _ _) (by assumption) _ _), (other_set (other_set (other_set B6 (by omega) _) (by omega) _) (by omega) _), (other_set (other_set (other_set B8 (by omega) _) (by omega) _) (by omega) _), (fun h => absurd h (by simp)), (fun _ => st_2_3 (st_1_3 (st_0_3 (R0 hk) _) _) _), (fun h => (other_set (other_set (other_set (R1 h) (by omega) _) (by omega) _) (by omega) _)), (fun h => (other_set (other_set (other_set (N1 h) (by omega) _) (by omega) _) (by omega) _)), m5_4, m6_5, m7_6, m8_3, m8_7, (fun _ => g0), m10_1, m11_2, m12_8⟩
   · refine qst fun g ac wc hn hk hr HI K' hK => ?_
     obtain ⟨xi2, xi4, xi6, xi7, xi8, xi9, -, i1, -, -, -, -, -, -, -, -, -, hD, hS, hZ, Ou, Ov, Oy, B6, B8, R0, N0, R1, N1, m5_4, m6_5, m7_6, m8_3, m8_7, m9_0, m10_1, m11_2, m12_8⟩ := HI.out
     simp [Region.binds] at hr
     have g1 : g 1 = true := (by simp [hr])
     obtain y1 := i1 g1
     have z1 := sl_get y1 (by omega)
     clear i1
     go_simp
     obtain ⟨-, -, -, -, -, -, i0, i1, i2, i3, i4, i5, i6, i7, i8, i10, i12, -⟩ := HI.out
     exact hK.out _ _ ⟨qB xi2, qB xi4, qB xi6, qB xi7, qB xi8, qB xi9, (fun h => by rw [put_ne (by decide)]; exact i0 h), (fun h => by rw [put_ne (by decide)]; exact i1 h), (fun h => by rw [put_ne (by decide)]; exact i2 h), (fun h => by rw [put_ne (by decide)]; exact i3 h), (fun h => by rw [put_ne (by decide)]; exact i4 h), (fun h => by rw [put_ne (by decide)]; exact i5 h), (fun h => by rw [put_ne (by decide)]; exact i6 h), (fun h => by rw [put_ne (by decide)]; exact i7 h), (fun h => by rw [put_ne (by decide)]; exact i8 h), qP, (fun h => by rw [put_ne (by decide)]; exact i12 h), hD, hS, hZ, Ou, Ov, Oy, B6, B8, (fun h => (R0 h)), (fun h => N0 h), (fun h => (R1 h)), (fun h => N1 h), m5_4, m6_5, m7_6, m8_3, m8_7, m9_0, (fun _ => g1), m11_2, m12_8⟩
   · refine qst fun g ac wc hn hk hr HI K' hK => ?_
     obtain ⟨xi2, xi4, xi6, xi7, xi8, xi9, -, -, i2, -, -, -, -, -, -, -, -, hD, hS, hZ, Ou, Ov, Oy, B6, B8, R0, N0, R1, N1, m5_4, m6_5, m7_6, m8_3, m8_7, m9_0, m10_1, m11_2, m12_8⟩ := HI.out
     simp [Region.binds] at hr
     have g2 : g 2 = true := (by simp [hr])
     obtain y2 := i2 g2
     have z2 := sl_get y2 (by omega)
     have zi4 := sl_get xi4 (by omega)
     have hst := hk
     have hbb := blk_at (R1 hst)
     have cb := hbb.1
     have fb := hbb.2.1
     have zb := hbb.2.2
     clear hbb
     clear i2
     go_simp
     obtain ⟨-, -, -, -, -, -, i0, i1, i2, i3, i4, i5, i6, i7, i8, i10, i12, -⟩ := HI.out
     exact hK.out undef _ ⟨xi2, xi4, xi6, xi7, xi8, xi9, (fun h => i0 h), (fun h => i1 h), (fun h => i2 h), (fun h => i3 h), (fun h => i4 h), (fun h => i5 h), (fun h => i6 h), (fun h => (((i7 h).setCell (by omega) _ _).setCell (by omega) _ _).setCell (by omega) _ _), (fun h => i8 h), (fun h => i10 h), (fun h => i12 h), (((hD.setCell (by omega) _ _).setCell (by omega) _ _).setCell (by omega) _ _), (((hS.setLow (hAc.mono fun b hb => by omega) (by omega) _ _).setLow (hAc.mono fun b hb => by omega) (by omega) _ _).setLow (hAc.mono fun b hb => by omega) (by omega) _ _), (by simpa using hZ), (owns_setNe (owns_setNe (owns_setNe Ou (by assumption) _ _) (by assumption) _ _) (by assumption) _ _), (owns_setNe (owns_setNe (owns_setNe Ov (by assumption) _ _) (by assumption) _ _) (by assumption) _ _), (owns_setNe (owns_setNe (owns_setNe Oy (by assumption) _ _) (by assumption) _ _) (by assumption) _ _), (other_set (other_set (other_set B6 (by omega) _) (by omega) _) (by omega) _), (other_set (other_set (other_set B8 (by omega) _) (by omega) _) (by omega) _), (fun h => (other_set (other_set (other_set (R0 h) (by omega) _) (by omega) _) (by omega) _)), (fun h => (other_set (other_set (other_set (N0 h) (by omega) _) (by omega) _) (by omega) _)), (fun h => absurd h (by simp)), (fun _ => st_2_3 (st_1_3 (st_0_3 (R1 hk) _) _) _), m5_4, m6_5, m7_6, m8_3, m8_7, m9_0, m10_1, (fun _ => g2), m12_8⟩
   · refine qst fun g ac wc hn hk hr HI K' hK => ?_
     obtain ⟨xi2, xi4, xi6, xi7, xi8, xi9, -, -, -, -, -, -, -, -, i8, -, -, hD, hS, hZ, Ou, Ov, Oy, B6, B8, R0, N0, R1, N1, m5_4, m6_5, m7_6, m8_3, m8_7, m9_0, m10_1, m11_2, m12_8⟩ := HI.out
     simp [Region.binds] at hr
     have g8 : g 8 = true := (by simp [hr])
     obtain ⟨x8, y8⟩ := i8 g8
     have z8 := sl_get y8 (by omega)
     clear i8
     go_simp
     obtain ⟨-, -, -, -, -, -, i0, i1, i2, i3, i4, i5, i6, i7, i8, i10, i12, -⟩ := HI.out
     exact hK.out _ _ ⟨qB xi2, qB xi4, qB xi6, qB xi7, qB xi8, qB xi9, (fun h => by rw [put_ne (by decide)]; exact i0 h), (fun h => by rw [put_ne (by decide)]; exact i1 h), (fun h => by rw [put_ne (by decide)]; exact i2 h), (fun h => by rw [put_ne (by decide)]; exact i3 h), (fun h => by rw [put_ne (by decide)]; exact i4 h), (fun h => by rw [put_ne (by decide)]; exact i5 h), (fun h => by rw [put_ne (by decide)]; exact i6 h), (fun h => by rw [put_ne (by decide)]; exact i7 h), (fun h => by rw [put_ne (by decide)]; exact i8 h), (fun h => by rw [put_ne (by decide)]; exact i10 h), (fun _ => ⟨_, put_eq (by omega)⟩), hD, hS, hZ, Ou, Ov, Oy, B6, B8, (fun h => (R0 h)), (fun h => N0 h), (fun h => (R1 h)), (fun h => N1 h), m5_4, m6_5, m7_6, m8_3, m8_7, m9_0, m10_1, m11_2, (fun _ => g8)⟩
set_option maxHeartbeats 4000000 in
theorem w_DrawBetterPlan (c : Value) (bs : List Int) (w : World) (h : IsByts w c bs) (hB : ∀ b ∈ bs, 0 ≤ b ∧ b ≤ 255) (hl : bs.length ≤ 4096) :
 Calls Tryz.prog 33 #[c] w fun e w' => ∃ (n : Int) (u v : Value) (st sd : List Int) (y : Value) (c' : List Trm) (r : Ers), e = .returned (.tuple #[.agg #[.int .i64 n, u, v], y, .agg #[.int .i64 r.en, .int .i64 r.pa, .int .i64 r.ey]]) ∧ w'.ownsRow w.heap.size 2 1 u st.length (nums st) ∧ w'.ownsRow w.heap.size 2 1 v sd.length (nums sd) ∧ st.length ≤ 5 ∧ sd.length ≤ 5 ∧ w'.ownsRow w.heap.size 93 3 y c'.length (trms c') ∧ c'.length ≤ 7 ∧ Later w w' := by
 go_enter Tryz.func33, Tryz.ntmps33
 go_wp2_with fail
 refine (w_DrawPlanUnits c bs _ (h.later (qla)) hB hl).mono ?_
 rintro e w1 ⟨n, vu, vv, st, sd, vy, l, r, rfl, hOu, hOv, hu5, hv5, hOy, hl7, hL⟩
 obtain ⟨au, capu, rfl⟩ := isSl_of hOu
 obtain ⟨av, capv, rfl⟩ := isSl_of hOv
 obtain ⟨ay, capy, rfl⟩ := isSl_of hOy
 have HOu_1 := Lib.hid (owns_base (base' := w.heap.size + 1 + 1) hOu (by simp))
 have HOv_1 := Lib.hid (owns_base (base' := w.heap.size + 1 + 1) hOv (by simp))
 have HOy_1 := Lib.hid (owns_base (base' := w.heap.size + 1 + 1) hOy (by simp))
 have hnu := ne_own (k := w1.heap.size) HOu_1.out (Nat.le_refl _)
 have hnv := ne_own (k := w1.heap.size) HOv_1.out (Nat.le_refl _)
 have hny := ne_own (k := w1.heap.size) HOy_1.out (Nat.le_refl _)
 have hnu2 := ne_own (k := w1.heap.size + 1) HOu_1.out (by omega)
 have hnv2 := ne_own (k := w1.heap.size + 1) HOv_1.out (by omega)
 have hny2 := ne_own (k := w1.heap.size + 1) HOy_1.out (by omega)
 have hcy : l.length ≤ capy := by
  rcases own_shape hOy with ⟨h1, _, _⟩ | ⟨_, _, h1, _, _, h3, _⟩
  · have e := (Value.slice.inj h1).2
    omega
  · cases h1
    exact h3
 have K0 := hL.keep (k := w.heap.size) (heap_alloc_old _ _ (heap_alloc_new _ _))
 have K1 := hL.keep (k := w.heap.size + 1) (heap_alloc_new' _ _ (by simp))
 obtain ⟨c0, f0, z0⟩ := blk_at K0
 obtain ⟨c1, f1, z1⟩ := blk_at K1
 have hLw : Later w w1 := (Later.alloc (Later.alloc (Later.refl w) _) _).trans hL
 have hz1 := hLw.size
 have hz2 : w.heap.size + 1 + 1 ≤ w1.heap.size := by have := hL.size; simpa using this
 clear hOu hOv hOy K0 K1 hL
 by_cases h5 : 5 < l.length
 · have HT := Lib.hid (own_trms_take' HOy_1.out rfl (k := 5) (by omega) (by decide))
   have hny5 := ne_own (k := w1.heap.size) HT.out (Nat.le_refl _)
   have hny52 := ne_own (k := w1.heap.size + 1) HT.out (by omega)
   have hle : ((5 : Int) ≤ (capy : Int)) = True := by simp; omega
   go_wp2_with fail
   go_region
   go_wp2
   refine bodyPost_ret (v := .tuple #[.agg #[.int .i64 n, .slice au st.length capu, .slice av sd.length capv], .slice ay 5 capy, .agg #[.int .i64 r.en, .int .i64 r.pa, .int .i64 r.ey]]) (by simp [results, Tryz.results33, go_sem, c0, z0, c1, z1]) rfl ⟨n, _, _, st, sd, _, l.take 5, r, rfl, owns_base (base := w.heap.size + 1 + 1) (qoh HOu_1) (by omega), owns_base (base := w.heap.size + 1 + 1) (qoh HOv_1) (by omega), hu5, hv5, owns_base (base := w.heap.size + 1 + 1) (qoh HT) (by omega), by rw [List.length_take]; omega, qla⟩
 · go_wp2_with fail
   go_region
   go_wp2
   refine bodyPost_ret (v := .tuple #[.agg #[.int .i64 n, .slice au st.length capu, .slice av sd.length capv], .slice ay l.length capy, .agg #[.int .i64 r.en, .int .i64 r.pa, .int .i64 r.ey]]) (by simp [results, Tryz.results33, go_sem, c0, z0, c1, z1]) rfl ⟨n, _, _, st, sd, _, l, r, rfl, owns_base (base := w.heap.size + 1 + 1) (qoh HOu_1) (by omega), owns_base (base := w.heap.size + 1 + 1) (qoh HOv_1) (by omega), hu5, hv5, owns_base (base := w.heap.size + 1 + 1) (qoh HOy_1) (by omega), hl7, qla⟩
end Go.Proofs.YtkoojngonldcbaaGreat
