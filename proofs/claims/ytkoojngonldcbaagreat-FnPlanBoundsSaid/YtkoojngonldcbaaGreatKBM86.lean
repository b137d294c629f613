/- DERIVED. Walks: the result of the usual plan. -/
import Derived.Test.YtkoojngonldcbaaGreatKBM82
import Derived.Test.YtkoojngonldcbaaGreatKBM83
import Derived.Test.YtkoojngonldcbaaGreatKBM56
import Derived.Test.YtkoojngonldcbaaGreatKBM59
namespace Go.Proofs.YtkoojngonldcbaaGreat
set_option linter.unusedVariables false
set_option linter.unusedSimpArgs false
open Go.RowKit
set_option maxRecDepth 100000
noncomputable def resF (r : Rul) (c : List Trm) : Fig := if codePlan r c = 0 then readF 0 (usualP c).s.cu else ⟨0, 0⟩
theorem res_no {r : Rul} {c : List Trm} {X : Int} (h : codePlan r c = X) (h0 : X ≠ 0) : resF r c = ⟨0, 0⟩ := by unfold resF; rw [h, if_neg h0]
theorem res_0 {r : Rul} {c : List Trm} (h : codePlan r c = 0) : resF r c = readF 0 (usualP c).s.cu := by unfold resF; rw [if_pos h]
set_option maxHeartbeats 2000000 in
theorem w_specResultOf (n : Int) (u v y : Value) (st sd : List Int) (c : List Trm) (w : World) (h : IsNums w u st) (h' : IsNums w v sd) (hy : IsTrms w y c) :
 Calls Tryz.prog 23 #[.agg #[.int .i64 n, u, v], y] w fun e w' => e = .returned (.tuple #[.agg #[.int .i64 (resF ⟨n, st, sd⟩ c).d, .int .i64 (resF ⟨n, st, sd⟩ c).t], .int .i64 (codePlan ⟨n, st, sd⟩ c)]) ∧ Later w w' := by
 have H := Lib.hid h
 have H' := Lib.hid h'
 have HY := Lib.hid hy
 obtain ⟨_, _, au, capu, rfl, _, _, _⟩ := h
 obtain ⟨_, _, av, capv, rfl, _, _, _⟩ := h'
 obtain ⟨_, _, ay, capy, rfl, _, _, _⟩ := hy
 obtain ⟨X, hX⟩ : ∃ y, codePlan ⟨n, st, sd⟩ c = y := ⟨_, rfl⟩
 have HX := Lib.hid hX
 by_cases h0 : X = 0
 rotate_left
 · have HF := Lib.hid (res_no hX h0)
   have hb : (X != 0) = true := by simp [h0]
   clear hX h0
   go_enter Tryz.func23, Tryz.ntmps23
   go_wp2_with fail
   refine (w_l14Code _ _ _ _ _ _ _ _ (H.out.later (((Later.refl _).alloc _).alloc _)) (H'.out.later (((Later.refl _).alloc _).alloc _)) (HY.out.later (((Later.refl _).alloc _).alloc _))).mono ?_
   rintro e w1 ⟨rfl, hL1⟩
   rw [HX.out]
   have HLw1 := Lib.hid ((((Later.refl w).alloc _).alloc _).trans hL1)
   obtain ⟨K0, K1⟩ := kept2 hL1
   have HK0_1 := Lib.hid K0
   have HK1_1 := Lib.hid K1
   clear K0 K1
   clear hL1
   obtain ⟨c0, f0, z0⟩ := blk_at HK0_1.out
   obtain ⟨c1, f1, z1⟩ := blk_at HK1_1.out
   go_wp2
   refine bodyPost_ret (v := .tuple #[.agg #[.int .i64 0, .int .i64 0], .int .i64 X]) (by simp [results, Tryz.results23, go_sem, c1, z1]) rfl ⟨by rw [HX.out, HF.out], by have hLw := HLw1.out; exact qla⟩
 subst h0
 have hp := codePlan_0 hX
 have ho := OkP.usual (r := ⟨n, st, sd⟩) hp.2.2 hp.2.1
 have hsb := isStg_bd ho.st
 have HC := Lib.hid hp.2.2
 have HCh := Lib.hid hp.2.1
 obtain ⟨SH, hSH⟩ : ∃ y, (usualP c).s.sh = y := ⟨_, rfl⟩
 obtain ⟨CU, hCU⟩ : ∃ y, (usualP c).s.cu = y := ⟨_, rfl⟩
 rw [hSH, hCU] at hsb
 obtain ⟨q1, q2, q3, q4⟩ := hsb
 obtain ⟨G, hG⟩ : ∃ y, readF 0 CU = y := ⟨_, rfl⟩
 have HG := Lib.hid hG
 have HF := Lib.hid (show resF ⟨n, st, sd⟩ c = G from by rw [res_0 hX, hCU, hG])
 have HSH := Lib.hid hSH
 have HCU := Lib.hid hCU
 have HA0 := Lib.hid ho
 obtain ⟨l, hl⟩ : ∃ x, planL c = x := ⟨_, rfl⟩
 have h17 := planL_len (r := ⟨n, st, sd⟩) hp.2.2 hp.2.1
 rw [hl] at h17
 have HLd := Lib.hid hl
 have hrun := planL_run (r := ⟨n, st, sd⟩) hp.2.2 hp.2.1
 rw [hl] at hrun
 have HS1 := Lib.hid (show (lastSt ⟨0, 0⟩ (runSt ⟨n, st, sd⟩ ⟨0, 0⟩ l)).sh = SH from by rw [hrun, hSH])
 have HS2 := Lib.hid (show (lastSt ⟨0, 0⟩ (runSt ⟨n, st, sd⟩ ⟨0, 0⟩ l)).cu = CU from by rw [hrun, hCU])
 obtain ⟨SP, hSP⟩ : ∃ x, stopI ⟨n, st, sd⟩ ⟨0, 0⟩ l = x := ⟨_, rfl⟩
 have HS3 := Lib.hid hSP
 have HAm := Lib.hid (show l.all isMove = true from by rw [← hl]; exact ho.mv)
 clear hX hp ho hSH hCU hG hl hrun hSP
 go_enter Tryz.func23, Tryz.ntmps23
 go_wp2_with fail
 refine (w_l14Code _ _ _ _ _ _ _ _ (H.out.later (((Later.refl _).alloc _).alloc _)) (H'.out.later (((Later.refl _).alloc _).alloc _)) (HY.out.later (((Later.refl _).alloc _).alloc _))).mono ?_
 rintro e w1 ⟨rfl, hL1⟩
 rw [HX.out]
 have HLw1 := Lib.hid ((((Later.refl w).alloc _).alloc _).trans hL1)
 obtain ⟨K0, K1⟩ := kept2 hL1
 have HK0_1 := Lib.hid K0
 have HK1_1 := Lib.hid K1
 clear K0 K1
 clear hL1
 obtain ⟨c0, f0, z0⟩ := blk_at HK0_1.out
 obtain ⟨c1, f1, z1⟩ := blk_at HK1_1.out
 go_wp2_with fail
 refine wp_name ?_
 intro z hz
 have hL0 : Later w z := by rw [hz]; exact HLw1.out
 have Kr := HK0_1.out
 have Kq := HK1_1.out
 rw [← hz] at Kr Kq
 have hSB := hL0.size
 clear hz c0 f0 z0 c1 f1 z1
 have lt0 := (Array.getElem?_eq_some_iff.1 Kr).1
 have lt1 := (Array.getElem?_eq_some_iff.1 Kq).1
 refine region_slots 28 [17, 18, 19, 20, 21, 22, 16, 23, 24, 7, 8] (fun g ac wc => sl ac 1 = .slice ay c.length capy ∧
  sl ac 2 = .pointer (some ⟨w.heap.size, 0, none⟩) ∧
  sl ac 4 = .pointer (some ⟨w.heap.size + 1, 0, none⟩) ∧
  (g 0 = true → sl ac 17 = .agg #[.int .i64 n, .slice au st.length capu, .slice av sd.length capv]) ∧
  (g 1 = true → sl ac 18 = .agg #[.int .i64 0, .int .i64 0]) ∧
  (g 2 = true → sl ac 19 = .agg #[.int .i64 n, .slice au st.length capu, .slice av sd.length capv]) ∧
  (g 3 = true → sl ac 20 = .slice ay c.length capy) ∧
  (g 5 = true → sl ac 22 = .tuple #[.agg #[.int .i64 SH, .int .i64 CU], .int .i64 SP]) ∧
  (g 6 = true → sl ac 16 = .tuple #[.agg #[.int .i64 SH, .int .i64 CU], .int .i64 SP]) ∧
  (g 7 = true → sl ac 23 = .agg #[.int .i64 SH, .int .i64 CU]) ∧
  (g 8 = true → sl ac 24 = .int .i64 SP) ∧
  (g 11 = true → sl ac 8 = .int .i64 SP) ∧
  Later w wc ∧
  (g 4 = true → (IsSl (sl ac 21) (l.length) ∧ sl ac 21 = sl ac 21) ∧ (g 5 = false → wc.ownsRow z.heap.size 88 4 (sl ac 21) (l.length) (movs l))) ∧
  (g 9 = true → ∃ k, sl ac 7 = .pointer (some ⟨k, 0, none⟩) ∧ z.heap.size ≤ k ∧ ∃ q9_0 q9_1, wc.heap[k]? = some (.cells #[q9_0, q9_1] 78 (0, 0)) ∧ (g 10 = true → q9_0 = .int .i64 SH ∧ q9_1 = .int .i64 CU)) ∧
  (g 10 = true → g 9 = true) ∧
  (g 6 = true → g 5 = true) ∧
  (g 7 = true → g 6 = true) ∧
  (g 10 = true → g 7 = true) ∧
  (g 10 = true → g 5 = true) ∧
  z.heap.size ≤ wc.heap.size ∧
  wc.heap[w.heap.size]? = some (.cells #[.int .i64 n, .slice au st.length capu, .slice av sd.length capv] 26 (0, 0)) ∧
  wc.heap[w.heap.size + 1]? = some (.cells #[.int .i64 0, .int .i64 0] 46 (0, 0))) (by kernel_rfl) (by kernel_rfl) rfl (by kernel_rfl) ?_ ?_ ?_
 · exact ⟨rfl, rfl, rfl, nofun, nofun, nofun, nofun, nofun, nofun, nofun, nofun, nofun, hL0.drew, nofun, nofun, nofun, nofun, nofun, nofun, nofun, Nat.le_refl _, Kr, Kq⟩
 · intro g ac wu hg ha hI
   obtain ⟨x1, x2, x4, i0, i1, i2, i3, i5, i6, i7, i8, i11, hL, p4, n9, -, -, -, -, -, hS, Br, Bq⟩ := hI
   obtain ⟨⟨⟨ar4, capr4, f4⟩, e4⟩, -⟩ := p4 (hg 4 (by simp))
   clear e4
   have e4 := f4
   have a0 := i0 (hg 0 (by simp))
   have a1 := i1 (hg 1 (by simp))
   have a2 := i2 (hg 2 (by simp))
   have a3 := i3 (hg 3 (by simp))
   have a5 := i5 (hg 5 (by simp))
   have a6 := i6 (hg 6 (by simp))
   have a7 := i7 (hg 7 (by simp))
   have a8 := i8 (hg 8 (by simp))
   have a11 := i11 (hg 11 (by simp))
   obtain ⟨kr9, e9, br9, q9_0, q9_1, Kr9, g9⟩ := n9 (hg 9 (by simp))
   have g9 := g9 (hg 10 (by simp))
   rw [g9.1, g9.2] at Kr9
   clear g9
   simp only [putAll, e4, a0, a1, a2, a3, a5, a6, a7, a8, a11, e9] at ha
   simp only [Act.put, List.setIfInBounds_toArray, List.set_cons_succ, List.set_cons_zero] at ha
   rw [ha]
   clear x1 x2 x4 i0 i1 i2 i3 i5 i6 i7 i8 i11 a0 a1 a2 a3 a5 a6 a7 a8 a11 p4 e4 f4 e9 n9 hg ha
   have HBq := Lib.hid Bq
   obtain ⟨c7, f7, z7⟩ := blk_at Kr9
   have HL := Lib.hid hL
   clear hL hS Br Bq
   go_wp2_with fail
   refine (w_l11Read 0 CU _ (by omega) (by omega) (by omega) (by omega)).mono ?_
   rintro e w3 ⟨rfl, hL3⟩
   rw [HG.out]
   have HL3 := Lib.hid (HL.out.trans hL3)
   have K1 := hL3.keep HBq.out
   clear c7 f7 z7 hL3
   obtain ⟨c1, f1, z1⟩ := blk_at K1
   clear K1
   go_wp2
   refine bodyPost_ret (v := .tuple #[.agg #[.int .i64 G.d, .int .i64 G.t], .int .i64 0]) (by simp [results, Tryz.results23, go_sem, c1, z1]) rfl ⟨by rw [HX.out, HF.out], by have hLw := HL3.out; exact qla⟩
 · refine .cons ?_ (.cons ?_ (.cons ?_ (.cons ?_ (.cons ?_ (.cons ?_ (.cons ?_ (.cons ?_ (.cons ?_ (.cons ?_ (.cons ?_ (.cons ?_ .nil)))))))))))
   · refine qst fun g ac wc hn hk hr HI K' hK => ?_
     obtain ⟨x1, x2, x4, i0, i1, i2, i3, i5, i6, i7, i8, i11, hL, p4, n9, m10_9, m6_5, m7_6, m10_7, m10_5, hS, Br, Bq⟩ := HI.out
     simp [Region.binds] at hr
     clear i0 i1 i2 i3 i5 i6 i7 i8 i11 p4 n9
     obtain ⟨c0, f0, z0⟩ := blk_at Br
     go_simp
     obtain ⟨-, -, -, i0, i1, i2, i3, i5, i6, i7, i8, i11, -, p4, n9, -⟩ := HI.out
     exact hK.out _ _ ⟨qB x1, qB x2, qB x4, qP, qF i1, qF i2, qF i3, qF i5, qF i6, qF i7, qF i8, qF i11, hL, (fun h => by obtain ⟨⟨hs, hv⟩, ho⟩ := p4 h; exact ⟨⟨by rw [put_ne (show 21 ≠ 17 by decide)]; exact hs, rfl⟩, fun ht => by have ho := ho ht; exact (by rw [put_ne (show 21 ≠ 17 by decide)]; exact ho)⟩), (fun h => by obtain ⟨k, e1, e2, q9_0, q9_1, e3, e4⟩ := n9 h; exact ⟨k, (put_ne (by decide)).trans e1, e2, q9_0, q9_1, e3, e4⟩), m10_9, m6_5, m7_6, m10_7, m10_5, hS, Br, Bq⟩
   · refine qst fun g ac wc hn hk hr HI K' hK => ?_
     obtain ⟨x1, x2, x4, i0, i1, i2, i3, i5, i6, i7, i8, i11, hL, p4, n9, m10_9, m6_5, m7_6, m10_7, m10_5, hS, Br, Bq⟩ := HI.out
     simp [Region.binds] at hr
     clear i0 i1 i2 i3 i5 i6 i7 i8 i11 p4 n9
     go_simp
     obtain ⟨-, -, -, i0, i1, i2, i3, i5, i6, i7, i8, i11, -, p4, n9, -⟩ := HI.out
     exact hK.out _ _ ⟨qB x1, qB x2, qB x4, qF i0, qP, qF i2, qF i3, qF i5, qF i6, qF i7, qF i8, qF i11, hL, (fun h => by obtain ⟨⟨hs, hv⟩, ho⟩ := p4 h; exact ⟨⟨by rw [put_ne (show 21 ≠ 18 by decide)]; exact hs, rfl⟩, fun ht => by have ho := ho ht; exact (by rw [put_ne (show 21 ≠ 18 by decide)]; exact ho)⟩), (fun h => by obtain ⟨k, e1, e2, q9_0, q9_1, e3, e4⟩ := n9 h; exact ⟨k, (put_ne (by decide)).trans e1, e2, q9_0, q9_1, e3, e4⟩), m10_9, m6_5, m7_6, m10_7, m10_5, hS, Br, Bq⟩
   · refine qst fun g ac wc hn hk hr HI K' hK => ?_
     obtain ⟨x1, x2, x4, i0, i1, i2, i3, i5, i6, i7, i8, i11, hL, p4, n9, m10_9, m6_5, m7_6, m10_7, m10_5, hS, Br, Bq⟩ := HI.out
     simp [Region.binds] at hr
     clear i0 i1 i2 i3 i5 i6 i7 i8 i11 p4 n9
     obtain ⟨c0, f0, z0⟩ := blk_at Br
     go_simp
     obtain ⟨-, -, -, i0, i1, i2, i3, i5, i6, i7, i8, i11, -, p4, n9, -⟩ := HI.out
     exact hK.out _ _ ⟨qB x1, qB x2, qB x4, qF i0, qF i1, qP, qF i3, qF i5, qF i6, qF i7, qF i8, qF i11, hL, (fun h => by obtain ⟨⟨hs, hv⟩, ho⟩ := p4 h; exact ⟨⟨by rw [put_ne (show 21 ≠ 19 by decide)]; exact hs, rfl⟩, fun ht => by have ho := ho ht; exact (by rw [put_ne (show 21 ≠ 19 by decide)]; exact ho)⟩), (fun h => by obtain ⟨k, e1, e2, q9_0, q9_1, e3, e4⟩ := n9 h; exact ⟨k, (put_ne (by decide)).trans e1, e2, q9_0, q9_1, e3, e4⟩), m10_9, m6_5, m7_6, m10_7, m10_5, hS, Br, Bq⟩
   · refine qst fun g ac wc hn hk hr HI K' hK => ?_
     obtain ⟨x1, x2, x4, i0, i1, i2, i3, i5, i6, i7, i8, i11, hL, p4, n9, m10_9, m6_5, m7_6, m10_7, m10_5, hS, Br, Bq⟩ := HI.out
     simp [Region.binds] at hr
     clear i0 i1 i2 i3 i5 i6 i7 i8 i11 p4 n9
     go_simp
     obtain ⟨-, -, -, i0, i1, i2, i3, i5, i6, i7, i8, i11, -, p4, n9, -⟩ := HI.out
     exact hK.out _ _ ⟨qB x1, qB x2, qB x4, qF i0, qF i1, qF i2, qP, qF i5, qF i6, qF i7, qF i8, qF i11, hL, (fun h => by obtain ⟨⟨hs, hv⟩, ho⟩ := p4 h; exact ⟨⟨by rw [put_ne (show 21 ≠ 20 by decide)]; exact hs, rfl⟩, fun ht => by have ho := ho ht; exact (by rw [put_ne (show 21 ≠ 20 by decide)]; exact ho)⟩), (fun h => by obtain ⟨k, e1, e2, q9_0, q9_1, e3, e4⟩ := n9 h; exact ⟨k, (put_ne (by decide)).trans e1, e2, q9_0, q9_1, e3, e4⟩), m10_9, m6_5, m7_6, m10_7, m10_5, hS, Br, Bq⟩
   · refine qst fun g ac wc hn hk hr HI K' hK => ?_
     obtain ⟨x1, x2, x4, i0, i1, i2, i3, i5, i6, i7, i8, i11, hL, p4, n9, m10_9, m6_5, m7_6, m10_7, m10_5, hS, Br, Bq⟩ := HI.out
     simp [Region.binds] at hr
     have y2 := i2 (by simp [hr])
     have y3 := i3 (by simp [hr])
     clear i0 i1 i2 i3 i5 i6 i7 i8 i11 p4 n9
     go_simp
     refine (w_l14Usual n _ _ _ st sd c _ (H.out.later hL) (H'.out.later hL) (HY.out.later hL) HC.out HCh.out).mono ?_
     rintro e w4 ⟨a4, l4, c4, rfl, hL4, ho4⟩
     rw [HLd.out] at ho4
     obtain ⟨a5, c5, e5⟩ := isSl_of ho4
     simp only [Value.slice.injEq] at e5
     obtain ⟨rfl, rfl, rfl⟩ := e5
     obtain ⟨-, -, -, i0, i1, i2, i3, i5, i6, i7, i8, i11, -, p4, n9, -⟩ := HI.out
     exact hK.out _ _ ⟨qB x1, qB x2, qB x4, qF i0, qF i1, qF i2, qF i3, qF i5, qF i6, qF i7, qF i8, qF i11, hL.trans hL4, (fun _ => ⟨⟨by rw [put_eq (by omega)]; exact ⟨_, _, rfl⟩, rfl⟩, fun _ => by rw [put_eq (by omega)]; exact owns_base ho4 hS⟩), (fun h => by obtain ⟨k, e1, e2, q9_0, q9_1, e3, e4⟩ := n9 h; exact ⟨k, (put_ne (by decide)).trans e1, e2, q9_0, q9_1, hL4.keep e3, e4⟩), m10_9, m6_5, m7_6, m10_7, m10_5, Nat.le_trans hS hL4.size, (hL4.keep Br), (hL4.keep Bq)⟩
   · refine qst fun g ac wc hn hk hr HI K' hK => ?_
     obtain ⟨x1, x2, x4, i0, i1, i2, i3, i5, i6, i7, i8, i11, hL, p4, n9, m10_9, m6_5, m7_6, m10_7, m10_5, hS, Br, Bq⟩ := HI.out
     simp [Region.binds] at hr
     have y0 := i0 (by simp [hr])
     have y1 := i1 (by simp [hr])
     obtain ⟨⟨⟨aa4, cc4, ff4⟩, y4⟩, ho4⟩ := p4 (by simp [hr])
     have ho4 := ho4 hk
     clear y4
     have y4 := ff4
     rw [ff4] at ho4
     have z4 := sl_get y4 (by omega)
     clear i0 i1 i2 i3 i5 i6 i7 i8 i11 p4 n9
     go_simp
     refine (w_l12Run n _ _ _ st sd 0 0 l _ (H.out.later hL) (H'.out.later hL) (by decide) (reads_of_owns ho4 (by omega)) HAm.out (by omega)).mono ?_
     rintro e w4 ⟨rfl, hL4⟩
     rw [HS1.out, HS2.out, HS3.out]
     obtain ⟨-, -, -, i0, i1, i2, i3, i5, i6, i7, i8, i11, -, p4, n9, -⟩ := HI.out
     exact hK.out _ _ ⟨qB x1, qB x2, qB x4, qF i0, qF i1, qF i2, qF i3, qP, (fun h => absurd (m6_5 h) (by rw [hk]; simp)), qF i7, qF i8, qF i11, hL.trans hL4, (fun h => by obtain ⟨⟨hs, hv⟩, ho⟩ := p4 h; exact ⟨⟨by rw [put_ne (show 21 ≠ 22 by decide)]; exact hs, rfl⟩, fun h => absurd h (by simp)⟩), (fun h => by obtain ⟨k, e1, e2, q9_0, q9_1, e3, e4⟩ := n9 h; exact ⟨k, (put_ne (by decide)).trans e1, e2, q9_0, q9_1, hL4.keep e3, (fun h => absurd (m10_5 h) (by rw [hk]; simp))⟩), m10_9, (fun _ => rfl), m7_6, m10_7, (fun _ => rfl), Nat.le_trans hS hL4.size, (hL4.keep Br), (hL4.keep Bq)⟩
   · refine qst fun g ac wc hn hk hr HI K' hK => ?_
     obtain ⟨x1, x2, x4, i0, i1, i2, i3, i5, i6, i7, i8, i11, hL, p4, n9, m10_9, m6_5, m7_6, m10_7, m10_5, hS, Br, Bq⟩ := HI.out
     simp [Region.binds] at hr
     have y5 := i5 (by simp [hr])
     have gm5 : g 5 = true := by first | exact m6_5 (by simp [hr]) | exact hr | exact hr.1 | exact hr.2 | exact hr.2.1 | simp [hr]
     clear i0 i1 i2 i3 i5 i6 i7 i8 i11 p4 n9
     go_simp
     obtain ⟨-, -, -, i0, i1, i2, i3, i5, i6, i7, i8, i11, -, p4, n9, -⟩ := HI.out
     exact hK.out _ _ ⟨qB x1, qB x2, qB x4, qF i0, qF i1, qF i2, qF i3, qF i5, qP, (fun h => absurd (m7_6 h) (by rw [hk]; simp)), qF i8, qF i11, hL, (fun h => by obtain ⟨⟨hs, hv⟩, ho⟩ := p4 h; exact ⟨⟨by rw [put_ne (show 21 ≠ 16 by decide)]; exact hs, rfl⟩, fun ht => by have ho := ho ht; exact (by rw [put_ne (show 21 ≠ 16 by decide)]; exact ho)⟩), (fun h => by obtain ⟨k, e1, e2, q9_0, q9_1, e3, e4⟩ := n9 h; exact ⟨k, (put_ne (by decide)).trans e1, e2, q9_0, q9_1, e3, e4⟩), m10_9, (fun _ => gm5), (fun _ => rfl), m10_7, m10_5, hS, Br, Bq⟩
   · refine qst fun g ac wc hn hk hr HI K' hK => ?_
     obtain ⟨x1, x2, x4, i0, i1, i2, i3, i5, i6, i7, i8, i11, hL, p4, n9, m10_9, m6_5, m7_6, m10_7, m10_5, hS, Br, Bq⟩ := HI.out
     simp [Region.binds] at hr
     have y6 := i6 (by simp [hr])
     have gm6 : g 6 = true := by first | exact m7_6 (by simp [hr]) | exact hr | exact hr.1 | exact hr.2 | exact hr.2.1 | simp [hr]
     clear i0 i1 i2 i3 i5 i6 i7 i8 i11 p4 n9
     go_simp
     obtain ⟨-, -, -, i0, i1, i2, i3, i5, i6, i7, i8, i11, -, p4, n9, -⟩ := HI.out
     exact hK.out _ _ ⟨qB x1, qB x2, qB x4, qF i0, qF i1, qF i2, qF i3, qF i5, qF i6, qP, qF i8, qF i11, hL, (fun h => by obtain ⟨⟨hs, hv⟩, ho⟩ := p4 h; exact ⟨⟨by rw [put_ne (show 21 ≠ 23 by decide)]; exact hs, rfl⟩, fun ht => by have ho := ho ht; exact (by rw [put_ne (show 21 ≠ 23 by decide)]; exact ho)⟩), (fun h => by obtain ⟨k, e1, e2, q9_0, q9_1, e3, e4⟩ := n9 h; exact ⟨k, (put_ne (by decide)).trans e1, e2, q9_0, q9_1, e3, (fun h => absurd (m10_7 h) (by rw [hk]; simp))⟩), m10_9, m6_5, (fun _ => gm6), (fun _ => rfl), m10_5, hS, Br, Bq⟩
   · refine qst fun g ac wc hn hk hr HI K' hK => ?_
     obtain ⟨x1, x2, x4, i0, i1, i2, i3, i5, i6, i7, i8, i11, hL, p4, n9, m10_9, m6_5, m7_6, m10_7, m10_5, hS, Br, Bq⟩ := HI.out
     simp [Region.binds] at hr
     have y6 := i6 (by simp [hr])
     clear i0 i1 i2 i3 i5 i6 i7 i8 i11 p4 n9
     go_simp
     obtain ⟨-, -, -, i0, i1, i2, i3, i5, i6, i7, i8, i11, -, p4, n9, -⟩ := HI.out
     exact hK.out _ _ ⟨qB x1, qB x2, qB x4, qF i0, qF i1, qF i2, qF i3, qF i5, qF i6, qF i7, qP, qF i11, hL, (fun h => by obtain ⟨⟨hs, hv⟩, ho⟩ := p4 h; exact ⟨⟨by rw [put_ne (show 21 ≠ 24 by decide)]; exact hs, rfl⟩, fun ht => by have ho := ho ht; exact (by rw [put_ne (show 21 ≠ 24 by decide)]; exact ho)⟩), (fun h => by obtain ⟨k, e1, e2, q9_0, q9_1, e3, e4⟩ := n9 h; exact ⟨k, (put_ne (by decide)).trans e1, e2, q9_0, q9_1, e3, e4⟩), m10_9, m6_5, m7_6, m10_7, m10_5, hS, Br, Bq⟩
   · refine qst fun g ac wc hn hk hr HI K' hK => ?_
     obtain ⟨x1, x2, x4, i0, i1, i2, i3, i5, i6, i7, i8, i11, hL, p4, n9, m10_9, m6_5, m7_6, m10_7, m10_5, hS, Br, Bq⟩ := HI.out
     simp [Region.binds] at hr
     clear i0 i1 i2 i3 i5 i6 i7 i8 i11 p4 n9
     go_simp
     have hL4 := (Later.refl wc).alloc (.cells #[.int .i64 0, .int .i64 0] 78)
     obtain ⟨-, -, -, i0, i1, i2, i3, i5, i6, i7, i8, i11, -, p4, n9, -⟩ := HI.out
     exact hK.out _ _ ⟨qB x1, qB x2, qB x4, qF i0, qF i1, qF i2, qF i3, qF i5, qF i6, qF i7, qF i8, qF i11, hL.alloc _, (fun h => by obtain ⟨⟨hs, hv⟩, ho⟩ := p4 h; exact ⟨⟨by rw [put_ne (show 21 ≠ 7 by decide)]; exact hs, rfl⟩, fun ht => by have ho := ho ht; exact (by rw [put_ne (show 21 ≠ 7 by decide)]; exact (owns_later ho hL4))⟩), (fun _ => ⟨_, put_eq (by omega), hS, _, _, heap_alloc_new _ _, fun h => absurd (m10_9 h) (by rw [hk]; simp)⟩), (fun _ => rfl), m6_5, m7_6, m10_7, m10_5, (by simp; omega), (hL4.keep Br), (hL4.keep Bq)⟩
   · refine qst fun g ac wc hn hk hr HI K' hK => ?_
     obtain ⟨x1, x2, x4, i0, i1, i2, i3, i5, i6, i7, i8, i11, hL, p4, n9, m10_9, m6_5, m7_6, m10_7, m10_5, hS, Br, Bq⟩ := HI.out
     simp [Region.binds] at hr
     have y7 := i7 (by simp [hr])
     have gm9 : g 9 = true := by first | exact m10_9 (by simp [hr]) | exact hr | exact hr.1 | exact hr.2 | exact hr.2.1 | simp [hr]
     have gm7 : g 7 = true := by first | exact m10_7 (by simp [hr]) | exact hr | exact hr.1 | exact hr.2 | exact hr.2.1 | simp [hr]
     have gm5 : g 5 = true := m6_5 (m7_6 gm7)
     replace i0 := Lib.hid i0
     replace i1 := Lib.hid i1
     replace i2 := Lib.hid i2
     replace i3 := Lib.hid i3
     replace i5 := Lib.hid i5
     replace i6 := Lib.hid i6
     replace i7 := Lib.hid i7
     replace i8 := Lib.hid i8
     replace i11 := Lib.hid i11
     replace p4 := Lib.hid p4
     replace n9 := Lib.hid n9
     obtain ⟨k, e1, e2, q9_0, q9_1, e3, -⟩ := n9.out gm9
     obtain ⟨c0, f0, z0⟩ := blk_at e3
     have ze := sl_get e1 (by omega)
     have z7 := sl_get y7 (by omega)
     go_simp
     exact hK.out undef _ ⟨x1, x2, x4, i0.out, i1.out, i2.out, i3.out, i5.out, i6.out, i7.out, i8.out, i11.out, ((hL.setCell (show w.heap.size ≤ k by omega) _).setCell (show w.heap.size ≤ k by omega) _), (fun h => by obtain ⟨⟨hs, hv⟩, ho⟩ := p4.out h; exact ⟨⟨hs, rfl⟩, fun ht => absurd gm5 (by rw [show g 5 = false from ht]; simp)⟩), (fun _ => ⟨k, e1, e2, _, _, two_set e3 _ _, fun _ => ⟨rfl, rfl⟩⟩), (fun _ => gm9), m6_5, m7_6, (fun _ => gm7), (fun _ => gm5), (by simp; omega), (other_set (other_set Br (by omega) _) (by omega) _), (other_set (other_set Bq (by omega) _) (by omega) _)⟩
   · refine qst fun g ac wc hn hk hr HI K' hK => ?_
     obtain ⟨x1, x2, x4, i0, i1, i2, i3, i5, i6, i7, i8, i11, hL, p4, n9, m10_9, m6_5, m7_6, m10_7, m10_5, hS, Br, Bq⟩ := HI.out
     simp [Region.binds] at hr
     have y8 := i8 (by simp [hr])
     clear i0 i1 i2 i3 i5 i6 i7 i8 i11 p4 n9
     go_simp
     obtain ⟨-, -, -, i0, i1, i2, i3, i5, i6, i7, i8, i11, -, p4, n9, -⟩ := HI.out
     exact hK.out _ _ ⟨qB x1, qB x2, qB x4, qF i0, qF i1, qF i2, qF i3, qF i5, qF i6, qF i7, qF i8, qP, hL, (fun h => by obtain ⟨⟨hs, hv⟩, ho⟩ := p4 h; exact ⟨⟨by rw [put_ne (show 21 ≠ 8 by decide)]; exact hs, rfl⟩, fun ht => by have ho := ho ht; exact (by rw [put_ne (show 21 ≠ 8 by decide)]; exact ho)⟩), (fun h => by obtain ⟨k, e1, e2, q9_0, q9_1, e3, e4⟩ := n9 h; exact ⟨k, (put_ne (by decide)).trans e1, e2, q9_0, q9_1, e3, e4⟩), m10_9, m6_5, m7_6, m10_7, m10_5, hS, Br, Bq⟩
end Go.Proofs.YtkoojngonldcbaaGreat
