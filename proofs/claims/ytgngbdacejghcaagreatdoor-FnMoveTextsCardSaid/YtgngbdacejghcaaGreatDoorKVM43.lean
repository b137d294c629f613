/- DERIVED. Walks: how far slide and cursor go, the reference's. -/
import Derived.Test.YtgngbdacejghcaaGreatDoorKVM41
namespace Go.Proofs.YtgngbdacejghcaaGreatDoor
set_option linter.unusedVariables false
set_option linter.unusedSimpArgs false
open Go.RowKit
set_option maxRecDepth 100000
set_option maxHeartbeats 2000000 in
theorem w_specTravelOf (n : Int) (u v : Value) (st sd : List Int) (a b : Int) (z : Value) (l : List Mov) (w : World) (h : IsNums w u st) (h' : IsNums w v sd) (hl : IsMovs w z l) :
 Calls Tryz.prog 32 #[.agg #[.int .i64 n, u, v], .agg #[.int .i64 a, .int .i64 b], z] w fun e w' => e = .returned (.tuple #[.int .i64 (travS ⟨n, st, sd⟩ ⟨a, b⟩ l), .int .i64 (travK ⟨n, st, sd⟩ ⟨a, b⟩ l), .int .i64 (runC ⟨n, st, sd⟩ ⟨a, b⟩ l)]) ∧ Later w w' := by
 have H := Lib.hid h
 have H' := Lib.hid h'
 have HZ := Lib.hid hl
 obtain ⟨_, _, au, capu, rfl, _, _, _⟩ := h
 obtain ⟨_, _, av, capv, rfl, _, _, _⟩ := h'
 obtain ⟨hxl3, hn3, a3, cap3, rfl, hcap3, hmax3, hrow3⟩ := hl
 have HR3 := Lib.hid hrow3
 clear hrow3 hxl3
 rcases codeRun_cases ⟨n, st, sd⟩ ⟨a, b⟩ l with hc | hc | hc
 rotate_left
 · have HF := Lib.hid (travS_no hc (by decide))
   have HK := Lib.hid (travK_no hc (by decide))
   have HG := Lib.hid (runC_no hc (by decide))
   have HC := Lib.hid hc
   clear hc
   go_enter Tryz.func32, Tryz.ntmps32
   go_wp2_with fail
   refine (w_l12Start _ _ _ _ _ _ _ _ _ _ (H.out.later (((Later.refl _).alloc _).alloc _)) (H'.out.later (((Later.refl _).alloc _).alloc _)) (HZ.out.later (((Later.refl _).alloc _).alloc _))).mono ?_
   rintro e w1 ⟨rfl, hL⟩
   rw [HC.out]
   go_wp2
   refine bodyPost_ret (v := .tuple #[.int .i64 0, .int .i64 0, .int .i64 1]) (by simp [results, Tryz.results32, go_sem]) rfl ⟨by rw [HF.out, HK.out, HG.out], qla⟩
 · have HF := Lib.hid (travS_no hc (by decide))
   have HK := Lib.hid (travK_no hc (by decide))
   have HG := Lib.hid (runC_no hc (by decide))
   have HC := Lib.hid hc
   clear hc
   go_enter Tryz.func32, Tryz.ntmps32
   go_wp2_with fail
   refine (w_l12Start _ _ _ _ _ _ _ _ _ _ (H.out.later (((Later.refl _).alloc _).alloc _)) (H'.out.later (((Later.refl _).alloc _).alloc _)) (HZ.out.later (((Later.refl _).alloc _).alloc _))).mono ?_
   rintro e w1 ⟨rfl, hL⟩
   rw [HC.out]
   go_wp2
   refine bodyPost_ret (v := .tuple #[.int .i64 0, .int .i64 0, .int .i64 3]) (by simp [results, Tryz.results32, go_sem]) rfl ⟨by rw [HF.out, HK.out, HG.out], qla⟩
 have h30 := (codeMoves_0 (codeRun_0 hc).2.2).2
 have HS := Lib.hid (codeRun_0 hc).2.1
 have HA := Lib.hid (codeMoves_0 (codeRun_0 hc).2.2).1
 have HC0 := Lib.hid hc
 have HR0 := Lib.hid (Ran.zero (r := ⟨n, st, sd⟩) (l := l) HS.out)
 clear hc
 go_enter Tryz.func32, Tryz.ntmps32
 go_wp2_with fail
 refine (w_l12Start _ _ _ _ _ _ _ _ _ _ (H.out.later (((Later.refl _).alloc _).alloc _)) (H'.out.later (((Later.refl _).alloc _).alloc _)) (HZ.out.later (((Later.refl _).alloc _).alloc _))).mono ?_
 rintro e w1 ⟨rfl, hL⟩
 rw [HC0.out]
 have HK0 := Lib.hid (kept2 hL).1
 have HK1 := Lib.hid (kept2 hL).2
 have HLw := Lib.hid (show Later w w1 from qla)
 have hb1 := hL.size
 simp only [World.size_alloc] at hb1
 go_wp2
 go_loopw [10, 11, 12] (fun A B i wr => ∃ k : Nat, k ≤ l.length ∧ i = .int .i64 k ∧ Later w wr ∧ w.heap.size + 1 < wr.heap.size ∧ wr.heap[w.heap.size]? = some (.cells #[.int .i64 n, .slice au st.length capu, .slice av sd.length capv] 26 (0, 0)) ∧ ∃ L : List Stg, ∃ S : Stg, ∃ A' B' : Int, A = .int .i64 A' ∧ B = .int .i64 B' ∧ wr.heap[w.heap.size + 1]? = some (.cells #[.int .i64 S.sh, .int .i64 S.cu] 28 (0, 0)) ∧ Hid (Ran ⟨n, st, sd⟩ ⟨a, b⟩ l k L S) ∧ Hid (Trv ⟨a, b⟩ L A' B' S)) (fun _ _ i _ => l.length - (intOf i).toNat)
 case atStart => exact ⟨0, Nat.zero_le _, rfl, HLw.out, by omega, HK0.out, [], ⟨a, b⟩, 0, 0, rfl, rfl, HK1.out, HR0.out, (show Trv ⟨a, b⟩ [] 0 0 ⟨a, b⟩ from Trv.zero HS.out)⟩
 case round =>
  obtain ⟨k, hk, rfl, hL2, hsz, hB0, L, S, A, B, rfl, rfl, hB1, HRan, HT⟩ := hrel
  have HB0 := Lib.hid hB0
  have HB1 := Lib.hid hB1
  have HSS := Lib.hid (show isStg ⟨S.sh, S.cu⟩ = true from HRan.out.2.2.2)
  have hAB : 0 ≤ A ∧ A ≤ 62914560 ∧ 0 ≤ B ∧ B ≤ 62914560 := by
   have h2 := HT.out.2.2.2
   have hk2 := HRan.out.1
   omega
  have bS := isStg_bds HRan.out.2.2.2
  clear hB0 hB1
  by_cases hlt : k < l.length
  rotate_left
  · have HR := Lib.hid (HRan.out.done (by omega))
    have hlq : L.length = l.length := by have := HRan.out.1; omega
    have HF := Lib.hid (travS_done HC0.out HR.out hlq HT.out)
    have HK := Lib.hid (travK_done HC0.out HR.out hlq HT.out)
    have HG := Lib.hid (runC_done HC0.out HR.out hlq)
    clear hlq
    go_wp2
    refine bodyPost_ret (v := .tuple #[.int .i64 A, .int .i64 B, .int .i64 0]) (by simp [results, Tryz.results32, go_sem]) rfl ⟨by rw [HF.out, HK.out, HG.out], qla⟩
  obtain ⟨b3, off3, rfl, hr3⟩ := HR3.out (by omega)
  obtain ⟨m, hmm⟩ := get_ex (l := l) (k := k) (by omega)
  have HT3 := Lib.hid hmm
  have HMV := Lib.hid (all_get HA.out hmm)
  obtain ⟨NS, hNS⟩ : ∃ x, mvS ⟨n, st, sd⟩ S m = x := ⟨_, rfl⟩
  obtain ⟨NO, hNO⟩ : ∃ x, mvOk ⟨n, st, sd⟩ S m = x := ⟨_, rfl⟩
  have HNS := Lib.hid hNS
  have HNO := Lib.hid hNO
  clear hmm hNS hNO
  go_wp2_with fail
  refine region_slots 59 [29, 30, 31, 32, 33, 34, 35, 28, 36, 37, 13, 14] (fun g ac wc => sl ac 3 = .pointer (some ⟨w.heap.size, 0, none⟩) ∧
   sl ac 4 = .pointer (some ⟨w.heap.size + 1, 0, none⟩) ∧
   sl ac 2 = .slice (some ⟨b3, off3, none⟩) l.length cap3 ∧
   sl ac 12 = .int .i64 k ∧
   (g 0 = true → sl ac 29 = .agg #[.int .i64 n, .slice au st.length capu, .slice av sd.length capv]) ∧
   (g 1 = true → sl ac 30 = .agg #[.int .i64 S.sh, .int .i64 S.cu]) ∧
   (g 2 = true → sl ac 31 = .slice (some ⟨b3, off3, none⟩) l.length cap3) ∧
   (g 3 = true → sl ac 32 = .int .i64 k) ∧
   (g 4 = true → sl ac 33 = .pointer (some ⟨b3, off3 + k * 4, none⟩)) ∧
   (g 5 = true → sl ac 34 = .agg #[.int .i64 m.k, .int .i64 m.s, .int .i64 m.f.d, .int .i64 m.f.t]) ∧
   (g 6 = true → sl ac 35 = .tuple #[.agg #[.int .i64 NS.sh, .int .i64 NS.cu], .bool NO]) ∧
   (g 7 = true → sl ac 28 = .tuple #[.agg #[.int .i64 NS.sh, .int .i64 NS.cu], .bool NO]) ∧
   (g 8 = true → sl ac 36 = .agg #[.int .i64 NS.sh, .int .i64 NS.cu]) ∧
   (g 9 = true → sl ac 37 = .bool NO) ∧
   (g 12 = true → sl ac 14 = .bool NO) ∧
   Later wr wc ∧
   (g 10 = true → ∃ k, sl ac 13 = .pointer (some ⟨k, 0, none⟩) ∧ wr.heap.size ≤ k ∧ ∃ p10_0 p10_1, wc.heap[k]? = some (.cells #[p10_0, p10_1] 28 (0, 0)) ∧ (g 11 = true → p10_0 = .int .i64 NS.sh ∧ p10_1 = .int .i64 NS.cu)) ∧
   (g 11 = true → g 10 = true) ∧
   wr.heap.size ≤ wc.heap.size) (by kernel_rfl) (by kernel_rfl) rfl (by kernel_rfl) ?_ ?_ ?_
  · exact ⟨rfl, rfl, rfl, rfl, nofun, nofun, nofun, nofun, nofun, nofun, nofun, nofun, nofun, nofun, nofun, (Later.refl _).drew, nofun, nofun, Nat.le_refl _⟩
  · intro g ac wu hg ha hI
    obtain ⟨x3, x4, x2, x12, i0, i1, i2, i3, i4, i5, i6, i7, i8, i9, i12, hL, i10, -, hS⟩ := hI
    obtain ⟨kr10, e10, br10, p10_0, p10_1, Kr10, g10⟩ := i10 (hg 10 (by simp))
    have g10 := g10 (hg 11 (by simp))
    rw [g10.1, g10.2] at Kr10
    have a0 := i0 (hg 0 (by simp))
    have a1 := i1 (hg 1 (by simp))
    have a2 := i2 (hg 2 (by simp))
    have a3 := i3 (hg 3 (by simp))
    have a4 := i4 (hg 4 (by simp))
    have a5 := i5 (hg 5 (by simp))
    have a6 := i6 (hg 6 (by simp))
    have a7 := i7 (hg 7 (by simp))
    have a8 := i8 (hg 8 (by simp))
    have a9 := i9 (hg 9 (by simp))
    have a12 := i12 (hg 12 (by simp))
    simp only [putAll, a0, a1, a2, a3, a4, a5, a6, a7, a8, a9, a12, e10] at ha
    simp only [Act.put, List.setIfInBounds_toArray, List.set_cons_succ, List.set_cons_zero] at ha
    rw [ha]
    clear x3 x4 x2 x12 i0 i1 i2 i3 i4 i5 i6 i7 i8 i9 i12 i10 a0 a1 a2 a3 a4 a5 a6 a7 a8 a9 a12 e10 g10 hg ha
    have hNx := Lib.hid Kr10
    have hB1 := Lib.hid (hL.keep HB1.out)
    have hB0 := Lib.hid (hL.keep HB0.out)
    have hLL := hL2.trans hL
    have hsz2 := hL.size
    obtain ⟨cn, fn, zn⟩ := blk_at hNx.out
    obtain ⟨c1, f1, z1⟩ := blk_at hB1.out
    clear Kr10 hL hS
    cases NO
    · have HR := Lib.hid (HRan.out.stop HT3.out HNO.out)
      have hlq : L.length < l.length := by have := HRan.out.1; omega
      have HF := Lib.hid (travS_stop HC0.out HR.out hlq)
      have HK := Lib.hid (travK_stop HC0.out HR.out hlq)
      have HG := Lib.hid (runC_stop HC0.out HR.out hlq)
      go_wp2
      refine bodyPost_ret (v := .tuple #[.int .i64 0, .int .i64 0, .int .i64 5]) (by simp [results, Tryz.results32, go_sem]) rfl ⟨by rw [HF.out, HK.out, HG.out], qla⟩
    · have HR := Lib.hid (HRan.out.go HT3.out HNO.out)
      have HXS := Lib.hid (show isStg NS = true from HNS.out ▸ mvOk_stg HNO.out)
      have bX := isStg_bds HXS.out
      have wA : IntKind.i64.wrap (A + max (NS.sh - S.sh) (S.sh - NS.sh)) = A + max (NS.sh - S.sh) (S.sh - NS.sh) := wrap_same (by omega) (by omega)
      have wB : IntKind.i64.wrap (B + max (NS.cu - S.cu) (S.cu - NS.cu)) = B + max (NS.cu - S.cu) (S.cu - NS.cu) := wrap_same (by omega) (by omega)
      have wC : IntKind.i64.wrap (NS.sh - S.sh) = NS.sh - S.sh := wrap_same (by omega) (by omega)
      have wD : IntKind.i64.wrap (NS.cu - S.cu) = NS.cu - S.cu := wrap_same (by omega) (by omega)
      go_wp2_with fail
      refine (w_l01Abs _ _ (by omega) (by omega) _).mono ?_
      rintro e w' ⟨rfl, rfl⟩
      go_wp2_with fail
      refine (w_l01Abs _ _ (by omega) (by omega) _).mono ?_
      rintro e w' ⟨rfl, rfl⟩
      go_wp2
      go_roundw
      case rel => exact ⟨k + 1, by omega, by go_num, qla, by simp; omega, other_set (other_set hB0.out (by omega) _) (by omega) _, _, NS, _, _, rfl, rfl, two_set hB1.out _ _, by rw [← HNS.out]; exact HR.out, by rw [show mvS ⟨n, st, sd⟩ S m = NS from HNS.out]; exact HT.out.go HXS.out⟩
      case measure => simp [intOf]; omega
  · refine .cons ?_ (.cons ?_ (.cons ?_ (.cons ?_ (.cons ?_ (.cons ?_ (.cons ?_ (.cons ?_ (.cons ?_ (.cons ?_ (.cons ?_ (.cons ?_ (.cons ?_ .nil))))))))))))
    · refine qst fun g ac wc hn hk hr HI K' hK => ?_
      obtain ⟨x3, x4, x2, x12, -, -, -, -, -, -, -, -, -, -, -, hL, i10, q10, hS⟩ := HI.out
      simp [Region.binds] at hr
      have cb := (blk_at (hL.keep HB0.out)).1
      have fb := (blk_at (hL.keep HB0.out)).2.1
      have zb := (blk_at (hL.keep HB0.out)).2.2
      go_simp
      obtain ⟨-, -, -, -, i0, i1, i2, i3, i4, i5, i6, i7, i8, i9, i12, -⟩ := HI.out
      exact hK.out _ _ ⟨qB x3, qB x4, qB x2, qB x12, qP, qF i1, qF i2, qF i3, qF i4, qF i5, qF i6, qF i7, qF i8, qF i9, qF i12, hL, (fun j => by obtain ⟨k, e1, e2, p10_0, p10_1, e3, e4⟩ := i10 j; exact ⟨k, (put_ne (by decide)).trans e1, e2, p10_0, p10_1, e3, e4⟩), q10, hS⟩
    · refine qst fun g ac wc hn hk hr HI K' hK => ?_
      obtain ⟨x3, x4, x2, x12, -, -, -, -, -, -, -, -, -, -, -, hL, i10, q10, hS⟩ := HI.out
      simp [Region.binds] at hr
      have cb := (blk_at (hL.keep HB1.out)).1
      have fb := (blk_at (hL.keep HB1.out)).2.1
      have zb := (blk_at (hL.keep HB1.out)).2.2
      go_simp
      obtain ⟨-, -, -, -, i0, i1, i2, i3, i4, i5, i6, i7, i8, i9, i12, -⟩ := HI.out
      exact hK.out _ _ ⟨qB x3, qB x4, qB x2, qB x12, qF i0, qP, qF i2, qF i3, qF i4, qF i5, qF i6, qF i7, qF i8, qF i9, qF i12, hL, (fun j => by obtain ⟨k, e1, e2, p10_0, p10_1, e3, e4⟩ := i10 j; exact ⟨k, (put_ne (by decide)).trans e1, e2, p10_0, p10_1, e3, e4⟩), q10, hS⟩
    · refine qst fun g ac wc hn hk hr HI K' hK => ?_
      obtain ⟨x3, x4, x2, x12, -, -, -, -, -, -, -, -, -, -, -, hL, i10, q10, hS⟩ := HI.out
      simp [Region.binds] at hr
      go_simp
      obtain ⟨-, -, -, -, i0, i1, i2, i3, i4, i5, i6, i7, i8, i9, i12, -⟩ := HI.out
      exact hK.out _ _ ⟨qB x3, qB x4, qB x2, qB x12, qF i0, qF i1, qP, qF i3, qF i4, qF i5, qF i6, qF i7, qF i8, qF i9, qF i12, hL, (fun j => by obtain ⟨k, e1, e2, p10_0, p10_1, e3, e4⟩ := i10 j; exact ⟨k, (put_ne (by decide)).trans e1, e2, p10_0, p10_1, e3, e4⟩), q10, hS⟩
    · refine qst fun g ac wc hn hk hr HI K' hK => ?_
      obtain ⟨x3, x4, x2, x12, -, -, -, -, -, -, -, -, -, -, -, hL, i10, q10, hS⟩ := HI.out
      simp [Region.binds] at hr
      go_simp
      obtain ⟨-, -, -, -, i0, i1, i2, i3, i4, i5, i6, i7, i8, i9, i12, -⟩ := HI.out
      exact hK.out _ _ ⟨qB x3, qB x4, qB x2, qB x12, qF i0, qF i1, qF i2, qP, qF i4, qF i5, qF i6, qF i7, qF i8, qF i9, qF i12, hL, (fun j => by obtain ⟨k, e1, e2, p10_0, p10_1, e3, e4⟩ := i10 j; exact ⟨k, (put_ne (by decide)).trans e1, e2, p10_0, p10_1, e3, e4⟩), q10, hS⟩
    · refine qst fun g ac wc hn hk hr HI K' hK => ?_
      obtain ⟨x3, x4, x2, x12, -, -, i2, i3, -, -, -, -, -, -, -, hL, i10, q10, hS⟩ := HI.out
      simp [Region.binds] at hr
      have y2 := i2 (by simp [hr])
      have y3 := i3 (by simp [hr])
      clear i2 i3
      go_simp
      obtain ⟨-, -, -, -, i0, i1, i2, i3, i4, i5, i6, i7, i8, i9, i12, -⟩ := HI.out
      exact hK.out _ _ ⟨qB x3, qB x4, qB x2, qB x12, qF i0, qF i1, qF i2, qF i3, qP, qF i5, qF i6, qF i7, qF i8, qF i9, qF i12, hL, (fun j => by obtain ⟨k, e1, e2, p10_0, p10_1, e3, e4⟩ := i10 j; exact ⟨k, (put_ne (by decide)).trans e1, e2, p10_0, p10_1, e3, e4⟩), q10, hS⟩
    · refine qst fun g ac wc hn hk hr HI K' hK => ?_
      obtain ⟨x3, x4, x2, x12, -, -, -, -, i4, -, -, -, -, -, -, hL, i10, q10, hS⟩ := HI.out
      simp [Region.binds] at hr
      have y4 := i4 (by simp [hr])
      clear i4
      obtain ⟨r1, r2, r3, r4⟩ := (hr3.later (hL2.trans hL)).mov HT3.out
      have zr1 := (hr3.later (hL2.trans hL)).1
      go_simp
      obtain ⟨-, -, -, -, i0, i1, i2, i3, i4, i5, i6, i7, i8, i9, i12, -⟩ := HI.out
      exact hK.out _ _ ⟨qB x3, qB x4, qB x2, qB x12, qF i0, qF i1, qF i2, qF i3, qF i4, qP, qF i6, qF i7, qF i8, qF i9, qF i12, hL, (fun j => by obtain ⟨k, e1, e2, p10_0, p10_1, e3, e4⟩ := i10 j; exact ⟨k, (put_ne (by decide)).trans e1, e2, p10_0, p10_1, e3, e4⟩), q10, hS⟩
    · refine qst fun g ac wc hn hk hr HI K' hK => ?_
      obtain ⟨x3, x4, x2, x12, i0, i1, -, -, -, i5, -, -, -, -, -, hL, i10, q10, hS⟩ := HI.out
      simp [Region.binds] at hr
      have y0 := i0 (by simp [hr])
      have y1 := i1 (by simp [hr])
      have y5 := i5 (by simp [hr])
      clear i0 i1 i5
      go_simp
      refine (w_specMoved _ _ _ _ _ _ _ m _ (H.out.later (hL2.trans hL)) (H'.out.later (hL2.trans hL)) HSS.out HMV.out).mono ?_
      rintro e w4 ⟨rfl, hL4⟩
      rw [show mvS ⟨n, st, sd⟩ ⟨S.sh, S.cu⟩ m = NS from HNS.out, show mvOk ⟨n, st, sd⟩ ⟨S.sh, S.cu⟩ m = NO from HNO.out]
      obtain ⟨-, -, -, -, i0, i1, i2, i3, i4, i5, i6, i7, i8, i9, i12, -⟩ := HI.out
      exact hK.out _ _ ⟨qB x3, qB x4, qB x2, qB x12, qF i0, qF i1, qF i2, qF i3, qF i4, qF i5, qP, qF i7, qF i8, qF i9, qF i12, hL.trans hL4, (fun j => by obtain ⟨k, e1, e2, p10_0, p10_1, e3, e4⟩ := i10 j; exact ⟨k, (put_ne (by decide)).trans e1, e2, p10_0, p10_1, hL4.keep e3, e4⟩), q10, Nat.le_trans hS hL4.size⟩
    · refine qst fun g ac wc hn hk hr HI K' hK => ?_
      obtain ⟨x3, x4, x2, x12, -, -, -, -, -, -, i6, -, -, -, -, hL, i10, q10, hS⟩ := HI.out
      simp [Region.binds] at hr
      have y6 := i6 (by simp [hr])
      clear i6
      go_simp
      obtain ⟨-, -, -, -, i0, i1, i2, i3, i4, i5, i6, i7, i8, i9, i12, -⟩ := HI.out
      exact hK.out _ _ ⟨qB x3, qB x4, qB x2, qB x12, qF i0, qF i1, qF i2, qF i3, qF i4, qF i5, qF i6, qP, qF i8, qF i9, qF i12, hL, (fun j => by obtain ⟨k, e1, e2, p10_0, p10_1, e3, e4⟩ := i10 j; exact ⟨k, (put_ne (by decide)).trans e1, e2, p10_0, p10_1, e3, e4⟩), q10, hS⟩
    · refine qst fun g ac wc hn hk hr HI K' hK => ?_
      obtain ⟨x3, x4, x2, x12, -, -, -, -, -, -, -, i7, -, -, -, hL, i10, q10, hS⟩ := HI.out
      simp [Region.binds] at hr
      have y7 := i7 (by simp [hr])
      clear i7
      go_simp
      obtain ⟨-, -, -, -, i0, i1, i2, i3, i4, i5, i6, i7, i8, i9, i12, -⟩ := HI.out
      exact hK.out _ _ ⟨qB x3, qB x4, qB x2, qB x12, qF i0, qF i1, qF i2, qF i3, qF i4, qF i5, qF i6, qF i7, qP, qF i9, qF i12, hL, (fun j => by obtain ⟨k, e1, e2, p10_0, p10_1, e3, e4⟩ := i10 j; exact ⟨k, (put_ne (by decide)).trans e1, e2, p10_0, p10_1, e3, e4⟩), q10, hS⟩
    · refine qst fun g ac wc hn hk hr HI K' hK => ?_
      obtain ⟨x3, x4, x2, x12, -, -, -, -, -, -, -, i7, -, -, -, hL, i10, q10, hS⟩ := HI.out
      simp [Region.binds] at hr
      have y7 := i7 (by simp [hr])
      clear i7
      go_simp
      obtain ⟨-, -, -, -, i0, i1, i2, i3, i4, i5, i6, i7, i8, i9, i12, -⟩ := HI.out
      exact hK.out _ _ ⟨qB x3, qB x4, qB x2, qB x12, qF i0, qF i1, qF i2, qF i3, qF i4, qF i5, qF i6, qF i7, qF i8, qP, qF i12, hL, (fun j => by obtain ⟨k, e1, e2, p10_0, p10_1, e3, e4⟩ := i10 j; exact ⟨k, (put_ne (by decide)).trans e1, e2, p10_0, p10_1, e3, e4⟩), q10, hS⟩
    · refine qst fun g ac wc hn hk hr HI K' hK => ?_
      obtain ⟨x3, x4, x2, x12, -, -, -, -, -, -, -, -, -, -, -, hL, i10, q10, hS⟩ := HI.out
      simp [Region.binds] at hr
      go_simp
      obtain ⟨-, -, -, -, i0, i1, i2, i3, i4, i5, i6, i7, i8, i9, i12, -⟩ := HI.out
      refine hK.out _ _ ⟨qB x3, qB x4, qB x2, qB x12, qF i0, qF i1, qF i2, qF i3, qF i4, qF i5, qF i6, qF i7, qF i8, qF i9, qF i12, hL.alloc _, (fun _ => ⟨_, put_eq (by omega), hS, _, _, heap_alloc_new _ _, fun j6 => absurd ((q10 j6).symm.trans hk) (by simp)⟩), fun _ => rfl, (by simp; omega)⟩
    · refine qst fun g ac wc hn hk hr HI K' hK => ?_
      obtain ⟨x3, x4, x2, x12, -, -, -, -, -, -, -, -, i8, -, -, hL, i10, q10, hS⟩ := HI.out
      simp [Region.binds] at hr
      have y8 := i8 (by simp [hr])
      clear i8
      have hda : g 10 = true := by simp [hr]
      obtain ⟨k, e1, e2, p10_0, p10_1, e3, -⟩ := i10 hda
      obtain ⟨c0, f0, z0⟩ := blk_at e3
      go_simp
      obtain ⟨-, -, -, -, i0, i1, i2, i3, i4, i5, i6, i7, i8, i9, i12, -⟩ := HI.out
      exact hK.out undef _ ⟨x3, x4, x2, x12, i0, i1, i2, i3, i4, i5, i6, i7, i8, i9, i12, ((hL.setCell e2 _).setCell e2 _), (fun _ => ⟨k, e1, e2, _, _, two_set e3 _ _, fun _ => ⟨rfl, rfl⟩⟩), (fun _ => hda), (by simp; omega)⟩
    · refine qst fun g ac wc hn hk hr HI K' hK => ?_
      obtain ⟨x3, x4, x2, x12, -, -, -, -, -, -, -, -, -, i9, -, hL, i10, q10, hS⟩ := HI.out
      simp [Region.binds] at hr
      have y9 := i9 (by simp [hr])
      clear i9
      go_simp
      obtain ⟨-, -, -, -, i0, i1, i2, i3, i4, i5, i6, i7, i8, i9, i12, -⟩ := HI.out
      exact hK.out _ _ ⟨qB x3, qB x4, qB x2, qB x12, qF i0, qF i1, qF i2, qF i3, qF i4, qF i5, qF i6, qF i7, qF i8, qF i9, qP, hL, (fun j => by obtain ⟨k, e1, e2, p10_0, p10_1, e3, e4⟩ := i10 j; exact ⟨k, (put_ne (by decide)).trans e1, e2, p10_0, p10_1, e3, e4⟩), q10, hS⟩
end Go.Proofs.YtgngbdacejghcaaGreatDoor
