/- DERIVED. Walks: moves that are run. -/
import Derived.Test.YtkoojngonldcbaaGreatKBM36
import Derived.Test.YtkoojngonldcbaaGreatKBBA
import Derived.Test.YtkoojngonldcbaaGreatKBPA
namespace Go.Proofs.YtkoojngonldcbaaGreat
set_option linter.unusedVariables false
set_option linter.unusedSimpArgs false
open Go.RowKit
set_option maxRecDepth 100000
theorem owns_set {w : World} {base : Nat} {e : TypeId} {s : Nat} {v : Value} {n : Nat} {xs : List Value} (ho : w.ownsRow base e s v n xs) {k : Nat} (hk : k < base) (j : Nat) (x : Value) : (w.setCell ⟨k, j, none⟩ x).ownsRow base e s v n xs :=
 ho.kept (row := some k) (grown_setCell (grown_refl w (some k)) j x) (by
  cases h : v.ownBlock with
  | none => exact .inl rfl
  | some q =>
   refine .inr ?_
   have := (ho.lt q h).1
   simp
   omega)
theorem grown_keep {a b : World} {row : Option Nat} (h : a.grownBy b row) {k : Nat} {x : Obj} (hk : a.heap[k]? = some x) (hne : row ≠ some k) : b.heap[k]? = some x :=
 (h.block k (Array.getElem?_eq_some_iff.1 hk).1 (fun e => hne e.symm)).trans hk
theorem own_ne {w : World} {base : Nat} {e : TypeId} {s : Nat} {v : Value} {n : Nat} {xs : List Value} (ho : w.ownsRow base e s v n xs) {k : Nat} (hk : k < base ∨ w.heap.size ≤ k) : v.ownBlock ≠ some k := by
 intro h
 have := ho.lt k h
 omega
theorem w_implMoved (n : Int) (u v : Value) (st sd : List Int) (a b : Int) (m : Mov) (w : World) (h : IsNums w u st) (h' : IsNums w v sd) (hs : isStg ⟨a, b⟩ = true) (hm : isMove m = true) :
 Calls Tryz.prog 177 #[.agg #[.int .i64 n, u, v], .agg #[.int .i64 a, .int .i64 b], .agg #[.int .i64 m.k, .int .i64 m.s, .int .i64 m.f.d, .int .i64 m.f.t]] w fun e w' => e = .returned (.tuple #[.agg #[.int .i64 (mvS ⟨n, st, sd⟩ ⟨a, b⟩ m).sh, .int .i64 (mvS ⟨n, st, sd⟩ ⟨a, b⟩ m).cu], .bool (mvOk ⟨n, st, sd⟩ ⟨a, b⟩ m)]) ∧ Later w w' := by
 obtain ⟨k, s, ⟨d, t⟩⟩ := m
 rcases isMove_cases hm with ⟨k1, k2, h3, h4⟩ | ⟨k1, k2, h3, h4⟩
 · simp only at k1 k2 h3 h4
   have hb := isScaleN_bd h3
   rcases (show k = 0 ∨ k = 1 ∨ k = 2 by omega) with rfl | rfl | rfl
   · exact w_implMv0 n u v st sd a b s d t w h h' hs hb.1 hb.2 h4
   · exact w_implMv1 n u v st sd a b s d t w h h' hs hb.1 hb.2 h4
   · exact w_implMv2 n u v st sd a b s d t w h h' hs hb.1 hb.2 h4
 · simp only at k1 k2 h3 h4
   simp only [Fig.mk.injEq] at h4
   obtain ⟨rfl, rfl⟩ := h4
   subst h3
   rcases (show k = 3 ∨ k = 4 ∨ k = 5 ∨ k = 6 by omega) with rfl | rfl | rfl | rfl
   · exact w_implMv3 n u v st sd a b w h h' hs
   · exact w_implMv4 n u v st sd a b w h h' hs
   · exact w_implMv5 n u v st sd a b w h h' hs
   · exact w_implMv6 n u v st sd a b w h h' hs
theorem w_specMoved (n : Int) (u v : Value) (st sd : List Int) (a b : Int) (m : Mov) (w : World) (h : IsNums w u st) (h' : IsNums w v sd) (hs : isStg ⟨a, b⟩ = true) (hm : isMove m = true) :
 Calls Tryz.prog 127 #[.agg #[.int .i64 n, u, v], .agg #[.int .i64 a, .int .i64 b], .agg #[.int .i64 m.k, .int .i64 m.s, .int .i64 m.f.d, .int .i64 m.f.t]] w fun e w' => e = .returned (.tuple #[.agg #[.int .i64 (mvS ⟨n, st, sd⟩ ⟨a, b⟩ m).sh, .int .i64 (mvS ⟨n, st, sd⟩ ⟨a, b⟩ m).cu], .bool (mvOk ⟨n, st, sd⟩ ⟨a, b⟩ m)]) ∧ Later w w' := by
 obtain ⟨k, s, ⟨d, t⟩⟩ := m
 rcases isMove_cases hm with ⟨k1, k2, h3, h4⟩ | ⟨k1, k2, h3, h4⟩
 · simp only at k1 k2 h3 h4
   have hb := isScaleN_bd h3
   rcases (show k = 0 ∨ k = 1 ∨ k = 2 by omega) with rfl | rfl | rfl
   · exact w_specMv0 n u v st sd a b s d t w h h' hs hb.1 hb.2 h4
   · exact w_specMv1 n u v st sd a b s d t w h h' hs hb.1 hb.2 h4
   · exact w_specMv2 n u v st sd a b s d t w h h' hs hb.1 hb.2 h4
 · simp only at k1 k2 h3 h4
   simp only [Fig.mk.injEq] at h4
   obtain ⟨rfl, rfl⟩ := h4
   subst h3
   rcases (show k = 3 ∨ k = 4 ∨ k = 5 ∨ k = 6 by omega) with rfl | rfl | rfl | rfl
   · exact w_specMv3 n u v st sd a b w h h' hs
   · exact w_specMv4 n u v st sd a b w h h' hs
   · exact w_specMv5 n u v st sd a b w h h' hs
   · exact w_specMv6 n u v st sd a b w h h' hs
set_option maxHeartbeats 2000000 in
theorem w_l12Run (n : Int) (u v z : Value) (st sd : List Int) (a b : Int) (l : List Mov) (w : World) (h : IsNums w u st) (h' : IsNums w v sd) (hs : isStg ⟨a, b⟩ = true) (hl : IsMovs w z l) (ha : l.all isMove = true) (h30 : l.length ≤ 30) :
 Calls Tryz.prog 68 #[.agg #[.int .i64 n, u, v], .agg #[.int .i64 a, .int .i64 b], z] w fun e w' => e = .returned (.tuple #[.agg #[.int .i64 (lastSt ⟨a, b⟩ (runSt ⟨n, st, sd⟩ ⟨a, b⟩ l)).sh, .int .i64 (lastSt ⟨a, b⟩ (runSt ⟨n, st, sd⟩ ⟨a, b⟩ l)).cu], .int .i64 (stopI ⟨n, st, sd⟩ ⟨a, b⟩ l)]) ∧ Later w w' := by
 have H := Lib.hid h
 have H' := Lib.hid h'
 have HA := Lib.hid ha
 have HR0 := Lib.hid (Ran.zero (r := ⟨n, st, sd⟩) (l := l) hs)
 obtain ⟨_, _, au, capu, rfl, _, _, _⟩ := h
 obtain ⟨_, _, av, capv, rfl, _, _, _⟩ := h'
 obtain ⟨hxl3, hn3, a3, cap3, rfl, hcap3, hmax3, hrow3⟩ := hl
 have HR3 := Lib.hid hrow3
 clear hrow3 hxl3
 clear ha hs
 go_enter Tryz.func68, Tryz.ntmps68
 go_wp2
 go_loopw [8] (fun i wr => ∃ k : Nat, k ≤ l.length ∧ i = .int .i64 k ∧ Later w wr ∧ w.heap.size + 1 + 1 < wr.heap.size ∧ wr.heap[w.heap.size]? = some (.cells #[.int .i64 n, .slice au st.length capu, .slice av sd.length capv] 26 (0, 0)) ∧ wr.heap[w.heap.size + 1 + 1]? = some (.cells #[.int .i64 0, .int .i64 0] 78 (0, 0)) ∧ ∃ L : List Stg, ∃ S : Stg, wr.heap[w.heap.size + 1]? = some (.cells #[.int .i64 S.sh, .int .i64 S.cu] 78 (0, 0)) ∧ Hid (Ran ⟨n, st, sd⟩ ⟨a, b⟩ l k L S)) (fun i _ => l.length - (intOf i).toNat)
 case atStart => exact ⟨0, Nat.zero_le _, rfl, qla, by simp, heap_alloc_old _ _ (heap_alloc_old _ _ (heap_alloc_new _ _)), heap_alloc_new' _ _ (by simp), [], ⟨a, b⟩, heap_alloc_old _ _ (heap_alloc_new' _ _ (by simp)), HR0.out⟩
 case round =>
  obtain ⟨k, hk, rfl, hL2, hsz, hB0, hB2, L, S, hB1, HRan⟩ := hrel
  have HB0 := Lib.hid hB0
  have HB1 := Lib.hid hB1
  have HB2 := Lib.hid hB2
  have HSS := Lib.hid (show isStg ⟨S.sh, S.cu⟩ = true from HRan.out.2.2.2)
  by_cases hlt : k < l.length
  rotate_left
  · have HR := Lib.hid (HRan.out.done (by omega))
    have HLE := Lib.hid HRan.out.1
    obtain ⟨c1, f1, z1⟩ := blk_at hB1
    obtain ⟨c2, f2, z2⟩ := blk_at hB2
    clear hB0 hB1 hB2
    go_wp2
    refine bodyPost_ret (v := .tuple #[.agg #[.int .i64 S.sh, .int .i64 S.cu], .int .i64 (-1)]) (by simp [results, Tryz.results68, go_sem, c2, z2]) rfl ⟨by rw [stopI_done HR.out (by rw [HLE.out]; omega), HR.out, HRan.out.2.2.1], qla⟩
  clear hB0 hB1 hB2
  obtain ⟨b3, off3, rfl, hr3⟩ := HR3.out (by omega)
  obtain ⟨m, hmm⟩ := get_ex (l := l) (k := k) (by omega)
  have HT3 := Lib.hid hmm
  have HMV := Lib.hid (all_get HA.out hmm)
  obtain ⟨NS, hNS⟩ : ∃ x, mvS ⟨n, st, sd⟩ S m = x := ⟨_, rfl⟩
  obtain ⟨NO, hNO⟩ : ∃ x, mvOk ⟨n, st, sd⟩ S m = x := ⟨_, rfl⟩
  have HNS := Lib.hid hNS
  have HNO := Lib.hid hNO
  clear hmm hNS hNO
  go_wp2_with fail
  refine region_slots 33 [18, 19, 20, 21, 22, 23, 24, 17, 25, 26, 9, 10] (fun g ac wc => sl ac 3 = .pointer (some ⟨w.heap.size, 0, none⟩) ∧
   sl ac 4 = .pointer (some ⟨w.heap.size + 1, 0, none⟩) ∧
   sl ac 2 = .slice (some ⟨b3, off3, none⟩) l.length cap3 ∧
   sl ac 8 = .int .i64 k ∧
   (g 0 = true → sl ac 18 = .agg #[.int .i64 n, .slice au st.length capu, .slice av sd.length capv]) ∧
   (g 1 = true → sl ac 19 = .agg #[.int .i64 S.sh, .int .i64 S.cu]) ∧
   (g 2 = true → sl ac 20 = .slice (some ⟨b3, off3, none⟩) l.length cap3) ∧
   (g 3 = true → sl ac 21 = .int .i64 k) ∧
   (g 4 = true → sl ac 22 = .pointer (some ⟨b3, off3 + k * 4, none⟩)) ∧
   (g 5 = true → sl ac 23 = .agg #[.int .i64 m.k, .int .i64 m.s, .int .i64 m.f.d, .int .i64 m.f.t]) ∧
   (g 6 = true → sl ac 24 = .tuple #[.agg #[.int .i64 NS.sh, .int .i64 NS.cu], .bool NO]) ∧
   (g 7 = true → sl ac 17 = .tuple #[.agg #[.int .i64 NS.sh, .int .i64 NS.cu], .bool NO]) ∧
   (g 8 = true → sl ac 25 = .agg #[.int .i64 NS.sh, .int .i64 NS.cu]) ∧
   (g 9 = true → sl ac 26 = .bool NO) ∧
   (g 12 = true → sl ac 10 = .bool NO) ∧
   Later wr wc ∧
   (g 10 = true → ∃ k, sl ac 9 = .pointer (some ⟨k, 0, none⟩) ∧ wr.heap.size ≤ k ∧ ∃ p10_0 p10_1, wc.heap[k]? = some (.cells #[p10_0, p10_1] 78 (0, 0)) ∧ (g 11 = true → p10_0 = .int .i64 NS.sh ∧ p10_1 = .int .i64 NS.cu)) ∧
   (g 11 = true → g 10 = true) ∧
   wr.heap.size ≤ wc.heap.size) (by kernel_rfl) (by kernel_rfl) rfl (by kernel_rfl) ?_ ?_ ?_
  · exact ⟨rfl, rfl, rfl, rfl, nofun, nofun, nofun, nofun, nofun, nofun, nofun, nofun, nofun, nofun, nofun, (Later.refl _).drew, nofun, nofun, Nat.le_refl _⟩
  · intro g ac wu hg ha hI
    obtain ⟨x3, x4, x2, x8, i0, i1, i2, i3, i4, i5, i6, i7, i8, i9, i12, hL, i10, -, hS⟩ := hI
    obtain ⟨kr10, e10, br10, p10_0, p10_1, Kr10, g10⟩ := i10 (hg 10 (by simp))
    have g10 := g10 (hg 11 (by simp))
    rw [g10.1, g10.2] at Kr10
    have a0 := i0 (hg 0 (by simp))
    have a1 := i1 (hg 1 (by simp))
    have a2 := i2 (hg 2 (by simp))
    have a3 := i3 (hg 3 (by simp))
    have a4 := i4 (hg 4 (by simp))
    have a5 := i5 (hg 5 (by simp))
    have a6 := i6 (hg 6 (by simp))
    have a7 := i7 (hg 7 (by simp))
    have a8 := i8 (hg 8 (by simp))
    have a9 := i9 (hg 9 (by simp))
    have a12 := i12 (hg 12 (by simp))
    simp only [putAll, a0, a1, a2, a3, a4, a5, a6, a7, a8, a9, a12, e10] at ha
    simp only [Act.put, List.setIfInBounds_toArray, List.set_cons_succ, List.set_cons_zero] at ha
    rw [ha]
    clear x3 x4 x2 x8 i0 i1 i2 i3 i4 i5 i6 i7 i8 i9 i12 i10 a0 a1 a2 a3 a4 a5 a6 a7 a8 a9 a12 e10 g10 hg ha
    have hNx := Lib.hid Kr10
    have hB1 := Lib.hid (hL.keep HB1.out)
    have hB0 := Lib.hid (hL.keep HB0.out)
    have hB2 := Lib.hid (hL.keep HB2.out)
    have hLL := hL2.trans hL
    have hsz2 := hL.size
    obtain ⟨cn, fn, zn⟩ := blk_at hNx.out
    obtain ⟨c1, f1, z1⟩ := blk_at hB1.out
    obtain ⟨c2, f2, z2⟩ := blk_at hB2.out
    clear Kr10 hL hS
    cases NO
    · have HR := Lib.hid (HRan.out.stop HT3.out HNO.out)
      have HLE := Lib.hid HRan.out.1
      go_wp2
      refine bodyPost_ret (v := .tuple #[.agg #[.int .i64 S.sh, .int .i64 S.cu], .int .i64 k]) (by simp [results, Tryz.results68, go_sem, c2, z2]) rfl ⟨by rw [stopI_stop HR.out (by rw [HLE.out]; omega), HR.out, HRan.out.2.2.1, HLE.out], qla⟩
    · have HR := Lib.hid (HRan.out.go HT3.out HNO.out)
      go_wp2
      go_roundw
      case rel => exact ⟨k + 1, by omega, by go_num, qla, by simp; omega, other_set (other_set hB0.out (by omega) _) (by omega) _, other_set (other_set hB2.out (by omega) _) (by omega) _, _, NS, two_set hB1.out _ _, by rw [← HNS.out]; exact HR.out⟩
      case measure => simp [intOf]; omega
  · refine .cons ?_ (.cons ?_ (.cons ?_ (.cons ?_ (.cons ?_ (.cons ?_ (.cons ?_ (.cons ?_ (.cons ?_ (.cons ?_ (.cons ?_ (.cons ?_ (.cons ?_ .nil))))))))))))
    · refine qst fun g ac wc hn hk hr HI K' hK => ?_
      obtain ⟨x3, x4, x2, x8, -, -, -, -, -, -, -, -, -, -, -, hL, i10, q10, hS⟩ := HI.out
      simp [Region.binds] at hr
      have cb := (blk_at (hL.keep HB0.out)).1
      have fb := (blk_at (hL.keep HB0.out)).2.1
      have zb := (blk_at (hL.keep HB0.out)).2.2
      go_simp
      obtain ⟨-, -, -, -, i0, i1, i2, i3, i4, i5, i6, i7, i8, i9, i12, -⟩ := HI.out
      exact hK.out _ _ ⟨qB x3, qB x4, qB x2, qB x8, qP, qF i1, qF i2, qF i3, qF i4, qF i5, qF i6, qF i7, qF i8, qF i9, qF i12, hL, (fun j => by obtain ⟨k, e1, e2, p10_0, p10_1, e3, e4⟩ := i10 j; exact ⟨k, (put_ne (by decide)).trans e1, e2, p10_0, p10_1, e3, e4⟩), q10, hS⟩
    · refine qst fun g ac wc hn hk hr HI K' hK => ?_
      obtain ⟨x3, x4, x2, x8, -, -, -, -, -, -, -, -, -, -, -, hL, i10, q10, hS⟩ := HI.out
      simp [Region.binds] at hr
      have cb := (blk_at (hL.keep HB1.out)).1
      have fb := (blk_at (hL.keep HB1.out)).2.1
      have zb := (blk_at (hL.keep HB1.out)).2.2
      go_simp
      obtain ⟨-, -, -, -, i0, i1, i2, i3, i4, i5, i6, i7, i8, i9, i12, -⟩ := HI.out
      exact hK.out _ _ ⟨qB x3, qB x4, qB x2, qB x8, qF i0, qP, qF i2, qF i3, qF i4, qF i5, qF i6, qF i7, qF i8, qF i9, qF i12, hL, (fun j => by obtain ⟨k, e1, e2, p10_0, p10_1, e3, e4⟩ := i10 j; exact ⟨k, (put_ne (by decide)).trans e1, e2, p10_0, p10_1, e3, e4⟩), q10, hS⟩
    · refine qst fun g ac wc hn hk hr HI K' hK => ?_
      obtain ⟨x3, x4, x2, x8, -, -, -, -, -, -, -, -, -, -, -, hL, i10, q10, hS⟩ := HI.out
      simp [Region.binds] at hr
      go_simp
      obtain ⟨-, -, -, -, i0, i1, i2, i3, i4, i5, i6, i7, i8, i9, i12, -⟩ := HI.out
      exact hK.out _ _ ⟨qB x3, qB x4, qB x2, qB x8, qF i0, qF i1, qP, qF i3, qF i4, qF i5, qF i6, qF i7, qF i8, qF i9, qF i12, hL, (fun j => by obtain ⟨k, e1, e2, p10_0, p10_1, e3, e4⟩ := i10 j; exact ⟨k, (put_ne (by decide)).trans e1, e2, p10_0, p10_1, e3, e4⟩), q10, hS⟩
    · refine qst fun g ac wc hn hk hr HI K' hK => ?_
      obtain ⟨x3, x4, x2, x8, -, -, -, -, -, -, -, -, -, -, -, hL, i10, q10, hS⟩ := HI.out
      simp [Region.binds] at hr
      go_simp
      obtain ⟨-, -, -, -, i0, i1, i2, i3, i4, i5, i6, i7, i8, i9, i12, -⟩ := HI.out
      exact hK.out _ _ ⟨qB x3, qB x4, qB x2, qB x8, qF i0, qF i1, qF i2, qP, qF i4, qF i5, qF i6, qF i7, qF i8, qF i9, qF i12, hL, (fun j => by obtain ⟨k, e1, e2, p10_0, p10_1, e3, e4⟩ := i10 j; exact ⟨k, (put_ne (by decide)).trans e1, e2, p10_0, p10_1, e3, e4⟩), q10, hS⟩
    · refine qst fun g ac wc hn hk hr HI K' hK => ?_
      obtain ⟨x3, x4, x2, x8, -, -, i2, i3, -, -, -, -, -, -, -, hL, i10, q10, hS⟩ := HI.out
      simp [Region.binds] at hr
      have y2 := i2 (by simp [hr])
      have y3 := i3 (by simp [hr])
      clear i2 i3
      go_simp
      obtain ⟨-, -, -, -, i0, i1, i2, i3, i4, i5, i6, i7, i8, i9, i12, -⟩ := HI.out
      exact hK.out _ _ ⟨qB x3, qB x4, qB x2, qB x8, qF i0, qF i1, qF i2, qF i3, qP, qF i5, qF i6, qF i7, qF i8, qF i9, qF i12, hL, (fun j => by obtain ⟨k, e1, e2, p10_0, p10_1, e3, e4⟩ := i10 j; exact ⟨k, (put_ne (by decide)).trans e1, e2, p10_0, p10_1, e3, e4⟩), q10, hS⟩
    · refine qst fun g ac wc hn hk hr HI K' hK => ?_
      obtain ⟨x3, x4, x2, x8, -, -, -, -, i4, -, -, -, -, -, -, hL, i10, q10, hS⟩ := HI.out
      simp [Region.binds] at hr
      have y4 := i4 (by simp [hr])
      clear i4
      obtain ⟨r1, r2, r3, r4⟩ := (hr3.later (hL2.trans hL)).mov HT3.out
      have zr1 := (hr3.later (hL2.trans hL)).1
      go_simp
      obtain ⟨-, -, -, -, i0, i1, i2, i3, i4, i5, i6, i7, i8, i9, i12, -⟩ := HI.out
      exact hK.out _ _ ⟨qB x3, qB x4, qB x2, qB x8, qF i0, qF i1, qF i2, qF i3, qF i4, qP, qF i6, qF i7, qF i8, qF i9, qF i12, hL, (fun j => by obtain ⟨k, e1, e2, p10_0, p10_1, e3, e4⟩ := i10 j; exact ⟨k, (put_ne (by decide)).trans e1, e2, p10_0, p10_1, e3, e4⟩), q10, hS⟩
    · refine qst fun g ac wc hn hk hr HI K' hK => ?_
      obtain ⟨x3, x4, x2, x8, i0, i1, -, -, -, i5, -, -, -, -, -, hL, i10, q10, hS⟩ := HI.out
      simp [Region.binds] at hr
      have y0 := i0 (by simp [hr])
      have y1 := i1 (by simp [hr])
      have y5 := i5 (by simp [hr])
      clear i0 i1 i5
      go_simp
      refine (w_specMoved _ _ _ _ _ _ _ m _ (H.out.later (hL2.trans hL)) (H'.out.later (hL2.trans hL)) HSS.out HMV.out).mono ?_
      rintro e w4 ⟨rfl, hL4⟩
      rw [show mvS ⟨n, st, sd⟩ ⟨S.sh, S.cu⟩ m = NS from HNS.out, show mvOk ⟨n, st, sd⟩ ⟨S.sh, S.cu⟩ m = NO from HNO.out]
      obtain ⟨-, -, -, -, i0, i1, i2, i3, i4, i5, i6, i7, i8, i9, i12, -⟩ := HI.out
      exact hK.out _ _ ⟨qB x3, qB x4, qB x2, qB x8, qF i0, qF i1, qF i2, qF i3, qF i4, qF i5, qP, qF i7, qF i8, qF i9, qF i12, hL.trans hL4, (fun j => by obtain ⟨k, e1, e2, p10_0, p10_1, e3, e4⟩ := i10 j; exact ⟨k, (put_ne (by decide)).trans e1, e2, p10_0, p10_1, hL4.keep e3, e4⟩), q10, Nat.le_trans hS hL4.size⟩
    · refine qst fun g ac wc hn hk hr HI K' hK => ?_
      obtain ⟨x3, x4, x2, x8, -, -, -, -, -, -, i6, -, -, -, -, hL, i10, q10, hS⟩ := HI.out
      simp [Region.binds] at hr
      have y6 := i6 (by simp [hr])
      clear i6
      go_simp
      obtain ⟨-, -, -, -, i0, i1, i2, i3, i4, i5, i6, i7, i8, i9, i12, -⟩ := HI.out
      exact hK.out _ _ ⟨qB x3, qB x4, qB x2, qB x8, qF i0, qF i1, qF i2, qF i3, qF i4, qF i5, qF i6, qP, qF i8, qF i9, qF i12, hL, (fun j => by obtain ⟨k, e1, e2, p10_0, p10_1, e3, e4⟩ := i10 j; exact ⟨k, (put_ne (by decide)).trans e1, e2, p10_0, p10_1, e3, e4⟩), q10, hS⟩
    · refine qst fun g ac wc hn hk hr HI K' hK => ?_
      obtain ⟨x3, x4, x2, x8, -, -, -, -, -, -, -, i7, -, -, -, hL, i10, q10, hS⟩ := HI.out
      simp [Region.binds] at hr
      have y7 := i7 (by simp [hr])
      clear i7
      go_simp
      obtain ⟨-, -, -, -, i0, i1, i2, i3, i4, i5, i6, i7, i8, i9, i12, -⟩ := HI.out
      exact hK.out _ _ ⟨qB x3, qB x4, qB x2, qB x8, qF i0, qF i1, qF i2, qF i3, qF i4, qF i5, qF i6, qF i7, qP, qF i9, qF i12, hL, (fun j => by obtain ⟨k, e1, e2, p10_0, p10_1, e3, e4⟩ := i10 j; exact ⟨k, (put_ne (by decide)).trans e1, e2, p10_0, p10_1, e3, e4⟩), q10, hS⟩
    · refine qst fun g ac wc hn hk hr HI K' hK => ?_
      obtain ⟨x3, x4, x2, x8, -, -, -, -, -, -, -, i7, -, -, -, hL, i10, q10, hS⟩ := HI.out
      simp [Region.binds] at hr
      have y7 := i7 (by simp [hr])
      clear i7
      go_simp
      obtain ⟨-, -, -, -, i0, i1, i2, i3, i4, i5, i6, i7, i8, i9, i12, -⟩ := HI.out
      exact hK.out _ _ ⟨qB x3, qB x4, qB x2, qB x8, qF i0, qF i1, qF i2, qF i3, qF i4, qF i5, qF i6, qF i7, qF i8, qP, qF i12, hL, (fun j => by obtain ⟨k, e1, e2, p10_0, p10_1, e3, e4⟩ := i10 j; exact ⟨k, (put_ne (by decide)).trans e1, e2, p10_0, p10_1, e3, e4⟩), q10, hS⟩
    · refine qst fun g ac wc hn hk hr HI K' hK => ?_
      obtain ⟨x3, x4, x2, x8, -, -, -, -, -, -, -, -, -, -, -, hL, i10, q10, hS⟩ := HI.out
      simp [Region.binds] at hr
      go_simp
      obtain ⟨-, -, -, -, i0, i1, i2, i3, i4, i5, i6, i7, i8, i9, i12, -⟩ := HI.out
      refine hK.out _ _ ⟨qB x3, qB x4, qB x2, qB x8, qF i0, qF i1, qF i2, qF i3, qF i4, qF i5, qF i6, qF i7, qF i8, qF i9, qF i12, hL.alloc _, (fun _ => ⟨_, put_eq (by omega), hS, _, _, heap_alloc_new _ _, fun j6 => absurd ((q10 j6).symm.trans hk) (by simp)⟩), fun _ => rfl, (by simp; omega)⟩
    · refine qst fun g ac wc hn hk hr HI K' hK => ?_
      obtain ⟨x3, x4, x2, x8, -, -, -, -, -, -, -, -, i8, -, -, hL, i10, q10, hS⟩ := HI.out
      simp [Region.binds] at hr
      have y8 := i8 (by simp [hr])
      clear i8
      have hda : g 10 = true := by simp [hr]
      obtain ⟨k, e1, e2, p10_0, p10_1, e3, -⟩ := i10 hda
      obtain ⟨c0, f0, z0⟩ := blk_at e3
      go_simp
      obtain ⟨-, -, -, -, i0, i1, i2, i3, i4, i5, i6, i7, i8, i9, i12, -⟩ := HI.out
      exact hK.out undef _ ⟨x3, x4, x2, x8, i0, i1, i2, i3, i4, i5, i6, i7, i8, i9, i12, ((hL.setCell e2 _).setCell e2 _), (fun _ => ⟨k, e1, e2, _, _, two_set e3 _ _, fun _ => ⟨rfl, rfl⟩⟩), (fun _ => hda), (by simp; omega)⟩
    · refine qst fun g ac wc hn hk hr HI K' hK => ?_
      obtain ⟨x3, x4, x2, x8, -, -, -, -, -, -, -, -, -, i9, -, hL, i10, q10, hS⟩ := HI.out
      simp [Region.binds] at hr
      have y9 := i9 (by simp [hr])
      clear i9
      go_simp
      obtain ⟨-, -, -, -, i0, i1, i2, i3, i4, i5, i6, i7, i8, i9, i12, -⟩ := HI.out
      exact hK.out _ _ ⟨qB x3, qB x4, qB x2, qB x8, qF i0, qF i1, qF i2, qF i3, qF i4, qF i5, qF i6, qF i7, qF i8, qF i9, qP, hL, (fun j => by obtain ⟨k, e1, e2, p10_0, p10_1, e3, e4⟩ := i10 j; exact ⟨k, (put_ne (by decide)).trans e1, e2, p10_0, p10_1, e3, e4⟩), q10, hS⟩
end Go.Proofs.YtkoojngonldcbaaGreat
