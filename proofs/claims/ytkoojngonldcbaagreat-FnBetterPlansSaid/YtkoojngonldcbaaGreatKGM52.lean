/- DERIVED. Walks: the planner's moves. -/
import Derived.Test.YtkoojngonldcbaaGreatKGM37
import Derived.Test.YtkoojngonldcbaaGreatKGP9
import Derived.Test.YtkoojngonldcbaaGreatKGBA
namespace Go.Proofs.YtkoojngonldcbaaGreat
set_option linter.unusedVariables false
set_option linter.unusedSimpArgs false
open Go.RowKit
set_option maxRecDepth 100000
def PlAt (w : World) (k : Nat) (n : Int) (u v q : Value) (p : Pln) : Prop :=
 w.heap[k]? = some (.cells #[.int .i64 n, u, v, .int .i64 p.s.sh, .int .i64 p.s.cu, q, .bool p.e] 125 (0, 0)) ∧ w.ownsRow (k + 1) 88 4 q p.l.length (movs p.l)
theorem PlAt.later {w w' : World} {k : Nat} {n : Int} {u v q : Value} {p : Pln} (h : PlAt w k n u v q p) (hL : Later w w') : PlAt w' k n u v q p := ⟨hL.keep h.1, owns_later h.2 hL⟩
theorem PlAt.lt {w : World} {k : Nat} {n : Int} {u v q : Value} {p : Pln} (h : PlAt w k n u v q p) : k < w.heap.size := (Array.getElem?_eq_some_iff.1 h.1).1
theorem PlAt.ne {w : World} {k : Nat} {n : Int} {u v q : Value} {p : Pln} (h : PlAt w k n u v q p) {j : Nat} (hj : j ≤ k ∨ w.heap.size ≤ j) : q.ownBlock ≠ some j := own_ne h.2 (by omega)
theorem PlAt.ownk {w : World} {k : Nat} {n : Int} {u v q : Value} {p : Pln} (h : PlAt w k n u v q p) : ∀ j, q.ownBlock = some j → k + 1 ≤ j ∧ j < w.heap.size := fun j e => h.2.lt j e
set_option maxHeartbeats 2000000 in
theorem w_can (n : Int) (au av aq : Option Addr) (capu capv lq capq : Nat) (st sd : List Int) (k : Nat) (p : Pln) (m : Mov) (w : World) (hP : PlAt w k n (.slice au st.length capu) (.slice av sd.length capv) (.slice aq lq capq) p)
 (h : IsNums w (.slice au st.length capu) st) (h' : IsNums w (.slice av sd.length capv) sd) (hs : isStg p.s = true) (hm : isMove m = true) :
 Calls Tryz.prog 176 #[.pointer (some ⟨k, 0, none⟩), .agg #[.int .i64 m.k, .int .i64 m.s, .int .i64 m.f.d, .int .i64 m.f.t]] w fun e w' => e = .returned (.tuple #[.agg #[.int .i64 (mvS ⟨n, st, sd⟩ p.s m).sh, .int .i64 (mvS ⟨n, st, sd⟩ p.s m).cu], .bool (mvOk ⟨n, st, sd⟩ p.s m)]) ∧ Later w w' := by
 have H := Lib.hid h
 have H' := Lib.hid h'
 have HS := Lib.hid hs
 have HM := Lib.hid hm
 have HPl := Lib.hid hP
 clear h h' hs hm
 obtain ⟨NS, hNS⟩ : ∃ x, mvS ⟨n, st, sd⟩ p.s m = x := ⟨_, rfl⟩
 obtain ⟨NO, hNO⟩ : ∃ x, mvOk ⟨n, st, sd⟩ p.s m = x := ⟨_, rfl⟩
 rw [hNS, hNO]
 have HNS := Lib.hid hNS
 have HNO := Lib.hid hNO
 clear hNS hNO hP
 go_enter Tryz.func176, Tryz.ntmps176
 go_wp2_with fail
 refine wp_name ?_
 intro z hz
 have hL0 : Later w z := by rw [hz]; exact ((Later.refl _).alloc _).alloc _
 have Km : z.heap[w.heap.size]? = some (.cells #[.int .i64 m.k, .int .i64 m.s, .int .i64 m.f.d, .int .i64 m.f.t] 88 (0, 0)) := by rw [hz]; exact heap_alloc_old _ _ (heap_alloc_new _ _)
 have Kr : z.heap[w.heap.size + 1]? = some (.cells #[.int .i64 0, .int .i64 0] 78 (0, 0)) := by rw [hz]; exact heap_alloc_new' _ _ (by simp)
 have Kp := hL0.keep HPl.out.1
 have hSB := hL0.size
 have hkw := HPl.out.lt
 have hRB : w.heap.size ≤ w.heap.size + 1 := by omega
 clear hz
 refine region_slots 18 [6, 7, 8, 9, 10, 11, 12, 13, 14, 15, 16, 17, 5] (fun g ac wc => sl ac 0 = .pointer (some ⟨k, 0, none⟩) ∧
  sl ac 3 = .pointer (some ⟨w.heap.size, 0, none⟩) ∧
  sl ac 4 = .pointer (some ⟨w.heap.size + 1, 0, none⟩) ∧
  (g 0 = true → sl ac 6 = .pointer (some ⟨k, 0, none⟩)) ∧
  (g 1 = true → sl ac 7 = .pointer (some ⟨k, 0, none⟩)) ∧
  (g 2 = true → sl ac 8 = .pointer (some ⟨k, 0, none⟩)) ∧
  (g 3 = true → sl ac 9 = .agg #[.int .i64 n, .slice au st.length capu, .slice av sd.length capv]) ∧
  (g 4 = true → sl ac 10 = .pointer (some ⟨k, 0, none⟩)) ∧
  (g 5 = true → sl ac 11 = .pointer (some ⟨k, 0, none⟩)) ∧
  (g 6 = true → sl ac 12 = .pointer (some ⟨k, 3, none⟩)) ∧
  (g 7 = true → sl ac 13 = .agg #[.int .i64 p.s.sh, .int .i64 p.s.cu]) ∧
  (g 8 = true → sl ac 14 = .agg #[.int .i64 m.k, .int .i64 m.s, .int .i64 m.f.d, .int .i64 m.f.t]) ∧
  (g 9 = true → sl ac 15 = .tuple #[.agg #[.int .i64 NS.sh, .int .i64 NS.cu], .bool NO]) ∧
  (g 10 = true → sl ac 16 = .agg #[.int .i64 NS.sh, .int .i64 NS.cu]) ∧
  (g 11 = true → sl ac 17 = .bool NO) ∧
  (g 13 = true → sl ac 5 = .bool NO) ∧
  Later w wc ∧
  z.heap.size ≤ wc.heap.size ∧
  wc.heap[k]? = some (.cells #[.int .i64 n, .slice au st.length capu, .slice av sd.length capv, .int .i64 p.s.sh, .int .i64 p.s.cu, .slice aq lq capq, .bool p.e] 125 (0, 0)) ∧
  wc.heap[w.heap.size]? = some (.cells #[.int .i64 m.k, .int .i64 m.s, .int .i64 m.f.d, .int .i64 m.f.t] 88 (0, 0)) ∧
  (∃ r0 r1, wc.heap[w.heap.size + 1]? = some (.cells #[r0, r1] 78 (0, 0)) ∧ (g 12 = true → r0 = .int .i64 NS.sh ∧ r1 = .int .i64 NS.cu))) (by kernel_rfl) (by kernel_rfl) rfl (by kernel_rfl) ?_ ?_ ?_
 · exact ⟨rfl, rfl, rfl, nofun, nofun, nofun, nofun, nofun, nofun, nofun, nofun, nofun, nofun, nofun, nofun, nofun, hL0.drew, Nat.le_refl _, Kp, Km, ⟨_, _, Kr, nofun⟩⟩
 · intro g ac wu hg ha hI
   obtain ⟨x0, x3, x4, i0, i1, i2, i3, i4, i5, i6, i7, i8, i9, i10, i11, i13, hL, hS, Bp, Bm, Rr⟩ := hI
   have a0 := i0 (hg 0 (by simp))
   have a1 := i1 (hg 1 (by simp))
   have a2 := i2 (hg 2 (by simp))
   have a3 := i3 (hg 3 (by simp))
   have a4 := i4 (hg 4 (by simp))
   have a5 := i5 (hg 5 (by simp))
   have a6 := i6 (hg 6 (by simp))
   have a7 := i7 (hg 7 (by simp))
   have a8 := i8 (hg 8 (by simp))
   have a9 := i9 (hg 9 (by simp))
   have a10 := i10 (hg 10 (by simp))
   have a11 := i11 (hg 11 (by simp))
   have a13 := i13 (hg 13 (by simp))
   obtain ⟨r0, r1, Kr, gr⟩ := Rr
   have gr := gr (hg 12 (by simp))
   rw [gr.1, gr.2] at Kr
   clear gr
   simp only [putAll, a0, a1, a2, a3, a4, a5, a6, a7, a8, a9, a10, a11, a13] at ha
   simp only [Act.put, List.setIfInBounds_toArray, List.set_cons_succ, List.set_cons_zero] at ha
   rw [ha]
   clear x0 x3 x4 i0 i1 i2 i3 i4 i5 i6 i7 i8 i9 i10 i11 i13 a0 a1 a2 a3 a4 a5 a6 a7 a8 a9 a10 a11 a13 hg ha
   have c0 := (blk_at Kr).1
   have z0 := (blk_at Kr).2.2
   go_wp2
   refine bodyPost_ret (v := .tuple #[.agg #[.int .i64 NS.sh, .int .i64 NS.cu], .bool NO]) (by simp [results, Tryz.results176, go_sem, c0, z0]) rfl ⟨rfl, hL⟩
 · refine .cons ?_ (.cons ?_ (.cons ?_ (.cons ?_ (.cons ?_ (.cons ?_ (.cons ?_ (.cons ?_ (.cons ?_ (.cons ?_ (.cons ?_ (.cons ?_ (.cons ?_ (.cons ?_ .nil)))))))))))))
   · refine qst fun g ac wc hn hk hr HI K' hK => ?_
     obtain ⟨x0, x3, x4, -, -, -, -, -, -, -, -, -, -, -, -, -, hL, hS, Bp, Bm, Rr⟩ := HI.out
     simp [Region.binds] at hr
     go_simp
     obtain ⟨-, -, -, i0, i1, i2, i3, i4, i5, i6, i7, i8, i9, i10, i11, i13, -⟩ := HI.out
     exact hK.out _ _ ⟨qB x0, qB x3, qB x4, qP, qF i1, qF i2, qF i3, qF i4, qF i5, qF i6, qF i7, qF i8, qF i9, qF i10, qF i11, qF i13, hL, hS, Bp, Bm, Rr⟩
   · refine qst fun g ac wc hn hk hr HI K' hK => ?_
     obtain ⟨x0, x3, x4, i0, -, -, -, -, -, -, -, -, -, -, -, -, hL, hS, Bp, Bm, Rr⟩ := HI.out
     simp [Region.binds] at hr
     have y0 := i0 (by simp [hr])
     clear i0
     go_simp
     obtain ⟨-, -, -, i0, i1, i2, i3, i4, i5, i6, i7, i8, i9, i10, i11, i13, -⟩ := HI.out
     exact hK.out _ _ ⟨qB x0, qB x3, qB x4, qF i0, qP, qF i2, qF i3, qF i4, qF i5, qF i6, qF i7, qF i8, qF i9, qF i10, qF i11, qF i13, hL, hS, Bp, Bm, Rr⟩
   · refine qst fun g ac wc hn hk hr HI K' hK => ?_
     obtain ⟨x0, x3, x4, -, i1, -, -, -, -, -, -, -, -, -, -, -, hL, hS, Bp, Bm, Rr⟩ := HI.out
     simp [Region.binds] at hr
     have y1 := i1 (by simp [hr])
     clear i1
     go_simp
     obtain ⟨-, -, -, i0, i1, i2, i3, i4, i5, i6, i7, i8, i9, i10, i11, i13, -⟩ := HI.out
     exact hK.out _ _ ⟨qB x0, qB x3, qB x4, qF i0, qF i1, qP, qF i3, qF i4, qF i5, qF i6, qF i7, qF i8, qF i9, qF i10, qF i11, qF i13, hL, hS, Bp, Bm, Rr⟩
   · refine qst fun g ac wc hn hk hr HI K' hK => ?_
     obtain ⟨x0, x3, x4, -, -, i2, -, -, -, -, -, -, -, -, -, -, hL, hS, Bp, Bm, Rr⟩ := HI.out
     simp [Region.binds] at hr
     have y2 := i2 (by simp [hr])
     clear i2
     obtain ⟨c0, f0, z0⟩ := blk_at Bp
     go_simp
     obtain ⟨-, -, -, i0, i1, i2, i3, i4, i5, i6, i7, i8, i9, i10, i11, i13, -⟩ := HI.out
     exact hK.out _ _ ⟨qB x0, qB x3, qB x4, qF i0, qF i1, qF i2, qP, qF i4, qF i5, qF i6, qF i7, qF i8, qF i9, qF i10, qF i11, qF i13, hL, hS, Bp, Bm, Rr⟩
   · refine qst fun g ac wc hn hk hr HI K' hK => ?_
     obtain ⟨x0, x3, x4, -, -, -, -, -, -, -, -, -, -, -, -, -, hL, hS, Bp, Bm, Rr⟩ := HI.out
     simp [Region.binds] at hr
     go_simp
     obtain ⟨-, -, -, i0, i1, i2, i3, i4, i5, i6, i7, i8, i9, i10, i11, i13, -⟩ := HI.out
     exact hK.out _ _ ⟨qB x0, qB x3, qB x4, qF i0, qF i1, qF i2, qF i3, qP, qF i5, qF i6, qF i7, qF i8, qF i9, qF i10, qF i11, qF i13, hL, hS, Bp, Bm, Rr⟩
   · refine qst fun g ac wc hn hk hr HI K' hK => ?_
     obtain ⟨x0, x3, x4, -, -, -, -, i4, -, -, -, -, -, -, -, -, hL, hS, Bp, Bm, Rr⟩ := HI.out
     simp [Region.binds] at hr
     have y4 := i4 (by simp [hr])
     clear i4
     go_simp
     obtain ⟨-, -, -, i0, i1, i2, i3, i4, i5, i6, i7, i8, i9, i10, i11, i13, -⟩ := HI.out
     exact hK.out _ _ ⟨qB x0, qB x3, qB x4, qF i0, qF i1, qF i2, qF i3, qF i4, qP, qF i6, qF i7, qF i8, qF i9, qF i10, qF i11, qF i13, hL, hS, Bp, Bm, Rr⟩
   · refine qst fun g ac wc hn hk hr HI K' hK => ?_
     obtain ⟨x0, x3, x4, -, -, -, -, -, i5, -, -, -, -, -, -, -, hL, hS, Bp, Bm, Rr⟩ := HI.out
     simp [Region.binds] at hr
     have y5 := i5 (by simp [hr])
     clear i5
     go_simp
     obtain ⟨-, -, -, i0, i1, i2, i3, i4, i5, i6, i7, i8, i9, i10, i11, i13, -⟩ := HI.out
     exact hK.out _ _ ⟨qB x0, qB x3, qB x4, qF i0, qF i1, qF i2, qF i3, qF i4, qF i5, qP, qF i7, qF i8, qF i9, qF i10, qF i11, qF i13, hL, hS, Bp, Bm, Rr⟩
   · refine qst fun g ac wc hn hk hr HI K' hK => ?_
     obtain ⟨x0, x3, x4, -, -, -, -, -, -, i6, -, -, -, -, -, -, hL, hS, Bp, Bm, Rr⟩ := HI.out
     simp [Region.binds] at hr
     have y6 := i6 (by simp [hr])
     clear i6
     obtain ⟨c0, f0, z0⟩ := blk_at Bp
     go_simp
     obtain ⟨-, -, -, i0, i1, i2, i3, i4, i5, i6, i7, i8, i9, i10, i11, i13, -⟩ := HI.out
     exact hK.out _ _ ⟨qB x0, qB x3, qB x4, qF i0, qF i1, qF i2, qF i3, qF i4, qF i5, qF i6, qP, qF i8, qF i9, qF i10, qF i11, qF i13, hL, hS, Bp, Bm, Rr⟩
   · refine qst fun g ac wc hn hk hr HI K' hK => ?_
     obtain ⟨x0, x3, x4, -, -, -, -, -, -, -, -, -, -, -, -, -, hL, hS, Bp, Bm, Rr⟩ := HI.out
     simp [Region.binds] at hr
     obtain ⟨c0, f0, z0⟩ := blk_at Bm
     go_simp
     obtain ⟨-, -, -, i0, i1, i2, i3, i4, i5, i6, i7, i8, i9, i10, i11, i13, -⟩ := HI.out
     exact hK.out _ _ ⟨qB x0, qB x3, qB x4, qF i0, qF i1, qF i2, qF i3, qF i4, qF i5, qF i6, qF i7, qP, qF i9, qF i10, qF i11, qF i13, hL, hS, Bp, Bm, Rr⟩
   · refine qst fun g ac wc hn hk hr HI K' hK => ?_
     obtain ⟨x0, x3, x4, -, -, -, i3, -, -, -, i7, i8, -, -, -, -, hL, hS, Bp, Bm, Rr⟩ := HI.out
     simp [Region.binds] at hr
     have y3 := i3 (by simp [hr])
     have y7 := i7 (by simp [hr])
     have y8 := i8 (by simp [hr])
     clear i3 i7 i8
     go_simp
     refine (w_implMoved _ _ _ _ _ _ _ m _ (H.out.later hL) (H'.out.later hL) HS.out HM.out).mono ?_
     rintro e w4 ⟨rfl, hL4⟩
     rw [show mvS ⟨n, st, sd⟩ ⟨p.s.sh, p.s.cu⟩ m = NS from HNS.out, show mvOk ⟨n, st, sd⟩ ⟨p.s.sh, p.s.cu⟩ m = NO from HNO.out]
     obtain ⟨-, -, -, i0, i1, i2, i3, i4, i5, i6, i7, i8, i9, i10, i11, i13, -⟩ := HI.out
     exact hK.out _ _ ⟨qB x0, qB x3, qB x4, qF i0, qF i1, qF i2, qF i3, qF i4, qF i5, qF i6, qF i7, qF i8, qP, qF i10, qF i11, qF i13, hL.trans hL4, Nat.le_trans hS hL4.size, hL4.keep Bp, hL4.keep Bm, (by obtain ⟨r0, r1, R1, R2⟩ := Rr; exact ⟨r0, r1, hL4.keep R1, R2⟩)⟩
   · refine qst fun g ac wc hn hk hr HI K' hK => ?_
     obtain ⟨x0, x3, x4, -, -, -, -, -, -, -, -, -, i9, -, -, -, hL, hS, Bp, Bm, Rr⟩ := HI.out
     simp [Region.binds] at hr
     have y9 := i9 (by simp [hr])
     clear i9
     go_simp
     obtain ⟨-, -, -, i0, i1, i2, i3, i4, i5, i6, i7, i8, i9, i10, i11, i13, -⟩ := HI.out
     exact hK.out _ _ ⟨qB x0, qB x3, qB x4, qF i0, qF i1, qF i2, qF i3, qF i4, qF i5, qF i6, qF i7, qF i8, qF i9, qP, qF i11, qF i13, hL, hS, Bp, Bm, Rr⟩
   · refine qst fun g ac wc hn hk hr HI K' hK => ?_
     obtain ⟨x0, x3, x4, -, -, -, -, -, -, -, -, -, i9, -, -, -, hL, hS, Bp, Bm, Rr⟩ := HI.out
     simp [Region.binds] at hr
     have y9 := i9 (by simp [hr])
     clear i9
     go_simp
     obtain ⟨-, -, -, i0, i1, i2, i3, i4, i5, i6, i7, i8, i9, i10, i11, i13, -⟩ := HI.out
     exact hK.out _ _ ⟨qB x0, qB x3, qB x4, qF i0, qF i1, qF i2, qF i3, qF i4, qF i5, qF i6, qF i7, qF i8, qF i9, qF i10, qP, qF i13, hL, hS, Bp, Bm, Rr⟩
   · refine qst fun g ac wc hn hk hr HI K' hK => ?_
     obtain ⟨x0, x3, x4, -, -, -, -, -, -, -, -, -, -, i10, -, -, hL, hS, Bp, Bm, Rr⟩ := HI.out
     simp [Region.binds] at hr
     have y10 := i10 (by simp [hr])
     clear i10
     obtain ⟨r0, r1, R1, -⟩ := Rr
     obtain ⟨c0, f0, z0⟩ := blk_at R1
     go_simp
     obtain ⟨-, -, -, i0, i1, i2, i3, i4, i5, i6, i7, i8, i9, i10, i11, i13, -⟩ := HI.out
     exact hK.out undef _ ⟨x0, x3, x4, i0, i1, i2, i3, i4, i5, i6, i7, i8, i9, i10, i11, i13, ((hL.setCell hRB _).setCell hRB _), (by simp; omega), (other_set (other_set Bp (by omega) _) (by omega) _), (other_set (other_set Bm (by omega) _) (by omega) _), ⟨_, _, two_set R1 _ _, fun _ => ⟨rfl, rfl⟩⟩⟩
   · refine qst fun g ac wc hn hk hr HI K' hK => ?_
     obtain ⟨x0, x3, x4, -, -, -, -, -, -, -, -, -, -, -, i11, -, hL, hS, Bp, Bm, Rr⟩ := HI.out
     simp [Region.binds] at hr
     have y11 := i11 (by simp [hr])
     clear i11
     go_simp
     obtain ⟨-, -, -, i0, i1, i2, i3, i4, i5, i6, i7, i8, i9, i10, i11, i13, -⟩ := HI.out
     exact hK.out _ _ ⟨qB x0, qB x3, qB x4, qF i0, qF i1, qF i2, qF i3, qF i4, qF i5, qF i6, qF i7, qF i8, qF i9, qF i10, qF i11, qP, hL, hS, Bp, Bm, Rr⟩
end Go.Proofs.YtkoojngonldcbaaGreat
