/- DERIVED. Walks: the planner's moves. -/
import Derived.Test.YtldojpelnghplaaGreatM37
import Derived.Test.YtldojpelnghplaaGreatP9
import Derived.Test.YtldojpelnghplaaGreatBA
namespace Go.Proofs.YtldojpelnghplaaGreat
set_option linter.unusedVariables false
set_option linter.unusedSimpArgs false
open Go.RowKit
set_option maxRecDepth 100000

/-- A planner in block k: its rule, its setting, its moves, its mark. -/
def PlAt (w : World) (k : Nat) (n : Int) (u v q : Value) (p : Pln) : Prop :=
  w.heap[k]? = some (.cells #[.int .i64 n, u, v, .int .i64 p.s.sh, .int .i64 p.s.cu, q, .bool p.e] 106 (0, 0)) ∧ w.ownsRow (k + 1) 110 4 q p.l.length (movs p.l)

theorem PlAt.later {w w' : World} {k : Nat} {n : Int} {u v q : Value} {p : Pln} (h : PlAt w k n u v q p) (hL : Later w w') : PlAt w' k n u v q p := ⟨hL.keep h.1, owns_later h.2 hL⟩
theorem PlAt.lt {w : World} {k : Nat} {n : Int} {u v q : Value} {p : Pln} (h : PlAt w k n u v q p) : k < w.heap.size := (Array.getElem?_eq_some_iff.1 h.1).1
theorem PlAt.ne {w : World} {k : Nat} {n : Int} {u v q : Value} {p : Pln} (h : PlAt w k n u v q p) {j : Nat} (hj : j ≤ k ∨ w.heap.size ≤ j) : q.ownBlock ≠ some j := own_ne h.2 (by omega)
theorem PlAt.ownk {w : World} {k : Nat} {n : Int} {u v q : Value} {p : Pln} (h : PlAt w k n u v q p) : ∀ j, q.ownBlock = some j → k + 1 ≤ j ∧ j < w.heap.size := fun j e => h.2.lt j e

set_option maxHeartbeats 2000000 in
theorem w_can (n : Int) (au av aq : Option Addr) (capu capv lq capq : Nat) (st sd : List Int) (k : Nat) (p : Pln) (m : Mov) (w : World) (hP : PlAt w k n (.slice au st.length capu) (.slice av sd.length capv) (.slice aq lq capq) p)
    (h : IsNums w (.slice au st.length capu) st) (h' : IsNums w (.slice av sd.length capv) sd) (hs : isStg p.s = true) (hm : isMove m = true) :
    Calls Tryz.prog 124 #[.pointer (some ⟨k, 0, none⟩), .agg #[.int .i64 m.k, .int .i64 m.s, .int .i64 m.f.d, .int .i64 m.f.t]] w fun e w' => e = .returned (.tuple #[.agg #[.int .i64 (mvS ⟨n, st, sd⟩ p.s m).sh, .int .i64 (mvS ⟨n, st, sd⟩ p.s m).cu], .bool (mvOk ⟨n, st, sd⟩ p.s m)]) ∧ Later w w' := by
  have H := Lib.hid h
  have H' := Lib.hid h'
  have HS := Lib.hid hs
  have HM := Lib.hid hm
  have HPl := Lib.hid hP
  clear h h' hs hm
  obtain ⟨NS, hNS⟩ : ∃ x, mvS ⟨n, st, sd⟩ p.s m = x := ⟨_, rfl⟩
  obtain ⟨NO, hNO⟩ : ∃ x, mvOk ⟨n, st, sd⟩ p.s m = x := ⟨_, rfl⟩
  rw [hNS, hNO]
  have HNS := Lib.hid hNS
  have HNO := Lib.hid hNO
  clear hNS hNO hP
  go_enter Tryz.func124, Tryz.ntmps124
  go_wp2_with fail
  refine wp_name ?_
  intro z hz
  have hL0 : Later w z := by rw [hz]; exact ((Later.refl _).alloc _).alloc _
  have Km : z.heap[w.heap.size]? = some (.cells #[.int .i64 m.k, .int .i64 m.s, .int .i64 m.f.d, .int .i64 m.f.t] 110 (0, 0)) := by rw [hz]; exact heap_alloc_old _ _ (heap_alloc_new _ _)
  have Kr : z.heap[w.heap.size + 1]? = some (.cells #[.int .i64 0, .int .i64 0] 83 (0, 0)) := by rw [hz]; exact heap_alloc_new' _ _ (by simp)
  have Kp := hL0.keep HPl.out.1
  have hSB := hL0.size
  have hkw := HPl.out.lt
  have hRB : w.heap.size ≤ w.heap.size + 1 := by omega
  clear hz
  refine region_slots 18 [6, 7, 8, 9, 10, 11, 12, 13, 14, 15, 16, 17, 5] (fun g ac wc => sl ac 0 = .pointer (some ⟨k, 0, none⟩) ∧
    sl ac 3 = .pointer (some ⟨w.heap.size, 0, none⟩) ∧
    sl ac 4 = .pointer (some ⟨w.heap.size + 1, 0, none⟩) ∧
    (g 0 = true → sl ac 6 = .pointer (some ⟨k, 0, none⟩)) ∧
    (g 1 = true → sl ac 7 = .pointer (some ⟨k, 0, none⟩)) ∧
    (g 2 = true → sl ac 8 = .pointer (some ⟨k, 0, none⟩)) ∧
    (g 3 = true → sl ac 9 = .agg #[.int .i64 n, .slice au st.length capu, .slice av sd.length capv]) ∧
    (g 4 = true → sl ac 10 = .pointer (some ⟨k, 0, none⟩)) ∧
    (g 5 = true → sl ac 11 = .pointer (some ⟨k, 0, none⟩)) ∧
    (g 6 = true → sl ac 12 = .pointer (some ⟨k, 3, none⟩)) ∧
    (g 7 = true → sl ac 13 = .agg #[.int .i64 p.s.sh, .int .i64 p.s.cu]) ∧
    (g 8 = true → sl ac 14 = .agg #[.int .i64 m.k, .int .i64 m.s, .int .i64 m.f.d, .int .i64 m.f.t]) ∧
    (g 9 = true → sl ac 15 = .tuple #[.agg #[.int .i64 NS.sh, .int .i64 NS.cu], .bool NO]) ∧
    (g 10 = true → sl ac 16 = .agg #[.int .i64 NS.sh, .int .i64 NS.cu]) ∧
    (g 11 = true → sl ac 17 = .bool NO) ∧
    (g 13 = true → sl ac 5 = .bool NO) ∧
    Later w wc ∧
    z.heap.size ≤ wc.heap.size ∧
    wc.heap[k]? = some (.cells #[.int .i64 n, .slice au st.length capu, .slice av sd.length capv, .int .i64 p.s.sh, .int .i64 p.s.cu, .slice aq lq capq, .bool p.e] 106 (0, 0)) ∧
    wc.heap[w.heap.size]? = some (.cells #[.int .i64 m.k, .int .i64 m.s, .int .i64 m.f.d, .int .i64 m.f.t] 110 (0, 0)) ∧
    (∃ r0 r1, wc.heap[w.heap.size + 1]? = some (.cells #[r0, r1] 83 (0, 0)) ∧ (g 12 = true → r0 = .int .i64 NS.sh ∧ r1 = .int .i64 NS.cu))) (by kernel_rfl) (by kernel_rfl) rfl (by kernel_rfl) ?_ ?_ ?_
  · exact ⟨rfl, rfl, rfl, nofun, nofun, nofun, nofun, nofun, nofun, nofun, nofun, nofun, nofun, nofun, nofun, nofun, hL0.drew, Nat.le_refl _, Kp, Km, ⟨_, _, Kr, nofun⟩⟩
  · intro g ac wu hg ha hI
    obtain ⟨x0, x3, x4, i0, i1, i2, i3, i4, i5, i6, i7, i8, i9, i10, i11, i13, hL, hS, Bp, Bm, Rr⟩ := hI
    have a0 := i0 (hg 0 (by simp))
    have a1 := i1 (hg 1 (by simp))
    have a2 := i2 (hg 2 (by simp))
    have a3 := i3 (hg 3 (by simp))
    have a4 := i4 (hg 4 (by simp))
    have a5 := i5 (hg 5 (by simp))
    have a6 := i6 (hg 6 (by simp))
    have a7 := i7 (hg 7 (by simp))
    have a8 := i8 (hg 8 (by simp))
    have a9 := i9 (hg 9 (by simp))
    have a10 := i10 (hg 10 (by simp))
    have a11 := i11 (hg 11 (by simp))
    have a13 := i13 (hg 13 (by simp))
    obtain ⟨r0, r1, Kr, gr⟩ := Rr
    have gr := gr (hg 12 (by simp))
    rw [gr.1, gr.2] at Kr
    clear gr
    simp only [putAll, a0, a1, a2, a3, a4, a5, a6, a7, a8, a9, a10, a11, a13] at ha
    simp only [Act.put, List.setIfInBounds_toArray, List.set_cons_succ, List.set_cons_zero] at ha
    rw [ha]
    clear x0 x3 x4 i0 i1 i2 i3 i4 i5 i6 i7 i8 i9 i10 i11 i13 a0 a1 a2 a3 a4 a5 a6 a7 a8 a9 a10 a11 a13 hg ha
    have c0 := (blk_at Kr).1
    have z0 := (blk_at Kr).2.2
    go_wp2
    refine bodyPost_ret (v := .tuple #[.agg #[.int .i64 NS.sh, .int .i64 NS.cu], .bool NO]) (by simp [results, Tryz.results124, go_sem, c0, z0]) rfl ⟨rfl, hL⟩
  · refine .cons ?_ (.cons ?_ (.cons ?_ (.cons ?_ (.cons ?_ (.cons ?_ (.cons ?_ (.cons ?_ (.cons ?_ (.cons ?_ (.cons ?_ (.cons ?_ (.cons ?_ (.cons ?_ .nil)))))))))))))
    · unfold SlotStep
      intro g ac wc hn hk hr hI K' hK
      obtain ⟨x0, x3, x4, i0, i1, i2, i3, i4, i5, i6, i7, i8, i9, i10, i11, i13, hL, hS, Bp, Bm, Rr⟩ := hI
      simp only [Region.binds] at hr
      simp at hr
      replace hK := Lib.hid hK
      replace i0 := Lib.hid i0
      replace i1 := Lib.hid i1
      replace i2 := Lib.hid i2
      replace i3 := Lib.hid i3
      replace i4 := Lib.hid i4
      replace i5 := Lib.hid i5
      replace i6 := Lib.hid i6
      replace i7 := Lib.hid i7
      replace i8 := Lib.hid i8
      replace i9 := Lib.hid i9
      replace i10 := Lib.hid i10
      replace i11 := Lib.hid i11
      replace i13 := Lib.hid i13
      go_simp
      exact hK.out _ _ ⟨(keepB x0 (by decide)), (keepB x3 (by decide)), (keepB x4 (by decide)), (fun _ => put_eq (by omega)), (keepF i1.out (by decide)), (keepF i2.out (by decide)), (keepF i3.out (by decide)), (keepF i4.out (by decide)), (keepF i5.out (by decide)), (keepF i6.out (by decide)), (keepF i7.out (by decide)), (keepF i8.out (by decide)), (keepF i9.out (by decide)), (keepF i10.out (by decide)), (keepF i11.out (by decide)), (keepF i13.out (by decide)), hL, hS, Bp, Bm, Rr⟩
    · unfold SlotStep
      intro g ac wc hn hk hr hI K' hK
      obtain ⟨x0, x3, x4, i0, i1, i2, i3, i4, i5, i6, i7, i8, i9, i10, i11, i13, hL, hS, Bp, Bm, Rr⟩ := hI
      simp only [Region.binds] at hr
      simp at hr
      replace hK := Lib.hid hK
      have y0 := i0 (by first | exact hr | exact hr.1 | exact hr.2 | exact hr.2.1 | exact hr.2.2 | exact hr.2.2.1 | exact hr.2.2.2 | simp [hr])
      replace i0 := Lib.hid i0
      replace i1 := Lib.hid i1
      replace i2 := Lib.hid i2
      replace i3 := Lib.hid i3
      replace i4 := Lib.hid i4
      replace i5 := Lib.hid i5
      replace i6 := Lib.hid i6
      replace i7 := Lib.hid i7
      replace i8 := Lib.hid i8
      replace i9 := Lib.hid i9
      replace i10 := Lib.hid i10
      replace i11 := Lib.hid i11
      replace i13 := Lib.hid i13
      go_simp
      exact hK.out _ _ ⟨(keepB x0 (by decide)), (keepB x3 (by decide)), (keepB x4 (by decide)), (keepF i0.out (by decide)), (fun _ => put_eq (by omega)), (keepF i2.out (by decide)), (keepF i3.out (by decide)), (keepF i4.out (by decide)), (keepF i5.out (by decide)), (keepF i6.out (by decide)), (keepF i7.out (by decide)), (keepF i8.out (by decide)), (keepF i9.out (by decide)), (keepF i10.out (by decide)), (keepF i11.out (by decide)), (keepF i13.out (by decide)), hL, hS, Bp, Bm, Rr⟩
    · unfold SlotStep
      intro g ac wc hn hk hr hI K' hK
      obtain ⟨x0, x3, x4, i0, i1, i2, i3, i4, i5, i6, i7, i8, i9, i10, i11, i13, hL, hS, Bp, Bm, Rr⟩ := hI
      simp only [Region.binds] at hr
      simp at hr
      replace hK := Lib.hid hK
      have y1 := i1 (by first | exact hr | exact hr.1 | exact hr.2 | exact hr.2.1 | exact hr.2.2 | exact hr.2.2.1 | exact hr.2.2.2 | simp [hr])
      replace i0 := Lib.hid i0
      replace i1 := Lib.hid i1
      replace i2 := Lib.hid i2
      replace i3 := Lib.hid i3
      replace i4 := Lib.hid i4
      replace i5 := Lib.hid i5
      replace i6 := Lib.hid i6
      replace i7 := Lib.hid i7
      replace i8 := Lib.hid i8
      replace i9 := Lib.hid i9
      replace i10 := Lib.hid i10
      replace i11 := Lib.hid i11
      replace i13 := Lib.hid i13
      go_simp
      exact hK.out _ _ ⟨(keepB x0 (by decide)), (keepB x3 (by decide)), (keepB x4 (by decide)), (keepF i0.out (by decide)), (keepF i1.out (by decide)), (fun _ => put_eq (by omega)), (keepF i3.out (by decide)), (keepF i4.out (by decide)), (keepF i5.out (by decide)), (keepF i6.out (by decide)), (keepF i7.out (by decide)), (keepF i8.out (by decide)), (keepF i9.out (by decide)), (keepF i10.out (by decide)), (keepF i11.out (by decide)), (keepF i13.out (by decide)), hL, hS, Bp, Bm, Rr⟩
    · unfold SlotStep
      intro g ac wc hn hk hr hI K' hK
      obtain ⟨x0, x3, x4, i0, i1, i2, i3, i4, i5, i6, i7, i8, i9, i10, i11, i13, hL, hS, Bp, Bm, Rr⟩ := hI
      simp only [Region.binds] at hr
      simp at hr
      replace hK := Lib.hid hK
      have y2 := i2 (by first | exact hr | exact hr.1 | exact hr.2 | exact hr.2.1 | exact hr.2.2 | exact hr.2.2.1 | exact hr.2.2.2 | simp [hr])
      replace i0 := Lib.hid i0
      replace i1 := Lib.hid i1
      replace i2 := Lib.hid i2
      replace i3 := Lib.hid i3
      replace i4 := Lib.hid i4
      replace i5 := Lib.hid i5
      replace i6 := Lib.hid i6
      replace i7 := Lib.hid i7
      replace i8 := Lib.hid i8
      replace i9 := Lib.hid i9
      replace i10 := Lib.hid i10
      replace i11 := Lib.hid i11
      replace i13 := Lib.hid i13
      have hbb := blk_at Bp
      have c0 := hbb.1
      have f0 := hbb.2.1
      have z0 := hbb.2.2
      clear hbb
      go_simp
      exact hK.out _ _ ⟨(keepB x0 (by decide)), (keepB x3 (by decide)), (keepB x4 (by decide)), (keepF i0.out (by decide)), (keepF i1.out (by decide)), (keepF i2.out (by decide)), (fun _ => put_eq (by omega)), (keepF i4.out (by decide)), (keepF i5.out (by decide)), (keepF i6.out (by decide)), (keepF i7.out (by decide)), (keepF i8.out (by decide)), (keepF i9.out (by decide)), (keepF i10.out (by decide)), (keepF i11.out (by decide)), (keepF i13.out (by decide)), hL, hS, Bp, Bm, Rr⟩
    · unfold SlotStep
      intro g ac wc hn hk hr hI K' hK
      obtain ⟨x0, x3, x4, i0, i1, i2, i3, i4, i5, i6, i7, i8, i9, i10, i11, i13, hL, hS, Bp, Bm, Rr⟩ := hI
      simp only [Region.binds] at hr
      simp at hr
      replace hK := Lib.hid hK
      replace i0 := Lib.hid i0
      replace i1 := Lib.hid i1
      replace i2 := Lib.hid i2
      replace i3 := Lib.hid i3
      replace i4 := Lib.hid i4
      replace i5 := Lib.hid i5
      replace i6 := Lib.hid i6
      replace i7 := Lib.hid i7
      replace i8 := Lib.hid i8
      replace i9 := Lib.hid i9
      replace i10 := Lib.hid i10
      replace i11 := Lib.hid i11
      replace i13 := Lib.hid i13
      go_simp
      exact hK.out _ _ ⟨(keepB x0 (by decide)), (keepB x3 (by decide)), (keepB x4 (by decide)), (keepF i0.out (by decide)), (keepF i1.out (by decide)), (keepF i2.out (by decide)), (keepF i3.out (by decide)), (fun _ => put_eq (by omega)), (keepF i5.out (by decide)), (keepF i6.out (by decide)), (keepF i7.out (by decide)), (keepF i8.out (by decide)), (keepF i9.out (by decide)), (keepF i10.out (by decide)), (keepF i11.out (by decide)), (keepF i13.out (by decide)), hL, hS, Bp, Bm, Rr⟩
    · unfold SlotStep
      intro g ac wc hn hk hr hI K' hK
      obtain ⟨x0, x3, x4, i0, i1, i2, i3, i4, i5, i6, i7, i8, i9, i10, i11, i13, hL, hS, Bp, Bm, Rr⟩ := hI
      simp only [Region.binds] at hr
      simp at hr
      replace hK := Lib.hid hK
      have y4 := i4 (by first | exact hr | exact hr.1 | exact hr.2 | exact hr.2.1 | exact hr.2.2 | exact hr.2.2.1 | exact hr.2.2.2 | simp [hr])
      replace i0 := Lib.hid i0
      replace i1 := Lib.hid i1
      replace i2 := Lib.hid i2
      replace i3 := Lib.hid i3
      replace i4 := Lib.hid i4
      replace i5 := Lib.hid i5
      replace i6 := Lib.hid i6
      replace i7 := Lib.hid i7
      replace i8 := Lib.hid i8
      replace i9 := Lib.hid i9
      replace i10 := Lib.hid i10
      replace i11 := Lib.hid i11
      replace i13 := Lib.hid i13
      go_simp
      exact hK.out _ _ ⟨(keepB x0 (by decide)), (keepB x3 (by decide)), (keepB x4 (by decide)), (keepF i0.out (by decide)), (keepF i1.out (by decide)), (keepF i2.out (by decide)), (keepF i3.out (by decide)), (keepF i4.out (by decide)), (fun _ => put_eq (by omega)), (keepF i6.out (by decide)), (keepF i7.out (by decide)), (keepF i8.out (by decide)), (keepF i9.out (by decide)), (keepF i10.out (by decide)), (keepF i11.out (by decide)), (keepF i13.out (by decide)), hL, hS, Bp, Bm, Rr⟩
    · unfold SlotStep
      intro g ac wc hn hk hr hI K' hK
      obtain ⟨x0, x3, x4, i0, i1, i2, i3, i4, i5, i6, i7, i8, i9, i10, i11, i13, hL, hS, Bp, Bm, Rr⟩ := hI
      simp only [Region.binds] at hr
      simp at hr
      replace hK := Lib.hid hK
      have y5 := i5 (by first | exact hr | exact hr.1 | exact hr.2 | exact hr.2.1 | exact hr.2.2 | exact hr.2.2.1 | exact hr.2.2.2 | simp [hr])
      replace i0 := Lib.hid i0
      replace i1 := Lib.hid i1
      replace i2 := Lib.hid i2
      replace i3 := Lib.hid i3
      replace i4 := Lib.hid i4
      replace i5 := Lib.hid i5
      replace i6 := Lib.hid i6
      replace i7 := Lib.hid i7
      replace i8 := Lib.hid i8
      replace i9 := Lib.hid i9
      replace i10 := Lib.hid i10
      replace i11 := Lib.hid i11
      replace i13 := Lib.hid i13
      go_simp
      exact hK.out _ _ ⟨(keepB x0 (by decide)), (keepB x3 (by decide)), (keepB x4 (by decide)), (keepF i0.out (by decide)), (keepF i1.out (by decide)), (keepF i2.out (by decide)), (keepF i3.out (by decide)), (keepF i4.out (by decide)), (keepF i5.out (by decide)), (fun _ => put_eq (by omega)), (keepF i7.out (by decide)), (keepF i8.out (by decide)), (keepF i9.out (by decide)), (keepF i10.out (by decide)), (keepF i11.out (by decide)), (keepF i13.out (by decide)), hL, hS, Bp, Bm, Rr⟩
    · unfold SlotStep
      intro g ac wc hn hk hr hI K' hK
      obtain ⟨x0, x3, x4, i0, i1, i2, i3, i4, i5, i6, i7, i8, i9, i10, i11, i13, hL, hS, Bp, Bm, Rr⟩ := hI
      simp only [Region.binds] at hr
      simp at hr
      replace hK := Lib.hid hK
      have y6 := i6 (by first | exact hr | exact hr.1 | exact hr.2 | exact hr.2.1 | exact hr.2.2 | exact hr.2.2.1 | exact hr.2.2.2 | simp [hr])
      replace i0 := Lib.hid i0
      replace i1 := Lib.hid i1
      replace i2 := Lib.hid i2
      replace i3 := Lib.hid i3
      replace i4 := Lib.hid i4
      replace i5 := Lib.hid i5
      replace i6 := Lib.hid i6
      replace i7 := Lib.hid i7
      replace i8 := Lib.hid i8
      replace i9 := Lib.hid i9
      replace i10 := Lib.hid i10
      replace i11 := Lib.hid i11
      replace i13 := Lib.hid i13
      have hbb := blk_at Bp
      have c0 := hbb.1
      have f0 := hbb.2.1
      have z0 := hbb.2.2
      clear hbb
      go_simp
      exact hK.out _ _ ⟨(keepB x0 (by decide)), (keepB x3 (by decide)), (keepB x4 (by decide)), (keepF i0.out (by decide)), (keepF i1.out (by decide)), (keepF i2.out (by decide)), (keepF i3.out (by decide)), (keepF i4.out (by decide)), (keepF i5.out (by decide)), (keepF i6.out (by decide)), (fun _ => put_eq (by omega)), (keepF i8.out (by decide)), (keepF i9.out (by decide)), (keepF i10.out (by decide)), (keepF i11.out (by decide)), (keepF i13.out (by decide)), hL, hS, Bp, Bm, Rr⟩
    · unfold SlotStep
      intro g ac wc hn hk hr hI K' hK
      obtain ⟨x0, x3, x4, i0, i1, i2, i3, i4, i5, i6, i7, i8, i9, i10, i11, i13, hL, hS, Bp, Bm, Rr⟩ := hI
      simp only [Region.binds] at hr
      simp at hr
      replace hK := Lib.hid hK
      replace i0 := Lib.hid i0
      replace i1 := Lib.hid i1
      replace i2 := Lib.hid i2
      replace i3 := Lib.hid i3
      replace i4 := Lib.hid i4
      replace i5 := Lib.hid i5
      replace i6 := Lib.hid i6
      replace i7 := Lib.hid i7
      replace i8 := Lib.hid i8
      replace i9 := Lib.hid i9
      replace i10 := Lib.hid i10
      replace i11 := Lib.hid i11
      replace i13 := Lib.hid i13
      have hbb := blk_at Bm
      have c0 := hbb.1
      have f0 := hbb.2.1
      have z0 := hbb.2.2
      clear hbb
      go_simp
      exact hK.out _ _ ⟨(keepB x0 (by decide)), (keepB x3 (by decide)), (keepB x4 (by decide)), (keepF i0.out (by decide)), (keepF i1.out (by decide)), (keepF i2.out (by decide)), (keepF i3.out (by decide)), (keepF i4.out (by decide)), (keepF i5.out (by decide)), (keepF i6.out (by decide)), (keepF i7.out (by decide)), (fun _ => put_eq (by omega)), (keepF i9.out (by decide)), (keepF i10.out (by decide)), (keepF i11.out (by decide)), (keepF i13.out (by decide)), hL, hS, Bp, Bm, Rr⟩
    · unfold SlotStep
      intro g ac wc hn hk hr hI K' hK
      obtain ⟨x0, x3, x4, i0, i1, i2, i3, i4, i5, i6, i7, i8, i9, i10, i11, i13, hL, hS, Bp, Bm, Rr⟩ := hI
      simp only [Region.binds] at hr
      simp at hr
      replace hK := Lib.hid hK
      have y3 := i3 (by first | exact hr | exact hr.1 | exact hr.2 | exact hr.2.1 | exact hr.2.2 | exact hr.2.2.1 | exact hr.2.2.2 | simp [hr])
      have y7 := i7 (by first | exact hr | exact hr.1 | exact hr.2 | exact hr.2.1 | exact hr.2.2 | exact hr.2.2.1 | exact hr.2.2.2 | simp [hr])
      have y8 := i8 (by first | exact hr | exact hr.1 | exact hr.2 | exact hr.2.1 | exact hr.2.2 | exact hr.2.2.1 | exact hr.2.2.2 | simp [hr])
      replace i0 := Lib.hid i0
      replace i1 := Lib.hid i1
      replace i2 := Lib.hid i2
      replace i3 := Lib.hid i3
      replace i4 := Lib.hid i4
      replace i5 := Lib.hid i5
      replace i6 := Lib.hid i6
      replace i7 := Lib.hid i7
      replace i8 := Lib.hid i8
      replace i9 := Lib.hid i9
      replace i10 := Lib.hid i10
      replace i11 := Lib.hid i11
      replace i13 := Lib.hid i13
      go_simp
      refine (w_implMoved _ _ _ _ _ _ _ m _ (H.out.later hL) (H'.out.later hL) HS.out HM.out).mono ?_
      rintro e w4 ⟨rfl, hL4⟩
      rw [show mvS ⟨n, st, sd⟩ ⟨p.s.sh, p.s.cu⟩ m = NS from HNS.out, show mvOk ⟨n, st, sd⟩ ⟨p.s.sh, p.s.cu⟩ m = NO from HNO.out]
      exact hK.out _ _ ⟨(keepB x0 (by decide)), (keepB x3 (by decide)), (keepB x4 (by decide)), (keepF i0.out (by decide)), (keepF i1.out (by decide)), (keepF i2.out (by decide)), (keepF i3.out (by decide)), (keepF i4.out (by decide)), (keepF i5.out (by decide)), (keepF i6.out (by decide)), (keepF i7.out (by decide)), (keepF i8.out (by decide)), (fun _ => put_eq (by omega)), (keepF i10.out (by decide)), (keepF i11.out (by decide)), (keepF i13.out (by decide)), hL.trans hL4, Nat.le_trans hS hL4.size, hL4.keep Bp, hL4.keep Bm, (by obtain ⟨r0, r1, R1, R2⟩ := Rr; exact ⟨r0, r1, hL4.keep R1, R2⟩)⟩
    · unfold SlotStep
      intro g ac wc hn hk hr hI K' hK
      obtain ⟨x0, x3, x4, i0, i1, i2, i3, i4, i5, i6, i7, i8, i9, i10, i11, i13, hL, hS, Bp, Bm, Rr⟩ := hI
      simp only [Region.binds] at hr
      simp at hr
      replace hK := Lib.hid hK
      have y9 := i9 (by first | exact hr | exact hr.1 | exact hr.2 | exact hr.2.1 | exact hr.2.2 | exact hr.2.2.1 | exact hr.2.2.2 | simp [hr])
      replace i0 := Lib.hid i0
      replace i1 := Lib.hid i1
      replace i2 := Lib.hid i2
      replace i3 := Lib.hid i3
      replace i4 := Lib.hid i4
      replace i5 := Lib.hid i5
      replace i6 := Lib.hid i6
      replace i7 := Lib.hid i7
      replace i8 := Lib.hid i8
      replace i9 := Lib.hid i9
      replace i10 := Lib.hid i10
      replace i11 := Lib.hid i11
      replace i13 := Lib.hid i13
      go_simp
      exact hK.out _ _ ⟨(keepB x0 (by decide)), (keepB x3 (by decide)), (keepB x4 (by decide)), (keepF i0.out (by decide)), (keepF i1.out (by decide)), (keepF i2.out (by decide)), (keepF i3.out (by decide)), (keepF i4.out (by decide)), (keepF i5.out (by decide)), (keepF i6.out (by decide)), (keepF i7.out (by decide)), (keepF i8.out (by decide)), (keepF i9.out (by decide)), (fun _ => put_eq (by omega)), (keepF i11.out (by decide)), (keepF i13.out (by decide)), hL, hS, Bp, Bm, Rr⟩
    · unfold SlotStep
      intro g ac wc hn hk hr hI K' hK
      obtain ⟨x0, x3, x4, i0, i1, i2, i3, i4, i5, i6, i7, i8, i9, i10, i11, i13, hL, hS, Bp, Bm, Rr⟩ := hI
      simp only [Region.binds] at hr
      simp at hr
      replace hK := Lib.hid hK
      have y9 := i9 (by first | exact hr | exact hr.1 | exact hr.2 | exact hr.2.1 | exact hr.2.2 | exact hr.2.2.1 | exact hr.2.2.2 | simp [hr])
      replace i0 := Lib.hid i0
      replace i1 := Lib.hid i1
      replace i2 := Lib.hid i2
      replace i3 := Lib.hid i3
      replace i4 := Lib.hid i4
      replace i5 := Lib.hid i5
      replace i6 := Lib.hid i6
      replace i7 := Lib.hid i7
      replace i8 := Lib.hid i8
      replace i9 := Lib.hid i9
      replace i10 := Lib.hid i10
      replace i11 := Lib.hid i11
      replace i13 := Lib.hid i13
      go_simp
      exact hK.out _ _ ⟨(keepB x0 (by decide)), (keepB x3 (by decide)), (keepB x4 (by decide)), (keepF i0.out (by decide)), (keepF i1.out (by decide)), (keepF i2.out (by decide)), (keepF i3.out (by decide)), (keepF i4.out (by decide)), (keepF i5.out (by decide)), (keepF i6.out (by decide)), (keepF i7.out (by decide)), (keepF i8.out (by decide)), (keepF i9.out (by decide)), (keepF i10.out (by decide)), (fun _ => put_eq (by omega)), (keepF i13.out (by decide)), hL, hS, Bp, Bm, Rr⟩
    · unfold SlotStep
      intro g ac wc hn hk hr hI K' hK
      obtain ⟨x0, x3, x4, i0, i1, i2, i3, i4, i5, i6, i7, i8, i9, i10, i11, i13, hL, hS, Bp, Bm, Rr⟩ := hI
      simp only [Region.binds] at hr
      simp at hr
      replace hK := Lib.hid hK
      have y10 := i10 (by first | exact hr | exact hr.1 | exact hr.2 | exact hr.2.1 | exact hr.2.2 | exact hr.2.2.1 | exact hr.2.2.2 | simp [hr])
      replace i0 := Lib.hid i0
      replace i1 := Lib.hid i1
      replace i2 := Lib.hid i2
      replace i3 := Lib.hid i3
      replace i4 := Lib.hid i4
      replace i5 := Lib.hid i5
      replace i6 := Lib.hid i6
      replace i7 := Lib.hid i7
      replace i8 := Lib.hid i8
      replace i9 := Lib.hid i9
      replace i10 := Lib.hid i10
      replace i11 := Lib.hid i11
      replace i13 := Lib.hid i13
      obtain ⟨r0, r1, R1, -⟩ := Rr
      have c0 := (blk_at R1).1
      have f0 := (blk_at R1).2.1
      have z0 := (blk_at R1).2.2
      go_simp
      exact hK.out undef _ ⟨x0, x3, x4, i0.out, i1.out, i2.out, i3.out, i4.out, i5.out, i6.out, i7.out, i8.out, i9.out, i10.out, i11.out, i13.out, ((hL.setCell hRB _).setCell hRB _), (by simp; omega), (other_set (other_set Bp (by omega) _) (by omega) _), (other_set (other_set Bm (by omega) _) (by omega) _), ⟨_, _, two_set R1 _ _, fun _ => ⟨rfl, rfl⟩⟩⟩
    · unfold SlotStep
      intro g ac wc hn hk hr hI K' hK
      obtain ⟨x0, x3, x4, i0, i1, i2, i3, i4, i5, i6, i7, i8, i9, i10, i11, i13, hL, hS, Bp, Bm, Rr⟩ := hI
      simp only [Region.binds] at hr
      simp at hr
      replace hK := Lib.hid hK
      have y11 := i11 (by first | exact hr | exact hr.1 | exact hr.2 | exact hr.2.1 | exact hr.2.2 | exact hr.2.2.1 | exact hr.2.2.2 | simp [hr])
      replace i0 := Lib.hid i0
      replace i1 := Lib.hid i1
      replace i2 := Lib.hid i2
      replace i3 := Lib.hid i3
      replace i4 := Lib.hid i4
      replace i5 := Lib.hid i5
      replace i6 := Lib.hid i6
      replace i7 := Lib.hid i7
      replace i8 := Lib.hid i8
      replace i9 := Lib.hid i9
      replace i10 := Lib.hid i10
      replace i11 := Lib.hid i11
      replace i13 := Lib.hid i13
      go_simp
      exact hK.out _ _ ⟨(keepB x0 (by decide)), (keepB x3 (by decide)), (keepB x4 (by decide)), (keepF i0.out (by decide)), (keepF i1.out (by decide)), (keepF i2.out (by decide)), (keepF i3.out (by decide)), (keepF i4.out (by decide)), (keepF i5.out (by decide)), (keepF i6.out (by decide)), (keepF i7.out (by decide)), (keepF i8.out (by decide)), (keepF i9.out (by decide)), (keepF i10.out (by decide)), (keepF i11.out (by decide)), (fun _ => put_eq (by omega)), hL, hS, Bp, Bm, Rr⟩

end Go.Proofs.YtldojpelnghplaaGreat
