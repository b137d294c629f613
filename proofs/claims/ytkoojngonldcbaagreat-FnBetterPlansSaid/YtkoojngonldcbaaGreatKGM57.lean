/- DERIVED. Walks: the usual plan, the reference's: one move. -/
import Derived.Test.YtkoojngonldcbaaGreatKGM37
import Derived.Test.YtkoojngonldcbaaGreatKGP9
import Derived.Test.YtkoojngonldcbaaGreatKGBA
namespace Go.Proofs.YtkoojngonldcbaaGreat
set_option linter.unusedVariables false
set_option linter.unusedSimpArgs false
open Go.RowKit
set_option maxRecDepth 100000
set_option maxHeartbeats 4000000 in
theorem w_l14Do (n : Int) (au av aq : Option Addr) (capu capv lq capq : Nat) (st sd : List Int) (p : Pln) (e0 : Bool) (K d t : Int) (w : World) 
 (h : IsNums w (.slice au st.length capu) st) (h' : IsNums w (.slice av sd.length capv) sd) (hq : IsMovs w (.slice aq lq capq) p.l) (hne : p.l ≠ []) (hC : hasI st 0 = true ∧ hasI sd 0 = true) (hs : isStg p.s = true) (hm : isMove ⟨K, 0, ⟨d, t⟩⟩ = true) (hlen : p.l.length ≤ 30) :
 Calls Tryz.prog 116 #[.agg #[.int .i64 p.s.sh, .int .i64 p.s.cu, .slice aq lq capq, .bool e0], .agg #[.int .i64 n, .slice au st.length capu, .slice av sd.length capv], .int .i64 K, .agg #[.int .i64 d, .int .i64 t]] w fun e w' => 
  ∃ aq' lq' capq', e = .returned (.agg #[.int .i64 (doP p K ⟨d, t⟩ false).s.sh, .int .i64 (doP p K ⟨d, t⟩ false).s.cu, .slice aq' lq' capq', .bool false]) ∧ Later w w' ∧ w'.ownsRow w.heap.size 88 4 (.slice aq' lq' capq') (doP p K ⟨d, t⟩ false).l.length (movs (doP p K ⟨d, t⟩ false).l) := by
 have H := Lib.hid h
 have H' := Lib.hid h'
 have HS := Lib.hid hs
 have HM := Lib.hid hm
 have hm0 := mv0 (r := ⟨n, st, sd⟩) hC p.s K ⟨d, t⟩
 obtain ⟨NS, hNS⟩ : ∃ x, mvTo p.s ⟨K, 0, ⟨d, t⟩⟩ = x := ⟨_, rfl⟩
 rw [hNS] at hm0
 have HNS := Lib.hid hm0.1
 have HND := Lib.hid (show doP p K ⟨d, t⟩ false = ⟨NS, p.l ++ [⟨K, 0, ⟨d, t⟩⟩], false⟩ from by unfold doP; rw [hNS])
 have HLen := Lib.hid hlen
 have hlp : 0 < p.l.length := by cases hh : p.l with | nil => exact absurd hh hne | cons x y => simp
 obtain ⟨hq1, hq2, a0, cap0, hqe, hq4, hq5, hq6⟩ := hq
 simp only [Value.slice.injEq] at hqe
 obtain ⟨rfl, rfl, rfl⟩ := hqe
 obtain ⟨bq, offq, rfl, hrq⟩ := hq6 hlp
 have HRq := Lib.hid hrq
 clear h h' hs hm hNS hm0 hC hlen hq1 hrq hq6
 go_enter Tryz.func116, Tryz.ntmps116
 go_wp2_with fail
 refine (w_specMoved _ _ _ _ _ _ _ ⟨K, 0, ⟨d, t⟩⟩ _ (H.out.later (((((Later.refl _).alloc _).alloc _).alloc _).alloc _ |>.alloc _)) (H'.out.later (((((Later.refl _).alloc _).alloc _).alloc _).alloc _ |>.alloc _)) HS.out HM.out).mono ?_
 rintro e w1 ⟨rfl, hL⟩
 rw [show mvS ⟨n, st, sd⟩ ⟨p.s.sh, p.s.cu⟩ ⟨K, 0, ⟨d, t⟩⟩ = NS from HNS.out]
 obtain ⟨K0, K1, K2, K3, K4⟩ := kept5 hL
 have hL1 := (((((Later.refl w).alloc _).alloc _).alloc _).alloc _ |>.alloc _).trans hL
 have K4' := K4
 clear K1 K2 hL
 go_wp2_with fail
 refine wp_name ?_
 intro z hz
 have hLz : Later w1 z := by rw [hz]; exact (Later.refl _).alloc _
 have Kn : z.heap[w1.heap.size]? = some (.cells #[.int .i64 NS.sh, .int .i64 NS.cu] 78 (0, 0)) := by rw [hz]; exact heap_alloc_new _ _
 replace K0 := hLz.keep K0
 replace K3 := hLz.keep K3
 replace K4 := hLz.keep K4
 have hLw := hL1.trans hLz
 have hsz := hLw.size
 have lt4 := (Array.getElem?_eq_some_iff.1 K4).1
 have lt1 := (Array.getElem?_eq_some_iff.1 Kn).1
 have hw1 := hL1.size
 have lt5 : w.heap.size + 1 + 1 + 1 + 1 < w1.heap.size := by
  have hlt := (Array.getElem?_eq_some_iff.1 K4').1
  omega
 have hSB := hLw.size
 have hL0 := hLw
 have hRBr : w.heap.size ≤ w.heap.size + 1 + 1 + 1 := by omega
 have Kr := K3
 clear hz hL1 hLz K3
 refine region_slots 32 [23, 24, 25, 26, 27, 28, 29, 30, 31] (fun g ac wc => sl ac 4 = .pointer (some ⟨w.heap.size, 0, none⟩) ∧
  sl ac 8 = .pointer (some ⟨w.heap.size + 1 + 1 + 1, 0, none⟩) ∧
  sl ac 9 = .pointer (some ⟨w.heap.size + 1 + 1 + 1 + 1, 0, none⟩) ∧
  sl ac 10 = .pointer (some ⟨w1.heap.size, 0, none⟩) ∧
  (g 0 = true → sl ac 23 = .agg #[.int .i64 NS.sh, .int .i64 NS.cu]) ∧
  (g 2 = true → sl ac 25 = .pointer (some ⟨w.heap.size, 2, none⟩)) ∧
  (g 3 = true → sl ac 26 = .slice (some ⟨bq, offq, none⟩) p.l.length capq) ∧
  (g 5 = true → sl ac 28 = .agg #[.int .i64 K, .int .i64 0, .int .i64 d, .int .i64 t]) ∧
  (g 8 = true → sl ac 31 = .agg #[.int .i64 NS.sh, .int .i64 NS.cu, sl ac 30, .bool false]) ∧
  Later w wc ∧
  (g 1 = true → (∃ k, sl ac 24 = .slice (some ⟨k, 0, none⟩) 0 0) ∧ (g 4 = false → wc.ownsRow z.heap.size 88 4 (sl ac 24) (0) (movs []))) ∧
  (g 4 = true → (IsSl (sl ac 27) (p.l.length)) ∧ (g 7 = false → wc.ownsRow z.heap.size 88 4 (sl ac 27) (p.l.length) (movs p.l))) ∧
  (g 6 = true → (∃ k, sl ac 29 = .slice (some ⟨k, 0, none⟩) 1 1) ∧ (g 7 = false → wc.ownsRow z.heap.size 88 4 (sl ac 29) (1) (movs ([⟨K, 0, ⟨d, t⟩⟩] : List Mov)))) ∧
  (g 7 = true → (IsSl (sl ac 30) (p.l.length + 1)) ∧ wc.ownsRow z.heap.size 88 4 (sl ac 30) (p.l.length + 1) (movs (p.l ++ ([⟨K, 0, ⟨d, t⟩⟩] : List Mov)))) ∧
  (g 1 = true → g 6 = true → g 4 = false → g 7 = false → ∀ q, (sl ac 24).ownBlock = some q → (sl ac 29).ownBlock ≠ some q) ∧
  (g 4 = true → g 6 = true → g 7 = false → g 7 = false → ∀ q, (sl ac 27).ownBlock = some q → (sl ac 29).ownBlock ≠ some q) ∧
  (g 4 = true → g 1 = true) ∧
  (g 7 = true → g 4 = true) ∧
  (g 7 = true → g 6 = true) ∧
  (g 8 = true → g 7 = true) ∧
  (g 9 = true → g 7 = true) ∧
  z.heap.size ≤ wc.heap.size ∧
  wc.heap[w1.heap.size]? = some (.cells #[.int .i64 NS.sh, .int .i64 NS.cu] 78 (0, 0)) ∧
  wc.heap[w.heap.size]? = some (.cells #[.int .i64 p.s.sh, .int .i64 p.s.cu, .slice (some ⟨bq, offq, none⟩) p.l.length capq, .bool e0] 129 (0, 0)) ∧
  wc.heap[w.heap.size + 1 + 1 + 1 + 1]? = some (.cells #[.int .i64 K, .int .i64 0, .int .i64 d, .int .i64 t] 88 (0, 0)) ∧
  (∃ r_0 r_1 r_2 r_3, wc.heap[w.heap.size + 1 + 1 + 1]? = some (.cells #[r_0, r_1, r_2, r_3] 129 (0, 0)) ∧ (g 9 = true → r_0 = .int .i64 NS.sh ∧ r_1 = .int .i64 NS.cu ∧ r_2 = sl ac 30 ∧ r_3 = .bool false))) (by kernel_rfl) (by kernel_rfl) rfl (by kernel_rfl) ?_ ?_ ?_
 · exact ⟨rfl, rfl, rfl, rfl, nofun, nofun, nofun, nofun, nofun, hL0.drew, nofun, nofun, nofun, nofun, nofun, nofun, nofun, nofun, nofun, nofun, nofun, Nat.le_refl _, Kn, K0, K4, ⟨_, _, _, _, Kr, nofun⟩⟩
 · intro g ac wu hg ha hI
   obtain ⟨x4, x8, x9, x10, i0, i2, i3, i5, i8, hL, p1, p4, p6, p7, -, -, -, -, -, -, -, hS, Bn, B0, B4, Rr⟩ := hI
   obtain ⟨⟨kr1, e1⟩, -⟩ := p1 (hg 1 (by simp))
   obtain ⟨⟨ar4, capr4, e4⟩, -⟩ := p4 (hg 4 (by simp))
   obtain ⟨⟨kr6, e6⟩, -⟩ := p6 (hg 6 (by simp))
   obtain ⟨⟨ar7, capr7, e7⟩, HO7⟩ := p7 (hg 7 (by simp))
   rw [e7] at HO7
   have a0 := i0 (hg 0 (by simp))
   have a2 := i2 (hg 2 (by simp))
   have a3 := i3 (hg 3 (by simp))
   have a5 := i5 (hg 5 (by simp))
   have a8 := i8 (hg 8 (by simp))
   rw [e7] at a8
   obtain ⟨r_0, r_1, r_2, r_3, Kr, gr⟩ := Rr
   have gr := gr (hg 9 (by simp))
   rw [gr.1, gr.2.1, gr.2.2.1, gr.2.2.2] at Kr
   rw [e7] at Kr
   clear gr
   simp only [putAll, e1, e4, e6, e7, a0, a2, a3, a5, a8] at ha
   simp only [Act.put, List.setIfInBounds_toArray, List.set_cons_succ, List.set_cons_zero] at ha
   rw [ha]
   clear x4 x8 x9 x10 i0 i2 i3 i5 i8 a0 a2 a3 a5 a8 p1 p4 p6 p7 e1 e4 e6 e7 hg ha
   have c0 := (blk_at Kr).1
   have z0 := (blk_at Kr).2.2
   go_wp2
   refine bodyPost_ret (v := .agg #[.int .i64 NS.sh, .int .i64 NS.cu, .slice ar7 (p.l.length + 1) capr7, .bool false]) (by simp [results, Tryz.results116, go_sem, c0, z0]) rfl ⟨ar7, _, capr7, by rw [HND.out], hL, ?_⟩
   rw [HND.out]
   show World.ownsRow _ w.heap.size 88 4 _ (p.l ++ ([⟨K, 0, ⟨d, t⟩⟩] : List Mov)).length (movs (p.l ++ ([⟨K, 0, ⟨d, t⟩⟩] : List Mov)))
   rw [show (p.l ++ ([⟨K, 0, ⟨d, t⟩⟩] : List Mov)).length = p.l.length + 1 from by simp]
   exact owns_base HO7 hSB
 · refine .cons ?_ (.cons ?_ (.cons ?_ (.cons ?_ (.cons ?_ (.cons ?_ (.cons ?_ (.cons ?_ (.cons ?_ (.cons ?_ .nil)))))))))
   · refine qst fun g ac wc hn hk hr HI K' hK => ?_
     obtain ⟨x4, x8, x9, x10, i0, i2, i3, i5, i8, hL, p1, p4, p6, p7, d1_6, d4_6, m4_1, m7_4, m7_6, m8_7, m9_7, hS, Bn, B0, B4, Rr⟩ := HI.out
     simp [Region.binds] at hr
     clear i0 i2 i3 i5 i8 d1_6 d4_6 p1 p4 p6 p7
     obtain ⟨c0, f0, z0⟩ := blk_at Bn
     go_simp
     obtain ⟨-, -, -, -, i0, i2, i3, i5, i8, -, p1, p4, p6, p7, d1_6, d4_6, -⟩ := HI.out
     exact hK.out _ _ ⟨qB x4, qB x8, qB x9, qB x10, qP, qF i2, qF i3, qF i5, (fun h => by rw [put_ne (show 31 ≠ 23 by decide), put_ne (show 30 ≠ 23 by decide)]; exact i8 h), hL, (fun h => by obtain ⟨hs, ho⟩ := p1 h; exact ⟨(by rw [put_ne (show 24 ≠ 23 by decide)]; exact hs), fun ht => by have ho := ho ht; exact (by rw [put_ne (show 24 ≠ 23 by decide)]; exact ho)⟩), (fun h => by obtain ⟨hs, ho⟩ := p4 h; exact ⟨(by rw [put_ne (show 27 ≠ 23 by decide)]; exact hs), fun ht => by have ho := ho ht; exact (by rw [put_ne (show 27 ≠ 23 by decide)]; exact ho)⟩), (fun h => by obtain ⟨hs, ho⟩ := p6 h; exact ⟨(by rw [put_ne (show 29 ≠ 23 by decide)]; exact hs), fun ht => by have ho := ho ht; exact (by rw [put_ne (show 29 ≠ 23 by decide)]; exact ho)⟩), (fun h => by obtain ⟨hs, ho⟩ := p7 h; exact ⟨(by rw [put_ne (show 30 ≠ 23 by decide)]; exact hs), (by rw [put_ne (show 30 ≠ 23 by decide)]; exact ho)⟩), (fun h h' ht ht' => by rw [put_ne (show 24 ≠ 23 by decide), put_ne (show 29 ≠ 23 by decide)]; exact d1_6 h h' ht ht' ), (fun h h' ht ht' => by rw [put_ne (show 27 ≠ 23 by decide), put_ne (show 29 ≠ 23 by decide)]; exact d4_6 h h' ht ht' ), m4_1, m7_4, m7_6, m8_7, m9_7, hS, Bn, B0, B4, (by obtain ⟨r_0, r_1, r_2, r_3, R1, R2⟩ := Rr; exact ⟨r_0, r_1, r_2, r_3, R1, (fun h => by rw [put_ne (by decide)]; exact R2 h)⟩)⟩
   · refine qst fun g ac wc hn hk hr HI K' hK => ?_
     obtain ⟨x4, x8, x9, x10, i0, i2, i3, i5, i8, hL, p1, p4, p6, p7, d1_6, d4_6, m4_1, m7_4, m7_6, m8_7, m9_7, hS, Bn, B0, B4, Rr⟩ := HI.out
     simp [Region.binds] at hr
     clear i0 i2 i3 i5 i8 d1_6 d4_6 p1 p4 p6 p7
     go_simp
     have hL4 := (Later.refl wc).alloc (.cells #[] 88)
     obtain ⟨-, -, -, -, i0, i2, i3, i5, i8, -, p1, p4, p6, p7, d1_6, d4_6, -⟩ := HI.out
     exact hK.out _ _ ⟨qB x4, qB x8, qB x9, qB x10, qF i0, qF i2, qF i3, qF i5, (fun h => by rw [put_ne (show 31 ≠ 24 by decide), put_ne (show 30 ≠ 24 by decide)]; exact i8 h), hL.alloc _, (fun _ => ⟨⟨wc.heap.size, put_eq (by omega)⟩, fun _ => by rw [put_eq (by omega)]; exact own_empty hS _ _⟩), (fun h => by obtain ⟨hs, ho⟩ := p4 h; exact ⟨(by rw [put_ne (show 27 ≠ 24 by decide)]; exact hs), fun ht => by have ho := ho ht; exact (by rw [put_ne (show 27 ≠ 24 by decide)]; exact (owns_later ho hL4))⟩), (fun h => by obtain ⟨hs, ho⟩ := p6 h; exact ⟨(by rw [put_ne (show 29 ≠ 24 by decide)]; exact hs), fun ht => by have ho := ho ht; exact (by rw [put_ne (show 29 ≠ 24 by decide)]; exact (owns_later ho hL4))⟩), (fun h => by obtain ⟨hs, ho⟩ := p7 h; exact ⟨(by rw [put_ne (show 30 ≠ 24 by decide)]; exact hs), (by rw [put_ne (show 30 ≠ 24 by decide)]; exact (owns_later ho hL4))⟩), (fun h h' ht ht' q hq => by rw [put_eq (by omega)] at hq; rw [put_ne (show 29 ≠ 24 by decide)]; have ho := (p6 h').2 ht'; intro e; have := ho.lt q e; simp [Value.ownBlock] at hq; omega), (fun h h' ht ht' => by rw [put_ne (show 27 ≠ 24 by decide), put_ne (show 29 ≠ 24 by decide)]; exact d4_6 h h' ht ht' ), (fun _ => rfl), m7_4, m7_6, m8_7, m9_7, (by simp; omega), (hL4.keep Bn), (hL4.keep B0), (hL4.keep B4), (by obtain ⟨r_0, r_1, r_2, r_3, R1, R2⟩ := Rr; exact ⟨r_0, r_1, r_2, r_3, hL4.keep R1, (fun h => by rw [put_ne (by decide)]; exact R2 h)⟩)⟩
   · refine qst fun g ac wc hn hk hr HI K' hK => ?_
     obtain ⟨x4, x8, x9, x10, i0, i2, i3, i5, i8, hL, p1, p4, p6, p7, d1_6, d4_6, m4_1, m7_4, m7_6, m8_7, m9_7, hS, Bn, B0, B4, Rr⟩ := HI.out
     simp [Region.binds] at hr
     clear i0 i2 i3 i5 i8 d1_6 d4_6 p1 p4 p6 p7
     go_simp
     obtain ⟨-, -, -, -, i0, i2, i3, i5, i8, -, p1, p4, p6, p7, d1_6, d4_6, -⟩ := HI.out
     exact hK.out _ _ ⟨qB x4, qB x8, qB x9, qB x10, qF i0, qP, qF i3, qF i5, (fun h => by rw [put_ne (show 31 ≠ 25 by decide), put_ne (show 30 ≠ 25 by decide)]; exact i8 h), hL, (fun h => by obtain ⟨hs, ho⟩ := p1 h; exact ⟨(by rw [put_ne (show 24 ≠ 25 by decide)]; exact hs), fun ht => by have ho := ho ht; exact (by rw [put_ne (show 24 ≠ 25 by decide)]; exact ho)⟩), (fun h => by obtain ⟨hs, ho⟩ := p4 h; exact ⟨(by rw [put_ne (show 27 ≠ 25 by decide)]; exact hs), fun ht => by have ho := ho ht; exact (by rw [put_ne (show 27 ≠ 25 by decide)]; exact ho)⟩), (fun h => by obtain ⟨hs, ho⟩ := p6 h; exact ⟨(by rw [put_ne (show 29 ≠ 25 by decide)]; exact hs), fun ht => by have ho := ho ht; exact (by rw [put_ne (show 29 ≠ 25 by decide)]; exact ho)⟩), (fun h => by obtain ⟨hs, ho⟩ := p7 h; exact ⟨(by rw [put_ne (show 30 ≠ 25 by decide)]; exact hs), (by rw [put_ne (show 30 ≠ 25 by decide)]; exact ho)⟩), (fun h h' ht ht' => by rw [put_ne (show 24 ≠ 25 by decide), put_ne (show 29 ≠ 25 by decide)]; exact d1_6 h h' ht ht' ), (fun h h' ht ht' => by rw [put_ne (show 27 ≠ 25 by decide), put_ne (show 29 ≠ 25 by decide)]; exact d4_6 h h' ht ht' ), m4_1, m7_4, m7_6, m8_7, m9_7, hS, Bn, B0, B4, (by obtain ⟨r_0, r_1, r_2, r_3, R1, R2⟩ := Rr; exact ⟨r_0, r_1, r_2, r_3, R1, (fun h => by rw [put_ne (by decide)]; exact R2 h)⟩)⟩
   · refine qst fun g ac wc hn hk hr HI K' hK => ?_
     obtain ⟨x4, x8, x9, x10, i0, i2, i3, i5, i8, hL, p1, p4, p6, p7, d1_6, d4_6, m4_1, m7_4, m7_6, m8_7, m9_7, hS, Bn, B0, B4, Rr⟩ := HI.out
     simp [Region.binds] at hr
     have y2 := i2 (by simp [hr])
     clear i0 i2 i3 i5 i8 d1_6 d4_6 p1 p4 p6 p7
     obtain ⟨c0, f0, z0⟩ := blk_at B0
     go_simp
     obtain ⟨-, -, -, -, i0, i2, i3, i5, i8, -, p1, p4, p6, p7, d1_6, d4_6, -⟩ := HI.out
     exact hK.out _ _ ⟨qB x4, qB x8, qB x9, qB x10, qF i0, qF i2, qP, qF i5, (fun h => by rw [put_ne (show 31 ≠ 26 by decide), put_ne (show 30 ≠ 26 by decide)]; exact i8 h), hL, (fun h => by obtain ⟨hs, ho⟩ := p1 h; exact ⟨(by rw [put_ne (show 24 ≠ 26 by decide)]; exact hs), fun ht => by have ho := ho ht; exact (by rw [put_ne (show 24 ≠ 26 by decide)]; exact ho)⟩), (fun h => by obtain ⟨hs, ho⟩ := p4 h; exact ⟨(by rw [put_ne (show 27 ≠ 26 by decide)]; exact hs), fun ht => by have ho := ho ht; exact (by rw [put_ne (show 27 ≠ 26 by decide)]; exact ho)⟩), (fun h => by obtain ⟨hs, ho⟩ := p6 h; exact ⟨(by rw [put_ne (show 29 ≠ 26 by decide)]; exact hs), fun ht => by have ho := ho ht; exact (by rw [put_ne (show 29 ≠ 26 by decide)]; exact ho)⟩), (fun h => by obtain ⟨hs, ho⟩ := p7 h; exact ⟨(by rw [put_ne (show 30 ≠ 26 by decide)]; exact hs), (by rw [put_ne (show 30 ≠ 26 by decide)]; exact ho)⟩), (fun h h' ht ht' => by rw [put_ne (show 24 ≠ 26 by decide), put_ne (show 29 ≠ 26 by decide)]; exact d1_6 h h' ht ht' ), (fun h h' ht ht' => by rw [put_ne (show 27 ≠ 26 by decide), put_ne (show 29 ≠ 26 by decide)]; exact d4_6 h h' ht ht' ), m4_1, m7_4, m7_6, m8_7, m9_7, hS, Bn, B0, B4, (by obtain ⟨r_0, r_1, r_2, r_3, R1, R2⟩ := Rr; exact ⟨r_0, r_1, r_2, r_3, R1, (fun h => by rw [put_ne (by decide)]; exact R2 h)⟩)⟩
   · refine qst fun g ac wc hn hk hr HI K' hK => ?_
     obtain ⟨x4, x8, x9, x10, i0, i2, i3, i5, i8, hL, p1, p4, p6, p7, d1_6, d4_6, m4_1, m7_4, m7_6, m8_7, m9_7, hS, Bn, B0, B4, Rr⟩ := HI.out
     simp [Region.binds] at hr
     replace i0 := Lib.hid i0
     replace i2 := Lib.hid i2
     replace i3 := Lib.hid i3
     replace i5 := Lib.hid i5
     replace i8 := Lib.hid i8
     replace d1_6 := Lib.hid d1_6
     replace d4_6 := Lib.hid d4_6
     replace p1 := Lib.hid p1
     replace p4 := Lib.hid p4
     replace p6 := Lib.hid p6
     replace p7 := Lib.hid p7
     have gA : g 1 = true := (by simp [hr])
     obtain ⟨hsA, hoA⟩ := p1.out gA
     have hoA := hoA hk
     have y3 := i3.out (by simp [hr])
     refine wpA_Move (.tmp 24) (.tmp 26) rfl z.heap.size (sl ac 24) ([] : List Mov) rfl hoA ⟨bq, offq, none⟩ p.l.length capq p.l y3 rfl (HRq.out.later hL).add (by have := HLen.out; simp; omega) hS ?_
     intro v4 w4 ho4 hg4 hat4
     rw [List.nil_append] at ho4
     have hL4 : Below z.heap.size wc w4 := Below.grown (Below.refl _ _) hg4 hS (fun k e => (hoA.lt k e).1)
     exact hK.out _ _ ⟨qB x4, qB x8, qB x9, qB x10, qF i0.out, qF i2.out, qF i3.out, qF i5.out, (fun h => by rw [put_ne (show 31 ≠ 27 by decide), put_ne (show 30 ≠ 27 by decide)]; exact i8.out h), Below.trans hL (hL4.mono hSB), (fun h => by obtain ⟨hs, ho⟩ := p1.out h; exact ⟨(by rw [put_ne (show 24 ≠ 27 by decide)]; exact hs), fun h => absurd h (by simp)⟩), (fun _ => ⟨by rw [put_eq (by omega)]; exact isSl_of ho4, fun _ => by rw [put_eq (by omega)]; exact ho4⟩), (fun h => by obtain ⟨hs, ho⟩ := p6.out h; exact ⟨(by rw [put_ne (show 29 ≠ 27 by decide)]; exact hs), fun ht => by have ho := ho ht; have NE6 : ∀ k, (sl ac 29).ownBlock = some k → (sl ac 24).ownBlock ≠ some k := fun k e1 e2 => d1_6.out gA h hk ht k e2 e1; exact (by rw [put_ne (show 29 ≠ 27 by decide)]; exact (rows_grown ho hg4 NE6))⟩), (fun h => absurd (m7_4 h) (by rw [hk]; simp)), (fun h h' ht => absurd ht (by simp)), (fun h h' ht ht' q hq => by rw [put_eq (by omega)] at hq; rw [put_ne (show 29 ≠ 27 by decide)]; have ho := (p6.out h').2 ht'; intro e; rcases hat4 q hq with e2 | e2; (· exact d1_6.out gA h' hk ht' q e2 e); (· have := ho.lt q e; omega)), (fun _ => gA), (fun _ => rfl), m7_6, m8_7, m9_7, Nat.le_trans hS hL4.size, ((hL4.block _ (by omega)).trans Bn), ((hL4.block _ (by omega)).trans B0), ((hL4.block _ (by omega)).trans B4), (by obtain ⟨r_0, r_1, r_2, r_3, R1, R2⟩ := Rr; exact ⟨r_0, r_1, r_2, r_3, (hL4.block _ (by omega)).trans R1, (fun h => by rw [put_ne (by decide)]; exact R2 h)⟩)⟩
   · refine qst fun g ac wc hn hk hr HI K' hK => ?_
     obtain ⟨x4, x8, x9, x10, i0, i2, i3, i5, i8, hL, p1, p4, p6, p7, d1_6, d4_6, m4_1, m7_4, m7_6, m8_7, m9_7, hS, Bn, B0, B4, Rr⟩ := HI.out
     simp [Region.binds] at hr
     clear i0 i2 i3 i5 i8 d1_6 d4_6 p1 p4 p6 p7
     obtain ⟨c0, f0, z0⟩ := blk_at B4
     go_simp
     obtain ⟨-, -, -, -, i0, i2, i3, i5, i8, -, p1, p4, p6, p7, d1_6, d4_6, -⟩ := HI.out
     exact hK.out _ _ ⟨qB x4, qB x8, qB x9, qB x10, qF i0, qF i2, qF i3, qP, (fun h => by rw [put_ne (show 31 ≠ 28 by decide), put_ne (show 30 ≠ 28 by decide)]; exact i8 h), hL, (fun h => by obtain ⟨hs, ho⟩ := p1 h; exact ⟨(by rw [put_ne (show 24 ≠ 28 by decide)]; exact hs), fun ht => by have ho := ho ht; exact (by rw [put_ne (show 24 ≠ 28 by decide)]; exact ho)⟩), (fun h => by obtain ⟨hs, ho⟩ := p4 h; exact ⟨(by rw [put_ne (show 27 ≠ 28 by decide)]; exact hs), fun ht => by have ho := ho ht; exact (by rw [put_ne (show 27 ≠ 28 by decide)]; exact ho)⟩), (fun h => by obtain ⟨hs, ho⟩ := p6 h; exact ⟨(by rw [put_ne (show 29 ≠ 28 by decide)]; exact hs), fun ht => by have ho := ho ht; exact (by rw [put_ne (show 29 ≠ 28 by decide)]; exact ho)⟩), (fun h => by obtain ⟨hs, ho⟩ := p7 h; exact ⟨(by rw [put_ne (show 30 ≠ 28 by decide)]; exact hs), (by rw [put_ne (show 30 ≠ 28 by decide)]; exact ho)⟩), (fun h h' ht ht' => by rw [put_ne (show 24 ≠ 28 by decide), put_ne (show 29 ≠ 28 by decide)]; exact d1_6 h h' ht ht' ), (fun h h' ht ht' => by rw [put_ne (show 27 ≠ 28 by decide), put_ne (show 29 ≠ 28 by decide)]; exact d4_6 h h' ht ht' ), m4_1, m7_4, m7_6, m8_7, m9_7, hS, Bn, B0, B4, (by obtain ⟨r_0, r_1, r_2, r_3, R1, R2⟩ := Rr; exact ⟨r_0, r_1, r_2, r_3, R1, (fun h => by rw [put_ne (by decide)]; exact R2 h)⟩)⟩
   · refine qst fun g ac wc hn hk hr HI K' hK => ?_
     obtain ⟨x4, x8, x9, x10, i0, i2, i3, i5, i8, hL, p1, p4, p6, p7, d1_6, d4_6, m4_1, m7_4, m7_6, m8_7, m9_7, hS, Bn, B0, B4, Rr⟩ := HI.out
     simp [Region.binds] at hr
     have y5 := i5 (by simp [hr])
     have z5 := sl_get y5 (by omega)
     clear i0 i2 i3 i5 i8 d1_6 d4_6 p1 p4 p6 p7
     go_simp
     have hL4 := (Later.refl wc).alloc (.cells #[.int .i64 K, .int .i64 0, .int .i64 d, .int .i64 t] 88)
     obtain ⟨-, -, -, -, i0, i2, i3, i5, i8, -, p1, p4, p6, p7, d1_6, d4_6, -⟩ := HI.out
     exact hK.out _ _ ⟨qB x4, qB x8, qB x9, qB x10, qF i0, qF i2, qF i3, qF i5, (fun h => by rw [put_ne (show 31 ≠ 29 by decide), put_ne (show 30 ≠ 29 by decide)]; exact i8 h), hL.alloc _, (fun h => by obtain ⟨hs, ho⟩ := p1 h; exact ⟨(by rw [put_ne (show 24 ≠ 29 by decide)]; exact hs), fun ht => by have ho := ho ht; exact (by rw [put_ne (show 24 ≠ 29 by decide)]; exact (owns_later ho hL4))⟩), (fun h => by obtain ⟨hs, ho⟩ := p4 h; exact ⟨(by rw [put_ne (show 27 ≠ 29 by decide)]; exact hs), fun ht => by have ho := ho ht; exact (by rw [put_ne (show 27 ≠ 29 by decide)]; exact (owns_later ho hL4))⟩), (fun _ => ⟨⟨wc.heap.size, put_eq (by omega)⟩, fun _ => by rw [put_eq (by omega)]; exact World.ownsRow_lit wc #[.int .i64 K, .int .i64 0, .int .i64 d, .int .i64 t] 1 hS (by decide) (by simp)⟩), (fun h => by obtain ⟨hs, ho⟩ := p7 h; exact ⟨(by rw [put_ne (show 30 ≠ 29 by decide)]; exact hs), (by rw [put_ne (show 30 ≠ 29 by decide)]; exact (owns_later ho hL4))⟩), (fun h h' ht ht' q hq => by rw [put_ne (show 24 ≠ 29 by decide)] at hq; rw [put_eq (by omega)]; have ho := (p1 h).2 ht; have := ho.lt q hq; simp [Value.ownBlock]; omega), (fun h h' ht ht' q hq => by rw [put_ne (show 27 ≠ 29 by decide)] at hq; rw [put_eq (by omega)]; have ho := (p4 h).2 ht; have := ho.lt q hq; simp [Value.ownBlock]; omega), m4_1, m7_4, (fun _ => rfl), m8_7, m9_7, (by simp; omega), (hL4.keep Bn), (hL4.keep B0), (hL4.keep B4), (by obtain ⟨r_0, r_1, r_2, r_3, R1, R2⟩ := Rr; exact ⟨r_0, r_1, r_2, r_3, hL4.keep R1, (fun h => by rw [put_ne (by decide)]; exact R2 h)⟩)⟩
   · refine qst fun g ac wc hn hk hr HI K' hK => ?_
     obtain ⟨x4, x8, x9, x10, i0, i2, i3, i5, i8, hL, p1, p4, p6, p7, d1_6, d4_6, m4_1, m7_4, m7_6, m8_7, m9_7, hS, Bn, B0, B4, Rr⟩ := HI.out
     simp [Region.binds] at hr
     replace i0 := Lib.hid i0
     replace i2 := Lib.hid i2
     replace i3 := Lib.hid i3
     replace i5 := Lib.hid i5
     replace i8 := Lib.hid i8
     replace d1_6 := Lib.hid d1_6
     replace d4_6 := Lib.hid d4_6
     replace p1 := Lib.hid p1
     replace p4 := Lib.hid p4
     replace p6 := Lib.hid p6
     replace p7 := Lib.hid p7
     have gA : g 4 = true := (by simp [hr])
     obtain ⟨hsA, hoA⟩ := p4.out gA
     have hoA := hoA hk
     have gX : g 6 = true := (by simp [hr])
     obtain ⟨⟨kx, ex⟩, hoX⟩ := p6.out gX
     have hoX := hoX hk
     rw [ex] at hoX
     refine wpA_Move (.tmp 27) (.tmp 29) rfl z.heap.size (sl ac 27) p.l rfl hoA ⟨kx, 0, none⟩ 1 1 ([⟨K, 0, ⟨d, t⟩⟩] : List Mov) ex rfl (row_add hoX) (by have := HLen.out; simp; omega) hS ?_
     intro v4 w4 ho4 hg4 hat4
     rw [show (p.l ++ ([⟨K, 0, ⟨d, t⟩⟩] : List Mov)).length = p.l.length + 1 from by simp] at ho4
     have hL4 : Below z.heap.size wc w4 := Below.grown (Below.refl _ _) hg4 hS (fun k e => (hoA.lt k e).1)
     exact hK.out _ _ ⟨qB x4, qB x8, qB x9, qB x10, qF i0.out, qF i2.out, qF i3.out, qF i5.out, (fun h => absurd (m8_7 h) (by rw [hk]; simp)), Below.trans hL (hL4.mono hSB), (fun h => by obtain ⟨hs, ho⟩ := p1.out h; exact ⟨(by rw [put_ne (show 24 ≠ 30 by decide)]; exact hs), fun ht => absurd gA (by rw [show g 4 = false from ht]; simp)⟩), (fun h => by obtain ⟨hs, ho⟩ := p4.out h; exact ⟨(by rw [put_ne (show 27 ≠ 30 by decide)]; exact hs), fun h => absurd h (by simp)⟩), (fun h => by obtain ⟨hs, ho⟩ := p6.out h; exact ⟨(by rw [put_ne (show 29 ≠ 30 by decide)]; exact hs), fun h => absurd h (by simp)⟩), (fun _ => ⟨by rw [put_eq (by omega)]; exact isSl_of ho4, by rw [put_eq (by omega)]; exact ho4⟩), (fun h h' ht ht' => absurd ht' (by simp)), (fun h h' ht => absurd ht (by simp)), m4_1, (fun _ => gA), (fun _ => gX), (fun _ => rfl), (fun _ => rfl), Nat.le_trans hS hL4.size, ((hL4.block _ (by omega)).trans Bn), ((hL4.block _ (by omega)).trans B0), ((hL4.block _ (by omega)).trans B4), (by obtain ⟨r_0, r_1, r_2, r_3, R1, R2⟩ := Rr; exact ⟨r_0, r_1, r_2, r_3, (hL4.block _ (by omega)).trans R1, (fun h => absurd (m9_7 h) (by rw [hk]; simp))⟩)⟩
   · refine qst fun g ac wc hn hk hr HI K' hK => ?_
     obtain ⟨x4, x8, x9, x10, i0, i2, i3, i5, i8, hL, p1, p4, p6, p7, d1_6, d4_6, m4_1, m7_4, m7_6, m8_7, m9_7, hS, Bn, B0, B4, Rr⟩ := HI.out
     simp [Region.binds] at hr
     have y0 := i0 (by simp [hr])
     have gm7 : g 7 = true := by first | exact m8_7 (by simp [hr]) | exact hr | exact hr.1 | exact hr.2 | exact hr.2.1 | simp [hr]
     obtain ⟨⟨aa7, cc7, y7⟩, -⟩ := p7 (by simp [hr])
     have z7 := sl_get y7 (by omega)
     have z0 := sl_get y0 (by omega)
     clear i0 i2 i3 i5 i8 d1_6 d4_6 p1 p4 p6 p7
     go_simp
     obtain ⟨-, -, -, -, i0, i2, i3, i5, i8, -, p1, p4, p6, p7, d1_6, d4_6, -⟩ := HI.out
     exact hK.out _ _ ⟨qB x4, qB x8, qB x9, qB x10, qF i0, qF i2, qF i3, qF i5, (fun _ => by rw [put_ne (show 30 ≠ 31 by decide), y7]; exact put_eq (a := ac) (i := 31) (by omega)), hL, (fun h => by obtain ⟨hs, ho⟩ := p1 h; exact ⟨(by rw [put_ne (show 24 ≠ 31 by decide)]; exact hs), fun ht => by have ho := ho ht; exact (by rw [put_ne (show 24 ≠ 31 by decide)]; exact ho)⟩), (fun h => by obtain ⟨hs, ho⟩ := p4 h; exact ⟨(by rw [put_ne (show 27 ≠ 31 by decide)]; exact hs), fun ht => by have ho := ho ht; exact (by rw [put_ne (show 27 ≠ 31 by decide)]; exact ho)⟩), (fun h => by obtain ⟨hs, ho⟩ := p6 h; exact ⟨(by rw [put_ne (show 29 ≠ 31 by decide)]; exact hs), fun ht => by have ho := ho ht; exact (by rw [put_ne (show 29 ≠ 31 by decide)]; exact ho)⟩), (fun h => by obtain ⟨hs, ho⟩ := p7 h; exact ⟨(by rw [put_ne (show 30 ≠ 31 by decide)]; exact hs), (by rw [put_ne (show 30 ≠ 31 by decide)]; exact ho)⟩), (fun h h' ht ht' => by rw [put_ne (show 24 ≠ 31 by decide), put_ne (show 29 ≠ 31 by decide)]; exact d1_6 h h' ht ht' ), (fun h h' ht ht' => by rw [put_ne (show 27 ≠ 31 by decide), put_ne (show 29 ≠ 31 by decide)]; exact d4_6 h h' ht ht' ), m4_1, m7_4, m7_6, (fun _ => gm7), m9_7, hS, Bn, B0, B4, (by obtain ⟨r_0, r_1, r_2, r_3, R1, R2⟩ := Rr; exact ⟨r_0, r_1, r_2, r_3, R1, (fun h => by rw [put_ne (by decide)]; exact R2 h)⟩)⟩
   · refine qst fun g ac wc hn hk hr HI K' hK => ?_
     obtain ⟨x4, x8, x9, x10, i0, i2, i3, i5, i8, hL, p1, p4, p6, p7, d1_6, d4_6, m4_1, m7_4, m7_6, m8_7, m9_7, hS, Bn, B0, B4, Rr⟩ := HI.out
     simp [Region.binds] at hr
     have y8 := i8 (by simp [hr])
     have gm7 : g 7 = true := by first | exact m9_7 (by simp [hr]) | exact hr | exact hr.1 | exact hr.2 | exact hr.2.1 | simp [hr]
     replace i0 := Lib.hid i0
     replace i2 := Lib.hid i2
     replace i3 := Lib.hid i3
     replace i5 := Lib.hid i5
     replace i8 := Lib.hid i8
     replace d1_6 := Lib.hid d1_6
     replace d4_6 := Lib.hid d4_6
     replace p1 := Lib.hid p1
     replace p4 := Lib.hid p4
     replace p6 := Lib.hid p6
     replace p7 := Lib.hid p7
     obtain ⟨r_0, r_1, r_2, r_3, R1, -⟩ := Rr
     obtain ⟨c0, f0, z0⟩ := blk_at R1
     obtain ⟨⟨aa, cc, yy7⟩, -⟩ := p7.out gm7
     rw [yy7] at y8
     have z8 := sl_get y8 (by omega)
     go_simp
     exact hK.out undef _ ⟨x4, x8, x9, x10, i0.out, i2.out, i3.out, i5.out, i8.out, ((((hL.setCell hRBr _).setCell hRBr _).setCell hRBr _).setCell hRBr _), (fun h => by obtain ⟨hs, ho⟩ := p1.out h; exact ⟨hs, fun ht => by have ho := ho ht; exact (owns_set (owns_set (owns_set (owns_set ho (by omega) _ _) (by omega) _ _) (by omega) _ _) (by omega) _ _)⟩), (fun h => by obtain ⟨hs, ho⟩ := p4.out h; exact ⟨hs, fun ht => absurd gm7 (by rw [show g 7 = false from ht]; simp)⟩), (fun h => by obtain ⟨hs, ho⟩ := p6.out h; exact ⟨hs, fun ht => absurd gm7 (by rw [show g 7 = false from ht]; simp)⟩), (fun h => by obtain ⟨hs, ho⟩ := p7.out h; exact ⟨hs, (owns_set (owns_set (owns_set (owns_set ho (by omega) _ _) (by omega) _ _) (by omega) _ _) (by omega) _ _)⟩), d1_6.out, d4_6.out, m4_1, m7_4, m7_6, m8_7, (fun _ => gm7), (by simp; omega), (other_set (other_set (other_set (other_set Bn (by omega) _) (by omega) _) (by omega) _) (by omega) _), (other_set (other_set (other_set (other_set B0 (by omega) _) (by omega) _) (by omega) _) (by omega) _), (other_set (other_set (other_set (other_set B4 (by omega) _) (by omega) _) (by omega) _) (by omega) _), ⟨_, _, _, _, four_set R1 _ _ _ _, fun _ => ⟨rfl, rfl, yy7.symm, rfl⟩⟩⟩
set_option maxHeartbeats 4000000 in
theorem w_l14Do0 (n : Int) (au av : Option Addr) (capu capv : Nat) (st sd : List Int) (K d t : Int) (w : World) 
 (h : IsNums w (.slice au st.length capu) st) (h' : IsNums w (.slice av sd.length capv) sd) (hC : hasI st 0 = true ∧ hasI sd 0 = true) (hm : isMove ⟨K, 0, ⟨d, t⟩⟩ = true) :
 Calls Tryz.prog 116 #[.agg #[.int .i64 0, .int .i64 0, .slice none 0 0, .bool false], .agg #[.int .i64 n, .slice au st.length capu, .slice av sd.length capv], .int .i64 K, .agg #[.int .i64 d, .int .i64 t]] w fun e w' => 
  ∃ aq' lq' capq', e = .returned (.agg #[.int .i64 (doP ⟨⟨0, 0⟩, [], false⟩ K ⟨d, t⟩ false).s.sh, .int .i64 (doP ⟨⟨0, 0⟩, [], false⟩ K ⟨d, t⟩ false).s.cu, .slice aq' lq' capq', .bool false]) ∧ Later w w' ∧ w'.ownsRow w.heap.size 88 4 (.slice aq' lq' capq') (doP ⟨⟨0, 0⟩, [], false⟩ K ⟨d, t⟩ false).l.length (movs (doP ⟨⟨0, 0⟩, [], false⟩ K ⟨d, t⟩ false).l) := by
 have H := Lib.hid h
 have H' := Lib.hid h'
 have HS := Lib.hid (show isStg ⟨0, 0⟩ = true from by decide)
 have HM := Lib.hid hm
 have hm0 := mv0 (r := ⟨n, st, sd⟩) hC ⟨0, 0⟩ K ⟨d, t⟩
 obtain ⟨NS, hNS⟩ : ∃ x, mvTo ⟨0, 0⟩ ⟨K, 0, ⟨d, t⟩⟩ = x := ⟨_, rfl⟩
 rw [hNS] at hm0
 have HNS := Lib.hid hm0.1
 have HND := Lib.hid (show doP ⟨⟨0, 0⟩, [], false⟩ K ⟨d, t⟩ false = ⟨NS, [⟨K, 0, ⟨d, t⟩⟩], false⟩ from by unfold doP; rw [hNS]; rfl)
 clear h h' hm hNS hm0 hC
 go_enter Tryz.func116, Tryz.ntmps116
 go_wp2_with fail
 refine (w_specMoved _ _ _ _ _ _ _ ⟨K, 0, ⟨d, t⟩⟩ _ (H.out.later (((((Later.refl _).alloc _).alloc _).alloc _).alloc _ |>.alloc _)) (H'.out.later (((((Later.refl _).alloc _).alloc _).alloc _).alloc _ |>.alloc _)) HS.out HM.out).mono ?_
 rintro e w1 ⟨rfl, hL⟩
 rw [show mvS ⟨n, st, sd⟩ ⟨0, 0⟩ ⟨K, 0, ⟨d, t⟩⟩ = NS from HNS.out]
 obtain ⟨K0, K1, K2, K3, K4⟩ := kept5 hL
 have hL1 := (((((Later.refl w).alloc _).alloc _).alloc _).alloc _ |>.alloc _).trans hL
 have K4' := K4
 clear K1 K2 hL
 go_wp2_with fail
 refine wp_name ?_
 intro z hz
 have hLz : Later w1 z := by rw [hz]; exact (Later.refl _).alloc _
 have Kn : z.heap[w1.heap.size]? = some (.cells #[.int .i64 NS.sh, .int .i64 NS.cu] 78 (0, 0)) := by rw [hz]; exact heap_alloc_new _ _
 replace K0 := hLz.keep K0
 replace K3 := hLz.keep K3
 replace K4 := hLz.keep K4
 have hLw := hL1.trans hLz
 have hsz := hLw.size
 have lt4 := (Array.getElem?_eq_some_iff.1 K4).1
 have lt1 := (Array.getElem?_eq_some_iff.1 Kn).1
 have hw1 := hL1.size
 have lt5 : w.heap.size + 1 + 1 + 1 + 1 < w1.heap.size := by
  have hlt := (Array.getElem?_eq_some_iff.1 K4').1
  omega
 have hSB := hLw.size
 have hL0 := hLw
 have hRBr : w.heap.size ≤ w.heap.size + 1 + 1 + 1 := by omega
 have Kr := K3
 clear hz hL1 hLz K3
 refine region_slots 32 [23, 24, 25, 26, 27, 28, 29, 30, 31] (fun g ac wc => sl ac 4 = .pointer (some ⟨w.heap.size, 0, none⟩) ∧
  sl ac 8 = .pointer (some ⟨w.heap.size + 1 + 1 + 1, 0, none⟩) ∧
  sl ac 9 = .pointer (some ⟨w.heap.size + 1 + 1 + 1 + 1, 0, none⟩) ∧
  sl ac 10 = .pointer (some ⟨w1.heap.size, 0, none⟩) ∧
  (g 0 = true → sl ac 23 = .agg #[.int .i64 NS.sh, .int .i64 NS.cu]) ∧
  (g 2 = true → sl ac 25 = .pointer (some ⟨w.heap.size, 2, none⟩)) ∧
  (g 3 = true → sl ac 26 = .slice none 0 0) ∧
  (g 4 = true → sl ac 27 = sl ac 24) ∧
  (g 5 = true → sl ac 28 = .agg #[.int .i64 K, .int .i64 0, .int .i64 d, .int .i64 t]) ∧
  (g 8 = true → sl ac 31 = .agg #[.int .i64 NS.sh, .int .i64 NS.cu, sl ac 30, .bool false]) ∧
  Later w wc ∧
  (g 1 = true → (∃ k, sl ac 24 = .slice (some ⟨k, 0, none⟩) 0 0) ∧ (g 7 = false → wc.ownsRow z.heap.size 88 4 (sl ac 24) (0) (movs []))) ∧
  (g 6 = true → (∃ k, sl ac 29 = .slice (some ⟨k, 0, none⟩) 1 1) ∧ (g 7 = false → wc.ownsRow z.heap.size 88 4 (sl ac 29) (1) (movs ([⟨K, 0, ⟨d, t⟩⟩] : List Mov)))) ∧
  (g 7 = true → (IsSl (sl ac 30) (1)) ∧ wc.ownsRow z.heap.size 88 4 (sl ac 30) (1) (movs ([⟨K, 0, ⟨d, t⟩⟩] : List Mov))) ∧
  (g 1 = true → g 6 = true → g 7 = false → g 7 = false → ∀ q, (sl ac 24).ownBlock = some q → (sl ac 29).ownBlock ≠ some q) ∧
  (g 7 = true → g 1 = true) ∧
  (g 7 = true → g 6 = true) ∧
  (g 4 = true → g 1 = true) ∧
  (g 8 = true → g 7 = true) ∧
  (g 9 = true → g 7 = true) ∧
  z.heap.size ≤ wc.heap.size ∧
  wc.heap[w1.heap.size]? = some (.cells #[.int .i64 NS.sh, .int .i64 NS.cu] 78 (0, 0)) ∧
  wc.heap[w.heap.size]? = some (.cells #[.int .i64 0, .int .i64 0, .slice none 0 0, .bool false] 129 (0, 0)) ∧
  wc.heap[w.heap.size + 1 + 1 + 1 + 1]? = some (.cells #[.int .i64 K, .int .i64 0, .int .i64 d, .int .i64 t] 88 (0, 0)) ∧
  (∃ r_0 r_1 r_2 r_3, wc.heap[w.heap.size + 1 + 1 + 1]? = some (.cells #[r_0, r_1, r_2, r_3] 129 (0, 0)) ∧ (g 9 = true → r_0 = .int .i64 NS.sh ∧ r_1 = .int .i64 NS.cu ∧ r_2 = sl ac 30 ∧ r_3 = .bool false))) (by kernel_rfl) (by kernel_rfl) rfl (by kernel_rfl) ?_ ?_ ?_
 · exact ⟨rfl, rfl, rfl, rfl, nofun, nofun, nofun, nofun, nofun, nofun, hL0.drew, nofun, nofun, nofun, nofun, nofun, nofun, nofun, nofun, nofun, Nat.le_refl _, Kn, K0, K4, ⟨_, _, _, _, Kr, nofun⟩⟩
 · intro g ac wu hg ha hI
   obtain ⟨x4, x8, x9, x10, i0, i2, i3, i4, i5, i8, hL, p1, p6, p7, -, -, -, -, -, -, hS, Bn, B0, B4, Rr⟩ := hI
   obtain ⟨⟨kr1, e1⟩, -⟩ := p1 (hg 1 (by simp))
   obtain ⟨⟨kr6, e6⟩, -⟩ := p6 (hg 6 (by simp))
   obtain ⟨⟨ar7, capr7, e7⟩, HO7⟩ := p7 (hg 7 (by simp))
   rw [e7] at HO7
   have a0 := i0 (hg 0 (by simp))
   have a2 := i2 (hg 2 (by simp))
   have a3 := i3 (hg 3 (by simp))
   have a4 := i4 (hg 4 (by simp))
   rw [e1] at a4
   have a5 := i5 (hg 5 (by simp))
   have a8 := i8 (hg 8 (by simp))
   rw [e7] at a8
   obtain ⟨r_0, r_1, r_2, r_3, Kr, gr⟩ := Rr
   have gr := gr (hg 9 (by simp))
   rw [gr.1, gr.2.1, gr.2.2.1, gr.2.2.2] at Kr
   rw [e7] at Kr
   clear gr
   simp only [putAll, e1, e6, e7, a0, a2, a3, a4, a5, a8] at ha
   simp only [Act.put, List.setIfInBounds_toArray, List.set_cons_succ, List.set_cons_zero] at ha
   rw [ha]
   clear x4 x8 x9 x10 i0 i2 i3 i4 i5 i8 a0 a2 a3 a4 a5 a8 p1 p6 p7 e1 e6 e7 hg ha
   have c0 := (blk_at Kr).1
   have z0 := (blk_at Kr).2.2
   go_wp2
   refine bodyPost_ret (v := .agg #[.int .i64 NS.sh, .int .i64 NS.cu, .slice ar7 1 capr7, .bool false]) (by simp [results, Tryz.results116, go_sem, c0, z0]) rfl ⟨ar7, _, capr7, by rw [HND.out], hL, ?_⟩
   rw [HND.out]
   show World.ownsRow _ w.heap.size 88 4 _ ( ([⟨K, 0, ⟨d, t⟩⟩] : List Mov)).length (movs ( ([⟨K, 0, ⟨d, t⟩⟩] : List Mov)))
   exact owns_base HO7 hSB
 · refine .cons ?_ (.cons ?_ (.cons ?_ (.cons ?_ (.cons ?_ (.cons ?_ (.cons ?_ (.cons ?_ (.cons ?_ (.cons ?_ .nil)))))))))
   · refine qst fun g ac wc hn hk hr HI K' hK => ?_
     obtain ⟨x4, x8, x9, x10, i0, i2, i3, i4, i5, i8, hL, p1, p6, p7, d1_6, m7_1, m7_6, m4_1, m8_7, m9_7, hS, Bn, B0, B4, Rr⟩ := HI.out
     simp [Region.binds] at hr
     clear i0 i2 i3 i4 i5 i8 d1_6 p1 p6 p7
     obtain ⟨c0, f0, z0⟩ := blk_at Bn
     go_simp
     obtain ⟨-, -, -, -, i0, i2, i3, i4, i5, i8, -, p1, p6, p7, d1_6, -⟩ := HI.out
     exact hK.out _ _ ⟨qB x4, qB x8, qB x9, qB x10, qP, qF i2, qF i3, (fun h => by rw [put_ne (show 27 ≠ 23 by decide), put_ne (show 24 ≠ 23 by decide)]; exact i4 h), qF i5, (fun h => by rw [put_ne (show 31 ≠ 23 by decide), put_ne (show 30 ≠ 23 by decide)]; exact i8 h), hL, (fun h => by obtain ⟨hs, ho⟩ := p1 h; exact ⟨(by rw [put_ne (show 24 ≠ 23 by decide)]; exact hs), fun ht => by have ho := ho ht; exact (by rw [put_ne (show 24 ≠ 23 by decide)]; exact ho)⟩), (fun h => by obtain ⟨hs, ho⟩ := p6 h; exact ⟨(by rw [put_ne (show 29 ≠ 23 by decide)]; exact hs), fun ht => by have ho := ho ht; exact (by rw [put_ne (show 29 ≠ 23 by decide)]; exact ho)⟩), (fun h => by obtain ⟨hs, ho⟩ := p7 h; exact ⟨(by rw [put_ne (show 30 ≠ 23 by decide)]; exact hs), (by rw [put_ne (show 30 ≠ 23 by decide)]; exact ho)⟩), (fun h h' ht ht' => by rw [put_ne (show 24 ≠ 23 by decide), put_ne (show 29 ≠ 23 by decide)]; exact d1_6 h h' ht ht' ), m7_1, m7_6, m4_1, m8_7, m9_7, hS, Bn, B0, B4, (by obtain ⟨r_0, r_1, r_2, r_3, R1, R2⟩ := Rr; exact ⟨r_0, r_1, r_2, r_3, R1, (fun h => by rw [put_ne (by decide)]; exact R2 h)⟩)⟩
   · refine qst fun g ac wc hn hk hr HI K' hK => ?_
     obtain ⟨x4, x8, x9, x10, i0, i2, i3, i4, i5, i8, hL, p1, p6, p7, d1_6, m7_1, m7_6, m4_1, m8_7, m9_7, hS, Bn, B0, B4, Rr⟩ := HI.out
     simp [Region.binds] at hr
     clear i0 i2 i3 i4 i5 i8 d1_6 p1 p6 p7
     go_simp
     have hL4 := (Later.refl wc).alloc (.cells #[] 88)
     obtain ⟨-, -, -, -, i0, i2, i3, i4, i5, i8, -, p1, p6, p7, d1_6, -⟩ := HI.out
     exact hK.out _ _ ⟨qB x4, qB x8, qB x9, qB x10, qF i0, qF i2, qF i3, (fun h => absurd (m4_1 h) (by rw [hk]; simp)), qF i5, (fun h => by rw [put_ne (show 31 ≠ 24 by decide), put_ne (show 30 ≠ 24 by decide)]; exact i8 h), hL.alloc _, (fun _ => ⟨⟨wc.heap.size, put_eq (by omega)⟩, fun _ => by rw [put_eq (by omega)]; exact own_empty hS _ _⟩), (fun h => by obtain ⟨hs, ho⟩ := p6 h; exact ⟨(by rw [put_ne (show 29 ≠ 24 by decide)]; exact hs), fun ht => by have ho := ho ht; exact (by rw [put_ne (show 29 ≠ 24 by decide)]; exact (owns_later ho hL4))⟩), (fun h => by obtain ⟨hs, ho⟩ := p7 h; exact ⟨(by rw [put_ne (show 30 ≠ 24 by decide)]; exact hs), (by rw [put_ne (show 30 ≠ 24 by decide)]; exact (owns_later ho hL4))⟩), (fun h h' ht ht' q hq => by rw [put_eq (by omega)] at hq; rw [put_ne (show 29 ≠ 24 by decide)]; have ho := (p6 h').2 ht'; intro e; have := ho.lt q e; simp [Value.ownBlock] at hq; omega), (fun _ => rfl), m7_6, (fun _ => rfl), m8_7, m9_7, (by simp; omega), (hL4.keep Bn), (hL4.keep B0), (hL4.keep B4), (by obtain ⟨r_0, r_1, r_2, r_3, R1, R2⟩ := Rr; exact ⟨r_0, r_1, r_2, r_3, hL4.keep R1, (fun h => by rw [put_ne (by decide)]; exact R2 h)⟩)⟩
   · refine qst fun g ac wc hn hk hr HI K' hK => ?_
     obtain ⟨x4, x8, x9, x10, i0, i2, i3, i4, i5, i8, hL, p1, p6, p7, d1_6, m7_1, m7_6, m4_1, m8_7, m9_7, hS, Bn, B0, B4, Rr⟩ := HI.out
     simp [Region.binds] at hr
     clear i0 i2 i3 i4 i5 i8 d1_6 p1 p6 p7
     go_simp
     obtain ⟨-, -, -, -, i0, i2, i3, i4, i5, i8, -, p1, p6, p7, d1_6, -⟩ := HI.out
     exact hK.out _ _ ⟨qB x4, qB x8, qB x9, qB x10, qF i0, qP, qF i3, (fun h => by rw [put_ne (show 27 ≠ 25 by decide), put_ne (show 24 ≠ 25 by decide)]; exact i4 h), qF i5, (fun h => by rw [put_ne (show 31 ≠ 25 by decide), put_ne (show 30 ≠ 25 by decide)]; exact i8 h), hL, (fun h => by obtain ⟨hs, ho⟩ := p1 h; exact ⟨(by rw [put_ne (show 24 ≠ 25 by decide)]; exact hs), fun ht => by have ho := ho ht; exact (by rw [put_ne (show 24 ≠ 25 by decide)]; exact ho)⟩), (fun h => by obtain ⟨hs, ho⟩ := p6 h; exact ⟨(by rw [put_ne (show 29 ≠ 25 by decide)]; exact hs), fun ht => by have ho := ho ht; exact (by rw [put_ne (show 29 ≠ 25 by decide)]; exact ho)⟩), (fun h => by obtain ⟨hs, ho⟩ := p7 h; exact ⟨(by rw [put_ne (show 30 ≠ 25 by decide)]; exact hs), (by rw [put_ne (show 30 ≠ 25 by decide)]; exact ho)⟩), (fun h h' ht ht' => by rw [put_ne (show 24 ≠ 25 by decide), put_ne (show 29 ≠ 25 by decide)]; exact d1_6 h h' ht ht' ), m7_1, m7_6, m4_1, m8_7, m9_7, hS, Bn, B0, B4, (by obtain ⟨r_0, r_1, r_2, r_3, R1, R2⟩ := Rr; exact ⟨r_0, r_1, r_2, r_3, R1, (fun h => by rw [put_ne (by decide)]; exact R2 h)⟩)⟩
   · refine qst fun g ac wc hn hk hr HI K' hK => ?_
     obtain ⟨x4, x8, x9, x10, i0, i2, i3, i4, i5, i8, hL, p1, p6, p7, d1_6, m7_1, m7_6, m4_1, m8_7, m9_7, hS, Bn, B0, B4, Rr⟩ := HI.out
     simp [Region.binds] at hr
     have y2 := i2 (by simp [hr])
     clear i0 i2 i3 i4 i5 i8 d1_6 p1 p6 p7
     obtain ⟨c0, f0, z0⟩ := blk_at B0
     go_simp
     obtain ⟨-, -, -, -, i0, i2, i3, i4, i5, i8, -, p1, p6, p7, d1_6, -⟩ := HI.out
     exact hK.out _ _ ⟨qB x4, qB x8, qB x9, qB x10, qF i0, qF i2, qP, (fun h => by rw [put_ne (show 27 ≠ 26 by decide), put_ne (show 24 ≠ 26 by decide)]; exact i4 h), qF i5, (fun h => by rw [put_ne (show 31 ≠ 26 by decide), put_ne (show 30 ≠ 26 by decide)]; exact i8 h), hL, (fun h => by obtain ⟨hs, ho⟩ := p1 h; exact ⟨(by rw [put_ne (show 24 ≠ 26 by decide)]; exact hs), fun ht => by have ho := ho ht; exact (by rw [put_ne (show 24 ≠ 26 by decide)]; exact ho)⟩), (fun h => by obtain ⟨hs, ho⟩ := p6 h; exact ⟨(by rw [put_ne (show 29 ≠ 26 by decide)]; exact hs), fun ht => by have ho := ho ht; exact (by rw [put_ne (show 29 ≠ 26 by decide)]; exact ho)⟩), (fun h => by obtain ⟨hs, ho⟩ := p7 h; exact ⟨(by rw [put_ne (show 30 ≠ 26 by decide)]; exact hs), (by rw [put_ne (show 30 ≠ 26 by decide)]; exact ho)⟩), (fun h h' ht ht' => by rw [put_ne (show 24 ≠ 26 by decide), put_ne (show 29 ≠ 26 by decide)]; exact d1_6 h h' ht ht' ), m7_1, m7_6, m4_1, m8_7, m9_7, hS, Bn, B0, B4, (by obtain ⟨r_0, r_1, r_2, r_3, R1, R2⟩ := Rr; exact ⟨r_0, r_1, r_2, r_3, R1, (fun h => by rw [put_ne (by decide)]; exact R2 h)⟩)⟩
   · refine qst fun g ac wc hn hk hr HI K' hK => ?_
     obtain ⟨x4, x8, x9, x10, i0, i2, i3, i4, i5, i8, hL, p1, p6, p7, d1_6, m7_1, m7_6, m4_1, m8_7, m9_7, hS, Bn, B0, B4, Rr⟩ := HI.out
     simp [Region.binds] at hr
     have y3 := i3 (by simp [hr])
     have gm1 : g 1 = true := by first | exact m4_1 (by simp [hr]) | exact hr | exact hr.1 | exact hr.2 | exact hr.2.1 | simp [hr]
     obtain ⟨⟨kk1, y1⟩, -⟩ := p1 (by simp [hr])
     have z1 := sl_get y1 (by omega)
     have z3 := sl_get y3 (by omega)
     clear i0 i2 i3 i4 i5 i8 d1_6 p1 p6 p7
     go_simp
     obtain ⟨-, -, -, -, i0, i2, i3, i4, i5, i8, -, p1, p6, p7, d1_6, -⟩ := HI.out
     exact hK.out _ _ ⟨qB x4, qB x8, qB x9, qB x10, qF i0, qF i2, qF i3, (fun _ => by rw [put_ne (show 24 ≠ 27 by decide), y1]; exact put_eq (a := ac) (i := 27) (by omega)), qF i5, (fun h => by rw [put_ne (show 31 ≠ 27 by decide), put_ne (show 30 ≠ 27 by decide)]; exact i8 h), hL, (fun h => by obtain ⟨hs, ho⟩ := p1 h; exact ⟨(by rw [put_ne (show 24 ≠ 27 by decide)]; exact hs), fun ht => by have ho := ho ht; exact (by rw [put_ne (show 24 ≠ 27 by decide)]; exact ho)⟩), (fun h => by obtain ⟨hs, ho⟩ := p6 h; exact ⟨(by rw [put_ne (show 29 ≠ 27 by decide)]; exact hs), fun ht => by have ho := ho ht; exact (by rw [put_ne (show 29 ≠ 27 by decide)]; exact ho)⟩), (fun h => by obtain ⟨hs, ho⟩ := p7 h; exact ⟨(by rw [put_ne (show 30 ≠ 27 by decide)]; exact hs), (by rw [put_ne (show 30 ≠ 27 by decide)]; exact ho)⟩), (fun h h' ht ht' => by rw [put_ne (show 24 ≠ 27 by decide), put_ne (show 29 ≠ 27 by decide)]; exact d1_6 h h' ht ht' ), m7_1, m7_6, (fun _ => gm1), m8_7, m9_7, hS, Bn, B0, B4, (by obtain ⟨r_0, r_1, r_2, r_3, R1, R2⟩ := Rr; exact ⟨r_0, r_1, r_2, r_3, R1, (fun h => by rw [put_ne (by decide)]; exact R2 h)⟩)⟩
   · refine qst fun g ac wc hn hk hr HI K' hK => ?_
     obtain ⟨x4, x8, x9, x10, i0, i2, i3, i4, i5, i8, hL, p1, p6, p7, d1_6, m7_1, m7_6, m4_1, m8_7, m9_7, hS, Bn, B0, B4, Rr⟩ := HI.out
     simp [Region.binds] at hr
     clear i0 i2 i3 i4 i5 i8 d1_6 p1 p6 p7
     obtain ⟨c0, f0, z0⟩ := blk_at B4
     go_simp
     obtain ⟨-, -, -, -, i0, i2, i3, i4, i5, i8, -, p1, p6, p7, d1_6, -⟩ := HI.out
     exact hK.out _ _ ⟨qB x4, qB x8, qB x9, qB x10, qF i0, qF i2, qF i3, (fun h => by rw [put_ne (show 27 ≠ 28 by decide), put_ne (show 24 ≠ 28 by decide)]; exact i4 h), qP, (fun h => by rw [put_ne (show 31 ≠ 28 by decide), put_ne (show 30 ≠ 28 by decide)]; exact i8 h), hL, (fun h => by obtain ⟨hs, ho⟩ := p1 h; exact ⟨(by rw [put_ne (show 24 ≠ 28 by decide)]; exact hs), fun ht => by have ho := ho ht; exact (by rw [put_ne (show 24 ≠ 28 by decide)]; exact ho)⟩), (fun h => by obtain ⟨hs, ho⟩ := p6 h; exact ⟨(by rw [put_ne (show 29 ≠ 28 by decide)]; exact hs), fun ht => by have ho := ho ht; exact (by rw [put_ne (show 29 ≠ 28 by decide)]; exact ho)⟩), (fun h => by obtain ⟨hs, ho⟩ := p7 h; exact ⟨(by rw [put_ne (show 30 ≠ 28 by decide)]; exact hs), (by rw [put_ne (show 30 ≠ 28 by decide)]; exact ho)⟩), (fun h h' ht ht' => by rw [put_ne (show 24 ≠ 28 by decide), put_ne (show 29 ≠ 28 by decide)]; exact d1_6 h h' ht ht' ), m7_1, m7_6, m4_1, m8_7, m9_7, hS, Bn, B0, B4, (by obtain ⟨r_0, r_1, r_2, r_3, R1, R2⟩ := Rr; exact ⟨r_0, r_1, r_2, r_3, R1, (fun h => by rw [put_ne (by decide)]; exact R2 h)⟩)⟩
   · refine qst fun g ac wc hn hk hr HI K' hK => ?_
     obtain ⟨x4, x8, x9, x10, i0, i2, i3, i4, i5, i8, hL, p1, p6, p7, d1_6, m7_1, m7_6, m4_1, m8_7, m9_7, hS, Bn, B0, B4, Rr⟩ := HI.out
     simp [Region.binds] at hr
     have y5 := i5 (by simp [hr])
     have z5 := sl_get y5 (by omega)
     clear i0 i2 i3 i4 i5 i8 d1_6 p1 p6 p7
     go_simp
     have hL4 := (Later.refl wc).alloc (.cells #[.int .i64 K, .int .i64 0, .int .i64 d, .int .i64 t] 88)
     obtain ⟨-, -, -, -, i0, i2, i3, i4, i5, i8, -, p1, p6, p7, d1_6, -⟩ := HI.out
     exact hK.out _ _ ⟨qB x4, qB x8, qB x9, qB x10, qF i0, qF i2, qF i3, (fun h => by rw [put_ne (show 27 ≠ 29 by decide), put_ne (show 24 ≠ 29 by decide)]; exact i4 h), qF i5, (fun h => by rw [put_ne (show 31 ≠ 29 by decide), put_ne (show 30 ≠ 29 by decide)]; exact i8 h), hL.alloc _, (fun h => by obtain ⟨hs, ho⟩ := p1 h; exact ⟨(by rw [put_ne (show 24 ≠ 29 by decide)]; exact hs), fun ht => by have ho := ho ht; exact (by rw [put_ne (show 24 ≠ 29 by decide)]; exact (owns_later ho hL4))⟩), (fun _ => ⟨⟨wc.heap.size, put_eq (by omega)⟩, fun _ => by rw [put_eq (by omega)]; exact World.ownsRow_lit wc #[.int .i64 K, .int .i64 0, .int .i64 d, .int .i64 t] 1 hS (by decide) (by simp)⟩), (fun h => by obtain ⟨hs, ho⟩ := p7 h; exact ⟨(by rw [put_ne (show 30 ≠ 29 by decide)]; exact hs), (by rw [put_ne (show 30 ≠ 29 by decide)]; exact (owns_later ho hL4))⟩), (fun h h' ht ht' q hq => by rw [put_ne (show 24 ≠ 29 by decide)] at hq; rw [put_eq (by omega)]; have ho := (p1 h).2 ht; have := ho.lt q hq; simp [Value.ownBlock]; omega), m7_1, (fun _ => rfl), m4_1, m8_7, m9_7, (by simp; omega), (hL4.keep Bn), (hL4.keep B0), (hL4.keep B4), (by obtain ⟨r_0, r_1, r_2, r_3, R1, R2⟩ := Rr; exact ⟨r_0, r_1, r_2, r_3, hL4.keep R1, (fun h => by rw [put_ne (by decide)]; exact R2 h)⟩)⟩
   · refine qst fun g ac wc hn hk hr HI K' hK => ?_
     obtain ⟨x4, x8, x9, x10, i0, i2, i3, i4, i5, i8, hL, p1, p6, p7, d1_6, m7_1, m7_6, m4_1, m8_7, m9_7, hS, Bn, B0, B4, Rr⟩ := HI.out
     simp [Region.binds] at hr
     replace i0 := Lib.hid i0
     replace i2 := Lib.hid i2
     replace i3 := Lib.hid i3
     replace i4 := Lib.hid i4
     replace i5 := Lib.hid i5
     replace i8 := Lib.hid i8
     replace d1_6 := Lib.hid d1_6
     replace p1 := Lib.hid p1
     replace p6 := Lib.hid p6
     replace p7 := Lib.hid p7
     have gA : g 1 = true := m4_1 (by simp [hr])
     obtain ⟨hsA, hoA⟩ := p1.out gA
     have hoA := hoA hk
     have gX : g 6 = true := (by simp [hr])
     obtain ⟨⟨kx, ex⟩, hoX⟩ := p6.out gX
     have hoX := hoX hk
     rw [ex] at hoX
     have yV := i4.out (by simp [hr])
     refine wpA_Move (.tmp 27) (.tmp 29) rfl z.heap.size (sl ac 24) ([] : List Mov) yV hoA ⟨kx, 0, none⟩ 1 1 ([⟨K, 0, ⟨d, t⟩⟩] : List Mov) ex rfl (row_add hoX) (by decide) hS ?_
     intro v4 w4 ho4 hg4 hat4
     rw [List.nil_append] at ho4
     have hL4 : Below z.heap.size wc w4 := Below.grown (Below.refl _ _) hg4 hS (fun k e => (hoA.lt k e).1)
     exact hK.out _ _ ⟨qB x4, qB x8, qB x9, qB x10, qF i0.out, qF i2.out, qF i3.out, (fun h => by rw [put_ne (show 27 ≠ 30 by decide), put_ne (show 24 ≠ 30 by decide)]; exact i4.out h), qF i5.out, (fun h => absurd (m8_7 h) (by rw [hk]; simp)), Below.trans hL (hL4.mono hSB), (fun h => by obtain ⟨hs, ho⟩ := p1.out h; exact ⟨(by rw [put_ne (show 24 ≠ 30 by decide)]; exact hs), fun h => absurd h (by simp)⟩), (fun h => by obtain ⟨hs, ho⟩ := p6.out h; exact ⟨(by rw [put_ne (show 29 ≠ 30 by decide)]; exact hs), fun h => absurd h (by simp)⟩), (fun _ => ⟨by rw [put_eq (by omega)]; exact isSl_of ho4, by rw [put_eq (by omega)]; exact ho4⟩), (fun h h' ht => absurd ht (by simp)), (fun _ => gA), (fun _ => gX), m4_1, (fun _ => rfl), (fun _ => rfl), Nat.le_trans hS hL4.size, ((hL4.block _ (by omega)).trans Bn), ((hL4.block _ (by omega)).trans B0), ((hL4.block _ (by omega)).trans B4), (by obtain ⟨r_0, r_1, r_2, r_3, R1, R2⟩ := Rr; exact ⟨r_0, r_1, r_2, r_3, (hL4.block _ (by omega)).trans R1, (fun h => absurd (m9_7 h) (by rw [hk]; simp))⟩)⟩
   · refine qst fun g ac wc hn hk hr HI K' hK => ?_
     obtain ⟨x4, x8, x9, x10, i0, i2, i3, i4, i5, i8, hL, p1, p6, p7, d1_6, m7_1, m7_6, m4_1, m8_7, m9_7, hS, Bn, B0, B4, Rr⟩ := HI.out
     simp [Region.binds] at hr
     have y0 := i0 (by simp [hr])
     have gm7 : g 7 = true := by first | exact m8_7 (by simp [hr]) | exact hr | exact hr.1 | exact hr.2 | exact hr.2.1 | simp [hr]
     obtain ⟨⟨aa7, cc7, y7⟩, -⟩ := p7 (by simp [hr])
     have z7 := sl_get y7 (by omega)
     have z0 := sl_get y0 (by omega)
     clear i0 i2 i3 i4 i5 i8 d1_6 p1 p6 p7
     go_simp
     obtain ⟨-, -, -, -, i0, i2, i3, i4, i5, i8, -, p1, p6, p7, d1_6, -⟩ := HI.out
     exact hK.out _ _ ⟨qB x4, qB x8, qB x9, qB x10, qF i0, qF i2, qF i3, (fun h => by rw [put_ne (show 27 ≠ 31 by decide), put_ne (show 24 ≠ 31 by decide)]; exact i4 h), qF i5, (fun _ => by rw [put_ne (show 30 ≠ 31 by decide), y7]; exact put_eq (a := ac) (i := 31) (by omega)), hL, (fun h => by obtain ⟨hs, ho⟩ := p1 h; exact ⟨(by rw [put_ne (show 24 ≠ 31 by decide)]; exact hs), fun ht => by have ho := ho ht; exact (by rw [put_ne (show 24 ≠ 31 by decide)]; exact ho)⟩), (fun h => by obtain ⟨hs, ho⟩ := p6 h; exact ⟨(by rw [put_ne (show 29 ≠ 31 by decide)]; exact hs), fun ht => by have ho := ho ht; exact (by rw [put_ne (show 29 ≠ 31 by decide)]; exact ho)⟩), (fun h => by obtain ⟨hs, ho⟩ := p7 h; exact ⟨(by rw [put_ne (show 30 ≠ 31 by decide)]; exact hs), (by rw [put_ne (show 30 ≠ 31 by decide)]; exact ho)⟩), (fun h h' ht ht' => by rw [put_ne (show 24 ≠ 31 by decide), put_ne (show 29 ≠ 31 by decide)]; exact d1_6 h h' ht ht' ), m7_1, m7_6, m4_1, (fun _ => gm7), m9_7, hS, Bn, B0, B4, (by obtain ⟨r_0, r_1, r_2, r_3, R1, R2⟩ := Rr; exact ⟨r_0, r_1, r_2, r_3, R1, (fun h => by rw [put_ne (by decide)]; exact R2 h)⟩)⟩
   · refine qst fun g ac wc hn hk hr HI K' hK => ?_
     obtain ⟨x4, x8, x9, x10, i0, i2, i3, i4, i5, i8, hL, p1, p6, p7, d1_6, m7_1, m7_6, m4_1, m8_7, m9_7, hS, Bn, B0, B4, Rr⟩ := HI.out
     simp [Region.binds] at hr
     have y8 := i8 (by simp [hr])
     have gm7 : g 7 = true := by first | exact m9_7 (by simp [hr]) | exact hr | exact hr.1 | exact hr.2 | exact hr.2.1 | simp [hr]
     replace i0 := Lib.hid i0
     replace i2 := Lib.hid i2
     replace i3 := Lib.hid i3
     replace i4 := Lib.hid i4
     replace i5 := Lib.hid i5
     replace i8 := Lib.hid i8
     replace d1_6 := Lib.hid d1_6
     replace p1 := Lib.hid p1
     replace p6 := Lib.hid p6
     replace p7 := Lib.hid p7
     obtain ⟨r_0, r_1, r_2, r_3, R1, -⟩ := Rr
     obtain ⟨c0, f0, z0⟩ := blk_at R1
     obtain ⟨⟨aa, cc, yy7⟩, -⟩ := p7.out gm7
     rw [yy7] at y8
     have z8 := sl_get y8 (by omega)
     go_simp
     exact hK.out undef _ ⟨x4, x8, x9, x10, i0.out, i2.out, i3.out, i4.out, i5.out, i8.out, ((((hL.setCell hRBr _).setCell hRBr _).setCell hRBr _).setCell hRBr _), (fun h => by obtain ⟨hs, ho⟩ := p1.out h; exact ⟨hs, fun ht => absurd gm7 (by rw [show g 7 = false from ht]; simp)⟩), (fun h => by obtain ⟨hs, ho⟩ := p6.out h; exact ⟨hs, fun ht => absurd gm7 (by rw [show g 7 = false from ht]; simp)⟩), (fun h => by obtain ⟨hs, ho⟩ := p7.out h; exact ⟨hs, (owns_set (owns_set (owns_set (owns_set ho (by omega) _ _) (by omega) _ _) (by omega) _ _) (by omega) _ _)⟩), d1_6.out, m7_1, m7_6, m4_1, m8_7, (fun _ => gm7), (by simp; omega), (other_set (other_set (other_set (other_set Bn (by omega) _) (by omega) _) (by omega) _) (by omega) _), (other_set (other_set (other_set (other_set B0 (by omega) _) (by omega) _) (by omega) _) (by omega) _), (other_set (other_set (other_set (other_set B4 (by omega) _) (by omega) _) (by omega) _) (by omega) _), ⟨_, _, _, _, four_set R1 _ _ _ _, fun _ => ⟨rfl, rfl, yy7.symm, rfl⟩⟩⟩
end Go.Proofs.YtkoojngonldcbaaGreat
