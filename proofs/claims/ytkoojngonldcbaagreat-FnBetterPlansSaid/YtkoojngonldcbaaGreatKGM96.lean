/- DERIVED. Walks: the better plan's order, the reference's. -/
import Derived.Test.YtkoojngonldcbaaGreatKGM93
import Derived.Test.YtkoojngonldcbaaGreatKGM61
namespace Go.Proofs.YtkoojngonldcbaaGreat
set_option linter.unusedVariables false
set_option linter.unusedSimpArgs false
open Go.RowKit
set_option maxRecDepth 100000
def qOf2 : Value → Value
 | .tuple ⟨[a, _]⟩ => a
 | v => v
def costU (n : Int) (c : List Trm) (e : Ers) (o : List Int) : Int := max 0 (unP n (orderedL c o) e)
theorem costU_nn (n : Int) (c : List Trm) (e : Ers) : ∀ o, 0 ≤ costU n c e o := fun o => by unfold costU; omega
set_option maxHeartbeats 1000000 in
theorem w_l15Better0 (n : Int) (au av ay : Option Addr) (capu capv capy : Nat) (st sd : List Int) (c : List Trm) (ea eb ec : Int) (w0 : World) (h : IsNums w0 (.slice au st.length capu) st) (h' : IsNums w0 (.slice av sd.length capv) sd) (hy : IsTrms w0 (.slice ay c.length capy) c) (hC : hasI st 0 = true ∧ hasI sd 0 = true) (hc : isChain c = true) (he : isErs ⟨ea, eb, ec⟩ = true) (h1 : 1 ≤ n) (h2 : n ≤ 100000)
 (o : List Int) (ao : Option Addr) (capo base : Nat) (w : World) (hl : o.length + 0 = c.length) (hg : GoodO c o) (hL0 : Later w0 w) (ho : w.ownsRow base 2 1 (.slice ao o.length capo) o.length (nums o)) (hb : base ≤ w.heap.size) :
 Calls Tryz.prog 93 #[.agg #[.int .i64 n, .slice au st.length capu, .slice av sd.length capv], .slice ay c.length capy, .agg #[.int .i64 ea, .int .i64 eb, .int .i64 ec], .slice ao o.length capo] w fun e w' => ∃ a l k, e = .returned (.tuple #[.slice a l k, .int .i64 (bestO (costU n c ⟨ea, eb, ec⟩) (lvs c 0 o)).2]) ∧ Later w w' ∧ w'.ownsRow base 2 1 (.slice a l k) (bestO (costU n c ⟨ea, eb, ec⟩) (lvs c 0 o)).1.length (nums (bestO (costU n c ⟨ea, eb, ec⟩) (lvs c 0 o)).1) := by
 have h6 := (isChain_true hc).2.1
 have hc1 := (isChain_true hc).1
 have H := Lib.hid (h.later hL0)
 have H' := Lib.hid (h'.later hL0)
 have HY := Lib.hid (hy.later hL0)
 have HOr := Lib.hid (reads_of_owns ho (by omega))
 have HO := Lib.hid ho
 have HG := Lib.hid hg
 have HC := Lib.hid hC
 have HE := Lib.hid he
 obtain ⟨L, hLd⟩ : ∃ x, orderedL c o = x := ⟨_, rfl⟩
 have hch := hg.chain hc (by omega) (by omega)
 have hll := orderedL_len c o
 rw [hLd] at hch hll
 have HCh := Lib.hid hch
 have HLd := Lib.hid hLd
 have hq : ((o.length : Int) == (c.length : Int)) = true := by simp; omega
 have hL6 : L.length ≤ 6 := by omega
 have hO6 : o.length ≤ 6 := by omega
 obtain ⟨M, hM⟩ : ∃ x, unP n L ⟨ea, eb, ec⟩ = x := ⟨_, rfl⟩
 have HM := Lib.hid hM
 have hM0 := unP_bd (c := L) he h1 (planL_len (r := ⟨n, st, sd⟩) hC hch)
 rw [hM] at hM0
 have HCost := Lib.hid (show (bestO (costU n c ⟨ea, eb, ec⟩) (lvs c 0 o)).1 = o ∧ (bestO (costU n c ⟨ea, eb, ec⟩) (lvs c 0 o)).2 = M from by
  refine ⟨rfl, ?_⟩
  show costU n c ⟨ea, eb, ec⟩ o = _
  unfold costU
  rw [hLd, hM]
  omega)
 clear hM
 clear h h' hy hC hg ho hLd hch hll hl
 go_enter Tryz.func93, Tryz.ntmps93
 go_wp2_with fail
 refine wp_name ?_
 intro z hz
 have hL0 : Later w z := by rw [hz]; exact ((Later.refl _).alloc _).alloc _
 have Kr : z.heap[w.heap.size]? = some (.cells #[.int .i64 n, .slice au st.length capu, .slice av sd.length capv] 26 (0, 0)) := by rw [hz]; exact heap_alloc_old _ _ (heap_alloc_new _ _)
 have lt0 := (Array.getElem?_eq_some_iff.1 Kr).1
 have Ke : z.heap[w.heap.size + 1]? = some (.cells #[.int .i64 ea, .int .i64 eb, .int .i64 ec] 60 (0, 0)) := by rw [hz]; exact heap_alloc_new' _ _ (by simp)
 have lt1 := (Array.getElem?_eq_some_iff.1 Ke).1
 have hSB := hL0.size
 clear hz
 refine region_slots 72 [20, 21, 22, 23, 24, 25, 26, 8, 9] (fun g ac wc => sl ac 1 = .slice ay c.length capy ∧
  sl ac 3 = .slice ao o.length capo ∧
  sl ac 4 = .pointer (some ⟨w.heap.size, 0, none⟩) ∧
  sl ac 6 = .pointer (some ⟨w.heap.size + 1, 0, none⟩) ∧
  (g 0 = true → sl ac 20 = .slice ao o.length capo) ∧
  (g 1 = true → sl ac 21 = .agg #[.int .i64 n, .slice au st.length capu, .slice av sd.length capv]) ∧
  (g 2 = true → sl ac 22 = .slice ay c.length capy) ∧
  (g 3 = true → sl ac 23 = .slice ao o.length capo) ∧
  (g 5 = true → sl ac 25 = .agg #[.int .i64 ea, .int .i64 eb, .int .i64 ec]) ∧
  (g 6 = true → sl ac 26 = .int .i64 M) ∧
  (g 7 = true → sl ac 8 = .slice ao o.length capo) ∧
  (g 8 = true → sl ac 9 = .int .i64 M) ∧
  Later w wc ∧
  (g 4 = true → (IsSl (sl ac 24) (L.length) ∧ sl ac 24 = sl ac 24) ∧ (g 6 = false → wc.ownsRow z.heap.size 93 3 (sl ac 24) (L.length) (trms L))) ∧
  z.heap.size ≤ wc.heap.size ∧
  wc.heap[w.heap.size]? = some (.cells #[.int .i64 n, .slice au st.length capu, .slice av sd.length capv] 26 (0, 0)) ∧
  wc.heap[w.heap.size + 1]? = some (.cells #[.int .i64 ea, .int .i64 eb, .int .i64 ec] 60 (0, 0))) (by kernel_rfl) (by kernel_rfl) rfl (by kernel_rfl) ?_ ?_ ?_
 · exact ⟨rfl, rfl, rfl, rfl, nofun, nofun, nofun, nofun, nofun, nofun, nofun, nofun, hL0.drew, nofun, Nat.le_refl _, Kr, Ke⟩
 · intro g ac wu hg ha hI
   obtain ⟨x1, x3, x4, x6, i0, i1, i2, i3, i5, i6, i7, i8, hL, p4, hS, Br, Be⟩ := hI
   obtain ⟨⟨⟨ar4, capr4, f4⟩, e4⟩, -⟩ := p4 (hg 4 (by simp))
   clear e4
   have e4 := f4
   have a0 := i0 (hg 0 (by simp))
   have a1 := i1 (hg 1 (by simp))
   have a2 := i2 (hg 2 (by simp))
   have a3 := i3 (hg 3 (by simp))
   have a5 := i5 (hg 5 (by simp))
   have a6 := i6 (hg 6 (by simp))
   have a7 := i7 (hg 7 (by simp))
   have a8 := i8 (hg 8 (by simp))
   simp only [putAll, e4, a0, a1, a2, a3, a5, a6, a7, a8] at ha
   simp only [Act.put, List.setIfInBounds_toArray, List.set_cons_succ, List.set_cons_zero] at ha
   rw [ha]
   clear x1 x3 x4 x6 i0 i1 i2 i3 i5 i6 i7 i8 a0 a1 a2 a3 a5 a6 a7 a8 p4 e4 f4 hg ha
   go_wp2
   go_ret2
   exact ⟨ao, _, capo, by rw [HCost.out.2]; rfl, hL, by rw [HCost.out.1]; exact owns_later HO.out hL⟩
 · refine .cons ?_ (.cons ?_ (.cons ?_ (.cons ?_ (.cons ?_ (.cons ?_ (.cons ?_ (.cons ?_ (.cons ?_ .nil))))))))
   · refine qst fun g ac wc hn hk hr HI K' hK => ?_
     obtain ⟨x1, x3, x4, x6, i0, i1, i2, i3, i5, i6, i7, i8, hL, p4, hS, Br, Be⟩ := HI.out
     simp [Region.binds] at hr
     clear i0 i1 i2 i3 i5 i6 i7 i8 p4
     go_simp
     obtain ⟨-, -, -, -, i0, i1, i2, i3, i5, i6, i7, i8, -, p4, -⟩ := HI.out
     exact hK.out _ _ ⟨qB x1, qB x3, qB x4, qB x6, qP, qF i1, qF i2, qF i3, qF i5, qF i6, qF i7, qF i8, hL, (fun h => by obtain ⟨⟨hs, hv⟩, ho⟩ := p4 h; exact ⟨⟨by rw [put_ne (show 24 ≠ 20 by decide)]; exact hs, rfl⟩, fun ht => by have ho := ho ht; exact (by rw [put_ne (show 24 ≠ 20 by decide)]; exact ho)⟩), hS, Br, Be⟩
   · refine qst fun g ac wc hn hk hr HI K' hK => ?_
     obtain ⟨x1, x3, x4, x6, i0, i1, i2, i3, i5, i6, i7, i8, hL, p4, hS, Br, Be⟩ := HI.out
     simp [Region.binds] at hr
     clear i0 i1 i2 i3 i5 i6 i7 i8 p4
     obtain ⟨c0, f0, z0⟩ := blk_at Br
     go_simp
     obtain ⟨-, -, -, -, i0, i1, i2, i3, i5, i6, i7, i8, -, p4, -⟩ := HI.out
     exact hK.out _ _ ⟨qB x1, qB x3, qB x4, qB x6, qF i0, qP, qF i2, qF i3, qF i5, qF i6, qF i7, qF i8, hL, (fun h => by obtain ⟨⟨hs, hv⟩, ho⟩ := p4 h; exact ⟨⟨by rw [put_ne (show 24 ≠ 21 by decide)]; exact hs, rfl⟩, fun ht => by have ho := ho ht; exact (by rw [put_ne (show 24 ≠ 21 by decide)]; exact ho)⟩), hS, Br, Be⟩
   · refine qst fun g ac wc hn hk hr HI K' hK => ?_
     obtain ⟨x1, x3, x4, x6, i0, i1, i2, i3, i5, i6, i7, i8, hL, p4, hS, Br, Be⟩ := HI.out
     simp [Region.binds] at hr
     clear i0 i1 i2 i3 i5 i6 i7 i8 p4
     go_simp
     obtain ⟨-, -, -, -, i0, i1, i2, i3, i5, i6, i7, i8, -, p4, -⟩ := HI.out
     exact hK.out _ _ ⟨qB x1, qB x3, qB x4, qB x6, qF i0, qF i1, qP, qF i3, qF i5, qF i6, qF i7, qF i8, hL, (fun h => by obtain ⟨⟨hs, hv⟩, ho⟩ := p4 h; exact ⟨⟨by rw [put_ne (show 24 ≠ 22 by decide)]; exact hs, rfl⟩, fun ht => by have ho := ho ht; exact (by rw [put_ne (show 24 ≠ 22 by decide)]; exact ho)⟩), hS, Br, Be⟩
   · refine qst fun g ac wc hn hk hr HI K' hK => ?_
     obtain ⟨x1, x3, x4, x6, i0, i1, i2, i3, i5, i6, i7, i8, hL, p4, hS, Br, Be⟩ := HI.out
     simp [Region.binds] at hr
     clear i0 i1 i2 i3 i5 i6 i7 i8 p4
     go_simp
     obtain ⟨-, -, -, -, i0, i1, i2, i3, i5, i6, i7, i8, -, p4, -⟩ := HI.out
     exact hK.out _ _ ⟨qB x1, qB x3, qB x4, qB x6, qF i0, qF i1, qF i2, qP, qF i5, qF i6, qF i7, qF i8, hL, (fun h => by obtain ⟨⟨hs, hv⟩, ho⟩ := p4 h; exact ⟨⟨by rw [put_ne (show 24 ≠ 23 by decide)]; exact hs, rfl⟩, fun ht => by have ho := ho ht; exact (by rw [put_ne (show 24 ≠ 23 by decide)]; exact ho)⟩), hS, Br, Be⟩
   · refine qst fun g ac wc hn hk hr HI K' hK => ?_
     obtain ⟨x1, x3, x4, x6, i0, i1, i2, i3, i5, i6, i7, i8, hL, p4, hS, Br, Be⟩ := HI.out
     simp [Region.binds] at hr
     have y2 := i2 (by simp [hr])
     have y3 := i3 (by simp [hr])
     clear i0 i1 i2 i3 i5 i6 i7 i8 p4
     go_simp
     refine (w_l14OrderedS _ _ c o _ (HY.out.later hL) (HOr.out.later hL) HG.out.range).mono ?_
     rintro e w4 ⟨a4, l4, c4, rfl, hL4, ho4⟩
     rw [HLd.out] at ho4
     obtain ⟨a5, c5, e5⟩ := isSl_of ho4
     simp only [Value.slice.injEq] at e5
     obtain ⟨rfl, rfl, rfl⟩ := e5
     obtain ⟨-, -, -, -, i0, i1, i2, i3, i5, i6, i7, i8, -, p4, -⟩ := HI.out
     exact hK.out _ _ ⟨qB x1, qB x3, qB x4, qB x6, qF i0, qF i1, qF i2, qF i3, qF i5, qF i6, qF i7, qF i8, hL.trans hL4, (fun _ => ⟨⟨by rw [put_eq (by omega)]; exact ⟨_, _, rfl⟩, rfl⟩, fun _ => by rw [put_eq (by omega)]; exact owns_base ho4 hS⟩), Nat.le_trans hS hL4.size, (hL4.keep Br), (hL4.keep Be)⟩
   · refine qst fun g ac wc hn hk hr HI K' hK => ?_
     obtain ⟨x1, x3, x4, x6, i0, i1, i2, i3, i5, i6, i7, i8, hL, p4, hS, Br, Be⟩ := HI.out
     simp [Region.binds] at hr
     clear i0 i1 i2 i3 i5 i6 i7 i8 p4
     obtain ⟨c0, f0, z0⟩ := blk_at Be
     go_simp
     obtain ⟨-, -, -, -, i0, i1, i2, i3, i5, i6, i7, i8, -, p4, -⟩ := HI.out
     exact hK.out _ _ ⟨qB x1, qB x3, qB x4, qB x6, qF i0, qF i1, qF i2, qF i3, qP, qF i6, qF i7, qF i8, hL, (fun h => by obtain ⟨⟨hs, hv⟩, ho⟩ := p4 h; exact ⟨⟨by rw [put_ne (show 24 ≠ 25 by decide)]; exact hs, rfl⟩, fun ht => by have ho := ho ht; exact (by rw [put_ne (show 24 ≠ 25 by decide)]; exact ho)⟩), hS, Br, Be⟩
   · refine qst fun g ac wc hn hk hr HI K' hK => ?_
     obtain ⟨x1, x3, x4, x6, i0, i1, i2, i3, i5, i6, i7, i8, hL, p4, hS, Br, Be⟩ := HI.out
     simp [Region.binds] at hr
     have y1 := i1 (by simp [hr])
     have y5 := i5 (by simp [hr])
     obtain ⟨⟨⟨aa4, cc4, ff4⟩, y4⟩, ho4⟩ := p4 (by simp [hr])
     have ho4 := ho4 hk
     clear y4
     have y4 := ff4
     rw [ff4] at ho4
     have z4 := sl_get y4 (by omega)
     clear i0 i1 i2 i3 i5 i6 i7 i8 p4
     go_simp
     refine (w_l15Units n _ _ _ st sd L ea eb ec _ (H.out.later hL) (H'.out.later hL) (reads_of_owns ho4 (by omega)) HC.out HCh.out HE.out h1 h2).mono ?_
     rintro e w4 ⟨rfl, hL4⟩
     rw [HM.out]
     obtain ⟨-, -, -, -, i0, i1, i2, i3, i5, i6, i7, i8, -, p4, -⟩ := HI.out
     exact hK.out _ _ ⟨qB x1, qB x3, qB x4, qB x6, qF i0, qF i1, qF i2, qF i3, qF i5, qP, qF i7, qF i8, hL.trans hL4, (fun h => by obtain ⟨⟨hs, hv⟩, ho⟩ := p4 h; exact ⟨⟨by rw [put_ne (show 24 ≠ 26 by decide)]; exact hs, rfl⟩, fun h => absurd h (by simp)⟩), Nat.le_trans hS hL4.size, (hL4.keep Br), (hL4.keep Be)⟩
   · refine qst fun g ac wc hn hk hr HI K' hK => ?_
     obtain ⟨x1, x3, x4, x6, i0, i1, i2, i3, i5, i6, i7, i8, hL, p4, hS, Br, Be⟩ := HI.out
     simp [Region.binds] at hr
     have y0 := i0 (by simp [hr])
     clear i0 i1 i2 i3 i5 i6 i7 i8 p4
     go_simp
     obtain ⟨-, -, -, -, i0, i1, i2, i3, i5, i6, i7, i8, -, p4, -⟩ := HI.out
     exact hK.out _ _ ⟨qB x1, qB x3, qB x4, qB x6, qF i0, qF i1, qF i2, qF i3, qF i5, qF i6, qP, qF i8, hL, (fun h => by obtain ⟨⟨hs, hv⟩, ho⟩ := p4 h; exact ⟨⟨by rw [put_ne (show 24 ≠ 8 by decide)]; exact hs, rfl⟩, fun ht => by have ho := ho ht; exact (by rw [put_ne (show 24 ≠ 8 by decide)]; exact ho)⟩), hS, Br, Be⟩
   · refine qst fun g ac wc hn hk hr HI K' hK => ?_
     obtain ⟨x1, x3, x4, x6, i0, i1, i2, i3, i5, i6, i7, i8, hL, p4, hS, Br, Be⟩ := HI.out
     simp [Region.binds] at hr
     have y6 := i6 (by simp [hr])
     clear i0 i1 i2 i3 i5 i6 i7 i8 p4
     go_simp
     obtain ⟨-, -, -, -, i0, i1, i2, i3, i5, i6, i7, i8, -, p4, -⟩ := HI.out
     exact hK.out _ _ ⟨qB x1, qB x3, qB x4, qB x6, qF i0, qF i1, qF i2, qF i3, qF i5, qF i6, qF i7, qP, hL, (fun h => by obtain ⟨⟨hs, hv⟩, ho⟩ := p4 h; exact ⟨⟨by rw [put_ne (show 24 ≠ 9 by decide)]; exact hs, rfl⟩, fun ht => by have ho := ho ht; exact (by rw [put_ne (show 24 ≠ 9 by decide)]; exact ho)⟩), hS, Br, Be⟩
set_option maxHeartbeats 2000000 in
theorem w_l15Better (n : Int) (au av ay : Option Addr) (capu capv capy : Nat) (st sd : List Int) (c : List Trm) (ea eb ec : Int) (w0 : World) (h : IsNums w0 (.slice au st.length capu) st) (h' : IsNums w0 (.slice av sd.length capv) sd) (hy : IsTrms w0 (.slice ay c.length capy) c) (hC : hasI st 0 = true ∧ hasI sd 0 = true) (hc : isChain c = true) (he : isErs ⟨ea, eb, ec⟩ = true) (h1 : 1 ≤ n) (h2 : n ≤ 100000) :
 ∀ (m : Nat) (o : List Int) (ao : Option Addr) (lo capo base : Nat) (w : World), lo = o.length → o.length + m = c.length → GoodO c o → Later w0 w → w.ownsRow base 2 1 (.slice ao lo capo) lo (nums o) → (∃ x, ao = some x) → base ≤ w.heap.size →
 Calls Tryz.prog 93 #[.agg #[.int .i64 n, .slice au st.length capu, .slice av sd.length capv], .slice ay c.length capy, .agg #[.int .i64 ea, .int .i64 eb, .int .i64 ec], .slice ao lo capo] w fun e w' => ∃ a l k, e = .returned (.tuple #[.slice a l k, .int .i64 (bestO (costU n c ⟨ea, eb, ec⟩) (lvs c m o)).2]) ∧ Later w w' ∧ w'.ownsRow base 2 1 (.slice a l k) (bestO (costU n c ⟨ea, eb, ec⟩) (lvs c m o)).1.length (nums (bestO (costU n c ⟨ea, eb, ec⟩) (lvs c m o)).1) := by
 intro m
 induction m with
 | zero =>
  intro o ao lo capo base w hlo hl hg hL0 ho hao hb
  subst hlo
  exact w_l15Better0 n au av ay capu capv capy st sd c ea eb ec w0 h h' hy hC hc he h1 h2 o ao capo base w hl hg hL0 ho hb
 | succ m ih =>
  intro o ao lo capo base w hlo hl hg hL0 ho hao hb
  subst hlo
  have h6 := (isChain_true hc).2.1
  have HLw0 := Lib.hid hL0
  have HIH := Lib.hid ih
  have HW := Lib.hid h
  have H := Lib.hid (h.later hL0)
  have H' := Lib.hid (h'.later hL0)
  have HY := Lib.hid (hy.later hL0)
  have HOr := Lib.hid (reads_of_owns ho (by omega))
  have HO := Lib.hid ho
  have HG := Lib.hid hg
  have HAo := Lib.hid hao
  have hne : ((o.length : Int) == (c.length : Int)) = false := by simp; omega
  have HLn := Lib.hid hl
  have hO6 : o.length ≤ 6 := by omega
  have hyy := hy.later hL0
  clear ih hg ho hC hl
  obtain ⟨hz1, hz2, a0, cap0, hz3, hz4, hz5, hz6⟩ := hyy
  simp only [Value.slice.injEq] at hz3
  obtain ⟨rfl, -, rfl⟩ := hz3
  have HR1 := Lib.hid hz6
  clear h h' hy hz6 hz1 hao
  go_enter Tryz.func93, Tryz.ntmps93
  go_wp2
  go_loopw [10, 11, 12] (fun x y q wr => ∃ k : Nat, q = .int .i64 (k : Int) ∧ k ≤ c.length ∧ Later w wr ∧ wr.heap[w.heap.size]? = some (.cells #[.int .i64 n, .slice au st.length capu, .slice av sd.length capv] 26 (0, 0)) ∧ wr.heap[w.heap.size + 1]? = some (.cells #[.int .i64 ea, .int .i64 eb, .int .i64 ec] 60 (0, 0)) ∧ ∃ a l e BL BX, x = .slice a l e ∧ y = .int .i64 BX ∧ wr.ownsRow base 2 1 (.slice a l e) BL.length (nums BL) ∧ Hid (bestO (costU n c ⟨ea, eb, ec⟩) (partO c m o k) = (BL, BX))) (fun x y q _ => c.length - (intOf q).toNat)
  case atStart => exact ⟨0, rfl, Nat.zero_le _, (((Later.refl _).alloc _).alloc _).alloc _, heap_alloc_old _ _ (heap_alloc_old _ _ (heap_alloc_new _ _)), heap_alloc_old _ _ (heap_alloc_new' _ _ (by simp)), _, _, _, [], -1, rfl, rfl, (by have h := own_empty (w := (w.alloc (.cells #[.int .i64 n, .slice au st.length capu, .slice av sd.length capv] 26)).alloc (.cells #[.int .i64 ea, .int .i64 eb, .int .i64 ec] 60)) (base := base) (Nat.le_trans hb (by simp; try omega)) 2 1; simpa [nums] using h), rfl⟩
  case round =>
   obtain ⟨k, rfl, hk, hL, hKr, hKe, aB, lB, kB, BL, BX, rfl, rfl, hOB, HD⟩ := hrel
   have HLr := Lib.hid hL
   have HKr := Lib.hid hKr
   have HKe := Lib.hid hKe
   have HOB := Lib.hid hOB
   clear hL hOB
   by_cases hlt : k < c.length
   rotate_left
   · have HE := Lib.hid (show bestO (costU n c ⟨ea, eb, ec⟩) (lvs c (m + 1) o) = (BL, BX) from by rw [lvs_succ, ← show k = c.length by omega]; exact HD.out)
     clear hKr hKe
     go_wp2
     go_ret2
     exact ⟨aB, lB, kB, by rw [HE.out]; rfl, HLr.out, by rw [HE.out]; exact HOB.out⟩
   · obtain ⟨b1, off1, rfl, hr1⟩ := HR1.out (by omega)
     obtain ⟨t, ht⟩ := get_ex (l := c) (k := k) hlt
     have HT1 := Lib.hid ht
     have hgd := getD_of ht
     obtain ⟨c1_0, c1_1, c1_2⟩ := (hr1.later HLr.out).trm ht
     clear ht
     have hsk : skipO c o k = (hasI o ((k : Nat) : Int) || (o.isEmpty && t.dv)) := by unfold skipO; rw [hgd]
     clear hgd
     cases hh : hasI o ((k : Nat) : Int)
     rotate_left
     · have HH := Lib.hid hh
       have HN := Lib.hid (show bestO (costU n c ⟨ea, eb, ec⟩) (partO c m o (k + 1)) = (BL, BX) from by rw [partO_skip (by rw [hsk, hh]; rfl)]; exact HD.out)
       clear hh hsk
       obtain ⟨c0, f0, z0⟩ := blk_at hKr
       go_wp2_with fail
       refine (w_l01Has _ _ _ _ (HOr.out.later HLr.out)).mono ?_
       rintro e w1 ⟨rfl, rfl⟩
       rw [HH.out]
       go_wp2
       go_roundw
       case rel => exact ⟨k + 1, rfl, by omega, HLr.out, HKr.out, HKe.out, aB, lB, kB, BL, BX, rfl, rfl, HOB.out, HN.out⟩
       case measure => simp [intOf]; omega
     by_cases he : o = [] ∧ t.dv = true
     · have HH := Lib.hid hh
       have HN := Lib.hid (show bestO (costU n c ⟨ea, eb, ec⟩) (partO c m o (k + 1)) = (BL, BX) from by rw [partO_skip (by rw [hsk, hh, he.1, he.2]; rfl)]; exact HD.out)
       have hl0 : o.length = 0 := by rw [he.1]; rfl
       have hdv := he.2
       rw [hdv] at c1_2
       have hb0 : ((o.length : Int) == 0) = true := by simp [hl0]
       clear hh hsk he hl0 hdv
       obtain ⟨c0, f0, z0⟩ := blk_at hKr
       go_wp2_with fail
       refine (w_l01Has _ _ _ _ (HOr.out.later HLr.out)).mono ?_
       rintro e w1 ⟨rfl, rfl⟩
       rw [HH.out]
       go_wp2
       go_roundw
       case rel => exact ⟨k + 1, rfl, by omega, HLr.out, HKr.out, HKe.out, aB, lB, kB, BL, BX, rfl, rfl, HOB.out, HN.out⟩
       case measure => simp [intOf]; omega
     have hs : skipO c o k = false := by
      rw [hsk, hh, Bool.false_or]
      cases o with
      | nil => cases hd : t.dv with
       | false => rfl
       | true => exact absurd ⟨rfl, hd⟩ he
      | cons x o => rfl
     have HGn := Lib.hid (HG.out.snoc hlt hs)
     obtain ⟨⟨BL2, BX2⟩, hB2⟩ : ∃ x, bestO (costU n c ⟨ea, eb, ec⟩) (lvs c m (o ++ [((k : Nat) : Int)])) = x := ⟨_, rfl⟩
     have HB2x := Lib.hid (show (bestO (costU n c ⟨ea, eb, ec⟩) (lvs c m (o ++ [((k : Nat) : Int)]))).2 = BX2 from by rw [hB2])
     have HB2l := Lib.hid (show (bestO (costU n c ⟨ea, eb, ec⟩) (lvs c m (o ++ [((k : Nat) : Int)]))).1 = BL2 from by rw [hB2])
     have HN := Lib.hid (show bestO (costU n c ⟨ea, eb, ec⟩) (partO c m o (k + 1)) = mrgO (BL, BX) (BL2, BX2) from by rw [best_go (costU_nn n c ⟨ea, eb, ec⟩) hs (by have := HLn.out; omega), hB2, HD.out])
     have HH := Lib.hid hh
     clear hh hsk hs hB2
     rcases (show (o.length = 0 ∧ t.dv = false) ∨ ¬ o.length = 0 from by
      by_cases h0 : o.length = 0
      · left
        refine ⟨h0, ?_⟩
        cases hd : t.dv with
        | false => rfl
        | true => exact absurd ⟨List.eq_nil_of_length_eq_zero h0, hd⟩ he
      · exact .inr h0) with ⟨hl0, hdv⟩ | hl0
     · clear he
       rw [hdv] at c1_2
       have hb0 : ((o.length : Int) == 0) = true := by simp [hl0]
       clear hl0 hdv
       obtain ⟨c0, f0, z0⟩ := blk_at hKr
       go_wp2_with fail
       refine (w_l01Has _ _ _ _ (HOr.out.later HLr.out)).mono ?_
       rintro e w1 ⟨rfl, rfl⟩
       rw [HH.out]
       go_wp2_with fail
       refine wp_name ?_
       intro z hz
       have hLwz : Later w z := by rw [hz]; exact HLr.out
       have HLwz := Lib.hid hLwz
       have HLz0 := Lib.hid (HLw0.out.trans hLwz)
       have H := Lib.hid (H.out.later hLwz)
       have H' := Lib.hid (H'.out.later hLwz)
       have HY := Lib.hid (HY.out.later hLwz)
       have HOr := Lib.hid (HOr.out.later hLwz)
       have Kr := HKr.out
       have Ke := HKe.out
       rw [← hz] at Kr Ke
       have lt0 := (Array.getElem?_eq_some_iff.1 Kr).1
       have lt1 := (Array.getElem?_eq_some_iff.1 Ke).1
       have HOBz := Lib.hid (show z.ownsRow base 2 1 (.slice aB lB kB) BL.length (nums BL) from by rw [hz]; exact HOB.out)
       have hSB : z.heap.size ≤ z.heap.size := Nat.le_refl _
       have hBz := hLwz.size
       have hL0 := Later.refl z
       clear hz hLwz c0 f0 z0 c1_0 c1_1 c1_2
       refine region_slots 72 [50, 51, 52, 53, 54, 55, 56, 57, 58, 49, 59, 60, 13, 14] (fun g ac wc => sl ac 1 = .slice (some ⟨b1, off1, none⟩) c.length capy ∧
        sl ac 3 = .slice ao o.length capo ∧
        sl ac 4 = .pointer (some ⟨w.heap.size, 0, none⟩) ∧
        sl ac 6 = .pointer (some ⟨w.heap.size + 1, 0, none⟩) ∧
        sl ac 12 = .int .i64 ((k : Nat) : Int) ∧
        (g 0 = true → sl ac 50 = .agg #[.int .i64 n, .slice au st.length capu, .slice av sd.length capv]) ∧
        (g 1 = true → sl ac 51 = .slice (some ⟨b1, off1, none⟩) c.length capy) ∧
        (g 2 = true → sl ac 52 = .agg #[.int .i64 ea, .int .i64 eb, .int .i64 ec]) ∧
        (g 3 = true → sl ac 53 = .slice ao o.length capo) ∧
        (g 5 = true → sl ac 55 = .int .i64 ((k : Nat) : Int)) ∧
        (g 9 = true → sl ac 49 = .tuple #[qOf2 (sl ac 58), .int .i64 BX2]) ∧
        (g 10 = true → sl ac 59 = qOf2 (sl ac 58)) ∧
        (g 11 = true → sl ac 60 = .int .i64 BX2) ∧
        (g 12 = true → sl ac 13 = qOf2 (sl ac 58)) ∧
        (g 13 = true → sl ac 14 = .int .i64 BX2) ∧
        Later z wc ∧
        (g 4 = true → (IsSl (sl ac 54) (o.length) ∧ sl ac 54 = sl ac 54) ∧ (g 7 = false → wc.ownsRow z.heap.size 2 1 (sl ac 54) (o.length) (nums o))) ∧
        (g 6 = true → (∃ k, sl ac 56 = .slice (some ⟨k, 0, none⟩) 1 1) ∧ (g 7 = false → wc.ownsRow z.heap.size 2 1 (sl ac 56) (1) (nums [((k : Nat) : Int)]))) ∧
        (g 7 = true → (IsSl (sl ac 57) (o.length + 1)) ∧ (g 8 = false → wc.ownsRow z.heap.size 2 1 (sl ac 57) (o.length + 1) (nums (o ++ [((k : Nat) : Int)])))) ∧
        (g 8 = true → (IsSl (qOf2 (sl ac 58)) (BL2.length) ∧ sl ac 58 = .tuple #[qOf2 (sl ac 58), .int .i64 BX2]) ∧ wc.ownsRow z.heap.size 2 1 (qOf2 (sl ac 58)) (BL2.length) (nums BL2)) ∧
        (g 4 = true → g 6 = true → g 7 = false → g 7 = false → ∀ q, (sl ac 54).ownBlock = some q → (sl ac 56).ownBlock ≠ some q) ∧
        (g 7 = true → g 4 = true) ∧
        (g 7 = true → g 6 = true) ∧
        (g 9 = true → g 8 = true) ∧
        (g 10 = true → g 8 = true) ∧
        (g 12 = true → g 8 = true) ∧
        (g 8 = true → g 7 = true) ∧
        (g 10 = true → g 9 = true) ∧
        (g 12 = true → g 10 = true) ∧
        z.heap.size ≤ wc.heap.size ∧
        wc.heap[w.heap.size]? = some (.cells #[.int .i64 n, .slice au st.length capu, .slice av sd.length capv] 26 (0, 0)) ∧
        wc.heap[w.heap.size + 1]? = some (.cells #[.int .i64 ea, .int .i64 eb, .int .i64 ec] 60 (0, 0))) (by kernel_rfl) (by kernel_rfl) rfl (by kernel_rfl) ?_ ?_ ?_
       · exact ⟨rfl, rfl, rfl, rfl, rfl, nofun, nofun, nofun, nofun, nofun, nofun, nofun, nofun, nofun, nofun, hL0.drew, nofun, nofun, nofun, nofun, nofun, nofun, nofun, nofun, nofun, nofun, nofun, nofun, nofun, Nat.le_refl _, Kr, Ke⟩
       · intro g ac wu hg ha hI
         obtain ⟨x1, x3, x4, x6, x12, i0, i1, i2, i3, i5, i9, i10, i11, i12, i13, hL, p4, p6, p7, p8, -, -, -, -, -, -, -, -, -, hS, Br, Be⟩ := hI
         obtain ⟨⟨⟨ar4, capr4, f4⟩, e4⟩, -⟩ := p4 (hg 4 (by simp))
         clear e4
         have e4 := f4
         obtain ⟨⟨kr6, e6⟩, -⟩ := p6 (hg 6 (by simp))
         obtain ⟨⟨ar7, capr7, e7⟩, -⟩ := p7 (hg 7 (by simp))
         obtain ⟨⟨⟨ar8, capr8, f8⟩, e8⟩, HO8⟩ := p8 (hg 8 (by simp))
         rw [f8] at e8
         rw [f8] at HO8
         have a0 := i0 (hg 0 (by simp))
         have a1 := i1 (hg 1 (by simp))
         have a2 := i2 (hg 2 (by simp))
         have a3 := i3 (hg 3 (by simp))
         have a5 := i5 (hg 5 (by simp))
         have a9 := i9 (hg 9 (by simp))
         rw [e8] at a9
         have a10 := i10 (hg 10 (by simp))
         rw [e8] at a10
         have a11 := i11 (hg 11 (by simp))
         have a12 := i12 (hg 12 (by simp))
         rw [e8] at a12
         have a13 := i13 (hg 13 (by simp))
         simp only [putAll, e4, e6, e7, e8, a0, a1, a2, a3, a5, a9, a10, a11, a12, a13] at ha
         simp only [Act.put, List.setIfInBounds_toArray, List.set_cons_succ, List.set_cons_zero] at ha
         rw [ha]
         clear x1 x3 x4 x6 x12 i0 i1 i2 i3 i5 i9 i10 i11 i12 i13 a0 a1 a2 a3 a5 a9 a10 a11 a12 a13 p4 p6 p7 p8 e4 e6 e7 e8 f4 f8 hg ha
         have HKn := Lib.hid Br
         have HKe2 := Lib.hid Be
         have HL := Lib.hid (HLwz.out.trans hL)
         have HOn := Lib.hid (owns_base HO8 (Nat.le_trans hb hBz))
         have HOB2 := Lib.hid (owns_later HOBz.out hL)
         clear hL hS Br HO8 Be
         by_cases hm : BX < 0
         · have HF := Lib.hid (show mrgO (BL, BX) (BL2, BX2) = (BL2, BX2) from if_pos (.inl hm))
           go_wp2
           go_roundw
           case rel => exact ⟨k + 1, rfl, by omega, HL.out, HKn.out, HKe2.out, _, _, _, BL2, BX2, rfl, rfl, HOn.out, by rw [HN.out]; exact HF.out⟩
           case measure => simp [intOf]; omega
         · by_cases hm2 : BX2 < BX
           · have HF := Lib.hid (show mrgO (BL, BX) (BL2, BX2) = (BL2, BX2) from if_pos (.inr hm2))
             go_wp2
             go_roundw
             case rel => exact ⟨k + 1, rfl, by omega, HL.out, HKn.out, HKe2.out, _, _, _, BL2, BX2, rfl, rfl, HOn.out, by rw [HN.out]; exact HF.out⟩
             case measure => simp [intOf]; omega
           · have HF := Lib.hid (show mrgO (BL, BX) (BL2, BX2) = (BL, BX) from if_neg (by rintro (e | e) <;> simp only at e <;> omega))
             go_wp2
             go_roundw
             case rel => exact ⟨k + 1, rfl, by omega, HL.out, HKn.out, HKe2.out, aB, lB, kB, BL, BX, rfl, rfl, HOB2.out, by rw [HN.out]; exact HF.out⟩
             case measure => simp [intOf]; omega
       · refine .cons ?_ (.cons ?_ (.cons ?_ (.cons ?_ (.cons ?_ (.cons ?_ (.cons ?_ (.cons ?_ (.cons ?_ (.cons ?_ (.cons ?_ (.cons ?_ (.cons ?_ (.cons ?_ .nil)))))))))))))
         · refine qst fun g ac wc hn hk hr HI K' hK => ?_
           obtain ⟨x1, x3, x4, x6, x12, i0, i1, i2, i3, i5, i9, i10, i11, i12, i13, hL, p4, p6, p7, p8, d4_6, m7_4, m7_6, m9_8, m10_8, m12_8, m8_7, m10_9, m12_10, hS, Br, Be⟩ := HI.out
           simp [Region.binds] at hr
           clear i0 i1 i2 i3 i5 i9 i10 i11 i12 i13 d4_6 p4 p6 p7 p8
           obtain ⟨c0, f0, z0⟩ := blk_at Br
           go_simp
           obtain ⟨-, -, -, -, -, i0, i1, i2, i3, i5, i9, i10, i11, i12, i13, -, p4, p6, p7, p8, d4_6, -⟩ := HI.out
           exact hK.out _ _ ⟨qB x1, qB x3, qB x4, qB x6, qB x12, qP, qF i1, qF i2, qF i3, qF i5, (fun h => by rw [put_ne (show 49 ≠ 50 by decide), put_ne (show 58 ≠ 50 by decide)]; exact i9 h), (fun h => by rw [put_ne (show 59 ≠ 50 by decide), put_ne (show 58 ≠ 50 by decide)]; exact i10 h), qF i11, (fun h => by rw [put_ne (show 13 ≠ 50 by decide), put_ne (show 58 ≠ 50 by decide)]; exact i12 h), qF i13, hL, (fun h => by obtain ⟨⟨hs, hv⟩, ho⟩ := p4 h; exact ⟨⟨by rw [put_ne (show 54 ≠ 50 by decide)]; exact hs, rfl⟩, fun ht => by have ho := ho ht; exact (by rw [put_ne (show 54 ≠ 50 by decide)]; exact ho)⟩), (fun h => by obtain ⟨hs, ho⟩ := p6 h; exact ⟨(by rw [put_ne (show 56 ≠ 50 by decide)]; exact hs), fun ht => by have ho := ho ht; exact (by rw [put_ne (show 56 ≠ 50 by decide)]; exact ho)⟩), (fun h => by obtain ⟨hs, ho⟩ := p7 h; exact ⟨(by rw [put_ne (show 57 ≠ 50 by decide)]; exact hs), fun ht => by have ho := ho ht; exact (by rw [put_ne (show 57 ≠ 50 by decide)]; exact ho)⟩), (fun h => by obtain ⟨⟨hs, hv⟩, ho⟩ := p8 h; exact ⟨⟨by rw [put_ne (show 58 ≠ 50 by decide)]; exact hs, by rw [put_ne (show 58 ≠ 50 by decide)]; exact hv⟩, (by rw [put_ne (show 58 ≠ 50 by decide)]; exact ho)⟩), (fun h h' ht ht' => by rw [put_ne (show 54 ≠ 50 by decide), put_ne (show 56 ≠ 50 by decide)]; exact d4_6 h h' ht ht' ), m7_4, m7_6, m9_8, m10_8, m12_8, m8_7, m10_9, m12_10, hS, Br, Be⟩
         · refine qst fun g ac wc hn hk hr HI K' hK => ?_
           obtain ⟨x1, x3, x4, x6, x12, i0, i1, i2, i3, i5, i9, i10, i11, i12, i13, hL, p4, p6, p7, p8, d4_6, m7_4, m7_6, m9_8, m10_8, m12_8, m8_7, m10_9, m12_10, hS, Br, Be⟩ := HI.out
           simp [Region.binds] at hr
           clear i0 i1 i2 i3 i5 i9 i10 i11 i12 i13 d4_6 p4 p6 p7 p8
           go_simp
           obtain ⟨-, -, -, -, -, i0, i1, i2, i3, i5, i9, i10, i11, i12, i13, -, p4, p6, p7, p8, d4_6, -⟩ := HI.out
           exact hK.out _ _ ⟨qB x1, qB x3, qB x4, qB x6, qB x12, qF i0, qP, qF i2, qF i3, qF i5, (fun h => by rw [put_ne (show 49 ≠ 51 by decide), put_ne (show 58 ≠ 51 by decide)]; exact i9 h), (fun h => by rw [put_ne (show 59 ≠ 51 by decide), put_ne (show 58 ≠ 51 by decide)]; exact i10 h), qF i11, (fun h => by rw [put_ne (show 13 ≠ 51 by decide), put_ne (show 58 ≠ 51 by decide)]; exact i12 h), qF i13, hL, (fun h => by obtain ⟨⟨hs, hv⟩, ho⟩ := p4 h; exact ⟨⟨by rw [put_ne (show 54 ≠ 51 by decide)]; exact hs, rfl⟩, fun ht => by have ho := ho ht; exact (by rw [put_ne (show 54 ≠ 51 by decide)]; exact ho)⟩), (fun h => by obtain ⟨hs, ho⟩ := p6 h; exact ⟨(by rw [put_ne (show 56 ≠ 51 by decide)]; exact hs), fun ht => by have ho := ho ht; exact (by rw [put_ne (show 56 ≠ 51 by decide)]; exact ho)⟩), (fun h => by obtain ⟨hs, ho⟩ := p7 h; exact ⟨(by rw [put_ne (show 57 ≠ 51 by decide)]; exact hs), fun ht => by have ho := ho ht; exact (by rw [put_ne (show 57 ≠ 51 by decide)]; exact ho)⟩), (fun h => by obtain ⟨⟨hs, hv⟩, ho⟩ := p8 h; exact ⟨⟨by rw [put_ne (show 58 ≠ 51 by decide)]; exact hs, by rw [put_ne (show 58 ≠ 51 by decide)]; exact hv⟩, (by rw [put_ne (show 58 ≠ 51 by decide)]; exact ho)⟩), (fun h h' ht ht' => by rw [put_ne (show 54 ≠ 51 by decide), put_ne (show 56 ≠ 51 by decide)]; exact d4_6 h h' ht ht' ), m7_4, m7_6, m9_8, m10_8, m12_8, m8_7, m10_9, m12_10, hS, Br, Be⟩
         · refine qst fun g ac wc hn hk hr HI K' hK => ?_
           obtain ⟨x1, x3, x4, x6, x12, i0, i1, i2, i3, i5, i9, i10, i11, i12, i13, hL, p4, p6, p7, p8, d4_6, m7_4, m7_6, m9_8, m10_8, m12_8, m8_7, m10_9, m12_10, hS, Br, Be⟩ := HI.out
           simp [Region.binds] at hr
           clear i0 i1 i2 i3 i5 i9 i10 i11 i12 i13 d4_6 p4 p6 p7 p8
           obtain ⟨c0, f0, z0⟩ := blk_at Be
           go_simp
           obtain ⟨-, -, -, -, -, i0, i1, i2, i3, i5, i9, i10, i11, i12, i13, -, p4, p6, p7, p8, d4_6, -⟩ := HI.out
           exact hK.out _ _ ⟨qB x1, qB x3, qB x4, qB x6, qB x12, qF i0, qF i1, qP, qF i3, qF i5, (fun h => by rw [put_ne (show 49 ≠ 52 by decide), put_ne (show 58 ≠ 52 by decide)]; exact i9 h), (fun h => by rw [put_ne (show 59 ≠ 52 by decide), put_ne (show 58 ≠ 52 by decide)]; exact i10 h), qF i11, (fun h => by rw [put_ne (show 13 ≠ 52 by decide), put_ne (show 58 ≠ 52 by decide)]; exact i12 h), qF i13, hL, (fun h => by obtain ⟨⟨hs, hv⟩, ho⟩ := p4 h; exact ⟨⟨by rw [put_ne (show 54 ≠ 52 by decide)]; exact hs, rfl⟩, fun ht => by have ho := ho ht; exact (by rw [put_ne (show 54 ≠ 52 by decide)]; exact ho)⟩), (fun h => by obtain ⟨hs, ho⟩ := p6 h; exact ⟨(by rw [put_ne (show 56 ≠ 52 by decide)]; exact hs), fun ht => by have ho := ho ht; exact (by rw [put_ne (show 56 ≠ 52 by decide)]; exact ho)⟩), (fun h => by obtain ⟨hs, ho⟩ := p7 h; exact ⟨(by rw [put_ne (show 57 ≠ 52 by decide)]; exact hs), fun ht => by have ho := ho ht; exact (by rw [put_ne (show 57 ≠ 52 by decide)]; exact ho)⟩), (fun h => by obtain ⟨⟨hs, hv⟩, ho⟩ := p8 h; exact ⟨⟨by rw [put_ne (show 58 ≠ 52 by decide)]; exact hs, by rw [put_ne (show 58 ≠ 52 by decide)]; exact hv⟩, (by rw [put_ne (show 58 ≠ 52 by decide)]; exact ho)⟩), (fun h h' ht ht' => by rw [put_ne (show 54 ≠ 52 by decide), put_ne (show 56 ≠ 52 by decide)]; exact d4_6 h h' ht ht' ), m7_4, m7_6, m9_8, m10_8, m12_8, m8_7, m10_9, m12_10, hS, Br, Be⟩
         · refine qst fun g ac wc hn hk hr HI K' hK => ?_
           obtain ⟨x1, x3, x4, x6, x12, i0, i1, i2, i3, i5, i9, i10, i11, i12, i13, hL, p4, p6, p7, p8, d4_6, m7_4, m7_6, m9_8, m10_8, m12_8, m8_7, m10_9, m12_10, hS, Br, Be⟩ := HI.out
           simp [Region.binds] at hr
           clear i0 i1 i2 i3 i5 i9 i10 i11 i12 i13 d4_6 p4 p6 p7 p8
           go_simp
           obtain ⟨-, -, -, -, -, i0, i1, i2, i3, i5, i9, i10, i11, i12, i13, -, p4, p6, p7, p8, d4_6, -⟩ := HI.out
           exact hK.out _ _ ⟨qB x1, qB x3, qB x4, qB x6, qB x12, qF i0, qF i1, qF i2, qP, qF i5, (fun h => by rw [put_ne (show 49 ≠ 53 by decide), put_ne (show 58 ≠ 53 by decide)]; exact i9 h), (fun h => by rw [put_ne (show 59 ≠ 53 by decide), put_ne (show 58 ≠ 53 by decide)]; exact i10 h), qF i11, (fun h => by rw [put_ne (show 13 ≠ 53 by decide), put_ne (show 58 ≠ 53 by decide)]; exact i12 h), qF i13, hL, (fun h => by obtain ⟨⟨hs, hv⟩, ho⟩ := p4 h; exact ⟨⟨by rw [put_ne (show 54 ≠ 53 by decide)]; exact hs, rfl⟩, fun ht => by have ho := ho ht; exact (by rw [put_ne (show 54 ≠ 53 by decide)]; exact ho)⟩), (fun h => by obtain ⟨hs, ho⟩ := p6 h; exact ⟨(by rw [put_ne (show 56 ≠ 53 by decide)]; exact hs), fun ht => by have ho := ho ht; exact (by rw [put_ne (show 56 ≠ 53 by decide)]; exact ho)⟩), (fun h => by obtain ⟨hs, ho⟩ := p7 h; exact ⟨(by rw [put_ne (show 57 ≠ 53 by decide)]; exact hs), fun ht => by have ho := ho ht; exact (by rw [put_ne (show 57 ≠ 53 by decide)]; exact ho)⟩), (fun h => by obtain ⟨⟨hs, hv⟩, ho⟩ := p8 h; exact ⟨⟨by rw [put_ne (show 58 ≠ 53 by decide)]; exact hs, by rw [put_ne (show 58 ≠ 53 by decide)]; exact hv⟩, (by rw [put_ne (show 58 ≠ 53 by decide)]; exact ho)⟩), (fun h h' ht ht' => by rw [put_ne (show 54 ≠ 53 by decide), put_ne (show 56 ≠ 53 by decide)]; exact d4_6 h h' ht ht' ), m7_4, m7_6, m9_8, m10_8, m12_8, m8_7, m10_9, m12_10, hS, Br, Be⟩
         · refine qst fun g ac wc hn hk hr HI K' hK => ?_
           obtain ⟨x1, x3, x4, x6, x12, i0, i1, i2, i3, i5, i9, i10, i11, i12, i13, hL, p4, p6, p7, p8, d4_6, m7_4, m7_6, m9_8, m10_8, m12_8, m8_7, m10_9, m12_10, hS, Br, Be⟩ := HI.out
           simp [Region.binds] at hr
           have y3 := i3 (by simp [hr])
           clear i0 i1 i2 i3 i5 i9 i10 i11 i12 i13 d4_6 p4 p6 p7 p8
           go_simp
           refine (w_l01OwnP ao o.length capo o _ (HOr.out.later hL) HAo.out).mono ?_
           rintro e w4 ⟨a4, l4, c4, rfl, hL4, ho4⟩
           obtain ⟨a5, c5, e5⟩ := isSl_of ho4
           simp only [Value.slice.injEq] at e5
           obtain ⟨rfl, rfl, rfl⟩ := e5
           obtain ⟨-, -, -, -, -, i0, i1, i2, i3, i5, i9, i10, i11, i12, i13, -, p4, p6, p7, p8, d4_6, -⟩ := HI.out
           exact hK.out _ _ ⟨qB x1, qB x3, qB x4, qB x6, qB x12, qF i0, qF i1, qF i2, qF i3, qF i5, (fun h => by rw [put_ne (show 49 ≠ 54 by decide), put_ne (show 58 ≠ 54 by decide)]; exact i9 h), (fun h => by rw [put_ne (show 59 ≠ 54 by decide), put_ne (show 58 ≠ 54 by decide)]; exact i10 h), qF i11, (fun h => by rw [put_ne (show 13 ≠ 54 by decide), put_ne (show 58 ≠ 54 by decide)]; exact i12 h), qF i13, hL.trans hL4, (fun _ => ⟨⟨by rw [put_eq (by omega)]; exact ⟨_, _, rfl⟩, rfl⟩, fun _ => by rw [put_eq (by omega)]; exact owns_base ho4 hS⟩), (fun h => by obtain ⟨hs, ho⟩ := p6 h; exact ⟨(by rw [put_ne (show 56 ≠ 54 by decide)]; exact hs), fun ht => by have ho := ho ht; exact (by rw [put_ne (show 56 ≠ 54 by decide)]; exact (owns_later ho hL4))⟩), (fun h => by obtain ⟨hs, ho⟩ := p7 h; exact ⟨(by rw [put_ne (show 57 ≠ 54 by decide)]; exact hs), fun ht => by have ho := ho ht; exact (by rw [put_ne (show 57 ≠ 54 by decide)]; exact (owns_later ho hL4))⟩), (fun h => by obtain ⟨⟨hs, hv⟩, ho⟩ := p8 h; exact ⟨⟨by rw [put_ne (show 58 ≠ 54 by decide)]; exact hs, by rw [put_ne (show 58 ≠ 54 by decide)]; exact hv⟩, (by rw [put_ne (show 58 ≠ 54 by decide)]; exact (owns_later ho hL4))⟩), (fun h h' ht ht' q hq => by rw [put_eq (by omega)] at hq; rw [put_ne (show 56 ≠ 54 by decide)]; have ho := (p6 h').2 ht'; intro e; have h8 := ho.lt q e; have h9 := (ho4.lt q hq).1; omega), (fun _ => rfl), m7_6, m9_8, m10_8, m12_8, m8_7, m10_9, m12_10, Nat.le_trans hS hL4.size, (hL4.keep Br), (hL4.keep Be)⟩
         · refine qst fun g ac wc hn hk hr HI K' hK => ?_
           obtain ⟨x1, x3, x4, x6, x12, i0, i1, i2, i3, i5, i9, i10, i11, i12, i13, hL, p4, p6, p7, p8, d4_6, m7_4, m7_6, m9_8, m10_8, m12_8, m8_7, m10_9, m12_10, hS, Br, Be⟩ := HI.out
           simp [Region.binds] at hr
           clear i0 i1 i2 i3 i5 i9 i10 i11 i12 i13 d4_6 p4 p6 p7 p8
           go_simp
           obtain ⟨-, -, -, -, -, i0, i1, i2, i3, i5, i9, i10, i11, i12, i13, -, p4, p6, p7, p8, d4_6, -⟩ := HI.out
           exact hK.out _ _ ⟨qB x1, qB x3, qB x4, qB x6, qB x12, qF i0, qF i1, qF i2, qF i3, qP, (fun h => by rw [put_ne (show 49 ≠ 55 by decide), put_ne (show 58 ≠ 55 by decide)]; exact i9 h), (fun h => by rw [put_ne (show 59 ≠ 55 by decide), put_ne (show 58 ≠ 55 by decide)]; exact i10 h), qF i11, (fun h => by rw [put_ne (show 13 ≠ 55 by decide), put_ne (show 58 ≠ 55 by decide)]; exact i12 h), qF i13, hL, (fun h => by obtain ⟨⟨hs, hv⟩, ho⟩ := p4 h; exact ⟨⟨by rw [put_ne (show 54 ≠ 55 by decide)]; exact hs, rfl⟩, fun ht => by have ho := ho ht; exact (by rw [put_ne (show 54 ≠ 55 by decide)]; exact ho)⟩), (fun h => by obtain ⟨hs, ho⟩ := p6 h; exact ⟨(by rw [put_ne (show 56 ≠ 55 by decide)]; exact hs), fun ht => by have ho := ho ht; exact (by rw [put_ne (show 56 ≠ 55 by decide)]; exact ho)⟩), (fun h => by obtain ⟨hs, ho⟩ := p7 h; exact ⟨(by rw [put_ne (show 57 ≠ 55 by decide)]; exact hs), fun ht => by have ho := ho ht; exact (by rw [put_ne (show 57 ≠ 55 by decide)]; exact ho)⟩), (fun h => by obtain ⟨⟨hs, hv⟩, ho⟩ := p8 h; exact ⟨⟨by rw [put_ne (show 58 ≠ 55 by decide)]; exact hs, by rw [put_ne (show 58 ≠ 55 by decide)]; exact hv⟩, (by rw [put_ne (show 58 ≠ 55 by decide)]; exact ho)⟩), (fun h h' ht ht' => by rw [put_ne (show 54 ≠ 55 by decide), put_ne (show 56 ≠ 55 by decide)]; exact d4_6 h h' ht ht' ), m7_4, m7_6, m9_8, m10_8, m12_8, m8_7, m10_9, m12_10, hS, Br, Be⟩
         · refine qst fun g ac wc hn hk hr HI K' hK => ?_
           obtain ⟨x1, x3, x4, x6, x12, i0, i1, i2, i3, i5, i9, i10, i11, i12, i13, hL, p4, p6, p7, p8, d4_6, m7_4, m7_6, m9_8, m10_8, m12_8, m8_7, m10_9, m12_10, hS, Br, Be⟩ := HI.out
           simp [Region.binds] at hr
           have y5 := i5 (by simp [hr])
           have z5 := sl_get y5 (by omega)
           clear i0 i1 i2 i3 i5 i9 i10 i11 i12 i13 d4_6 p4 p6 p7 p8
           go_simp
           have hL4 := (Later.refl wc).alloc (.cells #[.int .i64 ((k : Nat) : Int)] 2)
           obtain ⟨-, -, -, -, -, i0, i1, i2, i3, i5, i9, i10, i11, i12, i13, -, p4, p6, p7, p8, d4_6, -⟩ := HI.out
           exact hK.out _ _ ⟨qB x1, qB x3, qB x4, qB x6, qB x12, qF i0, qF i1, qF i2, qF i3, qF i5, (fun h => by rw [put_ne (show 49 ≠ 56 by decide), put_ne (show 58 ≠ 56 by decide)]; exact i9 h), (fun h => by rw [put_ne (show 59 ≠ 56 by decide), put_ne (show 58 ≠ 56 by decide)]; exact i10 h), qF i11, (fun h => by rw [put_ne (show 13 ≠ 56 by decide), put_ne (show 58 ≠ 56 by decide)]; exact i12 h), qF i13, hL.alloc _, (fun h => by obtain ⟨⟨hs, hv⟩, ho⟩ := p4 h; exact ⟨⟨by rw [put_ne (show 54 ≠ 56 by decide)]; exact hs, rfl⟩, fun ht => by have ho := ho ht; exact (by rw [put_ne (show 54 ≠ 56 by decide)]; exact (owns_later ho hL4))⟩), (fun _ => ⟨⟨wc.heap.size, put_eq (by omega)⟩, fun _ => by rw [put_eq (by omega)]; exact World.ownsRow_lit wc #[.int .i64 ((k : Nat) : Int)] 1 hS (by decide) (by simp)⟩), (fun h => by obtain ⟨hs, ho⟩ := p7 h; exact ⟨(by rw [put_ne (show 57 ≠ 56 by decide)]; exact hs), fun ht => by have ho := ho ht; exact (by rw [put_ne (show 57 ≠ 56 by decide)]; exact (owns_later ho hL4))⟩), (fun h => by obtain ⟨⟨hs, hv⟩, ho⟩ := p8 h; exact ⟨⟨by rw [put_ne (show 58 ≠ 56 by decide)]; exact hs, by rw [put_ne (show 58 ≠ 56 by decide)]; exact hv⟩, (by rw [put_ne (show 58 ≠ 56 by decide)]; exact (owns_later ho hL4))⟩), (fun h h' ht ht' q hq => by rw [put_ne (show 54 ≠ 56 by decide)] at hq; rw [put_eq (by omega)]; have ho := (p4 h).2 ht; have := ho.lt q hq; simp [Value.ownBlock]; omega), m7_4, (fun _ => rfl), m9_8, m10_8, m12_8, m8_7, m10_9, m12_10, (by simp; omega), (hL4.keep Br), (hL4.keep Be)⟩
         · refine qst fun g ac wc hn hk hr HI K' hK => ?_
           obtain ⟨x1, x3, x4, x6, x12, i0, i1, i2, i3, i5, i9, i10, i11, i12, i13, hL, p4, p6, p7, p8, d4_6, m7_4, m7_6, m9_8, m10_8, m12_8, m8_7, m10_9, m12_10, hS, Br, Be⟩ := HI.out
           simp [Region.binds] at hr
           replace i0 := Lib.hid i0
           replace i1 := Lib.hid i1
           replace i2 := Lib.hid i2
           replace i3 := Lib.hid i3
           replace i5 := Lib.hid i5
           replace i9 := Lib.hid i9
           replace i10 := Lib.hid i10
           replace i11 := Lib.hid i11
           replace i12 := Lib.hid i12
           replace i13 := Lib.hid i13
           replace d4_6 := Lib.hid d4_6
           replace p4 := Lib.hid p4
           replace p6 := Lib.hid p6
           replace p7 := Lib.hid p7
           replace p8 := Lib.hid p8
           have gA : g 4 = true := (by simp [hr])
           obtain ⟨hsA, hoA⟩ := p4.out gA
           have hoA := hoA hk
           have gX : g 6 = true := (by simp [hr])
           obtain ⟨⟨kx, ex⟩, hoX⟩ := p6.out gX
           have hoX := hoX hk
           rw [ex] at hoX
           refine wpA_Int64 (.tmp 54) (.tmp 56) rfl z.heap.size (sl ac 54) o rfl hoA ⟨kx, 0, none⟩ 1 1 [((k : Nat) : Int)] ex rfl (row_add hoX) (by simp; omega) hS ?_
           intro v4 w4 ho4 hg4 hat4
           rw [show (o ++ [((k : Nat) : Int)]).length = o.length + 1 from by simp] at ho4
           have hL4 : Below z.heap.size wc w4 := Below.grown (Below.refl _ _) hg4 hS (fun k e => (hoA.lt k e).1)
           exact hK.out _ _ ⟨qB x1, qB x3, qB x4, qB x6, qB x12, qF i0.out, qF i1.out, qF i2.out, qF i3.out, qF i5.out, (fun h => by rw [put_ne (show 49 ≠ 57 by decide), put_ne (show 58 ≠ 57 by decide)]; exact i9.out h), (fun h => by rw [put_ne (show 59 ≠ 57 by decide), put_ne (show 58 ≠ 57 by decide)]; exact i10.out h), qF i11.out, (fun h => by rw [put_ne (show 13 ≠ 57 by decide), put_ne (show 58 ≠ 57 by decide)]; exact i12.out h), qF i13.out, Below.trans hL (hL4.mono hSB), (fun h => by obtain ⟨⟨hs, hv⟩, ho⟩ := p4.out h; exact ⟨⟨by rw [put_ne (show 54 ≠ 57 by decide)]; exact hs, rfl⟩, fun h => absurd h (by simp)⟩), (fun h => by obtain ⟨hs, ho⟩ := p6.out h; exact ⟨(by rw [put_ne (show 56 ≠ 57 by decide)]; exact hs), fun h => absurd h (by simp)⟩), (fun _ => ⟨by rw [put_eq (by omega)]; exact isSl_of ho4, fun _ => by rw [put_eq (by omega)]; exact ho4⟩), (fun h => absurd (m8_7 h) (by rw [hk]; simp)), (fun h h' ht => absurd ht (by simp)), (fun _ => gA), (fun _ => gX), m9_8, m10_8, m12_8, (fun _ => rfl), m10_9, m12_10, Nat.le_trans hS hL4.size, ((hL4.block _ (by omega)).trans Br), ((hL4.block _ (by omega)).trans Be)⟩
         · refine qst fun g ac wc hn hk hr HI K' hK => ?_
           obtain ⟨x1, x3, x4, x6, x12, i0, i1, i2, i3, i5, i9, i10, i11, i12, i13, hL, p4, p6, p7, p8, d4_6, m7_4, m7_6, m9_8, m10_8, m12_8, m8_7, m10_9, m12_10, hS, Br, Be⟩ := HI.out
           simp [Region.binds] at hr
           have y0 := i0 (by simp [hr])
           have y1 := i1 (by simp [hr])
           have y2 := i2 (by simp [hr])
           have gm7 : g 7 = true := by first | exact m8_7 (by simp [hr]) | exact hr | exact hr.1 | exact hr.2 | exact hr.2.1 | simp [hr]
           obtain ⟨⟨aa7, cc7, y7⟩, ho7⟩ := p7 (by simp [hr])
           have ho7 := ho7 hk
           rw [y7] at ho7
           have z7 := sl_get y7 (by omega)
           have z0 := sl_get y0 (by omega)
           have z1 := sl_get y1 (by omega)
           have z2 := sl_get y2 (by omega)
           clear i0 i1 i2 i3 i5 i9 i10 i11 i12 i13 d4_6 p4 p6 p7 p8
           go_simp
           refine (HIH.out (o ++ [((k : Nat) : Int)]) aa7 (o.length + 1) cc7 z.heap.size wc (by simp) (by have := HLn.out; rw [List.length_append]; simp; omega) HGn.out (HLz0.out.trans hL) ho7 (own_some ho7 (by omega)) hS).mono ?_
           rintro e w4 ⟨a4, l4, c4, rfl, hL4, ho4⟩
           rw [HB2x.out]
           rw [HB2l.out] at ho4
           obtain ⟨a5, c5, e5⟩ := isSl_of ho4
           simp only [Value.slice.injEq] at e5
           obtain ⟨rfl, rfl, rfl⟩ := e5
           obtain ⟨-, -, -, -, -, i0, i1, i2, i3, i5, i9, i10, i11, i12, i13, -, p4, p6, p7, p8, d4_6, -⟩ := HI.out
           exact hK.out _ _ ⟨qB x1, qB x3, qB x4, qB x6, qB x12, qF i0, qF i1, qF i2, qF i3, qF i5, (fun h => absurd (m9_8 h) (by rw [hk]; simp)), (fun h => absurd (m10_8 h) (by rw [hk]; simp)), qF i11, (fun h => absurd (m12_8 h) (by rw [hk]; simp)), qF i13, hL.trans hL4, (fun h => by obtain ⟨⟨hs, hv⟩, ho⟩ := p4 h; exact ⟨⟨by rw [put_ne (show 54 ≠ 58 by decide)]; exact hs, rfl⟩, fun ht => by have ho := ho ht; exact (by rw [put_ne (show 54 ≠ 58 by decide)]; exact (owns_later ho hL4))⟩), (fun h => by obtain ⟨hs, ho⟩ := p6 h; exact ⟨(by rw [put_ne (show 56 ≠ 58 by decide)]; exact hs), fun ht => by have ho := ho ht; exact (by rw [put_ne (show 56 ≠ 58 by decide)]; exact (owns_later ho hL4))⟩), (fun h => by obtain ⟨hs, ho⟩ := p7 h; exact ⟨(by rw [put_ne (show 57 ≠ 58 by decide)]; exact hs), fun h => absurd h (by simp)⟩), (fun _ => ⟨⟨by rw [put_eq (by omega)]; exact ⟨_, _, rfl⟩, by rw [put_eq (by omega)]; rfl⟩, by rw [put_eq (by omega)]; exact ho4⟩), (fun h h' ht ht' => by rw [put_ne (show 54 ≠ 58 by decide), put_ne (show 56 ≠ 58 by decide)]; exact d4_6 h h' ht ht' ), m7_4, m7_6, (fun _ => rfl), (fun _ => rfl), (fun _ => rfl), (fun _ => gm7), m10_9, m12_10, Nat.le_trans hS hL4.size, (hL4.keep Br), (hL4.keep Be)⟩
         · refine qst fun g ac wc hn hk hr HI K' hK => ?_
           obtain ⟨x1, x3, x4, x6, x12, i0, i1, i2, i3, i5, i9, i10, i11, i12, i13, hL, p4, p6, p7, p8, d4_6, m7_4, m7_6, m9_8, m10_8, m12_8, m8_7, m10_9, m12_10, hS, Br, Be⟩ := HI.out
           simp [Region.binds] at hr
           have gm8 : g 8 = true := by first | exact m9_8 (by simp [hr]) | exact hr | exact hr.1 | exact hr.2 | exact hr.2.1 | simp [hr]
           obtain ⟨⟨⟨aa8, cc8, ff8⟩, y8⟩, ho8⟩ := p8 (by simp [hr])
           rw [ff8] at y8 ho8
           have z8 := sl_get y8 (by omega)
           clear i0 i1 i2 i3 i5 i9 i10 i11 i12 i13 d4_6 p4 p6 p7 p8
           go_simp
           obtain ⟨-, -, -, -, -, i0, i1, i2, i3, i5, i9, i10, i11, i12, i13, -, p4, p6, p7, p8, d4_6, -⟩ := HI.out
           exact hK.out _ _ ⟨qB x1, qB x3, qB x4, qB x6, qB x12, qF i0, qF i1, qF i2, qF i3, qF i5, (fun _ => by rw [put_ne (show 58 ≠ 49 by decide), y8]; exact put_eq (a := ac) (i := 49) (by omega)), (fun h => absurd (m10_9 h) (by rw [hk]; simp)), qF i11, (fun h => by rw [put_ne (show 13 ≠ 49 by decide), put_ne (show 58 ≠ 49 by decide)]; exact i12 h), qF i13, hL, (fun h => by obtain ⟨⟨hs, hv⟩, ho⟩ := p4 h; exact ⟨⟨by rw [put_ne (show 54 ≠ 49 by decide)]; exact hs, rfl⟩, fun ht => by have ho := ho ht; exact (by rw [put_ne (show 54 ≠ 49 by decide)]; exact ho)⟩), (fun h => by obtain ⟨hs, ho⟩ := p6 h; exact ⟨(by rw [put_ne (show 56 ≠ 49 by decide)]; exact hs), fun ht => by have ho := ho ht; exact (by rw [put_ne (show 56 ≠ 49 by decide)]; exact ho)⟩), (fun h => by obtain ⟨hs, ho⟩ := p7 h; exact ⟨(by rw [put_ne (show 57 ≠ 49 by decide)]; exact hs), fun ht => by have ho := ho ht; exact (by rw [put_ne (show 57 ≠ 49 by decide)]; exact ho)⟩), (fun h => by obtain ⟨⟨hs, hv⟩, ho⟩ := p8 h; exact ⟨⟨by rw [put_ne (show 58 ≠ 49 by decide)]; exact hs, by rw [put_ne (show 58 ≠ 49 by decide)]; exact hv⟩, (by rw [put_ne (show 58 ≠ 49 by decide)]; exact ho)⟩), (fun h h' ht ht' => by rw [put_ne (show 54 ≠ 49 by decide), put_ne (show 56 ≠ 49 by decide)]; exact d4_6 h h' ht ht' ), m7_4, m7_6, (fun _ => gm8), m10_8, m12_8, m8_7, (fun _ => rfl), m12_10, hS, Br, Be⟩
         · refine qst fun g ac wc hn hk hr HI K' hK => ?_
           obtain ⟨x1, x3, x4, x6, x12, i0, i1, i2, i3, i5, i9, i10, i11, i12, i13, hL, p4, p6, p7, p8, d4_6, m7_4, m7_6, m9_8, m10_8, m12_8, m8_7, m10_9, m12_10, hS, Br, Be⟩ := HI.out
           simp [Region.binds] at hr
           have y9 := i9 (by simp [hr])
           have gm9 : g 9 = true := by first | exact m10_9 (by simp [hr]) | exact hr | exact hr.1 | exact hr.2 | exact hr.2.1 | simp [hr]
           have gm8 : g 8 = true := m9_8 gm9
           obtain ⟨⟨⟨aa8, cc8, ff8⟩, y8⟩, ho8⟩ := p8 gm8
           rw [ff8] at y8 ho8
           have z8 := sl_get y8 (by omega)
           have z9 := sl_get y9 (by omega)
           clear i0 i1 i2 i3 i5 i9 i10 i11 i12 i13 d4_6 p4 p6 p7 p8
           go_simp
           obtain ⟨-, -, -, -, -, i0, i1, i2, i3, i5, i9, i10, i11, i12, i13, -, p4, p6, p7, p8, d4_6, -⟩ := HI.out
           exact hK.out _ _ ⟨qB x1, qB x3, qB x4, qB x6, qB x12, qF i0, qF i1, qF i2, qF i3, qF i5, (fun h => by rw [put_ne (show 49 ≠ 59 by decide), put_ne (show 58 ≠ 59 by decide)]; exact i9 h), (fun _ => by rw [put_ne (show 58 ≠ 59 by decide), y8]; exact put_eq (a := ac) (i := 59) (by omega)), qF i11, (fun h => absurd (m12_10 h) (by rw [hk]; simp)), qF i13, hL, (fun h => by obtain ⟨⟨hs, hv⟩, ho⟩ := p4 h; exact ⟨⟨by rw [put_ne (show 54 ≠ 59 by decide)]; exact hs, rfl⟩, fun ht => by have ho := ho ht; exact (by rw [put_ne (show 54 ≠ 59 by decide)]; exact ho)⟩), (fun h => by obtain ⟨hs, ho⟩ := p6 h; exact ⟨(by rw [put_ne (show 56 ≠ 59 by decide)]; exact hs), fun ht => by have ho := ho ht; exact (by rw [put_ne (show 56 ≠ 59 by decide)]; exact ho)⟩), (fun h => by obtain ⟨hs, ho⟩ := p7 h; exact ⟨(by rw [put_ne (show 57 ≠ 59 by decide)]; exact hs), fun ht => by have ho := ho ht; exact (by rw [put_ne (show 57 ≠ 59 by decide)]; exact ho)⟩), (fun h => by obtain ⟨⟨hs, hv⟩, ho⟩ := p8 h; exact ⟨⟨by rw [put_ne (show 58 ≠ 59 by decide)]; exact hs, by rw [put_ne (show 58 ≠ 59 by decide)]; exact hv⟩, (by rw [put_ne (show 58 ≠ 59 by decide)]; exact ho)⟩), (fun h h' ht ht' => by rw [put_ne (show 54 ≠ 59 by decide), put_ne (show 56 ≠ 59 by decide)]; exact d4_6 h h' ht ht' ), m7_4, m7_6, m9_8, (fun _ => gm8), m12_8, m8_7, (fun _ => gm9), (fun _ => rfl), hS, Br, Be⟩
         · refine qst fun g ac wc hn hk hr HI K' hK => ?_
           obtain ⟨x1, x3, x4, x6, x12, i0, i1, i2, i3, i5, i9, i10, i11, i12, i13, hL, p4, p6, p7, p8, d4_6, m7_4, m7_6, m9_8, m10_8, m12_8, m8_7, m10_9, m12_10, hS, Br, Be⟩ := HI.out
           simp [Region.binds] at hr
           have y9 := i9 (by simp [hr])
           have z9 := sl_get y9 (by omega)
           clear i0 i1 i2 i3 i5 i9 i10 i11 i12 i13 d4_6 p4 p6 p7 p8
           go_simp
           obtain ⟨-, -, -, -, -, i0, i1, i2, i3, i5, i9, i10, i11, i12, i13, -, p4, p6, p7, p8, d4_6, -⟩ := HI.out
           exact hK.out _ _ ⟨qB x1, qB x3, qB x4, qB x6, qB x12, qF i0, qF i1, qF i2, qF i3, qF i5, (fun h => by rw [put_ne (show 49 ≠ 60 by decide), put_ne (show 58 ≠ 60 by decide)]; exact i9 h), (fun h => by rw [put_ne (show 59 ≠ 60 by decide), put_ne (show 58 ≠ 60 by decide)]; exact i10 h), qP, (fun h => by rw [put_ne (show 13 ≠ 60 by decide), put_ne (show 58 ≠ 60 by decide)]; exact i12 h), qF i13, hL, (fun h => by obtain ⟨⟨hs, hv⟩, ho⟩ := p4 h; exact ⟨⟨by rw [put_ne (show 54 ≠ 60 by decide)]; exact hs, rfl⟩, fun ht => by have ho := ho ht; exact (by rw [put_ne (show 54 ≠ 60 by decide)]; exact ho)⟩), (fun h => by obtain ⟨hs, ho⟩ := p6 h; exact ⟨(by rw [put_ne (show 56 ≠ 60 by decide)]; exact hs), fun ht => by have ho := ho ht; exact (by rw [put_ne (show 56 ≠ 60 by decide)]; exact ho)⟩), (fun h => by obtain ⟨hs, ho⟩ := p7 h; exact ⟨(by rw [put_ne (show 57 ≠ 60 by decide)]; exact hs), fun ht => by have ho := ho ht; exact (by rw [put_ne (show 57 ≠ 60 by decide)]; exact ho)⟩), (fun h => by obtain ⟨⟨hs, hv⟩, ho⟩ := p8 h; exact ⟨⟨by rw [put_ne (show 58 ≠ 60 by decide)]; exact hs, by rw [put_ne (show 58 ≠ 60 by decide)]; exact hv⟩, (by rw [put_ne (show 58 ≠ 60 by decide)]; exact ho)⟩), (fun h h' ht ht' => by rw [put_ne (show 54 ≠ 60 by decide), put_ne (show 56 ≠ 60 by decide)]; exact d4_6 h h' ht ht' ), m7_4, m7_6, m9_8, m10_8, m12_8, m8_7, m10_9, m12_10, hS, Br, Be⟩
         · refine qst fun g ac wc hn hk hr HI K' hK => ?_
           obtain ⟨x1, x3, x4, x6, x12, i0, i1, i2, i3, i5, i9, i10, i11, i12, i13, hL, p4, p6, p7, p8, d4_6, m7_4, m7_6, m9_8, m10_8, m12_8, m8_7, m10_9, m12_10, hS, Br, Be⟩ := HI.out
           simp [Region.binds] at hr
           have y10 := i10 (by simp [hr])
           have gm10 : g 10 = true := by first | exact m12_10 (by simp [hr]) | exact hr | exact hr.1 | exact hr.2 | exact hr.2.1 | simp [hr]
           have gm8 : g 8 = true := m10_8 gm10
           obtain ⟨⟨⟨aa8, cc8, ff8⟩, y8⟩, ho8⟩ := p8 gm8
           rw [ff8] at y8 ho8
           have z8 := sl_get y8 (by omega)
           have z10 := sl_get y10 (by omega)
           clear i0 i1 i2 i3 i5 i9 i10 i11 i12 i13 d4_6 p4 p6 p7 p8
           go_simp
           obtain ⟨-, -, -, -, -, i0, i1, i2, i3, i5, i9, i10, i11, i12, i13, -, p4, p6, p7, p8, d4_6, -⟩ := HI.out
           exact hK.out _ _ ⟨qB x1, qB x3, qB x4, qB x6, qB x12, qF i0, qF i1, qF i2, qF i3, qF i5, (fun h => by rw [put_ne (show 49 ≠ 13 by decide), put_ne (show 58 ≠ 13 by decide)]; exact i9 h), (fun h => by rw [put_ne (show 59 ≠ 13 by decide), put_ne (show 58 ≠ 13 by decide)]; exact i10 h), qF i11, (fun _ => by rw [put_ne (show 58 ≠ 13 by decide), y8]; exact put_eq (a := ac) (i := 13) (by omega)), qF i13, hL, (fun h => by obtain ⟨⟨hs, hv⟩, ho⟩ := p4 h; exact ⟨⟨by rw [put_ne (show 54 ≠ 13 by decide)]; exact hs, rfl⟩, fun ht => by have ho := ho ht; exact (by rw [put_ne (show 54 ≠ 13 by decide)]; exact ho)⟩), (fun h => by obtain ⟨hs, ho⟩ := p6 h; exact ⟨(by rw [put_ne (show 56 ≠ 13 by decide)]; exact hs), fun ht => by have ho := ho ht; exact (by rw [put_ne (show 56 ≠ 13 by decide)]; exact ho)⟩), (fun h => by obtain ⟨hs, ho⟩ := p7 h; exact ⟨(by rw [put_ne (show 57 ≠ 13 by decide)]; exact hs), fun ht => by have ho := ho ht; exact (by rw [put_ne (show 57 ≠ 13 by decide)]; exact ho)⟩), (fun h => by obtain ⟨⟨hs, hv⟩, ho⟩ := p8 h; exact ⟨⟨by rw [put_ne (show 58 ≠ 13 by decide)]; exact hs, by rw [put_ne (show 58 ≠ 13 by decide)]; exact hv⟩, (by rw [put_ne (show 58 ≠ 13 by decide)]; exact ho)⟩), (fun h h' ht ht' => by rw [put_ne (show 54 ≠ 13 by decide), put_ne (show 56 ≠ 13 by decide)]; exact d4_6 h h' ht ht' ), m7_4, m7_6, m9_8, m10_8, (fun _ => gm8), m8_7, m10_9, (fun _ => gm10), hS, Br, Be⟩
         · refine qst fun g ac wc hn hk hr HI K' hK => ?_
           obtain ⟨x1, x3, x4, x6, x12, i0, i1, i2, i3, i5, i9, i10, i11, i12, i13, hL, p4, p6, p7, p8, d4_6, m7_4, m7_6, m9_8, m10_8, m12_8, m8_7, m10_9, m12_10, hS, Br, Be⟩ := HI.out
           simp [Region.binds] at hr
           have y11 := i11 (by simp [hr])
           clear i0 i1 i2 i3 i5 i9 i10 i11 i12 i13 d4_6 p4 p6 p7 p8
           go_simp
           obtain ⟨-, -, -, -, -, i0, i1, i2, i3, i5, i9, i10, i11, i12, i13, -, p4, p6, p7, p8, d4_6, -⟩ := HI.out
           exact hK.out _ _ ⟨qB x1, qB x3, qB x4, qB x6, qB x12, qF i0, qF i1, qF i2, qF i3, qF i5, (fun h => by rw [put_ne (show 49 ≠ 14 by decide), put_ne (show 58 ≠ 14 by decide)]; exact i9 h), (fun h => by rw [put_ne (show 59 ≠ 14 by decide), put_ne (show 58 ≠ 14 by decide)]; exact i10 h), qF i11, (fun h => by rw [put_ne (show 13 ≠ 14 by decide), put_ne (show 58 ≠ 14 by decide)]; exact i12 h), qP, hL, (fun h => by obtain ⟨⟨hs, hv⟩, ho⟩ := p4 h; exact ⟨⟨by rw [put_ne (show 54 ≠ 14 by decide)]; exact hs, rfl⟩, fun ht => by have ho := ho ht; exact (by rw [put_ne (show 54 ≠ 14 by decide)]; exact ho)⟩), (fun h => by obtain ⟨hs, ho⟩ := p6 h; exact ⟨(by rw [put_ne (show 56 ≠ 14 by decide)]; exact hs), fun ht => by have ho := ho ht; exact (by rw [put_ne (show 56 ≠ 14 by decide)]; exact ho)⟩), (fun h => by obtain ⟨hs, ho⟩ := p7 h; exact ⟨(by rw [put_ne (show 57 ≠ 14 by decide)]; exact hs), fun ht => by have ho := ho ht; exact (by rw [put_ne (show 57 ≠ 14 by decide)]; exact ho)⟩), (fun h => by obtain ⟨⟨hs, hv⟩, ho⟩ := p8 h; exact ⟨⟨by rw [put_ne (show 58 ≠ 14 by decide)]; exact hs, by rw [put_ne (show 58 ≠ 14 by decide)]; exact hv⟩, (by rw [put_ne (show 58 ≠ 14 by decide)]; exact ho)⟩), (fun h h' ht ht' => by rw [put_ne (show 54 ≠ 14 by decide), put_ne (show 56 ≠ 14 by decide)]; exact d4_6 h h' ht ht' ), m7_4, m7_6, m9_8, m10_8, m12_8, m8_7, m10_9, m12_10, hS, Br, Be⟩
     · clear he
       have hb0 : ((o.length : Int) == 0) = false := by rw [beq_eq_false_iff_ne]; omega
       clear hl0
       obtain ⟨c0, f0, z0⟩ := blk_at hKr
       go_wp2_with fail
       refine (w_l01Has _ _ _ _ (HOr.out.later HLr.out)).mono ?_
       rintro e w1 ⟨rfl, rfl⟩
       rw [HH.out]
       go_wp2_with fail
       refine wp_name ?_
       intro z hz
       have hLwz : Later w z := by rw [hz]; exact HLr.out
       have HLwz := Lib.hid hLwz
       have HLz0 := Lib.hid (HLw0.out.trans hLwz)
       have H := Lib.hid (H.out.later hLwz)
       have H' := Lib.hid (H'.out.later hLwz)
       have HY := Lib.hid (HY.out.later hLwz)
       have HOr := Lib.hid (HOr.out.later hLwz)
       have Kr := HKr.out
       have Ke := HKe.out
       rw [← hz] at Kr Ke
       have lt0 := (Array.getElem?_eq_some_iff.1 Kr).1
       have lt1 := (Array.getElem?_eq_some_iff.1 Ke).1
       have HOBz := Lib.hid (show z.ownsRow base 2 1 (.slice aB lB kB) BL.length (nums BL) from by rw [hz]; exact HOB.out)
       have hSB : z.heap.size ≤ z.heap.size := Nat.le_refl _
       have hBz := hLwz.size
       have hL0 := Later.refl z
       clear hz hLwz c0 f0 z0 c1_0 c1_1 c1_2
       refine region_slots 72 [50, 51, 52, 53, 54, 55, 56, 57, 58, 49, 59, 60, 13, 14] (fun g ac wc => sl ac 1 = .slice (some ⟨b1, off1, none⟩) c.length capy ∧
        sl ac 3 = .slice ao o.length capo ∧
        sl ac 4 = .pointer (some ⟨w.heap.size, 0, none⟩) ∧
        sl ac 6 = .pointer (some ⟨w.heap.size + 1, 0, none⟩) ∧
        sl ac 12 = .int .i64 ((k : Nat) : Int) ∧
        (g 0 = true → sl ac 50 = .agg #[.int .i64 n, .slice au st.length capu, .slice av sd.length capv]) ∧
        (g 1 = true → sl ac 51 = .slice (some ⟨b1, off1, none⟩) c.length capy) ∧
        (g 2 = true → sl ac 52 = .agg #[.int .i64 ea, .int .i64 eb, .int .i64 ec]) ∧
        (g 3 = true → sl ac 53 = .slice ao o.length capo) ∧
        (g 5 = true → sl ac 55 = .int .i64 ((k : Nat) : Int)) ∧
        (g 9 = true → sl ac 49 = .tuple #[qOf2 (sl ac 58), .int .i64 BX2]) ∧
        (g 10 = true → sl ac 59 = qOf2 (sl ac 58)) ∧
        (g 11 = true → sl ac 60 = .int .i64 BX2) ∧
        (g 12 = true → sl ac 13 = qOf2 (sl ac 58)) ∧
        (g 13 = true → sl ac 14 = .int .i64 BX2) ∧
        Later z wc ∧
        (g 4 = true → (IsSl (sl ac 54) (o.length) ∧ sl ac 54 = sl ac 54) ∧ (g 7 = false → wc.ownsRow z.heap.size 2 1 (sl ac 54) (o.length) (nums o))) ∧
        (g 6 = true → (∃ k, sl ac 56 = .slice (some ⟨k, 0, none⟩) 1 1) ∧ (g 7 = false → wc.ownsRow z.heap.size 2 1 (sl ac 56) (1) (nums [((k : Nat) : Int)]))) ∧
        (g 7 = true → (IsSl (sl ac 57) (o.length + 1)) ∧ (g 8 = false → wc.ownsRow z.heap.size 2 1 (sl ac 57) (o.length + 1) (nums (o ++ [((k : Nat) : Int)])))) ∧
        (g 8 = true → (IsSl (qOf2 (sl ac 58)) (BL2.length) ∧ sl ac 58 = .tuple #[qOf2 (sl ac 58), .int .i64 BX2]) ∧ wc.ownsRow z.heap.size 2 1 (qOf2 (sl ac 58)) (BL2.length) (nums BL2)) ∧
        (g 4 = true → g 6 = true → g 7 = false → g 7 = false → ∀ q, (sl ac 54).ownBlock = some q → (sl ac 56).ownBlock ≠ some q) ∧
        (g 7 = true → g 4 = true) ∧
        (g 7 = true → g 6 = true) ∧
        (g 9 = true → g 8 = true) ∧
        (g 10 = true → g 8 = true) ∧
        (g 12 = true → g 8 = true) ∧
        (g 8 = true → g 7 = true) ∧
        (g 10 = true → g 9 = true) ∧
        (g 12 = true → g 10 = true) ∧
        z.heap.size ≤ wc.heap.size ∧
        wc.heap[w.heap.size]? = some (.cells #[.int .i64 n, .slice au st.length capu, .slice av sd.length capv] 26 (0, 0)) ∧
        wc.heap[w.heap.size + 1]? = some (.cells #[.int .i64 ea, .int .i64 eb, .int .i64 ec] 60 (0, 0))) (by kernel_rfl) (by kernel_rfl) rfl (by kernel_rfl) ?_ ?_ ?_
       · exact ⟨rfl, rfl, rfl, rfl, rfl, nofun, nofun, nofun, nofun, nofun, nofun, nofun, nofun, nofun, nofun, hL0.drew, nofun, nofun, nofun, nofun, nofun, nofun, nofun, nofun, nofun, nofun, nofun, nofun, nofun, Nat.le_refl _, Kr, Ke⟩
       · intro g ac wu hg ha hI
         obtain ⟨x1, x3, x4, x6, x12, i0, i1, i2, i3, i5, i9, i10, i11, i12, i13, hL, p4, p6, p7, p8, -, -, -, -, -, -, -, -, -, hS, Br, Be⟩ := hI
         obtain ⟨⟨⟨ar4, capr4, f4⟩, e4⟩, -⟩ := p4 (hg 4 (by simp))
         clear e4
         have e4 := f4
         obtain ⟨⟨kr6, e6⟩, -⟩ := p6 (hg 6 (by simp))
         obtain ⟨⟨ar7, capr7, e7⟩, -⟩ := p7 (hg 7 (by simp))
         obtain ⟨⟨⟨ar8, capr8, f8⟩, e8⟩, HO8⟩ := p8 (hg 8 (by simp))
         rw [f8] at e8
         rw [f8] at HO8
         have a0 := i0 (hg 0 (by simp))
         have a1 := i1 (hg 1 (by simp))
         have a2 := i2 (hg 2 (by simp))
         have a3 := i3 (hg 3 (by simp))
         have a5 := i5 (hg 5 (by simp))
         have a9 := i9 (hg 9 (by simp))
         rw [e8] at a9
         have a10 := i10 (hg 10 (by simp))
         rw [e8] at a10
         have a11 := i11 (hg 11 (by simp))
         have a12 := i12 (hg 12 (by simp))
         rw [e8] at a12
         have a13 := i13 (hg 13 (by simp))
         simp only [putAll, e4, e6, e7, e8, a0, a1, a2, a3, a5, a9, a10, a11, a12, a13] at ha
         simp only [Act.put, List.setIfInBounds_toArray, List.set_cons_succ, List.set_cons_zero] at ha
         rw [ha]
         clear x1 x3 x4 x6 x12 i0 i1 i2 i3 i5 i9 i10 i11 i12 i13 a0 a1 a2 a3 a5 a9 a10 a11 a12 a13 p4 p6 p7 p8 e4 e6 e7 e8 f4 f8 hg ha
         have HKn := Lib.hid Br
         have HKe2 := Lib.hid Be
         have HL := Lib.hid (HLwz.out.trans hL)
         have HOn := Lib.hid (owns_base HO8 (Nat.le_trans hb hBz))
         have HOB2 := Lib.hid (owns_later HOBz.out hL)
         clear hL hS Br HO8 Be
         by_cases hm : BX < 0
         · have HF := Lib.hid (show mrgO (BL, BX) (BL2, BX2) = (BL2, BX2) from if_pos (.inl hm))
           go_wp2
           go_roundw
           case rel => exact ⟨k + 1, rfl, by omega, HL.out, HKn.out, HKe2.out, _, _, _, BL2, BX2, rfl, rfl, HOn.out, by rw [HN.out]; exact HF.out⟩
           case measure => simp [intOf]; omega
         · by_cases hm2 : BX2 < BX
           · have HF := Lib.hid (show mrgO (BL, BX) (BL2, BX2) = (BL2, BX2) from if_pos (.inr hm2))
             go_wp2
             go_roundw
             case rel => exact ⟨k + 1, rfl, by omega, HL.out, HKn.out, HKe2.out, _, _, _, BL2, BX2, rfl, rfl, HOn.out, by rw [HN.out]; exact HF.out⟩
             case measure => simp [intOf]; omega
           · have HF := Lib.hid (show mrgO (BL, BX) (BL2, BX2) = (BL, BX) from if_neg (by rintro (e | e) <;> simp only at e <;> omega))
             go_wp2
             go_roundw
             case rel => exact ⟨k + 1, rfl, by omega, HL.out, HKn.out, HKe2.out, aB, lB, kB, BL, BX, rfl, rfl, HOB2.out, by rw [HN.out]; exact HF.out⟩
             case measure => simp [intOf]; omega
       · refine .cons ?_ (.cons ?_ (.cons ?_ (.cons ?_ (.cons ?_ (.cons ?_ (.cons ?_ (.cons ?_ (.cons ?_ (.cons ?_ (.cons ?_ (.cons ?_ (.cons ?_ (.cons ?_ .nil)))))))))))))
         · refine qst fun g ac wc hn hk hr HI K' hK => ?_
           obtain ⟨x1, x3, x4, x6, x12, i0, i1, i2, i3, i5, i9, i10, i11, i12, i13, hL, p4, p6, p7, p8, d4_6, m7_4, m7_6, m9_8, m10_8, m12_8, m8_7, m10_9, m12_10, hS, Br, Be⟩ := HI.out
           simp [Region.binds] at hr
           clear i0 i1 i2 i3 i5 i9 i10 i11 i12 i13 d4_6 p4 p6 p7 p8
           obtain ⟨c0, f0, z0⟩ := blk_at Br
           go_simp
           obtain ⟨-, -, -, -, -, i0, i1, i2, i3, i5, i9, i10, i11, i12, i13, -, p4, p6, p7, p8, d4_6, -⟩ := HI.out
           exact hK.out _ _ ⟨qB x1, qB x3, qB x4, qB x6, qB x12, qP, qF i1, qF i2, qF i3, qF i5, (fun h => by rw [put_ne (show 49 ≠ 50 by decide), put_ne (show 58 ≠ 50 by decide)]; exact i9 h), (fun h => by rw [put_ne (show 59 ≠ 50 by decide), put_ne (show 58 ≠ 50 by decide)]; exact i10 h), qF i11, (fun h => by rw [put_ne (show 13 ≠ 50 by decide), put_ne (show 58 ≠ 50 by decide)]; exact i12 h), qF i13, hL, (fun h => by obtain ⟨⟨hs, hv⟩, ho⟩ := p4 h; exact ⟨⟨by rw [put_ne (show 54 ≠ 50 by decide)]; exact hs, rfl⟩, fun ht => by have ho := ho ht; exact (by rw [put_ne (show 54 ≠ 50 by decide)]; exact ho)⟩), (fun h => by obtain ⟨hs, ho⟩ := p6 h; exact ⟨(by rw [put_ne (show 56 ≠ 50 by decide)]; exact hs), fun ht => by have ho := ho ht; exact (by rw [put_ne (show 56 ≠ 50 by decide)]; exact ho)⟩), (fun h => by obtain ⟨hs, ho⟩ := p7 h; exact ⟨(by rw [put_ne (show 57 ≠ 50 by decide)]; exact hs), fun ht => by have ho := ho ht; exact (by rw [put_ne (show 57 ≠ 50 by decide)]; exact ho)⟩), (fun h => by obtain ⟨⟨hs, hv⟩, ho⟩ := p8 h; exact ⟨⟨by rw [put_ne (show 58 ≠ 50 by decide)]; exact hs, by rw [put_ne (show 58 ≠ 50 by decide)]; exact hv⟩, (by rw [put_ne (show 58 ≠ 50 by decide)]; exact ho)⟩), (fun h h' ht ht' => by rw [put_ne (show 54 ≠ 50 by decide), put_ne (show 56 ≠ 50 by decide)]; exact d4_6 h h' ht ht' ), m7_4, m7_6, m9_8, m10_8, m12_8, m8_7, m10_9, m12_10, hS, Br, Be⟩
         · refine qst fun g ac wc hn hk hr HI K' hK => ?_
           obtain ⟨x1, x3, x4, x6, x12, i0, i1, i2, i3, i5, i9, i10, i11, i12, i13, hL, p4, p6, p7, p8, d4_6, m7_4, m7_6, m9_8, m10_8, m12_8, m8_7, m10_9, m12_10, hS, Br, Be⟩ := HI.out
           simp [Region.binds] at hr
           clear i0 i1 i2 i3 i5 i9 i10 i11 i12 i13 d4_6 p4 p6 p7 p8
           go_simp
           obtain ⟨-, -, -, -, -, i0, i1, i2, i3, i5, i9, i10, i11, i12, i13, -, p4, p6, p7, p8, d4_6, -⟩ := HI.out
           exact hK.out _ _ ⟨qB x1, qB x3, qB x4, qB x6, qB x12, qF i0, qP, qF i2, qF i3, qF i5, (fun h => by rw [put_ne (show 49 ≠ 51 by decide), put_ne (show 58 ≠ 51 by decide)]; exact i9 h), (fun h => by rw [put_ne (show 59 ≠ 51 by decide), put_ne (show 58 ≠ 51 by decide)]; exact i10 h), qF i11, (fun h => by rw [put_ne (show 13 ≠ 51 by decide), put_ne (show 58 ≠ 51 by decide)]; exact i12 h), qF i13, hL, (fun h => by obtain ⟨⟨hs, hv⟩, ho⟩ := p4 h; exact ⟨⟨by rw [put_ne (show 54 ≠ 51 by decide)]; exact hs, rfl⟩, fun ht => by have ho := ho ht; exact (by rw [put_ne (show 54 ≠ 51 by decide)]; exact ho)⟩), (fun h => by obtain ⟨hs, ho⟩ := p6 h; exact ⟨(by rw [put_ne (show 56 ≠ 51 by decide)]; exact hs), fun ht => by have ho := ho ht; exact (by rw [put_ne (show 56 ≠ 51 by decide)]; exact ho)⟩), (fun h => by obtain ⟨hs, ho⟩ := p7 h; exact ⟨(by rw [put_ne (show 57 ≠ 51 by decide)]; exact hs), fun ht => by have ho := ho ht; exact (by rw [put_ne (show 57 ≠ 51 by decide)]; exact ho)⟩), (fun h => by obtain ⟨⟨hs, hv⟩, ho⟩ := p8 h; exact ⟨⟨by rw [put_ne (show 58 ≠ 51 by decide)]; exact hs, by rw [put_ne (show 58 ≠ 51 by decide)]; exact hv⟩, (by rw [put_ne (show 58 ≠ 51 by decide)]; exact ho)⟩), (fun h h' ht ht' => by rw [put_ne (show 54 ≠ 51 by decide), put_ne (show 56 ≠ 51 by decide)]; exact d4_6 h h' ht ht' ), m7_4, m7_6, m9_8, m10_8, m12_8, m8_7, m10_9, m12_10, hS, Br, Be⟩
         · refine qst fun g ac wc hn hk hr HI K' hK => ?_
           obtain ⟨x1, x3, x4, x6, x12, i0, i1, i2, i3, i5, i9, i10, i11, i12, i13, hL, p4, p6, p7, p8, d4_6, m7_4, m7_6, m9_8, m10_8, m12_8, m8_7, m10_9, m12_10, hS, Br, Be⟩ := HI.out
           simp [Region.binds] at hr
           clear i0 i1 i2 i3 i5 i9 i10 i11 i12 i13 d4_6 p4 p6 p7 p8
           obtain ⟨c0, f0, z0⟩ := blk_at Be
           go_simp
           obtain ⟨-, -, -, -, -, i0, i1, i2, i3, i5, i9, i10, i11, i12, i13, -, p4, p6, p7, p8, d4_6, -⟩ := HI.out
           exact hK.out _ _ ⟨qB x1, qB x3, qB x4, qB x6, qB x12, qF i0, qF i1, qP, qF i3, qF i5, (fun h => by rw [put_ne (show 49 ≠ 52 by decide), put_ne (show 58 ≠ 52 by decide)]; exact i9 h), (fun h => by rw [put_ne (show 59 ≠ 52 by decide), put_ne (show 58 ≠ 52 by decide)]; exact i10 h), qF i11, (fun h => by rw [put_ne (show 13 ≠ 52 by decide), put_ne (show 58 ≠ 52 by decide)]; exact i12 h), qF i13, hL, (fun h => by obtain ⟨⟨hs, hv⟩, ho⟩ := p4 h; exact ⟨⟨by rw [put_ne (show 54 ≠ 52 by decide)]; exact hs, rfl⟩, fun ht => by have ho := ho ht; exact (by rw [put_ne (show 54 ≠ 52 by decide)]; exact ho)⟩), (fun h => by obtain ⟨hs, ho⟩ := p6 h; exact ⟨(by rw [put_ne (show 56 ≠ 52 by decide)]; exact hs), fun ht => by have ho := ho ht; exact (by rw [put_ne (show 56 ≠ 52 by decide)]; exact ho)⟩), (fun h => by obtain ⟨hs, ho⟩ := p7 h; exact ⟨(by rw [put_ne (show 57 ≠ 52 by decide)]; exact hs), fun ht => by have ho := ho ht; exact (by rw [put_ne (show 57 ≠ 52 by decide)]; exact ho)⟩), (fun h => by obtain ⟨⟨hs, hv⟩, ho⟩ := p8 h; exact ⟨⟨by rw [put_ne (show 58 ≠ 52 by decide)]; exact hs, by rw [put_ne (show 58 ≠ 52 by decide)]; exact hv⟩, (by rw [put_ne (show 58 ≠ 52 by decide)]; exact ho)⟩), (fun h h' ht ht' => by rw [put_ne (show 54 ≠ 52 by decide), put_ne (show 56 ≠ 52 by decide)]; exact d4_6 h h' ht ht' ), m7_4, m7_6, m9_8, m10_8, m12_8, m8_7, m10_9, m12_10, hS, Br, Be⟩
         · refine qst fun g ac wc hn hk hr HI K' hK => ?_
           obtain ⟨x1, x3, x4, x6, x12, i0, i1, i2, i3, i5, i9, i10, i11, i12, i13, hL, p4, p6, p7, p8, d4_6, m7_4, m7_6, m9_8, m10_8, m12_8, m8_7, m10_9, m12_10, hS, Br, Be⟩ := HI.out
           simp [Region.binds] at hr
           clear i0 i1 i2 i3 i5 i9 i10 i11 i12 i13 d4_6 p4 p6 p7 p8
           go_simp
           obtain ⟨-, -, -, -, -, i0, i1, i2, i3, i5, i9, i10, i11, i12, i13, -, p4, p6, p7, p8, d4_6, -⟩ := HI.out
           exact hK.out _ _ ⟨qB x1, qB x3, qB x4, qB x6, qB x12, qF i0, qF i1, qF i2, qP, qF i5, (fun h => by rw [put_ne (show 49 ≠ 53 by decide), put_ne (show 58 ≠ 53 by decide)]; exact i9 h), (fun h => by rw [put_ne (show 59 ≠ 53 by decide), put_ne (show 58 ≠ 53 by decide)]; exact i10 h), qF i11, (fun h => by rw [put_ne (show 13 ≠ 53 by decide), put_ne (show 58 ≠ 53 by decide)]; exact i12 h), qF i13, hL, (fun h => by obtain ⟨⟨hs, hv⟩, ho⟩ := p4 h; exact ⟨⟨by rw [put_ne (show 54 ≠ 53 by decide)]; exact hs, rfl⟩, fun ht => by have ho := ho ht; exact (by rw [put_ne (show 54 ≠ 53 by decide)]; exact ho)⟩), (fun h => by obtain ⟨hs, ho⟩ := p6 h; exact ⟨(by rw [put_ne (show 56 ≠ 53 by decide)]; exact hs), fun ht => by have ho := ho ht; exact (by rw [put_ne (show 56 ≠ 53 by decide)]; exact ho)⟩), (fun h => by obtain ⟨hs, ho⟩ := p7 h; exact ⟨(by rw [put_ne (show 57 ≠ 53 by decide)]; exact hs), fun ht => by have ho := ho ht; exact (by rw [put_ne (show 57 ≠ 53 by decide)]; exact ho)⟩), (fun h => by obtain ⟨⟨hs, hv⟩, ho⟩ := p8 h; exact ⟨⟨by rw [put_ne (show 58 ≠ 53 by decide)]; exact hs, by rw [put_ne (show 58 ≠ 53 by decide)]; exact hv⟩, (by rw [put_ne (show 58 ≠ 53 by decide)]; exact ho)⟩), (fun h h' ht ht' => by rw [put_ne (show 54 ≠ 53 by decide), put_ne (show 56 ≠ 53 by decide)]; exact d4_6 h h' ht ht' ), m7_4, m7_6, m9_8, m10_8, m12_8, m8_7, m10_9, m12_10, hS, Br, Be⟩
         · refine qst fun g ac wc hn hk hr HI K' hK => ?_
           obtain ⟨x1, x3, x4, x6, x12, i0, i1, i2, i3, i5, i9, i10, i11, i12, i13, hL, p4, p6, p7, p8, d4_6, m7_4, m7_6, m9_8, m10_8, m12_8, m8_7, m10_9, m12_10, hS, Br, Be⟩ := HI.out
           simp [Region.binds] at hr
           have y3 := i3 (by simp [hr])
           clear i0 i1 i2 i3 i5 i9 i10 i11 i12 i13 d4_6 p4 p6 p7 p8
           go_simp
           refine (w_l01OwnP ao o.length capo o _ (HOr.out.later hL) HAo.out).mono ?_
           rintro e w4 ⟨a4, l4, c4, rfl, hL4, ho4⟩
           obtain ⟨a5, c5, e5⟩ := isSl_of ho4
           simp only [Value.slice.injEq] at e5
           obtain ⟨rfl, rfl, rfl⟩ := e5
           obtain ⟨-, -, -, -, -, i0, i1, i2, i3, i5, i9, i10, i11, i12, i13, -, p4, p6, p7, p8, d4_6, -⟩ := HI.out
           exact hK.out _ _ ⟨qB x1, qB x3, qB x4, qB x6, qB x12, qF i0, qF i1, qF i2, qF i3, qF i5, (fun h => by rw [put_ne (show 49 ≠ 54 by decide), put_ne (show 58 ≠ 54 by decide)]; exact i9 h), (fun h => by rw [put_ne (show 59 ≠ 54 by decide), put_ne (show 58 ≠ 54 by decide)]; exact i10 h), qF i11, (fun h => by rw [put_ne (show 13 ≠ 54 by decide), put_ne (show 58 ≠ 54 by decide)]; exact i12 h), qF i13, hL.trans hL4, (fun _ => ⟨⟨by rw [put_eq (by omega)]; exact ⟨_, _, rfl⟩, rfl⟩, fun _ => by rw [put_eq (by omega)]; exact owns_base ho4 hS⟩), (fun h => by obtain ⟨hs, ho⟩ := p6 h; exact ⟨(by rw [put_ne (show 56 ≠ 54 by decide)]; exact hs), fun ht => by have ho := ho ht; exact (by rw [put_ne (show 56 ≠ 54 by decide)]; exact (owns_later ho hL4))⟩), (fun h => by obtain ⟨hs, ho⟩ := p7 h; exact ⟨(by rw [put_ne (show 57 ≠ 54 by decide)]; exact hs), fun ht => by have ho := ho ht; exact (by rw [put_ne (show 57 ≠ 54 by decide)]; exact (owns_later ho hL4))⟩), (fun h => by obtain ⟨⟨hs, hv⟩, ho⟩ := p8 h; exact ⟨⟨by rw [put_ne (show 58 ≠ 54 by decide)]; exact hs, by rw [put_ne (show 58 ≠ 54 by decide)]; exact hv⟩, (by rw [put_ne (show 58 ≠ 54 by decide)]; exact (owns_later ho hL4))⟩), (fun h h' ht ht' q hq => by rw [put_eq (by omega)] at hq; rw [put_ne (show 56 ≠ 54 by decide)]; have ho := (p6 h').2 ht'; intro e; have h8 := ho.lt q e; have h9 := (ho4.lt q hq).1; omega), (fun _ => rfl), m7_6, m9_8, m10_8, m12_8, m8_7, m10_9, m12_10, Nat.le_trans hS hL4.size, (hL4.keep Br), (hL4.keep Be)⟩
         · refine qst fun g ac wc hn hk hr HI K' hK => ?_
           obtain ⟨x1, x3, x4, x6, x12, i0, i1, i2, i3, i5, i9, i10, i11, i12, i13, hL, p4, p6, p7, p8, d4_6, m7_4, m7_6, m9_8, m10_8, m12_8, m8_7, m10_9, m12_10, hS, Br, Be⟩ := HI.out
           simp [Region.binds] at hr
           clear i0 i1 i2 i3 i5 i9 i10 i11 i12 i13 d4_6 p4 p6 p7 p8
           go_simp
           obtain ⟨-, -, -, -, -, i0, i1, i2, i3, i5, i9, i10, i11, i12, i13, -, p4, p6, p7, p8, d4_6, -⟩ := HI.out
           exact hK.out _ _ ⟨qB x1, qB x3, qB x4, qB x6, qB x12, qF i0, qF i1, qF i2, qF i3, qP, (fun h => by rw [put_ne (show 49 ≠ 55 by decide), put_ne (show 58 ≠ 55 by decide)]; exact i9 h), (fun h => by rw [put_ne (show 59 ≠ 55 by decide), put_ne (show 58 ≠ 55 by decide)]; exact i10 h), qF i11, (fun h => by rw [put_ne (show 13 ≠ 55 by decide), put_ne (show 58 ≠ 55 by decide)]; exact i12 h), qF i13, hL, (fun h => by obtain ⟨⟨hs, hv⟩, ho⟩ := p4 h; exact ⟨⟨by rw [put_ne (show 54 ≠ 55 by decide)]; exact hs, rfl⟩, fun ht => by have ho := ho ht; exact (by rw [put_ne (show 54 ≠ 55 by decide)]; exact ho)⟩), (fun h => by obtain ⟨hs, ho⟩ := p6 h; exact ⟨(by rw [put_ne (show 56 ≠ 55 by decide)]; exact hs), fun ht => by have ho := ho ht; exact (by rw [put_ne (show 56 ≠ 55 by decide)]; exact ho)⟩), (fun h => by obtain ⟨hs, ho⟩ := p7 h; exact ⟨(by rw [put_ne (show 57 ≠ 55 by decide)]; exact hs), fun ht => by have ho := ho ht; exact (by rw [put_ne (show 57 ≠ 55 by decide)]; exact ho)⟩), (fun h => by obtain ⟨⟨hs, hv⟩, ho⟩ := p8 h; exact ⟨⟨by rw [put_ne (show 58 ≠ 55 by decide)]; exact hs, by rw [put_ne (show 58 ≠ 55 by decide)]; exact hv⟩, (by rw [put_ne (show 58 ≠ 55 by decide)]; exact ho)⟩), (fun h h' ht ht' => by rw [put_ne (show 54 ≠ 55 by decide), put_ne (show 56 ≠ 55 by decide)]; exact d4_6 h h' ht ht' ), m7_4, m7_6, m9_8, m10_8, m12_8, m8_7, m10_9, m12_10, hS, Br, Be⟩
         · refine qst fun g ac wc hn hk hr HI K' hK => ?_
           obtain ⟨x1, x3, x4, x6, x12, i0, i1, i2, i3, i5, i9, i10, i11, i12, i13, hL, p4, p6, p7, p8, d4_6, m7_4, m7_6, m9_8, m10_8, m12_8, m8_7, m10_9, m12_10, hS, Br, Be⟩ := HI.out
           simp [Region.binds] at hr
           have y5 := i5 (by simp [hr])
           have z5 := sl_get y5 (by omega)
           clear i0 i1 i2 i3 i5 i9 i10 i11 i12 i13 d4_6 p4 p6 p7 p8
           go_simp
           have hL4 := (Later.refl wc).alloc (.cells #[.int .i64 ((k : Nat) : Int)] 2)
           obtain ⟨-, -, -, -, -, i0, i1, i2, i3, i5, i9, i10, i11, i12, i13, -, p4, p6, p7, p8, d4_6, -⟩ := HI.out
           exact hK.out _ _ ⟨qB x1, qB x3, qB x4, qB x6, qB x12, qF i0, qF i1, qF i2, qF i3, qF i5, (fun h => by rw [put_ne (show 49 ≠ 56 by decide), put_ne (show 58 ≠ 56 by decide)]; exact i9 h), (fun h => by rw [put_ne (show 59 ≠ 56 by decide), put_ne (show 58 ≠ 56 by decide)]; exact i10 h), qF i11, (fun h => by rw [put_ne (show 13 ≠ 56 by decide), put_ne (show 58 ≠ 56 by decide)]; exact i12 h), qF i13, hL.alloc _, (fun h => by obtain ⟨⟨hs, hv⟩, ho⟩ := p4 h; exact ⟨⟨by rw [put_ne (show 54 ≠ 56 by decide)]; exact hs, rfl⟩, fun ht => by have ho := ho ht; exact (by rw [put_ne (show 54 ≠ 56 by decide)]; exact (owns_later ho hL4))⟩), (fun _ => ⟨⟨wc.heap.size, put_eq (by omega)⟩, fun _ => by rw [put_eq (by omega)]; exact World.ownsRow_lit wc #[.int .i64 ((k : Nat) : Int)] 1 hS (by decide) (by simp)⟩), (fun h => by obtain ⟨hs, ho⟩ := p7 h; exact ⟨(by rw [put_ne (show 57 ≠ 56 by decide)]; exact hs), fun ht => by have ho := ho ht; exact (by rw [put_ne (show 57 ≠ 56 by decide)]; exact (owns_later ho hL4))⟩), (fun h => by obtain ⟨⟨hs, hv⟩, ho⟩ := p8 h; exact ⟨⟨by rw [put_ne (show 58 ≠ 56 by decide)]; exact hs, by rw [put_ne (show 58 ≠ 56 by decide)]; exact hv⟩, (by rw [put_ne (show 58 ≠ 56 by decide)]; exact (owns_later ho hL4))⟩), (fun h h' ht ht' q hq => by rw [put_ne (show 54 ≠ 56 by decide)] at hq; rw [put_eq (by omega)]; have ho := (p4 h).2 ht; have := ho.lt q hq; simp [Value.ownBlock]; omega), m7_4, (fun _ => rfl), m9_8, m10_8, m12_8, m8_7, m10_9, m12_10, (by simp; omega), (hL4.keep Br), (hL4.keep Be)⟩
         · refine qst fun g ac wc hn hk hr HI K' hK => ?_
           obtain ⟨x1, x3, x4, x6, x12, i0, i1, i2, i3, i5, i9, i10, i11, i12, i13, hL, p4, p6, p7, p8, d4_6, m7_4, m7_6, m9_8, m10_8, m12_8, m8_7, m10_9, m12_10, hS, Br, Be⟩ := HI.out
           simp [Region.binds] at hr
           replace i0 := Lib.hid i0
           replace i1 := Lib.hid i1
           replace i2 := Lib.hid i2
           replace i3 := Lib.hid i3
           replace i5 := Lib.hid i5
           replace i9 := Lib.hid i9
           replace i10 := Lib.hid i10
           replace i11 := Lib.hid i11
           replace i12 := Lib.hid i12
           replace i13 := Lib.hid i13
           replace d4_6 := Lib.hid d4_6
           replace p4 := Lib.hid p4
           replace p6 := Lib.hid p6
           replace p7 := Lib.hid p7
           replace p8 := Lib.hid p8
           have gA : g 4 = true := (by simp [hr])
           obtain ⟨hsA, hoA⟩ := p4.out gA
           have hoA := hoA hk
           have gX : g 6 = true := (by simp [hr])
           obtain ⟨⟨kx, ex⟩, hoX⟩ := p6.out gX
           have hoX := hoX hk
           rw [ex] at hoX
           refine wpA_Int64 (.tmp 54) (.tmp 56) rfl z.heap.size (sl ac 54) o rfl hoA ⟨kx, 0, none⟩ 1 1 [((k : Nat) : Int)] ex rfl (row_add hoX) (by simp; omega) hS ?_
           intro v4 w4 ho4 hg4 hat4
           rw [show (o ++ [((k : Nat) : Int)]).length = o.length + 1 from by simp] at ho4
           have hL4 : Below z.heap.size wc w4 := Below.grown (Below.refl _ _) hg4 hS (fun k e => (hoA.lt k e).1)
           exact hK.out _ _ ⟨qB x1, qB x3, qB x4, qB x6, qB x12, qF i0.out, qF i1.out, qF i2.out, qF i3.out, qF i5.out, (fun h => by rw [put_ne (show 49 ≠ 57 by decide), put_ne (show 58 ≠ 57 by decide)]; exact i9.out h), (fun h => by rw [put_ne (show 59 ≠ 57 by decide), put_ne (show 58 ≠ 57 by decide)]; exact i10.out h), qF i11.out, (fun h => by rw [put_ne (show 13 ≠ 57 by decide), put_ne (show 58 ≠ 57 by decide)]; exact i12.out h), qF i13.out, Below.trans hL (hL4.mono hSB), (fun h => by obtain ⟨⟨hs, hv⟩, ho⟩ := p4.out h; exact ⟨⟨by rw [put_ne (show 54 ≠ 57 by decide)]; exact hs, rfl⟩, fun h => absurd h (by simp)⟩), (fun h => by obtain ⟨hs, ho⟩ := p6.out h; exact ⟨(by rw [put_ne (show 56 ≠ 57 by decide)]; exact hs), fun h => absurd h (by simp)⟩), (fun _ => ⟨by rw [put_eq (by omega)]; exact isSl_of ho4, fun _ => by rw [put_eq (by omega)]; exact ho4⟩), (fun h => absurd (m8_7 h) (by rw [hk]; simp)), (fun h h' ht => absurd ht (by simp)), (fun _ => gA), (fun _ => gX), m9_8, m10_8, m12_8, (fun _ => rfl), m10_9, m12_10, Nat.le_trans hS hL4.size, ((hL4.block _ (by omega)).trans Br), ((hL4.block _ (by omega)).trans Be)⟩
         · refine qst fun g ac wc hn hk hr HI K' hK => ?_
           obtain ⟨x1, x3, x4, x6, x12, i0, i1, i2, i3, i5, i9, i10, i11, i12, i13, hL, p4, p6, p7, p8, d4_6, m7_4, m7_6, m9_8, m10_8, m12_8, m8_7, m10_9, m12_10, hS, Br, Be⟩ := HI.out
           simp [Region.binds] at hr
           have y0 := i0 (by simp [hr])
           have y1 := i1 (by simp [hr])
           have y2 := i2 (by simp [hr])
           have gm7 : g 7 = true := by first | exact m8_7 (by simp [hr]) | exact hr | exact hr.1 | exact hr.2 | exact hr.2.1 | simp [hr]
           obtain ⟨⟨aa7, cc7, y7⟩, ho7⟩ := p7 (by simp [hr])
           have ho7 := ho7 hk
           rw [y7] at ho7
           have z7 := sl_get y7 (by omega)
           have z0 := sl_get y0 (by omega)
           have z1 := sl_get y1 (by omega)
           have z2 := sl_get y2 (by omega)
           clear i0 i1 i2 i3 i5 i9 i10 i11 i12 i13 d4_6 p4 p6 p7 p8
           go_simp
           refine (HIH.out (o ++ [((k : Nat) : Int)]) aa7 (o.length + 1) cc7 z.heap.size wc (by simp) (by have := HLn.out; rw [List.length_append]; simp; omega) HGn.out (HLz0.out.trans hL) ho7 (own_some ho7 (by omega)) hS).mono ?_
           rintro e w4 ⟨a4, l4, c4, rfl, hL4, ho4⟩
           rw [HB2x.out]
           rw [HB2l.out] at ho4
           obtain ⟨a5, c5, e5⟩ := isSl_of ho4
           simp only [Value.slice.injEq] at e5
           obtain ⟨rfl, rfl, rfl⟩ := e5
           obtain ⟨-, -, -, -, -, i0, i1, i2, i3, i5, i9, i10, i11, i12, i13, -, p4, p6, p7, p8, d4_6, -⟩ := HI.out
           exact hK.out _ _ ⟨qB x1, qB x3, qB x4, qB x6, qB x12, qF i0, qF i1, qF i2, qF i3, qF i5, (fun h => absurd (m9_8 h) (by rw [hk]; simp)), (fun h => absurd (m10_8 h) (by rw [hk]; simp)), qF i11, (fun h => absurd (m12_8 h) (by rw [hk]; simp)), qF i13, hL.trans hL4, (fun h => by obtain ⟨⟨hs, hv⟩, ho⟩ := p4 h; exact ⟨⟨by rw [put_ne (show 54 ≠ 58 by decide)]; exact hs, rfl⟩, fun ht => by have ho := ho ht; exact (by rw [put_ne (show 54 ≠ 58 by decide)]; exact (owns_later ho hL4))⟩), (fun h => by obtain ⟨hs, ho⟩ := p6 h; exact ⟨(by rw [put_ne (show 56 ≠ 58 by decide)]; exact hs), fun ht => by have ho := ho ht; exact (by rw [put_ne (show 56 ≠ 58 by decide)]; exact (owns_later ho hL4))⟩), (fun h => by obtain ⟨hs, ho⟩ := p7 h; exact ⟨(by rw [put_ne (show 57 ≠ 58 by decide)]; exact hs), fun h => absurd h (by simp)⟩), (fun _ => ⟨⟨by rw [put_eq (by omega)]; exact ⟨_, _, rfl⟩, by rw [put_eq (by omega)]; rfl⟩, by rw [put_eq (by omega)]; exact ho4⟩), (fun h h' ht ht' => by rw [put_ne (show 54 ≠ 58 by decide), put_ne (show 56 ≠ 58 by decide)]; exact d4_6 h h' ht ht' ), m7_4, m7_6, (fun _ => rfl), (fun _ => rfl), (fun _ => rfl), (fun _ => gm7), m10_9, m12_10, Nat.le_trans hS hL4.size, (hL4.keep Br), (hL4.keep Be)⟩
         · refine qst fun g ac wc hn hk hr HI K' hK => ?_
           obtain ⟨x1, x3, x4, x6, x12, i0, i1, i2, i3, i5, i9, i10, i11, i12, i13, hL, p4, p6, p7, p8, d4_6, m7_4, m7_6, m9_8, m10_8, m12_8, m8_7, m10_9, m12_10, hS, Br, Be⟩ := HI.out
           simp [Region.binds] at hr
           have gm8 : g 8 = true := by first | exact m9_8 (by simp [hr]) | exact hr | exact hr.1 | exact hr.2 | exact hr.2.1 | simp [hr]
           obtain ⟨⟨⟨aa8, cc8, ff8⟩, y8⟩, ho8⟩ := p8 (by simp [hr])
           rw [ff8] at y8 ho8
           have z8 := sl_get y8 (by omega)
           clear i0 i1 i2 i3 i5 i9 i10 i11 i12 i13 d4_6 p4 p6 p7 p8
           go_simp
           obtain ⟨-, -, -, -, -, i0, i1, i2, i3, i5, i9, i10, i11, i12, i13, -, p4, p6, p7, p8, d4_6, -⟩ := HI.out
           exact hK.out _ _ ⟨qB x1, qB x3, qB x4, qB x6, qB x12, qF i0, qF i1, qF i2, qF i3, qF i5, (fun _ => by rw [put_ne (show 58 ≠ 49 by decide), y8]; exact put_eq (a := ac) (i := 49) (by omega)), (fun h => absurd (m10_9 h) (by rw [hk]; simp)), qF i11, (fun h => by rw [put_ne (show 13 ≠ 49 by decide), put_ne (show 58 ≠ 49 by decide)]; exact i12 h), qF i13, hL, (fun h => by obtain ⟨⟨hs, hv⟩, ho⟩ := p4 h; exact ⟨⟨by rw [put_ne (show 54 ≠ 49 by decide)]; exact hs, rfl⟩, fun ht => by have ho := ho ht; exact (by rw [put_ne (show 54 ≠ 49 by decide)]; exact ho)⟩), (fun h => by obtain ⟨hs, ho⟩ := p6 h; exact ⟨(by rw [put_ne (show 56 ≠ 49 by decide)]; exact hs), fun ht => by have ho := ho ht; exact (by rw [put_ne (show 56 ≠ 49 by decide)]; exact ho)⟩), (fun h => by obtain ⟨hs, ho⟩ := p7 h; exact ⟨(by rw [put_ne (show 57 ≠ 49 by decide)]; exact hs), fun ht => by have ho := ho ht; exact (by rw [put_ne (show 57 ≠ 49 by decide)]; exact ho)⟩), (fun h => by obtain ⟨⟨hs, hv⟩, ho⟩ := p8 h; exact ⟨⟨by rw [put_ne (show 58 ≠ 49 by decide)]; exact hs, by rw [put_ne (show 58 ≠ 49 by decide)]; exact hv⟩, (by rw [put_ne (show 58 ≠ 49 by decide)]; exact ho)⟩), (fun h h' ht ht' => by rw [put_ne (show 54 ≠ 49 by decide), put_ne (show 56 ≠ 49 by decide)]; exact d4_6 h h' ht ht' ), m7_4, m7_6, (fun _ => gm8), m10_8, m12_8, m8_7, (fun _ => rfl), m12_10, hS, Br, Be⟩
         · refine qst fun g ac wc hn hk hr HI K' hK => ?_
           obtain ⟨x1, x3, x4, x6, x12, i0, i1, i2, i3, i5, i9, i10, i11, i12, i13, hL, p4, p6, p7, p8, d4_6, m7_4, m7_6, m9_8, m10_8, m12_8, m8_7, m10_9, m12_10, hS, Br, Be⟩ := HI.out
           simp [Region.binds] at hr
           have y9 := i9 (by simp [hr])
           have gm9 : g 9 = true := by first | exact m10_9 (by simp [hr]) | exact hr | exact hr.1 | exact hr.2 | exact hr.2.1 | simp [hr]
           have gm8 : g 8 = true := m9_8 gm9
           obtain ⟨⟨⟨aa8, cc8, ff8⟩, y8⟩, ho8⟩ := p8 gm8
           rw [ff8] at y8 ho8
           have z8 := sl_get y8 (by omega)
           have z9 := sl_get y9 (by omega)
           clear i0 i1 i2 i3 i5 i9 i10 i11 i12 i13 d4_6 p4 p6 p7 p8
           go_simp
           obtain ⟨-, -, -, -, -, i0, i1, i2, i3, i5, i9, i10, i11, i12, i13, -, p4, p6, p7, p8, d4_6, -⟩ := HI.out
           exact hK.out _ _ ⟨qB x1, qB x3, qB x4, qB x6, qB x12, qF i0, qF i1, qF i2, qF i3, qF i5, (fun h => by rw [put_ne (show 49 ≠ 59 by decide), put_ne (show 58 ≠ 59 by decide)]; exact i9 h), (fun _ => by rw [put_ne (show 58 ≠ 59 by decide), y8]; exact put_eq (a := ac) (i := 59) (by omega)), qF i11, (fun h => absurd (m12_10 h) (by rw [hk]; simp)), qF i13, hL, (fun h => by obtain ⟨⟨hs, hv⟩, ho⟩ := p4 h; exact ⟨⟨by rw [put_ne (show 54 ≠ 59 by decide)]; exact hs, rfl⟩, fun ht => by have ho := ho ht; exact (by rw [put_ne (show 54 ≠ 59 by decide)]; exact ho)⟩), (fun h => by obtain ⟨hs, ho⟩ := p6 h; exact ⟨(by rw [put_ne (show 56 ≠ 59 by decide)]; exact hs), fun ht => by have ho := ho ht; exact (by rw [put_ne (show 56 ≠ 59 by decide)]; exact ho)⟩), (fun h => by obtain ⟨hs, ho⟩ := p7 h; exact ⟨(by rw [put_ne (show 57 ≠ 59 by decide)]; exact hs), fun ht => by have ho := ho ht; exact (by rw [put_ne (show 57 ≠ 59 by decide)]; exact ho)⟩), (fun h => by obtain ⟨⟨hs, hv⟩, ho⟩ := p8 h; exact ⟨⟨by rw [put_ne (show 58 ≠ 59 by decide)]; exact hs, by rw [put_ne (show 58 ≠ 59 by decide)]; exact hv⟩, (by rw [put_ne (show 58 ≠ 59 by decide)]; exact ho)⟩), (fun h h' ht ht' => by rw [put_ne (show 54 ≠ 59 by decide), put_ne (show 56 ≠ 59 by decide)]; exact d4_6 h h' ht ht' ), m7_4, m7_6, m9_8, (fun _ => gm8), m12_8, m8_7, (fun _ => gm9), (fun _ => rfl), hS, Br, Be⟩
         · refine qst fun g ac wc hn hk hr HI K' hK => ?_
           obtain ⟨x1, x3, x4, x6, x12, i0, i1, i2, i3, i5, i9, i10, i11, i12, i13, hL, p4, p6, p7, p8, d4_6, m7_4, m7_6, m9_8, m10_8, m12_8, m8_7, m10_9, m12_10, hS, Br, Be⟩ := HI.out
           simp [Region.binds] at hr
           have y9 := i9 (by simp [hr])
           have z9 := sl_get y9 (by omega)
           clear i0 i1 i2 i3 i5 i9 i10 i11 i12 i13 d4_6 p4 p6 p7 p8
           go_simp
           obtain ⟨-, -, -, -, -, i0, i1, i2, i3, i5, i9, i10, i11, i12, i13, -, p4, p6, p7, p8, d4_6, -⟩ := HI.out
           exact hK.out _ _ ⟨qB x1, qB x3, qB x4, qB x6, qB x12, qF i0, qF i1, qF i2, qF i3, qF i5, (fun h => by rw [put_ne (show 49 ≠ 60 by decide), put_ne (show 58 ≠ 60 by decide)]; exact i9 h), (fun h => by rw [put_ne (show 59 ≠ 60 by decide), put_ne (show 58 ≠ 60 by decide)]; exact i10 h), qP, (fun h => by rw [put_ne (show 13 ≠ 60 by decide), put_ne (show 58 ≠ 60 by decide)]; exact i12 h), qF i13, hL, (fun h => by obtain ⟨⟨hs, hv⟩, ho⟩ := p4 h; exact ⟨⟨by rw [put_ne (show 54 ≠ 60 by decide)]; exact hs, rfl⟩, fun ht => by have ho := ho ht; exact (by rw [put_ne (show 54 ≠ 60 by decide)]; exact ho)⟩), (fun h => by obtain ⟨hs, ho⟩ := p6 h; exact ⟨(by rw [put_ne (show 56 ≠ 60 by decide)]; exact hs), fun ht => by have ho := ho ht; exact (by rw [put_ne (show 56 ≠ 60 by decide)]; exact ho)⟩), (fun h => by obtain ⟨hs, ho⟩ := p7 h; exact ⟨(by rw [put_ne (show 57 ≠ 60 by decide)]; exact hs), fun ht => by have ho := ho ht; exact (by rw [put_ne (show 57 ≠ 60 by decide)]; exact ho)⟩), (fun h => by obtain ⟨⟨hs, hv⟩, ho⟩ := p8 h; exact ⟨⟨by rw [put_ne (show 58 ≠ 60 by decide)]; exact hs, by rw [put_ne (show 58 ≠ 60 by decide)]; exact hv⟩, (by rw [put_ne (show 58 ≠ 60 by decide)]; exact ho)⟩), (fun h h' ht ht' => by rw [put_ne (show 54 ≠ 60 by decide), put_ne (show 56 ≠ 60 by decide)]; exact d4_6 h h' ht ht' ), m7_4, m7_6, m9_8, m10_8, m12_8, m8_7, m10_9, m12_10, hS, Br, Be⟩
         · refine qst fun g ac wc hn hk hr HI K' hK => ?_
           obtain ⟨x1, x3, x4, x6, x12, i0, i1, i2, i3, i5, i9, i10, i11, i12, i13, hL, p4, p6, p7, p8, d4_6, m7_4, m7_6, m9_8, m10_8, m12_8, m8_7, m10_9, m12_10, hS, Br, Be⟩ := HI.out
           simp [Region.binds] at hr
           have y10 := i10 (by simp [hr])
           have gm10 : g 10 = true := by first | exact m12_10 (by simp [hr]) | exact hr | exact hr.1 | exact hr.2 | exact hr.2.1 | simp [hr]
           have gm8 : g 8 = true := m10_8 gm10
           obtain ⟨⟨⟨aa8, cc8, ff8⟩, y8⟩, ho8⟩ := p8 gm8
           rw [ff8] at y8 ho8
           have z8 := sl_get y8 (by omega)
           have z10 := sl_get y10 (by omega)
           clear i0 i1 i2 i3 i5 i9 i10 i11 i12 i13 d4_6 p4 p6 p7 p8
           go_simp
           obtain ⟨-, -, -, -, -, i0, i1, i2, i3, i5, i9, i10, i11, i12, i13, -, p4, p6, p7, p8, d4_6, -⟩ := HI.out
           exact hK.out _ _ ⟨qB x1, qB x3, qB x4, qB x6, qB x12, qF i0, qF i1, qF i2, qF i3, qF i5, (fun h => by rw [put_ne (show 49 ≠ 13 by decide), put_ne (show 58 ≠ 13 by decide)]; exact i9 h), (fun h => by rw [put_ne (show 59 ≠ 13 by decide), put_ne (show 58 ≠ 13 by decide)]; exact i10 h), qF i11, (fun _ => by rw [put_ne (show 58 ≠ 13 by decide), y8]; exact put_eq (a := ac) (i := 13) (by omega)), qF i13, hL, (fun h => by obtain ⟨⟨hs, hv⟩, ho⟩ := p4 h; exact ⟨⟨by rw [put_ne (show 54 ≠ 13 by decide)]; exact hs, rfl⟩, fun ht => by have ho := ho ht; exact (by rw [put_ne (show 54 ≠ 13 by decide)]; exact ho)⟩), (fun h => by obtain ⟨hs, ho⟩ := p6 h; exact ⟨(by rw [put_ne (show 56 ≠ 13 by decide)]; exact hs), fun ht => by have ho := ho ht; exact (by rw [put_ne (show 56 ≠ 13 by decide)]; exact ho)⟩), (fun h => by obtain ⟨hs, ho⟩ := p7 h; exact ⟨(by rw [put_ne (show 57 ≠ 13 by decide)]; exact hs), fun ht => by have ho := ho ht; exact (by rw [put_ne (show 57 ≠ 13 by decide)]; exact ho)⟩), (fun h => by obtain ⟨⟨hs, hv⟩, ho⟩ := p8 h; exact ⟨⟨by rw [put_ne (show 58 ≠ 13 by decide)]; exact hs, by rw [put_ne (show 58 ≠ 13 by decide)]; exact hv⟩, (by rw [put_ne (show 58 ≠ 13 by decide)]; exact ho)⟩), (fun h h' ht ht' => by rw [put_ne (show 54 ≠ 13 by decide), put_ne (show 56 ≠ 13 by decide)]; exact d4_6 h h' ht ht' ), m7_4, m7_6, m9_8, m10_8, (fun _ => gm8), m8_7, m10_9, (fun _ => gm10), hS, Br, Be⟩
         · refine qst fun g ac wc hn hk hr HI K' hK => ?_
           obtain ⟨x1, x3, x4, x6, x12, i0, i1, i2, i3, i5, i9, i10, i11, i12, i13, hL, p4, p6, p7, p8, d4_6, m7_4, m7_6, m9_8, m10_8, m12_8, m8_7, m10_9, m12_10, hS, Br, Be⟩ := HI.out
           simp [Region.binds] at hr
           have y11 := i11 (by simp [hr])
           clear i0 i1 i2 i3 i5 i9 i10 i11 i12 i13 d4_6 p4 p6 p7 p8
           go_simp
           obtain ⟨-, -, -, -, -, i0, i1, i2, i3, i5, i9, i10, i11, i12, i13, -, p4, p6, p7, p8, d4_6, -⟩ := HI.out
           exact hK.out _ _ ⟨qB x1, qB x3, qB x4, qB x6, qB x12, qF i0, qF i1, qF i2, qF i3, qF i5, (fun h => by rw [put_ne (show 49 ≠ 14 by decide), put_ne (show 58 ≠ 14 by decide)]; exact i9 h), (fun h => by rw [put_ne (show 59 ≠ 14 by decide), put_ne (show 58 ≠ 14 by decide)]; exact i10 h), qF i11, (fun h => by rw [put_ne (show 13 ≠ 14 by decide), put_ne (show 58 ≠ 14 by decide)]; exact i12 h), qP, hL, (fun h => by obtain ⟨⟨hs, hv⟩, ho⟩ := p4 h; exact ⟨⟨by rw [put_ne (show 54 ≠ 14 by decide)]; exact hs, rfl⟩, fun ht => by have ho := ho ht; exact (by rw [put_ne (show 54 ≠ 14 by decide)]; exact ho)⟩), (fun h => by obtain ⟨hs, ho⟩ := p6 h; exact ⟨(by rw [put_ne (show 56 ≠ 14 by decide)]; exact hs), fun ht => by have ho := ho ht; exact (by rw [put_ne (show 56 ≠ 14 by decide)]; exact ho)⟩), (fun h => by obtain ⟨hs, ho⟩ := p7 h; exact ⟨(by rw [put_ne (show 57 ≠ 14 by decide)]; exact hs), fun ht => by have ho := ho ht; exact (by rw [put_ne (show 57 ≠ 14 by decide)]; exact ho)⟩), (fun h => by obtain ⟨⟨hs, hv⟩, ho⟩ := p8 h; exact ⟨⟨by rw [put_ne (show 58 ≠ 14 by decide)]; exact hs, by rw [put_ne (show 58 ≠ 14 by decide)]; exact hv⟩, (by rw [put_ne (show 58 ≠ 14 by decide)]; exact ho)⟩), (fun h h' ht ht' => by rw [put_ne (show 54 ≠ 14 by decide), put_ne (show 56 ≠ 14 by decide)]; exact d4_6 h h' ht ht' ), m7_4, m7_6, m9_8, m10_8, m12_8, m8_7, m10_9, m12_10, hS, Br, Be⟩
end Go.Proofs.YtkoojngonldcbaaGreat
