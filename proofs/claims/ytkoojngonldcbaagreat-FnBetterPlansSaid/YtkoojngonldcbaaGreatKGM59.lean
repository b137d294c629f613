/- DERIVED. Walks: the usual plan, the reference's. -/
import Derived.Test.YtkoojngonldcbaaGreatKGM58
import Derived.Test.YtkoojngonldcbaaGreatKGM56
namespace Go.Proofs.YtkoojngonldcbaaGreat
set_option linter.unusedVariables false
set_option linter.unusedSimpArgs false
open Go.RowKit
set_option maxRecDepth 100000
set_option maxHeartbeats 1000000 in
theorem w_l14Fits (a b d t : Int) (h1 : 1000 ≤ d) (h2 : d ≤ 9999) (h3 : -100 ≤ t) (h4 : t ≤ 100) (a1 : -100000000 ≤ a) (a2 : a ≤ 100000000) (w : World) :
 Calls Tryz.prog 118 #[.agg #[.int .i64 a, .int .i64 b], .agg #[.int .i64 d, .int .i64 t]] w fun e w' => e = .returned (.bool (fitsP ⟨a, b⟩ ⟨d, t⟩)) ∧ Later w w' := by
 have hp := ptF_bd (s := 0) (f := ⟨d, t⟩) h1 h2
 obtain ⟨PT, hPT⟩ : ∃ PT, ptF 0 ⟨d, t⟩ = PT := ⟨_, rfl⟩
 have HF := Lib.hid (show fitsP ⟨a, b⟩ ⟨d, t⟩ = inR (a + PT) 0 1048576 from by rw [← hPT]; rfl)
 rw [hPT] at hp
 obtain ⟨p1, p2⟩ := hp
 have HPT := Lib.hid hPT
 clear hPT
 go_enter Tryz.func118, Tryz.ntmps118
 go_wp2_with fail
 refine wp_name ?_
 intro z hz
 have hL0 : Later w z := by rw [hz]; exact (((Later.refl _).alloc _).alloc _)
 have K0 : z.heap[w.heap.size]? = some (.cells #[.int .i64 a, .int .i64 b] 78 (0, 0)) := by rw [hz]; exact heap_alloc_old _ _ (heap_alloc_new _ _)
 have K1 : z.heap[w.heap.size + 1]? = some (.cells #[.int .i64 d, .int .i64 t] 46 (0, 0)) := by rw [hz]; exact heap_alloc_new' _ _ (by simp)
 have hSB := hL0.size
 clear hz
 refine region_slots 11 [5, 6, 7, 8, 9, 10, 4] (fun g ac wc => sl ac 2 = .pointer (some ⟨w.heap.size, 0, none⟩) ∧
  sl ac 3 = .pointer (some ⟨w.heap.size + 1, 0, none⟩) ∧
  (g 0 = true → sl ac 5 = .pointer (some ⟨w.heap.size, 0, none⟩)) ∧
  (g 1 = true → sl ac 6 = .int .i64 a) ∧
  (g 2 = true → sl ac 7 = .agg #[.int .i64 d, .int .i64 t]) ∧
  (g 3 = true → sl ac 8 = .int .i64 PT) ∧
  (g 4 = true → sl ac 9 = .int .i64 (a + PT)) ∧
  (g 5 = true → sl ac 10 = .bool (inR (a + PT) 0 1048576)) ∧
  (g 6 = true → sl ac 4 = .bool (inR (a + PT) 0 1048576)) ∧
  Later w wc ∧
  z.heap.size ≤ wc.heap.size ∧
  wc.heap[w.heap.size]? = some (.cells #[.int .i64 a, .int .i64 b] 78 (0, 0)) ∧
  wc.heap[w.heap.size + 1]? = some (.cells #[.int .i64 d, .int .i64 t] 46 (0, 0))) (by kernel_rfl) (by kernel_rfl) rfl (by kernel_rfl) ?_ ?_ ?_
 · exact ⟨rfl, rfl, nofun, nofun, nofun, nofun, nofun, nofun, nofun, hL0.drew, Nat.le_refl _, K0, K1⟩
 · intro g ac wu hg ha hI
   obtain ⟨x2, x3, i0, i1, i2, i3, i4, i5, i6, hL, hS, B0, B1⟩ := hI
   have a0 := i0 (hg 0 (by simp))
   have a1 := i1 (hg 1 (by simp))
   have a2 := i2 (hg 2 (by simp))
   have a3 := i3 (hg 3 (by simp))
   have a4 := i4 (hg 4 (by simp))
   have a5 := i5 (hg 5 (by simp))
   have a6 := i6 (hg 6 (by simp))
   simp only [putAll, a0, a1, a2, a3, a4, a5, a6] at ha
   simp only [Act.put, List.setIfInBounds_toArray, List.set_cons_succ, List.set_cons_zero] at ha
   rw [ha]
   clear x2 x3 i0 i1 i2 i3 i4 i5 i6 a0 a1 a2 a3 a4 a5 a6 hg ha
   go_wp2
   go_ret
   exact ⟨by rw [HF.out]; rfl, hL⟩
 · refine .cons ?_ (.cons ?_ (.cons ?_ (.cons ?_ (.cons ?_ (.cons ?_ (.cons ?_ .nil))))))
   · refine qst fun g ac wc hn hk hr HI K' hK => ?_
     obtain ⟨x2, x3, -, -, -, -, -, -, -, hL, hS, B0, B1⟩ := HI.out
     simp [Region.binds] at hr
     go_simp
     obtain ⟨-, -, i0, i1, i2, i3, i4, i5, i6, -⟩ := HI.out
     exact hK.out _ _ ⟨qB x2, qB x3, qP, qF i1, qF i2, qF i3, qF i4, qF i5, qF i6, hL, hS, B0, B1⟩
   · refine qst fun g ac wc hn hk hr HI K' hK => ?_
     obtain ⟨x2, x3, i0, -, -, -, -, -, -, hL, hS, B0, B1⟩ := HI.out
     simp [Region.binds] at hr
     have y0 := i0 (by simp [hr])
     clear i0
     obtain ⟨c0, f0, z0⟩ := blk_at B0
     go_simp
     obtain ⟨-, -, i0, i1, i2, i3, i4, i5, i6, -⟩ := HI.out
     exact hK.out _ _ ⟨qB x2, qB x3, qF i0, qP, qF i2, qF i3, qF i4, qF i5, qF i6, hL, hS, B0, B1⟩
   · refine qst fun g ac wc hn hk hr HI K' hK => ?_
     obtain ⟨x2, x3, -, -, -, -, -, -, -, hL, hS, B0, B1⟩ := HI.out
     simp [Region.binds] at hr
     obtain ⟨c0, f0, z0⟩ := blk_at B1
     go_simp
     obtain ⟨-, -, i0, i1, i2, i3, i4, i5, i6, -⟩ := HI.out
     exact hK.out _ _ ⟨qB x2, qB x3, qF i0, qF i1, qP, qF i3, qF i4, qF i5, qF i6, hL, hS, B0, B1⟩
   · refine qst fun g ac wc hn hk hr HI K' hK => ?_
     obtain ⟨x2, x3, -, -, i2, -, -, -, -, hL, hS, B0, B1⟩ := HI.out
     simp [Region.binds] at hr
     have y2 := i2 (by simp [hr])
     clear i2
     go_simp
     refine (w_l14Point _ _ h1 h2 h3 h4 _).mono ?_
     rintro e w4 ⟨rfl, hL4⟩
     rw [HPT.out]
     obtain ⟨-, -, i0, i1, i2, i3, i4, i5, i6, -⟩ := HI.out
     exact hK.out _ _ ⟨qB x2, qB x3, qF i0, qF i1, qF i2, qP, qF i4, qF i5, qF i6, hL.trans hL4, Nat.le_trans hS hL4.size, hL4.keep B0, hL4.keep B1⟩
   · refine qst fun g ac wc hn hk hr HI K' hK => ?_
     obtain ⟨x2, x3, -, i1, -, i3, -, -, -, hL, hS, B0, B1⟩ := HI.out
     simp [Region.binds] at hr
     have y1 := i1 (by simp [hr])
     have y3 := i3 (by simp [hr])
     clear i1 i3
     have wD : IntKind.i64.wrap (a + PT) = a + PT := wrap_same (by omega) (by omega)
     go_simp
     obtain ⟨-, -, i0, i1, i2, i3, i4, i5, i6, -⟩ := HI.out
     exact hK.out _ _ ⟨qB x2, qB x3, qF i0, qF i1, qF i2, qF i3, qP, qF i5, qF i6, hL, hS, B0, B1⟩
   · refine qst fun g ac wc hn hk hr HI K' hK => ?_
     obtain ⟨x2, x3, -, -, -, -, i4, -, -, hL, hS, B0, B1⟩ := HI.out
     simp [Region.binds] at hr
     have y4 := i4 (by simp [hr])
     clear i4
     go_simp
     refine (w_l01In _ _ _ _).mono ?_
     rintro e w4 ⟨rfl, rfl⟩
     obtain ⟨-, -, i0, i1, i2, i3, i4, i5, i6, -⟩ := HI.out
     exact hK.out _ _ ⟨qB x2, qB x3, qF i0, qF i1, qF i2, qF i3, qF i4, qP, qF i6, hL, hS, B0, B1⟩
   · refine qst fun g ac wc hn hk hr HI K' hK => ?_
     obtain ⟨x2, x3, -, -, -, -, -, i5, -, hL, hS, B0, B1⟩ := HI.out
     simp [Region.binds] at hr
     have y5 := i5 (by simp [hr])
     clear i5
     go_simp
     obtain ⟨-, -, i0, i1, i2, i3, i4, i5, i6, -⟩ := HI.out
     exact hK.out _ _ ⟨qB x2, qB x3, qF i0, qF i1, qF i2, qF i3, qF i4, qF i5, qP, hL, hS, B0, B1⟩
def foldK (c : List Trm) (k : Nat) : Pln := ((c.drop 1).take (k - 1)).foldl termP (startP (headF c))
theorem foldK_one (c : List Trm) : foldK c 1 = startP (headF c) := rfl
theorem foldK_snoc {c : List Trm} {k : Nat} {t : Trm} (h1 : 1 ≤ k) (h : c[k]? = some t) : foldK c (k + 1) = termP (foldK c k) t := by
 obtain ⟨j, rfl⟩ : ∃ j, k = j + 1 := ⟨k - 1, by omega⟩
 exact take1_snoc h _
theorem foldK_all {c : List Trm} {k : Nat} (h : c.length ≤ k) : foldK c k = foldP c := by
 unfold foldK foldP
 rw [List.take_of_length_le (by rw [List.length_drop]; omega)]
theorem foldl_ne : ∀ (l : List Trm) (p : Pln), p.l ≠ [] → (l.foldl termP p).l ≠ []
 | [], p, h => h
 | t :: l, p, h => by
  rw [List.foldl_cons]
  refine foldl_ne l _ ?_
  unfold termP
  split
  · exact doP_ne _ _ _ _
  · split <;> exact doP_ne _ _ _ _
theorem foldK_ne (c : List Trm) (k : Nat) : (foldK c k).l ≠ [] := foldl_ne _ _ (doP_ne _ _ _ _)
theorem set_3of4 {w : World} {k : Nat} {a b c d : Value} {T : TypeId} (h : w.heap[k]? = some (.cells #[a, b, c, d] T (0, 0))) (x : Value) :
 (w.setCell ⟨k, 3, none⟩ x).heap[k]? = some (.cells #[a, b, c, x] T (0, 0)) := by
 rw [heap_setCell_same w k 3 _ T x h]; rfl
theorem ne_of_owns {w : World} {base : Nat} {e : TypeId} {s : Nat} {v : Value} {n : Nat} {xs : List Value} (ho : w.ownsRow base e s v n xs) {k : Nat} (hk : k < base) : v.ownBlock ≠ some k := fun e => by have := (ho.lt k e).1; omega
theorem run_pl1 (a b : Int) (q : Option Addr) (l k : Nat) (e : Bool) (w : World) : (Instr.field 129 (.agg #[.int .i64 a, .int .i64 b, .slice q l k, .bool e]) 1).run Tryz.prog w = .ok (.slice q l k) w := by kernel_rfl
set_option maxHeartbeats 16000000 in
theorem w_l14Usual (n : Int) (u v y : Value) (st sd : List Int) (c : List Trm) (w : World) (h : IsNums w u st) (h' : IsNums w v sd) (hy : IsTrms w y c) (hC : hasI st 0 = true ∧ hasI sd 0 = true) (hc : isChain c = true) :
 Calls Tryz.prog 60 #[.agg #[.int .i64 n, u, v], y] w fun e w' => ∃ aq lq capq, e = .returned (.slice aq lq capq) ∧ Later w w' ∧ w'.ownsRow w.heap.size 88 4 (.slice aq lq capq) (planL c).length (movs (planL c)) := by
 have H := Lib.hid h
 have H' := Lib.hid h'
 obtain ⟨_, _, au, capu, rfl, _, _, _⟩ := h
 obtain ⟨_, _, av, capv, rfl, _, _, _⟩ := h'
 have h6 := (isChain_true hc).2.1
 have h1 := (isChain_true hc).1
 obtain ⟨hxl1, hn1, a1, cap1, rfl, hcap1, hmax1, hrow1⟩ := hy
 have HR1 := Lib.hid hrow1
 clear hrow1 hxl1
 obtain ⟨b1, off1, rfl, hr1⟩ := HR1.out (by omega)
 obtain ⟨t, ht⟩ := get_ex (l := c) (k := 0) (by omega)
 have HT := Lib.hid ht
 have HK := Lib.hid (show isFig t.f = true from (isChain_true hc).2.2.2 t (List.mem_of_getElem? ht))
 have HHd := Lib.hid (headF_of' ht)
 have HC := Lib.hid hC
 have HCh := Lib.hid hc
 have HA := Lib.hid (show ∀ k, OkP ⟨n, st, sd⟩ (foldK c k) 16 from fun k => OkP.atK (r := ⟨n, st, sd⟩) hC hc (k - 1))
 have hpl := run_pl1
 have hlc : (0 : Int) < c.length := by omega
 have hlc0 : 0 < c.length := by omega
 clear hc ht hC
 go_enter Tryz.func60, Tryz.ntmps60
 go_wp2_with fail
 refine wp_name ?_
 intro z hz
 have hL0 : Later w z := by rw [hz]; exact (Later.refl _).alloc _
 have Kr : z.heap[w.heap.size]? = some (.cells #[.int .i64 n, .slice au st.length capu, .slice av sd.length capv] 26 (0, 0)) := by rw [hz]; exact heap_alloc_new _ _
 have hSB := hL0.size
 have lt0 := (Array.getElem?_eq_some_iff.1 Kr).1
 clear hz
 refine region_slots 75 [9, 10, 11, 12, 13, 14, 15, 5] (fun g ac wc => sl ac 1 = .slice (some ⟨b1, off1, none⟩) c.length cap1 ∧
  sl ac 2 = .pointer (some ⟨w.heap.size, 0, none⟩) ∧
  (g 0 = true → sl ac 9 = .agg #[.int .i64 0, .int .i64 0, .slice none 0 0, .bool false]) ∧
  (g 1 = true → sl ac 10 = .agg #[.int .i64 n, .slice au st.length capu, .slice av sd.length capv]) ∧
  (g 2 = true → sl ac 11 = .slice (some ⟨b1, off1, none⟩) c.length cap1) ∧
  (g 3 = true → sl ac 12 = .pointer (some ⟨b1, off1, none⟩)) ∧
  (g 4 = true → sl ac 13 = .pointer (some ⟨b1, off1, none⟩)) ∧
  (g 5 = true → sl ac 14 = .agg #[.int .i64 t.f.d, .int .i64 t.f.t]) ∧
  Later w wc ∧
  (g 6 = true → (IsSl (qOf (sl ac 15)) ((doP ⟨⟨0, 0⟩, [], false⟩ 0 ⟨t.f.d, t.f.t⟩ false).l.length) ∧ sl ac 15 = .agg #[.int .i64 (doP ⟨⟨0, 0⟩, [], false⟩ 0 ⟨t.f.d, t.f.t⟩ false).s.sh, .int .i64 (doP ⟨⟨0, 0⟩, [], false⟩ 0 ⟨t.f.d, t.f.t⟩ false).s.cu, qOf (sl ac 15), .bool false]) ∧ wc.ownsRow z.heap.size 88 4 (qOf (sl ac 15)) ((doP ⟨⟨0, 0⟩, [], false⟩ 0 ⟨t.f.d, t.f.t⟩ false).l.length) (movs (doP ⟨⟨0, 0⟩, [], false⟩ 0 ⟨t.f.d, t.f.t⟩ false).l)) ∧
  (g 7 = true → ∃ k, sl ac 5 = .pointer (some ⟨k, 0, none⟩) ∧ z.heap.size ≤ k ∧ ∃ q7_0 q7_1 q7_2 q7_3, wc.heap[k]? = some (.cells #[q7_0, q7_1, q7_2, q7_3] 129 (0, 0)) ∧ (g 8 = true → q7_0 = .int .i64 (doP ⟨⟨0, 0⟩, [], false⟩ 0 ⟨t.f.d, t.f.t⟩ false).s.sh ∧ q7_1 = .int .i64 (doP ⟨⟨0, 0⟩, [], false⟩ 0 ⟨t.f.d, t.f.t⟩ false).s.cu ∧ q7_2 = qOf (sl ac 15) ∧ q7_3 = .bool false)) ∧
  (g 7 = true → g 6 = true → ∀ k, sl ac 5 = .pointer (some ⟨k, 0, none⟩) → (qOf (sl ac 15)).ownBlock ≠ some k) ∧
  (g 8 = true → g 7 = true) ∧
  (g 8 = true → g 6 = true) ∧
  z.heap.size ≤ wc.heap.size ∧
  wc.heap[w.heap.size]? = some (.cells #[.int .i64 n, .slice au st.length capu, .slice av sd.length capv] 26 (0, 0))) (by kernel_rfl) (by kernel_rfl) rfl (by kernel_rfl) ?_ ?_ ?_
 · exact ⟨rfl, rfl, nofun, nofun, nofun, nofun, nofun, nofun, hL0.drew, nofun, nofun, nofun, nofun, nofun, Nat.le_refl _, Kr⟩
 · intro g ac wu hg ha hI
   obtain ⟨x1, x2, i0, i1, i2, i3, i4, i5, hL, p6, n7, dn7_6, -, -, hS, Br⟩ := hI
   obtain ⟨⟨⟨ar6, capr6, f6⟩, e6⟩, HO6⟩ := p6 (hg 6 (by simp))
   rw [f6] at e6
   rw [f6] at HO6
   have a0 := i0 (hg 0 (by simp))
   have a1 := i1 (hg 1 (by simp))
   have a2 := i2 (hg 2 (by simp))
   have a3 := i3 (hg 3 (by simp))
   have a4 := i4 (hg 4 (by simp))
   have a5 := i5 (hg 5 (by simp))
   obtain ⟨kr7, e7, br7, q7_0, q7_1, q7_2, q7_3, Kr7, g7⟩ := n7 (hg 7 (by simp))
   have g7 := g7 (hg 8 (by simp))
   rw [g7.1, g7.2.1, g7.2.2.1, g7.2.2.2] at Kr7
   clear g7
   rw [f6] at Kr7
   have NEr7_6 := dn7_6 (hg 7 (by simp)) (hg 6 (by simp)) _ e7
   rw [f6] at NEr7_6
   simp only [putAll, e6, a0, a1, a2, a3, a4, a5, e7] at ha
   simp only [Act.put, List.setIfInBounds_toArray, List.set_cons_succ, List.set_cons_zero] at ha
   rw [ha]
   clear x1 x2 i0 i1 i2 i3 i4 i5 a0 a1 a2 a3 a4 a5 p6 e6 f6 e7 n7 dn7_6 hg ha
   have HL := Lib.hid hL
   have HB := Lib.hid Br
   have HKp := Lib.hid Kr7
   have HOw := Lib.hid (owns_base HO6 hSB)
   have HNE := Lib.hid NEr7_6
   have ltk := (Array.getElem?_eq_some_iff.1 Kr7).1
   have hkw : w.heap.size < kr7 := by omega
   clear hL hS Br Kr7 HO6 NEr7_6 hL0
   go_wp2_with fail
   go_loopw [6] (fun i wr => ∃ k : Nat, 1 ≤ k ∧ k ≤ c.length ∧ i = .int .i64 k ∧ Later w wr ∧ wr.heap[w.heap.size]? = some (.cells #[.int .i64 n, .slice au st.length capu, .slice av sd.length capv] 26 (0, 0)) ∧ ∃ aq : Option Addr, ∃ lq capq : Nat, ∃ P : Pln, wr.heap[kr7]? = some (.cells #[.int .i64 P.s.sh, .int .i64 P.s.cu, .slice aq lq capq, .bool P.e] 129 (0, 0)) ∧ (Value.slice aq lq capq).ownBlock ≠ some kr7 ∧ wr.ownsRow w.heap.size 88 4 (.slice aq lq capq) P.l.length (movs P.l) ∧ Hid (P = foldK c k)) (fun i _ => c.length - (intOf i).toNat)
   case atStart => exact ⟨1, by omega, by omega, rfl, HL.out, HB.out, ar6, _, capr6, _, HKp.out, HNE.out, HOw.out, by rw [Hid, foldK_one, HHd.out]; rfl⟩
   case round =>
    obtain ⟨k, hk1, hk, rfl, hL2, hB, aq, lq, capq, P, hKp, hne, hown, HPd⟩ := hrel
    have HO := Lib.hid (HPd.out ▸ HA.out k)
    have HOu := Lib.hid (HO.out.under HC.out)
    have HB2 := Lib.hid hB
    have HKp2 := Lib.hid hKp
    have HNE := Lib.hid hne
    have HQ2 := Lib.hid hown
    have ltp := (Array.getElem?_eq_some_iff.1 hKp).1
    have hw2 := hL2.size
    clear hB hne hown
    by_cases hlt : k < c.length
    · obtain ⟨t', ht'⟩ := get_ex (l := c) (k := k) (by omega)
      have HT2 := Lib.hid ht'
      obtain ⟨r1, r2, r3⟩ := (hr1.later hL2).trm ht'
      have hbr2 := (hr1.later hL2).1
      have HK2 := Lib.hid (show isFig t'.f = true from (isChain_true HCh.out).2.2.2 t' (List.mem_of_getElem? ht'))
      clear ht' hKp
      cases hq : t'.dv
      · rw [hq] at r3
        have HTd := Lib.hid (show t' = ⟨t'.f, false⟩ from by rw [← hq])
        clear hq
        cases he : P.e
        · have HNo := Lib.hid (show (P.e && fitsP P.s t'.f) = false from by rw [he]; rfl)
          have HEf := Lib.hid he
          clear he
          have HL4 := Lib.hid (show Later w _ from hL2.alloc (.cells #[.int .i64 t'.f.d, .int .i64 t'.f.t] 46))
          have HB4 := Lib.hid (heap_alloc_old wr (.cells #[.int .i64 t'.f.d, .int .i64 t'.f.t] 46) HB2.out)
          have HKp4 := Lib.hid (heap_alloc_old wr (.cells #[.int .i64 t'.f.d, .int .i64 t'.f.t] 46) HKp2.out)
          have HKf4 := Lib.hid (heap_alloc_new wr (.cells #[.int .i64 t'.f.d, .int .i64 t'.f.t] 46))
          have HQ4 := Lib.hid (HQ2.out.alloc (.cells #[.int .i64 t'.f.d, .int .i64 t'.f.t] 46))
          have lt4 := (Array.getElem?_eq_some_iff.1 HKp4.out).1
          have lt4f := (Array.getElem?_eq_some_iff.1 HKf4.out).1
          have hw4 := HL4.out.size
          have hk4 := HKp4.out
          rw [HEf.out] at hk4
          obtain ⟨cp, fp, zp⟩ := blk_at hk4
          obtain ⟨cr, fr, zr⟩ := blk_at HB4.out
          clear hk4
          go_wp2_with fail
          refine (w_l14UnderX n au av aq capu capv lq capq w.heap.size st sd P false HEf.out.symm _ (H.out.later HL4.out) (H'.out.later HL4.out) HQ4.out hw4 (by rw [HPd.out]; exact foldK_ne _ _) HC.out HO.out.st (by have := HO.out.len; omega)).mono ?_
          rintro e w5 ⟨aq2, lq2, capq2, rfl, hL5, ho5, hat5⟩
          have HKp5 := Lib.hid (hL5.keep HKp4.out)
          have HKf5 := Lib.hid (hL5.keep HKf4.out)
          have HB5 := Lib.hid (hL5.keep HB4.out)
          have HL5 := Lib.hid (HL4.out.trans hL5)
          have HNq := Lib.hid (show (Value.slice aq2 lq2 capq2).ownBlock ≠ some kr7 from fun e => by (rcases hat5 _ e with h | h); (· exact HNE.out h); (· omega))
          have HQ5 := Lib.hid ho5
          obtain ⟨P2, hP2⟩ : ∃ x, underP P = x := ⟨_, rfl⟩
          have HO2 := Lib.hid (hP2 ▸ HOu.out)
          have HNe2 := Lib.hid (show P2.l ≠ [] from hP2 ▸ underP_ne (by rw [HPd.out]; exact foldK_ne _ _))
          have HTn := Lib.hid (show termP P ⟨t'.f, false⟩ = doP (sideP P2 t'.f) 1 t'.f false from hP2 ▸ termP_n HNo.out)
          have hsb := isStg_bd HO2.out.st
          obtain ⟨-, -, cu1, cu2⟩ := hsb
          rw [hP2] at HQ5 ⊢
          clear cp fp zp cr fr zr hL5 ho5 hat5 hP2
          obtain ⟨cp, fp, zp⟩ := blk_at HKp5.out
          go_wp2_with fail
          refine wp_name ?_
          intro zb hz
          have hLb : Later w zb := by rw [hz]; exact (((HL5.out.setCell (show w.heap.size ≤ kr7 by omega) _).setCell (show w.heap.size ≤ kr7 by omega) _).setCell (show w.heap.size ≤ kr7 by omega) _).setCell (show w.heap.size ≤ kr7 by omega) _
          have Kp : zb.heap[kr7]? = some (.cells #[.int .i64 P2.s.sh, .int .i64 P2.s.cu, .slice aq2 lq2 capq2, .bool P2.e] 129 (0, 0)) := by rw [hz]; exact four_set HKp5.out _ _ _ _
          have Kr : zb.heap[w.heap.size]? = some (.cells #[.int .i64 n, .slice au st.length capu, .slice av sd.length capv] 26 (0, 0)) := by rw [hz]; exact other_set (other_set (other_set (other_set HB5.out (by omega) _) (by omega) _) (by omega) _) (by omega) _
          have Kf : zb.heap[wr.heap.size]? = some (.cells #[.int .i64 t'.f.d, .int .i64 t'.f.t] 46 (0, 0)) := by rw [hz]; exact other_set (other_set (other_set (other_set HKf5.out (by omega) _) (by omega) _) (by omega) _) (by omega) _
          have HQb := Lib.hid (show zb.ownsRow w.heap.size 88 4 (.slice aq2 lq2 capq2) P2.l.length (movs P2.l) from by rw [hz]; exact owns_setNe (owns_setNe (owns_setNe (owns_setNe HQ5.out HNq.out _ _) HNq.out _ _) HNq.out _ _) HNq.out _ _)
          have NQq := HNq.out
          have HLb := Lib.hid hLb
          have hL0 := Later.refl zb
          have hSB := Nat.le_refl zb.heap.size
          clear hz hLb cp fp zp
          obtain ⟨f1, f2, f3, f4⟩ := isFig_true HK2.out
          obtain ⟨PT, hPT⟩ : ∃ x, ptF 0 ⟨t'.f.d, t'.f.t⟩ = x := ⟨_, rfl⟩
          have hpb := pt0_bd f1 f2
          rw [show ptF 0 t'.f = PT from hPT] at hpb
          obtain ⟨pt1, pt2⟩ := hpb
          have HPT := Lib.hid hPT
          clear hPT
          refine region_slots 75 [30, 31, 32, 33, 34, 35, 36] (fun g ac wc => sl ac 5 = .pointer (some ⟨kr7, 0, none⟩) ∧
           sl ac 7 = .pointer (some ⟨wr.heap.size, 0, none⟩) ∧
           (g 0 = true → sl ac 30 = .pointer (some ⟨kr7, 0, none⟩)) ∧
           (g 1 = true → sl ac 31 = .pointer (some ⟨kr7, 1, none⟩)) ∧
           (g 2 = true → sl ac 32 = .int .i64 P2.s.cu) ∧
           (g 3 = true → sl ac 33 = .agg #[.int .i64 t'.f.d, .int .i64 t'.f.t]) ∧
           (g 4 = true → sl ac 34 = .int .i64 PT) ∧
           (g 5 = true → sl ac 35 = .int .i64 (P2.s.cu + PT)) ∧
           (g 6 = true → sl ac 36 = .bool (inR (P2.s.cu + PT) 0 1048576)) ∧
           Later zb wc ∧
           zb.heap.size ≤ wc.heap.size ∧
           wc.heap[w.heap.size]? = some (.cells #[.int .i64 n, .slice au st.length capu, .slice av sd.length capv] 26 (0, 0)) ∧
           wc.heap[wr.heap.size]? = some (.cells #[.int .i64 t'.f.d, .int .i64 t'.f.t] 46 (0, 0)) ∧
           wc.heap[kr7]? = some (.cells #[.int .i64 P2.s.sh, .int .i64 P2.s.cu, .slice aq2 lq2 capq2, .bool P2.e] 129 (0, 0))) (by kernel_rfl) (by kernel_rfl) rfl (by kernel_rfl) ?_ ?_ ?_
          · exact ⟨rfl, rfl, nofun, nofun, nofun, nofun, nofun, nofun, nofun, hL0.drew, Nat.le_refl _, Kr, Kf, Kp⟩
          · intro g ac ut hg ha hI
            obtain ⟨x5, x7, i0, i1, i2, i3, i4, i5, i6, hL, hS, Br, Bf, Bp⟩ := hI
            have a0 := i0 (hg 0 (by simp))
            have a1 := i1 (hg 1 (by simp))
            have a2 := i2 (hg 2 (by simp))
            have a3 := i3 (hg 3 (by simp))
            have a4 := i4 (hg 4 (by simp))
            have a5 := i5 (hg 5 (by simp))
            have a6 := i6 (hg 6 (by simp))
            simp only [putAll, a0, a1, a2, a3, a4, a5, a6] at ha
            simp only [Act.put, List.setIfInBounds_toArray, List.set_cons_succ, List.set_cons_zero] at ha
            rw [ha]
            clear x5 x7 i0 i1 i2 i3 i4 i5 i6 a0 a1 a2 a3 a4 a5 a6 hg ha
            have HL6 := Lib.hid (HLb.out.trans hL)
            have HB6 := Lib.hid Br
            have HKp6 := Lib.hid Bp
            have HKf6 := Lib.hid Bf
            have HQ6 := Lib.hid (owns_later HQb.out hL)
            clear hL hS Br Bf Bp hL0
            obtain ⟨LB, hLB⟩ : ∃ x, inR (P2.s.cu + PT) 0 1048576 = x := ⟨_, rfl⟩
            have HLB := Lib.hid ((show leftP P2.s t'.f = inR (P2.s.cu + PT) 0 1048576 from by rw [← HPT.out]; rfl).trans hLB)
            rw [hLB]
            clear hLB
            cases LB
            · go_wp2_with fail
              refine wp_name ?_
              intro z7 hz
              have hL0 : Later w z7 := by rw [hz]; exact HL6.out
              have Kr := show z7.heap[w.heap.size]? = some (.cells #[.int .i64 n, .slice au st.length capu, .slice av sd.length capv] 26 (0, 0)) from by rw [hz]; exact HB6.out
              have Kp := show z7.heap[kr7]? = some (.cells #[.int .i64 P2.s.sh, .int .i64 P2.s.cu, .slice aq2 lq2 capq2, .bool P2.e] 129 (0, 0)) from by rw [hz]; exact HKp6.out
              have Kf := show z7.heap[wr.heap.size]? = some (.cells #[.int .i64 t'.f.d, .int .i64 t'.f.t] 46 (0, 0)) from by rw [hz]; exact HKf6.out
              have Qq := show z7.ownsRow w.heap.size 88 4 (.slice aq2 lq2 capq2) P2.l.length (movs P2.l) from by rw [hz]; exact HQ6.out
              have hSB := hL0.size
              have lt7 := (Array.getElem?_eq_some_iff.1 Kp).1
              have lt8 := (Array.getElem?_eq_some_iff.1 Kf).1
              have lt9 := (Array.getElem?_eq_some_iff.1 Kr).1
              have hRBp : w.heap.size ≤ kr7 := by omega
              clear hz
              refine region_slots 75 [37, 38, 39, 40, 41, 42, 43, 44] (fun g ac wc => sl ac 2 = .pointer (some ⟨w.heap.size, 0, none⟩) ∧
               sl ac 5 = .pointer (some ⟨kr7, 0, none⟩) ∧
               sl ac 7 = .pointer (some ⟨wr.heap.size, 0, none⟩) ∧
               sl ac 8 = .int .i64 4 ∧
               (g 0 = true → sl ac 37 = .agg #[.int .i64 P2.s.sh, .int .i64 P2.s.cu, .slice aq2 lq2 capq2, .bool P2.e]) ∧
               (g 1 = true → sl ac 38 = .agg #[.int .i64 n, .slice au st.length capu, .slice av sd.length capv]) ∧
               (g 2 = true → sl ac 39 = .int .i64 4) ∧
               (g 3 = true → sl ac 40 = .agg #[.int .i64 0, .int .i64 0]) ∧
               (g 5 = true → sl ac 42 = .agg #[.int .i64 n, .slice au st.length capu, .slice av sd.length capv]) ∧
               (g 6 = true → sl ac 43 = .agg #[.int .i64 t'.f.d, .int .i64 t'.f.t]) ∧
               Later w wc ∧
               (g 4 = true → (IsSl (qOf (sl ac 41)) ((doP P2 4 ⟨0, 0⟩ false).l.length) ∧ sl ac 41 = .agg #[.int .i64 (doP P2 4 ⟨0, 0⟩ false).s.sh, .int .i64 (doP P2 4 ⟨0, 0⟩ false).s.cu, qOf (sl ac 41), .bool false]) ∧ wc.ownsRow z7.heap.size 88 4 (qOf (sl ac 41)) ((doP P2 4 ⟨0, 0⟩ false).l.length) (movs (doP P2 4 ⟨0, 0⟩ false).l)) ∧
               (g 7 = true → (IsSl (qOf (sl ac 44)) ((doP (doP P2 4 ⟨0, 0⟩ false) 1 ⟨t'.f.d, t'.f.t⟩ false).l.length) ∧ sl ac 44 = .agg #[.int .i64 (doP (doP P2 4 ⟨0, 0⟩ false) 1 ⟨t'.f.d, t'.f.t⟩ false).s.sh, .int .i64 (doP (doP P2 4 ⟨0, 0⟩ false) 1 ⟨t'.f.d, t'.f.t⟩ false).s.cu, qOf (sl ac 44), .bool false]) ∧ wc.ownsRow z7.heap.size 88 4 (qOf (sl ac 44)) ((doP (doP P2 4 ⟨0, 0⟩ false) 1 ⟨t'.f.d, t'.f.t⟩ false).l.length) (movs (doP (doP P2 4 ⟨0, 0⟩ false) 1 ⟨t'.f.d, t'.f.t⟩ false).l)) ∧
               wc.ownsRow w.heap.size 88 4 (.slice aq2 lq2 capq2) (P2.l.length) (movs P2.l) ∧
               (g 8 = true → g 0 = true) ∧
               (g 8 = true → g 7 = true) ∧
               z7.heap.size ≤ wc.heap.size ∧
               wc.heap[w.heap.size]? = some (.cells #[.int .i64 n, .slice au st.length capu, .slice av sd.length capv] 26 (0, 0)) ∧
               wc.heap[wr.heap.size]? = some (.cells #[.int .i64 t'.f.d, .int .i64 t'.f.t] 46 (0, 0)) ∧
               (∃ p_0 p_1 p_2 p_3, wc.heap[kr7]? = some (.cells #[p_0, p_1, p_2, p_3] 129 (0, 0)) ∧ (g 8 = true → p_0 = .int .i64 (doP (doP P2 4 ⟨0, 0⟩ false) 1 ⟨t'.f.d, t'.f.t⟩ false).s.sh ∧ p_1 = .int .i64 (doP (doP P2 4 ⟨0, 0⟩ false) 1 ⟨t'.f.d, t'.f.t⟩ false).s.cu ∧ p_2 = qOf (sl ac 44) ∧ p_3 = .bool false) ∧ (g 8 = false → p_0 = .int .i64 P2.s.sh ∧ p_1 = .int .i64 P2.s.cu ∧ p_2 = .slice aq2 lq2 capq2 ∧ p_3 = .bool P2.e))) (by kernel_rfl) (by kernel_rfl) rfl (by kernel_rfl) ?_ ?_ ?_
              · exact ⟨rfl, rfl, rfl, rfl, nofun, nofun, nofun, nofun, nofun, nofun, hL0.drew, nofun, nofun, owns_later Qq (Later.refl _).drew, nofun, nofun, Nat.le_refl _, Kr, Kf, ⟨_, _, _, _, Kp, nofun, fun _ => ⟨rfl, rfl, rfl, rfl⟩⟩⟩
              · intro g ac uy hg ha hI
                obtain ⟨x2, x5, x7, x8, i0, i1, i2, i3, i5, i6, hL, p4, p7, Qq, -, -, hS, Br, Bf, Rp⟩ := hI
                obtain ⟨⟨⟨ay4, capy4, f4⟩, e4⟩, HO4⟩ := p4 (hg 4 (by simp))
                rw [f4] at e4
                rw [f4] at HO4
                obtain ⟨⟨⟨ay7, capy7, f7⟩, e7⟩, HO7⟩ := p7 (hg 7 (by simp))
                rw [f7] at e7
                rw [f7] at HO7
                have a0 := i0 (hg 0 (by simp))
                have a1 := i1 (hg 1 (by simp))
                have a2 := i2 (hg 2 (by simp))
                have a3 := i3 (hg 3 (by simp))
                have a5 := i5 (hg 5 (by simp))
                have a6 := i6 (hg 6 (by simp))
                obtain ⟨p_0, p_1, p_2, p_3, Kp, gr⟩ := Rp
                have gr := gr.1 (hg 8 (by simp))
                rw [gr.1, gr.2.1, gr.2.2.1, gr.2.2.2] at Kp
                rw [f7] at Kp
                clear gr
                simp only [putAll, e4, e7, a0, a1, a2, a3, a5, a6] at ha
                simp only [Act.put, List.setIfInBounds_toArray, List.set_cons_succ, List.set_cons_zero] at ha
                rw [ha]
                clear x2 x5 x7 x8 i0 i1 i2 i3 i5 i6 a0 a1 a2 a3 a5 a6 p4 p7 e4 e7 f4 f7 hg ha
                have HL9 := Lib.hid hL
                have HB9 := Lib.hid Br
                have HKp9 := Lib.hid Kp
                have HO9 := Lib.hid HO7
                have hlt9 := (Array.getElem?_eq_some_iff.1 Kp).1
                clear hL hS Br Bf Kp HO7 hL0 Qq
                go_wp2
                go_roundw
                case rel => exact ⟨k + 1, by omega, by omega, by go_num, HL9.out, HB9.out, ay7, _, capy7, (doP (doP P2 4 ⟨0, 0⟩ false) 1 ⟨t'.f.d, t'.f.t⟩ false), HKp9.out, ne_of_owns HO9.out (by omega), owns_base HO9.out (by omega), by rw [Hid, foldK_snoc hk1 HT2.out, ← HPd.out]; exact ((congrArg (termP P) HTd.out).trans (HTn.out.trans (by rw [side_n HLB.out]))).symm⟩
                case measure => simp [intOf]; omega
              · refine .cons ?_ (.cons ?_ (.cons ?_ (.cons ?_ (.cons ?_ (.cons ?_ (.cons ?_ (.cons ?_ (.cons ?_ .nil))))))))
                · refine qst fun g ac wc hn hk hr HI K' hK => ?_
                  obtain ⟨x2, x5, x7, x8, i0, i1, i2, i3, i5, i6, hL, p4, p7, Qq, m8_0, m8_7, hS, Br, Bf, Rp⟩ := HI.out
                  simp [Region.binds] at hr
                  clear i0 i1 i2 i3 i5 i6 p4 p7 Qq
                  have hst : g 8 = false := by
                   cases hq : g 8 with
                   | false => rfl
                   | true =>
                    have := m8_0 hq
                    rw [hk] at this
                    cases this
                  have RR := Rp
                  obtain ⟨p_0, p_1, p_2, p_3, R1, -, R3⟩ := RR
                  have R3 := R3 hst
                  rw [R3.1, R3.2.1, R3.2.2.1, R3.2.2.2] at R1
                  obtain ⟨cR, fR, zR⟩ := blk_at R1
                  clear R1 R3
                  go_simp
                  obtain ⟨-, -, -, -, i0, i1, i2, i3, i5, i6, -, p4, p7, Qq, -⟩ := HI.out
                  exact hK.out _ _ ⟨qB x2, qB x5, qB x7, qB x8, qP, qF i1, qF i2, qF i3, qF i5, qF i6, hL, (fun h => by obtain ⟨⟨hs, hv⟩, ho⟩ := p4 h; exact ⟨⟨by rw [put_ne (show 41 ≠ 37 by decide)]; exact hs, by rw [put_ne (show 41 ≠ 37 by decide)]; exact hv⟩, (by rw [put_ne (show 41 ≠ 37 by decide)]; exact ho)⟩), (fun h => by obtain ⟨⟨hs, hv⟩, ho⟩ := p7 h; exact ⟨⟨by rw [put_ne (show 44 ≠ 37 by decide)]; exact hs, by rw [put_ne (show 44 ≠ 37 by decide)]; exact hv⟩, (by rw [put_ne (show 44 ≠ 37 by decide)]; exact ho)⟩), Qq, (fun _ => rfl), m8_7, hS, Br, Bf, (by obtain ⟨p_0, p_1, p_2, p_3, R1, R2, R3⟩ := Rp; exact ⟨p_0, p_1, p_2, p_3, R1, (fun h => absurd (m8_0 h) (by rw [hk]; simp)), R3⟩)⟩
                · refine qst fun g ac wc hn hk hr HI K' hK => ?_
                  obtain ⟨x2, x5, x7, x8, i0, i1, i2, i3, i5, i6, hL, p4, p7, Qq, m8_0, m8_7, hS, Br, Bf, Rp⟩ := HI.out
                  simp [Region.binds] at hr
                  clear i0 i1 i2 i3 i5 i6 p4 p7 Qq
                  obtain ⟨c0, f0, z0⟩ := blk_at Br
                  go_simp
                  obtain ⟨-, -, -, -, i0, i1, i2, i3, i5, i6, -, p4, p7, Qq, -⟩ := HI.out
                  exact hK.out _ _ ⟨qB x2, qB x5, qB x7, qB x8, qF i0, qP, qF i2, qF i3, qF i5, qF i6, hL, (fun h => by obtain ⟨⟨hs, hv⟩, ho⟩ := p4 h; exact ⟨⟨by rw [put_ne (show 41 ≠ 38 by decide)]; exact hs, by rw [put_ne (show 41 ≠ 38 by decide)]; exact hv⟩, (by rw [put_ne (show 41 ≠ 38 by decide)]; exact ho)⟩), (fun h => by obtain ⟨⟨hs, hv⟩, ho⟩ := p7 h; exact ⟨⟨by rw [put_ne (show 44 ≠ 38 by decide)]; exact hs, by rw [put_ne (show 44 ≠ 38 by decide)]; exact hv⟩, (by rw [put_ne (show 44 ≠ 38 by decide)]; exact ho)⟩), Qq, m8_0, m8_7, hS, Br, Bf, (by obtain ⟨p_0, p_1, p_2, p_3, R1, R2, R3⟩ := Rp; exact ⟨p_0, p_1, p_2, p_3, R1, (fun h => by rw [put_ne (by decide)]; exact R2 h), R3⟩)⟩
                · refine qst fun g ac wc hn hk hr HI K' hK => ?_
                  obtain ⟨x2, x5, x7, x8, i0, i1, i2, i3, i5, i6, hL, p4, p7, Qq, m8_0, m8_7, hS, Br, Bf, Rp⟩ := HI.out
                  simp [Region.binds] at hr
                  clear i0 i1 i2 i3 i5 i6 p4 p7 Qq
                  go_simp
                  obtain ⟨-, -, -, -, i0, i1, i2, i3, i5, i6, -, p4, p7, Qq, -⟩ := HI.out
                  exact hK.out _ _ ⟨qB x2, qB x5, qB x7, qB x8, qF i0, qF i1, qP, qF i3, qF i5, qF i6, hL, (fun h => by obtain ⟨⟨hs, hv⟩, ho⟩ := p4 h; exact ⟨⟨by rw [put_ne (show 41 ≠ 39 by decide)]; exact hs, by rw [put_ne (show 41 ≠ 39 by decide)]; exact hv⟩, (by rw [put_ne (show 41 ≠ 39 by decide)]; exact ho)⟩), (fun h => by obtain ⟨⟨hs, hv⟩, ho⟩ := p7 h; exact ⟨⟨by rw [put_ne (show 44 ≠ 39 by decide)]; exact hs, by rw [put_ne (show 44 ≠ 39 by decide)]; exact hv⟩, (by rw [put_ne (show 44 ≠ 39 by decide)]; exact ho)⟩), Qq, m8_0, m8_7, hS, Br, Bf, (by obtain ⟨p_0, p_1, p_2, p_3, R1, R2, R3⟩ := Rp; exact ⟨p_0, p_1, p_2, p_3, R1, (fun h => by rw [put_ne (by decide)]; exact R2 h), R3⟩)⟩
                · refine qst fun g ac wc hn hk hr HI K' hK => ?_
                  obtain ⟨x2, x5, x7, x8, i0, i1, i2, i3, i5, i6, hL, p4, p7, Qq, m8_0, m8_7, hS, Br, Bf, Rp⟩ := HI.out
                  simp [Region.binds] at hr
                  clear i0 i1 i2 i3 i5 i6 p4 p7 Qq
                  go_simp
                  obtain ⟨-, -, -, -, i0, i1, i2, i3, i5, i6, -, p4, p7, Qq, -⟩ := HI.out
                  exact hK.out _ _ ⟨qB x2, qB x5, qB x7, qB x8, qF i0, qF i1, qF i2, qP, qF i5, qF i6, hL, (fun h => by obtain ⟨⟨hs, hv⟩, ho⟩ := p4 h; exact ⟨⟨by rw [put_ne (show 41 ≠ 40 by decide)]; exact hs, by rw [put_ne (show 41 ≠ 40 by decide)]; exact hv⟩, (by rw [put_ne (show 41 ≠ 40 by decide)]; exact ho)⟩), (fun h => by obtain ⟨⟨hs, hv⟩, ho⟩ := p7 h; exact ⟨⟨by rw [put_ne (show 44 ≠ 40 by decide)]; exact hs, by rw [put_ne (show 44 ≠ 40 by decide)]; exact hv⟩, (by rw [put_ne (show 44 ≠ 40 by decide)]; exact ho)⟩), Qq, m8_0, m8_7, hS, Br, Bf, (by obtain ⟨p_0, p_1, p_2, p_3, R1, R2, R3⟩ := Rp; exact ⟨p_0, p_1, p_2, p_3, R1, (fun h => by rw [put_ne (by decide)]; exact R2 h), R3⟩)⟩
                · refine qst fun g ac wc hn hk hr HI K' hK => ?_
                  obtain ⟨x2, x5, x7, x8, i0, i1, i2, i3, i5, i6, hL, p4, p7, Qq, m8_0, m8_7, hS, Br, Bf, Rp⟩ := HI.out
                  simp [Region.binds] at hr
                  have y0 := i0 (by simp [hr])
                  have y1 := i1 (by simp [hr])
                  have y2 := i2 (by simp [hr])
                  have y3 := i3 (by simp [hr])
                  have z0 := sl_get y0 (by omega)
                  have z1 := sl_get y1 (by omega)
                  have z2 := sl_get y2 (by omega)
                  have z3 := sl_get y3 (by omega)
                  replace i0 := Lib.hid i0
                  replace i1 := Lib.hid i1
                  replace i2 := Lib.hid i2
                  replace i3 := Lib.hid i3
                  replace i5 := Lib.hid i5
                  replace i6 := Lib.hid i6
                  replace p4 := Lib.hid p4
                  replace p7 := Lib.hid p7
                  replace Qq := Lib.hid Qq
                  go_simp
                  refine (w_l14Do n au av aq2 capu capv lq2 capq2 st sd P2 _ 4 0 0 _ (H.out.later hL) (H'.out.later hL) (reads_of_owns Qq.out (by have := HO2.out.len; omega)) HNe2.out HC.out HO2.out.st (isMove_end (by decide) (by decide)) (by have := HO2.out.len; omega)).mono ?_
                  rintro e w4 ⟨a4, l4, c4, rfl, hL4, ho4⟩
                  obtain ⟨a5, c5, e5⟩ := isSl_of ho4
                  simp only [Value.slice.injEq] at e5
                  obtain ⟨rfl, rfl, rfl⟩ := e5
                  exact hK.out _ _ ⟨qB x2, qB x5, qB x7, qB x8, qF i0.out, qF i1.out, qF i2.out, qF i3.out, qF i5.out, qF i6.out, hL.trans hL4, (fun _ => ⟨⟨by rw [put_eq (by omega)]; exact ⟨_, _, rfl⟩, by rw [put_eq (by omega)]; rfl⟩, by rw [put_eq (by omega)]; exact owns_base ho4 hS⟩), (fun h => by obtain ⟨⟨hs, hv⟩, ho⟩ := p7.out h; exact ⟨⟨by rw [put_ne (show 44 ≠ 41 by decide)]; exact hs, by rw [put_ne (show 44 ≠ 41 by decide)]; exact hv⟩, (by rw [put_ne (show 44 ≠ 41 by decide)]; exact (owns_later ho hL4))⟩), (owns_later Qq.out hL4), m8_0, m8_7, Nat.le_trans hS hL4.size, (hL4.keep Br), (hL4.keep Bf), (by obtain ⟨p_0, p_1, p_2, p_3, R1, R2, R3⟩ := Rp; exact ⟨p_0, p_1, p_2, p_3, hL4.keep R1, (fun h => by rw [put_ne (by decide)]; exact R2 h), R3⟩)⟩
                · refine qst fun g ac wc hn hk hr HI K' hK => ?_
                  obtain ⟨x2, x5, x7, x8, i0, i1, i2, i3, i5, i6, hL, p4, p7, Qq, m8_0, m8_7, hS, Br, Bf, Rp⟩ := HI.out
                  simp [Region.binds] at hr
                  clear i0 i1 i2 i3 i5 i6 p4 p7 Qq
                  obtain ⟨c0, f0, z0⟩ := blk_at Br
                  go_simp
                  obtain ⟨-, -, -, -, i0, i1, i2, i3, i5, i6, -, p4, p7, Qq, -⟩ := HI.out
                  exact hK.out _ _ ⟨qB x2, qB x5, qB x7, qB x8, qF i0, qF i1, qF i2, qF i3, qP, qF i6, hL, (fun h => by obtain ⟨⟨hs, hv⟩, ho⟩ := p4 h; exact ⟨⟨by rw [put_ne (show 41 ≠ 42 by decide)]; exact hs, by rw [put_ne (show 41 ≠ 42 by decide)]; exact hv⟩, (by rw [put_ne (show 41 ≠ 42 by decide)]; exact ho)⟩), (fun h => by obtain ⟨⟨hs, hv⟩, ho⟩ := p7 h; exact ⟨⟨by rw [put_ne (show 44 ≠ 42 by decide)]; exact hs, by rw [put_ne (show 44 ≠ 42 by decide)]; exact hv⟩, (by rw [put_ne (show 44 ≠ 42 by decide)]; exact ho)⟩), Qq, m8_0, m8_7, hS, Br, Bf, (by obtain ⟨p_0, p_1, p_2, p_3, R1, R2, R3⟩ := Rp; exact ⟨p_0, p_1, p_2, p_3, R1, (fun h => by rw [put_ne (by decide)]; exact R2 h), R3⟩)⟩
                · refine qst fun g ac wc hn hk hr HI K' hK => ?_
                  obtain ⟨x2, x5, x7, x8, i0, i1, i2, i3, i5, i6, hL, p4, p7, Qq, m8_0, m8_7, hS, Br, Bf, Rp⟩ := HI.out
                  simp [Region.binds] at hr
                  clear i0 i1 i2 i3 i5 i6 p4 p7 Qq
                  obtain ⟨c0, f0, z0⟩ := blk_at Bf
                  go_simp
                  obtain ⟨-, -, -, -, i0, i1, i2, i3, i5, i6, -, p4, p7, Qq, -⟩ := HI.out
                  exact hK.out _ _ ⟨qB x2, qB x5, qB x7, qB x8, qF i0, qF i1, qF i2, qF i3, qF i5, qP, hL, (fun h => by obtain ⟨⟨hs, hv⟩, ho⟩ := p4 h; exact ⟨⟨by rw [put_ne (show 41 ≠ 43 by decide)]; exact hs, by rw [put_ne (show 41 ≠ 43 by decide)]; exact hv⟩, (by rw [put_ne (show 41 ≠ 43 by decide)]; exact ho)⟩), (fun h => by obtain ⟨⟨hs, hv⟩, ho⟩ := p7 h; exact ⟨⟨by rw [put_ne (show 44 ≠ 43 by decide)]; exact hs, by rw [put_ne (show 44 ≠ 43 by decide)]; exact hv⟩, (by rw [put_ne (show 44 ≠ 43 by decide)]; exact ho)⟩), Qq, m8_0, m8_7, hS, Br, Bf, (by obtain ⟨p_0, p_1, p_2, p_3, R1, R2, R3⟩ := Rp; exact ⟨p_0, p_1, p_2, p_3, R1, (fun h => by rw [put_ne (by decide)]; exact R2 h), R3⟩)⟩
                · refine qst fun g ac wc hn hk hr HI K' hK => ?_
                  obtain ⟨x2, x5, x7, x8, i0, i1, i2, i3, i5, i6, hL, p4, p7, Qq, m8_0, m8_7, hS, Br, Bf, Rp⟩ := HI.out
                  simp [Region.binds] at hr
                  have y5 := i5 (by simp [hr])
                  have y6 := i6 (by simp [hr])
                  obtain ⟨⟨⟨aa4, cc4, ff4⟩, y4⟩, ho4⟩ := p4 (by simp [hr])
                  rw [ff4] at y4 ho4
                  have z4 := sl_get y4 (by omega)
                  have z5 := sl_get y5 (by omega)
                  have z6 := sl_get y6 (by omega)
                  clear i0 i1 i2 i3 i5 i6 p4 p7 Qq
                  go_simp
                  refine (w_l14Do n au av aa4 capu capv _ cc4 st sd (doP P2 4 ⟨0, 0⟩ false) _ 1 t'.f.d t'.f.t _ (H.out.later hL) (H'.out.later hL) (reads_of_owns ho4 (by have := (HO2.out.right HC.out false).len; omega)) (doP_ne _ _ _ _) HC.out (HO2.out.right HC.out false).st (isMove_fig (by decide) (by decide) HK2.out) (by have := (HO2.out.right HC.out false).len; omega)).mono ?_
                  rintro e w4 ⟨a4, l4, c4, rfl, hL4, ho4⟩
                  obtain ⟨a5, c5, e5⟩ := isSl_of ho4
                  simp only [Value.slice.injEq] at e5
                  obtain ⟨rfl, rfl, rfl⟩ := e5
                  obtain ⟨-, -, -, -, i0, i1, i2, i3, i5, i6, -, p4, p7, Qq, -⟩ := HI.out
                  exact hK.out _ _ ⟨qB x2, qB x5, qB x7, qB x8, qF i0, qF i1, qF i2, qF i3, qF i5, qF i6, hL.trans hL4, (fun h => by obtain ⟨⟨hs, hv⟩, ho⟩ := p4 h; exact ⟨⟨by rw [put_ne (show 41 ≠ 44 by decide)]; exact hs, by rw [put_ne (show 41 ≠ 44 by decide)]; exact hv⟩, (by rw [put_ne (show 41 ≠ 44 by decide)]; exact (owns_later ho hL4))⟩), (fun _ => ⟨⟨by rw [put_eq (by omega)]; exact ⟨_, _, rfl⟩, by rw [put_eq (by omega)]; rfl⟩, by rw [put_eq (by omega)]; exact owns_base ho4 hS⟩), (owns_later Qq hL4), m8_0, (fun _ => rfl), Nat.le_trans hS hL4.size, (hL4.keep Br), (hL4.keep Bf), (by obtain ⟨p_0, p_1, p_2, p_3, R1, R2, R3⟩ := Rp; exact ⟨p_0, p_1, p_2, p_3, hL4.keep R1, (fun h => absurd (m8_7 h) (by rw [hk]; simp)), R3⟩)⟩
                · refine qst fun g ac wc hn hk hr HI K' hK => ?_
                  obtain ⟨x2, x5, x7, x8, i0, i1, i2, i3, i5, i6, hL, p4, p7, Qq, m8_0, m8_7, hS, Br, Bf, Rp⟩ := HI.out
                  simp [Region.binds] at hr
                  have gm0 : g 0 = true := by first | exact m8_0 (by simp [hr]) | exact hr | exact hr.1 | exact hr.2 | exact hr.2.1 | simp [hr]
                  have gm7 : g 7 = true := by first | exact m8_7 (by simp [hr]) | exact hr | exact hr.1 | exact hr.2 | exact hr.2.1 | simp [hr]
                  replace i0 := Lib.hid i0
                  replace i1 := Lib.hid i1
                  replace i2 := Lib.hid i2
                  replace i3 := Lib.hid i3
                  replace i5 := Lib.hid i5
                  replace i6 := Lib.hid i6
                  replace p4 := Lib.hid p4
                  replace p7 := Lib.hid p7
                  replace Qq := Lib.hid Qq
                  obtain ⟨p_0, p_1, p_2, p_3, R1, -, R3⟩ := Rp
                  have R3 := R3 hk
                  rw [R3.1, R3.2.1, R3.2.2.1, R3.2.2.2] at R1
                  obtain ⟨c0, f0, z0⟩ := blk_at R1
                  obtain ⟨⟨⟨aa, cc, yy7⟩, y7⟩, -⟩ := p7.out gm7
                  rw [yy7] at y7
                  have z7 := sl_get y7 (by omega)
                  go_simp
                  exact hK.out undef _ ⟨x2, x5, x7, x8, i0.out, i1.out, i2.out, i3.out, i5.out, i6.out, ((((hL.setCell hRBp _).setCell hRBp _).setCell hRBp _).setCell hRBp _), (fun h => by obtain ⟨⟨hs, hv⟩, ho⟩ := p4.out h; exact ⟨⟨hs, hv⟩, (owns_set (owns_set (owns_set (owns_set ho (by omega) _ _) (by omega) _ _) (by omega) _ _) (by omega) _ _)⟩), (fun h => by obtain ⟨⟨hs, hv⟩, ho⟩ := p7.out h; exact ⟨⟨hs, hv⟩, (owns_set (owns_set (owns_set (owns_set ho (by omega) _ _) (by omega) _ _) (by omega) _ _) (by omega) _ _)⟩), (owns_setNe (owns_setNe (owns_setNe (owns_setNe Qq.out NQq _ _) NQq _ _) NQq _ _) NQq _ _), (fun _ => gm0), (fun _ => gm7), (by simp; omega), (other_set (other_set (other_set (other_set Br (by omega) _) (by omega) _) (by omega) _) (by omega) _), (other_set (other_set (other_set (other_set Bf (by omega) _) (by omega) _) (by omega) _) (by omega) _), ⟨_, _, _, _, four_set R1 _ _ _ _, fun _ => ⟨rfl, rfl, yy7.symm, rfl⟩, fun h => absurd h (by simp)⟩⟩
            · go_wp2_with fail
              refine wp_name ?_
              intro z7 hz
              have hL0 : Later w z7 := by rw [hz]; exact HL6.out
              have Kr := show z7.heap[w.heap.size]? = some (.cells #[.int .i64 n, .slice au st.length capu, .slice av sd.length capv] 26 (0, 0)) from by rw [hz]; exact HB6.out
              have Kp := show z7.heap[kr7]? = some (.cells #[.int .i64 P2.s.sh, .int .i64 P2.s.cu, .slice aq2 lq2 capq2, .bool P2.e] 129 (0, 0)) from by rw [hz]; exact HKp6.out
              have Kf := show z7.heap[wr.heap.size]? = some (.cells #[.int .i64 t'.f.d, .int .i64 t'.f.t] 46 (0, 0)) from by rw [hz]; exact HKf6.out
              have Qq := show z7.ownsRow w.heap.size 88 4 (.slice aq2 lq2 capq2) P2.l.length (movs P2.l) from by rw [hz]; exact HQ6.out
              have hSB := hL0.size
              have lt7 := (Array.getElem?_eq_some_iff.1 Kp).1
              have lt8 := (Array.getElem?_eq_some_iff.1 Kf).1
              have lt9 := (Array.getElem?_eq_some_iff.1 Kr).1
              have hRBp : w.heap.size ≤ kr7 := by omega
              clear hz
              refine region_slots 75 [37, 38, 39, 40, 41, 42, 43, 44] (fun g ac wc => sl ac 2 = .pointer (some ⟨w.heap.size, 0, none⟩) ∧
               sl ac 5 = .pointer (some ⟨kr7, 0, none⟩) ∧
               sl ac 7 = .pointer (some ⟨wr.heap.size, 0, none⟩) ∧
               sl ac 8 = .int .i64 3 ∧
               (g 0 = true → sl ac 37 = .agg #[.int .i64 P2.s.sh, .int .i64 P2.s.cu, .slice aq2 lq2 capq2, .bool P2.e]) ∧
               (g 1 = true → sl ac 38 = .agg #[.int .i64 n, .slice au st.length capu, .slice av sd.length capv]) ∧
               (g 2 = true → sl ac 39 = .int .i64 3) ∧
               (g 3 = true → sl ac 40 = .agg #[.int .i64 0, .int .i64 0]) ∧
               (g 5 = true → sl ac 42 = .agg #[.int .i64 n, .slice au st.length capu, .slice av sd.length capv]) ∧
               (g 6 = true → sl ac 43 = .agg #[.int .i64 t'.f.d, .int .i64 t'.f.t]) ∧
               Later w wc ∧
               (g 4 = true → (IsSl (qOf (sl ac 41)) ((doP P2 3 ⟨0, 0⟩ false).l.length) ∧ sl ac 41 = .agg #[.int .i64 (doP P2 3 ⟨0, 0⟩ false).s.sh, .int .i64 (doP P2 3 ⟨0, 0⟩ false).s.cu, qOf (sl ac 41), .bool false]) ∧ wc.ownsRow z7.heap.size 88 4 (qOf (sl ac 41)) ((doP P2 3 ⟨0, 0⟩ false).l.length) (movs (doP P2 3 ⟨0, 0⟩ false).l)) ∧
               (g 7 = true → (IsSl (qOf (sl ac 44)) ((doP (doP P2 3 ⟨0, 0⟩ false) 1 ⟨t'.f.d, t'.f.t⟩ false).l.length) ∧ sl ac 44 = .agg #[.int .i64 (doP (doP P2 3 ⟨0, 0⟩ false) 1 ⟨t'.f.d, t'.f.t⟩ false).s.sh, .int .i64 (doP (doP P2 3 ⟨0, 0⟩ false) 1 ⟨t'.f.d, t'.f.t⟩ false).s.cu, qOf (sl ac 44), .bool false]) ∧ wc.ownsRow z7.heap.size 88 4 (qOf (sl ac 44)) ((doP (doP P2 3 ⟨0, 0⟩ false) 1 ⟨t'.f.d, t'.f.t⟩ false).l.length) (movs (doP (doP P2 3 ⟨0, 0⟩ false) 1 ⟨t'.f.d, t'.f.t⟩ false).l)) ∧
               wc.ownsRow w.heap.size 88 4 (.slice aq2 lq2 capq2) (P2.l.length) (movs P2.l) ∧
               (g 8 = true → g 0 = true) ∧
               (g 8 = true → g 7 = true) ∧
               z7.heap.size ≤ wc.heap.size ∧
               wc.heap[w.heap.size]? = some (.cells #[.int .i64 n, .slice au st.length capu, .slice av sd.length capv] 26 (0, 0)) ∧
               wc.heap[wr.heap.size]? = some (.cells #[.int .i64 t'.f.d, .int .i64 t'.f.t] 46 (0, 0)) ∧
               (∃ p_0 p_1 p_2 p_3, wc.heap[kr7]? = some (.cells #[p_0, p_1, p_2, p_3] 129 (0, 0)) ∧ (g 8 = true → p_0 = .int .i64 (doP (doP P2 3 ⟨0, 0⟩ false) 1 ⟨t'.f.d, t'.f.t⟩ false).s.sh ∧ p_1 = .int .i64 (doP (doP P2 3 ⟨0, 0⟩ false) 1 ⟨t'.f.d, t'.f.t⟩ false).s.cu ∧ p_2 = qOf (sl ac 44) ∧ p_3 = .bool false) ∧ (g 8 = false → p_0 = .int .i64 P2.s.sh ∧ p_1 = .int .i64 P2.s.cu ∧ p_2 = .slice aq2 lq2 capq2 ∧ p_3 = .bool P2.e))) (by kernel_rfl) (by kernel_rfl) rfl (by kernel_rfl) ?_ ?_ ?_
              · exact ⟨rfl, rfl, rfl, rfl, nofun, nofun, nofun, nofun, nofun, nofun, hL0.drew, nofun, nofun, owns_later Qq (Later.refl _).drew, nofun, nofun, Nat.le_refl _, Kr, Kf, ⟨_, _, _, _, Kp, nofun, fun _ => ⟨rfl, rfl, rfl, rfl⟩⟩⟩
              · intro g ac uy hg ha hI
                obtain ⟨x2, x5, x7, x8, i0, i1, i2, i3, i5, i6, hL, p4, p7, Qq, -, -, hS, Br, Bf, Rp⟩ := hI
                obtain ⟨⟨⟨ay4, capy4, f4⟩, e4⟩, HO4⟩ := p4 (hg 4 (by simp))
                rw [f4] at e4
                rw [f4] at HO4
                obtain ⟨⟨⟨ay7, capy7, f7⟩, e7⟩, HO7⟩ := p7 (hg 7 (by simp))
                rw [f7] at e7
                rw [f7] at HO7
                have a0 := i0 (hg 0 (by simp))
                have a1 := i1 (hg 1 (by simp))
                have a2 := i2 (hg 2 (by simp))
                have a3 := i3 (hg 3 (by simp))
                have a5 := i5 (hg 5 (by simp))
                have a6 := i6 (hg 6 (by simp))
                obtain ⟨p_0, p_1, p_2, p_3, Kp, gr⟩ := Rp
                have gr := gr.1 (hg 8 (by simp))
                rw [gr.1, gr.2.1, gr.2.2.1, gr.2.2.2] at Kp
                rw [f7] at Kp
                clear gr
                simp only [putAll, e4, e7, a0, a1, a2, a3, a5, a6] at ha
                simp only [Act.put, List.setIfInBounds_toArray, List.set_cons_succ, List.set_cons_zero] at ha
                rw [ha]
                clear x2 x5 x7 x8 i0 i1 i2 i3 i5 i6 a0 a1 a2 a3 a5 a6 p4 p7 e4 e7 f4 f7 hg ha
                have HL9 := Lib.hid hL
                have HB9 := Lib.hid Br
                have HKp9 := Lib.hid Kp
                have HO9 := Lib.hid HO7
                have hlt9 := (Array.getElem?_eq_some_iff.1 Kp).1
                clear hL hS Br Bf Kp HO7 hL0 Qq
                go_wp2
                go_roundw
                case rel => exact ⟨k + 1, by omega, by omega, by go_num, HL9.out, HB9.out, ay7, _, capy7, (doP (doP P2 3 ⟨0, 0⟩ false) 1 ⟨t'.f.d, t'.f.t⟩ false), HKp9.out, ne_of_owns HO9.out (by omega), owns_base HO9.out (by omega), by rw [Hid, foldK_snoc hk1 HT2.out, ← HPd.out]; exact ((congrArg (termP P) HTd.out).trans (HTn.out.trans (by rw [side_y HLB.out]))).symm⟩
                case measure => simp [intOf]; omega
              · refine .cons ?_ (.cons ?_ (.cons ?_ (.cons ?_ (.cons ?_ (.cons ?_ (.cons ?_ (.cons ?_ (.cons ?_ .nil))))))))
                · refine qst fun g ac wc hn hk hr HI K' hK => ?_
                  obtain ⟨x2, x5, x7, x8, i0, i1, i2, i3, i5, i6, hL, p4, p7, Qq, m8_0, m8_7, hS, Br, Bf, Rp⟩ := HI.out
                  simp [Region.binds] at hr
                  clear i0 i1 i2 i3 i5 i6 p4 p7 Qq
                  have hst : g 8 = false := by
                   cases hq : g 8 with
                   | false => rfl
                   | true =>
                    have := m8_0 hq
                    rw [hk] at this
                    cases this
                  have RR := Rp
                  obtain ⟨p_0, p_1, p_2, p_3, R1, -, R3⟩ := RR
                  have R3 := R3 hst
                  rw [R3.1, R3.2.1, R3.2.2.1, R3.2.2.2] at R1
                  obtain ⟨cR, fR, zR⟩ := blk_at R1
                  clear R1 R3
                  go_simp
                  obtain ⟨-, -, -, -, i0, i1, i2, i3, i5, i6, -, p4, p7, Qq, -⟩ := HI.out
                  exact hK.out _ _ ⟨qB x2, qB x5, qB x7, qB x8, qP, qF i1, qF i2, qF i3, qF i5, qF i6, hL, (fun h => by obtain ⟨⟨hs, hv⟩, ho⟩ := p4 h; exact ⟨⟨by rw [put_ne (show 41 ≠ 37 by decide)]; exact hs, by rw [put_ne (show 41 ≠ 37 by decide)]; exact hv⟩, (by rw [put_ne (show 41 ≠ 37 by decide)]; exact ho)⟩), (fun h => by obtain ⟨⟨hs, hv⟩, ho⟩ := p7 h; exact ⟨⟨by rw [put_ne (show 44 ≠ 37 by decide)]; exact hs, by rw [put_ne (show 44 ≠ 37 by decide)]; exact hv⟩, (by rw [put_ne (show 44 ≠ 37 by decide)]; exact ho)⟩), Qq, (fun _ => rfl), m8_7, hS, Br, Bf, (by obtain ⟨p_0, p_1, p_2, p_3, R1, R2, R3⟩ := Rp; exact ⟨p_0, p_1, p_2, p_3, R1, (fun h => absurd (m8_0 h) (by rw [hk]; simp)), R3⟩)⟩
                · refine qst fun g ac wc hn hk hr HI K' hK => ?_
                  obtain ⟨x2, x5, x7, x8, i0, i1, i2, i3, i5, i6, hL, p4, p7, Qq, m8_0, m8_7, hS, Br, Bf, Rp⟩ := HI.out
                  simp [Region.binds] at hr
                  clear i0 i1 i2 i3 i5 i6 p4 p7 Qq
                  obtain ⟨c0, f0, z0⟩ := blk_at Br
                  go_simp
                  obtain ⟨-, -, -, -, i0, i1, i2, i3, i5, i6, -, p4, p7, Qq, -⟩ := HI.out
                  exact hK.out _ _ ⟨qB x2, qB x5, qB x7, qB x8, qF i0, qP, qF i2, qF i3, qF i5, qF i6, hL, (fun h => by obtain ⟨⟨hs, hv⟩, ho⟩ := p4 h; exact ⟨⟨by rw [put_ne (show 41 ≠ 38 by decide)]; exact hs, by rw [put_ne (show 41 ≠ 38 by decide)]; exact hv⟩, (by rw [put_ne (show 41 ≠ 38 by decide)]; exact ho)⟩), (fun h => by obtain ⟨⟨hs, hv⟩, ho⟩ := p7 h; exact ⟨⟨by rw [put_ne (show 44 ≠ 38 by decide)]; exact hs, by rw [put_ne (show 44 ≠ 38 by decide)]; exact hv⟩, (by rw [put_ne (show 44 ≠ 38 by decide)]; exact ho)⟩), Qq, m8_0, m8_7, hS, Br, Bf, (by obtain ⟨p_0, p_1, p_2, p_3, R1, R2, R3⟩ := Rp; exact ⟨p_0, p_1, p_2, p_3, R1, (fun h => by rw [put_ne (by decide)]; exact R2 h), R3⟩)⟩
                · refine qst fun g ac wc hn hk hr HI K' hK => ?_
                  obtain ⟨x2, x5, x7, x8, i0, i1, i2, i3, i5, i6, hL, p4, p7, Qq, m8_0, m8_7, hS, Br, Bf, Rp⟩ := HI.out
                  simp [Region.binds] at hr
                  clear i0 i1 i2 i3 i5 i6 p4 p7 Qq
                  go_simp
                  obtain ⟨-, -, -, -, i0, i1, i2, i3, i5, i6, -, p4, p7, Qq, -⟩ := HI.out
                  exact hK.out _ _ ⟨qB x2, qB x5, qB x7, qB x8, qF i0, qF i1, qP, qF i3, qF i5, qF i6, hL, (fun h => by obtain ⟨⟨hs, hv⟩, ho⟩ := p4 h; exact ⟨⟨by rw [put_ne (show 41 ≠ 39 by decide)]; exact hs, by rw [put_ne (show 41 ≠ 39 by decide)]; exact hv⟩, (by rw [put_ne (show 41 ≠ 39 by decide)]; exact ho)⟩), (fun h => by obtain ⟨⟨hs, hv⟩, ho⟩ := p7 h; exact ⟨⟨by rw [put_ne (show 44 ≠ 39 by decide)]; exact hs, by rw [put_ne (show 44 ≠ 39 by decide)]; exact hv⟩, (by rw [put_ne (show 44 ≠ 39 by decide)]; exact ho)⟩), Qq, m8_0, m8_7, hS, Br, Bf, (by obtain ⟨p_0, p_1, p_2, p_3, R1, R2, R3⟩ := Rp; exact ⟨p_0, p_1, p_2, p_3, R1, (fun h => by rw [put_ne (by decide)]; exact R2 h), R3⟩)⟩
                · refine qst fun g ac wc hn hk hr HI K' hK => ?_
                  obtain ⟨x2, x5, x7, x8, i0, i1, i2, i3, i5, i6, hL, p4, p7, Qq, m8_0, m8_7, hS, Br, Bf, Rp⟩ := HI.out
                  simp [Region.binds] at hr
                  clear i0 i1 i2 i3 i5 i6 p4 p7 Qq
                  go_simp
                  obtain ⟨-, -, -, -, i0, i1, i2, i3, i5, i6, -, p4, p7, Qq, -⟩ := HI.out
                  exact hK.out _ _ ⟨qB x2, qB x5, qB x7, qB x8, qF i0, qF i1, qF i2, qP, qF i5, qF i6, hL, (fun h => by obtain ⟨⟨hs, hv⟩, ho⟩ := p4 h; exact ⟨⟨by rw [put_ne (show 41 ≠ 40 by decide)]; exact hs, by rw [put_ne (show 41 ≠ 40 by decide)]; exact hv⟩, (by rw [put_ne (show 41 ≠ 40 by decide)]; exact ho)⟩), (fun h => by obtain ⟨⟨hs, hv⟩, ho⟩ := p7 h; exact ⟨⟨by rw [put_ne (show 44 ≠ 40 by decide)]; exact hs, by rw [put_ne (show 44 ≠ 40 by decide)]; exact hv⟩, (by rw [put_ne (show 44 ≠ 40 by decide)]; exact ho)⟩), Qq, m8_0, m8_7, hS, Br, Bf, (by obtain ⟨p_0, p_1, p_2, p_3, R1, R2, R3⟩ := Rp; exact ⟨p_0, p_1, p_2, p_3, R1, (fun h => by rw [put_ne (by decide)]; exact R2 h), R3⟩)⟩
                · refine qst fun g ac wc hn hk hr HI K' hK => ?_
                  obtain ⟨x2, x5, x7, x8, i0, i1, i2, i3, i5, i6, hL, p4, p7, Qq, m8_0, m8_7, hS, Br, Bf, Rp⟩ := HI.out
                  simp [Region.binds] at hr
                  have y0 := i0 (by simp [hr])
                  have y1 := i1 (by simp [hr])
                  have y2 := i2 (by simp [hr])
                  have y3 := i3 (by simp [hr])
                  have z0 := sl_get y0 (by omega)
                  have z1 := sl_get y1 (by omega)
                  have z2 := sl_get y2 (by omega)
                  have z3 := sl_get y3 (by omega)
                  replace i0 := Lib.hid i0
                  replace i1 := Lib.hid i1
                  replace i2 := Lib.hid i2
                  replace i3 := Lib.hid i3
                  replace i5 := Lib.hid i5
                  replace i6 := Lib.hid i6
                  replace p4 := Lib.hid p4
                  replace p7 := Lib.hid p7
                  replace Qq := Lib.hid Qq
                  go_simp
                  refine (w_l14Do n au av aq2 capu capv lq2 capq2 st sd P2 _ 3 0 0 _ (H.out.later hL) (H'.out.later hL) (reads_of_owns Qq.out (by have := HO2.out.len; omega)) HNe2.out HC.out HO2.out.st (isMove_end (by decide) (by decide)) (by have := HO2.out.len; omega)).mono ?_
                  rintro e w4 ⟨a4, l4, c4, rfl, hL4, ho4⟩
                  obtain ⟨a5, c5, e5⟩ := isSl_of ho4
                  simp only [Value.slice.injEq] at e5
                  obtain ⟨rfl, rfl, rfl⟩ := e5
                  exact hK.out _ _ ⟨qB x2, qB x5, qB x7, qB x8, qF i0.out, qF i1.out, qF i2.out, qF i3.out, qF i5.out, qF i6.out, hL.trans hL4, (fun _ => ⟨⟨by rw [put_eq (by omega)]; exact ⟨_, _, rfl⟩, by rw [put_eq (by omega)]; rfl⟩, by rw [put_eq (by omega)]; exact owns_base ho4 hS⟩), (fun h => by obtain ⟨⟨hs, hv⟩, ho⟩ := p7.out h; exact ⟨⟨by rw [put_ne (show 44 ≠ 41 by decide)]; exact hs, by rw [put_ne (show 44 ≠ 41 by decide)]; exact hv⟩, (by rw [put_ne (show 44 ≠ 41 by decide)]; exact (owns_later ho hL4))⟩), (owns_later Qq.out hL4), m8_0, m8_7, Nat.le_trans hS hL4.size, (hL4.keep Br), (hL4.keep Bf), (by obtain ⟨p_0, p_1, p_2, p_3, R1, R2, R3⟩ := Rp; exact ⟨p_0, p_1, p_2, p_3, hL4.keep R1, (fun h => by rw [put_ne (by decide)]; exact R2 h), R3⟩)⟩
                · refine qst fun g ac wc hn hk hr HI K' hK => ?_
                  obtain ⟨x2, x5, x7, x8, i0, i1, i2, i3, i5, i6, hL, p4, p7, Qq, m8_0, m8_7, hS, Br, Bf, Rp⟩ := HI.out
                  simp [Region.binds] at hr
                  clear i0 i1 i2 i3 i5 i6 p4 p7 Qq
                  obtain ⟨c0, f0, z0⟩ := blk_at Br
                  go_simp
                  obtain ⟨-, -, -, -, i0, i1, i2, i3, i5, i6, -, p4, p7, Qq, -⟩ := HI.out
                  exact hK.out _ _ ⟨qB x2, qB x5, qB x7, qB x8, qF i0, qF i1, qF i2, qF i3, qP, qF i6, hL, (fun h => by obtain ⟨⟨hs, hv⟩, ho⟩ := p4 h; exact ⟨⟨by rw [put_ne (show 41 ≠ 42 by decide)]; exact hs, by rw [put_ne (show 41 ≠ 42 by decide)]; exact hv⟩, (by rw [put_ne (show 41 ≠ 42 by decide)]; exact ho)⟩), (fun h => by obtain ⟨⟨hs, hv⟩, ho⟩ := p7 h; exact ⟨⟨by rw [put_ne (show 44 ≠ 42 by decide)]; exact hs, by rw [put_ne (show 44 ≠ 42 by decide)]; exact hv⟩, (by rw [put_ne (show 44 ≠ 42 by decide)]; exact ho)⟩), Qq, m8_0, m8_7, hS, Br, Bf, (by obtain ⟨p_0, p_1, p_2, p_3, R1, R2, R3⟩ := Rp; exact ⟨p_0, p_1, p_2, p_3, R1, (fun h => by rw [put_ne (by decide)]; exact R2 h), R3⟩)⟩
                · refine qst fun g ac wc hn hk hr HI K' hK => ?_
                  obtain ⟨x2, x5, x7, x8, i0, i1, i2, i3, i5, i6, hL, p4, p7, Qq, m8_0, m8_7, hS, Br, Bf, Rp⟩ := HI.out
                  simp [Region.binds] at hr
                  clear i0 i1 i2 i3 i5 i6 p4 p7 Qq
                  obtain ⟨c0, f0, z0⟩ := blk_at Bf
                  go_simp
                  obtain ⟨-, -, -, -, i0, i1, i2, i3, i5, i6, -, p4, p7, Qq, -⟩ := HI.out
                  exact hK.out _ _ ⟨qB x2, qB x5, qB x7, qB x8, qF i0, qF i1, qF i2, qF i3, qF i5, qP, hL, (fun h => by obtain ⟨⟨hs, hv⟩, ho⟩ := p4 h; exact ⟨⟨by rw [put_ne (show 41 ≠ 43 by decide)]; exact hs, by rw [put_ne (show 41 ≠ 43 by decide)]; exact hv⟩, (by rw [put_ne (show 41 ≠ 43 by decide)]; exact ho)⟩), (fun h => by obtain ⟨⟨hs, hv⟩, ho⟩ := p7 h; exact ⟨⟨by rw [put_ne (show 44 ≠ 43 by decide)]; exact hs, by rw [put_ne (show 44 ≠ 43 by decide)]; exact hv⟩, (by rw [put_ne (show 44 ≠ 43 by decide)]; exact ho)⟩), Qq, m8_0, m8_7, hS, Br, Bf, (by obtain ⟨p_0, p_1, p_2, p_3, R1, R2, R3⟩ := Rp; exact ⟨p_0, p_1, p_2, p_3, R1, (fun h => by rw [put_ne (by decide)]; exact R2 h), R3⟩)⟩
                · refine qst fun g ac wc hn hk hr HI K' hK => ?_
                  obtain ⟨x2, x5, x7, x8, i0, i1, i2, i3, i5, i6, hL, p4, p7, Qq, m8_0, m8_7, hS, Br, Bf, Rp⟩ := HI.out
                  simp [Region.binds] at hr
                  have y5 := i5 (by simp [hr])
                  have y6 := i6 (by simp [hr])
                  obtain ⟨⟨⟨aa4, cc4, ff4⟩, y4⟩, ho4⟩ := p4 (by simp [hr])
                  rw [ff4] at y4 ho4
                  have z4 := sl_get y4 (by omega)
                  have z5 := sl_get y5 (by omega)
                  have z6 := sl_get y6 (by omega)
                  clear i0 i1 i2 i3 i5 i6 p4 p7 Qq
                  go_simp
                  refine (w_l14Do n au av aa4 capu capv _ cc4 st sd (doP P2 3 ⟨0, 0⟩ false) _ 1 t'.f.d t'.f.t _ (H.out.later hL) (H'.out.later hL) (reads_of_owns ho4 (by have := (HO2.out.left HC.out false).len; omega)) (doP_ne _ _ _ _) HC.out (HO2.out.left HC.out false).st (isMove_fig (by decide) (by decide) HK2.out) (by have := (HO2.out.left HC.out false).len; omega)).mono ?_
                  rintro e w4 ⟨a4, l4, c4, rfl, hL4, ho4⟩
                  obtain ⟨a5, c5, e5⟩ := isSl_of ho4
                  simp only [Value.slice.injEq] at e5
                  obtain ⟨rfl, rfl, rfl⟩ := e5
                  obtain ⟨-, -, -, -, i0, i1, i2, i3, i5, i6, -, p4, p7, Qq, -⟩ := HI.out
                  exact hK.out _ _ ⟨qB x2, qB x5, qB x7, qB x8, qF i0, qF i1, qF i2, qF i3, qF i5, qF i6, hL.trans hL4, (fun h => by obtain ⟨⟨hs, hv⟩, ho⟩ := p4 h; exact ⟨⟨by rw [put_ne (show 41 ≠ 44 by decide)]; exact hs, by rw [put_ne (show 41 ≠ 44 by decide)]; exact hv⟩, (by rw [put_ne (show 41 ≠ 44 by decide)]; exact (owns_later ho hL4))⟩), (fun _ => ⟨⟨by rw [put_eq (by omega)]; exact ⟨_, _, rfl⟩, by rw [put_eq (by omega)]; rfl⟩, by rw [put_eq (by omega)]; exact owns_base ho4 hS⟩), (owns_later Qq hL4), m8_0, (fun _ => rfl), Nat.le_trans hS hL4.size, (hL4.keep Br), (hL4.keep Bf), (by obtain ⟨p_0, p_1, p_2, p_3, R1, R2, R3⟩ := Rp; exact ⟨p_0, p_1, p_2, p_3, hL4.keep R1, (fun h => absurd (m8_7 h) (by rw [hk]; simp)), R3⟩)⟩
                · refine qst fun g ac wc hn hk hr HI K' hK => ?_
                  obtain ⟨x2, x5, x7, x8, i0, i1, i2, i3, i5, i6, hL, p4, p7, Qq, m8_0, m8_7, hS, Br, Bf, Rp⟩ := HI.out
                  simp [Region.binds] at hr
                  have gm0 : g 0 = true := by first | exact m8_0 (by simp [hr]) | exact hr | exact hr.1 | exact hr.2 | exact hr.2.1 | simp [hr]
                  have gm7 : g 7 = true := by first | exact m8_7 (by simp [hr]) | exact hr | exact hr.1 | exact hr.2 | exact hr.2.1 | simp [hr]
                  replace i0 := Lib.hid i0
                  replace i1 := Lib.hid i1
                  replace i2 := Lib.hid i2
                  replace i3 := Lib.hid i3
                  replace i5 := Lib.hid i5
                  replace i6 := Lib.hid i6
                  replace p4 := Lib.hid p4
                  replace p7 := Lib.hid p7
                  replace Qq := Lib.hid Qq
                  obtain ⟨p_0, p_1, p_2, p_3, R1, -, R3⟩ := Rp
                  have R3 := R3 hk
                  rw [R3.1, R3.2.1, R3.2.2.1, R3.2.2.2] at R1
                  obtain ⟨c0, f0, z0⟩ := blk_at R1
                  obtain ⟨⟨⟨aa, cc, yy7⟩, y7⟩, -⟩ := p7.out gm7
                  rw [yy7] at y7
                  have z7 := sl_get y7 (by omega)
                  go_simp
                  exact hK.out undef _ ⟨x2, x5, x7, x8, i0.out, i1.out, i2.out, i3.out, i5.out, i6.out, ((((hL.setCell hRBp _).setCell hRBp _).setCell hRBp _).setCell hRBp _), (fun h => by obtain ⟨⟨hs, hv⟩, ho⟩ := p4.out h; exact ⟨⟨hs, hv⟩, (owns_set (owns_set (owns_set (owns_set ho (by omega) _ _) (by omega) _ _) (by omega) _ _) (by omega) _ _)⟩), (fun h => by obtain ⟨⟨hs, hv⟩, ho⟩ := p7.out h; exact ⟨⟨hs, hv⟩, (owns_set (owns_set (owns_set (owns_set ho (by omega) _ _) (by omega) _ _) (by omega) _ _) (by omega) _ _)⟩), (owns_setNe (owns_setNe (owns_setNe (owns_setNe Qq.out NQq _ _) NQq _ _) NQq _ _) NQq _ _), (fun _ => gm0), (fun _ => gm7), (by simp; omega), (other_set (other_set (other_set (other_set Br (by omega) _) (by omega) _) (by omega) _) (by omega) _), (other_set (other_set (other_set (other_set Bf (by omega) _) (by omega) _) (by omega) _) (by omega) _), ⟨_, _, _, _, four_set R1 _ _ _ _, fun _ => ⟨rfl, rfl, yy7.symm, rfl⟩, fun h => absurd h (by simp)⟩⟩
          · refine .cons ?_ (.cons ?_ (.cons ?_ (.cons ?_ (.cons ?_ (.cons ?_ (.cons ?_ .nil))))))
            · refine qst fun g ac wc hn hk hr HI K' hK => ?_
              obtain ⟨x5, x7, -, -, -, -, -, -, -, hL, hS, Br, Bf, Bp⟩ := HI.out
              simp [Region.binds] at hr
              go_simp
              obtain ⟨-, -, i0, i1, i2, i3, i4, i5, i6, -⟩ := HI.out
              exact hK.out _ _ ⟨qB x5, qB x7, qP, qF i1, qF i2, qF i3, qF i4, qF i5, qF i6, hL, hS, Br, Bf, Bp⟩
            · refine qst fun g ac wc hn hk hr HI K' hK => ?_
              obtain ⟨x5, x7, i0, -, -, -, -, -, -, hL, hS, Br, Bf, Bp⟩ := HI.out
              simp [Region.binds] at hr
              have y0 := i0 (by simp [hr])
              clear i0
              go_simp
              obtain ⟨-, -, i0, i1, i2, i3, i4, i5, i6, -⟩ := HI.out
              exact hK.out _ _ ⟨qB x5, qB x7, qF i0, qP, qF i2, qF i3, qF i4, qF i5, qF i6, hL, hS, Br, Bf, Bp⟩
            · refine qst fun g ac wc hn hk hr HI K' hK => ?_
              obtain ⟨x5, x7, -, i1, -, -, -, -, -, hL, hS, Br, Bf, Bp⟩ := HI.out
              simp [Region.binds] at hr
              have y1 := i1 (by simp [hr])
              clear i1
              obtain ⟨c0, f0, z0⟩ := blk_at Bp
              go_simp
              obtain ⟨-, -, i0, i1, i2, i3, i4, i5, i6, -⟩ := HI.out
              exact hK.out _ _ ⟨qB x5, qB x7, qF i0, qF i1, qP, qF i3, qF i4, qF i5, qF i6, hL, hS, Br, Bf, Bp⟩
            · refine qst fun g ac wc hn hk hr HI K' hK => ?_
              obtain ⟨x5, x7, -, -, -, -, -, -, -, hL, hS, Br, Bf, Bp⟩ := HI.out
              simp [Region.binds] at hr
              obtain ⟨c0, f0, z0⟩ := blk_at Bf
              go_simp
              obtain ⟨-, -, i0, i1, i2, i3, i4, i5, i6, -⟩ := HI.out
              exact hK.out _ _ ⟨qB x5, qB x7, qF i0, qF i1, qF i2, qP, qF i4, qF i5, qF i6, hL, hS, Br, Bf, Bp⟩
            · refine qst fun g ac wc hn hk hr HI K' hK => ?_
              obtain ⟨x5, x7, -, -, -, i3, -, -, -, hL, hS, Br, Bf, Bp⟩ := HI.out
              simp [Region.binds] at hr
              have y3 := i3 (by simp [hr])
              clear i3
              go_simp
              refine (w_l14Point _ _ f1 f2 (by omega) (by omega) _).mono ?_
              rintro e w4 ⟨rfl, hL4⟩
              rw [HPT.out]
              obtain ⟨-, -, i0, i1, i2, i3, i4, i5, i6, -⟩ := HI.out
              exact hK.out _ _ ⟨qB x5, qB x7, qF i0, qF i1, qF i2, qF i3, qP, qF i5, qF i6, hL.trans hL4, Nat.le_trans hS hL4.size, hL4.keep Br, hL4.keep Bf, hL4.keep Bp⟩
            · refine qst fun g ac wc hn hk hr HI K' hK => ?_
              obtain ⟨x5, x7, -, -, i2, -, i4, -, -, hL, hS, Br, Bf, Bp⟩ := HI.out
              simp [Region.binds] at hr
              have y2 := i2 (by simp [hr])
              have y4 := i4 (by simp [hr])
              clear i2 i4
              have wD : IntKind.i64.wrap (P2.s.cu + PT) = P2.s.cu + PT := wrap_same (by omega) (by omega)
              go_simp
              obtain ⟨-, -, i0, i1, i2, i3, i4, i5, i6, -⟩ := HI.out
              exact hK.out _ _ ⟨qB x5, qB x7, qF i0, qF i1, qF i2, qF i3, qF i4, qP, qF i6, hL, hS, Br, Bf, Bp⟩
            · refine qst fun g ac wc hn hk hr HI K' hK => ?_
              obtain ⟨x5, x7, -, -, -, -, -, i5, -, hL, hS, Br, Bf, Bp⟩ := HI.out
              simp [Region.binds] at hr
              have y5 := i5 (by simp [hr])
              clear i5
              go_simp
              refine (w_l01In _ _ _ _).mono ?_
              rintro e w4 ⟨rfl, rfl⟩
              obtain ⟨-, -, i0, i1, i2, i3, i4, i5, i6, -⟩ := HI.out
              exact hK.out _ _ ⟨qB x5, qB x7, qF i0, qF i1, qF i2, qF i3, qF i4, qF i5, qP, hL, hS, Br, Bf, Bp⟩
        · obtain ⟨f1, f2, f3, f4⟩ := isFig_true HK2.out
          have hsb := isStg_bd HO.out.st
          obtain ⟨s1, s2, -, -⟩ := hsb
          obtain ⟨FT, hFT⟩ : ∃ x, fitsP P.s t'.f = x := ⟨_, rfl⟩
          have hKp3 := HKp2.out
          rw [he] at hKp3
          obtain ⟨cp, fp, zp⟩ := blk_at ((Later.refl wr).alloc (.cells #[.int .i64 t'.f.d, .int .i64 t'.f.t] 46) |>.keep hKp3)
          have HFT := Lib.hid hFT
          have HEt := Lib.hid he
          clear he hKp3 hFT
          go_wp2_with fail
          refine (w_l14Fits _ _ _ _ f1 f2 (by omega) (by omega) (by omega) (by omega) _).mono ?_
          rintro e w3 ⟨rfl, hL3⟩
          rw [show fitsP ⟨P.s.sh, P.s.cu⟩ ⟨t'.f.d, t'.f.t⟩ = FT from HFT.out]
          clear f1 f2 f3 f4 s1 s2 cp fp zp
          cases FT
          · have HNo := Lib.hid (show (P.e && fitsP P.s t'.f) = false from by rw [HFT.out, Bool.and_false])
            have HL4 := Lib.hid (show Later w w3 from (hL2.alloc _).trans hL3)
            have HB4 := Lib.hid (hL3.keep (heap_alloc_old _ _ HB2.out))
            have HKp4 := Lib.hid (hL3.keep (heap_alloc_old _ _ HKp2.out))
            have HKf4 := Lib.hid (hL3.keep (heap_alloc_new _ _))
            have HQ4 := Lib.hid (owns_later (HQ2.out.alloc _) hL3)
            have lt4 := (Array.getElem?_eq_some_iff.1 HKp4.out).1
            have lt4f := (Array.getElem?_eq_some_iff.1 HKf4.out).1
            have hw4 := HL4.out.size
            have hk4 := HKp4.out
            obtain ⟨cp, fp, zp⟩ := blk_at hk4
            obtain ⟨cr, fr, zr⟩ := blk_at HB4.out
            clear hk4
            go_wp2_with fail
            refine (w_l14UnderX n au av aq capu capv lq capq w.heap.size st sd P P.e rfl _ (H.out.later HL4.out) (H'.out.later HL4.out) HQ4.out hw4 (by rw [HPd.out]; exact foldK_ne _ _) HC.out HO.out.st (by have := HO.out.len; omega)).mono ?_
            rintro e w5 ⟨aq2, lq2, capq2, rfl, hL5, ho5, hat5⟩
            have HKp5 := Lib.hid (hL5.keep HKp4.out)
            have HKf5 := Lib.hid (hL5.keep HKf4.out)
            have HB5 := Lib.hid (hL5.keep HB4.out)
            have HL5 := Lib.hid (HL4.out.trans hL5)
            have HNq := Lib.hid (show (Value.slice aq2 lq2 capq2).ownBlock ≠ some kr7 from fun e => by (rcases hat5 _ e with h | h); (· exact HNE.out h); (· omega))
            have HQ5 := Lib.hid ho5
            obtain ⟨P2, hP2⟩ : ∃ x, underP P = x := ⟨_, rfl⟩
            have HO2 := Lib.hid (hP2 ▸ HOu.out)
            have HNe2 := Lib.hid (show P2.l ≠ [] from hP2 ▸ underP_ne (by rw [HPd.out]; exact foldK_ne _ _))
            have HTn := Lib.hid (show termP P ⟨t'.f, false⟩ = doP (sideP P2 t'.f) 1 t'.f false from hP2 ▸ termP_n HNo.out)
            have hsb := isStg_bd HO2.out.st
            obtain ⟨-, -, cu1, cu2⟩ := hsb
            rw [hP2] at HQ5 ⊢
            clear cp fp zp cr fr zr hL5 ho5 hat5 hP2
            obtain ⟨cp, fp, zp⟩ := blk_at HKp5.out
            go_wp2_with fail
            refine wp_name ?_
            intro zb hz
            have hLb : Later w zb := by rw [hz]; exact (((HL5.out.setCell (show w.heap.size ≤ kr7 by omega) _).setCell (show w.heap.size ≤ kr7 by omega) _).setCell (show w.heap.size ≤ kr7 by omega) _).setCell (show w.heap.size ≤ kr7 by omega) _
            have Kp : zb.heap[kr7]? = some (.cells #[.int .i64 P2.s.sh, .int .i64 P2.s.cu, .slice aq2 lq2 capq2, .bool P2.e] 129 (0, 0)) := by rw [hz]; exact four_set HKp5.out _ _ _ _
            have Kr : zb.heap[w.heap.size]? = some (.cells #[.int .i64 n, .slice au st.length capu, .slice av sd.length capv] 26 (0, 0)) := by rw [hz]; exact other_set (other_set (other_set (other_set HB5.out (by omega) _) (by omega) _) (by omega) _) (by omega) _
            have Kf : zb.heap[wr.heap.size]? = some (.cells #[.int .i64 t'.f.d, .int .i64 t'.f.t] 46 (0, 0)) := by rw [hz]; exact other_set (other_set (other_set (other_set HKf5.out (by omega) _) (by omega) _) (by omega) _) (by omega) _
            have HQb := Lib.hid (show zb.ownsRow w.heap.size 88 4 (.slice aq2 lq2 capq2) P2.l.length (movs P2.l) from by rw [hz]; exact owns_setNe (owns_setNe (owns_setNe (owns_setNe HQ5.out HNq.out _ _) HNq.out _ _) HNq.out _ _) HNq.out _ _)
            have NQq := HNq.out
            have HLb := Lib.hid hLb
            have hL0 := Later.refl zb
            have hSB := Nat.le_refl zb.heap.size
            clear hz hLb cp fp zp
            obtain ⟨f1, f2, f3, f4⟩ := isFig_true HK2.out
            obtain ⟨PT, hPT⟩ : ∃ x, ptF 0 ⟨t'.f.d, t'.f.t⟩ = x := ⟨_, rfl⟩
            have hpb := pt0_bd f1 f2
            rw [show ptF 0 t'.f = PT from hPT] at hpb
            obtain ⟨pt1, pt2⟩ := hpb
            have HPT := Lib.hid hPT
            clear hPT
            refine region_slots 75 [30, 31, 32, 33, 34, 35, 36] (fun g ac wc => sl ac 5 = .pointer (some ⟨kr7, 0, none⟩) ∧
             sl ac 7 = .pointer (some ⟨wr.heap.size, 0, none⟩) ∧
             (g 0 = true → sl ac 30 = .pointer (some ⟨kr7, 0, none⟩)) ∧
             (g 1 = true → sl ac 31 = .pointer (some ⟨kr7, 1, none⟩)) ∧
             (g 2 = true → sl ac 32 = .int .i64 P2.s.cu) ∧
             (g 3 = true → sl ac 33 = .agg #[.int .i64 t'.f.d, .int .i64 t'.f.t]) ∧
             (g 4 = true → sl ac 34 = .int .i64 PT) ∧
             (g 5 = true → sl ac 35 = .int .i64 (P2.s.cu + PT)) ∧
             (g 6 = true → sl ac 36 = .bool (inR (P2.s.cu + PT) 0 1048576)) ∧
             Later zb wc ∧
             zb.heap.size ≤ wc.heap.size ∧
             wc.heap[w.heap.size]? = some (.cells #[.int .i64 n, .slice au st.length capu, .slice av sd.length capv] 26 (0, 0)) ∧
             wc.heap[wr.heap.size]? = some (.cells #[.int .i64 t'.f.d, .int .i64 t'.f.t] 46 (0, 0)) ∧
             wc.heap[kr7]? = some (.cells #[.int .i64 P2.s.sh, .int .i64 P2.s.cu, .slice aq2 lq2 capq2, .bool P2.e] 129 (0, 0))) (by kernel_rfl) (by kernel_rfl) rfl (by kernel_rfl) ?_ ?_ ?_
            · exact ⟨rfl, rfl, nofun, nofun, nofun, nofun, nofun, nofun, nofun, hL0.drew, Nat.le_refl _, Kr, Kf, Kp⟩
            · intro g ac ut hg ha hI
              obtain ⟨x5, x7, i0, i1, i2, i3, i4, i5, i6, hL, hS, Br, Bf, Bp⟩ := hI
              have a0 := i0 (hg 0 (by simp))
              have a1 := i1 (hg 1 (by simp))
              have a2 := i2 (hg 2 (by simp))
              have a3 := i3 (hg 3 (by simp))
              have a4 := i4 (hg 4 (by simp))
              have a5 := i5 (hg 5 (by simp))
              have a6 := i6 (hg 6 (by simp))
              simp only [putAll, a0, a1, a2, a3, a4, a5, a6] at ha
              simp only [Act.put, List.setIfInBounds_toArray, List.set_cons_succ, List.set_cons_zero] at ha
              rw [ha]
              clear x5 x7 i0 i1 i2 i3 i4 i5 i6 a0 a1 a2 a3 a4 a5 a6 hg ha
              have HL6 := Lib.hid (HLb.out.trans hL)
              have HB6 := Lib.hid Br
              have HKp6 := Lib.hid Bp
              have HKf6 := Lib.hid Bf
              have HQ6 := Lib.hid (owns_later HQb.out hL)
              clear hL hS Br Bf Bp hL0
              obtain ⟨LB, hLB⟩ : ∃ x, inR (P2.s.cu + PT) 0 1048576 = x := ⟨_, rfl⟩
              have HLB := Lib.hid ((show leftP P2.s t'.f = inR (P2.s.cu + PT) 0 1048576 from by rw [← HPT.out]; rfl).trans hLB)
              rw [hLB]
              clear hLB
              cases LB
              · go_wp2_with fail
                refine wp_name ?_
                intro z7 hz
                have hL0 : Later w z7 := by rw [hz]; exact HL6.out
                have Kr := show z7.heap[w.heap.size]? = some (.cells #[.int .i64 n, .slice au st.length capu, .slice av sd.length capv] 26 (0, 0)) from by rw [hz]; exact HB6.out
                have Kp := show z7.heap[kr7]? = some (.cells #[.int .i64 P2.s.sh, .int .i64 P2.s.cu, .slice aq2 lq2 capq2, .bool P2.e] 129 (0, 0)) from by rw [hz]; exact HKp6.out
                have Kf := show z7.heap[wr.heap.size]? = some (.cells #[.int .i64 t'.f.d, .int .i64 t'.f.t] 46 (0, 0)) from by rw [hz]; exact HKf6.out
                have Qq := show z7.ownsRow w.heap.size 88 4 (.slice aq2 lq2 capq2) P2.l.length (movs P2.l) from by rw [hz]; exact HQ6.out
                have hSB := hL0.size
                have lt7 := (Array.getElem?_eq_some_iff.1 Kp).1
                have lt8 := (Array.getElem?_eq_some_iff.1 Kf).1
                have lt9 := (Array.getElem?_eq_some_iff.1 Kr).1
                have hRBp : w.heap.size ≤ kr7 := by omega
                clear hz
                refine region_slots 75 [37, 38, 39, 40, 41, 42, 43, 44] (fun g ac wc => sl ac 2 = .pointer (some ⟨w.heap.size, 0, none⟩) ∧
                 sl ac 5 = .pointer (some ⟨kr7, 0, none⟩) ∧
                 sl ac 7 = .pointer (some ⟨wr.heap.size, 0, none⟩) ∧
                 sl ac 8 = .int .i64 4 ∧
                 (g 0 = true → sl ac 37 = .agg #[.int .i64 P2.s.sh, .int .i64 P2.s.cu, .slice aq2 lq2 capq2, .bool P2.e]) ∧
                 (g 1 = true → sl ac 38 = .agg #[.int .i64 n, .slice au st.length capu, .slice av sd.length capv]) ∧
                 (g 2 = true → sl ac 39 = .int .i64 4) ∧
                 (g 3 = true → sl ac 40 = .agg #[.int .i64 0, .int .i64 0]) ∧
                 (g 5 = true → sl ac 42 = .agg #[.int .i64 n, .slice au st.length capu, .slice av sd.length capv]) ∧
                 (g 6 = true → sl ac 43 = .agg #[.int .i64 t'.f.d, .int .i64 t'.f.t]) ∧
                 Later w wc ∧
                 (g 4 = true → (IsSl (qOf (sl ac 41)) ((doP P2 4 ⟨0, 0⟩ false).l.length) ∧ sl ac 41 = .agg #[.int .i64 (doP P2 4 ⟨0, 0⟩ false).s.sh, .int .i64 (doP P2 4 ⟨0, 0⟩ false).s.cu, qOf (sl ac 41), .bool false]) ∧ wc.ownsRow z7.heap.size 88 4 (qOf (sl ac 41)) ((doP P2 4 ⟨0, 0⟩ false).l.length) (movs (doP P2 4 ⟨0, 0⟩ false).l)) ∧
                 (g 7 = true → (IsSl (qOf (sl ac 44)) ((doP (doP P2 4 ⟨0, 0⟩ false) 1 ⟨t'.f.d, t'.f.t⟩ false).l.length) ∧ sl ac 44 = .agg #[.int .i64 (doP (doP P2 4 ⟨0, 0⟩ false) 1 ⟨t'.f.d, t'.f.t⟩ false).s.sh, .int .i64 (doP (doP P2 4 ⟨0, 0⟩ false) 1 ⟨t'.f.d, t'.f.t⟩ false).s.cu, qOf (sl ac 44), .bool false]) ∧ wc.ownsRow z7.heap.size 88 4 (qOf (sl ac 44)) ((doP (doP P2 4 ⟨0, 0⟩ false) 1 ⟨t'.f.d, t'.f.t⟩ false).l.length) (movs (doP (doP P2 4 ⟨0, 0⟩ false) 1 ⟨t'.f.d, t'.f.t⟩ false).l)) ∧
                 wc.ownsRow w.heap.size 88 4 (.slice aq2 lq2 capq2) (P2.l.length) (movs P2.l) ∧
                 (g 8 = true → g 0 = true) ∧
                 (g 8 = true → g 7 = true) ∧
                 z7.heap.size ≤ wc.heap.size ∧
                 wc.heap[w.heap.size]? = some (.cells #[.int .i64 n, .slice au st.length capu, .slice av sd.length capv] 26 (0, 0)) ∧
                 wc.heap[wr.heap.size]? = some (.cells #[.int .i64 t'.f.d, .int .i64 t'.f.t] 46 (0, 0)) ∧
                 (∃ p_0 p_1 p_2 p_3, wc.heap[kr7]? = some (.cells #[p_0, p_1, p_2, p_3] 129 (0, 0)) ∧ (g 8 = true → p_0 = .int .i64 (doP (doP P2 4 ⟨0, 0⟩ false) 1 ⟨t'.f.d, t'.f.t⟩ false).s.sh ∧ p_1 = .int .i64 (doP (doP P2 4 ⟨0, 0⟩ false) 1 ⟨t'.f.d, t'.f.t⟩ false).s.cu ∧ p_2 = qOf (sl ac 44) ∧ p_3 = .bool false) ∧ (g 8 = false → p_0 = .int .i64 P2.s.sh ∧ p_1 = .int .i64 P2.s.cu ∧ p_2 = .slice aq2 lq2 capq2 ∧ p_3 = .bool P2.e))) (by kernel_rfl) (by kernel_rfl) rfl (by kernel_rfl) ?_ ?_ ?_
                · exact ⟨rfl, rfl, rfl, rfl, nofun, nofun, nofun, nofun, nofun, nofun, hL0.drew, nofun, nofun, owns_later Qq (Later.refl _).drew, nofun, nofun, Nat.le_refl _, Kr, Kf, ⟨_, _, _, _, Kp, nofun, fun _ => ⟨rfl, rfl, rfl, rfl⟩⟩⟩
                · intro g ac uy hg ha hI
                  obtain ⟨x2, x5, x7, x8, i0, i1, i2, i3, i5, i6, hL, p4, p7, Qq, -, -, hS, Br, Bf, Rp⟩ := hI
                  obtain ⟨⟨⟨ay4, capy4, f4⟩, e4⟩, HO4⟩ := p4 (hg 4 (by simp))
                  rw [f4] at e4
                  rw [f4] at HO4
                  obtain ⟨⟨⟨ay7, capy7, f7⟩, e7⟩, HO7⟩ := p7 (hg 7 (by simp))
                  rw [f7] at e7
                  rw [f7] at HO7
                  have a0 := i0 (hg 0 (by simp))
                  have a1 := i1 (hg 1 (by simp))
                  have a2 := i2 (hg 2 (by simp))
                  have a3 := i3 (hg 3 (by simp))
                  have a5 := i5 (hg 5 (by simp))
                  have a6 := i6 (hg 6 (by simp))
                  obtain ⟨p_0, p_1, p_2, p_3, Kp, gr⟩ := Rp
                  have gr := gr.1 (hg 8 (by simp))
                  rw [gr.1, gr.2.1, gr.2.2.1, gr.2.2.2] at Kp
                  rw [f7] at Kp
                  clear gr
                  simp only [putAll, e4, e7, a0, a1, a2, a3, a5, a6] at ha
                  simp only [Act.put, List.setIfInBounds_toArray, List.set_cons_succ, List.set_cons_zero] at ha
                  rw [ha]
                  clear x2 x5 x7 x8 i0 i1 i2 i3 i5 i6 a0 a1 a2 a3 a5 a6 p4 p7 e4 e7 f4 f7 hg ha
                  have HL9 := Lib.hid hL
                  have HB9 := Lib.hid Br
                  have HKp9 := Lib.hid Kp
                  have HO9 := Lib.hid HO7
                  have hlt9 := (Array.getElem?_eq_some_iff.1 Kp).1
                  clear hL hS Br Bf Kp HO7 hL0 Qq
                  go_wp2
                  go_roundw
                  case rel => exact ⟨k + 1, by omega, by omega, by go_num, HL9.out, HB9.out, ay7, _, capy7, (doP (doP P2 4 ⟨0, 0⟩ false) 1 ⟨t'.f.d, t'.f.t⟩ false), HKp9.out, ne_of_owns HO9.out (by omega), owns_base HO9.out (by omega), by rw [Hid, foldK_snoc hk1 HT2.out, ← HPd.out]; exact ((congrArg (termP P) HTd.out).trans (HTn.out.trans (by rw [side_n HLB.out]))).symm⟩
                  case measure => simp [intOf]; omega
                · refine .cons ?_ (.cons ?_ (.cons ?_ (.cons ?_ (.cons ?_ (.cons ?_ (.cons ?_ (.cons ?_ (.cons ?_ .nil))))))))
                  · refine qst fun g ac wc hn hk hr HI K' hK => ?_
                    obtain ⟨x2, x5, x7, x8, i0, i1, i2, i3, i5, i6, hL, p4, p7, Qq, m8_0, m8_7, hS, Br, Bf, Rp⟩ := HI.out
                    simp [Region.binds] at hr
                    clear i0 i1 i2 i3 i5 i6 p4 p7 Qq
                    have hst : g 8 = false := by
                     cases hq : g 8 with
                     | false => rfl
                     | true =>
                      have := m8_0 hq
                      rw [hk] at this
                      cases this
                    have RR := Rp
                    obtain ⟨p_0, p_1, p_2, p_3, R1, -, R3⟩ := RR
                    have R3 := R3 hst
                    rw [R3.1, R3.2.1, R3.2.2.1, R3.2.2.2] at R1
                    obtain ⟨cR, fR, zR⟩ := blk_at R1
                    clear R1 R3
                    go_simp
                    obtain ⟨-, -, -, -, i0, i1, i2, i3, i5, i6, -, p4, p7, Qq, -⟩ := HI.out
                    exact hK.out _ _ ⟨qB x2, qB x5, qB x7, qB x8, qP, qF i1, qF i2, qF i3, qF i5, qF i6, hL, (fun h => by obtain ⟨⟨hs, hv⟩, ho⟩ := p4 h; exact ⟨⟨by rw [put_ne (show 41 ≠ 37 by decide)]; exact hs, by rw [put_ne (show 41 ≠ 37 by decide)]; exact hv⟩, (by rw [put_ne (show 41 ≠ 37 by decide)]; exact ho)⟩), (fun h => by obtain ⟨⟨hs, hv⟩, ho⟩ := p7 h; exact ⟨⟨by rw [put_ne (show 44 ≠ 37 by decide)]; exact hs, by rw [put_ne (show 44 ≠ 37 by decide)]; exact hv⟩, (by rw [put_ne (show 44 ≠ 37 by decide)]; exact ho)⟩), Qq, (fun _ => rfl), m8_7, hS, Br, Bf, (by obtain ⟨p_0, p_1, p_2, p_3, R1, R2, R3⟩ := Rp; exact ⟨p_0, p_1, p_2, p_3, R1, (fun h => absurd (m8_0 h) (by rw [hk]; simp)), R3⟩)⟩
                  · refine qst fun g ac wc hn hk hr HI K' hK => ?_
                    obtain ⟨x2, x5, x7, x8, i0, i1, i2, i3, i5, i6, hL, p4, p7, Qq, m8_0, m8_7, hS, Br, Bf, Rp⟩ := HI.out
                    simp [Region.binds] at hr
                    clear i0 i1 i2 i3 i5 i6 p4 p7 Qq
                    obtain ⟨c0, f0, z0⟩ := blk_at Br
                    go_simp
                    obtain ⟨-, -, -, -, i0, i1, i2, i3, i5, i6, -, p4, p7, Qq, -⟩ := HI.out
                    exact hK.out _ _ ⟨qB x2, qB x5, qB x7, qB x8, qF i0, qP, qF i2, qF i3, qF i5, qF i6, hL, (fun h => by obtain ⟨⟨hs, hv⟩, ho⟩ := p4 h; exact ⟨⟨by rw [put_ne (show 41 ≠ 38 by decide)]; exact hs, by rw [put_ne (show 41 ≠ 38 by decide)]; exact hv⟩, (by rw [put_ne (show 41 ≠ 38 by decide)]; exact ho)⟩), (fun h => by obtain ⟨⟨hs, hv⟩, ho⟩ := p7 h; exact ⟨⟨by rw [put_ne (show 44 ≠ 38 by decide)]; exact hs, by rw [put_ne (show 44 ≠ 38 by decide)]; exact hv⟩, (by rw [put_ne (show 44 ≠ 38 by decide)]; exact ho)⟩), Qq, m8_0, m8_7, hS, Br, Bf, (by obtain ⟨p_0, p_1, p_2, p_3, R1, R2, R3⟩ := Rp; exact ⟨p_0, p_1, p_2, p_3, R1, (fun h => by rw [put_ne (by decide)]; exact R2 h), R3⟩)⟩
                  · refine qst fun g ac wc hn hk hr HI K' hK => ?_
                    obtain ⟨x2, x5, x7, x8, i0, i1, i2, i3, i5, i6, hL, p4, p7, Qq, m8_0, m8_7, hS, Br, Bf, Rp⟩ := HI.out
                    simp [Region.binds] at hr
                    clear i0 i1 i2 i3 i5 i6 p4 p7 Qq
                    go_simp
                    obtain ⟨-, -, -, -, i0, i1, i2, i3, i5, i6, -, p4, p7, Qq, -⟩ := HI.out
                    exact hK.out _ _ ⟨qB x2, qB x5, qB x7, qB x8, qF i0, qF i1, qP, qF i3, qF i5, qF i6, hL, (fun h => by obtain ⟨⟨hs, hv⟩, ho⟩ := p4 h; exact ⟨⟨by rw [put_ne (show 41 ≠ 39 by decide)]; exact hs, by rw [put_ne (show 41 ≠ 39 by decide)]; exact hv⟩, (by rw [put_ne (show 41 ≠ 39 by decide)]; exact ho)⟩), (fun h => by obtain ⟨⟨hs, hv⟩, ho⟩ := p7 h; exact ⟨⟨by rw [put_ne (show 44 ≠ 39 by decide)]; exact hs, by rw [put_ne (show 44 ≠ 39 by decide)]; exact hv⟩, (by rw [put_ne (show 44 ≠ 39 by decide)]; exact ho)⟩), Qq, m8_0, m8_7, hS, Br, Bf, (by obtain ⟨p_0, p_1, p_2, p_3, R1, R2, R3⟩ := Rp; exact ⟨p_0, p_1, p_2, p_3, R1, (fun h => by rw [put_ne (by decide)]; exact R2 h), R3⟩)⟩
                  · refine qst fun g ac wc hn hk hr HI K' hK => ?_
                    obtain ⟨x2, x5, x7, x8, i0, i1, i2, i3, i5, i6, hL, p4, p7, Qq, m8_0, m8_7, hS, Br, Bf, Rp⟩ := HI.out
                    simp [Region.binds] at hr
                    clear i0 i1 i2 i3 i5 i6 p4 p7 Qq
                    go_simp
                    obtain ⟨-, -, -, -, i0, i1, i2, i3, i5, i6, -, p4, p7, Qq, -⟩ := HI.out
                    exact hK.out _ _ ⟨qB x2, qB x5, qB x7, qB x8, qF i0, qF i1, qF i2, qP, qF i5, qF i6, hL, (fun h => by obtain ⟨⟨hs, hv⟩, ho⟩ := p4 h; exact ⟨⟨by rw [put_ne (show 41 ≠ 40 by decide)]; exact hs, by rw [put_ne (show 41 ≠ 40 by decide)]; exact hv⟩, (by rw [put_ne (show 41 ≠ 40 by decide)]; exact ho)⟩), (fun h => by obtain ⟨⟨hs, hv⟩, ho⟩ := p7 h; exact ⟨⟨by rw [put_ne (show 44 ≠ 40 by decide)]; exact hs, by rw [put_ne (show 44 ≠ 40 by decide)]; exact hv⟩, (by rw [put_ne (show 44 ≠ 40 by decide)]; exact ho)⟩), Qq, m8_0, m8_7, hS, Br, Bf, (by obtain ⟨p_0, p_1, p_2, p_3, R1, R2, R3⟩ := Rp; exact ⟨p_0, p_1, p_2, p_3, R1, (fun h => by rw [put_ne (by decide)]; exact R2 h), R3⟩)⟩
                  · refine qst fun g ac wc hn hk hr HI K' hK => ?_
                    obtain ⟨x2, x5, x7, x8, i0, i1, i2, i3, i5, i6, hL, p4, p7, Qq, m8_0, m8_7, hS, Br, Bf, Rp⟩ := HI.out
                    simp [Region.binds] at hr
                    have y0 := i0 (by simp [hr])
                    have y1 := i1 (by simp [hr])
                    have y2 := i2 (by simp [hr])
                    have y3 := i3 (by simp [hr])
                    have z0 := sl_get y0 (by omega)
                    have z1 := sl_get y1 (by omega)
                    have z2 := sl_get y2 (by omega)
                    have z3 := sl_get y3 (by omega)
                    replace i0 := Lib.hid i0
                    replace i1 := Lib.hid i1
                    replace i2 := Lib.hid i2
                    replace i3 := Lib.hid i3
                    replace i5 := Lib.hid i5
                    replace i6 := Lib.hid i6
                    replace p4 := Lib.hid p4
                    replace p7 := Lib.hid p7
                    replace Qq := Lib.hid Qq
                    go_simp
                    refine (w_l14Do n au av aq2 capu capv lq2 capq2 st sd P2 _ 4 0 0 _ (H.out.later hL) (H'.out.later hL) (reads_of_owns Qq.out (by have := HO2.out.len; omega)) HNe2.out HC.out HO2.out.st (isMove_end (by decide) (by decide)) (by have := HO2.out.len; omega)).mono ?_
                    rintro e w4 ⟨a4, l4, c4, rfl, hL4, ho4⟩
                    obtain ⟨a5, c5, e5⟩ := isSl_of ho4
                    simp only [Value.slice.injEq] at e5
                    obtain ⟨rfl, rfl, rfl⟩ := e5
                    exact hK.out _ _ ⟨qB x2, qB x5, qB x7, qB x8, qF i0.out, qF i1.out, qF i2.out, qF i3.out, qF i5.out, qF i6.out, hL.trans hL4, (fun _ => ⟨⟨by rw [put_eq (by omega)]; exact ⟨_, _, rfl⟩, by rw [put_eq (by omega)]; rfl⟩, by rw [put_eq (by omega)]; exact owns_base ho4 hS⟩), (fun h => by obtain ⟨⟨hs, hv⟩, ho⟩ := p7.out h; exact ⟨⟨by rw [put_ne (show 44 ≠ 41 by decide)]; exact hs, by rw [put_ne (show 44 ≠ 41 by decide)]; exact hv⟩, (by rw [put_ne (show 44 ≠ 41 by decide)]; exact (owns_later ho hL4))⟩), (owns_later Qq.out hL4), m8_0, m8_7, Nat.le_trans hS hL4.size, (hL4.keep Br), (hL4.keep Bf), (by obtain ⟨p_0, p_1, p_2, p_3, R1, R2, R3⟩ := Rp; exact ⟨p_0, p_1, p_2, p_3, hL4.keep R1, (fun h => by rw [put_ne (by decide)]; exact R2 h), R3⟩)⟩
                  · refine qst fun g ac wc hn hk hr HI K' hK => ?_
                    obtain ⟨x2, x5, x7, x8, i0, i1, i2, i3, i5, i6, hL, p4, p7, Qq, m8_0, m8_7, hS, Br, Bf, Rp⟩ := HI.out
                    simp [Region.binds] at hr
                    clear i0 i1 i2 i3 i5 i6 p4 p7 Qq
                    obtain ⟨c0, f0, z0⟩ := blk_at Br
                    go_simp
                    obtain ⟨-, -, -, -, i0, i1, i2, i3, i5, i6, -, p4, p7, Qq, -⟩ := HI.out
                    exact hK.out _ _ ⟨qB x2, qB x5, qB x7, qB x8, qF i0, qF i1, qF i2, qF i3, qP, qF i6, hL, (fun h => by obtain ⟨⟨hs, hv⟩, ho⟩ := p4 h; exact ⟨⟨by rw [put_ne (show 41 ≠ 42 by decide)]; exact hs, by rw [put_ne (show 41 ≠ 42 by decide)]; exact hv⟩, (by rw [put_ne (show 41 ≠ 42 by decide)]; exact ho)⟩), (fun h => by obtain ⟨⟨hs, hv⟩, ho⟩ := p7 h; exact ⟨⟨by rw [put_ne (show 44 ≠ 42 by decide)]; exact hs, by rw [put_ne (show 44 ≠ 42 by decide)]; exact hv⟩, (by rw [put_ne (show 44 ≠ 42 by decide)]; exact ho)⟩), Qq, m8_0, m8_7, hS, Br, Bf, (by obtain ⟨p_0, p_1, p_2, p_3, R1, R2, R3⟩ := Rp; exact ⟨p_0, p_1, p_2, p_3, R1, (fun h => by rw [put_ne (by decide)]; exact R2 h), R3⟩)⟩
                  · refine qst fun g ac wc hn hk hr HI K' hK => ?_
                    obtain ⟨x2, x5, x7, x8, i0, i1, i2, i3, i5, i6, hL, p4, p7, Qq, m8_0, m8_7, hS, Br, Bf, Rp⟩ := HI.out
                    simp [Region.binds] at hr
                    clear i0 i1 i2 i3 i5 i6 p4 p7 Qq
                    obtain ⟨c0, f0, z0⟩ := blk_at Bf
                    go_simp
                    obtain ⟨-, -, -, -, i0, i1, i2, i3, i5, i6, -, p4, p7, Qq, -⟩ := HI.out
                    exact hK.out _ _ ⟨qB x2, qB x5, qB x7, qB x8, qF i0, qF i1, qF i2, qF i3, qF i5, qP, hL, (fun h => by obtain ⟨⟨hs, hv⟩, ho⟩ := p4 h; exact ⟨⟨by rw [put_ne (show 41 ≠ 43 by decide)]; exact hs, by rw [put_ne (show 41 ≠ 43 by decide)]; exact hv⟩, (by rw [put_ne (show 41 ≠ 43 by decide)]; exact ho)⟩), (fun h => by obtain ⟨⟨hs, hv⟩, ho⟩ := p7 h; exact ⟨⟨by rw [put_ne (show 44 ≠ 43 by decide)]; exact hs, by rw [put_ne (show 44 ≠ 43 by decide)]; exact hv⟩, (by rw [put_ne (show 44 ≠ 43 by decide)]; exact ho)⟩), Qq, m8_0, m8_7, hS, Br, Bf, (by obtain ⟨p_0, p_1, p_2, p_3, R1, R2, R3⟩ := Rp; exact ⟨p_0, p_1, p_2, p_3, R1, (fun h => by rw [put_ne (by decide)]; exact R2 h), R3⟩)⟩
                  · refine qst fun g ac wc hn hk hr HI K' hK => ?_
                    obtain ⟨x2, x5, x7, x8, i0, i1, i2, i3, i5, i6, hL, p4, p7, Qq, m8_0, m8_7, hS, Br, Bf, Rp⟩ := HI.out
                    simp [Region.binds] at hr
                    have y5 := i5 (by simp [hr])
                    have y6 := i6 (by simp [hr])
                    obtain ⟨⟨⟨aa4, cc4, ff4⟩, y4⟩, ho4⟩ := p4 (by simp [hr])
                    rw [ff4] at y4 ho4
                    have z4 := sl_get y4 (by omega)
                    have z5 := sl_get y5 (by omega)
                    have z6 := sl_get y6 (by omega)
                    clear i0 i1 i2 i3 i5 i6 p4 p7 Qq
                    go_simp
                    refine (w_l14Do n au av aa4 capu capv _ cc4 st sd (doP P2 4 ⟨0, 0⟩ false) _ 1 t'.f.d t'.f.t _ (H.out.later hL) (H'.out.later hL) (reads_of_owns ho4 (by have := (HO2.out.right HC.out false).len; omega)) (doP_ne _ _ _ _) HC.out (HO2.out.right HC.out false).st (isMove_fig (by decide) (by decide) HK2.out) (by have := (HO2.out.right HC.out false).len; omega)).mono ?_
                    rintro e w4 ⟨a4, l4, c4, rfl, hL4, ho4⟩
                    obtain ⟨a5, c5, e5⟩ := isSl_of ho4
                    simp only [Value.slice.injEq] at e5
                    obtain ⟨rfl, rfl, rfl⟩ := e5
                    obtain ⟨-, -, -, -, i0, i1, i2, i3, i5, i6, -, p4, p7, Qq, -⟩ := HI.out
                    exact hK.out _ _ ⟨qB x2, qB x5, qB x7, qB x8, qF i0, qF i1, qF i2, qF i3, qF i5, qF i6, hL.trans hL4, (fun h => by obtain ⟨⟨hs, hv⟩, ho⟩ := p4 h; exact ⟨⟨by rw [put_ne (show 41 ≠ 44 by decide)]; exact hs, by rw [put_ne (show 41 ≠ 44 by decide)]; exact hv⟩, (by rw [put_ne (show 41 ≠ 44 by decide)]; exact (owns_later ho hL4))⟩), (fun _ => ⟨⟨by rw [put_eq (by omega)]; exact ⟨_, _, rfl⟩, by rw [put_eq (by omega)]; rfl⟩, by rw [put_eq (by omega)]; exact owns_base ho4 hS⟩), (owns_later Qq hL4), m8_0, (fun _ => rfl), Nat.le_trans hS hL4.size, (hL4.keep Br), (hL4.keep Bf), (by obtain ⟨p_0, p_1, p_2, p_3, R1, R2, R3⟩ := Rp; exact ⟨p_0, p_1, p_2, p_3, hL4.keep R1, (fun h => absurd (m8_7 h) (by rw [hk]; simp)), R3⟩)⟩
                  · refine qst fun g ac wc hn hk hr HI K' hK => ?_
                    obtain ⟨x2, x5, x7, x8, i0, i1, i2, i3, i5, i6, hL, p4, p7, Qq, m8_0, m8_7, hS, Br, Bf, Rp⟩ := HI.out
                    simp [Region.binds] at hr
                    have gm0 : g 0 = true := by first | exact m8_0 (by simp [hr]) | exact hr | exact hr.1 | exact hr.2 | exact hr.2.1 | simp [hr]
                    have gm7 : g 7 = true := by first | exact m8_7 (by simp [hr]) | exact hr | exact hr.1 | exact hr.2 | exact hr.2.1 | simp [hr]
                    replace i0 := Lib.hid i0
                    replace i1 := Lib.hid i1
                    replace i2 := Lib.hid i2
                    replace i3 := Lib.hid i3
                    replace i5 := Lib.hid i5
                    replace i6 := Lib.hid i6
                    replace p4 := Lib.hid p4
                    replace p7 := Lib.hid p7
                    replace Qq := Lib.hid Qq
                    obtain ⟨p_0, p_1, p_2, p_3, R1, -, R3⟩ := Rp
                    have R3 := R3 hk
                    rw [R3.1, R3.2.1, R3.2.2.1, R3.2.2.2] at R1
                    obtain ⟨c0, f0, z0⟩ := blk_at R1
                    obtain ⟨⟨⟨aa, cc, yy7⟩, y7⟩, -⟩ := p7.out gm7
                    rw [yy7] at y7
                    have z7 := sl_get y7 (by omega)
                    go_simp
                    exact hK.out undef _ ⟨x2, x5, x7, x8, i0.out, i1.out, i2.out, i3.out, i5.out, i6.out, ((((hL.setCell hRBp _).setCell hRBp _).setCell hRBp _).setCell hRBp _), (fun h => by obtain ⟨⟨hs, hv⟩, ho⟩ := p4.out h; exact ⟨⟨hs, hv⟩, (owns_set (owns_set (owns_set (owns_set ho (by omega) _ _) (by omega) _ _) (by omega) _ _) (by omega) _ _)⟩), (fun h => by obtain ⟨⟨hs, hv⟩, ho⟩ := p7.out h; exact ⟨⟨hs, hv⟩, (owns_set (owns_set (owns_set (owns_set ho (by omega) _ _) (by omega) _ _) (by omega) _ _) (by omega) _ _)⟩), (owns_setNe (owns_setNe (owns_setNe (owns_setNe Qq.out NQq _ _) NQq _ _) NQq _ _) NQq _ _), (fun _ => gm0), (fun _ => gm7), (by simp; omega), (other_set (other_set (other_set (other_set Br (by omega) _) (by omega) _) (by omega) _) (by omega) _), (other_set (other_set (other_set (other_set Bf (by omega) _) (by omega) _) (by omega) _) (by omega) _), ⟨_, _, _, _, four_set R1 _ _ _ _, fun _ => ⟨rfl, rfl, yy7.symm, rfl⟩, fun h => absurd h (by simp)⟩⟩
              · go_wp2_with fail
                refine wp_name ?_
                intro z7 hz
                have hL0 : Later w z7 := by rw [hz]; exact HL6.out
                have Kr := show z7.heap[w.heap.size]? = some (.cells #[.int .i64 n, .slice au st.length capu, .slice av sd.length capv] 26 (0, 0)) from by rw [hz]; exact HB6.out
                have Kp := show z7.heap[kr7]? = some (.cells #[.int .i64 P2.s.sh, .int .i64 P2.s.cu, .slice aq2 lq2 capq2, .bool P2.e] 129 (0, 0)) from by rw [hz]; exact HKp6.out
                have Kf := show z7.heap[wr.heap.size]? = some (.cells #[.int .i64 t'.f.d, .int .i64 t'.f.t] 46 (0, 0)) from by rw [hz]; exact HKf6.out
                have Qq := show z7.ownsRow w.heap.size 88 4 (.slice aq2 lq2 capq2) P2.l.length (movs P2.l) from by rw [hz]; exact HQ6.out
                have hSB := hL0.size
                have lt7 := (Array.getElem?_eq_some_iff.1 Kp).1
                have lt8 := (Array.getElem?_eq_some_iff.1 Kf).1
                have lt9 := (Array.getElem?_eq_some_iff.1 Kr).1
                have hRBp : w.heap.size ≤ kr7 := by omega
                clear hz
                refine region_slots 75 [37, 38, 39, 40, 41, 42, 43, 44] (fun g ac wc => sl ac 2 = .pointer (some ⟨w.heap.size, 0, none⟩) ∧
                 sl ac 5 = .pointer (some ⟨kr7, 0, none⟩) ∧
                 sl ac 7 = .pointer (some ⟨wr.heap.size, 0, none⟩) ∧
                 sl ac 8 = .int .i64 3 ∧
                 (g 0 = true → sl ac 37 = .agg #[.int .i64 P2.s.sh, .int .i64 P2.s.cu, .slice aq2 lq2 capq2, .bool P2.e]) ∧
                 (g 1 = true → sl ac 38 = .agg #[.int .i64 n, .slice au st.length capu, .slice av sd.length capv]) ∧
                 (g 2 = true → sl ac 39 = .int .i64 3) ∧
                 (g 3 = true → sl ac 40 = .agg #[.int .i64 0, .int .i64 0]) ∧
                 (g 5 = true → sl ac 42 = .agg #[.int .i64 n, .slice au st.length capu, .slice av sd.length capv]) ∧
                 (g 6 = true → sl ac 43 = .agg #[.int .i64 t'.f.d, .int .i64 t'.f.t]) ∧
                 Later w wc ∧
                 (g 4 = true → (IsSl (qOf (sl ac 41)) ((doP P2 3 ⟨0, 0⟩ false).l.length) ∧ sl ac 41 = .agg #[.int .i64 (doP P2 3 ⟨0, 0⟩ false).s.sh, .int .i64 (doP P2 3 ⟨0, 0⟩ false).s.cu, qOf (sl ac 41), .bool false]) ∧ wc.ownsRow z7.heap.size 88 4 (qOf (sl ac 41)) ((doP P2 3 ⟨0, 0⟩ false).l.length) (movs (doP P2 3 ⟨0, 0⟩ false).l)) ∧
                 (g 7 = true → (IsSl (qOf (sl ac 44)) ((doP (doP P2 3 ⟨0, 0⟩ false) 1 ⟨t'.f.d, t'.f.t⟩ false).l.length) ∧ sl ac 44 = .agg #[.int .i64 (doP (doP P2 3 ⟨0, 0⟩ false) 1 ⟨t'.f.d, t'.f.t⟩ false).s.sh, .int .i64 (doP (doP P2 3 ⟨0, 0⟩ false) 1 ⟨t'.f.d, t'.f.t⟩ false).s.cu, qOf (sl ac 44), .bool false]) ∧ wc.ownsRow z7.heap.size 88 4 (qOf (sl ac 44)) ((doP (doP P2 3 ⟨0, 0⟩ false) 1 ⟨t'.f.d, t'.f.t⟩ false).l.length) (movs (doP (doP P2 3 ⟨0, 0⟩ false) 1 ⟨t'.f.d, t'.f.t⟩ false).l)) ∧
                 wc.ownsRow w.heap.size 88 4 (.slice aq2 lq2 capq2) (P2.l.length) (movs P2.l) ∧
                 (g 8 = true → g 0 = true) ∧
                 (g 8 = true → g 7 = true) ∧
                 z7.heap.size ≤ wc.heap.size ∧
                 wc.heap[w.heap.size]? = some (.cells #[.int .i64 n, .slice au st.length capu, .slice av sd.length capv] 26 (0, 0)) ∧
                 wc.heap[wr.heap.size]? = some (.cells #[.int .i64 t'.f.d, .int .i64 t'.f.t] 46 (0, 0)) ∧
                 (∃ p_0 p_1 p_2 p_3, wc.heap[kr7]? = some (.cells #[p_0, p_1, p_2, p_3] 129 (0, 0)) ∧ (g 8 = true → p_0 = .int .i64 (doP (doP P2 3 ⟨0, 0⟩ false) 1 ⟨t'.f.d, t'.f.t⟩ false).s.sh ∧ p_1 = .int .i64 (doP (doP P2 3 ⟨0, 0⟩ false) 1 ⟨t'.f.d, t'.f.t⟩ false).s.cu ∧ p_2 = qOf (sl ac 44) ∧ p_3 = .bool false) ∧ (g 8 = false → p_0 = .int .i64 P2.s.sh ∧ p_1 = .int .i64 P2.s.cu ∧ p_2 = .slice aq2 lq2 capq2 ∧ p_3 = .bool P2.e))) (by kernel_rfl) (by kernel_rfl) rfl (by kernel_rfl) ?_ ?_ ?_
                · exact ⟨rfl, rfl, rfl, rfl, nofun, nofun, nofun, nofun, nofun, nofun, hL0.drew, nofun, nofun, owns_later Qq (Later.refl _).drew, nofun, nofun, Nat.le_refl _, Kr, Kf, ⟨_, _, _, _, Kp, nofun, fun _ => ⟨rfl, rfl, rfl, rfl⟩⟩⟩
                · intro g ac uy hg ha hI
                  obtain ⟨x2, x5, x7, x8, i0, i1, i2, i3, i5, i6, hL, p4, p7, Qq, -, -, hS, Br, Bf, Rp⟩ := hI
                  obtain ⟨⟨⟨ay4, capy4, f4⟩, e4⟩, HO4⟩ := p4 (hg 4 (by simp))
                  rw [f4] at e4
                  rw [f4] at HO4
                  obtain ⟨⟨⟨ay7, capy7, f7⟩, e7⟩, HO7⟩ := p7 (hg 7 (by simp))
                  rw [f7] at e7
                  rw [f7] at HO7
                  have a0 := i0 (hg 0 (by simp))
                  have a1 := i1 (hg 1 (by simp))
                  have a2 := i2 (hg 2 (by simp))
                  have a3 := i3 (hg 3 (by simp))
                  have a5 := i5 (hg 5 (by simp))
                  have a6 := i6 (hg 6 (by simp))
                  obtain ⟨p_0, p_1, p_2, p_3, Kp, gr⟩ := Rp
                  have gr := gr.1 (hg 8 (by simp))
                  rw [gr.1, gr.2.1, gr.2.2.1, gr.2.2.2] at Kp
                  rw [f7] at Kp
                  clear gr
                  simp only [putAll, e4, e7, a0, a1, a2, a3, a5, a6] at ha
                  simp only [Act.put, List.setIfInBounds_toArray, List.set_cons_succ, List.set_cons_zero] at ha
                  rw [ha]
                  clear x2 x5 x7 x8 i0 i1 i2 i3 i5 i6 a0 a1 a2 a3 a5 a6 p4 p7 e4 e7 f4 f7 hg ha
                  have HL9 := Lib.hid hL
                  have HB9 := Lib.hid Br
                  have HKp9 := Lib.hid Kp
                  have HO9 := Lib.hid HO7
                  have hlt9 := (Array.getElem?_eq_some_iff.1 Kp).1
                  clear hL hS Br Bf Kp HO7 hL0 Qq
                  go_wp2
                  go_roundw
                  case rel => exact ⟨k + 1, by omega, by omega, by go_num, HL9.out, HB9.out, ay7, _, capy7, (doP (doP P2 3 ⟨0, 0⟩ false) 1 ⟨t'.f.d, t'.f.t⟩ false), HKp9.out, ne_of_owns HO9.out (by omega), owns_base HO9.out (by omega), by rw [Hid, foldK_snoc hk1 HT2.out, ← HPd.out]; exact ((congrArg (termP P) HTd.out).trans (HTn.out.trans (by rw [side_y HLB.out]))).symm⟩
                  case measure => simp [intOf]; omega
                · refine .cons ?_ (.cons ?_ (.cons ?_ (.cons ?_ (.cons ?_ (.cons ?_ (.cons ?_ (.cons ?_ (.cons ?_ .nil))))))))
                  · refine qst fun g ac wc hn hk hr HI K' hK => ?_
                    obtain ⟨x2, x5, x7, x8, i0, i1, i2, i3, i5, i6, hL, p4, p7, Qq, m8_0, m8_7, hS, Br, Bf, Rp⟩ := HI.out
                    simp [Region.binds] at hr
                    clear i0 i1 i2 i3 i5 i6 p4 p7 Qq
                    have hst : g 8 = false := by
                     cases hq : g 8 with
                     | false => rfl
                     | true =>
                      have := m8_0 hq
                      rw [hk] at this
                      cases this
                    have RR := Rp
                    obtain ⟨p_0, p_1, p_2, p_3, R1, -, R3⟩ := RR
                    have R3 := R3 hst
                    rw [R3.1, R3.2.1, R3.2.2.1, R3.2.2.2] at R1
                    obtain ⟨cR, fR, zR⟩ := blk_at R1
                    clear R1 R3
                    go_simp
                    obtain ⟨-, -, -, -, i0, i1, i2, i3, i5, i6, -, p4, p7, Qq, -⟩ := HI.out
                    exact hK.out _ _ ⟨qB x2, qB x5, qB x7, qB x8, qP, qF i1, qF i2, qF i3, qF i5, qF i6, hL, (fun h => by obtain ⟨⟨hs, hv⟩, ho⟩ := p4 h; exact ⟨⟨by rw [put_ne (show 41 ≠ 37 by decide)]; exact hs, by rw [put_ne (show 41 ≠ 37 by decide)]; exact hv⟩, (by rw [put_ne (show 41 ≠ 37 by decide)]; exact ho)⟩), (fun h => by obtain ⟨⟨hs, hv⟩, ho⟩ := p7 h; exact ⟨⟨by rw [put_ne (show 44 ≠ 37 by decide)]; exact hs, by rw [put_ne (show 44 ≠ 37 by decide)]; exact hv⟩, (by rw [put_ne (show 44 ≠ 37 by decide)]; exact ho)⟩), Qq, (fun _ => rfl), m8_7, hS, Br, Bf, (by obtain ⟨p_0, p_1, p_2, p_3, R1, R2, R3⟩ := Rp; exact ⟨p_0, p_1, p_2, p_3, R1, (fun h => absurd (m8_0 h) (by rw [hk]; simp)), R3⟩)⟩
                  · refine qst fun g ac wc hn hk hr HI K' hK => ?_
                    obtain ⟨x2, x5, x7, x8, i0, i1, i2, i3, i5, i6, hL, p4, p7, Qq, m8_0, m8_7, hS, Br, Bf, Rp⟩ := HI.out
                    simp [Region.binds] at hr
                    clear i0 i1 i2 i3 i5 i6 p4 p7 Qq
                    obtain ⟨c0, f0, z0⟩ := blk_at Br
                    go_simp
                    obtain ⟨-, -, -, -, i0, i1, i2, i3, i5, i6, -, p4, p7, Qq, -⟩ := HI.out
                    exact hK.out _ _ ⟨qB x2, qB x5, qB x7, qB x8, qF i0, qP, qF i2, qF i3, qF i5, qF i6, hL, (fun h => by obtain ⟨⟨hs, hv⟩, ho⟩ := p4 h; exact ⟨⟨by rw [put_ne (show 41 ≠ 38 by decide)]; exact hs, by rw [put_ne (show 41 ≠ 38 by decide)]; exact hv⟩, (by rw [put_ne (show 41 ≠ 38 by decide)]; exact ho)⟩), (fun h => by obtain ⟨⟨hs, hv⟩, ho⟩ := p7 h; exact ⟨⟨by rw [put_ne (show 44 ≠ 38 by decide)]; exact hs, by rw [put_ne (show 44 ≠ 38 by decide)]; exact hv⟩, (by rw [put_ne (show 44 ≠ 38 by decide)]; exact ho)⟩), Qq, m8_0, m8_7, hS, Br, Bf, (by obtain ⟨p_0, p_1, p_2, p_3, R1, R2, R3⟩ := Rp; exact ⟨p_0, p_1, p_2, p_3, R1, (fun h => by rw [put_ne (by decide)]; exact R2 h), R3⟩)⟩
                  · refine qst fun g ac wc hn hk hr HI K' hK => ?_
                    obtain ⟨x2, x5, x7, x8, i0, i1, i2, i3, i5, i6, hL, p4, p7, Qq, m8_0, m8_7, hS, Br, Bf, Rp⟩ := HI.out
                    simp [Region.binds] at hr
                    clear i0 i1 i2 i3 i5 i6 p4 p7 Qq
                    go_simp
                    obtain ⟨-, -, -, -, i0, i1, i2, i3, i5, i6, -, p4, p7, Qq, -⟩ := HI.out
                    exact hK.out _ _ ⟨qB x2, qB x5, qB x7, qB x8, qF i0, qF i1, qP, qF i3, qF i5, qF i6, hL, (fun h => by obtain ⟨⟨hs, hv⟩, ho⟩ := p4 h; exact ⟨⟨by rw [put_ne (show 41 ≠ 39 by decide)]; exact hs, by rw [put_ne (show 41 ≠ 39 by decide)]; exact hv⟩, (by rw [put_ne (show 41 ≠ 39 by decide)]; exact ho)⟩), (fun h => by obtain ⟨⟨hs, hv⟩, ho⟩ := p7 h; exact ⟨⟨by rw [put_ne (show 44 ≠ 39 by decide)]; exact hs, by rw [put_ne (show 44 ≠ 39 by decide)]; exact hv⟩, (by rw [put_ne (show 44 ≠ 39 by decide)]; exact ho)⟩), Qq, m8_0, m8_7, hS, Br, Bf, (by obtain ⟨p_0, p_1, p_2, p_3, R1, R2, R3⟩ := Rp; exact ⟨p_0, p_1, p_2, p_3, R1, (fun h => by rw [put_ne (by decide)]; exact R2 h), R3⟩)⟩
                  · refine qst fun g ac wc hn hk hr HI K' hK => ?_
                    obtain ⟨x2, x5, x7, x8, i0, i1, i2, i3, i5, i6, hL, p4, p7, Qq, m8_0, m8_7, hS, Br, Bf, Rp⟩ := HI.out
                    simp [Region.binds] at hr
                    clear i0 i1 i2 i3 i5 i6 p4 p7 Qq
                    go_simp
                    obtain ⟨-, -, -, -, i0, i1, i2, i3, i5, i6, -, p4, p7, Qq, -⟩ := HI.out
                    exact hK.out _ _ ⟨qB x2, qB x5, qB x7, qB x8, qF i0, qF i1, qF i2, qP, qF i5, qF i6, hL, (fun h => by obtain ⟨⟨hs, hv⟩, ho⟩ := p4 h; exact ⟨⟨by rw [put_ne (show 41 ≠ 40 by decide)]; exact hs, by rw [put_ne (show 41 ≠ 40 by decide)]; exact hv⟩, (by rw [put_ne (show 41 ≠ 40 by decide)]; exact ho)⟩), (fun h => by obtain ⟨⟨hs, hv⟩, ho⟩ := p7 h; exact ⟨⟨by rw [put_ne (show 44 ≠ 40 by decide)]; exact hs, by rw [put_ne (show 44 ≠ 40 by decide)]; exact hv⟩, (by rw [put_ne (show 44 ≠ 40 by decide)]; exact ho)⟩), Qq, m8_0, m8_7, hS, Br, Bf, (by obtain ⟨p_0, p_1, p_2, p_3, R1, R2, R3⟩ := Rp; exact ⟨p_0, p_1, p_2, p_3, R1, (fun h => by rw [put_ne (by decide)]; exact R2 h), R3⟩)⟩
                  · refine qst fun g ac wc hn hk hr HI K' hK => ?_
                    obtain ⟨x2, x5, x7, x8, i0, i1, i2, i3, i5, i6, hL, p4, p7, Qq, m8_0, m8_7, hS, Br, Bf, Rp⟩ := HI.out
                    simp [Region.binds] at hr
                    have y0 := i0 (by simp [hr])
                    have y1 := i1 (by simp [hr])
                    have y2 := i2 (by simp [hr])
                    have y3 := i3 (by simp [hr])
                    have z0 := sl_get y0 (by omega)
                    have z1 := sl_get y1 (by omega)
                    have z2 := sl_get y2 (by omega)
                    have z3 := sl_get y3 (by omega)
                    replace i0 := Lib.hid i0
                    replace i1 := Lib.hid i1
                    replace i2 := Lib.hid i2
                    replace i3 := Lib.hid i3
                    replace i5 := Lib.hid i5
                    replace i6 := Lib.hid i6
                    replace p4 := Lib.hid p4
                    replace p7 := Lib.hid p7
                    replace Qq := Lib.hid Qq
                    go_simp
                    refine (w_l14Do n au av aq2 capu capv lq2 capq2 st sd P2 _ 3 0 0 _ (H.out.later hL) (H'.out.later hL) (reads_of_owns Qq.out (by have := HO2.out.len; omega)) HNe2.out HC.out HO2.out.st (isMove_end (by decide) (by decide)) (by have := HO2.out.len; omega)).mono ?_
                    rintro e w4 ⟨a4, l4, c4, rfl, hL4, ho4⟩
                    obtain ⟨a5, c5, e5⟩ := isSl_of ho4
                    simp only [Value.slice.injEq] at e5
                    obtain ⟨rfl, rfl, rfl⟩ := e5
                    exact hK.out _ _ ⟨qB x2, qB x5, qB x7, qB x8, qF i0.out, qF i1.out, qF i2.out, qF i3.out, qF i5.out, qF i6.out, hL.trans hL4, (fun _ => ⟨⟨by rw [put_eq (by omega)]; exact ⟨_, _, rfl⟩, by rw [put_eq (by omega)]; rfl⟩, by rw [put_eq (by omega)]; exact owns_base ho4 hS⟩), (fun h => by obtain ⟨⟨hs, hv⟩, ho⟩ := p7.out h; exact ⟨⟨by rw [put_ne (show 44 ≠ 41 by decide)]; exact hs, by rw [put_ne (show 44 ≠ 41 by decide)]; exact hv⟩, (by rw [put_ne (show 44 ≠ 41 by decide)]; exact (owns_later ho hL4))⟩), (owns_later Qq.out hL4), m8_0, m8_7, Nat.le_trans hS hL4.size, (hL4.keep Br), (hL4.keep Bf), (by obtain ⟨p_0, p_1, p_2, p_3, R1, R2, R3⟩ := Rp; exact ⟨p_0, p_1, p_2, p_3, hL4.keep R1, (fun h => by rw [put_ne (by decide)]; exact R2 h), R3⟩)⟩
                  · refine qst fun g ac wc hn hk hr HI K' hK => ?_
                    obtain ⟨x2, x5, x7, x8, i0, i1, i2, i3, i5, i6, hL, p4, p7, Qq, m8_0, m8_7, hS, Br, Bf, Rp⟩ := HI.out
                    simp [Region.binds] at hr
                    clear i0 i1 i2 i3 i5 i6 p4 p7 Qq
                    obtain ⟨c0, f0, z0⟩ := blk_at Br
                    go_simp
                    obtain ⟨-, -, -, -, i0, i1, i2, i3, i5, i6, -, p4, p7, Qq, -⟩ := HI.out
                    exact hK.out _ _ ⟨qB x2, qB x5, qB x7, qB x8, qF i0, qF i1, qF i2, qF i3, qP, qF i6, hL, (fun h => by obtain ⟨⟨hs, hv⟩, ho⟩ := p4 h; exact ⟨⟨by rw [put_ne (show 41 ≠ 42 by decide)]; exact hs, by rw [put_ne (show 41 ≠ 42 by decide)]; exact hv⟩, (by rw [put_ne (show 41 ≠ 42 by decide)]; exact ho)⟩), (fun h => by obtain ⟨⟨hs, hv⟩, ho⟩ := p7 h; exact ⟨⟨by rw [put_ne (show 44 ≠ 42 by decide)]; exact hs, by rw [put_ne (show 44 ≠ 42 by decide)]; exact hv⟩, (by rw [put_ne (show 44 ≠ 42 by decide)]; exact ho)⟩), Qq, m8_0, m8_7, hS, Br, Bf, (by obtain ⟨p_0, p_1, p_2, p_3, R1, R2, R3⟩ := Rp; exact ⟨p_0, p_1, p_2, p_3, R1, (fun h => by rw [put_ne (by decide)]; exact R2 h), R3⟩)⟩
                  · refine qst fun g ac wc hn hk hr HI K' hK => ?_
                    obtain ⟨x2, x5, x7, x8, i0, i1, i2, i3, i5, i6, hL, p4, p7, Qq, m8_0, m8_7, hS, Br, Bf, Rp⟩ := HI.out
                    simp [Region.binds] at hr
                    clear i0 i1 i2 i3 i5 i6 p4 p7 Qq
                    obtain ⟨c0, f0, z0⟩ := blk_at Bf
                    go_simp
                    obtain ⟨-, -, -, -, i0, i1, i2, i3, i5, i6, -, p4, p7, Qq, -⟩ := HI.out
                    exact hK.out _ _ ⟨qB x2, qB x5, qB x7, qB x8, qF i0, qF i1, qF i2, qF i3, qF i5, qP, hL, (fun h => by obtain ⟨⟨hs, hv⟩, ho⟩ := p4 h; exact ⟨⟨by rw [put_ne (show 41 ≠ 43 by decide)]; exact hs, by rw [put_ne (show 41 ≠ 43 by decide)]; exact hv⟩, (by rw [put_ne (show 41 ≠ 43 by decide)]; exact ho)⟩), (fun h => by obtain ⟨⟨hs, hv⟩, ho⟩ := p7 h; exact ⟨⟨by rw [put_ne (show 44 ≠ 43 by decide)]; exact hs, by rw [put_ne (show 44 ≠ 43 by decide)]; exact hv⟩, (by rw [put_ne (show 44 ≠ 43 by decide)]; exact ho)⟩), Qq, m8_0, m8_7, hS, Br, Bf, (by obtain ⟨p_0, p_1, p_2, p_3, R1, R2, R3⟩ := Rp; exact ⟨p_0, p_1, p_2, p_3, R1, (fun h => by rw [put_ne (by decide)]; exact R2 h), R3⟩)⟩
                  · refine qst fun g ac wc hn hk hr HI K' hK => ?_
                    obtain ⟨x2, x5, x7, x8, i0, i1, i2, i3, i5, i6, hL, p4, p7, Qq, m8_0, m8_7, hS, Br, Bf, Rp⟩ := HI.out
                    simp [Region.binds] at hr
                    have y5 := i5 (by simp [hr])
                    have y6 := i6 (by simp [hr])
                    obtain ⟨⟨⟨aa4, cc4, ff4⟩, y4⟩, ho4⟩ := p4 (by simp [hr])
                    rw [ff4] at y4 ho4
                    have z4 := sl_get y4 (by omega)
                    have z5 := sl_get y5 (by omega)
                    have z6 := sl_get y6 (by omega)
                    clear i0 i1 i2 i3 i5 i6 p4 p7 Qq
                    go_simp
                    refine (w_l14Do n au av aa4 capu capv _ cc4 st sd (doP P2 3 ⟨0, 0⟩ false) _ 1 t'.f.d t'.f.t _ (H.out.later hL) (H'.out.later hL) (reads_of_owns ho4 (by have := (HO2.out.left HC.out false).len; omega)) (doP_ne _ _ _ _) HC.out (HO2.out.left HC.out false).st (isMove_fig (by decide) (by decide) HK2.out) (by have := (HO2.out.left HC.out false).len; omega)).mono ?_
                    rintro e w4 ⟨a4, l4, c4, rfl, hL4, ho4⟩
                    obtain ⟨a5, c5, e5⟩ := isSl_of ho4
                    simp only [Value.slice.injEq] at e5
                    obtain ⟨rfl, rfl, rfl⟩ := e5
                    obtain ⟨-, -, -, -, i0, i1, i2, i3, i5, i6, -, p4, p7, Qq, -⟩ := HI.out
                    exact hK.out _ _ ⟨qB x2, qB x5, qB x7, qB x8, qF i0, qF i1, qF i2, qF i3, qF i5, qF i6, hL.trans hL4, (fun h => by obtain ⟨⟨hs, hv⟩, ho⟩ := p4 h; exact ⟨⟨by rw [put_ne (show 41 ≠ 44 by decide)]; exact hs, by rw [put_ne (show 41 ≠ 44 by decide)]; exact hv⟩, (by rw [put_ne (show 41 ≠ 44 by decide)]; exact (owns_later ho hL4))⟩), (fun _ => ⟨⟨by rw [put_eq (by omega)]; exact ⟨_, _, rfl⟩, by rw [put_eq (by omega)]; rfl⟩, by rw [put_eq (by omega)]; exact owns_base ho4 hS⟩), (owns_later Qq hL4), m8_0, (fun _ => rfl), Nat.le_trans hS hL4.size, (hL4.keep Br), (hL4.keep Bf), (by obtain ⟨p_0, p_1, p_2, p_3, R1, R2, R3⟩ := Rp; exact ⟨p_0, p_1, p_2, p_3, hL4.keep R1, (fun h => absurd (m8_7 h) (by rw [hk]; simp)), R3⟩)⟩
                  · refine qst fun g ac wc hn hk hr HI K' hK => ?_
                    obtain ⟨x2, x5, x7, x8, i0, i1, i2, i3, i5, i6, hL, p4, p7, Qq, m8_0, m8_7, hS, Br, Bf, Rp⟩ := HI.out
                    simp [Region.binds] at hr
                    have gm0 : g 0 = true := by first | exact m8_0 (by simp [hr]) | exact hr | exact hr.1 | exact hr.2 | exact hr.2.1 | simp [hr]
                    have gm7 : g 7 = true := by first | exact m8_7 (by simp [hr]) | exact hr | exact hr.1 | exact hr.2 | exact hr.2.1 | simp [hr]
                    replace i0 := Lib.hid i0
                    replace i1 := Lib.hid i1
                    replace i2 := Lib.hid i2
                    replace i3 := Lib.hid i3
                    replace i5 := Lib.hid i5
                    replace i6 := Lib.hid i6
                    replace p4 := Lib.hid p4
                    replace p7 := Lib.hid p7
                    replace Qq := Lib.hid Qq
                    obtain ⟨p_0, p_1, p_2, p_3, R1, -, R3⟩ := Rp
                    have R3 := R3 hk
                    rw [R3.1, R3.2.1, R3.2.2.1, R3.2.2.2] at R1
                    obtain ⟨c0, f0, z0⟩ := blk_at R1
                    obtain ⟨⟨⟨aa, cc, yy7⟩, y7⟩, -⟩ := p7.out gm7
                    rw [yy7] at y7
                    have z7 := sl_get y7 (by omega)
                    go_simp
                    exact hK.out undef _ ⟨x2, x5, x7, x8, i0.out, i1.out, i2.out, i3.out, i5.out, i6.out, ((((hL.setCell hRBp _).setCell hRBp _).setCell hRBp _).setCell hRBp _), (fun h => by obtain ⟨⟨hs, hv⟩, ho⟩ := p4.out h; exact ⟨⟨hs, hv⟩, (owns_set (owns_set (owns_set (owns_set ho (by omega) _ _) (by omega) _ _) (by omega) _ _) (by omega) _ _)⟩), (fun h => by obtain ⟨⟨hs, hv⟩, ho⟩ := p7.out h; exact ⟨⟨hs, hv⟩, (owns_set (owns_set (owns_set (owns_set ho (by omega) _ _) (by omega) _ _) (by omega) _ _) (by omega) _ _)⟩), (owns_setNe (owns_setNe (owns_setNe (owns_setNe Qq.out NQq _ _) NQq _ _) NQq _ _) NQq _ _), (fun _ => gm0), (fun _ => gm7), (by simp; omega), (other_set (other_set (other_set (other_set Br (by omega) _) (by omega) _) (by omega) _) (by omega) _), (other_set (other_set (other_set (other_set Bf (by omega) _) (by omega) _) (by omega) _) (by omega) _), ⟨_, _, _, _, four_set R1 _ _ _ _, fun _ => ⟨rfl, rfl, yy7.symm, rfl⟩, fun h => absurd h (by simp)⟩⟩
            · refine .cons ?_ (.cons ?_ (.cons ?_ (.cons ?_ (.cons ?_ (.cons ?_ (.cons ?_ .nil))))))
              · refine qst fun g ac wc hn hk hr HI K' hK => ?_
                obtain ⟨x5, x7, -, -, -, -, -, -, -, hL, hS, Br, Bf, Bp⟩ := HI.out
                simp [Region.binds] at hr
                go_simp
                obtain ⟨-, -, i0, i1, i2, i3, i4, i5, i6, -⟩ := HI.out
                exact hK.out _ _ ⟨qB x5, qB x7, qP, qF i1, qF i2, qF i3, qF i4, qF i5, qF i6, hL, hS, Br, Bf, Bp⟩
              · refine qst fun g ac wc hn hk hr HI K' hK => ?_
                obtain ⟨x5, x7, i0, -, -, -, -, -, -, hL, hS, Br, Bf, Bp⟩ := HI.out
                simp [Region.binds] at hr
                have y0 := i0 (by simp [hr])
                clear i0
                go_simp
                obtain ⟨-, -, i0, i1, i2, i3, i4, i5, i6, -⟩ := HI.out
                exact hK.out _ _ ⟨qB x5, qB x7, qF i0, qP, qF i2, qF i3, qF i4, qF i5, qF i6, hL, hS, Br, Bf, Bp⟩
              · refine qst fun g ac wc hn hk hr HI K' hK => ?_
                obtain ⟨x5, x7, -, i1, -, -, -, -, -, hL, hS, Br, Bf, Bp⟩ := HI.out
                simp [Region.binds] at hr
                have y1 := i1 (by simp [hr])
                clear i1
                obtain ⟨c0, f0, z0⟩ := blk_at Bp
                go_simp
                obtain ⟨-, -, i0, i1, i2, i3, i4, i5, i6, -⟩ := HI.out
                exact hK.out _ _ ⟨qB x5, qB x7, qF i0, qF i1, qP, qF i3, qF i4, qF i5, qF i6, hL, hS, Br, Bf, Bp⟩
              · refine qst fun g ac wc hn hk hr HI K' hK => ?_
                obtain ⟨x5, x7, -, -, -, -, -, -, -, hL, hS, Br, Bf, Bp⟩ := HI.out
                simp [Region.binds] at hr
                obtain ⟨c0, f0, z0⟩ := blk_at Bf
                go_simp
                obtain ⟨-, -, i0, i1, i2, i3, i4, i5, i6, -⟩ := HI.out
                exact hK.out _ _ ⟨qB x5, qB x7, qF i0, qF i1, qF i2, qP, qF i4, qF i5, qF i6, hL, hS, Br, Bf, Bp⟩
              · refine qst fun g ac wc hn hk hr HI K' hK => ?_
                obtain ⟨x5, x7, -, -, -, i3, -, -, -, hL, hS, Br, Bf, Bp⟩ := HI.out
                simp [Region.binds] at hr
                have y3 := i3 (by simp [hr])
                clear i3
                go_simp
                refine (w_l14Point _ _ f1 f2 (by omega) (by omega) _).mono ?_
                rintro e w4 ⟨rfl, hL4⟩
                rw [HPT.out]
                obtain ⟨-, -, i0, i1, i2, i3, i4, i5, i6, -⟩ := HI.out
                exact hK.out _ _ ⟨qB x5, qB x7, qF i0, qF i1, qF i2, qF i3, qP, qF i5, qF i6, hL.trans hL4, Nat.le_trans hS hL4.size, hL4.keep Br, hL4.keep Bf, hL4.keep Bp⟩
              · refine qst fun g ac wc hn hk hr HI K' hK => ?_
                obtain ⟨x5, x7, -, -, i2, -, i4, -, -, hL, hS, Br, Bf, Bp⟩ := HI.out
                simp [Region.binds] at hr
                have y2 := i2 (by simp [hr])
                have y4 := i4 (by simp [hr])
                clear i2 i4
                have wD : IntKind.i64.wrap (P2.s.cu + PT) = P2.s.cu + PT := wrap_same (by omega) (by omega)
                go_simp
                obtain ⟨-, -, i0, i1, i2, i3, i4, i5, i6, -⟩ := HI.out
                exact hK.out _ _ ⟨qB x5, qB x7, qF i0, qF i1, qF i2, qF i3, qF i4, qP, qF i6, hL, hS, Br, Bf, Bp⟩
              · refine qst fun g ac wc hn hk hr HI K' hK => ?_
                obtain ⟨x5, x7, -, -, -, -, -, i5, -, hL, hS, Br, Bf, Bp⟩ := HI.out
                simp [Region.binds] at hr
                have y5 := i5 (by simp [hr])
                clear i5
                go_simp
                refine (w_l01In _ _ _ _).mono ?_
                rintro e w4 ⟨rfl, rfl⟩
                obtain ⟨-, -, i0, i1, i2, i3, i4, i5, i6, -⟩ := HI.out
                exact hK.out _ _ ⟨qB x5, qB x7, qF i0, qF i1, qF i2, qF i3, qF i4, qF i5, qP, hL, hS, Br, Bf, Bp⟩
          · have HTf := Lib.hid (termP_f HEt.out HFT.out)
            have HL3 := Lib.hid ((hL2.alloc _).trans hL3)
            have HKp3 := Lib.hid (hL3.keep (heap_alloc_old _ _ HKp2.out))
            have HKf3 := Lib.hid (hL3.keep (heap_alloc_new _ _))
            have HB3 := Lib.hid (hL3.keep (heap_alloc_old _ _ HB2.out))
            have HQ3 := Lib.hid (owns_later (HQ2.out.alloc _) hL3)
            have hw3 := HL3.out.size
            have lt3 := (Array.getElem?_eq_some_iff.1 HKp3.out).1
            obtain ⟨cp, fp, zp⟩ := blk_at HKp3.out
            obtain ⟨cr, fr, zr⟩ := blk_at HB3.out
            obtain ⟨cf, ff, zf⟩ := blk_at HKf3.out
            clear hL3
            go_wp2_with fail
            refine (w_l14Do n au av aq capu capv lq capq st sd P _ 1 t'.f.d t'.f.t _ (H.out.later HL3.out) (H'.out.later HL3.out) (reads_of_owns HQ3.out (by have := HO.out.len; omega)) (by rw [HPd.out]; exact foldK_ne _ _) HC.out HO.out.st (isMove_fig (by decide) (by decide) HK2.out) (by have := HO.out.len; omega)).mono ?_
            rintro e w4 ⟨aq4, lq4, capq4, rfl, hL4, ho4⟩
            have HKp4 := Lib.hid (hL4.keep HKp3.out)
            have HB4 := Lib.hid (hL4.keep HB3.out)
            have HL4 := Lib.hid (HL3.out.trans hL4)
            have HQ4 := Lib.hid ho4
            have lt4 := (Array.getElem?_eq_some_iff.1 HKp4.out).1
            clear cp fp zp cr fr zr cf ff zf hL4 ho4
            obtain ⟨cp, fp, zp⟩ := blk_at HKp4.out
            go_wp2
            go_roundw
            case rel => exact ⟨k + 1, by omega, by omega, by go_num, (((HL4.out.setCell (show w.heap.size ≤ kr7 by omega) _).setCell (show w.heap.size ≤ kr7 by omega) _).setCell (show w.heap.size ≤ kr7 by omega) _).setCell (show w.heap.size ≤ kr7 by omega) _, other_set (other_set (other_set (other_set HB4.out (by omega) _) (by omega) _) (by omega) _) (by omega) _, aq4, lq4, capq4, doP P 1 t'.f false, four_set HKp4.out _ _ _ _, ne_of_owns HQ4.out (by omega), owns_setNe (owns_setNe (owns_setNe (owns_setNe (owns_base HQ4.out (by omega)) (ne_of_owns HQ4.out (by omega)) _ _) (ne_of_owns HQ4.out (by omega)) _ _) (ne_of_owns HQ4.out (by omega)) _ _) (ne_of_owns HQ4.out (by omega)) _ _, by rw [Hid, foldK_snoc hk1 HT2.out, ← HPd.out]; exact ((congrArg (termP P) HTd.out).trans HTf.out).symm⟩
            case measure => simp [intOf]; omega
      · rw [hq] at r3
        have HTd := Lib.hid (show t' = ⟨t'.f, true⟩ from by rw [← hq])
        clear hq
        go_wp2_with fail
        refine wp_name ?_
        intro z2 hz
        have hL0 : Later w z2 := by rw [hz]; exact hL2.alloc _
        have Kr : z2.heap[w.heap.size]? = some (.cells #[.int .i64 n, .slice au st.length capu, .slice av sd.length capv] 26 (0, 0)) := by rw [hz]; exact heap_alloc_old _ _ HB2.out
        have Kp : z2.heap[kr7]? = some (.cells #[.int .i64 P.s.sh, .int .i64 P.s.cu, .slice aq lq capq, .bool P.e] 129 (0, 0)) := by rw [hz]; exact heap_alloc_old _ _ HKp2.out
        have Kf : z2.heap[wr.heap.size]? = some (.cells #[.int .i64 t'.f.d, .int .i64 t'.f.t] 46 (0, 0)) := by rw [hz]; exact heap_alloc_new _ _
        have Qq : z2.ownsRow w.heap.size 88 4 (.slice aq lq capq) P.l.length (movs P.l) := by rw [hz]; exact HQ2.out.alloc _
        have NQq := HNE.out
        have hSB := hL0.size
        have lt7 := (Array.getElem?_eq_some_iff.1 Kp).1
        have lt8 := (Array.getElem?_eq_some_iff.1 Kf).1
        have lt9 := (Array.getElem?_eq_some_iff.1 Kr).1
        have hRBp : w.heap.size ≤ kr7 := by omega
        clear hz r1 r2 r3
        refine region_slots 75 [51, 52, 53, 54, 55, 56] (fun g ac wc => sl ac 2 = .pointer (some ⟨w.heap.size, 0, none⟩) ∧
         sl ac 5 = .pointer (some ⟨kr7, 0, none⟩) ∧
         sl ac 7 = .pointer (some ⟨wr.heap.size, 0, none⟩) ∧
         (g 0 = true → sl ac 51 = .agg #[.int .i64 P.s.sh, .int .i64 P.s.cu, .slice aq lq capq, .bool P.e]) ∧
         (g 1 = true → sl ac 52 = .agg #[.int .i64 n, .slice au st.length capu, .slice av sd.length capv]) ∧
         (g 3 = true → sl ac 54 = .agg #[.int .i64 n, .slice au st.length capu, .slice av sd.length capv]) ∧
         (g 4 = true → sl ac 55 = .agg #[.int .i64 t'.f.d, .int .i64 t'.f.t]) ∧
         Later w wc ∧
         (g 2 = true → (IsSl (qOf (sl ac 53)) ((underP P).l.length) ∧ sl ac 53 = .agg #[.int .i64 (underP P).s.sh, .int .i64 (underP P).s.cu, qOf (sl ac 53), .bool (underP P).e]) ∧ (g 5 = false → wc.ownsRow w.heap.size 88 4 (qOf (sl ac 53)) ((underP P).l.length) (movs (underP P).l))) ∧
         (g 5 = true → (IsSl (qOf (sl ac 56)) ((doP (underP P) 2 ⟨t'.f.d, t'.f.t⟩ false).l.length) ∧ sl ac 56 = .agg #[.int .i64 (doP (underP P) 2 ⟨t'.f.d, t'.f.t⟩ false).s.sh, .int .i64 (doP (underP P) 2 ⟨t'.f.d, t'.f.t⟩ false).s.cu, qOf (sl ac 56), .bool false]) ∧ wc.ownsRow z2.heap.size 88 4 (qOf (sl ac 56)) ((doP (underP P) 2 ⟨t'.f.d, t'.f.t⟩ false).l.length) (movs (doP (underP P) 2 ⟨t'.f.d, t'.f.t⟩ false).l)) ∧
         wc.ownsRow w.heap.size 88 4 (.slice aq lq capq) (P.l.length) (movs P.l) ∧
         (g 6 = true → g 0 = true) ∧
         (g 6 = true → g 5 = true) ∧
         z2.heap.size ≤ wc.heap.size ∧
         wc.heap[w.heap.size]? = some (.cells #[.int .i64 n, .slice au st.length capu, .slice av sd.length capv] 26 (0, 0)) ∧
         wc.heap[wr.heap.size]? = some (.cells #[.int .i64 t'.f.d, .int .i64 t'.f.t] 46 (0, 0)) ∧
         (∃ p_0 p_1 p_2 p_3, wc.heap[kr7]? = some (.cells #[p_0, p_1, p_2, p_3] 129 (0, 0)) ∧ (g 6 = true → p_0 = .int .i64 (doP (underP P) 2 ⟨t'.f.d, t'.f.t⟩ false).s.sh ∧ p_1 = .int .i64 (doP (underP P) 2 ⟨t'.f.d, t'.f.t⟩ false).s.cu ∧ p_2 = qOf (sl ac 56) ∧ p_3 = .bool false) ∧ (g 6 = false → p_0 = .int .i64 P.s.sh ∧ p_1 = .int .i64 P.s.cu ∧ p_2 = .slice aq lq capq ∧ p_3 = .bool P.e))) (by kernel_rfl) (by kernel_rfl) rfl (by kernel_rfl) ?_ ?_ ?_
        · exact ⟨rfl, rfl, rfl, nofun, nofun, nofun, nofun, hL0.drew, nofun, nofun, owns_later Qq (Later.refl _).drew, nofun, nofun, Nat.le_refl _, Kr, Kf, ⟨_, _, _, _, Kp, nofun, fun _ => ⟨rfl, rfl, rfl, rfl⟩⟩⟩
        · intro g ac us hg ha hI
          obtain ⟨x2, x5, x7, i0, i1, i3, i4, hL, p2, p5, Qq, -, -, hS, Br, Bf, Rp⟩ := hI
          obtain ⟨⟨⟨as2, caps2, f2⟩, e2⟩, -⟩ := p2 (hg 2 (by simp))
          rw [f2] at e2
          obtain ⟨⟨⟨as5, caps5, f5⟩, e5⟩, HO5⟩ := p5 (hg 5 (by simp))
          rw [f5] at e5
          rw [f5] at HO5
          have a0 := i0 (hg 0 (by simp))
          have a1 := i1 (hg 1 (by simp))
          have a3 := i3 (hg 3 (by simp))
          have a4 := i4 (hg 4 (by simp))
          obtain ⟨p_0, p_1, p_2, p_3, Kp, gr⟩ := Rp
          have gr := gr.1 (hg 6 (by simp))
          rw [gr.1, gr.2.1, gr.2.2.1, gr.2.2.2] at Kp
          rw [f5] at Kp
          clear gr
          simp only [putAll, e2, e5, a0, a1, a3, a4] at ha
          simp only [Act.put, List.setIfInBounds_toArray, List.set_cons_succ, List.set_cons_zero] at ha
          rw [ha]
          clear x2 x5 x7 i0 i1 i3 i4 a0 a1 a3 a4 p2 p5 e2 e5 f2 f5 hg ha
          have HL3 := Lib.hid hL
          have HB3 := Lib.hid Br
          have HKp3 := Lib.hid Kp
          have HO3 := Lib.hid HO5
          have hlt3 := (Array.getElem?_eq_some_iff.1 Kp).1
          obtain ⟨cp, fp, zp⟩ := blk_at Kp
          clear hL hS Br Bf Kp HO5 hL0 Qq
          go_wp2
          go_roundw
          case rel => exact ⟨k + 1, by omega, by omega, by go_num, HL3.out.setCell (show w.heap.size ≤ kr7 by omega) _, other_set HB3.out (by omega) _, as5, _, caps5, (doP (underP P) 2 t'.f true), set_3of4 HKp3.out _, ne_of_owns HO3.out (by omega), owns_setNe (owns_base HO3.out (by omega)) (ne_of_owns HO3.out (by omega)) _ _, by rw [Hid, foldK_snoc hk1 HT2.out, ← HPd.out]; exact (congrArg (termP P) (HTd.out)).trans termP_y |>.symm⟩
          case measure => simp [intOf]; omega
        · refine .cons ?_ (.cons ?_ (.cons ?_ (.cons ?_ (.cons ?_ (.cons ?_ (.cons ?_ .nil))))))
          · refine qst fun g ac wc hn hk hr HI K' hK => ?_
            obtain ⟨x2, x5, x7, i0, i1, i3, i4, hL, p2, p5, Qq, m6_0, m6_5, hS, Br, Bf, Rp⟩ := HI.out
            simp [Region.binds] at hr
            clear i0 i1 i3 i4 p2 p5 Qq
            have hst : g 6 = false := by
             cases hq : g 6 with
             | false => rfl
             | true =>
              have := m6_0 hq
              rw [hk] at this
              cases this
            have RR := Rp
            obtain ⟨p_0, p_1, p_2, p_3, R1, -, R3⟩ := RR
            have R3 := R3 hst
            rw [R3.1, R3.2.1, R3.2.2.1, R3.2.2.2] at R1
            obtain ⟨cR, fR, zR⟩ := blk_at R1
            clear R1 R3
            go_simp
            obtain ⟨-, -, -, i0, i1, i3, i4, -, p2, p5, Qq, -⟩ := HI.out
            exact hK.out _ _ ⟨qB x2, qB x5, qB x7, qP, qF i1, qF i3, qF i4, hL, (fun h => by obtain ⟨⟨hs, hv⟩, ho⟩ := p2 h; exact ⟨⟨by rw [put_ne (show 53 ≠ 51 by decide)]; exact hs, by rw [put_ne (show 53 ≠ 51 by decide)]; exact hv⟩, fun ht => by have ho := ho ht; exact (by rw [put_ne (show 53 ≠ 51 by decide)]; exact ho)⟩), (fun h => by obtain ⟨⟨hs, hv⟩, ho⟩ := p5 h; exact ⟨⟨by rw [put_ne (show 56 ≠ 51 by decide)]; exact hs, by rw [put_ne (show 56 ≠ 51 by decide)]; exact hv⟩, (by rw [put_ne (show 56 ≠ 51 by decide)]; exact ho)⟩), Qq, (fun _ => rfl), m6_5, hS, Br, Bf, (by obtain ⟨p_0, p_1, p_2, p_3, R1, R2, R3⟩ := Rp; exact ⟨p_0, p_1, p_2, p_3, R1, (fun h => absurd (m6_0 h) (by rw [hk]; simp)), R3⟩)⟩
          · refine qst fun g ac wc hn hk hr HI K' hK => ?_
            obtain ⟨x2, x5, x7, i0, i1, i3, i4, hL, p2, p5, Qq, m6_0, m6_5, hS, Br, Bf, Rp⟩ := HI.out
            simp [Region.binds] at hr
            clear i0 i1 i3 i4 p2 p5 Qq
            obtain ⟨c0, f0, z0⟩ := blk_at Br
            go_simp
            obtain ⟨-, -, -, i0, i1, i3, i4, -, p2, p5, Qq, -⟩ := HI.out
            exact hK.out _ _ ⟨qB x2, qB x5, qB x7, qF i0, qP, qF i3, qF i4, hL, (fun h => by obtain ⟨⟨hs, hv⟩, ho⟩ := p2 h; exact ⟨⟨by rw [put_ne (show 53 ≠ 52 by decide)]; exact hs, by rw [put_ne (show 53 ≠ 52 by decide)]; exact hv⟩, fun ht => by have ho := ho ht; exact (by rw [put_ne (show 53 ≠ 52 by decide)]; exact ho)⟩), (fun h => by obtain ⟨⟨hs, hv⟩, ho⟩ := p5 h; exact ⟨⟨by rw [put_ne (show 56 ≠ 52 by decide)]; exact hs, by rw [put_ne (show 56 ≠ 52 by decide)]; exact hv⟩, (by rw [put_ne (show 56 ≠ 52 by decide)]; exact ho)⟩), Qq, m6_0, m6_5, hS, Br, Bf, (by obtain ⟨p_0, p_1, p_2, p_3, R1, R2, R3⟩ := Rp; exact ⟨p_0, p_1, p_2, p_3, R1, (fun h => by rw [put_ne (by decide)]; exact R2 h), R3⟩)⟩
          · refine qst fun g ac wc hn hk hr HI K' hK => ?_
            obtain ⟨x2, x5, x7, i0, i1, i3, i4, hL, p2, p5, Qq, m6_0, m6_5, hS, Br, Bf, Rp⟩ := HI.out
            simp [Region.binds] at hr
            have y0 := i0 (by simp [hr])
            have y1 := i1 (by simp [hr])
            have z0 := sl_get y0 (by omega)
            have z1 := sl_get y1 (by omega)
            replace i0 := Lib.hid i0
            replace i1 := Lib.hid i1
            replace i3 := Lib.hid i3
            replace i4 := Lib.hid i4
            replace p2 := Lib.hid p2
            replace p5 := Lib.hid p5
            replace Qq := Lib.hid Qq
            go_simp
            refine (w_l14Under n au av aq capu capv lq capq w.heap.size st sd P _ (H.out.later hL) (H'.out.later hL) Qq.out (by omega) (by rw [HPd.out]; exact foldK_ne _ _) HC.out HO.out.st (by have := HO.out.len; omega)).mono ?_
            rintro e w4 ⟨a4, l4, c4, rfl, hL4, ho4⟩
            obtain ⟨a5, c5, e5⟩ := isSl_of ho4
            simp only [Value.slice.injEq] at e5
            obtain ⟨rfl, rfl, rfl⟩ := e5
            exact hK.out _ _ ⟨qB x2, qB x5, qB x7, qF i0.out, qF i1.out, qF i3.out, qF i4.out, hL.trans hL4, (fun _ => ⟨⟨by rw [put_eq (by omega)]; exact ⟨_, _, rfl⟩, by rw [put_eq (by omega)]; rfl⟩, fun _ => by rw [put_eq (by omega)]; exact ho4⟩), (fun h => by obtain ⟨⟨hs, hv⟩, ho⟩ := p5.out h; exact ⟨⟨by rw [put_ne (show 56 ≠ 53 by decide)]; exact hs, by rw [put_ne (show 56 ≠ 53 by decide)]; exact hv⟩, (by rw [put_ne (show 56 ≠ 53 by decide)]; exact (owns_later ho hL4))⟩), (owns_later Qq.out hL4), m6_0, m6_5, Nat.le_trans hS hL4.size, (hL4.keep Br), (hL4.keep Bf), (by obtain ⟨p_0, p_1, p_2, p_3, R1, R2, R3⟩ := Rp; exact ⟨p_0, p_1, p_2, p_3, hL4.keep R1, (fun h => by rw [put_ne (by decide)]; exact R2 h), R3⟩)⟩
          · refine qst fun g ac wc hn hk hr HI K' hK => ?_
            obtain ⟨x2, x5, x7, i0, i1, i3, i4, hL, p2, p5, Qq, m6_0, m6_5, hS, Br, Bf, Rp⟩ := HI.out
            simp [Region.binds] at hr
            clear i0 i1 i3 i4 p2 p5 Qq
            obtain ⟨c0, f0, z0⟩ := blk_at Br
            go_simp
            obtain ⟨-, -, -, i0, i1, i3, i4, -, p2, p5, Qq, -⟩ := HI.out
            exact hK.out _ _ ⟨qB x2, qB x5, qB x7, qF i0, qF i1, qP, qF i4, hL, (fun h => by obtain ⟨⟨hs, hv⟩, ho⟩ := p2 h; exact ⟨⟨by rw [put_ne (show 53 ≠ 54 by decide)]; exact hs, by rw [put_ne (show 53 ≠ 54 by decide)]; exact hv⟩, fun ht => by have ho := ho ht; exact (by rw [put_ne (show 53 ≠ 54 by decide)]; exact ho)⟩), (fun h => by obtain ⟨⟨hs, hv⟩, ho⟩ := p5 h; exact ⟨⟨by rw [put_ne (show 56 ≠ 54 by decide)]; exact hs, by rw [put_ne (show 56 ≠ 54 by decide)]; exact hv⟩, (by rw [put_ne (show 56 ≠ 54 by decide)]; exact ho)⟩), Qq, m6_0, m6_5, hS, Br, Bf, (by obtain ⟨p_0, p_1, p_2, p_3, R1, R2, R3⟩ := Rp; exact ⟨p_0, p_1, p_2, p_3, R1, (fun h => by rw [put_ne (by decide)]; exact R2 h), R3⟩)⟩
          · refine qst fun g ac wc hn hk hr HI K' hK => ?_
            obtain ⟨x2, x5, x7, i0, i1, i3, i4, hL, p2, p5, Qq, m6_0, m6_5, hS, Br, Bf, Rp⟩ := HI.out
            simp [Region.binds] at hr
            clear i0 i1 i3 i4 p2 p5 Qq
            obtain ⟨c0, f0, z0⟩ := blk_at Bf
            go_simp
            obtain ⟨-, -, -, i0, i1, i3, i4, -, p2, p5, Qq, -⟩ := HI.out
            exact hK.out _ _ ⟨qB x2, qB x5, qB x7, qF i0, qF i1, qF i3, qP, hL, (fun h => by obtain ⟨⟨hs, hv⟩, ho⟩ := p2 h; exact ⟨⟨by rw [put_ne (show 53 ≠ 55 by decide)]; exact hs, by rw [put_ne (show 53 ≠ 55 by decide)]; exact hv⟩, fun ht => by have ho := ho ht; exact (by rw [put_ne (show 53 ≠ 55 by decide)]; exact ho)⟩), (fun h => by obtain ⟨⟨hs, hv⟩, ho⟩ := p5 h; exact ⟨⟨by rw [put_ne (show 56 ≠ 55 by decide)]; exact hs, by rw [put_ne (show 56 ≠ 55 by decide)]; exact hv⟩, (by rw [put_ne (show 56 ≠ 55 by decide)]; exact ho)⟩), Qq, m6_0, m6_5, hS, Br, Bf, (by obtain ⟨p_0, p_1, p_2, p_3, R1, R2, R3⟩ := Rp; exact ⟨p_0, p_1, p_2, p_3, R1, (fun h => by rw [put_ne (by decide)]; exact R2 h), R3⟩)⟩
          · refine qst fun g ac wc hn hk hr HI K' hK => ?_
            obtain ⟨x2, x5, x7, i0, i1, i3, i4, hL, p2, p5, Qq, m6_0, m6_5, hS, Br, Bf, Rp⟩ := HI.out
            simp [Region.binds] at hr
            have y3 := i3 (by simp [hr])
            have y4 := i4 (by simp [hr])
            obtain ⟨⟨⟨aa2, cc2, ff2⟩, y2⟩, ho2⟩ := p2 (by simp [hr])
            have ho2 := ho2 hk
            rw [ff2] at y2 ho2
            have z2 := sl_get y2 (by omega)
            have z3 := sl_get y3 (by omega)
            have z4 := sl_get y4 (by omega)
            clear i0 i1 i3 i4 p2 p5 Qq
            go_simp
            refine (w_l14Do n au av aa2 capu capv _ cc2 st sd (underP P) _ 2 t'.f.d t'.f.t _ (H.out.later hL) (H'.out.later hL) (reads_of_owns ho2 (by have := HOu.out.len; omega)) (underP_ne (by rw [HPd.out]; exact foldK_ne _ _)) HC.out HOu.out.st (isMove_fig (by decide) (by decide) HK2.out) (by have := HOu.out.len; omega)).mono ?_
            rintro e w4 ⟨a4, l4, c4, rfl, hL4, ho4⟩
            obtain ⟨a5, c5, e5⟩ := isSl_of ho4
            simp only [Value.slice.injEq] at e5
            obtain ⟨rfl, rfl, rfl⟩ := e5
            obtain ⟨-, -, -, i0, i1, i3, i4, -, p2, p5, Qq, -⟩ := HI.out
            exact hK.out _ _ ⟨qB x2, qB x5, qB x7, qF i0, qF i1, qF i3, qF i4, hL.trans hL4, (fun h => by obtain ⟨⟨hs, hv⟩, ho⟩ := p2 h; exact ⟨⟨by rw [put_ne (show 53 ≠ 56 by decide)]; exact hs, by rw [put_ne (show 53 ≠ 56 by decide)]; exact hv⟩, fun h => absurd h (by simp)⟩), (fun _ => ⟨⟨by rw [put_eq (by omega)]; exact ⟨_, _, rfl⟩, by rw [put_eq (by omega)]; rfl⟩, by rw [put_eq (by omega)]; exact owns_base ho4 hS⟩), (owns_later Qq hL4), m6_0, (fun _ => rfl), Nat.le_trans hS hL4.size, (hL4.keep Br), (hL4.keep Bf), (by obtain ⟨p_0, p_1, p_2, p_3, R1, R2, R3⟩ := Rp; exact ⟨p_0, p_1, p_2, p_3, hL4.keep R1, (fun h => absurd (m6_5 h) (by rw [hk]; simp)), R3⟩)⟩
          · refine qst fun g ac wc hn hk hr HI K' hK => ?_
            obtain ⟨x2, x5, x7, i0, i1, i3, i4, hL, p2, p5, Qq, m6_0, m6_5, hS, Br, Bf, Rp⟩ := HI.out
            simp [Region.binds] at hr
            have gm0 : g 0 = true := by first | exact m6_0 (by simp [hr]) | exact hr | exact hr.1 | exact hr.2 | exact hr.2.1 | simp [hr]
            have gm5 : g 5 = true := by first | exact m6_5 (by simp [hr]) | exact hr | exact hr.1 | exact hr.2 | exact hr.2.1 | simp [hr]
            replace i0 := Lib.hid i0
            replace i1 := Lib.hid i1
            replace i3 := Lib.hid i3
            replace i4 := Lib.hid i4
            replace p2 := Lib.hid p2
            replace p5 := Lib.hid p5
            replace Qq := Lib.hid Qq
            obtain ⟨p_0, p_1, p_2, p_3, R1, -, R3⟩ := Rp
            have R3 := R3 hk
            rw [R3.1, R3.2.1, R3.2.2.1, R3.2.2.2] at R1
            obtain ⟨c0, f0, z0⟩ := blk_at R1
            obtain ⟨⟨⟨aa, cc, yy5⟩, y5⟩, -⟩ := p5.out gm5
            rw [yy5] at y5
            have z5 := sl_get y5 (by omega)
            go_simp
            exact hK.out undef _ ⟨x2, x5, x7, i0.out, i1.out, i3.out, i4.out, ((((hL.setCell hRBp _).setCell hRBp _).setCell hRBp _).setCell hRBp _), (fun h => by obtain ⟨⟨hs, hv⟩, ho⟩ := p2.out h; exact ⟨⟨hs, hv⟩, fun ht => absurd gm5 (by rw [show g 5 = false from ht]; simp)⟩), (fun h => by obtain ⟨⟨hs, hv⟩, ho⟩ := p5.out h; exact ⟨⟨hs, hv⟩, (owns_set (owns_set (owns_set (owns_set ho (by omega) _ _) (by omega) _ _) (by omega) _ _) (by omega) _ _)⟩), (owns_setNe (owns_setNe (owns_setNe (owns_setNe Qq.out NQq _ _) NQq _ _) NQq _ _) NQq _ _), (fun _ => gm0), (fun _ => gm5), (by simp; omega), (other_set (other_set (other_set (other_set Br (by omega) _) (by omega) _) (by omega) _) (by omega) _), (other_set (other_set (other_set (other_set Bf (by omega) _) (by omega) _) (by omega) _) (by omega) _), ⟨_, _, _, _, four_set R1 _ _ _ _, fun _ => ⟨rfl, rfl, yy5.symm, rfl⟩, fun h => absurd h (by simp)⟩⟩
    · have HFp := Lib.hid (foldK_all (c := c) (k := k) (by omega))
      obtain ⟨cp, fp, zp⟩ := blk_at hKp
      obtain ⟨cr, fr, zr⟩ := blk_at HB2.out
      clear hKp
      go_wp2_with fail
      refine (w_l14Under n au av aq capu capv lq capq w.heap.size st sd P _ (H.out.later hL2) (H'.out.later hL2) HQ2.out hw2 (by rw [HPd.out]; exact foldK_ne _ _) HC.out HO.out.st (by have := HO.out.len; omega)).mono ?_
      rintro e w5 ⟨aq2, lq2, capq2, rfl, hL5, ho5⟩
      have HQ5 := Lib.hid ho5
      clear ho5 cp fp zp cr fr zr
      go_wp2
      go_ret
      exact ⟨aq2, lq2, capq2, rfl, qla, by have h := HQ5.out; rw [HPd.out, HFp.out] at h; exact h⟩
 · refine .cons ?_ (.cons ?_ (.cons ?_ (.cons ?_ (.cons ?_ (.cons ?_ (.cons ?_ (.cons ?_ (.cons ?_ .nil))))))))
   · refine qst fun g ac wc hn hk hr HI K' hK => ?_
     obtain ⟨x1, x2, i0, i1, i2, i3, i4, i5, hL, p6, n7, dn7_6, m8_7, m8_6, hS, Br⟩ := HI.out
     simp [Region.binds] at hr
     clear i0 i1 i2 i3 i4 i5 p6 n7 dn7_6
     go_simp
     obtain ⟨-, -, i0, i1, i2, i3, i4, i5, -, p6, n7, dn7_6, -⟩ := HI.out
     exact hK.out _ _ ⟨qB x1, qB x2, qP, qF i1, qF i2, qF i3, qF i4, qF i5, hL, (fun h => by obtain ⟨⟨hs, hv⟩, ho⟩ := p6 h; exact ⟨⟨by rw [put_ne (show 15 ≠ 9 by decide)]; exact hs, by rw [put_ne (show 15 ≠ 9 by decide)]; exact hv⟩, (by rw [put_ne (show 15 ≠ 9 by decide)]; exact ho)⟩), (fun h => by obtain ⟨k, e1, e2, q7_0, q7_1, q7_2, q7_3, e3, e4⟩ := n7 h; exact ⟨k, (put_ne (by decide)).trans e1, e2, q7_0, q7_1, q7_2, q7_3, e3, (fun h => by rw [put_ne (show 15 ≠ 9 by decide)]; exact e4 h)⟩), (fun h h' k e => by rw [put_ne (show 15 ≠ 9 by decide)]; rw [put_ne (show 5 ≠ 9 by decide)] at e; exact dn7_6 h h' k e), m8_7, m8_6, hS, Br⟩
   · refine qst fun g ac wc hn hk hr HI K' hK => ?_
     obtain ⟨x1, x2, i0, i1, i2, i3, i4, i5, hL, p6, n7, dn7_6, m8_7, m8_6, hS, Br⟩ := HI.out
     simp [Region.binds] at hr
     clear i0 i1 i2 i3 i4 i5 p6 n7 dn7_6
     obtain ⟨c0, f0, z0⟩ := blk_at Br
     go_simp
     obtain ⟨-, -, i0, i1, i2, i3, i4, i5, -, p6, n7, dn7_6, -⟩ := HI.out
     exact hK.out _ _ ⟨qB x1, qB x2, qF i0, qP, qF i2, qF i3, qF i4, qF i5, hL, (fun h => by obtain ⟨⟨hs, hv⟩, ho⟩ := p6 h; exact ⟨⟨by rw [put_ne (show 15 ≠ 10 by decide)]; exact hs, by rw [put_ne (show 15 ≠ 10 by decide)]; exact hv⟩, (by rw [put_ne (show 15 ≠ 10 by decide)]; exact ho)⟩), (fun h => by obtain ⟨k, e1, e2, q7_0, q7_1, q7_2, q7_3, e3, e4⟩ := n7 h; exact ⟨k, (put_ne (by decide)).trans e1, e2, q7_0, q7_1, q7_2, q7_3, e3, (fun h => by rw [put_ne (show 15 ≠ 10 by decide)]; exact e4 h)⟩), (fun h h' k e => by rw [put_ne (show 15 ≠ 10 by decide)]; rw [put_ne (show 5 ≠ 10 by decide)] at e; exact dn7_6 h h' k e), m8_7, m8_6, hS, Br⟩
   · refine qst fun g ac wc hn hk hr HI K' hK => ?_
     obtain ⟨x1, x2, i0, i1, i2, i3, i4, i5, hL, p6, n7, dn7_6, m8_7, m8_6, hS, Br⟩ := HI.out
     simp [Region.binds] at hr
     clear i0 i1 i2 i3 i4 i5 p6 n7 dn7_6
     go_simp
     obtain ⟨-, -, i0, i1, i2, i3, i4, i5, -, p6, n7, dn7_6, -⟩ := HI.out
     exact hK.out _ _ ⟨qB x1, qB x2, qF i0, qF i1, qP, qF i3, qF i4, qF i5, hL, (fun h => by obtain ⟨⟨hs, hv⟩, ho⟩ := p6 h; exact ⟨⟨by rw [put_ne (show 15 ≠ 11 by decide)]; exact hs, by rw [put_ne (show 15 ≠ 11 by decide)]; exact hv⟩, (by rw [put_ne (show 15 ≠ 11 by decide)]; exact ho)⟩), (fun h => by obtain ⟨k, e1, e2, q7_0, q7_1, q7_2, q7_3, e3, e4⟩ := n7 h; exact ⟨k, (put_ne (by decide)).trans e1, e2, q7_0, q7_1, q7_2, q7_3, e3, (fun h => by rw [put_ne (show 15 ≠ 11 by decide)]; exact e4 h)⟩), (fun h h' k e => by rw [put_ne (show 15 ≠ 11 by decide)]; rw [put_ne (show 5 ≠ 11 by decide)] at e; exact dn7_6 h h' k e), m8_7, m8_6, hS, Br⟩
   · refine qst fun g ac wc hn hk hr HI K' hK => ?_
     obtain ⟨x1, x2, i0, i1, i2, i3, i4, i5, hL, p6, n7, dn7_6, m8_7, m8_6, hS, Br⟩ := HI.out
     simp [Region.binds] at hr
     have y2 := i2 (by simp [hr])
     have z2 := sl_get y2 (by omega)
     clear i0 i1 i2 i3 i4 i5 p6 n7 dn7_6
     go_simp
     obtain ⟨-, -, i0, i1, i2, i3, i4, i5, -, p6, n7, dn7_6, -⟩ := HI.out
     exact hK.out _ _ ⟨qB x1, qB x2, qF i0, qF i1, qF i2, qP, qF i4, qF i5, hL, (fun h => by obtain ⟨⟨hs, hv⟩, ho⟩ := p6 h; exact ⟨⟨by rw [put_ne (show 15 ≠ 12 by decide)]; exact hs, by rw [put_ne (show 15 ≠ 12 by decide)]; exact hv⟩, (by rw [put_ne (show 15 ≠ 12 by decide)]; exact ho)⟩), (fun h => by obtain ⟨k, e1, e2, q7_0, q7_1, q7_2, q7_3, e3, e4⟩ := n7 h; exact ⟨k, (put_ne (by decide)).trans e1, e2, q7_0, q7_1, q7_2, q7_3, e3, (fun h => by rw [put_ne (show 15 ≠ 12 by decide)]; exact e4 h)⟩), (fun h h' k e => by rw [put_ne (show 15 ≠ 12 by decide)]; rw [put_ne (show 5 ≠ 12 by decide)] at e; exact dn7_6 h h' k e), m8_7, m8_6, hS, Br⟩
   · refine qst fun g ac wc hn hk hr HI K' hK => ?_
     obtain ⟨x1, x2, i0, i1, i2, i3, i4, i5, hL, p6, n7, dn7_6, m8_7, m8_6, hS, Br⟩ := HI.out
     simp [Region.binds] at hr
     have y3 := i3 (by simp [hr])
     have z3 := sl_get y3 (by omega)
     clear i0 i1 i2 i3 i4 i5 p6 n7 dn7_6
     go_simp
     obtain ⟨-, -, i0, i1, i2, i3, i4, i5, -, p6, n7, dn7_6, -⟩ := HI.out
     exact hK.out _ _ ⟨qB x1, qB x2, qF i0, qF i1, qF i2, qF i3, qP, qF i5, hL, (fun h => by obtain ⟨⟨hs, hv⟩, ho⟩ := p6 h; exact ⟨⟨by rw [put_ne (show 15 ≠ 13 by decide)]; exact hs, by rw [put_ne (show 15 ≠ 13 by decide)]; exact hv⟩, (by rw [put_ne (show 15 ≠ 13 by decide)]; exact ho)⟩), (fun h => by obtain ⟨k, e1, e2, q7_0, q7_1, q7_2, q7_3, e3, e4⟩ := n7 h; exact ⟨k, (put_ne (by decide)).trans e1, e2, q7_0, q7_1, q7_2, q7_3, e3, (fun h => by rw [put_ne (show 15 ≠ 13 by decide)]; exact e4 h)⟩), (fun h h' k e => by rw [put_ne (show 15 ≠ 13 by decide)]; rw [put_ne (show 5 ≠ 13 by decide)] at e; exact dn7_6 h h' k e), m8_7, m8_6, hS, Br⟩
   · refine qst fun g ac wc hn hk hr HI K' hK => ?_
     obtain ⟨x1, x2, i0, i1, i2, i3, i4, i5, hL, p6, n7, dn7_6, m8_7, m8_6, hS, Br⟩ := HI.out
     simp [Region.binds] at hr
     have y4 := i4 (by simp [hr])
     have z4 := sl_get y4 (by omega)
     clear i0 i1 i2 i3 i4 i5 p6 n7 dn7_6
     have rr := (hr1.later hL).trm HT.out
     have r1 := rr.1
     have r2 := rr.2.1
     have zr := (hr1.later hL).1
     simp only [Nat.zero_mul, Nat.add_zero] at r1 r2
     clear rr
     go_simp
     obtain ⟨-, -, i0, i1, i2, i3, i4, i5, -, p6, n7, dn7_6, -⟩ := HI.out
     exact hK.out _ _ ⟨qB x1, qB x2, qF i0, qF i1, qF i2, qF i3, qF i4, qP, hL, (fun h => by obtain ⟨⟨hs, hv⟩, ho⟩ := p6 h; exact ⟨⟨by rw [put_ne (show 15 ≠ 14 by decide)]; exact hs, by rw [put_ne (show 15 ≠ 14 by decide)]; exact hv⟩, (by rw [put_ne (show 15 ≠ 14 by decide)]; exact ho)⟩), (fun h => by obtain ⟨k, e1, e2, q7_0, q7_1, q7_2, q7_3, e3, e4⟩ := n7 h; exact ⟨k, (put_ne (by decide)).trans e1, e2, q7_0, q7_1, q7_2, q7_3, e3, (fun h => by rw [put_ne (show 15 ≠ 14 by decide)]; exact e4 h)⟩), (fun h h' k e => by rw [put_ne (show 15 ≠ 14 by decide)]; rw [put_ne (show 5 ≠ 14 by decide)] at e; exact dn7_6 h h' k e), m8_7, m8_6, hS, Br⟩
   · refine qst fun g ac wc hn hk hr HI K' hK => ?_
     obtain ⟨x1, x2, i0, i1, i2, i3, i4, i5, hL, p6, n7, dn7_6, m8_7, m8_6, hS, Br⟩ := HI.out
     simp [Region.binds] at hr
     have y0 := i0 (by simp [hr])
     have y1 := i1 (by simp [hr])
     have y5 := i5 (by simp [hr])
     have z0 := sl_get y0 (by omega)
     have z1 := sl_get y1 (by omega)
     have z5 := sl_get y5 (by omega)
     clear i0 i1 i2 i3 i4 i5 p6 n7 dn7_6
     go_simp
     refine (w_l14Do0 n au av capu capv st sd 0 t.f.d t.f.t _ (H.out.later hL) (H'.out.later hL) HC.out (isMove_fig (by decide) (by decide) HK.out)).mono ?_
     rintro e w4 ⟨a4, l4, c4, rfl, hL4, ho4⟩
     obtain ⟨a5, c5, e5⟩ := isSl_of ho4
     simp only [Value.slice.injEq] at e5
     obtain ⟨rfl, rfl, rfl⟩ := e5
     obtain ⟨-, -, i0, i1, i2, i3, i4, i5, -, p6, n7, dn7_6, -⟩ := HI.out
     exact hK.out _ _ ⟨qB x1, qB x2, qF i0, qF i1, qF i2, qF i3, qF i4, qF i5, hL.trans hL4, (fun _ => ⟨⟨by rw [put_eq (by omega)]; exact ⟨_, _, rfl⟩, by rw [put_eq (by omega)]; rfl⟩, by rw [put_eq (by omega)]; exact owns_base ho4 hS⟩), (fun h => by obtain ⟨k, e1, e2, q7_0, q7_1, q7_2, q7_3, e3, e4⟩ := n7 h; exact ⟨k, (put_ne (by decide)).trans e1, e2, q7_0, q7_1, q7_2, q7_3, hL4.keep e3, (fun h => absurd (m8_6 h) (by rw [hk]; simp))⟩), (fun h h' k e => by rw [put_ne (show 5 ≠ 15 by decide)] at e; rw [put_eq (by omega)]; obtain ⟨k2, e1, e2, q7_0, q7_1, q7_2, q7_3, e3, -⟩ := n7 h; have e5 := e.symm.trans e1; simp only [Value.pointer.injEq, Option.some.injEq, Addr.mk.injEq, and_true] at e5; subst e5; intro e6; have h7 := (ho4.lt _ e6).1; have h8 := (Array.getElem?_eq_some_iff.1 e3).1; omega), m8_7, (fun _ => rfl), Nat.le_trans hS hL4.size, (hL4.keep Br)⟩
   · refine qst fun g ac wc hn hk hr HI K' hK => ?_
     obtain ⟨x1, x2, i0, i1, i2, i3, i4, i5, hL, p6, n7, dn7_6, m8_7, m8_6, hS, Br⟩ := HI.out
     simp [Region.binds] at hr
     clear i0 i1 i2 i3 i4 i5 p6 n7 dn7_6
     go_simp
     have hL4 := (Later.refl wc).alloc (.cells #[.int .i64 0, .int .i64 0, .slice none 0 0, .bool false] 129)
     obtain ⟨-, -, i0, i1, i2, i3, i4, i5, -, p6, n7, dn7_6, -⟩ := HI.out
     exact hK.out _ _ ⟨qB x1, qB x2, qF i0, qF i1, qF i2, qF i3, qF i4, qF i5, hL.alloc _, (fun h => by obtain ⟨⟨hs, hv⟩, ho⟩ := p6 h; exact ⟨⟨by rw [put_ne (show 15 ≠ 5 by decide)]; exact hs, by rw [put_ne (show 15 ≠ 5 by decide)]; exact hv⟩, (by rw [put_ne (show 15 ≠ 5 by decide)]; exact (owns_later ho hL4))⟩), (fun _ => ⟨_, put_eq (by omega), hS, _, _, _, _, heap_alloc_new _ _, fun h => absurd (m8_7 h) (by rw [hk]; simp)⟩), (fun h h' k e => by rw [put_ne (show 15 ≠ 5 by decide)]; rw [put_eq (by omega)] at e; simp only [Value.pointer.injEq, Option.some.injEq, Addr.mk.injEq, and_true] at e; subst e; intro e2; have ho := (p6 h').2; have := (ho.lt _ e2).2; omega), (fun _ => rfl), m8_6, (by simp; omega), (hL4.keep Br)⟩
   · refine qst fun g ac wc hn hk hr HI K' hK => ?_
     obtain ⟨x1, x2, i0, i1, i2, i3, i4, i5, hL, p6, n7, dn7_6, m8_7, m8_6, hS, Br⟩ := HI.out
     simp [Region.binds] at hr
     have gm7 : g 7 = true := by first | exact m8_7 (by simp [hr]) | exact hr | exact hr.1 | exact hr.2 | exact hr.2.1 | simp [hr]
     have gm6 : g 6 = true := by first | exact m8_6 (by simp [hr]) | exact hr | exact hr.1 | exact hr.2 | exact hr.2.1 | simp [hr]
     replace i0 := Lib.hid i0
     replace i1 := Lib.hid i1
     replace i2 := Lib.hid i2
     replace i3 := Lib.hid i3
     replace i4 := Lib.hid i4
     replace i5 := Lib.hid i5
     replace p6 := Lib.hid p6
     replace n7 := Lib.hid n7
     replace dn7_6 := Lib.hid dn7_6
     obtain ⟨k, e1, e2, q7_0, q7_1, q7_2, q7_3, e3, -⟩ := n7.out gm7
     obtain ⟨c0, f0, z0⟩ := blk_at e3
     have ze := sl_get e1 (by omega)
     obtain ⟨⟨⟨aa, cc, yy6⟩, y6⟩, -⟩ := p6.out gm6
     rw [yy6] at y6
     have z6 := sl_get y6 (by omega)
     go_simp
     have NEs := fun h => dn7_6.out gm7 h k e1
     exact hK.out undef _ ⟨x1, x2, i0.out, i1.out, i2.out, i3.out, i4.out, i5.out, ((((hL.setCell (show w.heap.size ≤ k by omega) _).setCell (show w.heap.size ≤ k by omega) _).setCell (show w.heap.size ≤ k by omega) _).setCell (show w.heap.size ≤ k by omega) _), (fun h => by obtain ⟨⟨hs, hv⟩, ho⟩ := p6.out h; exact ⟨⟨hs, hv⟩, (owns_setNe (owns_setNe (owns_setNe (owns_setNe ho (NEs h) _ _) (NEs h) _ _) (NEs h) _ _) (NEs h) _ _)⟩), (fun _ => ⟨k, e1, e2, _, _, _, _, four_set e3 _ _ _ _, fun _ => ⟨rfl, rfl, yy6.symm, rfl⟩⟩), dn7_6.out, (fun _ => gm7), (fun _ => gm6), (by simp; omega), (other_set (other_set (other_set (other_set Br (by omega) _) (by omega) _) (by omega) _) (by omega) _)⟩
end Go.Proofs.YtkoojngonldcbaaGreat
