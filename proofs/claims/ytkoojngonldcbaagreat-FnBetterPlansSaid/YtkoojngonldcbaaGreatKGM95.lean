/- DERIVED. Walks: the best order, both sides. -/
import Derived.Laws.EntriesVeiled
import Derived.Test.YtkoojngonldcbaaGreatKGM92
namespace Go.Proofs.YtkoojngonldcbaaGreat
set_option linter.unusedVariables false
set_option linter.unusedSimpArgs false
open Go.RowKit
set_option maxRecDepth 100000
def bpL (r : Rul) (c : List Trm) (e : Ers) : List Int := if codeBound r c e = 0 then (bestO (costU r.len c e) (lvs c c.length [])).1 else []
def bpN (r : Rul) (c : List Trm) (e : Ers) : Int := if codeBound r c e = 0 then (bestO (costU r.len c e) (lvs c c.length [])).2 else 0
theorem bp_no {r : Rul} {c : List Trm} {e : Ers} {X : Int} (h : codeBound r c e = X) (h0 : X ≠ 0) : bpL r c e = [] ∧ bpN r c e = 0 := by unfold bpL bpN; rw [h, if_neg h0, if_neg h0]; exact ⟨rfl, rfl⟩
theorem bp_0 {r : Rul} {c : List Trm} {e : Ers} (h : codeBound r c e = 0) : bpL r c e = (bestO (costU r.len c e) (lvs c c.length [])).1 ∧ bpN r c e = (bestO (costU r.len c e) (lvs c c.length [])).2 := by unfold bpL bpN; rw [if_pos h, if_pos h]; exact ⟨rfl, rfl⟩
set_option maxHeartbeats 1000000 in
theorem w_orders (n : Int) (au av ac : Option Addr) (capu capv capc : Nat) (st sd : List Int) (c : List Trm) (ea eb ec : Int) (kK kL kB kR kF base0 : Nat) (w0 : World) (h : IsNums w0 (.slice au st.length capu) st) (h' : IsNums w0 (.slice av sd.length capv) sd) (hy : IsTrms w0 (.slice ac c.length capc) c) (hC : hasI st 0 = true ∧ hasI sd 0 = true) (hc : isChain c = true) (he : isErs ⟨ea, eb, ec⟩ = true) (h1 : 1 ≤ n) (h2 : n ≤ 100000) (w : World) (ST : List Int × Int) (hb0 : base0 ≤ w.heap.size) (hk : w0.heap.size ≤ kL ∧ w0.heap.size ≤ kB ∧ kL < w.heap.size ∧ kB < w.heap.size ∧ kL ≠ kB) (hq1 : ¬ Two kL kB kK) (hq2 : ¬ Two kL kB kR) (hq3 : ¬ Two kL kB kF) (hL0 : Later w0 w)
 (hK : w.heap[kK]? = some (.cells #[.func (.func 90) #[] #[.pointer (some ⟨kR, 0, none⟩), .pointer (some ⟨kF, 0, none⟩)]] 81 (0, 0))) (hR : w.heap[kR]? = some (.cells #[.int .i64 n, .slice au st.length capu, .slice av sd.length capv] 26 (0, 0))) (hF : w.heap[kF]? = some (.cells #[.int .i64 ea, .int .i64 eb, .int .i64 ec] 60 (0, 0))) (hB : BestSt w kL kB base0 ST) :
 Calls Tryz.prog 110 #[.slice ac c.length capc, .func (.func 111) #[] #[.pointer (some ⟨kK, 0, none⟩), .pointer (some ⟨kL, 0, none⟩), .pointer (some ⟨kB, 0, none⟩)]] w fun e w' => e = .returned (.tuple #[]) ∧ BestSt w' kL kB base0 ((lvs c c.length []).foldl (updO (costU n c ⟨ea, eb, ec⟩)) ST) ∧ Ex (Two kL kB) w w' := by
 obtain ⟨k1, k2, k3, k4, k5⟩ := hk
 have HX := Lib.hid (fun (z : World) (hL : Later w z) (hs : w.heap.size ≤ z.heap.size) (hE : EnvO z w.heap.size (w.heap.size + 1) (w.heap.size + 1 + 1) kK kL kB kR kF n au av ac capu capv capc st sd c ea eb ec) =>
  w_extend n au av ac capu capv capc st sd c ea eb ec w.heap.size (w.heap.size + 1) (w.heap.size + 1 + 1) kK kL kB kR kF w0 h h' hy hC hc he h1 h2 base0 w.heap.size hb0 ⟨k1, k2, k3, k4, k5⟩ ⟨by rintro (h | h) <;> omega, by rintro (h | h) <;> omega, by rintro (h | h) <;> omega, hq1, hq2, hq3⟩
   c.length [] none none 0 0 0 z ST rfl (by simp) (GoodO.nil c) (hL0.trans hL) hE (hB.later hL) (World.ownsRow_nil _ _ _ _) (World.ownsRow_nil _ _ _ _) (fun _ => ⟨rfl, rfl, rfl, rfl⟩) hs)
 have HK := Lib.hid hK
 have HR := Lib.hid hR
 have HF := Lib.hid hF
 clear h h' hy hC hc hB hK hR he hF
 go_enter Tryz.func110, Tryz.ntmps110
 go_wp2_with fail
 refine (HX.out _ ((((Later.refl _).alloc _).alloc _).alloc _) (by simp; omega) ⟨heap_alloc_old _ _ (heap_alloc_old _ _ (heap_alloc_new _ _)), heap_alloc_old _ _ (heap_alloc_new' _ _ (by simp)), heap_alloc_new' _ _ (by simp), heap_alloc_old _ _ (heap_alloc_old _ _ (heap_alloc_old _ _ HK.out)), heap_alloc_old _ _ (heap_alloc_old _ _ (heap_alloc_old _ _ HR.out)), heap_alloc_old _ _ (heap_alloc_old _ _ (heap_alloc_old _ _ HF.out))⟩).mono ?_
 rintro e w1 ⟨rfl, hB1, hX1⟩
 have HB1 := Lib.hid hB1
 have HX1 := Lib.hid ((Ex.of ((((Later.refl w).alloc _).alloc _).alloc _)).trans hX1)
 clear hB1 hX1
 go_wp2
 first
  | refine bodyPost_ret (results_none rfl _ _ _) rfl ?_
  | go_end0
 exact ⟨rfl, HB1.out, HX1.out⟩
set_option maxHeartbeats 1000000 in
theorem w_leastOrder (n : Int) (au av ac : Option Addr) (capu capv capc : Nat) (st sd : List Int) (c : List Trm) (ea eb ec : Int) (kR kF : Nat) (w0 : World) (h : IsNums w0 (.slice au st.length capu) st) (h' : IsNums w0 (.slice av sd.length capv) sd) (hy : IsTrms w0 (.slice ac c.length capc) c) (hC : hasI st 0 = true ∧ hasI sd 0 = true) (hc : isChain c = true) (he : isErs ⟨ea, eb, ec⟩ = true) (h1 : 1 ≤ n) (h2 : n ≤ 100000) (w : World) (hL0 : Later w0 w) (hR : w.heap[kR]? = some (.cells #[.int .i64 n, .slice au st.length capu, .slice av sd.length capv] 26 (0, 0))) (hF : w.heap[kF]? = some (.cells #[.int .i64 ea, .int .i64 eb, .int .i64 ec] 60 (0, 0))) :
 Calls Tryz.prog 55 #[.slice ac c.length capc, .func (.func 90) #[] #[.pointer (some ⟨kR, 0, none⟩), .pointer (some ⟨kF, 0, none⟩)]] w fun e w' => ∃ a l k, e = .returned (.tuple #[.slice a l k, .int .i64 (bestO (costU n c ⟨ea, eb, ec⟩) (lvs c c.length [])).2]) ∧ Later w w' ∧ w'.ownsRow w.heap.size 2 1 (.slice a l k) (bestO (costU n c ⟨ea, eb, ec⟩) (lvs c c.length [])).1.length (nums (bestO (costU n c ⟨ea, eb, ec⟩) (lvs c c.length [])).1) := by
 have hw0 := hL0.size
 have lt0 := (Array.getElem?_eq_some_iff.1 hR).1
 have lt1 := (Array.getElem?_eq_some_iff.1 hF).1
 have HX := Lib.hid (fun (z : World) (hL : Later w z) (hz : w.heap.size + 1 + 1 + 1 < z.heap.size) (hK : z.heap[w.heap.size]? = some (.cells #[.func (.func 90) #[] #[.pointer (some ⟨kR, 0, none⟩), .pointer (some ⟨kF, 0, none⟩)]] 81 (0, 0))) (hB : BestSt z (w.heap.size + 1 + 1 + 1) (w.heap.size + 1 + 1) w.heap.size ([], -1)) =>
  w_orders n au av ac capu capv capc st sd c ea eb ec w.heap.size (w.heap.size + 1 + 1 + 1) (w.heap.size + 1 + 1) kR kF w.heap.size w0 h h' hy hC hc he h1 h2 z ([], -1) (by omega) ⟨by omega, by omega, by omega, by omega, by omega⟩ (by rintro (h | h) <;> omega) (by rintro (h | h) <;> omega) (by rintro (h | h) <;> omega) (hL0.trans hL) hK (hL.keep hR) (hL.keep hF) hB)
 obtain ⟨⟨BL, BX⟩, hBB⟩ : ∃ x, bestO (costU n c ⟨ea, eb, ec⟩) (lvs c c.length []) = x := ⟨_, rfl⟩
 have HBB := Lib.hid hBB
 have HB0 := Lib.hid (show BestSt ((((w.alloc (.cells #[.func (.func 90) #[] #[.pointer (some ⟨kR, 0, none⟩), .pointer (some ⟨kF, 0, none⟩)]] 81)).alloc (.cells #[] 2)).alloc (.cells #[.slice (some ⟨w.heap.size + 1, 0, none⟩) 0 0] 24)).alloc (.cells #[.int .i64 (-1)] 2)) (w.heap.size + 1 + 1 + 1) (w.heap.size + 1 + 1) w.heap.size ([], -1) from
  ⟨heap_alloc_new' _ _ (by simp), _, 0, 0, heap_alloc_old _ _ (heap_alloc_new' _ _ (by simp)), by
   have h := own_empty (w := w.alloc (.cells #[.func (.func 90) #[] #[.pointer (some ⟨kR, 0, none⟩), .pointer (some ⟨kF, 0, none⟩)]] 81)) (base := w.heap.size) (by simp) 2 1
   have h2 := (h.alloc (.cells #[.slice (some ⟨w.heap.size + 1, 0, none⟩) 0 0] 24)).alloc (.cells #[.int .i64 (-1)] 2)
   simpa [nums] using h2⟩)
 clear h h' hy hC hc hR hBB hL0 he hF
 go_enter Tryz.func55, Tryz.ntmps55
 go_wp2_with fail
 refine (HX.out _ (((((Later.refl _).alloc _).alloc _).alloc _).alloc _) (by simp) (heap_alloc_old _ _ (heap_alloc_old _ _ (heap_alloc_old _ _ (heap_alloc_new _ _)))) HB0.out).mono ?_
 rintro e w2 ⟨rfl, hB, hX⟩
 have hL0 := Later.ex' (((((Later.refl w).alloc _).alloc _).alloc _).alloc _) hX (fun j h => by rcases h with h | h <;> omega)
 have hB' : BestSt w2 (w.heap.size + 1 + 1 + 1) (w.heap.size + 1 + 1) w.heap.size (BL, BX) := HBB.out ▸ hB
 obtain ⟨KL, aB, lB, kqb, KB, hO⟩ := hB'
 have HO := Lib.hid hO
 have HLw2 := Lib.hid hL0
 simp only at KL
 have hSB := hL0.size
 clear hB hX hO
 go_wp2_with fail
 refine region_slots 14 [12, 13, 4, 5] (fun g ac wc => sl ac 6 = .pointer (some ⟨w.heap.size + 1 + 1, 0, none⟩) ∧
  sl ac 7 = .pointer (some ⟨w.heap.size + 1 + 1 + 1, 0, none⟩) ∧
  (g 0 = true → sl ac 12 = .slice aB lB kqb) ∧
  (g 1 = true → sl ac 13 = .int .i64 BX) ∧
  (g 2 = true → sl ac 4 = .slice aB lB kqb) ∧
  (g 3 = true → sl ac 5 = .int .i64 BX) ∧
  Later w2 wc ∧
  w2.heap.size ≤ wc.heap.size ∧
  wc.heap[w.heap.size + 1 + 1]? = some (.cells #[.slice aB lB kqb] 24 (0, 0)) ∧
  wc.heap[w.heap.size + 1 + 1 + 1]? = some (.cells #[.int .i64 BX] 2 (0, 0))) (by kernel_rfl) (by kernel_rfl) rfl (by kernel_rfl) ?_ ?_ ?_
 · exact ⟨rfl, rfl, nofun, nofun, nofun, nofun, (Later.refl _).drew, Nat.le_refl _, KB, KL⟩
 · intro g ac wc hg ha hI
   obtain ⟨x6, x7, i0, i1, i2, i3, hL, hS, BB, BL⟩ := hI
   have a0 := i0 (hg 0 (by simp))
   have a1 := i1 (hg 1 (by simp))
   have a2 := i2 (hg 2 (by simp))
   have a3 := i3 (hg 3 (by simp))
   simp only [putAll, a0, a1, a2, a3] at ha
   simp only [Act.put, List.setIfInBounds_toArray, List.set_cons_succ, List.set_cons_zero] at ha
   rw [ha]
   clear x6 x7 i0 i1 i2 i3 a0 a1 a2 a3 hg ha
   go_wp2
   go_ret2
   exact ⟨aB, lB, kqb, by rw [HBB.out]; rfl, HLw2.out.trans hL, by rw [HBB.out]; exact owns_later HO.out hL⟩
 · refine .cons ?_ (.cons ?_ (.cons ?_ (.cons ?_ .nil)))
   · refine qst fun g ac wc hn hk hr HI K' hK => ?_
     obtain ⟨x6, x7, -, -, -, -, hL, hS, BB, BL⟩ := HI.out
     simp [Region.binds] at hr
     obtain ⟨c0, f0, z0⟩ := blk_at BB
     go_simp
     obtain ⟨-, -, i0, i1, i2, i3, -⟩ := HI.out
     exact hK.out _ _ ⟨qB x6, qB x7, qP, qF i1, qF i2, qF i3, hL, hS, BB, BL⟩
   · refine qst fun g ac wc hn hk hr HI K' hK => ?_
     obtain ⟨x6, x7, -, -, -, -, hL, hS, BB, BL⟩ := HI.out
     simp [Region.binds] at hr
     obtain ⟨c0, f0, z0⟩ := blk_at BL
     go_simp
     obtain ⟨-, -, i0, i1, i2, i3, -⟩ := HI.out
     exact hK.out _ _ ⟨qB x6, qB x7, qF i0, qP, qF i2, qF i3, hL, hS, BB, BL⟩
   · refine qst fun g ac wc hn hk hr HI K' hK => ?_
     obtain ⟨x6, x7, i0, -, -, -, hL, hS, BB, BL⟩ := HI.out
     simp [Region.binds] at hr
     have y0 := i0 (by simp [hr])
     clear i0
     go_simp
     obtain ⟨-, -, i0, i1, i2, i3, -⟩ := HI.out
     exact hK.out _ _ ⟨qB x6, qB x7, qF i0, qF i1, qP, qF i3, hL, hS, BB, BL⟩
   · refine qst fun g ac wc hn hk hr HI K' hK => ?_
     obtain ⟨x6, x7, -, i1, -, -, hL, hS, BB, BL⟩ := HI.out
     simp [Region.binds] at hr
     have y1 := i1 (by simp [hr])
     clear i1
     go_simp
     obtain ⟨-, -, i0, i1, i2, i3, -⟩ := HI.out
     exact hK.out _ _ ⟨qB x6, qB x7, qF i0, qF i1, qF i2, qP, hL, hS, BB, BL⟩
set_option maxHeartbeats 1000000 in
theorem w_implBetterPlan (n : Int) (u v y : Value) (st sd : List Int) (c : List Trm) (ea eb ec : Int) (w : World) (h : IsNums w u st) (h' : IsNums w v sd) (hy : IsTrms w y c) :
 Calls Tryz.prog 34 #[.agg #[.int .i64 n, u, v], y, .agg #[.int .i64 ea, .int .i64 eb, .int .i64 ec]] w fun e w' => ∃ a l k, e = .returned (.tuple #[.slice a l k, .int .i64 (bpN ⟨n, st, sd⟩ c ⟨ea, eb, ec⟩), .int .i64 (codeBound ⟨n, st, sd⟩ c ⟨ea, eb, ec⟩)]) ∧ Later w w' ∧ w'.ownsRow w.heap.size 2 1 (.slice a l k) (bpL ⟨n, st, sd⟩ c ⟨ea, eb, ec⟩).length (nums (bpL ⟨n, st, sd⟩ c ⟨ea, eb, ec⟩)) := by
 have H := Lib.hid h
 have H' := Lib.hid h'
 have HY := Lib.hid hy
 obtain ⟨_, _, au, capu, rfl, _, _, _⟩ := h
 obtain ⟨_, _, av, capv, rfl, _, _, _⟩ := h'
 obtain ⟨_, _, ay, capy, rfl, _, _, _⟩ := hy
 obtain ⟨X, hX⟩ : ∃ y, codeBound ⟨n, st, sd⟩ c ⟨ea, eb, ec⟩ = y := ⟨_, rfl⟩
 have HX := Lib.hid hX
 by_cases h0 : X = 0
 rotate_left
 · have HF := Lib.hid (bp_no hX h0)
   have hb : (X != 0) = true := by simp [h0]
   clear hX h0
   go_enter Tryz.func34, Tryz.ntmps34
   go_wp2_with fail
   refine (w_checkBound _ _ _ _ _ _ _ _ _ _ _ (H.out.later (((Later.refl _).alloc _).alloc _)) (H'.out.later (((Later.refl _).alloc _).alloc _)) (HY.out.later (((Later.refl _).alloc _).alloc _))).mono ?_
   rintro e w1 ⟨rfl, hL1⟩
   rw [HX.out]
   have HLw1 := Lib.hid ((((Later.refl w).alloc _).alloc _).trans hL1)
   obtain ⟨K0, K1⟩ := kept2 hL1
   have HK0_1 := Lib.hid K0
   have HK1_1 := Lib.hid K1
   clear K0 K1
   clear hL1
   obtain ⟨c0, f0, z0⟩ := blk_at HK0_1.out
   obtain ⟨c1, f1, z1⟩ := blk_at HK1_1.out
   go_wp2
   go_ret3
   exact ⟨none, 0, 0, by rw [HX.out, HF.out.2]; rfl, by have hLw := HLw1.out; exact qla, by rw [HF.out.1]; exact World.ownsRow_nil _ _ _ _⟩
 subst h0
 have HF := Lib.hid (bp_0 hX)
 have hq := codeBound_0 hX
 have hp := codePlan_0 hq.2
 have hln : 1 ≤ n ∧ n ≤ 100000 := isRule_len hp.1
 obtain ⟨n1, n2⟩ := hln
 have HE := Lib.hid hq.1
 have HC := Lib.hid hp.2.2
 have HCh := Lib.hid hp.2.1
 obtain ⟨⟨BL, BX⟩, hBB⟩ : ∃ x, bestO (costU n c ⟨ea, eb, ec⟩) (lvs c c.length []) = x := ⟨_, rfl⟩
 have HBB := Lib.hid hBB
 clear hX hp hBB hq
 go_enter Tryz.func34, Tryz.ntmps34
 go_wp2_with fail
 refine (w_checkBound _ _ _ _ _ _ _ _ _ _ _ (H.out.later (((Later.refl _).alloc _).alloc _)) (H'.out.later (((Later.refl _).alloc _).alloc _)) (HY.out.later (((Later.refl _).alloc _).alloc _))).mono ?_
 rintro e w1 ⟨rfl, hL1⟩
 rw [HX.out]
 have HLw1 := Lib.hid ((((Later.refl w).alloc _).alloc _).trans hL1)
 obtain ⟨K0, K1⟩ := kept2 hL1
 have HK0_1 := Lib.hid K0
 have HK1_1 := Lib.hid K1
 clear K0 K1
 clear hL1
 obtain ⟨c0, f0, z0⟩ := blk_at HK0_1.out
 obtain ⟨c1, f1, z1⟩ := blk_at HK1_1.out
 go_wp2_with fail
 refine (w_leastOrder n au av ay capu capv capy st sd c ea eb ec _ _ w H.out H'.out HY.out HC.out HCh.out HE.out n1 n2 _ HLw1.out HK0_1.out HK1_1.out).mono ?_
 rintro e w2 ⟨aq, lq, capq, rfl, hL2, hO⟩
 rw [HBB.out] at hO ⊢
 have HO := Lib.hid hO
 clear hO
 clear c0 f0 z0 c1 f1 z1
 have HLw2 := Lib.hid (HLw1.out.trans hL2)
 have HK0_2 := Lib.hid (hL2.keep HK0_1.out)
 have HK1_2 := Lib.hid (hL2.keep HK1_1.out)
 clear hL2
 obtain ⟨c0, f0, z0⟩ := blk_at HK0_2.out
 obtain ⟨c1, f1, z1⟩ := blk_at HK1_2.out
 go_wp2
 go_ret3
 exact ⟨aq, lq, capq, by rw [HX.out, HF.out.2, HBB.out]; rfl, HLw2.out, by rw [HF.out.1, HBB.out]; exact owns_base HO.out HLw1.out.size⟩
set_option maxHeartbeats 1000000 in
theorem w_specBetterPlan (n : Int) (u v y : Value) (st sd : List Int) (c : List Trm) (ea eb ec : Int) (w : World) (h : IsNums w u st) (h' : IsNums w v sd) (hy : IsTrms w y c) :
 Calls Tryz.prog 35 #[.agg #[.int .i64 n, u, v], y, .agg #[.int .i64 ea, .int .i64 eb, .int .i64 ec]] w fun e w' => ∃ a l k, e = .returned (.tuple #[.slice a l k, .int .i64 (bpN ⟨n, st, sd⟩ c ⟨ea, eb, ec⟩), .int .i64 (codeBound ⟨n, st, sd⟩ c ⟨ea, eb, ec⟩)]) ∧ Later w w' ∧ w'.ownsRow w.heap.size 2 1 (.slice a l k) (bpL ⟨n, st, sd⟩ c ⟨ea, eb, ec⟩).length (nums (bpL ⟨n, st, sd⟩ c ⟨ea, eb, ec⟩)) := by
 have H := Lib.hid h
 have H' := Lib.hid h'
 have HY := Lib.hid hy
 obtain ⟨_, _, au, capu, rfl, _, _, _⟩ := h
 obtain ⟨_, _, av, capv, rfl, _, _, _⟩ := h'
 obtain ⟨_, _, ay, capy, rfl, _, _, _⟩ := hy
 obtain ⟨X, hX⟩ : ∃ y, codeBound ⟨n, st, sd⟩ c ⟨ea, eb, ec⟩ = y := ⟨_, rfl⟩
 have HX := Lib.hid hX
 by_cases h0 : X = 0
 rotate_left
 · have HF := Lib.hid (bp_no hX h0)
   have hb : (X != 0) = true := by simp [h0]
   clear hX h0
   go_enter Tryz.func35, Tryz.ntmps35
   go_wp2_with fail
   refine (w_l15Code _ _ _ _ _ _ _ _ _ _ _ (H.out.later (((Later.refl _).alloc _).alloc _)) (H'.out.later (((Later.refl _).alloc _).alloc _)) (HY.out.later (((Later.refl _).alloc _).alloc _))).mono ?_
   rintro e w1 ⟨rfl, hL1⟩
   rw [HX.out]
   have HLw1 := Lib.hid ((((Later.refl w).alloc _).alloc _).trans hL1)
   obtain ⟨K0, K1⟩ := kept2 hL1
   have HK0_1 := Lib.hid K0
   have HK1_1 := Lib.hid K1
   clear K0 K1
   clear hL1
   obtain ⟨c0, f0, z0⟩ := blk_at HK0_1.out
   obtain ⟨c1, f1, z1⟩ := blk_at HK1_1.out
   go_wp2
   go_ret3
   exact ⟨none, 0, 0, by rw [HX.out, HF.out.2]; rfl, by have hLw := HLw1.out; exact qla, by rw [HF.out.1]; exact World.ownsRow_nil _ _ _ _⟩
 subst h0
 have HF := Lib.hid (bp_0 hX)
 have hq := codeBound_0 hX
 have hp := codePlan_0 hq.2
 have hln : 1 ≤ n ∧ n ≤ 100000 := isRule_len hp.1
 obtain ⟨n1, n2⟩ := hln
 have HE := Lib.hid hq.1
 have HC := Lib.hid hp.2.2
 have HCh := Lib.hid hp.2.1
 obtain ⟨⟨BL, BX⟩, hBB⟩ : ∃ x, bestO (costU n c ⟨ea, eb, ec⟩) (lvs c c.length []) = x := ⟨_, rfl⟩
 have HBB := Lib.hid hBB
 clear hX hp hBB hq
 go_enter Tryz.func35, Tryz.ntmps35
 go_wp2_with fail
 refine (w_l15Code _ _ _ _ _ _ _ _ _ _ _ (H.out.later (((Later.refl _).alloc _).alloc _)) (H'.out.later (((Later.refl _).alloc _).alloc _)) (HY.out.later (((Later.refl _).alloc _).alloc _))).mono ?_
 rintro e w1 ⟨rfl, hL1⟩
 rw [HX.out]
 have HLw1 := Lib.hid ((((Later.refl w).alloc _).alloc _).trans hL1)
 obtain ⟨K0, K1⟩ := kept2 hL1
 have HK0_1 := Lib.hid K0
 have HK1_1 := Lib.hid K1
 clear K0 K1
 clear hL1
 obtain ⟨c0, f0, z0⟩ := blk_at HK0_1.out
 obtain ⟨c1, f1, z1⟩ := blk_at HK1_1.out
 go_wp2_with fail
 refine (w_l15Better n au av ay capu capv capy st sd c ea eb ec w H.out H'.out HY.out HC.out HCh.out HE.out n1 n2 c.length [] (some ⟨w1.heap.size, 0, none⟩) 0 0 w.heap.size _ rfl (by simp) (GoodO.nil c) (HLw1.out.alloc _) (by simpa [nums] using own_empty HLw1.out.size 2 1) ⟨_, rfl⟩ (Later.size (HLw1.out.alloc _))).mono ?_
 rintro e w2 ⟨aq, lq, capq, rfl, hL2, hO⟩
 rw [HBB.out] at hO ⊢
 have HO := Lib.hid hO
 have HL := Lib.hid ((HLw1.out.alloc _).trans hL2)
 clear hO hL2 c0 f0 z0 c1 f1 z1
 go_wp2
 go_ret3
 exact ⟨aq, lq, capq, by rw [HX.out, HF.out.2, HBB.out]; rfl, HL.out, by rw [HF.out.1, HBB.out]; exact HO.out⟩
end Go.Proofs.YtkoojngonldcbaaGreat
