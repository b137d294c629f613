/- DERIVED. Walks: the logarithm of a chain, the reference's; ChainLog. -/
import Derived.Test.YtkoojngonldcbaaGreatKGM13
namespace Go.Proofs.YtkoojngonldcbaaGreat
set_option linter.unusedVariables false
set_option linter.unusedSimpArgs false
open Go.RowKit
set_option maxRecDepth 100000
set_option maxHeartbeats 1000000 in
theorem w_specL13Log (v : Value) (ts : List Trm) (w : World) (h : IsTrms w v ts) (hc : isChain ts = true) :
 Calls Tryz.prog 162 #[v] w fun e w' => e = .returned (.agg #[.int .i64 (chainLog0 ts).lo, .int .i64 (chainLog0 ts).hi]) ∧ Later w w' := by
 have HC := Lib.hid hc
 have h6 := (isChain_true hc).2.1
 have h16 := (isChain_true hc).1
 have hd := (isChain_true hc).2.2.1
 clear hc
 obtain ⟨hxl1, hn1, a1, cap1, rfl, hcap1, hmax1, hrow1⟩ := h
 have HR1 := Lib.hid hrow1
 clear hrow1 hxl1
 have hL0 := Later.refl w
 have hn0 : (0 : Nat) < ts.length := by omega
 obtain ⟨b1, off1, rfl, hr1⟩ := HR1.out (by omega)
 obtain ⟨t, ht1⟩ := get_ex (l := ts) (k := 0) (by omega)
 have HT1 := Lib.hid ht1
 obtain ⟨c1_0, c1_1, c1_2⟩ := (hr1.later hL0).trm ht1
 clear ht1
 simp only [Nat.zero_mul, Nat.add_zero] at c1_0 c1_1 c1_2
 have hb1 := hr1.1
 have hdv : t.dv = false := by
  have := HT1.out
  cases ts with
  | nil => simp at this
  | cons x l => simp at this; subst this; exact hd
 have HDV := Lib.hid hdv
 have hbd := isChain_ok HC.out HT1.out
 obtain ⟨t1, t2, t3, t4⟩ := hbd
 have hfl := figLog_bd2 t1 t2 t3 t4
 have t5 : -100 ≤ t.f.t := by omega
 have t6 : t.f.t ≤ 100 := by omega
 have h1 : chainLog0 (ts.take 1) = ⟨(figLog t.f).lo, (figLog t.f).hi⟩ := by
  rw [take_snoc' HT1.out, chainLog0_snoc, logStep_n hdv]; simp [chainLog0]
 obtain ⟨X, hX⟩ : ∃ X, (figLog t.f).lo = X := ⟨_, rfl⟩
 obtain ⟨Y, hY⟩ : ∃ Y, (figLog t.f).hi = Y := ⟨_, rfl⟩
 rw [hX, hY] at hfl h1
 obtain ⟨x1, x2, y1, y2⟩ := hfl
 have EX := Lib.hid (show (figLog ⟨t.f.d, t.f.t⟩).lo = X from hX)
 have EY := Lib.hid (show (figLog ⟨t.f.d, t.f.t⟩).hi = Y from hY)
 have H1 := Lib.hid h1
 clear hX hY h1 hdv hd
 go_enter Tryz.func162, Tryz.ntmps162
 go_wp2_with fail
 refine (w_l03Figure _ _ t1 t2 t5 t6 _).mono ?_
 rintro e w0 ⟨rfl, hL0⟩
 rw [EX.out, EY.out]
 have hres0 := hL0.keep (heap_alloc_new w (.cells #[.int .i64 0, .int .i64 0] 55))
 have HRes0 := Lib.hid hres0
 have hL00 := ((Later.refl w).alloc _).trans hL0
 have hlt0 := hL00.size
 have hlt1 := hL0.size
 simp only [World.size_alloc] at hlt1
 obtain ⟨cr, fr, zr⟩ := blk_at hres0
 clear hres0 c1_0 c1_1 c1_2 hL0 t1 t2 t3 t4 t5 t6
 go_wp2
 go_loopw [4, 5] (fun i _ wr => ∃ k : Nat, k ≤ ts.length ∧ 1 ≤ k ∧ i = .int .i64 k ∧ Later w wr ∧ w0.heap.size < wr.heap.size ∧ wr.heap[w.heap.size]? = some (.cells #[.int .i64 0, .int .i64 0] 55 (0, 0)) ∧ ∃ A B : Int, wr.heap[w0.heap.size]? = some (.cells #[.int .i64 A, .int .i64 B] 55 (0, 0)) ∧ Hid (chainLog0 (ts.take k) = ⟨A, B⟩) ∧ -33000000 * (k : Int) ≤ A ∧ A ≤ 33000000 * k ∧ -33000000 * (k : Int) ≤ B ∧ B ≤ 33000000 * k) (fun i _ _ => ts.length - (intOf i).toNat)
 case atStart => exact ⟨1, by omega, by omega, rfl, qla, by simp, heap_alloc_old _ _ HRes0.out, X, Y, heap_alloc_new _ _, H1.out, by omega, by omega, by omega, by omega⟩
 case round =>
  obtain ⟨k, hk, hk1, rfl, hL, hsz, hres, A, B, hout, HA, ha1, ha2, hb1, hb2⟩ := hrel
  clear cr fr zr
  have HRes := Lib.hid hres
  have HOut := Lib.hid hout
  by_cases hlt : k < ts.length
  · clear hres hout
    obtain ⟨t', ht'⟩ := get_ex (l := ts) (k := k) (by omega)
    have HT2 := Lib.hid ht'
    obtain ⟨c0, c1, c2⟩ := (hr1.later hL).trm ht'
    clear ht'
    have hbd := isChain_ok HC.out HT2.out
    obtain ⟨t1, t2, t3, t4⟩ := hbd
    have hfl := figLog_bd2 t1 t2 t3 t4
    have t5 : -100 ≤ t'.f.t := by omega
    have t6 : t'.f.t ≤ 100 := by omega
    obtain ⟨Z, hZ⟩ : ∃ Z, (figLog t'.f).lo = Z := ⟨_, rfl⟩
    obtain ⟨V, hV⟩ : ∃ V, (figLog t'.f).hi = V := ⟨_, rfl⟩
    rw [hZ, hV] at hfl
    obtain ⟨z1, z2, v1, v2⟩ := hfl
    have EZ := Lib.hid (show (figLog ⟨t'.f.d, t'.f.t⟩).lo = Z from hZ)
    have EV := Lib.hid (show (figLog ⟨t'.f.d, t'.f.t⟩).hi = V from hV)
    have HZ := Lib.hid hZ
    have HV := Lib.hid hV
    clear hZ hV
    cases hq : t'.dv
    all_goals
     rw [hq] at c2
     have HQ := Lib.hid hq
     clear hq
     go_wp2_with fail
     refine (w_l03Figure _ _ t1 t2 t5 t6 _).mono ?_
     rintro e w1 ⟨rfl, hL1⟩
     rw [EZ.out, EV.out]
     have HR1' := Lib.hid (hL1.keep HRes.out)
     have HO1 := Lib.hid (hL1.keep HOut.out)
     obtain ⟨co, fo, zo⟩ := blk_at HO1.out
     obtain ⟨c0, c1, c2⟩ := ((hr1.later hL).later hL1).trm HT2.out
     rw [HQ.out] at c2
     have hb1w : b1 < w1.heap.size := ((hr1.later hL).later hL1).1
     go_wp2_with fail
     first | refine (w_l03Add _ _ _ _ (by omega) (by omega) (by omega) (by omega) (by omega) (by omega) (by omega) (by omega) _).mono ?_ | refine (w_l03Sub _ _ _ _ (by omega) (by omega) (by omega) (by omega) (by omega) (by omega) (by omega) (by omega) _).mono ?_
     rintro e w2 ⟨rfl, hL2⟩
     have HR2 := Lib.hid (hL2.keep (heap_alloc_old _ _ HR1'.out))
     have HO2 := Lib.hid (hL2.keep (heap_alloc_old _ _ HO1.out))
     have hsz2 := hL2.size
     have hsz1 := hL1.size
     simp only [World.size_alloc] at hsz2
     clear co fo zo c0 c1 c2
     obtain ⟨co, fo, zo⟩ := blk_at HO2.out
     go_wp2
     go_roundw
     case rel => first | exact ⟨k + 1, by omega, by omega, by go_num, qla, by simp; omega, other_set (other_set HR2.out (by omega) _) (by omega) _, _, _, two_set HO2.out _ _, by rw [Hid, take_snoc' HT2.out, chainLog0_snoc, logStep_n HQ.out, HA.out, HZ.out, HV.out], by omega, by omega, by omega, by omega⟩ | exact ⟨k + 1, by omega, by omega, by go_num, qla, by simp; omega, other_set (other_set HR2.out (by omega) _) (by omega) _, _, _, two_set HO2.out _ _, by rw [Hid, take_snoc' HT2.out, chainLog0_snoc, logStep_y HQ.out, HA.out, HZ.out, HV.out], by omega, by omega, by omega, by omega⟩
     case measure => simp [intOf]; omega
  · have hf : chainLog0 ts = ⟨A, B⟩ := by
     have := HA.out
     rwa [take_eq_all (by omega)] at this
    have HF := Lib.hid hf
    clear hf
    obtain ⟨cr, fr, zr⟩ := blk_at hres
    obtain ⟨co, fo, zo⟩ := blk_at hout
    clear hres hout
    go_wp2
    refine bodyPost_ret (v := .agg #[.int .i64 A, .int .i64 B]) (by simp [results, Tryz.results162, go_sem, cr, zr]) rfl ⟨by rw [HF.out], ?_⟩
    exact qla
end Go.Proofs.YtkoojngonldcbaaGreat
