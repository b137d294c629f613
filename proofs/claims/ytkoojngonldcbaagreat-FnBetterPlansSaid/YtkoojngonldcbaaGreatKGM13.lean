/- DERIVED. Walks: logarithms of figures and chains. -/
import Derived.Test.YtkoojngonldcbaaGreatKGM12
import Derived.Test.YtkoojngonldcbaaGreatKGM3
namespace Go.Proofs.YtkoojngonldcbaaGreat
set_option linter.unusedVariables false
set_option linter.unusedSimpArgs false
open Go.RowKit
set_option maxRecDepth 100000
theorem w_l03Log (x : Int) (h1 : 100000000 ≤ x) (h2 : x ≤ 999999999) (w : World) :
 Calls Tryz.prog 212 #[.int .i64 x] w fun e w' => e = .returned (.agg #[.int .i64 (logOf x).lo, .int .i64 (logOf x).hi]) ∧ Later w w' := by
 have b := highS_bd h1 h2 20
 rw [show (2 : Int) ^ 20 = 1048576 from by decide] at b
 obtain ⟨_, _, b1, b2⟩ := b
 have e1 : (logOf x).lo = (lowS x 20).2 := rfl
 have e2 : (logOf x).hi = (highS x 20).2 + 1 := rfl
 rw [e1, e2]
 generalize hl : (lowS x 20).2 = L at *
 generalize hh : (highS x 20).2 = U at *
 have HL := Lib.hid hl
 have HH := Lib.hid hh
 clear hl hh e1 e2
 go_enter Tryz.func212, Tryz.ntmps212
 go_wp2_with fail
 refine (w_l03Bits_low _ h1 h2 _).mono ?_
 rintro e w' ⟨rfl, rfl⟩
 rw [HL.out]
 go_wp2_with fail
 refine (w_l03Bits_high _ h1 h2 _).mono ?_
 rintro e w' ⟨rfl, rfl⟩
 rw [HH.out]
 go_wp2
 refine bodyPost_ret (v := .agg #[.int .i64 L, .int .i64 (U + 1)]) (by simp [results, Tryz.results212, go_sem]) rfl ⟨rfl, ?_⟩
 exact qla
set_option maxHeartbeats 1000000 in
theorem w_logarithm (x : Int) (h1 : 100000000 ≤ x) (h2 : x ≤ 999999999) (w : World) :
 Calls Tryz.prog 191 #[.int .i64 x] w fun e w' => e = .returned (.agg #[.int .i64 (logOf x).lo, .int .i64 (logOf x).hi]) ∧ Later w w' := by
 go_enter Tryz.func191, Tryz.ntmps191
 go_wp2
 go_loopw [3, 4, 9] (fun l u i wr => ∃ k : Nat, k ≤ 20 ∧ i = .int .i64 k ∧ ∃ Y A Z B : Int, l = .int .i64 Y ∧ u = .int .i64 Z ∧ Hid (lowS x k = (Y, A)) ∧ Hid (highS x k = (Z, B)) ∧ wr = (w.alloc (.cells #[.int .i64 0, .int .i64 0] 55)).alloc (.cells #[.int .i64 A, .int .i64 B] 55)) (fun _ _ i _ => 20 - (intOf i).toNat)
 case atStart => exact ⟨0, by decide, rfl, _, _, _, _, rfl, rfl, rfl, rfl, rfl⟩
 case round =>
  obtain ⟨k, hk, rfl, Y, A, Z, B, rfl, rfl, HS, HT, rfl⟩ := hrel
  by_cases hlt : k < 20
  · have bd := lowS_bd h1 h2 k
    have bu := highS_bd h1 h2 k
    have hpow := pow2_20 hk
    rw [HS.out] at bd
    rw [HT.out] at bu
    simp only at bd bu
    obtain ⟨y1, y2, a1, a2⟩ := bd
    obtain ⟨z1, z2, b1, b2⟩ := bu
    have s1 := mul_self_le (by omega : (0 : Int) ≤ 100000000) y1
    have s2 := mul_self_le (by omega) y2
    have s3 := mul_self_le (by omega : (0 : Int) ≤ 100000000) z1
    have s4 := mul_self_le (by omega) z2
    have a3 : A ≤ 1048576 := by omega
    have b3 : B ≤ 1048576 := by omega
    clear a2 b2 hpow
    simp only [show (100000000 : Int) * 100000000 = 10000000000000000 from by decide, show (999999999 : Int) * 999999999 = 999999998000000001 from by decide, show (1000000000 : Int) * 1000000000 = 1000000000000000000 from by decide] at s1 s2 s3 s4
    have c1 : 0 ≤ cdiv (Z * Z) 100000000 := by simp only [cdiv]; omega
    have c2 : cdiv (Z * Z) 100000000 ≤ 10000000000 := by simp only [cdiv]; omega
    have hA : A * 2 = 2 * A := by omega
    by_cases hq : 1000000000 ≤ Y * Y / 100000000 <;> by_cases hr : 1000000000 ≤ cdiv (Z * Z) 100000000
    · have HN := Lib.hid (show lowS x (k + 1) = (Y * Y / 100000000 / 10, A * 2 + 1) from by rw [lowS, lowStep_pos (by rw [HS.out]; exact hq), HS.out])
      have HM := Lib.hid (show highS x (k + 1) = (cdiv (cdiv (Z * Z) 100000000) 10, B * 2 + 1) from by rw [highS, highStep_pos (by rw [HT.out]; exact hr), HT.out])
      clear hA
      go_wp2_with fail
      refine (w_down _ _ (by decide) (by decide) (by omega) (by omega) _).mono ?_
      rintro e w' ⟨rfl, rfl⟩
      go_wp2_with fail
      refine (w_down _ _ (by decide) (by decide) (by omega) (by omega) _).mono ?_
      rintro e w' ⟨rfl, rfl⟩
      go_wp2_with fail
      refine (w_up _ _ (by decide) (by decide) (by omega) (by omega) _).mono ?_
      rintro e w' ⟨rfl, rfl⟩
      go_wp2_with fail
      refine (w_up _ _ (by decide) (by decide) (by omega) (by omega) _).mono ?_
      rintro e w' ⟨rfl, rfl⟩
      go_wp2
      go_roundw
      case rel => exact ⟨k + 1, by omega, by go_num, _, _, _, _, rfl, rfl, HN.out, HM.out, rfl⟩
      case measure => simp [intOf]; omega
    · have HN := Lib.hid (show lowS x (k + 1) = (Y * Y / 100000000 / 10, A * 2 + 1) from by rw [lowS, lowStep_pos (by rw [HS.out]; exact hq), HS.out])
      have HM := Lib.hid (show highS x (k + 1) = (cdiv (Z * Z) 100000000, B * 2) from by rw [highS, highStep_neg (by rw [HT.out]; exact hr), HT.out])
      clear hA
      go_wp2_with fail
      refine (w_down _ _ (by decide) (by decide) (by omega) (by omega) _).mono ?_
      rintro e w' ⟨rfl, rfl⟩
      go_wp2_with fail
      refine (w_down _ _ (by decide) (by decide) (by omega) (by omega) _).mono ?_
      rintro e w' ⟨rfl, rfl⟩
      go_wp2_with fail
      refine (w_up _ _ (by decide) (by decide) (by omega) (by omega) _).mono ?_
      rintro e w' ⟨rfl, rfl⟩
      go_wp2
      go_roundw
      case rel => exact ⟨k + 1, by omega, by go_num, _, _, _, _, rfl, rfl, HN.out, HM.out, rfl⟩
      case measure => simp [intOf]; omega
    · have HN := Lib.hid (show lowS x (k + 1) = (Y * Y / 100000000, A * 2) from by rw [lowS, lowStep_neg (by rw [HS.out]; exact hq), HS.out])
      have HM := Lib.hid (show highS x (k + 1) = (cdiv (cdiv (Z * Z) 100000000) 10, B * 2 + 1) from by rw [highS, highStep_pos (by rw [HT.out]; exact hr), HT.out])
      clear hA
      go_wp2_with fail
      refine (w_down _ _ (by decide) (by decide) (by omega) (by omega) _).mono ?_
      rintro e w' ⟨rfl, rfl⟩
      go_wp2_with fail
      refine (w_up _ _ (by decide) (by decide) (by omega) (by omega) _).mono ?_
      rintro e w' ⟨rfl, rfl⟩
      go_wp2_with fail
      refine (w_up _ _ (by decide) (by decide) (by omega) (by omega) _).mono ?_
      rintro e w' ⟨rfl, rfl⟩
      go_wp2
      go_roundw
      case rel => exact ⟨k + 1, by omega, by go_num, _, _, _, _, rfl, rfl, HN.out, HM.out, rfl⟩
      case measure => simp [intOf]; omega
    · have HN := Lib.hid (show lowS x (k + 1) = (Y * Y / 100000000, A * 2) from by rw [lowS, lowStep_neg (by rw [HS.out]; exact hq), HS.out])
      have HM := Lib.hid (show highS x (k + 1) = (cdiv (Z * Z) 100000000, B * 2) from by rw [highS, highStep_neg (by rw [HT.out]; exact hr), HT.out])
      clear hA
      go_wp2_with fail
      refine (w_down _ _ (by decide) (by decide) (by omega) (by omega) _).mono ?_
      rintro e w' ⟨rfl, rfl⟩
      go_wp2_with fail
      refine (w_up _ _ (by decide) (by decide) (by omega) (by omega) _).mono ?_
      rintro e w' ⟨rfl, rfl⟩
      go_wp2
      go_roundw
      case rel => exact ⟨k + 1, by omega, by go_num, _, _, _, _, rfl, rfl, HN.out, HM.out, rfl⟩
      case measure => simp [intOf]; omega
  · obtain rfl : k = 20 := by omega
    have b := highS_bd h1 h2 20
    rw [show (2 : Int) ^ 20 = 1048576 from by decide, HT.out] at b
    obtain ⟨_, _, b1, b2⟩ := b
    simp only at b1 b2
    go_wp2
    refine bodyPost_ret (v := .agg #[.int .i64 A, .int .i64 (B + 1)]) (by simp [results, Tryz.results191, go_sem]) rfl ⟨?_, ?_⟩
    · simp only [logOf, HS.out, HT.out]
    · exact qla
theorem w_l03Figure (d t : Int) (h1 : 1000 ≤ d) (h2 : d ≤ 9999) (h3 : -100 ≤ t) (h4 : t ≤ 100) (w : World) :
 Calls Tryz.prog 198 #[.agg #[.int .i64 d, .int .i64 t]] w fun e w' => e = .returned (.agg #[.int .i64 (figLog ⟨d, t⟩).lo, .int .i64 (figLog ⟨d, t⟩).hi]) ∧ Later w w' := by
 obtain ⟨b1, b2, b3, b4⟩ := logOf_bd (x := d * 100000) (by omega) (by omega)
 have e1 : (figLog ⟨d, t⟩).lo = (logOf (d * 100000)).lo + t * 1048576 := rfl
 have e2 : (figLog ⟨d, t⟩).hi = (logOf (d * 100000)).hi + t * 1048576 := rfl
 rw [e1, e2]
 clear e1 e2
 obtain ⟨L, hl⟩ : ∃ L, (logOf (d * 100000)).lo = L := ⟨_, rfl⟩
 obtain ⟨U, hu⟩ : ∃ U, (logOf (d * 100000)).hi = U := ⟨_, rfl⟩
 rw [hl] at b1 b2 ⊢
 rw [hu] at b3 b4 ⊢
 have HL := Lib.hid hl
 have HU := Lib.hid hu
 clear hl hu
 go_enter Tryz.func198, Tryz.ntmps198
 go_wp2_with fail
 refine (w_l03Log _ (by omega) (by omega) _).mono ?_
 rintro e w1 ⟨rfl, hL⟩
 rw [HL.out, HU.out]
 obtain ⟨⟨c0, f0, z0⟩, ⟨c1, f1, z1⟩⟩ := blk2 hL
 go_wp2
 refine bodyPost_ret (v := .agg #[.int .i64 (L + t * 1048576), .int .i64 (U + t * 1048576)]) (by simp [results, Tryz.results198, go_sem, c1, z1]) rfl ⟨rfl, ?_⟩
 exact qla
theorem w_figureLog (d t : Int) (h1 : 1000 ≤ d) (h2 : d ≤ 9999) (h3 : -100 ≤ t) (h4 : t ≤ 100) (w : World) :
 Calls Tryz.prog 147 #[.agg #[.int .i64 d, .int .i64 t]] w fun e w' => e = .returned (.agg #[.int .i64 (figLog ⟨d, t⟩).lo, .int .i64 (figLog ⟨d, t⟩).hi]) ∧ Later w w' := by
 obtain ⟨b1, b2, b3, b4⟩ := logOf_bd (x := d * 100000) (by omega) (by omega)
 have e1 : (figLog ⟨d, t⟩).lo = (logOf (d * 100000)).lo + t * 1048576 := rfl
 have e2 : (figLog ⟨d, t⟩).hi = (logOf (d * 100000)).hi + t * 1048576 := rfl
 rw [e1, e2]
 clear e1 e2
 obtain ⟨L, hl⟩ : ∃ L, (logOf (d * 100000)).lo = L := ⟨_, rfl⟩
 obtain ⟨U, hu⟩ : ∃ U, (logOf (d * 100000)).hi = U := ⟨_, rfl⟩
 rw [hl] at b1 b2 ⊢
 rw [hu] at b3 b4 ⊢
 have HL := Lib.hid hl
 have HU := Lib.hid hu
 clear hl hu
 go_enter Tryz.func147, Tryz.ntmps147
 go_wp2_with fail
 refine (w_logarithm _ (by omega) (by omega) _).mono ?_
 rintro e w1 ⟨rfl, hL⟩
 rw [HL.out, HU.out]
 obtain ⟨⟨c0, f0, z0⟩, ⟨c1, f1, z1⟩⟩ := blk2 hL
 go_wp2
 refine bodyPost_ret (v := .agg #[.int .i64 (L + t * 1048576), .int .i64 (U + t * 1048576)]) (by simp [results, Tryz.results147, go_sem, c1, z1]) rfl ⟨rfl, ?_⟩
 exact qla
theorem w_l03Add (a b a' b' : Int) (h1 : -4000000000000000000 ≤ a) (h2 : a ≤ 4000000000000000000) (h3 : -4000000000000000000 ≤ b) (h4 : b ≤ 4000000000000000000) (h5 : -4000000000000000000 ≤ a') (h6 : a' ≤ 4000000000000000000) (h7 : -4000000000000000000 ≤ b') (h8 : b' ≤ 4000000000000000000) (w : World) :
 Calls Tryz.prog 200 #[.agg #[.int .i64 a, .int .i64 b], .agg #[.int .i64 a', .int .i64 b']] w fun e w' => e = .returned (.agg #[.int .i64 (a + a'), .int .i64 (b + b')]) ∧ Later w w' := by
 go_enter Tryz.func200, Tryz.ntmps200
 go_wp2
 refine bodyPost_ret (v := .agg #[.int .i64 (a + a'), .int .i64 (b + b')]) (by simp [results, Tryz.results200, go_sem]) rfl ⟨rfl, ?_⟩
 exact qla
theorem w_sum (a b a' b' : Int) (h1 : -4000000000000000000 ≤ a) (h2 : a ≤ 4000000000000000000) (h3 : -4000000000000000000 ≤ b) (h4 : b ≤ 4000000000000000000) (h5 : -4000000000000000000 ≤ a') (h6 : a' ≤ 4000000000000000000) (h7 : -4000000000000000000 ≤ b') (h8 : b' ≤ 4000000000000000000) (w : World) :
 Calls Tryz.prog 148 #[.agg #[.int .i64 a, .int .i64 b], .agg #[.int .i64 a', .int .i64 b']] w fun e w' => e = .returned (.agg #[.int .i64 (a + a'), .int .i64 (b + b')]) ∧ Later w w' := by
 go_enter Tryz.func148, Tryz.ntmps148
 go_wp2
 refine bodyPost_ret (v := .agg #[.int .i64 (a + a'), .int .i64 (b + b')]) (by simp [results, Tryz.results148, go_sem]) rfl ⟨rfl, ?_⟩
 exact qla
theorem w_l03Sub (a b a' b' : Int) (h1 : -4000000000000000000 ≤ a) (h2 : a ≤ 4000000000000000000) (h3 : -4000000000000000000 ≤ b) (h4 : b ≤ 4000000000000000000) (h5 : -4000000000000000000 ≤ a') (h6 : a' ≤ 4000000000000000000) (h7 : -4000000000000000000 ≤ b') (h8 : b' ≤ 4000000000000000000) (w : World) :
 Calls Tryz.prog 199 #[.agg #[.int .i64 a, .int .i64 b], .agg #[.int .i64 a', .int .i64 b']] w fun e w' => e = .returned (.agg #[.int .i64 (a - b'), .int .i64 (b - a')]) ∧ Later w w' := by
 go_enter Tryz.func199, Tryz.ntmps199
 go_wp2
 refine bodyPost_ret (v := .agg #[.int .i64 (a - b'), .int .i64 (b - a')]) (by simp [results, Tryz.results199, go_sem]) rfl ⟨rfl, ?_⟩
 exact qla
theorem w_difference (a b a' b' : Int) (h1 : -4000000000000000000 ≤ a) (h2 : a ≤ 4000000000000000000) (h3 : -4000000000000000000 ≤ b) (h4 : b ≤ 4000000000000000000) (h5 : -4000000000000000000 ≤ a') (h6 : a' ≤ 4000000000000000000) (h7 : -4000000000000000000 ≤ b') (h8 : b' ≤ 4000000000000000000) (w : World) :
 Calls Tryz.prog 146 #[.agg #[.int .i64 a, .int .i64 b], .agg #[.int .i64 a', .int .i64 b']] w fun e w' => e = .returned (.agg #[.int .i64 (a - b'), .int .i64 (b - a')]) ∧ Later w w' := by
 go_enter Tryz.func146, Tryz.ntmps146
 go_wp2
 refine bodyPost_ret (v := .agg #[.int .i64 (a - b'), .int .i64 (b - a')]) (by simp [results, Tryz.results146, go_sem]) rfl ⟨rfl, ?_⟩
 exact qla
set_option maxHeartbeats 1000000 in
theorem w_implChainLog0 (v : Value) (ts : List Trm) (w : World) (h : IsTrms w v ts) (hc : isChain ts = true) :
 Calls Tryz.prog 85 #[v] w fun e w' => e = .returned (.agg #[.int .i64 (chainLog0 ts).lo, .int .i64 (chainLog0 ts).hi]) ∧ Later w w' := by
 have HC := Lib.hid hc
 have h6 := (isChain_true hc).2.1
 clear hc
 obtain ⟨hxl1, hn1, a1, cap1, rfl, hcap1, hmax1, hrow1⟩ := h
 have HR1 := Lib.hid hrow1
 clear hrow1 hxl1
 go_enter Tryz.func85, Tryz.ntmps85
 go_wp2
 go_loopw [9] (fun i wr => ∃ k : Nat, k ≤ ts.length ∧ i = .int .i64 k ∧ Later w wr ∧ wr.heap[w.heap.size]? = some (.cells #[.int .i64 0, .int .i64 0] 55 (0, 0)) ∧ ∃ A B : Int, wr.heap[w.heap.size + 1]? = some (.cells #[.int .i64 A, .int .i64 B] 55 (0, 0)) ∧ Hid (chainLog0 (ts.take k) = ⟨A, B⟩) ∧ -33000000 * (k : Int) ≤ A ∧ A ≤ 33000000 * k ∧ -33000000 * (k : Int) ≤ B ∧ B ≤ 33000000 * k) (fun i _ => ts.length - (intOf i).toNat)
 case atStart => exact ⟨0, Nat.zero_le _, rfl, qla, heap_alloc_old _ _ (heap_alloc_new _ _), 0, 0, heap_alloc_new' _ _ (by simp), rfl, by decide, by decide, by decide, by decide⟩
 case round =>
  obtain ⟨k, hk, rfl, hL, hres, A, B, hout, HA, ha1, ha2, hb1, hb2⟩ := hrel
  have HRes := Lib.hid hres
  have HOut := Lib.hid hout
  by_cases hlt : k < ts.length
  · obtain ⟨cr, fr, zr⟩ := blk_at hres
    obtain ⟨co, fo, zo⟩ := blk_at hout
    clear hres hout
    obtain ⟨b1, off1, rfl, hr1⟩ := HR1.out (by omega)
    obtain ⟨t, ht1⟩ := get_ex (l := ts) (k := k) (by omega)
    have HT1 := Lib.hid ht1
    obtain ⟨c1_0, c1_1, c1_2⟩ := (hr1.later hL).trm ht1
    clear ht1
    have hbd := isChain_ok HC.out HT1.out
    obtain ⟨t1, t2, t3, t4⟩ := hbd
    have hfl := figLog_bd2 t1 t2 t3 t4
    obtain ⟨X, hX⟩ : ∃ X, (figLog t.f).lo = X := ⟨_, rfl⟩
    obtain ⟨Y, hY⟩ : ∃ Y, (figLog t.f).hi = Y := ⟨_, rfl⟩
    rw [hX, hY] at hfl
    obtain ⟨x1, x2, y1, y2⟩ := hfl
    have HX := Lib.hid hX
    have HY := Lib.hid hY
    clear hX hY
    cases hq : t.dv
    all_goals
     rw [hq] at c1_2
     have HQ := Lib.hid hq
     clear hq
     have t5 : -100 ≤ t.f.t := by omega
     have t6 : t.f.t ≤ 100 := by omega
     have eX : (figLog ⟨t.f.d, t.f.t⟩).lo = X := HX.out
     have eY : (figLog ⟨t.f.d, t.f.t⟩).hi = Y := HY.out
     have EX := Lib.hid eX
     have EY := Lib.hid eY
     clear eX eY
     go_wp2_with fail
     go_region_with (first | (go_at_call 147; refine (w_figureLog _ _ t1 t2 t5 t6 _).mono ?_; rintro e w1 ⟨rfl, hL1⟩; rw [EX.out, EY.out]; obtain ⟨co1, fo1, zo1⟩ := blk_at (hL1.keep (heap_alloc_old _ _ HOut.out))) | (go_at_call 148; refine (w_sum _ _ _ _ (by omega) (by omega) (by omega) (by omega) (by omega) (by omega) (by omega) (by omega) _).mono ?_; rintro e w2 ⟨rfl, hL2⟩; obtain ⟨co2, fo2, zo2⟩ := blk_at (hL2.keep (hL1.keep (heap_alloc_old _ _ HOut.out)))) | (go_at_call 146; refine (w_difference _ _ _ _ (by omega) (by omega) (by omega) (by omega) (by omega) (by omega) (by omega) (by omega) _).mono ?_; rintro e w2 ⟨rfl, hL2⟩; obtain ⟨co2, fo2, zo2⟩ := blk_at (hL2.keep (hL1.keep (heap_alloc_old _ _ HOut.out)))))
     all_goals
      have HR2 := Lib.hid (hL2.keep (hL1.keep (heap_alloc_old _ _ HRes.out)))
      have HO2 := Lib.hid (hL2.keep (hL1.keep (heap_alloc_old _ _ HOut.out)))
      go_wp2
      go_roundw
      case rel => first | exact ⟨k + 1, by omega, by go_num, qla, other_set (other_set HR2.out (by omega) _) (by omega) _, _, _, two_set HO2.out _ _, by rw [Hid, take_snoc' HT1.out, chainLog0_snoc, logStep_n HQ.out, HA.out, HX.out, HY.out], by omega, by omega, by omega, by omega⟩ | exact ⟨k + 1, by omega, by go_num, qla, other_set (other_set HR2.out (by omega) _) (by omega) _, _, _, two_set HO2.out _ _, by rw [Hid, take_snoc' HT1.out, chainLog0_snoc, logStep_y HQ.out, HA.out, HX.out, HY.out], by omega, by omega, by omega, by omega⟩
      case measure => simp [intOf]; omega
  · have hf : chainLog0 ts = ⟨A, B⟩ := by
     have := HA.out
     rwa [take_eq_all (by omega)] at this
    have HF := Lib.hid hf
    clear hf
    obtain ⟨cr, fr, zr⟩ := blk_at hres
    obtain ⟨co, fo, zo⟩ := blk_at hout
    clear hres hout
    go_wp2
    refine bodyPost_ret (v := .agg #[.int .i64 A, .int .i64 B]) (by simp [results, Tryz.results85, go_sem, cr, zr]) rfl ⟨by rw [HF.out], ?_⟩
    exact qla
end Go.Proofs.YtkoojngonldcbaaGreat
