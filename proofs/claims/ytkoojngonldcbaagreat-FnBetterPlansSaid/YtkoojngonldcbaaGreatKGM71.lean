/- DERIVED. Walks: spans and bounds of plans. -/
import Derived.Test.YtkoojngonldcbaaGreatKGM70
import Derived.Test.YtkoojngonldcbaaGreatKGM61
import Derived.Test.YtkoojngonldcbaaGreatKGM31
import Derived.Test.YtkoojngonldcbaaGreatKGM41
namespace Go.Proofs.YtkoojngonldcbaaGreat
set_option linter.unusedVariables false
set_option linter.unusedSimpArgs false
open Go.RowKit
set_option maxRecDepth 100000
theorem w_l01AbsB (x y : Int) (h1 : -1000000000000 ≤ x - y) (h2 : x - y ≤ 1000000000000) (w : World) :
 Calls Tryz.prog 140 #[.int .i64 (x - y)] w fun e w' => e = .returned (.int .i64 (max (x - y) (y - x))) ∧ w = w' := by
 have wD : IntKind.i64.wrap (-(x - y)) = -(x - y) := wrap_same (by omega) (by omega)
 go_enter Tryz.func140, Tryz.ntmps140
 go_wp2
 all_goals
  go_ret
  exact ⟨congrArg (fun t => Ending.returned (.int .i64 t)) (show _ = max (x - y) (y - x) from by omega), rfl⟩
theorem w_l02Error (a b c d : Int) (h : isFig ⟨a, b⟩ = true) (h' : isFig ⟨c, d⟩ = true) (w : World) :
 Calls Tryz.prog 214 #[.agg #[.int .i64 a, .int .i64 b], .agg #[.int .i64 c, .int .i64 d]] w fun e w' => e = .returned (.int .i64 (relE ⟨a, b⟩ ⟨c, d⟩)) ∧ Later w w' := by
 have q := isFig_bd h
 have q' := isFig_bd h'
 simp only at q q'
 obtain ⟨q1, q2, q3, q4⟩ := q
 obtain ⟨r1, r2, r3, r4⟩ := q'
 by_cases k1 : 1 < b - d
 · have HF := Lib.hid (show relE ⟨a, b⟩ ⟨c, d⟩ = 9000001 from by unfold relE; rw [if_pos (by simp only; omega)])
   clear h h'
   go_enter Tryz.func214, Tryz.ntmps214
   go_wp2
   go_ret
   exact ⟨by rw [HF.out]; rfl, qla⟩
 by_cases k2 : b - d < -6
 · have HF := Lib.hid (show relE ⟨a, b⟩ ⟨c, d⟩ = 1000000 from by unfold relE; rw [if_neg (by simp only; omega), if_pos (by simp only; omega)])
   clear h h'
   go_enter Tryz.func214, Tryz.ntmps214
   go_wp2
   go_ret
   exact ⟨by rw [HF.out]; rfl, qla⟩
 have hE : relE ⟨a, b⟩ ⟨c, d⟩ = relQ ⟨a, b⟩ ⟨c, d⟩ := by unfold relE; rw [if_neg (by simp only; omega), if_neg (by simp only; omega)]
 have hb := relQ_bd h h' (by simp only; omega) (by simp only; omega)
 have hN := relN_bd (a := ⟨a, b⟩) (b := ⟨c, d⟩) h (by simp only; omega)
 have hD := relD_bd (a := ⟨a, b⟩) (b := ⟨c, d⟩) h' (by simp only; omega)
 obtain ⟨V, hV⟩ : ∃ x, relQ ⟨a, b⟩ ⟨c, d⟩ = x := ⟨_, rfl⟩
 obtain ⟨T, hT⟩ : ∃ x, b - d = x := ⟨_, rfl⟩
 have eN : relN ⟨a, b⟩ ⟨c, d⟩ = a * p10 (max 0 T) := by rw [← hT]; rfl
 have eD : relD ⟨a, b⟩ ⟨c, d⟩ = c * p10 (max 0 (-T)) := by rw [show -T = d - b by omega]; rfl
 obtain ⟨N, hNe⟩ : ∃ x, relN ⟨a, b⟩ ⟨c, d⟩ = x := ⟨_, rfl⟩
 obtain ⟨D, hDe⟩ : ∃ x, relD ⟨a, b⟩ ⟨c, d⟩ = x := ⟨_, rfl⟩
 have HQ := Lib.hid (show cdiv (1000000 * max (N - D) (D - N)) D = V from by rw [← hNe, ← hDe, ← hV]; rfl)
 have HF := Lib.hid (hE.trans hV)
 rw [hV] at hb
 rw [hNe] at hN eN
 rw [hDe] at hD eD
 rw [hT] at k1 k2
 obtain ⟨b1, b2⟩ := hb
 obtain ⟨n1, n2⟩ := hN
 obtain ⟨d1, d2⟩ := hD
 clear hE hV hNe hDe h h'
 have wD : IntKind.i64.wrap (b - d) = T := by rw [hT]; exact wrap_same (by omega) (by omega)
 have wE : IntKind.i64.wrap (N - D) = N - D := wrap_same (by omega) (by omega)
 have wG : IntKind.i64.wrap (1000000 * max (N - D) (D - N)) = 1000000 * max (N - D) (D - N) := wrap_big (by omega) (by omega)
 by_cases hs : 0 < T
 · have HD := Lib.hid (show c = D from by rw [eD, show max 0 (-T) = 0 by omega, p10_0]; omega)
   have wN : IntKind.i64.wrap (a * p10 T) = N := by rw [show a * p10 T = N by rw [eN, show max 0 T = T by omega]]; exact wrap_same (by omega) (by omega)
   clear eN eD hT
   have hcD := HD.out
   subst hcD
   go_enter Tryz.func214, Tryz.ntmps214
   go_wp2
   go_quiet (fail)
   go_wp2_with fail
   refine (w_l01Ten _ (by omega) (by omega) _).mono ?_
   rintro e w3 ⟨rfl, rfl⟩
   go_wp2_with fail
   refine (w_l01AbsB N c (by omega) (by omega) _).mono ?_
   rintro e w5 ⟨rfl, rfl⟩
   go_wp2_with fail
   refine (w_l01Ceil _ _ (by omega) (by omega) (by omega) (by omega) _).mono ?_
   rintro e w4 ⟨rfl, rfl⟩
   rw [HQ.out]
   go_wp2
   go_ret
   exact ⟨by rw [HF.out]; rfl, qla⟩
 · have HN := Lib.hid (show a = N from by rw [eN, show max 0 T = 0 by omega, p10_0]; omega)
   have wN : IntKind.i64.wrap (c * p10 (-T)) = D := by rw [show c * p10 (-T) = D by rw [eD, show max 0 (-T) = -T by omega]]; exact wrap_same (by omega) (by omega)
   have wM : IntKind.i64.wrap (-T) = -T := wrap_same (by omega) (by omega)
   clear eN eD hT
   have haN := HN.out
   subst haN
   go_enter Tryz.func214, Tryz.ntmps214
   go_wp2
   go_quiet (fail)
   go_wp2_with fail
   refine (w_l01Ten _ (by omega) (by omega) _).mono ?_
   rintro e w3 ⟨rfl, rfl⟩
   go_wp2_with fail
   refine (w_l01AbsB a D (by omega) (by omega) _).mono ?_
   rintro e w5 ⟨rfl, rfl⟩
   go_wp2_with fail
   refine (w_l01Ceil _ _ (by omega) (by omega) (by omega) (by omega) _).mono ?_
   rintro e w4 ⟨rfl, rfl⟩
   rw [HQ.out]
   go_wp2
   go_ret
   exact ⟨by rw [HF.out]; rfl, qla⟩
theorem w_specRelativeError (a b c d : Int) (h : isFig ⟨a, b⟩ = true) (h' : isFig ⟨c, d⟩ = true) (w : World) :
 Calls Tryz.prog 197 #[.agg #[.int .i64 a, .int .i64 b], .agg #[.int .i64 c, .int .i64 d]] w fun e w' => e = .returned (.tuple #[.int .i64 (relV ⟨a, b⟩ ⟨c, d⟩), .int .i64 (relC ⟨a, b⟩ ⟨c, d⟩)]) ∧ Later w w' := by
 obtain ⟨V, hV⟩ : ∃ x, relE ⟨a, b⟩ ⟨c, d⟩ = x := ⟨_, rfl⟩
 have HV := Lib.hid hV
 have HA := Lib.hid h
 have HB := Lib.hid h'
 have HT := Lib.hid (show (isFig ⟨a, b⟩ && isFig ⟨c, d⟩) = true from by rw [h, h']; rfl)
 by_cases hv : 9000000 < V
 · have HF := Lib.hid (show relV ⟨a, b⟩ ⟨c, d⟩ = 0 ∧ relC ⟨a, b⟩ ⟨c, d⟩ = 3 from by unfold relV relC; rw [hV, if_pos hv, if_pos hv]; exact ⟨rfl, rfl⟩)
   clear hV h h'
   go_enter Tryz.func197, Tryz.ntmps197
   go_wp2_with fail
   refine (w_l02Two _ _ _ _ _).mono ?_
   rintro e w1 ⟨rfl, hL⟩
   rw [HT.out]
   have HL := Lib.hid ((((Later.refl w).alloc _).alloc _).trans hL)
   obtain ⟨⟨c0, f0, z0⟩, ⟨c1, f1, z1⟩⟩ := blk2 hL
   clear hL
   go_wp2_with fail
   refine (w_l02Error _ _ _ _ HA.out HB.out _).mono ?_
   rintro e w2 ⟨rfl, hL2⟩
   rw [HV.out]
   go_wp2
   go_ret2
   exact ⟨by rw [HF.out.1, HF.out.2]; rfl, HL.out.trans hL2⟩
 · have HF := Lib.hid (show relV ⟨a, b⟩ ⟨c, d⟩ = V ∧ relC ⟨a, b⟩ ⟨c, d⟩ = 0 from by unfold relV relC; rw [hV, if_neg hv, if_neg hv]; exact ⟨rfl, rfl⟩)
   clear hV h h'
   go_enter Tryz.func197, Tryz.ntmps197
   go_wp2_with fail
   refine (w_l02Two _ _ _ _ _).mono ?_
   rintro e w1 ⟨rfl, hL⟩
   rw [HT.out]
   have HL := Lib.hid ((((Later.refl w).alloc _).alloc _).trans hL)
   obtain ⟨⟨c0, f0, z0⟩, ⟨c1, f1, z1⟩⟩ := blk2 hL
   clear hL
   go_wp2_with fail
   refine (w_l02Error _ _ _ _ HA.out HB.out _).mono ?_
   rintro e w2 ⟨rfl, hL2⟩
   rw [HV.out]
   go_wp2
   go_ret2
   exact ⟨by rw [HF.out.1, HF.out.2]; rfl, HL.out.trans hL2⟩
theorem w_specSpanError (a b c d : Int) (h : isFig ⟨a, b⟩ = true) (h' : isFig ⟨c, d⟩ = true) (hk : keyF ⟨a, b⟩ ≤ keyF ⟨c, d⟩) (w : World) :
 Calls Tryz.prog 159 #[.agg #[.int .i64 a, .int .i64 b], .agg #[.int .i64 c, .int .i64 d]] w fun e w' => e = .returned (.tuple #[.int .i64 (relV ⟨c, d⟩ ⟨a, b⟩), .int .i64 (relC ⟨c, d⟩ ⟨a, b⟩)]) ∧ Later w w' := by
 have HA := Lib.hid h
 have HB := Lib.hid h'
 have HT := Lib.hid (show (isFig ⟨a, b⟩ && isFig ⟨c, d⟩) = true from by rw [h, h']; rfl)
 obtain ⟨K, hK⟩ : ∃ x, cmpF ⟨c, d⟩ ⟨a, b⟩ = x := ⟨_, rfl⟩
 have hK0 : ¬ K < 0 := by
  rw [← hK]
  intro q
  have := cmpF_lt.1 q
  omega
 have HK := Lib.hid hK
 clear h h' hk hK
 go_enter Tryz.func159, Tryz.ntmps159
 go_wp2_with fail
 refine (w_l02Two _ _ _ _ _).mono ?_
 rintro e w1 ⟨rfl, hL⟩
 rw [HT.out]
 have HL := Lib.hid ((((Later.refl w).alloc _).alloc _).trans hL)
 obtain ⟨K0, K1⟩ := kept2 hL
 have HK0 := Lib.hid K0
 have HK1 := Lib.hid K1
 obtain ⟨c0, f0, z0⟩ := blk_at HK0.out
 obtain ⟨c1, f1, z1⟩ := blk_at HK1.out
 clear hL K0 K1
 go_wp2_with fail
 refine (w_l02Compare _ _ _ _ HB.out HA.out _).mono ?_
 rintro e w2 ⟨rfl, hL2⟩
 rw [HK.out]
 have HL2 := Lib.hid (HL.out.trans hL2)
 obtain ⟨c2, f2, z2⟩ := blk_at (hL2.keep HK0.out)
 obtain ⟨c3, f3, z3⟩ := blk_at (hL2.keep HK1.out)
 clear hL2
 go_wp2_with fail
 refine (w_specRelativeError _ _ _ _ HB.out HA.out _).mono ?_
 rintro e w3 ⟨rfl, hL3⟩
 go_wp2
 go_ret2
 exact ⟨rfl, HL2.out.trans hL3⟩
theorem w_spread (lo hi un : Int) (h1 : -1000000000 ≤ lo) (h2 : lo ≤ 1000000000) (h3 : -1000000000 ≤ hi) (h4 : hi ≤ 1000000000) (h5 : 0 ≤ un) (h6 : un ≤ 20000000000) (w : World) :
 Calls Tryz.prog 161 #[.agg #[.int .i64 lo, .int .i64 hi], .int .i64 un] w fun e w' => e = .returned (.agg #[.int .i64 (lo - un), .int .i64 (hi + un)]) ∧ Later w w' := by
 have wD : IntKind.i64.wrap (lo - un) = lo - un := wrap_same (by omega) (by omega)
 have wE : IntKind.i64.wrap (hi + un) = hi + un := wrap_same (by omega) (by omega)
 go_enter Tryz.func161, Tryz.ntmps161
 go_wp2
 refine bodyPost_ret (v := .agg #[.int .i64 (lo - un), .int .i64 (hi + un)]) (by simp [results, Tryz.results161, go_sem]) rfl ⟨rfl, qla⟩
set_option maxHeartbeats 4000000 in
theorem w_planSpan0 (n : Int) (u v y : Value) (st sd : List Int) (c : List Trm) (ea eb ec : Int) (w : World) (h : IsNums w u st) (h' : IsNums w v sd) (hy : IsTrms w y c) (hC : hasI st 0 = true ∧ hasI sd 0 = true) (hc : isChain c = true) (he : isErs ⟨ea, eb, ec⟩ = true) (h1 : 1 ≤ n) (h2 : n ≤ 100000) (S : Itv) (hS : resI c (unP n c ⟨ea, eb, ec⟩) = S) :
 Calls Tryz.prog 100 #[.agg #[.int .i64 n, u, v], y, .agg #[.int .i64 ea, .int .i64 eb, .int .i64 ec]] w fun e w' => e = .returned (.tuple #[.agg #[.int .i64 (spanL S).d, .int .i64 (spanL S).t], .agg #[.int .i64 (spanH S).d, .int .i64 (spanH S).t], .int .i64 (spanC S)]) ∧ Later w w' := by
 have H := Lib.hid h
 have H' := Lib.hid h'
 have HY := Lib.hid hy
 obtain ⟨_, _, au, capu, rfl, _, _, _⟩ := h
 obtain ⟨_, _, av, capv, rfl, _, _, _⟩ := h'
 obtain ⟨_, _, ay, capy, rfl, _, _, _⟩ := hy
 have h17 := planL_len (r := ⟨n, st, sd⟩) hC hc
 have hub := unP_bd (c := c) he h1 h17
 have hab := chainLog0_bd hc
 obtain ⟨A, hA⟩ : ∃ x, chainLog0 c = x := ⟨_, rfl⟩
 obtain ⟨U, hU⟩ : ∃ x, unP n c ⟨ea, eb, ec⟩ = x := ⟨_, rfl⟩
 have HS := Lib.hid (show S = ⟨A.lo - U, A.hi + U⟩ from by rw [← hS, ← hA, ← hU]; rfl)
 rw [hA] at hab
 rw [hU] at hub
 obtain ⟨m1, m2⟩ := hub
 obtain ⟨p1, p2, p3, p4⟩ := hab
 have HA := Lib.hid hA
 have HU := Lib.hid hU
 have HC := Lib.hid hC
 have HCh := Lib.hid hc
 have HE := Lib.hid he
 clear hC hc he hA hU hS h17
 go_enter Tryz.func100, Tryz.ntmps100
 go_wp2_with fail
 refine wp_name ?_
 intro z hz
 have hL0 : Later w z := by rw [hz]; exact ((((Later.refl _).alloc _).alloc _).alloc _).alloc _
 have hSB := hL0.size
 have Kr : z.heap[w.heap.size]? = some (.cells #[.int .i64 n, .slice au st.length capu, .slice av sd.length capv] 26 (0, 0)) := by rw [hz]; exact heap_alloc_old _ _ (heap_alloc_old _ _ (heap_alloc_old _ _ (heap_alloc_new _ _)))
 have Ke : z.heap[w.heap.size + 1]? = some (.cells #[.int .i64 ea, .int .i64 eb, .int .i64 ec] 60 (0, 0)) := by rw [hz]; exact heap_alloc_old _ _ (heap_alloc_old _ _ (heap_alloc_new' _ _ (by simp)))
 have K2 : z.heap[w.heap.size + 1 + 1]? = some (.cells #[.int .i64 0, .int .i64 0] 46 (0, 0)) := by rw [hz]; exact heap_alloc_old _ _ (heap_alloc_new' _ _ (by simp))
 have K3 : z.heap[w.heap.size + 1 + 1 + 1]? = some (.cells #[.int .i64 0, .int .i64 0] 46 (0, 0)) := by rw [hz]; exact heap_alloc_new' _ _ (by simp)
 have lt3 := (Array.getElem?_eq_some_iff.1 K3).1
 clear hz
 have Kfa := K2
 have Kfb := K3
 have hRBfa : w.heap.size ≤ w.heap.size + 1 + 1 := by omega
 have hRBfb : w.heap.size ≤ w.heap.size + 1 + 1 + 1 := by omega
 clear K2 K3
 refine region_slots 20 [9, 10, 11, 12, 13, 14, 15, 16, 17, 18, 19, 8] (fun g ac wc => sl ac 1 = .slice ay c.length capy ∧
  sl ac 3 = .pointer (some ⟨w.heap.size, 0, none⟩) ∧
  sl ac 5 = .pointer (some ⟨w.heap.size + 1, 0, none⟩) ∧
  sl ac 6 = .pointer (some ⟨w.heap.size + 1 + 1, 0, none⟩) ∧
  sl ac 7 = .pointer (some ⟨w.heap.size + 1 + 1 + 1, 0, none⟩) ∧
  (g 0 = true → sl ac 9 = .slice ay c.length capy) ∧
  (g 1 = true → sl ac 10 = .agg #[.int .i64 A.lo, .int .i64 A.hi]) ∧
  (g 2 = true → sl ac 11 = .agg #[.int .i64 n, .slice au st.length capu, .slice av sd.length capv]) ∧
  (g 3 = true → sl ac 12 = .slice ay c.length capy) ∧
  (g 4 = true → sl ac 13 = .agg #[.int .i64 ea, .int .i64 eb, .int .i64 ec]) ∧
  (g 5 = true → sl ac 14 = .int .i64 U) ∧
  (g 6 = true → sl ac 15 = .agg #[.int .i64 (A.lo - U), .int .i64 (A.hi + U)]) ∧
  (g 7 = true → sl ac 16 = .tuple #[.agg #[.int .i64 (spanL ⟨A.lo - U, A.hi + U⟩).d, .int .i64 (spanL ⟨A.lo - U, A.hi + U⟩).t], .agg #[.int .i64 (spanH ⟨A.lo - U, A.hi + U⟩).d, .int .i64 (spanH ⟨A.lo - U, A.hi + U⟩).t], .int .i64 (spanC ⟨A.lo - U, A.hi + U⟩)]) ∧
  (g 8 = true → sl ac 17 = .agg #[.int .i64 (spanL ⟨A.lo - U, A.hi + U⟩).d, .int .i64 (spanL ⟨A.lo - U, A.hi + U⟩).t]) ∧
  (g 9 = true → sl ac 18 = .agg #[.int .i64 (spanH ⟨A.lo - U, A.hi + U⟩).d, .int .i64 (spanH ⟨A.lo - U, A.hi + U⟩).t]) ∧
  (g 10 = true → sl ac 19 = .int .i64 (spanC ⟨A.lo - U, A.hi + U⟩)) ∧
  (g 13 = true → sl ac 8 = .int .i64 (spanC ⟨A.lo - U, A.hi + U⟩)) ∧
  Later w wc ∧
  z.heap.size ≤ wc.heap.size ∧
  wc.heap[w.heap.size]? = some (.cells #[.int .i64 n, .slice au st.length capu, .slice av sd.length capv] 26 (0, 0)) ∧
  wc.heap[w.heap.size + 1]? = some (.cells #[.int .i64 ea, .int .i64 eb, .int .i64 ec] 60 (0, 0)) ∧
  (∃ fa0 fa1, wc.heap[w.heap.size + 1 + 1]? = some (.cells #[fa0, fa1] 46 (0, 0)) ∧ (g 11 = true → fa0 = .int .i64 (spanL ⟨A.lo - U, A.hi + U⟩).d ∧ fa1 = .int .i64 (spanL ⟨A.lo - U, A.hi + U⟩).t)) ∧
  (∃ fb0 fb1, wc.heap[w.heap.size + 1 + 1 + 1]? = some (.cells #[fb0, fb1] 46 (0, 0)) ∧ (g 12 = true → fb0 = .int .i64 (spanH ⟨A.lo - U, A.hi + U⟩).d ∧ fb1 = .int .i64 (spanH ⟨A.lo - U, A.hi + U⟩).t))) (by kernel_rfl) (by kernel_rfl) rfl (by kernel_rfl) ?_ ?_ ?_
 · exact ⟨rfl, rfl, rfl, rfl, rfl, nofun, nofun, nofun, nofun, nofun, nofun, nofun, nofun, nofun, nofun, nofun, nofun, hL0.drew, Nat.le_refl _, Kr, Ke, ⟨_, _, Kfa, nofun⟩, ⟨_, _, Kfb, nofun⟩⟩
 · intro g ac wu hg ha hI
   obtain ⟨x1, x3, x5, x6, x7, i0, i1, i2, i3, i4, i5, i6, i7, i8, i9, i10, i13, hL, hS, Br, Be, Rfa, Rfb⟩ := hI
   have a0 := i0 (hg 0 (by simp))
   have a1 := i1 (hg 1 (by simp))
   have a2 := i2 (hg 2 (by simp))
   have a3 := i3 (hg 3 (by simp))
   have a4 := i4 (hg 4 (by simp))
   have a5 := i5 (hg 5 (by simp))
   have a6 := i6 (hg 6 (by simp))
   have a7 := i7 (hg 7 (by simp))
   have a8 := i8 (hg 8 (by simp))
   have a9 := i9 (hg 9 (by simp))
   have a10 := i10 (hg 10 (by simp))
   have a13 := i13 (hg 13 (by simp))
   obtain ⟨fa0, fa1, Kfa, gr⟩ := Rfa
   have gr := gr (hg 11 (by simp))
   rw [gr.1, gr.2] at Kfa
   clear gr
   obtain ⟨fb0, fb1, Kfb, gr⟩ := Rfb
   have gr := gr (hg 12 (by simp))
   rw [gr.1, gr.2] at Kfb
   clear gr
   simp only [putAll, a0, a1, a2, a3, a4, a5, a6, a7, a8, a9, a10, a13] at ha
   simp only [Act.put, List.setIfInBounds_toArray, List.set_cons_succ, List.set_cons_zero] at ha
   rw [ha]
   clear x1 x3 x5 x6 x7 i0 i1 i2 i3 i4 i5 i6 i7 i8 i9 i10 i13 a0 a1 a2 a3 a4 a5 a6 a7 a8 a9 a10 a13 hg ha
   have c0 := (blk_at Kfa).1
   have y0 := (blk_at Kfa).2.2
   have c1 := (blk_at Kfb).1
   have y1 := (blk_at Kfb).2.2
   go_wp2
   refine bodyPost_ret (v := .tuple #[.agg #[.int .i64 (spanL ⟨A.lo - U, A.hi + U⟩).d, .int .i64 (spanL ⟨A.lo - U, A.hi + U⟩).t], .agg #[.int .i64 (spanH ⟨A.lo - U, A.hi + U⟩).d, .int .i64 (spanH ⟨A.lo - U, A.hi + U⟩).t], .int .i64 (spanC ⟨A.lo - U, A.hi + U⟩)]) (by simp [results, Tryz.results100, go_sem, c0, y0, c1, y1]) rfl ⟨by rw [HS.out], hL⟩
 · refine .cons ?_ (.cons ?_ (.cons ?_ (.cons ?_ (.cons ?_ (.cons ?_ (.cons ?_ (.cons ?_ (.cons ?_ (.cons ?_ (.cons ?_ (.cons ?_ (.cons ?_ (.cons ?_ .nil)))))))))))))
   · refine qst fun g ac wc hn hk hr HI K' hK => ?_
     obtain ⟨x1, x3, x5, x6, x7, -, -, -, -, -, -, -, -, -, -, -, -, hL, hS, Br, Be, Rfa, Rfb⟩ := HI.out
     simp [Region.binds] at hr
     go_simp
     obtain ⟨-, -, -, -, -, i0, i1, i2, i3, i4, i5, i6, i7, i8, i9, i10, i13, -⟩ := HI.out
     exact hK.out _ _ ⟨qB x1, qB x3, qB x5, qB x6, qB x7, qP, qF i1, qF i2, qF i3, qF i4, qF i5, qF i6, qF i7, qF i8, qF i9, qF i10, qF i13, hL, hS, Br, Be, Rfa, Rfb⟩
   · refine qst fun g ac wc hn hk hr HI K' hK => ?_
     obtain ⟨x1, x3, x5, x6, x7, i0, -, -, -, -, -, -, -, -, -, -, -, hL, hS, Br, Be, Rfa, Rfb⟩ := HI.out
     simp [Region.binds] at hr
     have y0 := i0 (by simp [hr])
     clear i0
     go_simp
     refine (w_implChainLog0 _ _ _ (HY.out.later hL) HCh.out).mono ?_
     rintro e w4 ⟨rfl, hL4⟩
     rw [HA.out]
     obtain ⟨-, -, -, -, -, i0, i1, i2, i3, i4, i5, i6, i7, i8, i9, i10, i13, -⟩ := HI.out
     exact hK.out _ _ ⟨qB x1, qB x3, qB x5, qB x6, qB x7, qF i0, qP, qF i2, qF i3, qF i4, qF i5, qF i6, qF i7, qF i8, qF i9, qF i10, qF i13, hL.trans hL4, Nat.le_trans hS hL4.size, hL4.keep Br, hL4.keep Be, (by obtain ⟨fa0, fa1, R1, R2⟩ := Rfa; exact ⟨fa0, fa1, hL4.keep R1, R2⟩), (by obtain ⟨fb0, fb1, R1, R2⟩ := Rfb; exact ⟨fb0, fb1, hL4.keep R1, R2⟩)⟩
   · refine qst fun g ac wc hn hk hr HI K' hK => ?_
     obtain ⟨x1, x3, x5, x6, x7, -, -, -, -, -, -, -, -, -, -, -, -, hL, hS, Br, Be, Rfa, Rfb⟩ := HI.out
     simp [Region.binds] at hr
     obtain ⟨c0, f0, z0⟩ := blk_at Br
     go_simp
     obtain ⟨-, -, -, -, -, i0, i1, i2, i3, i4, i5, i6, i7, i8, i9, i10, i13, -⟩ := HI.out
     exact hK.out _ _ ⟨qB x1, qB x3, qB x5, qB x6, qB x7, qF i0, qF i1, qP, qF i3, qF i4, qF i5, qF i6, qF i7, qF i8, qF i9, qF i10, qF i13, hL, hS, Br, Be, Rfa, Rfb⟩
   · refine qst fun g ac wc hn hk hr HI K' hK => ?_
     obtain ⟨x1, x3, x5, x6, x7, -, -, -, -, -, -, -, -, -, -, -, -, hL, hS, Br, Be, Rfa, Rfb⟩ := HI.out
     simp [Region.binds] at hr
     go_simp
     obtain ⟨-, -, -, -, -, i0, i1, i2, i3, i4, i5, i6, i7, i8, i9, i10, i13, -⟩ := HI.out
     exact hK.out _ _ ⟨qB x1, qB x3, qB x5, qB x6, qB x7, qF i0, qF i1, qF i2, qP, qF i4, qF i5, qF i6, qF i7, qF i8, qF i9, qF i10, qF i13, hL, hS, Br, Be, Rfa, Rfb⟩
   · refine qst fun g ac wc hn hk hr HI K' hK => ?_
     obtain ⟨x1, x3, x5, x6, x7, -, -, -, -, -, -, -, -, -, -, -, -, hL, hS, Br, Be, Rfa, Rfb⟩ := HI.out
     simp [Region.binds] at hr
     obtain ⟨c0, f0, z0⟩ := blk_at Be
     go_simp
     obtain ⟨-, -, -, -, -, i0, i1, i2, i3, i4, i5, i6, i7, i8, i9, i10, i13, -⟩ := HI.out
     exact hK.out _ _ ⟨qB x1, qB x3, qB x5, qB x6, qB x7, qF i0, qF i1, qF i2, qF i3, qP, qF i5, qF i6, qF i7, qF i8, qF i9, qF i10, qF i13, hL, hS, Br, Be, Rfa, Rfb⟩
   · refine qst fun g ac wc hn hk hr HI K' hK => ?_
     obtain ⟨x1, x3, x5, x6, x7, -, -, i2, i3, i4, -, -, -, -, -, -, -, hL, hS, Br, Be, Rfa, Rfb⟩ := HI.out
     simp [Region.binds] at hr
     have y2 := i2 (by simp [hr])
     have y3 := i3 (by simp [hr])
     have y4 := i4 (by simp [hr])
     clear i2 i3 i4
     go_simp
     refine (w_planUnits0 _ _ _ _ _ _ _ _ _ _ _ (H.out.later hL) (H'.out.later hL) (HY.out.later hL) HC.out HCh.out HE.out h1 h2).mono ?_
     rintro e w4 ⟨rfl, hL4⟩
     rw [HU.out]
     obtain ⟨-, -, -, -, -, i0, i1, i2, i3, i4, i5, i6, i7, i8, i9, i10, i13, -⟩ := HI.out
     exact hK.out _ _ ⟨qB x1, qB x3, qB x5, qB x6, qB x7, qF i0, qF i1, qF i2, qF i3, qF i4, qP, qF i6, qF i7, qF i8, qF i9, qF i10, qF i13, hL.trans hL4, Nat.le_trans hS hL4.size, hL4.keep Br, hL4.keep Be, (by obtain ⟨fa0, fa1, R1, R2⟩ := Rfa; exact ⟨fa0, fa1, hL4.keep R1, R2⟩), (by obtain ⟨fb0, fb1, R1, R2⟩ := Rfb; exact ⟨fb0, fb1, hL4.keep R1, R2⟩)⟩
   · refine qst fun g ac wc hn hk hr HI K' hK => ?_
     obtain ⟨x1, x3, x5, x6, x7, -, i1, -, -, -, i5, -, -, -, -, -, -, hL, hS, Br, Be, Rfa, Rfb⟩ := HI.out
     simp [Region.binds] at hr
     have y1 := i1 (by simp [hr])
     have y5 := i5 (by simp [hr])
     clear i1 i5
     go_simp
     refine (w_spread _ _ _ (by omega) (by omega) (by omega) (by omega) (by omega) (by omega) _).mono ?_
     rintro e w4 ⟨rfl, hL4⟩
     obtain ⟨-, -, -, -, -, i0, i1, i2, i3, i4, i5, i6, i7, i8, i9, i10, i13, -⟩ := HI.out
     exact hK.out _ _ ⟨qB x1, qB x3, qB x5, qB x6, qB x7, qF i0, qF i1, qF i2, qF i3, qF i4, qF i5, qP, qF i7, qF i8, qF i9, qF i10, qF i13, hL.trans hL4, Nat.le_trans hS hL4.size, hL4.keep Br, hL4.keep Be, (by obtain ⟨fa0, fa1, R1, R2⟩ := Rfa; exact ⟨fa0, fa1, hL4.keep R1, R2⟩), (by obtain ⟨fb0, fb1, R1, R2⟩ := Rfb; exact ⟨fb0, fb1, hL4.keep R1, R2⟩)⟩
   · refine qst fun g ac wc hn hk hr HI K' hK => ?_
     obtain ⟨x1, x3, x5, x6, x7, -, -, -, -, -, -, i6, -, -, -, -, -, hL, hS, Br, Be, Rfa, Rfb⟩ := HI.out
     simp [Region.binds] at hr
     have y6 := i6 (by simp [hr])
     clear i6
     go_simp
     refine (w_spanOf _ _ _).mono ?_
     rintro e w4 ⟨rfl, hL4⟩
     obtain ⟨-, -, -, -, -, i0, i1, i2, i3, i4, i5, i6, i7, i8, i9, i10, i13, -⟩ := HI.out
     exact hK.out _ _ ⟨qB x1, qB x3, qB x5, qB x6, qB x7, qF i0, qF i1, qF i2, qF i3, qF i4, qF i5, qF i6, qP, qF i8, qF i9, qF i10, qF i13, hL.trans hL4, Nat.le_trans hS hL4.size, hL4.keep Br, hL4.keep Be, (by obtain ⟨fa0, fa1, R1, R2⟩ := Rfa; exact ⟨fa0, fa1, hL4.keep R1, R2⟩), (by obtain ⟨fb0, fb1, R1, R2⟩ := Rfb; exact ⟨fb0, fb1, hL4.keep R1, R2⟩)⟩
   · refine qst fun g ac wc hn hk hr HI K' hK => ?_
     obtain ⟨x1, x3, x5, x6, x7, -, -, -, -, -, -, -, i7, -, -, -, -, hL, hS, Br, Be, Rfa, Rfb⟩ := HI.out
     simp [Region.binds] at hr
     have y7 := i7 (by simp [hr])
     clear i7
     go_simp
     obtain ⟨-, -, -, -, -, i0, i1, i2, i3, i4, i5, i6, i7, i8, i9, i10, i13, -⟩ := HI.out
     exact hK.out _ _ ⟨qB x1, qB x3, qB x5, qB x6, qB x7, qF i0, qF i1, qF i2, qF i3, qF i4, qF i5, qF i6, qF i7, qP, qF i9, qF i10, qF i13, hL, hS, Br, Be, Rfa, Rfb⟩
   · refine qst fun g ac wc hn hk hr HI K' hK => ?_
     obtain ⟨x1, x3, x5, x6, x7, -, -, -, -, -, -, -, i7, -, -, -, -, hL, hS, Br, Be, Rfa, Rfb⟩ := HI.out
     simp [Region.binds] at hr
     have y7 := i7 (by simp [hr])
     clear i7
     go_simp
     obtain ⟨-, -, -, -, -, i0, i1, i2, i3, i4, i5, i6, i7, i8, i9, i10, i13, -⟩ := HI.out
     exact hK.out _ _ ⟨qB x1, qB x3, qB x5, qB x6, qB x7, qF i0, qF i1, qF i2, qF i3, qF i4, qF i5, qF i6, qF i7, qF i8, qP, qF i10, qF i13, hL, hS, Br, Be, Rfa, Rfb⟩
   · refine qst fun g ac wc hn hk hr HI K' hK => ?_
     obtain ⟨x1, x3, x5, x6, x7, -, -, -, -, -, -, -, i7, -, -, -, -, hL, hS, Br, Be, Rfa, Rfb⟩ := HI.out
     simp [Region.binds] at hr
     have y7 := i7 (by simp [hr])
     clear i7
     go_simp
     obtain ⟨-, -, -, -, -, i0, i1, i2, i3, i4, i5, i6, i7, i8, i9, i10, i13, -⟩ := HI.out
     exact hK.out _ _ ⟨qB x1, qB x3, qB x5, qB x6, qB x7, qF i0, qF i1, qF i2, qF i3, qF i4, qF i5, qF i6, qF i7, qF i8, qF i9, qP, qF i13, hL, hS, Br, Be, Rfa, Rfb⟩
   · refine qst fun g ac wc hn hk hr HI K' hK => ?_
     obtain ⟨x1, x3, x5, x6, x7, -, -, -, -, -, -, -, -, i8, -, -, -, hL, hS, Br, Be, Rfa, Rfb⟩ := HI.out
     simp [Region.binds] at hr
     have y8 := i8 (by simp [hr])
     clear i8
     obtain ⟨fa0, fa1, R1, -⟩ := Rfa
     obtain ⟨c0, f0, z0⟩ := blk_at R1
     go_simp
     obtain ⟨-, -, -, -, -, i0, i1, i2, i3, i4, i5, i6, i7, i8, i9, i10, i13, -⟩ := HI.out
     exact hK.out undef _ ⟨x1, x3, x5, x6, x7, i0, i1, i2, i3, i4, i5, i6, i7, i8, i9, i10, i13, ((hL.setCell hRBfa _).setCell hRBfa _), (by simp; omega), (other_set (other_set Br (by omega) _) (by omega) _), (other_set (other_set Be (by omega) _) (by omega) _), ⟨_, _, two_set R1 _ _, fun _ => ⟨rfl, rfl⟩⟩, (by obtain ⟨fb0, fb1, S1, S2⟩ := Rfb; exact ⟨fb0, fb1, (other_set (other_set S1 (by omega) _) (by omega) _), S2⟩)⟩
   · refine qst fun g ac wc hn hk hr HI K' hK => ?_
     obtain ⟨x1, x3, x5, x6, x7, -, -, -, -, -, -, -, -, -, i9, -, -, hL, hS, Br, Be, Rfa, Rfb⟩ := HI.out
     simp [Region.binds] at hr
     have y9 := i9 (by simp [hr])
     clear i9
     obtain ⟨fb0, fb1, R1, -⟩ := Rfb
     obtain ⟨c0, f0, z0⟩ := blk_at R1
     go_simp
     obtain ⟨-, -, -, -, -, i0, i1, i2, i3, i4, i5, i6, i7, i8, i9, i10, i13, -⟩ := HI.out
     exact hK.out undef _ ⟨x1, x3, x5, x6, x7, i0, i1, i2, i3, i4, i5, i6, i7, i8, i9, i10, i13, ((hL.setCell hRBfb _).setCell hRBfb _), (by simp; omega), (other_set (other_set Br (by omega) _) (by omega) _), (other_set (other_set Be (by omega) _) (by omega) _), (by obtain ⟨fa0, fa1, S1, S2⟩ := Rfa; exact ⟨fa0, fa1, (other_set (other_set S1 (by omega) _) (by omega) _), S2⟩), ⟨_, _, two_set R1 _ _, fun _ => ⟨rfl, rfl⟩⟩⟩
   · refine qst fun g ac wc hn hk hr HI K' hK => ?_
     obtain ⟨x1, x3, x5, x6, x7, -, -, -, -, -, -, -, -, -, -, i10, -, hL, hS, Br, Be, Rfa, Rfb⟩ := HI.out
     simp [Region.binds] at hr
     have y10 := i10 (by simp [hr])
     clear i10
     go_simp
     obtain ⟨-, -, -, -, -, i0, i1, i2, i3, i4, i5, i6, i7, i8, i9, i10, i13, -⟩ := HI.out
     exact hK.out _ _ ⟨qB x1, qB x3, qB x5, qB x6, qB x7, qF i0, qF i1, qF i2, qF i3, qF i4, qF i5, qF i6, qF i7, qF i8, qF i9, qF i10, qP, hL, hS, Br, Be, Rfa, Rfb⟩
set_option maxHeartbeats 4000000 in
theorem w_l15Span0 (n : Int) (u v y : Value) (st sd : List Int) (c : List Trm) (ea eb ec : Int) (w : World) (h : IsNums w u st) (h' : IsNums w v sd) (hy : IsTrms w y c) (hC : hasI st 0 = true ∧ hasI sd 0 = true) (hc : isChain c = true) (he : isErs ⟨ea, eb, ec⟩ = true) (h1 : 1 ≤ n) (h2 : n ≤ 100000) (S : Itv) (hS : resI c (unP n c ⟨ea, eb, ec⟩) = S) :
 Calls Tryz.prog 101 #[.agg #[.int .i64 n, u, v], y, .agg #[.int .i64 ea, .int .i64 eb, .int .i64 ec]] w fun e w' => e = .returned (.tuple #[.agg #[.int .i64 (spanL S).d, .int .i64 (spanL S).t], .agg #[.int .i64 (spanH S).d, .int .i64 (spanH S).t], .int .i64 (spanC S)]) ∧ Later w w' := by
 have H := Lib.hid h
 have H' := Lib.hid h'
 have HY := Lib.hid hy
 obtain ⟨_, _, au, capu, rfl, _, _, _⟩ := h
 obtain ⟨_, _, av, capv, rfl, _, _, _⟩ := h'
 obtain ⟨_, _, ay, capy, rfl, _, _, _⟩ := hy
 have h17 := planL_len (r := ⟨n, st, sd⟩) hC hc
 have hub := unP_bd (c := c) he h1 h17
 have hab := chainLog0_bd hc
 obtain ⟨A, hA⟩ : ∃ x, chainLog0 c = x := ⟨_, rfl⟩
 obtain ⟨U, hU⟩ : ∃ x, unP n c ⟨ea, eb, ec⟩ = x := ⟨_, rfl⟩
 have HS := Lib.hid (show S = ⟨A.lo - U, A.hi + U⟩ from by rw [← hS, ← hA, ← hU]; rfl)
 rw [hA] at hab
 rw [hU] at hub
 obtain ⟨m1, m2⟩ := hub
 obtain ⟨p1, p2, p3, p4⟩ := hab
 have HA := Lib.hid hA
 have HU := Lib.hid hU
 have HC := Lib.hid hC
 have HCh := Lib.hid hc
 have HE := Lib.hid he
 clear hC hc he hA hU hS h17
 go_enter Tryz.func101, Tryz.ntmps101
 go_wp2_with fail
 refine wp_name ?_
 intro z hz
 have hL0 : Later w z := by rw [hz]; exact ((((Later.refl _).alloc _).alloc _).alloc _).alloc _
 have hSB := hL0.size
 have Kr : z.heap[w.heap.size]? = some (.cells #[.int .i64 n, .slice au st.length capu, .slice av sd.length capv] 26 (0, 0)) := by rw [hz]; exact heap_alloc_old _ _ (heap_alloc_old _ _ (heap_alloc_old _ _ (heap_alloc_new _ _)))
 have Ke : z.heap[w.heap.size + 1]? = some (.cells #[.int .i64 ea, .int .i64 eb, .int .i64 ec] 60 (0, 0)) := by rw [hz]; exact heap_alloc_old _ _ (heap_alloc_old _ _ (heap_alloc_new' _ _ (by simp)))
 have K2 : z.heap[w.heap.size + 1 + 1]? = some (.cells #[.int .i64 0, .int .i64 0] 46 (0, 0)) := by rw [hz]; exact heap_alloc_old _ _ (heap_alloc_new' _ _ (by simp))
 have K3 : z.heap[w.heap.size + 1 + 1 + 1]? = some (.cells #[.int .i64 0, .int .i64 0] 46 (0, 0)) := by rw [hz]; exact heap_alloc_new' _ _ (by simp)
 have lt3 := (Array.getElem?_eq_some_iff.1 K3).1
 clear hz
 refine region_slots 30 [11, 12, 13, 14, 15, 16, 9, 10] (fun g ac wc => sl ac 1 = .slice ay c.length capy ∧
  sl ac 3 = .pointer (some ⟨w.heap.size, 0, none⟩) ∧
  sl ac 5 = .pointer (some ⟨w.heap.size + 1, 0, none⟩) ∧
  sl ac 6 = .pointer (some ⟨w.heap.size + 1 + 1, 0, none⟩) ∧
  sl ac 7 = .pointer (some ⟨w.heap.size + 1 + 1 + 1, 0, none⟩) ∧
  (g 0 = true → sl ac 11 = .slice ay c.length capy) ∧
  (g 1 = true → sl ac 12 = .agg #[.int .i64 A.lo, .int .i64 A.hi]) ∧
  (g 2 = true → sl ac 13 = .agg #[.int .i64 n, .slice au st.length capu, .slice av sd.length capv]) ∧
  (g 3 = true → sl ac 14 = .slice ay c.length capy) ∧
  (g 4 = true → sl ac 15 = .agg #[.int .i64 ea, .int .i64 eb, .int .i64 ec]) ∧
  (g 5 = true → sl ac 16 = .int .i64 U) ∧
  (g 8 = true → sl ac 10 = .int .i64 U) ∧
  Later w wc ∧
  (g 6 = true → ∃ k, sl ac 9 = .pointer (some ⟨k, 0, none⟩) ∧ z.heap.size ≤ k ∧ ∃ p6_0 p6_1, wc.heap[k]? = some (.cells #[p6_0, p6_1] 55 (0, 0)) ∧ (g 7 = true → p6_0 = .int .i64 A.lo ∧ p6_1 = .int .i64 A.hi)) ∧
  (g 7 = true → g 6 = true) ∧
  z.heap.size ≤ wc.heap.size ∧
  wc.heap[w.heap.size]? = some (.cells #[.int .i64 n, .slice au st.length capu, .slice av sd.length capv] 26 (0, 0)) ∧
  wc.heap[w.heap.size + 1]? = some (.cells #[.int .i64 ea, .int .i64 eb, .int .i64 ec] 60 (0, 0)) ∧
  wc.heap[w.heap.size + 1 + 1]? = some (.cells #[.int .i64 0, .int .i64 0] 46 (0, 0)) ∧
  wc.heap[w.heap.size + 1 + 1 + 1]? = some (.cells #[.int .i64 0, .int .i64 0] 46 (0, 0))) (by kernel_rfl) (by kernel_rfl) rfl (by kernel_rfl) ?_ ?_ ?_
 · exact ⟨rfl, rfl, rfl, rfl, rfl, nofun, nofun, nofun, nofun, nofun, nofun, nofun, hL0.drew, nofun, nofun, Nat.le_refl _, Kr, Ke, K2, K3⟩
 · intro g ac wu hg ha hI
   obtain ⟨x1, x3, x5, x6, x7, i0, i1, i2, i3, i4, i5, i8, hL, i6, -, hS, Br, Be, B2, B3⟩ := hI
   obtain ⟨kr6, e6, br6, p6_0, p6_1, Kr6, g6⟩ := i6 (hg 6 (by simp))
   have g6 := g6 (hg 7 (by simp))
   rw [g6.1, g6.2] at Kr6
   have a0 := i0 (hg 0 (by simp))
   have a1 := i1 (hg 1 (by simp))
   have a2 := i2 (hg 2 (by simp))
   have a3 := i3 (hg 3 (by simp))
   have a4 := i4 (hg 4 (by simp))
   have a5 := i5 (hg 5 (by simp))
   have a8 := i8 (hg 8 (by simp))
   simp only [putAll, a0, a1, a2, a3, a4, a5, a8, e6] at ha
   simp only [Act.put, List.setIfInBounds_toArray, List.set_cons_succ, List.set_cons_zero] at ha
   rw [ha]
   clear x1 x3 x5 x6 x7 i0 i1 i2 i3 i4 i5 i8 i6 a0 a1 a2 a3 a4 a5 a8 e6 g6 hg ha
   have HL := Lib.hid hL
   have HKr := Lib.hid Br
   have HK2 := Lib.hid B2
   have HK3 := Lib.hid B3
   obtain ⟨cr, fr, zr⟩ := blk_at Kr6
   clear Br Be B2 B3 Kr6 hS hL
   have wE : IntKind.i64.wrap (A.lo - U) = A.lo - U := wrap_same (by omega) (by omega)
   have wF : IntKind.i64.wrap (A.hi + U) = A.hi + U := wrap_same (by omega) (by omega)
   go_wp2_with fail
   refine (w_l04Span _ _ _).mono ?_
   rintro e w3 ⟨rfl, hL3⟩
   obtain ⟨c0, f0, z0⟩ := blk_at (hL3.keep HK2.out)
   obtain ⟨c1, f1, z1⟩ := blk_at (hL3.keep HK3.out)
   go_wp2
   refine bodyPost_ret (v := .tuple #[.agg #[.int .i64 (spanL ⟨A.lo - U, A.hi + U⟩).d, .int .i64 (spanL ⟨A.lo - U, A.hi + U⟩).t], .agg #[.int .i64 (spanH ⟨A.lo - U, A.hi + U⟩).d, .int .i64 (spanH ⟨A.lo - U, A.hi + U⟩).t], .int .i64 (spanC ⟨A.lo - U, A.hi + U⟩)]) (by simp [results, Tryz.results101, go_sem, c0, z0, c1, z1]) rfl ⟨by rw [HS.out], ?_⟩
   have hL4 := HL.out.trans hL3
   exact qla
 · refine .cons ?_ (.cons ?_ (.cons ?_ (.cons ?_ (.cons ?_ (.cons ?_ (.cons ?_ (.cons ?_ (.cons ?_ .nil))))))))
   · refine qst fun g ac wc hn hk hr HI K' hK => ?_
     obtain ⟨x1, x3, x5, x6, x7, -, -, -, -, -, -, -, hL, i6, q6, hS, Br, Be, B2, B3⟩ := HI.out
     simp [Region.binds] at hr
     go_simp
     obtain ⟨-, -, -, -, -, i0, i1, i2, i3, i4, i5, i8, -⟩ := HI.out
     exact hK.out _ _ ⟨qB x1, qB x3, qB x5, qB x6, qB x7, qP, qF i1, qF i2, qF i3, qF i4, qF i5, qF i8, hL, (fun j => by obtain ⟨k, e1, e2, p6_0, p6_1, e3, e4⟩ := i6 j; exact ⟨k, (put_ne (by decide)).trans e1, e2, p6_0, p6_1, e3, e4⟩), q6, hS, Br, Be, B2, B3⟩
   · refine qst fun g ac wc hn hk hr HI K' hK => ?_
     obtain ⟨x1, x3, x5, x6, x7, i0, -, -, -, -, -, -, hL, i6, q6, hS, Br, Be, B2, B3⟩ := HI.out
     simp [Region.binds] at hr
     have y0 := i0 (by simp [hr])
     clear i0
     go_simp
     refine (w_specL13Log _ _ _ (HY.out.later hL) HCh.out).mono ?_
     rintro e w4 ⟨rfl, hL4⟩
     rw [HA.out]
     obtain ⟨-, -, -, -, -, i0, i1, i2, i3, i4, i5, i8, -⟩ := HI.out
     exact hK.out _ _ ⟨qB x1, qB x3, qB x5, qB x6, qB x7, qF i0, qP, qF i2, qF i3, qF i4, qF i5, qF i8, hL.trans hL4, (fun j => by obtain ⟨k, e1, e2, p6_0, p6_1, e3, e4⟩ := i6 j; exact ⟨k, (put_ne (by decide)).trans e1, e2, p6_0, p6_1, hL4.keep e3, e4⟩), q6, Nat.le_trans hS hL4.size, hL4.keep Br, hL4.keep Be, hL4.keep B2, hL4.keep B3⟩
   · refine qst fun g ac wc hn hk hr HI K' hK => ?_
     obtain ⟨x1, x3, x5, x6, x7, -, -, -, -, -, -, -, hL, i6, q6, hS, Br, Be, B2, B3⟩ := HI.out
     simp [Region.binds] at hr
     obtain ⟨c0, f0, z0⟩ := blk_at Br
     go_simp
     obtain ⟨-, -, -, -, -, i0, i1, i2, i3, i4, i5, i8, -⟩ := HI.out
     exact hK.out _ _ ⟨qB x1, qB x3, qB x5, qB x6, qB x7, qF i0, qF i1, qP, qF i3, qF i4, qF i5, qF i8, hL, (fun j => by obtain ⟨k, e1, e2, p6_0, p6_1, e3, e4⟩ := i6 j; exact ⟨k, (put_ne (by decide)).trans e1, e2, p6_0, p6_1, e3, e4⟩), q6, hS, Br, Be, B2, B3⟩
   · refine qst fun g ac wc hn hk hr HI K' hK => ?_
     obtain ⟨x1, x3, x5, x6, x7, -, -, -, -, -, -, -, hL, i6, q6, hS, Br, Be, B2, B3⟩ := HI.out
     simp [Region.binds] at hr
     go_simp
     obtain ⟨-, -, -, -, -, i0, i1, i2, i3, i4, i5, i8, -⟩ := HI.out
     exact hK.out _ _ ⟨qB x1, qB x3, qB x5, qB x6, qB x7, qF i0, qF i1, qF i2, qP, qF i4, qF i5, qF i8, hL, (fun j => by obtain ⟨k, e1, e2, p6_0, p6_1, e3, e4⟩ := i6 j; exact ⟨k, (put_ne (by decide)).trans e1, e2, p6_0, p6_1, e3, e4⟩), q6, hS, Br, Be, B2, B3⟩
   · refine qst fun g ac wc hn hk hr HI K' hK => ?_
     obtain ⟨x1, x3, x5, x6, x7, -, -, -, -, -, -, -, hL, i6, q6, hS, Br, Be, B2, B3⟩ := HI.out
     simp [Region.binds] at hr
     obtain ⟨c0, f0, z0⟩ := blk_at Be
     go_simp
     obtain ⟨-, -, -, -, -, i0, i1, i2, i3, i4, i5, i8, -⟩ := HI.out
     exact hK.out _ _ ⟨qB x1, qB x3, qB x5, qB x6, qB x7, qF i0, qF i1, qF i2, qF i3, qP, qF i5, qF i8, hL, (fun j => by obtain ⟨k, e1, e2, p6_0, p6_1, e3, e4⟩ := i6 j; exact ⟨k, (put_ne (by decide)).trans e1, e2, p6_0, p6_1, e3, e4⟩), q6, hS, Br, Be, B2, B3⟩
   · refine qst fun g ac wc hn hk hr HI K' hK => ?_
     obtain ⟨x1, x3, x5, x6, x7, -, -, i2, i3, i4, -, -, hL, i6, q6, hS, Br, Be, B2, B3⟩ := HI.out
     simp [Region.binds] at hr
     have y2 := i2 (by simp [hr])
     have y3 := i3 (by simp [hr])
     have y4 := i4 (by simp [hr])
     clear i2 i3 i4
     go_simp
     refine (w_l15Units _ _ _ _ _ _ _ _ _ _ _ (H.out.later hL) (H'.out.later hL) (HY.out.later hL) HC.out HCh.out HE.out h1 h2).mono ?_
     rintro e w4 ⟨rfl, hL4⟩
     rw [HU.out]
     obtain ⟨-, -, -, -, -, i0, i1, i2, i3, i4, i5, i8, -⟩ := HI.out
     exact hK.out _ _ ⟨qB x1, qB x3, qB x5, qB x6, qB x7, qF i0, qF i1, qF i2, qF i3, qF i4, qP, qF i8, hL.trans hL4, (fun j => by obtain ⟨k, e1, e2, p6_0, p6_1, e3, e4⟩ := i6 j; exact ⟨k, (put_ne (by decide)).trans e1, e2, p6_0, p6_1, hL4.keep e3, e4⟩), q6, Nat.le_trans hS hL4.size, hL4.keep Br, hL4.keep Be, hL4.keep B2, hL4.keep B3⟩
   · refine qst fun g ac wc hn hk hr HI K' hK => ?_
     obtain ⟨x1, x3, x5, x6, x7, -, -, -, -, -, -, -, hL, i6, q6, hS, Br, Be, B2, B3⟩ := HI.out
     simp [Region.binds] at hr
     go_simp
     obtain ⟨-, -, -, -, -, i0, i1, i2, i3, i4, i5, i8, -⟩ := HI.out
     refine hK.out _ _ ⟨qB x1, qB x3, qB x5, qB x6, qB x7, qF i0, qF i1, qF i2, qF i3, qF i4, qF i5, qF i8, hL.alloc _, (fun _ => ⟨_, put_eq (by omega), hS, _, _, heap_alloc_new _ _, fun j6 => absurd ((q6 j6).symm.trans hk) (by simp)⟩), fun _ => rfl, (by simp; omega), heap_alloc_old _ _ Br, heap_alloc_old _ _ Be, heap_alloc_old _ _ B2, heap_alloc_old _ _ B3⟩
   · refine qst fun g ac wc hn hk hr HI K' hK => ?_
     obtain ⟨x1, x3, x5, x6, x7, -, i1, -, -, -, -, -, hL, i6, q6, hS, Br, Be, B2, B3⟩ := HI.out
     simp [Region.binds] at hr
     have y1 := i1 (by simp [hr])
     clear i1
     have hda : g 6 = true := by simp [hr]
     obtain ⟨k, e1, e2, p6_0, p6_1, e3, -⟩ := i6 hda
     obtain ⟨c0, f0, z0⟩ := blk_at e3
     go_simp
     obtain ⟨-, -, -, -, -, i0, i1, i2, i3, i4, i5, i8, -⟩ := HI.out
     exact hK.out undef _ ⟨x1, x3, x5, x6, x7, i0, i1, i2, i3, i4, i5, i8, ((hL.setCell (Nat.le_trans hSB e2) _).setCell (Nat.le_trans hSB e2) _), (fun _ => ⟨k, e1, e2, _, _, two_set e3 _ _, fun _ => ⟨rfl, rfl⟩⟩), (fun _ => hda), (by simp; omega), (other_set (other_set Br (by omega) _) (by omega) _), (other_set (other_set Be (by omega) _) (by omega) _), (other_set (other_set B2 (by omega) _) (by omega) _), (other_set (other_set B3 (by omega) _) (by omega) _)⟩
   · refine qst fun g ac wc hn hk hr HI K' hK => ?_
     obtain ⟨x1, x3, x5, x6, x7, -, -, -, -, -, i5, -, hL, i6, q6, hS, Br, Be, B2, B3⟩ := HI.out
     simp [Region.binds] at hr
     have y5 := i5 (by simp [hr])
     clear i5
     go_simp
     obtain ⟨-, -, -, -, -, i0, i1, i2, i3, i4, i5, i8, -⟩ := HI.out
     exact hK.out _ _ ⟨qB x1, qB x3, qB x5, qB x6, qB x7, qF i0, qF i1, qF i2, qF i3, qF i4, qF i5, qP, hL, (fun j => by obtain ⟨k, e1, e2, p6_0, p6_1, e3, e4⟩ := i6 j; exact ⟨k, (put_ne (by decide)).trans e1, e2, p6_0, p6_1, e3, e4⟩), q6, hS, Br, Be, B2, B3⟩
set_option maxHeartbeats 2000000 in
theorem w_implPlanSpan (n : Int) (u v y : Value) (st sd : List Int) (c : List Trm) (ea eb ec : Int) (w : World) (h : IsNums w u st) (h' : IsNums w v sd) (hy : IsTrms w y c) :
 Calls Tryz.prog 45 #[.agg #[.int .i64 n, u, v], y, .agg #[.int .i64 ea, .int .i64 eb, .int .i64 ec]] w fun e w' => e = .returned (.tuple #[.agg #[.int .i64 (psL ⟨n, st, sd⟩ c ⟨ea, eb, ec⟩).d, .int .i64 (psL ⟨n, st, sd⟩ c ⟨ea, eb, ec⟩).t], .agg #[.int .i64 (psH ⟨n, st, sd⟩ c ⟨ea, eb, ec⟩).d, .int .i64 (psH ⟨n, st, sd⟩ c ⟨ea, eb, ec⟩).t], .int .i64 (psC ⟨n, st, sd⟩ c ⟨ea, eb, ec⟩)]) ∧ Later w w' := by
 have H := Lib.hid h
 have H' := Lib.hid h'
 have HY := Lib.hid hy
 obtain ⟨_, _, au, capu, rfl, _, _, _⟩ := h
 obtain ⟨_, _, av, capv, rfl, _, _, _⟩ := h'
 obtain ⟨_, _, ay, capy, rfl, _, _, _⟩ := hy
 obtain ⟨X, hX⟩ : ∃ x, codeBound ⟨n, st, sd⟩ c ⟨ea, eb, ec⟩ = x := ⟨_, rfl⟩
 have HX := Lib.hid hX
 by_cases h0 : X = 0
 rotate_left
 · have HF := Lib.hid (show psL ⟨n, st, sd⟩ c ⟨ea, eb, ec⟩ = ⟨0, 0⟩ ∧ psH ⟨n, st, sd⟩ c ⟨ea, eb, ec⟩ = ⟨0, 0⟩ ∧ psC ⟨n, st, sd⟩ c ⟨ea, eb, ec⟩ = X from by unfold psL psH psC; rw [hX, if_neg h0, if_neg h0, if_neg h0]; exact ⟨rfl, rfl, rfl⟩)
   have hb : (X != 0) = true := by simp [h0]
   clear hX h0
   go_enter Tryz.func45, Tryz.ntmps45
   go_wp2_with fail
   refine (w_checkBound _ _ _ _ _ _ _ _ _ _ _ (H.out.later (((((Later.refl _).alloc _).alloc _).alloc _).alloc _)) (H'.out.later (((((Later.refl _).alloc _).alloc _).alloc _).alloc _)) (HY.out.later (((((Later.refl _).alloc _).alloc _).alloc _).alloc _))).mono ?_
   rintro e w1 ⟨rfl, hL⟩
   rw [HX.out]
   have HL := Lib.hid ((((((Later.refl w).alloc _).alloc _).alloc _).alloc _).trans hL)
   obtain ⟨c2, f2, z2⟩ := blk_at (hL.keep (heap_alloc_old _ _ (heap_alloc_new' (k := w.heap.size + 1 + 1) _ _ (by simp))))
   obtain ⟨c3, f3, z3⟩ := blk_at (hL.keep (heap_alloc_new' (k := w.heap.size + 1 + 1 + 1) _ _ (by simp)))
   clear hL
   have hSB := HL.out.size
   go_wp2
   refine bodyPost_ret (v := .tuple #[.agg #[.int .i64 0, .int .i64 0], .agg #[.int .i64 0, .int .i64 0], .int .i64 X]) (by simp [results, Tryz.results45, go_sem, c2, z2, c3, z3]) rfl ⟨by rw [HF.out.1, HF.out.2.1, HF.out.2.2], ?_⟩
   have hLL := HL.out
   first | exact hLL | exact (((hLL.setCell (show w.heap.size ≤ w.heap.size + 1 + 1 by omega) _).setCell (show w.heap.size ≤ w.heap.size + 1 + 1 by omega) _).setCell (show w.heap.size ≤ w.heap.size + 1 + 1 + 1 by omega) _).setCell (show w.heap.size ≤ w.heap.size + 1 + 1 + 1 by omega) _
 subst h0
 have hq := codeBound_0 hX
 have hr := codePlan_0 hq.2
 have hln := isRule_len hr.1
 have HE := Lib.hid hq.1
 have HC := Lib.hid hr.2.2
 have HCh := Lib.hid hr.2.1
 simp only at hln
 obtain ⟨n1, n2⟩ := hln
 obtain ⟨S, hS⟩ : ∃ x, resI c (unP n c ⟨ea, eb, ec⟩) = x := ⟨_, rfl⟩
 have HF := Lib.hid (show psL ⟨n, st, sd⟩ c ⟨ea, eb, ec⟩ = spanL S ∧ psH ⟨n, st, sd⟩ c ⟨ea, eb, ec⟩ = spanH S ∧ psC ⟨n, st, sd⟩ c ⟨ea, eb, ec⟩ = spanC S from by unfold psL psH psC; rw [hX, if_pos rfl, if_pos rfl, if_pos rfl, ← hS]; exact ⟨rfl, rfl, rfl⟩)
 have HS := Lib.hid hS
 clear hX hq hr hS
 go_enter Tryz.func45, Tryz.ntmps45
 go_wp2_with fail
 refine (w_checkBound _ _ _ _ _ _ _ _ _ _ _ (H.out.later (((((Later.refl _).alloc _).alloc _).alloc _).alloc _)) (H'.out.later (((((Later.refl _).alloc _).alloc _).alloc _).alloc _)) (HY.out.later (((((Later.refl _).alloc _).alloc _).alloc _).alloc _))).mono ?_
 rintro e w1 ⟨rfl, hL⟩
 rw [HX.out]
 have HL := Lib.hid ((((((Later.refl w).alloc _).alloc _).alloc _).alloc _).trans hL)
 have hL1 := HL.out
 obtain ⟨c0, f0, z0⟩ := blk_at (hL.keep (heap_alloc_old _ _ (heap_alloc_old _ _ (heap_alloc_old _ _ (heap_alloc_new _ _)))))
 obtain ⟨c1, f1, z1⟩ := blk_at (hL.keep (heap_alloc_old _ _ (heap_alloc_old _ _ (heap_alloc_new' (k := w.heap.size + 1) _ _ (by simp)))))
 have HK2 := Lib.hid (hL.keep (heap_alloc_old _ _ (heap_alloc_new' (k := w.heap.size + 1 + 1) _ _ (by simp))))
 have HK3 := Lib.hid (hL.keep (heap_alloc_new' (k := w.heap.size + 1 + 1 + 1) _ _ (by simp)))
 clear hL
 go_wp2_with fail
 refine (w_planSpan0 _ _ _ _ _ _ _ _ _ _ _ (H.out.later hL1) (H'.out.later hL1) (HY.out.later hL1) HC.out HCh.out HE.out n1 n2 S HS.out).mono ?_
 rintro e w2 ⟨rfl, hL2⟩
 have HL2 := Lib.hid (HL.out.trans hL2)
 have hSB := HL2.out.size
 obtain ⟨c2, f2, z2⟩ := blk_at (hL2.keep HK2.out)
 obtain ⟨c3, f3, z3⟩ := blk_at (hL2.keep HK3.out)
 clear hL2 hL1
 go_wp2
 refine bodyPost_ret (v := .tuple #[.agg #[.int .i64 (spanL S).d, .int .i64 (spanL S).t], .agg #[.int .i64 (spanH S).d, .int .i64 (spanH S).t], .int .i64 (spanC S)]) (by simp [results, Tryz.results45, go_sem, c2, z2, c3, z3]) rfl ⟨by rw [HF.out.1, HF.out.2.1, HF.out.2.2], ?_⟩
 have hLL := HL2.out
 first | exact hLL | exact (((hLL.setCell (show w.heap.size ≤ w.heap.size + 1 + 1 by omega) _).setCell (show w.heap.size ≤ w.heap.size + 1 + 1 by omega) _).setCell (show w.heap.size ≤ w.heap.size + 1 + 1 + 1 by omega) _).setCell (show w.heap.size ≤ w.heap.size + 1 + 1 + 1 by omega) _
end Go.Proofs.YtkoojngonldcbaaGreat
