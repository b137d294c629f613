/- DERIVED. Walks: relative errors. -/
import Derived.Test.YtkoojngonldcbaaGreatKGM22
namespace Go.Proofs.YtkoojngonldcbaaGreat
set_option linter.unusedVariables false
set_option linter.unusedSimpArgs false
open Go.RowKit
set_option maxRecDepth 100000
theorem w_ten (n : Int) (h1 : 0 ≤ n) (h2 : n ≤ 7) (w : World) : Calls Tryz.prog 160 #[.int .i64 n] w fun e w' => e = .returned (.int .i64 (p10 n)) ∧ w = w' := by
 have := p10_bd h1 h2
 go_enter Tryz.func160, Tryz.ntmps160
 go_wp2
 go_loop [3, 5] (fun x i => ∃ k : Int, x = .int .i64 (p10 k) ∧ i = .int .i64 k ∧ 0 ≤ k ∧ k ≤ n) (fun _ i => n.toNat - (intOf i).toNat)
 case atStart => exact ⟨0, rfl, rfl, by omega, by omega⟩
 case round =>
  obtain ⟨k, rfl, rfl, k0, k1⟩ := hrel
  by_cases hk : k < n
  · have hs := p10_s k0
    have b1 := p10_bd k0 (show k ≤ 7 by omega)
    generalize p10 k = p at hs b1
    go_wp2
    go_round
    case rel => exact ⟨k + 1, by rw [hs], rfl, by omega, by omega⟩
    case measure => simp only [intOf]; omega
  · have e : k = n := by omega
    subst e
    go_wp2
    go_ret
    exact ⟨rfl, rfl⟩
theorem w_l01Ten (n : Int) (h1 : 0 ≤ n) (h2 : n ≤ 7) (w : World) : Calls Tryz.prog 220 #[.int .i64 n] w fun e w' => e = .returned (.int .i64 (p10 n)) ∧ w = w' := by
 have := p10_bd h1 h2
 go_enter Tryz.func220, Tryz.ntmps220
 go_wp2
 go_loop [0, 3] (fun i x => ∃ k : Int, x = .int .i64 (p10 k) ∧ i = .int .i64 (n - k) ∧ 0 ≤ k ∧ k ≤ n) (fun i _ => (intOf i).toNat)
 case atStart => exact ⟨0, rfl, by rw [Int.sub_zero], by omega, by omega⟩
 case round =>
  obtain ⟨k, rfl, rfl, k0, k1⟩ := hrel
  by_cases hk : k < n
  · have hs := p10_s k0
    have b1 := p10_bd k0 (show k ≤ 7 by omega)
    generalize p10 k = p at hs b1
    go_wp2
    go_round
    case rel => exact ⟨k + 1, by rw [hs, Int.mul_comm], by rw [show n - k - 1 = n - (k + 1) by omega], by omega, by omega⟩
    case measure => simp only [intOf]; omega
  · have e : k = n := by omega
    subst e
    go_wp2
    go_ret
    exact ⟨rfl, rfl⟩
theorem w_l02Compare (a b c d : Int) (h : isFig ⟨a, b⟩ = true) (h' : isFig ⟨c, d⟩ = true) (w : World) :
 Calls Tryz.prog 104 #[.agg #[.int .i64 a, .int .i64 b], .agg #[.int .i64 c, .int .i64 d]] w fun e w' => e = .returned (.int .i64 (cmpF ⟨a, b⟩ ⟨c, d⟩)) ∧ Later w w' := by
 have q := isFig_bd h
 have q' := isFig_bd h'
 simp only at q q'
 obtain ⟨q1, q2, q3, q4⟩ := q
 obtain ⟨r1, r2, r3, r4⟩ := q'
 have e1 : keyF ⟨a, b⟩ = 10000 * b + a := rfl
 have e2 : keyF ⟨c, d⟩ = 10000 * d + c := rfl
 rcases Int.lt_trichotomy (10000 * b + a) (10000 * d + c) with k | k | k
 · have HF := Lib.hid (show cmpF ⟨a, b⟩ ⟨c, d⟩ = -1 from by unfold cmpF; rw [if_pos (by omega)])
   clear h h'
   go_enter Tryz.func104, Tryz.ntmps104
   go_wp2
   go_quiet (fail)
   go_wp2
   go_ret
   exact ⟨by rw [HF.out]; rfl, qla⟩
 · have HF := Lib.hid (show cmpF ⟨a, b⟩ ⟨c, d⟩ = 0 from by unfold cmpF; rw [if_neg (by omega), if_neg (by omega)])
   clear h h'
   go_enter Tryz.func104, Tryz.ntmps104
   go_wp2
   go_quiet (fail)
   go_wp2
   go_ret
   exact ⟨by rw [HF.out]; rfl, qla⟩
 · have HF := Lib.hid (show cmpF ⟨a, b⟩ ⟨c, d⟩ = 1 from by unfold cmpF; rw [if_neg (by omega), if_pos (by omega)])
   clear h h'
   go_enter Tryz.func104, Tryz.ntmps104
   go_wp2
   go_quiet (fail)
   go_wp2
   go_ret
   exact ⟨by rw [HF.out]; rfl, qla⟩
theorem w_relativeError (a b c d : Int) (h : isFig ⟨a, b⟩ = true) (h' : isFig ⟨c, d⟩ = true) (w : World) :
 Calls Tryz.prog 98 #[.agg #[.int .i64 a, .int .i64 b], .agg #[.int .i64 c, .int .i64 d]] w fun e w' => e = .returned (.tuple #[.int .i64 (relV ⟨a, b⟩ ⟨c, d⟩), .int .i64 (relC ⟨a, b⟩ ⟨c, d⟩)]) ∧ Later w w' := by
 have q := isFig_bd h
 have q' := isFig_bd h'
 simp only at q q'
 obtain ⟨q1, q2, q3, q4⟩ := q
 obtain ⟨r1, r2, r3, r4⟩ := q'
 by_cases k1 : 2 ≤ b - d
 · have HF := Lib.hid (show relV ⟨a, b⟩ ⟨c, d⟩ = 0 ∧ relC ⟨a, b⟩ ⟨c, d⟩ = 3 from by
    have e : relE ⟨a, b⟩ ⟨c, d⟩ = 9000001 := by unfold relE; rw [if_pos (by simp only; omega)]
    unfold relV relC
    rw [e]
    exact ⟨rfl, rfl⟩)
   clear h h'
   go_enter Tryz.func98, Tryz.ntmps98
   go_wp2
   go_ret2
   exact ⟨by rw [HF.out.1, HF.out.2]; rfl, qla⟩
 by_cases k2 : b - d ≤ -8
 · have HF := Lib.hid (show relV ⟨a, b⟩ ⟨c, d⟩ = 1000000 ∧ relC ⟨a, b⟩ ⟨c, d⟩ = 0 from by
    have e : relE ⟨a, b⟩ ⟨c, d⟩ = 1000000 := by unfold relE; rw [if_neg (by simp only; omega), if_pos (by simp only; omega)]
    unfold relV relC
    rw [e]
    exact ⟨rfl, rfl⟩)
   clear h h'
   go_enter Tryz.func98, Tryz.ntmps98
   go_wp2
   go_ret2
   exact ⟨by rw [HF.out.1, HF.out.2]; rfl, qla⟩
 have hE := relE_mid h h' k1 k2
 have hb := relQ_bd h h' k1 k2
 have hN := relN_bd (a := ⟨a, b⟩) (b := ⟨c, d⟩) h (by simp only; omega)
 have hD := relD_bd (a := ⟨a, b⟩) (b := ⟨c, d⟩) h' (by simp only; omega)
 obtain ⟨V, hV⟩ : ∃ x, relQ ⟨a, b⟩ ⟨c, d⟩ = x := ⟨_, rfl⟩
 obtain ⟨T, hT⟩ : ∃ x, b - d = x := ⟨_, rfl⟩
 have eN : relN ⟨a, b⟩ ⟨c, d⟩ = a * p10 (max 0 T) := by rw [← hT]; rfl
 have eD : relD ⟨a, b⟩ ⟨c, d⟩ = c * p10 (max 0 (-T)) := by rw [show -T = d - b by omega]; rfl
 obtain ⟨N, hNe⟩ : ∃ x, relN ⟨a, b⟩ ⟨c, d⟩ = x := ⟨_, rfl⟩
 obtain ⟨D, hDe⟩ : ∃ x, relD ⟨a, b⟩ ⟨c, d⟩ = x := ⟨_, rfl⟩
 have HQ := Lib.hid (show cdiv (1000000 * max (N - D) (D - N)) D = V from by rw [← hNe, ← hDe, ← hV]; rfl)
 have HF3 := Lib.hid (show V > 9000000 → relV ⟨a, b⟩ ⟨c, d⟩ = 0 ∧ relC ⟨a, b⟩ ⟨c, d⟩ = 3 from fun g => by
  unfold relV relC
  rw [hE, hV, if_pos g, if_pos g]
  exact ⟨rfl, rfl⟩)
 have HF0 := Lib.hid (show V ≤ 9000000 → relV ⟨a, b⟩ ⟨c, d⟩ = V ∧ relC ⟨a, b⟩ ⟨c, d⟩ = 0 from fun g => by
  unfold relV relC
  rw [hE, hV, if_neg (by omega), if_neg (by omega)]
  exact ⟨rfl, rfl⟩)
 rw [hV] at hb
 rw [hNe] at hN eN
 rw [hDe] at hD eD
 rw [hT] at k1 k2
 obtain ⟨b1, b2⟩ := hb
 obtain ⟨n1, n2⟩ := hN
 obtain ⟨d1, d2⟩ := hD
 clear hE hV hNe hDe h h'
 have HT := Lib.hid hT
 by_cases hs : 0 < T
 · have HN := Lib.hid (show a * p10 T = N from by rw [eN, show max 0 T = T by omega])
   have HD := Lib.hid (show c * p10 0 = D from by rw [eD, show max 0 (-T) = 0 by omega])
   have wD : IntKind.i64.wrap (b - d) = T := by rw [hT]; exact wrap_same (by omega) (by omega)
   clear eN eD hT
   go_enter Tryz.func98, Tryz.ntmps98
   go_wp2_with fail
   refine wp_name ?_
   intro z hz
   have hL0 : Later w z := by rw [hz]; exact ((Later.refl _).alloc _).alloc _
   have hSB := hL0.size
   have K0 : z.heap[w.heap.size]? = some (.cells #[.int .i64 a, .int .i64 b] 46 (0, 0)) := by rw [hz]; exact heap_alloc_old _ _ (heap_alloc_new _ _)
   have K1 : z.heap[w.heap.size + 1]? = some (.cells #[.int .i64 c, .int .i64 d] 46 (0, 0)) := by rw [hz]; exact heap_alloc_new' _ _ (by simp)
   clear hz
   refine region_slots 47 [21, 22, 23, 24, 25, 26, 27, 28, 29, 30, 31, 32, 33, 7, 8] (fun g ac wc => sl ac 2 = .pointer (some ⟨w.heap.size, 0, none⟩) ∧
    sl ac 3 = .pointer (some ⟨w.heap.size + 1, 0, none⟩) ∧
    sl ac 6 = .int .i64 T ∧
    (g 0 = true → sl ac 21 = .pointer (some ⟨w.heap.size, 0, none⟩)) ∧
    (g 1 = true → sl ac 22 = .int .i64 a) ∧
    (g 2 = true → sl ac 23 = .int .i64 T) ∧
    (g 3 = true → sl ac 24 = .int .i64 T) ∧
    (g 4 = true → sl ac 25 = .int .i64 (p10 (T))) ∧
    (g 5 = true → sl ac 26 = .int .i64 N) ∧
    (g 6 = true → sl ac 27 = .pointer (some ⟨w.heap.size + 1, 0, none⟩)) ∧
    (g 7 = true → sl ac 28 = .int .i64 c) ∧
    (g 8 = true → sl ac 29 = .int .i64 T) ∧
    (g 9 = true → sl ac 30 = .int .i64 (-T)) ∧
    (g 10 = true → sl ac 31 = .int .i64 0) ∧
    (g 11 = true → sl ac 32 = .int .i64 (p10 (0))) ∧
    (g 12 = true → sl ac 33 = .int .i64 D) ∧
    (g 13 = true → sl ac 7 = .int .i64 N) ∧
    (g 14 = true → sl ac 8 = .int .i64 D) ∧
    Later w wc ∧
    z.heap.size ≤ wc.heap.size ∧
    wc.heap[w.heap.size]? = some (.cells #[.int .i64 a, .int .i64 b] 46 (0, 0)) ∧
    wc.heap[w.heap.size + 1]? = some (.cells #[.int .i64 c, .int .i64 d] 46 (0, 0))) (by kernel_rfl) (by kernel_rfl) rfl (by kernel_rfl) ?_ ?_ ?_
   · exact ⟨rfl, rfl, rfl, nofun, nofun, nofun, nofun, nofun, nofun, nofun, nofun, nofun, nofun, nofun, nofun, nofun, nofun, nofun, hL0.drew, Nat.le_refl _, K0, K1⟩
   · intro g ac wu hg ha hI
     obtain ⟨x2, x3, x6, i0, i1, i2, i3, i4, i5, i6, i7, i8, i9, i10, i11, i12, i13, i14, hL, hS, B0, B1⟩ := hI
     have a0 := i0 (hg 0 (by simp))
     have a1 := i1 (hg 1 (by simp))
     have a2 := i2 (hg 2 (by simp))
     have a3 := i3 (hg 3 (by simp))
     have a4 := i4 (hg 4 (by simp))
     have a5 := i5 (hg 5 (by simp))
     have a6 := i6 (hg 6 (by simp))
     have a7 := i7 (hg 7 (by simp))
     have a8 := i8 (hg 8 (by simp))
     have a9 := i9 (hg 9 (by simp))
     have a10 := i10 (hg 10 (by simp))
     have a11 := i11 (hg 11 (by simp))
     have a12 := i12 (hg 12 (by simp))
     have a13 := i13 (hg 13 (by simp))
     have a14 := i14 (hg 14 (by simp))
     simp only [putAll, a0, a1, a2, a3, a4, a5, a6, a7, a8, a9, a10, a11, a12, a13, a14] at ha
     simp only [Act.put, List.setIfInBounds_toArray, List.set_cons_succ, List.set_cons_zero] at ha
     rw [ha]
     clear x2 x3 x6 i0 i1 i2 i3 i4 i5 i6 i7 i8 i9 i10 i11 i12 i13 i14 a0 a1 a2 a3 a4 a5 a6 a7 a8 a9 a10 a11 a12 a13 a14 hg ha
     have HL := Lib.hid hL
     clear hL hS B0 B1
     have HV1 := Lib.hid (show N ≤ D → cdiv (1000000 * (D - N)) D = V from fun k => by rw [← HQ.out, show max (N - D) (D - N) = D - N by omega])
     have HV2 := Lib.hid (show D ≤ N → cdiv (1000000 * (N - D)) D = V from fun k => by rw [← HQ.out, show max (N - D) (D - N) = N - D by omega])
     have wE : IntKind.i64.wrap (N - D) = N - D := wrap_same (by omega) (by omega)
     have wF : IntKind.i64.wrap (D - N) = D - N := wrap_same (by omega) (by omega)
     have wG : IntKind.i64.wrap (1000000 * (N - D)) = 1000000 * (N - D) := wrap_big (by omega) (by omega)
     have wH : IntKind.i64.wrap (1000000 * (D - N)) = 1000000 * (D - N) := wrap_big (by omega) (by omega)
     go_wp2_with fail
     all_goals
      refine (w_up _ _ (by omega) (by omega) (by omega) (by omega) _).mono ?_
      rintro e w4 ⟨rfl, rfl⟩
      first | rw [HV1.out (by omega)] | rw [HV2.out (by omega)]
      by_cases hv : V > 9000000
      · have HF := Lib.hid (HF3.out hv)
        go_wp2
        go_ret2
        exact ⟨by rw [HF.out.1, HF.out.2]; rfl, HL.out⟩
      · have HF := Lib.hid (HF0.out (by omega))
        go_wp2
        go_ret2
        exact ⟨by rw [HF.out.1, HF.out.2]; rfl, HL.out⟩
   · refine .cons ?_ (.cons ?_ (.cons ?_ (.cons ?_ (.cons ?_ (.cons ?_ (.cons ?_ (.cons ?_ (.cons ?_ (.cons ?_ (.cons ?_ (.cons ?_ (.cons ?_ (.cons ?_ (.cons ?_ .nil))))))))))))))
     · refine qst fun g ac wc hn hk hr HI K' hK => ?_
       obtain ⟨x2, x3, x6, -, -, -, -, -, -, -, -, -, -, -, -, -, -, -, hL, hS, B0, B1⟩ := HI.out
       simp [Region.binds] at hr
       go_simp
       obtain ⟨-, -, -, i0, i1, i2, i3, i4, i5, i6, i7, i8, i9, i10, i11, i12, i13, i14, -⟩ := HI.out
       exact hK.out _ _ ⟨qB x2, qB x3, qB x6, qP, qF i1, qF i2, qF i3, qF i4, qF i5, qF i6, qF i7, qF i8, qF i9, qF i10, qF i11, qF i12, qF i13, qF i14, hL, hS, B0, B1⟩
     · refine qst fun g ac wc hn hk hr HI K' hK => ?_
       obtain ⟨x2, x3, x6, i0, -, -, -, -, -, -, -, -, -, -, -, -, -, -, hL, hS, B0, B1⟩ := HI.out
       simp [Region.binds] at hr
       have y0 := i0 (by simp [hr])
       clear i0
       obtain ⟨c0, f0, z0⟩ := blk_at B0
       go_simp
       obtain ⟨-, -, -, i0, i1, i2, i3, i4, i5, i6, i7, i8, i9, i10, i11, i12, i13, i14, -⟩ := HI.out
       exact hK.out _ _ ⟨qB x2, qB x3, qB x6, qF i0, qP, qF i2, qF i3, qF i4, qF i5, qF i6, qF i7, qF i8, qF i9, qF i10, qF i11, qF i12, qF i13, qF i14, hL, hS, B0, B1⟩
     · refine qst fun g ac wc hn hk hr HI K' hK => ?_
       obtain ⟨x2, x3, x6, -, -, -, -, -, -, -, -, -, -, -, -, -, -, -, hL, hS, B0, B1⟩ := HI.out
       simp [Region.binds] at hr
       go_simp
       obtain ⟨-, -, -, i0, i1, i2, i3, i4, i5, i6, i7, i8, i9, i10, i11, i12, i13, i14, -⟩ := HI.out
       exact hK.out _ _ ⟨qB x2, qB x3, qB x6, qF i0, qF i1, qP, qF i3, qF i4, qF i5, qF i6, qF i7, qF i8, qF i9, qF i10, qF i11, qF i12, qF i13, qF i14, hL, hS, B0, B1⟩
     · refine qst fun g ac wc hn hk hr HI K' hK => ?_
       obtain ⟨x2, x3, x6, -, -, i2, -, -, -, -, -, -, -, -, -, -, -, -, hL, hS, B0, B1⟩ := HI.out
       simp [Region.binds] at hr
       have y2 := i2 (by simp [hr])
       clear i2
       go_simp
       first | rw [show (if 0 < T then T else 0) = T from by split <;> omega] | skip
       obtain ⟨-, -, -, i0, i1, i2, i3, i4, i5, i6, i7, i8, i9, i10, i11, i12, i13, i14, -⟩ := HI.out
       exact hK.out _ _ ⟨qB x2, qB x3, qB x6, qF i0, qF i1, qF i2, qP, qF i4, qF i5, qF i6, qF i7, qF i8, qF i9, qF i10, qF i11, qF i12, qF i13, qF i14, hL, hS, B0, B1⟩
     · refine qst fun g ac wc hn hk hr HI K' hK => ?_
       obtain ⟨x2, x3, x6, -, -, -, i3, -, -, -, -, -, -, -, -, -, -, -, hL, hS, B0, B1⟩ := HI.out
       simp [Region.binds] at hr
       have y3 := i3 (by simp [hr])
       clear i3
       go_simp
       refine (w_ten _ (by omega) (by omega) _).mono ?_
       rintro e w4 ⟨rfl, rfl⟩
       obtain ⟨-, -, -, i0, i1, i2, i3, i4, i5, i6, i7, i8, i9, i10, i11, i12, i13, i14, -⟩ := HI.out
       exact hK.out _ _ ⟨qB x2, qB x3, qB x6, qF i0, qF i1, qF i2, qF i3, qP, qF i5, qF i6, qF i7, qF i8, qF i9, qF i10, qF i11, qF i12, qF i13, qF i14, hL, hS, B0, B1⟩
     · refine qst fun g ac wc hn hk hr HI K' hK => ?_
       obtain ⟨x2, x3, x6, -, i1, -, -, i4, -, -, -, -, -, -, -, -, -, -, hL, hS, B0, B1⟩ := HI.out
       simp [Region.binds] at hr
       have y1 := i1 (by simp [hr])
       have y4 := i4 (by simp [hr])
       clear i1 i4
       have wD : IntKind.i64.wrap (a * p10 (T)) = N := by rw [HN.out]; exact wrap_same (by omega) (by omega)
       go_simp
       obtain ⟨-, -, -, i0, i1, i2, i3, i4, i5, i6, i7, i8, i9, i10, i11, i12, i13, i14, -⟩ := HI.out
       exact hK.out _ _ ⟨qB x2, qB x3, qB x6, qF i0, qF i1, qF i2, qF i3, qF i4, qP, qF i6, qF i7, qF i8, qF i9, qF i10, qF i11, qF i12, qF i13, qF i14, hL, hS, B0, B1⟩
     · refine qst fun g ac wc hn hk hr HI K' hK => ?_
       obtain ⟨x2, x3, x6, -, -, -, -, -, -, -, -, -, -, -, -, -, -, -, hL, hS, B0, B1⟩ := HI.out
       simp [Region.binds] at hr
       go_simp
       obtain ⟨-, -, -, i0, i1, i2, i3, i4, i5, i6, i7, i8, i9, i10, i11, i12, i13, i14, -⟩ := HI.out
       exact hK.out _ _ ⟨qB x2, qB x3, qB x6, qF i0, qF i1, qF i2, qF i3, qF i4, qF i5, qP, qF i7, qF i8, qF i9, qF i10, qF i11, qF i12, qF i13, qF i14, hL, hS, B0, B1⟩
     · refine qst fun g ac wc hn hk hr HI K' hK => ?_
       obtain ⟨x2, x3, x6, -, -, -, -, -, -, i6, -, -, -, -, -, -, -, -, hL, hS, B0, B1⟩ := HI.out
       simp [Region.binds] at hr
       have y6 := i6 (by simp [hr])
       clear i6
       obtain ⟨c0, f0, z0⟩ := blk_at B1
       go_simp
       obtain ⟨-, -, -, i0, i1, i2, i3, i4, i5, i6, i7, i8, i9, i10, i11, i12, i13, i14, -⟩ := HI.out
       exact hK.out _ _ ⟨qB x2, qB x3, qB x6, qF i0, qF i1, qF i2, qF i3, qF i4, qF i5, qF i6, qP, qF i8, qF i9, qF i10, qF i11, qF i12, qF i13, qF i14, hL, hS, B0, B1⟩
     · refine qst fun g ac wc hn hk hr HI K' hK => ?_
       obtain ⟨x2, x3, x6, -, -, -, -, -, -, -, -, -, -, -, -, -, -, -, hL, hS, B0, B1⟩ := HI.out
       simp [Region.binds] at hr
       go_simp
       obtain ⟨-, -, -, i0, i1, i2, i3, i4, i5, i6, i7, i8, i9, i10, i11, i12, i13, i14, -⟩ := HI.out
       exact hK.out _ _ ⟨qB x2, qB x3, qB x6, qF i0, qF i1, qF i2, qF i3, qF i4, qF i5, qF i6, qF i7, qP, qF i9, qF i10, qF i11, qF i12, qF i13, qF i14, hL, hS, B0, B1⟩
     · refine qst fun g ac wc hn hk hr HI K' hK => ?_
       obtain ⟨x2, x3, x6, -, -, -, -, -, -, -, -, i8, -, -, -, -, -, -, hL, hS, B0, B1⟩ := HI.out
       simp [Region.binds] at hr
       have y8 := i8 (by simp [hr])
       clear i8
       have wD : IntKind.i64.wrap (-T) = -T := wrap_same (by omega) (by omega)
       go_simp
       obtain ⟨-, -, -, i0, i1, i2, i3, i4, i5, i6, i7, i8, i9, i10, i11, i12, i13, i14, -⟩ := HI.out
       exact hK.out _ _ ⟨qB x2, qB x3, qB x6, qF i0, qF i1, qF i2, qF i3, qF i4, qF i5, qF i6, qF i7, qF i8, qP, qF i10, qF i11, qF i12, qF i13, qF i14, hL, hS, B0, B1⟩
     · refine qst fun g ac wc hn hk hr HI K' hK => ?_
       obtain ⟨x2, x3, x6, -, -, -, -, -, -, -, -, -, i9, -, -, -, -, -, hL, hS, B0, B1⟩ := HI.out
       simp [Region.binds] at hr
       have y9 := i9 (by simp [hr])
       clear i9
       go_simp
       first | rw [show (if T < 0 then -T else 0) = 0 from by split <;> omega] | skip
       obtain ⟨-, -, -, i0, i1, i2, i3, i4, i5, i6, i7, i8, i9, i10, i11, i12, i13, i14, -⟩ := HI.out
       exact hK.out _ _ ⟨qB x2, qB x3, qB x6, qF i0, qF i1, qF i2, qF i3, qF i4, qF i5, qF i6, qF i7, qF i8, qF i9, qP, qF i11, qF i12, qF i13, qF i14, hL, hS, B0, B1⟩
     · refine qst fun g ac wc hn hk hr HI K' hK => ?_
       obtain ⟨x2, x3, x6, -, -, -, -, -, -, -, -, -, -, i10, -, -, -, -, hL, hS, B0, B1⟩ := HI.out
       simp [Region.binds] at hr
       have y10 := i10 (by simp [hr])
       clear i10
       go_simp
       refine (w_ten _ (by omega) (by omega) _).mono ?_
       rintro e w4 ⟨rfl, rfl⟩
       obtain ⟨-, -, -, i0, i1, i2, i3, i4, i5, i6, i7, i8, i9, i10, i11, i12, i13, i14, -⟩ := HI.out
       exact hK.out _ _ ⟨qB x2, qB x3, qB x6, qF i0, qF i1, qF i2, qF i3, qF i4, qF i5, qF i6, qF i7, qF i8, qF i9, qF i10, qP, qF i12, qF i13, qF i14, hL, hS, B0, B1⟩
     · refine qst fun g ac wc hn hk hr HI K' hK => ?_
       obtain ⟨x2, x3, x6, -, -, -, -, -, -, -, i7, -, -, -, i11, -, -, -, hL, hS, B0, B1⟩ := HI.out
       simp [Region.binds] at hr
       have y7 := i7 (by simp [hr])
       have y11 := i11 (by simp [hr])
       clear i7 i11
       have wD : IntKind.i64.wrap (c * p10 (0)) = D := by rw [HD.out]; exact wrap_same (by omega) (by omega)
       go_simp
       obtain ⟨-, -, -, i0, i1, i2, i3, i4, i5, i6, i7, i8, i9, i10, i11, i12, i13, i14, -⟩ := HI.out
       exact hK.out _ _ ⟨qB x2, qB x3, qB x6, qF i0, qF i1, qF i2, qF i3, qF i4, qF i5, qF i6, qF i7, qF i8, qF i9, qF i10, qF i11, qP, qF i13, qF i14, hL, hS, B0, B1⟩
     · refine qst fun g ac wc hn hk hr HI K' hK => ?_
       obtain ⟨x2, x3, x6, -, -, -, -, -, i5, -, -, -, -, -, -, -, -, -, hL, hS, B0, B1⟩ := HI.out
       simp [Region.binds] at hr
       have y5 := i5 (by simp [hr])
       clear i5
       go_simp
       obtain ⟨-, -, -, i0, i1, i2, i3, i4, i5, i6, i7, i8, i9, i10, i11, i12, i13, i14, -⟩ := HI.out
       exact hK.out _ _ ⟨qB x2, qB x3, qB x6, qF i0, qF i1, qF i2, qF i3, qF i4, qF i5, qF i6, qF i7, qF i8, qF i9, qF i10, qF i11, qF i12, qP, qF i14, hL, hS, B0, B1⟩
     · refine qst fun g ac wc hn hk hr HI K' hK => ?_
       obtain ⟨x2, x3, x6, -, -, -, -, -, -, -, -, -, -, -, -, i12, -, -, hL, hS, B0, B1⟩ := HI.out
       simp [Region.binds] at hr
       have y12 := i12 (by simp [hr])
       clear i12
       go_simp
       obtain ⟨-, -, -, i0, i1, i2, i3, i4, i5, i6, i7, i8, i9, i10, i11, i12, i13, i14, -⟩ := HI.out
       exact hK.out _ _ ⟨qB x2, qB x3, qB x6, qF i0, qF i1, qF i2, qF i3, qF i4, qF i5, qF i6, qF i7, qF i8, qF i9, qF i10, qF i11, qF i12, qF i13, qP, hL, hS, B0, B1⟩
 · have HN := Lib.hid (show a * p10 0 = N from by rw [eN, show max 0 T = 0 by omega])
   have HD := Lib.hid (show c * p10 (-T) = D from by rw [eD, show max 0 (-T) = -T by omega])
   have wD : IntKind.i64.wrap (b - d) = T := by rw [hT]; exact wrap_same (by omega) (by omega)
   clear eN eD hT
   go_enter Tryz.func98, Tryz.ntmps98
   go_wp2_with fail
   refine wp_name ?_
   intro z hz
   have hL0 : Later w z := by rw [hz]; exact ((Later.refl _).alloc _).alloc _
   have hSB := hL0.size
   have K0 : z.heap[w.heap.size]? = some (.cells #[.int .i64 a, .int .i64 b] 46 (0, 0)) := by rw [hz]; exact heap_alloc_old _ _ (heap_alloc_new _ _)
   have K1 : z.heap[w.heap.size + 1]? = some (.cells #[.int .i64 c, .int .i64 d] 46 (0, 0)) := by rw [hz]; exact heap_alloc_new' _ _ (by simp)
   clear hz
   refine region_slots 47 [21, 22, 23, 24, 25, 26, 27, 28, 29, 30, 31, 32, 33, 7, 8] (fun g ac wc => sl ac 2 = .pointer (some ⟨w.heap.size, 0, none⟩) ∧
    sl ac 3 = .pointer (some ⟨w.heap.size + 1, 0, none⟩) ∧
    sl ac 6 = .int .i64 T ∧
    (g 0 = true → sl ac 21 = .pointer (some ⟨w.heap.size, 0, none⟩)) ∧
    (g 1 = true → sl ac 22 = .int .i64 a) ∧
    (g 2 = true → sl ac 23 = .int .i64 T) ∧
    (g 3 = true → sl ac 24 = .int .i64 0) ∧
    (g 4 = true → sl ac 25 = .int .i64 (p10 (0))) ∧
    (g 5 = true → sl ac 26 = .int .i64 N) ∧
    (g 6 = true → sl ac 27 = .pointer (some ⟨w.heap.size + 1, 0, none⟩)) ∧
    (g 7 = true → sl ac 28 = .int .i64 c) ∧
    (g 8 = true → sl ac 29 = .int .i64 T) ∧
    (g 9 = true → sl ac 30 = .int .i64 (-T)) ∧
    (g 10 = true → sl ac 31 = .int .i64 (-T)) ∧
    (g 11 = true → sl ac 32 = .int .i64 (p10 (-T))) ∧
    (g 12 = true → sl ac 33 = .int .i64 D) ∧
    (g 13 = true → sl ac 7 = .int .i64 N) ∧
    (g 14 = true → sl ac 8 = .int .i64 D) ∧
    Later w wc ∧
    z.heap.size ≤ wc.heap.size ∧
    wc.heap[w.heap.size]? = some (.cells #[.int .i64 a, .int .i64 b] 46 (0, 0)) ∧
    wc.heap[w.heap.size + 1]? = some (.cells #[.int .i64 c, .int .i64 d] 46 (0, 0))) (by kernel_rfl) (by kernel_rfl) rfl (by kernel_rfl) ?_ ?_ ?_
   · exact ⟨rfl, rfl, rfl, nofun, nofun, nofun, nofun, nofun, nofun, nofun, nofun, nofun, nofun, nofun, nofun, nofun, nofun, nofun, hL0.drew, Nat.le_refl _, K0, K1⟩
   · intro g ac wu hg ha hI
     obtain ⟨x2, x3, x6, i0, i1, i2, i3, i4, i5, i6, i7, i8, i9, i10, i11, i12, i13, i14, hL, hS, B0, B1⟩ := hI
     have a0 := i0 (hg 0 (by simp))
     have a1 := i1 (hg 1 (by simp))
     have a2 := i2 (hg 2 (by simp))
     have a3 := i3 (hg 3 (by simp))
     have a4 := i4 (hg 4 (by simp))
     have a5 := i5 (hg 5 (by simp))
     have a6 := i6 (hg 6 (by simp))
     have a7 := i7 (hg 7 (by simp))
     have a8 := i8 (hg 8 (by simp))
     have a9 := i9 (hg 9 (by simp))
     have a10 := i10 (hg 10 (by simp))
     have a11 := i11 (hg 11 (by simp))
     have a12 := i12 (hg 12 (by simp))
     have a13 := i13 (hg 13 (by simp))
     have a14 := i14 (hg 14 (by simp))
     simp only [putAll, a0, a1, a2, a3, a4, a5, a6, a7, a8, a9, a10, a11, a12, a13, a14] at ha
     simp only [Act.put, List.setIfInBounds_toArray, List.set_cons_succ, List.set_cons_zero] at ha
     rw [ha]
     clear x2 x3 x6 i0 i1 i2 i3 i4 i5 i6 i7 i8 i9 i10 i11 i12 i13 i14 a0 a1 a2 a3 a4 a5 a6 a7 a8 a9 a10 a11 a12 a13 a14 hg ha
     have HL := Lib.hid hL
     clear hL hS B0 B1
     have HV1 := Lib.hid (show N ≤ D → cdiv (1000000 * (D - N)) D = V from fun k => by rw [← HQ.out, show max (N - D) (D - N) = D - N by omega])
     have HV2 := Lib.hid (show D ≤ N → cdiv (1000000 * (N - D)) D = V from fun k => by rw [← HQ.out, show max (N - D) (D - N) = N - D by omega])
     have wE : IntKind.i64.wrap (N - D) = N - D := wrap_same (by omega) (by omega)
     have wF : IntKind.i64.wrap (D - N) = D - N := wrap_same (by omega) (by omega)
     have wG : IntKind.i64.wrap (1000000 * (N - D)) = 1000000 * (N - D) := wrap_big (by omega) (by omega)
     have wH : IntKind.i64.wrap (1000000 * (D - N)) = 1000000 * (D - N) := wrap_big (by omega) (by omega)
     go_wp2_with fail
     all_goals
      refine (w_up _ _ (by omega) (by omega) (by omega) (by omega) _).mono ?_
      rintro e w4 ⟨rfl, rfl⟩
      first | rw [HV1.out (by omega)] | rw [HV2.out (by omega)]
      by_cases hv : V > 9000000
      · have HF := Lib.hid (HF3.out hv)
        go_wp2
        go_ret2
        exact ⟨by rw [HF.out.1, HF.out.2]; rfl, HL.out⟩
      · have HF := Lib.hid (HF0.out (by omega))
        go_wp2
        go_ret2
        exact ⟨by rw [HF.out.1, HF.out.2]; rfl, HL.out⟩
   · refine .cons ?_ (.cons ?_ (.cons ?_ (.cons ?_ (.cons ?_ (.cons ?_ (.cons ?_ (.cons ?_ (.cons ?_ (.cons ?_ (.cons ?_ (.cons ?_ (.cons ?_ (.cons ?_ (.cons ?_ .nil))))))))))))))
     · refine qst fun g ac wc hn hk hr HI K' hK => ?_
       obtain ⟨x2, x3, x6, -, -, -, -, -, -, -, -, -, -, -, -, -, -, -, hL, hS, B0, B1⟩ := HI.out
       simp [Region.binds] at hr
       go_simp
       obtain ⟨-, -, -, i0, i1, i2, i3, i4, i5, i6, i7, i8, i9, i10, i11, i12, i13, i14, -⟩ := HI.out
       exact hK.out _ _ ⟨qB x2, qB x3, qB x6, qP, qF i1, qF i2, qF i3, qF i4, qF i5, qF i6, qF i7, qF i8, qF i9, qF i10, qF i11, qF i12, qF i13, qF i14, hL, hS, B0, B1⟩
     · refine qst fun g ac wc hn hk hr HI K' hK => ?_
       obtain ⟨x2, x3, x6, i0, -, -, -, -, -, -, -, -, -, -, -, -, -, -, hL, hS, B0, B1⟩ := HI.out
       simp [Region.binds] at hr
       have y0 := i0 (by simp [hr])
       clear i0
       obtain ⟨c0, f0, z0⟩ := blk_at B0
       go_simp
       obtain ⟨-, -, -, i0, i1, i2, i3, i4, i5, i6, i7, i8, i9, i10, i11, i12, i13, i14, -⟩ := HI.out
       exact hK.out _ _ ⟨qB x2, qB x3, qB x6, qF i0, qP, qF i2, qF i3, qF i4, qF i5, qF i6, qF i7, qF i8, qF i9, qF i10, qF i11, qF i12, qF i13, qF i14, hL, hS, B0, B1⟩
     · refine qst fun g ac wc hn hk hr HI K' hK => ?_
       obtain ⟨x2, x3, x6, -, -, -, -, -, -, -, -, -, -, -, -, -, -, -, hL, hS, B0, B1⟩ := HI.out
       simp [Region.binds] at hr
       go_simp
       obtain ⟨-, -, -, i0, i1, i2, i3, i4, i5, i6, i7, i8, i9, i10, i11, i12, i13, i14, -⟩ := HI.out
       exact hK.out _ _ ⟨qB x2, qB x3, qB x6, qF i0, qF i1, qP, qF i3, qF i4, qF i5, qF i6, qF i7, qF i8, qF i9, qF i10, qF i11, qF i12, qF i13, qF i14, hL, hS, B0, B1⟩
     · refine qst fun g ac wc hn hk hr HI K' hK => ?_
       obtain ⟨x2, x3, x6, -, -, i2, -, -, -, -, -, -, -, -, -, -, -, -, hL, hS, B0, B1⟩ := HI.out
       simp [Region.binds] at hr
       have y2 := i2 (by simp [hr])
       clear i2
       go_simp
       first | rw [show (if 0 < T then T else 0) = 0 from by split <;> omega] | skip
       obtain ⟨-, -, -, i0, i1, i2, i3, i4, i5, i6, i7, i8, i9, i10, i11, i12, i13, i14, -⟩ := HI.out
       exact hK.out _ _ ⟨qB x2, qB x3, qB x6, qF i0, qF i1, qF i2, qP, qF i4, qF i5, qF i6, qF i7, qF i8, qF i9, qF i10, qF i11, qF i12, qF i13, qF i14, hL, hS, B0, B1⟩
     · refine qst fun g ac wc hn hk hr HI K' hK => ?_
       obtain ⟨x2, x3, x6, -, -, -, i3, -, -, -, -, -, -, -, -, -, -, -, hL, hS, B0, B1⟩ := HI.out
       simp [Region.binds] at hr
       have y3 := i3 (by simp [hr])
       clear i3
       go_simp
       refine (w_ten _ (by omega) (by omega) _).mono ?_
       rintro e w4 ⟨rfl, rfl⟩
       obtain ⟨-, -, -, i0, i1, i2, i3, i4, i5, i6, i7, i8, i9, i10, i11, i12, i13, i14, -⟩ := HI.out
       exact hK.out _ _ ⟨qB x2, qB x3, qB x6, qF i0, qF i1, qF i2, qF i3, qP, qF i5, qF i6, qF i7, qF i8, qF i9, qF i10, qF i11, qF i12, qF i13, qF i14, hL, hS, B0, B1⟩
     · refine qst fun g ac wc hn hk hr HI K' hK => ?_
       obtain ⟨x2, x3, x6, -, i1, -, -, i4, -, -, -, -, -, -, -, -, -, -, hL, hS, B0, B1⟩ := HI.out
       simp [Region.binds] at hr
       have y1 := i1 (by simp [hr])
       have y4 := i4 (by simp [hr])
       clear i1 i4
       have wD : IntKind.i64.wrap (a * p10 (0)) = N := by rw [HN.out]; exact wrap_same (by omega) (by omega)
       go_simp
       obtain ⟨-, -, -, i0, i1, i2, i3, i4, i5, i6, i7, i8, i9, i10, i11, i12, i13, i14, -⟩ := HI.out
       exact hK.out _ _ ⟨qB x2, qB x3, qB x6, qF i0, qF i1, qF i2, qF i3, qF i4, qP, qF i6, qF i7, qF i8, qF i9, qF i10, qF i11, qF i12, qF i13, qF i14, hL, hS, B0, B1⟩
     · refine qst fun g ac wc hn hk hr HI K' hK => ?_
       obtain ⟨x2, x3, x6, -, -, -, -, -, -, -, -, -, -, -, -, -, -, -, hL, hS, B0, B1⟩ := HI.out
       simp [Region.binds] at hr
       go_simp
       obtain ⟨-, -, -, i0, i1, i2, i3, i4, i5, i6, i7, i8, i9, i10, i11, i12, i13, i14, -⟩ := HI.out
       exact hK.out _ _ ⟨qB x2, qB x3, qB x6, qF i0, qF i1, qF i2, qF i3, qF i4, qF i5, qP, qF i7, qF i8, qF i9, qF i10, qF i11, qF i12, qF i13, qF i14, hL, hS, B0, B1⟩
     · refine qst fun g ac wc hn hk hr HI K' hK => ?_
       obtain ⟨x2, x3, x6, -, -, -, -, -, -, i6, -, -, -, -, -, -, -, -, hL, hS, B0, B1⟩ := HI.out
       simp [Region.binds] at hr
       have y6 := i6 (by simp [hr])
       clear i6
       obtain ⟨c0, f0, z0⟩ := blk_at B1
       go_simp
       obtain ⟨-, -, -, i0, i1, i2, i3, i4, i5, i6, i7, i8, i9, i10, i11, i12, i13, i14, -⟩ := HI.out
       exact hK.out _ _ ⟨qB x2, qB x3, qB x6, qF i0, qF i1, qF i2, qF i3, qF i4, qF i5, qF i6, qP, qF i8, qF i9, qF i10, qF i11, qF i12, qF i13, qF i14, hL, hS, B0, B1⟩
     · refine qst fun g ac wc hn hk hr HI K' hK => ?_
       obtain ⟨x2, x3, x6, -, -, -, -, -, -, -, -, -, -, -, -, -, -, -, hL, hS, B0, B1⟩ := HI.out
       simp [Region.binds] at hr
       go_simp
       obtain ⟨-, -, -, i0, i1, i2, i3, i4, i5, i6, i7, i8, i9, i10, i11, i12, i13, i14, -⟩ := HI.out
       exact hK.out _ _ ⟨qB x2, qB x3, qB x6, qF i0, qF i1, qF i2, qF i3, qF i4, qF i5, qF i6, qF i7, qP, qF i9, qF i10, qF i11, qF i12, qF i13, qF i14, hL, hS, B0, B1⟩
     · refine qst fun g ac wc hn hk hr HI K' hK => ?_
       obtain ⟨x2, x3, x6, -, -, -, -, -, -, -, -, i8, -, -, -, -, -, -, hL, hS, B0, B1⟩ := HI.out
       simp [Region.binds] at hr
       have y8 := i8 (by simp [hr])
       clear i8
       have wD : IntKind.i64.wrap (-T) = -T := wrap_same (by omega) (by omega)
       go_simp
       obtain ⟨-, -, -, i0, i1, i2, i3, i4, i5, i6, i7, i8, i9, i10, i11, i12, i13, i14, -⟩ := HI.out
       exact hK.out _ _ ⟨qB x2, qB x3, qB x6, qF i0, qF i1, qF i2, qF i3, qF i4, qF i5, qF i6, qF i7, qF i8, qP, qF i10, qF i11, qF i12, qF i13, qF i14, hL, hS, B0, B1⟩
     · refine qst fun g ac wc hn hk hr HI K' hK => ?_
       obtain ⟨x2, x3, x6, -, -, -, -, -, -, -, -, -, i9, -, -, -, -, -, hL, hS, B0, B1⟩ := HI.out
       simp [Region.binds] at hr
       have y9 := i9 (by simp [hr])
       clear i9
       go_simp
       first | rw [show (if T < 0 then -T else 0) = -T from by split <;> omega] | skip
       obtain ⟨-, -, -, i0, i1, i2, i3, i4, i5, i6, i7, i8, i9, i10, i11, i12, i13, i14, -⟩ := HI.out
       exact hK.out _ _ ⟨qB x2, qB x3, qB x6, qF i0, qF i1, qF i2, qF i3, qF i4, qF i5, qF i6, qF i7, qF i8, qF i9, qP, qF i11, qF i12, qF i13, qF i14, hL, hS, B0, B1⟩
     · refine qst fun g ac wc hn hk hr HI K' hK => ?_
       obtain ⟨x2, x3, x6, -, -, -, -, -, -, -, -, -, -, i10, -, -, -, -, hL, hS, B0, B1⟩ := HI.out
       simp [Region.binds] at hr
       have y10 := i10 (by simp [hr])
       clear i10
       go_simp
       refine (w_ten _ (by omega) (by omega) _).mono ?_
       rintro e w4 ⟨rfl, rfl⟩
       obtain ⟨-, -, -, i0, i1, i2, i3, i4, i5, i6, i7, i8, i9, i10, i11, i12, i13, i14, -⟩ := HI.out
       exact hK.out _ _ ⟨qB x2, qB x3, qB x6, qF i0, qF i1, qF i2, qF i3, qF i4, qF i5, qF i6, qF i7, qF i8, qF i9, qF i10, qP, qF i12, qF i13, qF i14, hL, hS, B0, B1⟩
     · refine qst fun g ac wc hn hk hr HI K' hK => ?_
       obtain ⟨x2, x3, x6, -, -, -, -, -, -, -, i7, -, -, -, i11, -, -, -, hL, hS, B0, B1⟩ := HI.out
       simp [Region.binds] at hr
       have y7 := i7 (by simp [hr])
       have y11 := i11 (by simp [hr])
       clear i7 i11
       have wD : IntKind.i64.wrap (c * p10 (-T)) = D := by rw [HD.out]; exact wrap_same (by omega) (by omega)
       go_simp
       obtain ⟨-, -, -, i0, i1, i2, i3, i4, i5, i6, i7, i8, i9, i10, i11, i12, i13, i14, -⟩ := HI.out
       exact hK.out _ _ ⟨qB x2, qB x3, qB x6, qF i0, qF i1, qF i2, qF i3, qF i4, qF i5, qF i6, qF i7, qF i8, qF i9, qF i10, qF i11, qP, qF i13, qF i14, hL, hS, B0, B1⟩
     · refine qst fun g ac wc hn hk hr HI K' hK => ?_
       obtain ⟨x2, x3, x6, -, -, -, -, -, i5, -, -, -, -, -, -, -, -, -, hL, hS, B0, B1⟩ := HI.out
       simp [Region.binds] at hr
       have y5 := i5 (by simp [hr])
       clear i5
       go_simp
       obtain ⟨-, -, -, i0, i1, i2, i3, i4, i5, i6, i7, i8, i9, i10, i11, i12, i13, i14, -⟩ := HI.out
       exact hK.out _ _ ⟨qB x2, qB x3, qB x6, qF i0, qF i1, qF i2, qF i3, qF i4, qF i5, qF i6, qF i7, qF i8, qF i9, qF i10, qF i11, qF i12, qP, qF i14, hL, hS, B0, B1⟩
     · refine qst fun g ac wc hn hk hr HI K' hK => ?_
       obtain ⟨x2, x3, x6, -, -, -, -, -, -, -, -, -, -, -, -, i12, -, -, hL, hS, B0, B1⟩ := HI.out
       simp [Region.binds] at hr
       have y12 := i12 (by simp [hr])
       clear i12
       go_simp
       obtain ⟨-, -, -, i0, i1, i2, i3, i4, i5, i6, i7, i8, i9, i10, i11, i12, i13, i14, -⟩ := HI.out
       exact hK.out _ _ ⟨qB x2, qB x3, qB x6, qF i0, qF i1, qF i2, qF i3, qF i4, qF i5, qF i6, qF i7, qF i8, qF i9, qF i10, qF i11, qF i12, qF i13, qP, hL, hS, B0, B1⟩
end Go.Proofs.YtkoojngonldcbaaGreat
