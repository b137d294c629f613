/- DERIVED. Walks: relative errors. -/
import Derived.Test.YtkoojngonldcbaaM69
import Derived.Test.YtkoojngonldcbaaM22
namespace Go.Proofs.Ytkoojngonldcbaa
set_option linter.unusedVariables false
set_option linter.unusedSimpArgs false
open Go.RowKit
set_option maxRecDepth 100000

theorem w_ten (n : Int) (h1 : 0 ≤ n) (h2 : n ≤ 7) (w : World) : Calls Try.prog 168 #[.int .i64 n] w fun e w' => e = .returned (.int .i64 (p10 n)) ∧ w = w' := by
  have := p10_bd h1 h2
  go_enter Try.func168, Try.ntmps168
  go_wp2
  go_loop [3, 5] (fun x i => ∃ k : Int, x = .int .i64 (p10 k) ∧ i = .int .i64 k ∧ 0 ≤ k ∧ k ≤ n) (fun _ i => n.toNat - (intOf i).toNat)
  case atStart => exact ⟨0, rfl, rfl, by omega, by omega⟩
  case round =>
    obtain ⟨k, rfl, rfl, k0, k1⟩ := hrel
    by_cases hk : k < n
    · have hs := p10_s k0
      have b1 := p10_bd k0 (show k ≤ 7 by omega)
      generalize p10 k = p at hs b1
      go_wp2
      go_round
      case rel => exact ⟨k + 1, by rw [hs], rfl, by omega, by omega⟩
      case measure => simp only [intOf]; omega
    · have e : k = n := by omega
      subst e
      go_wp2
      go_ret
      exact ⟨rfl, rfl⟩

theorem w_l01Ten (n : Int) (h1 : 0 ≤ n) (h2 : n ≤ 7) (w : World) : Calls Try.prog 203 #[.int .i64 n] w fun e w' => e = .returned (.int .i64 (p10 n)) ∧ w = w' := by
  have := p10_bd h1 h2
  go_enter Try.func203, Try.ntmps203
  go_wp2
  go_loop [0, 3] (fun i x => ∃ k : Int, x = .int .i64 (p10 k) ∧ i = .int .i64 (n - k) ∧ 0 ≤ k ∧ k ≤ n) (fun i _ => (intOf i).toNat)
  case atStart => exact ⟨0, rfl, by rw [Int.sub_zero], by omega, by omega⟩
  case round =>
    obtain ⟨k, rfl, rfl, k0, k1⟩ := hrel
    by_cases hk : k < n
    · have hs := p10_s k0
      have b1 := p10_bd k0 (show k ≤ 7 by omega)
      generalize p10 k = p at hs b1
      go_wp2
      go_round
      case rel => exact ⟨k + 1, by rw [hs, Int.mul_comm], by rw [show n - k - 1 = n - (k + 1) by omega], by omega, by omega⟩
      case measure => simp only [intOf]; omega
    · have e : k = n := by omega
      subst e
      go_wp2
      go_ret
      exact ⟨rfl, rfl⟩

theorem w_relativeError (a b c d : Int) (h : isFig ⟨a, b⟩ = true) (h' : isFig ⟨c, d⟩ = true) (w : World) :
    Calls Try.prog 121 #[.agg #[.int .i64 a, .int .i64 b], .agg #[.int .i64 c, .int .i64 d]] w fun e w' => e = .returned (.tuple #[.int .i64 (relV ⟨a, b⟩ ⟨c, d⟩), .int .i64 (relC ⟨a, b⟩ ⟨c, d⟩)]) ∧ Later w w' := by
  have q := isFig_bd h
  have q' := isFig_bd h'
  simp only at q q'
  obtain ⟨q1, q2, q3, q4⟩ := q
  obtain ⟨r1, r2, r3, r4⟩ := q'
  by_cases k1 : 2 ≤ b - d
  · have HF := Lib.hid (show relV ⟨a, b⟩ ⟨c, d⟩ = 0 ∧ relC ⟨a, b⟩ ⟨c, d⟩ = 3 from by
      have e : relE ⟨a, b⟩ ⟨c, d⟩ = 9000001 := by unfold relE; rw [if_pos (by simp only; omega)]
      unfold relV relC
      rw [e]
      exact ⟨rfl, rfl⟩)
    clear h h'
    go_enter Try.func121, Try.ntmps121
    go_wp2
    go_ret2
    exact ⟨by rw [HF.out.1, HF.out.2]; rfl, by (repeat (with_reducible first | exact Later.refl _ | refine Later.alloc ?_ _ | refine Later.drew ?_ | refine Later.drewN ?_ _ | refine Later.setCell ?_ (by simp; try omega) _ | refine Later.trans ?_ (by assumption)))⟩
  by_cases k2 : b - d ≤ -8
  · have HF := Lib.hid (show relV ⟨a, b⟩ ⟨c, d⟩ = 1000000 ∧ relC ⟨a, b⟩ ⟨c, d⟩ = 0 from by
      have e : relE ⟨a, b⟩ ⟨c, d⟩ = 1000000 := by unfold relE; rw [if_neg (by simp only; omega), if_pos (by simp only; omega)]
      unfold relV relC
      rw [e]
      exact ⟨rfl, rfl⟩)
    clear h h'
    go_enter Try.func121, Try.ntmps121
    go_wp2
    go_ret2
    exact ⟨by rw [HF.out.1, HF.out.2]; rfl, by (repeat (with_reducible first | exact Later.refl _ | refine Later.alloc ?_ _ | refine Later.drew ?_ | refine Later.drewN ?_ _ | refine Later.setCell ?_ (by simp; try omega) _ | refine Later.trans ?_ (by assumption)))⟩
  have hE := relE_mid h h' k1 k2
  have hb := relQ_bd h h' k1 k2
  have hN := relN_bd (a := ⟨a, b⟩) (b := ⟨c, d⟩) h (by simp only; omega)
  have hD := relD_bd (a := ⟨a, b⟩) (b := ⟨c, d⟩) h' (by simp only; omega)
  obtain ⟨V, hV⟩ : ∃ x, relQ ⟨a, b⟩ ⟨c, d⟩ = x := ⟨_, rfl⟩
  obtain ⟨T, hT⟩ : ∃ x, b - d = x := ⟨_, rfl⟩
  have eN : relN ⟨a, b⟩ ⟨c, d⟩ = a * p10 (max 0 T) := by rw [← hT]; rfl
  have eD : relD ⟨a, b⟩ ⟨c, d⟩ = c * p10 (max 0 (-T)) := by rw [show -T = d - b by omega]; rfl
  obtain ⟨N, hNe⟩ : ∃ x, relN ⟨a, b⟩ ⟨c, d⟩ = x := ⟨_, rfl⟩
  obtain ⟨D, hDe⟩ : ∃ x, relD ⟨a, b⟩ ⟨c, d⟩ = x := ⟨_, rfl⟩
  have HQ := Lib.hid (show cdiv (1000000 * max (N - D) (D - N)) D = V from by rw [← hNe, ← hDe, ← hV]; rfl)
  have HF3 := Lib.hid (show V > 9000000 → relV ⟨a, b⟩ ⟨c, d⟩ = 0 ∧ relC ⟨a, b⟩ ⟨c, d⟩ = 3 from fun g => by
    unfold relV relC
    rw [hE, hV, if_pos g, if_pos g]
    exact ⟨rfl, rfl⟩)
  have HF0 := Lib.hid (show V ≤ 9000000 → relV ⟨a, b⟩ ⟨c, d⟩ = V ∧ relC ⟨a, b⟩ ⟨c, d⟩ = 0 from fun g => by
    unfold relV relC
    rw [hE, hV, if_neg (by omega), if_neg (by omega)]
    exact ⟨rfl, rfl⟩)
  rw [hV] at hb
  rw [hNe] at hN eN
  rw [hDe] at hD eD
  rw [hT] at k1 k2
  obtain ⟨b1, b2⟩ := hb
  obtain ⟨n1, n2⟩ := hN
  obtain ⟨d1, d2⟩ := hD
  clear hE hV hNe hDe h h'
  have HT := Lib.hid hT
  by_cases hs : 0 < T
  · have HN := Lib.hid (show a * p10 T = N from by rw [eN, show max 0 T = T by omega])
    have HD := Lib.hid (show c * p10 0 = D from by rw [eD, show max 0 (-T) = 0 by omega])
    have wD : IntKind.i64.wrap (b - d) = T := by rw [hT]; exact wrap_same (by omega) (by omega)
    clear eN eD hT
    go_enter Try.func121, Try.ntmps121
    go_wp2_with fail
    refine wp_name ?_
    intro z hz
    have hL0 : Later w z := by rw [hz]; exact ((Later.refl _).alloc _).alloc _
    have hSB := hL0.size
    have K0 : z.heap[w.heap.size]? = some (.cells #[.int .i64 a, .int .i64 b] 41 (0, 0)) := by rw [hz]; exact heap_alloc_old _ _ (heap_alloc_new _ _)
    have K1 : z.heap[w.heap.size + 1]? = some (.cells #[.int .i64 c, .int .i64 d] 41 (0, 0)) := by rw [hz]; exact heap_alloc_new' _ _ (by simp)
    clear hz
    refine region_slots 47 [21, 22, 23, 24, 25, 26, 27, 28, 29, 30, 31, 32, 33, 7, 8] (fun g ac wc => sl ac 2 = .pointer (some ⟨w.heap.size, 0, none⟩) ∧
      sl ac 3 = .pointer (some ⟨w.heap.size + 1, 0, none⟩) ∧
      sl ac 6 = .int .i64 T ∧
      (g 0 = true → sl ac 21 = .pointer (some ⟨w.heap.size, 0, none⟩)) ∧
      (g 1 = true → sl ac 22 = .int .i64 a) ∧
      (g 2 = true → sl ac 23 = .int .i64 T) ∧
      (g 3 = true → sl ac 24 = .int .i64 T) ∧
      (g 4 = true → sl ac 25 = .int .i64 (p10 (T))) ∧
      (g 5 = true → sl ac 26 = .int .i64 N) ∧
      (g 6 = true → sl ac 27 = .pointer (some ⟨w.heap.size + 1, 0, none⟩)) ∧
      (g 7 = true → sl ac 28 = .int .i64 c) ∧
      (g 8 = true → sl ac 29 = .int .i64 T) ∧
      (g 9 = true → sl ac 30 = .int .i64 (-T)) ∧
      (g 10 = true → sl ac 31 = .int .i64 0) ∧
      (g 11 = true → sl ac 32 = .int .i64 (p10 (0))) ∧
      (g 12 = true → sl ac 33 = .int .i64 D) ∧
      (g 13 = true → sl ac 7 = .int .i64 N) ∧
      (g 14 = true → sl ac 8 = .int .i64 D) ∧
      Later w wc ∧
      z.heap.size ≤ wc.heap.size ∧
      wc.heap[w.heap.size]? = some (.cells #[.int .i64 a, .int .i64 b] 41 (0, 0)) ∧
      wc.heap[w.heap.size + 1]? = some (.cells #[.int .i64 c, .int .i64 d] 41 (0, 0))) (by kernel_rfl) (by kernel_rfl) rfl (by kernel_rfl) ?_ ?_ ?_
    · exact ⟨rfl, rfl, rfl, nofun, nofun, nofun, nofun, nofun, nofun, nofun, nofun, nofun, nofun, nofun, nofun, nofun, nofun, nofun, hL0.drew, Nat.le_refl _, K0, K1⟩
    · intro g ac wu hg ha hI
      obtain ⟨x2, x3, x6, i0, i1, i2, i3, i4, i5, i6, i7, i8, i9, i10, i11, i12, i13, i14, hL, hS, B0, B1⟩ := hI
      have a0 := i0 (hg 0 (by simp))
      have a1 := i1 (hg 1 (by simp))
      have a2 := i2 (hg 2 (by simp))
      have a3 := i3 (hg 3 (by simp))
      have a4 := i4 (hg 4 (by simp))
      have a5 := i5 (hg 5 (by simp))
      have a6 := i6 (hg 6 (by simp))
      have a7 := i7 (hg 7 (by simp))
      have a8 := i8 (hg 8 (by simp))
      have a9 := i9 (hg 9 (by simp))
      have a10 := i10 (hg 10 (by simp))
      have a11 := i11 (hg 11 (by simp))
      have a12 := i12 (hg 12 (by simp))
      have a13 := i13 (hg 13 (by simp))
      have a14 := i14 (hg 14 (by simp))
      simp only [putAll, a0, a1, a2, a3, a4, a5, a6, a7, a8, a9, a10, a11, a12, a13, a14] at ha
      simp only [Act.put, List.setIfInBounds_toArray, List.set_cons_succ, List.set_cons_zero] at ha
      rw [ha]
      clear x2 x3 x6 i0 i1 i2 i3 i4 i5 i6 i7 i8 i9 i10 i11 i12 i13 i14 a0 a1 a2 a3 a4 a5 a6 a7 a8 a9 a10 a11 a12 a13 a14 hg ha
      have HL := Lib.hid hL
      clear hL hS B0 B1
      have HV1 := Lib.hid (show N ≤ D → cdiv (1000000 * (D - N)) D = V from fun k => by rw [← HQ.out, show max (N - D) (D - N) = D - N by omega])
      have HV2 := Lib.hid (show D ≤ N → cdiv (1000000 * (N - D)) D = V from fun k => by rw [← HQ.out, show max (N - D) (D - N) = N - D by omega])
      have wE : IntKind.i64.wrap (N - D) = N - D := wrap_same (by omega) (by omega)
      have wF : IntKind.i64.wrap (D - N) = D - N := wrap_same (by omega) (by omega)
      have wG : IntKind.i64.wrap (1000000 * (N - D)) = 1000000 * (N - D) := wrap_big (by omega) (by omega)
      have wH : IntKind.i64.wrap (1000000 * (D - N)) = 1000000 * (D - N) := wrap_big (by omega) (by omega)
      go_wp2_with fail
      all_goals
        refine (w_up _ _ (by omega) (by omega) (by omega) (by omega) _).mono ?_
        rintro e w4 ⟨rfl, rfl⟩
        first | rw [HV1.out (by omega)] | rw [HV2.out (by omega)]
        by_cases hv : V > 9000000
        · have HF := Lib.hid (HF3.out hv)
          go_wp2
          go_ret2
          exact ⟨by rw [HF.out.1, HF.out.2]; rfl, HL.out⟩
        · have HF := Lib.hid (HF0.out (by omega))
          go_wp2
          go_ret2
          exact ⟨by rw [HF.out.1, HF.out.2]; rfl, HL.out⟩
    · refine .cons ?_ (.cons ?_ (.cons ?_ (.cons ?_ (.cons ?_ (.cons ?_ (.cons ?_ (.cons ?_ (.cons ?_ (.cons ?_ (.cons ?_ (.cons ?_ (.cons ?_ (.cons ?_ (.cons ?_ .nil))))))))))))))
      · unfold SlotStep
        intro g ac wc hn hk hr hI K' hK
        obtain ⟨x2, x3, x6, i0, i1, i2, i3, i4, i5, i6, i7, i8, i9, i10, i11, i12, i13, i14, hL, hS, B0, B1⟩ := hI
        simp only [Region.binds] at hr
        simp at hr
        replace hK := Lib.hid hK
        replace i0 := Lib.hid i0
        replace i1 := Lib.hid i1
        replace i2 := Lib.hid i2
        replace i3 := Lib.hid i3
        replace i4 := Lib.hid i4
        replace i5 := Lib.hid i5
        replace i6 := Lib.hid i6
        replace i7 := Lib.hid i7
        replace i8 := Lib.hid i8
        replace i9 := Lib.hid i9
        replace i10 := Lib.hid i10
        replace i11 := Lib.hid i11
        replace i12 := Lib.hid i12
        replace i13 := Lib.hid i13
        replace i14 := Lib.hid i14
        go_simp
        exact hK.out _ _ ⟨(keepB x2 (by decide)), (keepB x3 (by decide)), (keepB x6 (by decide)), (fun _ => put_eq (by omega)), (keepF i1.out (by decide)), (keepF i2.out (by decide)), (keepF i3.out (by decide)), (keepF i4.out (by decide)), (keepF i5.out (by decide)), (keepF i6.out (by decide)), (keepF i7.out (by decide)), (keepF i8.out (by decide)), (keepF i9.out (by decide)), (keepF i10.out (by decide)), (keepF i11.out (by decide)), (keepF i12.out (by decide)), (keepF i13.out (by decide)), (keepF i14.out (by decide)), hL, hS, B0, B1⟩
      · unfold SlotStep
        intro g ac wc hn hk hr hI K' hK
        obtain ⟨x2, x3, x6, i0, i1, i2, i3, i4, i5, i6, i7, i8, i9, i10, i11, i12, i13, i14, hL, hS, B0, B1⟩ := hI
        simp only [Region.binds] at hr
        simp at hr
        replace hK := Lib.hid hK
        have y0 := i0 (by first | exact hr | exact hr.1 | exact hr.2 | exact hr.2.1 | exact hr.2.2 | exact hr.2.2.1 | exact hr.2.2.2 | simp [hr])
        replace i0 := Lib.hid i0
        replace i1 := Lib.hid i1
        replace i2 := Lib.hid i2
        replace i3 := Lib.hid i3
        replace i4 := Lib.hid i4
        replace i5 := Lib.hid i5
        replace i6 := Lib.hid i6
        replace i7 := Lib.hid i7
        replace i8 := Lib.hid i8
        replace i9 := Lib.hid i9
        replace i10 := Lib.hid i10
        replace i11 := Lib.hid i11
        replace i12 := Lib.hid i12
        replace i13 := Lib.hid i13
        replace i14 := Lib.hid i14
        have hbb := blk_at B0
        have c0 := hbb.1
        have f0 := hbb.2.1
        have z0 := hbb.2.2
        clear hbb
        go_simp
        exact hK.out _ _ ⟨(keepB x2 (by decide)), (keepB x3 (by decide)), (keepB x6 (by decide)), (keepF i0.out (by decide)), (fun _ => put_eq (by omega)), (keepF i2.out (by decide)), (keepF i3.out (by decide)), (keepF i4.out (by decide)), (keepF i5.out (by decide)), (keepF i6.out (by decide)), (keepF i7.out (by decide)), (keepF i8.out (by decide)), (keepF i9.out (by decide)), (keepF i10.out (by decide)), (keepF i11.out (by decide)), (keepF i12.out (by decide)), (keepF i13.out (by decide)), (keepF i14.out (by decide)), hL, hS, B0, B1⟩
      · unfold SlotStep
        intro g ac wc hn hk hr hI K' hK
        obtain ⟨x2, x3, x6, i0, i1, i2, i3, i4, i5, i6, i7, i8, i9, i10, i11, i12, i13, i14, hL, hS, B0, B1⟩ := hI
        simp only [Region.binds] at hr
        simp at hr
        replace hK := Lib.hid hK
        replace i0 := Lib.hid i0
        replace i1 := Lib.hid i1
        replace i2 := Lib.hid i2
        replace i3 := Lib.hid i3
        replace i4 := Lib.hid i4
        replace i5 := Lib.hid i5
        replace i6 := Lib.hid i6
        replace i7 := Lib.hid i7
        replace i8 := Lib.hid i8
        replace i9 := Lib.hid i9
        replace i10 := Lib.hid i10
        replace i11 := Lib.hid i11
        replace i12 := Lib.hid i12
        replace i13 := Lib.hid i13
        replace i14 := Lib.hid i14
        go_simp
        exact hK.out _ _ ⟨(keepB x2 (by decide)), (keepB x3 (by decide)), (keepB x6 (by decide)), (keepF i0.out (by decide)), (keepF i1.out (by decide)), (fun _ => put_eq (by omega)), (keepF i3.out (by decide)), (keepF i4.out (by decide)), (keepF i5.out (by decide)), (keepF i6.out (by decide)), (keepF i7.out (by decide)), (keepF i8.out (by decide)), (keepF i9.out (by decide)), (keepF i10.out (by decide)), (keepF i11.out (by decide)), (keepF i12.out (by decide)), (keepF i13.out (by decide)), (keepF i14.out (by decide)), hL, hS, B0, B1⟩
      · unfold SlotStep
        intro g ac wc hn hk hr hI K' hK
        obtain ⟨x2, x3, x6, i0, i1, i2, i3, i4, i5, i6, i7, i8, i9, i10, i11, i12, i13, i14, hL, hS, B0, B1⟩ := hI
        simp only [Region.binds] at hr
        simp at hr
        replace hK := Lib.hid hK
        have y2 := i2 (by first | exact hr | exact hr.1 | exact hr.2 | exact hr.2.1 | exact hr.2.2 | exact hr.2.2.1 | exact hr.2.2.2 | simp [hr])
        replace i0 := Lib.hid i0
        replace i1 := Lib.hid i1
        replace i2 := Lib.hid i2
        replace i3 := Lib.hid i3
        replace i4 := Lib.hid i4
        replace i5 := Lib.hid i5
        replace i6 := Lib.hid i6
        replace i7 := Lib.hid i7
        replace i8 := Lib.hid i8
        replace i9 := Lib.hid i9
        replace i10 := Lib.hid i10
        replace i11 := Lib.hid i11
        replace i12 := Lib.hid i12
        replace i13 := Lib.hid i13
        replace i14 := Lib.hid i14
        go_simp
        first | rw [show (if 0 < T then T else 0) = T from by split <;> omega] | skip
        exact hK.out _ _ ⟨(keepB x2 (by decide)), (keepB x3 (by decide)), (keepB x6 (by decide)), (keepF i0.out (by decide)), (keepF i1.out (by decide)), (keepF i2.out (by decide)), (fun _ => put_eq (by omega)), (keepF i4.out (by decide)), (keepF i5.out (by decide)), (keepF i6.out (by decide)), (keepF i7.out (by decide)), (keepF i8.out (by decide)), (keepF i9.out (by decide)), (keepF i10.out (by decide)), (keepF i11.out (by decide)), (keepF i12.out (by decide)), (keepF i13.out (by decide)), (keepF i14.out (by decide)), hL, hS, B0, B1⟩
      · unfold SlotStep
        intro g ac wc hn hk hr hI K' hK
        obtain ⟨x2, x3, x6, i0, i1, i2, i3, i4, i5, i6, i7, i8, i9, i10, i11, i12, i13, i14, hL, hS, B0, B1⟩ := hI
        simp only [Region.binds] at hr
        simp at hr
        replace hK := Lib.hid hK
        have y3 := i3 (by first | exact hr | exact hr.1 | exact hr.2 | exact hr.2.1 | exact hr.2.2 | exact hr.2.2.1 | exact hr.2.2.2 | simp [hr])
        replace i0 := Lib.hid i0
        replace i1 := Lib.hid i1
        replace i2 := Lib.hid i2
        replace i3 := Lib.hid i3
        replace i4 := Lib.hid i4
        replace i5 := Lib.hid i5
        replace i6 := Lib.hid i6
        replace i7 := Lib.hid i7
        replace i8 := Lib.hid i8
        replace i9 := Lib.hid i9
        replace i10 := Lib.hid i10
        replace i11 := Lib.hid i11
        replace i12 := Lib.hid i12
        replace i13 := Lib.hid i13
        replace i14 := Lib.hid i14
        go_simp
        refine (w_ten _ (by omega) (by omega) _).mono ?_
        rintro e w4 ⟨rfl, rfl⟩
        exact hK.out _ _ ⟨(keepB x2 (by decide)), (keepB x3 (by decide)), (keepB x6 (by decide)), (keepF i0.out (by decide)), (keepF i1.out (by decide)), (keepF i2.out (by decide)), (keepF i3.out (by decide)), (fun _ => put_eq (by omega)), (keepF i5.out (by decide)), (keepF i6.out (by decide)), (keepF i7.out (by decide)), (keepF i8.out (by decide)), (keepF i9.out (by decide)), (keepF i10.out (by decide)), (keepF i11.out (by decide)), (keepF i12.out (by decide)), (keepF i13.out (by decide)), (keepF i14.out (by decide)), hL, hS, B0, B1⟩
      · unfold SlotStep
        intro g ac wc hn hk hr hI K' hK
        obtain ⟨x2, x3, x6, i0, i1, i2, i3, i4, i5, i6, i7, i8, i9, i10, i11, i12, i13, i14, hL, hS, B0, B1⟩ := hI
        simp only [Region.binds] at hr
        simp at hr
        replace hK := Lib.hid hK
        have y1 := i1 (by first | exact hr | exact hr.1 | exact hr.2 | exact hr.2.1 | exact hr.2.2 | exact hr.2.2.1 | exact hr.2.2.2 | simp [hr])
        have y4 := i4 (by first | exact hr | exact hr.1 | exact hr.2 | exact hr.2.1 | exact hr.2.2 | exact hr.2.2.1 | exact hr.2.2.2 | simp [hr])
        replace i0 := Lib.hid i0
        replace i1 := Lib.hid i1
        replace i2 := Lib.hid i2
        replace i3 := Lib.hid i3
        replace i4 := Lib.hid i4
        replace i5 := Lib.hid i5
        replace i6 := Lib.hid i6
        replace i7 := Lib.hid i7
        replace i8 := Lib.hid i8
        replace i9 := Lib.hid i9
        replace i10 := Lib.hid i10
        replace i11 := Lib.hid i11
        replace i12 := Lib.hid i12
        replace i13 := Lib.hid i13
        replace i14 := Lib.hid i14
        have wD : IntKind.i64.wrap (a * p10 (T)) = N := by rw [HN.out]; exact wrap_same (by omega) (by omega)
        go_simp
        exact hK.out _ _ ⟨(keepB x2 (by decide)), (keepB x3 (by decide)), (keepB x6 (by decide)), (keepF i0.out (by decide)), (keepF i1.out (by decide)), (keepF i2.out (by decide)), (keepF i3.out (by decide)), (keepF i4.out (by decide)), (fun _ => put_eq (by omega)), (keepF i6.out (by decide)), (keepF i7.out (by decide)), (keepF i8.out (by decide)), (keepF i9.out (by decide)), (keepF i10.out (by decide)), (keepF i11.out (by decide)), (keepF i12.out (by decide)), (keepF i13.out (by decide)), (keepF i14.out (by decide)), hL, hS, B0, B1⟩
      · unfold SlotStep
        intro g ac wc hn hk hr hI K' hK
        obtain ⟨x2, x3, x6, i0, i1, i2, i3, i4, i5, i6, i7, i8, i9, i10, i11, i12, i13, i14, hL, hS, B0, B1⟩ := hI
        simp only [Region.binds] at hr
        simp at hr
        replace hK := Lib.hid hK
        replace i0 := Lib.hid i0
        replace i1 := Lib.hid i1
        replace i2 := Lib.hid i2
        replace i3 := Lib.hid i3
        replace i4 := Lib.hid i4
        replace i5 := Lib.hid i5
        replace i6 := Lib.hid i6
        replace i7 := Lib.hid i7
        replace i8 := Lib.hid i8
        replace i9 := Lib.hid i9
        replace i10 := Lib.hid i10
        replace i11 := Lib.hid i11
        replace i12 := Lib.hid i12
        replace i13 := Lib.hid i13
        replace i14 := Lib.hid i14
        go_simp
        exact hK.out _ _ ⟨(keepB x2 (by decide)), (keepB x3 (by decide)), (keepB x6 (by decide)), (keepF i0.out (by decide)), (keepF i1.out (by decide)), (keepF i2.out (by decide)), (keepF i3.out (by decide)), (keepF i4.out (by decide)), (keepF i5.out (by decide)), (fun _ => put_eq (by omega)), (keepF i7.out (by decide)), (keepF i8.out (by decide)), (keepF i9.out (by decide)), (keepF i10.out (by decide)), (keepF i11.out (by decide)), (keepF i12.out (by decide)), (keepF i13.out (by decide)), (keepF i14.out (by decide)), hL, hS, B0, B1⟩
      · unfold SlotStep
        intro g ac wc hn hk hr hI K' hK
        obtain ⟨x2, x3, x6, i0, i1, i2, i3, i4, i5, i6, i7, i8, i9, i10, i11, i12, i13, i14, hL, hS, B0, B1⟩ := hI
        simp only [Region.binds] at hr
        simp at hr
        replace hK := Lib.hid hK
        have y6 := i6 (by first | exact hr | exact hr.1 | exact hr.2 | exact hr.2.1 | exact hr.2.2 | exact hr.2.2.1 | exact hr.2.2.2 | simp [hr])
        replace i0 := Lib.hid i0
        replace i1 := Lib.hid i1
        replace i2 := Lib.hid i2
        replace i3 := Lib.hid i3
        replace i4 := Lib.hid i4
        replace i5 := Lib.hid i5
        replace i6 := Lib.hid i6
        replace i7 := Lib.hid i7
        replace i8 := Lib.hid i8
        replace i9 := Lib.hid i9
        replace i10 := Lib.hid i10
        replace i11 := Lib.hid i11
        replace i12 := Lib.hid i12
        replace i13 := Lib.hid i13
        replace i14 := Lib.hid i14
        have hbb := blk_at B1
        have c0 := hbb.1
        have f0 := hbb.2.1
        have z0 := hbb.2.2
        clear hbb
        go_simp
        exact hK.out _ _ ⟨(keepB x2 (by decide)), (keepB x3 (by decide)), (keepB x6 (by decide)), (keepF i0.out (by decide)), (keepF i1.out (by decide)), (keepF i2.out (by decide)), (keepF i3.out (by decide)), (keepF i4.out (by decide)), (keepF i5.out (by decide)), (keepF i6.out (by decide)), (fun _ => put_eq (by omega)), (keepF i8.out (by decide)), (keepF i9.out (by decide)), (keepF i10.out (by decide)), (keepF i11.out (by decide)), (keepF i12.out (by decide)), (keepF i13.out (by decide)), (keepF i14.out (by decide)), hL, hS, B0, B1⟩
      · unfold SlotStep
        intro g ac wc hn hk hr hI K' hK
        obtain ⟨x2, x3, x6, i0, i1, i2, i3, i4, i5, i6, i7, i8, i9, i10, i11, i12, i13, i14, hL, hS, B0, B1⟩ := hI
        simp only [Region.binds] at hr
        simp at hr
        replace hK := Lib.hid hK
        replace i0 := Lib.hid i0
        replace i1 := Lib.hid i1
        replace i2 := Lib.hid i2
        replace i3 := Lib.hid i3
        replace i4 := Lib.hid i4
        replace i5 := Lib.hid i5
        replace i6 := Lib.hid i6
        replace i7 := Lib.hid i7
        replace i8 := Lib.hid i8
        replace i9 := Lib.hid i9
        replace i10 := Lib.hid i10
        replace i11 := Lib.hid i11
        replace i12 := Lib.hid i12
        replace i13 := Lib.hid i13
        replace i14 := Lib.hid i14
        go_simp
        exact hK.out _ _ ⟨(keepB x2 (by decide)), (keepB x3 (by decide)), (keepB x6 (by decide)), (keepF i0.out (by decide)), (keepF i1.out (by decide)), (keepF i2.out (by decide)), (keepF i3.out (by decide)), (keepF i4.out (by decide)), (keepF i5.out (by decide)), (keepF i6.out (by decide)), (keepF i7.out (by decide)), (fun _ => put_eq (by omega)), (keepF i9.out (by decide)), (keepF i10.out (by decide)), (keepF i11.out (by decide)), (keepF i12.out (by decide)), (keepF i13.out (by decide)), (keepF i14.out (by decide)), hL, hS, B0, B1⟩
      · unfold SlotStep
        intro g ac wc hn hk hr hI K' hK
        obtain ⟨x2, x3, x6, i0, i1, i2, i3, i4, i5, i6, i7, i8, i9, i10, i11, i12, i13, i14, hL, hS, B0, B1⟩ := hI
        simp only [Region.binds] at hr
        simp at hr
        replace hK := Lib.hid hK
        have y8 := i8 (by first | exact hr | exact hr.1 | exact hr.2 | exact hr.2.1 | exact hr.2.2 | exact hr.2.2.1 | exact hr.2.2.2 | simp [hr])
        replace i0 := Lib.hid i0
        replace i1 := Lib.hid i1
        replace i2 := Lib.hid i2
        replace i3 := Lib.hid i3
        replace i4 := Lib.hid i4
        replace i5 := Lib.hid i5
        replace i6 := Lib.hid i6
        replace i7 := Lib.hid i7
        replace i8 := Lib.hid i8
        replace i9 := Lib.hid i9
        replace i10 := Lib.hid i10
        replace i11 := Lib.hid i11
        replace i12 := Lib.hid i12
        replace i13 := Lib.hid i13
        replace i14 := Lib.hid i14
        have wD : IntKind.i64.wrap (-T) = -T := wrap_same (by omega) (by omega)
        go_simp
        exact hK.out _ _ ⟨(keepB x2 (by decide)), (keepB x3 (by decide)), (keepB x6 (by decide)), (keepF i0.out (by decide)), (keepF i1.out (by decide)), (keepF i2.out (by decide)), (keepF i3.out (by decide)), (keepF i4.out (by decide)), (keepF i5.out (by decide)), (keepF i6.out (by decide)), (keepF i7.out (by decide)), (keepF i8.out (by decide)), (fun _ => put_eq (by omega)), (keepF i10.out (by decide)), (keepF i11.out (by decide)), (keepF i12.out (by decide)), (keepF i13.out (by decide)), (keepF i14.out (by decide)), hL, hS, B0, B1⟩
      · unfold SlotStep
        intro g ac wc hn hk hr hI K' hK
        obtain ⟨x2, x3, x6, i0, i1, i2, i3, i4, i5, i6, i7, i8, i9, i10, i11, i12, i13, i14, hL, hS, B0, B1⟩ := hI
        simp only [Region.binds] at hr
        simp at hr
        replace hK := Lib.hid hK
        have y9 := i9 (by first | exact hr | exact hr.1 | exact hr.2 | exact hr.2.1 | exact hr.2.2 | exact hr.2.2.1 | exact hr.2.2.2 | simp [hr])
        replace i0 := Lib.hid i0
        replace i1 := Lib.hid i1
        replace i2 := Lib.hid i2
        replace i3 := Lib.hid i3
        replace i4 := Lib.hid i4
        replace i5 := Lib.hid i5
        replace i6 := Lib.hid i6
        replace i7 := Lib.hid i7
        replace i8 := Lib.hid i8
        replace i9 := Lib.hid i9
        replace i10 := Lib.hid i10
        replace i11 := Lib.hid i11
        replace i12 := Lib.hid i12
        replace i13 := Lib.hid i13
        replace i14 := Lib.hid i14
        go_simp
        first | rw [show (if T < 0 then -T else 0) = 0 from by split <;> omega] | skip
        exact hK.out _ _ ⟨(keepB x2 (by decide)), (keepB x3 (by decide)), (keepB x6 (by decide)), (keepF i0.out (by decide)), (keepF i1.out (by decide)), (keepF i2.out (by decide)), (keepF i3.out (by decide)), (keepF i4.out (by decide)), (keepF i5.out (by decide)), (keepF i6.out (by decide)), (keepF i7.out (by decide)), (keepF i8.out (by decide)), (keepF i9.out (by decide)), (fun _ => put_eq (by omega)), (keepF i11.out (by decide)), (keepF i12.out (by decide)), (keepF i13.out (by decide)), (keepF i14.out (by decide)), hL, hS, B0, B1⟩
      · unfold SlotStep
        intro g ac wc hn hk hr hI K' hK
        obtain ⟨x2, x3, x6, i0, i1, i2, i3, i4, i5, i6, i7, i8, i9, i10, i11, i12, i13, i14, hL, hS, B0, B1⟩ := hI
        simp only [Region.binds] at hr
        simp at hr
        replace hK := Lib.hid hK
        have y10 := i10 (by first | exact hr | exact hr.1 | exact hr.2 | exact hr.2.1 | exact hr.2.2 | exact hr.2.2.1 | exact hr.2.2.2 | simp [hr])
        replace i0 := Lib.hid i0
        replace i1 := Lib.hid i1
        replace i2 := Lib.hid i2
        replace i3 := Lib.hid i3
        replace i4 := Lib.hid i4
        replace i5 := Lib.hid i5
        replace i6 := Lib.hid i6
        replace i7 := Lib.hid i7
        replace i8 := Lib.hid i8
        replace i9 := Lib.hid i9
        replace i10 := Lib.hid i10
        replace i11 := Lib.hid i11
        replace i12 := Lib.hid i12
        replace i13 := Lib.hid i13
        replace i14 := Lib.hid i14
        go_simp
        refine (w_ten _ (by omega) (by omega) _).mono ?_
        rintro e w4 ⟨rfl, rfl⟩
        exact hK.out _ _ ⟨(keepB x2 (by decide)), (keepB x3 (by decide)), (keepB x6 (by decide)), (keepF i0.out (by decide)), (keepF i1.out (by decide)), (keepF i2.out (by decide)), (keepF i3.out (by decide)), (keepF i4.out (by decide)), (keepF i5.out (by decide)), (keepF i6.out (by decide)), (keepF i7.out (by decide)), (keepF i8.out (by decide)), (keepF i9.out (by decide)), (keepF i10.out (by decide)), (fun _ => put_eq (by omega)), (keepF i12.out (by decide)), (keepF i13.out (by decide)), (keepF i14.out (by decide)), hL, hS, B0, B1⟩
      · unfold SlotStep
        intro g ac wc hn hk hr hI K' hK
        obtain ⟨x2, x3, x6, i0, i1, i2, i3, i4, i5, i6, i7, i8, i9, i10, i11, i12, i13, i14, hL, hS, B0, B1⟩ := hI
        simp only [Region.binds] at hr
        simp at hr
        replace hK := Lib.hid hK
        have y7 := i7 (by first | exact hr | exact hr.1 | exact hr.2 | exact hr.2.1 | exact hr.2.2 | exact hr.2.2.1 | exact hr.2.2.2 | simp [hr])
        have y11 := i11 (by first | exact hr | exact hr.1 | exact hr.2 | exact hr.2.1 | exact hr.2.2 | exact hr.2.2.1 | exact hr.2.2.2 | simp [hr])
        replace i0 := Lib.hid i0
        replace i1 := Lib.hid i1
        replace i2 := Lib.hid i2
        replace i3 := Lib.hid i3
        replace i4 := Lib.hid i4
        replace i5 := Lib.hid i5
        replace i6 := Lib.hid i6
        replace i7 := Lib.hid i7
        replace i8 := Lib.hid i8
        replace i9 := Lib.hid i9
        replace i10 := Lib.hid i10
        replace i11 := Lib.hid i11
        replace i12 := Lib.hid i12
        replace i13 := Lib.hid i13
        replace i14 := Lib.hid i14
        have wD : IntKind.i64.wrap (c * p10 (0)) = D := by rw [HD.out]; exact wrap_same (by omega) (by omega)
        go_simp
        exact hK.out _ _ ⟨(keepB x2 (by decide)), (keepB x3 (by decide)), (keepB x6 (by decide)), (keepF i0.out (by decide)), (keepF i1.out (by decide)), (keepF i2.out (by decide)), (keepF i3.out (by decide)), (keepF i4.out (by decide)), (keepF i5.out (by decide)), (keepF i6.out (by decide)), (keepF i7.out (by decide)), (keepF i8.out (by decide)), (keepF i9.out (by decide)), (keepF i10.out (by decide)), (keepF i11.out (by decide)), (fun _ => put_eq (by omega)), (keepF i13.out (by decide)), (keepF i14.out (by decide)), hL, hS, B0, B1⟩
      · unfold SlotStep
        intro g ac wc hn hk hr hI K' hK
        obtain ⟨x2, x3, x6, i0, i1, i2, i3, i4, i5, i6, i7, i8, i9, i10, i11, i12, i13, i14, hL, hS, B0, B1⟩ := hI
        simp only [Region.binds] at hr
        simp at hr
        replace hK := Lib.hid hK
        have y5 := i5 (by first | exact hr | exact hr.1 | exact hr.2 | exact hr.2.1 | exact hr.2.2 | exact hr.2.2.1 | exact hr.2.2.2 | simp [hr])
        replace i0 := Lib.hid i0
        replace i1 := Lib.hid i1
        replace i2 := Lib.hid i2
        replace i3 := Lib.hid i3
        replace i4 := Lib.hid i4
        replace i5 := Lib.hid i5
        replace i6 := Lib.hid i6
        replace i7 := Lib.hid i7
        replace i8 := Lib.hid i8
        replace i9 := Lib.hid i9
        replace i10 := Lib.hid i10
        replace i11 := Lib.hid i11
        replace i12 := Lib.hid i12
        replace i13 := Lib.hid i13
        replace i14 := Lib.hid i14
        go_simp
        exact hK.out _ _ ⟨(keepB x2 (by decide)), (keepB x3 (by decide)), (keepB x6 (by decide)), (keepF i0.out (by decide)), (keepF i1.out (by decide)), (keepF i2.out (by decide)), (keepF i3.out (by decide)), (keepF i4.out (by decide)), (keepF i5.out (by decide)), (keepF i6.out (by decide)), (keepF i7.out (by decide)), (keepF i8.out (by decide)), (keepF i9.out (by decide)), (keepF i10.out (by decide)), (keepF i11.out (by decide)), (keepF i12.out (by decide)), (fun _ => put_eq (by omega)), (keepF i14.out (by decide)), hL, hS, B0, B1⟩
      · unfold SlotStep
        intro g ac wc hn hk hr hI K' hK
        obtain ⟨x2, x3, x6, i0, i1, i2, i3, i4, i5, i6, i7, i8, i9, i10, i11, i12, i13, i14, hL, hS, B0, B1⟩ := hI
        simp only [Region.binds] at hr
        simp at hr
        replace hK := Lib.hid hK
        have y12 := i12 (by first | exact hr | exact hr.1 | exact hr.2 | exact hr.2.1 | exact hr.2.2 | exact hr.2.2.1 | exact hr.2.2.2 | simp [hr])
        replace i0 := Lib.hid i0
        replace i1 := Lib.hid i1
        replace i2 := Lib.hid i2
        replace i3 := Lib.hid i3
        replace i4 := Lib.hid i4
        replace i5 := Lib.hid i5
        replace i6 := Lib.hid i6
        replace i7 := Lib.hid i7
        replace i8 := Lib.hid i8
        replace i9 := Lib.hid i9
        replace i10 := Lib.hid i10
        replace i11 := Lib.hid i11
        replace i12 := Lib.hid i12
        replace i13 := Lib.hid i13
        replace i14 := Lib.hid i14
        go_simp
        exact hK.out _ _ ⟨(keepB x2 (by decide)), (keepB x3 (by decide)), (keepB x6 (by decide)), (keepF i0.out (by decide)), (keepF i1.out (by decide)), (keepF i2.out (by decide)), (keepF i3.out (by decide)), (keepF i4.out (by decide)), (keepF i5.out (by decide)), (keepF i6.out (by decide)), (keepF i7.out (by decide)), (keepF i8.out (by decide)), (keepF i9.out (by decide)), (keepF i10.out (by decide)), (keepF i11.out (by decide)), (keepF i12.out (by decide)), (keepF i13.out (by decide)), (fun _ => put_eq (by omega)), hL, hS, B0, B1⟩
  · have HN := Lib.hid (show a * p10 0 = N from by rw [eN, show max 0 T = 0 by omega])
    have HD := Lib.hid (show c * p10 (-T) = D from by rw [eD, show max 0 (-T) = -T by omega])
    have wD : IntKind.i64.wrap (b - d) = T := by rw [hT]; exact wrap_same (by omega) (by omega)
    clear eN eD hT
    go_enter Try.func121, Try.ntmps121
    go_wp2_with fail
    refine wp_name ?_
    intro z hz
    have hL0 : Later w z := by rw [hz]; exact ((Later.refl _).alloc _).alloc _
    have hSB := hL0.size
    have K0 : z.heap[w.heap.size]? = some (.cells #[.int .i64 a, .int .i64 b] 41 (0, 0)) := by rw [hz]; exact heap_alloc_old _ _ (heap_alloc_new _ _)
    have K1 : z.heap[w.heap.size + 1]? = some (.cells #[.int .i64 c, .int .i64 d] 41 (0, 0)) := by rw [hz]; exact heap_alloc_new' _ _ (by simp)
    clear hz
    refine region_slots 47 [21, 22, 23, 24, 25, 26, 27, 28, 29, 30, 31, 32, 33, 7, 8] (fun g ac wc => sl ac 2 = .pointer (some ⟨w.heap.size, 0, none⟩) ∧
      sl ac 3 = .pointer (some ⟨w.heap.size + 1, 0, none⟩) ∧
      sl ac 6 = .int .i64 T ∧
      (g 0 = true → sl ac 21 = .pointer (some ⟨w.heap.size, 0, none⟩)) ∧
      (g 1 = true → sl ac 22 = .int .i64 a) ∧
      (g 2 = true → sl ac 23 = .int .i64 T) ∧
      (g 3 = true → sl ac 24 = .int .i64 0) ∧
      (g 4 = true → sl ac 25 = .int .i64 (p10 (0))) ∧
      (g 5 = true → sl ac 26 = .int .i64 N) ∧
      (g 6 = true → sl ac 27 = .pointer (some ⟨w.heap.size + 1, 0, none⟩)) ∧
      (g 7 = true → sl ac 28 = .int .i64 c) ∧
      (g 8 = true → sl ac 29 = .int .i64 T) ∧
      (g 9 = true → sl ac 30 = .int .i64 (-T)) ∧
      (g 10 = true → sl ac 31 = .int .i64 (-T)) ∧
      (g 11 = true → sl ac 32 = .int .i64 (p10 (-T))) ∧
      (g 12 = true → sl ac 33 = .int .i64 D) ∧
      (g 13 = true → sl ac 7 = .int .i64 N) ∧
      (g 14 = true → sl ac 8 = .int .i64 D) ∧
      Later w wc ∧
      z.heap.size ≤ wc.heap.size ∧
      wc.heap[w.heap.size]? = some (.cells #[.int .i64 a, .int .i64 b] 41 (0, 0)) ∧
      wc.heap[w.heap.size + 1]? = some (.cells #[.int .i64 c, .int .i64 d] 41 (0, 0))) (by kernel_rfl) (by kernel_rfl) rfl (by kernel_rfl) ?_ ?_ ?_
    · exact ⟨rfl, rfl, rfl, nofun, nofun, nofun, nofun, nofun, nofun, nofun, nofun, nofun, nofun, nofun, nofun, nofun, nofun, nofun, hL0.drew, Nat.le_refl _, K0, K1⟩
    · intro g ac wu hg ha hI
      obtain ⟨x2, x3, x6, i0, i1, i2, i3, i4, i5, i6, i7, i8, i9, i10, i11, i12, i13, i14, hL, hS, B0, B1⟩ := hI
      have a0 := i0 (hg 0 (by simp))
      have a1 := i1 (hg 1 (by simp))
      have a2 := i2 (hg 2 (by simp))
      have a3 := i3 (hg 3 (by simp))
      have a4 := i4 (hg 4 (by simp))
      have a5 := i5 (hg 5 (by simp))
      have a6 := i6 (hg 6 (by simp))
      have a7 := i7 (hg 7 (by simp))
      have a8 := i8 (hg 8 (by simp))
      have a9 := i9 (hg 9 (by simp))
      have a10 := i10 (hg 10 (by simp))
      have a11 := i11 (hg 11 (by simp))
      have a12 := i12 (hg 12 (by simp))
      have a13 := i13 (hg 13 (by simp))
      have a14 := i14 (hg 14 (by simp))
      simp only [putAll, a0, a1, a2, a3, a4, a5, a6, a7, a8, a9, a10, a11, a12, a13, a14] at ha
      simp only [Act.put, List.setIfInBounds_toArray, List.set_cons_succ, List.set_cons_zero] at ha
      rw [ha]
      clear x2 x3 x6 i0 i1 i2 i3 i4 i5 i6 i7 i8 i9 i10 i11 i12 i13 i14 a0 a1 a2 a3 a4 a5 a6 a7 a8 a9 a10 a11 a12 a13 a14 hg ha
      have HL := Lib.hid hL
      clear hL hS B0 B1
      have HV1 := Lib.hid (show N ≤ D → cdiv (1000000 * (D - N)) D = V from fun k => by rw [← HQ.out, show max (N - D) (D - N) = D - N by omega])
      have HV2 := Lib.hid (show D ≤ N → cdiv (1000000 * (N - D)) D = V from fun k => by rw [← HQ.out, show max (N - D) (D - N) = N - D by omega])
      have wE : IntKind.i64.wrap (N - D) = N - D := wrap_same (by omega) (by omega)
      have wF : IntKind.i64.wrap (D - N) = D - N := wrap_same (by omega) (by omega)
      have wG : IntKind.i64.wrap (1000000 * (N - D)) = 1000000 * (N - D) := wrap_big (by omega) (by omega)
      have wH : IntKind.i64.wrap (1000000 * (D - N)) = 1000000 * (D - N) := wrap_big (by omega) (by omega)
      go_wp2_with fail
      all_goals
        refine (w_up _ _ (by omega) (by omega) (by omega) (by omega) _).mono ?_
        rintro e w4 ⟨rfl, rfl⟩
        first | rw [HV1.out (by omega)] | rw [HV2.out (by omega)]
        by_cases hv : V > 9000000
        · have HF := Lib.hid (HF3.out hv)
          go_wp2
          go_ret2
          exact ⟨by rw [HF.out.1, HF.out.2]; rfl, HL.out⟩
        · have HF := Lib.hid (HF0.out (by omega))
          go_wp2
          go_ret2
          exact ⟨by rw [HF.out.1, HF.out.2]; rfl, HL.out⟩
    · refine .cons ?_ (.cons ?_ (.cons ?_ (.cons ?_ (.cons ?_ (.cons ?_ (.cons ?_ (.cons ?_ (.cons ?_ (.cons ?_ (.cons ?_ (.cons ?_ (.cons ?_ (.cons ?_ (.cons ?_ .nil))))))))))))))
      · unfold SlotStep
        intro g ac wc hn hk hr hI K' hK
        obtain ⟨x2, x3, x6, i0, i1, i2, i3, i4, i5, i6, i7, i8, i9, i10, i11, i12, i13, i14, hL, hS, B0, B1⟩ := hI
        simp only [Region.binds] at hr
        simp at hr
        replace hK := Lib.hid hK
        replace i0 := Lib.hid i0
        replace i1 := Lib.hid i1
        replace i2 := Lib.hid i2
        replace i3 := Lib.hid i3
        replace i4 := Lib.hid i4
        replace i5 := Lib.hid i5
        replace i6 := Lib.hid i6
        replace i7 := Lib.hid i7
        replace i8 := Lib.hid i8
        replace i9 := Lib.hid i9
        replace i10 := Lib.hid i10
        replace i11 := Lib.hid i11
        replace i12 := Lib.hid i12
        replace i13 := Lib.hid i13
        replace i14 := Lib.hid i14
        go_simp
        exact hK.out _ _ ⟨(keepB x2 (by decide)), (keepB x3 (by decide)), (keepB x6 (by decide)), (fun _ => put_eq (by omega)), (keepF i1.out (by decide)), (keepF i2.out (by decide)), (keepF i3.out (by decide)), (keepF i4.out (by decide)), (keepF i5.out (by decide)), (keepF i6.out (by decide)), (keepF i7.out (by decide)), (keepF i8.out (by decide)), (keepF i9.out (by decide)), (keepF i10.out (by decide)), (keepF i11.out (by decide)), (keepF i12.out (by decide)), (keepF i13.out (by decide)), (keepF i14.out (by decide)), hL, hS, B0, B1⟩
      · unfold SlotStep
        intro g ac wc hn hk hr hI K' hK
        obtain ⟨x2, x3, x6, i0, i1, i2, i3, i4, i5, i6, i7, i8, i9, i10, i11, i12, i13, i14, hL, hS, B0, B1⟩ := hI
        simp only [Region.binds] at hr
        simp at hr
        replace hK := Lib.hid hK
        have y0 := i0 (by first | exact hr | exact hr.1 | exact hr.2 | exact hr.2.1 | exact hr.2.2 | exact hr.2.2.1 | exact hr.2.2.2 | simp [hr])
        replace i0 := Lib.hid i0
        replace i1 := Lib.hid i1
        replace i2 := Lib.hid i2
        replace i3 := Lib.hid i3
        replace i4 := Lib.hid i4
        replace i5 := Lib.hid i5
        replace i6 := Lib.hid i6
        replace i7 := Lib.hid i7
        replace i8 := Lib.hid i8
        replace i9 := Lib.hid i9
        replace i10 := Lib.hid i10
        replace i11 := Lib.hid i11
        replace i12 := Lib.hid i12
        replace i13 := Lib.hid i13
        replace i14 := Lib.hid i14
        have hbb := blk_at B0
        have c0 := hbb.1
        have f0 := hbb.2.1
        have z0 := hbb.2.2
        clear hbb
        go_simp
        exact hK.out _ _ ⟨(keepB x2 (by decide)), (keepB x3 (by decide)), (keepB x6 (by decide)), (keepF i0.out (by decide)), (fun _ => put_eq (by omega)), (keepF i2.out (by decide)), (keepF i3.out (by decide)), (keepF i4.out (by decide)), (keepF i5.out (by decide)), (keepF i6.out (by decide)), (keepF i7.out (by decide)), (keepF i8.out (by decide)), (keepF i9.out (by decide)), (keepF i10.out (by decide)), (keepF i11.out (by decide)), (keepF i12.out (by decide)), (keepF i13.out (by decide)), (keepF i14.out (by decide)), hL, hS, B0, B1⟩
      · unfold SlotStep
        intro g ac wc hn hk hr hI K' hK
        obtain ⟨x2, x3, x6, i0, i1, i2, i3, i4, i5, i6, i7, i8, i9, i10, i11, i12, i13, i14, hL, hS, B0, B1⟩ := hI
        simp only [Region.binds] at hr
        simp at hr
        replace hK := Lib.hid hK
        replace i0 := Lib.hid i0
        replace i1 := Lib.hid i1
        replace i2 := Lib.hid i2
        replace i3 := Lib.hid i3
        replace i4 := Lib.hid i4
        replace i5 := Lib.hid i5
        replace i6 := Lib.hid i6
        replace i7 := Lib.hid i7
        replace i8 := Lib.hid i8
        replace i9 := Lib.hid i9
        replace i10 := Lib.hid i10
        replace i11 := Lib.hid i11
        replace i12 := Lib.hid i12
        replace i13 := Lib.hid i13
        replace i14 := Lib.hid i14
        go_simp
        exact hK.out _ _ ⟨(keepB x2 (by decide)), (keepB x3 (by decide)), (keepB x6 (by decide)), (keepF i0.out (by decide)), (keepF i1.out (by decide)), (fun _ => put_eq (by omega)), (keepF i3.out (by decide)), (keepF i4.out (by decide)), (keepF i5.out (by decide)), (keepF i6.out (by decide)), (keepF i7.out (by decide)), (keepF i8.out (by decide)), (keepF i9.out (by decide)), (keepF i10.out (by decide)), (keepF i11.out (by decide)), (keepF i12.out (by decide)), (keepF i13.out (by decide)), (keepF i14.out (by decide)), hL, hS, B0, B1⟩
      · unfold SlotStep
        intro g ac wc hn hk hr hI K' hK
        obtain ⟨x2, x3, x6, i0, i1, i2, i3, i4, i5, i6, i7, i8, i9, i10, i11, i12, i13, i14, hL, hS, B0, B1⟩ := hI
        simp only [Region.binds] at hr
        simp at hr
        replace hK := Lib.hid hK
        have y2 := i2 (by first | exact hr | exact hr.1 | exact hr.2 | exact hr.2.1 | exact hr.2.2 | exact hr.2.2.1 | exact hr.2.2.2 | simp [hr])
        replace i0 := Lib.hid i0
        replace i1 := Lib.hid i1
        replace i2 := Lib.hid i2
        replace i3 := Lib.hid i3
        replace i4 := Lib.hid i4
        replace i5 := Lib.hid i5
        replace i6 := Lib.hid i6
        replace i7 := Lib.hid i7
        replace i8 := Lib.hid i8
        replace i9 := Lib.hid i9
        replace i10 := Lib.hid i10
        replace i11 := Lib.hid i11
        replace i12 := Lib.hid i12
        replace i13 := Lib.hid i13
        replace i14 := Lib.hid i14
        go_simp
        first | rw [show (if 0 < T then T else 0) = 0 from by split <;> omega] | skip
        exact hK.out _ _ ⟨(keepB x2 (by decide)), (keepB x3 (by decide)), (keepB x6 (by decide)), (keepF i0.out (by decide)), (keepF i1.out (by decide)), (keepF i2.out (by decide)), (fun _ => put_eq (by omega)), (keepF i4.out (by decide)), (keepF i5.out (by decide)), (keepF i6.out (by decide)), (keepF i7.out (by decide)), (keepF i8.out (by decide)), (keepF i9.out (by decide)), (keepF i10.out (by decide)), (keepF i11.out (by decide)), (keepF i12.out (by decide)), (keepF i13.out (by decide)), (keepF i14.out (by decide)), hL, hS, B0, B1⟩
      · unfold SlotStep
        intro g ac wc hn hk hr hI K' hK
        obtain ⟨x2, x3, x6, i0, i1, i2, i3, i4, i5, i6, i7, i8, i9, i10, i11, i12, i13, i14, hL, hS, B0, B1⟩ := hI
        simp only [Region.binds] at hr
        simp at hr
        replace hK := Lib.hid hK
        have y3 := i3 (by first | exact hr | exact hr.1 | exact hr.2 | exact hr.2.1 | exact hr.2.2 | exact hr.2.2.1 | exact hr.2.2.2 | simp [hr])
        replace i0 := Lib.hid i0
        replace i1 := Lib.hid i1
        replace i2 := Lib.hid i2
        replace i3 := Lib.hid i3
        replace i4 := Lib.hid i4
        replace i5 := Lib.hid i5
        replace i6 := Lib.hid i6
        replace i7 := Lib.hid i7
        replace i8 := Lib.hid i8
        replace i9 := Lib.hid i9
        replace i10 := Lib.hid i10
        replace i11 := Lib.hid i11
        replace i12 := Lib.hid i12
        replace i13 := Lib.hid i13
        replace i14 := Lib.hid i14
        go_simp
        refine (w_ten _ (by omega) (by omega) _).mono ?_
        rintro e w4 ⟨rfl, rfl⟩
        exact hK.out _ _ ⟨(keepB x2 (by decide)), (keepB x3 (by decide)), (keepB x6 (by decide)), (keepF i0.out (by decide)), (keepF i1.out (by decide)), (keepF i2.out (by decide)), (keepF i3.out (by decide)), (fun _ => put_eq (by omega)), (keepF i5.out (by decide)), (keepF i6.out (by decide)), (keepF i7.out (by decide)), (keepF i8.out (by decide)), (keepF i9.out (by decide)), (keepF i10.out (by decide)), (keepF i11.out (by decide)), (keepF i12.out (by decide)), (keepF i13.out (by decide)), (keepF i14.out (by decide)), hL, hS, B0, B1⟩
      · unfold SlotStep
        intro g ac wc hn hk hr hI K' hK
        obtain ⟨x2, x3, x6, i0, i1, i2, i3, i4, i5, i6, i7, i8, i9, i10, i11, i12, i13, i14, hL, hS, B0, B1⟩ := hI
        simp only [Region.binds] at hr
        simp at hr
        replace hK := Lib.hid hK
        have y1 := i1 (by first | exact hr | exact hr.1 | exact hr.2 | exact hr.2.1 | exact hr.2.2 | exact hr.2.2.1 | exact hr.2.2.2 | simp [hr])
        have y4 := i4 (by first | exact hr | exact hr.1 | exact hr.2 | exact hr.2.1 | exact hr.2.2 | exact hr.2.2.1 | exact hr.2.2.2 | simp [hr])
        replace i0 := Lib.hid i0
        replace i1 := Lib.hid i1
        replace i2 := Lib.hid i2
        replace i3 := Lib.hid i3
        replace i4 := Lib.hid i4
        replace i5 := Lib.hid i5
        replace i6 := Lib.hid i6
        replace i7 := Lib.hid i7
        replace i8 := Lib.hid i8
        replace i9 := Lib.hid i9
        replace i10 := Lib.hid i10
        replace i11 := Lib.hid i11
        replace i12 := Lib.hid i12
        replace i13 := Lib.hid i13
        replace i14 := Lib.hid i14
        have wD : IntKind.i64.wrap (a * p10 (0)) = N := by rw [HN.out]; exact wrap_same (by omega) (by omega)
        go_simp
        exact hK.out _ _ ⟨(keepB x2 (by decide)), (keepB x3 (by decide)), (keepB x6 (by decide)), (keepF i0.out (by decide)), (keepF i1.out (by decide)), (keepF i2.out (by decide)), (keepF i3.out (by decide)), (keepF i4.out (by decide)), (fun _ => put_eq (by omega)), (keepF i6.out (by decide)), (keepF i7.out (by decide)), (keepF i8.out (by decide)), (keepF i9.out (by decide)), (keepF i10.out (by decide)), (keepF i11.out (by decide)), (keepF i12.out (by decide)), (keepF i13.out (by decide)), (keepF i14.out (by decide)), hL, hS, B0, B1⟩
      · unfold SlotStep
        intro g ac wc hn hk hr hI K' hK
        obtain ⟨x2, x3, x6, i0, i1, i2, i3, i4, i5, i6, i7, i8, i9, i10, i11, i12, i13, i14, hL, hS, B0, B1⟩ := hI
        simp only [Region.binds] at hr
        simp at hr
        replace hK := Lib.hid hK
        replace i0 := Lib.hid i0
        replace i1 := Lib.hid i1
        replace i2 := Lib.hid i2
        replace i3 := Lib.hid i3
        replace i4 := Lib.hid i4
        replace i5 := Lib.hid i5
        replace i6 := Lib.hid i6
        replace i7 := Lib.hid i7
        replace i8 := Lib.hid i8
        replace i9 := Lib.hid i9
        replace i10 := Lib.hid i10
        replace i11 := Lib.hid i11
        replace i12 := Lib.hid i12
        replace i13 := Lib.hid i13
        replace i14 := Lib.hid i14
        go_simp
        exact hK.out _ _ ⟨(keepB x2 (by decide)), (keepB x3 (by decide)), (keepB x6 (by decide)), (keepF i0.out (by decide)), (keepF i1.out (by decide)), (keepF i2.out (by decide)), (keepF i3.out (by decide)), (keepF i4.out (by decide)), (keepF i5.out (by decide)), (fun _ => put_eq (by omega)), (keepF i7.out (by decide)), (keepF i8.out (by decide)), (keepF i9.out (by decide)), (keepF i10.out (by decide)), (keepF i11.out (by decide)), (keepF i12.out (by decide)), (keepF i13.out (by decide)), (keepF i14.out (by decide)), hL, hS, B0, B1⟩
      · unfold SlotStep
        intro g ac wc hn hk hr hI K' hK
        obtain ⟨x2, x3, x6, i0, i1, i2, i3, i4, i5, i6, i7, i8, i9, i10, i11, i12, i13, i14, hL, hS, B0, B1⟩ := hI
        simp only [Region.binds] at hr
        simp at hr
        replace hK := Lib.hid hK
        have y6 := i6 (by first | exact hr | exact hr.1 | exact hr.2 | exact hr.2.1 | exact hr.2.2 | exact hr.2.2.1 | exact hr.2.2.2 | simp [hr])
        replace i0 := Lib.hid i0
        replace i1 := Lib.hid i1
        replace i2 := Lib.hid i2
        replace i3 := Lib.hid i3
        replace i4 := Lib.hid i4
        replace i5 := Lib.hid i5
        replace i6 := Lib.hid i6
        replace i7 := Lib.hid i7
        replace i8 := Lib.hid i8
        replace i9 := Lib.hid i9
        replace i10 := Lib.hid i10
        replace i11 := Lib.hid i11
        replace i12 := Lib.hid i12
        replace i13 := Lib.hid i13
        replace i14 := Lib.hid i14
        have hbb := blk_at B1
        have c0 := hbb.1
        have f0 := hbb.2.1
        have z0 := hbb.2.2
        clear hbb
        go_simp
        exact hK.out _ _ ⟨(keepB x2 (by decide)), (keepB x3 (by decide)), (keepB x6 (by decide)), (keepF i0.out (by decide)), (keepF i1.out (by decide)), (keepF i2.out (by decide)), (keepF i3.out (by decide)), (keepF i4.out (by decide)), (keepF i5.out (by decide)), (keepF i6.out (by decide)), (fun _ => put_eq (by omega)), (keepF i8.out (by decide)), (keepF i9.out (by decide)), (keepF i10.out (by decide)), (keepF i11.out (by decide)), (keepF i12.out (by decide)), (keepF i13.out (by decide)), (keepF i14.out (by decide)), hL, hS, B0, B1⟩
      · unfold SlotStep
        intro g ac wc hn hk hr hI K' hK
        obtain ⟨x2, x3, x6, i0, i1, i2, i3, i4, i5, i6, i7, i8, i9, i10, i11, i12, i13, i14, hL, hS, B0, B1⟩ := hI
        simp only [Region.binds] at hr
        simp at hr
        replace hK := Lib.hid hK
        replace i0 := Lib.hid i0
        replace i1 := Lib.hid i1
        replace i2 := Lib.hid i2
        replace i3 := Lib.hid i3
        replace i4 := Lib.hid i4
        replace i5 := Lib.hid i5
        replace i6 := Lib.hid i6
        replace i7 := Lib.hid i7
        replace i8 := Lib.hid i8
        replace i9 := Lib.hid i9
        replace i10 := Lib.hid i10
        replace i11 := Lib.hid i11
        replace i12 := Lib.hid i12
        replace i13 := Lib.hid i13
        replace i14 := Lib.hid i14
        go_simp
        exact hK.out _ _ ⟨(keepB x2 (by decide)), (keepB x3 (by decide)), (keepB x6 (by decide)), (keepF i0.out (by decide)), (keepF i1.out (by decide)), (keepF i2.out (by decide)), (keepF i3.out (by decide)), (keepF i4.out (by decide)), (keepF i5.out (by decide)), (keepF i6.out (by decide)), (keepF i7.out (by decide)), (fun _ => put_eq (by omega)), (keepF i9.out (by decide)), (keepF i10.out (by decide)), (keepF i11.out (by decide)), (keepF i12.out (by decide)), (keepF i13.out (by decide)), (keepF i14.out (by decide)), hL, hS, B0, B1⟩
      · unfold SlotStep
        intro g ac wc hn hk hr hI K' hK
        obtain ⟨x2, x3, x6, i0, i1, i2, i3, i4, i5, i6, i7, i8, i9, i10, i11, i12, i13, i14, hL, hS, B0, B1⟩ := hI
        simp only [Region.binds] at hr
        simp at hr
        replace hK := Lib.hid hK
        have y8 := i8 (by first | exact hr | exact hr.1 | exact hr.2 | exact hr.2.1 | exact hr.2.2 | exact hr.2.2.1 | exact hr.2.2.2 | simp [hr])
        replace i0 := Lib.hid i0
        replace i1 := Lib.hid i1
        replace i2 := Lib.hid i2
        replace i3 := Lib.hid i3
        replace i4 := Lib.hid i4
        replace i5 := Lib.hid i5
        replace i6 := Lib.hid i6
        replace i7 := Lib.hid i7
        replace i8 := Lib.hid i8
        replace i9 := Lib.hid i9
        replace i10 := Lib.hid i10
        replace i11 := Lib.hid i11
        replace i12 := Lib.hid i12
        replace i13 := Lib.hid i13
        replace i14 := Lib.hid i14
        have wD : IntKind.i64.wrap (-T) = -T := wrap_same (by omega) (by omega)
        go_simp
        exact hK.out _ _ ⟨(keepB x2 (by decide)), (keepB x3 (by decide)), (keepB x6 (by decide)), (keepF i0.out (by decide)), (keepF i1.out (by decide)), (keepF i2.out (by decide)), (keepF i3.out (by decide)), (keepF i4.out (by decide)), (keepF i5.out (by decide)), (keepF i6.out (by decide)), (keepF i7.out (by decide)), (keepF i8.out (by decide)), (fun _ => put_eq (by omega)), (keepF i10.out (by decide)), (keepF i11.out (by decide)), (keepF i12.out (by decide)), (keepF i13.out (by decide)), (keepF i14.out (by decide)), hL, hS, B0, B1⟩
      · unfold SlotStep
        intro g ac wc hn hk hr hI K' hK
        obtain ⟨x2, x3, x6, i0, i1, i2, i3, i4, i5, i6, i7, i8, i9, i10, i11, i12, i13, i14, hL, hS, B0, B1⟩ := hI
        simp only [Region.binds] at hr
        simp at hr
        replace hK := Lib.hid hK
        have y9 := i9 (by first | exact hr | exact hr.1 | exact hr.2 | exact hr.2.1 | exact hr.2.2 | exact hr.2.2.1 | exact hr.2.2.2 | simp [hr])
        replace i0 := Lib.hid i0
        replace i1 := Lib.hid i1
        replace i2 := Lib.hid i2
        replace i3 := Lib.hid i3
        replace i4 := Lib.hid i4
        replace i5 := Lib.hid i5
        replace i6 := Lib.hid i6
        replace i7 := Lib.hid i7
        replace i8 := Lib.hid i8
        replace i9 := Lib.hid i9
        replace i10 := Lib.hid i10
        replace i11 := Lib.hid i11
        replace i12 := Lib.hid i12
        replace i13 := Lib.hid i13
        replace i14 := Lib.hid i14
        go_simp
        first | rw [show (if T < 0 then -T else 0) = -T from by split <;> omega] | skip
        exact hK.out _ _ ⟨(keepB x2 (by decide)), (keepB x3 (by decide)), (keepB x6 (by decide)), (keepF i0.out (by decide)), (keepF i1.out (by decide)), (keepF i2.out (by decide)), (keepF i3.out (by decide)), (keepF i4.out (by decide)), (keepF i5.out (by decide)), (keepF i6.out (by decide)), (keepF i7.out (by decide)), (keepF i8.out (by decide)), (keepF i9.out (by decide)), (fun _ => put_eq (by omega)), (keepF i11.out (by decide)), (keepF i12.out (by decide)), (keepF i13.out (by decide)), (keepF i14.out (by decide)), hL, hS, B0, B1⟩
      · unfold SlotStep
        intro g ac wc hn hk hr hI K' hK
        obtain ⟨x2, x3, x6, i0, i1, i2, i3, i4, i5, i6, i7, i8, i9, i10, i11, i12, i13, i14, hL, hS, B0, B1⟩ := hI
        simp only [Region.binds] at hr
        simp at hr
        replace hK := Lib.hid hK
        have y10 := i10 (by first | exact hr | exact hr.1 | exact hr.2 | exact hr.2.1 | exact hr.2.2 | exact hr.2.2.1 | exact hr.2.2.2 | simp [hr])
        replace i0 := Lib.hid i0
        replace i1 := Lib.hid i1
        replace i2 := Lib.hid i2
        replace i3 := Lib.hid i3
        replace i4 := Lib.hid i4
        replace i5 := Lib.hid i5
        replace i6 := Lib.hid i6
        replace i7 := Lib.hid i7
        replace i8 := Lib.hid i8
        replace i9 := Lib.hid i9
        replace i10 := Lib.hid i10
        replace i11 := Lib.hid i11
        replace i12 := Lib.hid i12
        replace i13 := Lib.hid i13
        replace i14 := Lib.hid i14
        go_simp
        refine (w_ten _ (by omega) (by omega) _).mono ?_
        rintro e w4 ⟨rfl, rfl⟩
        exact hK.out _ _ ⟨(keepB x2 (by decide)), (keepB x3 (by decide)), (keepB x6 (by decide)), (keepF i0.out (by decide)), (keepF i1.out (by decide)), (keepF i2.out (by decide)), (keepF i3.out (by decide)), (keepF i4.out (by decide)), (keepF i5.out (by decide)), (keepF i6.out (by decide)), (keepF i7.out (by decide)), (keepF i8.out (by decide)), (keepF i9.out (by decide)), (keepF i10.out (by decide)), (fun _ => put_eq (by omega)), (keepF i12.out (by decide)), (keepF i13.out (by decide)), (keepF i14.out (by decide)), hL, hS, B0, B1⟩
      · unfold SlotStep
        intro g ac wc hn hk hr hI K' hK
        obtain ⟨x2, x3, x6, i0, i1, i2, i3, i4, i5, i6, i7, i8, i9, i10, i11, i12, i13, i14, hL, hS, B0, B1⟩ := hI
        simp only [Region.binds] at hr
        simp at hr
        replace hK := Lib.hid hK
        have y7 := i7 (by first | exact hr | exact hr.1 | exact hr.2 | exact hr.2.1 | exact hr.2.2 | exact hr.2.2.1 | exact hr.2.2.2 | simp [hr])
        have y11 := i11 (by first | exact hr | exact hr.1 | exact hr.2 | exact hr.2.1 | exact hr.2.2 | exact hr.2.2.1 | exact hr.2.2.2 | simp [hr])
        replace i0 := Lib.hid i0
        replace i1 := Lib.hid i1
        replace i2 := Lib.hid i2
        replace i3 := Lib.hid i3
        replace i4 := Lib.hid i4
        replace i5 := Lib.hid i5
        replace i6 := Lib.hid i6
        replace i7 := Lib.hid i7
        replace i8 := Lib.hid i8
        replace i9 := Lib.hid i9
        replace i10 := Lib.hid i10
        replace i11 := Lib.hid i11
        replace i12 := Lib.hid i12
        replace i13 := Lib.hid i13
        replace i14 := Lib.hid i14
        have wD : IntKind.i64.wrap (c * p10 (-T)) = D := by rw [HD.out]; exact wrap_same (by omega) (by omega)
        go_simp
        exact hK.out _ _ ⟨(keepB x2 (by decide)), (keepB x3 (by decide)), (keepB x6 (by decide)), (keepF i0.out (by decide)), (keepF i1.out (by decide)), (keepF i2.out (by decide)), (keepF i3.out (by decide)), (keepF i4.out (by decide)), (keepF i5.out (by decide)), (keepF i6.out (by decide)), (keepF i7.out (by decide)), (keepF i8.out (by decide)), (keepF i9.out (by decide)), (keepF i10.out (by decide)), (keepF i11.out (by decide)), (fun _ => put_eq (by omega)), (keepF i13.out (by decide)), (keepF i14.out (by decide)), hL, hS, B0, B1⟩
      · unfold SlotStep
        intro g ac wc hn hk hr hI K' hK
        obtain ⟨x2, x3, x6, i0, i1, i2, i3, i4, i5, i6, i7, i8, i9, i10, i11, i12, i13, i14, hL, hS, B0, B1⟩ := hI
        simp only [Region.binds] at hr
        simp at hr
        replace hK := Lib.hid hK
        have y5 := i5 (by first | exact hr | exact hr.1 | exact hr.2 | exact hr.2.1 | exact hr.2.2 | exact hr.2.2.1 | exact hr.2.2.2 | simp [hr])
        replace i0 := Lib.hid i0
        replace i1 := Lib.hid i1
        replace i2 := Lib.hid i2
        replace i3 := Lib.hid i3
        replace i4 := Lib.hid i4
        replace i5 := Lib.hid i5
        replace i6 := Lib.hid i6
        replace i7 := Lib.hid i7
        replace i8 := Lib.hid i8
        replace i9 := Lib.hid i9
        replace i10 := Lib.hid i10
        replace i11 := Lib.hid i11
        replace i12 := Lib.hid i12
        replace i13 := Lib.hid i13
        replace i14 := Lib.hid i14
        go_simp
        exact hK.out _ _ ⟨(keepB x2 (by decide)), (keepB x3 (by decide)), (keepB x6 (by decide)), (keepF i0.out (by decide)), (keepF i1.out (by decide)), (keepF i2.out (by decide)), (keepF i3.out (by decide)), (keepF i4.out (by decide)), (keepF i5.out (by decide)), (keepF i6.out (by decide)), (keepF i7.out (by decide)), (keepF i8.out (by decide)), (keepF i9.out (by decide)), (keepF i10.out (by decide)), (keepF i11.out (by decide)), (keepF i12.out (by decide)), (fun _ => put_eq (by omega)), (keepF i14.out (by decide)), hL, hS, B0, B1⟩
      · unfold SlotStep
        intro g ac wc hn hk hr hI K' hK
        obtain ⟨x2, x3, x6, i0, i1, i2, i3, i4, i5, i6, i7, i8, i9, i10, i11, i12, i13, i14, hL, hS, B0, B1⟩ := hI
        simp only [Region.binds] at hr
        simp at hr
        replace hK := Lib.hid hK
        have y12 := i12 (by first | exact hr | exact hr.1 | exact hr.2 | exact hr.2.1 | exact hr.2.2 | exact hr.2.2.1 | exact hr.2.2.2 | simp [hr])
        replace i0 := Lib.hid i0
        replace i1 := Lib.hid i1
        replace i2 := Lib.hid i2
        replace i3 := Lib.hid i3
        replace i4 := Lib.hid i4
        replace i5 := Lib.hid i5
        replace i6 := Lib.hid i6
        replace i7 := Lib.hid i7
        replace i8 := Lib.hid i8
        replace i9 := Lib.hid i9
        replace i10 := Lib.hid i10
        replace i11 := Lib.hid i11
        replace i12 := Lib.hid i12
        replace i13 := Lib.hid i13
        replace i14 := Lib.hid i14
        go_simp
        exact hK.out _ _ ⟨(keepB x2 (by decide)), (keepB x3 (by decide)), (keepB x6 (by decide)), (keepF i0.out (by decide)), (keepF i1.out (by decide)), (keepF i2.out (by decide)), (keepF i3.out (by decide)), (keepF i4.out (by decide)), (keepF i5.out (by decide)), (keepF i6.out (by decide)), (keepF i7.out (by decide)), (keepF i8.out (by decide)), (keepF i9.out (by decide)), (keepF i10.out (by decide)), (keepF i11.out (by decide)), (keepF i12.out (by decide)), (keepF i13.out (by decide)), (fun _ => put_eq (by omega)), hL, hS, B0, B1⟩

end Go.Proofs.Ytkoojngonldcbaa
