/- DERIVED. Walks: PlaceTransfer, the program's. -/
import Derived.Test.YtcnbnlmoohieoaaM19
namespace Go.Proofs.Ytcnbnlmoohieoaa
set_option linter.unusedVariables false
set_option linter.unusedSimpArgs false
open Go.RowKit
set_option maxRecDepth 100000

set_option maxHeartbeats 4000000 in
theorem w_implPlaceTransfer (a b d t d2 t2 : Int) (w : World) :
    Calls Try.prog 46 #[.int .i64 a, .int .i64 b, .agg #[.int .i64 d, .int .i64 t], .agg #[.int .i64 d2, .int .i64 t2]] w fun e w' => e = .returned (.tuple #[.agg #[.int .i64 (transF a b ⟨d, t⟩ ⟨d2, t2⟩).d, .int .i64 (transF a b ⟨d, t⟩ ⟨d2, t2⟩).t], .int .i64 (transC a b ⟨d, t⟩ ⟨d2, t2⟩)]) ∧ Later w w' := by
  have hall : ([⟨d, t⟩, ⟨d2, t2⟩] : List Fig).all isFig = (isFig ⟨d, t⟩ && isFig ⟨d2, t2⟩) := by simp
  cases hfi : (isFig ⟨d, t⟩ && isFig ⟨d2, t2⟩)
  · rw [hfi] at hall
    have HA := Lib.hid hall
    have HF := Lib.hid (show transF a b ⟨d, t⟩ ⟨d2, t2⟩ = ⟨0, 0⟩ from by simp only [transF, hfi]; rfl)
    have HC := Lib.hid (show transC a b ⟨d, t⟩ ⟨d2, t2⟩ = 1 from by simp only [transC, hfi]; rfl)
    clear hall hfi
    go_enter Try.func46, Try.ntmps46
    go_wp2_with fail
    refine (w_areFigures _ [⟨d, t⟩, ⟨d2, t2⟩] _ (figs_lit _ (heap_alloc_new' _ _ (by simp)) rfl (by simp))).mono ?_
    rintro e w1 ⟨rfl, hL⟩
    rw [HA.out]
    obtain ⟨K0, K1, K2, K3⟩ := kept4 hL
    obtain ⟨c2, f2, z2⟩ := blk_at K2
    go_wp2
    refine bodyPost_ret (v := .tuple #[.agg #[.int .i64 0, .int .i64 0], .int .i64 1]) (by simp [results, Try.results46, go_sem, c2, z2]) rfl ⟨by rw [HF.out, HC.out], by (repeat (with_reducible first | exact Later.refl _ | refine Later.alloc ?_ _ | refine Later.drew ?_ | refine Later.drewN ?_ _ | refine Later.setCell ?_ (by simp; try omega) _ | refine Later.trans ?_ (by assumption)))⟩
  rw [hfi] at hall
  have HA := Lib.hid hall
  have hff : isFig ⟨d, t⟩ = true ∧ isFig ⟨d2, t2⟩ = true := by simpa using hfi
  obtain ⟨hf, hi⟩ := hff
  cases ho : ordOk2 a b
  · have HF := Lib.hid (show transF a b ⟨d, t⟩ ⟨d2, t2⟩ = ⟨0, 0⟩ from by simp [transF, hf, hi, ho])
    have HC := Lib.hid (show transC a b ⟨d, t⟩ ⟨d2, t2⟩ = 2 from by simp [transC, hf, hi, ho])
    have ho2 : (ordScale a == 0 || ordScale b == 0) = true := by rw [ordOk2, Bool.not_eq_false'] at ho; exact ho
    clear hall hfi hf hi ho
    cases ha : (ordScale a == 0)
    · have hb : (ordScale b == 0) = true := by rwa [ha, Bool.false_or] at ho2
      clear ho2
      go_enter Try.func46, Try.ntmps46
      go_wp2_with fail
      refine (w_areFigures _ [⟨d, t⟩, ⟨d2, t2⟩] _ (figs_lit _ (heap_alloc_new' _ _ (by simp)) rfl (by simp))).mono ?_
      rintro e w1 ⟨rfl, hL⟩
      rw [HA.out]
      obtain ⟨K0, K1, K2, K3⟩ := kept4 hL
      obtain ⟨c2, f2, z2⟩ := blk_at K2
      go_wp2_with fail
      refine (w_orderOf _ _).mono ?_
      rintro e w' ⟨rfl, rfl⟩
      go_wp2_with fail
      refine (w_orderOf _ _).mono ?_
      rintro e w' ⟨rfl, rfl⟩
      go_wp2
      refine bodyPost_ret (v := .tuple #[.agg #[.int .i64 0, .int .i64 0], .int .i64 2]) (by simp [results, Try.results46, go_sem, c2, z2]) rfl ⟨by rw [HF.out, HC.out], by (repeat (with_reducible first | exact Later.refl _ | refine Later.alloc ?_ _ | refine Later.drew ?_ | refine Later.drewN ?_ _ | refine Later.setCell ?_ (by simp; try omega) _ | refine Later.trans ?_ (by assumption)))⟩
    · clear ho2
      go_enter Try.func46, Try.ntmps46
      go_wp2_with fail
      refine (w_areFigures _ [⟨d, t⟩, ⟨d2, t2⟩] _ (figs_lit _ (heap_alloc_new' _ _ (by simp)) rfl (by simp))).mono ?_
      rintro e w1 ⟨rfl, hL⟩
      rw [HA.out]
      obtain ⟨K0, K1, K2, K3⟩ := kept4 hL
      obtain ⟨c2, f2, z2⟩ := blk_at K2
      go_wp2_with fail
      refine (w_orderOf _ _).mono ?_
      rintro e w' ⟨rfl, rfl⟩
      go_wp2
      refine bodyPost_ret (v := .tuple #[.agg #[.int .i64 0, .int .i64 0], .int .i64 2]) (by simp [results, Try.results46, go_sem, c2, z2]) rfl ⟨by rw [HF.out, HC.out], by (repeat (with_reducible first | exact Later.refl _ | refine Later.alloc ?_ _ | refine Later.drew ?_ | refine Later.drewN ?_ _ | refine Later.setCell ?_ (by simp; try omega) _ | refine Later.trans ?_ (by assumption)))⟩
  have HF := Lib.hid (show transF a b ⟨d, t⟩ ⟨d2, t2⟩ = limF (placeF d2 (expI a b ⟨d, t⟩)) from by simp [transF, hf, hi, ho])
  have HC := Lib.hid (show transC a b ⟨d, t⟩ ⟨d2, t2⟩ = codeLim (placeF d2 (expI a b ⟨d, t⟩)) from by simp [transC, hf, hi, ho])
  have ho3 := ordOk2_true ho
  have ha : (ordScale a == 0) = false := by simpa using ho3.1
  have hb : (ordScale b == 0) = false := by simpa using ho3.2
  have hf' := isFig_true hf
  simp only at hf'
  obtain ⟨t1, t3, t4, t7⟩ := hf'
  have hr' := isFig_true hi
  simp only at hr'
  obtain ⟨r1, r2, r3, r4⟩ := hr'
  have hbd := figLog_bd2 (f := ⟨d, t⟩) t1 t3 t4 t7
  obtain ⟨q1, q2, q3, q4⟩ := hbd
  have q1 : -1000000000 ≤ (figLog ⟨d, t⟩).lo := by omega
  have q2 : (figLog ⟨d, t⟩).lo ≤ 1000000000 := by omega
  have q3 : -1000000000 ≤ (figLog ⟨d, t⟩).hi := by omega
  have q4 : (figLog ⟨d, t⟩).hi ≤ 1000000000 := by omega
  have t5 : -100 ≤ t := by omega
  have t6 : t ≤ 100 := by omega
  have hxb := expI_bd (b := b) hf ho3.1
  have heb := exp_bd (b := b) ho3.1
  obtain ⟨n, hn⟩ : ∃ n, expN a b = n := ⟨_, rfl⟩
  obtain ⟨m, hm⟩ : ∃ m, expD a b = m := ⟨_, rfl⟩
  obtain ⟨X, hX⟩ : ∃ X, (expI a b ⟨d, t⟩).lo = X := ⟨_, rfl⟩
  obtain ⟨Y, hY⟩ : ∃ Y, (expI a b ⟨d, t⟩).hi = Y := ⟨_, rfl⟩
  have hE : expI a b ⟨d, t⟩ = ⟨X, Y⟩ := by rw [← hX, ← hY]
  rw [hE] at HF HC
  obtain ⟨P, hP⟩ : ∃ P, limF (placeF d2 ⟨X, Y⟩) = P := ⟨_, rfl⟩
  obtain ⟨C, hC⟩ : ∃ C, codeLim (placeF d2 ⟨X, Y⟩) = C := ⟨_, rfl⟩
  rw [hP] at HF
  rw [hC] at HC
  rw [hn, hm] at heb
  rw [hX, hY] at hxb
  have HX := Lib.hid (show (scaleI ⟨(figLog ⟨d, t⟩).lo, (figLog ⟨d, t⟩).hi⟩ n m).lo = X from by rw [← hX, expI, hn, hm])
  have HY := Lib.hid (show (scaleI ⟨(figLog ⟨d, t⟩).lo, (figLog ⟨d, t⟩).hi⟩ n m).hi = Y from by rw [← hY, expI, hn, hm])
  have HP := Lib.hid hP
  have HC2 := Lib.hid hC
  have HN := Lib.hid hn
  have HM := Lib.hid hm
  obtain ⟨n1, n2, m1, m2⟩ := heb
  have n1 : -1000 ≤ n := by omega
  have n2 : n ≤ 1000 := by omega
  have m1 : 0 < m := by omega
  have m2 : m ≤ 1000 := by omega
  obtain ⟨x1, x2, x3, x4⟩ := hxb
  clear hX hY hn hm hP hC hE hf hi ho hfi hall ho3
  go_enter Try.func46, Try.ntmps46
  go_wp2_with fail
  refine (w_areFigures _ [⟨d, t⟩, ⟨d2, t2⟩] _ (figs_lit _ (heap_alloc_new' _ _ (by simp)) rfl (by simp))).mono ?_
  rintro e w4 ⟨rfl, hL⟩
  rw [HA.out]
  go_wp2_with fail
  refine (w_orderOf _ _).mono ?_
  rintro e w' ⟨rfl, rfl⟩
  go_wp2_with fail
  refine (w_orderOf _ _).mono ?_
  rintro e w' ⟨rfl, rfl⟩
  go_wp2_with fail
  refine (w_exponent _ _ _).mono ?_
  rintro e w' ⟨rfl, rfl⟩
  rw [HN.out, HM.out]
  obtain ⟨K0, K1, Kr, -⟩ := kept4 hL
  have hL00 : Later w ((((w.alloc (.cells #[.int .i64 d, .int .i64 t] 56)).alloc (.cells #[.int .i64 d2, .int .i64 t2] 56)).alloc (.cells #[.int .i64 0, .int .i64 0] 56)).alloc (.cells #[.int .i64 d, .int .i64 t, .int .i64 d2, .int .i64 t2] 56)) := by (repeat (with_reducible first | exact Later.refl _ | refine Later.alloc ?_ _ | refine Later.drew ?_ | refine Later.drewN ?_ _ | refine Later.setCell ?_ (by simp; try omega) _ | refine Later.trans ?_ (by assumption)))
  have hL0 := hL00.trans hL
  have lt := hL.size
  simp only [World.size_alloc] at lt
  have hSB := hL0.size
  have hRB : w.heap.size ≤ w.heap.size + 1 + 1 := by omega
  clear hL hL00
  go_wp2_with fail
  refine region_slots 45 [35, 36, 37, 38, 39, 40, 41, 42, 43, 44, 9] (fun g ac wc => sl ac 6 = .pointer (some ⟨w.heap.size, 0, none⟩) ∧
    sl ac 7 = .pointer (some ⟨w.heap.size + 1, 0, none⟩) ∧
    sl ac 8 = .pointer (some ⟨w.heap.size + 1 + 1, 0, none⟩) ∧
    sl ac 10 = .int .i64 n ∧
    sl ac 11 = .int .i64 m ∧
    (g 0 = true → sl ac 35 = .pointer (some ⟨w.heap.size + 1, 0, none⟩)) ∧
    (g 1 = true → sl ac 36 = .int .i64 d2) ∧
    (g 2 = true → sl ac 37 = .agg #[.int .i64 d, .int .i64 t]) ∧
    (g 3 = true → sl ac 38 = .agg #[.int .i64 (figLog ⟨d, t⟩).lo, .int .i64 (figLog ⟨d, t⟩).hi]) ∧
    (g 4 = true → sl ac 39 = .int .i64 n) ∧
    (g 5 = true → sl ac 40 = .int .i64 m) ∧
    (g 6 = true → sl ac 41 = .agg #[.int .i64 X, .int .i64 Y]) ∧
    (g 7 = true → sl ac 42 = .tuple #[.agg #[.int .i64 P.d, .int .i64 P.t], .int .i64 C]) ∧
    (g 8 = true → sl ac 43 = .agg #[.int .i64 P.d, .int .i64 P.t]) ∧
    (g 9 = true → sl ac 44 = .int .i64 C) ∧
    (g 11 = true → sl ac 9 = .int .i64 C) ∧
    Later w wc ∧
    w4.heap.size ≤ wc.heap.size ∧
    wc.heap[w.heap.size]? = some (.cells #[.int .i64 d, .int .i64 t] 56 (0, 0)) ∧
    wc.heap[w.heap.size + 1]? = some (.cells #[.int .i64 d2, .int .i64 t2] 56 (0, 0)) ∧
    (∃ r0 r1, wc.heap[w.heap.size + 1 + 1]? = some (.cells #[r0, r1] 56 (0, 0)) ∧ (g 10 = true → r0 = .int .i64 P.d ∧ r1 = .int .i64 P.t))) (by kernel_rfl) (by kernel_rfl) rfl (by kernel_rfl) ?_ ?_ ?_
  · exact ⟨rfl, rfl, rfl, rfl, rfl, nofun, nofun, nofun, nofun, nofun, nofun, nofun, nofun, nofun, nofun, nofun, hL0.drew, Nat.le_refl _, K0, K1, ⟨_, _, Kr, nofun⟩⟩
  · intro g ac wc hg ha hI
    obtain ⟨x6, x7, x8, x10, x11, i0, i1, i2, i3, i4, i5, i6, i7, i8, i9, i11, hL, hS, B0, B1, R⟩ := hI
    have a0 := i0 (hg 0 (by simp))
    have a1 := i1 (hg 1 (by simp))
    have a2 := i2 (hg 2 (by simp))
    have a3 := i3 (hg 3 (by simp))
    have a4 := i4 (hg 4 (by simp))
    have a5 := i5 (hg 5 (by simp))
    have a6 := i6 (hg 6 (by simp))
    have a7 := i7 (hg 7 (by simp))
    have a8 := i8 (hg 8 (by simp))
    have a9 := i9 (hg 9 (by simp))
    have a11 := i11 (hg 11 (by simp))
    obtain ⟨r0, r1, Kr, gr⟩ := R
    have gr := gr (hg 10 (by simp))
    rw [gr.1, gr.2] at Kr
    clear gr
    simp only [putAll, a0, a1, a2, a3, a4, a5, a6, a7, a8, a9, a11] at ha
    simp only [Act.put, List.setIfInBounds_toArray, List.set_cons_succ, List.set_cons_zero] at ha
    rw [ha]
    clear x6 x7 x8 x10 x11 i0 i1 i2 i3 i4 i5 i6 i7 i8 i9 i11 a0 a1 a2 a3 a4 a5 a6 a7 a8 a9 a11 hg ha
    have c2 := (blk_at Kr).1
    have y2 := (blk_at Kr).2.2
    go_wp2
    refine bodyPost_ret (v := .tuple #[.agg #[.int .i64 P.d, .int .i64 P.t], .int .i64 C]) (by simp [results, Try.results46, go_sem, c2, y2]) rfl ⟨by rw [HF.out, HC.out], hL⟩
  · refine .cons ?_ (.cons ?_ (.cons ?_ (.cons ?_ (.cons ?_ (.cons ?_ (.cons ?_ (.cons ?_ (.cons ?_ (.cons ?_ (.cons ?_ (.cons ?_ .nil)))))))))))
    · unfold SlotStep
      intro g ac wc hn hk hr hI K' hK
      obtain ⟨x6, x7, x8, x10, x11, i0, i1, i2, i3, i4, i5, i6, i7, i8, i9, i11, hL, hS, B0, B1, R⟩ := hI
      simp only [Region.binds] at hr
      simp at hr
      replace hK := Lib.hid hK
      replace i0 := Lib.hid i0
      replace i1 := Lib.hid i1
      replace i2 := Lib.hid i2
      replace i3 := Lib.hid i3
      replace i4 := Lib.hid i4
      replace i5 := Lib.hid i5
      replace i6 := Lib.hid i6
      replace i7 := Lib.hid i7
      replace i8 := Lib.hid i8
      replace i9 := Lib.hid i9
      replace i11 := Lib.hid i11
      go_simp
      exact hK.out _ _ ⟨(keepB x6 (by decide)), (keepB x7 (by decide)), (keepB x8 (by decide)), (keepB x10 (by decide)), (keepB x11 (by decide)), (fun _ => put_eq (by omega)), (keepF i1.out (by decide)), (keepF i2.out (by decide)), (keepF i3.out (by decide)), (keepF i4.out (by decide)), (keepF i5.out (by decide)), (keepF i6.out (by decide)), (keepF i7.out (by decide)), (keepF i8.out (by decide)), (keepF i9.out (by decide)), (keepF i11.out (by decide)), hL, hS, B0, B1, R⟩
    · unfold SlotStep
      intro g ac wc hn hk hr hI K' hK
      obtain ⟨x6, x7, x8, x10, x11, i0, i1, i2, i3, i4, i5, i6, i7, i8, i9, i11, hL, hS, B0, B1, R⟩ := hI
      simp only [Region.binds] at hr
      simp at hr
      replace hK := Lib.hid hK
      have y0 := i0 (by first | exact hr | exact hr.1 | exact hr.2 | exact hr.2.1 | exact hr.2.2 | exact hr.2.2.1 | exact hr.2.2.2 | simp [hr])
      replace i0 := Lib.hid i0
      replace i1 := Lib.hid i1
      replace i2 := Lib.hid i2
      replace i3 := Lib.hid i3
      replace i4 := Lib.hid i4
      replace i5 := Lib.hid i5
      replace i6 := Lib.hid i6
      replace i7 := Lib.hid i7
      replace i8 := Lib.hid i8
      replace i9 := Lib.hid i9
      replace i11 := Lib.hid i11
      have hbb := blk_at B1
      have c0 := hbb.1
      have f0 := hbb.2.1
      have z0 := hbb.2.2
      clear hbb
      go_simp
      exact hK.out _ _ ⟨(keepB x6 (by decide)), (keepB x7 (by decide)), (keepB x8 (by decide)), (keepB x10 (by decide)), (keepB x11 (by decide)), (keepF i0.out (by decide)), (fun _ => put_eq (by omega)), (keepF i2.out (by decide)), (keepF i3.out (by decide)), (keepF i4.out (by decide)), (keepF i5.out (by decide)), (keepF i6.out (by decide)), (keepF i7.out (by decide)), (keepF i8.out (by decide)), (keepF i9.out (by decide)), (keepF i11.out (by decide)), hL, hS, B0, B1, R⟩
    · unfold SlotStep
      intro g ac wc hn hk hr hI K' hK
      obtain ⟨x6, x7, x8, x10, x11, i0, i1, i2, i3, i4, i5, i6, i7, i8, i9, i11, hL, hS, B0, B1, R⟩ := hI
      simp only [Region.binds] at hr
      simp at hr
      replace hK := Lib.hid hK
      replace i0 := Lib.hid i0
      replace i1 := Lib.hid i1
      replace i2 := Lib.hid i2
      replace i3 := Lib.hid i3
      replace i4 := Lib.hid i4
      replace i5 := Lib.hid i5
      replace i6 := Lib.hid i6
      replace i7 := Lib.hid i7
      replace i8 := Lib.hid i8
      replace i9 := Lib.hid i9
      replace i11 := Lib.hid i11
      have hbb := blk_at B0
      have c0 := hbb.1
      have f0 := hbb.2.1
      have z0 := hbb.2.2
      clear hbb
      go_simp
      exact hK.out _ _ ⟨(keepB x6 (by decide)), (keepB x7 (by decide)), (keepB x8 (by decide)), (keepB x10 (by decide)), (keepB x11 (by decide)), (keepF i0.out (by decide)), (keepF i1.out (by decide)), (fun _ => put_eq (by omega)), (keepF i3.out (by decide)), (keepF i4.out (by decide)), (keepF i5.out (by decide)), (keepF i6.out (by decide)), (keepF i7.out (by decide)), (keepF i8.out (by decide)), (keepF i9.out (by decide)), (keepF i11.out (by decide)), hL, hS, B0, B1, R⟩
    · unfold SlotStep
      intro g ac wc hn hk hr hI K' hK
      obtain ⟨x6, x7, x8, x10, x11, i0, i1, i2, i3, i4, i5, i6, i7, i8, i9, i11, hL, hS, B0, B1, R⟩ := hI
      simp only [Region.binds] at hr
      simp at hr
      replace hK := Lib.hid hK
      have y2 := i2 (by first | exact hr | exact hr.1 | exact hr.2 | exact hr.2.1 | exact hr.2.2 | exact hr.2.2.1 | exact hr.2.2.2 | simp [hr])
      replace i0 := Lib.hid i0
      replace i1 := Lib.hid i1
      replace i2 := Lib.hid i2
      replace i3 := Lib.hid i3
      replace i4 := Lib.hid i4
      replace i5 := Lib.hid i5
      replace i6 := Lib.hid i6
      replace i7 := Lib.hid i7
      replace i8 := Lib.hid i8
      replace i9 := Lib.hid i9
      replace i11 := Lib.hid i11
      go_simp
      refine (w_figureLog _ _ t1 t3 t5 t6 _).mono ?_
      rintro e w4 ⟨rfl, hL4⟩
      exact hK.out _ _ ⟨(keepB x6 (by decide)), (keepB x7 (by decide)), (keepB x8 (by decide)), (keepB x10 (by decide)), (keepB x11 (by decide)), (keepF i0.out (by decide)), (keepF i1.out (by decide)), (keepF i2.out (by decide)), (fun _ => put_eq (by omega)), (keepF i4.out (by decide)), (keepF i5.out (by decide)), (keepF i6.out (by decide)), (keepF i7.out (by decide)), (keepF i8.out (by decide)), (keepF i9.out (by decide)), (keepF i11.out (by decide)), hL.trans hL4, Nat.le_trans hS hL4.size, hL4.keep B0, hL4.keep B1, (by obtain ⟨r0, r1, R1, R2⟩ := R; exact ⟨r0, r1, hL4.keep R1, R2⟩)⟩
    · unfold SlotStep
      intro g ac wc hn hk hr hI K' hK
      obtain ⟨x6, x7, x8, x10, x11, i0, i1, i2, i3, i4, i5, i6, i7, i8, i9, i11, hL, hS, B0, B1, R⟩ := hI
      simp only [Region.binds] at hr
      simp at hr
      replace hK := Lib.hid hK
      replace i0 := Lib.hid i0
      replace i1 := Lib.hid i1
      replace i2 := Lib.hid i2
      replace i3 := Lib.hid i3
      replace i4 := Lib.hid i4
      replace i5 := Lib.hid i5
      replace i6 := Lib.hid i6
      replace i7 := Lib.hid i7
      replace i8 := Lib.hid i8
      replace i9 := Lib.hid i9
      replace i11 := Lib.hid i11
      go_simp
      exact hK.out _ _ ⟨(keepB x6 (by decide)), (keepB x7 (by decide)), (keepB x8 (by decide)), (keepB x10 (by decide)), (keepB x11 (by decide)), (keepF i0.out (by decide)), (keepF i1.out (by decide)), (keepF i2.out (by decide)), (keepF i3.out (by decide)), (fun _ => put_eq (by omega)), (keepF i5.out (by decide)), (keepF i6.out (by decide)), (keepF i7.out (by decide)), (keepF i8.out (by decide)), (keepF i9.out (by decide)), (keepF i11.out (by decide)), hL, hS, B0, B1, R⟩
    · unfold SlotStep
      intro g ac wc hn hk hr hI K' hK
      obtain ⟨x6, x7, x8, x10, x11, i0, i1, i2, i3, i4, i5, i6, i7, i8, i9, i11, hL, hS, B0, B1, R⟩ := hI
      simp only [Region.binds] at hr
      simp at hr
      replace hK := Lib.hid hK
      replace i0 := Lib.hid i0
      replace i1 := Lib.hid i1
      replace i2 := Lib.hid i2
      replace i3 := Lib.hid i3
      replace i4 := Lib.hid i4
      replace i5 := Lib.hid i5
      replace i6 := Lib.hid i6
      replace i7 := Lib.hid i7
      replace i8 := Lib.hid i8
      replace i9 := Lib.hid i9
      replace i11 := Lib.hid i11
      go_simp
      exact hK.out _ _ ⟨(keepB x6 (by decide)), (keepB x7 (by decide)), (keepB x8 (by decide)), (keepB x10 (by decide)), (keepB x11 (by decide)), (keepF i0.out (by decide)), (keepF i1.out (by decide)), (keepF i2.out (by decide)), (keepF i3.out (by decide)), (keepF i4.out (by decide)), (fun _ => put_eq (by omega)), (keepF i6.out (by decide)), (keepF i7.out (by decide)), (keepF i8.out (by decide)), (keepF i9.out (by decide)), (keepF i11.out (by decide)), hL, hS, B0, B1, R⟩
    · unfold SlotStep
      intro g ac wc hn hk hr hI K' hK
      obtain ⟨x6, x7, x8, x10, x11, i0, i1, i2, i3, i4, i5, i6, i7, i8, i9, i11, hL, hS, B0, B1, R⟩ := hI
      simp only [Region.binds] at hr
      simp at hr
      replace hK := Lib.hid hK
      have y3 := i3 (by first | exact hr | exact hr.1 | exact hr.2 | exact hr.2.1 | exact hr.2.2 | exact hr.2.2.1 | exact hr.2.2.2 | simp [hr])
      have y4 := i4 (by first | exact hr | exact hr.1 | exact hr.2 | exact hr.2.1 | exact hr.2.2 | exact hr.2.2.1 | exact hr.2.2.2 | simp [hr])
      have y5 := i5 (by first | exact hr | exact hr.1 | exact hr.2 | exact hr.2.1 | exact hr.2.2 | exact hr.2.2.1 | exact hr.2.2.2 | simp [hr])
      replace i0 := Lib.hid i0
      replace i1 := Lib.hid i1
      replace i2 := Lib.hid i2
      replace i3 := Lib.hid i3
      replace i4 := Lib.hid i4
      replace i5 := Lib.hid i5
      replace i6 := Lib.hid i6
      replace i7 := Lib.hid i7
      replace i8 := Lib.hid i8
      replace i9 := Lib.hid i9
      replace i11 := Lib.hid i11
      go_simp
      refine (w_scaled _ _ _ _ q1 q2 q3 q4 n1 n2 m1 m2 _).mono ?_
      rintro e w4 ⟨rfl, hL4⟩
      rw [HX.out, HY.out]
      exact hK.out _ _ ⟨(keepB x6 (by decide)), (keepB x7 (by decide)), (keepB x8 (by decide)), (keepB x10 (by decide)), (keepB x11 (by decide)), (keepF i0.out (by decide)), (keepF i1.out (by decide)), (keepF i2.out (by decide)), (keepF i3.out (by decide)), (keepF i4.out (by decide)), (keepF i5.out (by decide)), (fun _ => put_eq (by omega)), (keepF i7.out (by decide)), (keepF i8.out (by decide)), (keepF i9.out (by decide)), (keepF i11.out (by decide)), hL.trans hL4, Nat.le_trans hS hL4.size, hL4.keep B0, hL4.keep B1, (by obtain ⟨r0, r1, R1, R2⟩ := R; exact ⟨r0, r1, hL4.keep R1, R2⟩)⟩
    · unfold SlotStep
      intro g ac wc hn hk hr hI K' hK
      obtain ⟨x6, x7, x8, x10, x11, i0, i1, i2, i3, i4, i5, i6, i7, i8, i9, i11, hL, hS, B0, B1, R⟩ := hI
      simp only [Region.binds] at hr
      simp at hr
      replace hK := Lib.hid hK
      have y1 := i1 (by first | exact hr | exact hr.1 | exact hr.2 | exact hr.2.1 | exact hr.2.2 | exact hr.2.2.1 | exact hr.2.2.2 | simp [hr])
      have y6 := i6 (by first | exact hr | exact hr.1 | exact hr.2 | exact hr.2.1 | exact hr.2.2 | exact hr.2.2.1 | exact hr.2.2.2 | simp [hr])
      replace i0 := Lib.hid i0
      replace i1 := Lib.hid i1
      replace i2 := Lib.hid i2
      replace i3 := Lib.hid i3
      replace i4 := Lib.hid i4
      replace i5 := Lib.hid i5
      replace i6 := Lib.hid i6
      replace i7 := Lib.hid i7
      replace i8 := Lib.hid i8
      replace i9 := Lib.hid i9
      replace i11 := Lib.hid i11
      go_simp
      refine (w_placed _ _ _ _ r1 r2 (by omega) (by omega) (by omega) (by omega)).mono ?_
      rintro e w4 ⟨rfl, hL4⟩
      rw [HP.out, HC2.out]
      exact hK.out _ _ ⟨(keepB x6 (by decide)), (keepB x7 (by decide)), (keepB x8 (by decide)), (keepB x10 (by decide)), (keepB x11 (by decide)), (keepF i0.out (by decide)), (keepF i1.out (by decide)), (keepF i2.out (by decide)), (keepF i3.out (by decide)), (keepF i4.out (by decide)), (keepF i5.out (by decide)), (keepF i6.out (by decide)), (fun _ => put_eq (by omega)), (keepF i8.out (by decide)), (keepF i9.out (by decide)), (keepF i11.out (by decide)), hL.trans hL4, Nat.le_trans hS hL4.size, hL4.keep B0, hL4.keep B1, (by obtain ⟨r0, r1, R1, R2⟩ := R; exact ⟨r0, r1, hL4.keep R1, R2⟩)⟩
    · unfold SlotStep
      intro g ac wc hn hk hr hI K' hK
      obtain ⟨x6, x7, x8, x10, x11, i0, i1, i2, i3, i4, i5, i6, i7, i8, i9, i11, hL, hS, B0, B1, R⟩ := hI
      simp only [Region.binds] at hr
      simp at hr
      replace hK := Lib.hid hK
      have y7 := i7 (by first | exact hr | exact hr.1 | exact hr.2 | exact hr.2.1 | exact hr.2.2 | exact hr.2.2.1 | exact hr.2.2.2 | simp [hr])
      replace i0 := Lib.hid i0
      replace i1 := Lib.hid i1
      replace i2 := Lib.hid i2
      replace i3 := Lib.hid i3
      replace i4 := Lib.hid i4
      replace i5 := Lib.hid i5
      replace i6 := Lib.hid i6
      replace i7 := Lib.hid i7
      replace i8 := Lib.hid i8
      replace i9 := Lib.hid i9
      replace i11 := Lib.hid i11
      go_simp
      exact hK.out _ _ ⟨(keepB x6 (by decide)), (keepB x7 (by decide)), (keepB x8 (by decide)), (keepB x10 (by decide)), (keepB x11 (by decide)), (keepF i0.out (by decide)), (keepF i1.out (by decide)), (keepF i2.out (by decide)), (keepF i3.out (by decide)), (keepF i4.out (by decide)), (keepF i5.out (by decide)), (keepF i6.out (by decide)), (keepF i7.out (by decide)), (fun _ => put_eq (by omega)), (keepF i9.out (by decide)), (keepF i11.out (by decide)), hL, hS, B0, B1, R⟩
    · unfold SlotStep
      intro g ac wc hn hk hr hI K' hK
      obtain ⟨x6, x7, x8, x10, x11, i0, i1, i2, i3, i4, i5, i6, i7, i8, i9, i11, hL, hS, B0, B1, R⟩ := hI
      simp only [Region.binds] at hr
      simp at hr
      replace hK := Lib.hid hK
      have y7 := i7 (by first | exact hr | exact hr.1 | exact hr.2 | exact hr.2.1 | exact hr.2.2 | exact hr.2.2.1 | exact hr.2.2.2 | simp [hr])
      replace i0 := Lib.hid i0
      replace i1 := Lib.hid i1
      replace i2 := Lib.hid i2
      replace i3 := Lib.hid i3
      replace i4 := Lib.hid i4
      replace i5 := Lib.hid i5
      replace i6 := Lib.hid i6
      replace i7 := Lib.hid i7
      replace i8 := Lib.hid i8
      replace i9 := Lib.hid i9
      replace i11 := Lib.hid i11
      go_simp
      exact hK.out _ _ ⟨(keepB x6 (by decide)), (keepB x7 (by decide)), (keepB x8 (by decide)), (keepB x10 (by decide)), (keepB x11 (by decide)), (keepF i0.out (by decide)), (keepF i1.out (by decide)), (keepF i2.out (by decide)), (keepF i3.out (by decide)), (keepF i4.out (by decide)), (keepF i5.out (by decide)), (keepF i6.out (by decide)), (keepF i7.out (by decide)), (keepF i8.out (by decide)), (fun _ => put_eq (by omega)), (keepF i11.out (by decide)), hL, hS, B0, B1, R⟩
    · unfold SlotStep
      intro g ac wc hn hk hr hI K' hK
      obtain ⟨x6, x7, x8, x10, x11, i0, i1, i2, i3, i4, i5, i6, i7, i8, i9, i11, hL, hS, B0, B1, R⟩ := hI
      simp only [Region.binds] at hr
      simp at hr
      replace hK := Lib.hid hK
      have y8 := i8 (by first | exact hr | exact hr.1 | exact hr.2 | exact hr.2.1 | exact hr.2.2 | exact hr.2.2.1 | exact hr.2.2.2 | simp [hr])
      replace i0 := Lib.hid i0
      replace i1 := Lib.hid i1
      replace i2 := Lib.hid i2
      replace i3 := Lib.hid i3
      replace i4 := Lib.hid i4
      replace i5 := Lib.hid i5
      replace i6 := Lib.hid i6
      replace i7 := Lib.hid i7
      replace i8 := Lib.hid i8
      replace i9 := Lib.hid i9
      replace i11 := Lib.hid i11
      obtain ⟨r0, r1, R1, -⟩ := R
      have c0 := (blk_at R1).1
      have f0 := (blk_at R1).2.1
      have z0 := (blk_at R1).2.2
      go_simp
      exact hK.out undef _ ⟨x6, x7, x8, x10, x11, i0.out, i1.out, i2.out, i3.out, i4.out, i5.out, i6.out, i7.out, i8.out, i9.out, i11.out, ((hL.setCell hRB _).setCell hRB _), (by simp; omega), (other_set (other_set B0 (by omega) _) (by omega) _), (other_set (other_set B1 (by omega) _) (by omega) _), ⟨_, _, two_set R1 _ _, fun _ => ⟨rfl, rfl⟩⟩⟩
    · unfold SlotStep
      intro g ac wc hn hk hr hI K' hK
      obtain ⟨x6, x7, x8, x10, x11, i0, i1, i2, i3, i4, i5, i6, i7, i8, i9, i11, hL, hS, B0, B1, R⟩ := hI
      simp only [Region.binds] at hr
      simp at hr
      replace hK := Lib.hid hK
      have y9 := i9 (by first | exact hr | exact hr.1 | exact hr.2 | exact hr.2.1 | exact hr.2.2 | exact hr.2.2.1 | exact hr.2.2.2 | simp [hr])
      replace i0 := Lib.hid i0
      replace i1 := Lib.hid i1
      replace i2 := Lib.hid i2
      replace i3 := Lib.hid i3
      replace i4 := Lib.hid i4
      replace i5 := Lib.hid i5
      replace i6 := Lib.hid i6
      replace i7 := Lib.hid i7
      replace i8 := Lib.hid i8
      replace i9 := Lib.hid i9
      replace i11 := Lib.hid i11
      go_simp
      exact hK.out _ _ ⟨(keepB x6 (by decide)), (keepB x7 (by decide)), (keepB x8 (by decide)), (keepB x10 (by decide)), (keepB x11 (by decide)), (keepF i0.out (by decide)), (keepF i1.out (by decide)), (keepF i2.out (by decide)), (keepF i3.out (by decide)), (keepF i4.out (by decide)), (keepF i5.out (by decide)), (keepF i6.out (by decide)), (keepF i7.out (by decide)), (keepF i8.out (by decide)), (keepF i9.out (by decide)), (fun _ => put_eq (by omega)), hL, hS, B0, B1, R⟩

end Go.Proofs.Ytcnbnlmoohieoaa
