/- DERIVED. Walks: figures below and above, the searches. -/
import Derived.Test.YtkoojngonldcbaaGreatKGM30a
import Derived.Test.YtkoojngonldcbaaGreatKGPA
import Derived.Test.YtkoojngonldcbaaGreatKGBA
namespace Go.Proofs.YtkoojngonldcbaaGreat
set_option linter.unusedVariables false
set_option linter.unusedSimpArgs false
open Go.RowKit
set_option maxRecDepth 100000
theorem w_l04At (n : Int) (h1 : -10000000 ≤ n) (h2 : n ≤ 10000000) (w : World) :
 Calls Tryz.prog 215 #[.int .i64 n] w fun e w' => e = .returned (.agg #[.int .i64 (atF n).d, .int .i64 (atF n).t]) ∧ Later w w' := by
 have HF := Lib.hid (show atF n = ⟨1000 + n % 9000, n / 9000⟩ from rfl)
 go_enter Tryz.func215, Tryz.ntmps215
 go_wp2_with fail
 refine (w_l01Mod _ _ (by decide) (by decide) (by omega) (by omega) _).mono ?_
 rintro e w1 ⟨rfl, rfl⟩
 go_wp2_with fail
 refine (w_l01Floor _ _ (by decide) (by decide) (by omega) (by omega) _).mono ?_
 rintro e w1 ⟨rfl, rfl⟩
 go_wp2
 refine bodyPost_ret (v := .agg #[.int .i64 (1000 + n % 9000), .int .i64 (n / 9000)]) (by simp [results, Tryz.results215, go_sem]) rfl ⟨by rw [HF.out], qla⟩
theorem run_hi (X Y : Int) (w : World) : (Instr.field 55 (.agg #[.int .i64 X, .int .i64 Y]) 1).run Tryz.prog w = .ok (.int .i64 Y) w := by kernel_rfl
theorem run_lo (X Y : Int) (w : World) : (Instr.field 55 (.agg #[.int .i64 X, .int .i64 Y]) 0).run Tryz.prog w = .ok (.int .i64 X) w := by kernel_rfl
theorem w_l04Holds_high (d t u : Int) (h1 : 1000 ≤ d) (h2 : d ≤ 9999) (h3 : -100 ≤ t) (h4 : t ≤ 100) (w : World) :
 Calls Tryz.prog 221 #[.agg #[.int .i64 d, .int .i64 t], .int .i64 u, .bool true] w fun e w' => e = .returned (.bool (decide (u < (figLog ⟨d, t⟩).hi))) ∧ Later w w' := by
 have hfl := run_hi (figLog ⟨d, t⟩).lo (figLog ⟨d, t⟩).hi
 go_enter Tryz.func221, Tryz.ntmps221
 go_wp2_with fail
 refine (w_l03Figure _ _ h1 h2 h3 h4 _).mono ?_
 rintro e w1 ⟨rfl, hL⟩
 go_wp2
 go_ret
 exact ⟨rfl, qla⟩
theorem w_l04Holds_low (d t u : Int) (h1 : 1000 ≤ d) (h2 : d ≤ 9999) (h3 : -100 ≤ t) (h4 : t ≤ 100) (w : World) :
 Calls Tryz.prog 221 #[.agg #[.int .i64 d, .int .i64 t], .int .i64 u, .bool false] w fun e w' => e = .returned (.bool (decide (u ≤ (figLog ⟨d, t⟩).lo))) ∧ Later w w' := by
 have hfl := run_lo (figLog ⟨d, t⟩).lo (figLog ⟨d, t⟩).hi
 go_enter Tryz.func221, Tryz.ntmps221
 go_wp2_with fail
 refine (w_l03Figure _ _ h1 h2 h3 h4 _).mono ?_
 rintro e w1 ⟨rfl, hL⟩
 go_wp2
 go_ret
 exact ⟨rfl, qla⟩
set_option maxHeartbeats 1000000 in
theorem w_l04First_high (u : Int) (w : World) :
 Calls Tryz.prog 216 #[.int .i64 u, .bool true] w fun e w' => e = .returned (.int .i64 (nBelow u)) ∧ Later w w' := by
 go_enter Tryz.func216, Tryz.ntmps216
 go_wp2
 go_loopw [5, 6] (fun a b wr => ∃ L T : Int, a = .int .i64 L ∧ b = .int .i64 T ∧ -270001 ≤ L ∧ L < T ∧ T ≤ 279000 ∧ Later w wr ∧ Hid ((L = -270001 ∨ pHigh u L = false) ∧ (T = 279000 ∨ pHigh u T = true))) (fun a b _ => (intOf b - intOf a).toNat)
 case atStart => exact ⟨-270001, 279000, rfl, rfl, by omega, by omega, by omega, Later.refl _, ⟨.inl rfl, .inl rfl⟩⟩
 case round =>
  obtain ⟨L, T, rfl, rfl, l1, l2, l3, hL, HE⟩ := hrel
  by_cases hgt : 1 < T - L
  · have hm1 : L < (L + T) / 2 := by omega
    have hm2 : (L + T) / 2 < T := by omega
    obtain ⟨m, hm⟩ : ∃ m, (L + T) / 2 = m := ⟨_, rfl⟩
    have hd1 : 1000 ≤ (atF m).d := by simp only [atF]; omega
    have hd2 : (atF m).d ≤ 9999 := by simp only [atF]; omega
    have ht1 : -100 ≤ (atF m).t := by simp only [atF]; omega
    have ht2 : (atF m).t ≤ 100 := by simp only [atF]; omega
    rw [hm] at hm1 hm2
    have HM := Lib.hid hm
    clear hm
    cases hp : pHigh u m
    all_goals
     have HP := Lib.hid hp
     clear hp
     go_wp2_with fail
     refine (w_l01Floor _ _ (by decide) (by decide) (by omega) (by omega) _).mono ?_
     rintro e w1 ⟨rfl, rfl⟩
     rw [HM.out]
     go_wp2_with fail
     refine (w_l04At _ (by omega) (by omega) _).mono ?_
     rintro e w1 ⟨rfl, hL1⟩
     go_wp2_with fail
     refine (w_l04Holds_high _ _ _ hd1 hd2 ht1 ht2 _).mono ?_
     rintro e w2 ⟨rfl, hL2⟩
     rw [show decide (u < (figLog ⟨(atF m).d, (atF m).t⟩).hi) = _ from HP.out]
     go_wp2
     go_roundw
     case rel => first | exact ⟨m, T, rfl, rfl, by omega, by omega, by omega, qla, ⟨.inr HP.out, HE.out.2⟩⟩ | exact ⟨L, m, rfl, rfl, by omega, by omega, by omega, qla, ⟨HE.out.1, .inr HP.out⟩⟩
     case measure => simp [intOf]; omega
  · have hT : T = L + 1 := by omega
    have hf : IsFirst (pHigh u) T := by
     refine ⟨by omega, l3, HE.out.2, ?_⟩
     rcases HE.out.1 with h | h
     · exact .inl (by omega)
     · exact .inr (by rw [hT, Int.add_sub_cancel]; exact h)
    have HN := Lib.hid (first_unique (pHigh_mono u) (firstN_is (pHigh u)) hf)
    clear hf hT
    go_wp2
    go_ret
    exact ⟨by rw [nBelow, HN.out]; rfl, hL⟩
set_option maxHeartbeats 1000000 in
theorem w_l04First_low (u : Int) (w : World) :
 Calls Tryz.prog 216 #[.int .i64 u, .bool false] w fun e w' => e = .returned (.int .i64 (nAbove u)) ∧ Later w w' := by
 go_enter Tryz.func216, Tryz.ntmps216
 go_wp2
 go_loopw [5, 6] (fun a b wr => ∃ L T : Int, a = .int .i64 L ∧ b = .int .i64 T ∧ -270001 ≤ L ∧ L < T ∧ T ≤ 279000 ∧ Later w wr ∧ Hid ((L = -270001 ∨ pLow u L = false) ∧ (T = 279000 ∨ pLow u T = true))) (fun a b _ => (intOf b - intOf a).toNat)
 case atStart => exact ⟨-270001, 279000, rfl, rfl, by omega, by omega, by omega, Later.refl _, ⟨.inl rfl, .inl rfl⟩⟩
 case round =>
  obtain ⟨L, T, rfl, rfl, l1, l2, l3, hL, HE⟩ := hrel
  by_cases hgt : 1 < T - L
  · have hm1 : L < (L + T) / 2 := by omega
    have hm2 : (L + T) / 2 < T := by omega
    obtain ⟨m, hm⟩ : ∃ m, (L + T) / 2 = m := ⟨_, rfl⟩
    have hd1 : 1000 ≤ (atF m).d := by simp only [atF]; omega
    have hd2 : (atF m).d ≤ 9999 := by simp only [atF]; omega
    have ht1 : -100 ≤ (atF m).t := by simp only [atF]; omega
    have ht2 : (atF m).t ≤ 100 := by simp only [atF]; omega
    rw [hm] at hm1 hm2
    have HM := Lib.hid hm
    clear hm
    cases hp : pLow u m
    all_goals
     have HP := Lib.hid hp
     clear hp
     go_wp2_with fail
     refine (w_l01Floor _ _ (by decide) (by decide) (by omega) (by omega) _).mono ?_
     rintro e w1 ⟨rfl, rfl⟩
     rw [HM.out]
     go_wp2_with fail
     refine (w_l04At _ (by omega) (by omega) _).mono ?_
     rintro e w1 ⟨rfl, hL1⟩
     go_wp2_with fail
     refine (w_l04Holds_low _ _ _ hd1 hd2 ht1 ht2 _).mono ?_
     rintro e w2 ⟨rfl, hL2⟩
     rw [show decide (u ≤ (figLog ⟨(atF m).d, (atF m).t⟩).lo) = _ from HP.out]
     go_wp2
     go_roundw
     case rel => first | exact ⟨m, T, rfl, rfl, by omega, by omega, by omega, qla, ⟨.inr HP.out, HE.out.2⟩⟩ | exact ⟨L, m, rfl, rfl, by omega, by omega, by omega, qla, ⟨HE.out.1, .inr HP.out⟩⟩
     case measure => simp [intOf]; omega
  · have hT : T = L + 1 := by omega
    have hf : IsFirst (pLow u) T := by
     refine ⟨by omega, l3, HE.out.2, ?_⟩
     rcases HE.out.1 with h | h
     · exact .inl (by omega)
     · exact .inr (by rw [hT, Int.add_sub_cancel]; exact h)
    have HN := Lib.hid (first_unique (pLow_mono u) (firstN_is (pLow u)) hf)
    clear hf hT
    go_wp2
    go_ret
    exact ⟨by rw [nAbove, HN.out]; rfl, hL⟩
theorem w_l04Below (u : Int) (w : World) :
 Calls Tryz.prog 202 #[.int .i64 u] w fun e w' => e = .returned (.agg #[.int .i64 (belowF u).d, .int .i64 (belowF u).t]) ∧ Later w w' := by
 have hb := nBelow_bd u
 obtain ⟨b1, b2⟩ := hb
 have HF := Lib.hid (show belowF u = atF (nBelow u - 1) from rfl)
 go_enter Tryz.func202, Tryz.ntmps202
 go_wp2_with fail
 refine (w_l04First_high _ _).mono ?_
 rintro e w1 ⟨rfl, hL⟩
 go_wp2_with fail
 refine (w_l04At _ (by omega) (by omega) _).mono ?_
 rintro e w2 ⟨rfl, hL2⟩
 obtain ⟨c0, f0, z0⟩ := blk1 (hL.trans hL2)
 go_wp2
 refine bodyPost_ret (v := .agg #[.int .i64 (atF (nBelow u - 1)).d, .int .i64 (atF (nBelow u - 1)).t]) (by simp [results, Tryz.results202, go_sem, c0, z0]) rfl ⟨by rw [HF.out], qla⟩
theorem w_l04Above (u : Int) (w : World) :
 Calls Tryz.prog 203 #[.int .i64 u] w fun e w' => e = .returned (.agg #[.int .i64 (aboveF u).d, .int .i64 (aboveF u).t]) ∧ Later w w' := by
 have hb := nAbove_bd u
 obtain ⟨b1, b2⟩ := hb
 have HF := Lib.hid (show aboveF u = atF (nAbove u) from rfl)
 go_enter Tryz.func203, Tryz.ntmps203
 go_wp2_with fail
 refine (w_l04First_low _ _).mono ?_
 rintro e w1 ⟨rfl, hL⟩
 go_wp2_with fail
 refine (w_l04At _ (by omega) (by omega) _).mono ?_
 rintro e w2 ⟨rfl, hL2⟩
 obtain ⟨c0, f0, z0⟩ := blk1 (hL.trans hL2)
 go_wp2
 refine bodyPost_ret (v := .agg #[.int .i64 (atF (nAbove u)).d, .int .i64 (atF (nAbove u)).t]) (by simp [results, Tryz.results203, go_sem, c0, z0]) rfl ⟨by rw [HF.out], qla⟩
theorem w_figureBelow1 (i t u : Int) (kA kB : Nat) (w : World) (i1 : 0 ≤ i) (i2 : i < 9000) (t1 : -100 ≤ t) (t2 : t ≤ 100) (hA : w.heap[kA]? = some (.cells #[.int .i64 t] 2 (0, 0))) (hB : w.heap[kB]? = some (.cells #[.int .i64 u] 2 (0, 0))) :
 Calls Tryz.prog 204 #[.int .i64 i, .pointer (some ⟨kA, 0, none⟩), .pointer (some ⟨kB, 0, none⟩)] w fun e w' => e = .returned (.bool (decide (u < (figLog ⟨1000 + i, t⟩).hi))) ∧ Later w w' := by
 go_enter Tryz.func204, Tryz.ntmps204
 go_wp2_with fail
 refine region_slots 13 [5, 6, 7, 8, 9, 10, 11, 12, 4] (fun g ac wc => sl ac 0 = .int .i64 i ∧
  sl ac 1 = .pointer (some ⟨kA, 0, none⟩) ∧
  sl ac 2 = .pointer (some ⟨kB, 0, none⟩) ∧
  (g 0 = true → sl ac 5 = .int .i64 i) ∧
  (g 1 = true → sl ac 6 = .int .i64 (1000 + i)) ∧
  (g 2 = true → sl ac 7 = .int .i64 t) ∧
  (g 3 = true → sl ac 8 = .agg #[.int .i64 (1000 + i), .int .i64 t]) ∧
  (g 4 = true → sl ac 9 = .agg #[.int .i64 (figLog ⟨1000 + i, t⟩).lo, .int .i64 (figLog ⟨1000 + i, t⟩).hi]) ∧
  (g 5 = true → sl ac 10 = .int .i64 (figLog ⟨1000 + i, t⟩).hi) ∧
  (g 6 = true → sl ac 11 = .int .i64 u) ∧
  (g 7 = true → sl ac 12 = .bool (decide (u < (figLog ⟨1000 + i, t⟩).hi))) ∧
  (g 8 = true → sl ac 4 = .bool (decide (u < (figLog ⟨1000 + i, t⟩).hi))) ∧
  Later w wc ∧
  w.heap.size ≤ wc.heap.size) (by kernel_rfl) (by kernel_rfl) rfl (by kernel_rfl) ?_ ?_ ?_
 · exact ⟨rfl, rfl, rfl, nofun, nofun, nofun, nofun, nofun, nofun, nofun, nofun, nofun, (Later.refl _).drew, Nat.le_refl _⟩
 · intro g ac wc hg ha hI
   obtain ⟨x0, x1, x2, i0, i1, i2, i3, i4, i5, i6, i7, i8, hL, hS⟩ := hI
   have a0 := i0 (hg 0 (by simp))
   have a1 := i1 (hg 1 (by simp))
   have a2 := i2 (hg 2 (by simp))
   have a3 := i3 (hg 3 (by simp))
   have a4 := i4 (hg 4 (by simp))
   have a5 := i5 (hg 5 (by simp))
   have a6 := i6 (hg 6 (by simp))
   have a7 := i7 (hg 7 (by simp))
   have a8 := i8 (hg 8 (by simp))
   simp only [putAll, a0, a1, a2, a3, a4, a5, a6, a7, a8] at ha
   simp only [Act.put, List.setIfInBounds_toArray, List.set_cons_succ, List.set_cons_zero] at ha
   rw [ha]
   clear x0 x1 x2 i0 i1 i2 i3 i4 i5 i6 i7 i8 a0 a1 a2 a3 a4 a5 a6 a7 a8 hg ha
   go_wp2
   go_ret
   exact ⟨rfl, hL⟩
 · refine .cons ?_ (.cons ?_ (.cons ?_ (.cons ?_ (.cons ?_ (.cons ?_ (.cons ?_ (.cons ?_ (.cons ?_ .nil))))))))
   · refine qst fun g ac wc hn hk hr HI K' hK => ?_
     obtain ⟨x0, x1, x2, -, -, -, -, -, -, -, -, -, hL, hS⟩ := HI.out
     simp [Region.binds] at hr
     go_simp
     obtain ⟨-, -, -, i0, i1, i2, i3, i4, i5, i6, i7, i8, -⟩ := HI.out
     exact hK.out _ _ ⟨qB x0, qB x1, qB x2, qP, qF i1, qF i2, qF i3, qF i4, qF i5, qF i6, qF i7, qF i8, hL, hS⟩
   · refine qst fun g ac wc hn hk hr HI K' hK => ?_
     obtain ⟨x0, x1, x2, i0, -, -, -, -, -, -, -, -, hL, hS⟩ := HI.out
     simp [Region.binds] at hr
     have y0 := i0 (by simp [hr])
     clear i0
     have wD : IntKind.i64.wrap (1000 + i) = 1000 + i := wrap_same (by omega) (by omega)
     go_simp
     obtain ⟨-, -, -, i0, i1, i2, i3, i4, i5, i6, i7, i8, -⟩ := HI.out
     exact hK.out _ _ ⟨qB x0, qB x1, qB x2, qF i0, qP, qF i2, qF i3, qF i4, qF i5, qF i6, qF i7, qF i8, hL, hS⟩
   · refine qst fun g ac wc hn hk hr HI K' hK => ?_
     obtain ⟨x0, x1, x2, -, -, -, -, -, -, -, -, -, hL, hS⟩ := HI.out
     simp [Region.binds] at hr
     have cA := (blk_at (hL.keep hA)).1
     have fA := (blk_at (hL.keep hA)).2.1
     have zA := (blk_at (hL.keep hA)).2.2
     go_simp
     obtain ⟨-, -, -, i0, i1, i2, i3, i4, i5, i6, i7, i8, -⟩ := HI.out
     exact hK.out _ _ ⟨qB x0, qB x1, qB x2, qF i0, qF i1, qP, qF i3, qF i4, qF i5, qF i6, qF i7, qF i8, hL, hS⟩
   · refine qst fun g ac wc hn hk hr HI K' hK => ?_
     obtain ⟨x0, x1, x2, -, i1, i2, -, -, -, -, -, -, hL, hS⟩ := HI.out
     simp [Region.binds] at hr
     have y1 := i1 (by simp [hr])
     have y2 := i2 (by simp [hr])
     have z1 := sl_get y1 (by omega)
     have z2 := sl_get y2 (by omega)
     clear i1 i2
     go_simp
     obtain ⟨-, -, -, i0, i1, i2, i3, i4, i5, i6, i7, i8, -⟩ := HI.out
     exact hK.out _ _ ⟨qB x0, qB x1, qB x2, qF i0, qF i1, qF i2, qP, qF i4, qF i5, qF i6, qF i7, qF i8, hL, hS⟩
   · refine qst fun g ac wc hn hk hr HI K' hK => ?_
     obtain ⟨x0, x1, x2, -, -, -, i3, -, -, -, -, -, hL, hS⟩ := HI.out
     simp [Region.binds] at hr
     have y3 := i3 (by simp [hr])
     clear i3
     go_simp
     refine (w_figureLog _ _ (by omega) (by omega) (by omega) (by omega) _).mono ?_
     rintro e w4 ⟨rfl, hL4⟩
     obtain ⟨-, -, -, i0, i1, i2, i3, i4, i5, i6, i7, i8, -⟩ := HI.out
     exact hK.out _ _ ⟨qB x0, qB x1, qB x2, qF i0, qF i1, qF i2, qF i3, qP, qF i5, qF i6, qF i7, qF i8, hL.trans hL4, Nat.le_trans hS hL4.size⟩
   · refine qst fun g ac wc hn hk hr HI K' hK => ?_
     obtain ⟨x0, x1, x2, -, -, -, -, i4, -, -, -, -, hL, hS⟩ := HI.out
     simp [Region.binds] at hr
     have y4 := i4 (by simp [hr])
     clear i4
     go_simp
     obtain ⟨-, -, -, i0, i1, i2, i3, i4, i5, i6, i7, i8, -⟩ := HI.out
     exact hK.out _ _ ⟨qB x0, qB x1, qB x2, qF i0, qF i1, qF i2, qF i3, qF i4, qP, qF i6, qF i7, qF i8, hL, hS⟩
   · refine qst fun g ac wc hn hk hr HI K' hK => ?_
     obtain ⟨x0, x1, x2, -, -, -, -, -, -, -, -, -, hL, hS⟩ := HI.out
     simp [Region.binds] at hr
     have cB := (blk_at (hL.keep hB)).1
     have fB := (blk_at (hL.keep hB)).2.1
     have zB := (blk_at (hL.keep hB)).2.2
     go_simp
     obtain ⟨-, -, -, i0, i1, i2, i3, i4, i5, i6, i7, i8, -⟩ := HI.out
     exact hK.out _ _ ⟨qB x0, qB x1, qB x2, qF i0, qF i1, qF i2, qF i3, qF i4, qF i5, qP, qF i7, qF i8, hL, hS⟩
   · refine qst fun g ac wc hn hk hr HI K' hK => ?_
     obtain ⟨x0, x1, x2, -, -, -, -, -, i5, i6, -, -, hL, hS⟩ := HI.out
     simp [Region.binds] at hr
     have y5 := i5 (by simp [hr])
     have y6 := i6 (by simp [hr])
     clear i5 i6
     go_simp
     obtain ⟨-, -, -, i0, i1, i2, i3, i4, i5, i6, i7, i8, -⟩ := HI.out
     exact hK.out _ _ ⟨qB x0, qB x1, qB x2, qF i0, qF i1, qF i2, qF i3, qF i4, qF i5, qF i6, qP, qF i8, hL, hS⟩
   · refine qst fun g ac wc hn hk hr HI K' hK => ?_
     obtain ⟨x0, x1, x2, -, -, -, -, -, -, -, i7, -, hL, hS⟩ := HI.out
     simp [Region.binds] at hr
     have y7 := i7 (by simp [hr])
     clear i7
     go_simp
     obtain ⟨-, -, -, i0, i1, i2, i3, i4, i5, i6, i7, i8, -⟩ := HI.out
     exact hK.out _ _ ⟨qB x0, qB x1, qB x2, qF i0, qF i1, qF i2, qF i3, qF i4, qF i5, qF i6, qF i7, qP, hL, hS⟩
theorem w_figureAbove1 (i t u : Int) (kA kB : Nat) (w : World) (i1 : 0 ≤ i) (i2 : i < 9000) (t1 : -100 ≤ t) (t2 : t ≤ 100) (hA : w.heap[kA]? = some (.cells #[.int .i64 t] 2 (0, 0))) (hB : w.heap[kB]? = some (.cells #[.int .i64 u] 2 (0, 0))) :
 Calls Tryz.prog 205 #[.int .i64 i, .pointer (some ⟨kA, 0, none⟩), .pointer (some ⟨kB, 0, none⟩)] w fun e w' => e = .returned (.bool (decide (u ≤ (figLog ⟨1000 + i, t⟩).lo))) ∧ Later w w' := by
 go_enter Tryz.func205, Tryz.ntmps205
 go_wp2_with fail
 refine region_slots 13 [5, 6, 7, 8, 9, 10, 11, 12, 4] (fun g ac wc => sl ac 0 = .int .i64 i ∧
  sl ac 1 = .pointer (some ⟨kA, 0, none⟩) ∧
  sl ac 2 = .pointer (some ⟨kB, 0, none⟩) ∧
  (g 0 = true → sl ac 5 = .int .i64 i) ∧
  (g 1 = true → sl ac 6 = .int .i64 (1000 + i)) ∧
  (g 2 = true → sl ac 7 = .int .i64 t) ∧
  (g 3 = true → sl ac 8 = .agg #[.int .i64 (1000 + i), .int .i64 t]) ∧
  (g 4 = true → sl ac 9 = .agg #[.int .i64 (figLog ⟨1000 + i, t⟩).lo, .int .i64 (figLog ⟨1000 + i, t⟩).hi]) ∧
  (g 5 = true → sl ac 10 = .int .i64 (figLog ⟨1000 + i, t⟩).lo) ∧
  (g 6 = true → sl ac 11 = .int .i64 u) ∧
  (g 7 = true → sl ac 12 = .bool (decide (u ≤ (figLog ⟨1000 + i, t⟩).lo))) ∧
  (g 8 = true → sl ac 4 = .bool (decide (u ≤ (figLog ⟨1000 + i, t⟩).lo))) ∧
  Later w wc ∧
  w.heap.size ≤ wc.heap.size) (by kernel_rfl) (by kernel_rfl) rfl (by kernel_rfl) ?_ ?_ ?_
 · exact ⟨rfl, rfl, rfl, nofun, nofun, nofun, nofun, nofun, nofun, nofun, nofun, nofun, (Later.refl _).drew, Nat.le_refl _⟩
 · intro g ac wc hg ha hI
   obtain ⟨x0, x1, x2, i0, i1, i2, i3, i4, i5, i6, i7, i8, hL, hS⟩ := hI
   have a0 := i0 (hg 0 (by simp))
   have a1 := i1 (hg 1 (by simp))
   have a2 := i2 (hg 2 (by simp))
   have a3 := i3 (hg 3 (by simp))
   have a4 := i4 (hg 4 (by simp))
   have a5 := i5 (hg 5 (by simp))
   have a6 := i6 (hg 6 (by simp))
   have a7 := i7 (hg 7 (by simp))
   have a8 := i8 (hg 8 (by simp))
   simp only [putAll, a0, a1, a2, a3, a4, a5, a6, a7, a8] at ha
   simp only [Act.put, List.setIfInBounds_toArray, List.set_cons_succ, List.set_cons_zero] at ha
   rw [ha]
   clear x0 x1 x2 i0 i1 i2 i3 i4 i5 i6 i7 i8 a0 a1 a2 a3 a4 a5 a6 a7 a8 hg ha
   go_wp2
   go_ret
   exact ⟨rfl, hL⟩
 · refine .cons ?_ (.cons ?_ (.cons ?_ (.cons ?_ (.cons ?_ (.cons ?_ (.cons ?_ (.cons ?_ (.cons ?_ .nil))))))))
   · refine qst fun g ac wc hn hk hr HI K' hK => ?_
     obtain ⟨x0, x1, x2, -, -, -, -, -, -, -, -, -, hL, hS⟩ := HI.out
     simp [Region.binds] at hr
     go_simp
     obtain ⟨-, -, -, i0, i1, i2, i3, i4, i5, i6, i7, i8, -⟩ := HI.out
     exact hK.out _ _ ⟨qB x0, qB x1, qB x2, qP, qF i1, qF i2, qF i3, qF i4, qF i5, qF i6, qF i7, qF i8, hL, hS⟩
   · refine qst fun g ac wc hn hk hr HI K' hK => ?_
     obtain ⟨x0, x1, x2, i0, -, -, -, -, -, -, -, -, hL, hS⟩ := HI.out
     simp [Region.binds] at hr
     have y0 := i0 (by simp [hr])
     clear i0
     have wD : IntKind.i64.wrap (1000 + i) = 1000 + i := wrap_same (by omega) (by omega)
     go_simp
     obtain ⟨-, -, -, i0, i1, i2, i3, i4, i5, i6, i7, i8, -⟩ := HI.out
     exact hK.out _ _ ⟨qB x0, qB x1, qB x2, qF i0, qP, qF i2, qF i3, qF i4, qF i5, qF i6, qF i7, qF i8, hL, hS⟩
   · refine qst fun g ac wc hn hk hr HI K' hK => ?_
     obtain ⟨x0, x1, x2, -, -, -, -, -, -, -, -, -, hL, hS⟩ := HI.out
     simp [Region.binds] at hr
     have cA := (blk_at (hL.keep hA)).1
     have fA := (blk_at (hL.keep hA)).2.1
     have zA := (blk_at (hL.keep hA)).2.2
     go_simp
     obtain ⟨-, -, -, i0, i1, i2, i3, i4, i5, i6, i7, i8, -⟩ := HI.out
     exact hK.out _ _ ⟨qB x0, qB x1, qB x2, qF i0, qF i1, qP, qF i3, qF i4, qF i5, qF i6, qF i7, qF i8, hL, hS⟩
   · refine qst fun g ac wc hn hk hr HI K' hK => ?_
     obtain ⟨x0, x1, x2, -, i1, i2, -, -, -, -, -, -, hL, hS⟩ := HI.out
     simp [Region.binds] at hr
     have y1 := i1 (by simp [hr])
     have y2 := i2 (by simp [hr])
     have z1 := sl_get y1 (by omega)
     have z2 := sl_get y2 (by omega)
     clear i1 i2
     go_simp
     obtain ⟨-, -, -, i0, i1, i2, i3, i4, i5, i6, i7, i8, -⟩ := HI.out
     exact hK.out _ _ ⟨qB x0, qB x1, qB x2, qF i0, qF i1, qF i2, qP, qF i4, qF i5, qF i6, qF i7, qF i8, hL, hS⟩
   · refine qst fun g ac wc hn hk hr HI K' hK => ?_
     obtain ⟨x0, x1, x2, -, -, -, i3, -, -, -, -, -, hL, hS⟩ := HI.out
     simp [Region.binds] at hr
     have y3 := i3 (by simp [hr])
     clear i3
     go_simp
     refine (w_figureLog _ _ (by omega) (by omega) (by omega) (by omega) _).mono ?_
     rintro e w4 ⟨rfl, hL4⟩
     obtain ⟨-, -, -, i0, i1, i2, i3, i4, i5, i6, i7, i8, -⟩ := HI.out
     exact hK.out _ _ ⟨qB x0, qB x1, qB x2, qF i0, qF i1, qF i2, qF i3, qP, qF i5, qF i6, qF i7, qF i8, hL.trans hL4, Nat.le_trans hS hL4.size⟩
   · refine qst fun g ac wc hn hk hr HI K' hK => ?_
     obtain ⟨x0, x1, x2, -, -, -, -, i4, -, -, -, -, hL, hS⟩ := HI.out
     simp [Region.binds] at hr
     have y4 := i4 (by simp [hr])
     clear i4
     go_simp
     obtain ⟨-, -, -, i0, i1, i2, i3, i4, i5, i6, i7, i8, -⟩ := HI.out
     exact hK.out _ _ ⟨qB x0, qB x1, qB x2, qF i0, qF i1, qF i2, qF i3, qF i4, qP, qF i6, qF i7, qF i8, hL, hS⟩
   · refine qst fun g ac wc hn hk hr HI K' hK => ?_
     obtain ⟨x0, x1, x2, -, -, -, -, -, -, -, -, -, hL, hS⟩ := HI.out
     simp [Region.binds] at hr
     have cB := (blk_at (hL.keep hB)).1
     have fB := (blk_at (hL.keep hB)).2.1
     have zB := (blk_at (hL.keep hB)).2.2
     go_simp
     obtain ⟨-, -, -, i0, i1, i2, i3, i4, i5, i6, i7, i8, -⟩ := HI.out
     exact hK.out _ _ ⟨qB x0, qB x1, qB x2, qF i0, qF i1, qF i2, qF i3, qF i4, qF i5, qP, qF i7, qF i8, hL, hS⟩
   · refine qst fun g ac wc hn hk hr HI K' hK => ?_
     obtain ⟨x0, x1, x2, -, -, -, -, -, i5, i6, -, -, hL, hS⟩ := HI.out
     simp [Region.binds] at hr
     have y5 := i5 (by simp [hr])
     have y6 := i6 (by simp [hr])
     clear i5 i6
     go_simp
     obtain ⟨-, -, -, i0, i1, i2, i3, i4, i5, i6, i7, i8, -⟩ := HI.out
     exact hK.out _ _ ⟨qB x0, qB x1, qB x2, qF i0, qF i1, qF i2, qF i3, qF i4, qF i5, qF i6, qP, qF i8, hL, hS⟩
   · refine qst fun g ac wc hn hk hr HI K' hK => ?_
     obtain ⟨x0, x1, x2, -, -, -, -, -, -, -, i7, -, hL, hS⟩ := HI.out
     simp [Region.binds] at hr
     have y7 := i7 (by simp [hr])
     clear i7
     go_simp
     obtain ⟨-, -, -, i0, i1, i2, i3, i4, i5, i6, i7, i8, -⟩ := HI.out
     exact hK.out _ _ ⟨qB x0, qB x1, qB x2, qF i0, qF i1, qF i2, qF i3, qF i4, qF i5, qF i6, qF i7, qP, hL, hS⟩
end Go.Proofs.YtkoojngonldcbaaGreat
