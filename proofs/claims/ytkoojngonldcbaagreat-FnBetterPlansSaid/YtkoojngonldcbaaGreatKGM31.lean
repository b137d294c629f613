/- DERIVED. Walks: spans. -/
import Derived.Test.YtkoojngonldcbaaGreatKGM30
import Derived.Test.YtkoojngonldcbaaGreatKGM14
namespace Go.Proofs.YtkoojngonldcbaaGreat
set_option linter.unusedVariables false
set_option linter.unusedSimpArgs false
open Go.RowKit
set_option maxRecDepth 100000
def SearchI (p : Int → Prop) (w : World) (e : Ending) (w' : World) : Prop := ∃ i : Int, e = .returned (.int .i64 i) ∧ 0 ≤ i ∧ i ≤ 9000 ∧ (i = 9000 ∨ p i) ∧ (i = 0 ∨ ¬ p (i - 1)) ∧ Later w w'
def PropIs (p : Prop) : Bool → Prop
 | true => p
 | false => ¬ p
theorem of_decide_eq {p : Prop} [Decidable p] {b : Bool} (h : decide p = b) : PropIs p b := by
 cases b
 · simpa [PropIs] using h
 · simpa [PropIs] using h
set_option maxHeartbeats 1000000 in
theorem w_searchBelow (t u : Int) (kA kB : Nat) (w : World) (t1 : -100 ≤ t) (t2 : t ≤ 100) (hA : w.heap[kA]? = some (.cells #[.int .i64 t] 2 (0, 0))) (hB : w.heap[kB]? = some (.cells #[.int .i64 u] 2 (0, 0))) :
 Calls Tryz.prog 137 #[.int .i64 9000, .func (.func 204) #[] #[.pointer (some ⟨kA, 0, none⟩), .pointer (some ⟨kB, 0, none⟩)]] w (SearchI (fun i => u < (figLog ⟨1000 + i, t⟩).hi) w) := by
 have HA := Lib.hid hA
 have HB := Lib.hid hB
 clear hA hB
 go_enter Tryz.func137, Tryz.ntmps137
 go_wp2
 go_loopw [5, 6] (fun a b wr => ∃ I J : Int, a = .int .i64 I ∧ b = .int .i64 J ∧ 0 ≤ I ∧ I ≤ J ∧ J ≤ 9000 ∧ Later w wr ∧ Hid ((J = 9000 ∨ u < (figLog ⟨1000 + J, t⟩).hi) ∧ (I = 0 ∨ ¬ u < (figLog ⟨1000 + (I - 1), t⟩).hi))) (fun a b _ => (intOf b - intOf a).toNat)
 case atStart => exact ⟨0, 9000, rfl, rfl, by omega, by omega, by omega, Later.refl _, ⟨.inl rfl, .inl rfl⟩⟩
 case round =>
  obtain ⟨I, J, rfl, rfl, hi0, hij, hj, hL, HE⟩ := hrel
  by_cases hlt : I < J
  · have hm1 : I ≤ (I + J) / 2 := by omega
    have hm2 : (I + J) / 2 < J := by omega
    cases hp : decide (u < (figLog ⟨1000 + (I + J) / 2, t⟩).hi)
    all_goals
     have HP := Lib.hid hp
     have HP2 := Lib.hid (of_decide_eq hp)
     clear hp
     go_wp2_with fail
     refine (w_figureBelow1 _ _ _ _ _ _ (by omega) (by omega) t1 t2 (hL.keep HA.out) (hL.keep HB.out)).mono ?_
     rintro e w1 ⟨rfl, hL1⟩
     rw [HP.out]
     go_wp2
     go_roundw
     case rel => first | exact ⟨(I + J) / 2 + 1, J, rfl, rfl, by omega, by omega, by omega, qla, ⟨HE.out.1, .inr (by rw [Int.add_sub_cancel]; exact HP2.out)⟩⟩ | exact ⟨I, (I + J) / 2, rfl, rfl, by omega, by omega, by omega, qla, ⟨.inr HP2.out, HE.out.2.imp_right fun h => by first | exact Int.not_lt.2 h | exact Int.not_le.2 h | exact h⟩⟩
     case measure => simp [intOf]; omega
  · obtain rfl : I = J := by omega
    go_wp2
    go_ret
    exact ⟨I, rfl, hi0, hj, HE.out.1, HE.out.2.imp_right (fun h => by first | exact Int.not_lt.2 h | exact Int.not_le.2 h | exact h), hL⟩
set_option maxHeartbeats 1000000 in
theorem w_searchAbove (t u : Int) (kA kB : Nat) (w : World) (t1 : -100 ≤ t) (t2 : t ≤ 100) (hA : w.heap[kA]? = some (.cells #[.int .i64 t] 2 (0, 0))) (hB : w.heap[kB]? = some (.cells #[.int .i64 u] 2 (0, 0))) :
 Calls Tryz.prog 137 #[.int .i64 9000, .func (.func 205) #[] #[.pointer (some ⟨kA, 0, none⟩), .pointer (some ⟨kB, 0, none⟩)]] w (SearchI (fun i => u ≤ (figLog ⟨1000 + i, t⟩).lo) w) := by
 have HA := Lib.hid hA
 have HB := Lib.hid hB
 clear hA hB
 go_enter Tryz.func137, Tryz.ntmps137
 go_wp2
 go_loopw [5, 6] (fun a b wr => ∃ I J : Int, a = .int .i64 I ∧ b = .int .i64 J ∧ 0 ≤ I ∧ I ≤ J ∧ J ≤ 9000 ∧ Later w wr ∧ Hid ((J = 9000 ∨ u ≤ (figLog ⟨1000 + J, t⟩).lo) ∧ (I = 0 ∨ ¬ u ≤ (figLog ⟨1000 + (I - 1), t⟩).lo))) (fun a b _ => (intOf b - intOf a).toNat)
 case atStart => exact ⟨0, 9000, rfl, rfl, by omega, by omega, by omega, Later.refl _, ⟨.inl rfl, .inl rfl⟩⟩
 case round =>
  obtain ⟨I, J, rfl, rfl, hi0, hij, hj, hL, HE⟩ := hrel
  by_cases hlt : I < J
  · have hm1 : I ≤ (I + J) / 2 := by omega
    have hm2 : (I + J) / 2 < J := by omega
    cases hp : decide (u ≤ (figLog ⟨1000 + (I + J) / 2, t⟩).lo)
    all_goals
     have HP := Lib.hid hp
     have HP2 := Lib.hid (of_decide_eq hp)
     clear hp
     go_wp2_with fail
     refine (w_figureAbove1 _ _ _ _ _ _ (by omega) (by omega) t1 t2 (hL.keep HA.out) (hL.keep HB.out)).mono ?_
     rintro e w1 ⟨rfl, hL1⟩
     rw [HP.out]
     go_wp2
     go_roundw
     case rel => first | exact ⟨(I + J) / 2 + 1, J, rfl, rfl, by omega, by omega, by omega, qla, ⟨HE.out.1, .inr (by rw [Int.add_sub_cancel]; exact HP2.out)⟩⟩ | exact ⟨I, (I + J) / 2, rfl, rfl, by omega, by omega, by omega, qla, ⟨.inr HP2.out, HE.out.2.imp_right fun h => by first | exact Int.not_lt.2 h | exact Int.not_le.2 h | exact h⟩⟩
     case measure => simp [intOf]; omega
  · obtain rfl : I = J := by omega
    go_wp2
    go_ret
    exact ⟨I, rfl, hi0, hj, HE.out.1, HE.out.2.imp_right (fun h => by first | exact Int.not_lt.2 h | exact Int.not_le.2 h | exact h), hL⟩
def belowR (u : Int) : Fig := if isFig (belowF u) then belowF u else ⟨0, 0⟩
set_option maxHeartbeats 1000000 in
theorem w_figureBelow (u : Int) (w : World) (hu : isUnits u = true) :
 Calls Tryz.prog 165 #[.int .i64 u] w fun e w' => e = .returned (.tuple #[.agg #[.int .i64 (belowR u).d, .int .i64 (belowR u).t], .bool (isFig (belowF u))]) ∧ Later w w' := by
 have hb := inR_true hu
 obtain ⟨b1, b2⟩ := hb
 obtain ⟨t, ht⟩ : ∃ t, (u - 1) / 1048576 = t := ⟨_, rfl⟩
 have t1 : -100 ≤ t := by omega
 have t2 : t ≤ 100 := by omega
 by_cases hlt : t < -30
 · have hn := below_none hu (by omega)
   have HF := Lib.hid (show belowR u = ⟨0, 0⟩ from by simp [belowR, hn])
   have HN := Lib.hid hn
   have HT := Lib.hid ht
   clear hn ht hu
   go_enter Tryz.func165, Tryz.ntmps165
   go_wp2_with fail
   refine (w_down _ _ (by decide) (by decide) (by omega) (by omega) _).mono ?_
   rintro e w1 ⟨rfl, rfl⟩
   rw [HT.out]
   go_wp2
   refine bodyPost_ret (v := .tuple #[.agg #[.int .i64 0, .int .i64 0], .bool false]) (by simp [results, Tryz.results165, go_sem]) rfl ⟨by rw [HF.out, HN.out], qla⟩
 · have HU := Lib.hid hu
   have HT := Lib.hid ht
   clear hu ht
   go_enter Tryz.func165, Tryz.ntmps165
   go_wp2_with fail
   refine (w_down _ _ (by decide) (by decide) (by omega) (by omega) _).mono ?_
   rintro e w1 ⟨rfl, rfl⟩
   rw [HT.out]
   go_wp2_with fail
   refine (w_searchBelow t u _ _ _ t1 t2 (heap_alloc_new' _ _ (by simp)) (heap_alloc_old _ _ (heap_alloc_old _ _ (heap_alloc_new _ _)))).mono ?_
   rintro e w1 ⟨i, rfl, i1, i2, i3, i4, hL⟩
   have hbo := below_of (i := i) HU.out (by rw [HT.out]; omega) i1 i2 (by rw [HT.out]; exact i3) (by rw [HT.out]; exact i4)
   have hfi := below_isFig (i := i) HU.out (by rw [HT.out]; omega) hbo.2 i2
   have HB := Lib.hid (show belowF u = ⟨999 + i, t⟩ from by rw [hbo.1, HT.out])
   have HI := Lib.hid (show isFig (belowF u) = true from by rw [hbo.1]; exact hfi)
   have HR := Lib.hid (show belowR u = ⟨999 + i, t⟩ from by rw [belowR, HI.out, if_pos rfl]; exact HB.out)
   clear hbo hfi i3 i4
   obtain ⟨K0, K1, K2⟩ := kept3 hL
   obtain ⟨c1, f1, z1⟩ := blk_at K1
   obtain ⟨c2, f2, z2⟩ := blk_at K2
   go_wp2
   refine bodyPost_ret (v := .tuple #[.agg #[.int .i64 (999 + i), .int .i64 t], .bool true]) (by simp [results, Tryz.results165, go_sem, c1, z1]) rfl ⟨by rw [HR.out, HI.out], qla⟩
set_option maxHeartbeats 1000000 in
theorem w_figureAbove (u : Int) (w : World) (hu : isUnits u = true) :
 Calls Tryz.prog 166 #[.int .i64 u] w fun e w' => e = .returned (.tuple #[.agg #[.int .i64 (aboveF u).d, .int .i64 (aboveF u).t], .bool (isFig (aboveF u))]) ∧ Later w w' := by
 have hb := inR_true hu
 obtain ⟨b1, b2⟩ := hb
 obtain ⟨t, ht⟩ : ∃ t, u / 1048576 = t := ⟨_, rfl⟩
 have t1 : -100 ≤ t := by omega
 have t2 : t ≤ 100 := by omega
 have HU := Lib.hid hu
 have HT := Lib.hid ht
 clear hu ht
 go_enter Tryz.func166, Tryz.ntmps166
 go_wp2_with fail
 refine (w_down _ _ (by decide) (by decide) (by omega) (by omega) _).mono ?_
 rintro e w1 ⟨rfl, rfl⟩
 rw [HT.out]
 go_wp2_with fail
 refine (w_searchAbove t u _ _ _ t1 t2 (heap_alloc_new' _ _ (by simp)) (heap_alloc_old _ _ (heap_alloc_old _ _ (heap_alloc_new _ _)))).mono ?_
 rintro e w1 ⟨i, rfl, i1, i2, i3, i4, hL⟩
 have hab := above_of (i := i) HU.out i1 i2 (by rw [HT.out]; exact i3) (by rw [HT.out]; exact i4)
 rw [HT.out] at hab
 have hL1 : Later w w1 := ((((Later.refl w).alloc (.cells #[.int .i64 u] 2)).alloc (.cells #[.int .i64 0, .int .i64 0] 46)).alloc (.cells #[.int .i64 t] 2)).trans hL
 obtain ⟨K0, K1, K2⟩ := kept3 hL
 have hsz := hL.size
 simp only [World.size_alloc] at hsz
 obtain ⟨c2, f2, z2⟩ := blk_at K2
 clear i3 i4 K0 hL
 by_cases h9 : i = 9000
 · have HF := Lib.hid (show aboveF u = ⟨1000, t + 1⟩ from by rw [hab]; exact if_pos h9)
   have hq : (i == 9000) = true := by simp [h9]
   clear hab h9
   go_wp2
   obtain ⟨wz, hwz⟩ : ∃ wz : World, wz = w1.alloc (.cells #[.int .i64 1000, .int .i64 (t + 1)] 46) := ⟨_, rfl⟩
   have hLz : Later w1 wz := by rw [hwz]; exact (Later.refl _).alloc _
   have K6 : wz.heap[w1.heap.size]? = some (.cells #[.int .i64 1000, .int .i64 (t + 1)] 46 (0, 0)) := by rw [hwz]; exact heap_alloc_new _ _
   have Kr := hLz.keep K1
   have hL0 := hL1.trans hLz
   have hlt6 : w1.heap.size < wz.heap.size := by rw [hwz]; simp
   have hSB := hL0.size
   have hRB : w.heap.size ≤ w.heap.size + 1 := by omega
   rw [← hwz]
   clear hwz hLz K1 hL1 c2 f2 z2 K2
   refine region_slots 23 [20, 21, 22, 3] (fun g ac wc => sl ac 6 = .pointer (some ⟨w1.heap.size, 0, none⟩) ∧
    sl ac 2 = .pointer (some ⟨w.heap.size + 1, 0, none⟩) ∧
    (g 0 = true → sl ac 20 = .agg #[.int .i64 1000, .int .i64 (t + 1)]) ∧
    (g 1 = true → sl ac 21 = .agg #[.int .i64 1000, .int .i64 (t + 1)]) ∧
    (g 2 = true → sl ac 22 = .bool (isFig ⟨1000, t + 1⟩)) ∧
    (g 4 = true → sl ac 3 = .bool (isFig ⟨1000, t + 1⟩)) ∧
    Later w wc ∧
    wz.heap.size ≤ wc.heap.size ∧
    wc.heap[w1.heap.size]? = some (.cells #[.int .i64 1000, .int .i64 (t + 1)] 46 (0, 0)) ∧
    (∃ r0 r1, wc.heap[w.heap.size + 1]? = some (.cells #[r0, r1] 46 (0, 0)) ∧ (g 3 = true → r0 = .int .i64 1000 ∧ r1 = .int .i64 (t + 1)))) (by kernel_rfl) (by kernel_rfl) rfl (by kernel_rfl) ?_ ?_ ?_
   · exact ⟨rfl, rfl, nofun, nofun, nofun, nofun, hL0.drew, Nat.le_refl _, K6, ⟨_, _, Kr, nofun⟩⟩
   · intro g ac wc hg ha hI
     obtain ⟨x6, x2, i0, i1, i2, i4, hL, hS, B6, Rr⟩ := hI
     have a0 := i0 (hg 0 (by simp))
     have a1 := i1 (hg 1 (by simp))
     have a2 := i2 (hg 2 (by simp))
     have a4 := i4 (hg 4 (by simp))
     obtain ⟨r0, r1, Kr, gr⟩ := Rr
     have gr := gr (hg 3 (by simp))
     rw [gr.1, gr.2] at Kr
     clear gr
     simp only [putAll, a0, a1, a2, a4] at ha
     simp only [Act.put, List.setIfInBounds_toArray, List.set_cons_succ, List.set_cons_zero] at ha
     rw [ha]
     clear x6 x2 i0 i1 i2 i4 a0 a1 a2 a4 hg ha
     have c0 := (blk_at Kr).1
     have z0 := (blk_at Kr).2.2
     go_wp2
     refine bodyPost_ret (v := .tuple #[.agg #[.int .i64 1000, .int .i64 (t + 1)], .bool (isFig ⟨1000, t + 1⟩)]) (by simp [results, Tryz.results166, go_sem, c0, z0]) rfl ⟨by rw [HF.out], hL⟩
   · refine .cons ?_ (.cons ?_ (.cons ?_ (.cons ?_ (.cons ?_ .nil))))
     · refine qst fun g ac wc hn hk hr HI K' hK => ?_
       obtain ⟨x6, x2, -, -, -, -, hL, hS, B6, Rr⟩ := HI.out
       simp [Region.binds] at hr
       obtain ⟨c0, f0, z0⟩ := blk_at B6
       go_simp
       obtain ⟨-, -, i0, i1, i2, i4, -⟩ := HI.out
       exact hK.out _ _ ⟨qB x6, qB x2, qP, qF i1, qF i2, qF i4, hL, hS, B6, Rr⟩
     · refine qst fun g ac wc hn hk hr HI K' hK => ?_
       obtain ⟨x6, x2, -, -, -, -, hL, hS, B6, Rr⟩ := HI.out
       simp [Region.binds] at hr
       obtain ⟨c0, f0, z0⟩ := blk_at B6
       go_simp
       obtain ⟨-, -, i0, i1, i2, i4, -⟩ := HI.out
       exact hK.out _ _ ⟨qB x6, qB x2, qF i0, qP, qF i2, qF i4, hL, hS, B6, Rr⟩
     · refine qst fun g ac wc hn hk hr HI K' hK => ?_
       obtain ⟨x6, x2, -, i1, -, -, hL, hS, B6, Rr⟩ := HI.out
       simp [Region.binds] at hr
       have y1 := i1 (by simp [hr])
       clear i1
       go_simp
       refine (w_implIsFigure _ _ _).mono ?_
       rintro e w4 ⟨rfl, hL4⟩
       obtain ⟨-, -, i0, i1, i2, i4, -⟩ := HI.out
       exact hK.out _ _ ⟨qB x6, qB x2, qF i0, qF i1, qP, qF i4, hL.trans hL4, Nat.le_trans hS hL4.size, hL4.keep B6, (by obtain ⟨r0, r1, R1, R2⟩ := Rr; exact ⟨r0, r1, hL4.keep R1, R2⟩)⟩
     · refine qst fun g ac wc hn hk hr HI K' hK => ?_
       obtain ⟨x6, x2, i0, -, -, -, hL, hS, B6, Rr⟩ := HI.out
       simp [Region.binds] at hr
       have y0 := i0 (by simp [hr])
       clear i0
       obtain ⟨r0, r1, R1, -⟩ := Rr
       obtain ⟨c0, f0, z0⟩ := blk_at R1
       go_simp
       obtain ⟨-, -, i0, i1, i2, i4, -⟩ := HI.out
       exact hK.out undef _ ⟨x6, x2, i0, i1, i2, i4, ((hL.setCell hRB _).setCell hRB _), (by simp; omega), (other_set (other_set B6 (by omega) _) (by omega) _), ⟨_, _, two_set R1 _ _, fun _ => ⟨rfl, rfl⟩⟩⟩
     · refine qst fun g ac wc hn hk hr HI K' hK => ?_
       obtain ⟨x6, x2, -, -, i2, -, hL, hS, B6, Rr⟩ := HI.out
       simp [Region.binds] at hr
       have y2 := i2 (by simp [hr])
       clear i2
       go_simp
       obtain ⟨-, -, i0, i1, i2, i4, -⟩ := HI.out
       exact hK.out _ _ ⟨qB x6, qB x2, qF i0, qF i1, qF i2, qP, hL, hS, B6, Rr⟩
 · have HF := Lib.hid (show aboveF u = ⟨1000 + i, t⟩ from by rw [hab]; exact if_neg h9)
   have hq : (i == 9000) = false := by simp [h9]
   clear hab h9
   go_wp2
   obtain ⟨wz, hwz⟩ : ∃ wz : World, wz = w1.alloc (.cells #[.int .i64 (1000 + i), .int .i64 t] 46) := ⟨_, rfl⟩
   have hLz : Later w1 wz := by rw [hwz]; exact (Later.refl _).alloc _
   have K6 : wz.heap[w1.heap.size]? = some (.cells #[.int .i64 (1000 + i), .int .i64 t] 46 (0, 0)) := by rw [hwz]; exact heap_alloc_new _ _
   have Kr := hLz.keep K1
   have hL0 := hL1.trans hLz
   have hlt6 : w1.heap.size < wz.heap.size := by rw [hwz]; simp
   have hSB := hL0.size
   have hRB : w.heap.size ≤ w.heap.size + 1 := by omega
   rw [← hwz]
   clear hwz hLz K1 hL1 c2 f2 z2 K2
   refine region_slots 23 [20, 21, 22, 3] (fun g ac wc => sl ac 6 = .pointer (some ⟨w1.heap.size, 0, none⟩) ∧
    sl ac 2 = .pointer (some ⟨w.heap.size + 1, 0, none⟩) ∧
    (g 0 = true → sl ac 20 = .agg #[.int .i64 (1000 + i), .int .i64 t]) ∧
    (g 1 = true → sl ac 21 = .agg #[.int .i64 (1000 + i), .int .i64 t]) ∧
    (g 2 = true → sl ac 22 = .bool (isFig ⟨1000 + i, t⟩)) ∧
    (g 4 = true → sl ac 3 = .bool (isFig ⟨1000 + i, t⟩)) ∧
    Later w wc ∧
    wz.heap.size ≤ wc.heap.size ∧
    wc.heap[w1.heap.size]? = some (.cells #[.int .i64 (1000 + i), .int .i64 t] 46 (0, 0)) ∧
    (∃ r0 r1, wc.heap[w.heap.size + 1]? = some (.cells #[r0, r1] 46 (0, 0)) ∧ (g 3 = true → r0 = .int .i64 (1000 + i) ∧ r1 = .int .i64 t))) (by kernel_rfl) (by kernel_rfl) rfl (by kernel_rfl) ?_ ?_ ?_
   · exact ⟨rfl, rfl, nofun, nofun, nofun, nofun, hL0.drew, Nat.le_refl _, K6, ⟨_, _, Kr, nofun⟩⟩
   · intro g ac wc hg ha hI
     obtain ⟨x6, x2, i0, i1, i2, i4, hL, hS, B6, Rr⟩ := hI
     have a0 := i0 (hg 0 (by simp))
     have a1 := i1 (hg 1 (by simp))
     have a2 := i2 (hg 2 (by simp))
     have a4 := i4 (hg 4 (by simp))
     obtain ⟨r0, r1, Kr, gr⟩ := Rr
     have gr := gr (hg 3 (by simp))
     rw [gr.1, gr.2] at Kr
     clear gr
     simp only [putAll, a0, a1, a2, a4] at ha
     simp only [Act.put, List.setIfInBounds_toArray, List.set_cons_succ, List.set_cons_zero] at ha
     rw [ha]
     clear x6 x2 i0 i1 i2 i4 a0 a1 a2 a4 hg ha
     have c0 := (blk_at Kr).1
     have z0 := (blk_at Kr).2.2
     go_wp2
     refine bodyPost_ret (v := .tuple #[.agg #[.int .i64 (1000 + i), .int .i64 t], .bool (isFig ⟨1000 + i, t⟩)]) (by simp [results, Tryz.results166, go_sem, c0, z0]) rfl ⟨by rw [HF.out], hL⟩
   · refine .cons ?_ (.cons ?_ (.cons ?_ (.cons ?_ (.cons ?_ .nil))))
     · refine qst fun g ac wc hn hk hr HI K' hK => ?_
       obtain ⟨x6, x2, -, -, -, -, hL, hS, B6, Rr⟩ := HI.out
       simp [Region.binds] at hr
       obtain ⟨c0, f0, z0⟩ := blk_at B6
       go_simp
       obtain ⟨-, -, i0, i1, i2, i4, -⟩ := HI.out
       exact hK.out _ _ ⟨qB x6, qB x2, qP, qF i1, qF i2, qF i4, hL, hS, B6, Rr⟩
     · refine qst fun g ac wc hn hk hr HI K' hK => ?_
       obtain ⟨x6, x2, -, -, -, -, hL, hS, B6, Rr⟩ := HI.out
       simp [Region.binds] at hr
       obtain ⟨c0, f0, z0⟩ := blk_at B6
       go_simp
       obtain ⟨-, -, i0, i1, i2, i4, -⟩ := HI.out
       exact hK.out _ _ ⟨qB x6, qB x2, qF i0, qP, qF i2, qF i4, hL, hS, B6, Rr⟩
     · refine qst fun g ac wc hn hk hr HI K' hK => ?_
       obtain ⟨x6, x2, -, i1, -, -, hL, hS, B6, Rr⟩ := HI.out
       simp [Region.binds] at hr
       have y1 := i1 (by simp [hr])
       clear i1
       go_simp
       refine (w_implIsFigure _ _ _).mono ?_
       rintro e w4 ⟨rfl, hL4⟩
       obtain ⟨-, -, i0, i1, i2, i4, -⟩ := HI.out
       exact hK.out _ _ ⟨qB x6, qB x2, qF i0, qF i1, qP, qF i4, hL.trans hL4, Nat.le_trans hS hL4.size, hL4.keep B6, (by obtain ⟨r0, r1, R1, R2⟩ := Rr; exact ⟨r0, r1, hL4.keep R1, R2⟩)⟩
     · refine qst fun g ac wc hn hk hr HI K' hK => ?_
       obtain ⟨x6, x2, i0, -, -, -, hL, hS, B6, Rr⟩ := HI.out
       simp [Region.binds] at hr
       have y0 := i0 (by simp [hr])
       clear i0
       obtain ⟨r0, r1, R1, -⟩ := Rr
       obtain ⟨c0, f0, z0⟩ := blk_at R1
       go_simp
       obtain ⟨-, -, i0, i1, i2, i4, -⟩ := HI.out
       exact hK.out undef _ ⟨x6, x2, i0, i1, i2, i4, ((hL.setCell hRB _).setCell hRB _), (by simp; omega), (other_set (other_set B6 (by omega) _) (by omega) _), ⟨_, _, two_set R1 _ _, fun _ => ⟨rfl, rfl⟩⟩⟩
     · refine qst fun g ac wc hn hk hr HI K' hK => ?_
       obtain ⟨x6, x2, -, -, i2, -, hL, hS, B6, Rr⟩ := HI.out
       simp [Region.binds] at hr
       have y2 := i2 (by simp [hr])
       clear i2
       go_simp
       obtain ⟨-, -, i0, i1, i2, i4, -⟩ := HI.out
       exact hK.out _ _ ⟨qB x6, qB x2, qF i0, qF i1, qF i2, qP, hL, hS, B6, Rr⟩
theorem w_isUnits (u : Int) (w : World) : Calls Tryz.prog 164 #[.int .i64 u] w fun e w' => e = .returned (.bool (isUnits u)) ∧ w = w' := by
 go_enter Tryz.func164, Tryz.ntmps164
 go_wp2_with (go_at_call 72; refine (w_within _ _ _ _).mono ?_; rintro e w' ⟨rfl, rfl⟩)
 go_ret
 exact ⟨rfl, rfl⟩
theorem w_l04Units (u : Int) (w : World) : Calls Tryz.prog 201 #[.int .i64 u] w fun e w' => e = .returned (.bool (isUnits u)) ∧ w = w' := by
 go_enter Tryz.func201, Tryz.ntmps201
 go_wp2_with (go_at_call 82; refine (w_l01In _ _ _ _).mono ?_; rintro e w' ⟨rfl, rfl⟩)
 go_ret
 exact ⟨rfl, rfl⟩
set_option maxHeartbeats 4000000 in
theorem w_l04Span (lo hi : Int) (w : World) :
 Calls Tryz.prog 163 #[.agg #[.int .i64 lo, .int .i64 hi]] w fun e w' => e = .returned (.tuple #[.agg #[.int .i64 (spanL ⟨lo, hi⟩).d, .int .i64 (spanL ⟨lo, hi⟩).t], .agg #[.int .i64 (spanH ⟨lo, hi⟩).d, .int .i64 (spanH ⟨lo, hi⟩).t], .int .i64 (spanC ⟨lo, hi⟩)]) ∧ Later w w' := by
 cases h1 : isUnits lo
 · have H1 := Lib.hid h1
   have HC := Lib.hid (show spanC ⟨lo, hi⟩ = 2 from by simp [spanC, h1])
   have HP := Lib.hid (show spanL ⟨lo, hi⟩ = ⟨0, 0⟩ from by rw [spanL, HC.out]; rfl)
   have HQ := Lib.hid (show spanH ⟨lo, hi⟩ = ⟨0, 0⟩ from by rw [spanH, HC.out]; rfl)
   clear h1
   go_enter Tryz.func163, Tryz.ntmps163
   go_wp2_with fail
   refine (w_l04Units _ _).mono ?_
   rintro e w1 ⟨rfl, rfl⟩
   rw [H1.out]
   go_wp2
   refine bodyPost_ret (v := .tuple #[.agg #[.int .i64 0, .int .i64 0], .agg #[.int .i64 0, .int .i64 0], .int .i64 2]) (by simp [results, Tryz.results163, go_sem]) rfl ⟨by rw [HC.out, HP.out, HQ.out], qla⟩
 cases h2 : isUnits hi
 · have H1 := Lib.hid h1
   have H2 := Lib.hid h2
   have HC := Lib.hid (show spanC ⟨lo, hi⟩ = 2 from by simp [spanC, h2])
   have HP := Lib.hid (show spanL ⟨lo, hi⟩ = ⟨0, 0⟩ from by rw [spanL, HC.out]; rfl)
   have HQ := Lib.hid (show spanH ⟨lo, hi⟩ = ⟨0, 0⟩ from by rw [spanH, HC.out]; rfl)
   clear h1 h2
   go_enter Tryz.func163, Tryz.ntmps163
   go_wp2_with fail
   refine (w_l04Units _ _).mono ?_
   rintro e w1 ⟨rfl, rfl⟩
   rw [H1.out]
   go_wp2_with fail
   refine (w_l04Units _ _).mono ?_
   rintro e w1 ⟨rfl, rfl⟩
   rw [H2.out]
   go_wp2
   refine bodyPost_ret (v := .tuple #[.agg #[.int .i64 0, .int .i64 0], .agg #[.int .i64 0, .int .i64 0], .int .i64 2]) (by simp [results, Tryz.results163, go_sem]) rfl ⟨by rw [HC.out, HP.out, HQ.out], qla⟩
 have HU1 := Lib.hid h1
 have HU2 := Lib.hid h2
 clear h1 h2
 go_enter Tryz.func163, Tryz.ntmps163
 go_wp2_with fail
 refine (w_l04Units _ _).mono ?_
 rintro e w1 ⟨rfl, rfl⟩
 rw [HU1.out]
 go_wp2_with fail
 refine (w_l04Units _ _).mono ?_
 rintro e w1 ⟨rfl, rfl⟩
 rw [HU2.out]
 go_wp2_with fail
 obtain ⟨wz, hwz⟩ : ∃ wz : World, wz = ((w.alloc (.cells #[.int .i64 lo, .int .i64 hi] 55)).alloc (.cells #[.int .i64 0, .int .i64 0] 46)).alloc (.cells #[.int .i64 0, .int .i64 0] 46) := ⟨_, rfl⟩
 have hLz : Later (((w.alloc (.cells #[.int .i64 lo, .int .i64 hi] 55)).alloc (.cells #[.int .i64 0, .int .i64 0] 46)).alloc (.cells #[.int .i64 0, .int .i64 0] 46)) wz := by rw [hwz]; exact Later.refl _
 obtain ⟨K0, K1, K2⟩ := kept3 hLz
 have hL0 : Later w wz := by rw [hwz]; exact (((Later.refl w).alloc _).alloc _).alloc _
 have hsz := hLz.size
 simp only [World.size_alloc] at hsz
 have hSB := hL0.size
 rw [← hwz]
 clear hwz hLz
 refine region_slots 37 [19, 20, 21, 22, 23, 24, 5, 6] (fun g ac wc => sl ac 1 = .pointer (some ⟨w.heap.size, 0, none⟩) ∧
  (g 0 = true → sl ac 19 = .pointer (some ⟨w.heap.size, 0, none⟩)) ∧
  (g 1 = true → sl ac 20 = .int .i64 lo) ∧
  (g 2 = true → sl ac 21 = .agg #[.int .i64 (belowF lo).d, .int .i64 (belowF lo).t]) ∧
  (g 3 = true → sl ac 22 = .pointer (some ⟨w.heap.size, 1, none⟩)) ∧
  (g 4 = true → sl ac 23 = .int .i64 hi) ∧
  (g 5 = true → sl ac 24 = .agg #[.int .i64 (aboveF hi).d, .int .i64 (aboveF hi).t]) ∧
  Later w wc ∧
  (g 6 = true → ∃ k, sl ac 5 = .pointer (some ⟨k, 0, none⟩) ∧ wz.heap.size ≤ k ∧ ∃ p6_0 p6_1, wc.heap[k]? = some (.cells #[p6_0, p6_1] 46 (0, 0)) ∧ (g 8 = true → p6_0 = .int .i64 (belowF lo).d ∧ p6_1 = .int .i64 (belowF lo).t)) ∧
  (g 7 = true → ∃ k, sl ac 6 = .pointer (some ⟨k, 0, none⟩) ∧ wz.heap.size ≤ k ∧ ∃ p7_0 p7_1, wc.heap[k]? = some (.cells #[p7_0, p7_1] 46 (0, 0)) ∧ (g 9 = true → p7_0 = .int .i64 (aboveF hi).d ∧ p7_1 = .int .i64 (aboveF hi).t)) ∧
  (g 6 = true → g 7 = true → sl ac 5 ≠ sl ac 6) ∧
  (g 8 = true → g 6 = true) ∧
  (g 9 = true → g 7 = true) ∧
  wz.heap.size ≤ wc.heap.size ∧
  wc.heap[w.heap.size]? = some (.cells #[.int .i64 lo, .int .i64 hi] 55 (0, 0)) ∧
  wc.heap[w.heap.size + 1]? = some (.cells #[.int .i64 0, .int .i64 0] 46 (0, 0)) ∧
  wc.heap[w.heap.size + 1 + 1]? = some (.cells #[.int .i64 0, .int .i64 0] 46 (0, 0))) (by kernel_rfl) (by kernel_rfl) rfl (by kernel_rfl) ?_ ?_ ?_
 · exact ⟨rfl, nofun, nofun, nofun, nofun, nofun, nofun, hL0.drew, nofun, nofun, nofun, nofun, nofun, Nat.le_refl _, K0, K1, K2⟩
 · intro g ac wu hg ha hI
   obtain ⟨x1, i0, i1, i2, i3, i4, i5, hL, i6, i7, n6_7, -, -, hS, B0, B1, B2⟩ := hI
   obtain ⟨kr6, e6, br6, p6_0, p6_1, Kr6, g6⟩ := i6 (hg 6 (by simp))
   have g6 := g6 (hg 8 (by simp))
   rw [g6.1, g6.2] at Kr6
   obtain ⟨kr7, e7, br7, p7_0, p7_1, Kr7, g7⟩ := i7 (hg 7 (by simp))
   have g7 := g7 (hg 9 (by simp))
   rw [g7.1, g7.2] at Kr7
   have a0 := i0 (hg 0 (by simp))
   have a1 := i1 (hg 1 (by simp))
   have a2 := i2 (hg 2 (by simp))
   have a3 := i3 (hg 3 (by simp))
   have a4 := i4 (hg 4 (by simp))
   have a5 := i5 (hg 5 (by simp))
   have hner6_7 : kr6 ≠ kr7 := fun hh => n6_7 (hg 6 (by simp)) (hg 7 (by simp)) (by rw [e6, e7, hh])
   simp only [putAll, a0, a1, a2, a3, a4, a5, e6, e7] at ha
   simp only [Act.put, List.setIfInBounds_toArray, List.set_cons_succ, List.set_cons_zero] at ha
   rw [ha]
   clear x1 i0 i1 i2 i3 i4 i5 i6 i7 a0 a1 a2 a3 a4 a5 e6 e7 n6_7 g6 g7 hg ha
   have HK6 := Lib.hid Kr6
   have HK7 := Lib.hid Kr7
   have HB1 := Lib.hid B1
   have HB2 := Lib.hid B2
   have lt6 := (Array.getElem?_eq_some_iff.1 Kr6).1
   have lt7 := (Array.getElem?_eq_some_iff.1 Kr7).1
   have c6 := (blk_at Kr6).1
   have f6 := (blk_at Kr6).2.1
   have c7 := (blk_at Kr7).1
   have f7 := (blk_at Kr7).2.1
   clear Kr6 Kr7 B0 B1 B2
   cases hp : isFig (belowF lo)
   · have HPI := Lib.hid (show isFig ⟨(belowF lo).d, (belowF lo).t⟩ = false from hp)
     have HC := Lib.hid (show spanC ⟨lo, hi⟩ = 4 from by simp [spanC, HU1.out, HU2.out, hp])
     have HP := Lib.hid (show spanL ⟨lo, hi⟩ = ⟨0, 0⟩ from by rw [spanL, HC.out]; rfl)
     have HQ := Lib.hid (show spanH ⟨lo, hi⟩ = ⟨0, 0⟩ from by rw [spanH, HC.out]; rfl)
     clear hp
     go_wp2_with fail
     refine (w_specIsFigure _ _ _).mono ?_
     rintro e wx ⟨rfl, hL2⟩
     rw [HPI.out]
     obtain ⟨c0, f0, z0⟩ := blk_at (hL2.keep HB1.out)
     obtain ⟨c1, f1, z1⟩ := blk_at (hL2.keep HB2.out)
     go_wp2
     refine bodyPost_ret (v := .tuple #[.agg #[.int .i64 0, .int .i64 0], .agg #[.int .i64 0, .int .i64 0], .int .i64 4]) (by simp [results, Tryz.results163, go_sem, c0, z0, c1, z1]) rfl ⟨by rw [HC.out, HP.out, HQ.out], qla⟩
   cases hq : isFig (aboveF hi)
   · have HPI := Lib.hid (show isFig ⟨(belowF lo).d, (belowF lo).t⟩ = true from hp)
     have HQI := Lib.hid (show isFig ⟨(aboveF hi).d, (aboveF hi).t⟩ = false from hq)
     have HC := Lib.hid (show spanC ⟨lo, hi⟩ = 4 from by simp [spanC, HU1.out, HU2.out, hp, hq])
     have HP := Lib.hid (show spanL ⟨lo, hi⟩ = ⟨0, 0⟩ from by rw [spanL, HC.out]; rfl)
     have HQ := Lib.hid (show spanH ⟨lo, hi⟩ = ⟨0, 0⟩ from by rw [spanH, HC.out]; rfl)
     clear hp hq
     go_wp2_with fail
     refine (w_specIsFigure _ _ _).mono ?_
     rintro e wv ⟨rfl, hL2⟩
     rw [HPI.out]
     clear c6 f6 c7 f7
     obtain ⟨c7, f7, z7⟩ := blk_at (hL2.keep HK7.out)
     go_wp2_with fail
     refine (w_specIsFigure _ _ _).mono ?_
     rintro e wx ⟨rfl, hL3⟩
     rw [HQI.out]
     clear c7 f7 z7
     obtain ⟨c0, f0, z0⟩ := blk_at (hL3.keep (hL2.keep HB1.out))
     obtain ⟨c1, f1, z1⟩ := blk_at (hL3.keep (hL2.keep HB2.out))
     go_wp2
     refine bodyPost_ret (v := .tuple #[.agg #[.int .i64 0, .int .i64 0], .agg #[.int .i64 0, .int .i64 0], .int .i64 4]) (by simp [results, Tryz.results163, go_sem, c0, z0, c1, z1]) rfl ⟨by rw [HC.out, HP.out, HQ.out], qla⟩
   have HPI := Lib.hid (show isFig ⟨(belowF lo).d, (belowF lo).t⟩ = true from hp)
   have HQI := Lib.hid (show isFig ⟨(aboveF hi).d, (aboveF hi).t⟩ = true from hq)
   have HC := Lib.hid (show spanC ⟨lo, hi⟩ = 0 from by simp [spanC, HU1.out, HU2.out, hp, hq])
   obtain ⟨P, hP⟩ : ∃ P, belowF lo = P := ⟨_, rfl⟩
   obtain ⟨Q, hQ⟩ : ∃ P, aboveF hi = P := ⟨_, rfl⟩
   have HP := Lib.hid (show spanL ⟨lo, hi⟩ = P from by rw [spanL, HC.out]; exact hP)
   have HQ := Lib.hid (show spanH ⟨lo, hi⟩ = Q from by rw [spanH, HC.out]; exact hQ)
   rw [hP] at HPI HK6 c6
   rw [hQ] at HQI HK7 c7
   rw [hP, hQ]
   clear hp hq hP hQ
   go_wp2_with fail
   refine (w_specIsFigure _ _ _).mono ?_
   rintro e wv ⟨rfl, hL2⟩
   rw [HPI.out]
   clear c6 f6 c7 f7
   obtain ⟨c7, f7, z7⟩ := blk_at (hL2.keep HK7.out)
   go_wp2_with fail
   refine (w_specIsFigure _ _ _).mono ?_
   rintro e wx ⟨rfl, hL3⟩
   rw [HQI.out]
   clear c7 f7 z7
   have hL0 := hL.trans (hL2.trans hL3)
   have hSB := hL0.size
   have hRB : w.heap.size ≤ w.heap.size + 1 := by omega
   have hRBs : w.heap.size ≤ w.heap.size + 1 + 1 := by omega
   have K5 := hL3.keep (hL2.keep HK6.out)
   have K6 := hL3.keep (hL2.keep HK7.out)
   have Kr := hL3.keep (hL2.keep HB1.out)
   have Ks := hL3.keep (hL2.keep HB2.out)
   clear hL hL2 hL3
   go_wp2_with fail
   refine region_slots 37 [35, 36, 4] (fun g ac wc => sl ac 5 = .pointer (some ⟨kr6, 0, none⟩) ∧
    sl ac 6 = .pointer (some ⟨kr7, 0, none⟩) ∧
    sl ac 2 = .pointer (some ⟨w.heap.size + 1, 0, none⟩) ∧
    sl ac 3 = .pointer (some ⟨w.heap.size + 1 + 1, 0, none⟩) ∧
    (g 0 = true → sl ac 35 = .agg #[.int .i64 P.d, .int .i64 P.t]) ∧
    (g 1 = true → sl ac 36 = .agg #[.int .i64 Q.d, .int .i64 Q.t]) ∧
    (g 4 = true → sl ac 4 = .int .i64 0) ∧
    Later w wc ∧
    wx.heap.size ≤ wc.heap.size ∧
    wc.heap[kr6]? = some (.cells #[.int .i64 P.d, .int .i64 P.t] 46 (0, 0)) ∧
    wc.heap[kr7]? = some (.cells #[.int .i64 Q.d, .int .i64 Q.t] 46 (0, 0)) ∧
    (∃ r0 r1, wc.heap[w.heap.size + 1]? = some (.cells #[r0, r1] 46 (0, 0)) ∧ (g 2 = true → r0 = .int .i64 P.d ∧ r1 = .int .i64 P.t)) ∧
    (∃ s0 s1, wc.heap[w.heap.size + 1 + 1]? = some (.cells #[s0, s1] 46 (0, 0)) ∧ (g 3 = true → s0 = .int .i64 Q.d ∧ s1 = .int .i64 Q.t))) (by kernel_rfl) (by kernel_rfl) rfl (by kernel_rfl) ?_ ?_ ?_
   · exact ⟨rfl, rfl, rfl, rfl, nofun, nofun, nofun, hL0.drew, Nat.le_refl _, K5, K6, ⟨_, _, Kr, nofun⟩, ⟨_, _, Ks, nofun⟩⟩
   · intro g ac wy hg ha hI
     obtain ⟨x5, x6, x2, x3, i0, i1, i4, hL, hS, B5, B6, Rr, Rs⟩ := hI
     have a0 := i0 (hg 0 (by simp))
     have a1 := i1 (hg 1 (by simp))
     have a4 := i4 (hg 4 (by simp))
     obtain ⟨r0, r1, Kr, gr⟩ := Rr
     have gr := gr (hg 2 (by simp))
     rw [gr.1, gr.2] at Kr
     clear gr
     obtain ⟨s0, s1, Ks, gr⟩ := Rs
     have gr := gr (hg 3 (by simp))
     rw [gr.1, gr.2] at Ks
     clear gr
     simp only [putAll, a0, a1, a4] at ha
     simp only [Act.put, List.setIfInBounds_toArray, List.set_cons_succ, List.set_cons_zero] at ha
     rw [ha]
     clear x5 x6 x2 x3 i0 i1 i4 a0 a1 a4 hg ha
     have c0 := (blk_at Kr).1
     have z0 := (blk_at Kr).2.2
     have c1 := (blk_at Ks).1
     have z1 := (blk_at Ks).2.2
     go_wp2
     refine bodyPost_ret (v := .tuple #[.agg #[.int .i64 P.d, .int .i64 P.t], .agg #[.int .i64 Q.d, .int .i64 Q.t], .int .i64 0]) (by simp [results, Tryz.results163, go_sem, c0, z0, c1, z1]) rfl ⟨by rw [HC.out, HP.out, HQ.out], hL⟩
   · refine .cons ?_ (.cons ?_ (.cons ?_ (.cons ?_ (.cons ?_ .nil))))
     · refine qst fun g ac wc hn hk hr HI K' hK => ?_
       obtain ⟨x5, x6, x2, x3, -, -, -, hL, hS, B5, B6, Rr, Rs⟩ := HI.out
       simp [Region.binds] at hr
       obtain ⟨c0, f0, z0⟩ := blk_at B5
       go_simp
       obtain ⟨-, -, -, -, i0, i1, i4, -⟩ := HI.out
       exact hK.out _ _ ⟨qB x5, qB x6, qB x2, qB x3, qP, qF i1, qF i4, hL, hS, B5, B6, Rr, Rs⟩
     · refine qst fun g ac wc hn hk hr HI K' hK => ?_
       obtain ⟨x5, x6, x2, x3, -, -, -, hL, hS, B5, B6, Rr, Rs⟩ := HI.out
       simp [Region.binds] at hr
       obtain ⟨c0, f0, z0⟩ := blk_at B6
       go_simp
       obtain ⟨-, -, -, -, i0, i1, i4, -⟩ := HI.out
       exact hK.out _ _ ⟨qB x5, qB x6, qB x2, qB x3, qF i0, qP, qF i4, hL, hS, B5, B6, Rr, Rs⟩
     · refine qst fun g ac wc hn hk hr HI K' hK => ?_
       obtain ⟨x5, x6, x2, x3, i0, -, -, hL, hS, B5, B6, Rr, Rs⟩ := HI.out
       simp [Region.binds] at hr
       have y0 := i0 (by simp [hr])
       clear i0
       obtain ⟨r0, r1, R1, -⟩ := Rr
       obtain ⟨c0, f0, z0⟩ := blk_at R1
       go_simp
       obtain ⟨-, -, -, -, i0, i1, i4, -⟩ := HI.out
       exact hK.out undef _ ⟨x5, x6, x2, x3, i0, i1, i4, ((hL.setCell hRB _).setCell hRB _), (by simp; omega), (other_set (other_set B5 (by omega) _) (by omega) _), (other_set (other_set B6 (by omega) _) (by omega) _), ⟨_, _, two_set R1 _ _, fun _ => ⟨rfl, rfl⟩⟩, (by obtain ⟨s0, s1, S1, S2⟩ := Rs; exact ⟨s0, s1, (other_set (other_set S1 (by omega) _) (by omega) _), S2⟩)⟩
     · refine qst fun g ac wc hn hk hr HI K' hK => ?_
       obtain ⟨x5, x6, x2, x3, -, i1, -, hL, hS, B5, B6, Rr, Rs⟩ := HI.out
       simp [Region.binds] at hr
       have y1 := i1 (by simp [hr])
       clear i1
       obtain ⟨s0, s1, R1, -⟩ := Rs
       obtain ⟨c0, f0, z0⟩ := blk_at R1
       go_simp
       obtain ⟨-, -, -, -, i0, i1, i4, -⟩ := HI.out
       exact hK.out undef _ ⟨x5, x6, x2, x3, i0, i1, i4, ((hL.setCell hRBs _).setCell hRBs _), (by simp; omega), (other_set (other_set B5 (by omega) _) (by omega) _), (other_set (other_set B6 (by omega) _) (by omega) _), (by obtain ⟨r0, r1, S1, S2⟩ := Rr; exact ⟨r0, r1, (other_set (other_set S1 (by omega) _) (by omega) _), S2⟩), ⟨_, _, two_set R1 _ _, fun _ => ⟨rfl, rfl⟩⟩⟩
     · refine qst fun g ac wc hn hk hr HI K' hK => ?_
       obtain ⟨x5, x6, x2, x3, -, -, -, hL, hS, B5, B6, Rr, Rs⟩ := HI.out
       simp [Region.binds] at hr
       go_simp
       obtain ⟨-, -, -, -, i0, i1, i4, -⟩ := HI.out
       exact hK.out _ _ ⟨qB x5, qB x6, qB x2, qB x3, qF i0, qF i1, qP, hL, hS, B5, B6, Rr, Rs⟩
 · refine .cons ?_ (.cons ?_ (.cons ?_ (.cons ?_ (.cons ?_ (.cons ?_ (.cons ?_ (.cons ?_ (.cons ?_ (.cons ?_ .nil)))))))))
   · refine qst fun g ac wc hn hk hr HI K' hK => ?_
     obtain ⟨x1, -, -, -, -, -, -, hL, i6, i7, n6_7, q6, q7, hS, B0, B1, B2⟩ := HI.out
     simp [Region.binds] at hr
     go_simp
     obtain ⟨-, i0, i1, i2, i3, i4, i5, -⟩ := HI.out
     exact hK.out _ _ ⟨qB x1, qP, qF i1, qF i2, qF i3, qF i4, qF i5, hL, (fun j => by obtain ⟨k, e1, e2, p6_0, p6_1, e3, e4⟩ := i6 j; exact ⟨k, (put_ne (by decide)).trans e1, e2, p6_0, p6_1, e3, e4⟩), (fun j => by obtain ⟨k, e1, e2, p7_0, p7_1, e3, e4⟩ := i7 j; exact ⟨k, (put_ne (by decide)).trans e1, e2, p7_0, p7_1, e3, e4⟩), (fun j j' => by rw [put_ne (by decide), put_ne (by decide)]; exact n6_7 j j'), q6, q7, hS, B0, B1, B2⟩
   · refine qst fun g ac wc hn hk hr HI K' hK => ?_
     obtain ⟨x1, i0, -, -, -, -, -, hL, i6, i7, n6_7, q6, q7, hS, B0, B1, B2⟩ := HI.out
     simp [Region.binds] at hr
     have y0 := i0 (by simp [hr])
     clear i0
     obtain ⟨c0, f0, z0⟩ := blk_at B0
     go_simp
     obtain ⟨-, i0, i1, i2, i3, i4, i5, -⟩ := HI.out
     exact hK.out _ _ ⟨qB x1, qF i0, qP, qF i2, qF i3, qF i4, qF i5, hL, (fun j => by obtain ⟨k, e1, e2, p6_0, p6_1, e3, e4⟩ := i6 j; exact ⟨k, (put_ne (by decide)).trans e1, e2, p6_0, p6_1, e3, e4⟩), (fun j => by obtain ⟨k, e1, e2, p7_0, p7_1, e3, e4⟩ := i7 j; exact ⟨k, (put_ne (by decide)).trans e1, e2, p7_0, p7_1, e3, e4⟩), (fun j j' => by rw [put_ne (by decide), put_ne (by decide)]; exact n6_7 j j'), q6, q7, hS, B0, B1, B2⟩
   · refine qst fun g ac wc hn hk hr HI K' hK => ?_
     obtain ⟨x1, -, i1, -, -, -, -, hL, i6, i7, n6_7, q6, q7, hS, B0, B1, B2⟩ := HI.out
     simp [Region.binds] at hr
     have y1 := i1 (by simp [hr])
     clear i1
     go_simp
     refine (w_l04Below _ _).mono ?_
     rintro e w4 ⟨rfl, hL4⟩
     obtain ⟨-, i0, i1, i2, i3, i4, i5, -⟩ := HI.out
     exact hK.out _ _ ⟨qB x1, qF i0, qF i1, qP, qF i3, qF i4, qF i5, hL.trans hL4, (fun j => by obtain ⟨k, e1, e2, p6_0, p6_1, e3, e4⟩ := i6 j; exact ⟨k, (put_ne (by decide)).trans e1, e2, p6_0, p6_1, hL4.keep e3, e4⟩), (fun j => by obtain ⟨k, e1, e2, p7_0, p7_1, e3, e4⟩ := i7 j; exact ⟨k, (put_ne (by decide)).trans e1, e2, p7_0, p7_1, hL4.keep e3, e4⟩), (fun j j' => by rw [put_ne (by decide), put_ne (by decide)]; exact n6_7 j j'), q6, q7, Nat.le_trans hS hL4.size, hL4.keep B0, hL4.keep B1, hL4.keep B2⟩
   · refine qst fun g ac wc hn hk hr HI K' hK => ?_
     obtain ⟨x1, -, -, -, -, -, -, hL, i6, i7, n6_7, q6, q7, hS, B0, B1, B2⟩ := HI.out
     simp [Region.binds] at hr
     go_simp
     obtain ⟨-, i0, i1, i2, i3, i4, i5, -⟩ := HI.out
     exact hK.out _ _ ⟨qB x1, qF i0, qF i1, qF i2, qP, qF i4, qF i5, hL, (fun j => by obtain ⟨k, e1, e2, p6_0, p6_1, e3, e4⟩ := i6 j; exact ⟨k, (put_ne (by decide)).trans e1, e2, p6_0, p6_1, e3, e4⟩), (fun j => by obtain ⟨k, e1, e2, p7_0, p7_1, e3, e4⟩ := i7 j; exact ⟨k, (put_ne (by decide)).trans e1, e2, p7_0, p7_1, e3, e4⟩), (fun j j' => by rw [put_ne (by decide), put_ne (by decide)]; exact n6_7 j j'), q6, q7, hS, B0, B1, B2⟩
   · refine qst fun g ac wc hn hk hr HI K' hK => ?_
     obtain ⟨x1, -, -, -, i3, -, -, hL, i6, i7, n6_7, q6, q7, hS, B0, B1, B2⟩ := HI.out
     simp [Region.binds] at hr
     have y3 := i3 (by simp [hr])
     clear i3
     obtain ⟨c0, f0, z0⟩ := blk_at B0
     go_simp
     obtain ⟨-, i0, i1, i2, i3, i4, i5, -⟩ := HI.out
     exact hK.out _ _ ⟨qB x1, qF i0, qF i1, qF i2, qF i3, qP, qF i5, hL, (fun j => by obtain ⟨k, e1, e2, p6_0, p6_1, e3, e4⟩ := i6 j; exact ⟨k, (put_ne (by decide)).trans e1, e2, p6_0, p6_1, e3, e4⟩), (fun j => by obtain ⟨k, e1, e2, p7_0, p7_1, e3, e4⟩ := i7 j; exact ⟨k, (put_ne (by decide)).trans e1, e2, p7_0, p7_1, e3, e4⟩), (fun j j' => by rw [put_ne (by decide), put_ne (by decide)]; exact n6_7 j j'), q6, q7, hS, B0, B1, B2⟩
   · refine qst fun g ac wc hn hk hr HI K' hK => ?_
     obtain ⟨x1, -, -, -, -, i4, -, hL, i6, i7, n6_7, q6, q7, hS, B0, B1, B2⟩ := HI.out
     simp [Region.binds] at hr
     have y4 := i4 (by simp [hr])
     clear i4
     go_simp
     refine (w_l04Above _ _).mono ?_
     rintro e w4 ⟨rfl, hL4⟩
     obtain ⟨-, i0, i1, i2, i3, i4, i5, -⟩ := HI.out
     exact hK.out _ _ ⟨qB x1, qF i0, qF i1, qF i2, qF i3, qF i4, qP, hL.trans hL4, (fun j => by obtain ⟨k, e1, e2, p6_0, p6_1, e3, e4⟩ := i6 j; exact ⟨k, (put_ne (by decide)).trans e1, e2, p6_0, p6_1, hL4.keep e3, e4⟩), (fun j => by obtain ⟨k, e1, e2, p7_0, p7_1, e3, e4⟩ := i7 j; exact ⟨k, (put_ne (by decide)).trans e1, e2, p7_0, p7_1, hL4.keep e3, e4⟩), (fun j j' => by rw [put_ne (by decide), put_ne (by decide)]; exact n6_7 j j'), q6, q7, Nat.le_trans hS hL4.size, hL4.keep B0, hL4.keep B1, hL4.keep B2⟩
   · refine qst fun g ac wc hn hk hr HI K' hK => ?_
     obtain ⟨x1, -, -, -, -, -, -, hL, i6, i7, n6_7, q6, q7, hS, B0, B1, B2⟩ := HI.out
     simp [Region.binds] at hr
     go_simp
     obtain ⟨-, i0, i1, i2, i3, i4, i5, -⟩ := HI.out
     refine hK.out _ _ ⟨qB x1, qF i0, qF i1, qF i2, qF i3, qF i4, qF i5, hL.alloc _, (fun _ => ⟨_, put_eq (by omega), hS, _, _, heap_alloc_new _ _, fun j6 => absurd ((q6 j6).symm.trans hk) (by simp)⟩), (fun j => by obtain ⟨k, e1, e2, p7_0, p7_1, e3, e4⟩ := i7 j; exact ⟨k, (put_ne (by decide)).trans e1, e2, p7_0, p7_1, heap_alloc_old _ _ e3, e4⟩), ?_, fun _ => rfl, q7, (by simp; omega), heap_alloc_old _ _ B0, heap_alloc_old _ _ B1, heap_alloc_old _ _ B2⟩
     · intro j j'
       obtain ⟨k, e1, e2, p7_0, p7_1, e3, e4⟩ := i7 j'
       have hlt := (Array.getElem?_eq_some_iff.1 e3).1
       have o1 : sl (ac.put (some 5) (.pointer (some ⟨wc.heap.size, 0, none⟩))) 6 = .pointer (some ⟨k, 0, none⟩) := (put_ne (by decide)).trans e1
       have o2 : sl (ac.put (some 5) (.pointer (some ⟨wc.heap.size, 0, none⟩))) 5 = .pointer (some ⟨wc.heap.size, 0, none⟩) := put_eq (by omega)
       intro hh
       have hh2 := (o2.symm.trans hh).trans o1
       simp at hh2 <;> omega
   · refine qst fun g ac wc hn hk hr HI K' hK => ?_
     obtain ⟨x1, -, -, -, -, -, -, hL, i6, i7, n6_7, q6, q7, hS, B0, B1, B2⟩ := HI.out
     simp [Region.binds] at hr
     go_simp
     obtain ⟨-, i0, i1, i2, i3, i4, i5, -⟩ := HI.out
     refine hK.out _ _ ⟨qB x1, qF i0, qF i1, qF i2, qF i3, qF i4, qF i5, hL.alloc _, (fun j => by obtain ⟨k, e1, e2, p6_0, p6_1, e3, e4⟩ := i6 j; exact ⟨k, (put_ne (by decide)).trans e1, e2, p6_0, p6_1, heap_alloc_old _ _ e3, e4⟩), (fun _ => ⟨_, put_eq (by omega), hS, _, _, heap_alloc_new _ _, fun j6 => absurd ((q7 j6).symm.trans hk) (by simp)⟩), ?_, q6, fun _ => rfl, (by simp; omega), heap_alloc_old _ _ B0, heap_alloc_old _ _ B1, heap_alloc_old _ _ B2⟩
     · intro j j'
       obtain ⟨k, e1, e2, p6_0, p6_1, e3, e4⟩ := i6 j
       have hlt := (Array.getElem?_eq_some_iff.1 e3).1
       have o1 : sl (ac.put (some 6) (.pointer (some ⟨wc.heap.size, 0, none⟩))) 5 = .pointer (some ⟨k, 0, none⟩) := (put_ne (by decide)).trans e1
       have o2 : sl (ac.put (some 6) (.pointer (some ⟨wc.heap.size, 0, none⟩))) 6 = .pointer (some ⟨wc.heap.size, 0, none⟩) := put_eq (by omega)
       intro hh
       have hh2 := (o1.symm.trans hh).trans o2
       simp at hh2 <;> omega
   · refine qst fun g ac wc hn hk hr HI K' hK => ?_
     obtain ⟨x1, -, -, i2, -, -, -, hL, i6, i7, n6_7, q6, q7, hS, B0, B1, B2⟩ := HI.out
     simp [Region.binds] at hr
     have y2 := i2 (by simp [hr])
     clear i2
     have hda : g 6 = true := by simp [hr]
     obtain ⟨k, e1, e2, p6_0, p6_1, e3, -⟩ := i6 hda
     obtain ⟨c0, f0, z0⟩ := blk_at e3
     go_simp
     obtain ⟨-, i0, i1, i2, i3, i4, i5, -⟩ := HI.out
     exact hK.out undef _ ⟨x1, i0, i1, i2, i3, i4, i5, ((hL.setCell (Nat.le_trans hSB e2) _).setCell (Nat.le_trans hSB e2) _), (fun _ => ⟨k, e1, e2, _, _, two_set e3 _ _, fun _ => ⟨rfl, rfl⟩⟩), (fun j => by obtain ⟨k', e1', e2', p7_0, p7_1, e3', e4'⟩ := i7 j; have hne : k' ≠ k := (fun hh => n6_7 hda j (by rw [e1, e1', hh])); exact ⟨k', e1', e2', p7_0, p7_1, (other_set (other_set e3' hne _) hne _), e4'⟩), n6_7, (fun _ => hda), q7, (by simp; omega), (other_set (other_set B0 (by omega) _) (by omega) _), (other_set (other_set B1 (by omega) _) (by omega) _), (other_set (other_set B2 (by omega) _) (by omega) _)⟩
   · refine qst fun g ac wc hn hk hr HI K' hK => ?_
     obtain ⟨x1, -, -, -, -, -, i5, hL, i6, i7, n6_7, q6, q7, hS, B0, B1, B2⟩ := HI.out
     simp [Region.binds] at hr
     have y5 := i5 (by simp [hr])
     clear i5
     have hda : g 7 = true := by simp [hr]
     obtain ⟨k, e1, e2, p7_0, p7_1, e3, -⟩ := i7 hda
     obtain ⟨c0, f0, z0⟩ := blk_at e3
     go_simp
     obtain ⟨-, i0, i1, i2, i3, i4, i5, -⟩ := HI.out
     exact hK.out undef _ ⟨x1, i0, i1, i2, i3, i4, i5, ((hL.setCell (Nat.le_trans hSB e2) _).setCell (Nat.le_trans hSB e2) _), (fun j => by obtain ⟨k', e1', e2', p6_0, p6_1, e3', e4'⟩ := i6 j; have hne : k' ≠ k := (fun hh => n6_7 j hda (by rw [e1, e1', hh])); exact ⟨k', e1', e2', p6_0, p6_1, (other_set (other_set e3' hne _) hne _), e4'⟩), (fun _ => ⟨k, e1, e2, _, _, two_set e3 _ _, fun _ => ⟨rfl, rfl⟩⟩), n6_7, q6, (fun _ => hda), (by simp; omega), (other_set (other_set B0 (by omega) _) (by omega) _), (other_set (other_set B1 (by omega) _) (by omega) _), (other_set (other_set B2 (by omega) _) (by omega) _)⟩
set_option maxHeartbeats 4000000 in
theorem w_spanOf (lo hi : Int) (w : World) :
 Calls Tryz.prog 105 #[.agg #[.int .i64 lo, .int .i64 hi]] w fun e w' => e = .returned (.tuple #[.agg #[.int .i64 (spanL ⟨lo, hi⟩).d, .int .i64 (spanL ⟨lo, hi⟩).t], .agg #[.int .i64 (spanH ⟨lo, hi⟩).d, .int .i64 (spanH ⟨lo, hi⟩).t], .int .i64 (spanC ⟨lo, hi⟩)]) ∧ Later w w' := by
 cases h1 : isUnits lo
 · have H1 := Lib.hid h1
   have HC := Lib.hid (show spanC ⟨lo, hi⟩ = 2 from by simp [spanC, h1])
   have HP := Lib.hid (show spanL ⟨lo, hi⟩ = ⟨0, 0⟩ from by rw [spanL, HC.out]; rfl)
   have HQ := Lib.hid (show spanH ⟨lo, hi⟩ = ⟨0, 0⟩ from by rw [spanH, HC.out]; rfl)
   clear h1
   go_enter Tryz.func105, Tryz.ntmps105
   go_wp2_with fail
   refine (w_isUnits _ _).mono ?_
   rintro e w1 ⟨rfl, rfl⟩
   rw [H1.out]
   go_wp2
   refine bodyPost_ret (v := .tuple #[.agg #[.int .i64 0, .int .i64 0], .agg #[.int .i64 0, .int .i64 0], .int .i64 2]) (by simp [results, Tryz.results105, go_sem]) rfl ⟨by rw [HC.out, HP.out, HQ.out], qla⟩
 cases h2 : isUnits hi
 · have H1 := Lib.hid h1
   have H2 := Lib.hid h2
   have HC := Lib.hid (show spanC ⟨lo, hi⟩ = 2 from by simp [spanC, h2])
   have HP := Lib.hid (show spanL ⟨lo, hi⟩ = ⟨0, 0⟩ from by rw [spanL, HC.out]; rfl)
   have HQ := Lib.hid (show spanH ⟨lo, hi⟩ = ⟨0, 0⟩ from by rw [spanH, HC.out]; rfl)
   clear h1 h2
   go_enter Tryz.func105, Tryz.ntmps105
   go_wp2_with fail
   refine (w_isUnits _ _).mono ?_
   rintro e w1 ⟨rfl, rfl⟩
   rw [H1.out]
   go_wp2_with fail
   refine (w_isUnits _ _).mono ?_
   rintro e w1 ⟨rfl, rfl⟩
   rw [H2.out]
   go_wp2
   refine bodyPost_ret (v := .tuple #[.agg #[.int .i64 0, .int .i64 0], .agg #[.int .i64 0, .int .i64 0], .int .i64 2]) (by simp [results, Tryz.results105, go_sem]) rfl ⟨by rw [HC.out, HP.out, HQ.out], qla⟩
 have HU1 := Lib.hid h1
 have HU2 := Lib.hid h2
 clear h1 h2
 go_enter Tryz.func105, Tryz.ntmps105
 go_wp2_with fail
 refine (w_isUnits _ _).mono ?_
 rintro e w1 ⟨rfl, rfl⟩
 rw [HU1.out]
 go_wp2_with fail
 refine (w_isUnits _ _).mono ?_
 rintro e w1 ⟨rfl, rfl⟩
 rw [HU2.out]
 go_wp2_with fail
 refine (w_figureBelow _ _ HU1.out).mono ?_
 rintro e w1 ⟨rfl, hL1⟩
 obtain ⟨K0, K1, K2⟩ := kept3 hL1
 have hsz1 := hL1.size
 simp only [World.size_alloc] at hsz1
 obtain ⟨c0, f0, z0⟩ := blk_at K0
 have HK1 := Lib.hid K1
 have HK2 := Lib.hid K2
 clear K0 K1 K2
 go_wp2_with fail
 refine (w_figureAbove _ _ HU2.out).mono ?_
 rintro e w2 ⟨rfl, hL2⟩
 have hK5 := kept1 hL2
 have HKa := Lib.hid (hL2.keep (heap_alloc_old _ _ HK1.out))
 have HKb := Lib.hid (hL2.keep (heap_alloc_old _ _ HK2.out))
 have hsz2 := hL2.size
 simp only [World.size_alloc] at hsz2
 have HK5 := Lib.hid hK5
 have hL12 : Later w w2 := qla
 clear c0 f0 z0 hK5
 cases hp : isFig (belowF lo)
 · have HC := Lib.hid (show spanC ⟨lo, hi⟩ = 4 from by simp [spanC, HU1.out, HU2.out, hp])
   have HP := Lib.hid (show spanL ⟨lo, hi⟩ = ⟨0, 0⟩ from by rw [spanL, HC.out]; rfl)
   have HQ := Lib.hid (show spanH ⟨lo, hi⟩ = ⟨0, 0⟩ from by rw [spanH, HC.out]; rfl)
   clear hp
   obtain ⟨c0, f0, z0⟩ := blk_at HKa.out
   obtain ⟨c1, f1, z1⟩ := blk_at HKb.out
   go_wp2
   refine bodyPost_ret (v := .tuple #[.agg #[.int .i64 0, .int .i64 0], .agg #[.int .i64 0, .int .i64 0], .int .i64 4]) (by simp [results, Tryz.results105, go_sem, c0, z0, c1, z1]) rfl ⟨by rw [HC.out, HP.out, HQ.out], qla⟩
 cases hq : isFig (aboveF hi)
 · have HC := Lib.hid (show spanC ⟨lo, hi⟩ = 4 from by simp [spanC, HU1.out, HU2.out, hp, hq])
   have HP := Lib.hid (show spanL ⟨lo, hi⟩ = ⟨0, 0⟩ from by rw [spanL, HC.out]; rfl)
   have HQ := Lib.hid (show spanH ⟨lo, hi⟩ = ⟨0, 0⟩ from by rw [spanH, HC.out]; rfl)
   clear hp hq
   obtain ⟨c0, f0, z0⟩ := blk_at HKa.out
   obtain ⟨c1, f1, z1⟩ := blk_at HKb.out
   go_wp2
   refine bodyPost_ret (v := .tuple #[.agg #[.int .i64 0, .int .i64 0], .agg #[.int .i64 0, .int .i64 0], .int .i64 4]) (by simp [results, Tryz.results105, go_sem, c0, z0, c1, z1]) rfl ⟨by rw [HC.out, HP.out, HQ.out], qla⟩
 have HC := Lib.hid (show spanC ⟨lo, hi⟩ = 0 from by simp [spanC, HU1.out, HU2.out, hp, hq])
 obtain ⟨P, hP⟩ : ∃ P, belowR lo = P := ⟨_, rfl⟩
 obtain ⟨Q, hQ⟩ : ∃ P, aboveF hi = P := ⟨_, rfl⟩
 have HP := Lib.hid (show spanL ⟨lo, hi⟩ = P from by rw [spanL, HC.out, ← hP, belowR, hp]; rfl)
 have HQ := Lib.hid (show spanH ⟨lo, hi⟩ = Q from by rw [spanH, HC.out]; exact hQ)
 rw [hP] at HK5
 rw [hP, hQ]
 clear hP hQ
 go_wp2
 obtain ⟨wz, hwz⟩ : ∃ wz : World, wz = w2.alloc (.cells #[.int .i64 Q.d, .int .i64 Q.t] 46) := ⟨_, rfl⟩
 have hLz : Later w2 wz := by rw [hwz]; exact (Later.refl _).alloc _
 have K6 : wz.heap[w2.heap.size]? = some (.cells #[.int .i64 Q.d, .int .i64 Q.t] 46 (0, 0)) := by rw [hwz]; exact heap_alloc_new _ _
 have K5 := hLz.keep HK5.out
 have Kr := hLz.keep HKa.out
 have Ks := hLz.keep HKb.out
 have hL0 := hL12.trans hLz
 have hlt6 : w2.heap.size < wz.heap.size := by rw [hwz]; simp
 have hSB := hL0.size
 have hRB : w.heap.size ≤ w.heap.size + 1 := by omega
 have hRBs : w.heap.size ≤ w.heap.size + 1 + 1 := by omega
 rw [← hwz]
 clear hwz hLz hL12 hp hq
 refine region_slots 43 [41, 42, 4] (fun g ac wc => sl ac 5 = .pointer (some ⟨w1.heap.size, 0, none⟩) ∧
  sl ac 7 = .pointer (some ⟨w2.heap.size, 0, none⟩) ∧
  sl ac 2 = .pointer (some ⟨w.heap.size + 1, 0, none⟩) ∧
  sl ac 3 = .pointer (some ⟨w.heap.size + 1 + 1, 0, none⟩) ∧
  (g 0 = true → sl ac 41 = .agg #[.int .i64 P.d, .int .i64 P.t]) ∧
  (g 1 = true → sl ac 42 = .agg #[.int .i64 Q.d, .int .i64 Q.t]) ∧
  (g 4 = true → sl ac 4 = .int .i64 0) ∧
  Later w wc ∧
  wz.heap.size ≤ wc.heap.size ∧
  wc.heap[w1.heap.size]? = some (.cells #[.int .i64 P.d, .int .i64 P.t] 46 (0, 0)) ∧
  wc.heap[w2.heap.size]? = some (.cells #[.int .i64 Q.d, .int .i64 Q.t] 46 (0, 0)) ∧
  (∃ r0 r1, wc.heap[w.heap.size + 1]? = some (.cells #[r0, r1] 46 (0, 0)) ∧ (g 2 = true → r0 = .int .i64 P.d ∧ r1 = .int .i64 P.t)) ∧
  (∃ s0 s1, wc.heap[w.heap.size + 1 + 1]? = some (.cells #[s0, s1] 46 (0, 0)) ∧ (g 3 = true → s0 = .int .i64 Q.d ∧ s1 = .int .i64 Q.t))) (by kernel_rfl) (by kernel_rfl) rfl (by kernel_rfl) ?_ ?_ ?_
 · exact ⟨rfl, rfl, rfl, rfl, nofun, nofun, nofun, hL0.drew, Nat.le_refl _, K5, K6, ⟨_, _, Kr, nofun⟩, ⟨_, _, Ks, nofun⟩⟩
 · intro g ac wy hg ha hI
   obtain ⟨x5, x7, x2, x3, i0, i1, i4, hL, hS, B5, B6, Rr, Rs⟩ := hI
   have a0 := i0 (hg 0 (by simp))
   have a1 := i1 (hg 1 (by simp))
   have a4 := i4 (hg 4 (by simp))
   obtain ⟨r0, r1, Kr, gr⟩ := Rr
   have gr := gr (hg 2 (by simp))
   rw [gr.1, gr.2] at Kr
   clear gr
   obtain ⟨s0, s1, Ks, gr⟩ := Rs
   have gr := gr (hg 3 (by simp))
   rw [gr.1, gr.2] at Ks
   clear gr
   simp only [putAll, a0, a1, a4] at ha
   simp only [Act.put, List.setIfInBounds_toArray, List.set_cons_succ, List.set_cons_zero] at ha
   rw [ha]
   clear x5 x7 x2 x3 i0 i1 i4 a0 a1 a4 hg ha
   have c0 := (blk_at Kr).1
   have z0 := (blk_at Kr).2.2
   have c1 := (blk_at Ks).1
   have z1 := (blk_at Ks).2.2
   go_wp2
   refine bodyPost_ret (v := .tuple #[.agg #[.int .i64 P.d, .int .i64 P.t], .agg #[.int .i64 Q.d, .int .i64 Q.t], .int .i64 0]) (by simp [results, Tryz.results105, go_sem, c0, z0, c1, z1]) rfl ⟨by rw [HC.out, HP.out, HQ.out], hL⟩
 · refine .cons ?_ (.cons ?_ (.cons ?_ (.cons ?_ (.cons ?_ .nil))))
   · refine qst fun g ac wc hn hk hr HI K' hK => ?_
     obtain ⟨x5, x7, x2, x3, -, -, -, hL, hS, B5, B6, Rr, Rs⟩ := HI.out
     simp [Region.binds] at hr
     obtain ⟨c0, f0, z0⟩ := blk_at B5
     go_simp
     obtain ⟨-, -, -, -, i0, i1, i4, -⟩ := HI.out
     exact hK.out _ _ ⟨qB x5, qB x7, qB x2, qB x3, qP, qF i1, qF i4, hL, hS, B5, B6, Rr, Rs⟩
   · refine qst fun g ac wc hn hk hr HI K' hK => ?_
     obtain ⟨x5, x7, x2, x3, -, -, -, hL, hS, B5, B6, Rr, Rs⟩ := HI.out
     simp [Region.binds] at hr
     obtain ⟨c0, f0, z0⟩ := blk_at B6
     go_simp
     obtain ⟨-, -, -, -, i0, i1, i4, -⟩ := HI.out
     exact hK.out _ _ ⟨qB x5, qB x7, qB x2, qB x3, qF i0, qP, qF i4, hL, hS, B5, B6, Rr, Rs⟩
   · refine qst fun g ac wc hn hk hr HI K' hK => ?_
     obtain ⟨x5, x7, x2, x3, i0, -, -, hL, hS, B5, B6, Rr, Rs⟩ := HI.out
     simp [Region.binds] at hr
     have y0 := i0 (by simp [hr])
     clear i0
     obtain ⟨r0, r1, R1, -⟩ := Rr
     obtain ⟨c0, f0, z0⟩ := blk_at R1
     go_simp
     obtain ⟨-, -, -, -, i0, i1, i4, -⟩ := HI.out
     exact hK.out undef _ ⟨x5, x7, x2, x3, i0, i1, i4, ((hL.setCell hRB _).setCell hRB _), (by simp; omega), (other_set (other_set B5 (by omega) _) (by omega) _), (other_set (other_set B6 (by omega) _) (by omega) _), ⟨_, _, two_set R1 _ _, fun _ => ⟨rfl, rfl⟩⟩, (by obtain ⟨s0, s1, S1, S2⟩ := Rs; exact ⟨s0, s1, (other_set (other_set S1 (by omega) _) (by omega) _), S2⟩)⟩
   · refine qst fun g ac wc hn hk hr HI K' hK => ?_
     obtain ⟨x5, x7, x2, x3, -, i1, -, hL, hS, B5, B6, Rr, Rs⟩ := HI.out
     simp [Region.binds] at hr
     have y1 := i1 (by simp [hr])
     clear i1
     obtain ⟨s0, s1, R1, -⟩ := Rs
     obtain ⟨c0, f0, z0⟩ := blk_at R1
     go_simp
     obtain ⟨-, -, -, -, i0, i1, i4, -⟩ := HI.out
     exact hK.out undef _ ⟨x5, x7, x2, x3, i0, i1, i4, ((hL.setCell hRBs _).setCell hRBs _), (by simp; omega), (other_set (other_set B5 (by omega) _) (by omega) _), (other_set (other_set B6 (by omega) _) (by omega) _), (by obtain ⟨r0, r1, S1, S2⟩ := Rr; exact ⟨r0, r1, (other_set (other_set S1 (by omega) _) (by omega) _), S2⟩), ⟨_, _, two_set R1 _ _, fun _ => ⟨rfl, rfl⟩⟩⟩
   · refine qst fun g ac wc hn hk hr HI K' hK => ?_
     obtain ⟨x5, x7, x2, x3, -, -, -, hL, hS, B5, B6, Rr, Rs⟩ := HI.out
     simp [Region.binds] at hr
     go_simp
     obtain ⟨-, -, -, -, i0, i1, i4, -⟩ := HI.out
     exact hK.out _ _ ⟨qB x5, qB x7, qB x2, qB x3, qF i0, qF i1, qP, hL, hS, B5, B6, Rr, Rs⟩
end Go.Proofs.YtkoojngonldcbaaGreat
