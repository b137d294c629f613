/- DERIVED. Walks: readings: the figures of a segment, and the search in it. -/
import Derived.Test.YtgngbdacejghcaaGreatDoorKUM80
namespace Go.Proofs.YtgngbdacejghcaaGreatDoor
set_option linter.unusedVariables false
set_option linter.unusedSimpArgs false
open Go.RowKit
set_option maxRecDepth 100000
def PropIsR (p : Prop) : Bool → Prop
 | true => p
 | false => ¬ p
theorem of_decide_eqR {p : Prop} [Decidable p] {b : Bool} (h : decide p = b) : PropIsR p b := by
 cases b
 · simpa [PropIsR] using h
 · simpa [PropIsR] using h
structure SegRow (w : World) (kG kN : Nat) (A B tn : Int) (b off cap : Nat) : Prop where
 sg : w.heap[kG]? = some (.cells #[.slice (some ⟨b, off, none⟩) 2 cap] 24 (0, 0))
 row : RowAt w b off (nums [A, B])
 tn : w.heap[kN]? = some (.cells #[.int .i64 tn] 2 (0, 0))
theorem SegRow.later {w w' : World} {kG kN : Nat} {A B tn : Int} {b off cap : Nat} (h : SegRow w kG kN A B tn b off cap) (hL : Later w w') : SegRow w' kG kN A B tn b off cap :=
 ⟨hL.keep h.sg, h.row.later hL, hL.keep h.tn⟩
structure SegAt (w : World) (kS kF kG kN : Nat) (s A B tn : Int) (b off cap : Nat) : Prop where
 sc : w.heap[kS]? = some (.cells #[.int .i64 s] 2 (0, 0))
 fg : w.heap[kF]? = some (.cells #[.func (.func 117) #[] #[.pointer (some ⟨kG, 0, none⟩), .pointer (some ⟨kN, 0, none⟩)]] 142 (0, 0))
 rw : SegRow w kG kN A B tn b off cap
theorem SegAt.later {w w' : World} {kS kF kG kN : Nat} {s A B tn : Int} {b off cap : Nat} (h : SegAt w kS kF kG kN s A B tn b off cap) (hL : Later w w') : SegAt w' kS kF kG kN s A B tn b off cap :=
 ⟨hL.keep h.sc, hL.keep h.fg, h.rw.later hL⟩
set_option maxHeartbeats 1000000 in
theorem w_readFig (i A B tn : Int) (kG kN b off cap : Nat) {w : World} (h : SegRow w kG kN A B tn b off cap) (i1 : 0 ≤ i) (i2 : i ≤ 100000) (a1 : 0 ≤ A) (a2 : A ≤ 100000) :
 Calls Tryz.prog 117 #[.int .i64 i, .pointer (some ⟨kG, 0, none⟩), .pointer (some ⟨kN, 0, none⟩)] w fun e w' => e = .returned (.agg #[.int .i64 (A + i), .int .i64 tn]) ∧ Later w w' := by
 have HRw := Lib.hid h.row
 have hG := h.sg
 have hN := h.tn
 have kg := (Array.getElem?_eq_some_iff.1 hG).1
 have kn := (Array.getElem?_eq_some_iff.1 hN).1
 clear h
 go_enter Tryz.func117, Tryz.ntmps117
 go_wp2_with fail
 refine wp_name ?_
 intro z hz
 have hLz : Later w z := by rw [hz]; exact (Later.refl _).alloc _
 have hSB := hLz.size
 have Kr : z.heap[w.heap.size]? = some (.cells #[.int .i64 0, .int .i64 0] 30 (0, 0)) := by rw [hz]; exact heap_alloc_new _ _
 have hRB : w.heap.size ≤ w.heap.size := Nat.le_refl _
 have KG := hLz.keep hG
 have KN := hLz.keep hN
 clear hz hG hN
 refine region_slots 12 [5, 6, 7, 8, 9, 10, 11] (fun g ac wc => sl ac 0 = .int .i64 i ∧
  sl ac 1 = .pointer (some ⟨kG, 0, none⟩) ∧
  sl ac 2 = .pointer (some ⟨kN, 0, none⟩) ∧
  sl ac 4 = .pointer (some ⟨w.heap.size, 0, none⟩) ∧
  (g 0 = true → sl ac 5 = .slice (some ⟨b, off, none⟩) 2 cap) ∧
  (g 1 = true → sl ac 6 = .pointer (some ⟨b, off, none⟩)) ∧
  (g 2 = true → sl ac 7 = .int .i64 A) ∧
  (g 3 = true → sl ac 8 = .int .i64 i) ∧
  (g 4 = true → sl ac 9 = .int .i64 (A + i)) ∧
  (g 5 = true → sl ac 10 = .int .i64 tn) ∧
  (g 6 = true → sl ac 11 = .agg #[.int .i64 (A + i), .int .i64 tn]) ∧
  Later w wc ∧
  z.heap.size ≤ wc.heap.size ∧
  wc.heap[kG]? = some (.cells #[.slice (some ⟨b, off, none⟩) 2 cap] 24 (0, 0)) ∧
  wc.heap[kN]? = some (.cells #[.int .i64 tn] 2 (0, 0)) ∧
  (∃ r0 r1, wc.heap[w.heap.size]? = some (.cells #[r0, r1] 30 (0, 0)) ∧ (g 7 = true → r0 = .int .i64 (A + i) ∧ r1 = .int .i64 tn))) (by kernel_rfl) (by kernel_rfl) rfl (by kernel_rfl) ?_ ?_ ?_
 · exact ⟨rfl, rfl, rfl, rfl, nofun, nofun, nofun, nofun, nofun, nofun, nofun, hLz.drew, Nat.le_refl _, KG, KN, ⟨_, _, Kr, nofun⟩⟩
 · intro g ac wc hg ha hI
   obtain ⟨x0, x1, x2, x4, i0, i1, i2, i3, i4, i5, i6, hL, hS, BG, BN, Rr⟩ := hI
   have a0 := i0 (hg 0 (by simp))
   have a1 := i1 (hg 1 (by simp))
   have a2 := i2 (hg 2 (by simp))
   have a3 := i3 (hg 3 (by simp))
   have a4 := i4 (hg 4 (by simp))
   have a5 := i5 (hg 5 (by simp))
   have a6 := i6 (hg 6 (by simp))
   obtain ⟨r0, r1, Kr, gr⟩ := Rr
   have gr := gr (hg 7 (by simp))
   rw [gr.1, gr.2] at Kr
   clear gr
   simp only [putAll, a0, a1, a2, a3, a4, a5, a6] at ha
   simp only [Act.put, List.setIfInBounds_toArray, List.set_cons_succ, List.set_cons_zero] at ha
   rw [ha]
   clear x0 x1 x2 x4 i0 i1 i2 i3 i4 i5 i6 a0 a1 a2 a3 a4 a5 a6 hg ha
   have c0 := (blk_at Kr).1
   have z0 := (blk_at Kr).2.2
   go_wp2
   refine bodyPost_ret (v := .agg #[.int .i64 (A + i), .int .i64 tn]) (by simp [results, Tryz.results117, go_sem, c0, z0]) rfl ⟨rfl, hL⟩
 · refine .cons ?_ (.cons ?_ (.cons ?_ (.cons ?_ (.cons ?_ (.cons ?_ (.cons ?_ (.cons ?_ .nil)))))))
   · refine qst fun g ac wc hn hk hr HI K' hK => ?_
     obtain ⟨x0, x1, x2, x4, -, -, -, -, -, -, -, hL, hS, BG, BN, Rr⟩ := HI.out
     simp [Region.binds] at hr
     obtain ⟨c0, f0, z0⟩ := blk_at BG
     go_simp
     obtain ⟨-, -, -, -, i0, i1, i2, i3, i4, i5, i6, -⟩ := HI.out
     exact hK.out _ _ ⟨qB x0, qB x1, qB x2, qB x4, qP, qF i1, qF i2, qF i3, qF i4, qF i5, qF i6, hL, hS, BG, BN, Rr⟩
   · refine qst fun g ac wc hn hk hr HI K' hK => ?_
     obtain ⟨x0, x1, x2, x4, i0, -, -, -, -, -, -, hL, hS, BG, BN, Rr⟩ := HI.out
     simp [Region.binds] at hr
     have y0 := i0 (by simp [hr])
     clear i0
     go_simp
     obtain ⟨-, -, -, -, i0, i1, i2, i3, i4, i5, i6, -⟩ := HI.out
     exact hK.out _ _ ⟨qB x0, qB x1, qB x2, qB x4, qF i0, qP, qF i2, qF i3, qF i4, qF i5, qF i6, hL, hS, BG, BN, Rr⟩
   · refine qst fun g ac wc hn hk hr HI K' hK => ?_
     obtain ⟨x0, x1, x2, x4, -, i1, -, -, -, -, -, hL, hS, BG, BN, Rr⟩ := HI.out
     simp [Region.binds] at hr
     have y1 := i1 (by simp [hr])
     clear i1
     have cq := (HRw.out.later hL).num (k := 0) rfl
     simp only [Nat.add_zero] at cq
     go_simp
     obtain ⟨-, -, -, -, i0, i1, i2, i3, i4, i5, i6, -⟩ := HI.out
     exact hK.out _ _ ⟨qB x0, qB x1, qB x2, qB x4, qF i0, qF i1, qP, qF i3, qF i4, qF i5, qF i6, hL, hS, BG, BN, Rr⟩
   · refine qst fun g ac wc hn hk hr HI K' hK => ?_
     obtain ⟨x0, x1, x2, x4, -, -, -, -, -, -, -, hL, hS, BG, BN, Rr⟩ := HI.out
     simp [Region.binds] at hr
     go_simp
     obtain ⟨-, -, -, -, i0, i1, i2, i3, i4, i5, i6, -⟩ := HI.out
     exact hK.out _ _ ⟨qB x0, qB x1, qB x2, qB x4, qF i0, qF i1, qF i2, qP, qF i4, qF i5, qF i6, hL, hS, BG, BN, Rr⟩
   · refine qst fun g ac wc hn hk hr HI K' hK => ?_
     obtain ⟨x0, x1, x2, x4, -, -, i2, i3, -, -, -, hL, hS, BG, BN, Rr⟩ := HI.out
     simp [Region.binds] at hr
     have y2 := i2 (by simp [hr])
     have y3 := i3 (by simp [hr])
     clear i2 i3
     have wD : IntKind.i64.wrap (A + i) = A + i := wrap_same (by omega) (by omega)
     go_simp
     obtain ⟨-, -, -, -, i0, i1, i2, i3, i4, i5, i6, -⟩ := HI.out
     exact hK.out _ _ ⟨qB x0, qB x1, qB x2, qB x4, qF i0, qF i1, qF i2, qF i3, qP, qF i5, qF i6, hL, hS, BG, BN, Rr⟩
   · refine qst fun g ac wc hn hk hr HI K' hK => ?_
     obtain ⟨x0, x1, x2, x4, -, -, -, -, -, -, -, hL, hS, BG, BN, Rr⟩ := HI.out
     simp [Region.binds] at hr
     obtain ⟨c0, f0, z0⟩ := blk_at BN
     go_simp
     obtain ⟨-, -, -, -, i0, i1, i2, i3, i4, i5, i6, -⟩ := HI.out
     exact hK.out _ _ ⟨qB x0, qB x1, qB x2, qB x4, qF i0, qF i1, qF i2, qF i3, qF i4, qP, qF i6, hL, hS, BG, BN, Rr⟩
   · refine qst fun g ac wc hn hk hr HI K' hK => ?_
     obtain ⟨x0, x1, x2, x4, -, -, -, -, i4, i5, -, hL, hS, BG, BN, Rr⟩ := HI.out
     simp [Region.binds] at hr
     have y4 := i4 (by simp [hr])
     have y5 := i5 (by simp [hr])
     have z4 := sl_get y4 (by omega)
     have z5 := sl_get y5 (by omega)
     clear i4 i5
     go_simp
     obtain ⟨-, -, -, -, i0, i1, i2, i3, i4, i5, i6, -⟩ := HI.out
     exact hK.out _ _ ⟨qB x0, qB x1, qB x2, qB x4, qF i0, qF i1, qF i2, qF i3, qF i4, qF i5, qP, hL, hS, BG, BN, Rr⟩
   · refine qst fun g ac wc hn hk hr HI K' hK => ?_
     obtain ⟨x0, x1, x2, x4, -, -, -, -, -, -, i6, hL, hS, BG, BN, Rr⟩ := HI.out
     simp [Region.binds] at hr
     have y6 := i6 (by simp [hr])
     clear i6
     obtain ⟨r0, r1, R1, -⟩ := Rr
     obtain ⟨c0, f0, z0⟩ := blk_at R1
     go_simp
     obtain ⟨-, -, -, -, i0, i1, i2, i3, i4, i5, i6, -⟩ := HI.out
     exact hK.out undef _ ⟨x0, x1, x2, x4, i0, i1, i2, i3, i4, i5, i6, ((hL.setCell hRB _).setCell hRB _), (by simp; omega), (other_set (other_set BG (by omega) _) (by omega) _), (other_set (other_set BN (by omega) _) (by omega) _), ⟨_, _, two_set R1 _ _, fun _ => ⟨rfl, rfl⟩⟩⟩
set_option maxHeartbeats 1000000 in
theorem w_readReach (s t i A B tn n : Int) (kS kF kQ kG kN b off cap : Nat) (w : World) (h : SegAt w kS kF kG kN s A B tn b off cap) (hQ : w.heap[kQ]? = some (.cells #[.int .i64 t] 2 (0, 0)))
 (s1 : 0 ≤ s) (s2 : s ≤ 4) (i1 : 0 ≤ i) (i2 : i ≤ 100000) (d1 : 1000 ≤ A + i) (d2 : A + i ≤ 9999) (a1 : 0 ≤ A) (a2 : A ≤ 100000) (f1 : -30 ≤ tn) (f2 : tn ≤ 30) (hat : atF n = ⟨A + i, tn⟩) :
 Calls Tryz.prog 120 #[.int .i64 i, .pointer (some ⟨kS, 0, none⟩), .pointer (some ⟨kF, 0, none⟩), .pointer (some ⟨kQ, 0, none⟩)] w fun e w' => e = .returned (.bool (decide (reach s t n))) ∧ Later w w' := by
 have hpb := ptF_bd (s := s) (f := ⟨A + i, tn⟩) d1 d2
 obtain ⟨X, hX⟩ : ∃ x, ptF s ⟨A + i, tn⟩ = x := ⟨_, rfl⟩
 have hP : P s n = X := by unfold P; rw [hat, hX]
 have hr3 : s = 3 → decide (reach s t n) = decide (X ≤ t) := fun h3 => by
  simp only [reach, if_pos h3, hP]
 have hr4 : s ≠ 3 → decide (reach s t n) = decide (t ≤ X) := fun h3 => by
  simp only [reach, if_neg h3, hP]
 rw [hX] at hpb
 obtain ⟨x1, x2⟩ := hpb
 have HX := Lib.hid hX
 have HSg := Lib.hid h.rw
 have KS := h.sc
 have KF := h.fg
 have KQ := hQ
 clear h hQ hP hX
 by_cases h3 : s = 3
 · have HR := Lib.hid (hr3 h3)
   have hb : (s == 3) = true := by simp [h3]
   clear hr3 hr4 hat
   subst h3
   go_enter Tryz.func120, Tryz.ntmps120
   go_wp2_with fail
   refine region_slots 20 [7, 8, 9, 10, 11, 6] (fun g ac wc => sl ac 0 = .int .i64 i ∧
    sl ac 1 = .pointer (some ⟨kS, 0, none⟩) ∧
    sl ac 2 = .pointer (some ⟨kF, 0, none⟩) ∧
    sl ac 3 = .pointer (some ⟨kQ, 0, none⟩) ∧
    (g 0 = true → sl ac 7 = .int .i64 3) ∧
    (g 1 = true → sl ac 8 = .func (.func 117) #[] #[.pointer (some ⟨kG, 0, none⟩), .pointer (some ⟨kN, 0, none⟩)]) ∧
    (g 2 = true → sl ac 9 = .int .i64 i) ∧
    (g 3 = true → sl ac 10 = .agg #[.int .i64 (A + i), .int .i64 tn]) ∧
    (g 4 = true → sl ac 11 = .int .i64 X) ∧
    (g 5 = true → sl ac 6 = .int .i64 X) ∧
    Later w wc ∧
    w.heap.size ≤ wc.heap.size ∧
    wc.heap[kS]? = some (.cells #[.int .i64 3] 2 (0, 0)) ∧
    wc.heap[kF]? = some (.cells #[.func (.func 117) #[] #[.pointer (some ⟨kG, 0, none⟩), .pointer (some ⟨kN, 0, none⟩)]] 142 (0, 0)) ∧
    wc.heap[kQ]? = some (.cells #[.int .i64 t] 2 (0, 0))) (by kernel_rfl) (by kernel_rfl) rfl (by kernel_rfl) ?_ ?_ ?_
   · exact ⟨rfl, rfl, rfl, rfl, nofun, nofun, nofun, nofun, nofun, nofun, (Later.refl _).drew, Nat.le_refl _, KS, KF, KQ⟩
   · intro g ac wc hg ha hI
     obtain ⟨x0, x1, x2, x3, i0, i1, i2, i3, i4, i5, hL, hS, BS, BF, BQ⟩ := hI
     have a0 := i0 (hg 0 (by simp))
     have a1 := i1 (hg 1 (by simp))
     have a2 := i2 (hg 2 (by simp))
     have a3 := i3 (hg 3 (by simp))
     have a4 := i4 (hg 4 (by simp))
     have a5 := i5 (hg 5 (by simp))
     simp only [putAll, a0, a1, a2, a3, a4, a5] at ha
     simp only [Act.put, List.setIfInBounds_toArray, List.set_cons_succ, List.set_cons_zero] at ha
     rw [ha]
     clear x0 x1 x2 x3 i0 i1 i2 i3 i4 i5 a0 a1 a2 a3 a4 a5 hg ha
     obtain ⟨cS, fS, zS⟩ := blk_at BS
     obtain ⟨cF, fF, zF⟩ := blk_at BF
     obtain ⟨cQ, fQ, zQ⟩ := blk_at BQ
     go_wp2
     go_ret
     exact ⟨by rw [HR.out]; rfl, hL⟩
   · refine .cons ?_ (.cons ?_ (.cons ?_ (.cons ?_ (.cons ?_ (.cons ?_ .nil)))))
     · refine qst fun g ac wc hn hk hr HI K' hK => ?_
       obtain ⟨x0, x1, x2, x3, -, -, -, -, -, -, hL, hS, BS, BF, BQ⟩ := HI.out
       simp [Region.binds] at hr
       obtain ⟨c0, f0, z0⟩ := blk_at BS
       go_simp
       obtain ⟨-, -, -, -, i0, i1, i2, i3, i4, i5, -⟩ := HI.out
       exact hK.out _ _ ⟨qB x0, qB x1, qB x2, qB x3, qP, qF i1, qF i2, qF i3, qF i4, qF i5, hL, hS, BS, BF, BQ⟩
     · refine qst fun g ac wc hn hk hr HI K' hK => ?_
       obtain ⟨x0, x1, x2, x3, -, -, -, -, -, -, hL, hS, BS, BF, BQ⟩ := HI.out
       simp [Region.binds] at hr
       obtain ⟨c0, f0, z0⟩ := blk_at BF
       go_simp
       obtain ⟨-, -, -, -, i0, i1, i2, i3, i4, i5, -⟩ := HI.out
       exact hK.out _ _ ⟨qB x0, qB x1, qB x2, qB x3, qF i0, qP, qF i2, qF i3, qF i4, qF i5, hL, hS, BS, BF, BQ⟩
     · refine qst fun g ac wc hn hk hr HI K' hK => ?_
       obtain ⟨x0, x1, x2, x3, -, -, -, -, -, -, hL, hS, BS, BF, BQ⟩ := HI.out
       simp [Region.binds] at hr
       go_simp
       obtain ⟨-, -, -, -, i0, i1, i2, i3, i4, i5, -⟩ := HI.out
       exact hK.out _ _ ⟨qB x0, qB x1, qB x2, qB x3, qF i0, qF i1, qP, qF i3, qF i4, qF i5, hL, hS, BS, BF, BQ⟩
     · refine qst fun g ac wc hn hk hr HI K' hK => ?_
       obtain ⟨x0, x1, x2, x3, -, i1, i2, -, -, -, hL, hS, BS, BF, BQ⟩ := HI.out
       simp [Region.binds] at hr
       have y1 := i1 (by simp [hr])
       have y2 := i2 (by simp [hr])
       clear i1 i2
       go_simp
       refine (w_readFig _ _ _ _ _ _ _ _ _ (HSg.out.later hL) (by omega) (by omega) (by omega) (by omega)).mono ?_
       rintro e w4 ⟨rfl, hL4⟩
       obtain ⟨-, -, -, -, i0, i1, i2, i3, i4, i5, -⟩ := HI.out
       exact hK.out _ _ ⟨qB x0, qB x1, qB x2, qB x3, qF i0, qF i1, qF i2, qP, qF i4, qF i5, hL.trans hL4, Nat.le_trans hS hL4.size, hL4.keep BS, hL4.keep BF, hL4.keep BQ⟩
     · refine qst fun g ac wc hn hk hr HI K' hK => ?_
       obtain ⟨x0, x1, x2, x3, i0, -, -, i3, -, -, hL, hS, BS, BF, BQ⟩ := HI.out
       simp [Region.binds] at hr
       have y0 := i0 (by simp [hr])
       have y3 := i3 (by simp [hr])
       clear i0 i3
       go_simp
       refine (w_implPoint _ _ _ s1 s2 d1 d2 (by omega) (by omega) _).mono ?_
       rintro e w4 ⟨rfl, hL4⟩
       rw [HX.out]
       obtain ⟨-, -, -, -, i0, i1, i2, i3, i4, i5, -⟩ := HI.out
       exact hK.out _ _ ⟨qB x0, qB x1, qB x2, qB x3, qF i0, qF i1, qF i2, qF i3, qP, qF i5, hL.trans hL4, Nat.le_trans hS hL4.size, hL4.keep BS, hL4.keep BF, hL4.keep BQ⟩
     · refine qst fun g ac wc hn hk hr HI K' hK => ?_
       obtain ⟨x0, x1, x2, x3, -, -, -, -, i4, -, hL, hS, BS, BF, BQ⟩ := HI.out
       simp [Region.binds] at hr
       have y4 := i4 (by simp [hr])
       clear i4
       go_simp
       obtain ⟨-, -, -, -, i0, i1, i2, i3, i4, i5, -⟩ := HI.out
       exact hK.out _ _ ⟨qB x0, qB x1, qB x2, qB x3, qF i0, qF i1, qF i2, qF i3, qF i4, qP, hL, hS, BS, BF, BQ⟩
 · have HR := Lib.hid (hr4 h3)
   have hb : (s == 3) = false := by simp [h3]
   clear hr3 hr4 h3 hat
   go_enter Tryz.func120, Tryz.ntmps120
   go_wp2_with fail
   refine region_slots 20 [7, 8, 9, 10, 11, 6] (fun g ac wc => sl ac 0 = .int .i64 i ∧
    sl ac 1 = .pointer (some ⟨kS, 0, none⟩) ∧
    sl ac 2 = .pointer (some ⟨kF, 0, none⟩) ∧
    sl ac 3 = .pointer (some ⟨kQ, 0, none⟩) ∧
    (g 0 = true → sl ac 7 = .int .i64 s) ∧
    (g 1 = true → sl ac 8 = .func (.func 117) #[] #[.pointer (some ⟨kG, 0, none⟩), .pointer (some ⟨kN, 0, none⟩)]) ∧
    (g 2 = true → sl ac 9 = .int .i64 i) ∧
    (g 3 = true → sl ac 10 = .agg #[.int .i64 (A + i), .int .i64 tn]) ∧
    (g 4 = true → sl ac 11 = .int .i64 X) ∧
    (g 5 = true → sl ac 6 = .int .i64 X) ∧
    Later w wc ∧
    w.heap.size ≤ wc.heap.size ∧
    wc.heap[kS]? = some (.cells #[.int .i64 s] 2 (0, 0)) ∧
    wc.heap[kF]? = some (.cells #[.func (.func 117) #[] #[.pointer (some ⟨kG, 0, none⟩), .pointer (some ⟨kN, 0, none⟩)]] 142 (0, 0)) ∧
    wc.heap[kQ]? = some (.cells #[.int .i64 t] 2 (0, 0))) (by kernel_rfl) (by kernel_rfl) rfl (by kernel_rfl) ?_ ?_ ?_
   · exact ⟨rfl, rfl, rfl, rfl, nofun, nofun, nofun, nofun, nofun, nofun, (Later.refl _).drew, Nat.le_refl _, KS, KF, KQ⟩
   · intro g ac wc hg ha hI
     obtain ⟨x0, x1, x2, x3, i0, i1, i2, i3, i4, i5, hL, hS, BS, BF, BQ⟩ := hI
     have a0 := i0 (hg 0 (by simp))
     have a1 := i1 (hg 1 (by simp))
     have a2 := i2 (hg 2 (by simp))
     have a3 := i3 (hg 3 (by simp))
     have a4 := i4 (hg 4 (by simp))
     have a5 := i5 (hg 5 (by simp))
     simp only [putAll, a0, a1, a2, a3, a4, a5] at ha
     simp only [Act.put, List.setIfInBounds_toArray, List.set_cons_succ, List.set_cons_zero] at ha
     rw [ha]
     clear x0 x1 x2 x3 i0 i1 i2 i3 i4 i5 a0 a1 a2 a3 a4 a5 hg ha
     obtain ⟨cS, fS, zS⟩ := blk_at BS
     obtain ⟨cF, fF, zF⟩ := blk_at BF
     obtain ⟨cQ, fQ, zQ⟩ := blk_at BQ
     go_wp2
     go_ret
     exact ⟨by rw [HR.out]; rfl, hL⟩
   · refine .cons ?_ (.cons ?_ (.cons ?_ (.cons ?_ (.cons ?_ (.cons ?_ .nil)))))
     · refine qst fun g ac wc hn hk hr HI K' hK => ?_
       obtain ⟨x0, x1, x2, x3, -, -, -, -, -, -, hL, hS, BS, BF, BQ⟩ := HI.out
       simp [Region.binds] at hr
       obtain ⟨c0, f0, z0⟩ := blk_at BS
       go_simp
       obtain ⟨-, -, -, -, i0, i1, i2, i3, i4, i5, -⟩ := HI.out
       exact hK.out _ _ ⟨qB x0, qB x1, qB x2, qB x3, qP, qF i1, qF i2, qF i3, qF i4, qF i5, hL, hS, BS, BF, BQ⟩
     · refine qst fun g ac wc hn hk hr HI K' hK => ?_
       obtain ⟨x0, x1, x2, x3, -, -, -, -, -, -, hL, hS, BS, BF, BQ⟩ := HI.out
       simp [Region.binds] at hr
       obtain ⟨c0, f0, z0⟩ := blk_at BF
       go_simp
       obtain ⟨-, -, -, -, i0, i1, i2, i3, i4, i5, -⟩ := HI.out
       exact hK.out _ _ ⟨qB x0, qB x1, qB x2, qB x3, qF i0, qP, qF i2, qF i3, qF i4, qF i5, hL, hS, BS, BF, BQ⟩
     · refine qst fun g ac wc hn hk hr HI K' hK => ?_
       obtain ⟨x0, x1, x2, x3, -, -, -, -, -, -, hL, hS, BS, BF, BQ⟩ := HI.out
       simp [Region.binds] at hr
       go_simp
       obtain ⟨-, -, -, -, i0, i1, i2, i3, i4, i5, -⟩ := HI.out
       exact hK.out _ _ ⟨qB x0, qB x1, qB x2, qB x3, qF i0, qF i1, qP, qF i3, qF i4, qF i5, hL, hS, BS, BF, BQ⟩
     · refine qst fun g ac wc hn hk hr HI K' hK => ?_
       obtain ⟨x0, x1, x2, x3, -, i1, i2, -, -, -, hL, hS, BS, BF, BQ⟩ := HI.out
       simp [Region.binds] at hr
       have y1 := i1 (by simp [hr])
       have y2 := i2 (by simp [hr])
       clear i1 i2
       go_simp
       refine (w_readFig _ _ _ _ _ _ _ _ _ (HSg.out.later hL) (by omega) (by omega) (by omega) (by omega)).mono ?_
       rintro e w4 ⟨rfl, hL4⟩
       obtain ⟨-, -, -, -, i0, i1, i2, i3, i4, i5, -⟩ := HI.out
       exact hK.out _ _ ⟨qB x0, qB x1, qB x2, qB x3, qF i0, qF i1, qF i2, qP, qF i4, qF i5, hL.trans hL4, Nat.le_trans hS hL4.size, hL4.keep BS, hL4.keep BF, hL4.keep BQ⟩
     · refine qst fun g ac wc hn hk hr HI K' hK => ?_
       obtain ⟨x0, x1, x2, x3, i0, -, -, i3, -, -, hL, hS, BS, BF, BQ⟩ := HI.out
       simp [Region.binds] at hr
       have y0 := i0 (by simp [hr])
       have y3 := i3 (by simp [hr])
       clear i0 i3
       go_simp
       refine (w_implPoint _ _ _ s1 s2 d1 d2 (by omega) (by omega) _).mono ?_
       rintro e w4 ⟨rfl, hL4⟩
       rw [HX.out]
       obtain ⟨-, -, -, -, i0, i1, i2, i3, i4, i5, -⟩ := HI.out
       exact hK.out _ _ ⟨qB x0, qB x1, qB x2, qB x3, qF i0, qF i1, qF i2, qF i3, qP, qF i5, hL.trans hL4, Nat.le_trans hS hL4.size, hL4.keep BS, hL4.keep BF, hL4.keep BQ⟩
     · refine qst fun g ac wc hn hk hr HI K' hK => ?_
       obtain ⟨x0, x1, x2, x3, -, -, -, -, i4, -, hL, hS, BS, BF, BQ⟩ := HI.out
       simp [Region.binds] at hr
       have y4 := i4 (by simp [hr])
       clear i4
       go_simp
       obtain ⟨-, -, -, -, i0, i1, i2, i3, i4, i5, -⟩ := HI.out
       exact hK.out _ _ ⟨qB x0, qB x1, qB x2, qB x3, qF i0, qF i1, qF i2, qF i3, qF i4, qP, hL, hS, BS, BF, BQ⟩
set_option maxHeartbeats 1000000 in
theorem w_readSearch (s t A B tn a sz : Int) (kS kF kQ kG kN b off cap : Nat) (w : World) (h : SegAt w kS kF kG kN s A B tn b off cap) (hQ : w.heap[kQ]? = some (.cells #[.int .i64 t] 2 (0, 0)))
 (s1 : 0 ≤ s) (s2 : s ≤ 4) (z1 : 0 ≤ sz) (z2 : sz ≤ 100000) (a1 : 1000 ≤ A) (a2 : A + sz ≤ 10000) (f1 : -30 ≤ tn) (f2 : tn ≤ 30) (hat : ∀ i, 0 ≤ i → i < sz → atF (a + i) = ⟨A + i, tn⟩) :
 Calls Tryz.prog 119 #[.int .i64 sz, .func (.func 120) #[] #[.pointer (some ⟨kS, 0, none⟩), .pointer (some ⟨kF, 0, none⟩), .pointer (some ⟨kQ, 0, none⟩)]] w fun e w' => ∃ i : Int, e = .returned (.int .i64 i) ∧ 0 ≤ i ∧ i ≤ sz ∧ IsCut s t a (a + sz) (a + i) ∧ Later w w' := by
 have HS := Lib.hid h
 have HQ := Lib.hid hQ
 have HAt := Lib.hid hat
 clear h hQ hat
 go_enter Tryz.func119, Tryz.ntmps119
 go_wp2
 go_loopw [5, 6] (fun x y wr => ∃ I J : Int, x = .int .i64 I ∧ y = .int .i64 J ∧ 0 ≤ I ∧ I ≤ J ∧ J ≤ sz ∧ Later w wr ∧ Hid ((J = sz ∨ reach s t (a + J)) ∧ (I = 0 ∨ ¬ reach s t (a + I - 1)))) (fun x y _ => (intOf y - intOf x).toNat)
 case atStart => exact ⟨0, sz, rfl, rfl, by omega, by omega, by omega, Later.refl _, ⟨.inl rfl, .inl rfl⟩⟩
 case round =>
  obtain ⟨I, J, rfl, rfl, hi0, hij, hj, hL, HE⟩ := hrel
  by_cases hlt : I < J
  · have hm1 : I ≤ (I + J) / 2 := by omega
    have hm2 : (I + J) / 2 < J := by omega
    have HAm := Lib.hid (HAt.out ((I + J) / 2) (by omega) (by omega))
    cases hp : decide (reach s t (a + (I + J) / 2))
    all_goals
     have HP := Lib.hid hp
     have HP2 := Lib.hid (of_decide_eqR hp)
     clear hp
     go_wp2_with fail
     refine (w_readReach s t _ A B tn (a + (I + J) / 2) kS kF kQ kG kN b off cap _ (HS.out.later hL) (hL.keep HQ.out) s1 s2 (by omega) (by omega) (by omega) (by omega) (by omega) (by omega) f1 f2 HAm.out).mono ?_
     rintro e w1 ⟨rfl, hL1⟩
     rw [HP.out]
     go_wp2
     go_roundw
     case rel => first | exact ⟨(I + J) / 2 + 1, J, rfl, rfl, by omega, by omega, by omega, qla, ⟨HE.out.1, .inr (by rw [show a + ((I + J) / 2 + 1) - 1 = a + (I + J) / 2 by omega]; exact HP2.out)⟩⟩ | exact ⟨I, (I + J) / 2, rfl, rfl, by omega, by omega, by omega, qla, ⟨.inr HP2.out, HE.out.2⟩⟩
     case measure => simp [intOf]; omega
  · obtain rfl : I = J := by omega
    go_wp2
    go_ret
    exact ⟨I, rfl, hi0, hj, ⟨by omega, by omega, HE.out.1.imp_left (fun h => by omega), HE.out.2.imp_left (fun h => by omega)⟩, hL⟩
set_option maxHeartbeats 1000000 in
theorem w_readFirst (s t A B tn a sz : Int) (kZ kS kF kG kN b off cap : Nat) {w : World} (h : SegAt w kS kF kG kN s A B tn b off cap) (hZ : w.heap[kZ]? = some (.cells #[.int .i64 sz] 3 (0, 0)))
 (s1 : 0 ≤ s) (s2 : s ≤ 4) (z1 : 0 ≤ sz) (z2 : sz ≤ 100000) (a1 : 1000 ≤ A) (a2 : A + sz ≤ 10000) (f1 : -30 ≤ tn) (f2 : tn ≤ 30) (hat : ∀ i, 0 ≤ i → i < sz → atF (a + i) = ⟨A + i, tn⟩) :
 Calls Tryz.prog 118 #[.int .i64 t, .pointer (some ⟨kZ, 0, none⟩), .pointer (some ⟨kS, 0, none⟩), .pointer (some ⟨kF, 0, none⟩)] w fun e w' => ∃ i : Int, e = .returned (.int .i64 i) ∧ 0 ≤ i ∧ i ≤ sz ∧ IsCut s t a (a + sz) (a + i) ∧ Later w w' := by
 obtain ⟨c0, f0, z0⟩ := blk_at hZ
 have HS := Lib.hid h
 have HAt := Lib.hid hat
 clear h hat
 go_enter Tryz.func118, Tryz.ntmps118
 go_wp2_with fail
 refine (w_readSearch s t A B tn a sz kS kF _ kG kN b off cap _ (HS.out.later ((Later.refl _).alloc _)) (heap_alloc_new _ _) s1 s2 z1 z2 a1 a2 f1 f2 HAt.out).mono ?_
 rintro e w1 ⟨I, rfl, i1, i2, hc, hL⟩
 have HC := Lib.hid hc
 clear hc
 go_wp2
 go_ret
 exact ⟨I, rfl, i1, i2, HC.out, qla⟩
end Go.Proofs.YtgngbdacejghcaaGreatDoor
