/- DERIVED. Walks: figures below and above, the searches. -/
import Derived.Test.YtkoojngonldcbaaGreatKRM30a
import Derived.Test.YtkoojngonldcbaaGreatKRPA
import Derived.Test.YtkoojngonldcbaaGreatKRBA
namespace Go.Proofs.YtkoojngonldcbaaGreat
set_option linter.unusedVariables false
set_option linter.unusedSimpArgs false
open Go.RowKit
set_option maxRecDepth 100000
theorem w_figureBelow1 (i t u : Int) (kA kB : Nat) (w : World) (i1 : 0 ≤ i) (i2 : i < 9000) (t1 : -100 ≤ t) (t2 : t ≤ 100) (hA : w.heap[kA]? = some (.cells #[.int .i64 t] 2 (0, 0))) (hB : w.heap[kB]? = some (.cells #[.int .i64 u] 2 (0, 0))) :
 Calls Tryz.prog 204 #[.int .i64 i, .pointer (some ⟨kA, 0, none⟩), .pointer (some ⟨kB, 0, none⟩)] w fun e w' => e = .returned (.bool (decide (u < (figLog ⟨1000 + i, t⟩).hi))) ∧ Later w w' := by
 go_enter Tryz.func204, Tryz.ntmps204
 go_wp2_with fail
 refine region_slots 13 [5, 6, 7, 8, 9, 10, 11, 12, 4] (fun g ac wc => sl ac 0 = .int .i64 i ∧
  sl ac 1 = .pointer (some ⟨kA, 0, none⟩) ∧
  sl ac 2 = .pointer (some ⟨kB, 0, none⟩) ∧
  (g 0 = true → sl ac 5 = .int .i64 i) ∧
  (g 1 = true → sl ac 6 = .int .i64 (1000 + i)) ∧
  (g 2 = true → sl ac 7 = .int .i64 t) ∧
  (g 3 = true → sl ac 8 = .agg #[.int .i64 (1000 + i), .int .i64 t]) ∧
  (g 4 = true → sl ac 9 = .agg #[.int .i64 (figLog ⟨1000 + i, t⟩).lo, .int .i64 (figLog ⟨1000 + i, t⟩).hi]) ∧
  (g 5 = true → sl ac 10 = .int .i64 (figLog ⟨1000 + i, t⟩).hi) ∧
  (g 6 = true → sl ac 11 = .int .i64 u) ∧
  (g 7 = true → sl ac 12 = .bool (decide (u < (figLog ⟨1000 + i, t⟩).hi))) ∧
  (g 8 = true → sl ac 4 = .bool (decide (u < (figLog ⟨1000 + i, t⟩).hi))) ∧
  Later w wc ∧
  w.heap.size ≤ wc.heap.size) (by kernel_rfl) (by kernel_rfl) rfl (by kernel_rfl) ?_ ?_ ?_
 · exact ⟨rfl, rfl, rfl, nofun, nofun, nofun, nofun, nofun, nofun, nofun, nofun, nofun, (Later.refl _).drew, Nat.le_refl _⟩
 · intro g ac wc hg ha hI
   obtain ⟨x0, x1, x2, i0, i1, i2, i3, i4, i5, i6, i7, i8, hL, hS⟩ := hI
   have a0 := i0 (hg 0 (by simp))
   have a1 := i1 (hg 1 (by simp))
   have a2 := i2 (hg 2 (by simp))
   have a3 := i3 (hg 3 (by simp))
   have a4 := i4 (hg 4 (by simp))
   have a5 := i5 (hg 5 (by simp))
   have a6 := i6 (hg 6 (by simp))
   have a7 := i7 (hg 7 (by simp))
   have a8 := i8 (hg 8 (by simp))
   simp only [putAll, a0, a1, a2, a3, a4, a5, a6, a7, a8] at ha
   simp only [Act.put, List.setIfInBounds_toArray, List.set_cons_succ, List.set_cons_zero] at ha
   rw [ha]
   clear x0 x1 x2 i0 i1 i2 i3 i4 i5 i6 i7 i8 a0 a1 a2 a3 a4 a5 a6 a7 a8 hg ha
   go_wp2
   go_ret
   exact ⟨rfl, hL⟩
 · refine .cons ?_ (.cons ?_ (.cons ?_ (.cons ?_ (.cons ?_ (.cons ?_ (.cons ?_ (.cons ?_ (.cons ?_ .nil))))))))
   · refine qst fun g ac wc hn hk hr HI K' hK => ?_
     obtain ⟨x0, x1, x2, -, -, -, -, -, -, -, -, -, hL, hS⟩ := HI.out
     simp [Region.binds] at hr
     go_simp
     obtain ⟨-, -, -, i0, i1, i2, i3, i4, i5, i6, i7, i8, -⟩ := HI.out
     exact hK.out _ _ ⟨qB x0, qB x1, qB x2, qP, qF i1, qF i2, qF i3, qF i4, qF i5, qF i6, qF i7, qF i8, hL, hS⟩
   · refine qst fun g ac wc hn hk hr HI K' hK => ?_
     obtain ⟨x0, x1, x2, i0, -, -, -, -, -, -, -, -, hL, hS⟩ := HI.out
     simp [Region.binds] at hr
     have y0 := i0 (by simp [hr])
     clear i0
     have wD : IntKind.i64.wrap (1000 + i) = 1000 + i := wrap_same (by omega) (by omega)
     go_simp
     obtain ⟨-, -, -, i0, i1, i2, i3, i4, i5, i6, i7, i8, -⟩ := HI.out
     exact hK.out _ _ ⟨qB x0, qB x1, qB x2, qF i0, qP, qF i2, qF i3, qF i4, qF i5, qF i6, qF i7, qF i8, hL, hS⟩
   · refine qst fun g ac wc hn hk hr HI K' hK => ?_
     obtain ⟨x0, x1, x2, -, -, -, -, -, -, -, -, -, hL, hS⟩ := HI.out
     simp [Region.binds] at hr
     have cA := (blk_at (hL.keep hA)).1
     have fA := (blk_at (hL.keep hA)).2.1
     have zA := (blk_at (hL.keep hA)).2.2
     go_simp
     obtain ⟨-, -, -, i0, i1, i2, i3, i4, i5, i6, i7, i8, -⟩ := HI.out
     exact hK.out _ _ ⟨qB x0, qB x1, qB x2, qF i0, qF i1, qP, qF i3, qF i4, qF i5, qF i6, qF i7, qF i8, hL, hS⟩
   · refine qst fun g ac wc hn hk hr HI K' hK => ?_
     obtain ⟨x0, x1, x2, -, i1, i2, -, -, -, -, -, -, hL, hS⟩ := HI.out
     simp [Region.binds] at hr
     have y1 := i1 (by simp [hr])
     have y2 := i2 (by simp [hr])
     have z1 := sl_get y1 (by omega)
     have z2 := sl_get y2 (by omega)
     clear i1 i2
     go_simp
     obtain ⟨-, -, -, i0, i1, i2, i3, i4, i5, i6, i7, i8, -⟩ := HI.out
     exact hK.out _ _ ⟨qB x0, qB x1, qB x2, qF i0, qF i1, qF i2, qP, qF i4, qF i5, qF i6, qF i7, qF i8, hL, hS⟩
   · refine qst fun g ac wc hn hk hr HI K' hK => ?_
     obtain ⟨x0, x1, x2, -, -, -, i3, -, -, -, -, -, hL, hS⟩ := HI.out
     simp [Region.binds] at hr
     have y3 := i3 (by simp [hr])
     clear i3
     go_simp
     refine (w_figureLog _ _ (by omega) (by omega) (by omega) (by omega) _).mono ?_
     rintro e w4 ⟨rfl, hL4⟩
     obtain ⟨-, -, -, i0, i1, i2, i3, i4, i5, i6, i7, i8, -⟩ := HI.out
     exact hK.out _ _ ⟨qB x0, qB x1, qB x2, qF i0, qF i1, qF i2, qF i3, qP, qF i5, qF i6, qF i7, qF i8, hL.trans hL4, Nat.le_trans hS hL4.size⟩
   · refine qst fun g ac wc hn hk hr HI K' hK => ?_
     obtain ⟨x0, x1, x2, -, -, -, -, i4, -, -, -, -, hL, hS⟩ := HI.out
     simp [Region.binds] at hr
     have y4 := i4 (by simp [hr])
     clear i4
     go_simp
     obtain ⟨-, -, -, i0, i1, i2, i3, i4, i5, i6, i7, i8, -⟩ := HI.out
     exact hK.out _ _ ⟨qB x0, qB x1, qB x2, qF i0, qF i1, qF i2, qF i3, qF i4, qP, qF i6, qF i7, qF i8, hL, hS⟩
   · refine qst fun g ac wc hn hk hr HI K' hK => ?_
     obtain ⟨x0, x1, x2, -, -, -, -, -, -, -, -, -, hL, hS⟩ := HI.out
     simp [Region.binds] at hr
     have cB := (blk_at (hL.keep hB)).1
     have fB := (blk_at (hL.keep hB)).2.1
     have zB := (blk_at (hL.keep hB)).2.2
     go_simp
     obtain ⟨-, -, -, i0, i1, i2, i3, i4, i5, i6, i7, i8, -⟩ := HI.out
     exact hK.out _ _ ⟨qB x0, qB x1, qB x2, qF i0, qF i1, qF i2, qF i3, qF i4, qF i5, qP, qF i7, qF i8, hL, hS⟩
   · refine qst fun g ac wc hn hk hr HI K' hK => ?_
     obtain ⟨x0, x1, x2, -, -, -, -, -, i5, i6, -, -, hL, hS⟩ := HI.out
     simp [Region.binds] at hr
     have y5 := i5 (by simp [hr])
     have y6 := i6 (by simp [hr])
     clear i5 i6
     go_simp
     obtain ⟨-, -, -, i0, i1, i2, i3, i4, i5, i6, i7, i8, -⟩ := HI.out
     exact hK.out _ _ ⟨qB x0, qB x1, qB x2, qF i0, qF i1, qF i2, qF i3, qF i4, qF i5, qF i6, qP, qF i8, hL, hS⟩
   · refine qst fun g ac wc hn hk hr HI K' hK => ?_
     obtain ⟨x0, x1, x2, -, -, -, -, -, -, -, i7, -, hL, hS⟩ := HI.out
     simp [Region.binds] at hr
     have y7 := i7 (by simp [hr])
     clear i7
     go_simp
     obtain ⟨-, -, -, i0, i1, i2, i3, i4, i5, i6, i7, i8, -⟩ := HI.out
     exact hK.out _ _ ⟨qB x0, qB x1, qB x2, qF i0, qF i1, qF i2, qF i3, qF i4, qF i5, qF i6, qF i7, qP, hL, hS⟩
theorem w_figureAbove1 (i t u : Int) (kA kB : Nat) (w : World) (i1 : 0 ≤ i) (i2 : i < 9000) (t1 : -100 ≤ t) (t2 : t ≤ 100) (hA : w.heap[kA]? = some (.cells #[.int .i64 t] 2 (0, 0))) (hB : w.heap[kB]? = some (.cells #[.int .i64 u] 2 (0, 0))) :
 Calls Tryz.prog 205 #[.int .i64 i, .pointer (some ⟨kA, 0, none⟩), .pointer (some ⟨kB, 0, none⟩)] w fun e w' => e = .returned (.bool (decide (u ≤ (figLog ⟨1000 + i, t⟩).lo))) ∧ Later w w' := by
 go_enter Tryz.func205, Tryz.ntmps205
 go_wp2_with fail
 refine region_slots 13 [5, 6, 7, 8, 9, 10, 11, 12, 4] (fun g ac wc => sl ac 0 = .int .i64 i ∧
  sl ac 1 = .pointer (some ⟨kA, 0, none⟩) ∧
  sl ac 2 = .pointer (some ⟨kB, 0, none⟩) ∧
  (g 0 = true → sl ac 5 = .int .i64 i) ∧
  (g 1 = true → sl ac 6 = .int .i64 (1000 + i)) ∧
  (g 2 = true → sl ac 7 = .int .i64 t) ∧
  (g 3 = true → sl ac 8 = .agg #[.int .i64 (1000 + i), .int .i64 t]) ∧
  (g 4 = true → sl ac 9 = .agg #[.int .i64 (figLog ⟨1000 + i, t⟩).lo, .int .i64 (figLog ⟨1000 + i, t⟩).hi]) ∧
  (g 5 = true → sl ac 10 = .int .i64 (figLog ⟨1000 + i, t⟩).lo) ∧
  (g 6 = true → sl ac 11 = .int .i64 u) ∧
  (g 7 = true → sl ac 12 = .bool (decide (u ≤ (figLog ⟨1000 + i, t⟩).lo))) ∧
  (g 8 = true → sl ac 4 = .bool (decide (u ≤ (figLog ⟨1000 + i, t⟩).lo))) ∧
  Later w wc ∧
  w.heap.size ≤ wc.heap.size) (by kernel_rfl) (by kernel_rfl) rfl (by kernel_rfl) ?_ ?_ ?_
 · exact ⟨rfl, rfl, rfl, nofun, nofun, nofun, nofun, nofun, nofun, nofun, nofun, nofun, (Later.refl _).drew, Nat.le_refl _⟩
 · intro g ac wc hg ha hI
   obtain ⟨x0, x1, x2, i0, i1, i2, i3, i4, i5, i6, i7, i8, hL, hS⟩ := hI
   have a0 := i0 (hg 0 (by simp))
   have a1 := i1 (hg 1 (by simp))
   have a2 := i2 (hg 2 (by simp))
   have a3 := i3 (hg 3 (by simp))
   have a4 := i4 (hg 4 (by simp))
   have a5 := i5 (hg 5 (by simp))
   have a6 := i6 (hg 6 (by simp))
   have a7 := i7 (hg 7 (by simp))
   have a8 := i8 (hg 8 (by simp))
   simp only [putAll, a0, a1, a2, a3, a4, a5, a6, a7, a8] at ha
   simp only [Act.put, List.setIfInBounds_toArray, List.set_cons_succ, List.set_cons_zero] at ha
   rw [ha]
   clear x0 x1 x2 i0 i1 i2 i3 i4 i5 i6 i7 i8 a0 a1 a2 a3 a4 a5 a6 a7 a8 hg ha
   go_wp2
   go_ret
   exact ⟨rfl, hL⟩
 · refine .cons ?_ (.cons ?_ (.cons ?_ (.cons ?_ (.cons ?_ (.cons ?_ (.cons ?_ (.cons ?_ (.cons ?_ .nil))))))))
   · refine qst fun g ac wc hn hk hr HI K' hK => ?_
     obtain ⟨x0, x1, x2, -, -, -, -, -, -, -, -, -, hL, hS⟩ := HI.out
     simp [Region.binds] at hr
     go_simp
     obtain ⟨-, -, -, i0, i1, i2, i3, i4, i5, i6, i7, i8, -⟩ := HI.out
     exact hK.out _ _ ⟨qB x0, qB x1, qB x2, qP, qF i1, qF i2, qF i3, qF i4, qF i5, qF i6, qF i7, qF i8, hL, hS⟩
   · refine qst fun g ac wc hn hk hr HI K' hK => ?_
     obtain ⟨x0, x1, x2, i0, -, -, -, -, -, -, -, -, hL, hS⟩ := HI.out
     simp [Region.binds] at hr
     have y0 := i0 (by simp [hr])
     clear i0
     have wD : IntKind.i64.wrap (1000 + i) = 1000 + i := wrap_same (by omega) (by omega)
     go_simp
     obtain ⟨-, -, -, i0, i1, i2, i3, i4, i5, i6, i7, i8, -⟩ := HI.out
     exact hK.out _ _ ⟨qB x0, qB x1, qB x2, qF i0, qP, qF i2, qF i3, qF i4, qF i5, qF i6, qF i7, qF i8, hL, hS⟩
   · refine qst fun g ac wc hn hk hr HI K' hK => ?_
     obtain ⟨x0, x1, x2, -, -, -, -, -, -, -, -, -, hL, hS⟩ := HI.out
     simp [Region.binds] at hr
     have cA := (blk_at (hL.keep hA)).1
     have fA := (blk_at (hL.keep hA)).2.1
     have zA := (blk_at (hL.keep hA)).2.2
     go_simp
     obtain ⟨-, -, -, i0, i1, i2, i3, i4, i5, i6, i7, i8, -⟩ := HI.out
     exact hK.out _ _ ⟨qB x0, qB x1, qB x2, qF i0, qF i1, qP, qF i3, qF i4, qF i5, qF i6, qF i7, qF i8, hL, hS⟩
   · refine qst fun g ac wc hn hk hr HI K' hK => ?_
     obtain ⟨x0, x1, x2, -, i1, i2, -, -, -, -, -, -, hL, hS⟩ := HI.out
     simp [Region.binds] at hr
     have y1 := i1 (by simp [hr])
     have y2 := i2 (by simp [hr])
     have z1 := sl_get y1 (by omega)
     have z2 := sl_get y2 (by omega)
     clear i1 i2
     go_simp
     obtain ⟨-, -, -, i0, i1, i2, i3, i4, i5, i6, i7, i8, -⟩ := HI.out
     exact hK.out _ _ ⟨qB x0, qB x1, qB x2, qF i0, qF i1, qF i2, qP, qF i4, qF i5, qF i6, qF i7, qF i8, hL, hS⟩
   · refine qst fun g ac wc hn hk hr HI K' hK => ?_
     obtain ⟨x0, x1, x2, -, -, -, i3, -, -, -, -, -, hL, hS⟩ := HI.out
     simp [Region.binds] at hr
     have y3 := i3 (by simp [hr])
     clear i3
     go_simp
     refine (w_figureLog _ _ (by omega) (by omega) (by omega) (by omega) _).mono ?_
     rintro e w4 ⟨rfl, hL4⟩
     obtain ⟨-, -, -, i0, i1, i2, i3, i4, i5, i6, i7, i8, -⟩ := HI.out
     exact hK.out _ _ ⟨qB x0, qB x1, qB x2, qF i0, qF i1, qF i2, qF i3, qP, qF i5, qF i6, qF i7, qF i8, hL.trans hL4, Nat.le_trans hS hL4.size⟩
   · refine qst fun g ac wc hn hk hr HI K' hK => ?_
     obtain ⟨x0, x1, x2, -, -, -, -, i4, -, -, -, -, hL, hS⟩ := HI.out
     simp [Region.binds] at hr
     have y4 := i4 (by simp [hr])
     clear i4
     go_simp
     obtain ⟨-, -, -, i0, i1, i2, i3, i4, i5, i6, i7, i8, -⟩ := HI.out
     exact hK.out _ _ ⟨qB x0, qB x1, qB x2, qF i0, qF i1, qF i2, qF i3, qF i4, qP, qF i6, qF i7, qF i8, hL, hS⟩
   · refine qst fun g ac wc hn hk hr HI K' hK => ?_
     obtain ⟨x0, x1, x2, -, -, -, -, -, -, -, -, -, hL, hS⟩ := HI.out
     simp [Region.binds] at hr
     have cB := (blk_at (hL.keep hB)).1
     have fB := (blk_at (hL.keep hB)).2.1
     have zB := (blk_at (hL.keep hB)).2.2
     go_simp
     obtain ⟨-, -, -, i0, i1, i2, i3, i4, i5, i6, i7, i8, -⟩ := HI.out
     exact hK.out _ _ ⟨qB x0, qB x1, qB x2, qF i0, qF i1, qF i2, qF i3, qF i4, qF i5, qP, qF i7, qF i8, hL, hS⟩
   · refine qst fun g ac wc hn hk hr HI K' hK => ?_
     obtain ⟨x0, x1, x2, -, -, -, -, -, i5, i6, -, -, hL, hS⟩ := HI.out
     simp [Region.binds] at hr
     have y5 := i5 (by simp [hr])
     have y6 := i6 (by simp [hr])
     clear i5 i6
     go_simp
     obtain ⟨-, -, -, i0, i1, i2, i3, i4, i5, i6, i7, i8, -⟩ := HI.out
     exact hK.out _ _ ⟨qB x0, qB x1, qB x2, qF i0, qF i1, qF i2, qF i3, qF i4, qF i5, qF i6, qP, qF i8, hL, hS⟩
   · refine qst fun g ac wc hn hk hr HI K' hK => ?_
     obtain ⟨x0, x1, x2, -, -, -, -, -, -, -, i7, -, hL, hS⟩ := HI.out
     simp [Region.binds] at hr
     have y7 := i7 (by simp [hr])
     clear i7
     go_simp
     obtain ⟨-, -, -, i0, i1, i2, i3, i4, i5, i6, i7, i8, -⟩ := HI.out
     exact hK.out _ _ ⟨qB x0, qB x1, qB x2, qF i0, qF i1, qF i2, qF i3, qF i4, qF i5, qF i6, qF i7, qP, hL, hS⟩
end Go.Proofs.YtkoojngonldcbaaGreat
