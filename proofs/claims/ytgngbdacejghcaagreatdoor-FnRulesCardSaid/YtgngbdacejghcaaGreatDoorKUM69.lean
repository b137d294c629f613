/- DERIVED. Walks: figures that are compared. -/
import Derived.Test.YtgngbdacejghcaaGreatDoorKUP11
import Derived.Test.YtgngbdacejghcaaGreatDoorKUM12
import Derived.Test.YtgngbdacejghcaaGreatDoorKUM35
namespace Go.Proofs.YtgngbdacejghcaaGreatDoor
set_option linter.unusedVariables false
set_option linter.unusedSimpArgs false
open Go.RowKit
set_option maxRecDepth 100000
def cmpI (a b : Int) : Int := if a < b then -1 else if b < a then 1 else 0
theorem cmpI_lt {a b : Int} (h : a < b) : cmpI a b = -1 := by unfold cmpI; rw [if_pos h]
theorem cmpI_gt {a b : Int} (h : b < a) : cmpI a b = 1 := by unfold cmpI; rw [if_neg (by omega), if_pos h]
theorem cmpI_eq {a b : Int} (h : a = b) : cmpI a b = 0 := by unfold cmpI; rw [if_neg (by omega), if_neg (by omega)]
def or2 (x y : Int) : Int := if x = 0 then y else x
theorem cmpF_or {a b : Fig} (ha : isFig a = true) (hb : isFig b = true) : or2 (cmpI a.t b.t) (cmpI a.d b.d) = cmpF a b := by
 unfold or2
 have h1 := isFig_bd ha
 have h2 := isFig_bd hb
 have e1 : keyF a = 10000 * a.t + a.d := rfl
 have e2 : keyF b = 10000 * b.t + b.d := rfl
 unfold cmpF
 rcases Int.lt_trichotomy a.t b.t with h | h | h
 · rw [cmpI_lt h, if_neg (by omega), if_pos (by omega)]
 · rw [cmpI_eq h, if_pos rfl]
   rcases Int.lt_trichotomy a.d b.d with k | k | k
   · rw [cmpI_lt k, if_pos (by omega)]
   · rw [cmpI_eq k, if_neg (by omega), if_neg (by omega)]
   · rw [cmpI_gt k, if_neg (by omega), if_pos (by omega)]
 · rw [cmpI_gt h, if_neg (by omega), if_neg (by omega), if_pos (by omega)]
theorem w_isNaN (a : Int) (w : World) :
 Calls Tryz.prog 183 #[.int .i64 a] w fun e w' => e = .returned (.bool false) ∧ w = w' := by
 go_enter Tryz.func183, Tryz.ntmps183
 go_wp2
 go_ret
 exact ⟨by simp, rfl⟩
theorem w_compare (a b : Int) (w : World) :
 Calls Tryz.prog 153 #[.int .i64 a, .int .i64 b] w fun e w' => e = .returned (.int .i64 (cmpI a b)) ∧ w = w' := by
 rcases Int.lt_trichotomy a b with h | h | h
 · have HF := Lib.hid (cmpI_lt h)
   go_enter Tryz.func153, Tryz.ntmps153
   go_wp2_with (go_at_call 183; refine (w_isNaN _ _).mono ?_; rintro e w' ⟨rfl, rfl⟩)
   all_goals (go_ret; exact ⟨by rw [HF.out]; rfl, rfl⟩)
 · have HF := Lib.hid (cmpI_eq h)
   go_enter Tryz.func153, Tryz.ntmps153
   go_wp2_with (go_at_call 183; refine (w_isNaN _ _).mono ?_; rintro e w' ⟨rfl, rfl⟩)
   all_goals (go_ret; exact ⟨by rw [HF.out]; rfl, rfl⟩)
 · have HF := Lib.hid (cmpI_gt h)
   have hn : ¬ a < b := by omega
   go_enter Tryz.func153, Tryz.ntmps153
   go_wp2_with (go_at_call 183; refine (w_isNaN _ _).mono ?_; rintro e w' ⟨rfl, rfl⟩)
   all_goals (go_ret; exact ⟨by rw [HF.out]; rfl, rfl⟩)
theorem w_compareL (a b : Int) (w : World) :
 Calls Tryz.prog 153 #[.int .i64 a, .int .i64 b] w fun e w' => e = .returned (.int .i64 (cmpI a b)) ∧ Later w w' :=
 (w_compare a b w).mono (by rintro e w' ⟨h, rfl⟩; exact ⟨h, Later.refl _⟩)
theorem w_cmpOr (v : Value) (x y : Int) (w : World) (h : IsNums w v [x, y]) :
 Calls Tryz.prog 152 #[v] w fun e w' => e = .returned (.int .i64 (or2 x y)) ∧ Later w w' := by
 obtain ⟨l, hl⟩ : ∃ l, l = [x, y] := ⟨_, rfl⟩
 rw [← hl] at h
 have hlen : l.length = 2 := by rw [hl]; rfl
 have HX := Lib.hid (show l[0]? = some x by rw [hl]; rfl)
 have HY := Lib.hid (show l[1]? = some y by rw [hl]; rfl)
 obtain ⟨hxl1, hn1, a1, cap1, rfl, hcap1, hmax1, hrow1⟩ := h
 have HR1 := Lib.hid hrow1
 clear hrow1 hxl1
 go_enter Tryz.func152, Tryz.ntmps152
 go_wp2
 go_loop [8] (fun i => ∃ k : Nat, k ≤ l.length ∧ i = .int .i64 k ∧ Hid ((1 ≤ k → x = 0) ∧ (2 ≤ k → y = 0))) (fun i => l.length - (intOf i).toNat)
 case atStart => exact ⟨0, Nat.zero_le _, rfl, by simp [Hid]⟩
 case round =>
  obtain ⟨k, hk, rfl, HE⟩ := hrel
  have hL := Later.refl w
  by_cases hlt : k < l.length
  · obtain ⟨b1, off1, rfl, hr1⟩ := HR1.out (by omega)
    obtain ⟨t1, ht1⟩ := get_ex (l := l) (k := k) (by omega)
    have HT1 := Lib.hid ht1
    have c1_0 := (hr1.later hL).num ht1
    clear ht1
    by_cases hq : t1 = 0
    · have hn : Hid ((1 ≤ k + 1 → x = 0) ∧ (2 ≤ k + 1 → y = 0)) := by
       rcases (show k = 0 ∨ k = 1 by omega) with rfl | rfl
       · have e := HX.out.symm.trans HT1.out
         simp only [Option.some.injEq] at e
         exact ⟨fun _ => by omega, fun _ => by omega⟩
       · have e := HY.out.symm.trans HT1.out
         simp only [Option.some.injEq] at e
         exact ⟨fun _ => HE.out.1 (by omega), fun _ => by omega⟩
      go_wp2
      go_round
      case rel => exact ⟨k + 1, by omega, by go_num, hn⟩
      case measure => simp [intOf]; omega
    · have hf : or2 x y = t1 := by
       unfold or2
       rcases (show k = 0 ∨ k = 1 by omega) with rfl | rfl
       · have e := HX.out.symm.trans HT1.out
         simp only [Option.some.injEq] at e
         rw [if_neg (by omega), e]
       · have e := HY.out.symm.trans HT1.out
         simp only [Option.some.injEq] at e
         rw [if_pos (HE.out.1 (by omega)), e]
      have HF := Lib.hid hf
      clear hf
      go_wp2
      go_ret
      exact ⟨by rw [HF.out]; rfl, qla⟩
  · have hf : or2 x y = 0 := by
     unfold or2
     rw [if_pos (HE.out.1 (by omega)), HE.out.2 (by omega)]
    have HF := Lib.hid hf
    clear hf
    go_wp2
    go_ret
    exact ⟨by rw [HF.out]; rfl, qla⟩
theorem w_compareFigures (a b c d : Int) (h : isFig ⟨a, b⟩ = true) (h' : isFig ⟨c, d⟩ = true) (w : World) :
 Calls Tryz.prog 114 #[.agg #[.int .i64 a, .int .i64 b], .agg #[.int .i64 c, .int .i64 d]] w fun e w' => e = .returned (.int .i64 (cmpF ⟨a, b⟩ ⟨c, d⟩)) ∧ Later w w' := by
 have HF := Lib.hid (cmpF_or h h').symm
 clear h h'
 go_enter Tryz.func114, Tryz.ntmps114
 go_wp2_with fail
 refine wp_name ?_
 intro z hz
 have hL0 : Later w z := by rw [hz]; exact ((Later.refl _).alloc _).alloc _
 have hSB := hL0.size
 have K0 : z.heap[w.heap.size]? = some (.cells #[.int .i64 a, .int .i64 b] 30 (0, 0)) := by rw [hz]; exact heap_alloc_old _ _ (heap_alloc_new _ _)
 have K1 : z.heap[w.heap.size + 1]? = some (.cells #[.int .i64 c, .int .i64 d] 30 (0, 0)) := by rw [hz]; exact heap_alloc_new' _ _ (by simp)
 have lt1 := (Array.getElem?_eq_some_iff.1 K1).1
 clear hz
 refine region_slots 17 [5, 6, 7, 8, 9, 10, 11, 12, 13, 14, 15, 16, 4] (fun g ac wc => sl ac 2 = .pointer (some ⟨w.heap.size, 0, none⟩) ∧
  sl ac 3 = .pointer (some ⟨w.heap.size + 1, 0, none⟩) ∧
  (g 0 = true → sl ac 5 = .pointer (some ⟨w.heap.size, 1, none⟩)) ∧
  (g 1 = true → sl ac 6 = .int .i64 b) ∧
  (g 2 = true → sl ac 7 = .pointer (some ⟨w.heap.size + 1, 1, none⟩)) ∧
  (g 3 = true → sl ac 8 = .int .i64 d) ∧
  (g 4 = true → sl ac 9 = .int .i64 (cmpI b d)) ∧
  (g 5 = true → sl ac 10 = .pointer (some ⟨w.heap.size, 0, none⟩)) ∧
  (g 6 = true → sl ac 11 = .int .i64 a) ∧
  (g 7 = true → sl ac 12 = .pointer (some ⟨w.heap.size + 1, 0, none⟩)) ∧
  (g 8 = true → sl ac 13 = .int .i64 c) ∧
  (g 9 = true → sl ac 14 = .int .i64 (cmpI a c)) ∧
  (g 11 = true → sl ac 16 = .int .i64 (or2 (cmpI b d) (cmpI a c))) ∧
  (g 12 = true → sl ac 4 = .int .i64 (or2 (cmpI b d) (cmpI a c))) ∧
  Later w wc ∧
  (g 10 = true → (∃ k, sl ac 15 = .slice (some ⟨k, 0, none⟩) 2 2) ∧ (g 11 = false → wc.ownsRow z.heap.size 3 1 (sl ac 15) (2) (nums [(cmpI b d), (cmpI a c)]))) ∧
  z.heap.size ≤ wc.heap.size ∧
  wc.heap[w.heap.size]? = some (.cells #[.int .i64 a, .int .i64 b] 30 (0, 0)) ∧
  wc.heap[w.heap.size + 1]? = some (.cells #[.int .i64 c, .int .i64 d] 30 (0, 0))) (by kernel_rfl) (by kernel_rfl) rfl (by kernel_rfl) ?_ ?_ ?_
 · exact ⟨rfl, rfl, nofun, nofun, nofun, nofun, nofun, nofun, nofun, nofun, nofun, nofun, nofun, nofun, hL0.drew, nofun, Nat.le_refl _, K0, K1⟩
 · intro g ac wu hg ha hI
   obtain ⟨x2, x3, i0, i1, i2, i3, i4, i5, i6, i7, i8, i9, i11, i12, hL, p10, hS, B0, B1⟩ := hI
   obtain ⟨⟨kr10, e10⟩, -⟩ := p10 (hg 10 (by simp))
   have a0 := i0 (hg 0 (by simp))
   have a1 := i1 (hg 1 (by simp))
   have a2 := i2 (hg 2 (by simp))
   have a3 := i3 (hg 3 (by simp))
   have a4 := i4 (hg 4 (by simp))
   have a5 := i5 (hg 5 (by simp))
   have a6 := i6 (hg 6 (by simp))
   have a7 := i7 (hg 7 (by simp))
   have a8 := i8 (hg 8 (by simp))
   have a9 := i9 (hg 9 (by simp))
   have a11 := i11 (hg 11 (by simp))
   have a12 := i12 (hg 12 (by simp))
   simp only [putAll, e10, a0, a1, a2, a3, a4, a5, a6, a7, a8, a9, a11, a12] at ha
   simp only [Act.put, List.setIfInBounds_toArray, List.set_cons_succ, List.set_cons_zero] at ha
   rw [ha]
   clear x2 x3 i0 i1 i2 i3 i4 i5 i6 i7 i8 i9 i11 i12 a0 a1 a2 a3 a4 a5 a6 a7 a8 a9 a11 a12 p10 e10 hg ha
   go_wp2
   go_ret
   exact ⟨by rw [HF.out]; rfl, hL⟩
 · refine .cons ?_ (.cons ?_ (.cons ?_ (.cons ?_ (.cons ?_ (.cons ?_ (.cons ?_ (.cons ?_ (.cons ?_ (.cons ?_ (.cons ?_ (.cons ?_ (.cons ?_ .nil))))))))))))
   · refine qst fun g ac wc hn hk hr HI K' hK => ?_
     obtain ⟨x2, x3, i0, i1, i2, i3, i4, i5, i6, i7, i8, i9, i11, i12, hL, p10, hS, B0, B1⟩ := HI.out
     simp [Region.binds] at hr
     clear i0 i1 i2 i3 i4 i5 i6 i7 i8 i9 i11 i12 p10
     go_simp
     obtain ⟨-, -, i0, i1, i2, i3, i4, i5, i6, i7, i8, i9, i11, i12, -, p10, -⟩ := HI.out
     exact hK.out _ _ ⟨qB x2, qB x3, qP, qF i1, qF i2, qF i3, qF i4, qF i5, qF i6, qF i7, qF i8, qF i9, qF i11, qF i12, hL, (fun h => by obtain ⟨hs, ho⟩ := p10 h; exact ⟨(by rw [put_ne (show 15 ≠ 5 by decide)]; exact hs), fun ht => by have ho := ho ht; exact (by rw [put_ne (show 15 ≠ 5 by decide)]; exact ho)⟩), hS, B0, B1⟩
   · refine qst fun g ac wc hn hk hr HI K' hK => ?_
     obtain ⟨x2, x3, i0, i1, i2, i3, i4, i5, i6, i7, i8, i9, i11, i12, hL, p10, hS, B0, B1⟩ := HI.out
     simp [Region.binds] at hr
     have y0 := i0 (by simp [hr])
     clear i0 i1 i2 i3 i4 i5 i6 i7 i8 i9 i11 i12 p10
     obtain ⟨c0, f0, z0⟩ := blk_at B0
     go_simp
     obtain ⟨-, -, i0, i1, i2, i3, i4, i5, i6, i7, i8, i9, i11, i12, -, p10, -⟩ := HI.out
     exact hK.out _ _ ⟨qB x2, qB x3, qF i0, qP, qF i2, qF i3, qF i4, qF i5, qF i6, qF i7, qF i8, qF i9, qF i11, qF i12, hL, (fun h => by obtain ⟨hs, ho⟩ := p10 h; exact ⟨(by rw [put_ne (show 15 ≠ 6 by decide)]; exact hs), fun ht => by have ho := ho ht; exact (by rw [put_ne (show 15 ≠ 6 by decide)]; exact ho)⟩), hS, B0, B1⟩
   · refine qst fun g ac wc hn hk hr HI K' hK => ?_
     obtain ⟨x2, x3, i0, i1, i2, i3, i4, i5, i6, i7, i8, i9, i11, i12, hL, p10, hS, B0, B1⟩ := HI.out
     simp [Region.binds] at hr
     clear i0 i1 i2 i3 i4 i5 i6 i7 i8 i9 i11 i12 p10
     go_simp
     obtain ⟨-, -, i0, i1, i2, i3, i4, i5, i6, i7, i8, i9, i11, i12, -, p10, -⟩ := HI.out
     exact hK.out _ _ ⟨qB x2, qB x3, qF i0, qF i1, qP, qF i3, qF i4, qF i5, qF i6, qF i7, qF i8, qF i9, qF i11, qF i12, hL, (fun h => by obtain ⟨hs, ho⟩ := p10 h; exact ⟨(by rw [put_ne (show 15 ≠ 7 by decide)]; exact hs), fun ht => by have ho := ho ht; exact (by rw [put_ne (show 15 ≠ 7 by decide)]; exact ho)⟩), hS, B0, B1⟩
   · refine qst fun g ac wc hn hk hr HI K' hK => ?_
     obtain ⟨x2, x3, i0, i1, i2, i3, i4, i5, i6, i7, i8, i9, i11, i12, hL, p10, hS, B0, B1⟩ := HI.out
     simp [Region.binds] at hr
     have y2 := i2 (by simp [hr])
     clear i0 i1 i2 i3 i4 i5 i6 i7 i8 i9 i11 i12 p10
     obtain ⟨c0, f0, z0⟩ := blk_at B1
     go_simp
     obtain ⟨-, -, i0, i1, i2, i3, i4, i5, i6, i7, i8, i9, i11, i12, -, p10, -⟩ := HI.out
     exact hK.out _ _ ⟨qB x2, qB x3, qF i0, qF i1, qF i2, qP, qF i4, qF i5, qF i6, qF i7, qF i8, qF i9, qF i11, qF i12, hL, (fun h => by obtain ⟨hs, ho⟩ := p10 h; exact ⟨(by rw [put_ne (show 15 ≠ 8 by decide)]; exact hs), fun ht => by have ho := ho ht; exact (by rw [put_ne (show 15 ≠ 8 by decide)]; exact ho)⟩), hS, B0, B1⟩
   · refine qst fun g ac wc hn hk hr HI K' hK => ?_
     obtain ⟨x2, x3, i0, i1, i2, i3, i4, i5, i6, i7, i8, i9, i11, i12, hL, p10, hS, B0, B1⟩ := HI.out
     simp [Region.binds] at hr
     have y1 := i1 (by simp [hr])
     have y3 := i3 (by simp [hr])
     clear i0 i1 i2 i3 i4 i5 i6 i7 i8 i9 i11 i12 p10
     go_simp
     refine (w_compareL _ _ _).mono ?_
     rintro e w4 ⟨rfl, hL4⟩
     obtain ⟨-, -, i0, i1, i2, i3, i4, i5, i6, i7, i8, i9, i11, i12, -, p10, -⟩ := HI.out
     exact hK.out _ _ ⟨qB x2, qB x3, qF i0, qF i1, qF i2, qF i3, qP, qF i5, qF i6, qF i7, qF i8, qF i9, qF i11, qF i12, hL.trans hL4, (fun h => by obtain ⟨hs, ho⟩ := p10 h; exact ⟨(by rw [put_ne (show 15 ≠ 9 by decide)]; exact hs), fun ht => by have ho := ho ht; exact (by rw [put_ne (show 15 ≠ 9 by decide)]; exact (owns_later ho hL4))⟩), Nat.le_trans hS hL4.size, (hL4.keep B0), (hL4.keep B1)⟩
   · refine qst fun g ac wc hn hk hr HI K' hK => ?_
     obtain ⟨x2, x3, i0, i1, i2, i3, i4, i5, i6, i7, i8, i9, i11, i12, hL, p10, hS, B0, B1⟩ := HI.out
     simp [Region.binds] at hr
     clear i0 i1 i2 i3 i4 i5 i6 i7 i8 i9 i11 i12 p10
     go_simp
     obtain ⟨-, -, i0, i1, i2, i3, i4, i5, i6, i7, i8, i9, i11, i12, -, p10, -⟩ := HI.out
     exact hK.out _ _ ⟨qB x2, qB x3, qF i0, qF i1, qF i2, qF i3, qF i4, qP, qF i6, qF i7, qF i8, qF i9, qF i11, qF i12, hL, (fun h => by obtain ⟨hs, ho⟩ := p10 h; exact ⟨(by rw [put_ne (show 15 ≠ 10 by decide)]; exact hs), fun ht => by have ho := ho ht; exact (by rw [put_ne (show 15 ≠ 10 by decide)]; exact ho)⟩), hS, B0, B1⟩
   · refine qst fun g ac wc hn hk hr HI K' hK => ?_
     obtain ⟨x2, x3, i0, i1, i2, i3, i4, i5, i6, i7, i8, i9, i11, i12, hL, p10, hS, B0, B1⟩ := HI.out
     simp [Region.binds] at hr
     have y5 := i5 (by simp [hr])
     clear i0 i1 i2 i3 i4 i5 i6 i7 i8 i9 i11 i12 p10
     obtain ⟨c0, f0, z0⟩ := blk_at B0
     go_simp
     obtain ⟨-, -, i0, i1, i2, i3, i4, i5, i6, i7, i8, i9, i11, i12, -, p10, -⟩ := HI.out
     exact hK.out _ _ ⟨qB x2, qB x3, qF i0, qF i1, qF i2, qF i3, qF i4, qF i5, qP, qF i7, qF i8, qF i9, qF i11, qF i12, hL, (fun h => by obtain ⟨hs, ho⟩ := p10 h; exact ⟨(by rw [put_ne (show 15 ≠ 11 by decide)]; exact hs), fun ht => by have ho := ho ht; exact (by rw [put_ne (show 15 ≠ 11 by decide)]; exact ho)⟩), hS, B0, B1⟩
   · refine qst fun g ac wc hn hk hr HI K' hK => ?_
     obtain ⟨x2, x3, i0, i1, i2, i3, i4, i5, i6, i7, i8, i9, i11, i12, hL, p10, hS, B0, B1⟩ := HI.out
     simp [Region.binds] at hr
     clear i0 i1 i2 i3 i4 i5 i6 i7 i8 i9 i11 i12 p10
     go_simp
     obtain ⟨-, -, i0, i1, i2, i3, i4, i5, i6, i7, i8, i9, i11, i12, -, p10, -⟩ := HI.out
     exact hK.out _ _ ⟨qB x2, qB x3, qF i0, qF i1, qF i2, qF i3, qF i4, qF i5, qF i6, qP, qF i8, qF i9, qF i11, qF i12, hL, (fun h => by obtain ⟨hs, ho⟩ := p10 h; exact ⟨(by rw [put_ne (show 15 ≠ 12 by decide)]; exact hs), fun ht => by have ho := ho ht; exact (by rw [put_ne (show 15 ≠ 12 by decide)]; exact ho)⟩), hS, B0, B1⟩
   · refine qst fun g ac wc hn hk hr HI K' hK => ?_
     obtain ⟨x2, x3, i0, i1, i2, i3, i4, i5, i6, i7, i8, i9, i11, i12, hL, p10, hS, B0, B1⟩ := HI.out
     simp [Region.binds] at hr
     have y7 := i7 (by simp [hr])
     clear i0 i1 i2 i3 i4 i5 i6 i7 i8 i9 i11 i12 p10
     obtain ⟨c0, f0, z0⟩ := blk_at B1
     go_simp
     obtain ⟨-, -, i0, i1, i2, i3, i4, i5, i6, i7, i8, i9, i11, i12, -, p10, -⟩ := HI.out
     exact hK.out _ _ ⟨qB x2, qB x3, qF i0, qF i1, qF i2, qF i3, qF i4, qF i5, qF i6, qF i7, qP, qF i9, qF i11, qF i12, hL, (fun h => by obtain ⟨hs, ho⟩ := p10 h; exact ⟨(by rw [put_ne (show 15 ≠ 13 by decide)]; exact hs), fun ht => by have ho := ho ht; exact (by rw [put_ne (show 15 ≠ 13 by decide)]; exact ho)⟩), hS, B0, B1⟩
   · refine qst fun g ac wc hn hk hr HI K' hK => ?_
     obtain ⟨x2, x3, i0, i1, i2, i3, i4, i5, i6, i7, i8, i9, i11, i12, hL, p10, hS, B0, B1⟩ := HI.out
     simp [Region.binds] at hr
     have y6 := i6 (by simp [hr])
     have y8 := i8 (by simp [hr])
     clear i0 i1 i2 i3 i4 i5 i6 i7 i8 i9 i11 i12 p10
     go_simp
     refine (w_compareL _ _ _).mono ?_
     rintro e w4 ⟨rfl, hL4⟩
     obtain ⟨-, -, i0, i1, i2, i3, i4, i5, i6, i7, i8, i9, i11, i12, -, p10, -⟩ := HI.out
     exact hK.out _ _ ⟨qB x2, qB x3, qF i0, qF i1, qF i2, qF i3, qF i4, qF i5, qF i6, qF i7, qF i8, qP, qF i11, qF i12, hL.trans hL4, (fun h => by obtain ⟨hs, ho⟩ := p10 h; exact ⟨(by rw [put_ne (show 15 ≠ 14 by decide)]; exact hs), fun ht => by have ho := ho ht; exact (by rw [put_ne (show 15 ≠ 14 by decide)]; exact (owns_later ho hL4))⟩), Nat.le_trans hS hL4.size, (hL4.keep B0), (hL4.keep B1)⟩
   · refine qst fun g ac wc hn hk hr HI K' hK => ?_
     obtain ⟨x2, x3, i0, i1, i2, i3, i4, i5, i6, i7, i8, i9, i11, i12, hL, p10, hS, B0, B1⟩ := HI.out
     simp [Region.binds] at hr
     have y4 := i4 (by simp [hr])
     have y9 := i9 (by simp [hr])
     have z4 := sl_get y4 (by omega)
     have z9 := sl_get y9 (by omega)
     clear i0 i1 i2 i3 i4 i5 i6 i7 i8 i9 i11 i12 p10
     go_simp
     have hL4 := (Later.refl wc).alloc (.cells #[.int .i64 (cmpI b d), .int .i64 (cmpI a c)] 3)
     obtain ⟨-, -, i0, i1, i2, i3, i4, i5, i6, i7, i8, i9, i11, i12, -, p10, -⟩ := HI.out
     exact hK.out _ _ ⟨qB x2, qB x3, qF i0, qF i1, qF i2, qF i3, qF i4, qF i5, qF i6, qF i7, qF i8, qF i9, qF i11, qF i12, hL.alloc _, (fun _ => ⟨⟨wc.heap.size, put_eq (by omega)⟩, fun _ => by rw [put_eq (by omega)]; exact World.ownsRow_lit wc #[.int .i64 (cmpI b d), .int .i64 (cmpI a c)] 2 hS (by decide) (by simp)⟩), (by simp; omega), (hL4.keep B0), (hL4.keep B1)⟩
   · refine qst fun g ac wc hn hk hr HI K' hK => ?_
     obtain ⟨x2, x3, i0, i1, i2, i3, i4, i5, i6, i7, i8, i9, i11, i12, hL, p10, hS, B0, B1⟩ := HI.out
     simp [Region.binds] at hr
     obtain ⟨⟨kk10, y10⟩, ho10⟩ := p10 (by simp [hr])
     have ho10 := ho10 hk
     rw [y10] at ho10
     have z10 := sl_get y10 (by omega)
     clear i0 i1 i2 i3 i4 i5 i6 i7 i8 i9 i11 i12 p10
     go_simp
     refine (w_cmpOr _ _ _ _ (isNums_of (reads_of_owns ho10 (by omega)) rfl)).mono ?_
     rintro e w4 ⟨rfl, hL4⟩
     obtain ⟨-, -, i0, i1, i2, i3, i4, i5, i6, i7, i8, i9, i11, i12, -, p10, -⟩ := HI.out
     exact hK.out _ _ ⟨qB x2, qB x3, qF i0, qF i1, qF i2, qF i3, qF i4, qF i5, qF i6, qF i7, qF i8, qF i9, qP, qF i12, hL.trans hL4, (fun h => by obtain ⟨hs, ho⟩ := p10 h; exact ⟨(by rw [put_ne (show 15 ≠ 16 by decide)]; exact hs), fun h => absurd h (by simp)⟩), Nat.le_trans hS hL4.size, (hL4.keep B0), (hL4.keep B1)⟩
   · refine qst fun g ac wc hn hk hr HI K' hK => ?_
     obtain ⟨x2, x3, i0, i1, i2, i3, i4, i5, i6, i7, i8, i9, i11, i12, hL, p10, hS, B0, B1⟩ := HI.out
     simp [Region.binds] at hr
     have y11 := i11 (by simp [hr])
     clear i0 i1 i2 i3 i4 i5 i6 i7 i8 i9 i11 i12 p10
     go_simp
     obtain ⟨-, -, i0, i1, i2, i3, i4, i5, i6, i7, i8, i9, i11, i12, -, p10, -⟩ := HI.out
     exact hK.out _ _ ⟨qB x2, qB x3, qF i0, qF i1, qF i2, qF i3, qF i4, qF i5, qF i6, qF i7, qF i8, qF i9, qF i11, qP, hL, (fun h => by obtain ⟨hs, ho⟩ := p10 h; exact ⟨(by rw [put_ne (show 15 ≠ 4 by decide)]; exact hs), fun ht => by have ho := ho ht; exact (by rw [put_ne (show 15 ≠ 4 by decide)]; exact ho)⟩), hS, B0, B1⟩
end Go.Proofs.YtgngbdacejghcaaGreatDoor
