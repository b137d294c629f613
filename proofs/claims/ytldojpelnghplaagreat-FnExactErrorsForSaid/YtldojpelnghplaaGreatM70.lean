/- DERIVED. Walks: figures that are compared, and relative errors. -/
import Derived.Test.YtldojpelnghplaaGreatP11
import Derived.Test.YtldojpelnghplaaGreatM22
import Derived.Test.YtldojpelnghplaaGreatM12
import Derived.Test.YtldojpelnghplaaGreatM35
namespace Go.Proofs.YtldojpelnghplaaGreat
set_option linter.unusedVariables false
set_option linter.unusedSimpArgs false
open Go.RowKit
set_option maxRecDepth 100000

theorem wrap_big {n : Int} (h1 : -4000000000000000000 ≤ n) (h2 : n ≤ 4000000000000000000) : IntKind.i64.wrap n = n := by
  simp only [IntKind.wrap, IntKind.bits, IntKind.signed]
  simp
  omega
def cmpI (a b : Int) : Int := if a < b then -1 else if b < a then 1 else 0
theorem cmpI_lt {a b : Int} (h : a < b) : cmpI a b = -1 := by unfold cmpI; rw [if_pos h]
theorem cmpI_gt {a b : Int} (h : b < a) : cmpI a b = 1 := by unfold cmpI; rw [if_neg (by omega), if_pos h]
theorem cmpI_eq {a b : Int} (h : a = b) : cmpI a b = 0 := by unfold cmpI; rw [if_neg (by omega), if_neg (by omega)]
def or2 (x y : Int) : Int := if x = 0 then y else x
theorem cmpF_or {a b : Fig} (ha : isFig a = true) (hb : isFig b = true) : or2 (cmpI a.t b.t) (cmpI a.d b.d) = cmpF a b := by
  unfold or2
  have h1 := isFig_bd ha
  have h2 := isFig_bd hb
  have e1 : keyF a = 10000 * a.t + a.d := rfl
  have e2 : keyF b = 10000 * b.t + b.d := rfl
  unfold cmpF
  rcases Int.lt_trichotomy a.t b.t with h | h | h
  · rw [cmpI_lt h, if_neg (by omega), if_pos (by omega)]
  · rw [cmpI_eq h, if_pos rfl]
    rcases Int.lt_trichotomy a.d b.d with k | k | k
    · rw [cmpI_lt k, if_pos (by omega)]
    · rw [cmpI_eq k, if_neg (by omega), if_neg (by omega)]
    · rw [cmpI_gt k, if_neg (by omega), if_pos (by omega)]
  · rw [cmpI_gt h, if_neg (by omega), if_neg (by omega), if_pos (by omega)]

theorem w_isNaN (a : Int) (w : World) :
    Calls Tryz.prog 105 #[.int .i64 a] w fun e w' => e = .returned (.bool false) ∧ w = w' := by
  go_enter Tryz.func105, Tryz.ntmps105
  go_wp2
  go_ret
  exact ⟨by simp, rfl⟩

theorem w_compare (a b : Int) (w : World) :
    Calls Tryz.prog 71 #[.int .i64 a, .int .i64 b] w fun e w' => e = .returned (.int .i64 (cmpI a b)) ∧ w = w' := by
  rcases Int.lt_trichotomy a b with h | h | h
  · have HF := Lib.hid (cmpI_lt h)
    go_enter Tryz.func71, Tryz.ntmps71
    go_wp2_with (go_at_call 105; refine (w_isNaN _ _).mono ?_; rintro e w' ⟨rfl, rfl⟩)
    all_goals (go_ret; exact ⟨by rw [HF.out]; rfl, rfl⟩)
  · have HF := Lib.hid (cmpI_eq h)
    go_enter Tryz.func71, Tryz.ntmps71
    go_wp2_with (go_at_call 105; refine (w_isNaN _ _).mono ?_; rintro e w' ⟨rfl, rfl⟩)
    all_goals (go_ret; exact ⟨by rw [HF.out]; rfl, rfl⟩)
  · have HF := Lib.hid (cmpI_gt h)
    have hn : ¬ a < b := by omega
    go_enter Tryz.func71, Tryz.ntmps71
    go_wp2_with (go_at_call 105; refine (w_isNaN _ _).mono ?_; rintro e w' ⟨rfl, rfl⟩)
    all_goals (go_ret; exact ⟨by rw [HF.out]; rfl, rfl⟩)

theorem w_compareL (a b : Int) (w : World) :
    Calls Tryz.prog 71 #[.int .i64 a, .int .i64 b] w fun e w' => e = .returned (.int .i64 (cmpI a b)) ∧ Later w w' :=
  (w_compare a b w).mono (by rintro e w' ⟨h, rfl⟩; exact ⟨h, Later.refl _⟩)

theorem w_cmpOr (v : Value) (x y : Int) (w : World) (h : IsNums w v [x, y]) :
    Calls Tryz.prog 70 #[v] w fun e w' => e = .returned (.int .i64 (or2 x y)) ∧ Later w w' := by
  obtain ⟨l, hl⟩ : ∃ l, l = [x, y] := ⟨_, rfl⟩
  rw [← hl] at h
  have hlen : l.length = 2 := by rw [hl]; rfl
  have HX := Lib.hid (show l[0]? = some x by rw [hl]; rfl)
  have HY := Lib.hid (show l[1]? = some y by rw [hl]; rfl)
  obtain ⟨hxl1, hn1, a1, cap1, rfl, hcap1, hmax1, hrow1⟩ := h
  have HR1 := Lib.hid hrow1
  clear hrow1 hxl1
  go_enter Tryz.func70, Tryz.ntmps70
  go_wp2
  go_loop [8] (fun i => ∃ k : Nat, k ≤ l.length ∧ i = .int .i64 k ∧ Hid ((1 ≤ k → x = 0) ∧ (2 ≤ k → y = 0))) (fun i => l.length - (intOf i).toNat)
  case atStart => exact ⟨0, Nat.zero_le _, rfl, by simp [Hid]⟩
  case round =>
    obtain ⟨k, hk, rfl, HE⟩ := hrel
    have hL := Later.refl w
    by_cases hlt : k < l.length
    · obtain ⟨b1, off1, rfl, hr1⟩ := HR1.out (by omega)
      obtain ⟨t1, ht1⟩ := get_ex (l := l) (k := k) (by omega)
      have HT1 := Lib.hid ht1
      have c1_0 := (hr1.later hL).num ht1
      clear ht1
      by_cases hq : t1 = 0
      · have hn : Hid ((1 ≤ k + 1 → x = 0) ∧ (2 ≤ k + 1 → y = 0)) := by
          rcases (show k = 0 ∨ k = 1 by omega) with rfl | rfl
          · have e := HX.out.symm.trans HT1.out
            simp only [Option.some.injEq] at e
            exact ⟨fun _ => by omega, fun _ => by omega⟩
          · have e := HY.out.symm.trans HT1.out
            simp only [Option.some.injEq] at e
            exact ⟨fun _ => HE.out.1 (by omega), fun _ => by omega⟩
        go_wp2
        go_round
        case rel => exact ⟨k + 1, by omega, by go_num, hn⟩
        case measure => simp [intOf]; omega
      · have hf : or2 x y = t1 := by
          unfold or2
          rcases (show k = 0 ∨ k = 1 by omega) with rfl | rfl
          · have e := HX.out.symm.trans HT1.out
            simp only [Option.some.injEq] at e
            rw [if_neg (by omega), e]
          · have e := HY.out.symm.trans HT1.out
            simp only [Option.some.injEq] at e
            rw [if_pos (HE.out.1 (by omega)), e]
        have HF := Lib.hid hf
        clear hf
        go_wp2
        go_ret
        exact ⟨by rw [HF.out]; rfl, by (repeat (with_reducible first | exact Later.refl _ | refine Later.alloc ?_ _ | refine Later.drew ?_ | refine Later.drewN ?_ _ | refine Later.setCell ?_ (by simp; try omega) _ | refine Later.trans ?_ (by assumption)))⟩
    · have hf : or2 x y = 0 := by
        unfold or2
        rw [if_pos (HE.out.1 (by omega)), HE.out.2 (by omega)]
      have HF := Lib.hid hf
      clear hf
      go_wp2
      go_ret
      exact ⟨by rw [HF.out]; rfl, by (repeat (with_reducible first | exact Later.refl _ | refine Later.alloc ?_ _ | refine Later.drew ?_ | refine Later.drewN ?_ _ | refine Later.setCell ?_ (by simp; try omega) _ | refine Later.trans ?_ (by assumption)))⟩

theorem w_compareFigures (a b c d : Int) (h : isFig ⟨a, b⟩ = true) (h' : isFig ⟨c, d⟩ = true) (w : World) :
    Calls Tryz.prog 47 #[.agg #[.int .i64 a, .int .i64 b], .agg #[.int .i64 c, .int .i64 d]] w fun e w' => e = .returned (.int .i64 (cmpF ⟨a, b⟩ ⟨c, d⟩)) ∧ Later w w' := by
  have HF := Lib.hid (cmpF_or h h').symm
  clear h h'
  go_enter Tryz.func47, Tryz.ntmps47
  go_wp2_with fail
  refine wp_name ?_
  intro z hz
  have hL0 : Later w z := by rw [hz]; exact ((Later.refl _).alloc _).alloc _
  have hSB := hL0.size
  have K0 : z.heap[w.heap.size]? = some (.cells #[.int .i64 a, .int .i64 b] 46 (0, 0)) := by rw [hz]; exact heap_alloc_old _ _ (heap_alloc_new _ _)
  have K1 : z.heap[w.heap.size + 1]? = some (.cells #[.int .i64 c, .int .i64 d] 46 (0, 0)) := by rw [hz]; exact heap_alloc_new' _ _ (by simp)
  have lt1 := (Array.getElem?_eq_some_iff.1 K1).1
  clear hz
  refine region_slots 17 [5, 6, 7, 8, 9, 10, 11, 12, 13, 14, 15, 16, 4] (fun g ac wc => sl ac 2 = .pointer (some ⟨w.heap.size, 0, none⟩) ∧
    sl ac 3 = .pointer (some ⟨w.heap.size + 1, 0, none⟩) ∧
    (g 0 = true → sl ac 5 = .pointer (some ⟨w.heap.size, 1, none⟩)) ∧
    (g 1 = true → sl ac 6 = .int .i64 b) ∧
    (g 2 = true → sl ac 7 = .pointer (some ⟨w.heap.size + 1, 1, none⟩)) ∧
    (g 3 = true → sl ac 8 = .int .i64 d) ∧
    (g 4 = true → sl ac 9 = .int .i64 (cmpI b d)) ∧
    (g 5 = true → sl ac 10 = .pointer (some ⟨w.heap.size, 0, none⟩)) ∧
    (g 6 = true → sl ac 11 = .int .i64 a) ∧
    (g 7 = true → sl ac 12 = .pointer (some ⟨w.heap.size + 1, 0, none⟩)) ∧
    (g 8 = true → sl ac 13 = .int .i64 c) ∧
    (g 9 = true → sl ac 14 = .int .i64 (cmpI a c)) ∧
    (g 11 = true → sl ac 16 = .int .i64 (or2 (cmpI b d) (cmpI a c))) ∧
    (g 12 = true → sl ac 4 = .int .i64 (or2 (cmpI b d) (cmpI a c))) ∧
    Later w wc ∧
    (g 10 = true → (∃ k, sl ac 15 = .slice (some ⟨k, 0, none⟩) 2 2) ∧ (g 11 = false → wc.ownsRow z.heap.size 3 1 (sl ac 15) (2) (nums [(cmpI b d), (cmpI a c)]))) ∧
    z.heap.size ≤ wc.heap.size ∧
    wc.heap[w.heap.size]? = some (.cells #[.int .i64 a, .int .i64 b] 46 (0, 0)) ∧
    wc.heap[w.heap.size + 1]? = some (.cells #[.int .i64 c, .int .i64 d] 46 (0, 0))) (by kernel_rfl) (by kernel_rfl) rfl (by kernel_rfl) ?_ ?_ ?_
  · exact ⟨rfl, rfl, nofun, nofun, nofun, nofun, nofun, nofun, nofun, nofun, nofun, nofun, nofun, nofun, hL0.drew, nofun, Nat.le_refl _, K0, K1⟩
  · intro g ac wu hg ha hI
    obtain ⟨x2, x3, i0, i1, i2, i3, i4, i5, i6, i7, i8, i9, i11, i12, hL, p10, hS, B0, B1⟩ := hI
    obtain ⟨⟨kr10, e10⟩, -⟩ := p10 (hg 10 (by simp))
    have a0 := i0 (hg 0 (by simp))
    have a1 := i1 (hg 1 (by simp))
    have a2 := i2 (hg 2 (by simp))
    have a3 := i3 (hg 3 (by simp))
    have a4 := i4 (hg 4 (by simp))
    have a5 := i5 (hg 5 (by simp))
    have a6 := i6 (hg 6 (by simp))
    have a7 := i7 (hg 7 (by simp))
    have a8 := i8 (hg 8 (by simp))
    have a9 := i9 (hg 9 (by simp))
    have a11 := i11 (hg 11 (by simp))
    have a12 := i12 (hg 12 (by simp))
    simp only [putAll, e10, a0, a1, a2, a3, a4, a5, a6, a7, a8, a9, a11, a12] at ha
    simp only [Act.put, List.setIfInBounds_toArray, List.set_cons_succ, List.set_cons_zero] at ha
    rw [ha]
    clear x2 x3 i0 i1 i2 i3 i4 i5 i6 i7 i8 i9 i11 i12 a0 a1 a2 a3 a4 a5 a6 a7 a8 a9 a11 a12 p10 e10 hg ha
    go_wp2
    go_ret
    exact ⟨by rw [HF.out]; rfl, hL⟩
  · refine .cons ?_ (.cons ?_ (.cons ?_ (.cons ?_ (.cons ?_ (.cons ?_ (.cons ?_ (.cons ?_ (.cons ?_ (.cons ?_ (.cons ?_ (.cons ?_ (.cons ?_ .nil))))))))))))
    · unfold SlotStep
      intro g ac wc hn hk hr hI K' hK
      obtain ⟨x2, x3, i0, i1, i2, i3, i4, i5, i6, i7, i8, i9, i11, i12, hL, p10, hS, B0, B1⟩ := hI
      simp only [Region.binds] at hr
      simp at hr
      replace hK := Lib.hid hK
      replace i0 := Lib.hid i0
      replace i1 := Lib.hid i1
      replace i2 := Lib.hid i2
      replace i3 := Lib.hid i3
      replace i4 := Lib.hid i4
      replace i5 := Lib.hid i5
      replace i6 := Lib.hid i6
      replace i7 := Lib.hid i7
      replace i8 := Lib.hid i8
      replace i9 := Lib.hid i9
      replace i11 := Lib.hid i11
      replace i12 := Lib.hid i12
      replace p10 := Lib.hid p10
      go_simp
      exact hK.out _ _ ⟨(keepB x2 (by decide)), (keepB x3 (by decide)), (fun _ => put_eq (by omega)), (keepF i1.out (by decide)), (keepF i2.out (by decide)), (keepF i3.out (by decide)), (keepF i4.out (by decide)), (keepF i5.out (by decide)), (keepF i6.out (by decide)), (keepF i7.out (by decide)), (keepF i8.out (by decide)), (keepF i9.out (by decide)), (keepF i11.out (by decide)), (keepF i12.out (by decide)), hL, (fun h => by obtain ⟨hs, ho⟩ := p10.out h; exact ⟨(by rw [put_ne (show 15 ≠ 5 by decide)]; exact hs), fun ht => by have ho := ho ht; exact (by rw [put_ne (show 15 ≠ 5 by decide)]; exact ho)⟩), hS, B0, B1⟩
    · unfold SlotStep
      intro g ac wc hn hk hr hI K' hK
      obtain ⟨x2, x3, i0, i1, i2, i3, i4, i5, i6, i7, i8, i9, i11, i12, hL, p10, hS, B0, B1⟩ := hI
      simp only [Region.binds] at hr
      simp at hr
      replace hK := Lib.hid hK
      have y0 := i0 (by first | exact hr | exact hr.1 | exact hr.2 | exact hr.2.1 | exact hr.2.2 | exact hr.2.2.1 | exact hr.2.2.2 | simp [hr])
      replace i0 := Lib.hid i0
      replace i1 := Lib.hid i1
      replace i2 := Lib.hid i2
      replace i3 := Lib.hid i3
      replace i4 := Lib.hid i4
      replace i5 := Lib.hid i5
      replace i6 := Lib.hid i6
      replace i7 := Lib.hid i7
      replace i8 := Lib.hid i8
      replace i9 := Lib.hid i9
      replace i11 := Lib.hid i11
      replace i12 := Lib.hid i12
      replace p10 := Lib.hid p10
      have hbb := blk_at B0
      have c0 := hbb.1
      have f0 := hbb.2.1
      have z0 := hbb.2.2
      clear hbb
      go_simp
      exact hK.out _ _ ⟨(keepB x2 (by decide)), (keepB x3 (by decide)), (keepF i0.out (by decide)), (fun _ => put_eq (by omega)), (keepF i2.out (by decide)), (keepF i3.out (by decide)), (keepF i4.out (by decide)), (keepF i5.out (by decide)), (keepF i6.out (by decide)), (keepF i7.out (by decide)), (keepF i8.out (by decide)), (keepF i9.out (by decide)), (keepF i11.out (by decide)), (keepF i12.out (by decide)), hL, (fun h => by obtain ⟨hs, ho⟩ := p10.out h; exact ⟨(by rw [put_ne (show 15 ≠ 6 by decide)]; exact hs), fun ht => by have ho := ho ht; exact (by rw [put_ne (show 15 ≠ 6 by decide)]; exact ho)⟩), hS, B0, B1⟩
    · unfold SlotStep
      intro g ac wc hn hk hr hI K' hK
      obtain ⟨x2, x3, i0, i1, i2, i3, i4, i5, i6, i7, i8, i9, i11, i12, hL, p10, hS, B0, B1⟩ := hI
      simp only [Region.binds] at hr
      simp at hr
      replace hK := Lib.hid hK
      replace i0 := Lib.hid i0
      replace i1 := Lib.hid i1
      replace i2 := Lib.hid i2
      replace i3 := Lib.hid i3
      replace i4 := Lib.hid i4
      replace i5 := Lib.hid i5
      replace i6 := Lib.hid i6
      replace i7 := Lib.hid i7
      replace i8 := Lib.hid i8
      replace i9 := Lib.hid i9
      replace i11 := Lib.hid i11
      replace i12 := Lib.hid i12
      replace p10 := Lib.hid p10
      go_simp
      exact hK.out _ _ ⟨(keepB x2 (by decide)), (keepB x3 (by decide)), (keepF i0.out (by decide)), (keepF i1.out (by decide)), (fun _ => put_eq (by omega)), (keepF i3.out (by decide)), (keepF i4.out (by decide)), (keepF i5.out (by decide)), (keepF i6.out (by decide)), (keepF i7.out (by decide)), (keepF i8.out (by decide)), (keepF i9.out (by decide)), (keepF i11.out (by decide)), (keepF i12.out (by decide)), hL, (fun h => by obtain ⟨hs, ho⟩ := p10.out h; exact ⟨(by rw [put_ne (show 15 ≠ 7 by decide)]; exact hs), fun ht => by have ho := ho ht; exact (by rw [put_ne (show 15 ≠ 7 by decide)]; exact ho)⟩), hS, B0, B1⟩
    · unfold SlotStep
      intro g ac wc hn hk hr hI K' hK
      obtain ⟨x2, x3, i0, i1, i2, i3, i4, i5, i6, i7, i8, i9, i11, i12, hL, p10, hS, B0, B1⟩ := hI
      simp only [Region.binds] at hr
      simp at hr
      replace hK := Lib.hid hK
      have y2 := i2 (by first | exact hr | exact hr.1 | exact hr.2 | exact hr.2.1 | exact hr.2.2 | exact hr.2.2.1 | exact hr.2.2.2 | simp [hr])
      replace i0 := Lib.hid i0
      replace i1 := Lib.hid i1
      replace i2 := Lib.hid i2
      replace i3 := Lib.hid i3
      replace i4 := Lib.hid i4
      replace i5 := Lib.hid i5
      replace i6 := Lib.hid i6
      replace i7 := Lib.hid i7
      replace i8 := Lib.hid i8
      replace i9 := Lib.hid i9
      replace i11 := Lib.hid i11
      replace i12 := Lib.hid i12
      replace p10 := Lib.hid p10
      have hbb := blk_at B1
      have c0 := hbb.1
      have f0 := hbb.2.1
      have z0 := hbb.2.2
      clear hbb
      go_simp
      exact hK.out _ _ ⟨(keepB x2 (by decide)), (keepB x3 (by decide)), (keepF i0.out (by decide)), (keepF i1.out (by decide)), (keepF i2.out (by decide)), (fun _ => put_eq (by omega)), (keepF i4.out (by decide)), (keepF i5.out (by decide)), (keepF i6.out (by decide)), (keepF i7.out (by decide)), (keepF i8.out (by decide)), (keepF i9.out (by decide)), (keepF i11.out (by decide)), (keepF i12.out (by decide)), hL, (fun h => by obtain ⟨hs, ho⟩ := p10.out h; exact ⟨(by rw [put_ne (show 15 ≠ 8 by decide)]; exact hs), fun ht => by have ho := ho ht; exact (by rw [put_ne (show 15 ≠ 8 by decide)]; exact ho)⟩), hS, B0, B1⟩
    · unfold SlotStep
      intro g ac wc hn hk hr hI K' hK
      obtain ⟨x2, x3, i0, i1, i2, i3, i4, i5, i6, i7, i8, i9, i11, i12, hL, p10, hS, B0, B1⟩ := hI
      simp only [Region.binds] at hr
      simp at hr
      replace hK := Lib.hid hK
      have y1 := i1 (by first | exact hr | exact hr.1 | exact hr.2 | exact hr.2.1 | exact hr.2.2 | exact hr.2.2.1 | exact hr.2.2.2 | simp [hr])
      have y3 := i3 (by first | exact hr | exact hr.1 | exact hr.2 | exact hr.2.1 | exact hr.2.2 | exact hr.2.2.1 | exact hr.2.2.2 | simp [hr])
      replace i0 := Lib.hid i0
      replace i1 := Lib.hid i1
      replace i2 := Lib.hid i2
      replace i3 := Lib.hid i3
      replace i4 := Lib.hid i4
      replace i5 := Lib.hid i5
      replace i6 := Lib.hid i6
      replace i7 := Lib.hid i7
      replace i8 := Lib.hid i8
      replace i9 := Lib.hid i9
      replace i11 := Lib.hid i11
      replace i12 := Lib.hid i12
      replace p10 := Lib.hid p10
      go_simp
      refine (w_compareL _ _ _).mono ?_
      rintro e w4 ⟨rfl, hL4⟩
      exact hK.out _ _ ⟨(keepB x2 (by decide)), (keepB x3 (by decide)), (keepF i0.out (by decide)), (keepF i1.out (by decide)), (keepF i2.out (by decide)), (keepF i3.out (by decide)), (fun _ => put_eq (by omega)), (keepF i5.out (by decide)), (keepF i6.out (by decide)), (keepF i7.out (by decide)), (keepF i8.out (by decide)), (keepF i9.out (by decide)), (keepF i11.out (by decide)), (keepF i12.out (by decide)), hL.trans hL4, (fun h => by obtain ⟨hs, ho⟩ := p10.out h; exact ⟨(by rw [put_ne (show 15 ≠ 9 by decide)]; exact hs), fun ht => by have ho := ho ht; exact (by rw [put_ne (show 15 ≠ 9 by decide)]; exact (owns_later ho hL4))⟩), Nat.le_trans hS hL4.size, (hL4.keep B0), (hL4.keep B1)⟩
    · unfold SlotStep
      intro g ac wc hn hk hr hI K' hK
      obtain ⟨x2, x3, i0, i1, i2, i3, i4, i5, i6, i7, i8, i9, i11, i12, hL, p10, hS, B0, B1⟩ := hI
      simp only [Region.binds] at hr
      simp at hr
      replace hK := Lib.hid hK
      replace i0 := Lib.hid i0
      replace i1 := Lib.hid i1
      replace i2 := Lib.hid i2
      replace i3 := Lib.hid i3
      replace i4 := Lib.hid i4
      replace i5 := Lib.hid i5
      replace i6 := Lib.hid i6
      replace i7 := Lib.hid i7
      replace i8 := Lib.hid i8
      replace i9 := Lib.hid i9
      replace i11 := Lib.hid i11
      replace i12 := Lib.hid i12
      replace p10 := Lib.hid p10
      go_simp
      exact hK.out _ _ ⟨(keepB x2 (by decide)), (keepB x3 (by decide)), (keepF i0.out (by decide)), (keepF i1.out (by decide)), (keepF i2.out (by decide)), (keepF i3.out (by decide)), (keepF i4.out (by decide)), (fun _ => put_eq (by omega)), (keepF i6.out (by decide)), (keepF i7.out (by decide)), (keepF i8.out (by decide)), (keepF i9.out (by decide)), (keepF i11.out (by decide)), (keepF i12.out (by decide)), hL, (fun h => by obtain ⟨hs, ho⟩ := p10.out h; exact ⟨(by rw [put_ne (show 15 ≠ 10 by decide)]; exact hs), fun ht => by have ho := ho ht; exact (by rw [put_ne (show 15 ≠ 10 by decide)]; exact ho)⟩), hS, B0, B1⟩
    · unfold SlotStep
      intro g ac wc hn hk hr hI K' hK
      obtain ⟨x2, x3, i0, i1, i2, i3, i4, i5, i6, i7, i8, i9, i11, i12, hL, p10, hS, B0, B1⟩ := hI
      simp only [Region.binds] at hr
      simp at hr
      replace hK := Lib.hid hK
      have y5 := i5 (by first | exact hr | exact hr.1 | exact hr.2 | exact hr.2.1 | exact hr.2.2 | exact hr.2.2.1 | exact hr.2.2.2 | simp [hr])
      replace i0 := Lib.hid i0
      replace i1 := Lib.hid i1
      replace i2 := Lib.hid i2
      replace i3 := Lib.hid i3
      replace i4 := Lib.hid i4
      replace i5 := Lib.hid i5
      replace i6 := Lib.hid i6
      replace i7 := Lib.hid i7
      replace i8 := Lib.hid i8
      replace i9 := Lib.hid i9
      replace i11 := Lib.hid i11
      replace i12 := Lib.hid i12
      replace p10 := Lib.hid p10
      have hbb := blk_at B0
      have c0 := hbb.1
      have f0 := hbb.2.1
      have z0 := hbb.2.2
      clear hbb
      go_simp
      exact hK.out _ _ ⟨(keepB x2 (by decide)), (keepB x3 (by decide)), (keepF i0.out (by decide)), (keepF i1.out (by decide)), (keepF i2.out (by decide)), (keepF i3.out (by decide)), (keepF i4.out (by decide)), (keepF i5.out (by decide)), (fun _ => put_eq (by omega)), (keepF i7.out (by decide)), (keepF i8.out (by decide)), (keepF i9.out (by decide)), (keepF i11.out (by decide)), (keepF i12.out (by decide)), hL, (fun h => by obtain ⟨hs, ho⟩ := p10.out h; exact ⟨(by rw [put_ne (show 15 ≠ 11 by decide)]; exact hs), fun ht => by have ho := ho ht; exact (by rw [put_ne (show 15 ≠ 11 by decide)]; exact ho)⟩), hS, B0, B1⟩
    · unfold SlotStep
      intro g ac wc hn hk hr hI K' hK
      obtain ⟨x2, x3, i0, i1, i2, i3, i4, i5, i6, i7, i8, i9, i11, i12, hL, p10, hS, B0, B1⟩ := hI
      simp only [Region.binds] at hr
      simp at hr
      replace hK := Lib.hid hK
      replace i0 := Lib.hid i0
      replace i1 := Lib.hid i1
      replace i2 := Lib.hid i2
      replace i3 := Lib.hid i3
      replace i4 := Lib.hid i4
      replace i5 := Lib.hid i5
      replace i6 := Lib.hid i6
      replace i7 := Lib.hid i7
      replace i8 := Lib.hid i8
      replace i9 := Lib.hid i9
      replace i11 := Lib.hid i11
      replace i12 := Lib.hid i12
      replace p10 := Lib.hid p10
      go_simp
      exact hK.out _ _ ⟨(keepB x2 (by decide)), (keepB x3 (by decide)), (keepF i0.out (by decide)), (keepF i1.out (by decide)), (keepF i2.out (by decide)), (keepF i3.out (by decide)), (keepF i4.out (by decide)), (keepF i5.out (by decide)), (keepF i6.out (by decide)), (fun _ => put_eq (by omega)), (keepF i8.out (by decide)), (keepF i9.out (by decide)), (keepF i11.out (by decide)), (keepF i12.out (by decide)), hL, (fun h => by obtain ⟨hs, ho⟩ := p10.out h; exact ⟨(by rw [put_ne (show 15 ≠ 12 by decide)]; exact hs), fun ht => by have ho := ho ht; exact (by rw [put_ne (show 15 ≠ 12 by decide)]; exact ho)⟩), hS, B0, B1⟩
    · unfold SlotStep
      intro g ac wc hn hk hr hI K' hK
      obtain ⟨x2, x3, i0, i1, i2, i3, i4, i5, i6, i7, i8, i9, i11, i12, hL, p10, hS, B0, B1⟩ := hI
      simp only [Region.binds] at hr
      simp at hr
      replace hK := Lib.hid hK
      have y7 := i7 (by first | exact hr | exact hr.1 | exact hr.2 | exact hr.2.1 | exact hr.2.2 | exact hr.2.2.1 | exact hr.2.2.2 | simp [hr])
      replace i0 := Lib.hid i0
      replace i1 := Lib.hid i1
      replace i2 := Lib.hid i2
      replace i3 := Lib.hid i3
      replace i4 := Lib.hid i4
      replace i5 := Lib.hid i5
      replace i6 := Lib.hid i6
      replace i7 := Lib.hid i7
      replace i8 := Lib.hid i8
      replace i9 := Lib.hid i9
      replace i11 := Lib.hid i11
      replace i12 := Lib.hid i12
      replace p10 := Lib.hid p10
      have hbb := blk_at B1
      have c0 := hbb.1
      have f0 := hbb.2.1
      have z0 := hbb.2.2
      clear hbb
      go_simp
      exact hK.out _ _ ⟨(keepB x2 (by decide)), (keepB x3 (by decide)), (keepF i0.out (by decide)), (keepF i1.out (by decide)), (keepF i2.out (by decide)), (keepF i3.out (by decide)), (keepF i4.out (by decide)), (keepF i5.out (by decide)), (keepF i6.out (by decide)), (keepF i7.out (by decide)), (fun _ => put_eq (by omega)), (keepF i9.out (by decide)), (keepF i11.out (by decide)), (keepF i12.out (by decide)), hL, (fun h => by obtain ⟨hs, ho⟩ := p10.out h; exact ⟨(by rw [put_ne (show 15 ≠ 13 by decide)]; exact hs), fun ht => by have ho := ho ht; exact (by rw [put_ne (show 15 ≠ 13 by decide)]; exact ho)⟩), hS, B0, B1⟩
    · unfold SlotStep
      intro g ac wc hn hk hr hI K' hK
      obtain ⟨x2, x3, i0, i1, i2, i3, i4, i5, i6, i7, i8, i9, i11, i12, hL, p10, hS, B0, B1⟩ := hI
      simp only [Region.binds] at hr
      simp at hr
      replace hK := Lib.hid hK
      have y6 := i6 (by first | exact hr | exact hr.1 | exact hr.2 | exact hr.2.1 | exact hr.2.2 | exact hr.2.2.1 | exact hr.2.2.2 | simp [hr])
      have y8 := i8 (by first | exact hr | exact hr.1 | exact hr.2 | exact hr.2.1 | exact hr.2.2 | exact hr.2.2.1 | exact hr.2.2.2 | simp [hr])
      replace i0 := Lib.hid i0
      replace i1 := Lib.hid i1
      replace i2 := Lib.hid i2
      replace i3 := Lib.hid i3
      replace i4 := Lib.hid i4
      replace i5 := Lib.hid i5
      replace i6 := Lib.hid i6
      replace i7 := Lib.hid i7
      replace i8 := Lib.hid i8
      replace i9 := Lib.hid i9
      replace i11 := Lib.hid i11
      replace i12 := Lib.hid i12
      replace p10 := Lib.hid p10
      go_simp
      refine (w_compareL _ _ _).mono ?_
      rintro e w4 ⟨rfl, hL4⟩
      exact hK.out _ _ ⟨(keepB x2 (by decide)), (keepB x3 (by decide)), (keepF i0.out (by decide)), (keepF i1.out (by decide)), (keepF i2.out (by decide)), (keepF i3.out (by decide)), (keepF i4.out (by decide)), (keepF i5.out (by decide)), (keepF i6.out (by decide)), (keepF i7.out (by decide)), (keepF i8.out (by decide)), (fun _ => put_eq (by omega)), (keepF i11.out (by decide)), (keepF i12.out (by decide)), hL.trans hL4, (fun h => by obtain ⟨hs, ho⟩ := p10.out h; exact ⟨(by rw [put_ne (show 15 ≠ 14 by decide)]; exact hs), fun ht => by have ho := ho ht; exact (by rw [put_ne (show 15 ≠ 14 by decide)]; exact (owns_later ho hL4))⟩), Nat.le_trans hS hL4.size, (hL4.keep B0), (hL4.keep B1)⟩
    · unfold SlotStep
      intro g ac wc hn hk hr hI K' hK
      obtain ⟨x2, x3, i0, i1, i2, i3, i4, i5, i6, i7, i8, i9, i11, i12, hL, p10, hS, B0, B1⟩ := hI
      simp only [Region.binds] at hr
      simp at hr
      replace hK := Lib.hid hK
      have y4 := i4 (by first | exact hr | exact hr.1 | exact hr.2 | exact hr.2.1 | exact hr.2.2 | exact hr.2.2.1 | exact hr.2.2.2 | simp [hr])
      have y9 := i9 (by first | exact hr | exact hr.1 | exact hr.2 | exact hr.2.1 | exact hr.2.2 | exact hr.2.2.1 | exact hr.2.2.2 | simp [hr])
      have z4 := sl_get y4 (by omega)
      have z9 := sl_get y9 (by omega)
      replace i0 := Lib.hid i0
      replace i1 := Lib.hid i1
      replace i2 := Lib.hid i2
      replace i3 := Lib.hid i3
      replace i4 := Lib.hid i4
      replace i5 := Lib.hid i5
      replace i6 := Lib.hid i6
      replace i7 := Lib.hid i7
      replace i8 := Lib.hid i8
      replace i9 := Lib.hid i9
      replace i11 := Lib.hid i11
      replace i12 := Lib.hid i12
      replace p10 := Lib.hid p10
      go_simp
      have hL4 := (Later.refl wc).alloc (.cells #[.int .i64 (cmpI b d), .int .i64 (cmpI a c)] 3)
      exact hK.out _ _ ⟨(keepB x2 (by decide)), (keepB x3 (by decide)), (keepF i0.out (by decide)), (keepF i1.out (by decide)), (keepF i2.out (by decide)), (keepF i3.out (by decide)), (keepF i4.out (by decide)), (keepF i5.out (by decide)), (keepF i6.out (by decide)), (keepF i7.out (by decide)), (keepF i8.out (by decide)), (keepF i9.out (by decide)), (keepF i11.out (by decide)), (keepF i12.out (by decide)), hL.alloc _, (fun _ => ⟨⟨wc.heap.size, put_eq (by omega)⟩, fun _ => by rw [put_eq (by omega)]; exact World.ownsRow_lit wc #[.int .i64 (cmpI b d), .int .i64 (cmpI a c)] 2 hS (by decide) (by simp)⟩), (by simp; omega), (hL4.keep B0), (hL4.keep B1)⟩
    · unfold SlotStep
      intro g ac wc hn hk hr hI K' hK
      obtain ⟨x2, x3, i0, i1, i2, i3, i4, i5, i6, i7, i8, i9, i11, i12, hL, p10, hS, B0, B1⟩ := hI
      simp only [Region.binds] at hr
      simp at hr
      replace hK := Lib.hid hK
      obtain ⟨⟨kk10, y10⟩, ho10⟩ := p10 (by first | exact hr | exact hr.1 | exact hr.2 | exact hr.2.1 | exact hr.2.2 | exact hr.2.2.1 | exact hr.2.2.2 | simp [hr])
      have ho10 := ho10 hk
      rw [y10] at ho10
      have z10 := sl_get y10 (by omega)
      replace i0 := Lib.hid i0
      replace i1 := Lib.hid i1
      replace i2 := Lib.hid i2
      replace i3 := Lib.hid i3
      replace i4 := Lib.hid i4
      replace i5 := Lib.hid i5
      replace i6 := Lib.hid i6
      replace i7 := Lib.hid i7
      replace i8 := Lib.hid i8
      replace i9 := Lib.hid i9
      replace i11 := Lib.hid i11
      replace i12 := Lib.hid i12
      replace p10 := Lib.hid p10
      go_simp
      refine (w_cmpOr _ _ _ _ (isNums_of (reads_of_owns ho10 (by omega)) rfl)).mono ?_
      rintro e w4 ⟨rfl, hL4⟩
      exact hK.out _ _ ⟨(keepB x2 (by decide)), (keepB x3 (by decide)), (keepF i0.out (by decide)), (keepF i1.out (by decide)), (keepF i2.out (by decide)), (keepF i3.out (by decide)), (keepF i4.out (by decide)), (keepF i5.out (by decide)), (keepF i6.out (by decide)), (keepF i7.out (by decide)), (keepF i8.out (by decide)), (keepF i9.out (by decide)), (fun _ => put_eq (by omega)), (keepF i12.out (by decide)), hL.trans hL4, (fun h => by obtain ⟨hs, ho⟩ := p10.out h; exact ⟨(by rw [put_ne (show 15 ≠ 16 by decide)]; exact hs), fun h => absurd h (by simp)⟩), Nat.le_trans hS hL4.size, (hL4.keep B0), (hL4.keep B1)⟩
    · unfold SlotStep
      intro g ac wc hn hk hr hI K' hK
      obtain ⟨x2, x3, i0, i1, i2, i3, i4, i5, i6, i7, i8, i9, i11, i12, hL, p10, hS, B0, B1⟩ := hI
      simp only [Region.binds] at hr
      simp at hr
      replace hK := Lib.hid hK
      have y11 := i11 (by first | exact hr | exact hr.1 | exact hr.2 | exact hr.2.1 | exact hr.2.2 | exact hr.2.2.1 | exact hr.2.2.2 | simp [hr])
      replace i0 := Lib.hid i0
      replace i1 := Lib.hid i1
      replace i2 := Lib.hid i2
      replace i3 := Lib.hid i3
      replace i4 := Lib.hid i4
      replace i5 := Lib.hid i5
      replace i6 := Lib.hid i6
      replace i7 := Lib.hid i7
      replace i8 := Lib.hid i8
      replace i9 := Lib.hid i9
      replace i11 := Lib.hid i11
      replace i12 := Lib.hid i12
      replace p10 := Lib.hid p10
      go_simp
      exact hK.out _ _ ⟨(keepB x2 (by decide)), (keepB x3 (by decide)), (keepF i0.out (by decide)), (keepF i1.out (by decide)), (keepF i2.out (by decide)), (keepF i3.out (by decide)), (keepF i4.out (by decide)), (keepF i5.out (by decide)), (keepF i6.out (by decide)), (keepF i7.out (by decide)), (keepF i8.out (by decide)), (keepF i9.out (by decide)), (keepF i11.out (by decide)), (fun _ => put_eq (by omega)), hL, (fun h => by obtain ⟨hs, ho⟩ := p10.out h; exact ⟨(by rw [put_ne (show 15 ≠ 4 by decide)]; exact hs), fun ht => by have ho := ho ht; exact (by rw [put_ne (show 15 ≠ 4 by decide)]; exact ho)⟩), hS, B0, B1⟩

theorem w_ten (n : Int) (h1 : 0 ≤ n) (h2 : n ≤ 7) (w : World) : Calls Tryz.prog 73 #[.int .i64 n] w fun e w' => e = .returned (.int .i64 (p10 n)) ∧ w = w' := by
  have := p10_bd h1 h2
  go_enter Tryz.func73, Tryz.ntmps73
  go_wp2
  go_loop [3, 5] (fun x i => ∃ k : Int, x = .int .i64 (p10 k) ∧ i = .int .i64 k ∧ 0 ≤ k ∧ k ≤ n) (fun _ i => n.toNat - (intOf i).toNat)
  case atStart => exact ⟨0, rfl, rfl, by omega, by omega⟩
  case round =>
    obtain ⟨k, rfl, rfl, k0, k1⟩ := hrel
    by_cases hk : k < n
    · have hs := p10_s k0
      have b1 := p10_bd k0 (show k ≤ 7 by omega)
      generalize p10 k = p at hs b1
      go_wp2
      go_round
      case rel => exact ⟨k + 1, by rw [hs], rfl, by omega, by omega⟩
      case measure => simp only [intOf]; omega
    · have e : k = n := by omega
      subst e
      go_wp2
      go_ret
      exact ⟨rfl, rfl⟩

theorem w_l01Ten (n : Int) (h1 : 0 ≤ n) (h2 : n ≤ 7) (w : World) : Calls Tryz.prog 147 #[.int .i64 n] w fun e w' => e = .returned (.int .i64 (p10 n)) ∧ w = w' := by
  have := p10_bd h1 h2
  go_enter Tryz.func147, Tryz.ntmps147
  go_wp2
  go_loop [0, 3] (fun i x => ∃ k : Int, x = .int .i64 (p10 k) ∧ i = .int .i64 (n - k) ∧ 0 ≤ k ∧ k ≤ n) (fun i _ => (intOf i).toNat)
  case atStart => exact ⟨0, rfl, by rw [Int.sub_zero], by omega, by omega⟩
  case round =>
    obtain ⟨k, rfl, rfl, k0, k1⟩ := hrel
    by_cases hk : k < n
    · have hs := p10_s k0
      have b1 := p10_bd k0 (show k ≤ 7 by omega)
      generalize p10 k = p at hs b1
      go_wp2
      go_round
      case rel => exact ⟨k + 1, by rw [hs, Int.mul_comm], by rw [show n - k - 1 = n - (k + 1) by omega], by omega, by omega⟩
      case measure => simp only [intOf]; omega
    · have e : k = n := by omega
      subst e
      go_wp2
      go_ret
      exact ⟨rfl, rfl⟩

theorem w_l02Compare (a b c d : Int) (h : isFig ⟨a, b⟩ = true) (h' : isFig ⟨c, d⟩ = true) (w : World) :
    Calls Tryz.prog 45 #[.agg #[.int .i64 a, .int .i64 b], .agg #[.int .i64 c, .int .i64 d]] w fun e w' => e = .returned (.int .i64 (cmpF ⟨a, b⟩ ⟨c, d⟩)) ∧ Later w w' := by
  have q := isFig_bd h
  have q' := isFig_bd h'
  simp only at q q'
  obtain ⟨q1, q2, q3, q4⟩ := q
  obtain ⟨r1, r2, r3, r4⟩ := q'
  have e1 : keyF ⟨a, b⟩ = 10000 * b + a := rfl
  have e2 : keyF ⟨c, d⟩ = 10000 * d + c := rfl
  rcases Int.lt_trichotomy (10000 * b + a) (10000 * d + c) with k | k | k
  · have HF := Lib.hid (show cmpF ⟨a, b⟩ ⟨c, d⟩ = -1 from by unfold cmpF; rw [if_pos (by omega)])
    clear h h'
    go_enter Tryz.func45, Tryz.ntmps45
    go_wp2
    go_quiet (fail)
    go_wp2
    go_ret
    exact ⟨by rw [HF.out]; rfl, by (repeat (with_reducible first | exact Later.refl _ | refine Later.alloc ?_ _ | refine Later.drew ?_ | refine Later.drewN ?_ _ | refine Later.setCell ?_ (by simp; try omega) _ | refine Later.trans ?_ (by assumption)))⟩
  · have HF := Lib.hid (show cmpF ⟨a, b⟩ ⟨c, d⟩ = 0 from by unfold cmpF; rw [if_neg (by omega), if_neg (by omega)])
    clear h h'
    go_enter Tryz.func45, Tryz.ntmps45
    go_wp2
    go_quiet (fail)
    go_wp2
    go_ret
    exact ⟨by rw [HF.out]; rfl, by (repeat (with_reducible first | exact Later.refl _ | refine Later.alloc ?_ _ | refine Later.drew ?_ | refine Later.drewN ?_ _ | refine Later.setCell ?_ (by simp; try omega) _ | refine Later.trans ?_ (by assumption)))⟩
  · have HF := Lib.hid (show cmpF ⟨a, b⟩ ⟨c, d⟩ = 1 from by unfold cmpF; rw [if_neg (by omega), if_pos (by omega)])
    clear h h'
    go_enter Tryz.func45, Tryz.ntmps45
    go_wp2
    go_quiet (fail)
    go_wp2
    go_ret
    exact ⟨by rw [HF.out]; rfl, by (repeat (with_reducible first | exact Later.refl _ | refine Later.alloc ?_ _ | refine Later.drew ?_ | refine Later.drewN ?_ _ | refine Later.setCell ?_ (by simp; try omega) _ | refine Later.trans ?_ (by assumption)))⟩

theorem w_relativeError (a b c d : Int) (h : isFig ⟨a, b⟩ = true) (h' : isFig ⟨c, d⟩ = true) (w : World) :
    Calls Tryz.prog 49 #[.agg #[.int .i64 a, .int .i64 b], .agg #[.int .i64 c, .int .i64 d]] w fun e w' => e = .returned (.tuple #[.int .i64 (relV ⟨a, b⟩ ⟨c, d⟩), .int .i64 (relC ⟨a, b⟩ ⟨c, d⟩)]) ∧ Later w w' := by
  have q := isFig_bd h
  have q' := isFig_bd h'
  simp only at q q'
  obtain ⟨q1, q2, q3, q4⟩ := q
  obtain ⟨r1, r2, r3, r4⟩ := q'
  by_cases k1 : 2 ≤ b - d
  · have HF := Lib.hid (show relV ⟨a, b⟩ ⟨c, d⟩ = 0 ∧ relC ⟨a, b⟩ ⟨c, d⟩ = 3 from by
      have e : relE ⟨a, b⟩ ⟨c, d⟩ = 9000001 := by unfold relE; rw [if_pos (by simp only; omega)]
      unfold relV relC
      rw [e]
      exact ⟨rfl, rfl⟩)
    clear h h'
    go_enter Tryz.func49, Tryz.ntmps49
    go_wp2
    go_ret2
    exact ⟨by rw [HF.out.1, HF.out.2]; rfl, by (repeat (with_reducible first | exact Later.refl _ | refine Later.alloc ?_ _ | refine Later.drew ?_ | refine Later.drewN ?_ _ | refine Later.setCell ?_ (by simp; try omega) _ | refine Later.trans ?_ (by assumption)))⟩
  by_cases k2 : b - d ≤ -8
  · have HF := Lib.hid (show relV ⟨a, b⟩ ⟨c, d⟩ = 1000000 ∧ relC ⟨a, b⟩ ⟨c, d⟩ = 0 from by
      have e : relE ⟨a, b⟩ ⟨c, d⟩ = 1000000 := by unfold relE; rw [if_neg (by simp only; omega), if_pos (by simp only; omega)]
      unfold relV relC
      rw [e]
      exact ⟨rfl, rfl⟩)
    clear h h'
    go_enter Tryz.func49, Tryz.ntmps49
    go_wp2
    go_ret2
    exact ⟨by rw [HF.out.1, HF.out.2]; rfl, by (repeat (with_reducible first | exact Later.refl _ | refine Later.alloc ?_ _ | refine Later.drew ?_ | refine Later.drewN ?_ _ | refine Later.setCell ?_ (by simp; try omega) _ | refine Later.trans ?_ (by assumption)))⟩
  have hE := relE_mid h h' k1 k2
  have hb := relQ_bd h h' k1 k2
  have hN := relN_bd (a := ⟨a, b⟩) (b := ⟨c, d⟩) h (by simp only; omega)
  have hD := relD_bd (a := ⟨a, b⟩) (b := ⟨c, d⟩) h' (by simp only; omega)
  obtain ⟨V, hV⟩ : ∃ x, relQ ⟨a, b⟩ ⟨c, d⟩ = x := ⟨_, rfl⟩
  obtain ⟨T, hT⟩ : ∃ x, b - d = x := ⟨_, rfl⟩
  have eN : relN ⟨a, b⟩ ⟨c, d⟩ = a * p10 (max 0 T) := by rw [← hT]; rfl
  have eD : relD ⟨a, b⟩ ⟨c, d⟩ = c * p10 (max 0 (-T)) := by rw [show -T = d - b by omega]; rfl
  obtain ⟨N, hNe⟩ : ∃ x, relN ⟨a, b⟩ ⟨c, d⟩ = x := ⟨_, rfl⟩
  obtain ⟨D, hDe⟩ : ∃ x, relD ⟨a, b⟩ ⟨c, d⟩ = x := ⟨_, rfl⟩
  have HQ := Lib.hid (show cdiv (1000000 * max (N - D) (D - N)) D = V from by rw [← hNe, ← hDe, ← hV]; rfl)
  have HF3 := Lib.hid (show V > 9000000 → relV ⟨a, b⟩ ⟨c, d⟩ = 0 ∧ relC ⟨a, b⟩ ⟨c, d⟩ = 3 from fun g => by
    unfold relV relC
    rw [hE, hV, if_pos g, if_pos g]
    exact ⟨rfl, rfl⟩)
  have HF0 := Lib.hid (show V ≤ 9000000 → relV ⟨a, b⟩ ⟨c, d⟩ = V ∧ relC ⟨a, b⟩ ⟨c, d⟩ = 0 from fun g => by
    unfold relV relC
    rw [hE, hV, if_neg (by omega), if_neg (by omega)]
    exact ⟨rfl, rfl⟩)
  rw [hV] at hb
  rw [hNe] at hN eN
  rw [hDe] at hD eD
  rw [hT] at k1 k2
  obtain ⟨b1, b2⟩ := hb
  obtain ⟨n1, n2⟩ := hN
  obtain ⟨d1, d2⟩ := hD
  clear hE hV hNe hDe h h'
  have HT := Lib.hid hT
  by_cases hs : 0 < T
  · have HN := Lib.hid (show a * p10 T = N from by rw [eN, show max 0 T = T by omega])
    have HD := Lib.hid (show c * p10 0 = D from by rw [eD, show max 0 (-T) = 0 by omega])
    have wD : IntKind.i64.wrap (b - d) = T := by rw [hT]; exact wrap_same (by omega) (by omega)
    clear eN eD hT
    go_enter Tryz.func49, Tryz.ntmps49
    go_wp2_with fail
    refine wp_name ?_
    intro z hz
    have hL0 : Later w z := by rw [hz]; exact ((Later.refl _).alloc _).alloc _
    have hSB := hL0.size
    have K0 : z.heap[w.heap.size]? = some (.cells #[.int .i64 a, .int .i64 b] 46 (0, 0)) := by rw [hz]; exact heap_alloc_old _ _ (heap_alloc_new _ _)
    have K1 : z.heap[w.heap.size + 1]? = some (.cells #[.int .i64 c, .int .i64 d] 46 (0, 0)) := by rw [hz]; exact heap_alloc_new' _ _ (by simp)
    clear hz
    refine region_slots 47 [21, 22, 23, 24, 25, 26, 27, 28, 29, 30, 31, 32, 33, 7, 8] (fun g ac wc => sl ac 2 = .pointer (some ⟨w.heap.size, 0, none⟩) ∧
      sl ac 3 = .pointer (some ⟨w.heap.size + 1, 0, none⟩) ∧
      sl ac 6 = .int .i64 T ∧
      (g 0 = true → sl ac 21 = .pointer (some ⟨w.heap.size, 0, none⟩)) ∧
      (g 1 = true → sl ac 22 = .int .i64 a) ∧
      (g 2 = true → sl ac 23 = .int .i64 T) ∧
      (g 3 = true → sl ac 24 = .int .i64 T) ∧
      (g 4 = true → sl ac 25 = .int .i64 (p10 (T))) ∧
      (g 5 = true → sl ac 26 = .int .i64 N) ∧
      (g 6 = true → sl ac 27 = .pointer (some ⟨w.heap.size + 1, 0, none⟩)) ∧
      (g 7 = true → sl ac 28 = .int .i64 c) ∧
      (g 8 = true → sl ac 29 = .int .i64 T) ∧
      (g 9 = true → sl ac 30 = .int .i64 (-T)) ∧
      (g 10 = true → sl ac 31 = .int .i64 0) ∧
      (g 11 = true → sl ac 32 = .int .i64 (p10 (0))) ∧
      (g 12 = true → sl ac 33 = .int .i64 D) ∧
      (g 13 = true → sl ac 7 = .int .i64 N) ∧
      (g 14 = true → sl ac 8 = .int .i64 D) ∧
      Later w wc ∧
      z.heap.size ≤ wc.heap.size ∧
      wc.heap[w.heap.size]? = some (.cells #[.int .i64 a, .int .i64 b] 46 (0, 0)) ∧
      wc.heap[w.heap.size + 1]? = some (.cells #[.int .i64 c, .int .i64 d] 46 (0, 0))) (by kernel_rfl) (by kernel_rfl) rfl (by kernel_rfl) ?_ ?_ ?_
    · exact ⟨rfl, rfl, rfl, nofun, nofun, nofun, nofun, nofun, nofun, nofun, nofun, nofun, nofun, nofun, nofun, nofun, nofun, nofun, hL0.drew, Nat.le_refl _, K0, K1⟩
    · intro g ac wu hg ha hI
      obtain ⟨x2, x3, x6, i0, i1, i2, i3, i4, i5, i6, i7, i8, i9, i10, i11, i12, i13, i14, hL, hS, B0, B1⟩ := hI
      have a0 := i0 (hg 0 (by simp))
      have a1 := i1 (hg 1 (by simp))
      have a2 := i2 (hg 2 (by simp))
      have a3 := i3 (hg 3 (by simp))
      have a4 := i4 (hg 4 (by simp))
      have a5 := i5 (hg 5 (by simp))
      have a6 := i6 (hg 6 (by simp))
      have a7 := i7 (hg 7 (by simp))
      have a8 := i8 (hg 8 (by simp))
      have a9 := i9 (hg 9 (by simp))
      have a10 := i10 (hg 10 (by simp))
      have a11 := i11 (hg 11 (by simp))
      have a12 := i12 (hg 12 (by simp))
      have a13 := i13 (hg 13 (by simp))
      have a14 := i14 (hg 14 (by simp))
      simp only [putAll, a0, a1, a2, a3, a4, a5, a6, a7, a8, a9, a10, a11, a12, a13, a14] at ha
      simp only [Act.put, List.setIfInBounds_toArray, List.set_cons_succ, List.set_cons_zero] at ha
      rw [ha]
      clear x2 x3 x6 i0 i1 i2 i3 i4 i5 i6 i7 i8 i9 i10 i11 i12 i13 i14 a0 a1 a2 a3 a4 a5 a6 a7 a8 a9 a10 a11 a12 a13 a14 hg ha
      have HL := Lib.hid hL
      clear hL hS B0 B1
      have HV1 := Lib.hid (show N ≤ D → cdiv (1000000 * (D - N)) D = V from fun k => by rw [← HQ.out, show max (N - D) (D - N) = D - N by omega])
      have HV2 := Lib.hid (show D ≤ N → cdiv (1000000 * (N - D)) D = V from fun k => by rw [← HQ.out, show max (N - D) (D - N) = N - D by omega])
      have wE : IntKind.i64.wrap (N - D) = N - D := wrap_same (by omega) (by omega)
      have wF : IntKind.i64.wrap (D - N) = D - N := wrap_same (by omega) (by omega)
      have wG : IntKind.i64.wrap (1000000 * (N - D)) = 1000000 * (N - D) := wrap_big (by omega) (by omega)
      have wH : IntKind.i64.wrap (1000000 * (D - N)) = 1000000 * (D - N) := wrap_big (by omega) (by omega)
      go_wp2_with fail
      all_goals
        refine (w_up _ _ (by omega) (by omega) (by omega) (by omega) _).mono ?_
        rintro e w4 ⟨rfl, rfl⟩
        first | rw [HV1.out (by omega)] | rw [HV2.out (by omega)]
        by_cases hv : V > 9000000
        · have HF := Lib.hid (HF3.out hv)
          go_wp2
          go_ret2
          exact ⟨by rw [HF.out.1, HF.out.2]; rfl, HL.out⟩
        · have HF := Lib.hid (HF0.out (by omega))
          go_wp2
          go_ret2
          exact ⟨by rw [HF.out.1, HF.out.2]; rfl, HL.out⟩
    · refine .cons ?_ (.cons ?_ (.cons ?_ (.cons ?_ (.cons ?_ (.cons ?_ (.cons ?_ (.cons ?_ (.cons ?_ (.cons ?_ (.cons ?_ (.cons ?_ (.cons ?_ (.cons ?_ (.cons ?_ .nil))))))))))))))
      · unfold SlotStep
        intro g ac wc hn hk hr hI K' hK
        obtain ⟨x2, x3, x6, i0, i1, i2, i3, i4, i5, i6, i7, i8, i9, i10, i11, i12, i13, i14, hL, hS, B0, B1⟩ := hI
        simp only [Region.binds] at hr
        simp at hr
        replace hK := Lib.hid hK
        replace i0 := Lib.hid i0
        replace i1 := Lib.hid i1
        replace i2 := Lib.hid i2
        replace i3 := Lib.hid i3
        replace i4 := Lib.hid i4
        replace i5 := Lib.hid i5
        replace i6 := Lib.hid i6
        replace i7 := Lib.hid i7
        replace i8 := Lib.hid i8
        replace i9 := Lib.hid i9
        replace i10 := Lib.hid i10
        replace i11 := Lib.hid i11
        replace i12 := Lib.hid i12
        replace i13 := Lib.hid i13
        replace i14 := Lib.hid i14
        go_simp
        exact hK.out _ _ ⟨(keepB x2 (by decide)), (keepB x3 (by decide)), (keepB x6 (by decide)), (fun _ => put_eq (by omega)), (keepF i1.out (by decide)), (keepF i2.out (by decide)), (keepF i3.out (by decide)), (keepF i4.out (by decide)), (keepF i5.out (by decide)), (keepF i6.out (by decide)), (keepF i7.out (by decide)), (keepF i8.out (by decide)), (keepF i9.out (by decide)), (keepF i10.out (by decide)), (keepF i11.out (by decide)), (keepF i12.out (by decide)), (keepF i13.out (by decide)), (keepF i14.out (by decide)), hL, hS, B0, B1⟩
      · unfold SlotStep
        intro g ac wc hn hk hr hI K' hK
        obtain ⟨x2, x3, x6, i0, i1, i2, i3, i4, i5, i6, i7, i8, i9, i10, i11, i12, i13, i14, hL, hS, B0, B1⟩ := hI
        simp only [Region.binds] at hr
        simp at hr
        replace hK := Lib.hid hK
        have y0 := i0 (by first | exact hr | exact hr.1 | exact hr.2 | exact hr.2.1 | exact hr.2.2 | exact hr.2.2.1 | exact hr.2.2.2 | simp [hr])
        replace i0 := Lib.hid i0
        replace i1 := Lib.hid i1
        replace i2 := Lib.hid i2
        replace i3 := Lib.hid i3
        replace i4 := Lib.hid i4
        replace i5 := Lib.hid i5
        replace i6 := Lib.hid i6
        replace i7 := Lib.hid i7
        replace i8 := Lib.hid i8
        replace i9 := Lib.hid i9
        replace i10 := Lib.hid i10
        replace i11 := Lib.hid i11
        replace i12 := Lib.hid i12
        replace i13 := Lib.hid i13
        replace i14 := Lib.hid i14
        have hbb := blk_at B0
        have c0 := hbb.1
        have f0 := hbb.2.1
        have z0 := hbb.2.2
        clear hbb
        go_simp
        exact hK.out _ _ ⟨(keepB x2 (by decide)), (keepB x3 (by decide)), (keepB x6 (by decide)), (keepF i0.out (by decide)), (fun _ => put_eq (by omega)), (keepF i2.out (by decide)), (keepF i3.out (by decide)), (keepF i4.out (by decide)), (keepF i5.out (by decide)), (keepF i6.out (by decide)), (keepF i7.out (by decide)), (keepF i8.out (by decide)), (keepF i9.out (by decide)), (keepF i10.out (by decide)), (keepF i11.out (by decide)), (keepF i12.out (by decide)), (keepF i13.out (by decide)), (keepF i14.out (by decide)), hL, hS, B0, B1⟩
      · unfold SlotStep
        intro g ac wc hn hk hr hI K' hK
        obtain ⟨x2, x3, x6, i0, i1, i2, i3, i4, i5, i6, i7, i8, i9, i10, i11, i12, i13, i14, hL, hS, B0, B1⟩ := hI
        simp only [Region.binds] at hr
        simp at hr
        replace hK := Lib.hid hK
        replace i0 := Lib.hid i0
        replace i1 := Lib.hid i1
        replace i2 := Lib.hid i2
        replace i3 := Lib.hid i3
        replace i4 := Lib.hid i4
        replace i5 := Lib.hid i5
        replace i6 := Lib.hid i6
        replace i7 := Lib.hid i7
        replace i8 := Lib.hid i8
        replace i9 := Lib.hid i9
        replace i10 := Lib.hid i10
        replace i11 := Lib.hid i11
        replace i12 := Lib.hid i12
        replace i13 := Lib.hid i13
        replace i14 := Lib.hid i14
        go_simp
        exact hK.out _ _ ⟨(keepB x2 (by decide)), (keepB x3 (by decide)), (keepB x6 (by decide)), (keepF i0.out (by decide)), (keepF i1.out (by decide)), (fun _ => put_eq (by omega)), (keepF i3.out (by decide)), (keepF i4.out (by decide)), (keepF i5.out (by decide)), (keepF i6.out (by decide)), (keepF i7.out (by decide)), (keepF i8.out (by decide)), (keepF i9.out (by decide)), (keepF i10.out (by decide)), (keepF i11.out (by decide)), (keepF i12.out (by decide)), (keepF i13.out (by decide)), (keepF i14.out (by decide)), hL, hS, B0, B1⟩
      · unfold SlotStep
        intro g ac wc hn hk hr hI K' hK
        obtain ⟨x2, x3, x6, i0, i1, i2, i3, i4, i5, i6, i7, i8, i9, i10, i11, i12, i13, i14, hL, hS, B0, B1⟩ := hI
        simp only [Region.binds] at hr
        simp at hr
        replace hK := Lib.hid hK
        have y2 := i2 (by first | exact hr | exact hr.1 | exact hr.2 | exact hr.2.1 | exact hr.2.2 | exact hr.2.2.1 | exact hr.2.2.2 | simp [hr])
        replace i0 := Lib.hid i0
        replace i1 := Lib.hid i1
        replace i2 := Lib.hid i2
        replace i3 := Lib.hid i3
        replace i4 := Lib.hid i4
        replace i5 := Lib.hid i5
        replace i6 := Lib.hid i6
        replace i7 := Lib.hid i7
        replace i8 := Lib.hid i8
        replace i9 := Lib.hid i9
        replace i10 := Lib.hid i10
        replace i11 := Lib.hid i11
        replace i12 := Lib.hid i12
        replace i13 := Lib.hid i13
        replace i14 := Lib.hid i14
        go_simp
        first | rw [show (if 0 < T then T else 0) = T from by split <;> omega] | skip
        exact hK.out _ _ ⟨(keepB x2 (by decide)), (keepB x3 (by decide)), (keepB x6 (by decide)), (keepF i0.out (by decide)), (keepF i1.out (by decide)), (keepF i2.out (by decide)), (fun _ => put_eq (by omega)), (keepF i4.out (by decide)), (keepF i5.out (by decide)), (keepF i6.out (by decide)), (keepF i7.out (by decide)), (keepF i8.out (by decide)), (keepF i9.out (by decide)), (keepF i10.out (by decide)), (keepF i11.out (by decide)), (keepF i12.out (by decide)), (keepF i13.out (by decide)), (keepF i14.out (by decide)), hL, hS, B0, B1⟩
      · unfold SlotStep
        intro g ac wc hn hk hr hI K' hK
        obtain ⟨x2, x3, x6, i0, i1, i2, i3, i4, i5, i6, i7, i8, i9, i10, i11, i12, i13, i14, hL, hS, B0, B1⟩ := hI
        simp only [Region.binds] at hr
        simp at hr
        replace hK := Lib.hid hK
        have y3 := i3 (by first | exact hr | exact hr.1 | exact hr.2 | exact hr.2.1 | exact hr.2.2 | exact hr.2.2.1 | exact hr.2.2.2 | simp [hr])
        replace i0 := Lib.hid i0
        replace i1 := Lib.hid i1
        replace i2 := Lib.hid i2
        replace i3 := Lib.hid i3
        replace i4 := Lib.hid i4
        replace i5 := Lib.hid i5
        replace i6 := Lib.hid i6
        replace i7 := Lib.hid i7
        replace i8 := Lib.hid i8
        replace i9 := Lib.hid i9
        replace i10 := Lib.hid i10
        replace i11 := Lib.hid i11
        replace i12 := Lib.hid i12
        replace i13 := Lib.hid i13
        replace i14 := Lib.hid i14
        go_simp
        refine (w_ten _ (by omega) (by omega) _).mono ?_
        rintro e w4 ⟨rfl, rfl⟩
        exact hK.out _ _ ⟨(keepB x2 (by decide)), (keepB x3 (by decide)), (keepB x6 (by decide)), (keepF i0.out (by decide)), (keepF i1.out (by decide)), (keepF i2.out (by decide)), (keepF i3.out (by decide)), (fun _ => put_eq (by omega)), (keepF i5.out (by decide)), (keepF i6.out (by decide)), (keepF i7.out (by decide)), (keepF i8.out (by decide)), (keepF i9.out (by decide)), (keepF i10.out (by decide)), (keepF i11.out (by decide)), (keepF i12.out (by decide)), (keepF i13.out (by decide)), (keepF i14.out (by decide)), hL, hS, B0, B1⟩
      · unfold SlotStep
        intro g ac wc hn hk hr hI K' hK
        obtain ⟨x2, x3, x6, i0, i1, i2, i3, i4, i5, i6, i7, i8, i9, i10, i11, i12, i13, i14, hL, hS, B0, B1⟩ := hI
        simp only [Region.binds] at hr
        simp at hr
        replace hK := Lib.hid hK
        have y1 := i1 (by first | exact hr | exact hr.1 | exact hr.2 | exact hr.2.1 | exact hr.2.2 | exact hr.2.2.1 | exact hr.2.2.2 | simp [hr])
        have y4 := i4 (by first | exact hr | exact hr.1 | exact hr.2 | exact hr.2.1 | exact hr.2.2 | exact hr.2.2.1 | exact hr.2.2.2 | simp [hr])
        replace i0 := Lib.hid i0
        replace i1 := Lib.hid i1
        replace i2 := Lib.hid i2
        replace i3 := Lib.hid i3
        replace i4 := Lib.hid i4
        replace i5 := Lib.hid i5
        replace i6 := Lib.hid i6
        replace i7 := Lib.hid i7
        replace i8 := Lib.hid i8
        replace i9 := Lib.hid i9
        replace i10 := Lib.hid i10
        replace i11 := Lib.hid i11
        replace i12 := Lib.hid i12
        replace i13 := Lib.hid i13
        replace i14 := Lib.hid i14
        have wD : IntKind.i64.wrap (a * p10 (T)) = N := by rw [HN.out]; exact wrap_same (by omega) (by omega)
        go_simp
        exact hK.out _ _ ⟨(keepB x2 (by decide)), (keepB x3 (by decide)), (keepB x6 (by decide)), (keepF i0.out (by decide)), (keepF i1.out (by decide)), (keepF i2.out (by decide)), (keepF i3.out (by decide)), (keepF i4.out (by decide)), (fun _ => put_eq (by omega)), (keepF i6.out (by decide)), (keepF i7.out (by decide)), (keepF i8.out (by decide)), (keepF i9.out (by decide)), (keepF i10.out (by decide)), (keepF i11.out (by decide)), (keepF i12.out (by decide)), (keepF i13.out (by decide)), (keepF i14.out (by decide)), hL, hS, B0, B1⟩
      · unfold SlotStep
        intro g ac wc hn hk hr hI K' hK
        obtain ⟨x2, x3, x6, i0, i1, i2, i3, i4, i5, i6, i7, i8, i9, i10, i11, i12, i13, i14, hL, hS, B0, B1⟩ := hI
        simp only [Region.binds] at hr
        simp at hr
        replace hK := Lib.hid hK
        replace i0 := Lib.hid i0
        replace i1 := Lib.hid i1
        replace i2 := Lib.hid i2
        replace i3 := Lib.hid i3
        replace i4 := Lib.hid i4
        replace i5 := Lib.hid i5
        replace i6 := Lib.hid i6
        replace i7 := Lib.hid i7
        replace i8 := Lib.hid i8
        replace i9 := Lib.hid i9
        replace i10 := Lib.hid i10
        replace i11 := Lib.hid i11
        replace i12 := Lib.hid i12
        replace i13 := Lib.hid i13
        replace i14 := Lib.hid i14
        go_simp
        exact hK.out _ _ ⟨(keepB x2 (by decide)), (keepB x3 (by decide)), (keepB x6 (by decide)), (keepF i0.out (by decide)), (keepF i1.out (by decide)), (keepF i2.out (by decide)), (keepF i3.out (by decide)), (keepF i4.out (by decide)), (keepF i5.out (by decide)), (fun _ => put_eq (by omega)), (keepF i7.out (by decide)), (keepF i8.out (by decide)), (keepF i9.out (by decide)), (keepF i10.out (by decide)), (keepF i11.out (by decide)), (keepF i12.out (by decide)), (keepF i13.out (by decide)), (keepF i14.out (by decide)), hL, hS, B0, B1⟩
      · unfold SlotStep
        intro g ac wc hn hk hr hI K' hK
        obtain ⟨x2, x3, x6, i0, i1, i2, i3, i4, i5, i6, i7, i8, i9, i10, i11, i12, i13, i14, hL, hS, B0, B1⟩ := hI
        simp only [Region.binds] at hr
        simp at hr
        replace hK := Lib.hid hK
        have y6 := i6 (by first | exact hr | exact hr.1 | exact hr.2 | exact hr.2.1 | exact hr.2.2 | exact hr.2.2.1 | exact hr.2.2.2 | simp [hr])
        replace i0 := Lib.hid i0
        replace i1 := Lib.hid i1
        replace i2 := Lib.hid i2
        replace i3 := Lib.hid i3
        replace i4 := Lib.hid i4
        replace i5 := Lib.hid i5
        replace i6 := Lib.hid i6
        replace i7 := Lib.hid i7
        replace i8 := Lib.hid i8
        replace i9 := Lib.hid i9
        replace i10 := Lib.hid i10
        replace i11 := Lib.hid i11
        replace i12 := Lib.hid i12
        replace i13 := Lib.hid i13
        replace i14 := Lib.hid i14
        have hbb := blk_at B1
        have c0 := hbb.1
        have f0 := hbb.2.1
        have z0 := hbb.2.2
        clear hbb
        go_simp
        exact hK.out _ _ ⟨(keepB x2 (by decide)), (keepB x3 (by decide)), (keepB x6 (by decide)), (keepF i0.out (by decide)), (keepF i1.out (by decide)), (keepF i2.out (by decide)), (keepF i3.out (by decide)), (keepF i4.out (by decide)), (keepF i5.out (by decide)), (keepF i6.out (by decide)), (fun _ => put_eq (by omega)), (keepF i8.out (by decide)), (keepF i9.out (by decide)), (keepF i10.out (by decide)), (keepF i11.out (by decide)), (keepF i12.out (by decide)), (keepF i13.out (by decide)), (keepF i14.out (by decide)), hL, hS, B0, B1⟩
      · unfold SlotStep
        intro g ac wc hn hk hr hI K' hK
        obtain ⟨x2, x3, x6, i0, i1, i2, i3, i4, i5, i6, i7, i8, i9, i10, i11, i12, i13, i14, hL, hS, B0, B1⟩ := hI
        simp only [Region.binds] at hr
        simp at hr
        replace hK := Lib.hid hK
        replace i0 := Lib.hid i0
        replace i1 := Lib.hid i1
        replace i2 := Lib.hid i2
        replace i3 := Lib.hid i3
        replace i4 := Lib.hid i4
        replace i5 := Lib.hid i5
        replace i6 := Lib.hid i6
        replace i7 := Lib.hid i7
        replace i8 := Lib.hid i8
        replace i9 := Lib.hid i9
        replace i10 := Lib.hid i10
        replace i11 := Lib.hid i11
        replace i12 := Lib.hid i12
        replace i13 := Lib.hid i13
        replace i14 := Lib.hid i14
        go_simp
        exact hK.out _ _ ⟨(keepB x2 (by decide)), (keepB x3 (by decide)), (keepB x6 (by decide)), (keepF i0.out (by decide)), (keepF i1.out (by decide)), (keepF i2.out (by decide)), (keepF i3.out (by decide)), (keepF i4.out (by decide)), (keepF i5.out (by decide)), (keepF i6.out (by decide)), (keepF i7.out (by decide)), (fun _ => put_eq (by omega)), (keepF i9.out (by decide)), (keepF i10.out (by decide)), (keepF i11.out (by decide)), (keepF i12.out (by decide)), (keepF i13.out (by decide)), (keepF i14.out (by decide)), hL, hS, B0, B1⟩
      · unfold SlotStep
        intro g ac wc hn hk hr hI K' hK
        obtain ⟨x2, x3, x6, i0, i1, i2, i3, i4, i5, i6, i7, i8, i9, i10, i11, i12, i13, i14, hL, hS, B0, B1⟩ := hI
        simp only [Region.binds] at hr
        simp at hr
        replace hK := Lib.hid hK
        have y8 := i8 (by first | exact hr | exact hr.1 | exact hr.2 | exact hr.2.1 | exact hr.2.2 | exact hr.2.2.1 | exact hr.2.2.2 | simp [hr])
        replace i0 := Lib.hid i0
        replace i1 := Lib.hid i1
        replace i2 := Lib.hid i2
        replace i3 := Lib.hid i3
        replace i4 := Lib.hid i4
        replace i5 := Lib.hid i5
        replace i6 := Lib.hid i6
        replace i7 := Lib.hid i7
        replace i8 := Lib.hid i8
        replace i9 := Lib.hid i9
        replace i10 := Lib.hid i10
        replace i11 := Lib.hid i11
        replace i12 := Lib.hid i12
        replace i13 := Lib.hid i13
        replace i14 := Lib.hid i14
        have wD : IntKind.i64.wrap (-T) = -T := wrap_same (by omega) (by omega)
        go_simp
        exact hK.out _ _ ⟨(keepB x2 (by decide)), (keepB x3 (by decide)), (keepB x6 (by decide)), (keepF i0.out (by decide)), (keepF i1.out (by decide)), (keepF i2.out (by decide)), (keepF i3.out (by decide)), (keepF i4.out (by decide)), (keepF i5.out (by decide)), (keepF i6.out (by decide)), (keepF i7.out (by decide)), (keepF i8.out (by decide)), (fun _ => put_eq (by omega)), (keepF i10.out (by decide)), (keepF i11.out (by decide)), (keepF i12.out (by decide)), (keepF i13.out (by decide)), (keepF i14.out (by decide)), hL, hS, B0, B1⟩
      · unfold SlotStep
        intro g ac wc hn hk hr hI K' hK
        obtain ⟨x2, x3, x6, i0, i1, i2, i3, i4, i5, i6, i7, i8, i9, i10, i11, i12, i13, i14, hL, hS, B0, B1⟩ := hI
        simp only [Region.binds] at hr
        simp at hr
        replace hK := Lib.hid hK
        have y9 := i9 (by first | exact hr | exact hr.1 | exact hr.2 | exact hr.2.1 | exact hr.2.2 | exact hr.2.2.1 | exact hr.2.2.2 | simp [hr])
        replace i0 := Lib.hid i0
        replace i1 := Lib.hid i1
        replace i2 := Lib.hid i2
        replace i3 := Lib.hid i3
        replace i4 := Lib.hid i4
        replace i5 := Lib.hid i5
        replace i6 := Lib.hid i6
        replace i7 := Lib.hid i7
        replace i8 := Lib.hid i8
        replace i9 := Lib.hid i9
        replace i10 := Lib.hid i10
        replace i11 := Lib.hid i11
        replace i12 := Lib.hid i12
        replace i13 := Lib.hid i13
        replace i14 := Lib.hid i14
        go_simp
        first | rw [show (if T < 0 then -T else 0) = 0 from by split <;> omega] | skip
        exact hK.out _ _ ⟨(keepB x2 (by decide)), (keepB x3 (by decide)), (keepB x6 (by decide)), (keepF i0.out (by decide)), (keepF i1.out (by decide)), (keepF i2.out (by decide)), (keepF i3.out (by decide)), (keepF i4.out (by decide)), (keepF i5.out (by decide)), (keepF i6.out (by decide)), (keepF i7.out (by decide)), (keepF i8.out (by decide)), (keepF i9.out (by decide)), (fun _ => put_eq (by omega)), (keepF i11.out (by decide)), (keepF i12.out (by decide)), (keepF i13.out (by decide)), (keepF i14.out (by decide)), hL, hS, B0, B1⟩
      · unfold SlotStep
        intro g ac wc hn hk hr hI K' hK
        obtain ⟨x2, x3, x6, i0, i1, i2, i3, i4, i5, i6, i7, i8, i9, i10, i11, i12, i13, i14, hL, hS, B0, B1⟩ := hI
        simp only [Region.binds] at hr
        simp at hr
        replace hK := Lib.hid hK
        have y10 := i10 (by first | exact hr | exact hr.1 | exact hr.2 | exact hr.2.1 | exact hr.2.2 | exact hr.2.2.1 | exact hr.2.2.2 | simp [hr])
        replace i0 := Lib.hid i0
        replace i1 := Lib.hid i1
        replace i2 := Lib.hid i2
        replace i3 := Lib.hid i3
        replace i4 := Lib.hid i4
        replace i5 := Lib.hid i5
        replace i6 := Lib.hid i6
        replace i7 := Lib.hid i7
        replace i8 := Lib.hid i8
        replace i9 := Lib.hid i9
        replace i10 := Lib.hid i10
        replace i11 := Lib.hid i11
        replace i12 := Lib.hid i12
        replace i13 := Lib.hid i13
        replace i14 := Lib.hid i14
        go_simp
        refine (w_ten _ (by omega) (by omega) _).mono ?_
        rintro e w4 ⟨rfl, rfl⟩
        exact hK.out _ _ ⟨(keepB x2 (by decide)), (keepB x3 (by decide)), (keepB x6 (by decide)), (keepF i0.out (by decide)), (keepF i1.out (by decide)), (keepF i2.out (by decide)), (keepF i3.out (by decide)), (keepF i4.out (by decide)), (keepF i5.out (by decide)), (keepF i6.out (by decide)), (keepF i7.out (by decide)), (keepF i8.out (by decide)), (keepF i9.out (by decide)), (keepF i10.out (by decide)), (fun _ => put_eq (by omega)), (keepF i12.out (by decide)), (keepF i13.out (by decide)), (keepF i14.out (by decide)), hL, hS, B0, B1⟩
      · unfold SlotStep
        intro g ac wc hn hk hr hI K' hK
        obtain ⟨x2, x3, x6, i0, i1, i2, i3, i4, i5, i6, i7, i8, i9, i10, i11, i12, i13, i14, hL, hS, B0, B1⟩ := hI
        simp only [Region.binds] at hr
        simp at hr
        replace hK := Lib.hid hK
        have y7 := i7 (by first | exact hr | exact hr.1 | exact hr.2 | exact hr.2.1 | exact hr.2.2 | exact hr.2.2.1 | exact hr.2.2.2 | simp [hr])
        have y11 := i11 (by first | exact hr | exact hr.1 | exact hr.2 | exact hr.2.1 | exact hr.2.2 | exact hr.2.2.1 | exact hr.2.2.2 | simp [hr])
        replace i0 := Lib.hid i0
        replace i1 := Lib.hid i1
        replace i2 := Lib.hid i2
        replace i3 := Lib.hid i3
        replace i4 := Lib.hid i4
        replace i5 := Lib.hid i5
        replace i6 := Lib.hid i6
        replace i7 := Lib.hid i7
        replace i8 := Lib.hid i8
        replace i9 := Lib.hid i9
        replace i10 := Lib.hid i10
        replace i11 := Lib.hid i11
        replace i12 := Lib.hid i12
        replace i13 := Lib.hid i13
        replace i14 := Lib.hid i14
        have wD : IntKind.i64.wrap (c * p10 (0)) = D := by rw [HD.out]; exact wrap_same (by omega) (by omega)
        go_simp
        exact hK.out _ _ ⟨(keepB x2 (by decide)), (keepB x3 (by decide)), (keepB x6 (by decide)), (keepF i0.out (by decide)), (keepF i1.out (by decide)), (keepF i2.out (by decide)), (keepF i3.out (by decide)), (keepF i4.out (by decide)), (keepF i5.out (by decide)), (keepF i6.out (by decide)), (keepF i7.out (by decide)), (keepF i8.out (by decide)), (keepF i9.out (by decide)), (keepF i10.out (by decide)), (keepF i11.out (by decide)), (fun _ => put_eq (by omega)), (keepF i13.out (by decide)), (keepF i14.out (by decide)), hL, hS, B0, B1⟩
      · unfold SlotStep
        intro g ac wc hn hk hr hI K' hK
        obtain ⟨x2, x3, x6, i0, i1, i2, i3, i4, i5, i6, i7, i8, i9, i10, i11, i12, i13, i14, hL, hS, B0, B1⟩ := hI
        simp only [Region.binds] at hr
        simp at hr
        replace hK := Lib.hid hK
        have y5 := i5 (by first | exact hr | exact hr.1 | exact hr.2 | exact hr.2.1 | exact hr.2.2 | exact hr.2.2.1 | exact hr.2.2.2 | simp [hr])
        replace i0 := Lib.hid i0
        replace i1 := Lib.hid i1
        replace i2 := Lib.hid i2
        replace i3 := Lib.hid i3
        replace i4 := Lib.hid i4
        replace i5 := Lib.hid i5
        replace i6 := Lib.hid i6
        replace i7 := Lib.hid i7
        replace i8 := Lib.hid i8
        replace i9 := Lib.hid i9
        replace i10 := Lib.hid i10
        replace i11 := Lib.hid i11
        replace i12 := Lib.hid i12
        replace i13 := Lib.hid i13
        replace i14 := Lib.hid i14
        go_simp
        exact hK.out _ _ ⟨(keepB x2 (by decide)), (keepB x3 (by decide)), (keepB x6 (by decide)), (keepF i0.out (by decide)), (keepF i1.out (by decide)), (keepF i2.out (by decide)), (keepF i3.out (by decide)), (keepF i4.out (by decide)), (keepF i5.out (by decide)), (keepF i6.out (by decide)), (keepF i7.out (by decide)), (keepF i8.out (by decide)), (keepF i9.out (by decide)), (keepF i10.out (by decide)), (keepF i11.out (by decide)), (keepF i12.out (by decide)), (fun _ => put_eq (by omega)), (keepF i14.out (by decide)), hL, hS, B0, B1⟩
      · unfold SlotStep
        intro g ac wc hn hk hr hI K' hK
        obtain ⟨x2, x3, x6, i0, i1, i2, i3, i4, i5, i6, i7, i8, i9, i10, i11, i12, i13, i14, hL, hS, B0, B1⟩ := hI
        simp only [Region.binds] at hr
        simp at hr
        replace hK := Lib.hid hK
        have y12 := i12 (by first | exact hr | exact hr.1 | exact hr.2 | exact hr.2.1 | exact hr.2.2 | exact hr.2.2.1 | exact hr.2.2.2 | simp [hr])
        replace i0 := Lib.hid i0
        replace i1 := Lib.hid i1
        replace i2 := Lib.hid i2
        replace i3 := Lib.hid i3
        replace i4 := Lib.hid i4
        replace i5 := Lib.hid i5
        replace i6 := Lib.hid i6
        replace i7 := Lib.hid i7
        replace i8 := Lib.hid i8
        replace i9 := Lib.hid i9
        replace i10 := Lib.hid i10
        replace i11 := Lib.hid i11
        replace i12 := Lib.hid i12
        replace i13 := Lib.hid i13
        replace i14 := Lib.hid i14
        go_simp
        exact hK.out _ _ ⟨(keepB x2 (by decide)), (keepB x3 (by decide)), (keepB x6 (by decide)), (keepF i0.out (by decide)), (keepF i1.out (by decide)), (keepF i2.out (by decide)), (keepF i3.out (by decide)), (keepF i4.out (by decide)), (keepF i5.out (by decide)), (keepF i6.out (by decide)), (keepF i7.out (by decide)), (keepF i8.out (by decide)), (keepF i9.out (by decide)), (keepF i10.out (by decide)), (keepF i11.out (by decide)), (keepF i12.out (by decide)), (keepF i13.out (by decide)), (fun _ => put_eq (by omega)), hL, hS, B0, B1⟩
  · have HN := Lib.hid (show a * p10 0 = N from by rw [eN, show max 0 T = 0 by omega])
    have HD := Lib.hid (show c * p10 (-T) = D from by rw [eD, show max 0 (-T) = -T by omega])
    have wD : IntKind.i64.wrap (b - d) = T := by rw [hT]; exact wrap_same (by omega) (by omega)
    clear eN eD hT
    go_enter Tryz.func49, Tryz.ntmps49
    go_wp2_with fail
    refine wp_name ?_
    intro z hz
    have hL0 : Later w z := by rw [hz]; exact ((Later.refl _).alloc _).alloc _
    have hSB := hL0.size
    have K0 : z.heap[w.heap.size]? = some (.cells #[.int .i64 a, .int .i64 b] 46 (0, 0)) := by rw [hz]; exact heap_alloc_old _ _ (heap_alloc_new _ _)
    have K1 : z.heap[w.heap.size + 1]? = some (.cells #[.int .i64 c, .int .i64 d] 46 (0, 0)) := by rw [hz]; exact heap_alloc_new' _ _ (by simp)
    clear hz
    refine region_slots 47 [21, 22, 23, 24, 25, 26, 27, 28, 29, 30, 31, 32, 33, 7, 8] (fun g ac wc => sl ac 2 = .pointer (some ⟨w.heap.size, 0, none⟩) ∧
      sl ac 3 = .pointer (some ⟨w.heap.size + 1, 0, none⟩) ∧
      sl ac 6 = .int .i64 T ∧
      (g 0 = true → sl ac 21 = .pointer (some ⟨w.heap.size, 0, none⟩)) ∧
      (g 1 = true → sl ac 22 = .int .i64 a) ∧
      (g 2 = true → sl ac 23 = .int .i64 T) ∧
      (g 3 = true → sl ac 24 = .int .i64 0) ∧
      (g 4 = true → sl ac 25 = .int .i64 (p10 (0))) ∧
      (g 5 = true → sl ac 26 = .int .i64 N) ∧
      (g 6 = true → sl ac 27 = .pointer (some ⟨w.heap.size + 1, 0, none⟩)) ∧
      (g 7 = true → sl ac 28 = .int .i64 c) ∧
      (g 8 = true → sl ac 29 = .int .i64 T) ∧
      (g 9 = true → sl ac 30 = .int .i64 (-T)) ∧
      (g 10 = true → sl ac 31 = .int .i64 (-T)) ∧
      (g 11 = true → sl ac 32 = .int .i64 (p10 (-T))) ∧
      (g 12 = true → sl ac 33 = .int .i64 D) ∧
      (g 13 = true → sl ac 7 = .int .i64 N) ∧
      (g 14 = true → sl ac 8 = .int .i64 D) ∧
      Later w wc ∧
      z.heap.size ≤ wc.heap.size ∧
      wc.heap[w.heap.size]? = some (.cells #[.int .i64 a, .int .i64 b] 46 (0, 0)) ∧
      wc.heap[w.heap.size + 1]? = some (.cells #[.int .i64 c, .int .i64 d] 46 (0, 0))) (by kernel_rfl) (by kernel_rfl) rfl (by kernel_rfl) ?_ ?_ ?_
    · exact ⟨rfl, rfl, rfl, nofun, nofun, nofun, nofun, nofun, nofun, nofun, nofun, nofun, nofun, nofun, nofun, nofun, nofun, nofun, hL0.drew, Nat.le_refl _, K0, K1⟩
    · intro g ac wu hg ha hI
      obtain ⟨x2, x3, x6, i0, i1, i2, i3, i4, i5, i6, i7, i8, i9, i10, i11, i12, i13, i14, hL, hS, B0, B1⟩ := hI
      have a0 := i0 (hg 0 (by simp))
      have a1 := i1 (hg 1 (by simp))
      have a2 := i2 (hg 2 (by simp))
      have a3 := i3 (hg 3 (by simp))
      have a4 := i4 (hg 4 (by simp))
      have a5 := i5 (hg 5 (by simp))
      have a6 := i6 (hg 6 (by simp))
      have a7 := i7 (hg 7 (by simp))
      have a8 := i8 (hg 8 (by simp))
      have a9 := i9 (hg 9 (by simp))
      have a10 := i10 (hg 10 (by simp))
      have a11 := i11 (hg 11 (by simp))
      have a12 := i12 (hg 12 (by simp))
      have a13 := i13 (hg 13 (by simp))
      have a14 := i14 (hg 14 (by simp))
      simp only [putAll, a0, a1, a2, a3, a4, a5, a6, a7, a8, a9, a10, a11, a12, a13, a14] at ha
      simp only [Act.put, List.setIfInBounds_toArray, List.set_cons_succ, List.set_cons_zero] at ha
      rw [ha]
      clear x2 x3 x6 i0 i1 i2 i3 i4 i5 i6 i7 i8 i9 i10 i11 i12 i13 i14 a0 a1 a2 a3 a4 a5 a6 a7 a8 a9 a10 a11 a12 a13 a14 hg ha
      have HL := Lib.hid hL
      clear hL hS B0 B1
      have HV1 := Lib.hid (show N ≤ D → cdiv (1000000 * (D - N)) D = V from fun k => by rw [← HQ.out, show max (N - D) (D - N) = D - N by omega])
      have HV2 := Lib.hid (show D ≤ N → cdiv (1000000 * (N - D)) D = V from fun k => by rw [← HQ.out, show max (N - D) (D - N) = N - D by omega])
      have wE : IntKind.i64.wrap (N - D) = N - D := wrap_same (by omega) (by omega)
      have wF : IntKind.i64.wrap (D - N) = D - N := wrap_same (by omega) (by omega)
      have wG : IntKind.i64.wrap (1000000 * (N - D)) = 1000000 * (N - D) := wrap_big (by omega) (by omega)
      have wH : IntKind.i64.wrap (1000000 * (D - N)) = 1000000 * (D - N) := wrap_big (by omega) (by omega)
      go_wp2_with fail
      all_goals
        refine (w_up _ _ (by omega) (by omega) (by omega) (by omega) _).mono ?_
        rintro e w4 ⟨rfl, rfl⟩
        first | rw [HV1.out (by omega)] | rw [HV2.out (by omega)]
        by_cases hv : V > 9000000
        · have HF := Lib.hid (HF3.out hv)
          go_wp2
          go_ret2
          exact ⟨by rw [HF.out.1, HF.out.2]; rfl, HL.out⟩
        · have HF := Lib.hid (HF0.out (by omega))
          go_wp2
          go_ret2
          exact ⟨by rw [HF.out.1, HF.out.2]; rfl, HL.out⟩
    · refine .cons ?_ (.cons ?_ (.cons ?_ (.cons ?_ (.cons ?_ (.cons ?_ (.cons ?_ (.cons ?_ (.cons ?_ (.cons ?_ (.cons ?_ (.cons ?_ (.cons ?_ (.cons ?_ (.cons ?_ .nil))))))))))))))
      · unfold SlotStep
        intro g ac wc hn hk hr hI K' hK
        obtain ⟨x2, x3, x6, i0, i1, i2, i3, i4, i5, i6, i7, i8, i9, i10, i11, i12, i13, i14, hL, hS, B0, B1⟩ := hI
        simp only [Region.binds] at hr
        simp at hr
        replace hK := Lib.hid hK
        replace i0 := Lib.hid i0
        replace i1 := Lib.hid i1
        replace i2 := Lib.hid i2
        replace i3 := Lib.hid i3
        replace i4 := Lib.hid i4
        replace i5 := Lib.hid i5
        replace i6 := Lib.hid i6
        replace i7 := Lib.hid i7
        replace i8 := Lib.hid i8
        replace i9 := Lib.hid i9
        replace i10 := Lib.hid i10
        replace i11 := Lib.hid i11
        replace i12 := Lib.hid i12
        replace i13 := Lib.hid i13
        replace i14 := Lib.hid i14
        go_simp
        exact hK.out _ _ ⟨(keepB x2 (by decide)), (keepB x3 (by decide)), (keepB x6 (by decide)), (fun _ => put_eq (by omega)), (keepF i1.out (by decide)), (keepF i2.out (by decide)), (keepF i3.out (by decide)), (keepF i4.out (by decide)), (keepF i5.out (by decide)), (keepF i6.out (by decide)), (keepF i7.out (by decide)), (keepF i8.out (by decide)), (keepF i9.out (by decide)), (keepF i10.out (by decide)), (keepF i11.out (by decide)), (keepF i12.out (by decide)), (keepF i13.out (by decide)), (keepF i14.out (by decide)), hL, hS, B0, B1⟩
      · unfold SlotStep
        intro g ac wc hn hk hr hI K' hK
        obtain ⟨x2, x3, x6, i0, i1, i2, i3, i4, i5, i6, i7, i8, i9, i10, i11, i12, i13, i14, hL, hS, B0, B1⟩ := hI
        simp only [Region.binds] at hr
        simp at hr
        replace hK := Lib.hid hK
        have y0 := i0 (by first | exact hr | exact hr.1 | exact hr.2 | exact hr.2.1 | exact hr.2.2 | exact hr.2.2.1 | exact hr.2.2.2 | simp [hr])
        replace i0 := Lib.hid i0
        replace i1 := Lib.hid i1
        replace i2 := Lib.hid i2
        replace i3 := Lib.hid i3
        replace i4 := Lib.hid i4
        replace i5 := Lib.hid i5
        replace i6 := Lib.hid i6
        replace i7 := Lib.hid i7
        replace i8 := Lib.hid i8
        replace i9 := Lib.hid i9
        replace i10 := Lib.hid i10
        replace i11 := Lib.hid i11
        replace i12 := Lib.hid i12
        replace i13 := Lib.hid i13
        replace i14 := Lib.hid i14
        have hbb := blk_at B0
        have c0 := hbb.1
        have f0 := hbb.2.1
        have z0 := hbb.2.2
        clear hbb
        go_simp
        exact hK.out _ _ ⟨(keepB x2 (by decide)), (keepB x3 (by decide)), (keepB x6 (by decide)), (keepF i0.out (by decide)), (fun _ => put_eq (by omega)), (keepF i2.out (by decide)), (keepF i3.out (by decide)), (keepF i4.out (by decide)), (keepF i5.out (by decide)), (keepF i6.out (by decide)), (keepF i7.out (by decide)), (keepF i8.out (by decide)), (keepF i9.out (by decide)), (keepF i10.out (by decide)), (keepF i11.out (by decide)), (keepF i12.out (by decide)), (keepF i13.out (by decide)), (keepF i14.out (by decide)), hL, hS, B0, B1⟩
      · unfold SlotStep
        intro g ac wc hn hk hr hI K' hK
        obtain ⟨x2, x3, x6, i0, i1, i2, i3, i4, i5, i6, i7, i8, i9, i10, i11, i12, i13, i14, hL, hS, B0, B1⟩ := hI
        simp only [Region.binds] at hr
        simp at hr
        replace hK := Lib.hid hK
        replace i0 := Lib.hid i0
        replace i1 := Lib.hid i1
        replace i2 := Lib.hid i2
        replace i3 := Lib.hid i3
        replace i4 := Lib.hid i4
        replace i5 := Lib.hid i5
        replace i6 := Lib.hid i6
        replace i7 := Lib.hid i7
        replace i8 := Lib.hid i8
        replace i9 := Lib.hid i9
        replace i10 := Lib.hid i10
        replace i11 := Lib.hid i11
        replace i12 := Lib.hid i12
        replace i13 := Lib.hid i13
        replace i14 := Lib.hid i14
        go_simp
        exact hK.out _ _ ⟨(keepB x2 (by decide)), (keepB x3 (by decide)), (keepB x6 (by decide)), (keepF i0.out (by decide)), (keepF i1.out (by decide)), (fun _ => put_eq (by omega)), (keepF i3.out (by decide)), (keepF i4.out (by decide)), (keepF i5.out (by decide)), (keepF i6.out (by decide)), (keepF i7.out (by decide)), (keepF i8.out (by decide)), (keepF i9.out (by decide)), (keepF i10.out (by decide)), (keepF i11.out (by decide)), (keepF i12.out (by decide)), (keepF i13.out (by decide)), (keepF i14.out (by decide)), hL, hS, B0, B1⟩
      · unfold SlotStep
        intro g ac wc hn hk hr hI K' hK
        obtain ⟨x2, x3, x6, i0, i1, i2, i3, i4, i5, i6, i7, i8, i9, i10, i11, i12, i13, i14, hL, hS, B0, B1⟩ := hI
        simp only [Region.binds] at hr
        simp at hr
        replace hK := Lib.hid hK
        have y2 := i2 (by first | exact hr | exact hr.1 | exact hr.2 | exact hr.2.1 | exact hr.2.2 | exact hr.2.2.1 | exact hr.2.2.2 | simp [hr])
        replace i0 := Lib.hid i0
        replace i1 := Lib.hid i1
        replace i2 := Lib.hid i2
        replace i3 := Lib.hid i3
        replace i4 := Lib.hid i4
        replace i5 := Lib.hid i5
        replace i6 := Lib.hid i6
        replace i7 := Lib.hid i7
        replace i8 := Lib.hid i8
        replace i9 := Lib.hid i9
        replace i10 := Lib.hid i10
        replace i11 := Lib.hid i11
        replace i12 := Lib.hid i12
        replace i13 := Lib.hid i13
        replace i14 := Lib.hid i14
        go_simp
        first | rw [show (if 0 < T then T else 0) = 0 from by split <;> omega] | skip
        exact hK.out _ _ ⟨(keepB x2 (by decide)), (keepB x3 (by decide)), (keepB x6 (by decide)), (keepF i0.out (by decide)), (keepF i1.out (by decide)), (keepF i2.out (by decide)), (fun _ => put_eq (by omega)), (keepF i4.out (by decide)), (keepF i5.out (by decide)), (keepF i6.out (by decide)), (keepF i7.out (by decide)), (keepF i8.out (by decide)), (keepF i9.out (by decide)), (keepF i10.out (by decide)), (keepF i11.out (by decide)), (keepF i12.out (by decide)), (keepF i13.out (by decide)), (keepF i14.out (by decide)), hL, hS, B0, B1⟩
      · unfold SlotStep
        intro g ac wc hn hk hr hI K' hK
        obtain ⟨x2, x3, x6, i0, i1, i2, i3, i4, i5, i6, i7, i8, i9, i10, i11, i12, i13, i14, hL, hS, B0, B1⟩ := hI
        simp only [Region.binds] at hr
        simp at hr
        replace hK := Lib.hid hK
        have y3 := i3 (by first | exact hr | exact hr.1 | exact hr.2 | exact hr.2.1 | exact hr.2.2 | exact hr.2.2.1 | exact hr.2.2.2 | simp [hr])
        replace i0 := Lib.hid i0
        replace i1 := Lib.hid i1
        replace i2 := Lib.hid i2
        replace i3 := Lib.hid i3
        replace i4 := Lib.hid i4
        replace i5 := Lib.hid i5
        replace i6 := Lib.hid i6
        replace i7 := Lib.hid i7
        replace i8 := Lib.hid i8
        replace i9 := Lib.hid i9
        replace i10 := Lib.hid i10
        replace i11 := Lib.hid i11
        replace i12 := Lib.hid i12
        replace i13 := Lib.hid i13
        replace i14 := Lib.hid i14
        go_simp
        refine (w_ten _ (by omega) (by omega) _).mono ?_
        rintro e w4 ⟨rfl, rfl⟩
        exact hK.out _ _ ⟨(keepB x2 (by decide)), (keepB x3 (by decide)), (keepB x6 (by decide)), (keepF i0.out (by decide)), (keepF i1.out (by decide)), (keepF i2.out (by decide)), (keepF i3.out (by decide)), (fun _ => put_eq (by omega)), (keepF i5.out (by decide)), (keepF i6.out (by decide)), (keepF i7.out (by decide)), (keepF i8.out (by decide)), (keepF i9.out (by decide)), (keepF i10.out (by decide)), (keepF i11.out (by decide)), (keepF i12.out (by decide)), (keepF i13.out (by decide)), (keepF i14.out (by decide)), hL, hS, B0, B1⟩
      · unfold SlotStep
        intro g ac wc hn hk hr hI K' hK
        obtain ⟨x2, x3, x6, i0, i1, i2, i3, i4, i5, i6, i7, i8, i9, i10, i11, i12, i13, i14, hL, hS, B0, B1⟩ := hI
        simp only [Region.binds] at hr
        simp at hr
        replace hK := Lib.hid hK
        have y1 := i1 (by first | exact hr | exact hr.1 | exact hr.2 | exact hr.2.1 | exact hr.2.2 | exact hr.2.2.1 | exact hr.2.2.2 | simp [hr])
        have y4 := i4 (by first | exact hr | exact hr.1 | exact hr.2 | exact hr.2.1 | exact hr.2.2 | exact hr.2.2.1 | exact hr.2.2.2 | simp [hr])
        replace i0 := Lib.hid i0
        replace i1 := Lib.hid i1
        replace i2 := Lib.hid i2
        replace i3 := Lib.hid i3
        replace i4 := Lib.hid i4
        replace i5 := Lib.hid i5
        replace i6 := Lib.hid i6
        replace i7 := Lib.hid i7
        replace i8 := Lib.hid i8
        replace i9 := Lib.hid i9
        replace i10 := Lib.hid i10
        replace i11 := Lib.hid i11
        replace i12 := Lib.hid i12
        replace i13 := Lib.hid i13
        replace i14 := Lib.hid i14
        have wD : IntKind.i64.wrap (a * p10 (0)) = N := by rw [HN.out]; exact wrap_same (by omega) (by omega)
        go_simp
        exact hK.out _ _ ⟨(keepB x2 (by decide)), (keepB x3 (by decide)), (keepB x6 (by decide)), (keepF i0.out (by decide)), (keepF i1.out (by decide)), (keepF i2.out (by decide)), (keepF i3.out (by decide)), (keepF i4.out (by decide)), (fun _ => put_eq (by omega)), (keepF i6.out (by decide)), (keepF i7.out (by decide)), (keepF i8.out (by decide)), (keepF i9.out (by decide)), (keepF i10.out (by decide)), (keepF i11.out (by decide)), (keepF i12.out (by decide)), (keepF i13.out (by decide)), (keepF i14.out (by decide)), hL, hS, B0, B1⟩
      · unfold SlotStep
        intro g ac wc hn hk hr hI K' hK
        obtain ⟨x2, x3, x6, i0, i1, i2, i3, i4, i5, i6, i7, i8, i9, i10, i11, i12, i13, i14, hL, hS, B0, B1⟩ := hI
        simp only [Region.binds] at hr
        simp at hr
        replace hK := Lib.hid hK
        replace i0 := Lib.hid i0
        replace i1 := Lib.hid i1
        replace i2 := Lib.hid i2
        replace i3 := Lib.hid i3
        replace i4 := Lib.hid i4
        replace i5 := Lib.hid i5
        replace i6 := Lib.hid i6
        replace i7 := Lib.hid i7
        replace i8 := Lib.hid i8
        replace i9 := Lib.hid i9
        replace i10 := Lib.hid i10
        replace i11 := Lib.hid i11
        replace i12 := Lib.hid i12
        replace i13 := Lib.hid i13
        replace i14 := Lib.hid i14
        go_simp
        exact hK.out _ _ ⟨(keepB x2 (by decide)), (keepB x3 (by decide)), (keepB x6 (by decide)), (keepF i0.out (by decide)), (keepF i1.out (by decide)), (keepF i2.out (by decide)), (keepF i3.out (by decide)), (keepF i4.out (by decide)), (keepF i5.out (by decide)), (fun _ => put_eq (by omega)), (keepF i7.out (by decide)), (keepF i8.out (by decide)), (keepF i9.out (by decide)), (keepF i10.out (by decide)), (keepF i11.out (by decide)), (keepF i12.out (by decide)), (keepF i13.out (by decide)), (keepF i14.out (by decide)), hL, hS, B0, B1⟩
      · unfold SlotStep
        intro g ac wc hn hk hr hI K' hK
        obtain ⟨x2, x3, x6, i0, i1, i2, i3, i4, i5, i6, i7, i8, i9, i10, i11, i12, i13, i14, hL, hS, B0, B1⟩ := hI
        simp only [Region.binds] at hr
        simp at hr
        replace hK := Lib.hid hK
        have y6 := i6 (by first | exact hr | exact hr.1 | exact hr.2 | exact hr.2.1 | exact hr.2.2 | exact hr.2.2.1 | exact hr.2.2.2 | simp [hr])
        replace i0 := Lib.hid i0
        replace i1 := Lib.hid i1
        replace i2 := Lib.hid i2
        replace i3 := Lib.hid i3
        replace i4 := Lib.hid i4
        replace i5 := Lib.hid i5
        replace i6 := Lib.hid i6
        replace i7 := Lib.hid i7
        replace i8 := Lib.hid i8
        replace i9 := Lib.hid i9
        replace i10 := Lib.hid i10
        replace i11 := Lib.hid i11
        replace i12 := Lib.hid i12
        replace i13 := Lib.hid i13
        replace i14 := Lib.hid i14
        have hbb := blk_at B1
        have c0 := hbb.1
        have f0 := hbb.2.1
        have z0 := hbb.2.2
        clear hbb
        go_simp
        exact hK.out _ _ ⟨(keepB x2 (by decide)), (keepB x3 (by decide)), (keepB x6 (by decide)), (keepF i0.out (by decide)), (keepF i1.out (by decide)), (keepF i2.out (by decide)), (keepF i3.out (by decide)), (keepF i4.out (by decide)), (keepF i5.out (by decide)), (keepF i6.out (by decide)), (fun _ => put_eq (by omega)), (keepF i8.out (by decide)), (keepF i9.out (by decide)), (keepF i10.out (by decide)), (keepF i11.out (by decide)), (keepF i12.out (by decide)), (keepF i13.out (by decide)), (keepF i14.out (by decide)), hL, hS, B0, B1⟩
      · unfold SlotStep
        intro g ac wc hn hk hr hI K' hK
        obtain ⟨x2, x3, x6, i0, i1, i2, i3, i4, i5, i6, i7, i8, i9, i10, i11, i12, i13, i14, hL, hS, B0, B1⟩ := hI
        simp only [Region.binds] at hr
        simp at hr
        replace hK := Lib.hid hK
        replace i0 := Lib.hid i0
        replace i1 := Lib.hid i1
        replace i2 := Lib.hid i2
        replace i3 := Lib.hid i3
        replace i4 := Lib.hid i4
        replace i5 := Lib.hid i5
        replace i6 := Lib.hid i6
        replace i7 := Lib.hid i7
        replace i8 := Lib.hid i8
        replace i9 := Lib.hid i9
        replace i10 := Lib.hid i10
        replace i11 := Lib.hid i11
        replace i12 := Lib.hid i12
        replace i13 := Lib.hid i13
        replace i14 := Lib.hid i14
        go_simp
        exact hK.out _ _ ⟨(keepB x2 (by decide)), (keepB x3 (by decide)), (keepB x6 (by decide)), (keepF i0.out (by decide)), (keepF i1.out (by decide)), (keepF i2.out (by decide)), (keepF i3.out (by decide)), (keepF i4.out (by decide)), (keepF i5.out (by decide)), (keepF i6.out (by decide)), (keepF i7.out (by decide)), (fun _ => put_eq (by omega)), (keepF i9.out (by decide)), (keepF i10.out (by decide)), (keepF i11.out (by decide)), (keepF i12.out (by decide)), (keepF i13.out (by decide)), (keepF i14.out (by decide)), hL, hS, B0, B1⟩
      · unfold SlotStep
        intro g ac wc hn hk hr hI K' hK
        obtain ⟨x2, x3, x6, i0, i1, i2, i3, i4, i5, i6, i7, i8, i9, i10, i11, i12, i13, i14, hL, hS, B0, B1⟩ := hI
        simp only [Region.binds] at hr
        simp at hr
        replace hK := Lib.hid hK
        have y8 := i8 (by first | exact hr | exact hr.1 | exact hr.2 | exact hr.2.1 | exact hr.2.2 | exact hr.2.2.1 | exact hr.2.2.2 | simp [hr])
        replace i0 := Lib.hid i0
        replace i1 := Lib.hid i1
        replace i2 := Lib.hid i2
        replace i3 := Lib.hid i3
        replace i4 := Lib.hid i4
        replace i5 := Lib.hid i5
        replace i6 := Lib.hid i6
        replace i7 := Lib.hid i7
        replace i8 := Lib.hid i8
        replace i9 := Lib.hid i9
        replace i10 := Lib.hid i10
        replace i11 := Lib.hid i11
        replace i12 := Lib.hid i12
        replace i13 := Lib.hid i13
        replace i14 := Lib.hid i14
        have wD : IntKind.i64.wrap (-T) = -T := wrap_same (by omega) (by omega)
        go_simp
        exact hK.out _ _ ⟨(keepB x2 (by decide)), (keepB x3 (by decide)), (keepB x6 (by decide)), (keepF i0.out (by decide)), (keepF i1.out (by decide)), (keepF i2.out (by decide)), (keepF i3.out (by decide)), (keepF i4.out (by decide)), (keepF i5.out (by decide)), (keepF i6.out (by decide)), (keepF i7.out (by decide)), (keepF i8.out (by decide)), (fun _ => put_eq (by omega)), (keepF i10.out (by decide)), (keepF i11.out (by decide)), (keepF i12.out (by decide)), (keepF i13.out (by decide)), (keepF i14.out (by decide)), hL, hS, B0, B1⟩
      · unfold SlotStep
        intro g ac wc hn hk hr hI K' hK
        obtain ⟨x2, x3, x6, i0, i1, i2, i3, i4, i5, i6, i7, i8, i9, i10, i11, i12, i13, i14, hL, hS, B0, B1⟩ := hI
        simp only [Region.binds] at hr
        simp at hr
        replace hK := Lib.hid hK
        have y9 := i9 (by first | exact hr | exact hr.1 | exact hr.2 | exact hr.2.1 | exact hr.2.2 | exact hr.2.2.1 | exact hr.2.2.2 | simp [hr])
        replace i0 := Lib.hid i0
        replace i1 := Lib.hid i1
        replace i2 := Lib.hid i2
        replace i3 := Lib.hid i3
        replace i4 := Lib.hid i4
        replace i5 := Lib.hid i5
        replace i6 := Lib.hid i6
        replace i7 := Lib.hid i7
        replace i8 := Lib.hid i8
        replace i9 := Lib.hid i9
        replace i10 := Lib.hid i10
        replace i11 := Lib.hid i11
        replace i12 := Lib.hid i12
        replace i13 := Lib.hid i13
        replace i14 := Lib.hid i14
        go_simp
        first | rw [show (if T < 0 then -T else 0) = -T from by split <;> omega] | skip
        exact hK.out _ _ ⟨(keepB x2 (by decide)), (keepB x3 (by decide)), (keepB x6 (by decide)), (keepF i0.out (by decide)), (keepF i1.out (by decide)), (keepF i2.out (by decide)), (keepF i3.out (by decide)), (keepF i4.out (by decide)), (keepF i5.out (by decide)), (keepF i6.out (by decide)), (keepF i7.out (by decide)), (keepF i8.out (by decide)), (keepF i9.out (by decide)), (fun _ => put_eq (by omega)), (keepF i11.out (by decide)), (keepF i12.out (by decide)), (keepF i13.out (by decide)), (keepF i14.out (by decide)), hL, hS, B0, B1⟩
      · unfold SlotStep
        intro g ac wc hn hk hr hI K' hK
        obtain ⟨x2, x3, x6, i0, i1, i2, i3, i4, i5, i6, i7, i8, i9, i10, i11, i12, i13, i14, hL, hS, B0, B1⟩ := hI
        simp only [Region.binds] at hr
        simp at hr
        replace hK := Lib.hid hK
        have y10 := i10 (by first | exact hr | exact hr.1 | exact hr.2 | exact hr.2.1 | exact hr.2.2 | exact hr.2.2.1 | exact hr.2.2.2 | simp [hr])
        replace i0 := Lib.hid i0
        replace i1 := Lib.hid i1
        replace i2 := Lib.hid i2
        replace i3 := Lib.hid i3
        replace i4 := Lib.hid i4
        replace i5 := Lib.hid i5
        replace i6 := Lib.hid i6
        replace i7 := Lib.hid i7
        replace i8 := Lib.hid i8
        replace i9 := Lib.hid i9
        replace i10 := Lib.hid i10
        replace i11 := Lib.hid i11
        replace i12 := Lib.hid i12
        replace i13 := Lib.hid i13
        replace i14 := Lib.hid i14
        go_simp
        refine (w_ten _ (by omega) (by omega) _).mono ?_
        rintro e w4 ⟨rfl, rfl⟩
        exact hK.out _ _ ⟨(keepB x2 (by decide)), (keepB x3 (by decide)), (keepB x6 (by decide)), (keepF i0.out (by decide)), (keepF i1.out (by decide)), (keepF i2.out (by decide)), (keepF i3.out (by decide)), (keepF i4.out (by decide)), (keepF i5.out (by decide)), (keepF i6.out (by decide)), (keepF i7.out (by decide)), (keepF i8.out (by decide)), (keepF i9.out (by decide)), (keepF i10.out (by decide)), (fun _ => put_eq (by omega)), (keepF i12.out (by decide)), (keepF i13.out (by decide)), (keepF i14.out (by decide)), hL, hS, B0, B1⟩
      · unfold SlotStep
        intro g ac wc hn hk hr hI K' hK
        obtain ⟨x2, x3, x6, i0, i1, i2, i3, i4, i5, i6, i7, i8, i9, i10, i11, i12, i13, i14, hL, hS, B0, B1⟩ := hI
        simp only [Region.binds] at hr
        simp at hr
        replace hK := Lib.hid hK
        have y7 := i7 (by first | exact hr | exact hr.1 | exact hr.2 | exact hr.2.1 | exact hr.2.2 | exact hr.2.2.1 | exact hr.2.2.2 | simp [hr])
        have y11 := i11 (by first | exact hr | exact hr.1 | exact hr.2 | exact hr.2.1 | exact hr.2.2 | exact hr.2.2.1 | exact hr.2.2.2 | simp [hr])
        replace i0 := Lib.hid i0
        replace i1 := Lib.hid i1
        replace i2 := Lib.hid i2
        replace i3 := Lib.hid i3
        replace i4 := Lib.hid i4
        replace i5 := Lib.hid i5
        replace i6 := Lib.hid i6
        replace i7 := Lib.hid i7
        replace i8 := Lib.hid i8
        replace i9 := Lib.hid i9
        replace i10 := Lib.hid i10
        replace i11 := Lib.hid i11
        replace i12 := Lib.hid i12
        replace i13 := Lib.hid i13
        replace i14 := Lib.hid i14
        have wD : IntKind.i64.wrap (c * p10 (-T)) = D := by rw [HD.out]; exact wrap_same (by omega) (by omega)
        go_simp
        exact hK.out _ _ ⟨(keepB x2 (by decide)), (keepB x3 (by decide)), (keepB x6 (by decide)), (keepF i0.out (by decide)), (keepF i1.out (by decide)), (keepF i2.out (by decide)), (keepF i3.out (by decide)), (keepF i4.out (by decide)), (keepF i5.out (by decide)), (keepF i6.out (by decide)), (keepF i7.out (by decide)), (keepF i8.out (by decide)), (keepF i9.out (by decide)), (keepF i10.out (by decide)), (keepF i11.out (by decide)), (fun _ => put_eq (by omega)), (keepF i13.out (by decide)), (keepF i14.out (by decide)), hL, hS, B0, B1⟩
      · unfold SlotStep
        intro g ac wc hn hk hr hI K' hK
        obtain ⟨x2, x3, x6, i0, i1, i2, i3, i4, i5, i6, i7, i8, i9, i10, i11, i12, i13, i14, hL, hS, B0, B1⟩ := hI
        simp only [Region.binds] at hr
        simp at hr
        replace hK := Lib.hid hK
        have y5 := i5 (by first | exact hr | exact hr.1 | exact hr.2 | exact hr.2.1 | exact hr.2.2 | exact hr.2.2.1 | exact hr.2.2.2 | simp [hr])
        replace i0 := Lib.hid i0
        replace i1 := Lib.hid i1
        replace i2 := Lib.hid i2
        replace i3 := Lib.hid i3
        replace i4 := Lib.hid i4
        replace i5 := Lib.hid i5
        replace i6 := Lib.hid i6
        replace i7 := Lib.hid i7
        replace i8 := Lib.hid i8
        replace i9 := Lib.hid i9
        replace i10 := Lib.hid i10
        replace i11 := Lib.hid i11
        replace i12 := Lib.hid i12
        replace i13 := Lib.hid i13
        replace i14 := Lib.hid i14
        go_simp
        exact hK.out _ _ ⟨(keepB x2 (by decide)), (keepB x3 (by decide)), (keepB x6 (by decide)), (keepF i0.out (by decide)), (keepF i1.out (by decide)), (keepF i2.out (by decide)), (keepF i3.out (by decide)), (keepF i4.out (by decide)), (keepF i5.out (by decide)), (keepF i6.out (by decide)), (keepF i7.out (by decide)), (keepF i8.out (by decide)), (keepF i9.out (by decide)), (keepF i10.out (by decide)), (keepF i11.out (by decide)), (keepF i12.out (by decide)), (fun _ => put_eq (by omega)), (keepF i14.out (by decide)), hL, hS, B0, B1⟩
      · unfold SlotStep
        intro g ac wc hn hk hr hI K' hK
        obtain ⟨x2, x3, x6, i0, i1, i2, i3, i4, i5, i6, i7, i8, i9, i10, i11, i12, i13, i14, hL, hS, B0, B1⟩ := hI
        simp only [Region.binds] at hr
        simp at hr
        replace hK := Lib.hid hK
        have y12 := i12 (by first | exact hr | exact hr.1 | exact hr.2 | exact hr.2.1 | exact hr.2.2 | exact hr.2.2.1 | exact hr.2.2.2 | simp [hr])
        replace i0 := Lib.hid i0
        replace i1 := Lib.hid i1
        replace i2 := Lib.hid i2
        replace i3 := Lib.hid i3
        replace i4 := Lib.hid i4
        replace i5 := Lib.hid i5
        replace i6 := Lib.hid i6
        replace i7 := Lib.hid i7
        replace i8 := Lib.hid i8
        replace i9 := Lib.hid i9
        replace i10 := Lib.hid i10
        replace i11 := Lib.hid i11
        replace i12 := Lib.hid i12
        replace i13 := Lib.hid i13
        replace i14 := Lib.hid i14
        go_simp
        exact hK.out _ _ ⟨(keepB x2 (by decide)), (keepB x3 (by decide)), (keepB x6 (by decide)), (keepF i0.out (by decide)), (keepF i1.out (by decide)), (keepF i2.out (by decide)), (keepF i3.out (by decide)), (keepF i4.out (by decide)), (keepF i5.out (by decide)), (keepF i6.out (by decide)), (keepF i7.out (by decide)), (keepF i8.out (by decide)), (keepF i9.out (by decide)), (keepF i10.out (by decide)), (keepF i11.out (by decide)), (keepF i12.out (by decide)), (keepF i13.out (by decide)), (fun _ => put_eq (by omega)), hL, hS, B0, B1⟩

end Go.Proofs.YtldojpelnghplaaGreat
