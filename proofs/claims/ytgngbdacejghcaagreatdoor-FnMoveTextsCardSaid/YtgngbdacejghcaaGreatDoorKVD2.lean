/- DERIVED. Walks: numbers and figures as text. -/
import Derived.Lib.SmallJoins
import Derived.Lib.ItoaNum
import Derived.Lib.AppendIntMem
import Derived.Laws.IdiomStrings
import Derived.Laws.Concat
import Derived.Test.YtgngbdacejghcaaGreatDoorKVD1
import Derived.Test.YtgngbdacejghcaaGreatDoorKVBA
namespace Go.Proofs.YtgngbdacejghcaaGreatDoor
set_option linter.unusedVariables false
set_option linter.unusedSimpArgs false
open Go.RowKit
set_option maxRecDepth 100000
set_option linter.unusedVariables false
abbrev sv (l : List UInt8) : Value := .string ⟨l.toArray⟩
def PTab (w : World) : Prop := Lib.TabIs Tryz.prog w "internal/strconv.uint64pow10" .u64 Lib.pow10Tab
theorem pt_g : Tryz.prog.globalNamed "internal/strconv.uint64pow10" = some 0 := by kernel_rfl
theorem PTab.later {w w' : World} (h : PTab w) (hl : Later w w') : PTab w' := Go.Joins.tab_stays pt_g h hl (Nat.le_refl _)
theorem w_decimal (n : Int) (h0 : -9223372036854775808 ≤ n) (h1 : n ≤ 9223372036854775807) (w : World) (ht : PTab w) :
 Calls Tryz.prog 55 #[.int .i64 n] w fun e w' => e = .returned (sv (Lib.itoa n)) ∧ Later w w' := by
 go_enter Tryz.func55, Tryz.ntmps55
 go_wp2_with fail
 refine (Tryz.strconv_FormatInt_10 n h0 h1 _ ht).mono ?_
 rintro e w' ⟨rfl, k, os, rfl⟩
 go_wp2
 go_ret
 exact ⟨rfl, Lib.below_grow _ _ (Nat.le_refl _) _ _⟩
theorem nd_le : ∀ (k u : Nat), u < 10 ^ (k + 1) → Lib.nDigits u ≤ k + 1
 | 0, u, h => by rw [Lib.nDigits_small (by simpa using h)]; omega
 | k + 1, u, h => by
  by_cases hu : u < 10
  · rw [Lib.nDigits_small hu]; omega
  · rw [Lib.nDigits_big hu]
    have := nd_le k (u / 10) (by rw [Nat.pow_succ] at h; omega)
    omega
theorem dec_len {u k : Nat} (h : u < 10 ^ (k + 1)) : (Lib.decDigits u).length ≤ k + 1 := by
 rw [Lib.decDigits_length]
 exact nd_le k u h
theorem dec19 {u : Nat} (h : u ≤ 9223372036854775807) : (Lib.decDigits u).length ≤ 19 := dec_len (k := 18) (by omega)
theorem byte_wrap (n : Nat) (h : n < 10) : IntKind.u8.wrap (48 + (n : Int)) = 48 + (n : Int) := by
 simp only [IntKind.wrap, IntKind.bits, IntKind.signed]
 simp
 omega
def dgt (n : Nat) : UInt8 := UInt8.ofNat (48 + n)
theorem byte_nat (n : Nat) (h : n < 10) : ((dgt n).toNat : Int) = 48 + (n : Int) := by
 simp [dgt]
 omega
theorem tmod10 (n : Nat) : (n : Int).tmod 10 = ((n % 10 : Nat) : Int) := by
 rw [Int.tmod_eq_emod_of_nonneg (by omega)]; omega
theorem back1 (w : World) (a : Addr) (cap : Nat) (n : Nat) (h : n < 10) (hc : w.cell? (a.add 0) = some (.int .u8 (48 + (n : Int)))) :
 (convert 22 9 (.slice (some a) 1 cap)).run Tryz.prog w = .ok (sv [dgt n]) w :=
 run_convert_bytes_back w _ _ 5 a cap [dgt n] Tryz.underlying22 Tryz.underlying5 Tryz.underlying9 (fun j hj => by
  obtain rfl : j = 0 := by simp at hj; omega
  rw [hc]
  exact congrArg (fun z => some (Value.int .u8 z)) (byte_nat n h).symm)
theorem wrapI {n : Int} (h1 : -9223372036854775808 ≤ n) (h2 : n ≤ 9223372036854775807) : IntKind.i64.wrap n = n := by
 simp only [IntKind.wrap, IntKind.bits, IntKind.signed]
 simp
 omega
theorem wrapN {n : Nat} (h : n ≤ 9223372036854775807) : IntKind.i64.wrap (n : Int) = (n : Int) := by
 simp only [IntKind.wrap, IntKind.bits, IntKind.signed]
 simp
 omega
set_option maxHeartbeats 2000000 in
theorem w_l01Dec_all : ∀ (k n : Nat), n < k → n ≤ 9223372036854775807 → ∀ w : World,
 Calls Tryz.prog 106 #[.int .i64 (n : Int)] w fun e w' => e = .returned (sv (Lib.decDigits n)) ∧ Later w w'
 | 0, n, h, _, _ => absurd h (by omega)
 | k + 1, n, hnk, hnm, w => by
  have ih : ∀ m : Nat, m < k → m ≤ 9223372036854775807 → ∀ w : World, Calls Tryz.prog 106 #[.int .i64 (m : Int)] w fun e w' => e = .returned (sv (Lib.decDigits m)) ∧ Later w w' := fun m a b w => w_l01Dec_all k m a b w
  by_cases hlt : n < 10
  · have hb : decide ((n : Int) < 10) = true := by simp; omega
    have wq : IntKind.i64.wrap (48 + (n : Int)) = 48 + (n : Int) := wrapI (by omega) (by omega)
    have wb := byte_wrap n hlt
    have hv := back1 (w.alloc (.cells #[.int .u8 (48 + (n : Int))] 5)) ⟨w.heap.size, 0, none⟩ 1 n hlt (by simp [Addr.add])
    go_enter Tryz.func106, Tryz.ntmps106
    go_wp2
    go_ret
    exact ⟨by rw [Lib.decDigits_one hlt]; rfl, (Later.refl _).alloc _⟩
  · have hb : decide ((n : Int) < 10) = false := by simp; omega
    obtain ⟨q, hqd⟩ : ∃ q, q = n / 10 := ⟨_, rfl⟩
    obtain ⟨r, hrd⟩ : ∃ r, r = n % 10 := ⟨_, rfl⟩
    have IH := Lib.hid (ih q (by omega) (by omega))
    have hr9 : r < 10 := by omega
    have hq9 : q ≤ 9223372036854775807 := by omega
    have TD : Hid ((n : Int) / 10 = (q : Int)) := Lib.hid (by omega)
    have TM : Hid ((n : Int).tmod 10 = (r : Int)) := Lib.hid (by rw [tmod10, hrd])
    have EE : Hid (Lib.decDigits n = Lib.decDigits q ++ [dgt r]) := Lib.hid (by rw [Lib.decDigits, dif_neg hlt, hqd, hrd]; rfl)
    clear hqd hrd
    have hL0 := Later.refl w
    have hSB : w.heap.size ≤ w.heap.size := Nat.le_refl _
    go_enter Tryz.func106, Tryz.ntmps106
    go_wp2_with fail
    refine region_slots 20 [10, 11, 12, 13, 14, 15, 16, 17, 18, 19, 2] (fun g ac wc => sl ac 0 = .int .i64 (n : Int) ∧
     (g 0 = true → sl ac 10 = .int .i64 (n : Int)) ∧
     (g 1 = true → sl ac 11 = .int .i64 (q : Int)) ∧
     (g 2 = true → sl ac 12 = sv (Lib.decDigits q)) ∧
     (g 3 = true → sl ac 13 = .int .i64 (n : Int)) ∧
     (g 4 = true → sl ac 14 = .int .i64 (r : Int)) ∧
     (g 5 = true → sl ac 15 = .int .i64 (48 + (r : Int))) ∧
     (g 6 = true → sl ac 16 = .int .u8 (48 + (r : Int))) ∧
     (g 8 = true → sl ac 18 = sv [dgt (r)]) ∧
     (g 9 = true → sl ac 19 = sv (Lib.decDigits q ++ [dgt (r)])) ∧
     (g 10 = true → sl ac 2 = sv (Lib.decDigits q ++ [dgt (r)])) ∧
     Later w wc ∧
     (g 7 = true → (∃ k, sl ac 17 = .slice (some ⟨k, 0, none⟩) 1 1) ∧ (g 8 = false → wc.ownsRow w.heap.size 5 1 (sl ac 17) (1) ([.int .u8 (48 + (r : Int))]))) ∧
     w.heap.size ≤ wc.heap.size) (by kernel_rfl) (by kernel_rfl) rfl (by kernel_rfl) ?_ ?_ ?_
    · exact ⟨rfl, nofun, nofun, nofun, nofun, nofun, nofun, nofun, nofun, nofun, nofun, hL0.drew, nofun, Nat.le_refl _⟩
    · intro g ac wu hg ha hI
      obtain ⟨x0, i0, i1, i2, i3, i4, i5, i6, i8, i9, i10, hL, p7, hS⟩ := hI
      obtain ⟨⟨kr7, e7⟩, -⟩ := p7 (hg 7 (by simp))
      have a0 := i0 (hg 0 (by simp))
      have a1 := i1 (hg 1 (by simp))
      have a2 := i2 (hg 2 (by simp))
      have a3 := i3 (hg 3 (by simp))
      have a4 := i4 (hg 4 (by simp))
      have a5 := i5 (hg 5 (by simp))
      have a6 := i6 (hg 6 (by simp))
      have a8 := i8 (hg 8 (by simp))
      have a9 := i9 (hg 9 (by simp))
      have a10 := i10 (hg 10 (by simp))
      simp only [putAll, e7, a0, a1, a2, a3, a4, a5, a6, a8, a9, a10] at ha
      simp only [Act.put, List.setIfInBounds_toArray, List.set_cons_succ, List.set_cons_zero] at ha
      rw [ha]
      clear x0 i0 i1 i2 i3 i4 i5 i6 i8 i9 i10 a0 a1 a2 a3 a4 a5 a6 a8 a9 a10 p7 e7 hg ha
      rw [← EE.out]
      go_wp2
      go_ret
      exact ⟨rfl, hL⟩
    · refine .cons ?_ (.cons ?_ (.cons ?_ (.cons ?_ (.cons ?_ (.cons ?_ (.cons ?_ (.cons ?_ (.cons ?_ (.cons ?_ (.cons ?_ .nil))))))))))
      · refine qst fun g ac wc hn hk hr HI K' hK => ?_
        obtain ⟨x0, i0, i1, i2, i3, i4, i5, i6, i8, i9, i10, hL, p7, hS⟩ := HI.out
        simp [Region.binds] at hr
        clear i0 i1 i2 i3 i4 i5 i6 i8 i9 i10 p7
        go_simp
        obtain ⟨-, i0, i1, i2, i3, i4, i5, i6, i8, i9, i10, -, p7, -⟩ := HI.out
        exact hK.out _ _ ⟨qB x0, qP, qF i1, qF i2, qF i3, qF i4, qF i5, qF i6, qF i8, qF i9, qF i10, hL, (fun h => by obtain ⟨hs, ho⟩ := p7 h; exact ⟨(by rw [put_ne (show 17 ≠ 10 by decide)]; exact hs), fun ht => by have ho := ho ht; exact (by rw [put_ne (show 17 ≠ 10 by decide)]; exact ho)⟩), hS⟩
      · refine qst fun g ac wc hn hk hr HI K' hK => ?_
        obtain ⟨x0, i0, i1, i2, i3, i4, i5, i6, i8, i9, i10, hL, p7, hS⟩ := HI.out
        simp [Region.binds] at hr
        have y0 := i0 (by simp [hr])
        have z0 := sl_get y0 (by omega)
        clear i0 i1 i2 i3 i4 i5 i6 i8 i9 i10 p7
        have td := TD.out
        have wq : IntKind.i64.wrap (q : Int) = (q : Int) := wrapN (by omega)
        go_simp
        obtain ⟨-, i0, i1, i2, i3, i4, i5, i6, i8, i9, i10, -, p7, -⟩ := HI.out
        exact hK.out _ _ ⟨qB x0, qF i0, qP, qF i2, qF i3, qF i4, qF i5, qF i6, qF i8, qF i9, qF i10, hL, (fun h => by obtain ⟨hs, ho⟩ := p7 h; exact ⟨(by rw [put_ne (show 17 ≠ 11 by decide)]; exact hs), fun ht => by have ho := ho ht; exact (by rw [put_ne (show 17 ≠ 11 by decide)]; exact ho)⟩), hS⟩
      · refine qst fun g ac wc hn hk hr HI K' hK => ?_
        obtain ⟨x0, i0, i1, i2, i3, i4, i5, i6, i8, i9, i10, hL, p7, hS⟩ := HI.out
        simp [Region.binds] at hr
        have y1 := i1 (by simp [hr])
        clear i0 i1 i2 i3 i4 i5 i6 i8 i9 i10 p7
        go_simp
        refine (IH.out _).mono ?_
        rintro e w4 ⟨rfl, hL4⟩
        obtain ⟨-, i0, i1, i2, i3, i4, i5, i6, i8, i9, i10, -, p7, -⟩ := HI.out
        exact hK.out _ _ ⟨qB x0, qF i0, qF i1, qP, qF i3, qF i4, qF i5, qF i6, qF i8, qF i9, qF i10, hL.trans hL4, (fun h => by obtain ⟨hs, ho⟩ := p7 h; exact ⟨(by rw [put_ne (show 17 ≠ 12 by decide)]; exact hs), fun ht => by have ho := ho ht; exact (by rw [put_ne (show 17 ≠ 12 by decide)]; exact (owns_later ho hL4))⟩), Nat.le_trans hS hL4.size⟩
      · refine qst fun g ac wc hn hk hr HI K' hK => ?_
        obtain ⟨x0, i0, i1, i2, i3, i4, i5, i6, i8, i9, i10, hL, p7, hS⟩ := HI.out
        simp [Region.binds] at hr
        clear i0 i1 i2 i3 i4 i5 i6 i8 i9 i10 p7
        go_simp
        obtain ⟨-, i0, i1, i2, i3, i4, i5, i6, i8, i9, i10, -, p7, -⟩ := HI.out
        exact hK.out _ _ ⟨qB x0, qF i0, qF i1, qF i2, qP, qF i4, qF i5, qF i6, qF i8, qF i9, qF i10, hL, (fun h => by obtain ⟨hs, ho⟩ := p7 h; exact ⟨(by rw [put_ne (show 17 ≠ 13 by decide)]; exact hs), fun ht => by have ho := ho ht; exact (by rw [put_ne (show 17 ≠ 13 by decide)]; exact ho)⟩), hS⟩
      · refine qst fun g ac wc hn hk hr HI K' hK => ?_
        obtain ⟨x0, i0, i1, i2, i3, i4, i5, i6, i8, i9, i10, hL, p7, hS⟩ := HI.out
        simp [Region.binds] at hr
        have y3 := i3 (by simp [hr])
        have z3 := sl_get y3 (by omega)
        clear i0 i1 i2 i3 i4 i5 i6 i8 i9 i10 p7
        have td := TM.out
        have wq : IntKind.i64.wrap (r : Int) = (r : Int) := wrapN (by omega)
        go_simp
        obtain ⟨-, i0, i1, i2, i3, i4, i5, i6, i8, i9, i10, -, p7, -⟩ := HI.out
        exact hK.out _ _ ⟨qB x0, qF i0, qF i1, qF i2, qF i3, qP, qF i5, qF i6, qF i8, qF i9, qF i10, hL, (fun h => by obtain ⟨hs, ho⟩ := p7 h; exact ⟨(by rw [put_ne (show 17 ≠ 14 by decide)]; exact hs), fun ht => by have ho := ho ht; exact (by rw [put_ne (show 17 ≠ 14 by decide)]; exact ho)⟩), hS⟩
      · refine qst fun g ac wc hn hk hr HI K' hK => ?_
        obtain ⟨x0, i0, i1, i2, i3, i4, i5, i6, i8, i9, i10, hL, p7, hS⟩ := HI.out
        simp [Region.binds] at hr
        have y4 := i4 (by simp [hr])
        have z4 := sl_get y4 (by omega)
        clear i0 i1 i2 i3 i4 i5 i6 i8 i9 i10 p7
        have wq : IntKind.i64.wrap (48 + (r : Int)) = 48 + (r : Int) := wrapI (by omega) (by omega)
        go_simp
        obtain ⟨-, i0, i1, i2, i3, i4, i5, i6, i8, i9, i10, -, p7, -⟩ := HI.out
        exact hK.out _ _ ⟨qB x0, qF i0, qF i1, qF i2, qF i3, qF i4, qP, qF i6, qF i8, qF i9, qF i10, hL, (fun h => by obtain ⟨hs, ho⟩ := p7 h; exact ⟨(by rw [put_ne (show 17 ≠ 15 by decide)]; exact hs), fun ht => by have ho := ho ht; exact (by rw [put_ne (show 17 ≠ 15 by decide)]; exact ho)⟩), hS⟩
      · refine qst fun g ac wc hn hk hr HI K' hK => ?_
        obtain ⟨x0, i0, i1, i2, i3, i4, i5, i6, i8, i9, i10, hL, p7, hS⟩ := HI.out
        simp [Region.binds] at hr
        have y5 := i5 (by simp [hr])
        have z5 := sl_get y5 (by omega)
        clear i0 i1 i2 i3 i4 i5 i6 i8 i9 i10 p7
        have wq := byte_wrap r hr9
        go_simp
        obtain ⟨-, i0, i1, i2, i3, i4, i5, i6, i8, i9, i10, -, p7, -⟩ := HI.out
        exact hK.out _ _ ⟨qB x0, qF i0, qF i1, qF i2, qF i3, qF i4, qF i5, qP, qF i8, qF i9, qF i10, hL, (fun h => by obtain ⟨hs, ho⟩ := p7 h; exact ⟨(by rw [put_ne (show 17 ≠ 16 by decide)]; exact hs), fun ht => by have ho := ho ht; exact (by rw [put_ne (show 17 ≠ 16 by decide)]; exact ho)⟩), hS⟩
      · refine qst fun g ac wc hn hk hr HI K' hK => ?_
        obtain ⟨x0, i0, i1, i2, i3, i4, i5, i6, i8, i9, i10, hL, p7, hS⟩ := HI.out
        simp [Region.binds] at hr
        have y6 := i6 (by simp [hr])
        have z6 := sl_get y6 (by omega)
        clear i0 i1 i2 i3 i4 i5 i6 i8 i9 i10 p7
        go_simp
        have hL4 := (Later.refl wc).alloc (.cells #[.int .u8 (48 + (r : Int))] 5)
        obtain ⟨-, i0, i1, i2, i3, i4, i5, i6, i8, i9, i10, -, p7, -⟩ := HI.out
        exact hK.out _ _ ⟨qB x0, qF i0, qF i1, qF i2, qF i3, qF i4, qF i5, qF i6, qF i8, qF i9, qF i10, hL.alloc _, (fun _ => ⟨⟨wc.heap.size, put_eq (by omega)⟩, fun _ => by rw [put_eq (by omega)]; exact World.ownsRow_lit wc #[.int .u8 (48 + (r : Int))] 1 hS (by decide) (by simp)⟩), (by simp; omega)⟩
      · refine qst fun g ac wc hn hk hr HI K' hK => ?_
        obtain ⟨x0, i0, i1, i2, i3, i4, i5, i6, i8, i9, i10, hL, p7, hS⟩ := HI.out
        simp [Region.binds] at hr
        obtain ⟨⟨kk7, y7⟩, ho7⟩ := p7 (by simp [hr])
        have ho7 := ho7 hk
        rw [y7] at ho7
        have z7 := sl_get y7 (by omega)
        clear i0 i1 i2 i3 i4 i5 i6 i8 i9 i10 p7
        have hv := back1 wc ⟨kk7, 0, none⟩ 1 r hr9 (row_add ho7 0 _ rfl)
        go_simp
        obtain ⟨-, i0, i1, i2, i3, i4, i5, i6, i8, i9, i10, -, p7, -⟩ := HI.out
        exact hK.out _ _ ⟨qB x0, qF i0, qF i1, qF i2, qF i3, qF i4, qF i5, qF i6, qP, qF i9, qF i10, hL, (fun h => by obtain ⟨hs, ho⟩ := p7 h; exact ⟨(by rw [put_ne (show 17 ≠ 18 by decide)]; exact hs), fun h => absurd h (by simp)⟩), hS⟩
      · refine qst fun g ac wc hn hk hr HI K' hK => ?_
        obtain ⟨x0, i0, i1, i2, i3, i4, i5, i6, i8, i9, i10, hL, p7, hS⟩ := HI.out
        simp [Region.binds] at hr
        have y2 := i2 (by simp [hr])
        have y8 := i8 (by simp [hr])
        have z2 := sl_get y2 (by omega)
        have z8 := sl_get y8 (by omega)
        clear i0 i1 i2 i3 i4 i5 i6 i8 i9 i10 p7
        have hd : (9223372036854775807 < (Lib.decDigits q).length + 1) = False := by have := dec19 hq9; simp; omega
        go_simp
        rw [ByteArray.mk_append_mk]
        obtain ⟨-, i0, i1, i2, i3, i4, i5, i6, i8, i9, i10, -, p7, -⟩ := HI.out
        exact hK.out _ _ ⟨qB x0, qF i0, qF i1, qF i2, qF i3, qF i4, qF i5, qF i6, qF i8, qP, qF i10, hL, (fun h => by obtain ⟨hs, ho⟩ := p7 h; exact ⟨(by rw [put_ne (show 17 ≠ 19 by decide)]; exact hs), fun ht => by have ho := ho ht; exact (by rw [put_ne (show 17 ≠ 19 by decide)]; exact ho)⟩), hS⟩
      · refine qst fun g ac wc hn hk hr HI K' hK => ?_
        obtain ⟨x0, i0, i1, i2, i3, i4, i5, i6, i8, i9, i10, hL, p7, hS⟩ := HI.out
        simp [Region.binds] at hr
        have y9 := i9 (by simp [hr])
        have z9 := sl_get y9 (by omega)
        clear i0 i1 i2 i3 i4 i5 i6 i8 i9 i10 p7
        go_simp
        obtain ⟨-, i0, i1, i2, i3, i4, i5, i6, i8, i9, i10, -, p7, -⟩ := HI.out
        exact hK.out _ _ ⟨qB x0, qF i0, qF i1, qF i2, qF i3, qF i4, qF i5, qF i6, qF i8, qF i9, qP, hL, (fun h => by obtain ⟨hs, ho⟩ := p7 h; exact ⟨(by rw [put_ne (show 17 ≠ 2 by decide)]; exact hs), fun ht => by have ho := ho ht; exact (by rw [put_ne (show 17 ≠ 2 by decide)]; exact ho)⟩), hS⟩
theorem w_l01Dec (n : Nat) (hn : n ≤ 9223372036854775807) (w : World) :
 Calls Tryz.prog 106 #[.int .i64 (n : Int)] w fun e w' => e = .returned (sv (Lib.decDigits n)) ∧ Later w w' := w_l01Dec_all (n + 1) n (by omega) hn w
theorem w_l01Number (n : Int) (h0 : -9223372036854775807 ≤ n) (h1 : n ≤ 9223372036854775807) (w : World) :
 Calls Tryz.prog 158 #[.int .i64 n] w fun e w' => e = .returned (sv (Lib.itoa n)) ∧ Later w w' := by
 by_cases hn : n < 0
 · have hb : decide (n < 0) = true := by simpa using hn
   obtain ⟨m, hm⟩ : ∃ m : Nat, -n = m := ⟨n.natAbs, by omega⟩
   have wq : IntKind.i64.wrap (-n) = (m : Int) := by rw [hm]; exact wrapN (by omega)
   have ei : Lib.itoa n = [45] ++ Lib.decDigits m := by rw [Lib.itoa, if_pos hn, show n.natAbs = m by omega]; rfl
   have hd : (9223372036854775807 < 1 + (Lib.decDigits m).length) = False := by have := dec19 (u := m) (by omega); simp; omega
   go_enter Tryz.func158, Tryz.ntmps158
   go_wp2_with fail
   refine (w_l01Dec m (by omega) _).mono ?_
   rintro e w' ⟨rfl, hL⟩
   go_wp2
   go_ret
   exact ⟨by rw [ei]; exact congrArg (fun z => Ending.returned (Value.string z)) (ByteArray.mk_append_mk [45] (Lib.decDigits m)), hL⟩
 · have hb : decide (n < 0) = false := by simpa using hn
   obtain ⟨m, rfl⟩ : ∃ m : Nat, n = m := ⟨n.toNat, by omega⟩
   have ei : Lib.itoa (m : Int) = Lib.decDigits m := by rw [Lib.itoa, if_neg hn]; rfl
   go_enter Tryz.func158, Tryz.ntmps158
   go_wp2_with fail
   refine (w_l01Dec m (by omega) _).mono ?_
   rintro e w' ⟨rfl, hL⟩
   go_wp2
   go_ret
   exact ⟨by rw [ei]; rfl, hL⟩
end Go.Proofs.YtgngbdacejghcaaGreatDoor
