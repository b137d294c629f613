/- DERIVED. Walks: a text changed a little. -/
import Derived.BigQuiet
import Derived.Laws.Strings2
import Derived.Test.YtgngbdacejghcaaGreatDoorKVD7
import Derived.Test.YtgngbdacejghcaaGreatDoorKVM101
namespace Go.Proofs.YtgngbdacejghcaaGreatDoor
set_option linter.unusedVariables false
set_option linter.unusedSimpArgs false
open Go.RowKit
set_option maxRecDepth 100000
set_option linter.unusedVariables false
def NewT (w : World) (B : Nat) (v : Value) (n : Nat) : Prop := ∃ (b : Nat) (xs : List (List UInt8)), v = .slice (some ⟨b, 0, none⟩) n n ∧ B ≤ b ∧ b < w.heap.size ∧ xs.length = n ∧ (∀ x ∈ xs, x.length ≤ 1) ∧ w.heap[b]? = some (.cells (strs xs).toArray 9 (0, 0))
theorem NewT.drawn {w w' : World} {B n k : Nat} {v : Value} (h : NewT w B v n) (hd : Drawn w w' k) (hk : k < B) : NewT w' B v n := by
 obtain ⟨b, xs, h1, h2, h3, h4, h5, h6⟩ := h
 exact ⟨b, xs, h1, h2, Nat.lt_of_lt_of_le h3 hd.size, h4, h5, hd.keep h6 (by omega)⟩
theorem NewT.later {w w' : World} {B n : Nat} {v : Value} (h : NewT w B v n) (hl : Later w w') : NewT w' B v n := by
 obtain ⟨b, xs, h1, h2, h3, h4, h5, h6⟩ := h
 exact ⟨b, xs, h1, h2, Nat.lt_of_lt_of_le h3 hl.size, h4, h5, hl.keep h6⟩
theorem NewT.mk {w : World} {B : Nat} (hB : B ≤ w.heap.size) (xs : List (List UInt8)) (hx : ∀ x ∈ xs, x.length ≤ 1) : NewT (w.alloc (.cells (strs xs).toArray 9)) B (.slice (some ⟨w.heap.size, 0, none⟩) xs.length xs.length) xs.length :=
 ⟨w.heap.size, xs, rfl, hB, by simp, rfl, hx, heap_alloc_new _ _⟩
def PtrT (w : World) (v : Value) : Prop := ∃ (b o : Nat) (X : List UInt8), v = .pointer (some ⟨b, o, none⟩) ∧ X.length ≤ 1 ∧ w.cell? ⟨b, o, none⟩ = some (sv X)
def chars8 : List (List UInt8) := [[48], [35], [46], [47], [32], [97], [45], [10]]
set_option maxHeartbeats 4000000 in
theorem w_l01Damage (k : Nat) (c : Value) (t : List UInt8) (ht : t.length ≤ 100000) (w : World) (h : Src w k c) :
 Calls Tryz.prog 61 #[.pointer (some ⟨k, 0, none⟩), sv t] w fun e w' => ∃ t' : List UInt8, e = .returned (sv t') ∧ t'.length ≤ t.length + 1 ∧ Drawn w w' k ∧ Src w' k c := by
 have hk := h.lt
 have wl : IntKind.i64.wrap ((t.length : Int) + 1) = (t.length : Int) + 1 := wrapI (by omega) (by omega)
 go_enter Tryz.func61, Tryz.ntmps61
 go_wp2_with fail
 refine (w_l01Next k c ((t.length : Int) + 1) _ qsh).mono ?_
 rintro e w1 ⟨x1, rfl, x1a, x1b, hD, hS1⟩
 have hz1 : w.heap.size ≤ w1.heap.size := qsz hD.size
 have hD1 : Drawn w w1 k := Drawn.trans qdh hD
 clear hD
 go_wp2_with fail
 refine (w_l01Next k c 8 _ qsh).mono ?_
 rintro e w2 ⟨x2, rfl, x2a, x2b, hD, hS2⟩
 have hz2 : w1.heap.size ≤ w2.heap.size := qsz hD.size
 have hD2 : Drawn w w2 k := Drawn.trans qdh hD
 clear hD
 obtain ⟨K, rfl⟩ : ∃ K : Nat, x1 = (K : Int) := ⟨x1.toNat, by omega⟩
 have hK : K ≤ t.length := by omega
 obtain ⟨A, hA⟩ : ∃ A, t.take K = A := ⟨_, rfl⟩
 obtain ⟨Z, hZ⟩ : ∃ Z, t.drop K = Z := ⟨_, rfl⟩
 have hx1 : (ByteArray.mk t.toArray).extract 0 K = ByteArray.mk A.toArray := by rw [ByteArray.extract_mk, List.drop_zero, Nat.sub_zero, hA]
 have hx2 : (ByteArray.mk t.toArray).extract K t.length = ByteArray.mk Z.toArray := by rw [ByteArray.extract_mk, List.take_of_length_le (by simp), hZ]
 have hAl : A.length = K := by rw [← hA]; simp; omega
 have hZl : Z.length = t.length - K := by rw [← hZ]; simp
 have HAl := Lib.hid hAl
 have HZl := Lib.hid hZl
 clear hA hZ x1b hAl hZl
 by_cases hq : x2 = 0
 · skip
   subst hq
   go_wp2
   go_ret
   exact ⟨A, rfl, by have := HAl.out; omega, qdh, qsh⟩
 have hqb : (x2 == 0) = false := by simpa using hq
 by_cases hq1 : x2 = 1
 · skip
   subst hq1
   go_wp2_with fail
   obtain ⟨B, hBe, hBi⟩ : ∃ B, B = w2.heap.size ∧ w.heap.size ≤ B := ⟨_, rfl, hD2.size⟩
   have hZ0 : B ≤ w2.drew.heap.size := Nat.le_of_eq hBe
   have hD0 := hD2
   have hS0 := hS2
   refine region_slots 48 [20, 21, 22, 23, 24, 25, 26, 27, 28, 29, 30, 31, 32, 4] (fun g ac wc => sl ac 0 = .pointer (some ⟨k, 0, none⟩) ∧
    sl ac 1 = sv t ∧
    sl ac 5 = .int .i64 (K : Int) ∧
    (g 0 = true → (sl ac 20) = sv t) ∧
    (g 1 = true → (sl ac 21) = .int .i64 (K : Int)) ∧
    (g 2 = true → (sl ac 22) = sv A) ∧
    (g 3 = true → g 6 = false → NewT wc B (sl ac 23) 8) ∧
    (g 4 = true → (sl ac 24) = .pointer (some ⟨k, 0, none⟩)) ∧
    (g 5 = true → ∃ x : Nat, (sl ac 25) = .int .i64 (x : Int) ∧ x < 8) ∧
    (g 6 = true → g 7 = false → PtrT wc (sl ac 26)) ∧
    (g 7 = true → ∃ X : List UInt8, (sl ac 27) = sv X ∧ X.length ≤ 1) ∧
    (g 8 = true → ∃ X : List UInt8, (sl ac 28) = sv X ∧ X.length ≤ K + 1) ∧
    (g 9 = true → (sl ac 29) = sv t) ∧
    (g 10 = true → (sl ac 30) = .int .i64 (K : Int)) ∧
    (g 11 = true → (sl ac 31) = sv Z) ∧
    (g 12 = true → ∃ X : List UInt8, (sl ac 32) = sv X ∧ X.length ≤ t.length + 1) ∧
    (g 13 = true → ∃ X : List UInt8, (sl ac 4) = sv X ∧ X.length ≤ t.length + 1) ∧
    Drawn w wc k ∧
    Src wc k c ∧
    B ≤ wc.heap.size ∧
    (g 2 = true → g 0 = true) ∧
    (g 2 = true → g 1 = true) ∧
    (g 5 = true → g 4 = true) ∧
    (g 6 = true → g 3 = true) ∧
    (g 6 = true → g 5 = true) ∧
    (g 7 = true → g 6 = true) ∧
    (g 8 = true → g 2 = true) ∧
    (g 8 = true → g 7 = true) ∧
    (g 11 = true → g 9 = true) ∧
    (g 11 = true → g 10 = true) ∧
    (g 12 = true → g 8 = true) ∧
    (g 12 = true → g 11 = true) ∧
    (g 13 = true → g 12 = true)) (by kernel_rfl) (by kernel_rfl) rfl (by kernel_rfl) ?_ ?_ ?_
   · exact ⟨rfl, rfl, rfl, nofun, nofun, nofun, nofun, nofun, nofun, nofun, nofun, nofun, nofun, nofun, nofun, nofun, nofun, hD0.drew, hS0.drew, hZ0, nofun, nofun, nofun, nofun, nofun, nofun, nofun, nofun, nofun, nofun, nofun, nofun, nofun⟩
   · intro g ac wu hg ha hI
     obtain ⟨xi0, xi1, xi5, i0, i1, i2, i3, i4, i5, i6, i7, i8, i9, i10, i11, i12, i13, hD, hS, hZ, -, -, -, -, -, -, -, -, -, -, -, -, -⟩ := hI
     obtain e0 := i0 (hg 0 (by simp))
     obtain e1 := i1 (hg 1 (by simp))
     obtain e2 := i2 (hg 2 (by simp))
     obtain ⟨v3, e3⟩ : ∃ v, sl ac 23 = v := ⟨_, rfl⟩
     obtain e4 := i4 (hg 4 (by simp))
     obtain ⟨xd5, e5, hbd5⟩ := i5 (hg 5 (by simp))
     obtain ⟨v6, e6⟩ : ∃ v, sl ac 26 = v := ⟨_, rfl⟩
     obtain ⟨Yd7, e7, hYd7⟩ := i7 (hg 7 (by simp))
     obtain ⟨Yd8, e8, hYd8⟩ := i8 (hg 8 (by simp))
     obtain e9 := i9 (hg 9 (by simp))
     obtain e10 := i10 (hg 10 (by simp))
     obtain e11 := i11 (hg 11 (by simp))
     obtain ⟨Yd12, e12, hYd12⟩ := i12 (hg 12 (by simp))
     obtain ⟨Yd13, e13, hYd13⟩ := i13 (hg 13 (by simp))
     simp only [putAll, e0, e1, e2, e3, e4, e5, e6, e7, e8, e9, e10, e11, e12, e13] at ha
     simp only [Act.put, List.setIfInBounds_toArray, List.set_cons_succ, List.set_cons_zero] at ha
     rw [ha]
     clear xi0 xi1 xi5 i0 i1 i2 i3 i4 i5 i6 i7 i8 i9 i10 i11 i12 i13 e0 e1 e2 e3 e4 e5 e6 e7 e8 e9 e10 e11 e12 e13 hg ha
     have HDu := Lib.hid hD
     have HSu := Lib.hid hS
     clear hD hS
     go_wp2
     go_ret
     exact ⟨Yd13, rfl, hYd13, HDu.out, HSu.out⟩
   · refine .cons ?_ (.cons ?_ (.cons ?_ (.cons ?_ (.cons ?_ (.cons ?_ (.cons ?_ (.cons ?_ (.cons ?_ (.cons ?_ (.cons ?_ (.cons ?_ (.cons ?_ (.cons ?_ .nil)))))))))))))
     · refine qst fun g ac wc hn hk hr HI K' hK => ?_
       obtain ⟨xi0, xi1, xi5, -, -, -, -, -, -, -, -, -, -, -, -, -, -, hD, hS, hZ, m2_0, m2_1, m5_4, m6_3, m6_5, m7_6, m8_2, m8_7, m11_9, m11_10, m12_8, m12_11, m13_12⟩ := HI.out
       simp [Region.binds] at hr
       have zi1 := sl_get xi1 (by omega)
       go_simp
       obtain ⟨-, -, -, i0, i1, i2, i3, i4, i5, i6, i7, i8, i9, i10, i11, i12, i13, -⟩ := HI.out
       exact hK.out _ _ ⟨qB xi0, qB xi1, qB xi5, qP, (fun h => by rw [put_ne (by decide)]; exact i1 h), (fun h => absurd (m2_0 h) (by rw [hk]; simp)), (fun h h2 => by rw [put_ne (by decide)]; exact i3 h h2), (fun h => by rw [put_ne (by decide)]; exact i4 h), (fun h => by rw [put_ne (by decide)]; exact i5 h), (fun h h2 => by rw [put_ne (by decide)]; exact i6 h h2), (fun h => by rw [put_ne (by decide)]; exact i7 h), (fun h => by rw [put_ne (by decide)]; exact i8 h), (fun h => by rw [put_ne (by decide)]; exact i9 h), (fun h => by rw [put_ne (by decide)]; exact i10 h), (fun h => by rw [put_ne (by decide)]; exact i11 h), (fun h => by rw [put_ne (by decide)]; exact i12 h), (fun h => by rw [put_ne (by decide)]; exact i13 h), hD, hS, hZ, (fun _ => rfl), m2_1, m5_4, m6_3, m6_5, m7_6, m8_2, m8_7, m11_9, m11_10, m12_8, m12_11, m13_12⟩
     · refine qst fun g ac wc hn hk hr HI K' hK => ?_
       obtain ⟨xi0, xi1, xi5, -, -, -, -, -, -, -, -, -, -, -, -, -, -, hD, hS, hZ, m2_0, m2_1, m5_4, m6_3, m6_5, m7_6, m8_2, m8_7, m11_9, m11_10, m12_8, m12_11, m13_12⟩ := HI.out
       simp [Region.binds] at hr
       have zi5 := sl_get xi5 (by omega)
       go_simp
       obtain ⟨-, -, -, i0, i1, i2, i3, i4, i5, i6, i7, i8, i9, i10, i11, i12, i13, -⟩ := HI.out
       exact hK.out _ _ ⟨qB xi0, qB xi1, qB xi5, (fun h => by rw [put_ne (by decide)]; exact i0 h), qP, (fun h => absurd (m2_1 h) (by rw [hk]; simp)), (fun h h2 => by rw [put_ne (by decide)]; exact i3 h h2), (fun h => by rw [put_ne (by decide)]; exact i4 h), (fun h => by rw [put_ne (by decide)]; exact i5 h), (fun h h2 => by rw [put_ne (by decide)]; exact i6 h h2), (fun h => by rw [put_ne (by decide)]; exact i7 h), (fun h => by rw [put_ne (by decide)]; exact i8 h), (fun h => by rw [put_ne (by decide)]; exact i9 h), (fun h => by rw [put_ne (by decide)]; exact i10 h), (fun h => by rw [put_ne (by decide)]; exact i11 h), (fun h => by rw [put_ne (by decide)]; exact i12 h), (fun h => by rw [put_ne (by decide)]; exact i13 h), hD, hS, hZ, m2_0, (fun _ => rfl), m5_4, m6_3, m6_5, m7_6, m8_2, m8_7, m11_9, m11_10, m12_8, m12_11, m13_12⟩
     · refine qst fun g ac wc hn hk hr HI K' hK => ?_
       obtain ⟨xi0, xi1, xi5, i0, i1, -, -, -, -, -, -, -, -, -, -, -, -, hD, hS, hZ, m2_0, m2_1, m5_4, m6_3, m6_5, m7_6, m8_2, m8_7, m11_9, m11_10, m12_8, m12_11, m13_12⟩ := HI.out
       simp [Region.binds] at hr
       have g0 : g 0 = true := (by simp [hr])
       obtain y0 := i0 g0
       have z0 := sl_get y0 (by omega)
       have g1 : g 1 = true := (by simp [hr])
       obtain y1 := i1 g1
       have z1 := sl_get y1 (by omega)
       clear i0 i1
       go_simp
       obtain ⟨-, -, -, i0, i1, i2, i3, i4, i5, i6, i7, i8, i9, i10, i11, i12, i13, -⟩ := HI.out
       exact hK.out _ _ ⟨qB xi0, qB xi1, qB xi5, (fun h => by rw [put_ne (by decide)]; exact i0 h), (fun h => by rw [put_ne (by decide)]; exact i1 h), qP, (fun h h2 => by rw [put_ne (by decide)]; exact i3 h h2), (fun h => by rw [put_ne (by decide)]; exact i4 h), (fun h => by rw [put_ne (by decide)]; exact i5 h), (fun h h2 => by rw [put_ne (by decide)]; exact i6 h h2), (fun h => by rw [put_ne (by decide)]; exact i7 h), (fun h => absurd (m8_2 h) (by rw [hk]; simp)), (fun h => by rw [put_ne (by decide)]; exact i9 h), (fun h => by rw [put_ne (by decide)]; exact i10 h), (fun h => by rw [put_ne (by decide)]; exact i11 h), (fun h => by rw [put_ne (by decide)]; exact i12 h), (fun h => by rw [put_ne (by decide)]; exact i13 h), hD, hS, hZ, (fun _ => g0), (fun _ => g1), m5_4, m6_3, m6_5, m7_6, (fun _ => rfl), m8_7, m11_9, m11_10, m12_8, m12_11, m13_12⟩
     · refine qst fun g ac wc hn hk hr HI K' hK => ?_
       obtain ⟨xi0, xi1, xi5, -, -, -, -, -, -, -, -, -, -, -, -, -, -, hD, hS, hZ, m2_0, m2_1, m5_4, m6_3, m6_5, m7_6, m8_2, m8_7, m11_9, m11_10, m12_8, m12_11, m13_12⟩ := HI.out
       simp [Region.binds] at hr
       go_simp
       have hL4 := (Later.refl wc).alloc (.cells (strs chars8).toArray 9)
       obtain ⟨-, -, -, i0, i1, i2, i3, i4, i5, i6, i7, i8, i9, i10, i11, i12, i13, -⟩ := HI.out
       exact hK.out _ _ ⟨qB xi0, qB xi1, qB xi5, (fun h => by rw [put_ne (by decide)]; exact i0 h), (fun h => by rw [put_ne (by decide)]; exact i1 h), (fun h => by rw [put_ne (by decide)]; exact i2 h), (fun _ _ => by rw [put_eq (by omega)]; exact NewT.mk hZ chars8 (by decide)), (fun h => by rw [put_ne (by decide)]; exact i4 h), (fun h => by rw [put_ne (by decide)]; exact i5 h), (fun h h2 => absurd (m6_3 h) (by rw [hk]; simp)), (fun h => by rw [put_ne (by decide)]; exact i7 h), (fun h => by rw [put_ne (by decide)]; exact i8 h), (fun h => by rw [put_ne (by decide)]; exact i9 h), (fun h => by rw [put_ne (by decide)]; exact i10 h), (fun h => by rw [put_ne (by decide)]; exact i11 h), (fun h => by rw [put_ne (by decide)]; exact i12 h), (fun h => by rw [put_ne (by decide)]; exact i13 h), (hD.later hL4), (hS.later hL4), (Nat.le_trans hZ hL4.size), m2_0, m2_1, m5_4, (fun _ => rfl), m6_5, m7_6, m8_2, m8_7, m11_9, m11_10, m12_8, m12_11, m13_12⟩
     · refine qst fun g ac wc hn hk hr HI K' hK => ?_
       obtain ⟨xi0, xi1, xi5, -, -, -, -, -, -, -, -, -, -, -, -, -, -, hD, hS, hZ, m2_0, m2_1, m5_4, m6_3, m6_5, m7_6, m8_2, m8_7, m11_9, m11_10, m12_8, m12_11, m13_12⟩ := HI.out
       simp [Region.binds] at hr
       have zi0 := sl_get xi0 (by omega)
       go_simp
       obtain ⟨-, -, -, i0, i1, i2, i3, i4, i5, i6, i7, i8, i9, i10, i11, i12, i13, -⟩ := HI.out
       exact hK.out _ _ ⟨qB xi0, qB xi1, qB xi5, (fun h => by rw [put_ne (by decide)]; exact i0 h), (fun h => by rw [put_ne (by decide)]; exact i1 h), (fun h => by rw [put_ne (by decide)]; exact i2 h), (fun h h2 => by rw [put_ne (by decide)]; exact i3 h h2), qP, (fun h => absurd (m5_4 h) (by rw [hk]; simp)), (fun h h2 => absurd (m5_4 (m6_5 h)) (by rw [hk]; simp)), (fun h => by rw [put_ne (by decide)]; exact i7 h), (fun h => by rw [put_ne (by decide)]; exact i8 h), (fun h => by rw [put_ne (by decide)]; exact i9 h), (fun h => by rw [put_ne (by decide)]; exact i10 h), (fun h => by rw [put_ne (by decide)]; exact i11 h), (fun h => by rw [put_ne (by decide)]; exact i12 h), (fun h => by rw [put_ne (by decide)]; exact i13 h), hD, hS, hZ, m2_0, m2_1, (fun _ => rfl), m6_3, m6_5, m7_6, m8_2, m8_7, m11_9, m11_10, m12_8, m12_11, m13_12⟩
     · refine qst fun g ac wc hn hk hr HI K' hK => ?_
       obtain ⟨xi0, xi1, xi5, -, -, -, -, i4, -, -, -, -, -, -, -, -, -, hD, hS, hZ, m2_0, m2_1, m5_4, m6_3, m6_5, m7_6, m8_2, m8_7, m11_9, m11_10, m12_8, m12_11, m13_12⟩ := HI.out
       simp [Region.binds] at hr
       have g4 : g 4 = true := (by simp [hr])
       obtain y4 := i4 g4
       have z4 := sl_get y4 (by omega)
       clear i4
       go_simp
       refine (w_l01Next k c 8 wc hS).mono ?_
       rintro e w4 ⟨x, rfl, xa, xb, hD4, hS4⟩
       obtain ⟨-, -, -, i0, i1, i2, i3, i4, i5, i6, i7, i8, i9, i10, i11, i12, i13, -⟩ := HI.out
       exact hK.out _ _ ⟨qB xi0, qB xi1, qB xi5, (fun h => by rw [put_ne (by decide)]; exact i0 h), (fun h => by rw [put_ne (by decide)]; exact i1 h), (fun h => by rw [put_ne (by decide)]; exact i2 h), (fun h h2 => by rw [put_ne (by decide)]; exact (i3 h h2).drawn hD4 (by omega)), (fun h => by rw [put_ne (by decide)]; exact i4 h), (fun _ => ⟨x.toNat, by rw [put_eq (by omega), Int.toNat_of_nonneg xa], by omega⟩), (fun h h2 => absurd (m6_5 h) (by rw [hk]; simp)), (fun h => by rw [put_ne (by decide)]; exact i7 h), (fun h => by rw [put_ne (by decide)]; exact i8 h), (fun h => by rw [put_ne (by decide)]; exact i9 h), (fun h => by rw [put_ne (by decide)]; exact i10 h), (fun h => by rw [put_ne (by decide)]; exact i11 h), (fun h => by rw [put_ne (by decide)]; exact i12 h), (fun h => by rw [put_ne (by decide)]; exact i13 h), (hD.trans hD4), hS4, (Nat.le_trans hZ hD4.size), m2_0, m2_1, (fun _ => g4), m6_3, (fun _ => rfl), m7_6, m8_2, m8_7, m11_9, m11_10, m12_8, m12_11, m13_12⟩
     · refine qst fun g ac wc hn hk hr HI K' hK => ?_
       obtain ⟨xi0, xi1, xi5, -, -, -, i3, -, i5, -, -, -, -, -, -, -, -, hD, hS, hZ, m2_0, m2_1, m5_4, m6_3, m6_5, m7_6, m8_2, m8_7, m11_9, m11_10, m12_8, m12_11, m13_12⟩ := HI.out
       simp [Region.binds] at hr
       have g3 : g 3 = true := (by simp [hr])
       obtain ⟨b3, xs3, y3, hne3, hlt3, hxl3, hx13, hrd3⟩ := i3 g3 hk
       have z3 := sl_get y3 (by omega)
       have g5 : g 5 = true := (by simp [hr])
       obtain ⟨x5, y5, hb5⟩ := i5 g5
       have z5 := sl_get y5 (by omega)
       obtain ⟨X, hX⟩ := get_ex (l := xs3) (k := x5) (by omega)
       have hXl := hx13 X (List.mem_of_getElem? hX)
       have hcell : wc.cell? ⟨b3, x5, none⟩ = some (sv X) := by simp only [World.cell?, hrd3]; simpa [strs] using congrArg (Option.map sv) hX
       have hb8 : ((x5 : Int) < 8) = True := by simp; omega
       clear i3 i5
       go_simp
       obtain ⟨-, -, -, i0, i1, i2, i3, i4, i5, i6, i7, i8, i9, i10, i11, i12, i13, -⟩ := HI.out
       exact hK.out _ _ ⟨qB xi0, qB xi1, qB xi5, (fun h => by rw [put_ne (by decide)]; exact i0 h), (fun h => by rw [put_ne (by decide)]; exact i1 h), (fun h => by rw [put_ne (by decide)]; exact i2 h), (fun _ h => absurd h (by simp)), (fun h => by rw [put_ne (by decide)]; exact i4 h), (fun h => by rw [put_ne (by decide)]; exact i5 h), (fun _ _ => by rw [put_eq (by omega)]; exact ⟨b3, x5, X, (by simp), hXl, hcell⟩), (fun h => absurd (m7_6 h) (by rw [hk]; simp)), (fun h => by rw [put_ne (by decide)]; exact i8 h), (fun h => by rw [put_ne (by decide)]; exact i9 h), (fun h => by rw [put_ne (by decide)]; exact i10 h), (fun h => by rw [put_ne (by decide)]; exact i11 h), (fun h => by rw [put_ne (by decide)]; exact i12 h), (fun h => by rw [put_ne (by decide)]; exact i13 h), hD, hS, hZ, m2_0, m2_1, m5_4, (fun _ => g3), (fun _ => g5), (fun _ => rfl), m8_2, m8_7, m11_9, m11_10, m12_8, m12_11, m13_12⟩
     · refine qst fun g ac wc hn hk hr HI K' hK => ?_
       obtain ⟨xi0, xi1, xi5, -, -, -, -, -, -, i6, -, -, -, -, -, -, -, hD, hS, hZ, m2_0, m2_1, m5_4, m6_3, m6_5, m7_6, m8_2, m8_7, m11_9, m11_10, m12_8, m12_11, m13_12⟩ := HI.out
       simp [Region.binds] at hr
       have g6 : g 6 = true := (by simp [hr])
       obtain ⟨b6, o6, X6, y6, hX6, hc6⟩ := i6 g6 hk
       have z6 := sl_get y6 (by omega)
       have hc6 := hc6
       clear i6
       go_simp
       obtain ⟨-, -, -, i0, i1, i2, i3, i4, i5, i6, i7, i8, i9, i10, i11, i12, i13, -⟩ := HI.out
       exact hK.out _ _ ⟨qB xi0, qB xi1, qB xi5, (fun h => by rw [put_ne (by decide)]; exact i0 h), (fun h => by rw [put_ne (by decide)]; exact i1 h), (fun h => by rw [put_ne (by decide)]; exact i2 h), (fun _ h2 => absurd (show g 6 = false from h2) (by rw [g6]; simp)), (fun h => by rw [put_ne (by decide)]; exact i4 h), (fun h => by rw [put_ne (by decide)]; exact i5 h), (fun _ h => absurd h (by simp)), (fun _ => ⟨X6, put_eq (by omega), hX6⟩), (fun h => absurd (m8_7 h) (by rw [hk]; simp)), (fun h => by rw [put_ne (by decide)]; exact i9 h), (fun h => by rw [put_ne (by decide)]; exact i10 h), (fun h => by rw [put_ne (by decide)]; exact i11 h), (fun h => by rw [put_ne (by decide)]; exact i12 h), (fun h => by rw [put_ne (by decide)]; exact i13 h), hD, hS, hZ, m2_0, m2_1, m5_4, m6_3, m6_5, (fun _ => g6), m8_2, (fun _ => rfl), m11_9, m11_10, m12_8, m12_11, m13_12⟩
     · refine qst fun g ac wc hn hk hr HI K' hK => ?_
       obtain ⟨xi0, xi1, xi5, -, -, i2, -, -, -, -, i7, -, -, -, -, -, -, hD, hS, hZ, m2_0, m2_1, m5_4, m6_3, m6_5, m7_6, m8_2, m8_7, m11_9, m11_10, m12_8, m12_11, m13_12⟩ := HI.out
       simp [Region.binds] at hr
       have g2 : g 2 = true := (by simp [hr])
       obtain y2 := i2 g2
       have z2 := sl_get y2 (by omega)
       have g7 : g 7 = true := (by simp [hr])
       obtain ⟨Y7, y7, hY7⟩ := i7 g7
       have z7 := sl_get y7 (by omega)
       have hsz : (9223372036854775807 < A.length + Y7.length) = False := by have := HAl.out; simp; omega
       have hap := ByteArray.mk_append_mk A Y7
       clear i2 i7
       go_simp
       obtain ⟨-, -, -, i0, i1, i2, i3, i4, i5, i6, i7, i8, i9, i10, i11, i12, i13, -⟩ := HI.out
       exact hK.out _ _ ⟨qB xi0, qB xi1, qB xi5, (fun h => by rw [put_ne (by decide)]; exact i0 h), (fun h => by rw [put_ne (by decide)]; exact i1 h), (fun h => by rw [put_ne (by decide)]; exact i2 h), (fun h h2 => by rw [put_ne (by decide)]; exact i3 h h2), (fun h => by rw [put_ne (by decide)]; exact i4 h), (fun h => by rw [put_ne (by decide)]; exact i5 h), (fun _ h2 => absurd (show g 7 = false from h2) (by rw [g7]; simp)), (fun h => by rw [put_ne (by decide)]; exact i7 h), (fun _ => ⟨A ++ Y7, by rw [put_eq (by omega)]; try rfl, by have := HAl.out; simp; omega⟩), (fun h => by rw [put_ne (by decide)]; exact i9 h), (fun h => by rw [put_ne (by decide)]; exact i10 h), (fun h => by rw [put_ne (by decide)]; exact i11 h), (fun h => absurd (m12_8 h) (by rw [hk]; simp)), (fun h => by rw [put_ne (by decide)]; exact i13 h), hD, hS, hZ, m2_0, m2_1, m5_4, m6_3, m6_5, m7_6, (fun _ => g2), (fun _ => g7), m11_9, m11_10, (fun _ => rfl), m12_11, m13_12⟩
     · refine qst fun g ac wc hn hk hr HI K' hK => ?_
       obtain ⟨xi0, xi1, xi5, -, -, -, -, -, -, -, -, -, -, -, -, -, -, hD, hS, hZ, m2_0, m2_1, m5_4, m6_3, m6_5, m7_6, m8_2, m8_7, m11_9, m11_10, m12_8, m12_11, m13_12⟩ := HI.out
       simp [Region.binds] at hr
       have zi1 := sl_get xi1 (by omega)
       go_simp
       obtain ⟨-, -, -, i0, i1, i2, i3, i4, i5, i6, i7, i8, i9, i10, i11, i12, i13, -⟩ := HI.out
       exact hK.out _ _ ⟨qB xi0, qB xi1, qB xi5, (fun h => by rw [put_ne (by decide)]; exact i0 h), (fun h => by rw [put_ne (by decide)]; exact i1 h), (fun h => by rw [put_ne (by decide)]; exact i2 h), (fun h h2 => by rw [put_ne (by decide)]; exact i3 h h2), (fun h => by rw [put_ne (by decide)]; exact i4 h), (fun h => by rw [put_ne (by decide)]; exact i5 h), (fun h h2 => by rw [put_ne (by decide)]; exact i6 h h2), (fun h => by rw [put_ne (by decide)]; exact i7 h), (fun h => by rw [put_ne (by decide)]; exact i8 h), qP, (fun h => by rw [put_ne (by decide)]; exact i10 h), (fun h => absurd (m11_9 h) (by rw [hk]; simp)), (fun h => by rw [put_ne (by decide)]; exact i12 h), (fun h => by rw [put_ne (by decide)]; exact i13 h), hD, hS, hZ, m2_0, m2_1, m5_4, m6_3, m6_5, m7_6, m8_2, m8_7, (fun _ => rfl), m11_10, m12_8, m12_11, m13_12⟩
     · refine qst fun g ac wc hn hk hr HI K' hK => ?_
       obtain ⟨xi0, xi1, xi5, -, -, -, -, -, -, -, -, -, -, -, -, -, -, hD, hS, hZ, m2_0, m2_1, m5_4, m6_3, m6_5, m7_6, m8_2, m8_7, m11_9, m11_10, m12_8, m12_11, m13_12⟩ := HI.out
       simp [Region.binds] at hr
       have zi5 := sl_get xi5 (by omega)
       go_simp
       obtain ⟨-, -, -, i0, i1, i2, i3, i4, i5, i6, i7, i8, i9, i10, i11, i12, i13, -⟩ := HI.out
       exact hK.out _ _ ⟨qB xi0, qB xi1, qB xi5, (fun h => by rw [put_ne (by decide)]; exact i0 h), (fun h => by rw [put_ne (by decide)]; exact i1 h), (fun h => by rw [put_ne (by decide)]; exact i2 h), (fun h h2 => by rw [put_ne (by decide)]; exact i3 h h2), (fun h => by rw [put_ne (by decide)]; exact i4 h), (fun h => by rw [put_ne (by decide)]; exact i5 h), (fun h h2 => by rw [put_ne (by decide)]; exact i6 h h2), (fun h => by rw [put_ne (by decide)]; exact i7 h), (fun h => by rw [put_ne (by decide)]; exact i8 h), (fun h => by rw [put_ne (by decide)]; exact i9 h), qP, (fun h => absurd (m11_10 h) (by rw [hk]; simp)), (fun h => by rw [put_ne (by decide)]; exact i12 h), (fun h => by rw [put_ne (by decide)]; exact i13 h), hD, hS, hZ, m2_0, m2_1, m5_4, m6_3, m6_5, m7_6, m8_2, m8_7, m11_9, (fun _ => rfl), m12_8, m12_11, m13_12⟩
     · refine qst fun g ac wc hn hk hr HI K' hK => ?_
       obtain ⟨xi0, xi1, xi5, -, -, -, -, -, -, -, -, -, i9, i10, -, -, -, hD, hS, hZ, m2_0, m2_1, m5_4, m6_3, m6_5, m7_6, m8_2, m8_7, m11_9, m11_10, m12_8, m12_11, m13_12⟩ := HI.out
       simp [Region.binds] at hr
       have g9 : g 9 = true := (by simp [hr])
       obtain y9 := i9 g9
       have z9 := sl_get y9 (by omega)
       have g10 : g 10 = true := (by simp [hr])
       obtain y10 := i10 g10
       have z10 := sl_get y10 (by omega)
       clear i9 i10
       go_simp
       obtain ⟨-, -, -, i0, i1, i2, i3, i4, i5, i6, i7, i8, i9, i10, i11, i12, i13, -⟩ := HI.out
       exact hK.out _ _ ⟨qB xi0, qB xi1, qB xi5, (fun h => by rw [put_ne (by decide)]; exact i0 h), (fun h => by rw [put_ne (by decide)]; exact i1 h), (fun h => by rw [put_ne (by decide)]; exact i2 h), (fun h h2 => by rw [put_ne (by decide)]; exact i3 h h2), (fun h => by rw [put_ne (by decide)]; exact i4 h), (fun h => by rw [put_ne (by decide)]; exact i5 h), (fun h h2 => by rw [put_ne (by decide)]; exact i6 h h2), (fun h => by rw [put_ne (by decide)]; exact i7 h), (fun h => by rw [put_ne (by decide)]; exact i8 h), (fun h => by rw [put_ne (by decide)]; exact i9 h), (fun h => by rw [put_ne (by decide)]; exact i10 h), qP, (fun h => absurd (m12_11 h) (by rw [hk]; simp)), (fun h => by rw [put_ne (by decide)]; exact i13 h), hD, hS, hZ, m2_0, m2_1, m5_4, m6_3, m6_5, m7_6, m8_2, m8_7, (fun _ => g9), (fun _ => g10), m12_8, (fun _ => rfl), m13_12⟩
     · refine qst fun g ac wc hn hk hr HI K' hK => ?_
       obtain ⟨xi0, xi1, xi5, -, -, -, -, -, -, -, -, i8, -, -, i11, -, -, hD, hS, hZ, m2_0, m2_1, m5_4, m6_3, m6_5, m7_6, m8_2, m8_7, m11_9, m11_10, m12_8, m12_11, m13_12⟩ := HI.out
       simp [Region.binds] at hr
       have g8 : g 8 = true := (by simp [hr])
       obtain ⟨Y8, y8, hY8⟩ := i8 g8
       have z8 := sl_get y8 (by omega)
       have g11 : g 11 = true := (by simp [hr])
       obtain y11 := i11 g11
       have z11 := sl_get y11 (by omega)
       have hsz : (9223372036854775807 < Y8.length + Z.length) = False := by have := HZl.out; simp; omega
       have hap := ByteArray.mk_append_mk Y8 Z
       clear i8 i11
       go_simp
       obtain ⟨-, -, -, i0, i1, i2, i3, i4, i5, i6, i7, i8, i9, i10, i11, i12, i13, -⟩ := HI.out
       exact hK.out _ _ ⟨qB xi0, qB xi1, qB xi5, (fun h => by rw [put_ne (by decide)]; exact i0 h), (fun h => by rw [put_ne (by decide)]; exact i1 h), (fun h => by rw [put_ne (by decide)]; exact i2 h), (fun h h2 => by rw [put_ne (by decide)]; exact i3 h h2), (fun h => by rw [put_ne (by decide)]; exact i4 h), (fun h => by rw [put_ne (by decide)]; exact i5 h), (fun h h2 => by rw [put_ne (by decide)]; exact i6 h h2), (fun h => by rw [put_ne (by decide)]; exact i7 h), (fun h => by rw [put_ne (by decide)]; exact i8 h), (fun h => by rw [put_ne (by decide)]; exact i9 h), (fun h => by rw [put_ne (by decide)]; exact i10 h), (fun h => by rw [put_ne (by decide)]; exact i11 h), (fun _ => ⟨Y8 ++ Z, by rw [put_eq (by omega)]; try rfl, by have := HZl.out; simp; omega⟩), (fun h => absurd (m13_12 h) (by rw [hk]; simp)), hD, hS, hZ, m2_0, m2_1, m5_4, m6_3, m6_5, m7_6, m8_2, m8_7, m11_9, m11_10, (fun _ => g8), (fun _ => g11), (fun _ => rfl)⟩
     · refine qst fun g ac wc hn hk hr HI K' hK => ?_
       obtain ⟨xi0, xi1, xi5, -, -, -, -, -, -, -, -, -, -, -, -, i12, -, hD, hS, hZ, m2_0, m2_1, m5_4, m6_3, m6_5, m7_6, m8_2, m8_7, m11_9, m11_10, m12_8, m12_11, m13_12⟩ := HI.out
       simp [Region.binds] at hr
       have g12 : g 12 = true := (by simp [hr])
       obtain ⟨Y12, y12, hY12⟩ := i12 g12
       have z12 := sl_get y12 (by omega)
       clear i12
       go_simp
       obtain ⟨-, -, -, i0, i1, i2, i3, i4, i5, i6, i7, i8, i9, i10, i11, i12, i13, -⟩ := HI.out
       exact hK.out _ _ ⟨qB xi0, qB xi1, qB xi5, (fun h => by rw [put_ne (by decide)]; exact i0 h), (fun h => by rw [put_ne (by decide)]; exact i1 h), (fun h => by rw [put_ne (by decide)]; exact i2 h), (fun h h2 => by rw [put_ne (by decide)]; exact i3 h h2), (fun h => by rw [put_ne (by decide)]; exact i4 h), (fun h => by rw [put_ne (by decide)]; exact i5 h), (fun h h2 => by rw [put_ne (by decide)]; exact i6 h h2), (fun h => by rw [put_ne (by decide)]; exact i7 h), (fun h => by rw [put_ne (by decide)]; exact i8 h), (fun h => by rw [put_ne (by decide)]; exact i9 h), (fun h => by rw [put_ne (by decide)]; exact i10 h), (fun h => by rw [put_ne (by decide)]; exact i11 h), (fun h => by rw [put_ne (by decide)]; exact i12 h), (fun _ => ⟨Y12, put_eq (by omega), hY12⟩), hD, hS, hZ, m2_0, m2_1, m5_4, m6_3, m6_5, m7_6, m8_2, m8_7, m11_9, m11_10, m12_8, m12_11, (fun _ => g12)⟩
 have hqb1 : (x2 == 1) = false := by simpa using hq1
 by_cases hq2 : x2 = 2
 · skip
   subst hq2
   by_cases hKt : K < t.length
   · have hkb : decide ((K : Int) < (t.length : Int)) = true := decide_eq_true (by omega)
     obtain ⟨R, hR⟩ : ∃ R, t.drop (K + 1) = R := ⟨_, rfl⟩
     have hx3 : (ByteArray.mk t.toArray).extract (K + 1) t.length = ByteArray.mk R.toArray := by rw [ByteArray.extract_mk, List.take_of_length_le (by simp), hR]
     have hRl : R.length = t.length - (K + 1) := by rw [← hR]; simp
     have wk : IntKind.i64.wrap ((K : Int) + 1) = (K : Int) + 1 := wrapI (by omega) (by omega)
     have hAl := HAl.out
     have hsz : (9223372036854775807 < A.length + R.length) = False := by simp; omega
     have hap := ByteArray.mk_append_mk A R
     have HRl := Lib.hid hRl
     clear hR hRl hAl
     go_wp2_with fail
     go_quiet (fail)
     go_wp2
     go_ret
     exact ⟨A ++ R, by first | rfl | simp, by have := HAl.out; have := HRl.out; simp; omega, by have hL9 := (Later.refl w2).drewN nq; exact hD2.later hL9, by have hL9 := (Later.refl w2).drewN nq; exact hS2.later hL9⟩
   · have hkb : decide ((K : Int) < (t.length : Int)) = false := decide_eq_false (by omega)
     go_wp2
     go_ret
     exact ⟨t, rfl, by omega, qdh, qsh⟩
 have hqb2 : (x2 == 2) = false := by simpa using hq2
 go_wp2
 go_ret
 exact ⟨t, rfl, by omega, qdh, qsh⟩
end Go.Proofs.YtgngbdacejghcaaGreatDoor
