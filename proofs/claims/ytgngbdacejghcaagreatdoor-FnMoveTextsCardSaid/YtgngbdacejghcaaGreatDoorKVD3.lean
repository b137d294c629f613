/- DERIVED. Walks: figures and chains as text. -/
import Derived.Test.YtgngbdacejghcaaGreatDoorKVD2
import Derived.Test.YtgngbdacejghcaaGreatDoorKVM1
namespace Go.Proofs.YtgngbdacejghcaaGreatDoor
set_option linter.unusedVariables false
set_option linter.unusedSimpArgs false
open Go.RowKit
set_option maxRecDepth 100000
set_option linter.unusedVariables false
def figT (f : Fig) : List UInt8 := (Lib.itoa f.d).take 1 ++ [46] ++ (Lib.itoa f.d).drop 1 ++ [101] ++ Lib.itoa f.t
theorem itoa_len {n : Int} (h0 : -9223372036854775808 ≤ n) (h1 : n ≤ 9223372036854775807) : (Lib.itoa n).length ≤ 20 := by
 unfold Lib.itoa
 split
 · have := dec_len (u := n.natAbs) (k := 18) (by omega)
   simp only [List.length_cons]; omega
 · have := dec_len (u := n.toNat) (k := 18) (by omega)
   omega
theorem itoa_pos (n : Int) : 1 ≤ (Lib.itoa n).length := by
 unfold Lib.itoa
 split
 · simp
 · rw [Lib.decDigits_length]; exact Lib.nDigits_pos _
theorem itoa_nat (n : Nat) : Lib.itoa (n : Int) = Lib.decDigits n := by rw [Lib.itoa, if_neg (by omega)]; rfl
theorem figT_len {f : Fig} (h0 : -9223372036854775808 ≤ f.d) (h1 : f.d ≤ 9223372036854775807) (h2 : -9223372036854775808 ≤ f.t) (h3 : f.t ≤ 9223372036854775807) : (figT f).length ≤ 42 := by
 have a := itoa_len h0 h1
 have b := itoa_len h2 h3
 have c := itoa_pos f.d
 simp [figT]
 omega
set_option maxHeartbeats 2000000 in
theorem w_figureText (f : Fig) (h1 : 1000 ≤ f.d) (h2 : f.d ≤ 9999) (h3 : -100 ≤ f.t) (h4 : f.t ≤ 100) (w : World) (ht : PTab w) :
 Calls Tryz.prog 123 #[.agg #[.int .i64 f.d, .int .i64 f.t]] w fun e w' => e = .returned (sv (figT f)) ∧ Later w w' := by
 obtain ⟨d, t⟩ := f
 simp only at h1 h2 h3 h4 ⊢
 obtain ⟨dn, rfl⟩ : ∃ n : Nat, d = n := ⟨d.toNat, by omega⟩
 obtain ⟨D, hD⟩ : ∃ D, Lib.decDigits dn = D := ⟨_, rfl⟩
 obtain ⟨C, hC⟩ : ∃ C, Lib.itoa t = C := ⟨_, rfl⟩
 have hDi : Lib.itoa (dn : Int) = D := by rw [itoa_nat, hD]
 have l0 := itoa_pos (dn : Int)
 have l1 := itoa_len (n := (dn : Int)) (by omega) (by omega)
 have l2 := itoa_len (n := t) (by omega) (by omega)
 rw [hDi] at l0 l1
 rw [hC] at l2
 obtain ⟨A, hA⟩ : ∃ A, (D.drop 0).take (1 - 0) = A := ⟨_, rfl⟩
 obtain ⟨B, hB⟩ : ∃ B, (D.drop 1).take (D.length - 1) = B := ⟨_, rfl⟩
 obtain ⟨X1, hX1⟩ : ∃ X, A ++ [46] = X := ⟨_, rfl⟩
 obtain ⟨X2, hX2⟩ : ∃ X, X1 ++ B = X := ⟨_, rfl⟩
 obtain ⟨X3, hX3⟩ : ∃ X, X2 ++ [101] = X := ⟨_, rfl⟩
 obtain ⟨X4, hX4⟩ : ∃ X, X3 ++ C = X := ⟨_, rfl⟩
 have EX1 := Lib.hid hX1
 have EX2 := Lib.hid hX2
 have EX3 := Lib.hid hX3
 have EX4 := Lib.hid hX4
 have EF : Hid (figT ⟨dn, t⟩ = X4) := Lib.hid (by
  rw [← hX4, ← hX3, ← hX2, ← hX1]
  have b : B = D.drop 1 := by rw [← hB]; exact List.take_of_length_le (by simp)
  have a : A = D.take 1 := by rw [← hA]; rfl
  rw [a, b, ← hC, ← hDi]; rfl)
 have LA : Hid (A.length ≤ 20) := Lib.hid (by rw [← hA]; simp; omega)
 have LB : Hid (B.length ≤ 20) := Lib.hid (by rw [← hB]; simp; omega)
 have LX1 : Hid (X1.length ≤ 21) := Lib.hid (by have := LA.out; rw [← hX1]; simp; omega)
 have LX2 : Hid (X2.length ≤ 41) := Lib.hid (by have := LX1.out; have := LB.out; rw [← hX2]; simp; omega)
 have LX3 : Hid (X3.length ≤ 42) := Lib.hid (by have := LX2.out; rw [← hX3]; simp; omega)
 have LC : Hid (C.length ≤ 20) := Lib.hid l2
 have HZ : Hid (((1 : Int) ≤ (D.length : Int)) = True) := Lib.hid (by simp; omega)
 have HA := Lib.hid hA
 have HB := Lib.hid hB
 have HC := Lib.hid hC
 have HDi := Lib.hid hDi
 have HDd := Lib.hid hD
 have PT := Lib.hid ht
 clear ht
 clear hX1 hX2 hX3 hX4 hA hB hC hDi hD l0 l1 l2
 go_enter Tryz.func123, Tryz.ntmps123
 go_wp2_with fail
 refine (w_decimal (dn : Int) (by omega) (by omega) _ (PT.out.later ((Later.refl _).alloc _))).mono ?_
 rintro e w1 ⟨rfl, hL1⟩
 rw [HDi.out]
 have K1 := hL1.keep (heap_alloc_new _ _)
 have hL0 := ((Later.refl w).alloc _).trans hL1
 have hSB := hL0.size
 have hlt := hL1.size
 simp only [World.size_alloc] at hlt
 clear hL1
 go_wp2_with fail
 refine region_slots 18 [7, 8, 9, 10, 11, 12, 13, 14, 15, 16, 17, 2] (fun g ac wc => sl ac 3 = sv D ∧
  sl ac 1 = .pointer (some ⟨w.heap.size, 0, none⟩) ∧
  (g 0 = true → sl ac 7 = sv D) ∧
  (g 1 = true → sl ac 8 = sv A) ∧
  (g 2 = true → sl ac 9 = sv X1) ∧
  (g 3 = true → sl ac 10 = sv D) ∧
  (g 4 = true → sl ac 11 = sv B) ∧
  (g 5 = true → sl ac 12 = sv X2) ∧
  (g 6 = true → sl ac 13 = sv X3) ∧
  (g 7 = true → sl ac 14 = .pointer (some ⟨w.heap.size, 1, none⟩)) ∧
  (g 8 = true → sl ac 15 = .int .i64 t) ∧
  (g 9 = true → sl ac 16 = sv C) ∧
  (g 10 = true → sl ac 17 = sv X4) ∧
  (g 11 = true → sl ac 2 = sv X4) ∧
  Later w wc ∧
  w1.heap.size ≤ wc.heap.size ∧
  wc.heap[w.heap.size]? = some (.cells #[.int .i64 (dn : Int), .int .i64 t] 30 (0, 0))) (by kernel_rfl) (by kernel_rfl) rfl (by kernel_rfl) ?_ ?_ ?_
 · exact ⟨rfl, rfl, nofun, nofun, nofun, nofun, nofun, nofun, nofun, nofun, nofun, nofun, nofun, nofun, hL0.drew, Nat.le_refl _, K1⟩
 · intro g ac wu hg ha hI
   obtain ⟨x3, x1, i0, i1, i2, i3, i4, i5, i6, i7, i8, i9, i10, i11, hL, hS, B1⟩ := hI
   have a0 := i0 (hg 0 (by simp))
   have a1 := i1 (hg 1 (by simp))
   have a2 := i2 (hg 2 (by simp))
   have a3 := i3 (hg 3 (by simp))
   have a4 := i4 (hg 4 (by simp))
   have a5 := i5 (hg 5 (by simp))
   have a6 := i6 (hg 6 (by simp))
   have a7 := i7 (hg 7 (by simp))
   have a8 := i8 (hg 8 (by simp))
   have a9 := i9 (hg 9 (by simp))
   have a10 := i10 (hg 10 (by simp))
   have a11 := i11 (hg 11 (by simp))
   simp only [putAll, a0, a1, a2, a3, a4, a5, a6, a7, a8, a9, a10, a11] at ha
   simp only [Act.put, List.setIfInBounds_toArray, List.set_cons_succ, List.set_cons_zero] at ha
   rw [ha]
   clear x3 x1 i0 i1 i2 i3 i4 i5 i6 i7 i8 i9 i10 i11 a0 a1 a2 a3 a4 a5 a6 a7 a8 a9 a10 a11 hg ha
   go_wp2
   go_ret
   exact ⟨by rw [EF.out]; rfl, hL⟩
 · refine .cons ?_ (.cons ?_ (.cons ?_ (.cons ?_ (.cons ?_ (.cons ?_ (.cons ?_ (.cons ?_ (.cons ?_ (.cons ?_ (.cons ?_ (.cons ?_ .nil)))))))))))
   · refine qst fun g ac wc hn hk hr HI K' hK => ?_
     obtain ⟨x3, x1, -, -, -, -, -, -, -, -, -, -, -, -, hL, hS, B1⟩ := HI.out
     simp [Region.binds] at hr
     go_simp
     obtain ⟨-, -, i0, i1, i2, i3, i4, i5, i6, i7, i8, i9, i10, i11, -⟩ := HI.out
     exact hK.out _ _ ⟨qB x3, qB x1, qP, qF i1, qF i2, qF i3, qF i4, qF i5, qF i6, qF i7, qF i8, qF i9, qF i10, qF i11, hL, hS, B1⟩
   · refine qst fun g ac wc hn hk hr HI K' hK => ?_
     obtain ⟨x3, x1, i0, -, -, -, -, -, -, -, -, -, -, -, hL, hS, B1⟩ := HI.out
     simp [Region.binds] at hr
     have y0 := i0 (by simp [hr])
     have z0 := sl_get y0 (by omega)
     clear i0
     have hz := HZ.out
     go_simp
     rw [ByteArray.extract_mk, HA.out]
     obtain ⟨-, -, i0, i1, i2, i3, i4, i5, i6, i7, i8, i9, i10, i11, -⟩ := HI.out
     exact hK.out _ _ ⟨qB x3, qB x1, qF i0, qP, qF i2, qF i3, qF i4, qF i5, qF i6, qF i7, qF i8, qF i9, qF i10, qF i11, hL, hS, B1⟩
   · refine qst fun g ac wc hn hk hr HI K' hK => ?_
     obtain ⟨x3, x1, -, i1, -, -, -, -, -, -, -, -, -, -, hL, hS, B1⟩ := HI.out
     simp [Region.binds] at hr
     have y1 := i1 (by simp [hr])
     have z1 := sl_get y1 (by omega)
     clear i1
     have hz : (9223372036854775807 < A.length + 1) = False := by have := LA.out; simp; omega
     go_simp
     rw [ByteArray.mk_append_mk, EX1.out]
     obtain ⟨-, -, i0, i1, i2, i3, i4, i5, i6, i7, i8, i9, i10, i11, -⟩ := HI.out
     exact hK.out _ _ ⟨qB x3, qB x1, qF i0, qF i1, qP, qF i3, qF i4, qF i5, qF i6, qF i7, qF i8, qF i9, qF i10, qF i11, hL, hS, B1⟩
   · refine qst fun g ac wc hn hk hr HI K' hK => ?_
     obtain ⟨x3, x1, -, -, -, -, -, -, -, -, -, -, -, -, hL, hS, B1⟩ := HI.out
     simp [Region.binds] at hr
     go_simp
     obtain ⟨-, -, i0, i1, i2, i3, i4, i5, i6, i7, i8, i9, i10, i11, -⟩ := HI.out
     exact hK.out _ _ ⟨qB x3, qB x1, qF i0, qF i1, qF i2, qP, qF i4, qF i5, qF i6, qF i7, qF i8, qF i9, qF i10, qF i11, hL, hS, B1⟩
   · refine qst fun g ac wc hn hk hr HI K' hK => ?_
     obtain ⟨x3, x1, -, -, -, i3, -, -, -, -, -, -, -, -, hL, hS, B1⟩ := HI.out
     simp [Region.binds] at hr
     have y3 := i3 (by simp [hr])
     have z3 := sl_get y3 (by omega)
     clear i3
     have hz := HZ.out
     go_simp
     rw [ByteArray.extract_mk, HB.out]
     obtain ⟨-, -, i0, i1, i2, i3, i4, i5, i6, i7, i8, i9, i10, i11, -⟩ := HI.out
     exact hK.out _ _ ⟨qB x3, qB x1, qF i0, qF i1, qF i2, qF i3, qP, qF i5, qF i6, qF i7, qF i8, qF i9, qF i10, qF i11, hL, hS, B1⟩
   · refine qst fun g ac wc hn hk hr HI K' hK => ?_
     obtain ⟨x3, x1, -, -, i2, -, i4, -, -, -, -, -, -, -, hL, hS, B1⟩ := HI.out
     simp [Region.binds] at hr
     have y2 := i2 (by simp [hr])
     have y4 := i4 (by simp [hr])
     have z2 := sl_get y2 (by omega)
     have z4 := sl_get y4 (by omega)
     clear i2 i4
     have hz : (9223372036854775807 < X1.length + B.length) = False := by have := LX1.out; have := LB.out; simp; omega
     go_simp
     rw [ByteArray.mk_append_mk, EX2.out]
     obtain ⟨-, -, i0, i1, i2, i3, i4, i5, i6, i7, i8, i9, i10, i11, -⟩ := HI.out
     exact hK.out _ _ ⟨qB x3, qB x1, qF i0, qF i1, qF i2, qF i3, qF i4, qP, qF i6, qF i7, qF i8, qF i9, qF i10, qF i11, hL, hS, B1⟩
   · refine qst fun g ac wc hn hk hr HI K' hK => ?_
     obtain ⟨x3, x1, -, -, -, -, -, i5, -, -, -, -, -, -, hL, hS, B1⟩ := HI.out
     simp [Region.binds] at hr
     have y5 := i5 (by simp [hr])
     have z5 := sl_get y5 (by omega)
     clear i5
     have hz : (9223372036854775807 < X2.length + 1) = False := by have := LX2.out; simp; omega
     go_simp
     rw [ByteArray.mk_append_mk, EX3.out]
     obtain ⟨-, -, i0, i1, i2, i3, i4, i5, i6, i7, i8, i9, i10, i11, -⟩ := HI.out
     exact hK.out _ _ ⟨qB x3, qB x1, qF i0, qF i1, qF i2, qF i3, qF i4, qF i5, qP, qF i7, qF i8, qF i9, qF i10, qF i11, hL, hS, B1⟩
   · refine qst fun g ac wc hn hk hr HI K' hK => ?_
     obtain ⟨x3, x1, -, -, -, -, -, -, -, -, -, -, -, -, hL, hS, B1⟩ := HI.out
     simp [Region.binds] at hr
     obtain ⟨cb, fb, zb⟩ := blk_at B1
     go_simp
     obtain ⟨-, -, i0, i1, i2, i3, i4, i5, i6, i7, i8, i9, i10, i11, -⟩ := HI.out
     exact hK.out _ _ ⟨qB x3, qB x1, qF i0, qF i1, qF i2, qF i3, qF i4, qF i5, qF i6, qP, qF i8, qF i9, qF i10, qF i11, hL, hS, B1⟩
   · refine qst fun g ac wc hn hk hr HI K' hK => ?_
     obtain ⟨x3, x1, -, -, -, -, -, -, -, i7, -, -, -, -, hL, hS, B1⟩ := HI.out
     simp [Region.binds] at hr
     have y7 := i7 (by simp [hr])
     have z7 := sl_get y7 (by omega)
     clear i7
     obtain ⟨cb, fb, zb⟩ := blk_at B1
     go_simp
     obtain ⟨-, -, i0, i1, i2, i3, i4, i5, i6, i7, i8, i9, i10, i11, -⟩ := HI.out
     exact hK.out _ _ ⟨qB x3, qB x1, qF i0, qF i1, qF i2, qF i3, qF i4, qF i5, qF i6, qF i7, qP, qF i9, qF i10, qF i11, hL, hS, B1⟩
   · refine qst fun g ac wc hn hk hr HI K' hK => ?_
     obtain ⟨x3, x1, -, -, -, -, -, -, -, -, i8, -, -, -, hL, hS, B1⟩ := HI.out
     simp [Region.binds] at hr
     have y8 := i8 (by simp [hr])
     clear i8
     go_simp
     refine (w_decimal t (by omega) (by omega) _ (PT.out.later hL)).mono ?_
     rintro e w4 ⟨rfl, hL4⟩
     rw [HC.out]
     obtain ⟨-, -, i0, i1, i2, i3, i4, i5, i6, i7, i8, i9, i10, i11, -⟩ := HI.out
     exact hK.out _ _ ⟨qB x3, qB x1, qF i0, qF i1, qF i2, qF i3, qF i4, qF i5, qF i6, qF i7, qF i8, qP, qF i10, qF i11, hL.trans hL4, Nat.le_trans hS hL4.size, (hL4.keep B1)⟩
   · refine qst fun g ac wc hn hk hr HI K' hK => ?_
     obtain ⟨x3, x1, -, -, -, -, -, -, i6, -, -, i9, -, -, hL, hS, B1⟩ := HI.out
     simp [Region.binds] at hr
     have y6 := i6 (by simp [hr])
     have y9 := i9 (by simp [hr])
     have z6 := sl_get y6 (by omega)
     have z9 := sl_get y9 (by omega)
     clear i6 i9
     have hz : (9223372036854775807 < X3.length + C.length) = False := by have := LX3.out; have := LC.out; simp; omega
     go_simp
     rw [ByteArray.mk_append_mk, EX4.out]
     obtain ⟨-, -, i0, i1, i2, i3, i4, i5, i6, i7, i8, i9, i10, i11, -⟩ := HI.out
     exact hK.out _ _ ⟨qB x3, qB x1, qF i0, qF i1, qF i2, qF i3, qF i4, qF i5, qF i6, qF i7, qF i8, qF i9, qP, qF i11, hL, hS, B1⟩
   · refine qst fun g ac wc hn hk hr HI K' hK => ?_
     obtain ⟨x3, x1, -, -, -, -, -, -, -, -, -, -, i10, -, hL, hS, B1⟩ := HI.out
     simp [Region.binds] at hr
     have y10 := i10 (by simp [hr])
     have z10 := sl_get y10 (by omega)
     clear i10
     go_simp
     obtain ⟨-, -, i0, i1, i2, i3, i4, i5, i6, i7, i8, i9, i10, i11, -⟩ := HI.out
     exact hK.out _ _ ⟨qB x3, qB x1, qF i0, qF i1, qF i2, qF i3, qF i4, qF i5, qF i6, qF i7, qF i8, qF i9, qF i10, qP, hL, hS, B1⟩
set_option maxHeartbeats 2000000 in
theorem w_l02Text (f : Fig) (h1 : 1000 ≤ f.d) (h2 : f.d ≤ 9999) (h3 : -100 ≤ f.t) (h4 : f.t ≤ 100) (w : World) :
 Calls Tryz.prog 128 #[.agg #[.int .i64 f.d, .int .i64 f.t]] w fun e w' => e = .returned (sv (figT f)) ∧ Later w w' := by
 obtain ⟨d, t⟩ := f
 simp only at h1 h2 h3 h4 ⊢
 obtain ⟨dn, rfl⟩ : ∃ n : Nat, d = n := ⟨d.toNat, by omega⟩
 obtain ⟨D, hD⟩ : ∃ D, Lib.decDigits dn = D := ⟨_, rfl⟩
 obtain ⟨C, hC⟩ : ∃ C, Lib.itoa t = C := ⟨_, rfl⟩
 have hDi : Lib.itoa (dn : Int) = D := by rw [itoa_nat, hD]
 have l0 := itoa_pos (dn : Int)
 have l1 := itoa_len (n := (dn : Int)) (by omega) (by omega)
 have l2 := itoa_len (n := t) (by omega) (by omega)
 rw [hDi] at l0 l1
 rw [hC] at l2
 obtain ⟨A, hA⟩ : ∃ A, (D.drop 0).take (1 - 0) = A := ⟨_, rfl⟩
 obtain ⟨B, hB⟩ : ∃ B, (D.drop 1).take (D.length - 1) = B := ⟨_, rfl⟩
 obtain ⟨X1, hX1⟩ : ∃ X, A ++ [46] = X := ⟨_, rfl⟩
 obtain ⟨X2, hX2⟩ : ∃ X, X1 ++ B = X := ⟨_, rfl⟩
 obtain ⟨X3, hX3⟩ : ∃ X, X2 ++ [101] = X := ⟨_, rfl⟩
 obtain ⟨X4, hX4⟩ : ∃ X, X3 ++ C = X := ⟨_, rfl⟩
 have EX1 := Lib.hid hX1
 have EX2 := Lib.hid hX2
 have EX3 := Lib.hid hX3
 have EX4 := Lib.hid hX4
 have EF : Hid (figT ⟨dn, t⟩ = X4) := Lib.hid (by
  rw [← hX4, ← hX3, ← hX2, ← hX1]
  have b : B = D.drop 1 := by rw [← hB]; exact List.take_of_length_le (by simp)
  have a : A = D.take 1 := by rw [← hA]; rfl
  rw [a, b, ← hC, ← hDi]; rfl)
 have LA : Hid (A.length ≤ 20) := Lib.hid (by rw [← hA]; simp; omega)
 have LB : Hid (B.length ≤ 20) := Lib.hid (by rw [← hB]; simp; omega)
 have LX1 : Hid (X1.length ≤ 21) := Lib.hid (by have := LA.out; rw [← hX1]; simp; omega)
 have LX2 : Hid (X2.length ≤ 41) := Lib.hid (by have := LX1.out; have := LB.out; rw [← hX2]; simp; omega)
 have LX3 : Hid (X3.length ≤ 42) := Lib.hid (by have := LX2.out; rw [← hX3]; simp; omega)
 have LC : Hid (C.length ≤ 20) := Lib.hid l2
 have HZ : Hid (((1 : Int) ≤ (D.length : Int)) = True) := Lib.hid (by simp; omega)
 have HA := Lib.hid hA
 have HB := Lib.hid hB
 have HC := Lib.hid hC
 have HDi := Lib.hid hDi
 have HDd := Lib.hid hD
 clear hX1 hX2 hX3 hX4 hA hB hC hDi hD l0 l1 l2
 go_enter Tryz.func128, Tryz.ntmps128
 go_wp2_with fail
 refine (w_l01Dec dn (by omega) _).mono ?_
 rintro e w1 ⟨rfl, hL1⟩
 rw [HDd.out]
 have K1 := hL1.keep (heap_alloc_new _ _)
 have hL0 := ((Later.refl w).alloc _).trans hL1
 have hSB := hL0.size
 have hlt := hL1.size
 simp only [World.size_alloc] at hlt
 clear hL1
 go_wp2_with fail
 refine region_slots 18 [7, 8, 9, 10, 11, 12, 13, 14, 15, 16, 17, 2] (fun g ac wc => sl ac 3 = sv D ∧
  sl ac 1 = .pointer (some ⟨w.heap.size, 0, none⟩) ∧
  (g 0 = true → sl ac 7 = sv D) ∧
  (g 1 = true → sl ac 8 = sv A) ∧
  (g 2 = true → sl ac 9 = sv X1) ∧
  (g 3 = true → sl ac 10 = sv D) ∧
  (g 4 = true → sl ac 11 = sv B) ∧
  (g 5 = true → sl ac 12 = sv X2) ∧
  (g 6 = true → sl ac 13 = sv X3) ∧
  (g 7 = true → sl ac 14 = .pointer (some ⟨w.heap.size, 1, none⟩)) ∧
  (g 8 = true → sl ac 15 = .int .i64 t) ∧
  (g 9 = true → sl ac 16 = sv C) ∧
  (g 10 = true → sl ac 17 = sv X4) ∧
  (g 11 = true → sl ac 2 = sv X4) ∧
  Later w wc ∧
  w1.heap.size ≤ wc.heap.size ∧
  wc.heap[w.heap.size]? = some (.cells #[.int .i64 (dn : Int), .int .i64 t] 30 (0, 0))) (by kernel_rfl) (by kernel_rfl) rfl (by kernel_rfl) ?_ ?_ ?_
 · exact ⟨rfl, rfl, nofun, nofun, nofun, nofun, nofun, nofun, nofun, nofun, nofun, nofun, nofun, nofun, hL0.drew, Nat.le_refl _, K1⟩
 · intro g ac wu hg ha hI
   obtain ⟨x3, x1, i0, i1, i2, i3, i4, i5, i6, i7, i8, i9, i10, i11, hL, hS, B1⟩ := hI
   have a0 := i0 (hg 0 (by simp))
   have a1 := i1 (hg 1 (by simp))
   have a2 := i2 (hg 2 (by simp))
   have a3 := i3 (hg 3 (by simp))
   have a4 := i4 (hg 4 (by simp))
   have a5 := i5 (hg 5 (by simp))
   have a6 := i6 (hg 6 (by simp))
   have a7 := i7 (hg 7 (by simp))
   have a8 := i8 (hg 8 (by simp))
   have a9 := i9 (hg 9 (by simp))
   have a10 := i10 (hg 10 (by simp))
   have a11 := i11 (hg 11 (by simp))
   simp only [putAll, a0, a1, a2, a3, a4, a5, a6, a7, a8, a9, a10, a11] at ha
   simp only [Act.put, List.setIfInBounds_toArray, List.set_cons_succ, List.set_cons_zero] at ha
   rw [ha]
   clear x3 x1 i0 i1 i2 i3 i4 i5 i6 i7 i8 i9 i10 i11 a0 a1 a2 a3 a4 a5 a6 a7 a8 a9 a10 a11 hg ha
   go_wp2
   go_ret
   exact ⟨by rw [EF.out]; rfl, hL⟩
 · refine .cons ?_ (.cons ?_ (.cons ?_ (.cons ?_ (.cons ?_ (.cons ?_ (.cons ?_ (.cons ?_ (.cons ?_ (.cons ?_ (.cons ?_ (.cons ?_ .nil)))))))))))
   · refine qst fun g ac wc hn hk hr HI K' hK => ?_
     obtain ⟨x3, x1, -, -, -, -, -, -, -, -, -, -, -, -, hL, hS, B1⟩ := HI.out
     simp [Region.binds] at hr
     go_simp
     obtain ⟨-, -, i0, i1, i2, i3, i4, i5, i6, i7, i8, i9, i10, i11, -⟩ := HI.out
     exact hK.out _ _ ⟨qB x3, qB x1, qP, qF i1, qF i2, qF i3, qF i4, qF i5, qF i6, qF i7, qF i8, qF i9, qF i10, qF i11, hL, hS, B1⟩
   · refine qst fun g ac wc hn hk hr HI K' hK => ?_
     obtain ⟨x3, x1, i0, -, -, -, -, -, -, -, -, -, -, -, hL, hS, B1⟩ := HI.out
     simp [Region.binds] at hr
     have y0 := i0 (by simp [hr])
     have z0 := sl_get y0 (by omega)
     clear i0
     have hz := HZ.out
     go_simp
     rw [ByteArray.extract_mk, HA.out]
     obtain ⟨-, -, i0, i1, i2, i3, i4, i5, i6, i7, i8, i9, i10, i11, -⟩ := HI.out
     exact hK.out _ _ ⟨qB x3, qB x1, qF i0, qP, qF i2, qF i3, qF i4, qF i5, qF i6, qF i7, qF i8, qF i9, qF i10, qF i11, hL, hS, B1⟩
   · refine qst fun g ac wc hn hk hr HI K' hK => ?_
     obtain ⟨x3, x1, -, i1, -, -, -, -, -, -, -, -, -, -, hL, hS, B1⟩ := HI.out
     simp [Region.binds] at hr
     have y1 := i1 (by simp [hr])
     have z1 := sl_get y1 (by omega)
     clear i1
     have hz : (9223372036854775807 < A.length + 1) = False := by have := LA.out; simp; omega
     go_simp
     rw [ByteArray.mk_append_mk, EX1.out]
     obtain ⟨-, -, i0, i1, i2, i3, i4, i5, i6, i7, i8, i9, i10, i11, -⟩ := HI.out
     exact hK.out _ _ ⟨qB x3, qB x1, qF i0, qF i1, qP, qF i3, qF i4, qF i5, qF i6, qF i7, qF i8, qF i9, qF i10, qF i11, hL, hS, B1⟩
   · refine qst fun g ac wc hn hk hr HI K' hK => ?_
     obtain ⟨x3, x1, -, -, -, -, -, -, -, -, -, -, -, -, hL, hS, B1⟩ := HI.out
     simp [Region.binds] at hr
     go_simp
     obtain ⟨-, -, i0, i1, i2, i3, i4, i5, i6, i7, i8, i9, i10, i11, -⟩ := HI.out
     exact hK.out _ _ ⟨qB x3, qB x1, qF i0, qF i1, qF i2, qP, qF i4, qF i5, qF i6, qF i7, qF i8, qF i9, qF i10, qF i11, hL, hS, B1⟩
   · refine qst fun g ac wc hn hk hr HI K' hK => ?_
     obtain ⟨x3, x1, -, -, -, i3, -, -, -, -, -, -, -, -, hL, hS, B1⟩ := HI.out
     simp [Region.binds] at hr
     have y3 := i3 (by simp [hr])
     have z3 := sl_get y3 (by omega)
     clear i3
     have hz := HZ.out
     go_simp
     rw [ByteArray.extract_mk, HB.out]
     obtain ⟨-, -, i0, i1, i2, i3, i4, i5, i6, i7, i8, i9, i10, i11, -⟩ := HI.out
     exact hK.out _ _ ⟨qB x3, qB x1, qF i0, qF i1, qF i2, qF i3, qP, qF i5, qF i6, qF i7, qF i8, qF i9, qF i10, qF i11, hL, hS, B1⟩
   · refine qst fun g ac wc hn hk hr HI K' hK => ?_
     obtain ⟨x3, x1, -, -, i2, -, i4, -, -, -, -, -, -, -, hL, hS, B1⟩ := HI.out
     simp [Region.binds] at hr
     have y2 := i2 (by simp [hr])
     have y4 := i4 (by simp [hr])
     have z2 := sl_get y2 (by omega)
     have z4 := sl_get y4 (by omega)
     clear i2 i4
     have hz : (9223372036854775807 < X1.length + B.length) = False := by have := LX1.out; have := LB.out; simp; omega
     go_simp
     rw [ByteArray.mk_append_mk, EX2.out]
     obtain ⟨-, -, i0, i1, i2, i3, i4, i5, i6, i7, i8, i9, i10, i11, -⟩ := HI.out
     exact hK.out _ _ ⟨qB x3, qB x1, qF i0, qF i1, qF i2, qF i3, qF i4, qP, qF i6, qF i7, qF i8, qF i9, qF i10, qF i11, hL, hS, B1⟩
   · refine qst fun g ac wc hn hk hr HI K' hK => ?_
     obtain ⟨x3, x1, -, -, -, -, -, i5, -, -, -, -, -, -, hL, hS, B1⟩ := HI.out
     simp [Region.binds] at hr
     have y5 := i5 (by simp [hr])
     have z5 := sl_get y5 (by omega)
     clear i5
     have hz : (9223372036854775807 < X2.length + 1) = False := by have := LX2.out; simp; omega
     go_simp
     rw [ByteArray.mk_append_mk, EX3.out]
     obtain ⟨-, -, i0, i1, i2, i3, i4, i5, i6, i7, i8, i9, i10, i11, -⟩ := HI.out
     exact hK.out _ _ ⟨qB x3, qB x1, qF i0, qF i1, qF i2, qF i3, qF i4, qF i5, qP, qF i7, qF i8, qF i9, qF i10, qF i11, hL, hS, B1⟩
   · refine qst fun g ac wc hn hk hr HI K' hK => ?_
     obtain ⟨x3, x1, -, -, -, -, -, -, -, -, -, -, -, -, hL, hS, B1⟩ := HI.out
     simp [Region.binds] at hr
     obtain ⟨cb, fb, zb⟩ := blk_at B1
     go_simp
     obtain ⟨-, -, i0, i1, i2, i3, i4, i5, i6, i7, i8, i9, i10, i11, -⟩ := HI.out
     exact hK.out _ _ ⟨qB x3, qB x1, qF i0, qF i1, qF i2, qF i3, qF i4, qF i5, qF i6, qP, qF i8, qF i9, qF i10, qF i11, hL, hS, B1⟩
   · refine qst fun g ac wc hn hk hr HI K' hK => ?_
     obtain ⟨x3, x1, -, -, -, -, -, -, -, i7, -, -, -, -, hL, hS, B1⟩ := HI.out
     simp [Region.binds] at hr
     have y7 := i7 (by simp [hr])
     have z7 := sl_get y7 (by omega)
     clear i7
     obtain ⟨cb, fb, zb⟩ := blk_at B1
     go_simp
     obtain ⟨-, -, i0, i1, i2, i3, i4, i5, i6, i7, i8, i9, i10, i11, -⟩ := HI.out
     exact hK.out _ _ ⟨qB x3, qB x1, qF i0, qF i1, qF i2, qF i3, qF i4, qF i5, qF i6, qF i7, qP, qF i9, qF i10, qF i11, hL, hS, B1⟩
   · refine qst fun g ac wc hn hk hr HI K' hK => ?_
     obtain ⟨x3, x1, -, -, -, -, -, -, -, -, i8, -, -, -, hL, hS, B1⟩ := HI.out
     simp [Region.binds] at hr
     have y8 := i8 (by simp [hr])
     clear i8
     go_simp
     refine (w_l01Number t (by omega) (by omega) _).mono ?_
     rintro e w4 ⟨rfl, hL4⟩
     rw [HC.out]
     obtain ⟨-, -, i0, i1, i2, i3, i4, i5, i6, i7, i8, i9, i10, i11, -⟩ := HI.out
     exact hK.out _ _ ⟨qB x3, qB x1, qF i0, qF i1, qF i2, qF i3, qF i4, qF i5, qF i6, qF i7, qF i8, qP, qF i10, qF i11, hL.trans hL4, Nat.le_trans hS hL4.size, (hL4.keep B1)⟩
   · refine qst fun g ac wc hn hk hr HI K' hK => ?_
     obtain ⟨x3, x1, -, -, -, -, -, -, i6, -, -, i9, -, -, hL, hS, B1⟩ := HI.out
     simp [Region.binds] at hr
     have y6 := i6 (by simp [hr])
     have y9 := i9 (by simp [hr])
     have z6 := sl_get y6 (by omega)
     have z9 := sl_get y9 (by omega)
     clear i6 i9
     have hz : (9223372036854775807 < X3.length + C.length) = False := by have := LX3.out; have := LC.out; simp; omega
     go_simp
     rw [ByteArray.mk_append_mk, EX4.out]
     obtain ⟨-, -, i0, i1, i2, i3, i4, i5, i6, i7, i8, i9, i10, i11, -⟩ := HI.out
     exact hK.out _ _ ⟨qB x3, qB x1, qF i0, qF i1, qF i2, qF i3, qF i4, qF i5, qF i6, qF i7, qF i8, qF i9, qP, qF i11, hL, hS, B1⟩
   · refine qst fun g ac wc hn hk hr HI K' hK => ?_
     obtain ⟨x3, x1, -, -, -, -, -, -, -, -, -, -, i10, -, hL, hS, B1⟩ := HI.out
     simp [Region.binds] at hr
     have y10 := i10 (by simp [hr])
     have z10 := sl_get y10 (by omega)
     clear i10
     go_simp
     obtain ⟨-, -, i0, i1, i2, i3, i4, i5, i6, i7, i8, i9, i10, i11, -⟩ := HI.out
     exact hK.out _ _ ⟨qB x3, qB x1, qF i0, qF i1, qF i2, qF i3, qF i4, qF i5, qF i6, qF i7, qF i8, qF i9, qF i10, qP, hL, hS, B1⟩
end Go.Proofs.YtgngbdacejghcaaGreatDoor
