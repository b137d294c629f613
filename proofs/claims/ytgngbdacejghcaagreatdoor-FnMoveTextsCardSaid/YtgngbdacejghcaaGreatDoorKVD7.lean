/- DERIVED. Walks: lists of moves as text. -/
import Derived.Test.YtgngbdacejghcaaGreatDoorKVD5
namespace Go.Proofs.YtgngbdacejghcaaGreatDoor
set_option linter.unusedVariables false
set_option linter.unusedSimpArgs false
open Go.RowKit
set_option maxRecDepth 100000
set_option linter.unusedVariables false
theorem mvs_first {l : List Mov} {t : Mov} (ht : l[0]? = some t) : mvsT (l.take 1) = mvT t := by
 rw [show (1 : Nat) = 0 + 1 from rfl, take_snoc' ht]
 simp [mvsT, Lib.join_one]
theorem mvs_step0 {l : List Mov} {k : Nat} {t : Mov} (ht : l[k]? = some t) (hk : ¬ 0 < k) : mvsT (l.take (k + 1)) = mvsT (l.take k) ++ mvT t := by
 obtain rfl : k = 0 := by omega
 rw [show (0 + 1 : Nat) = 1 from rfl, mvs_first ht]
 simp [mvsT, Lib.join_nil]
theorem mvs_step {l : List Mov} {k : Nat} {t : Mov} (ht : l[k]? = some t) (hk : 0 < k) : mvsT (l.take (k + 1)) = mvsT (l.take k) ++ [32] ++ mvT t := by
 obtain ⟨j, rfl⟩ : ∃ j, k = j + 1 := ⟨k - 1, by omega⟩
 cases l with
 | nil => simp at ht
 | cons a r =>
  simp only [List.getElem?_cons_succ] at ht
  unfold mvsT
  rw [List.take_succ_cons, List.take_succ_cons, List.map_cons, List.map_cons, Lib.join_cons, Lib.join_cons, List.map_take, List.map_take,
   Lib.joinTail_take_succ [32] (r.map mvT) j (mvT t) (by rw [List.getElem?_map, ht]; rfl)]
  simp [List.append_assoc]
theorem codeMoves_ok {l : List Mov} (h : codeMoves l = 0) : l.all isMove = true ∧ l.length ≤ 30 := by
 unfold codeMoves at h
 split at h
 · rename_i h1
   split at h
   · exact ⟨h1, by assumption⟩
   · simp at h
 · simp at h
theorem codeMoves_mv {l : List Mov} (h : codeMoves l = 0) {k : Nat} {t : Mov} (ht : l[k]? = some t) : isMove t = true :=
 List.all_eq_true.1 (codeMoves_ok h).1 t (List.mem_of_getElem? ht)
theorem mvs_len {l : List Mov} (h : codeMoves l = 0) : ∀ k, k ≤ l.length → (mvsT (l.take k)).length ≤ 47 * k
 | 0, _ => by simp [mvsT, Lib.join_nil]
 | k + 1, hk => by
  obtain ⟨t, ht⟩ := get_ex (l := l) (k := k) (by omega)
  have h1 := mvT_len (codeMoves_mv h ht)
  by_cases h0 : 0 < k
  · have h2 := mvs_len h k (by omega)
    rw [mvs_step ht h0]
    simp
    omega
  · obtain rfl : k = 0 := by omega
    rw [show (0 + 1 : Nat) = 1 from rfl, mvs_first ht]
    omega
theorem w_Join (g c n : Nat) (L : List (List UInt8)) (w : World) (hn : n = L.length) (hcells : ∀ (j : Nat) x, L[j]? = some x → w.cell? ⟨g, j, none⟩ = some (sv x)) (hg : g < w.heap.size) (hc : n ≤ c) (h30 : n ≤ 30) (hl : (Lib.join L [32]).length ≤ 100000) :
 Calls Tryz.prog 80 #[.slice (some ⟨g, 0, none⟩) n c, sv [32]] w fun e w' => e = .returned (sv (Lib.join L [32])) ∧ Later w w' := by
 subst hn
 have e1 : (L.map (fun l => ByteArray.mk l.toArray)).map (·.data.toList) = L := by simp [Function.comp_def]
 have h := Tryz.strings_Join g 0 c (L.map (fun l => ByteArray.mk l.toArray)) ⟨#[32]⟩ w (fun j x hx => by
  rw [List.getElem?_map] at hx
  cases hy : L[j]? with
  | none => rw [hy] at hx; cases hx
  | some y =>
   rw [hy] at hx
   cases hx
   rw [Nat.zero_add]
   exact hcells j y hy) hg (by simp; omega) (by simpa using hc) (by rw [e1]; exact Nat.le_trans hl (by decide))
 rw [List.length_map, e1] at h
 exact h
set_option maxHeartbeats 4000000 in
theorem w_l12Text (v : Value) (ts : List Mov) (w : World) (h : IsMovs w v ts) (hc : codeMoves ts = 0) :
 Calls Tryz.prog 82 #[v] w fun e w' => e = .returned (sv (mvsT ts)) ∧ Later w w' := by
 have HC := Lib.hid hc
 have h30 := (codeMoves_ok hc).2
 clear hc
 obtain ⟨hxl1, hn1, a1, cap1, rfl, hcap1, hmax1, hrow1⟩ := h
 have HR1 := Lib.hid hrow1
 clear hrow1 hxl1
 go_enter Tryz.func82, Tryz.ntmps82
 go_wp2
 go_loopw [3, 4] (fun s i wr => ∃ (S : List UInt8) (k : Nat), k ≤ ts.length ∧ i = .int .i64 k ∧ s = sv S ∧ Hid (mvsT (ts.take k) = S) ∧ S.length ≤ 47 * k ∧ Later w wr) (fun _ i _ => ts.length - (intOf i).toNat)
 case atStart => exact ⟨[], 0, Nat.zero_le _, rfl, rfl, rfl, by simp, Later.refl _⟩
 case round =>
  obtain ⟨S, k, hk, rfl, rfl, HS, hSl, hL⟩ := hrel
  by_cases hlt : k < ts.length
  · obtain ⟨b1, off1, rfl, hr1⟩ := HR1.out (by omega)
    obtain ⟨t, ht1⟩ := get_ex (l := ts) (k := k) (by omega)
    have HT1 := Lib.hid ht1
    obtain ⟨c1_0, c1_1, c1_2, c1_3⟩ := (hr1.later hL).mov ht1
    clear ht1
    by_cases hk0 : 0 < k
    · have hkb : decide ((0 : Int) < (k : Int)) = true := decide_eq_true (by omega)
      by_cases h2 : t.k ≤ 2
      · skip
        have HM := Lib.hid (codeMoves_mv HC.out HT1.out)
        have hmk := move_k HM.out
        obtain ⟨kn, hkn⟩ : ∃ n : Nat, t.k = n := ⟨t.k.toNat, by omega⟩
        have hk6 : kn ≤ 6 := by omega
        have hcut := letter_cut kn
        obtain ⟨Q, hQ⟩ : ∃ X, letB (kn : Int) = X := ⟨_, rfl⟩
        have LQ : Hid (Q.length ≤ 1) := Lib.hid (by rw [← hQ]; exact letB_len _)
        rw [hQ] at hcut
        have wq : IntKind.i64.wrap ((kn : Int) + 1) = (kn : Int) + 1 := wrapI (by omega) (by omega)
        have hs1 : ((kn : Int) + 1 ≤ 7) := by omega
        rw [hkn] at c1_0
        obtain ⟨S0, hS0⟩ : ∃ X, S ++ [32] = X := ⟨_, rfl⟩
        obtain ⟨Z, hZ⟩ : ∃ X, S0 ++ Q = X := ⟨_, rfl⟩
        have hz1 : (9223372036854775807 < S.length + 1) = False := by simp; omega
        have hz2 : (9223372036854775807 < S.length + 1 + Q.length) = False := by have := LQ.out; simp; omega
        have hz3 : (9223372036854775807 < S.length + Q.length) = False := by have := LQ.out; simp; omega
        have ES0 := Lib.hid hS0
        have EZ := Lib.hid hZ
        have ESQ : Hid (S0 ++ Q = Z) := Lib.hid (by rw [← hZ, ← hS0])
        have LZ : Hid (Z.length ≤ 2000) := Lib.hid (by have := LQ.out; rw [← hZ, ← hS0]; simp; omega)
        have STEP : Hid (mvsT (ts.take (k + 1)) = S0 ++ mvT t) := Lib.hid (by rw [mvs_step HT1.out hk0, HS.out, ← hS0])
        have hLn := Lib.hid (mvs_len HC.out (k + 1) (by omega))
        have hb : decide ((kn : Int) ≤ 2) = true := decide_eq_true (by omega)
        obtain ⟨s0, s1, f1, f2, f3, f4⟩ := move_bd HM.out (by omega)
        obtain ⟨sn, hsn⟩ : ∃ n : Nat, t.s = n := ⟨t.s.toNat, by omega⟩
        have hsn4 : sn ≤ 4 := by omega
        rw [hsn] at c1_1
        obtain ⟨NM, hNM⟩ : ∃ X, scB (sn : Int) = X := ⟨_, rfl⟩
        have HNM : Hid ((strs scNames)[sn]? = some (sv NM)) := Lib.hid (by rw [← hNM]; exact scB_at (s := (sn : Int)) (by omega) (by omega))
        have LNM : Hid (NM.length ≤ 2) := Lib.hid (by rw [← hNM]; exact scB_len _)
        obtain ⟨F, hF⟩ : ∃ X, figT t.f = X := ⟨_, rfl⟩
        have EF := Lib.hid hF
        have LF : Hid (F.length ≤ 42) := Lib.hid (by rw [← hF]; exact figT_len (by omega) (by omega) (by omega) (by omega))
        obtain ⟨X1, hX1⟩ : ∃ X, Z ++ NM = X := ⟨_, rfl⟩
        obtain ⟨X2, hX2⟩ : ∃ X, X1 ++ [58] = X := ⟨_, rfl⟩
        obtain ⟨X3, hX3⟩ : ∃ X, X2 ++ F = X := ⟨_, rfl⟩
        have EX1 := Lib.hid hX1
        have EX2 := Lib.hid hX2
        have EX3 := Lib.hid hX3
        have LX1 : Hid (X1.length ≤ Z.length + 2) := Lib.hid (by have := LNM.out; rw [← hX1]; simp; omega)
        have LX2 : Hid (X2.length ≤ Z.length + 3) := Lib.hid (by have := LX1.out; rw [← hX2]; simp; omega)
        have EM : Hid (S0 ++ mvT t = X3) := Lib.hid (by unfold mvT; rw [if_pos (by omega), hkn, hsn, hQ, hNM, hF, ← hX3, ← hX2, ← hX1, ← hZ]; simp [List.append_assoc])
        clear hX1 hX2 hX3 hF hNM hQ hmk hkn hsn s0 s1 hZ hS0
        have hL0 := hL.alloc (.cells #[.int .i64 (kn : Int), .int .i64 (sn : Int), .int .i64 t.f.d, .int .i64 t.f.t] 107)
        have hSB := hL0.size
        have hlt9 : wr.heap.size < (wr.alloc (.cells #[.int .i64 (kn : Int), .int .i64 (sn : Int), .int .i64 t.f.d, .int .i64 t.f.t] 107)).heap.size := by simp
        have K1 : (wr.alloc (.cells #[.int .i64 (kn : Int), .int .i64 (sn : Int), .int .i64 t.f.d, .int .i64 t.f.t] 107)).heap[wr.heap.size]? = some (.cells #[.int .i64 (kn : Int), .int .i64 (sn : Int), .int .i64 t.f.d, .int .i64 t.f.t] 107 (0, 0)) := heap_alloc_new _ _
        go_wp2_with fail
        rw [ByteArray.mk_append_mk S [32], ES0.out, ByteArray.mk_append_mk S0 Q, EZ.out]
        refine region_slots 44 [31, 32, 33, 34, 35, 36, 37, 38, 39, 40, 41, 42, 3] (fun g ac wc => (g 12 = false → sl ac 3 = sv Z) ∧
         sl ac 5 = .pointer (some ⟨wr.heap.size, 0, none⟩) ∧
         (g 0 = true → sl ac 31 = sv Z) ∧
         (g 2 = true → sl ac 33 = .pointer (some ⟨wr.heap.size, 1, none⟩)) ∧
         (g 3 = true → sl ac 34 = .int .i64 (sn : Int)) ∧
         (g 4 = true → sl ac 35 = idxPtr (sl ac 32) sn) ∧
         (g 5 = true → sl ac 36 = sv NM) ∧
         (g 6 = true → sl ac 37 = sv X1) ∧
         (g 7 = true → sl ac 38 = sv X2) ∧
         (g 8 = true → sl ac 39 = .pointer (some ⟨wr.heap.size, 2, none⟩)) ∧
         (g 9 = true → sl ac 40 = .agg #[.int .i64 t.f.d, .int .i64 t.f.t]) ∧
         (g 10 = true → sl ac 41 = sv F) ∧
         (g 11 = true → sl ac 42 = sv X3) ∧
         (g 12 = true → sl ac 3 = sv X3) ∧
         Later w wc ∧
         (g 1 = true → (∃ k, sl ac 32 = .slice (some ⟨k, 0, none⟩) 6 6) ∧ (g 5 = false → wc.ownsRow (wr.alloc (.cells #[.int .i64 (kn : Int), .int .i64 (sn : Int), .int .i64 t.f.d, .int .i64 t.f.t] 107)).heap.size 9 1 (sl ac 32) (6) (strs scNames))) ∧
         (g 4 = true → g 1 = true) ∧
         (g 6 = true → g 0 = true) ∧
         (g 7 = true → g 6 = true) ∧
         (g 11 = true → g 7 = true) ∧
         (g 12 = true → g 11 = true) ∧
         (g 5 = true → g 1 = true) ∧
         (wr.alloc (.cells #[.int .i64 (kn : Int), .int .i64 (sn : Int), .int .i64 t.f.d, .int .i64 t.f.t] 107)).heap.size ≤ wc.heap.size ∧
         wc.heap[wr.heap.size]? = some (.cells #[.int .i64 (kn : Int), .int .i64 (sn : Int), .int .i64 t.f.d, .int .i64 t.f.t] 107 (0, 0))) (by kernel_rfl) (by kernel_rfl) rfl (by kernel_rfl) ?_ ?_ ?_
        · exact ⟨fun _ => rfl, rfl, nofun, nofun, nofun, nofun, nofun, nofun, nofun, nofun, nofun, nofun, nofun, nofun, hL0.drew, nofun, nofun, nofun, nofun, nofun, nofun, nofun, Nat.le_refl _, K1⟩
        · intro g ac wu hg ha hI
          obtain ⟨x3, x5, i0, i2, i3, i4, i5, i6, i7, i8, i9, i10, i11, i12, hL, p1, -, -, -, -, -, -, hS, B1⟩ := hI
          obtain ⟨⟨kr1, e1⟩, -⟩ := p1 (hg 1 (by simp))
          have a0 := i0 (hg 0 (by simp))
          have a2 := i2 (hg 2 (by simp))
          have a3 := i3 (hg 3 (by simp))
          have a4 := i4 (hg 4 (by simp))
          rw [e1] at a4
          have a5 := i5 (hg 5 (by simp))
          have a6 := i6 (hg 6 (by simp))
          have a7 := i7 (hg 7 (by simp))
          have a8 := i8 (hg 8 (by simp))
          have a9 := i9 (hg 9 (by simp))
          have a10 := i10 (hg 10 (by simp))
          have a11 := i11 (hg 11 (by simp))
          have a12 := i12 (hg 12 (by simp))
          simp only [putAll, e1, a0, a2, a3, a4, a5, a6, a7, a8, a9, a10, a11, a12] at ha
          simp only [Act.put, List.setIfInBounds_toArray, List.set_cons_succ, List.set_cons_zero] at ha
          rw [ha]
          clear x3 x5 i0 i2 i3 i4 i5 i6 i7 i8 i9 i10 i11 i12 a0 a2 a3 a4 a5 a6 a7 a8 a9 a10 a11 a12 p1 e1 hg ha
          go_wp2
          go_roundw
          case rel => exact ⟨X3, k + 1, by omega, by go_num, rfl, by rw [Hid, STEP.out, EM.out], by have := hLn.out; rw [STEP.out, EM.out] at this; exact this, hL⟩
          case measure => simp [intOf]; omega
        · refine .cons ?_ (.cons ?_ (.cons ?_ (.cons ?_ (.cons ?_ (.cons ?_ (.cons ?_ (.cons ?_ (.cons ?_ (.cons ?_ (.cons ?_ (.cons ?_ (.cons ?_ .nil))))))))))))
          · refine qst fun g ac wc hn hk hr HI K' hK => ?_
            obtain ⟨x3, x5, i0, i2, i3, i4, i5, i6, i7, i8, i9, i10, i11, i12, hL, p1, m4_1, m6_0, m7_6, m11_7, m12_11, m5_1, hS, B1⟩ := HI.out
            simp [Region.binds] at hr
            clear i0 i2 i3 i4 i5 i6 i7 i8 i9 i10 i11 i12 p1
            have hst : g 12 = false := by
             cases hq : g 12 with
             | false => rfl
             | true => have hh := m6_0 (m7_6 (m11_7 (m12_11 hq))); rw [hk] at hh; cases hh
            have y3 := x3 hst
            go_simp
            obtain ⟨-, -, i0, i2, i3, i4, i5, i6, i7, i8, i9, i10, i11, i12, -, p1, -⟩ := HI.out
            exact hK.out _ _ ⟨(fun h => (keepB (x3 h) (by decide))), qB x5, qP, qF i2, qF i3, (fun h => by rw [put_ne (show 35 ≠ 31 by decide), put_ne (show 32 ≠ 31 by decide)]; exact i4 h), qF i5, (fun h => absurd (m6_0 h) (by rw [hk]; simp)), qF i7, qF i8, qF i9, qF i10, qF i11, qF i12, hL, (fun h => by obtain ⟨hs, ho⟩ := p1 h; exact ⟨(by rw [put_ne (show 32 ≠ 31 by decide)]; exact hs), fun ht => by have ho := ho ht; exact (by rw [put_ne (show 32 ≠ 31 by decide)]; exact ho)⟩), m4_1, (fun _ => rfl), m7_6, m11_7, m12_11, m5_1, hS, B1⟩
          · refine qst fun g ac wc hn hk hr HI K' hK => ?_
            obtain ⟨x3, x5, i0, i2, i3, i4, i5, i6, i7, i8, i9, i10, i11, i12, hL, p1, m4_1, m6_0, m7_6, m11_7, m12_11, m5_1, hS, B1⟩ := HI.out
            simp [Region.binds] at hr
            clear i0 i2 i3 i4 i5 i6 i7 i8 i9 i10 i11 i12 p1
            go_simp
            refine (w_l05Names _).mono ?_
            rintro e w4 ⟨kc, rfl, hL4, ho4⟩
            obtain ⟨-, -, i0, i2, i3, i4, i5, i6, i7, i8, i9, i10, i11, i12, -, p1, -⟩ := HI.out
            exact hK.out _ _ ⟨(fun h => (keepB (x3 h) (by decide))), qB x5, qF i0, qF i2, qF i3, (fun h => absurd (m4_1 h) (by rw [hk]; simp)), (fun h => absurd (m5_1 h) (by rw [hk]; simp)), qF i6, qF i7, qF i8, qF i9, qF i10, qF i11, qF i12, hL.trans hL4, (fun _ => ⟨⟨kc, put_eq (by omega)⟩, fun _ => by rw [put_eq (by omega)]; exact owns_base ho4 hS⟩), (fun _ => rfl), m6_0, m7_6, m11_7, m12_11, (fun _ => rfl), Nat.le_trans hS hL4.size, (hL4.keep B1)⟩
          · refine qst fun g ac wc hn hk hr HI K' hK => ?_
            obtain ⟨x3, x5, i0, i2, i3, i4, i5, i6, i7, i8, i9, i10, i11, i12, hL, p1, m4_1, m6_0, m7_6, m11_7, m12_11, m5_1, hS, B1⟩ := HI.out
            simp [Region.binds] at hr
            clear i0 i2 i3 i4 i5 i6 i7 i8 i9 i10 i11 i12 p1
            obtain ⟨cb, fb, zb⟩ := blk_at B1
            go_simp
            obtain ⟨-, -, i0, i2, i3, i4, i5, i6, i7, i8, i9, i10, i11, i12, -, p1, -⟩ := HI.out
            exact hK.out _ _ ⟨(fun h => (keepB (x3 h) (by decide))), qB x5, qF i0, qP, qF i3, (fun h => by rw [put_ne (show 35 ≠ 33 by decide), put_ne (show 32 ≠ 33 by decide)]; exact i4 h), qF i5, qF i6, qF i7, qF i8, qF i9, qF i10, qF i11, qF i12, hL, (fun h => by obtain ⟨hs, ho⟩ := p1 h; exact ⟨(by rw [put_ne (show 32 ≠ 33 by decide)]; exact hs), fun ht => by have ho := ho ht; exact (by rw [put_ne (show 32 ≠ 33 by decide)]; exact ho)⟩), m4_1, m6_0, m7_6, m11_7, m12_11, m5_1, hS, B1⟩
          · refine qst fun g ac wc hn hk hr HI K' hK => ?_
            obtain ⟨x3, x5, i0, i2, i3, i4, i5, i6, i7, i8, i9, i10, i11, i12, hL, p1, m4_1, m6_0, m7_6, m11_7, m12_11, m5_1, hS, B1⟩ := HI.out
            simp [Region.binds] at hr
            have y2 := i2 (by simp [hr])
            have z2 := sl_get y2 (by omega)
            clear i0 i2 i3 i4 i5 i6 i7 i8 i9 i10 i11 i12 p1
            obtain ⟨cb, fb, zb⟩ := blk_at B1
            go_simp
            obtain ⟨-, -, i0, i2, i3, i4, i5, i6, i7, i8, i9, i10, i11, i12, -, p1, -⟩ := HI.out
            exact hK.out _ _ ⟨(fun h => (keepB (x3 h) (by decide))), qB x5, qF i0, qF i2, qP, (fun h => by rw [put_ne (show 35 ≠ 34 by decide), put_ne (show 32 ≠ 34 by decide)]; exact i4 h), qF i5, qF i6, qF i7, qF i8, qF i9, qF i10, qF i11, qF i12, hL, (fun h => by obtain ⟨hs, ho⟩ := p1 h; exact ⟨(by rw [put_ne (show 32 ≠ 34 by decide)]; exact hs), fun ht => by have ho := ho ht; exact (by rw [put_ne (show 32 ≠ 34 by decide)]; exact ho)⟩), m4_1, m6_0, m7_6, m11_7, m12_11, m5_1, hS, B1⟩
          · refine qst fun g ac wc hn hk hr HI K' hK => ?_
            obtain ⟨x3, x5, i0, i2, i3, i4, i5, i6, i7, i8, i9, i10, i11, i12, hL, p1, m4_1, m6_0, m7_6, m11_7, m12_11, m5_1, hS, B1⟩ := HI.out
            simp [Region.binds] at hr
            have y3 := i3 (by simp [hr])
            have gm1 : g 1 = true := by first | exact m4_1 (by simp [hr]) | exact hr | exact hr.1 | exact hr.2 | exact hr.2.1 | simp [hr]
            obtain ⟨⟨kk1, y1⟩, -⟩ := p1 (by simp [hr])
            have z1 := sl_get y1 (by omega)
            have z3 := sl_get y3 (by omega)
            clear i0 i2 i3 i4 i5 i6 i7 i8 i9 i10 i11 i12 p1
            have hsl : ((sn : Int) < 6) = True := by simp; omega
            go_simp
            obtain ⟨-, -, i0, i2, i3, i4, i5, i6, i7, i8, i9, i10, i11, i12, -, p1, -⟩ := HI.out
            exact hK.out _ _ ⟨(fun h => (keepB (x3 h) (by decide))), qB x5, qF i0, qF i2, qF i3, (fun _ => by rw [put_ne (show 32 ≠ 35 by decide), y1]; exact put_eq (a := ac) (i := 35) (by omega)), qF i5, qF i6, qF i7, qF i8, qF i9, qF i10, qF i11, qF i12, hL, (fun h => by obtain ⟨hs, ho⟩ := p1 h; exact ⟨(by rw [put_ne (show 32 ≠ 35 by decide)]; exact hs), fun ht => by have ho := ho ht; exact (by rw [put_ne (show 32 ≠ 35 by decide)]; exact ho)⟩), (fun _ => gm1), m6_0, m7_6, m11_7, m12_11, m5_1, hS, B1⟩
          · refine qst fun g ac wc hn hk hr HI K' hK => ?_
            obtain ⟨x3, x5, i0, i2, i3, i4, i5, i6, i7, i8, i9, i10, i11, i12, hL, p1, m4_1, m6_0, m7_6, m11_7, m12_11, m5_1, hS, B1⟩ := HI.out
            simp [Region.binds] at hr
            have y4 := i4 (by simp [hr])
            have gm1 : g 1 = true := m4_1 (by simp [hr])
            obtain ⟨⟨kk1, y1⟩, ho1⟩ := p1 gm1
            have ho1 := ho1 hk
            rw [y1] at ho1
            have z1 := sl_get y1 (by omega)
            clear i0 i2 i3 i4 i5 i6 i7 i8 i9 i10 i11 i12 p1
            rw [y1] at y4
            simp only [idxPtr] at y4
            have z4 := sl_get y4 (by omega)
            have cN := row_add ho1 sn _ HNM.out
            rw [addr0] at cN
            go_simp
            obtain ⟨-, -, i0, i2, i3, i4, i5, i6, i7, i8, i9, i10, i11, i12, -, p1, -⟩ := HI.out
            exact hK.out _ _ ⟨(fun h => (keepB (x3 h) (by decide))), qB x5, qF i0, qF i2, qF i3, (fun h => by rw [put_ne (show 35 ≠ 36 by decide), put_ne (show 32 ≠ 36 by decide)]; exact i4 h), qP, qF i6, qF i7, qF i8, qF i9, qF i10, qF i11, qF i12, hL, (fun h => by obtain ⟨hs, ho⟩ := p1 h; exact ⟨(by rw [put_ne (show 32 ≠ 36 by decide)]; exact hs), fun h => absurd h (by simp)⟩), m4_1, m6_0, m7_6, m11_7, m12_11, (fun _ => gm1), hS, B1⟩
          · refine qst fun g ac wc hn hk hr HI K' hK => ?_
            obtain ⟨x3, x5, i0, i2, i3, i4, i5, i6, i7, i8, i9, i10, i11, i12, hL, p1, m4_1, m6_0, m7_6, m11_7, m12_11, m5_1, hS, B1⟩ := HI.out
            simp [Region.binds] at hr
            have y0 := i0 (by simp [hr])
            have y5 := i5 (by simp [hr])
            have gm0 : g 0 = true := by first | exact m6_0 (by simp [hr]) | exact hr | exact hr.1 | exact hr.2 | exact hr.2.1 | simp [hr]
            have z0 := sl_get y0 (by omega)
            have z5 := sl_get y5 (by omega)
            clear i0 i2 i3 i4 i5 i6 i7 i8 i9 i10 i11 i12 p1
            have hz : (9223372036854775807 < Z.length + NM.length) = False := by have := LZ.out; have := LNM.out; simp; omega
            go_simp
            rw [ByteArray.mk_append_mk, EX1.out]
            obtain ⟨-, -, i0, i2, i3, i4, i5, i6, i7, i8, i9, i10, i11, i12, -, p1, -⟩ := HI.out
            exact hK.out _ _ ⟨(fun h => (keepB (x3 h) (by decide))), qB x5, qF i0, qF i2, qF i3, (fun h => by rw [put_ne (show 35 ≠ 37 by decide), put_ne (show 32 ≠ 37 by decide)]; exact i4 h), qF i5, qP, (fun h => absurd (m7_6 h) (by rw [hk]; simp)), qF i8, qF i9, qF i10, qF i11, qF i12, hL, (fun h => by obtain ⟨hs, ho⟩ := p1 h; exact ⟨(by rw [put_ne (show 32 ≠ 37 by decide)]; exact hs), fun ht => by have ho := ho ht; exact (by rw [put_ne (show 32 ≠ 37 by decide)]; exact ho)⟩), m4_1, (fun _ => gm0), (fun _ => rfl), m11_7, m12_11, m5_1, hS, B1⟩
          · refine qst fun g ac wc hn hk hr HI K' hK => ?_
            obtain ⟨x3, x5, i0, i2, i3, i4, i5, i6, i7, i8, i9, i10, i11, i12, hL, p1, m4_1, m6_0, m7_6, m11_7, m12_11, m5_1, hS, B1⟩ := HI.out
            simp [Region.binds] at hr
            have y6 := i6 (by simp [hr])
            have gm6 : g 6 = true := by first | exact m7_6 (by simp [hr]) | exact hr | exact hr.1 | exact hr.2 | exact hr.2.1 | simp [hr]
            have z6 := sl_get y6 (by omega)
            clear i0 i2 i3 i4 i5 i6 i7 i8 i9 i10 i11 i12 p1
            have hz : (9223372036854775807 < X1.length + 1) = False := by have := LX1.out; have := LZ.out; simp; omega
            go_simp
            rw [ByteArray.mk_append_mk, EX2.out]
            obtain ⟨-, -, i0, i2, i3, i4, i5, i6, i7, i8, i9, i10, i11, i12, -, p1, -⟩ := HI.out
            exact hK.out _ _ ⟨(fun h => (keepB (x3 h) (by decide))), qB x5, qF i0, qF i2, qF i3, (fun h => by rw [put_ne (show 35 ≠ 38 by decide), put_ne (show 32 ≠ 38 by decide)]; exact i4 h), qF i5, qF i6, qP, qF i8, qF i9, qF i10, (fun h => absurd (m11_7 h) (by rw [hk]; simp)), qF i12, hL, (fun h => by obtain ⟨hs, ho⟩ := p1 h; exact ⟨(by rw [put_ne (show 32 ≠ 38 by decide)]; exact hs), fun ht => by have ho := ho ht; exact (by rw [put_ne (show 32 ≠ 38 by decide)]; exact ho)⟩), m4_1, m6_0, (fun _ => gm6), (fun _ => rfl), m12_11, m5_1, hS, B1⟩
          · refine qst fun g ac wc hn hk hr HI K' hK => ?_
            obtain ⟨x3, x5, i0, i2, i3, i4, i5, i6, i7, i8, i9, i10, i11, i12, hL, p1, m4_1, m6_0, m7_6, m11_7, m12_11, m5_1, hS, B1⟩ := HI.out
            simp [Region.binds] at hr
            clear i0 i2 i3 i4 i5 i6 i7 i8 i9 i10 i11 i12 p1
            obtain ⟨cb, fb, zb⟩ := blk_at B1
            go_simp
            obtain ⟨-, -, i0, i2, i3, i4, i5, i6, i7, i8, i9, i10, i11, i12, -, p1, -⟩ := HI.out
            exact hK.out _ _ ⟨(fun h => (keepB (x3 h) (by decide))), qB x5, qF i0, qF i2, qF i3, (fun h => by rw [put_ne (show 35 ≠ 39 by decide), put_ne (show 32 ≠ 39 by decide)]; exact i4 h), qF i5, qF i6, qF i7, qP, qF i9, qF i10, qF i11, qF i12, hL, (fun h => by obtain ⟨hs, ho⟩ := p1 h; exact ⟨(by rw [put_ne (show 32 ≠ 39 by decide)]; exact hs), fun ht => by have ho := ho ht; exact (by rw [put_ne (show 32 ≠ 39 by decide)]; exact ho)⟩), m4_1, m6_0, m7_6, m11_7, m12_11, m5_1, hS, B1⟩
          · refine qst fun g ac wc hn hk hr HI K' hK => ?_
            obtain ⟨x3, x5, i0, i2, i3, i4, i5, i6, i7, i8, i9, i10, i11, i12, hL, p1, m4_1, m6_0, m7_6, m11_7, m12_11, m5_1, hS, B1⟩ := HI.out
            simp [Region.binds] at hr
            have y8 := i8 (by simp [hr])
            have z8 := sl_get y8 (by omega)
            clear i0 i2 i3 i4 i5 i6 i7 i8 i9 i10 i11 i12 p1
            obtain ⟨cb, fb, zb⟩ := blk_at B1
            go_simp
            obtain ⟨-, -, i0, i2, i3, i4, i5, i6, i7, i8, i9, i10, i11, i12, -, p1, -⟩ := HI.out
            exact hK.out _ _ ⟨(fun h => (keepB (x3 h) (by decide))), qB x5, qF i0, qF i2, qF i3, (fun h => by rw [put_ne (show 35 ≠ 40 by decide), put_ne (show 32 ≠ 40 by decide)]; exact i4 h), qF i5, qF i6, qF i7, qF i8, qP, qF i10, qF i11, qF i12, hL, (fun h => by obtain ⟨hs, ho⟩ := p1 h; exact ⟨(by rw [put_ne (show 32 ≠ 40 by decide)]; exact hs), fun ht => by have ho := ho ht; exact (by rw [put_ne (show 32 ≠ 40 by decide)]; exact ho)⟩), m4_1, m6_0, m7_6, m11_7, m12_11, m5_1, hS, B1⟩
          · refine qst fun g ac wc hn hk hr HI K' hK => ?_
            obtain ⟨x3, x5, i0, i2, i3, i4, i5, i6, i7, i8, i9, i10, i11, i12, hL, p1, m4_1, m6_0, m7_6, m11_7, m12_11, m5_1, hS, B1⟩ := HI.out
            simp [Region.binds] at hr
            have y9 := i9 (by simp [hr])
            clear i0 i2 i3 i4 i5 i6 i7 i8 i9 i10 i11 i12 p1
            go_simp
            refine (w_l02Text t.f f1 f2 (by omega) (by omega) _).mono ?_
            rintro e w4 ⟨rfl, hL4⟩
            rw [EF.out]
            obtain ⟨-, -, i0, i2, i3, i4, i5, i6, i7, i8, i9, i10, i11, i12, -, p1, -⟩ := HI.out
            exact hK.out _ _ ⟨(fun h => (keepB (x3 h) (by decide))), qB x5, qF i0, qF i2, qF i3, (fun h => by rw [put_ne (show 35 ≠ 41 by decide), put_ne (show 32 ≠ 41 by decide)]; exact i4 h), qF i5, qF i6, qF i7, qF i8, qF i9, qP, qF i11, qF i12, hL.trans hL4, (fun h => by obtain ⟨hs, ho⟩ := p1 h; exact ⟨(by rw [put_ne (show 32 ≠ 41 by decide)]; exact hs), fun ht => by have ho := ho ht; exact (by rw [put_ne (show 32 ≠ 41 by decide)]; exact (owns_later ho hL4))⟩), m4_1, m6_0, m7_6, m11_7, m12_11, m5_1, Nat.le_trans hS hL4.size, (hL4.keep B1)⟩
          · refine qst fun g ac wc hn hk hr HI K' hK => ?_
            obtain ⟨x3, x5, i0, i2, i3, i4, i5, i6, i7, i8, i9, i10, i11, i12, hL, p1, m4_1, m6_0, m7_6, m11_7, m12_11, m5_1, hS, B1⟩ := HI.out
            simp [Region.binds] at hr
            have y7 := i7 (by simp [hr])
            have y10 := i10 (by simp [hr])
            have gm7 : g 7 = true := by first | exact m11_7 (by simp [hr]) | exact hr | exact hr.1 | exact hr.2 | exact hr.2.1 | simp [hr]
            have z7 := sl_get y7 (by omega)
            have z10 := sl_get y10 (by omega)
            clear i0 i2 i3 i4 i5 i6 i7 i8 i9 i10 i11 i12 p1
            have hz : (9223372036854775807 < X2.length + F.length) = False := by have := LX2.out; have := LF.out; have := LZ.out; simp; omega
            go_simp
            rw [ByteArray.mk_append_mk, EX3.out]
            obtain ⟨-, -, i0, i2, i3, i4, i5, i6, i7, i8, i9, i10, i11, i12, -, p1, -⟩ := HI.out
            exact hK.out _ _ ⟨(fun h => (keepB (x3 h) (by decide))), qB x5, qF i0, qF i2, qF i3, (fun h => by rw [put_ne (show 35 ≠ 42 by decide), put_ne (show 32 ≠ 42 by decide)]; exact i4 h), qF i5, qF i6, qF i7, qF i8, qF i9, qF i10, qP, (fun h => absurd (m12_11 h) (by rw [hk]; simp)), hL, (fun h => by obtain ⟨hs, ho⟩ := p1 h; exact ⟨(by rw [put_ne (show 32 ≠ 42 by decide)]; exact hs), fun ht => by have ho := ho ht; exact (by rw [put_ne (show 32 ≠ 42 by decide)]; exact ho)⟩), m4_1, m6_0, m7_6, (fun _ => gm7), (fun _ => rfl), m5_1, hS, B1⟩
          · refine qst fun g ac wc hn hk hr HI K' hK => ?_
            obtain ⟨x3, x5, i0, i2, i3, i4, i5, i6, i7, i8, i9, i10, i11, i12, hL, p1, m4_1, m6_0, m7_6, m11_7, m12_11, m5_1, hS, B1⟩ := HI.out
            simp [Region.binds] at hr
            have y11 := i11 (by simp [hr])
            have gm11 : g 11 = true := by first | exact m12_11 (by simp [hr]) | exact hr | exact hr.1 | exact hr.2 | exact hr.2.1 | simp [hr]
            have z11 := sl_get y11 (by omega)
            clear i0 i2 i3 i4 i5 i6 i7 i8 i9 i10 i11 i12 p1
            go_simp
            obtain ⟨-, -, i0, i2, i3, i4, i5, i6, i7, i8, i9, i10, i11, i12, -, p1, -⟩ := HI.out
            exact hK.out _ _ ⟨(fun h => absurd h (by simp)), qB x5, qF i0, qF i2, qF i3, (fun h => by rw [put_ne (show 35 ≠ 3 by decide), put_ne (show 32 ≠ 3 by decide)]; exact i4 h), qF i5, qF i6, qF i7, qF i8, qF i9, qF i10, qF i11, qP, hL, (fun h => by obtain ⟨hs, ho⟩ := p1 h; exact ⟨(by rw [put_ne (show 32 ≠ 3 by decide)]; exact hs), fun ht => by have ho := ho ht; exact (by rw [put_ne (show 32 ≠ 3 by decide)]; exact ho)⟩), m4_1, m6_0, m7_6, m11_7, (fun _ => gm11), m5_1, hS, B1⟩
      · skip
        have HM := Lib.hid (codeMoves_mv HC.out HT1.out)
        have hmk := move_k HM.out
        obtain ⟨kn, hkn⟩ : ∃ n : Nat, t.k = n := ⟨t.k.toNat, by omega⟩
        have hk6 : kn ≤ 6 := by omega
        have hcut := letter_cut kn
        obtain ⟨Q, hQ⟩ : ∃ X, letB (kn : Int) = X := ⟨_, rfl⟩
        have LQ : Hid (Q.length ≤ 1) := Lib.hid (by rw [← hQ]; exact letB_len _)
        rw [hQ] at hcut
        have wq : IntKind.i64.wrap ((kn : Int) + 1) = (kn : Int) + 1 := wrapI (by omega) (by omega)
        have hs1 : ((kn : Int) + 1 ≤ 7) := by omega
        rw [hkn] at c1_0
        obtain ⟨S0, hS0⟩ : ∃ X, S ++ [32] = X := ⟨_, rfl⟩
        obtain ⟨Z, hZ⟩ : ∃ X, S0 ++ Q = X := ⟨_, rfl⟩
        have hz1 : (9223372036854775807 < S.length + 1) = False := by simp; omega
        have hz2 : (9223372036854775807 < S.length + 1 + Q.length) = False := by have := LQ.out; simp; omega
        have hz3 : (9223372036854775807 < S.length + Q.length) = False := by have := LQ.out; simp; omega
        have ES0 := Lib.hid hS0
        have EZ := Lib.hid hZ
        have ESQ : Hid (S0 ++ Q = Z) := Lib.hid (by rw [← hZ, ← hS0])
        have LZ : Hid (Z.length ≤ 2000) := Lib.hid (by have := LQ.out; rw [← hZ, ← hS0]; simp; omega)
        have STEP : Hid (mvsT (ts.take (k + 1)) = S0 ++ mvT t) := Lib.hid (by rw [mvs_step HT1.out hk0, HS.out, ← hS0])
        have hLn := Lib.hid (mvs_len HC.out (k + 1) (by omega))
        have hb : decide ((kn : Int) ≤ 2) = false := decide_eq_false (by omega)
        have EM : Hid (S0 ++ mvT t = Z) := Lib.hid (by unfold mvT; rw [if_neg (by omega), hkn, hQ, hZ])
        clear hQ hmk hkn hZ hS0
        go_wp2_with fail
        go_roundw
        case rel => first | exact ⟨Z, k + 1, by omega, by go_num, by rw [ByteArray.mk_append_mk S [32], ES0.out, ByteArray.mk_append_mk S0 Q, EZ.out], by rw [Hid, STEP.out, EM.out], by have := hLn.out; rw [STEP.out, EM.out] at this; exact this, hL.alloc _⟩ | exact ⟨Z, k + 1, by omega, by go_num, rfl, by rw [Hid, STEP.out, EM.out], by have := hLn.out; rw [STEP.out, EM.out] at this; exact this, hL.alloc _⟩
        case measure => simp [intOf]; omega
    · have hkb : decide ((0 : Int) < (k : Int)) = false := decide_eq_false (by omega)
      by_cases h2 : t.k ≤ 2
      · skip
        have HM := Lib.hid (codeMoves_mv HC.out HT1.out)
        have hmk := move_k HM.out
        obtain ⟨kn, hkn⟩ : ∃ n : Nat, t.k = n := ⟨t.k.toNat, by omega⟩
        have hk6 : kn ≤ 6 := by omega
        have hcut := letter_cut kn
        obtain ⟨Q, hQ⟩ : ∃ X, letB (kn : Int) = X := ⟨_, rfl⟩
        have LQ : Hid (Q.length ≤ 1) := Lib.hid (by rw [← hQ]; exact letB_len _)
        rw [hQ] at hcut
        have wq : IntKind.i64.wrap ((kn : Int) + 1) = (kn : Int) + 1 := wrapI (by omega) (by omega)
        have hs1 : ((kn : Int) + 1 ≤ 7) := by omega
        rw [hkn] at c1_0
        obtain ⟨S0, hS0⟩ : ∃ X, S ++ [] = X := ⟨_, rfl⟩
        obtain ⟨Z, hZ⟩ : ∃ X, S0 ++ Q = X := ⟨_, rfl⟩
        have hz1 : (9223372036854775807 < S.length + 1) = False := by simp; omega
        have hz2 : (9223372036854775807 < S.length + 1 + Q.length) = False := by have := LQ.out; simp; omega
        have hz3 : (9223372036854775807 < S.length + Q.length) = False := by have := LQ.out; simp; omega
        have ES0 := Lib.hid hS0
        have EZ := Lib.hid hZ
        have ESQ : Hid (S ++ Q = Z) := Lib.hid (by rw [← hZ, ← hS0]; simp)
        have LZ : Hid (Z.length ≤ 2000) := Lib.hid (by have := LQ.out; rw [← hZ, ← hS0]; simp; omega)
        have STEP : Hid (mvsT (ts.take (k + 1)) = S0 ++ mvT t) := Lib.hid (by rw [mvs_step0 HT1.out hk0, HS.out, ← hS0, List.append_nil])
        have hLn := Lib.hid (mvs_len HC.out (k + 1) (by omega))
        have hb : decide ((kn : Int) ≤ 2) = true := decide_eq_true (by omega)
        obtain ⟨s0, s1, f1, f2, f3, f4⟩ := move_bd HM.out (by omega)
        obtain ⟨sn, hsn⟩ : ∃ n : Nat, t.s = n := ⟨t.s.toNat, by omega⟩
        have hsn4 : sn ≤ 4 := by omega
        rw [hsn] at c1_1
        obtain ⟨NM, hNM⟩ : ∃ X, scB (sn : Int) = X := ⟨_, rfl⟩
        have HNM : Hid ((strs scNames)[sn]? = some (sv NM)) := Lib.hid (by rw [← hNM]; exact scB_at (s := (sn : Int)) (by omega) (by omega))
        have LNM : Hid (NM.length ≤ 2) := Lib.hid (by rw [← hNM]; exact scB_len _)
        obtain ⟨F, hF⟩ : ∃ X, figT t.f = X := ⟨_, rfl⟩
        have EF := Lib.hid hF
        have LF : Hid (F.length ≤ 42) := Lib.hid (by rw [← hF]; exact figT_len (by omega) (by omega) (by omega) (by omega))
        obtain ⟨X1, hX1⟩ : ∃ X, Z ++ NM = X := ⟨_, rfl⟩
        obtain ⟨X2, hX2⟩ : ∃ X, X1 ++ [58] = X := ⟨_, rfl⟩
        obtain ⟨X3, hX3⟩ : ∃ X, X2 ++ F = X := ⟨_, rfl⟩
        have EX1 := Lib.hid hX1
        have EX2 := Lib.hid hX2
        have EX3 := Lib.hid hX3
        have LX1 : Hid (X1.length ≤ Z.length + 2) := Lib.hid (by have := LNM.out; rw [← hX1]; simp; omega)
        have LX2 : Hid (X2.length ≤ Z.length + 3) := Lib.hid (by have := LX1.out; rw [← hX2]; simp; omega)
        have EM : Hid (S0 ++ mvT t = X3) := Lib.hid (by unfold mvT; rw [if_pos (by omega), hkn, hsn, hQ, hNM, hF, ← hX3, ← hX2, ← hX1, ← hZ]; simp [List.append_assoc])
        clear hX1 hX2 hX3 hF hNM hQ hmk hkn hsn s0 s1 hZ hS0
        have hL0 := hL.alloc (.cells #[.int .i64 (kn : Int), .int .i64 (sn : Int), .int .i64 t.f.d, .int .i64 t.f.t] 107)
        have hSB := hL0.size
        have hlt9 : wr.heap.size < (wr.alloc (.cells #[.int .i64 (kn : Int), .int .i64 (sn : Int), .int .i64 t.f.d, .int .i64 t.f.t] 107)).heap.size := by simp
        have K1 : (wr.alloc (.cells #[.int .i64 (kn : Int), .int .i64 (sn : Int), .int .i64 t.f.d, .int .i64 t.f.t] 107)).heap[wr.heap.size]? = some (.cells #[.int .i64 (kn : Int), .int .i64 (sn : Int), .int .i64 t.f.d, .int .i64 t.f.t] 107 (0, 0)) := heap_alloc_new _ _
        go_wp2_with fail
        rw [ByteArray.mk_append_mk S Q, ESQ.out]
        refine region_slots 44 [31, 32, 33, 34, 35, 36, 37, 38, 39, 40, 41, 42, 3] (fun g ac wc => (g 12 = false → sl ac 3 = sv Z) ∧
         sl ac 5 = .pointer (some ⟨wr.heap.size, 0, none⟩) ∧
         (g 0 = true → sl ac 31 = sv Z) ∧
         (g 2 = true → sl ac 33 = .pointer (some ⟨wr.heap.size, 1, none⟩)) ∧
         (g 3 = true → sl ac 34 = .int .i64 (sn : Int)) ∧
         (g 4 = true → sl ac 35 = idxPtr (sl ac 32) sn) ∧
         (g 5 = true → sl ac 36 = sv NM) ∧
         (g 6 = true → sl ac 37 = sv X1) ∧
         (g 7 = true → sl ac 38 = sv X2) ∧
         (g 8 = true → sl ac 39 = .pointer (some ⟨wr.heap.size, 2, none⟩)) ∧
         (g 9 = true → sl ac 40 = .agg #[.int .i64 t.f.d, .int .i64 t.f.t]) ∧
         (g 10 = true → sl ac 41 = sv F) ∧
         (g 11 = true → sl ac 42 = sv X3) ∧
         (g 12 = true → sl ac 3 = sv X3) ∧
         Later w wc ∧
         (g 1 = true → (∃ k, sl ac 32 = .slice (some ⟨k, 0, none⟩) 6 6) ∧ (g 5 = false → wc.ownsRow (wr.alloc (.cells #[.int .i64 (kn : Int), .int .i64 (sn : Int), .int .i64 t.f.d, .int .i64 t.f.t] 107)).heap.size 9 1 (sl ac 32) (6) (strs scNames))) ∧
         (g 4 = true → g 1 = true) ∧
         (g 6 = true → g 0 = true) ∧
         (g 7 = true → g 6 = true) ∧
         (g 11 = true → g 7 = true) ∧
         (g 12 = true → g 11 = true) ∧
         (g 5 = true → g 1 = true) ∧
         (wr.alloc (.cells #[.int .i64 (kn : Int), .int .i64 (sn : Int), .int .i64 t.f.d, .int .i64 t.f.t] 107)).heap.size ≤ wc.heap.size ∧
         wc.heap[wr.heap.size]? = some (.cells #[.int .i64 (kn : Int), .int .i64 (sn : Int), .int .i64 t.f.d, .int .i64 t.f.t] 107 (0, 0))) (by kernel_rfl) (by kernel_rfl) rfl (by kernel_rfl) ?_ ?_ ?_
        · exact ⟨fun _ => rfl, rfl, nofun, nofun, nofun, nofun, nofun, nofun, nofun, nofun, nofun, nofun, nofun, nofun, hL0.drew, nofun, nofun, nofun, nofun, nofun, nofun, nofun, Nat.le_refl _, K1⟩
        · intro g ac wu hg ha hI
          obtain ⟨x3, x5, i0, i2, i3, i4, i5, i6, i7, i8, i9, i10, i11, i12, hL, p1, -, -, -, -, -, -, hS, B1⟩ := hI
          obtain ⟨⟨kr1, e1⟩, -⟩ := p1 (hg 1 (by simp))
          have a0 := i0 (hg 0 (by simp))
          have a2 := i2 (hg 2 (by simp))
          have a3 := i3 (hg 3 (by simp))
          have a4 := i4 (hg 4 (by simp))
          rw [e1] at a4
          have a5 := i5 (hg 5 (by simp))
          have a6 := i6 (hg 6 (by simp))
          have a7 := i7 (hg 7 (by simp))
          have a8 := i8 (hg 8 (by simp))
          have a9 := i9 (hg 9 (by simp))
          have a10 := i10 (hg 10 (by simp))
          have a11 := i11 (hg 11 (by simp))
          have a12 := i12 (hg 12 (by simp))
          simp only [putAll, e1, a0, a2, a3, a4, a5, a6, a7, a8, a9, a10, a11, a12] at ha
          simp only [Act.put, List.setIfInBounds_toArray, List.set_cons_succ, List.set_cons_zero] at ha
          rw [ha]
          clear x3 x5 i0 i2 i3 i4 i5 i6 i7 i8 i9 i10 i11 i12 a0 a2 a3 a4 a5 a6 a7 a8 a9 a10 a11 a12 p1 e1 hg ha
          go_wp2
          go_roundw
          case rel => exact ⟨X3, k + 1, by omega, by go_num, rfl, by rw [Hid, STEP.out, EM.out], by have := hLn.out; rw [STEP.out, EM.out] at this; exact this, hL⟩
          case measure => simp [intOf]; omega
        · refine .cons ?_ (.cons ?_ (.cons ?_ (.cons ?_ (.cons ?_ (.cons ?_ (.cons ?_ (.cons ?_ (.cons ?_ (.cons ?_ (.cons ?_ (.cons ?_ (.cons ?_ .nil))))))))))))
          · refine qst fun g ac wc hn hk hr HI K' hK => ?_
            obtain ⟨x3, x5, i0, i2, i3, i4, i5, i6, i7, i8, i9, i10, i11, i12, hL, p1, m4_1, m6_0, m7_6, m11_7, m12_11, m5_1, hS, B1⟩ := HI.out
            simp [Region.binds] at hr
            clear i0 i2 i3 i4 i5 i6 i7 i8 i9 i10 i11 i12 p1
            have hst : g 12 = false := by
             cases hq : g 12 with
             | false => rfl
             | true => have hh := m6_0 (m7_6 (m11_7 (m12_11 hq))); rw [hk] at hh; cases hh
            have y3 := x3 hst
            go_simp
            obtain ⟨-, -, i0, i2, i3, i4, i5, i6, i7, i8, i9, i10, i11, i12, -, p1, -⟩ := HI.out
            exact hK.out _ _ ⟨(fun h => (keepB (x3 h) (by decide))), qB x5, qP, qF i2, qF i3, (fun h => by rw [put_ne (show 35 ≠ 31 by decide), put_ne (show 32 ≠ 31 by decide)]; exact i4 h), qF i5, (fun h => absurd (m6_0 h) (by rw [hk]; simp)), qF i7, qF i8, qF i9, qF i10, qF i11, qF i12, hL, (fun h => by obtain ⟨hs, ho⟩ := p1 h; exact ⟨(by rw [put_ne (show 32 ≠ 31 by decide)]; exact hs), fun ht => by have ho := ho ht; exact (by rw [put_ne (show 32 ≠ 31 by decide)]; exact ho)⟩), m4_1, (fun _ => rfl), m7_6, m11_7, m12_11, m5_1, hS, B1⟩
          · refine qst fun g ac wc hn hk hr HI K' hK => ?_
            obtain ⟨x3, x5, i0, i2, i3, i4, i5, i6, i7, i8, i9, i10, i11, i12, hL, p1, m4_1, m6_0, m7_6, m11_7, m12_11, m5_1, hS, B1⟩ := HI.out
            simp [Region.binds] at hr
            clear i0 i2 i3 i4 i5 i6 i7 i8 i9 i10 i11 i12 p1
            go_simp
            refine (w_l05Names _).mono ?_
            rintro e w4 ⟨kc, rfl, hL4, ho4⟩
            obtain ⟨-, -, i0, i2, i3, i4, i5, i6, i7, i8, i9, i10, i11, i12, -, p1, -⟩ := HI.out
            exact hK.out _ _ ⟨(fun h => (keepB (x3 h) (by decide))), qB x5, qF i0, qF i2, qF i3, (fun h => absurd (m4_1 h) (by rw [hk]; simp)), (fun h => absurd (m5_1 h) (by rw [hk]; simp)), qF i6, qF i7, qF i8, qF i9, qF i10, qF i11, qF i12, hL.trans hL4, (fun _ => ⟨⟨kc, put_eq (by omega)⟩, fun _ => by rw [put_eq (by omega)]; exact owns_base ho4 hS⟩), (fun _ => rfl), m6_0, m7_6, m11_7, m12_11, (fun _ => rfl), Nat.le_trans hS hL4.size, (hL4.keep B1)⟩
          · refine qst fun g ac wc hn hk hr HI K' hK => ?_
            obtain ⟨x3, x5, i0, i2, i3, i4, i5, i6, i7, i8, i9, i10, i11, i12, hL, p1, m4_1, m6_0, m7_6, m11_7, m12_11, m5_1, hS, B1⟩ := HI.out
            simp [Region.binds] at hr
            clear i0 i2 i3 i4 i5 i6 i7 i8 i9 i10 i11 i12 p1
            obtain ⟨cb, fb, zb⟩ := blk_at B1
            go_simp
            obtain ⟨-, -, i0, i2, i3, i4, i5, i6, i7, i8, i9, i10, i11, i12, -, p1, -⟩ := HI.out
            exact hK.out _ _ ⟨(fun h => (keepB (x3 h) (by decide))), qB x5, qF i0, qP, qF i3, (fun h => by rw [put_ne (show 35 ≠ 33 by decide), put_ne (show 32 ≠ 33 by decide)]; exact i4 h), qF i5, qF i6, qF i7, qF i8, qF i9, qF i10, qF i11, qF i12, hL, (fun h => by obtain ⟨hs, ho⟩ := p1 h; exact ⟨(by rw [put_ne (show 32 ≠ 33 by decide)]; exact hs), fun ht => by have ho := ho ht; exact (by rw [put_ne (show 32 ≠ 33 by decide)]; exact ho)⟩), m4_1, m6_0, m7_6, m11_7, m12_11, m5_1, hS, B1⟩
          · refine qst fun g ac wc hn hk hr HI K' hK => ?_
            obtain ⟨x3, x5, i0, i2, i3, i4, i5, i6, i7, i8, i9, i10, i11, i12, hL, p1, m4_1, m6_0, m7_6, m11_7, m12_11, m5_1, hS, B1⟩ := HI.out
            simp [Region.binds] at hr
            have y2 := i2 (by simp [hr])
            have z2 := sl_get y2 (by omega)
            clear i0 i2 i3 i4 i5 i6 i7 i8 i9 i10 i11 i12 p1
            obtain ⟨cb, fb, zb⟩ := blk_at B1
            go_simp
            obtain ⟨-, -, i0, i2, i3, i4, i5, i6, i7, i8, i9, i10, i11, i12, -, p1, -⟩ := HI.out
            exact hK.out _ _ ⟨(fun h => (keepB (x3 h) (by decide))), qB x5, qF i0, qF i2, qP, (fun h => by rw [put_ne (show 35 ≠ 34 by decide), put_ne (show 32 ≠ 34 by decide)]; exact i4 h), qF i5, qF i6, qF i7, qF i8, qF i9, qF i10, qF i11, qF i12, hL, (fun h => by obtain ⟨hs, ho⟩ := p1 h; exact ⟨(by rw [put_ne (show 32 ≠ 34 by decide)]; exact hs), fun ht => by have ho := ho ht; exact (by rw [put_ne (show 32 ≠ 34 by decide)]; exact ho)⟩), m4_1, m6_0, m7_6, m11_7, m12_11, m5_1, hS, B1⟩
          · refine qst fun g ac wc hn hk hr HI K' hK => ?_
            obtain ⟨x3, x5, i0, i2, i3, i4, i5, i6, i7, i8, i9, i10, i11, i12, hL, p1, m4_1, m6_0, m7_6, m11_7, m12_11, m5_1, hS, B1⟩ := HI.out
            simp [Region.binds] at hr
            have y3 := i3 (by simp [hr])
            have gm1 : g 1 = true := by first | exact m4_1 (by simp [hr]) | exact hr | exact hr.1 | exact hr.2 | exact hr.2.1 | simp [hr]
            obtain ⟨⟨kk1, y1⟩, -⟩ := p1 (by simp [hr])
            have z1 := sl_get y1 (by omega)
            have z3 := sl_get y3 (by omega)
            clear i0 i2 i3 i4 i5 i6 i7 i8 i9 i10 i11 i12 p1
            have hsl : ((sn : Int) < 6) = True := by simp; omega
            go_simp
            obtain ⟨-, -, i0, i2, i3, i4, i5, i6, i7, i8, i9, i10, i11, i12, -, p1, -⟩ := HI.out
            exact hK.out _ _ ⟨(fun h => (keepB (x3 h) (by decide))), qB x5, qF i0, qF i2, qF i3, (fun _ => by rw [put_ne (show 32 ≠ 35 by decide), y1]; exact put_eq (a := ac) (i := 35) (by omega)), qF i5, qF i6, qF i7, qF i8, qF i9, qF i10, qF i11, qF i12, hL, (fun h => by obtain ⟨hs, ho⟩ := p1 h; exact ⟨(by rw [put_ne (show 32 ≠ 35 by decide)]; exact hs), fun ht => by have ho := ho ht; exact (by rw [put_ne (show 32 ≠ 35 by decide)]; exact ho)⟩), (fun _ => gm1), m6_0, m7_6, m11_7, m12_11, m5_1, hS, B1⟩
          · refine qst fun g ac wc hn hk hr HI K' hK => ?_
            obtain ⟨x3, x5, i0, i2, i3, i4, i5, i6, i7, i8, i9, i10, i11, i12, hL, p1, m4_1, m6_0, m7_6, m11_7, m12_11, m5_1, hS, B1⟩ := HI.out
            simp [Region.binds] at hr
            have y4 := i4 (by simp [hr])
            have gm1 : g 1 = true := m4_1 (by simp [hr])
            obtain ⟨⟨kk1, y1⟩, ho1⟩ := p1 gm1
            have ho1 := ho1 hk
            rw [y1] at ho1
            have z1 := sl_get y1 (by omega)
            clear i0 i2 i3 i4 i5 i6 i7 i8 i9 i10 i11 i12 p1
            rw [y1] at y4
            simp only [idxPtr] at y4
            have z4 := sl_get y4 (by omega)
            have cN := row_add ho1 sn _ HNM.out
            rw [addr0] at cN
            go_simp
            obtain ⟨-, -, i0, i2, i3, i4, i5, i6, i7, i8, i9, i10, i11, i12, -, p1, -⟩ := HI.out
            exact hK.out _ _ ⟨(fun h => (keepB (x3 h) (by decide))), qB x5, qF i0, qF i2, qF i3, (fun h => by rw [put_ne (show 35 ≠ 36 by decide), put_ne (show 32 ≠ 36 by decide)]; exact i4 h), qP, qF i6, qF i7, qF i8, qF i9, qF i10, qF i11, qF i12, hL, (fun h => by obtain ⟨hs, ho⟩ := p1 h; exact ⟨(by rw [put_ne (show 32 ≠ 36 by decide)]; exact hs), fun h => absurd h (by simp)⟩), m4_1, m6_0, m7_6, m11_7, m12_11, (fun _ => gm1), hS, B1⟩
          · refine qst fun g ac wc hn hk hr HI K' hK => ?_
            obtain ⟨x3, x5, i0, i2, i3, i4, i5, i6, i7, i8, i9, i10, i11, i12, hL, p1, m4_1, m6_0, m7_6, m11_7, m12_11, m5_1, hS, B1⟩ := HI.out
            simp [Region.binds] at hr
            have y0 := i0 (by simp [hr])
            have y5 := i5 (by simp [hr])
            have gm0 : g 0 = true := by first | exact m6_0 (by simp [hr]) | exact hr | exact hr.1 | exact hr.2 | exact hr.2.1 | simp [hr]
            have z0 := sl_get y0 (by omega)
            have z5 := sl_get y5 (by omega)
            clear i0 i2 i3 i4 i5 i6 i7 i8 i9 i10 i11 i12 p1
            have hz : (9223372036854775807 < Z.length + NM.length) = False := by have := LZ.out; have := LNM.out; simp; omega
            go_simp
            rw [ByteArray.mk_append_mk, EX1.out]
            obtain ⟨-, -, i0, i2, i3, i4, i5, i6, i7, i8, i9, i10, i11, i12, -, p1, -⟩ := HI.out
            exact hK.out _ _ ⟨(fun h => (keepB (x3 h) (by decide))), qB x5, qF i0, qF i2, qF i3, (fun h => by rw [put_ne (show 35 ≠ 37 by decide), put_ne (show 32 ≠ 37 by decide)]; exact i4 h), qF i5, qP, (fun h => absurd (m7_6 h) (by rw [hk]; simp)), qF i8, qF i9, qF i10, qF i11, qF i12, hL, (fun h => by obtain ⟨hs, ho⟩ := p1 h; exact ⟨(by rw [put_ne (show 32 ≠ 37 by decide)]; exact hs), fun ht => by have ho := ho ht; exact (by rw [put_ne (show 32 ≠ 37 by decide)]; exact ho)⟩), m4_1, (fun _ => gm0), (fun _ => rfl), m11_7, m12_11, m5_1, hS, B1⟩
          · refine qst fun g ac wc hn hk hr HI K' hK => ?_
            obtain ⟨x3, x5, i0, i2, i3, i4, i5, i6, i7, i8, i9, i10, i11, i12, hL, p1, m4_1, m6_0, m7_6, m11_7, m12_11, m5_1, hS, B1⟩ := HI.out
            simp [Region.binds] at hr
            have y6 := i6 (by simp [hr])
            have gm6 : g 6 = true := by first | exact m7_6 (by simp [hr]) | exact hr | exact hr.1 | exact hr.2 | exact hr.2.1 | simp [hr]
            have z6 := sl_get y6 (by omega)
            clear i0 i2 i3 i4 i5 i6 i7 i8 i9 i10 i11 i12 p1
            have hz : (9223372036854775807 < X1.length + 1) = False := by have := LX1.out; have := LZ.out; simp; omega
            go_simp
            rw [ByteArray.mk_append_mk, EX2.out]
            obtain ⟨-, -, i0, i2, i3, i4, i5, i6, i7, i8, i9, i10, i11, i12, -, p1, -⟩ := HI.out
            exact hK.out _ _ ⟨(fun h => (keepB (x3 h) (by decide))), qB x5, qF i0, qF i2, qF i3, (fun h => by rw [put_ne (show 35 ≠ 38 by decide), put_ne (show 32 ≠ 38 by decide)]; exact i4 h), qF i5, qF i6, qP, qF i8, qF i9, qF i10, (fun h => absurd (m11_7 h) (by rw [hk]; simp)), qF i12, hL, (fun h => by obtain ⟨hs, ho⟩ := p1 h; exact ⟨(by rw [put_ne (show 32 ≠ 38 by decide)]; exact hs), fun ht => by have ho := ho ht; exact (by rw [put_ne (show 32 ≠ 38 by decide)]; exact ho)⟩), m4_1, m6_0, (fun _ => gm6), (fun _ => rfl), m12_11, m5_1, hS, B1⟩
          · refine qst fun g ac wc hn hk hr HI K' hK => ?_
            obtain ⟨x3, x5, i0, i2, i3, i4, i5, i6, i7, i8, i9, i10, i11, i12, hL, p1, m4_1, m6_0, m7_6, m11_7, m12_11, m5_1, hS, B1⟩ := HI.out
            simp [Region.binds] at hr
            clear i0 i2 i3 i4 i5 i6 i7 i8 i9 i10 i11 i12 p1
            obtain ⟨cb, fb, zb⟩ := blk_at B1
            go_simp
            obtain ⟨-, -, i0, i2, i3, i4, i5, i6, i7, i8, i9, i10, i11, i12, -, p1, -⟩ := HI.out
            exact hK.out _ _ ⟨(fun h => (keepB (x3 h) (by decide))), qB x5, qF i0, qF i2, qF i3, (fun h => by rw [put_ne (show 35 ≠ 39 by decide), put_ne (show 32 ≠ 39 by decide)]; exact i4 h), qF i5, qF i6, qF i7, qP, qF i9, qF i10, qF i11, qF i12, hL, (fun h => by obtain ⟨hs, ho⟩ := p1 h; exact ⟨(by rw [put_ne (show 32 ≠ 39 by decide)]; exact hs), fun ht => by have ho := ho ht; exact (by rw [put_ne (show 32 ≠ 39 by decide)]; exact ho)⟩), m4_1, m6_0, m7_6, m11_7, m12_11, m5_1, hS, B1⟩
          · refine qst fun g ac wc hn hk hr HI K' hK => ?_
            obtain ⟨x3, x5, i0, i2, i3, i4, i5, i6, i7, i8, i9, i10, i11, i12, hL, p1, m4_1, m6_0, m7_6, m11_7, m12_11, m5_1, hS, B1⟩ := HI.out
            simp [Region.binds] at hr
            have y8 := i8 (by simp [hr])
            have z8 := sl_get y8 (by omega)
            clear i0 i2 i3 i4 i5 i6 i7 i8 i9 i10 i11 i12 p1
            obtain ⟨cb, fb, zb⟩ := blk_at B1
            go_simp
            obtain ⟨-, -, i0, i2, i3, i4, i5, i6, i7, i8, i9, i10, i11, i12, -, p1, -⟩ := HI.out
            exact hK.out _ _ ⟨(fun h => (keepB (x3 h) (by decide))), qB x5, qF i0, qF i2, qF i3, (fun h => by rw [put_ne (show 35 ≠ 40 by decide), put_ne (show 32 ≠ 40 by decide)]; exact i4 h), qF i5, qF i6, qF i7, qF i8, qP, qF i10, qF i11, qF i12, hL, (fun h => by obtain ⟨hs, ho⟩ := p1 h; exact ⟨(by rw [put_ne (show 32 ≠ 40 by decide)]; exact hs), fun ht => by have ho := ho ht; exact (by rw [put_ne (show 32 ≠ 40 by decide)]; exact ho)⟩), m4_1, m6_0, m7_6, m11_7, m12_11, m5_1, hS, B1⟩
          · refine qst fun g ac wc hn hk hr HI K' hK => ?_
            obtain ⟨x3, x5, i0, i2, i3, i4, i5, i6, i7, i8, i9, i10, i11, i12, hL, p1, m4_1, m6_0, m7_6, m11_7, m12_11, m5_1, hS, B1⟩ := HI.out
            simp [Region.binds] at hr
            have y9 := i9 (by simp [hr])
            clear i0 i2 i3 i4 i5 i6 i7 i8 i9 i10 i11 i12 p1
            go_simp
            refine (w_l02Text t.f f1 f2 (by omega) (by omega) _).mono ?_
            rintro e w4 ⟨rfl, hL4⟩
            rw [EF.out]
            obtain ⟨-, -, i0, i2, i3, i4, i5, i6, i7, i8, i9, i10, i11, i12, -, p1, -⟩ := HI.out
            exact hK.out _ _ ⟨(fun h => (keepB (x3 h) (by decide))), qB x5, qF i0, qF i2, qF i3, (fun h => by rw [put_ne (show 35 ≠ 41 by decide), put_ne (show 32 ≠ 41 by decide)]; exact i4 h), qF i5, qF i6, qF i7, qF i8, qF i9, qP, qF i11, qF i12, hL.trans hL4, (fun h => by obtain ⟨hs, ho⟩ := p1 h; exact ⟨(by rw [put_ne (show 32 ≠ 41 by decide)]; exact hs), fun ht => by have ho := ho ht; exact (by rw [put_ne (show 32 ≠ 41 by decide)]; exact (owns_later ho hL4))⟩), m4_1, m6_0, m7_6, m11_7, m12_11, m5_1, Nat.le_trans hS hL4.size, (hL4.keep B1)⟩
          · refine qst fun g ac wc hn hk hr HI K' hK => ?_
            obtain ⟨x3, x5, i0, i2, i3, i4, i5, i6, i7, i8, i9, i10, i11, i12, hL, p1, m4_1, m6_0, m7_6, m11_7, m12_11, m5_1, hS, B1⟩ := HI.out
            simp [Region.binds] at hr
            have y7 := i7 (by simp [hr])
            have y10 := i10 (by simp [hr])
            have gm7 : g 7 = true := by first | exact m11_7 (by simp [hr]) | exact hr | exact hr.1 | exact hr.2 | exact hr.2.1 | simp [hr]
            have z7 := sl_get y7 (by omega)
            have z10 := sl_get y10 (by omega)
            clear i0 i2 i3 i4 i5 i6 i7 i8 i9 i10 i11 i12 p1
            have hz : (9223372036854775807 < X2.length + F.length) = False := by have := LX2.out; have := LF.out; have := LZ.out; simp; omega
            go_simp
            rw [ByteArray.mk_append_mk, EX3.out]
            obtain ⟨-, -, i0, i2, i3, i4, i5, i6, i7, i8, i9, i10, i11, i12, -, p1, -⟩ := HI.out
            exact hK.out _ _ ⟨(fun h => (keepB (x3 h) (by decide))), qB x5, qF i0, qF i2, qF i3, (fun h => by rw [put_ne (show 35 ≠ 42 by decide), put_ne (show 32 ≠ 42 by decide)]; exact i4 h), qF i5, qF i6, qF i7, qF i8, qF i9, qF i10, qP, (fun h => absurd (m12_11 h) (by rw [hk]; simp)), hL, (fun h => by obtain ⟨hs, ho⟩ := p1 h; exact ⟨(by rw [put_ne (show 32 ≠ 42 by decide)]; exact hs), fun ht => by have ho := ho ht; exact (by rw [put_ne (show 32 ≠ 42 by decide)]; exact ho)⟩), m4_1, m6_0, m7_6, (fun _ => gm7), (fun _ => rfl), m5_1, hS, B1⟩
          · refine qst fun g ac wc hn hk hr HI K' hK => ?_
            obtain ⟨x3, x5, i0, i2, i3, i4, i5, i6, i7, i8, i9, i10, i11, i12, hL, p1, m4_1, m6_0, m7_6, m11_7, m12_11, m5_1, hS, B1⟩ := HI.out
            simp [Region.binds] at hr
            have y11 := i11 (by simp [hr])
            have gm11 : g 11 = true := by first | exact m12_11 (by simp [hr]) | exact hr | exact hr.1 | exact hr.2 | exact hr.2.1 | simp [hr]
            have z11 := sl_get y11 (by omega)
            clear i0 i2 i3 i4 i5 i6 i7 i8 i9 i10 i11 i12 p1
            go_simp
            obtain ⟨-, -, i0, i2, i3, i4, i5, i6, i7, i8, i9, i10, i11, i12, -, p1, -⟩ := HI.out
            exact hK.out _ _ ⟨(fun h => absurd h (by simp)), qB x5, qF i0, qF i2, qF i3, (fun h => by rw [put_ne (show 35 ≠ 3 by decide), put_ne (show 32 ≠ 3 by decide)]; exact i4 h), qF i5, qF i6, qF i7, qF i8, qF i9, qF i10, qF i11, qP, hL, (fun h => by obtain ⟨hs, ho⟩ := p1 h; exact ⟨(by rw [put_ne (show 32 ≠ 3 by decide)]; exact hs), fun ht => by have ho := ho ht; exact (by rw [put_ne (show 32 ≠ 3 by decide)]; exact ho)⟩), m4_1, m6_0, m7_6, m11_7, (fun _ => gm11), m5_1, hS, B1⟩
      · skip
        have HM := Lib.hid (codeMoves_mv HC.out HT1.out)
        have hmk := move_k HM.out
        obtain ⟨kn, hkn⟩ : ∃ n : Nat, t.k = n := ⟨t.k.toNat, by omega⟩
        have hk6 : kn ≤ 6 := by omega
        have hcut := letter_cut kn
        obtain ⟨Q, hQ⟩ : ∃ X, letB (kn : Int) = X := ⟨_, rfl⟩
        have LQ : Hid (Q.length ≤ 1) := Lib.hid (by rw [← hQ]; exact letB_len _)
        rw [hQ] at hcut
        have wq : IntKind.i64.wrap ((kn : Int) + 1) = (kn : Int) + 1 := wrapI (by omega) (by omega)
        have hs1 : ((kn : Int) + 1 ≤ 7) := by omega
        rw [hkn] at c1_0
        obtain ⟨S0, hS0⟩ : ∃ X, S ++ [] = X := ⟨_, rfl⟩
        obtain ⟨Z, hZ⟩ : ∃ X, S0 ++ Q = X := ⟨_, rfl⟩
        have hz1 : (9223372036854775807 < S.length + 1) = False := by simp; omega
        have hz2 : (9223372036854775807 < S.length + 1 + Q.length) = False := by have := LQ.out; simp; omega
        have hz3 : (9223372036854775807 < S.length + Q.length) = False := by have := LQ.out; simp; omega
        have ES0 := Lib.hid hS0
        have EZ := Lib.hid hZ
        have ESQ : Hid (S ++ Q = Z) := Lib.hid (by rw [← hZ, ← hS0]; simp)
        have LZ : Hid (Z.length ≤ 2000) := Lib.hid (by have := LQ.out; rw [← hZ, ← hS0]; simp; omega)
        have STEP : Hid (mvsT (ts.take (k + 1)) = S0 ++ mvT t) := Lib.hid (by rw [mvs_step0 HT1.out hk0, HS.out, ← hS0, List.append_nil])
        have hLn := Lib.hid (mvs_len HC.out (k + 1) (by omega))
        have hb : decide ((kn : Int) ≤ 2) = false := decide_eq_false (by omega)
        have EM : Hid (S0 ++ mvT t = Z) := Lib.hid (by unfold mvT; rw [if_neg (by omega), hkn, hQ, hZ])
        clear hQ hmk hkn hZ hS0
        go_wp2_with fail
        go_roundw
        case rel => first | exact ⟨Z, k + 1, by omega, by go_num, by rw [ByteArray.mk_append_mk S Q, ESQ.out], by rw [Hid, STEP.out, EM.out], by have := hLn.out; rw [STEP.out, EM.out] at this; exact this, hL.alloc _⟩ | exact ⟨Z, k + 1, by omega, by go_num, rfl, by rw [Hid, STEP.out, EM.out], by have := hLn.out; rw [STEP.out, EM.out] at this; exact this, hL.alloc _⟩
        case measure => simp [intOf]; omega
  · have hf : mvsT ts = S := by
     have := HS.out
     rwa [take_eq_all (by omega)] at this
    have HF := Lib.hid hf
    clear hf
    go_wp2
    go_ret
    exact ⟨by rw [HF.out]; rfl, hL⟩
set_option maxHeartbeats 2000000 in
theorem w_implMovesTextY (v : Value) (ts : List Mov) (w : World) (h : IsMovs w v ts) (hc : codeMoves ts = 0) (ht : PTab w) :
 Calls Tryz.prog 25 #[v] w fun e w' => e = .returned (.tuple #[sv (mvsT ts), .int .i64 0]) ∧ Later w w' := by
 have HC := Lib.hid hc
 have h30 := (codeMoves_ok hc).2
 have HI := Lib.hid h
 have PT := Lib.hid ht
 clear hc ht
 obtain ⟨hxl1, hn1, a1, cap1, rfl, hcap1, hmax1, hrow1⟩ := h
 have HR1 := Lib.hid hrow1
 clear hrow1 hxl1
 go_enter Tryz.func25, Tryz.ntmps25
 go_wp2_with fail
 refine (w_checkList _ ts _ HI.out).mono ?_
 rintro e w0 ⟨rfl, hL0⟩
 rw [HC.out]
 have hz0 := hL0.size
 go_wp2
 go_loopw [5, 16] (fun u i wr => ∃ (L : List (List UInt8)) (k : Nat), k ≤ ts.length ∧ i = .int .i64 k ∧ Hid (L = (ts.take k).map mvT) ∧ L.length = k ∧ wr.ownsRow w.heap.size 9 1 u L.length (strs L) ∧ w.heap.size ≤ wr.heap.size ∧ Later w wr) (fun _ i _ => ts.length - (intOf i).toNat)
 case atStart => exact ⟨[], 0, Nat.zero_le _, rfl, rfl, rfl, own_empty hz0 _ _, by simp; omega, hL0.alloc _⟩
 case round =>
  obtain ⟨L, k, hk, rfl, HL, hLk, hO, hz, hL⟩ := hrel
  have HO := Lib.hid hO
  have HLk := Lib.hid hLk
  clear hO hLk
  by_cases hlt : k < ts.length
  · obtain ⟨b1, off1, rfl, hr1⟩ := HR1.out (by omega)
    obtain ⟨t, ht1⟩ := get_ex (l := ts) (k := k) (by omega)
    have HT1 := Lib.hid ht1
    obtain ⟨c1_0, c1_1, c1_2, c1_3⟩ := (hr1.later hL).mov ht1
    clear ht1
    have HM := Lib.hid (codeMoves_mv HC.out HT1.out)
    obtain ⟨F, hF⟩ : ∃ X, mvT t = X := ⟨_, rfl⟩
    have EF := Lib.hid hF
    clear hF
    have hkL : L.length ≤ 30 := by have := HLk.out; omega
    go_wp2_with fail
    refine (w_moveText t HM.out _ (PT.out.later (hL.alloc _))).mono ?_
    rintro e w2 ⟨rfl, hL2⟩
    rw [EF.out]
    have HO2 := Lib.hid (owns_later (World.ownsRow.alloc HO.out _) hL2)
    have hL3 : Later w w2 := (hL.alloc _).trans hL2
    have hz3 := hL3.size
    clear hL2
    go_wp2_with (at_builtin; refine app1_String rfl (.tmp 20) (.tmp 23) rfl w.heap.size _ L F rfl HO2.out (by simp [Act.eval, Array.getD]) (by omega) hz3 ?_; intro v5 w5 ho5 hg5)
    go_roundw
    case rel => exact ⟨L ++ [F], k + 1, by omega, by go_num, by rw [Hid, take_snoc' HT1.out, List.map_append, ← HL.out, List.map_cons, EF.out]; rfl, by have := HLk.out; simp; omega, ho5, Nat.le_trans hz3 hg5.size, Below.grown hL3 hg5 hz3 (fun j hj => (HO2.out.lt j hj).1)⟩
    case measure => simp [intOf]; omega
  · have hf : ts.map mvT = L := by
     have := HL.out
     rw [take_eq_all (by omega)] at this
     exact this.symm
    have HF := Lib.hid (show mvsT ts = Lib.join L [32] from by rw [← hf]; rfl)
    have hl : (Lib.join L [32]).length ≤ 100000 := by
     rw [← HF.out]
     have := mvs_len HC.out ts.length (Nat.le_refl _)
     rw [take_eq_all (Nat.le_refl _)] at this
     omega
    have hn30 : L.length ≤ 30 := by have := HLk.out; omega
    clear hf
    rcases own_shape HO.out with ⟨hv, h0, _⟩ | ⟨g, c, hv, hg, hg2, hc1, hc2⟩
    · have e0 : L = [] := List.eq_nil_of_length_eq_zero (by omega)
      subst e0
      cases hv
      go_wp2_with fail
      refine (Tryz.strings_Join_none _ _ _ _).mono ?_
      rintro e w' ⟨rfl, rfl⟩
      go_wp2
      go_ret2
      exact ⟨by rw [HF.out]; rfl, hL⟩
    · cases hv
      go_wp2_with fail
      refine (w_Join g c _ L _ rfl (fun j x hx => by
       have h1 := row_add HO.out j _ (show (strs L)[j]? = some (sv x) from by simp [strs, hx])
       rwa [addr0] at h1) hg2 (by omega) hn30 hl).mono ?_
      rintro e w2 ⟨rfl, hL2⟩
      go_wp2
      go_ret2
      exact ⟨by rw [HF.out]; rfl, hL.trans hL2⟩
theorem w_implMovesText (v : Value) (ts : List Mov) (w : World) (h : IsMovs w v ts) (ht : PTab w) :
 Calls Tryz.prog 25 #[v] w fun e w' => e = .returned (.tuple #[sv (mtT ts), .int .i64 (codeMoves ts)]) ∧ Later w w' := by
 by_cases hc : codeMoves ts = 0
 · rw [show mtT ts = mvsT ts from by rw [mtT, if_pos hc], hc]
   exact w_implMovesTextY v ts w h hc ht
 · obtain ⟨q, hq⟩ : ∃ q, codeMoves ts = q := ⟨_, rfl⟩
   have HF := Lib.hid (show mtT ts = [] from by rw [mtT, if_neg hc])
   rw [hq] at hc
   have hb : (q != 0) = true := by simpa using hc
   have HQ := Lib.hid hq
   clear hq hc
   go_enter Tryz.func25, Tryz.ntmps25
   go_wp2_with fail
   refine (w_checkList _ ts _ h).mono ?_
   rintro e w1 ⟨rfl, hL⟩
   rw [HQ.out]
   go_wp2
   go_ret2
   exact ⟨by rw [HF.out, HQ.out]; rfl, hL⟩
theorem w_specMovesText (v : Value) (ts : List Mov) (w : World) (h : IsMovs w v ts) :
 Calls Tryz.prog 26 #[v] w fun e w' => e = .returned (.tuple #[sv (mtT ts), .int .i64 (codeMoves ts)]) ∧ Later w w' := by
 by_cases hc : codeMoves ts = 0
 · have HF := Lib.hid (show mtT ts = mvsT ts from by rw [mtT, if_pos hc])
   have HC := Lib.hid hc
   clear hc
   rw [HC.out]
   go_enter Tryz.func26, Tryz.ntmps26
   go_wp2_with fail
   refine (w_specL12Code _ ts _ h).mono ?_
   rintro e w1 ⟨rfl, hL⟩
   rw [HC.out]
   go_wp2_with fail
   refine (w_l12Text _ ts _ (h.later hL) HC.out).mono ?_
   rintro e w2 ⟨rfl, hL2⟩
   go_wp2
   go_ret2
   exact ⟨by rw [HF.out]; rfl, hL.trans hL2⟩
 · obtain ⟨q, hq⟩ : ∃ q, codeMoves ts = q := ⟨_, rfl⟩
   have HF := Lib.hid (show mtT ts = [] from by rw [mtT, if_neg hc])
   rw [hq] at hc
   have hb : (q != 0) = true := by simpa using hc
   have HQ := Lib.hid hq
   clear hq hc
   go_enter Tryz.func26, Tryz.ntmps26
   go_wp2_with fail
   refine (w_specL12Code _ ts _ h).mono ?_
   rintro e w1 ⟨rfl, hL⟩
   rw [HQ.out]
   go_wp2
   go_ret2
   exact ⟨by rw [HF.out, HQ.out]; rfl, hL⟩
end Go.Proofs.YtgngbdacejghcaaGreatDoor
