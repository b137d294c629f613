/- DERIVED. Walks: figures read from text. -/
import Derived.Test.YtgngbdacejghcaaGreatDoorKVD3
import Derived.Test.YtgngbdacejghcaaGreatDoorKVD17
namespace Go.Proofs.YtgngbdacejghcaaGreatDoor
set_option linter.unusedVariables false
set_option linter.unusedSimpArgs false
open Go.RowKit
set_option maxRecDepth 100000
set_option linter.unusedVariables false
theorem fig_shape {f : Fig} (h : isFig f = true) : ∃ a b c d, Lib.itoa f.d = [a, b, c, d] ∧ Lib.decDigits f.d.toNat = [a, b, c, d] ∧ (∀ x ∈ [a, b, c, d], 48 ≤ x.toNat ∧ x.toNat ≤ 57) ∧ figT f = a :: 46 :: b :: c :: d :: 101 :: Lib.itoa f.t := by
 obtain ⟨h1, h2, _, _⟩ := isFig_true h
 have e := itoa_pos_nat (t := f.d) (by omega)
 have hl : (Lib.decDigits f.d.toNat).length = 4 := by
  rw [Lib.decDigits_length]
  exact Lib.nDigits_unique 3 _ (by omega) (by omega)
 have hd := digits_all (f.d.toNat + 1) f.d.toNat (by omega)
 match hm : Lib.decDigits f.d.toNat, hl with
 | [a, b, c, d], _ =>
  rw [hm] at hd e
  exact ⟨a, b, c, d, e, rfl, hd, by unfold figT; rw [e]; rfl⟩
theorem figT_inj {f g : Fig} (hf : isFig f = true) (hg : isFig g = true) (h : figT f = figT g) : f = g := by
 obtain ⟨a, b, c, d, e1, _, _, e2⟩ := fig_shape hf
 obtain ⟨a', b', c', d', e1', _, _, e2'⟩ := fig_shape hg
 obtain ⟨f1, f2, f3, f4⟩ := isFig_true hf
 obtain ⟨g1, g2, g3, g4⟩ := isFig_true hg
 rw [e2, e2'] at h
 injection h with h1 h
 injection h with _ h
 injection h with h2 h
 injection h with h3 h
 injection h with h4 h
 injection h with _ h
 have i1 := itoa_inj (by omega) (by omega) (by omega) (by omega) (show Lib.itoa f.d = Lib.itoa g.d from by rw [e1, e1', h1, h2, h3, h4])
 have i2 := itoa_inj (by omega) (by omega) (by omega) (by omega) h
 obtain ⟨x, y⟩ := f
 obtain ⟨x', y'⟩ := g
 simp only at i1 i2
 rw [i1, i2]
open Classical in
noncomputable def rdF (s : List UInt8) : Option Fig := if h : ∃ f, isFig f = true ∧ figT f = s then some h.choose else none
theorem rdF_some {s : List UInt8} {f : Fig} (h1 : isFig f = true) (h2 : figT f = s) : rdF s = some f := by
 have h : ∃ f, isFig f = true ∧ figT f = s := ⟨f, h1, h2⟩
 unfold rdF
 rw [dif_pos h]
 congr 1
 exact figT_inj h.choose_spec.1 h1 (h.choose_spec.2.trans h2.symm)
theorem rdF_none {s : List UInt8} (h : ∀ f, isFig f = true → figT f ≠ s) : rdF s = none := by
 unfold rdF
 rw [dif_neg (fun ⟨f, a, b⟩ => h f a b)]
theorem rdF_is {s : List UInt8} {f : Fig} (h : rdF s = some f) : isFig f = true ∧ figT f = s := by
 unfold rdF at h
 split at h
 · rename_i hx
   injection h with h
   subst h
   exact hx.choose_spec
 · cases h
noncomputable def rfF (s : List UInt8) : Fig := (rdF s).getD ⟨0, 0⟩
noncomputable def rfB (s : List UInt8) : Bool := (rdF s).isSome
noncomputable def rfC (s : List UInt8) : Int := if (rdF s).isSome then 0 else 6
theorem rf_no {s : List UInt8} (h : rdF s = none) : rfF s = ⟨0, 0⟩ ∧ rfB s = false ∧ rfC s = 6 := by simp [rfF, rfB, rfC, h]
theorem rf_yes {s : List UInt8} {f : Fig} (h : rdF s = some f) : rfF s = f ∧ rfB s = true ∧ rfC s = 0 := by simp [rfF, rfB, rfC, h]
theorem rdF_short {s : List UInt8} (h : s.length < 7) : rdF s = none := rdF_none fun f hf e => by
 obtain ⟨a, b, c, d, _, _, _, e2⟩ := fig_shape hf
 have := itoa_pos f.t
 rw [← e, e2] at h
 simp at h
 omega
theorem rdF_dot {s : List UInt8} {x : UInt8} (h : s[1]? = some x) (hx : x ≠ 46) : rdF s = none := rdF_none fun f hf e => by
 obtain ⟨a, b, c, d, _, _, _, e2⟩ := fig_shape hf
 rw [← e, e2] at h
 exact hx (by simpa using h.symm)
theorem rdF_e {s : List UInt8} {x : UInt8} (h : s[5]? = some x) (hx : x ≠ 101) : rdF s = none := rdF_none fun f hf e => by
 obtain ⟨a, b, c, d, _, _, _, e2⟩ := fig_shape hf
 rw [← e, e2] at h
 exact hx (by simpa using h.symm)
theorem seven {s : List UInt8} (h : 7 ≤ s.length) (h1 : s[1]? = some 46) (h5 : s[5]? = some 101) : ∃ a b c d tl, s = a :: 46 :: b :: c :: d :: 101 :: tl ∧ 1 ≤ tl.length := by
 match s, h with
 | a :: x :: b :: c :: d :: y :: tl, h =>
  have e1 : x = 46 := by simpa using h1
  have e2 : y = 101 := by simpa using h5
  refine ⟨a, b, c, d, tl, by rw [e1, e2], ?_⟩
  simp at h
  omega
theorem rdF_num {a b c d : UInt8} {tl : List UInt8} {t : Int} {bt : Bool} (hs : SgOk tl t bt) :
 ((valN [a, b, c, d]).isSome = false ∨ bt = false ∨ isFig ⟨(l01V [a, b, c, d] : Int), t⟩ = false → rdF (a :: 46 :: b :: c :: d :: 101 :: tl) = none) ∧
 ((valN [a, b, c, d]).isSome = true → bt = true → isFig ⟨(l01V [a, b, c, d] : Int), t⟩ = true → rdF (a :: 46 :: b :: c :: d :: 101 :: tl) = some ⟨(l01V [a, b, c, d] : Int), t⟩) := by
 obtain ⟨t0, t1, hy, hn⟩ := hs
 refine ⟨fun h => rdF_none fun f hf e => ?_, fun h1 h2 h3 => rdF_some h3 ?_⟩
 · obtain ⟨a', b', c', d', e1, e2, _, e4⟩ := fig_shape hf
   obtain ⟨g1, g2, g3, g4⟩ := isFig_true hf
   rw [e4] at e
   injection e with p1 e
   injection e with _ e
   injection e with p2 e
   injection e with p3 e
   injection e with p4 e
   injection e with _ e
   rw [p1, p2, p3, p4] at e2
   have hv : valN [a, b, c, d] = some f.d.toNat := valN_some.2 ⟨by simp, e2.symm⟩
   have hl := l01V_val hv
   have ht : f.t = t := by
    cases hb : bt with
    | false => exact absurd e.symm (hn hb f.t (by omega) (by omega))
    | true =>
     have := hy hb
     exact itoa_inj (by omega) (by omega) (by omega) (by omega) (e.trans this)
   rcases h with h | h | h
   · rw [hv] at h; cases h
   · exact absurd e.symm (hn h f.t (by omega) (by omega))
   · rw [hl, ← ht, show ((f.d.toNat : Nat) : Int) = f.d by omega] at h
     rw [hf] at h
     cases h
 · cases hv : valN [a, b, c, d] with
   | none => rw [hv] at h1; cases h1
   | some m =>
    have hl := l01V_val hv
    obtain ⟨_, hd⟩ := valN_some.1 hv
    have ht := hy h2
    unfold figT
    simp only
    rw [hl, itoa_nat, ← hd, ← ht]
    rfl
set_option maxHeartbeats 2000000 in
theorem w_specReadFigure (s : List UInt8) (hs : s.length ≤ 1048576) (w : World) :
 Calls Tryz.prog 134 #[sv s] w fun e w' => e = .returned (.tuple #[.agg #[.int .i64 (rfF s).d, .int .i64 (rfF s).t], .int .i64 (rfC s)]) ∧ Later w w' := by
 have c2 : ∀ o, (w.alloc (.cells #[.int .i64 0, .int .i64 0] 30)).cell? ⟨w.heap.size, o, none⟩ = (#[.int .i64 0, .int .i64 0] : Array Value)[o]? := (blk_at (heap_alloc_new w _)).1
 have z2 : w.heap.size < (w.alloc (.cells #[.int .i64 0, .int .i64 0] 30)).heap.size := (blk_at (heap_alloc_new w _)).2.2
 have f2 := (blk_at (heap_alloc_new w (.cells #[.int .i64 0, .int .i64 0] 30))).2.1
 by_cases h7 : s.length < 7
 · have hb : decide ((s.length : Int) < 7) = true := decide_eq_true (by omega)
   have HRD := Lib.hid (rdF_short h7)
   go_enter Tryz.func134, Tryz.ntmps134
   go_wp2
   refine bodyPost_ret (v := .tuple #[.agg #[.int .i64 0, .int .i64 0], .int .i64 6]) (by simp [results, Tryz.results134, go_sem, c2, z2]) rfl ⟨?_, qla⟩
   rw [(rf_no HRD.out).1, (rf_no HRD.out).2.2]
 have hb7 : decide ((s.length : Int) < 7) = false := decide_eq_false (by omega)
 have hl1 : 1 < s.length := by omega
 have hl5 : 5 < s.length := by omega
 obtain ⟨x1, hx1⟩ := get_ex (l := s) (k := 1) hl1
 obtain ⟨x5, hx5⟩ := get_ex (l := s) (k := 5) hl5
 have i1 := idx_at hx1
 have i5 := idx_at hx5
 have HX1s := Lib.hid hx1
 have HX5s := Lib.hid hx5
 clear hx1 hx5
 by_cases h46 : x1 = 46
 rotate_left
 · have hq : ((x1.toNat : Int) != 46) = true := by
    have : ¬ x1.toNat = 46 := fun e => h46 (UInt8.toNat_inj.1 e)
    simp
    omega
   have HRD := Lib.hid (rdF_dot HX1s.out h46)
   go_enter Tryz.func134, Tryz.ntmps134
   go_wp2
   refine bodyPost_ret (v := .tuple #[.agg #[.int .i64 0, .int .i64 0], .int .i64 6]) (by simp [results, Tryz.results134, go_sem, c2, z2]) rfl ⟨?_, qla⟩
   rw [(rf_no HRD.out).1, (rf_no HRD.out).2.2]
 subst h46
 by_cases h101 : x5 = 101
 rotate_left
 · have hq : ((x5.toNat : Int) != 101) = true := by
    have : ¬ x5.toNat = 101 := fun e => h101 (UInt8.toNat_inj.1 e)
    simp
    omega
   have HRD := Lib.hid (rdF_e HX5s.out h101)
   go_enter Tryz.func134, Tryz.ntmps134
   go_wp2
   refine bodyPost_ret (v := .tuple #[.agg #[.int .i64 0, .int .i64 0], .int .i64 6]) (by simp [results, Tryz.results134, go_sem, c2, z2]) rfl ⟨?_, qla⟩
   rw [(rf_no HRD.out).1, (rf_no HRD.out).2.2]
 subst h101
 obtain ⟨a, b, c, d, tl, hsh, htl⟩ := seven (by omega) HX1s.out HX5s.out
 have HS := Lib.hid hsh
 have LTL : Hid (tl.length ≤ 1048576) := Lib.hid (by rw [hsh] at hs; simp at hs; omega)
 obtain ⟨A0, hA0⟩ : ∃ x, [a] = x := ⟨_, rfl⟩
 obtain ⟨P3, hP3⟩ : ∃ x, [b, c, d] = x := ⟨_, rfl⟩
 obtain ⟨X, hX⟩ : ∃ x, A0 ++ P3 = x := ⟨_, rfl⟩
 have EX := Lib.hid hX
 have hXv : X = [a, b, c, d] := by rw [← hX, ← hA0, ← hP3]; rfl
 have LA : Hid (A0.length ≤ 1) := Lib.hid (by rw [← hA0]; simp)
 have LP : Hid (P3.length ≤ 3) := Lib.hid (by rw [← hP3]; simp)
 have LX : Hid (X.length ≤ 4) := Lib.hid (by rw [hXv]; simp)
 have HX1 : Hid ((ByteArray.mk s.toArray).extract 0 1 = ByteArray.mk A0.toArray) := Lib.hid (by rw [ByteArray.extract_mk, hsh, ← hA0]; rfl)
 have HX2 : Hid ((ByteArray.mk s.toArray).extract 2 5 = ByteArray.mk P3.toArray) := Lib.hid (by rw [ByteArray.extract_mk, hsh, ← hP3]; rfl)
 have HX6 : Hid ((ByteArray.mk s.toArray).extract 6 s.length = ByteArray.mk tl.toArray) := Lib.hid (by
  rw [ByteArray.extract_mk, List.take_of_length_le (by simp), hsh]; rfl)
 have HL1 : Hid (((1 : Int) ≤ (s.length : Int)) = True) := Lib.hid (by simp; omega)
 have HL5 : Hid (((5 : Int) ≤ (s.length : Int)) = True) := Lib.hid (by simp; omega)
 have HL5b : Hid ((5 : Int) ≤ (s.length : Int)) := Lib.hid (by omega)
 have HL6 : Hid (((6 : Int) ≤ (s.length : Int)) = True) := Lib.hid (by simp; omega)
 obtain ⟨V, hV⟩ : ∃ v : Int, (l01V X : Int) = v := ⟨_, rfl⟩
 obtain ⟨vb, hvb⟩ : ∃ v, (valN X).isSome = v := ⟨_, rfl⟩
 have EV := Lib.hid hV
 have EB := Lib.hid hvb
 rw [hXv] at hV hvb
 have EVx := Lib.hid hV
 have EBx := Lib.hid hvb
 clear hV hvb hXv hX hA0 hP3 hsh htl h7
 go_enter Tryz.func134, Tryz.ntmps134
 have hL0 := (Later.refl w).alloc (.cells #[.int .i64 0, .int .i64 0] 30)
 have hSB := hL0.size
 have K2 := heap_alloc_new w (.cells #[.int .i64 0, .int .i64 0] 30)
 go_wp2_with fail
 clear c2 f2
 refine region_slots 54 [24, 25, 26, 27, 28, 29, 23, 30, 31, 4, 5] (fun g ac wc => sl ac 0 = sv s ∧
  (g 0 = true → sl ac 24 = sv s) ∧
  (g 1 = true → sl ac 25 = sv A0) ∧
  (g 2 = true → sl ac 26 = sv s) ∧
  (g 3 = true → sl ac 27 = sv P3) ∧
  (g 4 = true → sl ac 28 = sv X) ∧
  (g 5 = true → sl ac 29 = .tuple #[.int .i64 V, .bool vb]) ∧
  (g 6 = true → sl ac 23 = .tuple #[.int .i64 V, .bool vb]) ∧
  (g 7 = true → sl ac 30 = .int .i64 V) ∧
  (g 8 = true → sl ac 31 = .bool vb) ∧
  (g 9 = true → sl ac 4 = .int .i64 V) ∧
  (g 10 = true → sl ac 5 = .bool vb) ∧
  Later w wc ∧
  (w.alloc (.cells #[.int .i64 0, .int .i64 0] 30)).heap.size ≤ wc.heap.size ∧
  wc.heap[w.heap.size]? = some (.cells #[.int .i64 0, .int .i64 0] 30 (0, 0))) (by kernel_rfl) (by kernel_rfl) rfl (by kernel_rfl) ?_ ?_ ?_
 · exact ⟨rfl, nofun, nofun, nofun, nofun, nofun, nofun, nofun, nofun, nofun, nofun, nofun, hL0.drew, Nat.le_refl _, K2⟩
 · intro g ac wu hg ha hI
   obtain ⟨x0, i0, i1, i2, i3, i4, i5, i6, i7, i8, i9, i10, hL, hS, B2⟩ := hI
   have a0 := i0 (hg 0 (by simp))
   have a1 := i1 (hg 1 (by simp))
   have a2 := i2 (hg 2 (by simp))
   have a3 := i3 (hg 3 (by simp))
   have a4 := i4 (hg 4 (by simp))
   have a5 := i5 (hg 5 (by simp))
   have a6 := i6 (hg 6 (by simp))
   have a7 := i7 (hg 7 (by simp))
   have a8 := i8 (hg 8 (by simp))
   have a9 := i9 (hg 9 (by simp))
   have a10 := i10 (hg 10 (by simp))
   simp only [putAll, a0, a1, a2, a3, a4, a5, a6, a7, a8, a9, a10] at ha
   simp only [Act.put, List.setIfInBounds_toArray, List.set_cons_succ, List.set_cons_zero] at ha
   rw [ha]
   clear x0 i0 i1 i2 i3 i4 i5 i6 i7 i8 i9 i10 a0 a1 a2 a3 a4 a5 a6 a7 a8 a9 a10 hg ha
   have KB := Lib.hid B2
   have HWu := hL
   have hzu := hL.size
   clear B2
   obtain ⟨c2, f2, z2⟩ := blk_at KB.out
   have hx6 := HX6.out
   have hl6 := HL6.out
   go_wp2_with fail
   refine (w_l01Signed tl (by have := LTL.out; omega) _).mono ?_
   rintro e w3 ⟨⟨t, bt, hsg, rfl⟩, hL3⟩
   have HSG := Lib.hid hsg
   have HW3 := HWu.trans hL3
   have hz3 := hL3.size
   have K3 := Lib.hid (hL3.keep KB.out)
   clear hL3 hsg c2 f2 z2 hx6 hl6
   obtain ⟨c2, f2, z2⟩ := blk_at K3.out
   cases vb
   · have HRD := Lib.hid (show rdF s = none from by rw [HS.out]; exact (rdF_num HSG.out).1 (.inl EBx.out))
     go_wp2
     refine bodyPost_ret (v := .tuple #[.agg #[.int .i64 0, .int .i64 0], .int .i64 6]) (by simp [results, Tryz.results134, go_sem, c2, z2]) rfl ⟨?_, qla⟩
     rw [(rf_no HRD.out).1, (rf_no HRD.out).2.2]
   cases bt
   · have HRD := Lib.hid (show rdF s = none from by rw [HS.out]; exact (rdF_num HSG.out).1 (.inr (.inl rfl)))
     go_wp2
     refine bodyPost_ret (v := .tuple #[.agg #[.int .i64 0, .int .i64 0], .int .i64 6]) (by simp [results, Tryz.results134, go_sem, c2, z2]) rfl ⟨?_, qla⟩
     rw [(rf_no HRD.out).1, (rf_no HRD.out).2.2]
   cases hr : isFig ⟨V, t⟩
   all_goals
    have HR := Lib.hid hr
    clear hr
    go_wp2_with fail
    refine (w_specIsFigure V t _).mono ?_
    rintro e w5 ⟨rfl, hL5⟩
    rw [HR.out]
    have HW5 := (HW3.alloc _).trans hL5
    have hz5 := hL5.size
    have K5 := Lib.hid (hL5.keep (heap_alloc_old _ _ K3.out))
    have K7 := Lib.hid (hL5.keep (heap_alloc_new _ _))
    clear hL5 c2 f2 z2
    obtain ⟨c2, f2, z2⟩ := blk_at K5.out
    obtain ⟨c7, f7, z7⟩ := blk_at K7.out
   · have HRD := Lib.hid (show rdF s = none from by rw [HS.out]; exact (rdF_num HSG.out).1 (.inr (.inr (by rw [EVx.out]; exact HR.out))))
     go_wp2
     refine bodyPost_ret (v := .tuple #[.agg #[.int .i64 0, .int .i64 0], .int .i64 6]) (by simp [results, Tryz.results134, go_sem, c2, z2]) rfl ⟨?_, qla⟩
     rw [(rf_no HRD.out).1, (rf_no HRD.out).2.2]
   · have HRD := Lib.hid (show rdF s = some ⟨V, t⟩ from by
      have h := (rdF_num HSG.out).2 EBx.out rfl (by rw [EVx.out]; exact HR.out)
      rw [EVx.out] at h
      rw [HS.out]; exact h)
     go_wp2
     refine bodyPost_ret (v := .tuple #[.agg #[.int .i64 V, .int .i64 t], .int .i64 0]) (by simp [results, Tryz.results134, go_sem, c2, z2]) rfl ⟨?_, qla⟩
     rw [(rf_yes HRD.out).1, (rf_yes HRD.out).2.2]
 · refine .cons ?_ (.cons ?_ (.cons ?_ (.cons ?_ (.cons ?_ (.cons ?_ (.cons ?_ (.cons ?_ (.cons ?_ (.cons ?_ (.cons ?_ .nil))))))))))
   · refine qst fun g ac wc hn hk hr HI K' hK => ?_
     obtain ⟨x0, -, -, -, -, -, -, -, -, -, -, -, hL, hS, B2⟩ := HI.out
     simp [Region.binds] at hr
     go_simp
     obtain ⟨-, i0, i1, i2, i3, i4, i5, i6, i7, i8, i9, i10, -⟩ := HI.out
     exact hK.out _ _ ⟨qB x0, qP, qF i1, qF i2, qF i3, qF i4, qF i5, qF i6, qF i7, qF i8, qF i9, qF i10, hL, hS, B2⟩
   · refine qst fun g ac wc hn hk hr HI K' hK => ?_
     obtain ⟨x0, i0, -, -, -, -, -, -, -, -, -, -, hL, hS, B2⟩ := HI.out
     simp [Region.binds] at hr
     have y0 := i0 (by simp [hr])
     have z0 := sl_get y0 (by omega)
     clear i0
     have hx := HX1.out
     have hl := HL1.out
     go_simp
     obtain ⟨-, i0, i1, i2, i3, i4, i5, i6, i7, i8, i9, i10, -⟩ := HI.out
     exact hK.out _ _ ⟨qB x0, qF i0, qP, qF i2, qF i3, qF i4, qF i5, qF i6, qF i7, qF i8, qF i9, qF i10, hL, hS, B2⟩
   · refine qst fun g ac wc hn hk hr HI K' hK => ?_
     obtain ⟨x0, -, -, -, -, -, -, -, -, -, -, -, hL, hS, B2⟩ := HI.out
     simp [Region.binds] at hr
     go_simp
     obtain ⟨-, i0, i1, i2, i3, i4, i5, i6, i7, i8, i9, i10, -⟩ := HI.out
     exact hK.out _ _ ⟨qB x0, qF i0, qF i1, qP, qF i3, qF i4, qF i5, qF i6, qF i7, qF i8, qF i9, qF i10, hL, hS, B2⟩
   · refine qst fun g ac wc hn hk hr HI K' hK => ?_
     obtain ⟨x0, -, -, i2, -, -, -, -, -, -, -, -, hL, hS, B2⟩ := HI.out
     simp [Region.binds] at hr
     have y2 := i2 (by simp [hr])
     have z2 := sl_get y2 (by omega)
     clear i2
     have hx := HX2.out
     have hl := HL5.out
     have hl2 := HL5b.out
     go_simp
     obtain ⟨-, i0, i1, i2, i3, i4, i5, i6, i7, i8, i9, i10, -⟩ := HI.out
     exact hK.out _ _ ⟨qB x0, qF i0, qF i1, qF i2, qP, qF i4, qF i5, qF i6, qF i7, qF i8, qF i9, qF i10, hL, hS, B2⟩
   · refine qst fun g ac wc hn hk hr HI K' hK => ?_
     obtain ⟨x0, -, i1, -, i3, -, -, -, -, -, -, -, hL, hS, B2⟩ := HI.out
     simp [Region.binds] at hr
     have y1 := i1 (by simp [hr])
     have y3 := i3 (by simp [hr])
     have z1 := sl_get y1 (by omega)
     have z3 := sl_get y3 (by omega)
     clear i1 i3
     have hz : (9223372036854775807 < A0.length + P3.length) = False := by have := LA.out; have := LP.out; simp; omega
     go_simp
     rw [ByteArray.mk_append_mk, EX.out]
     obtain ⟨-, i0, i1, i2, i3, i4, i5, i6, i7, i8, i9, i10, -⟩ := HI.out
     exact hK.out _ _ ⟨qB x0, qF i0, qF i1, qF i2, qF i3, qP, qF i5, qF i6, qF i7, qF i8, qF i9, qF i10, hL, hS, B2⟩
   · refine qst fun g ac wc hn hk hr HI K' hK => ?_
     obtain ⟨x0, -, -, -, -, i4, -, -, -, -, -, -, hL, hS, B2⟩ := HI.out
     simp [Region.binds] at hr
     have y4 := i4 (by simp [hr])
     clear i4
     go_simp
     refine (w_l01ValueE X (by have := LX.out; omega) _).mono ?_
     rintro e w4 ⟨rfl, hL4⟩
     rw [EV.out, EB.out]
     obtain ⟨-, i0, i1, i2, i3, i4, i5, i6, i7, i8, i9, i10, -⟩ := HI.out
     exact hK.out _ _ ⟨qB x0, qF i0, qF i1, qF i2, qF i3, qF i4, qP, qF i6, qF i7, qF i8, qF i9, qF i10, hL.trans hL4, Nat.le_trans hS hL4.size, (hL4.keep B2)⟩
   · refine qst fun g ac wc hn hk hr HI K' hK => ?_
     obtain ⟨x0, -, -, -, -, -, i5, -, -, -, -, -, hL, hS, B2⟩ := HI.out
     simp [Region.binds] at hr
     have y5 := i5 (by simp [hr])
     have z5 := sl_get y5 (by omega)
     clear i5
     go_simp
     obtain ⟨-, i0, i1, i2, i3, i4, i5, i6, i7, i8, i9, i10, -⟩ := HI.out
     exact hK.out _ _ ⟨qB x0, qF i0, qF i1, qF i2, qF i3, qF i4, qF i5, qP, qF i7, qF i8, qF i9, qF i10, hL, hS, B2⟩
   · refine qst fun g ac wc hn hk hr HI K' hK => ?_
     obtain ⟨x0, -, -, -, -, -, -, i6, -, -, -, -, hL, hS, B2⟩ := HI.out
     simp [Region.binds] at hr
     have y6 := i6 (by simp [hr])
     have z6 := sl_get y6 (by omega)
     clear i6
     go_simp
     obtain ⟨-, i0, i1, i2, i3, i4, i5, i6, i7, i8, i9, i10, -⟩ := HI.out
     exact hK.out _ _ ⟨qB x0, qF i0, qF i1, qF i2, qF i3, qF i4, qF i5, qF i6, qP, qF i8, qF i9, qF i10, hL, hS, B2⟩
   · refine qst fun g ac wc hn hk hr HI K' hK => ?_
     obtain ⟨x0, -, -, -, -, -, -, i6, -, -, -, -, hL, hS, B2⟩ := HI.out
     simp [Region.binds] at hr
     have y6 := i6 (by simp [hr])
     have z6 := sl_get y6 (by omega)
     clear i6
     go_simp
     obtain ⟨-, i0, i1, i2, i3, i4, i5, i6, i7, i8, i9, i10, -⟩ := HI.out
     exact hK.out _ _ ⟨qB x0, qF i0, qF i1, qF i2, qF i3, qF i4, qF i5, qF i6, qF i7, qP, qF i9, qF i10, hL, hS, B2⟩
   · refine qst fun g ac wc hn hk hr HI K' hK => ?_
     obtain ⟨x0, -, -, -, -, -, -, -, i7, -, -, -, hL, hS, B2⟩ := HI.out
     simp [Region.binds] at hr
     have y7 := i7 (by simp [hr])
     have z7 := sl_get y7 (by omega)
     clear i7
     go_simp
     obtain ⟨-, i0, i1, i2, i3, i4, i5, i6, i7, i8, i9, i10, -⟩ := HI.out
     exact hK.out _ _ ⟨qB x0, qF i0, qF i1, qF i2, qF i3, qF i4, qF i5, qF i6, qF i7, qF i8, qP, qF i10, hL, hS, B2⟩
   · refine qst fun g ac wc hn hk hr HI K' hK => ?_
     obtain ⟨x0, -, -, -, -, -, -, -, -, i8, -, -, hL, hS, B2⟩ := HI.out
     simp [Region.binds] at hr
     have y8 := i8 (by simp [hr])
     have z8 := sl_get y8 (by omega)
     clear i8
     go_simp
     obtain ⟨-, i0, i1, i2, i3, i4, i5, i6, i7, i8, i9, i10, -⟩ := HI.out
     exact hK.out _ _ ⟨qB x0, qF i0, qF i1, qF i2, qF i3, qF i4, qF i5, qF i6, qF i7, qF i8, qF i9, qP, hL, hS, B2⟩
end Go.Proofs.YtgngbdacejghcaaGreatDoor
