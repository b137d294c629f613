/- DERIVED. Walks: moves as text. -/
import Derived.Lib.Join
import Derived.Test.YtgngbdacejghcaaGreatDoorKVD3
import Derived.Test.YtgngbdacejghcaaGreatDoorKVD6
import Derived.Test.YtgngbdacejghcaaGreatDoorKVM7
namespace Go.Proofs.YtgngbdacejghcaaGreatDoor
set_option linter.unusedVariables false
set_option linter.unusedSimpArgs false
open Go.RowKit
set_option maxRecDepth 100000
set_option linter.unusedVariables false
def strs (l : List (List UInt8)) : List Value := l.map sv
theorem strs_len (l : List (List UInt8)) : (strs l).length = l.length * 1 := by simp [strs]
theorem ia_String : (Tryz.prog.info? 9).map (fun i => (i.zero, i.size, i.bytes)) = some (some (.string ⟨#[]⟩), 1, 16) := by kernel_rfl
theorem oneCell_strs : ∀ (l : List (List UInt8)), ∀ u ∈ strs l, u.oneCell' = true := by
 intro l u hu
 simp only [strs, List.mem_map] at hu
 obtain ⟨x, _, rfl⟩ := hu
 rfl
theorem app_String {ops : Array Oper} {rest : List Oper} {o : Oper} {a : Act} {w : World} {Q : Exit → Act → World → Prop} (hgd : o.guard = none) (s x : Operand)
 (ho : o.op = .call { callee := .builtin .append, args := #[s, x], argTypes := #[88, 88] })
 (base : Nat) (v : Value) (l : List (List UInt8)) (hs : a.eval s = v) (hown : w.ownsRow base 9 1 v l.length (strs l))
 (ad : Addr) (m c : Nat) (news : List (List UInt8)) (hx : a.eval x = .slice (some ad) m c) (hm : news.length = m) (hnews : ∀ j u, (strs news)[j]? = some u → w.cell? (ad.add j) = some u)
 (hlen : l.length + m ≤ 1048576) (hbase : base ≤ w.heap.size)
 (h : ∀ v' w', w'.ownsRow base 9 1 v' (l ++ news).length (strs (l ++ news)) → w.grownBy w' v.ownBlock → wpList Tryz.prog ops Q rest (a.put o.dst v') w') : wpList Tryz.prog ops Q (o :: rest) a w := by
 obtain ⟨i0, hi, hz0, hz1, hz2⟩ := info_parts ia_String
 refine wpList_append_own w hgd s x 88 ho base 9 i0 _ 1 16 Tryz.underlying88 hi hz0 hz1 hz2 rfl (by decide) v l.length (strs l) hs hown ad m c (strs news) hx (by rw [strs_len, hm]) hnews (oneCell_strs _) (by unfold maxLen; omega) (by omega) hbase ?_
 intro v' w' ho' hg _
 refine h v' w' ?_ hg
 rw [List.length_append, hm, show strs (l ++ news) = strs l ++ strs news from by simp [strs]]
 exact ho'
theorem app1_String {ops : Array Oper} {rest : List Oper} {o : Oper} {a : Act} {w : World} {Q : Exit → Act → World → Prop} (hgd : o.guard = none) (s x' : Operand)
 (ho : o.op = .call { callee := .builtin .append, args := #[s, x'], argTypes := #[88, 88] })
 (base : Nat) (v : Value) (l : List (List UInt8)) (x : List UInt8) (hs : a.eval s = v) (hown : w.ownsRow base 9 1 v l.length (strs l))
 (hx : a.eval x' = .slice (some ⟨w.heap.size, 0, none⟩) 1 1) (hlen : l.length + 1 ≤ 1048576) (hbase : base ≤ w.heap.size)
 (h : ∀ v' w', w'.ownsRow base 9 1 v' (l ++ [x]).length (strs (l ++ [x])) → w.grownBy w' v.ownBlock → wpList Tryz.prog ops Q rest (a.put o.dst v') w') :
 wpList Tryz.prog ops Q (o :: rest) a (w.alloc (.cells #[sv x] 9)) := by
 refine app_String hgd s x' ho base v l hs (hown.alloc _) ⟨w.heap.size, 0, none⟩ 1 1 [x] hx rfl ?_ hlen (Nat.le_trans hbase (by simp)) fun v' w' h1 h2 => h v' w' h1 (grown_alloc h2)
 intro j u hj
 have hb : (w.alloc (.cells #[sv x] 9)).heap[w.heap.size]? = some (.cells #[sv x] 9 (0, 0)) := heap_alloc_new _ _
 have ha : (Addr.add ⟨w.heap.size, 0, none⟩ j) = ⟨w.heap.size, j, none⟩ := by
  unfold Addr.add
  split
  · rename_i hz; subst hz; rfl
  · simp
 rw [ha]
 simp only [World.cell?, hb]
 simpa [strs] using hj
def scNames : List (List UInt8) := [[67], [65], [75], [67, 73], [67, 70], [76]]
def scB (s : Int) : List UInt8 := scNames.getD s.toNat []
def letB (k : Int) : List UInt8 := (([80, 83, 84, 76, 82, 108, 114] : List UInt8).drop k.toNat).take (k.toNat + 1 - k.toNat)
def mvT (m : Mov) : List UInt8 := if m.k ≤ 2 then letB m.k ++ scB m.s ++ [58] ++ figT m.f else letB m.k
def mvsT (l : List Mov) : List UInt8 := Lib.join (l.map mvT) [32]
def mtT (l : List Mov) : List UInt8 := if codeMoves l = 0 then mvsT l else []
def idxPtr : Value → Nat → Value
 | .slice (some a) _ _, i => .pointer (some ⟨a.block, i, none⟩)
 | _, _ => undef
theorem addr0 (g i : Nat) : (Addr.add ⟨g, 0, none⟩ i) = ⟨g, i, none⟩ := by
 unfold Addr.add
 split
 · rename_i hz; subst hz; rfl
 · simp
theorem letB_len (k : Int) : (letB k).length ≤ 1 := by
 unfold letB
 rw [List.length_take]; omega
theorem scB_len (s : Int) : (scB s).length ≤ 2 := by
 have : ∀ x ∈ scNames, x.length ≤ 2 := by decide
 unfold scB
 rw [List.getD_eq_getElem?_getD]
 cases h : scNames[s.toNat]? with
 | none => simp
 | some x => exact this x (List.mem_of_getElem? h)
theorem scB_at {s : Int} (h0 : 0 ≤ s) (h5 : s ≤ 5) : (strs scNames)[s.toNat]? = some (sv (scB s)) := by
 obtain ⟨n, rfl⟩ : ∃ n : Nat, s = n := ⟨s.toNat, by omega⟩
 have hn : n < 6 := by omega
 simp only [strs, List.getElem?_map, scB, Int.toNat_natCast]
 rw [List.getD_eq_getElem?_getD, show scNames[n]? = some (scNames[n]'hn) from List.getElem?_eq_getElem hn]
 rfl
theorem letter_cut (n : Nat) : (ByteArray.mk #[80, 83, 84, 76, 82, 108, 114]).extract n (n + 1) = ⟨(letB (n : Int)).toArray⟩ := by
 rw [show (ByteArray.mk #[80, 83, 84, 76, 82, 108, 114]) = ByteArray.mk ([80, 83, 84, 76, 82, 108, 114] : List UInt8).toArray from rfl, ByteArray.extract_mk]
 rfl
theorem mvT_len {m : Mov} (h : isMove m = true) : (mvT m).length ≤ 46 := by
 have h1 := letB_len m.k
 have h2 := scB_len m.s
 rcases isMove_cases h with ⟨a, b, c, d⟩ | ⟨a, b, c, d⟩
 · have hf : 1000 ≤ m.f.d ∧ m.f.d ≤ 9999 ∧ -30 ≤ m.f.t ∧ m.f.t ≤ 30 := okTrm_bd (t := ⟨m.f, false⟩) d
   have h3 : (figT m.f).length ≤ 42 := figT_len (by omega) (by omega) (by omega) (by omega)
   unfold mvT
   rw [if_pos b]
   simp
   omega
 · unfold mvT
   rw [if_neg (by omega)]
   omega
theorem w_scaleNames (w : World) :
 Calls Tryz.prog 103 #[] w fun e w' => ∃ k, e = .returned (.slice (some ⟨k, 0, none⟩) 6 6) ∧ Later w w' ∧ w'.ownsRow w.heap.size 9 1 (.slice (some ⟨k, 0, none⟩) 6 6) 6 (strs scNames) := by
 go_enter Tryz.func103, Tryz.ntmps103
 go_wp2
 go_ret
 exact ⟨_, rfl, (Later.refl _).alloc _, World.ownsRow_lit w #[sv [67], sv [65], sv [75], sv [67, 73], sv [67, 70], sv [76]] 6 (Nat.le_refl _) (by decide) (by simp)⟩
theorem w_l05Names (w : World) :
 Calls Tryz.prog 107 #[] w fun e w' => ∃ k, e = .returned (.slice (some ⟨k, 0, none⟩) 6 6) ∧ Later w w' ∧ w'.ownsRow w.heap.size 9 1 (.slice (some ⟨k, 0, none⟩) 6 6) 6 (strs scNames) := by
 go_enter Tryz.func107, Tryz.ntmps107
 go_wp2
 go_ret
 exact ⟨_, rfl, (Later.refl _).alloc _, World.ownsRow_lit w #[sv [67], sv [65], sv [75], sv [67, 73], sv [67, 70], sv [76]] 6 (Nat.le_refl _) (by decide) (by simp)⟩
theorem move_bd {m : Mov} (h : isMove m = true) (hk : m.k ≤ 2) : 0 ≤ m.s ∧ m.s ≤ 4 ∧ 1000 ≤ m.f.d ∧ m.f.d ≤ 9999 ∧ -30 ≤ m.f.t ∧ m.f.t ≤ 30 := by
 rcases isMove_cases h with ⟨a, b, c, d⟩ | ⟨a, b, c, d⟩
 · have hf := okTrm_bd (t := ⟨m.f, false⟩) d
   unfold isScaleN at c
   rw [Bool.and_eq_true] at c
   have := inR_true c.1
   have h5 : ¬ m.s = 5 := by simpa using c.2
   exact ⟨by omega, by omega, hf.1, hf.2.1, hf.2.2.1, hf.2.2.2⟩
 · omega
theorem move_k {m : Mov} (h : isMove m = true) : 0 ≤ m.k ∧ m.k ≤ 6 := by
 rcases isMove_cases h with ⟨a, b, c, d⟩ | ⟨a, b, c, d⟩ <;> omega
set_option maxHeartbeats 2000000 in
theorem w_moveText (t : Mov) (hm : isMove t = true) (w : World) (ht : PTab w) :
 Calls Tryz.prog 79 #[.agg #[.int .i64 t.k, .int .i64 t.s, .int .i64 t.f.d, .int .i64 t.f.t]] w fun e w' => e = .returned (sv (mvT t)) ∧ Later w w' := by
 have PT := Lib.hid ht
 have HM := Lib.hid hm
 have hk := move_k hm
 obtain ⟨kn, hkn⟩ : ∃ n : Nat, t.k = n := ⟨t.k.toNat, by omega⟩
 have hk6 : kn ≤ 6 := by omega
 have hcut := letter_cut kn
 obtain ⟨Z, hZ⟩ : ∃ X, letB (kn : Int) = X := ⟨_, rfl⟩
 have LZ : Hid (Z.length ≤ 1) := Lib.hid (by rw [← hZ]; exact letB_len _)
 rw [hZ] at hcut
 have wq : IntKind.i64.wrap ((kn : Int) + 1) = (kn : Int) + 1 := wrapI (by omega) (by omega)
 have hs1 : ((kn : Int) + 1 ≤ 7) := by omega
 rw [hkn]
 by_cases h2 : kn ≤ 2
 · have hb : decide ((2 : Int) < (kn : Int)) = false := decide_eq_false (by omega)
   obtain ⟨s0, s1, f1, f2, f3, f4⟩ := move_bd hm (by omega)
   obtain ⟨sn, hsn⟩ : ∃ n : Nat, t.s = n := ⟨t.s.toNat, by omega⟩
   have hsn4 : sn ≤ 4 := by omega
   obtain ⟨NM, hNM⟩ : ∃ X, scB (sn : Int) = X := ⟨_, rfl⟩
   have HNM : Hid ((strs scNames)[sn]? = some (sv NM)) := Lib.hid (by rw [← hNM]; exact scB_at (s := (sn : Int)) (by omega) (by omega))
   have LNM : Hid (NM.length ≤ 2) := Lib.hid (by rw [← hNM]; exact scB_len _)
   obtain ⟨F, hF⟩ : ∃ X, figT t.f = X := ⟨_, rfl⟩
   have EF := Lib.hid hF
   have LF : Hid (F.length ≤ 42) := Lib.hid (by rw [← hF]; exact figT_len (by omega) (by omega) (by omega) (by omega))
   obtain ⟨X1, hX1⟩ : ∃ X, Z ++ NM = X := ⟨_, rfl⟩
   obtain ⟨X2, hX2⟩ : ∃ X, X1 ++ [58] = X := ⟨_, rfl⟩
   obtain ⟨X3, hX3⟩ : ∃ X, X2 ++ F = X := ⟨_, rfl⟩
   have EX1 := Lib.hid hX1
   have EX2 := Lib.hid hX2
   have EX3 := Lib.hid hX3
   have LX1 : Hid (X1.length ≤ Z.length + 2) := Lib.hid (by have := LNM.out; rw [← hX1]; simp; omega)
   have LX2 : Hid (X2.length ≤ Z.length + 3) := Lib.hid (by have := LX1.out; rw [← hX2]; simp; omega)
   have EM : Hid (mvT t = X3) := Lib.hid (by unfold mvT; rw [if_pos (by omega), hkn, hsn, hZ, hNM, hF, ← hX3, ← hX2, ← hX1])
   rw [hsn]
   clear hX1 hX2 hX3 hF hNM hZ ht hm hk hkn hsn s0 s1
   go_enter Tryz.func79, Tryz.ntmps79
   have hL0 := (Later.refl w).alloc (.cells #[.int .i64 (kn : Int), .int .i64 (sn : Int), .int .i64 t.f.d, .int .i64 t.f.t] 107)
   have hSB := hL0.size
   have hlt : w.heap.size < (w.alloc (.cells #[.int .i64 (kn : Int), .int .i64 (sn : Int), .int .i64 t.f.d, .int .i64 t.f.t] 107)).heap.size := by simp
   have K1 : (w.alloc (.cells #[.int .i64 (kn : Int), .int .i64 (sn : Int), .int .i64 t.f.d, .int .i64 t.f.t] 107)).heap[w.heap.size]? = some (.cells #[.int .i64 (kn : Int), .int .i64 (sn : Int), .int .i64 t.f.d, .int .i64 t.f.t] 107 (0, 0)) := heap_alloc_new _ _
   go_wp2_with fail
   refine region_slots 26 [14, 15, 16, 17, 18, 19, 20, 21, 22, 23, 24, 25, 2] (fun g ac wc => sl ac 3 = sv Z ∧
    sl ac 1 = .pointer (some ⟨w.heap.size, 0, none⟩) ∧
    (g 0 = true → sl ac 14 = sv Z) ∧
    (g 2 = true → sl ac 16 = .pointer (some ⟨w.heap.size, 1, none⟩)) ∧
    (g 3 = true → sl ac 17 = .int .i64 (sn : Int)) ∧
    (g 4 = true → sl ac 18 = idxPtr (sl ac 15) sn) ∧
    (g 5 = true → sl ac 19 = sv NM) ∧
    (g 6 = true → sl ac 20 = sv X1) ∧
    (g 7 = true → sl ac 21 = sv X2) ∧
    (g 8 = true → sl ac 22 = .pointer (some ⟨w.heap.size, 2, none⟩)) ∧
    (g 9 = true → sl ac 23 = .agg #[.int .i64 t.f.d, .int .i64 t.f.t]) ∧
    (g 10 = true → sl ac 24 = sv F) ∧
    (g 11 = true → sl ac 25 = sv X3) ∧
    (g 12 = true → sl ac 2 = sv X3) ∧
    Later w wc ∧
    (g 1 = true → (∃ k, sl ac 15 = .slice (some ⟨k, 0, none⟩) 6 6) ∧ (g 5 = false → wc.ownsRow (w.alloc (.cells #[.int .i64 (kn : Int), .int .i64 (sn : Int), .int .i64 t.f.d, .int .i64 t.f.t] 107)).heap.size 9 1 (sl ac 15) (6) (strs scNames))) ∧
    (g 4 = true → g 1 = true) ∧
    (g 5 = true → g 1 = true) ∧
    (w.alloc (.cells #[.int .i64 (kn : Int), .int .i64 (sn : Int), .int .i64 t.f.d, .int .i64 t.f.t] 107)).heap.size ≤ wc.heap.size ∧
    wc.heap[w.heap.size]? = some (.cells #[.int .i64 (kn : Int), .int .i64 (sn : Int), .int .i64 t.f.d, .int .i64 t.f.t] 107 (0, 0))) (by kernel_rfl) (by kernel_rfl) rfl (by kernel_rfl) ?_ ?_ ?_
   · exact ⟨rfl, rfl, nofun, nofun, nofun, nofun, nofun, nofun, nofun, nofun, nofun, nofun, nofun, nofun, hL0.drew, nofun, nofun, nofun, Nat.le_refl _, K1⟩
   · intro g ac wu hg ha hI
     obtain ⟨x3, x1, i0, i2, i3, i4, i5, i6, i7, i8, i9, i10, i11, i12, hL, p1, -, -, hS, B1⟩ := hI
     obtain ⟨⟨kr1, e1⟩, -⟩ := p1 (hg 1 (by simp))
     have a0 := i0 (hg 0 (by simp))
     have a2 := i2 (hg 2 (by simp))
     have a3 := i3 (hg 3 (by simp))
     have a4 := i4 (hg 4 (by simp))
     rw [e1] at a4
     have a5 := i5 (hg 5 (by simp))
     have a6 := i6 (hg 6 (by simp))
     have a7 := i7 (hg 7 (by simp))
     have a8 := i8 (hg 8 (by simp))
     have a9 := i9 (hg 9 (by simp))
     have a10 := i10 (hg 10 (by simp))
     have a11 := i11 (hg 11 (by simp))
     have a12 := i12 (hg 12 (by simp))
     simp only [putAll, e1, a0, a2, a3, a4, a5, a6, a7, a8, a9, a10, a11, a12] at ha
     simp only [Act.put, List.setIfInBounds_toArray, List.set_cons_succ, List.set_cons_zero] at ha
     rw [ha]
     clear x3 x1 i0 i2 i3 i4 i5 i6 i7 i8 i9 i10 i11 i12 a0 a2 a3 a4 a5 a6 a7 a8 a9 a10 a11 a12 p1 e1 hg ha
     go_wp2
     go_ret
     exact ⟨by rw [EM.out]; rfl, hL⟩
   · refine .cons ?_ (.cons ?_ (.cons ?_ (.cons ?_ (.cons ?_ (.cons ?_ (.cons ?_ (.cons ?_ (.cons ?_ (.cons ?_ (.cons ?_ (.cons ?_ (.cons ?_ .nil))))))))))))
     · refine qst fun g ac wc hn hk hr HI K' hK => ?_
       obtain ⟨x3, x1, i0, i2, i3, i4, i5, i6, i7, i8, i9, i10, i11, i12, hL, p1, m4_1, m5_1, hS, B1⟩ := HI.out
       simp [Region.binds] at hr
       clear i0 i2 i3 i4 i5 i6 i7 i8 i9 i10 i11 i12 p1
       go_simp
       obtain ⟨-, -, i0, i2, i3, i4, i5, i6, i7, i8, i9, i10, i11, i12, -, p1, -⟩ := HI.out
       exact hK.out _ _ ⟨qB x3, qB x1, qP, qF i2, qF i3, (fun h => by rw [put_ne (show 18 ≠ 14 by decide), put_ne (show 15 ≠ 14 by decide)]; exact i4 h), qF i5, qF i6, qF i7, qF i8, qF i9, qF i10, qF i11, qF i12, hL, (fun h => by obtain ⟨hs, ho⟩ := p1 h; exact ⟨(by rw [put_ne (show 15 ≠ 14 by decide)]; exact hs), fun ht => by have ho := ho ht; exact (by rw [put_ne (show 15 ≠ 14 by decide)]; exact ho)⟩), m4_1, m5_1, hS, B1⟩
     · refine qst fun g ac wc hn hk hr HI K' hK => ?_
       obtain ⟨x3, x1, i0, i2, i3, i4, i5, i6, i7, i8, i9, i10, i11, i12, hL, p1, m4_1, m5_1, hS, B1⟩ := HI.out
       simp [Region.binds] at hr
       clear i0 i2 i3 i4 i5 i6 i7 i8 i9 i10 i11 i12 p1
       go_simp
       refine (w_scaleNames _).mono ?_
       rintro e w4 ⟨kc, rfl, hL4, ho4⟩
       obtain ⟨-, -, i0, i2, i3, i4, i5, i6, i7, i8, i9, i10, i11, i12, -, p1, -⟩ := HI.out
       exact hK.out _ _ ⟨qB x3, qB x1, qF i0, qF i2, qF i3, (fun h => absurd (m4_1 h) (by rw [hk]; simp)), (fun h => absurd (m5_1 h) (by rw [hk]; simp)), qF i6, qF i7, qF i8, qF i9, qF i10, qF i11, qF i12, hL.trans hL4, (fun _ => ⟨⟨kc, put_eq (by omega)⟩, fun _ => by rw [put_eq (by omega)]; exact owns_base ho4 hS⟩), (fun _ => rfl), (fun _ => rfl), Nat.le_trans hS hL4.size, (hL4.keep B1)⟩
     · refine qst fun g ac wc hn hk hr HI K' hK => ?_
       obtain ⟨x3, x1, i0, i2, i3, i4, i5, i6, i7, i8, i9, i10, i11, i12, hL, p1, m4_1, m5_1, hS, B1⟩ := HI.out
       simp [Region.binds] at hr
       clear i0 i2 i3 i4 i5 i6 i7 i8 i9 i10 i11 i12 p1
       obtain ⟨cb, fb, zb⟩ := blk_at B1
       go_simp
       obtain ⟨-, -, i0, i2, i3, i4, i5, i6, i7, i8, i9, i10, i11, i12, -, p1, -⟩ := HI.out
       exact hK.out _ _ ⟨qB x3, qB x1, qF i0, qP, qF i3, (fun h => by rw [put_ne (show 18 ≠ 16 by decide), put_ne (show 15 ≠ 16 by decide)]; exact i4 h), qF i5, qF i6, qF i7, qF i8, qF i9, qF i10, qF i11, qF i12, hL, (fun h => by obtain ⟨hs, ho⟩ := p1 h; exact ⟨(by rw [put_ne (show 15 ≠ 16 by decide)]; exact hs), fun ht => by have ho := ho ht; exact (by rw [put_ne (show 15 ≠ 16 by decide)]; exact ho)⟩), m4_1, m5_1, hS, B1⟩
     · refine qst fun g ac wc hn hk hr HI K' hK => ?_
       obtain ⟨x3, x1, i0, i2, i3, i4, i5, i6, i7, i8, i9, i10, i11, i12, hL, p1, m4_1, m5_1, hS, B1⟩ := HI.out
       simp [Region.binds] at hr
       have y2 := i2 (by simp [hr])
       have z2 := sl_get y2 (by omega)
       clear i0 i2 i3 i4 i5 i6 i7 i8 i9 i10 i11 i12 p1
       obtain ⟨cb, fb, zb⟩ := blk_at B1
       go_simp
       obtain ⟨-, -, i0, i2, i3, i4, i5, i6, i7, i8, i9, i10, i11, i12, -, p1, -⟩ := HI.out
       exact hK.out _ _ ⟨qB x3, qB x1, qF i0, qF i2, qP, (fun h => by rw [put_ne (show 18 ≠ 17 by decide), put_ne (show 15 ≠ 17 by decide)]; exact i4 h), qF i5, qF i6, qF i7, qF i8, qF i9, qF i10, qF i11, qF i12, hL, (fun h => by obtain ⟨hs, ho⟩ := p1 h; exact ⟨(by rw [put_ne (show 15 ≠ 17 by decide)]; exact hs), fun ht => by have ho := ho ht; exact (by rw [put_ne (show 15 ≠ 17 by decide)]; exact ho)⟩), m4_1, m5_1, hS, B1⟩
     · refine qst fun g ac wc hn hk hr HI K' hK => ?_
       obtain ⟨x3, x1, i0, i2, i3, i4, i5, i6, i7, i8, i9, i10, i11, i12, hL, p1, m4_1, m5_1, hS, B1⟩ := HI.out
       simp [Region.binds] at hr
       have y3 := i3 (by simp [hr])
       have gm1 : g 1 = true := by first | exact m4_1 (by simp [hr]) | exact hr | exact hr.1 | exact hr.2 | exact hr.2.1 | simp [hr]
       obtain ⟨⟨kk1, y1⟩, -⟩ := p1 (by simp [hr])
       have z1 := sl_get y1 (by omega)
       have z3 := sl_get y3 (by omega)
       clear i0 i2 i3 i4 i5 i6 i7 i8 i9 i10 i11 i12 p1
       have hsl : ((sn : Int) < 6) = True := by simp; omega
       go_simp
       obtain ⟨-, -, i0, i2, i3, i4, i5, i6, i7, i8, i9, i10, i11, i12, -, p1, -⟩ := HI.out
       exact hK.out _ _ ⟨qB x3, qB x1, qF i0, qF i2, qF i3, (fun _ => by rw [put_ne (show 15 ≠ 18 by decide), y1]; exact put_eq (a := ac) (i := 18) (by omega)), qF i5, qF i6, qF i7, qF i8, qF i9, qF i10, qF i11, qF i12, hL, (fun h => by obtain ⟨hs, ho⟩ := p1 h; exact ⟨(by rw [put_ne (show 15 ≠ 18 by decide)]; exact hs), fun ht => by have ho := ho ht; exact (by rw [put_ne (show 15 ≠ 18 by decide)]; exact ho)⟩), (fun _ => gm1), m5_1, hS, B1⟩
     · refine qst fun g ac wc hn hk hr HI K' hK => ?_
       obtain ⟨x3, x1, i0, i2, i3, i4, i5, i6, i7, i8, i9, i10, i11, i12, hL, p1, m4_1, m5_1, hS, B1⟩ := HI.out
       simp [Region.binds] at hr
       have y4 := i4 (by simp [hr])
       have gm1 : g 1 = true := m4_1 (by simp [hr])
       obtain ⟨⟨kk1, y1⟩, ho1⟩ := p1 gm1
       have ho1 := ho1 hk
       rw [y1] at ho1
       have z1 := sl_get y1 (by omega)
       clear i0 i2 i3 i4 i5 i6 i7 i8 i9 i10 i11 i12 p1
       rw [y1] at y4
       simp only [idxPtr] at y4
       have z4 := sl_get y4 (by omega)
       have cN := row_add ho1 sn _ HNM.out
       rw [addr0] at cN
       go_simp
       obtain ⟨-, -, i0, i2, i3, i4, i5, i6, i7, i8, i9, i10, i11, i12, -, p1, -⟩ := HI.out
       exact hK.out _ _ ⟨qB x3, qB x1, qF i0, qF i2, qF i3, (fun h => by rw [put_ne (show 18 ≠ 19 by decide), put_ne (show 15 ≠ 19 by decide)]; exact i4 h), qP, qF i6, qF i7, qF i8, qF i9, qF i10, qF i11, qF i12, hL, (fun h => by obtain ⟨hs, ho⟩ := p1 h; exact ⟨(by rw [put_ne (show 15 ≠ 19 by decide)]; exact hs), fun h => absurd h (by simp)⟩), m4_1, (fun _ => gm1), hS, B1⟩
     · refine qst fun g ac wc hn hk hr HI K' hK => ?_
       obtain ⟨x3, x1, i0, i2, i3, i4, i5, i6, i7, i8, i9, i10, i11, i12, hL, p1, m4_1, m5_1, hS, B1⟩ := HI.out
       simp [Region.binds] at hr
       have y0 := i0 (by simp [hr])
       have y5 := i5 (by simp [hr])
       have z0 := sl_get y0 (by omega)
       have z5 := sl_get y5 (by omega)
       clear i0 i2 i3 i4 i5 i6 i7 i8 i9 i10 i11 i12 p1
       have hz : (9223372036854775807 < Z.length + NM.length) = False := by have := LZ.out; have := LNM.out; simp; omega
       go_simp
       rw [ByteArray.mk_append_mk, EX1.out]
       obtain ⟨-, -, i0, i2, i3, i4, i5, i6, i7, i8, i9, i10, i11, i12, -, p1, -⟩ := HI.out
       exact hK.out _ _ ⟨qB x3, qB x1, qF i0, qF i2, qF i3, (fun h => by rw [put_ne (show 18 ≠ 20 by decide), put_ne (show 15 ≠ 20 by decide)]; exact i4 h), qF i5, qP, qF i7, qF i8, qF i9, qF i10, qF i11, qF i12, hL, (fun h => by obtain ⟨hs, ho⟩ := p1 h; exact ⟨(by rw [put_ne (show 15 ≠ 20 by decide)]; exact hs), fun ht => by have ho := ho ht; exact (by rw [put_ne (show 15 ≠ 20 by decide)]; exact ho)⟩), m4_1, m5_1, hS, B1⟩
     · refine qst fun g ac wc hn hk hr HI K' hK => ?_
       obtain ⟨x3, x1, i0, i2, i3, i4, i5, i6, i7, i8, i9, i10, i11, i12, hL, p1, m4_1, m5_1, hS, B1⟩ := HI.out
       simp [Region.binds] at hr
       have y6 := i6 (by simp [hr])
       have z6 := sl_get y6 (by omega)
       clear i0 i2 i3 i4 i5 i6 i7 i8 i9 i10 i11 i12 p1
       have hz : (9223372036854775807 < X1.length + 1) = False := by have := LX1.out; have := LZ.out; simp; omega
       go_simp
       rw [ByteArray.mk_append_mk, EX2.out]
       obtain ⟨-, -, i0, i2, i3, i4, i5, i6, i7, i8, i9, i10, i11, i12, -, p1, -⟩ := HI.out
       exact hK.out _ _ ⟨qB x3, qB x1, qF i0, qF i2, qF i3, (fun h => by rw [put_ne (show 18 ≠ 21 by decide), put_ne (show 15 ≠ 21 by decide)]; exact i4 h), qF i5, qF i6, qP, qF i8, qF i9, qF i10, qF i11, qF i12, hL, (fun h => by obtain ⟨hs, ho⟩ := p1 h; exact ⟨(by rw [put_ne (show 15 ≠ 21 by decide)]; exact hs), fun ht => by have ho := ho ht; exact (by rw [put_ne (show 15 ≠ 21 by decide)]; exact ho)⟩), m4_1, m5_1, hS, B1⟩
     · refine qst fun g ac wc hn hk hr HI K' hK => ?_
       obtain ⟨x3, x1, i0, i2, i3, i4, i5, i6, i7, i8, i9, i10, i11, i12, hL, p1, m4_1, m5_1, hS, B1⟩ := HI.out
       simp [Region.binds] at hr
       clear i0 i2 i3 i4 i5 i6 i7 i8 i9 i10 i11 i12 p1
       obtain ⟨cb, fb, zb⟩ := blk_at B1
       go_simp
       obtain ⟨-, -, i0, i2, i3, i4, i5, i6, i7, i8, i9, i10, i11, i12, -, p1, -⟩ := HI.out
       exact hK.out _ _ ⟨qB x3, qB x1, qF i0, qF i2, qF i3, (fun h => by rw [put_ne (show 18 ≠ 22 by decide), put_ne (show 15 ≠ 22 by decide)]; exact i4 h), qF i5, qF i6, qF i7, qP, qF i9, qF i10, qF i11, qF i12, hL, (fun h => by obtain ⟨hs, ho⟩ := p1 h; exact ⟨(by rw [put_ne (show 15 ≠ 22 by decide)]; exact hs), fun ht => by have ho := ho ht; exact (by rw [put_ne (show 15 ≠ 22 by decide)]; exact ho)⟩), m4_1, m5_1, hS, B1⟩
     · refine qst fun g ac wc hn hk hr HI K' hK => ?_
       obtain ⟨x3, x1, i0, i2, i3, i4, i5, i6, i7, i8, i9, i10, i11, i12, hL, p1, m4_1, m5_1, hS, B1⟩ := HI.out
       simp [Region.binds] at hr
       have y8 := i8 (by simp [hr])
       have z8 := sl_get y8 (by omega)
       clear i0 i2 i3 i4 i5 i6 i7 i8 i9 i10 i11 i12 p1
       obtain ⟨cb, fb, zb⟩ := blk_at B1
       go_simp
       obtain ⟨-, -, i0, i2, i3, i4, i5, i6, i7, i8, i9, i10, i11, i12, -, p1, -⟩ := HI.out
       exact hK.out _ _ ⟨qB x3, qB x1, qF i0, qF i2, qF i3, (fun h => by rw [put_ne (show 18 ≠ 23 by decide), put_ne (show 15 ≠ 23 by decide)]; exact i4 h), qF i5, qF i6, qF i7, qF i8, qP, qF i10, qF i11, qF i12, hL, (fun h => by obtain ⟨hs, ho⟩ := p1 h; exact ⟨(by rw [put_ne (show 15 ≠ 23 by decide)]; exact hs), fun ht => by have ho := ho ht; exact (by rw [put_ne (show 15 ≠ 23 by decide)]; exact ho)⟩), m4_1, m5_1, hS, B1⟩
     · refine qst fun g ac wc hn hk hr HI K' hK => ?_
       obtain ⟨x3, x1, i0, i2, i3, i4, i5, i6, i7, i8, i9, i10, i11, i12, hL, p1, m4_1, m5_1, hS, B1⟩ := HI.out
       simp [Region.binds] at hr
       have y9 := i9 (by simp [hr])
       clear i0 i2 i3 i4 i5 i6 i7 i8 i9 i10 i11 i12 p1
       go_simp
       refine (w_figureText t.f f1 f2 (by omega) (by omega) _ (PT.out.later hL)).mono ?_
       rintro e w4 ⟨rfl, hL4⟩
       rw [EF.out]
       obtain ⟨-, -, i0, i2, i3, i4, i5, i6, i7, i8, i9, i10, i11, i12, -, p1, -⟩ := HI.out
       exact hK.out _ _ ⟨qB x3, qB x1, qF i0, qF i2, qF i3, (fun h => by rw [put_ne (show 18 ≠ 24 by decide), put_ne (show 15 ≠ 24 by decide)]; exact i4 h), qF i5, qF i6, qF i7, qF i8, qF i9, qP, qF i11, qF i12, hL.trans hL4, (fun h => by obtain ⟨hs, ho⟩ := p1 h; exact ⟨(by rw [put_ne (show 15 ≠ 24 by decide)]; exact hs), fun ht => by have ho := ho ht; exact (by rw [put_ne (show 15 ≠ 24 by decide)]; exact (owns_later ho hL4))⟩), m4_1, m5_1, Nat.le_trans hS hL4.size, (hL4.keep B1)⟩
     · refine qst fun g ac wc hn hk hr HI K' hK => ?_
       obtain ⟨x3, x1, i0, i2, i3, i4, i5, i6, i7, i8, i9, i10, i11, i12, hL, p1, m4_1, m5_1, hS, B1⟩ := HI.out
       simp [Region.binds] at hr
       have y7 := i7 (by simp [hr])
       have y10 := i10 (by simp [hr])
       have z7 := sl_get y7 (by omega)
       have z10 := sl_get y10 (by omega)
       clear i0 i2 i3 i4 i5 i6 i7 i8 i9 i10 i11 i12 p1
       have hz : (9223372036854775807 < X2.length + F.length) = False := by have := LX2.out; have := LF.out; have := LZ.out; simp; omega
       go_simp
       rw [ByteArray.mk_append_mk, EX3.out]
       obtain ⟨-, -, i0, i2, i3, i4, i5, i6, i7, i8, i9, i10, i11, i12, -, p1, -⟩ := HI.out
       exact hK.out _ _ ⟨qB x3, qB x1, qF i0, qF i2, qF i3, (fun h => by rw [put_ne (show 18 ≠ 25 by decide), put_ne (show 15 ≠ 25 by decide)]; exact i4 h), qF i5, qF i6, qF i7, qF i8, qF i9, qF i10, qP, qF i12, hL, (fun h => by obtain ⟨hs, ho⟩ := p1 h; exact ⟨(by rw [put_ne (show 15 ≠ 25 by decide)]; exact hs), fun ht => by have ho := ho ht; exact (by rw [put_ne (show 15 ≠ 25 by decide)]; exact ho)⟩), m4_1, m5_1, hS, B1⟩
     · refine qst fun g ac wc hn hk hr HI K' hK => ?_
       obtain ⟨x3, x1, i0, i2, i3, i4, i5, i6, i7, i8, i9, i10, i11, i12, hL, p1, m4_1, m5_1, hS, B1⟩ := HI.out
       simp [Region.binds] at hr
       have y11 := i11 (by simp [hr])
       have z11 := sl_get y11 (by omega)
       clear i0 i2 i3 i4 i5 i6 i7 i8 i9 i10 i11 i12 p1
       go_simp
       obtain ⟨-, -, i0, i2, i3, i4, i5, i6, i7, i8, i9, i10, i11, i12, -, p1, -⟩ := HI.out
       exact hK.out _ _ ⟨qB x3, qB x1, qF i0, qF i2, qF i3, (fun h => by rw [put_ne (show 18 ≠ 2 by decide), put_ne (show 15 ≠ 2 by decide)]; exact i4 h), qF i5, qF i6, qF i7, qF i8, qF i9, qF i10, qF i11, qP, hL, (fun h => by obtain ⟨hs, ho⟩ := p1 h; exact ⟨(by rw [put_ne (show 15 ≠ 2 by decide)]; exact hs), fun ht => by have ho := ho ht; exact (by rw [put_ne (show 15 ≠ 2 by decide)]; exact ho)⟩), m4_1, m5_1, hS, B1⟩
 · have hb : decide ((2 : Int) < (kn : Int)) = true := decide_eq_true (by omega)
   have EM : Hid (mvT t = Z) := Lib.hid (by unfold mvT; rw [if_neg (by omega), hkn, hZ])
   clear hZ ht hm hk hkn
   go_enter Tryz.func79, Tryz.ntmps79
   go_wp2
   go_ret
   exact ⟨by rw [EM.out]; rfl, (Later.refl _).alloc _⟩
end Go.Proofs.YtgngbdacejghcaaGreatDoor
