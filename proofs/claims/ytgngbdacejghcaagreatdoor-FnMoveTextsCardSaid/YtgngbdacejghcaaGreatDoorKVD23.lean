/- DERIVED. Walks: a move read from text, the program's. -/
import Derived.Test.YtgngbdacejghcaaGreatDoorKVD22
import Derived.Test.YtgngbdacejghcaaGreatDoorKVM7
namespace Go.Proofs.YtgngbdacejghcaaGreatDoor
set_option linter.unusedVariables false
set_option linter.unusedSimpArgs false
open Go.RowKit
set_option maxRecDepth 100000
set_option linter.unusedVariables false
theorem wp_nameR {P : Program} {c : Code} {Q : Exit → Act → World → Prop} {a : Act} {W : World} (h : ∀ u, u = W → Code.wp P c Q a u) : Code.wp P c Q a W := h W rfl
theorem st1R {w : World} {k : Nat} {x0 x1 x2 x3 : Value} {T : TypeId} (h : w.heap[k]? = some (.cells #[x0, x1, x2, x3] T (0, 0))) (a : Value) :
 (w.setCell ⟨k, 1, none⟩ a).heap[k]? = some (.cells #[x0, a, x2, x3] T (0, 0)) := by
 rw [heap_setCell_same w k 1 _ T a h]
 rfl
theorem st2R {w : World} {k : Nat} {x0 x1 x2 x3 : Value} {T : TypeId} (h : w.heap[k]? = some (.cells #[x0, x1, x2, x3] T (0, 0))) (a : Value) :
 (w.setCell ⟨k, 2, none⟩ a).heap[k]? = some (.cells #[x0, x1, a, x3] T (0, 0)) := by
 rw [heap_setCell_same w k 2 _ T a h]
 rfl
theorem st3R {w : World} {k : Nat} {x0 x1 x2 x3 : Value} {T : TypeId} (h : w.heap[k]? = some (.cells #[x0, x1, x2, x3] T (0, 0))) (a : Value) :
 (w.setCell ⟨k, 3, none⟩ a).heap[k]? = some (.cells #[x0, x1, x2, a] T (0, 0)) := by
 rw [heap_setCell_same w k 3 _ T a h]
 rfl
theorem fin_t {c : UInt8} {r s : List UInt8} {k sc d t : Int} {q : Bool} {X : List UInt8} (hs : s = c :: r) (hm : mkM c r = ⟨k, sc, ⟨d, t⟩⟩) (him : isMove ⟨k, sc, ⟨d, t⟩⟩ = true) (hX : mvT ⟨k, sc, ⟨d, t⟩⟩ = X) (hq : (X == s) = q) : (q = true → rdM s = some ⟨k, sc, ⟨d, t⟩⟩) ∧ (q = false → rdM s = none) := by
 subst hs
 rw [rdM_mk, hm]
 refine ⟨fun e => ?_, fun e => ?_⟩
 · rw [e] at hq
   rw [if_pos ⟨him, by rw [hX]; exact beq_iff_eq.1 hq⟩]
 · rw [e] at hq
   rw [if_neg (fun h => by rw [hX] at h; rw [beq_iff_eq.2 h.2] at hq; cases hq)]
theorem fin_f {c : UInt8} {r s : List UInt8} {k sc d t : Int} (hs : s = c :: r) (hm : mkM c r = ⟨k, sc, ⟨d, t⟩⟩) (him : isMove ⟨k, sc, ⟨d, t⟩⟩ = false) : (false = true → rdM s = some ⟨k, sc, ⟨d, t⟩⟩) ∧ (false = false → rdM s = none) := by
 subst hs
 rw [rdM_mk, hm]
 exact ⟨fun e => (by cases e), fun _ => if_neg (fun h => by rw [him] at h; cases h.1)⟩
set_option maxHeartbeats 4000000 in
theorem w_readMove (s : List UInt8) (hs : s.length ≤ 1048576) (w : World) (he : Env w) :
 Calls Tryz.prog 84 #[sv s] w fun e w' => (∃ (k sc d t : Int) (b : Bool), e = .returned (.tuple #[.agg #[.int .i64 k, .int .i64 sc, .int .i64 d, .int .i64 t], .bool b]) ∧ (b = true → rdM s = some ⟨k, sc, ⟨d, t⟩⟩) ∧ (b = false → rdM s = none)) ∧ Later w w' := by
 have HE := Lib.hid he
 clear he
 have c2 : ∀ o, (w.alloc (.cells #[.int .i64 0, .int .i64 0, .int .i64 0, .int .i64 0] 107)).cell? ⟨w.heap.size, o, none⟩ = (#[.int .i64 0, .int .i64 0, .int .i64 0, .int .i64 0] : Array Value)[o]? := (blk_at (heap_alloc_new w _)).1
 have z2 : w.heap.size < (w.alloc (.cells #[.int .i64 0, .int .i64 0, .int .i64 0, .int .i64 0] 107)).heap.size := (blk_at (heap_alloc_new w _)).2.2
 have f2 := (blk_at (heap_alloc_new w (.cells #[.int .i64 0, .int .i64 0, .int .i64 0, .int .i64 0] 107))).2.1
 cases hsr : s with
 | nil =>
  go_enter Tryz.func84, Tryz.ntmps84
  go_wp2
  refine bodyPost_ret (v := .tuple #[.agg #[.int .i64 0, .int .i64 0, .int .i64 0, .int .i64 0], .bool false]) (by simp [results, Tryz.results84, go_sem, c2, z2]) rfl ⟨⟨0, 0, 0, 0, false, rfl, fun e => (by cases e), fun _ => rdM_nil⟩, qla⟩
 | cons c r =>
  rw [← hsr]
  have hq0 : (s == []) = false := by rw [hsr]; rfl
  have hi := idx_at (s := s) (k := 0) (c := c) (by rw [hsr]; rfl)
  have hl0 : 0 < s.length := by rw [hsr]; simp
  obtain ⟨cn, hcn⟩ : ∃ n, c.toNat = n := ⟨_, rfl⟩
  have hrl : r.length ≤ 1048576 := by rw [hsr] at hs; simp at hs; omega
  have HS := Lib.hid hsr
  have HR := Lib.hid (show (ByteArray.mk s.toArray).extract 1 s.length = ByteArray.mk r.toArray from by rw [ByteArray.extract_mk, List.take_of_length_le (by simp), hsr]; rfl)
  obtain ⟨KZ, hKZ⟩ : ∃ x, kOf c = x := ⟨_, rfl⟩
  have HKZ := Lib.hid hKZ
  have EKZ : Hid (Lib.indexByte (ByteArray.mk #[80, 83, 84, 76, 82, 108, 114]).data.toList ((cn : Int).toNat.toUInt8) = KZ) := Lib.hid (by
   rw [← hKZ, Int.toNat_natCast, ← hcn, show c.toNat.toUInt8 = c from by simp]
   rfl)
  clear hsr hKZ
  go_enter Tryz.func84, Tryz.ntmps84
  go_wp2_with fail
  refine (Tryz.strings_IndexByte ⟨#[80, 83, 84, 76, 82, 108, 114]⟩ (cn : Int) _).mono ?_
  rintro e w1 ⟨rfl, hw1⟩
  subst hw1
  rw [EKZ.out]
  go_wp2_with fail
  refine (w_within KZ 0 2 _).mono ?_
  rintro e w2 ⟨rfl, hw2⟩
  subst hw2
  cases hin : inR KZ 0 2
  · have HM := Lib.hid (show mkM c r = ⟨KZ, 0, ⟨0, 0⟩⟩ from by unfold mkM; rw [HKZ.out, hin]; rfl)
    have KK4 := heap_alloc_new (w.alloc (.cells #[.int .i64 0, .int .i64 0, .int .i64 0, .int .i64 0] 107)) (.cells #[.int .i64 KZ, .int .i64 0, .int .i64 0, .int .i64 0] 107)
    have KKr := heap_alloc_old (w.alloc (.cells #[.int .i64 0, .int .i64 0, .int .i64 0, .int .i64 0] 107)) (.cells #[.int .i64 KZ, .int .i64 0, .int .i64 0, .int .i64 0] 107) (heap_alloc_new w _)
    rw [World.size_alloc] at KK4
    cases him : isMove (⟨KZ, 0, ⟨0, 0⟩⟩ : Mov)
    · have IM := Lib.hid him
      clear him
      have FIN := Lib.hid (fin_f HS.out HM.out IM.out)
      go_wp2_with fail
      refine wp_nameR ?_
      intro u hu
      have hL0 : Later w u := by rw [hu]; exact qla
      have K4 : u.heap[(w.heap.size + 1)]? = some (.cells #[.int .i64 KZ, .int .i64 0, .int .i64 0, .int .i64 0] 107 (0, 0)) := by rw [hu]; exact KK4
      have Kr : u.heap[w.heap.size]? = some (.cells #[.int .i64 0, .int .i64 0, .int .i64 0, .int .i64 0] 107 (0, 0)) := by rw [hu]; exact KKr
      have hSB := hL0.size
      have hRB : w.heap.size ≤ w.heap.size := Nat.le_refl _
      clear hu c2 f2
      refine region_guards 44 [35, 36, 37, 38, 39, 40, 41, 42, 43, 3] (fun g ac wc => sl ac 0 = sv s ∧
       sl ac 4 = .pointer (some ⟨(w.heap.size + 1), 0, none⟩) ∧
       sl ac 2 = .pointer (some ⟨w.heap.size, 0, none⟩) ∧
       (g 0 = true → sl ac 35 = .agg #[.int .i64 KZ, .int .i64 0, .int .i64 0, .int .i64 0]) ∧
       (g 1 = true → sl ac 36 = .agg #[.int .i64 KZ, .int .i64 0, .int .i64 0, .int .i64 0]) ∧
       (g 2 = true → sl ac 37 = .bool false) ∧
       (g 3 = true → sl ac 38 = .bool false) ∧
       (g 4 = true → sl ac 39 = undef) ∧
       (g 5 = true → sl ac 40 = undef) ∧
       (g 6 = true → sl ac 41 = undef) ∧
       (g 7 = true → sl ac 42 = undef) ∧
       (g 8 = true → sl ac 43 = .bool false) ∧
       (g 10 = true → sl ac 3 = .bool false) ∧
       Later w wc ∧
       u.heap.size ≤ wc.heap.size ∧
       wc.heap[(w.heap.size + 1)]? = some (.cells #[.int .i64 KZ, .int .i64 0, .int .i64 0, .int .i64 0] 107 (0, 0)) ∧
       (∃ r0 r1 r2 r3, wc.heap[w.heap.size]? = some (.cells #[r0, r1, r2, r3] 107 (0, 0)) ∧ (g 9 = true → r0 = .int .i64 KZ ∧ r1 = .int .i64 0 ∧ r2 = .int .i64 0 ∧ r3 = .int .i64 0))) (by kernel_rfl) (by kernel_rfl) rfl (by kernel_rfl) ?_ ?_ ?_
      · exact ⟨rfl, rfl, rfl, nofun, nofun, nofun, nofun, nofun, nofun, nofun, nofun, nofun, nofun, hL0.drew, Nat.le_refl _, K4, ⟨_, _, _, _, Kr, nofun⟩⟩
      · intro g ac wz hg ha hI
        obtain ⟨x0, x4, x2, i0, i1, i2, i3, i4, i5, i6, i7, i8, i10, hL, hS, B4, Rr⟩ := hI
        have a0 := i0 (hg 0 (by simp))
        have a1 := i1 (hg 1 (by simp))
        have a2 := i2 (hg 2 (by simp))
        have a3 := i3 (hg 3 (by simp))
        have a4 := i4 (hg 4 (by simp))
        have a5 := i5 (hg 5 (by simp))
        have a6 := i6 (hg 6 (by simp))
        have a7 := i7 (hg 7 (by simp))
        have a8 := i8 (hg 8 (by simp))
        have a10 := i10 (hg 10 (by simp))
        obtain ⟨r0, r1, r2, r3, Kr, gr⟩ := Rr
        have gr := gr (hg 9 (by simp))
        rw [gr.1, gr.2.1, gr.2.2.1, gr.2.2.2] at Kr
        clear gr
        simp only [putAll, a0, a1, a2, a3, a4, a5, a6, a7, a8, a10] at ha
        simp only [Act.put, List.setIfInBounds_toArray, List.set_cons_succ, List.set_cons_zero] at ha
        rw [ha]
        clear x0 x4 x2 i0 i1 i2 i3 i4 i5 i6 i7 i8 i10 a0 a1 a2 a3 a4 a5 a6 a7 a8 a10 hg ha
        obtain ⟨c2, f2, z2⟩ := blk_at Kr
        go_wp2
        refine bodyPost_ret (v := .tuple #[.agg #[.int .i64 KZ, .int .i64 0, .int .i64 0, .int .i64 0], .bool false]) (by simp [results, Tryz.results84, go_sem, c2, z2]) rfl ⟨⟨KZ, 0, 0, 0, _, rfl, FIN.out.1, fun _ => (by first | exact FIN.out.2 rfl | exact FIN.out.2 trivial)⟩, qla⟩
      · refine .cons ?_ (.cons ?_ (.cons ?_ (.cons ?_ (.cons ?_ (.cons ?_ (.cons ?_ (.cons ?_ (.cons ?_ (.cons ?_ (.cons ?_ .nil))))))))))
        · refine GSlot.of rfl ?_
          unfold SlotStep
          intro g ac wc hn hk hr hI K' hK
          have HI := Lib.hid hI
          obtain ⟨x0, x4, x2, i0, i1, i2, i3, i4, i5, i6, i7, i8, i10, hL, hS, B4, Rr⟩ := hI
          simp [Region.binds] at hr
          replace hK := Lib.hid hK
          clear i0 i1 i2 i3 i4 i5 i6 i7 i8 i10
          obtain ⟨c0, f0, z0⟩ := blk_at B4
          go_simp
          obtain ⟨-, -, -, i0, i1, i2, i3, i4, i5, i6, i7, i8, i10, -⟩ := HI.out
          exact hK.out _ _ ⟨qB x0, qB x4, qB x2, qP, qF i1, qF i2, qF i3, qF i4, qF i5, qF i6, qF i7, qF i8, qF i10, hL, hS, B4, Rr⟩
        · refine GSlot.of rfl ?_
          unfold SlotStep
          intro g ac wc hn hk hr hI K' hK
          have HI := Lib.hid hI
          obtain ⟨x0, x4, x2, i0, i1, i2, i3, i4, i5, i6, i7, i8, i10, hL, hS, B4, Rr⟩ := hI
          simp [Region.binds] at hr
          replace hK := Lib.hid hK
          clear i0 i1 i2 i3 i4 i5 i6 i7 i8 i10
          obtain ⟨c0, f0, z0⟩ := blk_at B4
          go_simp
          obtain ⟨-, -, -, i0, i1, i2, i3, i4, i5, i6, i7, i8, i10, -⟩ := HI.out
          exact hK.out _ _ ⟨qB x0, qB x4, qB x2, qF i0, qP, qF i2, qF i3, qF i4, qF i5, qF i6, qF i7, qF i8, qF i10, hL, hS, B4, Rr⟩
        · refine GSlot.of rfl ?_
          unfold SlotStep
          intro g ac wc hn hk hr hI K' hK
          have HI := Lib.hid hI
          obtain ⟨x0, x4, x2, i0, i1, i2, i3, i4, i5, i6, i7, i8, i10, hL, hS, B4, Rr⟩ := hI
          simp [Region.binds] at hr
          replace hK := Lib.hid hK
          have y1 := i1 (by simp [hr])
          clear i0 i1 i2 i3 i4 i5 i6 i7 i8 i10
          go_simp
          refine (w_implIsMove KZ 0 0 0 _).mono ?_
          rintro e w4 ⟨rfl, hL4⟩
          rw [IM.out]
          obtain ⟨-, -, -, i0, i1, i2, i3, i4, i5, i6, i7, i8, i10, -⟩ := HI.out
          exact hK.out _ _ ⟨qB x0, qB x4, qB x2, qF i0, qF i1, qP, qF i3, qF i4, qF i5, qF i6, qF i7, qF i8, qF i10, hL.trans hL4, Nat.le_trans hS hL4.size, hL4.keep B4, (by obtain ⟨r0, r1, r2, r3, R1, R2⟩ := Rr; exact ⟨r0, r1, r2, r3, hL4.keep R1, R2⟩)⟩
        · refine GSlot.of rfl ?_
          unfold SlotStep
          intro g ac wc hn hk hr hI K' hK
          have HI := Lib.hid hI
          obtain ⟨x0, x4, x2, i0, i1, i2, i3, i4, i5, i6, i7, i8, i10, hL, hS, B4, Rr⟩ := hI
          simp [Region.binds] at hr
          replace hK := Lib.hid hK
          have y2 := i2 (by simp [hr])
          clear i0 i1 i2 i3 i4 i5 i6 i7 i8 i10
          go_simp
          obtain ⟨-, -, -, i0, i1, i2, i3, i4, i5, i6, i7, i8, i10, -⟩ := HI.out
          exact hK.out _ _ ⟨qB x0, qB x4, qB x2, qF i0, qF i1, qF i2, qP, qF i4, qF i5, qF i6, qF i7, qF i8, qF i10, hL, hS, B4, Rr⟩
        · refine GSlot.skip rfl rfl (by decide) (fun g ac wc hr hI => ?_) ?_
          · obtain ⟨x0, x4, x2, i0, i1, i2, i3, i4, i5, i6, i7, i8, i10, hL, hS, B4, Rr⟩ := hI
            simp [Region.binds] at hr
            exact i3 (by simp [hr])
          intro g ac wc hn hk hr hI
          obtain ⟨x0, x4, x2, i0, i1, i2, i3, i4, i5, i6, i7, i8, i10, hL, hS, B4, Rr⟩ := hI
          simp [Region.binds] at hr
          exact ⟨qB x0, qB x4, qB x2, qF i0, qF i1, qF i2, qF i3, qP, qF i5, qF i6, qF i7, qF i8, qF i10, hL, hS, B4, Rr⟩
        · refine GSlot.skip rfl rfl (by decide) (fun g ac wc hr hI => ?_) ?_
          · obtain ⟨x0, x4, x2, i0, i1, i2, i3, i4, i5, i6, i7, i8, i10, hL, hS, B4, Rr⟩ := hI
            simp [Region.binds] at hr
            exact i3 (by simp [hr])
          intro g ac wc hn hk hr hI
          obtain ⟨x0, x4, x2, i0, i1, i2, i3, i4, i5, i6, i7, i8, i10, hL, hS, B4, Rr⟩ := hI
          simp [Region.binds] at hr
          exact ⟨qB x0, qB x4, qB x2, qF i0, qF i1, qF i2, qF i3, qF i4, qP, qF i6, qF i7, qF i8, qF i10, hL, hS, B4, Rr⟩
        · refine GSlot.skip rfl rfl (by decide) (fun g ac wc hr hI => ?_) ?_
          · obtain ⟨x0, x4, x2, i0, i1, i2, i3, i4, i5, i6, i7, i8, i10, hL, hS, B4, Rr⟩ := hI
            simp [Region.binds] at hr
            exact i3 (by simp [hr])
          intro g ac wc hn hk hr hI
          obtain ⟨x0, x4, x2, i0, i1, i2, i3, i4, i5, i6, i7, i8, i10, hL, hS, B4, Rr⟩ := hI
          simp [Region.binds] at hr
          exact ⟨qB x0, qB x4, qB x2, qF i0, qF i1, qF i2, qF i3, qF i4, qF i5, qP, qF i7, qF i8, qF i10, hL, hS, B4, Rr⟩
        · refine GSlot.skip rfl rfl (by decide) (fun g ac wc hr hI => ?_) ?_
          · obtain ⟨x0, x4, x2, i0, i1, i2, i3, i4, i5, i6, i7, i8, i10, hL, hS, B4, Rr⟩ := hI
            simp [Region.binds] at hr
            exact i3 (by simp [hr])
          intro g ac wc hn hk hr hI
          obtain ⟨x0, x4, x2, i0, i1, i2, i3, i4, i5, i6, i7, i8, i10, hL, hS, B4, Rr⟩ := hI
          simp [Region.binds] at hr
          exact ⟨qB x0, qB x4, qB x2, qF i0, qF i1, qF i2, qF i3, qF i4, qF i5, qF i6, qP, qF i8, qF i10, hL, hS, B4, Rr⟩
        · refine GSlot.of rfl ?_
          unfold SlotStep
          intro g ac wc hn hk hr hI K' hK
          have HI := Lib.hid hI
          obtain ⟨x0, x4, x2, i0, i1, i2, i3, i4, i5, i6, i7, i8, i10, hL, hS, B4, Rr⟩ := hI
          simp [Region.binds] at hr
          replace hK := Lib.hid hK
          have y3 := i3 (by simp [hr])
          have y7 := i7 (by simp [hr])
          have z3 := sl_get y3 (by omega)
          have z7 := sl_get y7 (by omega)
          clear i0 i1 i2 i3 i4 i5 i6 i7 i8 i10
          go_simp
          obtain ⟨-, -, -, i0, i1, i2, i3, i4, i5, i6, i7, i8, i10, -⟩ := HI.out
          exact hK.out _ _ ⟨qB x0, qB x4, qB x2, qF i0, qF i1, qF i2, qF i3, qF i4, qF i5, qF i6, qF i7, qP, qF i10, hL, hS, B4, Rr⟩
        · refine GSlot.of rfl ?_
          unfold SlotStep
          intro g ac wc hn hk hr hI K' hK
          have HI := Lib.hid hI
          obtain ⟨x0, x4, x2, i0, i1, i2, i3, i4, i5, i6, i7, i8, i10, hL, hS, B4, Rr⟩ := hI
          simp [Region.binds] at hr
          replace hK := Lib.hid hK
          have y0 := i0 (by simp [hr])
          clear i0 i1 i2 i3 i4 i5 i6 i7 i8 i10
          obtain ⟨r0, r1, r2, r3, R1, -⟩ := Rr
          obtain ⟨c0, f0, z0⟩ := blk_at R1
          go_simp
          obtain ⟨-, -, -, i0, i1, i2, i3, i4, i5, i6, i7, i8, i10, -⟩ := HI.out
          exact hK.out undef _ ⟨x0, x4, x2, i0, i1, i2, i3, i4, i5, i6, i7, i8, i10, ((((hL.setCell hRB _).setCell hRB _).setCell hRB _).setCell hRB _), (by simp; omega), (other_set (other_set (other_set (other_set B4 (by omega) _) (by omega) _) (by omega) _) (by omega) _), ⟨_, _, _, _, four_set R1 _ _ _ _, fun _ => ⟨rfl, rfl, rfl, rfl⟩⟩⟩
        · refine GSlot.of rfl ?_
          unfold SlotStep
          intro g ac wc hn hk hr hI K' hK
          have HI := Lib.hid hI
          obtain ⟨x0, x4, x2, i0, i1, i2, i3, i4, i5, i6, i7, i8, i10, hL, hS, B4, Rr⟩ := hI
          simp [Region.binds] at hr
          replace hK := Lib.hid hK
          have y8 := i8 (by simp [hr])
          have z8 := sl_get y8 (by omega)
          clear i0 i1 i2 i3 i4 i5 i6 i7 i8 i10
          go_simp
          obtain ⟨-, -, -, i0, i1, i2, i3, i4, i5, i6, i7, i8, i10, -⟩ := HI.out
          exact hK.out _ _ ⟨qB x0, qB x4, qB x2, qF i0, qF i1, qF i2, qF i3, qF i4, qF i5, qF i6, qF i7, qF i8, qP, hL, hS, B4, Rr⟩
    · have IM := Lib.hid him
      clear him
      obtain ⟨X, hX⟩ : ∃ x, mvT (⟨KZ, 0, ⟨0, 0⟩⟩ : Mov) = x := ⟨_, rfl⟩
      have EX := Lib.hid hX
      obtain ⟨q, hq⟩ : ∃ q, (X == s) = q := ⟨_, rfl⟩
      have FIN := Lib.hid (fin_t HS.out HM.out IM.out hX hq)
      clear hX
      go_wp2_with fail
      refine wp_nameR ?_
      intro u hu
      have hL0 : Later w u := by rw [hu]; exact qla
      have K4 : u.heap[(w.heap.size + 1)]? = some (.cells #[.int .i64 KZ, .int .i64 0, .int .i64 0, .int .i64 0] 107 (0, 0)) := by rw [hu]; exact KK4
      have Kr : u.heap[w.heap.size]? = some (.cells #[.int .i64 0, .int .i64 0, .int .i64 0, .int .i64 0] 107 (0, 0)) := by rw [hu]; exact KKr
      have hSB := hL0.size
      have hRB : w.heap.size ≤ w.heap.size := Nat.le_refl _
      clear hu c2 f2
      refine region_guards 44 [35, 36, 37, 38, 39, 40, 41, 42, 43, 3] (fun g ac wc => sl ac 0 = sv s ∧
       sl ac 4 = .pointer (some ⟨(w.heap.size + 1), 0, none⟩) ∧
       sl ac 2 = .pointer (some ⟨w.heap.size, 0, none⟩) ∧
       (g 0 = true → sl ac 35 = .agg #[.int .i64 KZ, .int .i64 0, .int .i64 0, .int .i64 0]) ∧
       (g 1 = true → sl ac 36 = .agg #[.int .i64 KZ, .int .i64 0, .int .i64 0, .int .i64 0]) ∧
       (g 2 = true → sl ac 37 = .bool true) ∧
       (g 3 = true → sl ac 38 = .bool true) ∧
       (g 4 = true → sl ac 39 = .agg #[.int .i64 KZ, .int .i64 0, .int .i64 0, .int .i64 0]) ∧
       (g 5 = true → sl ac 40 = sv X) ∧
       (g 6 = true → sl ac 41 = sv s) ∧
       (g 7 = true → sl ac 42 = .bool q) ∧
       (g 8 = true → sl ac 43 = .bool q) ∧
       (g 10 = true → sl ac 3 = .bool q) ∧
       Later w wc ∧
       u.heap.size ≤ wc.heap.size ∧
       wc.heap[(w.heap.size + 1)]? = some (.cells #[.int .i64 KZ, .int .i64 0, .int .i64 0, .int .i64 0] 107 (0, 0)) ∧
       (∃ r0 r1 r2 r3, wc.heap[w.heap.size]? = some (.cells #[r0, r1, r2, r3] 107 (0, 0)) ∧ (g 9 = true → r0 = .int .i64 KZ ∧ r1 = .int .i64 0 ∧ r2 = .int .i64 0 ∧ r3 = .int .i64 0))) (by kernel_rfl) (by kernel_rfl) rfl (by kernel_rfl) ?_ ?_ ?_
      · exact ⟨rfl, rfl, rfl, nofun, nofun, nofun, nofun, nofun, nofun, nofun, nofun, nofun, nofun, hL0.drew, Nat.le_refl _, K4, ⟨_, _, _, _, Kr, nofun⟩⟩
      · intro g ac wz hg ha hI
        obtain ⟨x0, x4, x2, i0, i1, i2, i3, i4, i5, i6, i7, i8, i10, hL, hS, B4, Rr⟩ := hI
        have a0 := i0 (hg 0 (by simp))
        have a1 := i1 (hg 1 (by simp))
        have a2 := i2 (hg 2 (by simp))
        have a3 := i3 (hg 3 (by simp))
        have a4 := i4 (hg 4 (by simp))
        have a5 := i5 (hg 5 (by simp))
        have a6 := i6 (hg 6 (by simp))
        have a7 := i7 (hg 7 (by simp))
        have a8 := i8 (hg 8 (by simp))
        have a10 := i10 (hg 10 (by simp))
        obtain ⟨r0, r1, r2, r3, Kr, gr⟩ := Rr
        have gr := gr (hg 9 (by simp))
        rw [gr.1, gr.2.1, gr.2.2.1, gr.2.2.2] at Kr
        clear gr
        simp only [putAll, a0, a1, a2, a3, a4, a5, a6, a7, a8, a10] at ha
        simp only [Act.put, List.setIfInBounds_toArray, List.set_cons_succ, List.set_cons_zero] at ha
        rw [ha]
        clear x0 x4 x2 i0 i1 i2 i3 i4 i5 i6 i7 i8 i10 a0 a1 a2 a3 a4 a5 a6 a7 a8 a10 hg ha
        obtain ⟨c2, f2, z2⟩ := blk_at Kr
        go_wp2
        refine bodyPost_ret (v := .tuple #[.agg #[.int .i64 KZ, .int .i64 0, .int .i64 0, .int .i64 0], .bool q]) (by simp [results, Tryz.results84, go_sem, c2, z2]) rfl ⟨⟨KZ, 0, 0, 0, _, rfl, FIN.out⟩, qla⟩
      · refine .cons ?_ (.cons ?_ (.cons ?_ (.cons ?_ (.cons ?_ (.cons ?_ (.cons ?_ (.cons ?_ (.cons ?_ (.cons ?_ (.cons ?_ .nil))))))))))
        · refine GSlot.of rfl ?_
          unfold SlotStep
          intro g ac wc hn hk hr hI K' hK
          have HI := Lib.hid hI
          obtain ⟨x0, x4, x2, i0, i1, i2, i3, i4, i5, i6, i7, i8, i10, hL, hS, B4, Rr⟩ := hI
          simp [Region.binds] at hr
          replace hK := Lib.hid hK
          clear i0 i1 i2 i3 i4 i5 i6 i7 i8 i10
          obtain ⟨c0, f0, z0⟩ := blk_at B4
          go_simp
          obtain ⟨-, -, -, i0, i1, i2, i3, i4, i5, i6, i7, i8, i10, -⟩ := HI.out
          exact hK.out _ _ ⟨qB x0, qB x4, qB x2, qP, qF i1, qF i2, qF i3, qF i4, qF i5, qF i6, qF i7, qF i8, qF i10, hL, hS, B4, Rr⟩
        · refine GSlot.of rfl ?_
          unfold SlotStep
          intro g ac wc hn hk hr hI K' hK
          have HI := Lib.hid hI
          obtain ⟨x0, x4, x2, i0, i1, i2, i3, i4, i5, i6, i7, i8, i10, hL, hS, B4, Rr⟩ := hI
          simp [Region.binds] at hr
          replace hK := Lib.hid hK
          clear i0 i1 i2 i3 i4 i5 i6 i7 i8 i10
          obtain ⟨c0, f0, z0⟩ := blk_at B4
          go_simp
          obtain ⟨-, -, -, i0, i1, i2, i3, i4, i5, i6, i7, i8, i10, -⟩ := HI.out
          exact hK.out _ _ ⟨qB x0, qB x4, qB x2, qF i0, qP, qF i2, qF i3, qF i4, qF i5, qF i6, qF i7, qF i8, qF i10, hL, hS, B4, Rr⟩
        · refine GSlot.of rfl ?_
          unfold SlotStep
          intro g ac wc hn hk hr hI K' hK
          have HI := Lib.hid hI
          obtain ⟨x0, x4, x2, i0, i1, i2, i3, i4, i5, i6, i7, i8, i10, hL, hS, B4, Rr⟩ := hI
          simp [Region.binds] at hr
          replace hK := Lib.hid hK
          have y1 := i1 (by simp [hr])
          clear i0 i1 i2 i3 i4 i5 i6 i7 i8 i10
          go_simp
          refine (w_implIsMove KZ 0 0 0 _).mono ?_
          rintro e w4 ⟨rfl, hL4⟩
          rw [IM.out]
          obtain ⟨-, -, -, i0, i1, i2, i3, i4, i5, i6, i7, i8, i10, -⟩ := HI.out
          exact hK.out _ _ ⟨qB x0, qB x4, qB x2, qF i0, qF i1, qP, qF i3, qF i4, qF i5, qF i6, qF i7, qF i8, qF i10, hL.trans hL4, Nat.le_trans hS hL4.size, hL4.keep B4, (by obtain ⟨r0, r1, r2, r3, R1, R2⟩ := Rr; exact ⟨r0, r1, r2, r3, hL4.keep R1, R2⟩)⟩
        · refine GSlot.of rfl ?_
          unfold SlotStep
          intro g ac wc hn hk hr hI K' hK
          have HI := Lib.hid hI
          obtain ⟨x0, x4, x2, i0, i1, i2, i3, i4, i5, i6, i7, i8, i10, hL, hS, B4, Rr⟩ := hI
          simp [Region.binds] at hr
          replace hK := Lib.hid hK
          have y2 := i2 (by simp [hr])
          clear i0 i1 i2 i3 i4 i5 i6 i7 i8 i10
          go_simp
          obtain ⟨-, -, -, i0, i1, i2, i3, i4, i5, i6, i7, i8, i10, -⟩ := HI.out
          exact hK.out _ _ ⟨qB x0, qB x4, qB x2, qF i0, qF i1, qF i2, qP, qF i4, qF i5, qF i6, qF i7, qF i8, qF i10, hL, hS, B4, Rr⟩
        · refine GSlot.want rfl rfl (by decide) (fun g ac wc hr hI => ?_) ?_
          · obtain ⟨x0, x4, x2, i0, i1, i2, i3, i4, i5, i6, i7, i8, i10, hL, hS, B4, Rr⟩ := hI
            simp [Region.binds] at hr
            exact i3 (by simp [hr])
          unfold SlotStep
          intro g ac wc hn hk hr hI K' hK
          have HI := Lib.hid hI
          obtain ⟨x0, x4, x2, i0, i1, i2, i3, i4, i5, i6, i7, i8, i10, hL, hS, B4, Rr⟩ := hI
          simp [Region.binds] at hr
          replace hK := Lib.hid hK
          clear i0 i1 i2 i3 i4 i5 i6 i7 i8 i10
          obtain ⟨c0, f0, z0⟩ := blk_at B4
          go_simp
          obtain ⟨-, -, -, i0, i1, i2, i3, i4, i5, i6, i7, i8, i10, -⟩ := HI.out
          exact hK.out _ _ ⟨qB x0, qB x4, qB x2, qF i0, qF i1, qF i2, qF i3, qP, qF i5, qF i6, qF i7, qF i8, qF i10, hL, hS, B4, Rr⟩
        · refine GSlot.want rfl rfl (by decide) (fun g ac wc hr hI => ?_) ?_
          · obtain ⟨x0, x4, x2, i0, i1, i2, i3, i4, i5, i6, i7, i8, i10, hL, hS, B4, Rr⟩ := hI
            simp [Region.binds] at hr
            exact i3 (by simp [hr])
          unfold SlotStep
          intro g ac wc hn hk hr hI K' hK
          have HI := Lib.hid hI
          obtain ⟨x0, x4, x2, i0, i1, i2, i3, i4, i5, i6, i7, i8, i10, hL, hS, B4, Rr⟩ := hI
          simp [Region.binds] at hr
          replace hK := Lib.hid hK
          have y4 := i4 (by simp [hr])
          clear i0 i1 i2 i3 i4 i5 i6 i7 i8 i10
          go_simp
          refine (w_moveText ⟨KZ, 0, ⟨0, 0⟩⟩ IM.out _ ((HE.out.later hL).tab)).mono ?_
          rintro e w4 ⟨rfl, hL4⟩
          rw [EX.out]
          obtain ⟨-, -, -, i0, i1, i2, i3, i4, i5, i6, i7, i8, i10, -⟩ := HI.out
          exact hK.out _ _ ⟨qB x0, qB x4, qB x2, qF i0, qF i1, qF i2, qF i3, qF i4, qP, qF i6, qF i7, qF i8, qF i10, hL.trans hL4, Nat.le_trans hS hL4.size, hL4.keep B4, (by obtain ⟨r0, r1, r2, r3, R1, R2⟩ := Rr; exact ⟨r0, r1, r2, r3, hL4.keep R1, R2⟩)⟩
        · refine GSlot.want rfl rfl (by decide) (fun g ac wc hr hI => ?_) ?_
          · obtain ⟨x0, x4, x2, i0, i1, i2, i3, i4, i5, i6, i7, i8, i10, hL, hS, B4, Rr⟩ := hI
            simp [Region.binds] at hr
            exact i3 (by simp [hr])
          unfold SlotStep
          intro g ac wc hn hk hr hI K' hK
          have HI := Lib.hid hI
          obtain ⟨x0, x4, x2, i0, i1, i2, i3, i4, i5, i6, i7, i8, i10, hL, hS, B4, Rr⟩ := hI
          simp [Region.binds] at hr
          replace hK := Lib.hid hK
          clear i0 i1 i2 i3 i4 i5 i6 i7 i8 i10
          go_simp
          obtain ⟨-, -, -, i0, i1, i2, i3, i4, i5, i6, i7, i8, i10, -⟩ := HI.out
          exact hK.out _ _ ⟨qB x0, qB x4, qB x2, qF i0, qF i1, qF i2, qF i3, qF i4, qF i5, qP, qF i7, qF i8, qF i10, hL, hS, B4, Rr⟩
        · refine GSlot.want rfl rfl (by decide) (fun g ac wc hr hI => ?_) ?_
          · obtain ⟨x0, x4, x2, i0, i1, i2, i3, i4, i5, i6, i7, i8, i10, hL, hS, B4, Rr⟩ := hI
            simp [Region.binds] at hr
            exact i3 (by simp [hr])
          unfold SlotStep
          intro g ac wc hn hk hr hI K' hK
          have HI := Lib.hid hI
          obtain ⟨x0, x4, x2, i0, i1, i2, i3, i4, i5, i6, i7, i8, i10, hL, hS, B4, Rr⟩ := hI
          simp [Region.binds] at hr
          replace hK := Lib.hid hK
          have y5 := i5 (by simp [hr])
          have y6 := i6 (by simp [hr])
          clear i0 i1 i2 i3 i4 i5 i6 i7 i8 i10
          go_simp
          obtain ⟨-, -, -, i0, i1, i2, i3, i4, i5, i6, i7, i8, i10, -⟩ := HI.out
          exact hK.out _ _ ⟨qB x0, qB x4, qB x2, qF i0, qF i1, qF i2, qF i3, qF i4, qF i5, qF i6, qP, qF i8, qF i10, hL, hS, B4, Rr⟩
        · refine GSlot.of rfl ?_
          unfold SlotStep
          intro g ac wc hn hk hr hI K' hK
          have HI := Lib.hid hI
          obtain ⟨x0, x4, x2, i0, i1, i2, i3, i4, i5, i6, i7, i8, i10, hL, hS, B4, Rr⟩ := hI
          simp [Region.binds] at hr
          replace hK := Lib.hid hK
          have y3 := i3 (by simp [hr])
          have y7 := i7 (by simp [hr])
          have z3 := sl_get y3 (by omega)
          have z7 := sl_get y7 (by omega)
          clear i0 i1 i2 i3 i4 i5 i6 i7 i8 i10
          go_simp
          obtain ⟨-, -, -, i0, i1, i2, i3, i4, i5, i6, i7, i8, i10, -⟩ := HI.out
          exact hK.out _ _ ⟨qB x0, qB x4, qB x2, qF i0, qF i1, qF i2, qF i3, qF i4, qF i5, qF i6, qF i7, qP, qF i10, hL, hS, B4, Rr⟩
        · refine GSlot.of rfl ?_
          unfold SlotStep
          intro g ac wc hn hk hr hI K' hK
          have HI := Lib.hid hI
          obtain ⟨x0, x4, x2, i0, i1, i2, i3, i4, i5, i6, i7, i8, i10, hL, hS, B4, Rr⟩ := hI
          simp [Region.binds] at hr
          replace hK := Lib.hid hK
          have y0 := i0 (by simp [hr])
          clear i0 i1 i2 i3 i4 i5 i6 i7 i8 i10
          obtain ⟨r0, r1, r2, r3, R1, -⟩ := Rr
          obtain ⟨c0, f0, z0⟩ := blk_at R1
          go_simp
          obtain ⟨-, -, -, i0, i1, i2, i3, i4, i5, i6, i7, i8, i10, -⟩ := HI.out
          exact hK.out undef _ ⟨x0, x4, x2, i0, i1, i2, i3, i4, i5, i6, i7, i8, i10, ((((hL.setCell hRB _).setCell hRB _).setCell hRB _).setCell hRB _), (by simp; omega), (other_set (other_set (other_set (other_set B4 (by omega) _) (by omega) _) (by omega) _) (by omega) _), ⟨_, _, _, _, four_set R1 _ _ _ _, fun _ => ⟨rfl, rfl, rfl, rfl⟩⟩⟩
        · refine GSlot.of rfl ?_
          unfold SlotStep
          intro g ac wc hn hk hr hI K' hK
          have HI := Lib.hid hI
          obtain ⟨x0, x4, x2, i0, i1, i2, i3, i4, i5, i6, i7, i8, i10, hL, hS, B4, Rr⟩ := hI
          simp [Region.binds] at hr
          replace hK := Lib.hid hK
          have y8 := i8 (by simp [hr])
          have z8 := sl_get y8 (by omega)
          clear i0 i1 i2 i3 i4 i5 i6 i7 i8 i10
          go_simp
          obtain ⟨-, -, -, i0, i1, i2, i3, i4, i5, i6, i7, i8, i10, -⟩ := HI.out
          exact hK.out _ _ ⟨qB x0, qB x4, qB x2, qF i0, qF i1, qF i2, qF i3, qF i4, qF i5, qF i6, qF i7, qF i8, qP, hL, hS, B4, Rr⟩
  · have hcl : (Lib.cut r [58]).1.length ≤ r.length ∧ (Lib.cut r [58]).2.1.length ≤ r.length := by
     unfold Lib.cut
     split
     · simp; omega
     · simp
    obtain ⟨h0, m, hm⟩ := HE.out.mx
    obtain ⟨H, hH⟩ : ∃ x, (Lib.cut r [58]).1 = x := ⟨_, rfl⟩
    obtain ⟨TL, hT⟩ : ∃ x, (Lib.cut r [58]).2.1 = x := ⟨_, rfl⟩
    obtain ⟨ok, hK⟩ : ∃ x, (Lib.cut r [58]).2.2 = x := ⟨_, rfl⟩
    obtain ⟨SC, hSC⟩ : ∃ x, scZ H = x := ⟨_, rfl⟩
    obtain ⟨FD, hFD⟩ : ∃ x, (rfF TL).d = x := ⟨_, rfl⟩
    obtain ⟨FT, hFT⟩ : ∃ x, (rfF TL).t = x := ⟨_, rfl⟩
    have LT : Hid (TL.length ≤ 1048576) := Lib.hid (by rw [← hT]; omega)
    have EH := Lib.hid hH
    have ET := Lib.hid hT
    have EK := Lib.hid hK
    have ESC := Lib.hid hSC
    have EFD := Lib.hid hFD
    have EFT := Lib.hid hFT
    have HM := Lib.hid (show mkM c r = ⟨KZ, SC, ⟨FD, FT⟩⟩ from by unfold mkM; rw [HKZ.out, hin, if_pos rfl, hH, hT, hSC, ← hFD, ← hFT])
    clear hcl hH hT hK hSC hFD hFT
    have hx := HR.out
    have hsz : ((1 : Int) ≤ (s.length : Int)) = True := by simp; omega
    have HWa : Later w ((w.alloc (.cells #[.int .i64 0, .int .i64 0, .int .i64 0, .int .i64 0] 107)).alloc (.cells #[.int .i64 KZ, .int .i64 0, .int .i64 0, .int .i64 0] 107)) := ((Later.refl w).alloc _).alloc _
    go_wp2_with fail
    refine (Tryz.strings_Cut ⟨r.toArray⟩ ⟨#[58]⟩ m _ (by show r.toArray.size < _; simp; omega) ((HWa.cell (p := ⟨1, 0, none⟩) h0).trans hm)).mono ?_
    rintro e w1 ⟨rfl, nd, rfl⟩
    rw [show Lib.cut (ByteArray.mk r.toArray).data.toList (ByteArray.mk #[58]).data.toList = Lib.cut r [58] from rfl, EH.out, ET.out, EK.out]
    obtain ⟨w1, hw1⟩ : ∃ x, ((w.alloc (.cells #[.int .i64 0, .int .i64 0, .int .i64 0, .int .i64 0] 107)).alloc (.cells #[.int .i64 KZ, .int .i64 0, .int .i64 0, .int .i64 0] 107)).drewN nd = x := ⟨_, rfl⟩
    have HW1 : Later w w1 := by rw [← hw1]; exact HWa.drewN nd
    have KR1 : w1.heap[w.heap.size]? = some (.cells #[.int .i64 0, .int .i64 0, .int .i64 0, .int .i64 0] 107 (0, 0)) := by rw [← hw1]; exact heap_alloc_old _ _ (heap_alloc_new _ _)
    have K41 : w1.heap[w.heap.size + 1]? = some (.cells #[.int .i64 KZ, .int .i64 0, .int .i64 0, .int .i64 0] 107 (0, 0)) := by rw [← hw1]; exact heap_alloc_new' _ _ (by simp)
    rw [hw1]
    clear hw1 hm HWa hx c2 f2
    go_wp2_with fail
    refine (w_scaleNames _).mono ?_
    rintro e w2 ⟨g2, rfl, hL2, ho2⟩
    have HO2 := Lib.hid ho2
    have HW2 := HW1.trans hL2
    have KR2 := Lib.hid (hL2.keep KR1)
    have K42 := Lib.hid (hL2.keep K41)
    have hz2 := HW2.size
    clear ho2 hL2 KR1 K41
    go_wp2_with fail
    refine (Tryz.slices_Index_string g2 0 6 6 (scNames.map (fun y => ByteArray.mk y.toArray)) ⟨H.toArray⟩ _ (by decide) (by decide) (fun j hj => by
     have hj6 : j < 6 := by simpa [scNames] using hj
     obtain ⟨z, hz⟩ := get_ex (l := scNames) (k := j) hj6
     have h1 := row_add HO2.out j _ (show (strs scNames)[j]? = some (sv z) from by simp only [strs, List.getElem?_map, hz]; rfl)
     rw [addr0] at h1
     rw [Nat.zero_add, h1, List.getD_eq_getElem?_getD, List.getElem?_map, hz]
     rfl)).mono ?_
    rintro e w3 ⟨rfl, hw3⟩
    subst hw3
    rw [List.take_of_length_le (by simp [scNames]), idx_scZ, ESC.out]
    obtain ⟨c4, f4, z4⟩ := blk_at K42.out
    go_wp2_with fail
    refine (w_readFigure TL LT.out _ (HE.out.later (HW2.setCell (show w.heap.size ≤ w.heap.size + 1 by omega) _))).mono ?_
    rintro e w4 ⟨rfl, hL4⟩
    rw [EFD.out, EFT.out]
    have HW4 := (HW2.setCell (show w.heap.size ≤ w.heap.size + 1 by omega) (.int .i64 SC)).trans hL4
    have K43 := hL4.keep (st1R K42.out (.int .i64 SC))
    have KR4 := hL4.keep (other_set KR2.out (show w.heap.size ≠ w.heap.size + 1 by omega) (.int .i64 SC))
    clear hL4 c4 f4 z4
    obtain ⟨c4, f4, z4⟩ := blk_at K43
    have KK4 := st3R (st2R K43 (.int .i64 FD)) (.int .i64 FT)
    have KKr := other_set (other_set KR4 (show w.heap.size ≠ w.heap.size + 1 by omega) (.int .i64 FD) (o := 2)) (show w.heap.size ≠ w.heap.size + 1 by omega) (.int .i64 FT) (o := 3)
    clear K43 KR4
    cases him : isMove (⟨KZ, SC, ⟨FD, FT⟩⟩ : Mov)
    · have IM := Lib.hid him
      clear him
      have FIN := Lib.hid (fin_f HS.out HM.out IM.out)
      go_wp2_with fail
      refine wp_nameR ?_
      intro u hu
      have hL0 : Later w u := by rw [hu]; exact qla
      have K4 : u.heap[(w.heap.size + 1)]? = some (.cells #[.int .i64 KZ, .int .i64 SC, .int .i64 FD, .int .i64 FT] 107 (0, 0)) := by rw [hu]; exact KK4
      have Kr : u.heap[w.heap.size]? = some (.cells #[.int .i64 0, .int .i64 0, .int .i64 0, .int .i64 0] 107 (0, 0)) := by rw [hu]; exact KKr
      have hSB := hL0.size
      have hRB : w.heap.size ≤ w.heap.size := Nat.le_refl _
      clear hu
      refine region_guards 44 [35, 36, 37, 38, 39, 40, 41, 42, 43, 3] (fun g ac wc => sl ac 0 = sv s ∧
       sl ac 4 = .pointer (some ⟨(w.heap.size + 1), 0, none⟩) ∧
       sl ac 2 = .pointer (some ⟨w.heap.size, 0, none⟩) ∧
       (g 0 = true → sl ac 35 = .agg #[.int .i64 KZ, .int .i64 SC, .int .i64 FD, .int .i64 FT]) ∧
       (g 1 = true → sl ac 36 = .agg #[.int .i64 KZ, .int .i64 SC, .int .i64 FD, .int .i64 FT]) ∧
       (g 2 = true → sl ac 37 = .bool false) ∧
       (g 3 = true → sl ac 38 = .bool false) ∧
       (g 4 = true → sl ac 39 = undef) ∧
       (g 5 = true → sl ac 40 = undef) ∧
       (g 6 = true → sl ac 41 = undef) ∧
       (g 7 = true → sl ac 42 = undef) ∧
       (g 8 = true → sl ac 43 = .bool false) ∧
       (g 10 = true → sl ac 3 = .bool false) ∧
       Later w wc ∧
       u.heap.size ≤ wc.heap.size ∧
       wc.heap[(w.heap.size + 1)]? = some (.cells #[.int .i64 KZ, .int .i64 SC, .int .i64 FD, .int .i64 FT] 107 (0, 0)) ∧
       (∃ r0 r1 r2 r3, wc.heap[w.heap.size]? = some (.cells #[r0, r1, r2, r3] 107 (0, 0)) ∧ (g 9 = true → r0 = .int .i64 KZ ∧ r1 = .int .i64 SC ∧ r2 = .int .i64 FD ∧ r3 = .int .i64 FT))) (by kernel_rfl) (by kernel_rfl) rfl (by kernel_rfl) ?_ ?_ ?_
      · exact ⟨rfl, rfl, rfl, nofun, nofun, nofun, nofun, nofun, nofun, nofun, nofun, nofun, nofun, hL0.drew, Nat.le_refl _, K4, ⟨_, _, _, _, Kr, nofun⟩⟩
      · intro g ac wz hg ha hI
        obtain ⟨x0, x4, x2, i0, i1, i2, i3, i4, i5, i6, i7, i8, i10, hL, hS, B4, Rr⟩ := hI
        have a0 := i0 (hg 0 (by simp))
        have a1 := i1 (hg 1 (by simp))
        have a2 := i2 (hg 2 (by simp))
        have a3 := i3 (hg 3 (by simp))
        have a4 := i4 (hg 4 (by simp))
        have a5 := i5 (hg 5 (by simp))
        have a6 := i6 (hg 6 (by simp))
        have a7 := i7 (hg 7 (by simp))
        have a8 := i8 (hg 8 (by simp))
        have a10 := i10 (hg 10 (by simp))
        obtain ⟨r0, r1, r2, r3, Kr, gr⟩ := Rr
        have gr := gr (hg 9 (by simp))
        rw [gr.1, gr.2.1, gr.2.2.1, gr.2.2.2] at Kr
        clear gr
        simp only [putAll, a0, a1, a2, a3, a4, a5, a6, a7, a8, a10] at ha
        simp only [Act.put, List.setIfInBounds_toArray, List.set_cons_succ, List.set_cons_zero] at ha
        rw [ha]
        clear x0 x4 x2 i0 i1 i2 i3 i4 i5 i6 i7 i8 i10 a0 a1 a2 a3 a4 a5 a6 a7 a8 a10 hg ha
        obtain ⟨c2, f2, z2⟩ := blk_at Kr
        go_wp2
        refine bodyPost_ret (v := .tuple #[.agg #[.int .i64 KZ, .int .i64 SC, .int .i64 FD, .int .i64 FT], .bool false]) (by simp [results, Tryz.results84, go_sem, c2, z2]) rfl ⟨⟨KZ, SC, FD, FT, _, rfl, FIN.out.1, fun _ => (by first | exact FIN.out.2 rfl | exact FIN.out.2 trivial)⟩, qla⟩
      · refine .cons ?_ (.cons ?_ (.cons ?_ (.cons ?_ (.cons ?_ (.cons ?_ (.cons ?_ (.cons ?_ (.cons ?_ (.cons ?_ (.cons ?_ .nil))))))))))
        · refine GSlot.of rfl ?_
          unfold SlotStep
          intro g ac wc hn hk hr hI K' hK
          have HI := Lib.hid hI
          obtain ⟨x0, x4, x2, i0, i1, i2, i3, i4, i5, i6, i7, i8, i10, hL, hS, B4, Rr⟩ := hI
          simp [Region.binds] at hr
          replace hK := Lib.hid hK
          clear i0 i1 i2 i3 i4 i5 i6 i7 i8 i10
          obtain ⟨c0, f0, z0⟩ := blk_at B4
          go_simp
          obtain ⟨-, -, -, i0, i1, i2, i3, i4, i5, i6, i7, i8, i10, -⟩ := HI.out
          exact hK.out _ _ ⟨qB x0, qB x4, qB x2, qP, qF i1, qF i2, qF i3, qF i4, qF i5, qF i6, qF i7, qF i8, qF i10, hL, hS, B4, Rr⟩
        · refine GSlot.of rfl ?_
          unfold SlotStep
          intro g ac wc hn hk hr hI K' hK
          have HI := Lib.hid hI
          obtain ⟨x0, x4, x2, i0, i1, i2, i3, i4, i5, i6, i7, i8, i10, hL, hS, B4, Rr⟩ := hI
          simp [Region.binds] at hr
          replace hK := Lib.hid hK
          clear i0 i1 i2 i3 i4 i5 i6 i7 i8 i10
          obtain ⟨c0, f0, z0⟩ := blk_at B4
          go_simp
          obtain ⟨-, -, -, i0, i1, i2, i3, i4, i5, i6, i7, i8, i10, -⟩ := HI.out
          exact hK.out _ _ ⟨qB x0, qB x4, qB x2, qF i0, qP, qF i2, qF i3, qF i4, qF i5, qF i6, qF i7, qF i8, qF i10, hL, hS, B4, Rr⟩
        · refine GSlot.of rfl ?_
          unfold SlotStep
          intro g ac wc hn hk hr hI K' hK
          have HI := Lib.hid hI
          obtain ⟨x0, x4, x2, i0, i1, i2, i3, i4, i5, i6, i7, i8, i10, hL, hS, B4, Rr⟩ := hI
          simp [Region.binds] at hr
          replace hK := Lib.hid hK
          have y1 := i1 (by simp [hr])
          clear i0 i1 i2 i3 i4 i5 i6 i7 i8 i10
          go_simp
          refine (w_implIsMove KZ SC FD FT _).mono ?_
          rintro e w4 ⟨rfl, hL4⟩
          rw [IM.out]
          obtain ⟨-, -, -, i0, i1, i2, i3, i4, i5, i6, i7, i8, i10, -⟩ := HI.out
          exact hK.out _ _ ⟨qB x0, qB x4, qB x2, qF i0, qF i1, qP, qF i3, qF i4, qF i5, qF i6, qF i7, qF i8, qF i10, hL.trans hL4, Nat.le_trans hS hL4.size, hL4.keep B4, (by obtain ⟨r0, r1, r2, r3, R1, R2⟩ := Rr; exact ⟨r0, r1, r2, r3, hL4.keep R1, R2⟩)⟩
        · refine GSlot.of rfl ?_
          unfold SlotStep
          intro g ac wc hn hk hr hI K' hK
          have HI := Lib.hid hI
          obtain ⟨x0, x4, x2, i0, i1, i2, i3, i4, i5, i6, i7, i8, i10, hL, hS, B4, Rr⟩ := hI
          simp [Region.binds] at hr
          replace hK := Lib.hid hK
          have y2 := i2 (by simp [hr])
          clear i0 i1 i2 i3 i4 i5 i6 i7 i8 i10
          go_simp
          obtain ⟨-, -, -, i0, i1, i2, i3, i4, i5, i6, i7, i8, i10, -⟩ := HI.out
          exact hK.out _ _ ⟨qB x0, qB x4, qB x2, qF i0, qF i1, qF i2, qP, qF i4, qF i5, qF i6, qF i7, qF i8, qF i10, hL, hS, B4, Rr⟩
        · refine GSlot.skip rfl rfl (by decide) (fun g ac wc hr hI => ?_) ?_
          · obtain ⟨x0, x4, x2, i0, i1, i2, i3, i4, i5, i6, i7, i8, i10, hL, hS, B4, Rr⟩ := hI
            simp [Region.binds] at hr
            exact i3 (by simp [hr])
          intro g ac wc hn hk hr hI
          obtain ⟨x0, x4, x2, i0, i1, i2, i3, i4, i5, i6, i7, i8, i10, hL, hS, B4, Rr⟩ := hI
          simp [Region.binds] at hr
          exact ⟨qB x0, qB x4, qB x2, qF i0, qF i1, qF i2, qF i3, qP, qF i5, qF i6, qF i7, qF i8, qF i10, hL, hS, B4, Rr⟩
        · refine GSlot.skip rfl rfl (by decide) (fun g ac wc hr hI => ?_) ?_
          · obtain ⟨x0, x4, x2, i0, i1, i2, i3, i4, i5, i6, i7, i8, i10, hL, hS, B4, Rr⟩ := hI
            simp [Region.binds] at hr
            exact i3 (by simp [hr])
          intro g ac wc hn hk hr hI
          obtain ⟨x0, x4, x2, i0, i1, i2, i3, i4, i5, i6, i7, i8, i10, hL, hS, B4, Rr⟩ := hI
          simp [Region.binds] at hr
          exact ⟨qB x0, qB x4, qB x2, qF i0, qF i1, qF i2, qF i3, qF i4, qP, qF i6, qF i7, qF i8, qF i10, hL, hS, B4, Rr⟩
        · refine GSlot.skip rfl rfl (by decide) (fun g ac wc hr hI => ?_) ?_
          · obtain ⟨x0, x4, x2, i0, i1, i2, i3, i4, i5, i6, i7, i8, i10, hL, hS, B4, Rr⟩ := hI
            simp [Region.binds] at hr
            exact i3 (by simp [hr])
          intro g ac wc hn hk hr hI
          obtain ⟨x0, x4, x2, i0, i1, i2, i3, i4, i5, i6, i7, i8, i10, hL, hS, B4, Rr⟩ := hI
          simp [Region.binds] at hr
          exact ⟨qB x0, qB x4, qB x2, qF i0, qF i1, qF i2, qF i3, qF i4, qF i5, qP, qF i7, qF i8, qF i10, hL, hS, B4, Rr⟩
        · refine GSlot.skip rfl rfl (by decide) (fun g ac wc hr hI => ?_) ?_
          · obtain ⟨x0, x4, x2, i0, i1, i2, i3, i4, i5, i6, i7, i8, i10, hL, hS, B4, Rr⟩ := hI
            simp [Region.binds] at hr
            exact i3 (by simp [hr])
          intro g ac wc hn hk hr hI
          obtain ⟨x0, x4, x2, i0, i1, i2, i3, i4, i5, i6, i7, i8, i10, hL, hS, B4, Rr⟩ := hI
          simp [Region.binds] at hr
          exact ⟨qB x0, qB x4, qB x2, qF i0, qF i1, qF i2, qF i3, qF i4, qF i5, qF i6, qP, qF i8, qF i10, hL, hS, B4, Rr⟩
        · refine GSlot.of rfl ?_
          unfold SlotStep
          intro g ac wc hn hk hr hI K' hK
          have HI := Lib.hid hI
          obtain ⟨x0, x4, x2, i0, i1, i2, i3, i4, i5, i6, i7, i8, i10, hL, hS, B4, Rr⟩ := hI
          simp [Region.binds] at hr
          replace hK := Lib.hid hK
          have y3 := i3 (by simp [hr])
          have y7 := i7 (by simp [hr])
          have z3 := sl_get y3 (by omega)
          have z7 := sl_get y7 (by omega)
          clear i0 i1 i2 i3 i4 i5 i6 i7 i8 i10
          go_simp
          obtain ⟨-, -, -, i0, i1, i2, i3, i4, i5, i6, i7, i8, i10, -⟩ := HI.out
          exact hK.out _ _ ⟨qB x0, qB x4, qB x2, qF i0, qF i1, qF i2, qF i3, qF i4, qF i5, qF i6, qF i7, qP, qF i10, hL, hS, B4, Rr⟩
        · refine GSlot.of rfl ?_
          unfold SlotStep
          intro g ac wc hn hk hr hI K' hK
          have HI := Lib.hid hI
          obtain ⟨x0, x4, x2, i0, i1, i2, i3, i4, i5, i6, i7, i8, i10, hL, hS, B4, Rr⟩ := hI
          simp [Region.binds] at hr
          replace hK := Lib.hid hK
          have y0 := i0 (by simp [hr])
          clear i0 i1 i2 i3 i4 i5 i6 i7 i8 i10
          obtain ⟨r0, r1, r2, r3, R1, -⟩ := Rr
          obtain ⟨c0, f0, z0⟩ := blk_at R1
          go_simp
          obtain ⟨-, -, -, i0, i1, i2, i3, i4, i5, i6, i7, i8, i10, -⟩ := HI.out
          exact hK.out undef _ ⟨x0, x4, x2, i0, i1, i2, i3, i4, i5, i6, i7, i8, i10, ((((hL.setCell hRB _).setCell hRB _).setCell hRB _).setCell hRB _), (by simp; omega), (other_set (other_set (other_set (other_set B4 (by omega) _) (by omega) _) (by omega) _) (by omega) _), ⟨_, _, _, _, four_set R1 _ _ _ _, fun _ => ⟨rfl, rfl, rfl, rfl⟩⟩⟩
        · refine GSlot.of rfl ?_
          unfold SlotStep
          intro g ac wc hn hk hr hI K' hK
          have HI := Lib.hid hI
          obtain ⟨x0, x4, x2, i0, i1, i2, i3, i4, i5, i6, i7, i8, i10, hL, hS, B4, Rr⟩ := hI
          simp [Region.binds] at hr
          replace hK := Lib.hid hK
          have y8 := i8 (by simp [hr])
          have z8 := sl_get y8 (by omega)
          clear i0 i1 i2 i3 i4 i5 i6 i7 i8 i10
          go_simp
          obtain ⟨-, -, -, i0, i1, i2, i3, i4, i5, i6, i7, i8, i10, -⟩ := HI.out
          exact hK.out _ _ ⟨qB x0, qB x4, qB x2, qF i0, qF i1, qF i2, qF i3, qF i4, qF i5, qF i6, qF i7, qF i8, qP, hL, hS, B4, Rr⟩
    · have IM := Lib.hid him
      clear him
      obtain ⟨X, hX⟩ : ∃ x, mvT (⟨KZ, SC, ⟨FD, FT⟩⟩ : Mov) = x := ⟨_, rfl⟩
      have EX := Lib.hid hX
      obtain ⟨q, hq⟩ : ∃ q, (X == s) = q := ⟨_, rfl⟩
      have FIN := Lib.hid (fin_t HS.out HM.out IM.out hX hq)
      clear hX
      go_wp2_with fail
      refine wp_nameR ?_
      intro u hu
      have hL0 : Later w u := by rw [hu]; exact qla
      have K4 : u.heap[(w.heap.size + 1)]? = some (.cells #[.int .i64 KZ, .int .i64 SC, .int .i64 FD, .int .i64 FT] 107 (0, 0)) := by rw [hu]; exact KK4
      have Kr : u.heap[w.heap.size]? = some (.cells #[.int .i64 0, .int .i64 0, .int .i64 0, .int .i64 0] 107 (0, 0)) := by rw [hu]; exact KKr
      have hSB := hL0.size
      have hRB : w.heap.size ≤ w.heap.size := Nat.le_refl _
      clear hu
      refine region_guards 44 [35, 36, 37, 38, 39, 40, 41, 42, 43, 3] (fun g ac wc => sl ac 0 = sv s ∧
       sl ac 4 = .pointer (some ⟨(w.heap.size + 1), 0, none⟩) ∧
       sl ac 2 = .pointer (some ⟨w.heap.size, 0, none⟩) ∧
       (g 0 = true → sl ac 35 = .agg #[.int .i64 KZ, .int .i64 SC, .int .i64 FD, .int .i64 FT]) ∧
       (g 1 = true → sl ac 36 = .agg #[.int .i64 KZ, .int .i64 SC, .int .i64 FD, .int .i64 FT]) ∧
       (g 2 = true → sl ac 37 = .bool true) ∧
       (g 3 = true → sl ac 38 = .bool true) ∧
       (g 4 = true → sl ac 39 = .agg #[.int .i64 KZ, .int .i64 SC, .int .i64 FD, .int .i64 FT]) ∧
       (g 5 = true → sl ac 40 = sv X) ∧
       (g 6 = true → sl ac 41 = sv s) ∧
       (g 7 = true → sl ac 42 = .bool q) ∧
       (g 8 = true → sl ac 43 = .bool q) ∧
       (g 10 = true → sl ac 3 = .bool q) ∧
       Later w wc ∧
       u.heap.size ≤ wc.heap.size ∧
       wc.heap[(w.heap.size + 1)]? = some (.cells #[.int .i64 KZ, .int .i64 SC, .int .i64 FD, .int .i64 FT] 107 (0, 0)) ∧
       (∃ r0 r1 r2 r3, wc.heap[w.heap.size]? = some (.cells #[r0, r1, r2, r3] 107 (0, 0)) ∧ (g 9 = true → r0 = .int .i64 KZ ∧ r1 = .int .i64 SC ∧ r2 = .int .i64 FD ∧ r3 = .int .i64 FT))) (by kernel_rfl) (by kernel_rfl) rfl (by kernel_rfl) ?_ ?_ ?_
      · exact ⟨rfl, rfl, rfl, nofun, nofun, nofun, nofun, nofun, nofun, nofun, nofun, nofun, nofun, hL0.drew, Nat.le_refl _, K4, ⟨_, _, _, _, Kr, nofun⟩⟩
      · intro g ac wz hg ha hI
        obtain ⟨x0, x4, x2, i0, i1, i2, i3, i4, i5, i6, i7, i8, i10, hL, hS, B4, Rr⟩ := hI
        have a0 := i0 (hg 0 (by simp))
        have a1 := i1 (hg 1 (by simp))
        have a2 := i2 (hg 2 (by simp))
        have a3 := i3 (hg 3 (by simp))
        have a4 := i4 (hg 4 (by simp))
        have a5 := i5 (hg 5 (by simp))
        have a6 := i6 (hg 6 (by simp))
        have a7 := i7 (hg 7 (by simp))
        have a8 := i8 (hg 8 (by simp))
        have a10 := i10 (hg 10 (by simp))
        obtain ⟨r0, r1, r2, r3, Kr, gr⟩ := Rr
        have gr := gr (hg 9 (by simp))
        rw [gr.1, gr.2.1, gr.2.2.1, gr.2.2.2] at Kr
        clear gr
        simp only [putAll, a0, a1, a2, a3, a4, a5, a6, a7, a8, a10] at ha
        simp only [Act.put, List.setIfInBounds_toArray, List.set_cons_succ, List.set_cons_zero] at ha
        rw [ha]
        clear x0 x4 x2 i0 i1 i2 i3 i4 i5 i6 i7 i8 i10 a0 a1 a2 a3 a4 a5 a6 a7 a8 a10 hg ha
        obtain ⟨c2, f2, z2⟩ := blk_at Kr
        go_wp2
        refine bodyPost_ret (v := .tuple #[.agg #[.int .i64 KZ, .int .i64 SC, .int .i64 FD, .int .i64 FT], .bool q]) (by simp [results, Tryz.results84, go_sem, c2, z2]) rfl ⟨⟨KZ, SC, FD, FT, _, rfl, FIN.out⟩, qla⟩
      · refine .cons ?_ (.cons ?_ (.cons ?_ (.cons ?_ (.cons ?_ (.cons ?_ (.cons ?_ (.cons ?_ (.cons ?_ (.cons ?_ (.cons ?_ .nil))))))))))
        · refine GSlot.of rfl ?_
          unfold SlotStep
          intro g ac wc hn hk hr hI K' hK
          have HI := Lib.hid hI
          obtain ⟨x0, x4, x2, i0, i1, i2, i3, i4, i5, i6, i7, i8, i10, hL, hS, B4, Rr⟩ := hI
          simp [Region.binds] at hr
          replace hK := Lib.hid hK
          clear i0 i1 i2 i3 i4 i5 i6 i7 i8 i10
          obtain ⟨c0, f0, z0⟩ := blk_at B4
          go_simp
          obtain ⟨-, -, -, i0, i1, i2, i3, i4, i5, i6, i7, i8, i10, -⟩ := HI.out
          exact hK.out _ _ ⟨qB x0, qB x4, qB x2, qP, qF i1, qF i2, qF i3, qF i4, qF i5, qF i6, qF i7, qF i8, qF i10, hL, hS, B4, Rr⟩
        · refine GSlot.of rfl ?_
          unfold SlotStep
          intro g ac wc hn hk hr hI K' hK
          have HI := Lib.hid hI
          obtain ⟨x0, x4, x2, i0, i1, i2, i3, i4, i5, i6, i7, i8, i10, hL, hS, B4, Rr⟩ := hI
          simp [Region.binds] at hr
          replace hK := Lib.hid hK
          clear i0 i1 i2 i3 i4 i5 i6 i7 i8 i10
          obtain ⟨c0, f0, z0⟩ := blk_at B4
          go_simp
          obtain ⟨-, -, -, i0, i1, i2, i3, i4, i5, i6, i7, i8, i10, -⟩ := HI.out
          exact hK.out _ _ ⟨qB x0, qB x4, qB x2, qF i0, qP, qF i2, qF i3, qF i4, qF i5, qF i6, qF i7, qF i8, qF i10, hL, hS, B4, Rr⟩
        · refine GSlot.of rfl ?_
          unfold SlotStep
          intro g ac wc hn hk hr hI K' hK
          have HI := Lib.hid hI
          obtain ⟨x0, x4, x2, i0, i1, i2, i3, i4, i5, i6, i7, i8, i10, hL, hS, B4, Rr⟩ := hI
          simp [Region.binds] at hr
          replace hK := Lib.hid hK
          have y1 := i1 (by simp [hr])
          clear i0 i1 i2 i3 i4 i5 i6 i7 i8 i10
          go_simp
          refine (w_implIsMove KZ SC FD FT _).mono ?_
          rintro e w4 ⟨rfl, hL4⟩
          rw [IM.out]
          obtain ⟨-, -, -, i0, i1, i2, i3, i4, i5, i6, i7, i8, i10, -⟩ := HI.out
          exact hK.out _ _ ⟨qB x0, qB x4, qB x2, qF i0, qF i1, qP, qF i3, qF i4, qF i5, qF i6, qF i7, qF i8, qF i10, hL.trans hL4, Nat.le_trans hS hL4.size, hL4.keep B4, (by obtain ⟨r0, r1, r2, r3, R1, R2⟩ := Rr; exact ⟨r0, r1, r2, r3, hL4.keep R1, R2⟩)⟩
        · refine GSlot.of rfl ?_
          unfold SlotStep
          intro g ac wc hn hk hr hI K' hK
          have HI := Lib.hid hI
          obtain ⟨x0, x4, x2, i0, i1, i2, i3, i4, i5, i6, i7, i8, i10, hL, hS, B4, Rr⟩ := hI
          simp [Region.binds] at hr
          replace hK := Lib.hid hK
          have y2 := i2 (by simp [hr])
          clear i0 i1 i2 i3 i4 i5 i6 i7 i8 i10
          go_simp
          obtain ⟨-, -, -, i0, i1, i2, i3, i4, i5, i6, i7, i8, i10, -⟩ := HI.out
          exact hK.out _ _ ⟨qB x0, qB x4, qB x2, qF i0, qF i1, qF i2, qP, qF i4, qF i5, qF i6, qF i7, qF i8, qF i10, hL, hS, B4, Rr⟩
        · refine GSlot.want rfl rfl (by decide) (fun g ac wc hr hI => ?_) ?_
          · obtain ⟨x0, x4, x2, i0, i1, i2, i3, i4, i5, i6, i7, i8, i10, hL, hS, B4, Rr⟩ := hI
            simp [Region.binds] at hr
            exact i3 (by simp [hr])
          unfold SlotStep
          intro g ac wc hn hk hr hI K' hK
          have HI := Lib.hid hI
          obtain ⟨x0, x4, x2, i0, i1, i2, i3, i4, i5, i6, i7, i8, i10, hL, hS, B4, Rr⟩ := hI
          simp [Region.binds] at hr
          replace hK := Lib.hid hK
          clear i0 i1 i2 i3 i4 i5 i6 i7 i8 i10
          obtain ⟨c0, f0, z0⟩ := blk_at B4
          go_simp
          obtain ⟨-, -, -, i0, i1, i2, i3, i4, i5, i6, i7, i8, i10, -⟩ := HI.out
          exact hK.out _ _ ⟨qB x0, qB x4, qB x2, qF i0, qF i1, qF i2, qF i3, qP, qF i5, qF i6, qF i7, qF i8, qF i10, hL, hS, B4, Rr⟩
        · refine GSlot.want rfl rfl (by decide) (fun g ac wc hr hI => ?_) ?_
          · obtain ⟨x0, x4, x2, i0, i1, i2, i3, i4, i5, i6, i7, i8, i10, hL, hS, B4, Rr⟩ := hI
            simp [Region.binds] at hr
            exact i3 (by simp [hr])
          unfold SlotStep
          intro g ac wc hn hk hr hI K' hK
          have HI := Lib.hid hI
          obtain ⟨x0, x4, x2, i0, i1, i2, i3, i4, i5, i6, i7, i8, i10, hL, hS, B4, Rr⟩ := hI
          simp [Region.binds] at hr
          replace hK := Lib.hid hK
          have y4 := i4 (by simp [hr])
          clear i0 i1 i2 i3 i4 i5 i6 i7 i8 i10
          go_simp
          refine (w_moveText ⟨KZ, SC, ⟨FD, FT⟩⟩ IM.out _ ((HE.out.later hL).tab)).mono ?_
          rintro e w4 ⟨rfl, hL4⟩
          rw [EX.out]
          obtain ⟨-, -, -, i0, i1, i2, i3, i4, i5, i6, i7, i8, i10, -⟩ := HI.out
          exact hK.out _ _ ⟨qB x0, qB x4, qB x2, qF i0, qF i1, qF i2, qF i3, qF i4, qP, qF i6, qF i7, qF i8, qF i10, hL.trans hL4, Nat.le_trans hS hL4.size, hL4.keep B4, (by obtain ⟨r0, r1, r2, r3, R1, R2⟩ := Rr; exact ⟨r0, r1, r2, r3, hL4.keep R1, R2⟩)⟩
        · refine GSlot.want rfl rfl (by decide) (fun g ac wc hr hI => ?_) ?_
          · obtain ⟨x0, x4, x2, i0, i1, i2, i3, i4, i5, i6, i7, i8, i10, hL, hS, B4, Rr⟩ := hI
            simp [Region.binds] at hr
            exact i3 (by simp [hr])
          unfold SlotStep
          intro g ac wc hn hk hr hI K' hK
          have HI := Lib.hid hI
          obtain ⟨x0, x4, x2, i0, i1, i2, i3, i4, i5, i6, i7, i8, i10, hL, hS, B4, Rr⟩ := hI
          simp [Region.binds] at hr
          replace hK := Lib.hid hK
          clear i0 i1 i2 i3 i4 i5 i6 i7 i8 i10
          go_simp
          obtain ⟨-, -, -, i0, i1, i2, i3, i4, i5, i6, i7, i8, i10, -⟩ := HI.out
          exact hK.out _ _ ⟨qB x0, qB x4, qB x2, qF i0, qF i1, qF i2, qF i3, qF i4, qF i5, qP, qF i7, qF i8, qF i10, hL, hS, B4, Rr⟩
        · refine GSlot.want rfl rfl (by decide) (fun g ac wc hr hI => ?_) ?_
          · obtain ⟨x0, x4, x2, i0, i1, i2, i3, i4, i5, i6, i7, i8, i10, hL, hS, B4, Rr⟩ := hI
            simp [Region.binds] at hr
            exact i3 (by simp [hr])
          unfold SlotStep
          intro g ac wc hn hk hr hI K' hK
          have HI := Lib.hid hI
          obtain ⟨x0, x4, x2, i0, i1, i2, i3, i4, i5, i6, i7, i8, i10, hL, hS, B4, Rr⟩ := hI
          simp [Region.binds] at hr
          replace hK := Lib.hid hK
          have y5 := i5 (by simp [hr])
          have y6 := i6 (by simp [hr])
          clear i0 i1 i2 i3 i4 i5 i6 i7 i8 i10
          go_simp
          obtain ⟨-, -, -, i0, i1, i2, i3, i4, i5, i6, i7, i8, i10, -⟩ := HI.out
          exact hK.out _ _ ⟨qB x0, qB x4, qB x2, qF i0, qF i1, qF i2, qF i3, qF i4, qF i5, qF i6, qP, qF i8, qF i10, hL, hS, B4, Rr⟩
        · refine GSlot.of rfl ?_
          unfold SlotStep
          intro g ac wc hn hk hr hI K' hK
          have HI := Lib.hid hI
          obtain ⟨x0, x4, x2, i0, i1, i2, i3, i4, i5, i6, i7, i8, i10, hL, hS, B4, Rr⟩ := hI
          simp [Region.binds] at hr
          replace hK := Lib.hid hK
          have y3 := i3 (by simp [hr])
          have y7 := i7 (by simp [hr])
          have z3 := sl_get y3 (by omega)
          have z7 := sl_get y7 (by omega)
          clear i0 i1 i2 i3 i4 i5 i6 i7 i8 i10
          go_simp
          obtain ⟨-, -, -, i0, i1, i2, i3, i4, i5, i6, i7, i8, i10, -⟩ := HI.out
          exact hK.out _ _ ⟨qB x0, qB x4, qB x2, qF i0, qF i1, qF i2, qF i3, qF i4, qF i5, qF i6, qF i7, qP, qF i10, hL, hS, B4, Rr⟩
        · refine GSlot.of rfl ?_
          unfold SlotStep
          intro g ac wc hn hk hr hI K' hK
          have HI := Lib.hid hI
          obtain ⟨x0, x4, x2, i0, i1, i2, i3, i4, i5, i6, i7, i8, i10, hL, hS, B4, Rr⟩ := hI
          simp [Region.binds] at hr
          replace hK := Lib.hid hK
          have y0 := i0 (by simp [hr])
          clear i0 i1 i2 i3 i4 i5 i6 i7 i8 i10
          obtain ⟨r0, r1, r2, r3, R1, -⟩ := Rr
          obtain ⟨c0, f0, z0⟩ := blk_at R1
          go_simp
          obtain ⟨-, -, -, i0, i1, i2, i3, i4, i5, i6, i7, i8, i10, -⟩ := HI.out
          exact hK.out undef _ ⟨x0, x4, x2, i0, i1, i2, i3, i4, i5, i6, i7, i8, i10, ((((hL.setCell hRB _).setCell hRB _).setCell hRB _).setCell hRB _), (by simp; omega), (other_set (other_set (other_set (other_set B4 (by omega) _) (by omega) _) (by omega) _) (by omega) _), ⟨_, _, _, _, four_set R1 _ _ _ _, fun _ => ⟨rfl, rfl, rfl, rfl⟩⟩⟩
        · refine GSlot.of rfl ?_
          unfold SlotStep
          intro g ac wc hn hk hr hI K' hK
          have HI := Lib.hid hI
          obtain ⟨x0, x4, x2, i0, i1, i2, i3, i4, i5, i6, i7, i8, i10, hL, hS, B4, Rr⟩ := hI
          simp [Region.binds] at hr
          replace hK := Lib.hid hK
          have y8 := i8 (by simp [hr])
          have z8 := sl_get y8 (by omega)
          clear i0 i1 i2 i3 i4 i5 i6 i7 i8 i10
          go_simp
          obtain ⟨-, -, -, i0, i1, i2, i3, i4, i5, i6, i7, i8, i10, -⟩ := HI.out
          exact hK.out _ _ ⟨qB x0, qB x4, qB x2, qF i0, qF i1, qF i2, qF i3, qF i4, qF i5, qF i6, qF i7, qF i8, qP, hL, hS, B4, Rr⟩
end Go.Proofs.YtgngbdacejghcaaGreatDoor
