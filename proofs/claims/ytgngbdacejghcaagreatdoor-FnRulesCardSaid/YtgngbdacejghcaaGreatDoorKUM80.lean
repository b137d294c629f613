/- DERIVED. Walks: readings: the best figure so far, and what a try makes of it. -/
import Derived.Test.YtgngbdacejghcaaGreatDoorKUP12
import Derived.Test.YtgngbdacejghcaaGreatDoorKUM93
import Derived.Test.YtgngbdacejghcaaGreatDoorKUM34
import Derived.Test.YtgngbdacejghcaaGreatDoorKUM69
import Derived.Test.YtgngbdacejghcaaGreatDoorKUM18
namespace Go.Proofs.YtgngbdacejghcaaGreatDoor
set_option linter.unusedVariables false
set_option linter.unusedSimpArgs false
open Go.RowKit
set_option maxRecDepth 100000
def BestAt (w : World) (kL kB : Nat) (s t : Int) (o : Option Int) : Prop :=
 w.heap[kL]? = some (.cells #[.int .i64 (match o with | none => -1 | some n => aw s t n)] 2 (0, 0)) ∧
 w.heap[kB]? = some (.cells #[.int .i64 (match o with | none => 0 | some n => (atF n).d), .int .i64 (match o with | none => 0 | some n => (atF n).t)] 30 (0, 0))
theorem aw_bd {s t n : Int} (h : -4000000 ≤ t ∧ t ≤ 4000000) : 0 ≤ aw s t n ∧ aw s t n ≤ 14000000 := by
 have := ptF_bd (s := s) (f := atF n) (by simp only [atF]; omega) (by simp only [atF]; omega)
 unfold aw P
 omega
theorem key_at {n m : Int} : keyF (atF n) < keyF (atF m) ↔ n < m := by
 unfold keyF atF
 simp only
 omega
theorem cmp_at {n m : Int} : cmpF (atF n) (atF m) < 0 ↔ n < m := cmpF_lt.trans key_at
theorem upd_none {s t n : Int} : upd s t none n = some n := rfl
theorem upd_lt {s t n b : Int} (h : aw s t n < aw s t b) : upd s t (some b) n = some n := if_pos (.inl h)
theorem upd_eq {s t n b : Int} (h : aw s t n = aw s t b) (h' : n < b) : upd s t (some b) n = some n := if_pos (.inr ⟨h, h'⟩)
theorem upd_ge {s t n b : Int} (h : aw s t n = aw s t b) (h' : ¬ n < b) : upd s t (some b) n = some b := if_neg (by rintro (k | ⟨_, k⟩) <;> omega)
theorem upd_gt {s t n b : Int} (h : aw s t b < aw s t n) : upd s t (some b) n = some b := if_neg (by rintro (k | ⟨k, _⟩) <;> omega)
set_option maxHeartbeats 2000000 in
theorem w_tryNone (s t n : Int) (kS kT kL kB : Nat) (w : World) (s1 : 0 ≤ s) (s2 : s ≤ 4) (n0 : 0 ≤ n) (n1 : n < 9000 * decN s) (t1 : -4000000 ≤ t) (t2 : t ≤ 4000000)
 (hS : w.heap[kS]? = some (.cells #[.int .i64 s] 2 (0, 0))) (hT : w.heap[kT]? = some (.cells #[.int .i64 t] 2 (0, 0))) (hB : BestAt w kL kB s t none) (hne : kL ≠ kB) :
 Calls Tryz.prog 113 #[.agg #[.int .i64 (atF n).d, .int .i64 (atF n).t], .pointer (some ⟨kS, 0, none⟩), .pointer (some ⟨kT, 0, none⟩), .pointer (some ⟨kL, 0, none⟩), .pointer (some ⟨kB, 0, none⟩)] w fun e w' => e = .returned (.tuple #[]) ∧ BestAt w' kL kB s t (upd s t none n) ∧ Ex (Two kL kB) w w' := by
 have hab := aw_bd (s := s) (n := n) ⟨t1, t2⟩
 have hfg := atF_fig n0 n1
 have hpb : -10000000 ≤ P s n ∧ P s n ≤ 10000000 := ptF_bd (s := s) (f := atF n) (by simp only [atF]; omega) (by simp only [atF]; omega)
 obtain ⟨X, hX⟩ : ∃ x, P s n = x := ⟨_, rfl⟩
 obtain ⟨A, hA⟩ : ∃ x, aw s t n = x := ⟨_, rfl⟩
 have HAn := Lib.hid hA
 obtain ⟨⟨d, f⟩, hF⟩ : ∃ x, atF n = x := ⟨_, rfl⟩
 have HFn := Lib.hid hF
 have HX := Lib.hid (show ptF s ⟨d, f⟩ = X from by rw [← hF]; exact hX)
 have HA := Lib.hid (show max (X - t) (t - X) = A from by rw [← hX]; exact hA)
 rw [hA] at hab
 rw [hX] at hpb
 rw [hF] at hfg ⊢
 have HFg := Lib.hid hfg
 obtain ⟨a0, a1⟩ := hab
 obtain ⟨x0, x1⟩ := hpb
 have hd := isFig_true hfg
 simp only at hd
 obtain ⟨d1, d2, f1, f2⟩ := hd
 have HU := Lib.hid (upd_none (s := s) (t := t) (n := n))
 clear hX hA hF hfg
 clear n0 n1
 go_enter Tryz.func113, Tryz.ntmps113
 go_wp2_with fail
 refine wp_name ?_
 intro z hz
 have hLz : Later w z := by rw [hz]; exact (Later.refl _).alloc _
 have hSB := hLz.size
 have K5 : z.heap[w.heap.size]? = some (.cells #[.int .i64 d, .int .i64 f] 30 (0, 0)) := by rw [hz]; exact heap_alloc_new _ _
 have KS := hLz.keep hS
 have KT := hLz.keep hT
 have KL := hLz.keep hB.1
 have KB := hLz.keep hB.2
 clear hz hS hT hB
 refine region_slots 32 [7, 8, 9, 10, 11, 6] (fun g ac wc => sl ac 1 = .pointer (some ⟨kS, 0, none⟩) ∧
  sl ac 2 = .pointer (some ⟨kT, 0, none⟩) ∧
  sl ac 3 = .pointer (some ⟨kL, 0, none⟩) ∧
  sl ac 4 = .pointer (some ⟨kB, 0, none⟩) ∧
  sl ac 5 = .pointer (some ⟨w.heap.size, 0, none⟩) ∧
  (g 0 = true → sl ac 7 = .int .i64 s) ∧
  (g 1 = true → sl ac 8 = .agg #[.int .i64 d, .int .i64 f]) ∧
  (g 2 = true → sl ac 9 = .int .i64 X) ∧
  (g 3 = true → sl ac 10 = .int .i64 t) ∧
  (g 4 = true → sl ac 11 = .int .i64 A) ∧
  (g 5 = true → sl ac 6 = .int .i64 A) ∧
  Later w wc ∧
  z.heap.size ≤ wc.heap.size ∧
  wc.heap[kS]? = some (.cells #[.int .i64 s] 2 (0, 0)) ∧
  wc.heap[kT]? = some (.cells #[.int .i64 t] 2 (0, 0)) ∧
  wc.heap[w.heap.size]? = some (.cells #[.int .i64 d, .int .i64 f] 30 (0, 0)) ∧
  wc.heap[kL]? = some (.cells #[.int .i64 (-1)] 2 (0, 0)) ∧
  wc.heap[kB]? = some (.cells #[.int .i64 0, .int .i64 0] 30 (0, 0))) (by kernel_rfl) (by kernel_rfl) rfl (by kernel_rfl) ?_ ?_ ?_
 · exact ⟨rfl, rfl, rfl, rfl, rfl, nofun, nofun, nofun, nofun, nofun, nofun, hLz.drew, Nat.le_refl _, KS, KT, K5, KL, KB⟩
 · intro g ac wc hg ha hI
   obtain ⟨x1, x2, x3, x4, x5, i0, i1, i2, i3, i4, i5, hL, hS, BS, BT, B5, BL, BB⟩ := hI
   have a0 := i0 (hg 0 (by simp))
   have a1 := i1 (hg 1 (by simp))
   have a2 := i2 (hg 2 (by simp))
   have a3 := i3 (hg 3 (by simp))
   have a4 := i4 (hg 4 (by simp))
   have a5 := i5 (hg 5 (by simp))
   simp only [putAll, a0, a1, a2, a3, a4, a5] at ha
   simp only [Act.put, List.setIfInBounds_toArray, List.set_cons_succ, List.set_cons_zero] at ha
   rw [ha]
   clear x1 x2 x3 x4 x5 i0 i1 i2 i3 i4 i5 a0 a1 a2 a3 a4 a5 hg ha
   have HBL := Lib.hid BL
   have HBB := Lib.hid BB
   have HB5 := Lib.hid B5
   have HLc := Lib.hid hL
   obtain ⟨cL, fL, zL⟩ := blk_at BL
   obtain ⟨cB, fB, zB⟩ := blk_at BB
   obtain ⟨c5, f5, z5⟩ := blk_at B5
   clear BS BT BL BB B5 hL hS
   go_wp2
   first
    | refine bodyPost_ret (results_none rfl _ _ _) rfl ?_
    | go_end0
   refine ⟨rfl, ?_, (((Ex.of HLc.out).trans (Ex.setCell _ _ _ _ (.inr rfl))).trans (Ex.setCell _ _ _ _ (.inr rfl))).trans (Ex.setCell _ _ _ _ (.inl rfl))⟩
   rw [HU.out]
   refine ⟨?_, ?_⟩
   · show (World.heap _)[kL]? = some (.cells #[.int .i64 (aw s t n)] _ _)
     rw [HAn.out]
     exact one_set (other_set (other_set HBL.out hne _) hne _) _
   · show (World.heap _)[kB]? = some (.cells #[.int .i64 (atF n).d, .int .i64 (atF n).t] _ _)
     rw [HFn.out]
     exact other_set (two_set HBB.out _ _) (Ne.symm hne) _
 · refine .cons ?_ (.cons ?_ (.cons ?_ (.cons ?_ (.cons ?_ (.cons ?_ .nil)))))
   · refine qst fun g ac wc hn hk hr HI K' hK => ?_
     obtain ⟨x1, x2, x3, x4, x5, -, -, -, -, -, -, hL, hS, BS, BT, B5, BL, BB⟩ := HI.out
     simp [Region.binds] at hr
     obtain ⟨c0, f0, z0⟩ := blk_at BS
     go_simp
     obtain ⟨-, -, -, -, -, i0, i1, i2, i3, i4, i5, -⟩ := HI.out
     exact hK.out _ _ ⟨qB x1, qB x2, qB x3, qB x4, qB x5, qP, qF i1, qF i2, qF i3, qF i4, qF i5, hL, hS, BS, BT, B5, BL, BB⟩
   · refine qst fun g ac wc hn hk hr HI K' hK => ?_
     obtain ⟨x1, x2, x3, x4, x5, -, -, -, -, -, -, hL, hS, BS, BT, B5, BL, BB⟩ := HI.out
     simp [Region.binds] at hr
     obtain ⟨c0, f0, z0⟩ := blk_at B5
     go_simp
     obtain ⟨-, -, -, -, -, i0, i1, i2, i3, i4, i5, -⟩ := HI.out
     exact hK.out _ _ ⟨qB x1, qB x2, qB x3, qB x4, qB x5, qF i0, qP, qF i2, qF i3, qF i4, qF i5, hL, hS, BS, BT, B5, BL, BB⟩
   · refine qst fun g ac wc hn hk hr HI K' hK => ?_
     obtain ⟨x1, x2, x3, x4, x5, i0, i1, -, -, -, -, hL, hS, BS, BT, B5, BL, BB⟩ := HI.out
     simp [Region.binds] at hr
     have y0 := i0 (by simp [hr])
     have y1 := i1 (by simp [hr])
     clear i0 i1
     go_simp
     refine (w_implPoint _ _ _ s1 s2 d1 d2 (by omega) (by omega) _).mono ?_
     rintro e w4 ⟨rfl, hL4⟩
     rw [HX.out]
     obtain ⟨-, -, -, -, -, i0, i1, i2, i3, i4, i5, -⟩ := HI.out
     exact hK.out _ _ ⟨qB x1, qB x2, qB x3, qB x4, qB x5, qF i0, qF i1, qP, qF i3, qF i4, qF i5, hL.trans hL4, Nat.le_trans hS hL4.size, hL4.keep BS, hL4.keep BT, hL4.keep B5, hL4.keep BL, hL4.keep BB⟩
   · refine qst fun g ac wc hn hk hr HI K' hK => ?_
     obtain ⟨x1, x2, x3, x4, x5, -, -, -, -, -, -, hL, hS, BS, BT, B5, BL, BB⟩ := HI.out
     simp [Region.binds] at hr
     obtain ⟨c0, f0, z0⟩ := blk_at BT
     go_simp
     obtain ⟨-, -, -, -, -, i0, i1, i2, i3, i4, i5, -⟩ := HI.out
     exact hK.out _ _ ⟨qB x1, qB x2, qB x3, qB x4, qB x5, qF i0, qF i1, qF i2, qP, qF i4, qF i5, hL, hS, BS, BT, B5, BL, BB⟩
   · refine qst fun g ac wc hn hk hr HI K' hK => ?_
     obtain ⟨x1, x2, x3, x4, x5, -, -, i2, i3, -, -, hL, hS, BS, BT, B5, BL, BB⟩ := HI.out
     simp [Region.binds] at hr
     have y2 := i2 (by simp [hr])
     have y3 := i3 (by simp [hr])
     clear i2 i3
     go_simp
     refine (w_distance _ _ (by omega) (by omega) (by omega) (by omega) _).mono ?_
     rintro e w4 ⟨rfl, rfl⟩
     rw [HA.out]
     obtain ⟨-, -, -, -, -, i0, i1, i2, i3, i4, i5, -⟩ := HI.out
     exact hK.out _ _ ⟨qB x1, qB x2, qB x3, qB x4, qB x5, qF i0, qF i1, qF i2, qF i3, qP, qF i5, hL, hS, BS, BT, B5, BL, BB⟩
   · refine qst fun g ac wc hn hk hr HI K' hK => ?_
     obtain ⟨x1, x2, x3, x4, x5, -, -, -, -, i4, -, hL, hS, BS, BT, B5, BL, BB⟩ := HI.out
     simp [Region.binds] at hr
     have y4 := i4 (by simp [hr])
     clear i4
     go_simp
     obtain ⟨-, -, -, -, -, i0, i1, i2, i3, i4, i5, -⟩ := HI.out
     exact hK.out _ _ ⟨qB x1, qB x2, qB x3, qB x4, qB x5, qF i0, qF i1, qF i2, qF i3, qF i4, qP, hL, hS, BS, BT, B5, BL, BB⟩
set_option maxHeartbeats 4000000 in
theorem w_trySome (s t n b : Int) (kS kT kL kB : Nat) (w : World) (s1 : 0 ≤ s) (s2 : s ≤ 4) (n0 : 0 ≤ n) (n1 : n < 9000 * decN s) (t1 : -4000000 ≤ t) (t2 : t ≤ 4000000)
 (hS : w.heap[kS]? = some (.cells #[.int .i64 s] 2 (0, 0))) (hT : w.heap[kT]? = some (.cells #[.int .i64 t] 2 (0, 0))) (hB : BestAt w kL kB s t (some b)) (b0 : 0 ≤ b) (b1 : b < 9000 * decN s) (hne : kL ≠ kB) :
 Calls Tryz.prog 113 #[.agg #[.int .i64 (atF n).d, .int .i64 (atF n).t], .pointer (some ⟨kS, 0, none⟩), .pointer (some ⟨kT, 0, none⟩), .pointer (some ⟨kL, 0, none⟩), .pointer (some ⟨kB, 0, none⟩)] w fun e w' => e = .returned (.tuple #[]) ∧ BestAt w' kL kB s t (upd s t (some b) n) ∧ Ex (Two kL kB) w w' := by
 have hbb := aw_bd (s := s) (n := b) ⟨t1, t2⟩
 have hfgb := atF_fig b0 b1
 have hcmp := cmp_at (n := n) (m := b)
 have hu1 := upd_lt (s := s) (t := t) (n := n) (b := b)
 have hu2 := upd_eq (s := s) (t := t) (n := n) (b := b)
 have hu3 := upd_ge (s := s) (t := t) (n := n) (b := b)
 have hu4 := upd_gt (s := s) (t := t) (n := n) (b := b)
 obtain ⟨L0, hL0⟩ : ∃ x, aw s t b = x := ⟨_, rfl⟩
 have HAb := Lib.hid hL0
 obtain ⟨⟨bd, bf⟩, hFb⟩ : ∃ x, atF b = x := ⟨_, rfl⟩
 have HFb := Lib.hid hFb
 have hB : w.heap[kL]? = some (.cells #[.int .i64 L0] 2 (0, 0)) ∧ w.heap[kB]? = some (.cells #[.int .i64 bd, .int .i64 bf] 30 (0, 0)) := by
  have h := hB
  unfold BestAt at h
  simp only [hL0, hFb] at h
  exact h
 rw [hL0] at hbb hu1 hu2 hu3 hu4
 rw [hFb] at hfgb hcmp
 have HFgb := Lib.hid hfgb
 obtain ⟨l0, l1⟩ := hbb
 have hab := aw_bd (s := s) (n := n) ⟨t1, t2⟩
 have hfg := atF_fig n0 n1
 have hpb : -10000000 ≤ P s n ∧ P s n ≤ 10000000 := ptF_bd (s := s) (f := atF n) (by simp only [atF]; omega) (by simp only [atF]; omega)
 obtain ⟨X, hX⟩ : ∃ x, P s n = x := ⟨_, rfl⟩
 obtain ⟨A, hA⟩ : ∃ x, aw s t n = x := ⟨_, rfl⟩
 have HAn := Lib.hid hA
 obtain ⟨⟨d, f⟩, hF⟩ : ∃ x, atF n = x := ⟨_, rfl⟩
 have HFn := Lib.hid hF
 have HX := Lib.hid (show ptF s ⟨d, f⟩ = X from by rw [← hF]; exact hX)
 have HA := Lib.hid (show max (X - t) (t - X) = A from by rw [← hX]; exact hA)
 rw [hA] at hab
 rw [hX] at hpb
 rw [hF] at hfg hcmp ⊢
 rw [hA] at hu1 hu2 hu3 hu4
 have HFg := Lib.hid hfg
 obtain ⟨a0, a1⟩ := hab
 obtain ⟨x0, x1⟩ := hpb
 have hd := isFig_true hfg
 simp only at hd
 obtain ⟨d1, d2, f1, f2⟩ := hd
 obtain ⟨C, hC⟩ : ∃ x, cmpF ⟨d, f⟩ ⟨bd, bf⟩ = x := ⟨_, rfl⟩
 rw [hC] at hcmp
 have HC := Lib.hid hC
 clear hX hA hF hfg hL0 hFb hfgb hC
 clear n0 n1 b0 b1
 rcases Int.lt_trichotomy A L0 with hlt | heq | hgt
 · have HU := Lib.hid (hu1 hlt)
   clear hu1 hu2 hu3 hu4 hcmp
   go_enter Tryz.func113, Tryz.ntmps113
   go_wp2_with fail
   refine wp_name ?_
   intro z hz
   have hLz : Later w z := by rw [hz]; exact (Later.refl _).alloc _
   have hSB := hLz.size
   have K5 : z.heap[w.heap.size]? = some (.cells #[.int .i64 d, .int .i64 f] 30 (0, 0)) := by rw [hz]; exact heap_alloc_new _ _
   have KS := hLz.keep hS
   have KT := hLz.keep hT
   have KL := hLz.keep hB.1
   have KB := hLz.keep hB.2
   clear hz hS hT hB
   refine region_slots 32 [7, 8, 9, 10, 11, 6] (fun g ac wc => sl ac 1 = .pointer (some ⟨kS, 0, none⟩) ∧
    sl ac 2 = .pointer (some ⟨kT, 0, none⟩) ∧
    sl ac 3 = .pointer (some ⟨kL, 0, none⟩) ∧
    sl ac 4 = .pointer (some ⟨kB, 0, none⟩) ∧
    sl ac 5 = .pointer (some ⟨w.heap.size, 0, none⟩) ∧
    (g 0 = true → sl ac 7 = .int .i64 s) ∧
    (g 1 = true → sl ac 8 = .agg #[.int .i64 d, .int .i64 f]) ∧
    (g 2 = true → sl ac 9 = .int .i64 X) ∧
    (g 3 = true → sl ac 10 = .int .i64 t) ∧
    (g 4 = true → sl ac 11 = .int .i64 A) ∧
    (g 5 = true → sl ac 6 = .int .i64 A) ∧
    Later w wc ∧
    z.heap.size ≤ wc.heap.size ∧
    wc.heap[kS]? = some (.cells #[.int .i64 s] 2 (0, 0)) ∧
    wc.heap[kT]? = some (.cells #[.int .i64 t] 2 (0, 0)) ∧
    wc.heap[w.heap.size]? = some (.cells #[.int .i64 d, .int .i64 f] 30 (0, 0)) ∧
    wc.heap[kL]? = some (.cells #[.int .i64 L0] 2 (0, 0)) ∧
    wc.heap[kB]? = some (.cells #[.int .i64 bd, .int .i64 bf] 30 (0, 0))) (by kernel_rfl) (by kernel_rfl) rfl (by kernel_rfl) ?_ ?_ ?_
   · exact ⟨rfl, rfl, rfl, rfl, rfl, nofun, nofun, nofun, nofun, nofun, nofun, hLz.drew, Nat.le_refl _, KS, KT, K5, KL, KB⟩
   · intro g ac wc hg ha hI
     obtain ⟨x1, x2, x3, x4, x5, i0, i1, i2, i3, i4, i5, hL, hS, BS, BT, B5, BL, BB⟩ := hI
     have a0 := i0 (hg 0 (by simp))
     have a1 := i1 (hg 1 (by simp))
     have a2 := i2 (hg 2 (by simp))
     have a3 := i3 (hg 3 (by simp))
     have a4 := i4 (hg 4 (by simp))
     have a5 := i5 (hg 5 (by simp))
     simp only [putAll, a0, a1, a2, a3, a4, a5] at ha
     simp only [Act.put, List.setIfInBounds_toArray, List.set_cons_succ, List.set_cons_zero] at ha
     rw [ha]
     clear x1 x2 x3 x4 x5 i0 i1 i2 i3 i4 i5 a0 a1 a2 a3 a4 a5 hg ha
     have HBL := Lib.hid BL
     have HBB := Lib.hid BB
     have HB5 := Lib.hid B5
     have HLc := Lib.hid hL
     obtain ⟨cL, fL, zL⟩ := blk_at BL
     obtain ⟨cB, fB, zB⟩ := blk_at BB
     obtain ⟨c5, f5, z5⟩ := blk_at B5
     clear BS BT BL BB B5 hL hS
     go_wp2
     first
      | refine bodyPost_ret (results_none rfl _ _ _) rfl ?_
      | go_end0
     refine ⟨rfl, ?_, (((Ex.of HLc.out).trans (Ex.setCell _ _ _ _ (.inr rfl))).trans (Ex.setCell _ _ _ _ (.inr rfl))).trans (Ex.setCell _ _ _ _ (.inl rfl))⟩
     rw [HU.out]
     refine ⟨?_, ?_⟩
     · show (World.heap _)[kL]? = some (.cells #[.int .i64 (aw s t n)] _ _)
       rw [HAn.out]
       exact one_set (other_set (other_set HBL.out hne _) hne _) _
     · show (World.heap _)[kB]? = some (.cells #[.int .i64 (atF n).d, .int .i64 (atF n).t] _ _)
       rw [HFn.out]
       exact other_set (two_set HBB.out _ _) (Ne.symm hne) _
   · refine .cons ?_ (.cons ?_ (.cons ?_ (.cons ?_ (.cons ?_ (.cons ?_ .nil)))))
     · refine qst fun g ac wc hn hk hr HI K' hK => ?_
       obtain ⟨x1, x2, x3, x4, x5, -, -, -, -, -, -, hL, hS, BS, BT, B5, BL, BB⟩ := HI.out
       simp [Region.binds] at hr
       obtain ⟨c0, f0, z0⟩ := blk_at BS
       go_simp
       obtain ⟨-, -, -, -, -, i0, i1, i2, i3, i4, i5, -⟩ := HI.out
       exact hK.out _ _ ⟨qB x1, qB x2, qB x3, qB x4, qB x5, qP, qF i1, qF i2, qF i3, qF i4, qF i5, hL, hS, BS, BT, B5, BL, BB⟩
     · refine qst fun g ac wc hn hk hr HI K' hK => ?_
       obtain ⟨x1, x2, x3, x4, x5, -, -, -, -, -, -, hL, hS, BS, BT, B5, BL, BB⟩ := HI.out
       simp [Region.binds] at hr
       obtain ⟨c0, f0, z0⟩ := blk_at B5
       go_simp
       obtain ⟨-, -, -, -, -, i0, i1, i2, i3, i4, i5, -⟩ := HI.out
       exact hK.out _ _ ⟨qB x1, qB x2, qB x3, qB x4, qB x5, qF i0, qP, qF i2, qF i3, qF i4, qF i5, hL, hS, BS, BT, B5, BL, BB⟩
     · refine qst fun g ac wc hn hk hr HI K' hK => ?_
       obtain ⟨x1, x2, x3, x4, x5, i0, i1, -, -, -, -, hL, hS, BS, BT, B5, BL, BB⟩ := HI.out
       simp [Region.binds] at hr
       have y0 := i0 (by simp [hr])
       have y1 := i1 (by simp [hr])
       clear i0 i1
       go_simp
       refine (w_implPoint _ _ _ s1 s2 d1 d2 (by omega) (by omega) _).mono ?_
       rintro e w4 ⟨rfl, hL4⟩
       rw [HX.out]
       obtain ⟨-, -, -, -, -, i0, i1, i2, i3, i4, i5, -⟩ := HI.out
       exact hK.out _ _ ⟨qB x1, qB x2, qB x3, qB x4, qB x5, qF i0, qF i1, qP, qF i3, qF i4, qF i5, hL.trans hL4, Nat.le_trans hS hL4.size, hL4.keep BS, hL4.keep BT, hL4.keep B5, hL4.keep BL, hL4.keep BB⟩
     · refine qst fun g ac wc hn hk hr HI K' hK => ?_
       obtain ⟨x1, x2, x3, x4, x5, -, -, -, -, -, -, hL, hS, BS, BT, B5, BL, BB⟩ := HI.out
       simp [Region.binds] at hr
       obtain ⟨c0, f0, z0⟩ := blk_at BT
       go_simp
       obtain ⟨-, -, -, -, -, i0, i1, i2, i3, i4, i5, -⟩ := HI.out
       exact hK.out _ _ ⟨qB x1, qB x2, qB x3, qB x4, qB x5, qF i0, qF i1, qF i2, qP, qF i4, qF i5, hL, hS, BS, BT, B5, BL, BB⟩
     · refine qst fun g ac wc hn hk hr HI K' hK => ?_
       obtain ⟨x1, x2, x3, x4, x5, -, -, i2, i3, -, -, hL, hS, BS, BT, B5, BL, BB⟩ := HI.out
       simp [Region.binds] at hr
       have y2 := i2 (by simp [hr])
       have y3 := i3 (by simp [hr])
       clear i2 i3
       go_simp
       refine (w_distance _ _ (by omega) (by omega) (by omega) (by omega) _).mono ?_
       rintro e w4 ⟨rfl, rfl⟩
       rw [HA.out]
       obtain ⟨-, -, -, -, -, i0, i1, i2, i3, i4, i5, -⟩ := HI.out
       exact hK.out _ _ ⟨qB x1, qB x2, qB x3, qB x4, qB x5, qF i0, qF i1, qF i2, qF i3, qP, qF i5, hL, hS, BS, BT, B5, BL, BB⟩
     · refine qst fun g ac wc hn hk hr HI K' hK => ?_
       obtain ⟨x1, x2, x3, x4, x5, -, -, -, -, i4, -, hL, hS, BS, BT, B5, BL, BB⟩ := HI.out
       simp [Region.binds] at hr
       have y4 := i4 (by simp [hr])
       clear i4
       go_simp
       obtain ⟨-, -, -, -, -, i0, i1, i2, i3, i4, i5, -⟩ := HI.out
       exact hK.out _ _ ⟨qB x1, qB x2, qB x3, qB x4, qB x5, qF i0, qF i1, qF i2, qF i3, qF i4, qP, hL, hS, BS, BT, B5, BL, BB⟩
 · by_cases hnb : n < b
   · have HU := Lib.hid (hu2 heq hnb)
     have hc := hcmp.2 hnb
     subst heq
     clear hu1 hu2 hu3 hu4 hcmp hnb
     go_enter Tryz.func113, Tryz.ntmps113
     go_wp2_with fail
     refine wp_name ?_
     intro z hz
     have hLz : Later w z := by rw [hz]; exact (Later.refl _).alloc _
     have hSB := hLz.size
     have K5 : z.heap[w.heap.size]? = some (.cells #[.int .i64 d, .int .i64 f] 30 (0, 0)) := by rw [hz]; exact heap_alloc_new _ _
     have KS := hLz.keep hS
     have KT := hLz.keep hT
     have KL := hLz.keep hB.1
     have KB := hLz.keep hB.2
     clear hz hS hT hB
     refine region_slots 32 [7, 8, 9, 10, 11, 6] (fun g ac wc => sl ac 1 = .pointer (some ⟨kS, 0, none⟩) ∧
      sl ac 2 = .pointer (some ⟨kT, 0, none⟩) ∧
      sl ac 3 = .pointer (some ⟨kL, 0, none⟩) ∧
      sl ac 4 = .pointer (some ⟨kB, 0, none⟩) ∧
      sl ac 5 = .pointer (some ⟨w.heap.size, 0, none⟩) ∧
      (g 0 = true → sl ac 7 = .int .i64 s) ∧
      (g 1 = true → sl ac 8 = .agg #[.int .i64 d, .int .i64 f]) ∧
      (g 2 = true → sl ac 9 = .int .i64 X) ∧
      (g 3 = true → sl ac 10 = .int .i64 t) ∧
      (g 4 = true → sl ac 11 = .int .i64 A) ∧
      (g 5 = true → sl ac 6 = .int .i64 A) ∧
      Later w wc ∧
      z.heap.size ≤ wc.heap.size ∧
      wc.heap[kS]? = some (.cells #[.int .i64 s] 2 (0, 0)) ∧
      wc.heap[kT]? = some (.cells #[.int .i64 t] 2 (0, 0)) ∧
      wc.heap[w.heap.size]? = some (.cells #[.int .i64 d, .int .i64 f] 30 (0, 0)) ∧
      wc.heap[kL]? = some (.cells #[.int .i64 A] 2 (0, 0)) ∧
      wc.heap[kB]? = some (.cells #[.int .i64 bd, .int .i64 bf] 30 (0, 0))) (by kernel_rfl) (by kernel_rfl) rfl (by kernel_rfl) ?_ ?_ ?_
     · exact ⟨rfl, rfl, rfl, rfl, rfl, nofun, nofun, nofun, nofun, nofun, nofun, hLz.drew, Nat.le_refl _, KS, KT, K5, KL, KB⟩
     · intro g ac wc hg ha hI
       obtain ⟨x1, x2, x3, x4, x5, i0, i1, i2, i3, i4, i5, hL, hS, BS, BT, B5, BL, BB⟩ := hI
       have a0 := i0 (hg 0 (by simp))
       have a1 := i1 (hg 1 (by simp))
       have a2 := i2 (hg 2 (by simp))
       have a3 := i3 (hg 3 (by simp))
       have a4 := i4 (hg 4 (by simp))
       have a5 := i5 (hg 5 (by simp))
       simp only [putAll, a0, a1, a2, a3, a4, a5] at ha
       simp only [Act.put, List.setIfInBounds_toArray, List.set_cons_succ, List.set_cons_zero] at ha
       rw [ha]
       clear x1 x2 x3 x4 x5 i0 i1 i2 i3 i4 i5 a0 a1 a2 a3 a4 a5 hg ha
       have HBL := Lib.hid BL
       have HBB := Lib.hid BB
       have HB5 := Lib.hid B5
       have HLc := Lib.hid hL
       obtain ⟨cL, fL, zL⟩ := blk_at BL
       obtain ⟨cB, fB, zB⟩ := blk_at BB
       obtain ⟨c5, f5, z5⟩ := blk_at B5
       clear BS BT BL BB B5 hL hS
       go_wp2_with fail
       refine (w_compareFigures _ _ _ _ HFg.out HFgb.out _).mono ?_
       rintro e w4 ⟨rfl, hL4⟩
       rw [HC.out]
       have HL4 := Lib.hid hL4
       clear cL fL zL cB fB zB c5 f5 z5 hL4
       obtain ⟨cL, fL, zL⟩ := blk_at (HL4.out.keep HBL.out)
       obtain ⟨cB, fB, zB⟩ := blk_at (HL4.out.keep HBB.out)
       obtain ⟨c5, f5, z5⟩ := blk_at (HL4.out.keep HB5.out)
       go_wp2
       first
        | refine bodyPost_ret (results_none rfl _ _ _) rfl ?_
        | go_end0
       refine ⟨rfl, ?_, (((Ex.of (HLc.out.trans HL4.out)).trans (Ex.setCell _ _ _ _ (.inr rfl))).trans (Ex.setCell _ _ _ _ (.inr rfl))).trans (Ex.setCell _ _ _ _ (.inl rfl))⟩
       rw [HU.out]
       refine ⟨?_, ?_⟩
       · show (World.heap _)[kL]? = some (.cells #[.int .i64 (aw s t n)] _ _)
         rw [HAn.out]
         exact one_set (other_set (other_set (HL4.out.keep HBL.out) hne _) hne _) _
       · show (World.heap _)[kB]? = some (.cells #[.int .i64 (atF n).d, .int .i64 (atF n).t] _ _)
         rw [HFn.out]
         exact other_set (two_set (HL4.out.keep HBB.out) _ _) (Ne.symm hne) _
     · refine .cons ?_ (.cons ?_ (.cons ?_ (.cons ?_ (.cons ?_ (.cons ?_ .nil)))))
       · refine qst fun g ac wc hn hk hr HI K' hK => ?_
         obtain ⟨x1, x2, x3, x4, x5, -, -, -, -, -, -, hL, hS, BS, BT, B5, BL, BB⟩ := HI.out
         simp [Region.binds] at hr
         obtain ⟨c0, f0, z0⟩ := blk_at BS
         go_simp
         obtain ⟨-, -, -, -, -, i0, i1, i2, i3, i4, i5, -⟩ := HI.out
         exact hK.out _ _ ⟨qB x1, qB x2, qB x3, qB x4, qB x5, qP, qF i1, qF i2, qF i3, qF i4, qF i5, hL, hS, BS, BT, B5, BL, BB⟩
       · refine qst fun g ac wc hn hk hr HI K' hK => ?_
         obtain ⟨x1, x2, x3, x4, x5, -, -, -, -, -, -, hL, hS, BS, BT, B5, BL, BB⟩ := HI.out
         simp [Region.binds] at hr
         obtain ⟨c0, f0, z0⟩ := blk_at B5
         go_simp
         obtain ⟨-, -, -, -, -, i0, i1, i2, i3, i4, i5, -⟩ := HI.out
         exact hK.out _ _ ⟨qB x1, qB x2, qB x3, qB x4, qB x5, qF i0, qP, qF i2, qF i3, qF i4, qF i5, hL, hS, BS, BT, B5, BL, BB⟩
       · refine qst fun g ac wc hn hk hr HI K' hK => ?_
         obtain ⟨x1, x2, x3, x4, x5, i0, i1, -, -, -, -, hL, hS, BS, BT, B5, BL, BB⟩ := HI.out
         simp [Region.binds] at hr
         have y0 := i0 (by simp [hr])
         have y1 := i1 (by simp [hr])
         clear i0 i1
         go_simp
         refine (w_implPoint _ _ _ s1 s2 d1 d2 (by omega) (by omega) _).mono ?_
         rintro e w4 ⟨rfl, hL4⟩
         rw [HX.out]
         obtain ⟨-, -, -, -, -, i0, i1, i2, i3, i4, i5, -⟩ := HI.out
         exact hK.out _ _ ⟨qB x1, qB x2, qB x3, qB x4, qB x5, qF i0, qF i1, qP, qF i3, qF i4, qF i5, hL.trans hL4, Nat.le_trans hS hL4.size, hL4.keep BS, hL4.keep BT, hL4.keep B5, hL4.keep BL, hL4.keep BB⟩
       · refine qst fun g ac wc hn hk hr HI K' hK => ?_
         obtain ⟨x1, x2, x3, x4, x5, -, -, -, -, -, -, hL, hS, BS, BT, B5, BL, BB⟩ := HI.out
         simp [Region.binds] at hr
         obtain ⟨c0, f0, z0⟩ := blk_at BT
         go_simp
         obtain ⟨-, -, -, -, -, i0, i1, i2, i3, i4, i5, -⟩ := HI.out
         exact hK.out _ _ ⟨qB x1, qB x2, qB x3, qB x4, qB x5, qF i0, qF i1, qF i2, qP, qF i4, qF i5, hL, hS, BS, BT, B5, BL, BB⟩
       · refine qst fun g ac wc hn hk hr HI K' hK => ?_
         obtain ⟨x1, x2, x3, x4, x5, -, -, i2, i3, -, -, hL, hS, BS, BT, B5, BL, BB⟩ := HI.out
         simp [Region.binds] at hr
         have y2 := i2 (by simp [hr])
         have y3 := i3 (by simp [hr])
         clear i2 i3
         go_simp
         refine (w_distance _ _ (by omega) (by omega) (by omega) (by omega) _).mono ?_
         rintro e w4 ⟨rfl, rfl⟩
         rw [HA.out]
         obtain ⟨-, -, -, -, -, i0, i1, i2, i3, i4, i5, -⟩ := HI.out
         exact hK.out _ _ ⟨qB x1, qB x2, qB x3, qB x4, qB x5, qF i0, qF i1, qF i2, qF i3, qP, qF i5, hL, hS, BS, BT, B5, BL, BB⟩
       · refine qst fun g ac wc hn hk hr HI K' hK => ?_
         obtain ⟨x1, x2, x3, x4, x5, -, -, -, -, i4, -, hL, hS, BS, BT, B5, BL, BB⟩ := HI.out
         simp [Region.binds] at hr
         have y4 := i4 (by simp [hr])
         clear i4
         go_simp
         obtain ⟨-, -, -, -, -, i0, i1, i2, i3, i4, i5, -⟩ := HI.out
         exact hK.out _ _ ⟨qB x1, qB x2, qB x3, qB x4, qB x5, qF i0, qF i1, qF i2, qF i3, qF i4, qP, hL, hS, BS, BT, B5, BL, BB⟩
   · have HU := Lib.hid (hu3 heq hnb)
     have hc : ¬ C < 0 := fun h => hnb (hcmp.1 h)
     subst heq
     clear hu1 hu2 hu3 hu4 hcmp hnb
     go_enter Tryz.func113, Tryz.ntmps113
     go_wp2_with fail
     refine wp_name ?_
     intro z hz
     have hLz : Later w z := by rw [hz]; exact (Later.refl _).alloc _
     have hSB := hLz.size
     have K5 : z.heap[w.heap.size]? = some (.cells #[.int .i64 d, .int .i64 f] 30 (0, 0)) := by rw [hz]; exact heap_alloc_new _ _
     have KS := hLz.keep hS
     have KT := hLz.keep hT
     have KL := hLz.keep hB.1
     have KB := hLz.keep hB.2
     clear hz hS hT hB
     refine region_slots 32 [7, 8, 9, 10, 11, 6] (fun g ac wc => sl ac 1 = .pointer (some ⟨kS, 0, none⟩) ∧
      sl ac 2 = .pointer (some ⟨kT, 0, none⟩) ∧
      sl ac 3 = .pointer (some ⟨kL, 0, none⟩) ∧
      sl ac 4 = .pointer (some ⟨kB, 0, none⟩) ∧
      sl ac 5 = .pointer (some ⟨w.heap.size, 0, none⟩) ∧
      (g 0 = true → sl ac 7 = .int .i64 s) ∧
      (g 1 = true → sl ac 8 = .agg #[.int .i64 d, .int .i64 f]) ∧
      (g 2 = true → sl ac 9 = .int .i64 X) ∧
      (g 3 = true → sl ac 10 = .int .i64 t) ∧
      (g 4 = true → sl ac 11 = .int .i64 A) ∧
      (g 5 = true → sl ac 6 = .int .i64 A) ∧
      Later w wc ∧
      z.heap.size ≤ wc.heap.size ∧
      wc.heap[kS]? = some (.cells #[.int .i64 s] 2 (0, 0)) ∧
      wc.heap[kT]? = some (.cells #[.int .i64 t] 2 (0, 0)) ∧
      wc.heap[w.heap.size]? = some (.cells #[.int .i64 d, .int .i64 f] 30 (0, 0)) ∧
      wc.heap[kL]? = some (.cells #[.int .i64 A] 2 (0, 0)) ∧
      wc.heap[kB]? = some (.cells #[.int .i64 bd, .int .i64 bf] 30 (0, 0))) (by kernel_rfl) (by kernel_rfl) rfl (by kernel_rfl) ?_ ?_ ?_
     · exact ⟨rfl, rfl, rfl, rfl, rfl, nofun, nofun, nofun, nofun, nofun, nofun, hLz.drew, Nat.le_refl _, KS, KT, K5, KL, KB⟩
     · intro g ac wc hg ha hI
       obtain ⟨x1, x2, x3, x4, x5, i0, i1, i2, i3, i4, i5, hL, hS, BS, BT, B5, BL, BB⟩ := hI
       have a0 := i0 (hg 0 (by simp))
       have a1 := i1 (hg 1 (by simp))
       have a2 := i2 (hg 2 (by simp))
       have a3 := i3 (hg 3 (by simp))
       have a4 := i4 (hg 4 (by simp))
       have a5 := i5 (hg 5 (by simp))
       simp only [putAll, a0, a1, a2, a3, a4, a5] at ha
       simp only [Act.put, List.setIfInBounds_toArray, List.set_cons_succ, List.set_cons_zero] at ha
       rw [ha]
       clear x1 x2 x3 x4 x5 i0 i1 i2 i3 i4 i5 a0 a1 a2 a3 a4 a5 hg ha
       have HBL := Lib.hid BL
       have HBB := Lib.hid BB
       have HB5 := Lib.hid B5
       have HLc := Lib.hid hL
       obtain ⟨cL, fL, zL⟩ := blk_at BL
       obtain ⟨cB, fB, zB⟩ := blk_at BB
       obtain ⟨c5, f5, z5⟩ := blk_at B5
       clear BS BT BL BB B5 hL hS
       go_wp2_with fail
       refine (w_compareFigures _ _ _ _ HFg.out HFgb.out _).mono ?_
       rintro e w4 ⟨rfl, hL4⟩
       rw [HC.out]
       have HL4 := Lib.hid hL4
       clear cL fL zL cB fB zB c5 f5 z5 hL4
       obtain ⟨cL, fL, zL⟩ := blk_at (HL4.out.keep HBL.out)
       obtain ⟨cB, fB, zB⟩ := blk_at (HL4.out.keep HBB.out)
       obtain ⟨c5, f5, z5⟩ := blk_at (HL4.out.keep HB5.out)
       go_wp2
       first
        | refine bodyPost_ret (results_none rfl _ _ _) rfl ?_
        | go_end0
       refine ⟨rfl, ?_, Ex.of (HLc.out.trans HL4.out)⟩
       rw [HU.out]
       refine ⟨?_, ?_⟩
       · show (World.heap _)[kL]? = some (.cells #[.int .i64 (aw s t b)] _ _)
         rw [HAb.out]
         exact (HL4.out.keep HBL.out)
       · show (World.heap _)[kB]? = some (.cells #[.int .i64 (atF b).d, .int .i64 (atF b).t] _ _)
         rw [HFb.out]
         exact (HL4.out.keep HBB.out)
     · refine .cons ?_ (.cons ?_ (.cons ?_ (.cons ?_ (.cons ?_ (.cons ?_ .nil)))))
       · refine qst fun g ac wc hn hk hr HI K' hK => ?_
         obtain ⟨x1, x2, x3, x4, x5, -, -, -, -, -, -, hL, hS, BS, BT, B5, BL, BB⟩ := HI.out
         simp [Region.binds] at hr
         obtain ⟨c0, f0, z0⟩ := blk_at BS
         go_simp
         obtain ⟨-, -, -, -, -, i0, i1, i2, i3, i4, i5, -⟩ := HI.out
         exact hK.out _ _ ⟨qB x1, qB x2, qB x3, qB x4, qB x5, qP, qF i1, qF i2, qF i3, qF i4, qF i5, hL, hS, BS, BT, B5, BL, BB⟩
       · refine qst fun g ac wc hn hk hr HI K' hK => ?_
         obtain ⟨x1, x2, x3, x4, x5, -, -, -, -, -, -, hL, hS, BS, BT, B5, BL, BB⟩ := HI.out
         simp [Region.binds] at hr
         obtain ⟨c0, f0, z0⟩ := blk_at B5
         go_simp
         obtain ⟨-, -, -, -, -, i0, i1, i2, i3, i4, i5, -⟩ := HI.out
         exact hK.out _ _ ⟨qB x1, qB x2, qB x3, qB x4, qB x5, qF i0, qP, qF i2, qF i3, qF i4, qF i5, hL, hS, BS, BT, B5, BL, BB⟩
       · refine qst fun g ac wc hn hk hr HI K' hK => ?_
         obtain ⟨x1, x2, x3, x4, x5, i0, i1, -, -, -, -, hL, hS, BS, BT, B5, BL, BB⟩ := HI.out
         simp [Region.binds] at hr
         have y0 := i0 (by simp [hr])
         have y1 := i1 (by simp [hr])
         clear i0 i1
         go_simp
         refine (w_implPoint _ _ _ s1 s2 d1 d2 (by omega) (by omega) _).mono ?_
         rintro e w4 ⟨rfl, hL4⟩
         rw [HX.out]
         obtain ⟨-, -, -, -, -, i0, i1, i2, i3, i4, i5, -⟩ := HI.out
         exact hK.out _ _ ⟨qB x1, qB x2, qB x3, qB x4, qB x5, qF i0, qF i1, qP, qF i3, qF i4, qF i5, hL.trans hL4, Nat.le_trans hS hL4.size, hL4.keep BS, hL4.keep BT, hL4.keep B5, hL4.keep BL, hL4.keep BB⟩
       · refine qst fun g ac wc hn hk hr HI K' hK => ?_
         obtain ⟨x1, x2, x3, x4, x5, -, -, -, -, -, -, hL, hS, BS, BT, B5, BL, BB⟩ := HI.out
         simp [Region.binds] at hr
         obtain ⟨c0, f0, z0⟩ := blk_at BT
         go_simp
         obtain ⟨-, -, -, -, -, i0, i1, i2, i3, i4, i5, -⟩ := HI.out
         exact hK.out _ _ ⟨qB x1, qB x2, qB x3, qB x4, qB x5, qF i0, qF i1, qF i2, qP, qF i4, qF i5, hL, hS, BS, BT, B5, BL, BB⟩
       · refine qst fun g ac wc hn hk hr HI K' hK => ?_
         obtain ⟨x1, x2, x3, x4, x5, -, -, i2, i3, -, -, hL, hS, BS, BT, B5, BL, BB⟩ := HI.out
         simp [Region.binds] at hr
         have y2 := i2 (by simp [hr])
         have y3 := i3 (by simp [hr])
         clear i2 i3
         go_simp
         refine (w_distance _ _ (by omega) (by omega) (by omega) (by omega) _).mono ?_
         rintro e w4 ⟨rfl, rfl⟩
         rw [HA.out]
         obtain ⟨-, -, -, -, -, i0, i1, i2, i3, i4, i5, -⟩ := HI.out
         exact hK.out _ _ ⟨qB x1, qB x2, qB x3, qB x4, qB x5, qF i0, qF i1, qF i2, qF i3, qP, qF i5, hL, hS, BS, BT, B5, BL, BB⟩
       · refine qst fun g ac wc hn hk hr HI K' hK => ?_
         obtain ⟨x1, x2, x3, x4, x5, -, -, -, -, i4, -, hL, hS, BS, BT, B5, BL, BB⟩ := HI.out
         simp [Region.binds] at hr
         have y4 := i4 (by simp [hr])
         clear i4
         go_simp
         obtain ⟨-, -, -, -, -, i0, i1, i2, i3, i4, i5, -⟩ := HI.out
         exact hK.out _ _ ⟨qB x1, qB x2, qB x3, qB x4, qB x5, qF i0, qF i1, qF i2, qF i3, qF i4, qP, hL, hS, BS, BT, B5, BL, BB⟩
 · have HU := Lib.hid (hu4 hgt)
   clear hu1 hu2 hu3 hu4 hcmp
   go_enter Tryz.func113, Tryz.ntmps113
   go_wp2_with fail
   refine wp_name ?_
   intro z hz
   have hLz : Later w z := by rw [hz]; exact (Later.refl _).alloc _
   have hSB := hLz.size
   have K5 : z.heap[w.heap.size]? = some (.cells #[.int .i64 d, .int .i64 f] 30 (0, 0)) := by rw [hz]; exact heap_alloc_new _ _
   have KS := hLz.keep hS
   have KT := hLz.keep hT
   have KL := hLz.keep hB.1
   have KB := hLz.keep hB.2
   clear hz hS hT hB
   refine region_slots 32 [7, 8, 9, 10, 11, 6] (fun g ac wc => sl ac 1 = .pointer (some ⟨kS, 0, none⟩) ∧
    sl ac 2 = .pointer (some ⟨kT, 0, none⟩) ∧
    sl ac 3 = .pointer (some ⟨kL, 0, none⟩) ∧
    sl ac 4 = .pointer (some ⟨kB, 0, none⟩) ∧
    sl ac 5 = .pointer (some ⟨w.heap.size, 0, none⟩) ∧
    (g 0 = true → sl ac 7 = .int .i64 s) ∧
    (g 1 = true → sl ac 8 = .agg #[.int .i64 d, .int .i64 f]) ∧
    (g 2 = true → sl ac 9 = .int .i64 X) ∧
    (g 3 = true → sl ac 10 = .int .i64 t) ∧
    (g 4 = true → sl ac 11 = .int .i64 A) ∧
    (g 5 = true → sl ac 6 = .int .i64 A) ∧
    Later w wc ∧
    z.heap.size ≤ wc.heap.size ∧
    wc.heap[kS]? = some (.cells #[.int .i64 s] 2 (0, 0)) ∧
    wc.heap[kT]? = some (.cells #[.int .i64 t] 2 (0, 0)) ∧
    wc.heap[w.heap.size]? = some (.cells #[.int .i64 d, .int .i64 f] 30 (0, 0)) ∧
    wc.heap[kL]? = some (.cells #[.int .i64 L0] 2 (0, 0)) ∧
    wc.heap[kB]? = some (.cells #[.int .i64 bd, .int .i64 bf] 30 (0, 0))) (by kernel_rfl) (by kernel_rfl) rfl (by kernel_rfl) ?_ ?_ ?_
   · exact ⟨rfl, rfl, rfl, rfl, rfl, nofun, nofun, nofun, nofun, nofun, nofun, hLz.drew, Nat.le_refl _, KS, KT, K5, KL, KB⟩
   · intro g ac wc hg ha hI
     obtain ⟨x1, x2, x3, x4, x5, i0, i1, i2, i3, i4, i5, hL, hS, BS, BT, B5, BL, BB⟩ := hI
     have a0 := i0 (hg 0 (by simp))
     have a1 := i1 (hg 1 (by simp))
     have a2 := i2 (hg 2 (by simp))
     have a3 := i3 (hg 3 (by simp))
     have a4 := i4 (hg 4 (by simp))
     have a5 := i5 (hg 5 (by simp))
     simp only [putAll, a0, a1, a2, a3, a4, a5] at ha
     simp only [Act.put, List.setIfInBounds_toArray, List.set_cons_succ, List.set_cons_zero] at ha
     rw [ha]
     clear x1 x2 x3 x4 x5 i0 i1 i2 i3 i4 i5 a0 a1 a2 a3 a4 a5 hg ha
     have HBL := Lib.hid BL
     have HBB := Lib.hid BB
     have HB5 := Lib.hid B5
     have HLc := Lib.hid hL
     obtain ⟨cL, fL, zL⟩ := blk_at BL
     obtain ⟨cB, fB, zB⟩ := blk_at BB
     obtain ⟨c5, f5, z5⟩ := blk_at B5
     clear BS BT BL BB B5 hL hS
     go_wp2
     first
      | refine bodyPost_ret (results_none rfl _ _ _) rfl ?_
      | go_end0
     refine ⟨rfl, ?_, Ex.of HLc.out⟩
     rw [HU.out]
     refine ⟨?_, ?_⟩
     · show (World.heap _)[kL]? = some (.cells #[.int .i64 (aw s t b)] _ _)
       rw [HAb.out]
       exact HBL.out
     · show (World.heap _)[kB]? = some (.cells #[.int .i64 (atF b).d, .int .i64 (atF b).t] _ _)
       rw [HFb.out]
       exact HBB.out
   · refine .cons ?_ (.cons ?_ (.cons ?_ (.cons ?_ (.cons ?_ (.cons ?_ .nil)))))
     · refine qst fun g ac wc hn hk hr HI K' hK => ?_
       obtain ⟨x1, x2, x3, x4, x5, -, -, -, -, -, -, hL, hS, BS, BT, B5, BL, BB⟩ := HI.out
       simp [Region.binds] at hr
       obtain ⟨c0, f0, z0⟩ := blk_at BS
       go_simp
       obtain ⟨-, -, -, -, -, i0, i1, i2, i3, i4, i5, -⟩ := HI.out
       exact hK.out _ _ ⟨qB x1, qB x2, qB x3, qB x4, qB x5, qP, qF i1, qF i2, qF i3, qF i4, qF i5, hL, hS, BS, BT, B5, BL, BB⟩
     · refine qst fun g ac wc hn hk hr HI K' hK => ?_
       obtain ⟨x1, x2, x3, x4, x5, -, -, -, -, -, -, hL, hS, BS, BT, B5, BL, BB⟩ := HI.out
       simp [Region.binds] at hr
       obtain ⟨c0, f0, z0⟩ := blk_at B5
       go_simp
       obtain ⟨-, -, -, -, -, i0, i1, i2, i3, i4, i5, -⟩ := HI.out
       exact hK.out _ _ ⟨qB x1, qB x2, qB x3, qB x4, qB x5, qF i0, qP, qF i2, qF i3, qF i4, qF i5, hL, hS, BS, BT, B5, BL, BB⟩
     · refine qst fun g ac wc hn hk hr HI K' hK => ?_
       obtain ⟨x1, x2, x3, x4, x5, i0, i1, -, -, -, -, hL, hS, BS, BT, B5, BL, BB⟩ := HI.out
       simp [Region.binds] at hr
       have y0 := i0 (by simp [hr])
       have y1 := i1 (by simp [hr])
       clear i0 i1
       go_simp
       refine (w_implPoint _ _ _ s1 s2 d1 d2 (by omega) (by omega) _).mono ?_
       rintro e w4 ⟨rfl, hL4⟩
       rw [HX.out]
       obtain ⟨-, -, -, -, -, i0, i1, i2, i3, i4, i5, -⟩ := HI.out
       exact hK.out _ _ ⟨qB x1, qB x2, qB x3, qB x4, qB x5, qF i0, qF i1, qP, qF i3, qF i4, qF i5, hL.trans hL4, Nat.le_trans hS hL4.size, hL4.keep BS, hL4.keep BT, hL4.keep B5, hL4.keep BL, hL4.keep BB⟩
     · refine qst fun g ac wc hn hk hr HI K' hK => ?_
       obtain ⟨x1, x2, x3, x4, x5, -, -, -, -, -, -, hL, hS, BS, BT, B5, BL, BB⟩ := HI.out
       simp [Region.binds] at hr
       obtain ⟨c0, f0, z0⟩ := blk_at BT
       go_simp
       obtain ⟨-, -, -, -, -, i0, i1, i2, i3, i4, i5, -⟩ := HI.out
       exact hK.out _ _ ⟨qB x1, qB x2, qB x3, qB x4, qB x5, qF i0, qF i1, qF i2, qP, qF i4, qF i5, hL, hS, BS, BT, B5, BL, BB⟩
     · refine qst fun g ac wc hn hk hr HI K' hK => ?_
       obtain ⟨x1, x2, x3, x4, x5, -, -, i2, i3, -, -, hL, hS, BS, BT, B5, BL, BB⟩ := HI.out
       simp [Region.binds] at hr
       have y2 := i2 (by simp [hr])
       have y3 := i3 (by simp [hr])
       clear i2 i3
       go_simp
       refine (w_distance _ _ (by omega) (by omega) (by omega) (by omega) _).mono ?_
       rintro e w4 ⟨rfl, rfl⟩
       rw [HA.out]
       obtain ⟨-, -, -, -, -, i0, i1, i2, i3, i4, i5, -⟩ := HI.out
       exact hK.out _ _ ⟨qB x1, qB x2, qB x3, qB x4, qB x5, qF i0, qF i1, qF i2, qF i3, qP, qF i5, hL, hS, BS, BT, B5, BL, BB⟩
     · refine qst fun g ac wc hn hk hr HI K' hK => ?_
       obtain ⟨x1, x2, x3, x4, x5, -, -, -, -, i4, -, hL, hS, BS, BT, B5, BL, BB⟩ := HI.out
       simp [Region.binds] at hr
       have y4 := i4 (by simp [hr])
       clear i4
       go_simp
       obtain ⟨-, -, -, -, -, i0, i1, i2, i3, i4, i5, -⟩ := HI.out
       exact hK.out _ _ ⟨qB x1, qB x2, qB x3, qB x4, qB x5, qF i0, qF i1, qF i2, qF i3, qF i4, qP, hL, hS, BS, BT, B5, BL, BB⟩
theorem w_try (s t n : Int) (o : Option Int) (kS kT kL kB : Nat) (w : World) (s1 : 0 ≤ s) (s2 : s ≤ 4) (n0 : 0 ≤ n) (n1 : n < 9000 * decN s) (t1 : -4000000 ≤ t) (t2 : t ≤ 4000000)
 (hS : w.heap[kS]? = some (.cells #[.int .i64 s] 2 (0, 0))) (hT : w.heap[kT]? = some (.cells #[.int .i64 t] 2 (0, 0))) (hB : BestAt w kL kB s t o) (hb : ∀ b, o = some b → 0 ≤ b ∧ b < 9000 * decN s) (hne : kL ≠ kB) :
 Calls Tryz.prog 113 #[.agg #[.int .i64 (atF n).d, .int .i64 (atF n).t], .pointer (some ⟨kS, 0, none⟩), .pointer (some ⟨kT, 0, none⟩), .pointer (some ⟨kL, 0, none⟩), .pointer (some ⟨kB, 0, none⟩)] w fun e w' => e = .returned (.tuple #[]) ∧ BestAt w' kL kB s t (upd s t o n) ∧ Ex (Two kL kB) w w' := by
 cases o with
 | none => exact w_tryNone s t n kS kT kL kB w s1 s2 n0 n1 t1 t2 hS hT hB hne
 | some b => exact w_trySome s t n b kS kT kL kB w s1 s2 n0 n1 t1 t2 hS hT hB (hb b rfl).1 (hb b rfl).2 hne
end Go.Proofs.YtgngbdacejghcaaGreatDoor
