/- DERIVED. Walks: readings: the best figure so far, and what a try makes of it. -/
import Derived.Test.YtfhppnmbmdpjeaaP12
import Derived.Test.YtfhppnmbmdpjeaaM34
import Derived.Test.YtfhppnmbmdpjeaaM69
import Derived.Test.YtfhppnmbmdpjeaaM18
namespace Go.Proofs.Ytfhppnmbmdpjeaa
set_option linter.unusedVariables false
set_option linter.unusedSimpArgs false
open Go.RowKit
set_option maxRecDepth 100000

/-- From w to w' nothing has turned that was, but blocks of S. -/
structure Ex (S : Nat → Prop) (w w' : World) : Prop where
  os : w'.os = w.os
  tape : w'.tape = w.tape
  output : w'.output = w.output
  size : w.heap.size ≤ w'.heap.size
  block : ∀ j, j < w.heap.size → ¬ S j → w'.heap[j]? = w.heap[j]?
theorem Ex.refl (S : Nat → Prop) (w : World) : Ex S w w := ⟨rfl, rfl, rfl, Nat.le_refl _, fun _ _ _ => rfl⟩
theorem Ex.trans {S : Nat → Prop} {a b c : World} (h : Ex S a b) (h' : Ex S b c) : Ex S a c :=
  ⟨h'.os.trans h.os, h'.tape.trans h.tape, h'.output.trans h.output, Nat.le_trans h.size h'.size, fun j hj hS => (h'.block j (Nat.lt_of_lt_of_le hj h.size) hS).trans (h.block j hj hS)⟩
theorem Ex.of {S : Nat → Prop} {w w' : World} (h : Later w w') : Ex S w w' := ⟨h.os, h.tape, h.output, h.size, fun j hj _ => h.block j hj⟩
theorem Ex.later {S : Nat → Prop} {a b c : World} (h : Ex S a b) (h' : Later b c) : Ex S a c := h.trans (.of h')
theorem Ex.keep {S : Nat → Prop} {w w' : World} (h : Ex S w w') {j : Nat} {x : Obj} (hx : w.heap[j]? = some x) (hS : ¬ S j) : w'.heap[j]? = some x :=
  (h.block j (Array.getElem?_eq_some_iff.1 hx).1 hS).trans hx
theorem Ex.below {S : Nat → Prop} {B : Nat} {w w' : World} (h : Ex S w w') (hB : B ≤ w.heap.size) (hS : ∀ j, S j → B ≤ j) : Below B w w' :=
  ⟨h.os, h.tape, h.output, h.size, fun j hj => h.block j (by omega) (fun e => by have := hS j e; omega)⟩
theorem Ex.setCell {S : Nat → Prop} (w : World) (k o : Nat) (x : Value) (hS : S k) : Ex S w (w.setCell ⟨k, o, none⟩ x) :=
  ⟨rfl, rfl, rfl, by simp [World.setCell], fun j _ hj => Below.heap_setCell _ _ _ _ (fun e => hj (e ▸ hS))⟩
theorem Ex.mono {S T : Nat → Prop} {w w' : World} (h : Ex S w w') (hST : ∀ j, S j → T j) : Ex T w w' := ⟨h.os, h.tape, h.output, h.size, fun j hj hT => h.block j hj (fun e => hT (hST j e))⟩
/-- Blocks of S that were not there count for nothing. -/
theorem Ex.drop {S T : Nat → Prop} {a b c : World} (h : Ex T a b) (h' : Ex S b c) (hST : ∀ j, S j → j < a.heap.size → T j) : Ex T a c :=
  ⟨h'.os.trans h.os, h'.tape.trans h.tape, h'.output.trans h.output, Nat.le_trans h.size h'.size, fun j hj hT => (h'.block j (Nat.lt_of_lt_of_le hj h.size) (fun e => hT (hST j e hj))).trans (h.block j hj hT)⟩
theorem Ex.all {S : Nat → Prop} {a b : World} (h : Ex S a b) (hS : ∀ j, S j → a.heap.size ≤ j) : Later a b := h.below (Nat.le_refl _) hS

/-- The best figure so far, in its two blocks. -/
def BestAt (w : World) (kL kB : Nat) (s t : Int) (o : Option Int) : Prop :=
  w.heap[kL]? = some (.cells #[.int .i64 (match o with | none => -1 | some n => aw s t n)] 2 (0, 0)) ∧
  w.heap[kB]? = some (.cells #[.int .i64 (match o with | none => 0 | some n => (atF n).d), .int .i64 (match o with | none => 0 | some n => (atF n).t)] 29 (0, 0))
def Two (a b : Nat) (j : Nat) : Prop := j = a ∨ j = b

theorem aw_bd {s t n : Int} (h : -4000000 ≤ t ∧ t ≤ 4000000) : 0 ≤ aw s t n ∧ aw s t n ≤ 14000000 := by
  have := ptF_bd (s := s) (f := atF n) (by simp only [atF]; omega) (by simp only [atF]; omega)
  unfold aw P
  omega
theorem key_at {n m : Int} : keyF (atF n) < keyF (atF m) ↔ n < m := by
  unfold keyF atF
  simp only
  omega
theorem cmp_at {n m : Int} : cmpF (atF n) (atF m) < 0 ↔ n < m := cmpF_lt.trans key_at
theorem upd_none {s t n : Int} : upd s t none n = some n := rfl
theorem upd_lt {s t n b : Int} (h : aw s t n < aw s t b) : upd s t (some b) n = some n := if_pos (.inl h)
theorem upd_eq {s t n b : Int} (h : aw s t n = aw s t b) (h' : n < b) : upd s t (some b) n = some n := if_pos (.inr ⟨h, h'⟩)
theorem upd_ge {s t n b : Int} (h : aw s t n = aw s t b) (h' : ¬ n < b) : upd s t (some b) n = some b := if_neg (by rintro (k | ⟨_, k⟩) <;> omega)
theorem upd_gt {s t n b : Int} (h : aw s t b < aw s t n) : upd s t (some b) n = some b := if_neg (by rintro (k | ⟨k, _⟩) <;> omega)

set_option maxHeartbeats 2000000 in
theorem w_tryNone (s t n : Int) (kS kT kL kB : Nat) (w : World) (s1 : 0 ≤ s) (s2 : s ≤ 4) (n0 : 0 ≤ n) (n1 : n < 9000 * decN s) (t1 : -4000000 ≤ t) (t2 : t ≤ 4000000)
    (hS : w.heap[kS]? = some (.cells #[.int .i64 s] 2 (0, 0))) (hT : w.heap[kT]? = some (.cells #[.int .i64 t] 2 (0, 0))) (hB : BestAt w kL kB s t none) (hne : kL ≠ kB) :
    Calls Try.prog 117 #[.agg #[.int .i64 (atF n).d, .int .i64 (atF n).t], .pointer (some ⟨kS, 0, none⟩), .pointer (some ⟨kT, 0, none⟩), .pointer (some ⟨kL, 0, none⟩), .pointer (some ⟨kB, 0, none⟩)] w fun e w' => e = .returned (.tuple #[]) ∧ BestAt w' kL kB s t (upd s t none n) ∧ Ex (Two kL kB) w w' := by
  have hab := aw_bd (s := s) (n := n) ⟨t1, t2⟩
  have hfg := atF_fig n0 n1
  have hpb : -10000000 ≤ P s n ∧ P s n ≤ 10000000 := ptF_bd (s := s) (f := atF n) (by simp only [atF]; omega) (by simp only [atF]; omega)
  obtain ⟨X, hX⟩ : ∃ x, P s n = x := ⟨_, rfl⟩
  obtain ⟨A, hA⟩ : ∃ x, aw s t n = x := ⟨_, rfl⟩
  have HAn := Lib.hid hA
  obtain ⟨⟨d, f⟩, hF⟩ : ∃ x, atF n = x := ⟨_, rfl⟩
  have HFn := Lib.hid hF
  have HX := Lib.hid (show ptF s ⟨d, f⟩ = X from by rw [← hF]; exact hX)
  have HA := Lib.hid (show max (X - t) (t - X) = A from by rw [← hX]; exact hA)
  rw [hA] at hab
  rw [hX] at hpb
  rw [hF] at hfg ⊢
  have HFg := Lib.hid hfg
  obtain ⟨a0, a1⟩ := hab
  obtain ⟨x0, x1⟩ := hpb
  have hd := isFig_true hfg
  simp only at hd
  obtain ⟨d1, d2, f1, f2⟩ := hd
  have HU := Lib.hid (upd_none (s := s) (t := t) (n := n))
  clear hX hA hF hfg
  clear n0 n1
  go_enter Try.func117, Try.ntmps117
  go_wp2_with fail
  refine wp_name ?_
  intro z hz
  have hLz : Later w z := by rw [hz]; exact (Later.refl _).alloc _
  have hSB := hLz.size
  have K5 : z.heap[w.heap.size]? = some (.cells #[.int .i64 d, .int .i64 f] 29 (0, 0)) := by rw [hz]; exact heap_alloc_new _ _
  have KS := hLz.keep hS
  have KT := hLz.keep hT
  have KL := hLz.keep hB.1
  have KB := hLz.keep hB.2
  clear hz hS hT hB
  refine region_slots 32 [7, 8, 9, 10, 11, 6] (fun g ac wc => sl ac 1 = .pointer (some ⟨kS, 0, none⟩) ∧
    sl ac 2 = .pointer (some ⟨kT, 0, none⟩) ∧
    sl ac 3 = .pointer (some ⟨kL, 0, none⟩) ∧
    sl ac 4 = .pointer (some ⟨kB, 0, none⟩) ∧
    sl ac 5 = .pointer (some ⟨w.heap.size, 0, none⟩) ∧
    (g 0 = true → sl ac 7 = .int .i64 s) ∧
    (g 1 = true → sl ac 8 = .agg #[.int .i64 d, .int .i64 f]) ∧
    (g 2 = true → sl ac 9 = .int .i64 X) ∧
    (g 3 = true → sl ac 10 = .int .i64 t) ∧
    (g 4 = true → sl ac 11 = .int .i64 A) ∧
    (g 5 = true → sl ac 6 = .int .i64 A) ∧
    Later w wc ∧
    z.heap.size ≤ wc.heap.size ∧
    wc.heap[kS]? = some (.cells #[.int .i64 s] 2 (0, 0)) ∧
    wc.heap[kT]? = some (.cells #[.int .i64 t] 2 (0, 0)) ∧
    wc.heap[w.heap.size]? = some (.cells #[.int .i64 d, .int .i64 f] 29 (0, 0)) ∧
    wc.heap[kL]? = some (.cells #[.int .i64 (-1)] 2 (0, 0)) ∧
    wc.heap[kB]? = some (.cells #[.int .i64 0, .int .i64 0] 29 (0, 0))) (by kernel_rfl) (by kernel_rfl) rfl (by kernel_rfl) ?_ ?_ ?_
  · exact ⟨rfl, rfl, rfl, rfl, rfl, nofun, nofun, nofun, nofun, nofun, nofun, hLz.drew, Nat.le_refl _, KS, KT, K5, KL, KB⟩
  · intro g ac wc hg ha hI
    obtain ⟨x1, x2, x3, x4, x5, i0, i1, i2, i3, i4, i5, hL, hS, BS, BT, B5, BL, BB⟩ := hI
    have a0 := i0 (hg 0 (by simp))
    have a1 := i1 (hg 1 (by simp))
    have a2 := i2 (hg 2 (by simp))
    have a3 := i3 (hg 3 (by simp))
    have a4 := i4 (hg 4 (by simp))
    have a5 := i5 (hg 5 (by simp))
    simp only [putAll, a0, a1, a2, a3, a4, a5] at ha
    simp only [Act.put, List.setIfInBounds_toArray, List.set_cons_succ, List.set_cons_zero] at ha
    rw [ha]
    clear x1 x2 x3 x4 x5 i0 i1 i2 i3 i4 i5 a0 a1 a2 a3 a4 a5 hg ha
    have HBL := Lib.hid BL
    have HBB := Lib.hid BB
    have HB5 := Lib.hid B5
    have HLc := Lib.hid hL
    obtain ⟨cL, fL, zL⟩ := blk_at BL
    obtain ⟨cB, fB, zB⟩ := blk_at BB
    obtain ⟨c5, f5, z5⟩ := blk_at B5
    clear BS BT BL BB B5 hL hS
    go_wp2
    first
      | refine bodyPost_ret (results_none rfl _ _ _) rfl ?_
      | go_end0
    refine ⟨rfl, ?_, (((Ex.of HLc.out).trans (Ex.setCell _ _ _ _ (.inr rfl))).trans (Ex.setCell _ _ _ _ (.inr rfl))).trans (Ex.setCell _ _ _ _ (.inl rfl))⟩
    rw [HU.out]
    refine ⟨?_, ?_⟩
    · show (World.heap _)[kL]? = some (.cells #[.int .i64 (aw s t n)] _ _)
      rw [HAn.out]
      exact one_set (other_set (other_set HBL.out hne _) hne _) _
    · show (World.heap _)[kB]? = some (.cells #[.int .i64 (atF n).d, .int .i64 (atF n).t] _ _)
      rw [HFn.out]
      exact other_set (two_set HBB.out _ _) (Ne.symm hne) _
  · refine .cons ?_ (.cons ?_ (.cons ?_ (.cons ?_ (.cons ?_ (.cons ?_ .nil)))))
    · unfold SlotStep
      intro g ac wc hn hk hr hI K' hK
      obtain ⟨x1, x2, x3, x4, x5, i0, i1, i2, i3, i4, i5, hL, hS, BS, BT, B5, BL, BB⟩ := hI
      simp only [Region.binds] at hr
      simp at hr
      replace hK := Lib.hid hK
      replace i0 := Lib.hid i0
      replace i1 := Lib.hid i1
      replace i2 := Lib.hid i2
      replace i3 := Lib.hid i3
      replace i4 := Lib.hid i4
      replace i5 := Lib.hid i5
      have hbb := blk_at BS
      have c0 := hbb.1
      have f0 := hbb.2.1
      have z0 := hbb.2.2
      clear hbb
      go_simp
      exact hK.out _ _ ⟨(keepB x1 (by decide)), (keepB x2 (by decide)), (keepB x3 (by decide)), (keepB x4 (by decide)), (keepB x5 (by decide)), (fun _ => put_eq (by omega)), (keepF i1.out (by decide)), (keepF i2.out (by decide)), (keepF i3.out (by decide)), (keepF i4.out (by decide)), (keepF i5.out (by decide)), hL, hS, BS, BT, B5, BL, BB⟩
    · unfold SlotStep
      intro g ac wc hn hk hr hI K' hK
      obtain ⟨x1, x2, x3, x4, x5, i0, i1, i2, i3, i4, i5, hL, hS, BS, BT, B5, BL, BB⟩ := hI
      simp only [Region.binds] at hr
      simp at hr
      replace hK := Lib.hid hK
      replace i0 := Lib.hid i0
      replace i1 := Lib.hid i1
      replace i2 := Lib.hid i2
      replace i3 := Lib.hid i3
      replace i4 := Lib.hid i4
      replace i5 := Lib.hid i5
      have hbb := blk_at B5
      have c0 := hbb.1
      have f0 := hbb.2.1
      have z0 := hbb.2.2
      clear hbb
      go_simp
      exact hK.out _ _ ⟨(keepB x1 (by decide)), (keepB x2 (by decide)), (keepB x3 (by decide)), (keepB x4 (by decide)), (keepB x5 (by decide)), (keepF i0.out (by decide)), (fun _ => put_eq (by omega)), (keepF i2.out (by decide)), (keepF i3.out (by decide)), (keepF i4.out (by decide)), (keepF i5.out (by decide)), hL, hS, BS, BT, B5, BL, BB⟩
    · unfold SlotStep
      intro g ac wc hn hk hr hI K' hK
      obtain ⟨x1, x2, x3, x4, x5, i0, i1, i2, i3, i4, i5, hL, hS, BS, BT, B5, BL, BB⟩ := hI
      simp only [Region.binds] at hr
      simp at hr
      replace hK := Lib.hid hK
      have y0 := i0 (by first | exact hr | exact hr.1 | exact hr.2 | exact hr.2.1 | exact hr.2.2 | exact hr.2.2.1 | exact hr.2.2.2 | simp [hr])
      have y1 := i1 (by first | exact hr | exact hr.1 | exact hr.2 | exact hr.2.1 | exact hr.2.2 | exact hr.2.2.1 | exact hr.2.2.2 | simp [hr])
      replace i0 := Lib.hid i0
      replace i1 := Lib.hid i1
      replace i2 := Lib.hid i2
      replace i3 := Lib.hid i3
      replace i4 := Lib.hid i4
      replace i5 := Lib.hid i5
      go_simp
      refine (w_implPoint _ _ _ s1 s2 d1 d2 (by omega) (by omega) _).mono ?_
      rintro e w4 ⟨rfl, hL4⟩
      rw [HX.out]
      exact hK.out _ _ ⟨(keepB x1 (by decide)), (keepB x2 (by decide)), (keepB x3 (by decide)), (keepB x4 (by decide)), (keepB x5 (by decide)), (keepF i0.out (by decide)), (keepF i1.out (by decide)), (fun _ => put_eq (by omega)), (keepF i3.out (by decide)), (keepF i4.out (by decide)), (keepF i5.out (by decide)), hL.trans hL4, Nat.le_trans hS hL4.size, hL4.keep BS, hL4.keep BT, hL4.keep B5, hL4.keep BL, hL4.keep BB⟩
    · unfold SlotStep
      intro g ac wc hn hk hr hI K' hK
      obtain ⟨x1, x2, x3, x4, x5, i0, i1, i2, i3, i4, i5, hL, hS, BS, BT, B5, BL, BB⟩ := hI
      simp only [Region.binds] at hr
      simp at hr
      replace hK := Lib.hid hK
      replace i0 := Lib.hid i0
      replace i1 := Lib.hid i1
      replace i2 := Lib.hid i2
      replace i3 := Lib.hid i3
      replace i4 := Lib.hid i4
      replace i5 := Lib.hid i5
      have hbb := blk_at BT
      have c0 := hbb.1
      have f0 := hbb.2.1
      have z0 := hbb.2.2
      clear hbb
      go_simp
      exact hK.out _ _ ⟨(keepB x1 (by decide)), (keepB x2 (by decide)), (keepB x3 (by decide)), (keepB x4 (by decide)), (keepB x5 (by decide)), (keepF i0.out (by decide)), (keepF i1.out (by decide)), (keepF i2.out (by decide)), (fun _ => put_eq (by omega)), (keepF i4.out (by decide)), (keepF i5.out (by decide)), hL, hS, BS, BT, B5, BL, BB⟩
    · unfold SlotStep
      intro g ac wc hn hk hr hI K' hK
      obtain ⟨x1, x2, x3, x4, x5, i0, i1, i2, i3, i4, i5, hL, hS, BS, BT, B5, BL, BB⟩ := hI
      simp only [Region.binds] at hr
      simp at hr
      replace hK := Lib.hid hK
      have y2 := i2 (by first | exact hr | exact hr.1 | exact hr.2 | exact hr.2.1 | exact hr.2.2 | exact hr.2.2.1 | exact hr.2.2.2 | simp [hr])
      have y3 := i3 (by first | exact hr | exact hr.1 | exact hr.2 | exact hr.2.1 | exact hr.2.2 | exact hr.2.2.1 | exact hr.2.2.2 | simp [hr])
      replace i0 := Lib.hid i0
      replace i1 := Lib.hid i1
      replace i2 := Lib.hid i2
      replace i3 := Lib.hid i3
      replace i4 := Lib.hid i4
      replace i5 := Lib.hid i5
      go_simp
      refine (w_distance _ _ (by omega) (by omega) (by omega) (by omega) _).mono ?_
      rintro e w4 ⟨rfl, rfl⟩
      rw [HA.out]
      exact hK.out _ _ ⟨(keepB x1 (by decide)), (keepB x2 (by decide)), (keepB x3 (by decide)), (keepB x4 (by decide)), (keepB x5 (by decide)), (keepF i0.out (by decide)), (keepF i1.out (by decide)), (keepF i2.out (by decide)), (keepF i3.out (by decide)), (fun _ => put_eq (by omega)), (keepF i5.out (by decide)), hL, hS, BS, BT, B5, BL, BB⟩
    · unfold SlotStep
      intro g ac wc hn hk hr hI K' hK
      obtain ⟨x1, x2, x3, x4, x5, i0, i1, i2, i3, i4, i5, hL, hS, BS, BT, B5, BL, BB⟩ := hI
      simp only [Region.binds] at hr
      simp at hr
      replace hK := Lib.hid hK
      have y4 := i4 (by first | exact hr | exact hr.1 | exact hr.2 | exact hr.2.1 | exact hr.2.2 | exact hr.2.2.1 | exact hr.2.2.2 | simp [hr])
      replace i0 := Lib.hid i0
      replace i1 := Lib.hid i1
      replace i2 := Lib.hid i2
      replace i3 := Lib.hid i3
      replace i4 := Lib.hid i4
      replace i5 := Lib.hid i5
      go_simp
      exact hK.out _ _ ⟨(keepB x1 (by decide)), (keepB x2 (by decide)), (keepB x3 (by decide)), (keepB x4 (by decide)), (keepB x5 (by decide)), (keepF i0.out (by decide)), (keepF i1.out (by decide)), (keepF i2.out (by decide)), (keepF i3.out (by decide)), (keepF i4.out (by decide)), (fun _ => put_eq (by omega)), hL, hS, BS, BT, B5, BL, BB⟩

set_option maxHeartbeats 4000000 in
theorem w_trySome (s t n b : Int) (kS kT kL kB : Nat) (w : World) (s1 : 0 ≤ s) (s2 : s ≤ 4) (n0 : 0 ≤ n) (n1 : n < 9000 * decN s) (t1 : -4000000 ≤ t) (t2 : t ≤ 4000000)
    (hS : w.heap[kS]? = some (.cells #[.int .i64 s] 2 (0, 0))) (hT : w.heap[kT]? = some (.cells #[.int .i64 t] 2 (0, 0))) (hB : BestAt w kL kB s t (some b)) (b0 : 0 ≤ b) (b1 : b < 9000 * decN s) (hne : kL ≠ kB) :
    Calls Try.prog 117 #[.agg #[.int .i64 (atF n).d, .int .i64 (atF n).t], .pointer (some ⟨kS, 0, none⟩), .pointer (some ⟨kT, 0, none⟩), .pointer (some ⟨kL, 0, none⟩), .pointer (some ⟨kB, 0, none⟩)] w fun e w' => e = .returned (.tuple #[]) ∧ BestAt w' kL kB s t (upd s t (some b) n) ∧ Ex (Two kL kB) w w' := by
  have hbb := aw_bd (s := s) (n := b) ⟨t1, t2⟩
  have hfgb := atF_fig b0 b1
  have hcmp := cmp_at (n := n) (m := b)
  have hu1 := upd_lt (s := s) (t := t) (n := n) (b := b)
  have hu2 := upd_eq (s := s) (t := t) (n := n) (b := b)
  have hu3 := upd_ge (s := s) (t := t) (n := n) (b := b)
  have hu4 := upd_gt (s := s) (t := t) (n := n) (b := b)
  obtain ⟨L0, hL0⟩ : ∃ x, aw s t b = x := ⟨_, rfl⟩
  have HAb := Lib.hid hL0
  obtain ⟨⟨bd, bf⟩, hFb⟩ : ∃ x, atF b = x := ⟨_, rfl⟩
  have HFb := Lib.hid hFb
  have hB : w.heap[kL]? = some (.cells #[.int .i64 L0] 2 (0, 0)) ∧ w.heap[kB]? = some (.cells #[.int .i64 bd, .int .i64 bf] 29 (0, 0)) := by
    have h := hB
    unfold BestAt at h
    simp only [hL0, hFb] at h
    exact h
  rw [hL0] at hbb hu1 hu2 hu3 hu4
  rw [hFb] at hfgb hcmp
  have HFgb := Lib.hid hfgb
  obtain ⟨l0, l1⟩ := hbb
  have hab := aw_bd (s := s) (n := n) ⟨t1, t2⟩
  have hfg := atF_fig n0 n1
  have hpb : -10000000 ≤ P s n ∧ P s n ≤ 10000000 := ptF_bd (s := s) (f := atF n) (by simp only [atF]; omega) (by simp only [atF]; omega)
  obtain ⟨X, hX⟩ : ∃ x, P s n = x := ⟨_, rfl⟩
  obtain ⟨A, hA⟩ : ∃ x, aw s t n = x := ⟨_, rfl⟩
  have HAn := Lib.hid hA
  obtain ⟨⟨d, f⟩, hF⟩ : ∃ x, atF n = x := ⟨_, rfl⟩
  have HFn := Lib.hid hF
  have HX := Lib.hid (show ptF s ⟨d, f⟩ = X from by rw [← hF]; exact hX)
  have HA := Lib.hid (show max (X - t) (t - X) = A from by rw [← hX]; exact hA)
  rw [hA] at hab
  rw [hX] at hpb
  rw [hF] at hfg hcmp ⊢
  rw [hA] at hu1 hu2 hu3 hu4
  have HFg := Lib.hid hfg
  obtain ⟨a0, a1⟩ := hab
  obtain ⟨x0, x1⟩ := hpb
  have hd := isFig_true hfg
  simp only at hd
  obtain ⟨d1, d2, f1, f2⟩ := hd
  obtain ⟨C, hC⟩ : ∃ x, cmpF ⟨d, f⟩ ⟨bd, bf⟩ = x := ⟨_, rfl⟩
  rw [hC] at hcmp
  have HC := Lib.hid hC
  clear hX hA hF hfg hL0 hFb hfgb hC
  clear n0 n1 b0 b1
  rcases Int.lt_trichotomy A L0 with hlt | heq | hgt
  · have HU := Lib.hid (hu1 hlt)
    clear hu1 hu2 hu3 hu4 hcmp
    go_enter Try.func117, Try.ntmps117
    go_wp2_with fail
    refine wp_name ?_
    intro z hz
    have hLz : Later w z := by rw [hz]; exact (Later.refl _).alloc _
    have hSB := hLz.size
    have K5 : z.heap[w.heap.size]? = some (.cells #[.int .i64 d, .int .i64 f] 29 (0, 0)) := by rw [hz]; exact heap_alloc_new _ _
    have KS := hLz.keep hS
    have KT := hLz.keep hT
    have KL := hLz.keep hB.1
    have KB := hLz.keep hB.2
    clear hz hS hT hB
    refine region_slots 32 [7, 8, 9, 10, 11, 6] (fun g ac wc => sl ac 1 = .pointer (some ⟨kS, 0, none⟩) ∧
      sl ac 2 = .pointer (some ⟨kT, 0, none⟩) ∧
      sl ac 3 = .pointer (some ⟨kL, 0, none⟩) ∧
      sl ac 4 = .pointer (some ⟨kB, 0, none⟩) ∧
      sl ac 5 = .pointer (some ⟨w.heap.size, 0, none⟩) ∧
      (g 0 = true → sl ac 7 = .int .i64 s) ∧
      (g 1 = true → sl ac 8 = .agg #[.int .i64 d, .int .i64 f]) ∧
      (g 2 = true → sl ac 9 = .int .i64 X) ∧
      (g 3 = true → sl ac 10 = .int .i64 t) ∧
      (g 4 = true → sl ac 11 = .int .i64 A) ∧
      (g 5 = true → sl ac 6 = .int .i64 A) ∧
      Later w wc ∧
      z.heap.size ≤ wc.heap.size ∧
      wc.heap[kS]? = some (.cells #[.int .i64 s] 2 (0, 0)) ∧
      wc.heap[kT]? = some (.cells #[.int .i64 t] 2 (0, 0)) ∧
      wc.heap[w.heap.size]? = some (.cells #[.int .i64 d, .int .i64 f] 29 (0, 0)) ∧
      wc.heap[kL]? = some (.cells #[.int .i64 L0] 2 (0, 0)) ∧
      wc.heap[kB]? = some (.cells #[.int .i64 bd, .int .i64 bf] 29 (0, 0))) (by kernel_rfl) (by kernel_rfl) rfl (by kernel_rfl) ?_ ?_ ?_
    · exact ⟨rfl, rfl, rfl, rfl, rfl, nofun, nofun, nofun, nofun, nofun, nofun, hLz.drew, Nat.le_refl _, KS, KT, K5, KL, KB⟩
    · intro g ac wc hg ha hI
      obtain ⟨x1, x2, x3, x4, x5, i0, i1, i2, i3, i4, i5, hL, hS, BS, BT, B5, BL, BB⟩ := hI
      have a0 := i0 (hg 0 (by simp))
      have a1 := i1 (hg 1 (by simp))
      have a2 := i2 (hg 2 (by simp))
      have a3 := i3 (hg 3 (by simp))
      have a4 := i4 (hg 4 (by simp))
      have a5 := i5 (hg 5 (by simp))
      simp only [putAll, a0, a1, a2, a3, a4, a5] at ha
      simp only [Act.put, List.setIfInBounds_toArray, List.set_cons_succ, List.set_cons_zero] at ha
      rw [ha]
      clear x1 x2 x3 x4 x5 i0 i1 i2 i3 i4 i5 a0 a1 a2 a3 a4 a5 hg ha
      have HBL := Lib.hid BL
      have HBB := Lib.hid BB
      have HB5 := Lib.hid B5
      have HLc := Lib.hid hL
      obtain ⟨cL, fL, zL⟩ := blk_at BL
      obtain ⟨cB, fB, zB⟩ := blk_at BB
      obtain ⟨c5, f5, z5⟩ := blk_at B5
      clear BS BT BL BB B5 hL hS
      go_wp2
      first
        | refine bodyPost_ret (results_none rfl _ _ _) rfl ?_
        | go_end0
      refine ⟨rfl, ?_, (((Ex.of HLc.out).trans (Ex.setCell _ _ _ _ (.inr rfl))).trans (Ex.setCell _ _ _ _ (.inr rfl))).trans (Ex.setCell _ _ _ _ (.inl rfl))⟩
      rw [HU.out]
      refine ⟨?_, ?_⟩
      · show (World.heap _)[kL]? = some (.cells #[.int .i64 (aw s t n)] _ _)
        rw [HAn.out]
        exact one_set (other_set (other_set HBL.out hne _) hne _) _
      · show (World.heap _)[kB]? = some (.cells #[.int .i64 (atF n).d, .int .i64 (atF n).t] _ _)
        rw [HFn.out]
        exact other_set (two_set HBB.out _ _) (Ne.symm hne) _
    · refine .cons ?_ (.cons ?_ (.cons ?_ (.cons ?_ (.cons ?_ (.cons ?_ .nil)))))
      · unfold SlotStep
        intro g ac wc hn hk hr hI K' hK
        obtain ⟨x1, x2, x3, x4, x5, i0, i1, i2, i3, i4, i5, hL, hS, BS, BT, B5, BL, BB⟩ := hI
        simp only [Region.binds] at hr
        simp at hr
        replace hK := Lib.hid hK
        replace i0 := Lib.hid i0
        replace i1 := Lib.hid i1
        replace i2 := Lib.hid i2
        replace i3 := Lib.hid i3
        replace i4 := Lib.hid i4
        replace i5 := Lib.hid i5
        have hbb := blk_at BS
        have c0 := hbb.1
        have f0 := hbb.2.1
        have z0 := hbb.2.2
        clear hbb
        go_simp
        exact hK.out _ _ ⟨(keepB x1 (by decide)), (keepB x2 (by decide)), (keepB x3 (by decide)), (keepB x4 (by decide)), (keepB x5 (by decide)), (fun _ => put_eq (by omega)), (keepF i1.out (by decide)), (keepF i2.out (by decide)), (keepF i3.out (by decide)), (keepF i4.out (by decide)), (keepF i5.out (by decide)), hL, hS, BS, BT, B5, BL, BB⟩
      · unfold SlotStep
        intro g ac wc hn hk hr hI K' hK
        obtain ⟨x1, x2, x3, x4, x5, i0, i1, i2, i3, i4, i5, hL, hS, BS, BT, B5, BL, BB⟩ := hI
        simp only [Region.binds] at hr
        simp at hr
        replace hK := Lib.hid hK
        replace i0 := Lib.hid i0
        replace i1 := Lib.hid i1
        replace i2 := Lib.hid i2
        replace i3 := Lib.hid i3
        replace i4 := Lib.hid i4
        replace i5 := Lib.hid i5
        have hbb := blk_at B5
        have c0 := hbb.1
        have f0 := hbb.2.1
        have z0 := hbb.2.2
        clear hbb
        go_simp
        exact hK.out _ _ ⟨(keepB x1 (by decide)), (keepB x2 (by decide)), (keepB x3 (by decide)), (keepB x4 (by decide)), (keepB x5 (by decide)), (keepF i0.out (by decide)), (fun _ => put_eq (by omega)), (keepF i2.out (by decide)), (keepF i3.out (by decide)), (keepF i4.out (by decide)), (keepF i5.out (by decide)), hL, hS, BS, BT, B5, BL, BB⟩
      · unfold SlotStep
        intro g ac wc hn hk hr hI K' hK
        obtain ⟨x1, x2, x3, x4, x5, i0, i1, i2, i3, i4, i5, hL, hS, BS, BT, B5, BL, BB⟩ := hI
        simp only [Region.binds] at hr
        simp at hr
        replace hK := Lib.hid hK
        have y0 := i0 (by first | exact hr | exact hr.1 | exact hr.2 | exact hr.2.1 | exact hr.2.2 | exact hr.2.2.1 | exact hr.2.2.2 | simp [hr])
        have y1 := i1 (by first | exact hr | exact hr.1 | exact hr.2 | exact hr.2.1 | exact hr.2.2 | exact hr.2.2.1 | exact hr.2.2.2 | simp [hr])
        replace i0 := Lib.hid i0
        replace i1 := Lib.hid i1
        replace i2 := Lib.hid i2
        replace i3 := Lib.hid i3
        replace i4 := Lib.hid i4
        replace i5 := Lib.hid i5
        go_simp
        refine (w_implPoint _ _ _ s1 s2 d1 d2 (by omega) (by omega) _).mono ?_
        rintro e w4 ⟨rfl, hL4⟩
        rw [HX.out]
        exact hK.out _ _ ⟨(keepB x1 (by decide)), (keepB x2 (by decide)), (keepB x3 (by decide)), (keepB x4 (by decide)), (keepB x5 (by decide)), (keepF i0.out (by decide)), (keepF i1.out (by decide)), (fun _ => put_eq (by omega)), (keepF i3.out (by decide)), (keepF i4.out (by decide)), (keepF i5.out (by decide)), hL.trans hL4, Nat.le_trans hS hL4.size, hL4.keep BS, hL4.keep BT, hL4.keep B5, hL4.keep BL, hL4.keep BB⟩
      · unfold SlotStep
        intro g ac wc hn hk hr hI K' hK
        obtain ⟨x1, x2, x3, x4, x5, i0, i1, i2, i3, i4, i5, hL, hS, BS, BT, B5, BL, BB⟩ := hI
        simp only [Region.binds] at hr
        simp at hr
        replace hK := Lib.hid hK
        replace i0 := Lib.hid i0
        replace i1 := Lib.hid i1
        replace i2 := Lib.hid i2
        replace i3 := Lib.hid i3
        replace i4 := Lib.hid i4
        replace i5 := Lib.hid i5
        have hbb := blk_at BT
        have c0 := hbb.1
        have f0 := hbb.2.1
        have z0 := hbb.2.2
        clear hbb
        go_simp
        exact hK.out _ _ ⟨(keepB x1 (by decide)), (keepB x2 (by decide)), (keepB x3 (by decide)), (keepB x4 (by decide)), (keepB x5 (by decide)), (keepF i0.out (by decide)), (keepF i1.out (by decide)), (keepF i2.out (by decide)), (fun _ => put_eq (by omega)), (keepF i4.out (by decide)), (keepF i5.out (by decide)), hL, hS, BS, BT, B5, BL, BB⟩
      · unfold SlotStep
        intro g ac wc hn hk hr hI K' hK
        obtain ⟨x1, x2, x3, x4, x5, i0, i1, i2, i3, i4, i5, hL, hS, BS, BT, B5, BL, BB⟩ := hI
        simp only [Region.binds] at hr
        simp at hr
        replace hK := Lib.hid hK
        have y2 := i2 (by first | exact hr | exact hr.1 | exact hr.2 | exact hr.2.1 | exact hr.2.2 | exact hr.2.2.1 | exact hr.2.2.2 | simp [hr])
        have y3 := i3 (by first | exact hr | exact hr.1 | exact hr.2 | exact hr.2.1 | exact hr.2.2 | exact hr.2.2.1 | exact hr.2.2.2 | simp [hr])
        replace i0 := Lib.hid i0
        replace i1 := Lib.hid i1
        replace i2 := Lib.hid i2
        replace i3 := Lib.hid i3
        replace i4 := Lib.hid i4
        replace i5 := Lib.hid i5
        go_simp
        refine (w_distance _ _ (by omega) (by omega) (by omega) (by omega) _).mono ?_
        rintro e w4 ⟨rfl, rfl⟩
        rw [HA.out]
        exact hK.out _ _ ⟨(keepB x1 (by decide)), (keepB x2 (by decide)), (keepB x3 (by decide)), (keepB x4 (by decide)), (keepB x5 (by decide)), (keepF i0.out (by decide)), (keepF i1.out (by decide)), (keepF i2.out (by decide)), (keepF i3.out (by decide)), (fun _ => put_eq (by omega)), (keepF i5.out (by decide)), hL, hS, BS, BT, B5, BL, BB⟩
      · unfold SlotStep
        intro g ac wc hn hk hr hI K' hK
        obtain ⟨x1, x2, x3, x4, x5, i0, i1, i2, i3, i4, i5, hL, hS, BS, BT, B5, BL, BB⟩ := hI
        simp only [Region.binds] at hr
        simp at hr
        replace hK := Lib.hid hK
        have y4 := i4 (by first | exact hr | exact hr.1 | exact hr.2 | exact hr.2.1 | exact hr.2.2 | exact hr.2.2.1 | exact hr.2.2.2 | simp [hr])
        replace i0 := Lib.hid i0
        replace i1 := Lib.hid i1
        replace i2 := Lib.hid i2
        replace i3 := Lib.hid i3
        replace i4 := Lib.hid i4
        replace i5 := Lib.hid i5
        go_simp
        exact hK.out _ _ ⟨(keepB x1 (by decide)), (keepB x2 (by decide)), (keepB x3 (by decide)), (keepB x4 (by decide)), (keepB x5 (by decide)), (keepF i0.out (by decide)), (keepF i1.out (by decide)), (keepF i2.out (by decide)), (keepF i3.out (by decide)), (keepF i4.out (by decide)), (fun _ => put_eq (by omega)), hL, hS, BS, BT, B5, BL, BB⟩
  · by_cases hnb : n < b
    · have HU := Lib.hid (hu2 heq hnb)
      have hc := hcmp.2 hnb
      subst heq
      clear hu1 hu2 hu3 hu4 hcmp hnb
      go_enter Try.func117, Try.ntmps117
      go_wp2_with fail
      refine wp_name ?_
      intro z hz
      have hLz : Later w z := by rw [hz]; exact (Later.refl _).alloc _
      have hSB := hLz.size
      have K5 : z.heap[w.heap.size]? = some (.cells #[.int .i64 d, .int .i64 f] 29 (0, 0)) := by rw [hz]; exact heap_alloc_new _ _
      have KS := hLz.keep hS
      have KT := hLz.keep hT
      have KL := hLz.keep hB.1
      have KB := hLz.keep hB.2
      clear hz hS hT hB
      refine region_slots 32 [7, 8, 9, 10, 11, 6] (fun g ac wc => sl ac 1 = .pointer (some ⟨kS, 0, none⟩) ∧
        sl ac 2 = .pointer (some ⟨kT, 0, none⟩) ∧
        sl ac 3 = .pointer (some ⟨kL, 0, none⟩) ∧
        sl ac 4 = .pointer (some ⟨kB, 0, none⟩) ∧
        sl ac 5 = .pointer (some ⟨w.heap.size, 0, none⟩) ∧
        (g 0 = true → sl ac 7 = .int .i64 s) ∧
        (g 1 = true → sl ac 8 = .agg #[.int .i64 d, .int .i64 f]) ∧
        (g 2 = true → sl ac 9 = .int .i64 X) ∧
        (g 3 = true → sl ac 10 = .int .i64 t) ∧
        (g 4 = true → sl ac 11 = .int .i64 A) ∧
        (g 5 = true → sl ac 6 = .int .i64 A) ∧
        Later w wc ∧
        z.heap.size ≤ wc.heap.size ∧
        wc.heap[kS]? = some (.cells #[.int .i64 s] 2 (0, 0)) ∧
        wc.heap[kT]? = some (.cells #[.int .i64 t] 2 (0, 0)) ∧
        wc.heap[w.heap.size]? = some (.cells #[.int .i64 d, .int .i64 f] 29 (0, 0)) ∧
        wc.heap[kL]? = some (.cells #[.int .i64 A] 2 (0, 0)) ∧
        wc.heap[kB]? = some (.cells #[.int .i64 bd, .int .i64 bf] 29 (0, 0))) (by kernel_rfl) (by kernel_rfl) rfl (by kernel_rfl) ?_ ?_ ?_
      · exact ⟨rfl, rfl, rfl, rfl, rfl, nofun, nofun, nofun, nofun, nofun, nofun, hLz.drew, Nat.le_refl _, KS, KT, K5, KL, KB⟩
      · intro g ac wc hg ha hI
        obtain ⟨x1, x2, x3, x4, x5, i0, i1, i2, i3, i4, i5, hL, hS, BS, BT, B5, BL, BB⟩ := hI
        have a0 := i0 (hg 0 (by simp))
        have a1 := i1 (hg 1 (by simp))
        have a2 := i2 (hg 2 (by simp))
        have a3 := i3 (hg 3 (by simp))
        have a4 := i4 (hg 4 (by simp))
        have a5 := i5 (hg 5 (by simp))
        simp only [putAll, a0, a1, a2, a3, a4, a5] at ha
        simp only [Act.put, List.setIfInBounds_toArray, List.set_cons_succ, List.set_cons_zero] at ha
        rw [ha]
        clear x1 x2 x3 x4 x5 i0 i1 i2 i3 i4 i5 a0 a1 a2 a3 a4 a5 hg ha
        have HBL := Lib.hid BL
        have HBB := Lib.hid BB
        have HB5 := Lib.hid B5
        have HLc := Lib.hid hL
        obtain ⟨cL, fL, zL⟩ := blk_at BL
        obtain ⟨cB, fB, zB⟩ := blk_at BB
        obtain ⟨c5, f5, z5⟩ := blk_at B5
        clear BS BT BL BB B5 hL hS
        go_wp2_with fail
        refine (w_compareFigures _ _ _ _ HFg.out HFgb.out _).mono ?_
        rintro e w4 ⟨rfl, hL4⟩
        rw [HC.out]
        have HL4 := Lib.hid hL4
        clear cL fL zL cB fB zB c5 f5 z5 hL4
        obtain ⟨cL, fL, zL⟩ := blk_at (HL4.out.keep HBL.out)
        obtain ⟨cB, fB, zB⟩ := blk_at (HL4.out.keep HBB.out)
        obtain ⟨c5, f5, z5⟩ := blk_at (HL4.out.keep HB5.out)
        go_wp2
        first
          | refine bodyPost_ret (results_none rfl _ _ _) rfl ?_
          | go_end0
        refine ⟨rfl, ?_, (((Ex.of (HLc.out.trans HL4.out)).trans (Ex.setCell _ _ _ _ (.inr rfl))).trans (Ex.setCell _ _ _ _ (.inr rfl))).trans (Ex.setCell _ _ _ _ (.inl rfl))⟩
        rw [HU.out]
        refine ⟨?_, ?_⟩
        · show (World.heap _)[kL]? = some (.cells #[.int .i64 (aw s t n)] _ _)
          rw [HAn.out]
          exact one_set (other_set (other_set (HL4.out.keep HBL.out) hne _) hne _) _
        · show (World.heap _)[kB]? = some (.cells #[.int .i64 (atF n).d, .int .i64 (atF n).t] _ _)
          rw [HFn.out]
          exact other_set (two_set (HL4.out.keep HBB.out) _ _) (Ne.symm hne) _
      · refine .cons ?_ (.cons ?_ (.cons ?_ (.cons ?_ (.cons ?_ (.cons ?_ .nil)))))
        · unfold SlotStep
          intro g ac wc hn hk hr hI K' hK
          obtain ⟨x1, x2, x3, x4, x5, i0, i1, i2, i3, i4, i5, hL, hS, BS, BT, B5, BL, BB⟩ := hI
          simp only [Region.binds] at hr
          simp at hr
          replace hK := Lib.hid hK
          replace i0 := Lib.hid i0
          replace i1 := Lib.hid i1
          replace i2 := Lib.hid i2
          replace i3 := Lib.hid i3
          replace i4 := Lib.hid i4
          replace i5 := Lib.hid i5
          have hbb := blk_at BS
          have c0 := hbb.1
          have f0 := hbb.2.1
          have z0 := hbb.2.2
          clear hbb
          go_simp
          exact hK.out _ _ ⟨(keepB x1 (by decide)), (keepB x2 (by decide)), (keepB x3 (by decide)), (keepB x4 (by decide)), (keepB x5 (by decide)), (fun _ => put_eq (by omega)), (keepF i1.out (by decide)), (keepF i2.out (by decide)), (keepF i3.out (by decide)), (keepF i4.out (by decide)), (keepF i5.out (by decide)), hL, hS, BS, BT, B5, BL, BB⟩
        · unfold SlotStep
          intro g ac wc hn hk hr hI K' hK
          obtain ⟨x1, x2, x3, x4, x5, i0, i1, i2, i3, i4, i5, hL, hS, BS, BT, B5, BL, BB⟩ := hI
          simp only [Region.binds] at hr
          simp at hr
          replace hK := Lib.hid hK
          replace i0 := Lib.hid i0
          replace i1 := Lib.hid i1
          replace i2 := Lib.hid i2
          replace i3 := Lib.hid i3
          replace i4 := Lib.hid i4
          replace i5 := Lib.hid i5
          have hbb := blk_at B5
          have c0 := hbb.1
          have f0 := hbb.2.1
          have z0 := hbb.2.2
          clear hbb
          go_simp
          exact hK.out _ _ ⟨(keepB x1 (by decide)), (keepB x2 (by decide)), (keepB x3 (by decide)), (keepB x4 (by decide)), (keepB x5 (by decide)), (keepF i0.out (by decide)), (fun _ => put_eq (by omega)), (keepF i2.out (by decide)), (keepF i3.out (by decide)), (keepF i4.out (by decide)), (keepF i5.out (by decide)), hL, hS, BS, BT, B5, BL, BB⟩
        · unfold SlotStep
          intro g ac wc hn hk hr hI K' hK
          obtain ⟨x1, x2, x3, x4, x5, i0, i1, i2, i3, i4, i5, hL, hS, BS, BT, B5, BL, BB⟩ := hI
          simp only [Region.binds] at hr
          simp at hr
          replace hK := Lib.hid hK
          have y0 := i0 (by first | exact hr | exact hr.1 | exact hr.2 | exact hr.2.1 | exact hr.2.2 | exact hr.2.2.1 | exact hr.2.2.2 | simp [hr])
          have y1 := i1 (by first | exact hr | exact hr.1 | exact hr.2 | exact hr.2.1 | exact hr.2.2 | exact hr.2.2.1 | exact hr.2.2.2 | simp [hr])
          replace i0 := Lib.hid i0
          replace i1 := Lib.hid i1
          replace i2 := Lib.hid i2
          replace i3 := Lib.hid i3
          replace i4 := Lib.hid i4
          replace i5 := Lib.hid i5
          go_simp
          refine (w_implPoint _ _ _ s1 s2 d1 d2 (by omega) (by omega) _).mono ?_
          rintro e w4 ⟨rfl, hL4⟩
          rw [HX.out]
          exact hK.out _ _ ⟨(keepB x1 (by decide)), (keepB x2 (by decide)), (keepB x3 (by decide)), (keepB x4 (by decide)), (keepB x5 (by decide)), (keepF i0.out (by decide)), (keepF i1.out (by decide)), (fun _ => put_eq (by omega)), (keepF i3.out (by decide)), (keepF i4.out (by decide)), (keepF i5.out (by decide)), hL.trans hL4, Nat.le_trans hS hL4.size, hL4.keep BS, hL4.keep BT, hL4.keep B5, hL4.keep BL, hL4.keep BB⟩
        · unfold SlotStep
          intro g ac wc hn hk hr hI K' hK
          obtain ⟨x1, x2, x3, x4, x5, i0, i1, i2, i3, i4, i5, hL, hS, BS, BT, B5, BL, BB⟩ := hI
          simp only [Region.binds] at hr
          simp at hr
          replace hK := Lib.hid hK
          replace i0 := Lib.hid i0
          replace i1 := Lib.hid i1
          replace i2 := Lib.hid i2
          replace i3 := Lib.hid i3
          replace i4 := Lib.hid i4
          replace i5 := Lib.hid i5
          have hbb := blk_at BT
          have c0 := hbb.1
          have f0 := hbb.2.1
          have z0 := hbb.2.2
          clear hbb
          go_simp
          exact hK.out _ _ ⟨(keepB x1 (by decide)), (keepB x2 (by decide)), (keepB x3 (by decide)), (keepB x4 (by decide)), (keepB x5 (by decide)), (keepF i0.out (by decide)), (keepF i1.out (by decide)), (keepF i2.out (by decide)), (fun _ => put_eq (by omega)), (keepF i4.out (by decide)), (keepF i5.out (by decide)), hL, hS, BS, BT, B5, BL, BB⟩
        · unfold SlotStep
          intro g ac wc hn hk hr hI K' hK
          obtain ⟨x1, x2, x3, x4, x5, i0, i1, i2, i3, i4, i5, hL, hS, BS, BT, B5, BL, BB⟩ := hI
          simp only [Region.binds] at hr
          simp at hr
          replace hK := Lib.hid hK
          have y2 := i2 (by first | exact hr | exact hr.1 | exact hr.2 | exact hr.2.1 | exact hr.2.2 | exact hr.2.2.1 | exact hr.2.2.2 | simp [hr])
          have y3 := i3 (by first | exact hr | exact hr.1 | exact hr.2 | exact hr.2.1 | exact hr.2.2 | exact hr.2.2.1 | exact hr.2.2.2 | simp [hr])
          replace i0 := Lib.hid i0
          replace i1 := Lib.hid i1
          replace i2 := Lib.hid i2
          replace i3 := Lib.hid i3
          replace i4 := Lib.hid i4
          replace i5 := Lib.hid i5
          go_simp
          refine (w_distance _ _ (by omega) (by omega) (by omega) (by omega) _).mono ?_
          rintro e w4 ⟨rfl, rfl⟩
          rw [HA.out]
          exact hK.out _ _ ⟨(keepB x1 (by decide)), (keepB x2 (by decide)), (keepB x3 (by decide)), (keepB x4 (by decide)), (keepB x5 (by decide)), (keepF i0.out (by decide)), (keepF i1.out (by decide)), (keepF i2.out (by decide)), (keepF i3.out (by decide)), (fun _ => put_eq (by omega)), (keepF i5.out (by decide)), hL, hS, BS, BT, B5, BL, BB⟩
        · unfold SlotStep
          intro g ac wc hn hk hr hI K' hK
          obtain ⟨x1, x2, x3, x4, x5, i0, i1, i2, i3, i4, i5, hL, hS, BS, BT, B5, BL, BB⟩ := hI
          simp only [Region.binds] at hr
          simp at hr
          replace hK := Lib.hid hK
          have y4 := i4 (by first | exact hr | exact hr.1 | exact hr.2 | exact hr.2.1 | exact hr.2.2 | exact hr.2.2.1 | exact hr.2.2.2 | simp [hr])
          replace i0 := Lib.hid i0
          replace i1 := Lib.hid i1
          replace i2 := Lib.hid i2
          replace i3 := Lib.hid i3
          replace i4 := Lib.hid i4
          replace i5 := Lib.hid i5
          go_simp
          exact hK.out _ _ ⟨(keepB x1 (by decide)), (keepB x2 (by decide)), (keepB x3 (by decide)), (keepB x4 (by decide)), (keepB x5 (by decide)), (keepF i0.out (by decide)), (keepF i1.out (by decide)), (keepF i2.out (by decide)), (keepF i3.out (by decide)), (keepF i4.out (by decide)), (fun _ => put_eq (by omega)), hL, hS, BS, BT, B5, BL, BB⟩
    · have HU := Lib.hid (hu3 heq hnb)
      have hc : ¬ C < 0 := fun h => hnb (hcmp.1 h)
      subst heq
      clear hu1 hu2 hu3 hu4 hcmp hnb
      go_enter Try.func117, Try.ntmps117
      go_wp2_with fail
      refine wp_name ?_
      intro z hz
      have hLz : Later w z := by rw [hz]; exact (Later.refl _).alloc _
      have hSB := hLz.size
      have K5 : z.heap[w.heap.size]? = some (.cells #[.int .i64 d, .int .i64 f] 29 (0, 0)) := by rw [hz]; exact heap_alloc_new _ _
      have KS := hLz.keep hS
      have KT := hLz.keep hT
      have KL := hLz.keep hB.1
      have KB := hLz.keep hB.2
      clear hz hS hT hB
      refine region_slots 32 [7, 8, 9, 10, 11, 6] (fun g ac wc => sl ac 1 = .pointer (some ⟨kS, 0, none⟩) ∧
        sl ac 2 = .pointer (some ⟨kT, 0, none⟩) ∧
        sl ac 3 = .pointer (some ⟨kL, 0, none⟩) ∧
        sl ac 4 = .pointer (some ⟨kB, 0, none⟩) ∧
        sl ac 5 = .pointer (some ⟨w.heap.size, 0, none⟩) ∧
        (g 0 = true → sl ac 7 = .int .i64 s) ∧
        (g 1 = true → sl ac 8 = .agg #[.int .i64 d, .int .i64 f]) ∧
        (g 2 = true → sl ac 9 = .int .i64 X) ∧
        (g 3 = true → sl ac 10 = .int .i64 t) ∧
        (g 4 = true → sl ac 11 = .int .i64 A) ∧
        (g 5 = true → sl ac 6 = .int .i64 A) ∧
        Later w wc ∧
        z.heap.size ≤ wc.heap.size ∧
        wc.heap[kS]? = some (.cells #[.int .i64 s] 2 (0, 0)) ∧
        wc.heap[kT]? = some (.cells #[.int .i64 t] 2 (0, 0)) ∧
        wc.heap[w.heap.size]? = some (.cells #[.int .i64 d, .int .i64 f] 29 (0, 0)) ∧
        wc.heap[kL]? = some (.cells #[.int .i64 A] 2 (0, 0)) ∧
        wc.heap[kB]? = some (.cells #[.int .i64 bd, .int .i64 bf] 29 (0, 0))) (by kernel_rfl) (by kernel_rfl) rfl (by kernel_rfl) ?_ ?_ ?_
      · exact ⟨rfl, rfl, rfl, rfl, rfl, nofun, nofun, nofun, nofun, nofun, nofun, hLz.drew, Nat.le_refl _, KS, KT, K5, KL, KB⟩
      · intro g ac wc hg ha hI
        obtain ⟨x1, x2, x3, x4, x5, i0, i1, i2, i3, i4, i5, hL, hS, BS, BT, B5, BL, BB⟩ := hI
        have a0 := i0 (hg 0 (by simp))
        have a1 := i1 (hg 1 (by simp))
        have a2 := i2 (hg 2 (by simp))
        have a3 := i3 (hg 3 (by simp))
        have a4 := i4 (hg 4 (by simp))
        have a5 := i5 (hg 5 (by simp))
        simp only [putAll, a0, a1, a2, a3, a4, a5] at ha
        simp only [Act.put, List.setIfInBounds_toArray, List.set_cons_succ, List.set_cons_zero] at ha
        rw [ha]
        clear x1 x2 x3 x4 x5 i0 i1 i2 i3 i4 i5 a0 a1 a2 a3 a4 a5 hg ha
        have HBL := Lib.hid BL
        have HBB := Lib.hid BB
        have HB5 := Lib.hid B5
        have HLc := Lib.hid hL
        obtain ⟨cL, fL, zL⟩ := blk_at BL
        obtain ⟨cB, fB, zB⟩ := blk_at BB
        obtain ⟨c5, f5, z5⟩ := blk_at B5
        clear BS BT BL BB B5 hL hS
        go_wp2_with fail
        refine (w_compareFigures _ _ _ _ HFg.out HFgb.out _).mono ?_
        rintro e w4 ⟨rfl, hL4⟩
        rw [HC.out]
        have HL4 := Lib.hid hL4
        clear cL fL zL cB fB zB c5 f5 z5 hL4
        obtain ⟨cL, fL, zL⟩ := blk_at (HL4.out.keep HBL.out)
        obtain ⟨cB, fB, zB⟩ := blk_at (HL4.out.keep HBB.out)
        obtain ⟨c5, f5, z5⟩ := blk_at (HL4.out.keep HB5.out)
        go_wp2
        first
          | refine bodyPost_ret (results_none rfl _ _ _) rfl ?_
          | go_end0
        refine ⟨rfl, ?_, Ex.of (HLc.out.trans HL4.out)⟩
        rw [HU.out]
        refine ⟨?_, ?_⟩
        · show (World.heap _)[kL]? = some (.cells #[.int .i64 (aw s t b)] _ _)
          rw [HAb.out]
          exact (HL4.out.keep HBL.out)
        · show (World.heap _)[kB]? = some (.cells #[.int .i64 (atF b).d, .int .i64 (atF b).t] _ _)
          rw [HFb.out]
          exact (HL4.out.keep HBB.out)
      · refine .cons ?_ (.cons ?_ (.cons ?_ (.cons ?_ (.cons ?_ (.cons ?_ .nil)))))
        · unfold SlotStep
          intro g ac wc hn hk hr hI K' hK
          obtain ⟨x1, x2, x3, x4, x5, i0, i1, i2, i3, i4, i5, hL, hS, BS, BT, B5, BL, BB⟩ := hI
          simp only [Region.binds] at hr
          simp at hr
          replace hK := Lib.hid hK
          replace i0 := Lib.hid i0
          replace i1 := Lib.hid i1
          replace i2 := Lib.hid i2
          replace i3 := Lib.hid i3
          replace i4 := Lib.hid i4
          replace i5 := Lib.hid i5
          have hbb := blk_at BS
          have c0 := hbb.1
          have f0 := hbb.2.1
          have z0 := hbb.2.2
          clear hbb
          go_simp
          exact hK.out _ _ ⟨(keepB x1 (by decide)), (keepB x2 (by decide)), (keepB x3 (by decide)), (keepB x4 (by decide)), (keepB x5 (by decide)), (fun _ => put_eq (by omega)), (keepF i1.out (by decide)), (keepF i2.out (by decide)), (keepF i3.out (by decide)), (keepF i4.out (by decide)), (keepF i5.out (by decide)), hL, hS, BS, BT, B5, BL, BB⟩
        · unfold SlotStep
          intro g ac wc hn hk hr hI K' hK
          obtain ⟨x1, x2, x3, x4, x5, i0, i1, i2, i3, i4, i5, hL, hS, BS, BT, B5, BL, BB⟩ := hI
          simp only [Region.binds] at hr
          simp at hr
          replace hK := Lib.hid hK
          replace i0 := Lib.hid i0
          replace i1 := Lib.hid i1
          replace i2 := Lib.hid i2
          replace i3 := Lib.hid i3
          replace i4 := Lib.hid i4
          replace i5 := Lib.hid i5
          have hbb := blk_at B5
          have c0 := hbb.1
          have f0 := hbb.2.1
          have z0 := hbb.2.2
          clear hbb
          go_simp
          exact hK.out _ _ ⟨(keepB x1 (by decide)), (keepB x2 (by decide)), (keepB x3 (by decide)), (keepB x4 (by decide)), (keepB x5 (by decide)), (keepF i0.out (by decide)), (fun _ => put_eq (by omega)), (keepF i2.out (by decide)), (keepF i3.out (by decide)), (keepF i4.out (by decide)), (keepF i5.out (by decide)), hL, hS, BS, BT, B5, BL, BB⟩
        · unfold SlotStep
          intro g ac wc hn hk hr hI K' hK
          obtain ⟨x1, x2, x3, x4, x5, i0, i1, i2, i3, i4, i5, hL, hS, BS, BT, B5, BL, BB⟩ := hI
          simp only [Region.binds] at hr
          simp at hr
          replace hK := Lib.hid hK
          have y0 := i0 (by first | exact hr | exact hr.1 | exact hr.2 | exact hr.2.1 | exact hr.2.2 | exact hr.2.2.1 | exact hr.2.2.2 | simp [hr])
          have y1 := i1 (by first | exact hr | exact hr.1 | exact hr.2 | exact hr.2.1 | exact hr.2.2 | exact hr.2.2.1 | exact hr.2.2.2 | simp [hr])
          replace i0 := Lib.hid i0
          replace i1 := Lib.hid i1
          replace i2 := Lib.hid i2
          replace i3 := Lib.hid i3
          replace i4 := Lib.hid i4
          replace i5 := Lib.hid i5
          go_simp
          refine (w_implPoint _ _ _ s1 s2 d1 d2 (by omega) (by omega) _).mono ?_
          rintro e w4 ⟨rfl, hL4⟩
          rw [HX.out]
          exact hK.out _ _ ⟨(keepB x1 (by decide)), (keepB x2 (by decide)), (keepB x3 (by decide)), (keepB x4 (by decide)), (keepB x5 (by decide)), (keepF i0.out (by decide)), (keepF i1.out (by decide)), (fun _ => put_eq (by omega)), (keepF i3.out (by decide)), (keepF i4.out (by decide)), (keepF i5.out (by decide)), hL.trans hL4, Nat.le_trans hS hL4.size, hL4.keep BS, hL4.keep BT, hL4.keep B5, hL4.keep BL, hL4.keep BB⟩
        · unfold SlotStep
          intro g ac wc hn hk hr hI K' hK
          obtain ⟨x1, x2, x3, x4, x5, i0, i1, i2, i3, i4, i5, hL, hS, BS, BT, B5, BL, BB⟩ := hI
          simp only [Region.binds] at hr
          simp at hr
          replace hK := Lib.hid hK
          replace i0 := Lib.hid i0
          replace i1 := Lib.hid i1
          replace i2 := Lib.hid i2
          replace i3 := Lib.hid i3
          replace i4 := Lib.hid i4
          replace i5 := Lib.hid i5
          have hbb := blk_at BT
          have c0 := hbb.1
          have f0 := hbb.2.1
          have z0 := hbb.2.2
          clear hbb
          go_simp
          exact hK.out _ _ ⟨(keepB x1 (by decide)), (keepB x2 (by decide)), (keepB x3 (by decide)), (keepB x4 (by decide)), (keepB x5 (by decide)), (keepF i0.out (by decide)), (keepF i1.out (by decide)), (keepF i2.out (by decide)), (fun _ => put_eq (by omega)), (keepF i4.out (by decide)), (keepF i5.out (by decide)), hL, hS, BS, BT, B5, BL, BB⟩
        · unfold SlotStep
          intro g ac wc hn hk hr hI K' hK
          obtain ⟨x1, x2, x3, x4, x5, i0, i1, i2, i3, i4, i5, hL, hS, BS, BT, B5, BL, BB⟩ := hI
          simp only [Region.binds] at hr
          simp at hr
          replace hK := Lib.hid hK
          have y2 := i2 (by first | exact hr | exact hr.1 | exact hr.2 | exact hr.2.1 | exact hr.2.2 | exact hr.2.2.1 | exact hr.2.2.2 | simp [hr])
          have y3 := i3 (by first | exact hr | exact hr.1 | exact hr.2 | exact hr.2.1 | exact hr.2.2 | exact hr.2.2.1 | exact hr.2.2.2 | simp [hr])
          replace i0 := Lib.hid i0
          replace i1 := Lib.hid i1
          replace i2 := Lib.hid i2
          replace i3 := Lib.hid i3
          replace i4 := Lib.hid i4
          replace i5 := Lib.hid i5
          go_simp
          refine (w_distance _ _ (by omega) (by omega) (by omega) (by omega) _).mono ?_
          rintro e w4 ⟨rfl, rfl⟩
          rw [HA.out]
          exact hK.out _ _ ⟨(keepB x1 (by decide)), (keepB x2 (by decide)), (keepB x3 (by decide)), (keepB x4 (by decide)), (keepB x5 (by decide)), (keepF i0.out (by decide)), (keepF i1.out (by decide)), (keepF i2.out (by decide)), (keepF i3.out (by decide)), (fun _ => put_eq (by omega)), (keepF i5.out (by decide)), hL, hS, BS, BT, B5, BL, BB⟩
        · unfold SlotStep
          intro g ac wc hn hk hr hI K' hK
          obtain ⟨x1, x2, x3, x4, x5, i0, i1, i2, i3, i4, i5, hL, hS, BS, BT, B5, BL, BB⟩ := hI
          simp only [Region.binds] at hr
          simp at hr
          replace hK := Lib.hid hK
          have y4 := i4 (by first | exact hr | exact hr.1 | exact hr.2 | exact hr.2.1 | exact hr.2.2 | exact hr.2.2.1 | exact hr.2.2.2 | simp [hr])
          replace i0 := Lib.hid i0
          replace i1 := Lib.hid i1
          replace i2 := Lib.hid i2
          replace i3 := Lib.hid i3
          replace i4 := Lib.hid i4
          replace i5 := Lib.hid i5
          go_simp
          exact hK.out _ _ ⟨(keepB x1 (by decide)), (keepB x2 (by decide)), (keepB x3 (by decide)), (keepB x4 (by decide)), (keepB x5 (by decide)), (keepF i0.out (by decide)), (keepF i1.out (by decide)), (keepF i2.out (by decide)), (keepF i3.out (by decide)), (keepF i4.out (by decide)), (fun _ => put_eq (by omega)), hL, hS, BS, BT, B5, BL, BB⟩
  · have HU := Lib.hid (hu4 hgt)
    clear hu1 hu2 hu3 hu4 hcmp
    go_enter Try.func117, Try.ntmps117
    go_wp2_with fail
    refine wp_name ?_
    intro z hz
    have hLz : Later w z := by rw [hz]; exact (Later.refl _).alloc _
    have hSB := hLz.size
    have K5 : z.heap[w.heap.size]? = some (.cells #[.int .i64 d, .int .i64 f] 29 (0, 0)) := by rw [hz]; exact heap_alloc_new _ _
    have KS := hLz.keep hS
    have KT := hLz.keep hT
    have KL := hLz.keep hB.1
    have KB := hLz.keep hB.2
    clear hz hS hT hB
    refine region_slots 32 [7, 8, 9, 10, 11, 6] (fun g ac wc => sl ac 1 = .pointer (some ⟨kS, 0, none⟩) ∧
      sl ac 2 = .pointer (some ⟨kT, 0, none⟩) ∧
      sl ac 3 = .pointer (some ⟨kL, 0, none⟩) ∧
      sl ac 4 = .pointer (some ⟨kB, 0, none⟩) ∧
      sl ac 5 = .pointer (some ⟨w.heap.size, 0, none⟩) ∧
      (g 0 = true → sl ac 7 = .int .i64 s) ∧
      (g 1 = true → sl ac 8 = .agg #[.int .i64 d, .int .i64 f]) ∧
      (g 2 = true → sl ac 9 = .int .i64 X) ∧
      (g 3 = true → sl ac 10 = .int .i64 t) ∧
      (g 4 = true → sl ac 11 = .int .i64 A) ∧
      (g 5 = true → sl ac 6 = .int .i64 A) ∧
      Later w wc ∧
      z.heap.size ≤ wc.heap.size ∧
      wc.heap[kS]? = some (.cells #[.int .i64 s] 2 (0, 0)) ∧
      wc.heap[kT]? = some (.cells #[.int .i64 t] 2 (0, 0)) ∧
      wc.heap[w.heap.size]? = some (.cells #[.int .i64 d, .int .i64 f] 29 (0, 0)) ∧
      wc.heap[kL]? = some (.cells #[.int .i64 L0] 2 (0, 0)) ∧
      wc.heap[kB]? = some (.cells #[.int .i64 bd, .int .i64 bf] 29 (0, 0))) (by kernel_rfl) (by kernel_rfl) rfl (by kernel_rfl) ?_ ?_ ?_
    · exact ⟨rfl, rfl, rfl, rfl, rfl, nofun, nofun, nofun, nofun, nofun, nofun, hLz.drew, Nat.le_refl _, KS, KT, K5, KL, KB⟩
    · intro g ac wc hg ha hI
      obtain ⟨x1, x2, x3, x4, x5, i0, i1, i2, i3, i4, i5, hL, hS, BS, BT, B5, BL, BB⟩ := hI
      have a0 := i0 (hg 0 (by simp))
      have a1 := i1 (hg 1 (by simp))
      have a2 := i2 (hg 2 (by simp))
      have a3 := i3 (hg 3 (by simp))
      have a4 := i4 (hg 4 (by simp))
      have a5 := i5 (hg 5 (by simp))
      simp only [putAll, a0, a1, a2, a3, a4, a5] at ha
      simp only [Act.put, List.setIfInBounds_toArray, List.set_cons_succ, List.set_cons_zero] at ha
      rw [ha]
      clear x1 x2 x3 x4 x5 i0 i1 i2 i3 i4 i5 a0 a1 a2 a3 a4 a5 hg ha
      have HBL := Lib.hid BL
      have HBB := Lib.hid BB
      have HB5 := Lib.hid B5
      have HLc := Lib.hid hL
      obtain ⟨cL, fL, zL⟩ := blk_at BL
      obtain ⟨cB, fB, zB⟩ := blk_at BB
      obtain ⟨c5, f5, z5⟩ := blk_at B5
      clear BS BT BL BB B5 hL hS
      go_wp2
      first
        | refine bodyPost_ret (results_none rfl _ _ _) rfl ?_
        | go_end0
      refine ⟨rfl, ?_, Ex.of HLc.out⟩
      rw [HU.out]
      refine ⟨?_, ?_⟩
      · show (World.heap _)[kL]? = some (.cells #[.int .i64 (aw s t b)] _ _)
        rw [HAb.out]
        exact HBL.out
      · show (World.heap _)[kB]? = some (.cells #[.int .i64 (atF b).d, .int .i64 (atF b).t] _ _)
        rw [HFb.out]
        exact HBB.out
    · refine .cons ?_ (.cons ?_ (.cons ?_ (.cons ?_ (.cons ?_ (.cons ?_ .nil)))))
      · unfold SlotStep
        intro g ac wc hn hk hr hI K' hK
        obtain ⟨x1, x2, x3, x4, x5, i0, i1, i2, i3, i4, i5, hL, hS, BS, BT, B5, BL, BB⟩ := hI
        simp only [Region.binds] at hr
        simp at hr
        replace hK := Lib.hid hK
        replace i0 := Lib.hid i0
        replace i1 := Lib.hid i1
        replace i2 := Lib.hid i2
        replace i3 := Lib.hid i3
        replace i4 := Lib.hid i4
        replace i5 := Lib.hid i5
        have hbb := blk_at BS
        have c0 := hbb.1
        have f0 := hbb.2.1
        have z0 := hbb.2.2
        clear hbb
        go_simp
        exact hK.out _ _ ⟨(keepB x1 (by decide)), (keepB x2 (by decide)), (keepB x3 (by decide)), (keepB x4 (by decide)), (keepB x5 (by decide)), (fun _ => put_eq (by omega)), (keepF i1.out (by decide)), (keepF i2.out (by decide)), (keepF i3.out (by decide)), (keepF i4.out (by decide)), (keepF i5.out (by decide)), hL, hS, BS, BT, B5, BL, BB⟩
      · unfold SlotStep
        intro g ac wc hn hk hr hI K' hK
        obtain ⟨x1, x2, x3, x4, x5, i0, i1, i2, i3, i4, i5, hL, hS, BS, BT, B5, BL, BB⟩ := hI
        simp only [Region.binds] at hr
        simp at hr
        replace hK := Lib.hid hK
        replace i0 := Lib.hid i0
        replace i1 := Lib.hid i1
        replace i2 := Lib.hid i2
        replace i3 := Lib.hid i3
        replace i4 := Lib.hid i4
        replace i5 := Lib.hid i5
        have hbb := blk_at B5
        have c0 := hbb.1
        have f0 := hbb.2.1
        have z0 := hbb.2.2
        clear hbb
        go_simp
        exact hK.out _ _ ⟨(keepB x1 (by decide)), (keepB x2 (by decide)), (keepB x3 (by decide)), (keepB x4 (by decide)), (keepB x5 (by decide)), (keepF i0.out (by decide)), (fun _ => put_eq (by omega)), (keepF i2.out (by decide)), (keepF i3.out (by decide)), (keepF i4.out (by decide)), (keepF i5.out (by decide)), hL, hS, BS, BT, B5, BL, BB⟩
      · unfold SlotStep
        intro g ac wc hn hk hr hI K' hK
        obtain ⟨x1, x2, x3, x4, x5, i0, i1, i2, i3, i4, i5, hL, hS, BS, BT, B5, BL, BB⟩ := hI
        simp only [Region.binds] at hr
        simp at hr
        replace hK := Lib.hid hK
        have y0 := i0 (by first | exact hr | exact hr.1 | exact hr.2 | exact hr.2.1 | exact hr.2.2 | exact hr.2.2.1 | exact hr.2.2.2 | simp [hr])
        have y1 := i1 (by first | exact hr | exact hr.1 | exact hr.2 | exact hr.2.1 | exact hr.2.2 | exact hr.2.2.1 | exact hr.2.2.2 | simp [hr])
        replace i0 := Lib.hid i0
        replace i1 := Lib.hid i1
        replace i2 := Lib.hid i2
        replace i3 := Lib.hid i3
        replace i4 := Lib.hid i4
        replace i5 := Lib.hid i5
        go_simp
        refine (w_implPoint _ _ _ s1 s2 d1 d2 (by omega) (by omega) _).mono ?_
        rintro e w4 ⟨rfl, hL4⟩
        rw [HX.out]
        exact hK.out _ _ ⟨(keepB x1 (by decide)), (keepB x2 (by decide)), (keepB x3 (by decide)), (keepB x4 (by decide)), (keepB x5 (by decide)), (keepF i0.out (by decide)), (keepF i1.out (by decide)), (fun _ => put_eq (by omega)), (keepF i3.out (by decide)), (keepF i4.out (by decide)), (keepF i5.out (by decide)), hL.trans hL4, Nat.le_trans hS hL4.size, hL4.keep BS, hL4.keep BT, hL4.keep B5, hL4.keep BL, hL4.keep BB⟩
      · unfold SlotStep
        intro g ac wc hn hk hr hI K' hK
        obtain ⟨x1, x2, x3, x4, x5, i0, i1, i2, i3, i4, i5, hL, hS, BS, BT, B5, BL, BB⟩ := hI
        simp only [Region.binds] at hr
        simp at hr
        replace hK := Lib.hid hK
        replace i0 := Lib.hid i0
        replace i1 := Lib.hid i1
        replace i2 := Lib.hid i2
        replace i3 := Lib.hid i3
        replace i4 := Lib.hid i4
        replace i5 := Lib.hid i5
        have hbb := blk_at BT
        have c0 := hbb.1
        have f0 := hbb.2.1
        have z0 := hbb.2.2
        clear hbb
        go_simp
        exact hK.out _ _ ⟨(keepB x1 (by decide)), (keepB x2 (by decide)), (keepB x3 (by decide)), (keepB x4 (by decide)), (keepB x5 (by decide)), (keepF i0.out (by decide)), (keepF i1.out (by decide)), (keepF i2.out (by decide)), (fun _ => put_eq (by omega)), (keepF i4.out (by decide)), (keepF i5.out (by decide)), hL, hS, BS, BT, B5, BL, BB⟩
      · unfold SlotStep
        intro g ac wc hn hk hr hI K' hK
        obtain ⟨x1, x2, x3, x4, x5, i0, i1, i2, i3, i4, i5, hL, hS, BS, BT, B5, BL, BB⟩ := hI
        simp only [Region.binds] at hr
        simp at hr
        replace hK := Lib.hid hK
        have y2 := i2 (by first | exact hr | exact hr.1 | exact hr.2 | exact hr.2.1 | exact hr.2.2 | exact hr.2.2.1 | exact hr.2.2.2 | simp [hr])
        have y3 := i3 (by first | exact hr | exact hr.1 | exact hr.2 | exact hr.2.1 | exact hr.2.2 | exact hr.2.2.1 | exact hr.2.2.2 | simp [hr])
        replace i0 := Lib.hid i0
        replace i1 := Lib.hid i1
        replace i2 := Lib.hid i2
        replace i3 := Lib.hid i3
        replace i4 := Lib.hid i4
        replace i5 := Lib.hid i5
        go_simp
        refine (w_distance _ _ (by omega) (by omega) (by omega) (by omega) _).mono ?_
        rintro e w4 ⟨rfl, rfl⟩
        rw [HA.out]
        exact hK.out _ _ ⟨(keepB x1 (by decide)), (keepB x2 (by decide)), (keepB x3 (by decide)), (keepB x4 (by decide)), (keepB x5 (by decide)), (keepF i0.out (by decide)), (keepF i1.out (by decide)), (keepF i2.out (by decide)), (keepF i3.out (by decide)), (fun _ => put_eq (by omega)), (keepF i5.out (by decide)), hL, hS, BS, BT, B5, BL, BB⟩
      · unfold SlotStep
        intro g ac wc hn hk hr hI K' hK
        obtain ⟨x1, x2, x3, x4, x5, i0, i1, i2, i3, i4, i5, hL, hS, BS, BT, B5, BL, BB⟩ := hI
        simp only [Region.binds] at hr
        simp at hr
        replace hK := Lib.hid hK
        have y4 := i4 (by first | exact hr | exact hr.1 | exact hr.2 | exact hr.2.1 | exact hr.2.2 | exact hr.2.2.1 | exact hr.2.2.2 | simp [hr])
        replace i0 := Lib.hid i0
        replace i1 := Lib.hid i1
        replace i2 := Lib.hid i2
        replace i3 := Lib.hid i3
        replace i4 := Lib.hid i4
        replace i5 := Lib.hid i5
        go_simp
        exact hK.out _ _ ⟨(keepB x1 (by decide)), (keepB x2 (by decide)), (keepB x3 (by decide)), (keepB x4 (by decide)), (keepB x5 (by decide)), (keepF i0.out (by decide)), (keepF i1.out (by decide)), (keepF i2.out (by decide)), (keepF i3.out (by decide)), (keepF i4.out (by decide)), (fun _ => put_eq (by omega)), hL, hS, BS, BT, B5, BL, BB⟩

theorem w_try (s t n : Int) (o : Option Int) (kS kT kL kB : Nat) (w : World) (s1 : 0 ≤ s) (s2 : s ≤ 4) (n0 : 0 ≤ n) (n1 : n < 9000 * decN s) (t1 : -4000000 ≤ t) (t2 : t ≤ 4000000)
    (hS : w.heap[kS]? = some (.cells #[.int .i64 s] 2 (0, 0))) (hT : w.heap[kT]? = some (.cells #[.int .i64 t] 2 (0, 0))) (hB : BestAt w kL kB s t o) (hb : ∀ b, o = some b → 0 ≤ b ∧ b < 9000 * decN s) (hne : kL ≠ kB) :
    Calls Try.prog 117 #[.agg #[.int .i64 (atF n).d, .int .i64 (atF n).t], .pointer (some ⟨kS, 0, none⟩), .pointer (some ⟨kT, 0, none⟩), .pointer (some ⟨kL, 0, none⟩), .pointer (some ⟨kB, 0, none⟩)] w fun e w' => e = .returned (.tuple #[]) ∧ BestAt w' kL kB s t (upd s t o n) ∧ Ex (Two kL kB) w w' := by
  cases o with
  | none => exact w_tryNone s t n kS kT kL kB w s1 s2 n0 n1 t1 t2 hS hT hB hne
  | some b => exact w_trySome s t n b kS kT kL kB w s1 s2 n0 n1 t1 t2 hS hT hB (hb b rfl).1 (hb b rfl).2 hne

end Go.Proofs.Ytfhppnmbmdpjeaa
