/- DERIVED. Walks: drawn figures. -/
import Derived.Test.YtgngbdacejghcaaGreatDoorKVM100
namespace Go.Proofs.YtgngbdacejghcaaGreatDoor
set_option linter.unusedVariables false
set_option linter.unusedSimpArgs false
open Go.RowKit
set_option maxRecDepth 100000
theorem Drawn.alloc {a w : World} {k : Nat} (h : Drawn a w k) (o : Obj) : Drawn a (w.alloc o) k := h.later ((Later.refl w).alloc o)
theorem Drawn.drew {a w : World} {k : Nat} (h : Drawn a w k) : Drawn a w.drew k := h.later (Later.refl w).drew
theorem Drawn.drewN {a w : World} {k : Nat} (h : Drawn a w k) (n : Nat) : Drawn a (w.drewN n) k := h.later ((Later.refl w).drewN n)
theorem Src.alloc {w : World} {k : Nat} {c : Value} (h : Src w k c) (o : Obj) : Src (w.alloc o) k c := h.later ((Later.refl w).alloc o)
theorem Src.drew {w : World} {k : Nat} {c : Value} (h : Src w k c) : Src w.drew k c := h.later (Later.refl w).drew
theorem Src.drewN {w : World} {k : Nat} {c : Value} (h : Src w k c) (n : Nat) : Src (w.drewN n) k c := h.later ((Later.refl w).drewN n)
theorem reads_new' (w : World) (b : Nat) (l : List Int) (hl : l.length ≤ 1048576) (hb : b = w.heap.size) : IsNums (w.alloc (.cells (nums l).toArray 2)) (.slice (some ⟨b, 0, none⟩) l.length l.length) l := by
 subst hb
 exact reads_new w l hl
theorem allIn_new {m k n c : Nat} (h : k < m) : AllIn (.slice (some ⟨m, 0, none⟩) n c) fun b => b ≠ k := by
 intro b off n' c' e _
 cases e
 omega
theorem qDr {a : World} {k : Option Nat} : World.grownBy a a k := grown_refl a k
theorem qDa {a w : World} {k : Nat} {o : Obj} (h : Drawn a w k) : Drawn a (w.alloc o) k := h.alloc o
theorem qDd {a w : World} {k : Nat} (h : Drawn a w k) : Drawn a w.drew k := h.drew
theorem qDe {a w : World} {k n : Nat} (h : Drawn a w k) : Drawn a (w.drewN n) k := h.drewN n
theorem qDs {a w : World} {k j o : Nat} {x : Value} (h : Drawn a w k) (hj : a.heap.size ≤ j := by first | omega | (simp; omega)) : Drawn a (w.setCell ⟨j, o, none⟩ x) k := h.setCell hj o x
theorem qSs {w : World} {k j o : Nat} {c x : Value} (h : Src w k c) (hj : k < j := by first | omega | (simp; omega)) : Src (w.setCell ⟨j, o, none⟩ x) k c := h.setCell hj o x
theorem qSa {w : World} {k : Nat} {c : Value} {o : Obj} (h : Src w k c) : Src (w.alloc o) k c := h.alloc o
theorem qSd {w : World} {k : Nat} {c : Value} (h : Src w k c) : Src w.drew k c := h.drew
theorem qSe {w : World} {k n : Nat} {c : Value} (h : Src w k c) : Src (w.drewN n) k c := h.drewN n
theorem st_0_2 {w : World} {k : Nat} {x0 x1 : Value} {T : TypeId} (h : w.heap[k]? = some (.cells #[x0, x1] T (0, 0))) (a : Value) :
 (w.setCell ⟨k, 0, none⟩ a).heap[k]? = some (.cells #[a, x1] T (0, 0)) := by
 rw [heap_setCell_same w k 0 _ T a h]
 rfl
theorem st_1_2 {w : World} {k : Nat} {x0 x1 : Value} {T : TypeId} (h : w.heap[k]? = some (.cells #[x0, x1] T (0, 0))) (a : Value) :
 (w.setCell ⟨k, 1, none⟩ a).heap[k]? = some (.cells #[x0, a] T (0, 0)) := by
 rw [heap_setCell_same w k 1 _ T a h]
 rfl
theorem st_0_3 {w : World} {k : Nat} {x0 x1 x2 : Value} {T : TypeId} (h : w.heap[k]? = some (.cells #[x0, x1, x2] T (0, 0))) (a : Value) :
 (w.setCell ⟨k, 0, none⟩ a).heap[k]? = some (.cells #[a, x1, x2] T (0, 0)) := by
 rw [heap_setCell_same w k 0 _ T a h]
 rfl
theorem st_1_3 {w : World} {k : Nat} {x0 x1 x2 : Value} {T : TypeId} (h : w.heap[k]? = some (.cells #[x0, x1, x2] T (0, 0))) (a : Value) :
 (w.setCell ⟨k, 1, none⟩ a).heap[k]? = some (.cells #[x0, a, x2] T (0, 0)) := by
 rw [heap_setCell_same w k 1 _ T a h]
 rfl
theorem st_2_3 {w : World} {k : Nat} {x0 x1 x2 : Value} {T : TypeId} (h : w.heap[k]? = some (.cells #[x0, x1, x2] T (0, 0))) (a : Value) :
 (w.setCell ⟨k, 2, none⟩ a).heap[k]? = some (.cells #[x0, x1, a] T (0, 0)) := by
 rw [heap_setCell_same w k 2 _ T a h]
 rfl
theorem st_0_4 {w : World} {k : Nat} {x0 x1 x2 x3 : Value} {T : TypeId} (h : w.heap[k]? = some (.cells #[x0, x1, x2, x3] T (0, 0))) (a : Value) :
 (w.setCell ⟨k, 0, none⟩ a).heap[k]? = some (.cells #[a, x1, x2, x3] T (0, 0)) := by
 rw [heap_setCell_same w k 0 _ T a h]
 rfl
theorem st_1_4 {w : World} {k : Nat} {x0 x1 x2 x3 : Value} {T : TypeId} (h : w.heap[k]? = some (.cells #[x0, x1, x2, x3] T (0, 0))) (a : Value) :
 (w.setCell ⟨k, 1, none⟩ a).heap[k]? = some (.cells #[x0, a, x2, x3] T (0, 0)) := by
 rw [heap_setCell_same w k 1 _ T a h]
 rfl
theorem st_2_4 {w : World} {k : Nat} {x0 x1 x2 x3 : Value} {T : TypeId} (h : w.heap[k]? = some (.cells #[x0, x1, x2, x3] T (0, 0))) (a : Value) :
 (w.setCell ⟨k, 2, none⟩ a).heap[k]? = some (.cells #[x0, x1, a, x3] T (0, 0)) := by
 rw [heap_setCell_same w k 2 _ T a h]
 rfl
theorem st_3_4 {w : World} {k : Nat} {x0 x1 x2 x3 : Value} {T : TypeId} (h : w.heap[k]? = some (.cells #[x0, x1, x2, x3] T (0, 0))) (a : Value) :
 (w.setCell ⟨k, 3, none⟩ a).heap[k]? = some (.cells #[x0, x1, x2, a] T (0, 0)) := by
 rw [heap_setCell_same w k 3 _ T a h]
 rfl
theorem qk0 {w : World} {k : Nat} {x0 x1 a : Value} {T : TypeId} (h : w.heap[k]? = some (.cells #[x0, x1] T (0, 0))) :
 (w.setCell ⟨k, 0, none⟩ a).heap[k]? = some (.cells #[a, x1] T (0, 0)) := st_0_2 h a
theorem qk1 {w : World} {k : Nat} {x0 x1 a : Value} {T : TypeId} (h : w.heap[k]? = some (.cells #[x0, x1] T (0, 0))) :
 (w.setCell ⟨k, 1, none⟩ a).heap[k]? = some (.cells #[x0, a] T (0, 0)) := st_1_2 h a
theorem qk2 {w : World} {k : Nat} {x0 x1 x2 a : Value} {T : TypeId} (h : w.heap[k]? = some (.cells #[x0, x1, x2] T (0, 0))) :
 (w.setCell ⟨k, 0, none⟩ a).heap[k]? = some (.cells #[a, x1, x2] T (0, 0)) := st_0_3 h a
theorem qk3 {w : World} {k : Nat} {x0 x1 x2 a : Value} {T : TypeId} (h : w.heap[k]? = some (.cells #[x0, x1, x2] T (0, 0))) :
 (w.setCell ⟨k, 1, none⟩ a).heap[k]? = some (.cells #[x0, a, x2] T (0, 0)) := st_1_3 h a
theorem qk4 {w : World} {k : Nat} {x0 x1 x2 a : Value} {T : TypeId} (h : w.heap[k]? = some (.cells #[x0, x1, x2] T (0, 0))) :
 (w.setCell ⟨k, 2, none⟩ a).heap[k]? = some (.cells #[x0, x1, a] T (0, 0)) := st_2_3 h a
theorem qk5 {w : World} {k : Nat} {x0 x1 x2 x3 a : Value} {T : TypeId} (h : w.heap[k]? = some (.cells #[x0, x1, x2, x3] T (0, 0))) :
 (w.setCell ⟨k, 0, none⟩ a).heap[k]? = some (.cells #[a, x1, x2, x3] T (0, 0)) := st_0_4 h a
theorem qk6 {w : World} {k : Nat} {x0 x1 x2 x3 a : Value} {T : TypeId} (h : w.heap[k]? = some (.cells #[x0, x1, x2, x3] T (0, 0))) :
 (w.setCell ⟨k, 1, none⟩ a).heap[k]? = some (.cells #[x0, a, x2, x3] T (0, 0)) := st_1_4 h a
theorem qk7 {w : World} {k : Nat} {x0 x1 x2 x3 a : Value} {T : TypeId} (h : w.heap[k]? = some (.cells #[x0, x1, x2, x3] T (0, 0))) :
 (w.setCell ⟨k, 2, none⟩ a).heap[k]? = some (.cells #[x0, x1, a, x3] T (0, 0)) := st_2_4 h a
theorem qk8 {w : World} {k : Nat} {x0 x1 x2 x3 a : Value} {T : TypeId} (h : w.heap[k]? = some (.cells #[x0, x1, x2, x3] T (0, 0))) :
 (w.setCell ⟨k, 3, none⟩ a).heap[k]? = some (.cells #[x0, x1, x2, a] T (0, 0)) := st_3_4 h a
theorem qkh {w : World} {k : Nat} {o : Obj} (h : w.heap[k]? = some o := by repeat (with_reducible first | (apply Hid.out; assumption) | exact heap_alloc_new _ _ | (apply qK; first | rfl | (simp; done)) | apply qKo | apply qk0 | apply qk1 | apply qk2 | apply qk3 | apply qk4 | apply qk5 | apply qk6 | apply qk7 | apply qk8 | (apply qKs; case hne => omega))) : w.heap[k]? = some o := h
theorem qdh {a w : World} {k : Nat} (h : Drawn a w k := by repeat (with_reducible first | assumption | exact qDr | refine qDa ?_ | refine qDd ?_ | refine qDe ?_ | refine qDs ?_)) : Drawn a w k := h
theorem qsh {w : World} {k : Nat} {c : Value} (h : Src w k c := by repeat (with_reducible first | assumption | refine qSa ?_ | refine qSd ?_ | refine qSe ?_ | refine qSs ?_)) : Src w k c := h
set_option maxHeartbeats 2000000 in
theorem w_l02Valid (k : Nat) (c : Value) (w : World) (h : Src w k c) :
 Calls Tryz.prog 95 #[.pointer (some ⟨k, 0, none⟩)] w fun e w' => ∃ f : Fig, e = .returned (.agg #[.int .i64 f.d, .int .i64 f.t]) ∧ (1000 ≤ f.d ∧ f.d ≤ 9999 ∧ -3 ≤ f.t ∧ f.t ≤ 3) ∧ Drawn w w' k ∧ Src w' k c := by
 have hk := h.lt
 go_enter Tryz.func95, Tryz.ntmps95
 go_wp2_with fail
 refine (w_l01Next k c 9000 _ (by repeat (with_reducible first | assumption | refine qSa ?_ | refine qSd ?_ | refine qSe ?_ | refine qSs ?_))).mono ?_
 rintro e w1 ⟨x1, rfl, x1a, x1b, hD, hS1⟩
 have hz1 : w.heap.size ≤ w1.heap.size := qsz hD.size
 have hD1 : Drawn w w1 k := Drawn.trans (by repeat (with_reducible first | assumption | exact qDr | refine qDa ?_ | refine qDd ?_ | refine qDe ?_ | refine qDs ?_)) hD
 have HK0_1 := Lib.hid (hD.keep (j := w.heap.size) (by repeat (with_reducible first | exact HK0_0.out | exact heap_alloc_new _ _ | (apply qK; first | rfl | (simp; done)) | apply qKo | apply qk0 | apply qk1 | apply qk2 | apply qk3 | apply qk4 | apply qk5 | apply qk6 | apply qk7 | apply qk8 | (apply qKs; case hne => omega))) (by omega))
 clear hD
 obtain ⟨c0, f0, z0_1⟩ := blk_at HK0_1.out
 go_wp2_with fail
 refine (w_l01Next k c 9000 _ (by repeat (with_reducible first | assumption | refine qSa ?_ | refine qSd ?_ | refine qSe ?_ | refine qSs ?_))).mono ?_
 rintro e w2 ⟨x2, rfl, x2a, x2b, hD, hS2⟩
 have hz2 : w1.heap.size ≤ w2.heap.size := qsz hD.size
 have hD2 : Drawn w w2 k := Drawn.trans (by repeat (with_reducible first | assumption | exact qDr | refine qDa ?_ | refine qDd ?_ | refine qDe ?_ | refine qDs ?_)) hD
 have HK0_2 := Lib.hid (hD.keep (j := w.heap.size) (by repeat (with_reducible first | exact HK0_1.out | exact heap_alloc_new _ _ | (apply qK; first | rfl | (simp; done)) | apply qKo | apply qk0 | apply qk1 | apply qk2 | apply qk3 | apply qk4 | apply qk5 | apply qk6 | apply qk7 | apply qk8 | (apply qKs; case hne => omega))) (by omega))
 clear hD c0 f0
 obtain ⟨c0, f0, z0_2⟩ := blk_at HK0_2.out
 go_wp2_with fail
 refine (w_l01Next k c 90 _ (by repeat (with_reducible first | assumption | refine qSa ?_ | refine qSd ?_ | refine qSe ?_ | refine qSs ?_))).mono ?_
 rintro e w3 ⟨x3, rfl, x3a, x3b, hD, hS3⟩
 have hz3 : w2.heap.size ≤ w3.heap.size := qsz hD.size
 have hD3 : Drawn w w3 k := Drawn.trans (by repeat (with_reducible first | assumption | exact qDr | refine qDa ?_ | refine qDd ?_ | refine qDe ?_ | refine qDs ?_)) hD
 have HK0_3 := Lib.hid (hD.keep (j := w.heap.size) (by repeat (with_reducible first | exact HK0_2.out | exact heap_alloc_new _ _ | (apply qK; first | rfl | (simp; done)) | apply qKo | apply qk0 | apply qk1 | apply qk2 | apply qk3 | apply qk4 | apply qk5 | apply qk6 | apply qk7 | apply qk8 | (apply qKs; case hne => omega))) (by omega))
 clear hD c0 f0
 obtain ⟨c0, f0, z0_3⟩ := blk_at HK0_3.out
 go_wp2_with fail
 refine (w_l01Next k c 9 _ (by repeat (with_reducible first | assumption | refine qSa ?_ | refine qSd ?_ | refine qSe ?_ | refine qSs ?_))).mono ?_
 rintro e w4 ⟨x4, rfl, x4a, x4b, hD, hS4⟩
 have hz4 : w3.heap.size ≤ w4.heap.size := qsz hD.size
 have hD4 : Drawn w w4 k := Drawn.trans (by repeat (with_reducible first | assumption | exact qDr | refine qDa ?_ | refine qDd ?_ | refine qDe ?_ | refine qDs ?_)) hD
 have HK0_4 := Lib.hid (hD.keep (j := w.heap.size) (by repeat (with_reducible first | exact HK0_3.out | exact heap_alloc_new _ _ | (apply qK; first | rfl | (simp; done)) | apply qKo | apply qk0 | apply qk1 | apply qk2 | apply qk3 | apply qk4 | apply qk5 | apply qk6 | apply qk7 | apply qk8 | (apply qKs; case hne => omega))) (by omega))
 clear hD c0 f0
 obtain ⟨c0, f0, z0_4⟩ := blk_at HK0_4.out
 go_wp2_with fail
 refine (w_l01Pick k c _ [1000 + x1, 1000 + x2, 100 * (10 + x3), 1000 * (1 + x4)] _ (by repeat (with_reducible first | assumption | refine qSa ?_ | refine qSd ?_ | refine qSe ?_ | refine qSs ?_)) (reads_new' _ _ [1000 + x1, 1000 + x2, 100 * (10 + x3), 1000 * (1 + x4)] (by simp) (by first | rfl | (simp; done))) (by simp) (allIn_new (by omega))).mono ?_
 rintro e w5 ⟨x5, rfl, x5m, hD, hS5⟩
 have hz5 : w4.heap.size ≤ w5.heap.size := qsz hD.size
 have hD5 : Drawn w w5 k := Drawn.trans (by repeat (with_reducible first | assumption | exact qDr | refine qDa ?_ | refine qDd ?_ | refine qDe ?_ | refine qDs ?_)) hD
 have HK0_5 := Lib.hid (hD.keep (j := w.heap.size) (by repeat (with_reducible first | exact HK0_4.out | exact heap_alloc_new _ _ | (apply qK; first | rfl | (simp; done)) | apply qKo | apply qk0 | apply qk1 | apply qk2 | apply qk3 | apply qk4 | apply qk5 | apply qk6 | apply qk7 | apply qk8 | (apply qKs; case hne => omega))) (by omega))
 clear hD c0 f0
 obtain ⟨c0, f0, z0_5⟩ := blk_at HK0_5.out
 go_wp2_with fail
 refine (w_l01Next k c 7 _ (by repeat (with_reducible first | assumption | refine qSa ?_ | refine qSd ?_ | refine qSe ?_ | refine qSs ?_))).mono ?_
 rintro e w6 ⟨x6, rfl, x6a, x6b, hD, hS6⟩
 have hz6 : w5.heap.size ≤ w6.heap.size := qsz hD.size
 have hD6 : Drawn w w6 k := Drawn.trans (by repeat (with_reducible first | assumption | exact qDr | refine qDa ?_ | refine qDd ?_ | refine qDe ?_ | refine qDs ?_)) hD
 have HK0_6 := Lib.hid (hD.keep (j := w.heap.size) (by repeat (with_reducible first | exact HK0_5.out | exact heap_alloc_new _ _ | (apply qK; first | rfl | (simp; done)) | apply qKo | apply qk0 | apply qk1 | apply qk2 | apply qk3 | apply qk4 | apply qk5 | apply qk6 | apply qk7 | apply qk8 | (apply qKs; case hne => omega))) (by omega))
 clear hD c0 f0
 obtain ⟨c0, f0, z0_6⟩ := blk_at HK0_6.out
 have hb5 : 1000 ≤ x5 ∧ x5 ≤ 9999 := by simp at x5m; omega
 go_wp2
 refine bodyPost_ret (v := .agg #[.int .i64 x5, .int .i64 (x6 - 3)]) (by simp [results, Tryz.results95, go_sem, c0, z0_6]) rfl ⟨⟨x5, x6 - 3⟩, rfl, ⟨hb5.1, hb5.2, by simp only; omega, by simp only; omega⟩, (by repeat (with_reducible first | assumption | exact qDr | refine qDa ?_ | refine qDd ?_ | refine qDe ?_ | refine qDs ?_)), (by repeat (with_reducible first | assumption | refine qSa ?_ | refine qSd ?_ | refine qSe ?_ | refine qSs ?_))⟩
set_option maxHeartbeats 2000000 in
theorem w_l02Draw (k : Nat) (c : Value) (w : World) (h : Src w k c) :
 Calls Tryz.prog 45 #[.pointer (some ⟨k, 0, none⟩)] w fun e w' => ∃ f : Fig, e = .returned (.agg #[.int .i64 f.d, .int .i64 f.t]) ∧ Drawn w w' k ∧ Src w' k c := by
 have hk := h.lt
 go_enter Tryz.func45, Tryz.ntmps45
 go_wp2_with fail
 refine (w_l02Valid k c _ (by repeat (with_reducible first | assumption | refine qSa ?_ | refine qSd ?_ | refine qSe ?_ | refine qSs ?_))).mono ?_
 rintro e w1 ⟨f, rfl, fb, hD, hS1⟩
 have hz1 : w.heap.size ≤ w1.heap.size := qsz hD.size
 have hD1 : Drawn w w1 k := Drawn.trans (by repeat (with_reducible first | assumption | exact qDr | refine qDa ?_ | refine qDd ?_ | refine qDe ?_ | refine qDs ?_)) hD
 have HK0_1 := Lib.hid (hD.keep (j := w.heap.size) (by repeat (with_reducible first | exact HK0_0.out | exact heap_alloc_new _ _ | (apply qK; first | rfl | (simp; done)) | apply qKo | apply qk0 | apply qk1 | apply qk2 | apply qk3 | apply qk4 | apply qk5 | apply qk6 | apply qk7 | apply qk8 | (apply qKs; case hne => omega))) (by omega))
 clear hD
 obtain ⟨c0, f0, z0_1⟩ := blk_at HK0_1.out
 go_wp2_with fail
 refine (w_l01Next k c 20 _ (by repeat (with_reducible first | assumption | refine qSa ?_ | refine qSd ?_ | refine qSe ?_ | refine qSs ?_))).mono ?_
 rintro e w2 ⟨x2, rfl, x2a, x2b, hD, hS2⟩
 have hz2 : w1.heap.size ≤ w2.heap.size := qsz hD.size
 have hD2 : Drawn w w2 k := Drawn.trans (by repeat (with_reducible first | assumption | exact qDr | refine qDa ?_ | refine qDd ?_ | refine qDe ?_ | refine qDs ?_)) hD
 have HK0_2 := Lib.hid (hD.keep (j := w.heap.size) (by repeat (with_reducible first | exact HK0_1.out | exact heap_alloc_new _ _ | (apply qK; first | rfl | (simp; done)) | apply qKo | apply qk0 | apply qk1 | apply qk2 | apply qk3 | apply qk4 | apply qk5 | apply qk6 | apply qk7 | apply qk8 | (apply qKs; case hne => omega))) (by omega))
 have HK1_2 := Lib.hid (hD.keep (j := w1.heap.size) (by repeat (with_reducible first | exact HK1_1.out | exact heap_alloc_new _ _ | (apply qK; first | rfl | (simp; done)) | apply qKo | apply qk0 | apply qk1 | apply qk2 | apply qk3 | apply qk4 | apply qk5 | apply qk6 | apply qk7 | apply qk8 | (apply qKs; case hne => omega))) (by omega))
 clear hD c0 f0
 obtain ⟨c0, f0, z0_2⟩ := blk_at HK0_2.out
 obtain ⟨c1, f1, z1_2⟩ := blk_at HK1_2.out
 by_cases hq : x2 = 0
 · skip
   obtain rfl := hq
   go_wp2_with fail
   refine (w_l01Pick k c _ [999, 1000, 9999, 10000] _ (by repeat (with_reducible first | assumption | refine qSa ?_ | refine qSd ?_ | refine qSe ?_ | refine qSs ?_)) (reads_new' _ _ [999, 1000, 9999, 10000] (by simp) (by first | rfl | (simp; done))) (by simp) (allIn_new (by omega))).mono ?_
   rintro e w3 ⟨x3, rfl, x3m, hD, hS3⟩
   have hz3 : w2.heap.size ≤ w3.heap.size := qsz hD.size
   have hD3 : Drawn w w3 k := Drawn.trans (by repeat (with_reducible first | assumption | exact qDr | refine qDa ?_ | refine qDd ?_ | refine qDe ?_ | refine qDs ?_)) hD
   have HK0_3 := Lib.hid (hD.keep (j := w.heap.size) (by repeat (with_reducible first | exact HK0_2.out | exact heap_alloc_new _ _ | (apply qK; first | rfl | (simp; done)) | apply qKo | apply qk0 | apply qk1 | apply qk2 | apply qk3 | apply qk4 | apply qk5 | apply qk6 | apply qk7 | apply qk8 | (apply qKs; case hne => omega))) (by omega))
   have HK1_3 := Lib.hid (hD.keep (j := w1.heap.size) (by repeat (with_reducible first | exact HK1_2.out | exact heap_alloc_new _ _ | (apply qK; first | rfl | (simp; done)) | apply qKo | apply qk0 | apply qk1 | apply qk2 | apply qk3 | apply qk4 | apply qk5 | apply qk6 | apply qk7 | apply qk8 | (apply qKs; case hne => omega))) (by omega))
   clear hD c0 f0 c1 f1
   obtain ⟨c0, f0, z0_3⟩ := blk_at HK0_3.out
   obtain ⟨c1, f1, z1_3⟩ := blk_at HK1_3.out
   go_wp2
   refine bodyPost_ret (v := .agg #[.int .i64 x3, .int .i64 f.t]) (by simp [results, Tryz.results45, go_sem, c0, z0_3]) rfl ⟨⟨x3, f.t⟩, rfl, (by repeat (with_reducible first | assumption | exact qDr | refine qDa ?_ | refine qDd ?_ | refine qDe ?_ | refine qDs ?_)), (by repeat (with_reducible first | assumption | refine qSa ?_ | refine qSd ?_ | refine qSe ?_ | refine qSs ?_))⟩
 have hqb : (x2 == 0) = false := by simpa using hq
 by_cases hq2 : x2 = 1
 · skip
   obtain rfl := hq2
   go_wp2_with fail
   refine (w_l01Pick k c _ [-30, 30, 31, -31] _ (by repeat (with_reducible first | assumption | refine qSa ?_ | refine qSd ?_ | refine qSe ?_ | refine qSs ?_)) (reads_new' _ _ [-30, 30, 31, -31] (by simp) (by first | rfl | (simp; done))) (by simp) (allIn_new (by omega))).mono ?_
   rintro e w3 ⟨x3, rfl, x3m, hD, hS3⟩
   have hz3 : w2.heap.size ≤ w3.heap.size := qsz hD.size
   have hD3 : Drawn w w3 k := Drawn.trans (by repeat (with_reducible first | assumption | exact qDr | refine qDa ?_ | refine qDd ?_ | refine qDe ?_ | refine qDs ?_)) hD
   have HK0_3 := Lib.hid (hD.keep (j := w.heap.size) (by repeat (with_reducible first | exact HK0_2.out | exact heap_alloc_new _ _ | (apply qK; first | rfl | (simp; done)) | apply qKo | apply qk0 | apply qk1 | apply qk2 | apply qk3 | apply qk4 | apply qk5 | apply qk6 | apply qk7 | apply qk8 | (apply qKs; case hne => omega))) (by omega))
   have HK1_3 := Lib.hid (hD.keep (j := w1.heap.size) (by repeat (with_reducible first | exact HK1_2.out | exact heap_alloc_new _ _ | (apply qK; first | rfl | (simp; done)) | apply qKo | apply qk0 | apply qk1 | apply qk2 | apply qk3 | apply qk4 | apply qk5 | apply qk6 | apply qk7 | apply qk8 | (apply qKs; case hne => omega))) (by omega))
   clear hD c0 f0 c1 f1
   obtain ⟨c0, f0, z0_3⟩ := blk_at HK0_3.out
   obtain ⟨c1, f1, z1_3⟩ := blk_at HK1_3.out
   go_wp2
   refine bodyPost_ret (v := .agg #[.int .i64 f.d, .int .i64 x3]) (by simp [results, Tryz.results45, go_sem, c0, z0_3]) rfl ⟨⟨f.d, x3⟩, rfl, (by repeat (with_reducible first | assumption | exact qDr | refine qDa ?_ | refine qDd ?_ | refine qDe ?_ | refine qDs ?_)), (by repeat (with_reducible first | assumption | refine qSa ?_ | refine qSd ?_ | refine qSe ?_ | refine qSs ?_))⟩
 · have hqb2 : (x2 == 1) = false := by simpa using hq2
   go_wp2
   refine bodyPost_ret (v := .agg #[.int .i64 f.d, .int .i64 f.t]) (by simp [results, Tryz.results45, go_sem, c0, z0_2]) rfl ⟨⟨f.d, f.t⟩, rfl, (by repeat (with_reducible first | assumption | exact qDr | refine qDa ?_ | refine qDd ?_ | refine qDe ?_ | refine qDs ?_)), (by repeat (with_reducible first | assumption | refine qSa ?_ | refine qSd ?_ | refine qSe ?_ | refine qSs ?_))⟩
end Go.Proofs.YtgngbdacejghcaaGreatDoor
