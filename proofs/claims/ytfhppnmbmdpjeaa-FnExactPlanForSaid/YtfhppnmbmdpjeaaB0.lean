/- DERIVED. Small words for walks: a world with more behind it, what a slice reads as. -/
import Derived.Test.YtfhppnmbmdpjeaaP0
import Derived.Test.YtfhppnmbmdpjeaaProg
import Derived.KernelRfl
import Derived.WalkKit
import Derived.WalkSpells
import Derived.WalkLawsBesides
import Derived.Lib.Hide
import Derived.Deep.QuietTactic
import Derived.Deep.RegionWith
import Derived.BigQuiet
import Derived.StillTailTactics
namespace Go.Proofs.Ytfhppnmbmdpjeaa
set_option linter.unusedVariables false
set_option linter.unusedSimpArgs false
open Go.RowKit

/-- w' is w with more behind it: of what was there nothing has turned. -/
def Later (w w' : World) : Prop := Below w.heap.size w w'

theorem Later.size {a b : World} (h : Later a b) : a.heap.size ≤ b.heap.size := Below.size h
theorem Later.refl (w : World) : Later w w := Below.refl _ _
theorem Later.trans {a b c : World} (h : Later a b) (k : Later b c) : Later a c := Below.trans h (Below.mono k h.size)
theorem Later.alloc {a w : World} (h : Later a w) (o : Obj) : Later a (w.alloc o) := Below.alloc h h.size o
theorem Later.drew {a w : World} (h : Later a w) : Later a w.drew := Below.drew h
theorem Later.drewN {a w : World} (h : Later a w) (n : Nat) : Later a (w.drewN n) := ⟨h.os, h.tape, h.output, h.size, h.block⟩
theorem Later.setCell {a w : World} (h : Later a w) {p : Addr} (hp : a.heap.size ≤ p.block) (u : Value) : Later a (w.setCell p u) := Below.setCell h hp u
theorem Later.cell {a w : World} (h : Later a w) {p : Addr} (hp : p.block < a.heap.size) : w.cell? p = a.cell? p := Below.cell h hp
theorem Later.frozen {a w : World} (h : Later a w) {p : Addr} (hp : p.block < a.heap.size) : w.frozen? p = a.frozen? p := Below.frozen h hp
theorem Later.heap {a w : World} (h : Later a w) {k : Nat} (hk : k < a.heap.size) : w.heap[k]? = a.heap[k]? := Below.block h k hk
theorem Later.cells {a w : World} (h : Later a w) : (∀ b o, b < a.heap.size → w.cell? ⟨b, o, none⟩ = a.cell? ⟨b, o, none⟩) ∧ (∀ b o, b < a.heap.size → w.frozen? ⟨b, o, none⟩ = a.frozen? ⟨b, o, none⟩) :=
  ⟨fun b o hb => h.cell (p := ⟨b, o, none⟩) hb, fun b o hb => h.frozen (p := ⟨b, o, none⟩) hb⟩

theorem Later.own {a w w' : World} (h : Later a w) {base : Nat} (hbase : a.heap.size ≤ base) {e : TypeId} {s : Nat} {v : Value} {n : Nat} {xs : List Value} (ho : w.ownsRow base e s v n xs) (hg : w.grownBy w' v.ownBlock) : Later a w' :=
  Below.grown h hg h.size fun k hk => Nat.le_trans hbase (ho.lt k hk).1
theorem Later.made {a w w' : World} (h : Later a w) (hg : w.grownBy w' none) : Later a w' := Below.grown h hg h.size fun _ hk => by cases hk

theorem owns_later {w w' : World} {base : Nat} {e : TypeId} {s : Nat} {v : Value} {n : Nat} {xs : List Value} (ho : w.ownsRow base e s v n xs) (hl : Later w w') : w'.ownsRow base e s v n xs :=
  ho.kept (row := none) ⟨hl.os, hl.tape, hl.output, hl.size, fun k hk _ => hl.block k hk⟩ (by cases h : v.ownBlock <;> simp)

theorem owns_base {w : World} {base base' : Nat} {e : TypeId} {s : Nat} {v : Value} {n : Nat} {xs : List Value} (ho : w.ownsRow base e s v n xs) (hb : base' ≤ base) : w.ownsRow base' e s v n xs := by
  obtain ⟨h1, h2⟩ := ho
  refine ⟨h1, ?_⟩
  rcases h2 with h2 | ⟨g, cap, cur, hv, hg, r⟩
  · exact .inl h2
  · exact .inr ⟨g, cap, cur, hv, Nat.le_trans hb hg, r⟩

/-- A block that was there: its cells, none of them frozen, still there. -/
theorem Later.blk {w w1 : World} (h : Later w w1) {k : Nat} {c : Array Value} {T : TypeId} (hk : w.heap[k]? = some (.cells c T (0, 0))) :
    (∀ o, w1.cell? ⟨k, o, none⟩ = c[o]?) ∧ (∀ o, w1.frozen? ⟨k, o, none⟩ = false) ∧ k < w1.heap.size := by
  have hlt : k < w.heap.size := (Array.getElem?_eq_some_iff.1 hk).1
  have hh := (h.heap hlt).trans hk
  exact ⟨fun o => by simp [World.cell?, hh], fun o => by simp [World.frozen?, hh], Nat.lt_of_lt_of_le hlt h.size⟩

theorem blk1 {w w1 : World} {c0 : Array Value} {T0 : TypeId} (h : Later (w.alloc (.cells c0 T0)) w1) :
    (∀ o, w1.cell? ⟨w.heap.size, o, none⟩ = c0[o]?) ∧ (∀ o, w1.frozen? ⟨w.heap.size, o, none⟩ = false) ∧ w.heap.size < w1.heap.size :=
  h.blk (heap_alloc_new _ _)

theorem heap_alloc_old (w : World) (o : Obj) {k : Nat} {x : Obj} (h : w.heap[k]? = some x) : (w.alloc o).heap[k]? = some x :=
  (Below.heap_alloc w o k (Array.getElem?_eq_some_iff.1 h).1).trans h

theorem heap_alloc_new' (w : World) (o : Obj) {k : Nat} (hk : k = w.heap.size) : (w.alloc o).heap[k]? = some o := hk ▸ heap_alloc_new w o

theorem blk2 {w w1 : World} {c0 c1 : Array Value} {T0 T1 : TypeId} (h : Later ((w.alloc (.cells c0 T0)).alloc (.cells c1 T1)) w1) :
    ((∀ o, w1.cell? ⟨w.heap.size, o, none⟩ = c0[o]?) ∧ (∀ o, w1.frozen? ⟨w.heap.size, o, none⟩ = false) ∧ w.heap.size < w1.heap.size) ∧
    ((∀ o, w1.cell? ⟨w.heap.size + 1, o, none⟩ = c1[o]?) ∧ (∀ o, w1.frozen? ⟨w.heap.size + 1, o, none⟩ = false) ∧ w.heap.size + 1 < w1.heap.size) := by
  have a0 := h.blk (heap_alloc_old _ _ (heap_alloc_new _ _))
  have a1 := h.blk (heap_alloc_new' _ (.cells c1 T1) (k := w.heap.size + 1) (by simp))
  exact ⟨a0, a1⟩

theorem blk3 {w w1 : World} {c0 c1 c2 : Array Value} {T0 T1 T2 : TypeId} (h : Later (((w.alloc (.cells c0 T0)).alloc (.cells c1 T1)).alloc (.cells c2 T2)) w1) :
    ((∀ o, w1.cell? ⟨w.heap.size, o, none⟩ = c0[o]?) ∧ (∀ o, w1.frozen? ⟨w.heap.size, o, none⟩ = false) ∧ w.heap.size < w1.heap.size) ∧
    ((∀ o, w1.cell? ⟨w.heap.size + 1, o, none⟩ = c1[o]?) ∧ (∀ o, w1.frozen? ⟨w.heap.size + 1, o, none⟩ = false) ∧ w.heap.size + 1 < w1.heap.size) ∧
    ((∀ o, w1.cell? ⟨w.heap.size + 1 + 1, o, none⟩ = c2[o]?) ∧ (∀ o, w1.frozen? ⟨w.heap.size + 1 + 1, o, none⟩ = false) ∧ w.heap.size + 1 + 1 < w1.heap.size) := by
  have a0 := h.blk (heap_alloc_old _ _ (heap_alloc_old _ _ (heap_alloc_new _ _)))
  have a1 := h.blk (heap_alloc_old _ _ (heap_alloc_new' _ (.cells c1 T1) (k := w.heap.size + 1) (by simp)))
  have a2 := h.blk (heap_alloc_new' _ (.cells c2 T2) (k := w.heap.size + 1 + 1) (by simp))
  exact ⟨a0, a1, a2⟩

theorem blk4 {w w1 : World} {c0 c1 c2 c3 : Array Value} {T0 T1 T2 T3 : TypeId} (h : Later ((((w.alloc (.cells c0 T0)).alloc (.cells c1 T1)).alloc (.cells c2 T2)).alloc (.cells c3 T3)) w1) :
    ((∀ o, w1.cell? ⟨w.heap.size, o, none⟩ = c0[o]?) ∧ (∀ o, w1.frozen? ⟨w.heap.size, o, none⟩ = false) ∧ w.heap.size < w1.heap.size) ∧
    ((∀ o, w1.cell? ⟨w.heap.size + 1, o, none⟩ = c1[o]?) ∧ (∀ o, w1.frozen? ⟨w.heap.size + 1, o, none⟩ = false) ∧ w.heap.size + 1 < w1.heap.size) ∧
    ((∀ o, w1.cell? ⟨w.heap.size + 1 + 1, o, none⟩ = c2[o]?) ∧ (∀ o, w1.frozen? ⟨w.heap.size + 1 + 1, o, none⟩ = false) ∧ w.heap.size + 1 + 1 < w1.heap.size) ∧
    ((∀ o, w1.cell? ⟨w.heap.size + 1 + 1 + 1, o, none⟩ = c3[o]?) ∧ (∀ o, w1.frozen? ⟨w.heap.size + 1 + 1 + 1, o, none⟩ = false) ∧ w.heap.size + 1 + 1 + 1 < w1.heap.size) := by
  have a0 := h.blk (heap_alloc_old _ _ (heap_alloc_old _ _ (heap_alloc_old _ _ (heap_alloc_new _ _))))
  have a1 := h.blk (heap_alloc_old _ _ (heap_alloc_old _ _ (heap_alloc_new' _ (.cells c1 T1) (k := w.heap.size + 1) (by simp))))
  have a2 := h.blk (heap_alloc_old _ _ (heap_alloc_new' _ (.cells c2 T2) (k := w.heap.size + 1 + 1) (by simp)))
  have a3 := h.blk (heap_alloc_new' _ (.cells c3 T3) (k := w.heap.size + 1 + 1 + 1) (by simp))
  exact ⟨a0, a1, a2, a3⟩

theorem blk5 {w w1 : World} {c0 c1 c2 c3 c4 : Array Value} {T0 T1 T2 T3 T4 : TypeId} (h : Later (((((w.alloc (.cells c0 T0)).alloc (.cells c1 T1)).alloc (.cells c2 T2)).alloc (.cells c3 T3)).alloc (.cells c4 T4)) w1) :
    ((∀ o, w1.cell? ⟨w.heap.size, o, none⟩ = c0[o]?) ∧ (∀ o, w1.frozen? ⟨w.heap.size, o, none⟩ = false) ∧ w.heap.size < w1.heap.size) ∧
    ((∀ o, w1.cell? ⟨w.heap.size + 1, o, none⟩ = c1[o]?) ∧ (∀ o, w1.frozen? ⟨w.heap.size + 1, o, none⟩ = false) ∧ w.heap.size + 1 < w1.heap.size) ∧
    ((∀ o, w1.cell? ⟨w.heap.size + 1 + 1, o, none⟩ = c2[o]?) ∧ (∀ o, w1.frozen? ⟨w.heap.size + 1 + 1, o, none⟩ = false) ∧ w.heap.size + 1 + 1 < w1.heap.size) ∧
    ((∀ o, w1.cell? ⟨w.heap.size + 1 + 1 + 1, o, none⟩ = c3[o]?) ∧ (∀ o, w1.frozen? ⟨w.heap.size + 1 + 1 + 1, o, none⟩ = false) ∧ w.heap.size + 1 + 1 + 1 < w1.heap.size) ∧
    ((∀ o, w1.cell? ⟨w.heap.size + 1 + 1 + 1 + 1, o, none⟩ = c4[o]?) ∧ (∀ o, w1.frozen? ⟨w.heap.size + 1 + 1 + 1 + 1, o, none⟩ = false) ∧ w.heap.size + 1 + 1 + 1 + 1 < w1.heap.size) := by
  have a0 := h.blk (heap_alloc_old _ _ (heap_alloc_old _ _ (heap_alloc_old _ _ (heap_alloc_old _ _ (heap_alloc_new _ _)))))
  have a1 := h.blk (heap_alloc_old _ _ (heap_alloc_old _ _ (heap_alloc_old _ _ (heap_alloc_new' _ (.cells c1 T1) (k := w.heap.size + 1) (by simp)))))
  have a2 := h.blk (heap_alloc_old _ _ (heap_alloc_old _ _ (heap_alloc_new' _ (.cells c2 T2) (k := w.heap.size + 1 + 1) (by simp))))
  have a3 := h.blk (heap_alloc_old _ _ (heap_alloc_new' _ (.cells c3 T3) (k := w.heap.size + 1 + 1 + 1) (by simp)))
  have a4 := h.blk (heap_alloc_new' _ (.cells c4 T4) (k := w.heap.size + 1 + 1 + 1 + 1) (by simp))
  exact ⟨a0, a1, a2, a3, a4⟩

theorem blk6 {w w1 : World} {c0 c1 c2 c3 c4 c5 : Array Value} {T0 T1 T2 T3 T4 T5 : TypeId} (h : Later ((((((w.alloc (.cells c0 T0)).alloc (.cells c1 T1)).alloc (.cells c2 T2)).alloc (.cells c3 T3)).alloc (.cells c4 T4)).alloc (.cells c5 T5)) w1) :
    ((∀ o, w1.cell? ⟨w.heap.size, o, none⟩ = c0[o]?) ∧ (∀ o, w1.frozen? ⟨w.heap.size, o, none⟩ = false) ∧ w.heap.size < w1.heap.size) ∧
    ((∀ o, w1.cell? ⟨w.heap.size + 1, o, none⟩ = c1[o]?) ∧ (∀ o, w1.frozen? ⟨w.heap.size + 1, o, none⟩ = false) ∧ w.heap.size + 1 < w1.heap.size) ∧
    ((∀ o, w1.cell? ⟨w.heap.size + 1 + 1, o, none⟩ = c2[o]?) ∧ (∀ o, w1.frozen? ⟨w.heap.size + 1 + 1, o, none⟩ = false) ∧ w.heap.size + 1 + 1 < w1.heap.size) ∧
    ((∀ o, w1.cell? ⟨w.heap.size + 1 + 1 + 1, o, none⟩ = c3[o]?) ∧ (∀ o, w1.frozen? ⟨w.heap.size + 1 + 1 + 1, o, none⟩ = false) ∧ w.heap.size + 1 + 1 + 1 < w1.heap.size) ∧
    ((∀ o, w1.cell? ⟨w.heap.size + 1 + 1 + 1 + 1, o, none⟩ = c4[o]?) ∧ (∀ o, w1.frozen? ⟨w.heap.size + 1 + 1 + 1 + 1, o, none⟩ = false) ∧ w.heap.size + 1 + 1 + 1 + 1 < w1.heap.size) ∧
    ((∀ o, w1.cell? ⟨w.heap.size + 1 + 1 + 1 + 1 + 1, o, none⟩ = c5[o]?) ∧ (∀ o, w1.frozen? ⟨w.heap.size + 1 + 1 + 1 + 1 + 1, o, none⟩ = false) ∧ w.heap.size + 1 + 1 + 1 + 1 + 1 < w1.heap.size) := by
  have a0 := h.blk (heap_alloc_old _ _ (heap_alloc_old _ _ (heap_alloc_old _ _ (heap_alloc_old _ _ (heap_alloc_old _ _ (heap_alloc_new _ _))))))
  have a1 := h.blk (heap_alloc_old _ _ (heap_alloc_old _ _ (heap_alloc_old _ _ (heap_alloc_old _ _ (heap_alloc_new' _ (.cells c1 T1) (k := w.heap.size + 1) (by simp))))))
  have a2 := h.blk (heap_alloc_old _ _ (heap_alloc_old _ _ (heap_alloc_old _ _ (heap_alloc_new' _ (.cells c2 T2) (k := w.heap.size + 1 + 1) (by simp)))))
  have a3 := h.blk (heap_alloc_old _ _ (heap_alloc_old _ _ (heap_alloc_new' _ (.cells c3 T3) (k := w.heap.size + 1 + 1 + 1) (by simp))))
  have a4 := h.blk (heap_alloc_old _ _ (heap_alloc_new' _ (.cells c4 T4) (k := w.heap.size + 1 + 1 + 1 + 1) (by simp)))
  have a5 := h.blk (heap_alloc_new' _ (.cells c5 T5) (k := w.heap.size + 1 + 1 + 1 + 1 + 1) (by simp))
  exact ⟨a0, a1, a2, a3, a4, a5⟩

theorem two_set {w : World} {k : Nat} {x y : Value} {T : TypeId} (h : w.heap[k]? = some (.cells #[x, y] T (0, 0))) (a b : Value) :
    ((w.setCell ⟨k, 0, none⟩ a).setCell ⟨k, 1, none⟩ b).heap[k]? = some (.cells #[a, b] T (0, 0)) := by
  rw [heap_setCell_same _ k 1 _ T b (heap_setCell_same w k 0 _ T a h)]
  rfl
theorem other_set {w : World} {k g o : Nat} {x : Obj} (h : w.heap[k]? = some x) (hne : k ≠ g) (v : Value) : (w.setCell ⟨g, o, none⟩ v).heap[k]? = some x := by
  rw [heap_setCell_other w ⟨g, o, none⟩ k v hne]; exact h
theorem Later.keep {w w1 : World} (h : Later w w1) {k : Nat} {x : Obj} (hk : w.heap[k]? = some x) : w1.heap[k]? = some x :=
  (h.heap (Array.getElem?_eq_some_iff.1 hk).1).trans hk
theorem blk_at {w : World} {k : Nat} {c : Array Value} {T : TypeId} (hk : w.heap[k]? = some (.cells c T (0, 0))) :
    (∀ o, w.cell? ⟨k, o, none⟩ = c[o]?) ∧ (∀ o, w.frozen? ⟨k, o, none⟩ = false) ∧ k < w.heap.size := (Later.refl w).blk hk

/-- The cells of a row, from an offset on. -/
def RowAt (w : World) (b off : Nat) (xs : List Value) : Prop := b < w.heap.size ∧ ∀ j u, xs[j]? = some u → w.cell? ⟨b, off + j, none⟩ = some u

theorem RowAt.later {w w' : World} {b off : Nat} {xs : List Value} (h : RowAt w b off xs) (hl : Later w w') : RowAt w' b off xs :=
  ⟨Nat.lt_of_lt_of_le h.1 hl.size, fun j u hj => (hl.cell (p := ⟨b, off + j, none⟩) h.1).trans (h.2 j u hj)⟩

theorem RowAt.drop {w : World} {b off : Nat} {xs : List Value} (h : RowAt w b off xs) (k : Nat) : RowAt w b (off + k) (xs.drop k) :=
  ⟨h.1, fun j u hj => by rw [List.getElem?_drop] at hj; have := h.2 _ _ hj; rwa [← Nat.add_assoc] at this⟩

theorem RowAt.take {w : World} {b off : Nat} {xs : List Value} (h : RowAt w b off xs) (k : Nat) : RowAt w b off (xs.take k) :=
  ⟨h.1, fun j u hj => h.2 j u (by rw [List.getElem?_take] at hj; split at hj <;> simp_all)⟩

/-- A slice value of n elements, of sz cells each, that reads as xs. At most a million elements. -/
def Reads (w : World) (v : Value) (n sz : Nat) (xs : List Value) : Prop :=
  xs.length = n * sz ∧ n ≤ 1048576 ∧ ∃ a cap, v = .slice a n cap ∧ n ≤ cap ∧ cap ≤ 9223372036854775807 ∧ (0 < n → ∃ b off, a = some ⟨b, off, none⟩ ∧ RowAt w b off xs)

theorem Reads.later {w w' : World} {v : Value} {n sz : Nat} {xs : List Value} (h : Reads w v n sz xs) (hl : Later w w') : Reads w' v n sz xs := by
  obtain ⟨h1, h2, a, cap, h3, h4, h5, h6⟩ := h
  exact ⟨h1, h2, a, cap, h3, h4, h5, fun h0 => by obtain ⟨b, off, ha, hr⟩ := h6 h0; exact ⟨b, off, ha, hr.later hl⟩⟩

theorem qsame {P : Program} {f : FuncId} {args : Array Value} {w : World} {n : Nat} {v : Value}
    (h : Calls P f args (w.drewN n) fun e w' => e = .returned v ∧ w.drewN n = w') : Calls P f args (w.drewN n) fun e w'' => e = .returned v ∧ ∃ m, w'' = w.drewN m :=
  Calls.quiet_of_same (h.mono fun _ _ ⟨h1, h2⟩ => ⟨h1, h2.symm⟩)

theorem Reads.take {w : World} {a : Option Addr} {n cap sz k : Nat} {xs : List Value} (h : Reads w (.slice a n cap) n sz xs) (hk : k ≤ n) : Reads w (.slice a k cap) k sz (xs.take (k * sz)) := by
  obtain ⟨h1, h2, a', cap', h3, h4, h5, h6⟩ := h
  simp only [Value.slice.injEq, true_and] at h3
  obtain ⟨rfl, rfl⟩ := h3
  refine ⟨?_, by omega, a, cap, rfl, by omega, h5, fun h0 => ?_⟩
  · rw [List.length_take, h1, Nat.min_eq_left (Nat.mul_le_mul_right _ hk)]
  · obtain ⟨b, off, ha, hr⟩ := h6 (by omega)
    exact ⟨b, off, ha, hr.take _⟩

theorem reads_nil (w : World) (sz : Nat) : Reads w (.slice none 0 0) 0 sz [] := ⟨by simp, by decide, none, 0, rfl, Nat.le_refl _, by decide, fun h => absurd h (Nat.lt_irrefl _)⟩

theorem reads_of_owns {w : World} {base : Nat} {e : TypeId} {s : Nat} {v : Value} {n : Nat} {xs : List Value} (ho : w.ownsRow base e s v n xs) (hn : n ≤ 1048576) : Reads w v n s xs := by
  obtain ⟨h1, h2⟩ := ho
  refine ⟨h1, hn, ?_⟩
  rcases h2 with ⟨rfl, rfl⟩ | ⟨g, cap, cur, rfl, hg, hh, hc, hm, hs, ht⟩
  · exact ⟨none, 0, rfl, Nat.le_refl _, by decide, fun h => absurd h (Nat.lt_irrefl _)⟩
  · refine ⟨_, cap, rfl, hc, hm, fun _ => ⟨g, 0, rfl, ?_, fun j u hj => ?_⟩⟩
    · exact (Array.getElem?_eq_some_iff.1 hh).1
    · subst ht
      simp [List.getElem?_take] at hj
      simp [World.cell?, hh, hj.2]

def Fig.cells (f : Fig) : List Value := [.int .i64 f.d, .int .i64 f.t]
def Trm.cells (t : Trm) : List Value := [.int .i64 t.f.d, .int .i64 t.f.t, .bool t.dv]
def Mov.cells (m : Mov) : List Value := [.int .i64 m.k, .int .i64 m.s, .int .i64 m.f.d, .int .i64 m.f.t]
def figs (l : List Fig) : List Value := l.flatMap Fig.cells
def trms (l : List Trm) : List Value := l.flatMap Trm.cells
def movs (l : List Mov) : List Value := l.flatMap Mov.cells
def Stg.cells (s : Stg) : List Value := [.int .i64 s.sh, .int .i64 s.cu]
def stgs (l : List Stg) : List Value := l.flatMap Stg.cells
def nums (l : List Int) : List Value := l.map (Value.int .i64)

theorem flat_get {α : Type} (f : α → List Value) (n : Nat) (hf : ∀ x, (f x).length = n) : ∀ (l : List α) (k j : Nat) (x : α), l[k]? = some x → j < n → (l.flatMap f)[k * n + j]? = (f x)[j]?
  | [], k, j, x, h, _ => by simp at h
  | y :: l, 0, j, x, h, hj => by
    simp at h; subst h
    rw [List.flatMap_cons, Nat.zero_mul, Nat.zero_add, List.getElem?_append_left (by rw [hf]; exact hj)]
  | y :: l, k + 1, j, x, h, hj => by
    simp at h
    rw [List.flatMap_cons, List.getElem?_append_right (by rw [hf, Nat.succ_mul]; omega), hf, show (k + 1) * n + j - n = k * n + j from by rw [Nat.succ_mul]; omega]
    exact flat_get f n hf l k j x h hj

theorem flat_len {α : Type} (f : α → List Value) (n : Nat) (hf : ∀ x, (f x).length = n) : ∀ (l : List α), (l.flatMap f).length = l.length * n
  | [] => by simp
  | y :: l => by rw [List.flatMap_cons, List.length_append, hf, flat_len f n hf l, List.length_cons, Nat.succ_mul]; omega

theorem figs_len (l : List Fig) : (figs l).length = l.length * 2 := flat_len _ 2 (fun _ => rfl) l
theorem trms_len (l : List Trm) : (trms l).length = l.length * 3 := flat_len _ 3 (fun _ => rfl) l
theorem movs_len (l : List Mov) : (movs l).length = l.length * 4 := flat_len _ 4 (fun _ => rfl) l
theorem stgs_len (l : List Stg) : (stgs l).length = l.length * 2 := flat_len _ 2 (fun _ => rfl) l
theorem stgs_snoc (l : List Stg) (x : Stg) : stgs (l ++ [x]) = stgs l ++ x.cells := by simp [stgs]
theorem nums_len (l : List Int) : (nums l).length = l.length * 1 := by simp [nums]
theorem figs_snoc (l : List Fig) (x : Fig) : figs (l ++ [x]) = figs l ++ x.cells := by simp [figs]
theorem trms_snoc (l : List Trm) (x : Trm) : trms (l ++ [x]) = trms l ++ x.cells := by simp [trms]
theorem movs_snoc (l : List Mov) (x : Mov) : movs (l ++ [x]) = movs l ++ x.cells := by simp [movs]
theorem nums_snoc (l : List Int) (x : Int) : nums (l ++ [x]) = nums l ++ [.int .i64 x] := by simp [nums]

theorem RowAt.fig {w : World} {b off k : Nat} {l : List Fig} (h : RowAt w b off (figs l)) {x : Fig} (hx : l[k]? = some x) :
    w.cell? ⟨b, off + k * 2, none⟩ = some (.int .i64 x.d) ∧ w.cell? ⟨b, off + k * 2 + 1, none⟩ = some (.int .i64 x.t) :=
  ⟨h.2 (k * 2 + 0) _ (flat_get _ 2 (fun _ => rfl) l k 0 x hx (by decide)), h.2 (k * 2 + 1) _ (flat_get _ 2 (fun _ => rfl) l k 1 x hx (by decide))⟩
theorem RowAt.stg {w : World} {b off k : Nat} {l : List Stg} (h : RowAt w b off (stgs l)) {x : Stg} (hx : l[k]? = some x) :
    w.cell? ⟨b, off + k * 2, none⟩ = some (.int .i64 x.sh) ∧ w.cell? ⟨b, off + k * 2 + 1, none⟩ = some (.int .i64 x.cu) :=
  ⟨h.2 (k * 2 + 0) _ (flat_get _ 2 (fun _ => rfl) l k 0 x hx (by decide)), h.2 (k * 2 + 1) _ (flat_get _ 2 (fun _ => rfl) l k 1 x hx (by decide))⟩
theorem RowAt.trm {w : World} {b off k : Nat} {l : List Trm} (h : RowAt w b off (trms l)) {x : Trm} (hx : l[k]? = some x) :
    w.cell? ⟨b, off + k * 3, none⟩ = some (.int .i64 x.f.d) ∧ w.cell? ⟨b, off + k * 3 + 1, none⟩ = some (.int .i64 x.f.t) ∧ w.cell? ⟨b, off + k * 3 + 2, none⟩ = some (.bool x.dv) :=
  ⟨h.2 (k * 3 + 0) _ (flat_get _ 3 (fun _ => rfl) l k 0 x hx (by decide)), h.2 (k * 3 + 1) _ (flat_get _ 3 (fun _ => rfl) l k 1 x hx (by decide)), h.2 (k * 3 + 2) _ (flat_get _ 3 (fun _ => rfl) l k 2 x hx (by decide))⟩
theorem RowAt.mov {w : World} {b off k : Nat} {l : List Mov} (h : RowAt w b off (movs l)) {x : Mov} (hx : l[k]? = some x) :
    w.cell? ⟨b, off + k * 4, none⟩ = some (.int .i64 x.k) ∧ w.cell? ⟨b, off + k * 4 + 1, none⟩ = some (.int .i64 x.s) ∧ w.cell? ⟨b, off + k * 4 + 2, none⟩ = some (.int .i64 x.f.d) ∧ w.cell? ⟨b, off + k * 4 + 3, none⟩ = some (.int .i64 x.f.t) :=
  ⟨h.2 (k * 4 + 0) _ (flat_get _ 4 (fun _ => rfl) l k 0 x hx (by decide)), h.2 (k * 4 + 1) _ (flat_get _ 4 (fun _ => rfl) l k 1 x hx (by decide)), h.2 (k * 4 + 2) _ (flat_get _ 4 (fun _ => rfl) l k 2 x hx (by decide)), h.2 (k * 4 + 3) _ (flat_get _ 4 (fun _ => rfl) l k 3 x hx (by decide))⟩
theorem RowAt.num {w : World} {b off k : Nat} {l : List Int} (h : RowAt w b off (nums l)) {x : Int} (hx : l[k]? = some x) : w.cell? ⟨b, off + k, none⟩ = some (.int .i64 x) :=
  h.2 k _ (by simp [nums, hx])

abbrev IsFigs (w : World) (v : Value) (l : List Fig) : Prop := Reads w v l.length 2 (figs l)
abbrev IsTrms (w : World) (v : Value) (l : List Trm) : Prop := Reads w v l.length 3 (trms l)
abbrev IsMovs (w : World) (v : Value) (l : List Mov) : Prop := Reads w v l.length 4 (movs l)
abbrev IsStgs (w : World) (v : Value) (l : List Stg) : Prop := Reads w v l.length 2 (stgs l)
abbrev IsNums (w : World) (v : Value) (l : List Int) : Prop := Reads w v l.length 1 (nums l)

theorem trms_set : ∀ (l : List Trm) (i : Nat) (x : Trm), i < l.length → trms (l.set i x) = (((trms l).set (i * 3) (.int .i64 x.f.d)).set (i * 3 + 1) (.int .i64 x.f.t)).set (i * 3 + 2) (.bool x.dv)
  | [], i, x, h => absurd h (Nat.not_lt_zero _)
  | y :: l, 0, x, _ => by simp [trms, Trm.cells]
  | y :: l, i + 1, x, h => by
    have ih := trms_set l i x (by simpa using h)
    simp only [trms, List.set_cons_succ, List.flatMap_cons, Trm.cells] at ih ⊢
    rw [ih, Nat.succ_mul]
    rfl

theorem own_shape {w : World} {base : Nat} {e : TypeId} {s : Nat} {v : Value} {n : Nat} {xs : List Value} (ho : w.ownsRow base e s v n xs) :
    (v = .slice none 0 0 ∧ n = 0 ∧ xs = []) ∨ ∃ g cap, v = .slice (some ⟨g, 0, none⟩) n cap ∧ base ≤ g ∧ g < w.heap.size ∧ n ≤ cap ∧ cap ≤ 9223372036854775807 := by
  rcases ho.2 with ⟨rfl, rfl⟩ | ⟨g, cap, cur, rfl, hg, hh, hc, hm, _⟩
  · exact .inl ⟨rfl, rfl, List.eq_nil_of_length_eq_zero (by simpa using ho.1)⟩
  · exact .inr ⟨g, cap, rfl, hg, (Array.getElem?_eq_some_iff.1 hh).1, hc, hm⟩

/-- Two owned rows that were made one behind the other are apart. -/
theorem own_apart {w w' : World} {base base' : Nat} {e e' : TypeId} {s s' : Nat} {v v' : Value} {n n' : Nat} {xs xs' : List Value} (ho : w.ownsRow base e s v n xs) (ho' : w'.ownsRow base' e' s' v' n' xs') (hle : w.heap.size ≤ base') :
    v'.ownBlock = none ∨ v'.ownBlock ≠ v.ownBlock := by
  cases h' : v'.ownBlock with
  | none => exact .inl rfl
  | some k' =>
    refine .inr fun h => ?_
    have h1 := (ho.lt k' h.symm).2
    have h2 := (ho'.lt k' h').1
    omega

theorem own_apart' {w w' : World} {base base' : Nat} {e e' : TypeId} {s s' : Nat} {v v' : Value} {n n' : Nat} {xs xs' : List Value} (ho : w.ownsRow base e s v n xs) (ho' : w'.ownsRow base' e' s' v' n' xs') (hle : w.heap.size ≤ base') :
    v.ownBlock = none ∨ v.ownBlock ≠ v'.ownBlock := by
  rcases own_apart ho ho' hle with h | h
  · cases h' : v.ownBlock with
    | none => exact .inl rfl
    | some k => exact .inr (by rw [h]; simp)
  · exact .inr fun e => h e.symm

theorem grown_refl (w : World) (row : Option Nat) : w.grownBy w row := ⟨rfl, rfl, rfl, Nat.le_refl _, fun _ _ _ => rfl⟩
theorem grown_trans {a b c : World} {row : Option Nat} (h : a.grownBy b row) (k : b.grownBy c row) : a.grownBy c row :=
  ⟨k.os.trans h.os, k.tape.trans h.tape, k.output.trans h.output, Nat.le_trans h.size k.size, fun i hi hr => (k.block i (Nat.lt_of_lt_of_le hi h.size) hr).trans (h.block i hi hr)⟩
theorem grown_drew {a b : World} {row : Option Nat} (h : a.grownBy b row) : a.grownBy b.drew row := ⟨h.os, h.tape, h.output, h.size, h.block⟩
theorem grown_setCell {a b : World} {g : Nat} (h : a.grownBy b (some g)) (j : Nat) (u : Value) : a.grownBy (b.setCell ⟨g, j, none⟩ u) (some g) :=
  grown_trans h ⟨rfl, rfl, rfl, by simp, fun k _ hk => heap_setCell_other b ⟨g, j, none⟩ k u (fun e => hk (by simp [e]))⟩
theorem grown_later {a b c : World} {row : Option Nat} (h : a.grownBy b row) (k : Later b c) : a.grownBy c row :=
  ⟨k.os.trans h.os, k.tape.trans h.tape, k.output.trans h.output, Nat.le_trans h.size k.size, fun i hi hr => (k.block i (Nat.lt_of_lt_of_le hi h.size)).trans (h.block i hi hr)⟩

theorem own_cell {w : World} {base : Nat} {e : TypeId} {s g cap n : Nat} {xs : List Value} (ho : w.ownsRow base e s (.slice (some ⟨g, 0, none⟩) n cap) n xs) {j : Nat} (hj : j < n * s) : ∃ u, w.cell? ⟨g, j, none⟩ = some u := by
  have hl := ho.1
  exact ⟨xs[j]'(by omega), by rw [ho.cellAt j hj]; exact List.getElem?_eq_getElem _⟩

theorem set3 (A rest : List Value) (n : Nat) (hA : A.length = n) (hr : 3 ≤ rest.length) (a b c : Value) : (((A ++ rest).set n a).set (n + 1) b).set (n + 2) c = A ++ [a, b, c] ++ rest.drop 3 := by
  match rest, hr with
  | x :: y :: z :: r, _ =>
    subst hA
    rw [List.set_append_right _ _ (Nat.le_refl _), List.set_append_right _ _ (by omega), List.set_append_right _ _ (by omega)]
    simp

theorem own_setTrm {w : World} {base : Nat} {e : TypeId} {g n cap : Nat} {l : List Trm} (ho : w.ownsRow base e 3 (.slice (some ⟨g, 0, none⟩) n cap) n (trms l)) {i : Nat} (hi : i < l.length) (x : Trm) :
    (((w.setCell ⟨g, i * 3, none⟩ (.int .i64 x.f.d)).setCell ⟨g, i * 3 + 1, none⟩ (.int .i64 x.f.t)).setCell ⟨g, i * 3 + 2, none⟩ (.bool x.dv)).ownsRow base e 3 (.slice (some ⟨g, 0, none⟩) n cap) n (trms (l.set i x)) := by
  rw [trms_set l i x hi]
  exact (((ho.stored (i * 3) (.int .i64 x.f.d)).1.stored (i * 3 + 1) (.int .i64 x.f.t)).1.stored (i * 3 + 2) (.bool x.dv)).1

theorem own_trm {w : World} {base : Nat} {e : TypeId} {g n cap : Nat} {l : List Trm} (ho : w.ownsRow base e 3 (.slice (some ⟨g, 0, none⟩) n cap) n (trms l)) {i : Nat} {x : Trm} (hx : l[i]? = some x) :
    w.cell? ⟨g, i * 3, none⟩ = some (.int .i64 x.f.d) ∧ w.cell? ⟨g, i * 3 + 1, none⟩ = some (.int .i64 x.f.t) ∧ w.cell? ⟨g, i * 3 + 2, none⟩ = some (.bool x.dv) := by
  have hl := ho.1
  have hi := (List.getElem?_eq_some_iff.1 hx).1
  rw [trms_len] at hl
  rw [ho.cellAt _ (by omega), ho.cellAt _ (by omega), ho.cellAt _ (by omega)]
  exact ⟨flat_get _ 3 (fun _ => rfl) l i 0 x hx (by decide), flat_get _ 3 (fun _ => rfl) l i 1 x hx (by decide), flat_get _ 3 (fun _ => rfl) l i 2 x hx (by decide)⟩

theorem set1 (A rest : List Value) (n : Nat) (hA : A.length = n) (hr : 1 ≤ rest.length) (a : Value) : (A ++ rest).set n a = A ++ [a] ++ rest.drop 1 := by
  match rest, hr with
  | x :: r, _ =>
    subst hA
    rw [List.set_append_right _ _ (Nat.le_refl _)]
    simp

theorem set2 (A rest : List Value) (n : Nat) (hA : A.length = n) (hr : 2 ≤ rest.length) (a b : Value) : ((A ++ rest).set n a).set (n + 1) b = A ++ [a, b] ++ rest.drop 2 := by
  match rest, hr with
  | x :: y :: r, _ =>
    subst hA
    rw [List.set_append_right _ _ (Nat.le_refl _), List.set_append_right _ _ (by omega)]
    simp

theorem set4 (A rest : List Value) (n : Nat) (hA : A.length = n) (hr : 4 ≤ rest.length) (a b c d : Value) : ((((A ++ rest).set n a).set (n + 1) b).set (n + 2) c).set (n + 3) d = A ++ [a, b, c, d] ++ rest.drop 4 := by
  match rest, hr with
  | x :: y :: z :: u :: r, _ =>
    subst hA
    rw [List.set_append_right _ _ (Nat.le_refl _), List.set_append_right _ _ (by omega), List.set_append_right _ _ (by omega), List.set_append_right _ _ (by omega)]
    simp

theorem flat_take {α : Type} (f : α → List Value) (n : Nat) (hf : ∀ x, (f x).length = n) : ∀ (l : List α) (k : Nat), (l.flatMap f).take (k * n) = (l.take k).flatMap f
  | [], k => by simp
  | x :: l, 0 => by simp
  | x :: l, k + 1 => by
    rw [List.flatMap_cons, List.take_succ_cons, List.flatMap_cons, ← flat_take f n hf l k, Nat.succ_mul, List.take_append, List.take_of_length_le (by rw [hf]; omega), hf, Nat.add_sub_cancel]
theorem flat_drop {α : Type} (f : α → List Value) (n : Nat) (hf : ∀ x, (f x).length = n) : ∀ (l : List α) (k : Nat), (l.flatMap f).drop (k * n) = (l.drop k).flatMap f
  | [], k => by simp
  | x :: l, 0 => by simp
  | x :: l, k + 1 => by
    rw [List.flatMap_cons, List.drop_succ_cons, ← flat_drop f n hf l k, Nat.succ_mul, List.drop_append, List.drop_eq_nil_of_le (by rw [hf]; omega), hf, Nat.add_sub_cancel, List.nil_append]

theorem isTrms_of {w : World} {v : Value} {n : Nat} {l : List Trm} (h : Reads w v n 3 (trms l)) (hl : l.length = n) : IsTrms w v l := by subst hl; exact h
theorem isMovs_of {w : World} {v : Value} {n : Nat} {l : List Mov} (h : Reads w v n 4 (movs l)) (hl : l.length = n) : IsMovs w v l := by subst hl; exact h
theorem isNums_of {w : World} {v : Value} {n : Nat} {l : List Int} (h : Reads w v n 1 (nums l)) (hl : l.length = n) : IsNums w v l := by subst hl; exact h
theorem isFigs_of {w : World} {v : Value} {n : Nat} {l : List Fig} (h : Reads w v n 2 (figs l)) (hl : l.length = n) : IsFigs w v l := by subst hl; exact h

theorem IsNums.take {w : World} {a : Option Addr} {cap k : Nat} {l : List Int} (h : IsNums w (.slice a l.length cap) l) (hk : k ≤ l.length) : IsNums w (.slice a k cap) (l.take k) := by
  have := Reads.take h hk
  have hl : (l.take k).length = k := by rw [List.length_take, Nat.min_eq_left hk]
  rw [IsNums, hl]
  rwa [Nat.mul_one, show (nums l).take k = nums (l.take k) from by simp [nums, List.map_take]] at this
theorem IsTrms.take {w : World} {a : Option Addr} {cap k : Nat} {l : List Trm} (h : IsTrms w (.slice a l.length cap) l) (hk : k ≤ l.length) : IsTrms w (.slice a k cap) (l.take k) := by
  have := Reads.take h hk
  have hl : (l.take k).length = k := by rw [List.length_take, Nat.min_eq_left hk]
  rw [IsTrms, hl]
  rwa [show (trms l).take (k * 3) = trms (l.take k) from flat_take _ 3 (fun _ => rfl) l k] at this
theorem IsMovs.take {w : World} {a : Option Addr} {cap k : Nat} {l : List Mov} (h : IsMovs w (.slice a l.length cap) l) (hk : k ≤ l.length) : IsMovs w (.slice a k cap) (l.take k) := by
  have := Reads.take h hk
  have hl : (l.take k).length = k := by rw [List.length_take, Nat.min_eq_left hk]
  rw [IsMovs, hl]
  rwa [show (movs l).take (k * 4) = movs (l.take k) from flat_take _ 4 (fun _ => rfl) l k] at this

end Go.Proofs.Ytfhppnmbmdpjeaa
