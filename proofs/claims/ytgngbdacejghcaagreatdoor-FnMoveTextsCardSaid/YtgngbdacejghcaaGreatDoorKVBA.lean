/- DERIVED. Small words for walks: worlds, slices, blocks, regions by an invariant, append. -/
import Derived.KernelRfl
import Derived.WalkKit
import Derived.WalkSpells
import Derived.WalkLawsBesides
import Derived.Lib.Hide
import Derived.Deep.QuietTactic
import Derived.Deep.RegionWith
import Derived.BigQuiet
import Derived.StillTailTactics
import Derived.Laws.AppendOwnNone
import Derived.Deep.RegionLaw
import Derived.Maps.AppendAt
import Derived.Test.YtgngbdacejghcaaGreatDoorKVPA
import Derived.Test.YtgngbdacejghcaaGreatDoorProg
namespace Go.Proofs.YtgngbdacejghcaaGreatDoor
set_option linter.unusedVariables false
set_option linter.unusedSimpArgs false
open Go.RowKit
set_option maxRecDepth 100000
def Later (w w' : World) : Prop := Below w.heap.size w w'
theorem Later.size {a b : World} (h : Later a b) : a.heap.size ≤ b.heap.size := Below.size h
theorem Later.refl (w : World) : Later w w := Below.refl _ _
theorem Later.trans {a b c : World} (h : Later a b) (k : Later b c) : Later a c := Below.trans h (Below.mono k h.size)
theorem Later.alloc {a w : World} (h : Later a w) (o : Obj) : Later a (w.alloc o) := Below.alloc h h.size o
theorem Later.drew {a w : World} (h : Later a w) : Later a w.drew := Below.drew h
theorem Later.drewN {a w : World} (h : Later a w) (n : Nat) : Later a (w.drewN n) := ⟨h.os, h.tape, h.output, h.size, h.block⟩
theorem Later.setCell {a w : World} (h : Later a w) {p : Addr} (hp : a.heap.size ≤ p.block) (u : Value) : Later a (w.setCell p u) := Below.setCell h hp u
theorem Later.cell {a w : World} (h : Later a w) {p : Addr} (hp : p.block < a.heap.size) : w.cell? p = a.cell? p := Below.cell h hp
theorem Later.frozen {a w : World} (h : Later a w) {p : Addr} (hp : p.block < a.heap.size) : w.frozen? p = a.frozen? p := Below.frozen h hp
theorem Later.heap {a w : World} (h : Later a w) {k : Nat} (hk : k < a.heap.size) : w.heap[k]? = a.heap[k]? := Below.block h k hk
theorem Later.cells {a w : World} (h : Later a w) : (∀ b o, b < a.heap.size → w.cell? ⟨b, o, none⟩ = a.cell? ⟨b, o, none⟩) ∧ (∀ b o, b < a.heap.size → w.frozen? ⟨b, o, none⟩ = a.frozen? ⟨b, o, none⟩) :=
 ⟨fun b o hb => h.cell (p := ⟨b, o, none⟩) hb, fun b o hb => h.frozen (p := ⟨b, o, none⟩) hb⟩
theorem Later.own {a w w' : World} (h : Later a w) {base : Nat} (hbase : a.heap.size ≤ base) {e : TypeId} {s : Nat} {v : Value} {n : Nat} {xs : List Value} (ho : w.ownsRow base e s v n xs) (hg : w.grownBy w' v.ownBlock) : Later a w' :=
 Below.grown h hg h.size fun k hk => Nat.le_trans hbase (ho.lt k hk).1
theorem owns_later {w w' : World} {base : Nat} {e : TypeId} {s : Nat} {v : Value} {n : Nat} {xs : List Value} (ho : w.ownsRow base e s v n xs) (hl : Later w w') : w'.ownsRow base e s v n xs :=
 ho.kept (row := none) ⟨hl.os, hl.tape, hl.output, hl.size, fun k hk _ => hl.block k hk⟩ (by cases h : v.ownBlock <;> simp)
theorem owns_base {w : World} {base base' : Nat} {e : TypeId} {s : Nat} {v : Value} {n : Nat} {xs : List Value} (ho : w.ownsRow base e s v n xs) (hb : base' ≤ base) : w.ownsRow base' e s v n xs := by
 obtain ⟨h1, h2⟩ := ho
 refine ⟨h1, ?_⟩
 rcases h2 with h2 | ⟨g, cap, cur, hv, hg, r⟩
 · exact .inl h2
 · exact .inr ⟨g, cap, cur, hv, Nat.le_trans hb hg, r⟩
theorem Later.blk {w w1 : World} (h : Later w w1) {k : Nat} {c : Array Value} {T : TypeId} (hk : w.heap[k]? = some (.cells c T (0, 0))) :
 (∀ o, w1.cell? ⟨k, o, none⟩ = c[o]?) ∧ (∀ o, w1.frozen? ⟨k, o, none⟩ = false) ∧ k < w1.heap.size := by
 have hlt : k < w.heap.size := (Array.getElem?_eq_some_iff.1 hk).1
 have hh := (h.heap hlt).trans hk
 exact ⟨fun o => by simp [World.cell?, hh], fun o => by simp [World.frozen?, hh], Nat.lt_of_lt_of_le hlt h.size⟩
theorem blk1 {w w1 : World} {c0 : Array Value} {T0 : TypeId} (h : Later (w.alloc (.cells c0 T0)) w1) :
 (∀ o, w1.cell? ⟨w.heap.size, o, none⟩ = c0[o]?) ∧ (∀ o, w1.frozen? ⟨w.heap.size, o, none⟩ = false) ∧ w.heap.size < w1.heap.size :=
 h.blk (heap_alloc_new _ _)
theorem heap_alloc_old (w : World) (o : Obj) {k : Nat} {x : Obj} (h : w.heap[k]? = some x) : (w.alloc o).heap[k]? = some x :=
 (Below.heap_alloc w o k (Array.getElem?_eq_some_iff.1 h).1).trans h
theorem heap_alloc_new' (w : World) (o : Obj) {k : Nat} (hk : k = w.heap.size) : (w.alloc o).heap[k]? = some o := hk ▸ heap_alloc_new w o
theorem blk2 {w w1 : World} {c0 c1 : Array Value} {T0 T1 : TypeId} (h : Later ((w.alloc (.cells c0 T0)).alloc (.cells c1 T1)) w1) :
 ((∀ o, w1.cell? ⟨w.heap.size, o, none⟩ = c0[o]?) ∧ (∀ o, w1.frozen? ⟨w.heap.size, o, none⟩ = false) ∧ w.heap.size < w1.heap.size) ∧
 ((∀ o, w1.cell? ⟨w.heap.size + 1, o, none⟩ = c1[o]?) ∧ (∀ o, w1.frozen? ⟨w.heap.size + 1, o, none⟩ = false) ∧ w.heap.size + 1 < w1.heap.size) := by
 have a0 := h.blk (heap_alloc_old _ _ (heap_alloc_new _ _))
 have a1 := h.blk (heap_alloc_new' _ (.cells c1 T1) (k := w.heap.size + 1) (by simp))
 exact ⟨a0, a1⟩
theorem blk3 {w w1 : World} {c0 c1 c2 : Array Value} {T0 T1 T2 : TypeId} (h : Later (((w.alloc (.cells c0 T0)).alloc (.cells c1 T1)).alloc (.cells c2 T2)) w1) :
 ((∀ o, w1.cell? ⟨w.heap.size, o, none⟩ = c0[o]?) ∧ (∀ o, w1.frozen? ⟨w.heap.size, o, none⟩ = false) ∧ w.heap.size < w1.heap.size) ∧
 ((∀ o, w1.cell? ⟨w.heap.size + 1, o, none⟩ = c1[o]?) ∧ (∀ o, w1.frozen? ⟨w.heap.size + 1, o, none⟩ = false) ∧ w.heap.size + 1 < w1.heap.size) ∧
 ((∀ o, w1.cell? ⟨w.heap.size + 1 + 1, o, none⟩ = c2[o]?) ∧ (∀ o, w1.frozen? ⟨w.heap.size + 1 + 1, o, none⟩ = false) ∧ w.heap.size + 1 + 1 < w1.heap.size) := by
 have a0 := h.blk (heap_alloc_old _ _ (heap_alloc_old _ _ (heap_alloc_new _ _)))
 have a1 := h.blk (heap_alloc_old _ _ (heap_alloc_new' _ (.cells c1 T1) (k := w.heap.size + 1) (by simp)))
 have a2 := h.blk (heap_alloc_new' _ (.cells c2 T2) (k := w.heap.size + 1 + 1) (by simp))
 exact ⟨a0, a1, a2⟩
theorem two_set {w : World} {k : Nat} {x y : Value} {T : TypeId} (h : w.heap[k]? = some (.cells #[x, y] T (0, 0))) (a b : Value) :
 ((w.setCell ⟨k, 0, none⟩ a).setCell ⟨k, 1, none⟩ b).heap[k]? = some (.cells #[a, b] T (0, 0)) := by
 rw [heap_setCell_same _ k 1 _ T b (heap_setCell_same w k 0 _ T a h)]
 rfl
theorem other_set {w : World} {k g o : Nat} {x : Obj} (h : w.heap[k]? = some x) (hne : k ≠ g) (v : Value) : (w.setCell ⟨g, o, none⟩ v).heap[k]? = some x := by
 rw [heap_setCell_other w ⟨g, o, none⟩ k v hne]; exact h
theorem Later.keep {w w1 : World} (h : Later w w1) {k : Nat} {x : Obj} (hk : w.heap[k]? = some x) : w1.heap[k]? = some x :=
 (h.heap (Array.getElem?_eq_some_iff.1 hk).1).trans hk
theorem blk_at {w : World} {k : Nat} {c : Array Value} {T : TypeId} (hk : w.heap[k]? = some (.cells c T (0, 0))) :
 (∀ o, w.cell? ⟨k, o, none⟩ = c[o]?) ∧ (∀ o, w.frozen? ⟨k, o, none⟩ = false) ∧ k < w.heap.size := (Later.refl w).blk hk
def RowAt (w : World) (b off : Nat) (xs : List Value) : Prop := b < w.heap.size ∧ ∀ j u, xs[j]? = some u → w.cell? ⟨b, off + j, none⟩ = some u
theorem RowAt.later {w w' : World} {b off : Nat} {xs : List Value} (h : RowAt w b off xs) (hl : Later w w') : RowAt w' b off xs :=
 ⟨Nat.lt_of_lt_of_le h.1 hl.size, fun j u hj => (hl.cell (p := ⟨b, off + j, none⟩) h.1).trans (h.2 j u hj)⟩
theorem RowAt.drop {w : World} {b off : Nat} {xs : List Value} (h : RowAt w b off xs) (k : Nat) : RowAt w b (off + k) (xs.drop k) :=
 ⟨h.1, fun j u hj => by rw [List.getElem?_drop] at hj; have := h.2 _ _ hj; rwa [← Nat.add_assoc] at this⟩
theorem RowAt.take {w : World} {b off : Nat} {xs : List Value} (h : RowAt w b off xs) (k : Nat) : RowAt w b off (xs.take k) :=
 ⟨h.1, fun j u hj => h.2 j u (by rw [List.getElem?_take] at hj; split at hj <;> simp_all)⟩
def Reads (w : World) (v : Value) (n sz : Nat) (xs : List Value) : Prop :=
 xs.length = n * sz ∧ n ≤ 1048576 ∧ ∃ a cap, v = .slice a n cap ∧ n ≤ cap ∧ cap ≤ 9223372036854775807 ∧ (0 < n → ∃ b off, a = some ⟨b, off, none⟩ ∧ RowAt w b off xs)
theorem Reads.later {w w' : World} {v : Value} {n sz : Nat} {xs : List Value} (h : Reads w v n sz xs) (hl : Later w w') : Reads w' v n sz xs := by
 obtain ⟨h1, h2, a, cap, h3, h4, h5, h6⟩ := h
 exact ⟨h1, h2, a, cap, h3, h4, h5, fun h0 => by obtain ⟨b, off, ha, hr⟩ := h6 h0; exact ⟨b, off, ha, hr.later hl⟩⟩
theorem qsame {P : Program} {f : FuncId} {args : Array Value} {w : World} {n : Nat} {v : Value}
 (h : Calls P f args (w.drewN n) fun e w' => e = .returned v ∧ w.drewN n = w') : Calls P f args (w.drewN n) fun e w'' => e = .returned v ∧ ∃ m, w'' = w.drewN m :=
 Calls.quiet_of_same (h.mono fun _ _ ⟨h1, h2⟩ => ⟨h1, h2.symm⟩)
theorem Reads.take {w : World} {a : Option Addr} {n cap sz k : Nat} {xs : List Value} (h : Reads w (.slice a n cap) n sz xs) (hk : k ≤ n) : Reads w (.slice a k cap) k sz (xs.take (k * sz)) := by
 obtain ⟨h1, h2, a', cap', h3, h4, h5, h6⟩ := h
 simp only [Value.slice.injEq, true_and] at h3
 obtain ⟨rfl, rfl⟩ := h3
 refine ⟨?_, by omega, a, cap, rfl, by omega, h5, fun h0 => ?_⟩
 · rw [List.length_take, h1, Nat.min_eq_left (Nat.mul_le_mul_right _ hk)]
 · obtain ⟨b, off, ha, hr⟩ := h6 (by omega)
   exact ⟨b, off, ha, hr.take _⟩
theorem reads_of_owns {w : World} {base : Nat} {e : TypeId} {s : Nat} {v : Value} {n : Nat} {xs : List Value} (ho : w.ownsRow base e s v n xs) (hn : n ≤ 1048576) : Reads w v n s xs := by
 obtain ⟨h1, h2⟩ := ho
 refine ⟨h1, hn, ?_⟩
 rcases h2 with ⟨rfl, rfl⟩ | ⟨g, cap, cur, rfl, hg, hh, hc, hm, hs, ht⟩
 · exact ⟨none, 0, rfl, Nat.le_refl _, by decide, fun h => absurd h (Nat.lt_irrefl _)⟩
 · refine ⟨_, cap, rfl, hc, hm, fun _ => ⟨g, 0, rfl, ?_, fun j u hj => ?_⟩⟩
   · exact (Array.getElem?_eq_some_iff.1 hh).1
   · subst ht
     simp [List.getElem?_take] at hj
     simp [World.cell?, hh, hj.2]
def Fig.cells (f : Fig) : List Value := [.int .i64 f.d, .int .i64 f.t]
def Trm.cells (t : Trm) : List Value := [.int .i64 t.f.d, .int .i64 t.f.t, .bool t.dv]
def Mov.cells (m : Mov) : List Value := [.int .i64 m.k, .int .i64 m.s, .int .i64 m.f.d, .int .i64 m.f.t]
def trms (l : List Trm) : List Value := l.flatMap Trm.cells
def movs (l : List Mov) : List Value := l.flatMap Mov.cells
def Stg.cells (s : Stg) : List Value := [.int .i64 s.sh, .int .i64 s.cu]
def stgs (l : List Stg) : List Value := l.flatMap Stg.cells
def nums (l : List Int) : List Value := l.map (Value.int .i64)
theorem flat_get {α : Type} (f : α → List Value) (n : Nat) (hf : ∀ x, (f x).length = n) : ∀ (l : List α) (k j : Nat) (x : α), l[k]? = some x → j < n → (l.flatMap f)[k * n + j]? = (f x)[j]?
 | [], k, j, x, h, _ => by simp at h
 | y :: l, 0, j, x, h, hj => by
  simp at h; subst h
  rw [List.flatMap_cons, Nat.zero_mul, Nat.zero_add, List.getElem?_append_left (by rw [hf]; exact hj)]
 | y :: l, k + 1, j, x, h, hj => by
  simp at h
  rw [List.flatMap_cons, List.getElem?_append_right (by rw [hf, Nat.succ_mul]; omega), hf, show (k + 1) * n + j - n = k * n + j from by rw [Nat.succ_mul]; omega]
  exact flat_get f n hf l k j x h hj
theorem flat_len {α : Type} (f : α → List Value) (n : Nat) (hf : ∀ x, (f x).length = n) : ∀ (l : List α), (l.flatMap f).length = l.length * n
 | [] => by simp
 | y :: l => by rw [List.flatMap_cons, List.length_append, hf, flat_len f n hf l, List.length_cons, Nat.succ_mul]; omega
theorem movs_len (l : List Mov) : (movs l).length = l.length * 4 := flat_len _ 4 (fun _ => rfl) l
theorem stgs_len (l : List Stg) : (stgs l).length = l.length * 2 := flat_len _ 2 (fun _ => rfl) l
theorem nums_len (l : List Int) : (nums l).length = l.length * 1 := by simp [nums]
theorem RowAt.stg {w : World} {b off k : Nat} {l : List Stg} (h : RowAt w b off (stgs l)) {x : Stg} (hx : l[k]? = some x) :
 w.cell? ⟨b, off + k * 2, none⟩ = some (.int .i64 x.sh) ∧ w.cell? ⟨b, off + k * 2 + 1, none⟩ = some (.int .i64 x.cu) :=
 ⟨h.2 (k * 2 + 0) _ (flat_get _ 2 (fun _ => rfl) l k 0 x hx (by decide)), h.2 (k * 2 + 1) _ (flat_get _ 2 (fun _ => rfl) l k 1 x hx (by decide))⟩
theorem RowAt.mov {w : World} {b off k : Nat} {l : List Mov} (h : RowAt w b off (movs l)) {x : Mov} (hx : l[k]? = some x) :
 w.cell? ⟨b, off + k * 4, none⟩ = some (.int .i64 x.k) ∧ w.cell? ⟨b, off + k * 4 + 1, none⟩ = some (.int .i64 x.s) ∧ w.cell? ⟨b, off + k * 4 + 2, none⟩ = some (.int .i64 x.f.d) ∧ w.cell? ⟨b, off + k * 4 + 3, none⟩ = some (.int .i64 x.f.t) :=
 ⟨h.2 (k * 4 + 0) _ (flat_get _ 4 (fun _ => rfl) l k 0 x hx (by decide)), h.2 (k * 4 + 1) _ (flat_get _ 4 (fun _ => rfl) l k 1 x hx (by decide)), h.2 (k * 4 + 2) _ (flat_get _ 4 (fun _ => rfl) l k 2 x hx (by decide)), h.2 (k * 4 + 3) _ (flat_get _ 4 (fun _ => rfl) l k 3 x hx (by decide))⟩
theorem RowAt.num {w : World} {b off k : Nat} {l : List Int} (h : RowAt w b off (nums l)) {x : Int} (hx : l[k]? = some x) : w.cell? ⟨b, off + k, none⟩ = some (.int .i64 x) :=
 h.2 k _ (by simp [nums, hx])
abbrev IsTrms (w : World) (v : Value) (l : List Trm) : Prop := Reads w v l.length 3 (trms l)
abbrev IsMovs (w : World) (v : Value) (l : List Mov) : Prop := Reads w v l.length 4 (movs l)
abbrev IsNums (w : World) (v : Value) (l : List Int) : Prop := Reads w v l.length 1 (nums l)
theorem own_shape {w : World} {base : Nat} {e : TypeId} {s : Nat} {v : Value} {n : Nat} {xs : List Value} (ho : w.ownsRow base e s v n xs) :
 (v = .slice none 0 0 ∧ n = 0 ∧ xs = []) ∨ ∃ g cap, v = .slice (some ⟨g, 0, none⟩) n cap ∧ base ≤ g ∧ g < w.heap.size ∧ n ≤ cap ∧ cap ≤ 9223372036854775807 := by
 rcases ho.2 with ⟨rfl, rfl⟩ | ⟨g, cap, cur, rfl, hg, hh, hc, hm, _⟩
 · exact .inl ⟨rfl, rfl, List.eq_nil_of_length_eq_zero (by simpa using ho.1)⟩
 · exact .inr ⟨g, cap, rfl, hg, (Array.getElem?_eq_some_iff.1 hh).1, hc, hm⟩
theorem grown_refl (w : World) (row : Option Nat) : w.grownBy w row := ⟨rfl, rfl, rfl, Nat.le_refl _, fun _ _ _ => rfl⟩
theorem grown_trans {a b c : World} {row : Option Nat} (h : a.grownBy b row) (k : b.grownBy c row) : a.grownBy c row :=
 ⟨k.os.trans h.os, k.tape.trans h.tape, k.output.trans h.output, Nat.le_trans h.size k.size, fun i hi hr => (k.block i (Nat.lt_of_lt_of_le hi h.size) hr).trans (h.block i hi hr)⟩
theorem grown_setCell {a b : World} {g : Nat} (h : a.grownBy b (some g)) (j : Nat) (u : Value) : a.grownBy (b.setCell ⟨g, j, none⟩ u) (some g) :=
 grown_trans h ⟨rfl, rfl, rfl, by simp, fun k _ hk => heap_setCell_other b ⟨g, j, none⟩ k u (fun e => hk (by simp [e]))⟩
theorem grown_later {a b c : World} {row : Option Nat} (h : a.grownBy b row) (k : Later b c) : a.grownBy c row :=
 ⟨k.os.trans h.os, k.tape.trans h.tape, k.output.trans h.output, Nat.le_trans h.size k.size, fun i hi hr => (k.block i (Nat.lt_of_lt_of_le hi h.size)).trans (h.block i hi hr)⟩
theorem flat_take {α : Type} (f : α → List Value) (n : Nat) (hf : ∀ x, (f x).length = n) : ∀ (l : List α) (k : Nat), (l.flatMap f).take (k * n) = (l.take k).flatMap f
 | [], k => by simp
 | x :: l, 0 => by simp
 | x :: l, k + 1 => by
  rw [List.flatMap_cons, List.take_succ_cons, List.flatMap_cons, ← flat_take f n hf l k, Nat.succ_mul, List.take_append, List.take_of_length_le (by rw [hf]; omega), hf, Nat.add_sub_cancel]
theorem flat_drop {α : Type} (f : α → List Value) (n : Nat) (hf : ∀ x, (f x).length = n) : ∀ (l : List α) (k : Nat), (l.flatMap f).drop (k * n) = (l.drop k).flatMap f
 | [], k => by simp
 | x :: l, 0 => by simp
 | x :: l, k + 1 => by
  rw [List.flatMap_cons, List.drop_succ_cons, ← flat_drop f n hf l k, Nat.succ_mul, List.drop_append, List.drop_eq_nil_of_le (by rw [hf]; omega), hf, Nat.add_sub_cancel, List.nil_append]
theorem IsNums.take {w : World} {a : Option Addr} {cap k : Nat} {l : List Int} (h : IsNums w (.slice a l.length cap) l) (hk : k ≤ l.length) : IsNums w (.slice a k cap) (l.take k) := by
 have := Reads.take h hk
 have hl : (l.take k).length = k := by rw [List.length_take, Nat.min_eq_left hk]
 rw [IsNums, hl]
 rwa [Nat.mul_one, show (nums l).take k = nums (l.take k) from by simp [nums, List.map_take]] at this
theorem IsTrms.take {w : World} {a : Option Addr} {cap k : Nat} {l : List Trm} (h : IsTrms w (.slice a l.length cap) l) (hk : k ≤ l.length) : IsTrms w (.slice a k cap) (l.take k) := by
 have := Reads.take h hk
 have hl : (l.take k).length = k := by rw [List.length_take, Nat.min_eq_left hk]
 rw [IsTrms, hl]
 rwa [show (trms l).take (k * 3) = trms (l.take k) from flat_take _ 3 (fun _ => rfl) l k] at this
theorem IsMovs.take {w : World} {a : Option Addr} {cap k : Nat} {l : List Mov} (h : IsMovs w (.slice a l.length cap) l) (hk : k ≤ l.length) : IsMovs w (.slice a k cap) (l.take k) := by
 have := Reads.take h hk
 have hl : (l.take k).length = k := by rw [List.length_take, Nat.min_eq_left hk]
 rw [IsMovs, hl]
 rwa [show (movs l).take (k * 4) = movs (l.take k) from flat_take _ 4 (fun _ => rfl) l k] at this
section
variable {P : Program} {ops : Array Oper} {Q : Exit → Act → World → Prop}
def InvStep (P : Program) (Q : Exit → Act → World → Prop) (I : (Nat → Bool) → Act → World → Prop) (k : Nat) (o : Oper) : Prop :=
 ∀ (g : Nat → Bool) (a : Act) (w : World), g k = false → (o.after.all fun e => !Region.binds .any e || g e.on) = true → I g a w →
  ∀ K' : Act → World → Prop, (∀ a w, I (fun j => if j = k then true else g j) a w → K' a w) → Oper.wp P o a w K' Q
inductive InvSteps (P : Program) (Q : Exit → Act → World → Prop) (I : (Nat → Bool) → Act → World → Prop) : Nat → List Oper → Prop
 | nil {k} : InvSteps P Q I k []
 | cons {k o r} (h : InvStep P Q I k o) (hs : InvSteps P Q I (k + 1) r) : InvSteps P Q I k (o :: r)
theorem InvSteps.at {I : (Nat → Bool) → Act → World → Prop} {k : Nat} {r : List Oper} (h : InvSteps P Q I k r) :
 ∀ i o, r[i]? = some o → InvStep P Q I (k + i) o := by
 induction h with
 | nil => intro i o h; simp at h
 | cons h1 _ ih =>
  intro i o h
  cases i with
  | zero => simp at h; subst h; exact h1
  | succ i => have := ih i o (by simpa using h); rwa [Nat.add_assoc, Nat.add_comm 1 i] at this
theorem countP_set {l : List Bool} {i : Nat} (h : l[i]? = some false) : (l.set i true).countP (fun b => !b) + 1 = l.countP (fun b => !b) := by
 induction l generalizing i with
 | nil => simp at h
 | cons b l ih =>
  cases i with
  | zero => simp at h; subst h; simp
  | succ i =>
   have := ih (i := i) (by simpa using h)
   simp only [List.set_cons_succ, List.countP_cons]
   omega
theorem ready_false {l : Array Bool} {i : Nat} (h : i ∈ Region.ready .any ops l) (hs : l.size = ops.size) :
 l.toList[i]? = some false ∧ i < ops.size ∧ ∀ o, ops[i]? = some o → (o.after.all fun e => !Region.binds .any e || l.getD e.on false) = true := by
 unfold Region.ready at h
 simp only [List.mem_filter, List.mem_range, Bool.and_eq_true, Bool.not_eq_true'] at h
 obtain ⟨h1, h2, h4⟩ := h
 refine ⟨?_, h1, ?_⟩
 · have h3 : i < l.size := by omega
   simp only [Array.getD, h3, dite_true] at h2
   rw [← h2]
   simp [h3]
 · intro o ho
   rw [ho] at h4
   exact h4
def backward (ops : Array Oper) : Bool := (List.range ops.size).all fun i => ((ops[i]?).map fun o => o.guard.isNone && o.after.all fun e => !Region.binds .any e || decide (e.on < i)).getD false
theorem backward_at (hb : backward ops = true) {i : Nat} {o : Oper} (ho : ops[i]? = some o) : o.guard = none ∧ ∀ e ∈ o.after, Region.binds .any e = true → e.on < i := by
 unfold backward at hb
 rw [List.all_eq_true] at hb
 have h := hb i (List.mem_range.2 (Array.getElem?_eq_some_iff.1 ho).1)
 rw [ho] at h
 simp only [Option.map_some, Option.getD_some, Bool.and_eq_true, Option.isNone_iff_eq_none, Array.all_eq_true_iff_forall_mem, Bool.or_eq_true, decide_eq_true_eq] at h
 refine ⟨h.1, fun e he hb => ?_⟩
 rcases h.2 e he with h' | h'
 · rw [hb] at h'; cases h'
 · exact h'
theorem ready_nil (hb : backward ops = true) {l : Array Bool} (hz : l.size = ops.size) (h : Region.ready .any ops l = []) : ∀ i, i < ops.size → l.getD i false = true := by
 intro i
 induction i using Nat.strongRecOn with
 | _ i ih =>
  intro hi
  rcases hv : l.getD i false with _ | _
  · exfalso
    obtain ⟨o, ho⟩ : ∃ o, ops[i]? = some o := ⟨ops[i], by simp [hi]⟩
    have h3 : i < l.size := by omega
    have hm : i ∈ Region.ready .any ops l := by
     unfold Region.ready
     simp only [List.mem_filter, List.mem_range, Bool.and_eq_true, Bool.not_eq_true']
     refine ⟨hi, ?_, ?_⟩
     · simp only [Array.getD, h3, dite_true] at hv ⊢
       exact hv
     · rw [ho]
       simp only [Option.map_some, Option.getD_some, Array.all_eq_true_iff_forall_mem]
       intro e he
       cases hq : Region.binds .any e
       · rfl
       · have := ih e.on ((backward_at hb ho).2 e he hq) (by have := (backward_at hb ho).2 e he hq; omega)
         rw [this, Bool.or_true]
    rw [h] at hm
    cases hm
  · rfl
theorem wpAny_inv (I : (Nat → Bool) → Act → World → Prop) (hb : backward ops = true)
 (hd : ∀ g a w, (∀ i, i < ops.size → g i = true) → I g a w → Q .normal a w)
 (hs : InvSteps P Q I 0 ops.toList) : ∀ (fuel : Nat) (l : Array Bool) (a : Act) (w : World), l.size = ops.size →
  l.toList.countP (fun b => !b) ≤ fuel → I (fun j => l.getD j false) a w → wpAny P .any ops Q fuel l a w
 | 0, l, a, w, hz, hc, hI => by
  have h0 : Region.ready .any ops l = [] := by
   apply List.eq_nil_iff_forall_not_mem.2
   intro i hi
   have h1 := countP_set (ready_false hi hz).1
   omega
  exact ⟨h0, hd _ a w (ready_nil hb hz h0) hI⟩
 | fuel + 1, l, a, w, hz, hc, hI => by
  refine ⟨fun h0 => hd _ a w (ready_nil hb hz h0) hI, fun i hi => ?_⟩
  obtain ⟨h1, h2, h3⟩ := ready_false hi hz
  obtain ⟨o, ho⟩ : ∃ o, ops[i]? = some o := ⟨ops[i], by simp [h2]⟩
  have hstep := hs.at i o (by simpa using ho)
  rw [Nat.zero_add] at hstep
  refine wpOp_step ho (fun K' hK => ?_)
  have hw : Region.wanted o (yielded ops a.tmps) = true := by simp [Region.wanted, (backward_at hb ho).1]
  rw [if_pos hw]
  refine hstep _ a w (by have h6 := h1; simp only [Array.getElem?_toList] at h6; simp [h6]) (h3 o ho) hI K' (fun a' w' h' => hK a' w' ?_)
  refine wpAny_inv I hb hd hs fuel _ a' w' (by simpa using hz) ?_ ?_
  · have h3 := countP_set h1
    have h4 : (l.setIfInBounds i true).toList = l.toList.set i true := by simp
    rw [h4]
    omega
  · have h5 : (fun j => (l.setIfInBounds i true).getD j false) = (fun j => if j = i then true else l.getD j false) := by
     funext j
     simp only [Array.getD_eq_getD_getElem?, Array.getElem?_setIfInBounds]
     by_cases h : i = j
     · subst h; simp [hz, h2]
     · rw [if_neg h, if_neg (Ne.symm h)]
    rw [h5]
    exact h'
theorem region_inv {id : Nat} {a : Act} {w : World} (I : Act → (Nat → Bool) → Act → World → Prop) (hm : P.follows .mixedOrders = true) (hb : backward ops = true)
 (h0 : I a (fun _ => false) a w.drew)
 (hd : ∀ g a' w, (∀ i, i < ops.size → g i = true) → I a g a' w → Q .normal a' w)
 (hs : InvSteps P Q (I a) 0 ops.toList) : (Code.region id ops true).wp P Q a w := by
 refine wp_region_any hm (wpAny_inv (I a) hb hd hs _ _ _ _ (by simp) ?_ ?_)
 · simpa using List.countP_le_length (p := fun b => !b) (l := (Array.replicate ops.size false).toList)
 · have h5 : (fun j => (Array.replicate ops.size false).getD j false) = (fun _ => false) := by
    funext j
    simp only [Array.getD_eq_getD_getElem?, Array.getElem?_replicate]
    split <;> rfl
   rw [h5]
   exact h0
end
theorem kept1 {w w1 : World} {o0 : Obj} (h : Later (w.alloc o0) w1) :
 w1.heap[w.heap.size]? = some o0 := h.keep (heap_alloc_new _ _)
theorem kept2 {w w1 : World} {o0 o1 : Obj} (h : Later ((w.alloc o0).alloc o1) w1) :
 w1.heap[w.heap.size]? = some o0 ∧ w1.heap[w.heap.size + 1]? = some o1 := ⟨h.keep (heap_alloc_old _ _ (heap_alloc_new _ _)), h.keep (heap_alloc_new' _ _ (by simp))⟩
theorem kept3 {w w1 : World} {o0 o1 o2 : Obj} (h : Later (((w.alloc o0).alloc o1).alloc o2) w1) :
 w1.heap[w.heap.size]? = some o0 ∧ w1.heap[w.heap.size + 1]? = some o1 ∧ w1.heap[w.heap.size + 1 + 1]? = some o2 := ⟨h.keep (heap_alloc_old _ _ (heap_alloc_old _ _ (heap_alloc_new _ _))), h.keep (heap_alloc_old _ _ (heap_alloc_new' _ _ (by simp))), h.keep (heap_alloc_new' _ _ (by simp))⟩
theorem kept4 {w w1 : World} {o0 o1 o2 o3 : Obj} (h : Later ((((w.alloc o0).alloc o1).alloc o2).alloc o3) w1) :
 w1.heap[w.heap.size]? = some o0 ∧ w1.heap[w.heap.size + 1]? = some o1 ∧ w1.heap[w.heap.size + 1 + 1]? = some o2 ∧ w1.heap[w.heap.size + 1 + 1 + 1]? = some o3 := ⟨h.keep (heap_alloc_old _ _ (heap_alloc_old _ _ (heap_alloc_old _ _ (heap_alloc_new _ _)))), h.keep (heap_alloc_old _ _ (heap_alloc_old _ _ (heap_alloc_new' _ _ (by simp)))), h.keep (heap_alloc_old _ _ (heap_alloc_new' _ _ (by simp))), h.keep (heap_alloc_new' _ _ (by simp))⟩
theorem four_set {w : World} {k : Nat} {x y z u : Value} {T : TypeId} (h : w.heap[k]? = some (.cells #[x, y, z, u] T (0, 0))) (a b c d : Value) :
 ((((w.setCell ⟨k, 0, none⟩ a).setCell ⟨k, 1, none⟩ b).setCell ⟨k, 2, none⟩ c).setCell ⟨k, 3, none⟩ d).heap[k]? = some (.cells #[a, b, c, d] T (0, 0)) := by
 rw [heap_setCell_same _ k 3 _ T d (heap_setCell_same _ k 2 _ T c (heap_setCell_same _ k 1 _ T b (heap_setCell_same w k 0 _ T a h)))]
 rfl
theorem set_0of2 {w : World} {k : Nat} {x y : Value} {T : TypeId} (h : w.heap[k]? = some (.cells #[x, y] T (0, 0))) (a : Value) :
 (w.setCell ⟨k, 0, none⟩ a).heap[k]? = some (.cells #[a, y] T (0, 0)) := by
 rw [heap_setCell_same w k 0 _ T a h]
 rfl
abbrev sl (a : Act) (i : Nat) : Value := a.tmps.getD i undef
theorem put_eq {a : Act} {i : Nat} {v : Value} (h : i < a.tmps.size) : sl (a.put (some i) v) i = v := by
 simp [sl, Act.put, Array.getD, h]
theorem put_ne {a : Act} {i j : Nat} {v : Value} (h : i ≠ j) : sl (a.put (some j) v) i = sl a i := by
 simp only [sl, Act.put, Array.getD_eq_getD_getElem?]
 rw [Array.getElem?_setIfInBounds_ne (Ne.symm h)]
theorem put_size {a : Act} {d : Option Tmp} {v : Value} : (a.put d v).tmps.size = a.tmps.size := by
 cases d <;> simp [Act.put]
theorem keepF {a : Act} {p : Prop} {i j : Nat} {v u : Value} (h : p → sl a i = v) (hij : i ≠ j) : p → sl (a.put (some j) u) i = v := fun hp => (put_ne hij).trans (h hp)
theorem keepB {a : Act} {i j : Nat} {v u : Value} (h : sl a i = v) (hij : i ≠ j) : sl (a.put (some j) u) i = v := (put_ne hij).trans h
theorem sl_get {a : Act} {i : Nat} {v : Value} (h : sl a i = v) (hi : i < a.tmps.size) : a.tmps[i] = v := by
 simpa [sl, Array.getD, hi] using h
def SameBut (L : List Nat) (a b : Act) : Prop := b.tmps.size = a.tmps.size ∧ b.defers = a.defers ∧ ∀ i, i ∉ L → sl b i = sl a i
theorem SameBut.refl (L : List Nat) (a : Act) : SameBut L a a := ⟨rfl, rfl, fun _ _ => rfl⟩
theorem SameBut.put {L : List Nat} {a b : Act} (h : SameBut L a b) {d : Option Tmp} (hd : ∀ j, d = some j → j ∈ L) (v : Value) : SameBut L a (b.put d v) := by
 obtain ⟨h1, h2, h3⟩ := h
 cases d with
 | none => exact ⟨h1, h2, h3⟩
 | some j =>
  refine ⟨put_size.trans h1, h2, fun i hi => ?_⟩
  rw [put_ne (show i ≠ j from fun e => hi (by rw [e]; exact hd j rfl))]
  exact h3 i hi
theorem act_ext {a b : Act} (h1 : b.tmps.size = a.tmps.size) (h2 : b.defers = a.defers) (h3 : ∀ i, sl b i = sl a i) : b = a := by
 obtain ⟨t, d⟩ := a
 obtain ⟨t', d'⟩ := b
 simp only at h1 h2
 subst h2
 have : t' = t := by
  apply Array.ext h1
  intro i hi hi'
  have := h3 i
  simpa [sl, Array.getD, hi, hi'] using this
 rw [this]
def putAll (f : Nat → Value) : List Nat → Act → Act
 | [], a => a
 | i :: l, a => putAll f l (a.put (some i) (f i))
theorem putAll_size (f : Nat → Value) : ∀ (l : List Nat) (a : Act), (putAll f l a).tmps.size = a.tmps.size
 | [], a => rfl
 | i :: l, a => (putAll_size f l _).trans put_size
theorem putAll_defers (f : Nat → Value) : ∀ (l : List Nat) (a : Act), (putAll f l a).defers = a.defers
 | [], a => rfl
 | i :: l, a => putAll_defers f l _
theorem putAll_not (f : Nat → Value) : ∀ (l : List Nat) (a : Act) (i : Nat), i ∉ l → sl (putAll f l a) i = sl a i
 | [], a, i, _ => rfl
 | j :: l, a, i, h => by
  rw [putAll, putAll_not f l _ i (fun e => h (List.mem_cons_of_mem _ e)), put_ne (show i ≠ j from fun e => h (by rw [e]; exact List.mem_cons_self))]
theorem putAll_mem (f : Nat → Value) : ∀ (l : List Nat) (a : Act) (i : Nat), i ∈ l → i < a.tmps.size → sl (putAll f l a) i = f i
 | j :: l, a, i, h, hs => by
  rw [putAll]
  by_cases hi : i ∈ l
  · exact putAll_mem f l _ i hi (by rw [put_size]; exact hs)
  · rw [putAll_not f l _ i hi]
    rcases List.mem_cons.1 h with rfl | h
    · exact put_eq hs
    · exact absurd h hi
theorem SameBut.all {L : List Nat} {a b : Act} (h : SameBut L a b) : b = putAll (sl b) L a := by
 obtain ⟨h1, h2, h3⟩ := h
 refine act_ext (h1.trans (putAll_size _ _ _).symm) (h2.trans (putAll_defers _ _ _).symm) fun i => ?_
 by_cases hi : i ∈ L
 · by_cases hs : i < a.tmps.size
   · rw [putAll_mem _ _ _ _ hi hs]
   · have e1 : sl b i = undef := by simp [sl, Array.getD, h1, hs]
     have e2 : sl (putAll (sl b) L a) i = undef := by simp [sl, Array.getD, putAll_size, hs]
     rw [e1, e2]
 · rw [h3 i hi, putAll_not _ _ _ _ hi]
section
variable {P : Program} {ops : Array Oper} {Q : Exit → Act → World → Prop}
def SlotStep (P : Program) (Q : Exit → Act → World → Prop) (n : Nat) (I : (Nat → Bool) → Act → World → Prop) (k : Nat) (o : Oper) : Prop :=
 ∀ (g : Nat → Bool) (a : Act) (w : World), a.tmps.size = n → g k = false → (o.after.all fun e => !Region.binds .any e || g e.on) = true → I g a w →
  ∀ K' : Act → World → Prop, (∀ v w, I (fun j => if j = k then true else g j) (a.put o.dst v) w → K' (a.put o.dst v) w) → Oper.wp P o a w K' Q
inductive SlotSteps (P : Program) (Q : Exit → Act → World → Prop) (n : Nat) (I : (Nat → Bool) → Act → World → Prop) : Nat → List Oper → Prop
 | nil {k} : SlotSteps P Q n I k []
 | cons {k o r} (h : SlotStep P Q n I k o) (hs : SlotSteps P Q n I (k + 1) r) : SlotSteps P Q n I k (o :: r)
theorem SlotSteps.inv {n : Nat} {I : (Nat → Bool) → Act → World → Prop} {a0 : Act} (hn : a0.tmps.size = n) {L : List Nat} {k : Nat} {r : List Oper} (h : SlotSteps P Q n I k r) :
 (∀ o ∈ r, ∀ j, o.dst = some j → j ∈ L) → InvSteps P Q (fun g a w => SameBut L a0 a ∧ I g a w) k r := by
 induction h with
 | nil => intro _; exact .nil
 | cons h1 _ ih =>
  intro hL
  refine .cons ?_ (ih fun o ho => hL o (List.mem_cons_of_mem _ ho))
  intro g a w hk hr hI K' hK
  obtain ⟨hs, hI⟩ := hI
  exact h1 g a w (hs.1.trans hn) hk hr hI K' fun v w' hI' => hK _ _ ⟨hs.put (hL _ List.mem_cons_self) v, hI'⟩
def dstIn (ops : Array Oper) (L : List Nat) : Bool := ops.toList.all fun o => match o.dst with | some j => L.contains j | none => true
theorem region_slots {id : Nat} {a : Act} {w : World} (n : Nat) (L : List Nat) (I : (Nat → Bool) → Act → World → Prop) (hm : P.follows .mixedOrders = true) (hb : backward ops = true) (hn : a.tmps.size = n) (hL : dstIn ops L = true)
 (h0 : I (fun _ => false) a w.drew)
 (hd : ∀ g b w', (∀ i, i < ops.size → g i = true) → b = putAll (sl b) L a → I g b w' → Q .normal b w')
 (hs : SlotSteps P Q n I 0 ops.toList) : (Code.region id ops true).wp P Q a w := by
 refine region_inv (fun a0 g b w' => SameBut L a0 b ∧ I g b w') hm hb ⟨SameBut.refl _ _, h0⟩ ?_ ?_
 · intro g b w' hg hI
   obtain ⟨h1, h2⟩ := hI
   exact hd g b w' hg h1.all h2
 · refine hs.inv hn ?_
   intro o ho j hj
   unfold dstIn at hL
   rw [List.all_eq_true] at hL
   have := hL o ho
   rw [hj] at this
   simpa using this
end
section
variable {P : Program} {ops : Array Oper} {Q : Exit → Act → World → Prop}
def backwardE (ops : Array Oper) : Bool := (List.range ops.size).all fun i => ((ops[i]?).map fun o => o.after.all fun e => !Region.binds .any e || decide (e.on < i)).getD false
theorem backwardE_at (hb : backwardE ops = true) {i : Nat} {o : Oper} (ho : ops[i]? = some o) : ∀ e ∈ o.after, Region.binds .any e = true → e.on < i := by
 unfold backwardE at hb
 rw [List.all_eq_true] at hb
 have h := hb i (List.mem_range.2 (Array.getElem?_eq_some_iff.1 ho).1)
 rw [ho] at h
 simp only [Option.map_some, Option.getD_some, Array.all_eq_true_iff_forall_mem, Bool.or_eq_true, decide_eq_true_eq] at h
 intro e he hb
 rcases h e he with h' | h'
 · rw [hb] at h'; cases h'
 · exact h'
theorem ready_nilE (hb : backwardE ops = true) {l : Array Bool} (hz : l.size = ops.size) (h : Region.ready .any ops l = []) : ∀ i, i < ops.size → l.getD i false = true := by
 intro i
 induction i using Nat.strongRecOn with
 | _ i ih =>
  intro hi
  rcases hv : l.getD i false with _ | _
  · exfalso
    obtain ⟨o, ho⟩ : ∃ o, ops[i]? = some o := ⟨ops[i], by simp [hi]⟩
    have h3 : i < l.size := by omega
    have hm : i ∈ Region.ready .any ops l := by
     unfold Region.ready
     simp only [List.mem_filter, List.mem_range, Bool.and_eq_true, Bool.not_eq_true']
     refine ⟨hi, ?_, ?_⟩
     · simp only [Array.getD, h3, dite_true] at hv ⊢
       exact hv
     · rw [ho]
       simp only [Option.map_some, Option.getD_some, Array.all_eq_true_iff_forall_mem]
       intro e he
       cases hq : Region.binds .any e
       · rfl
       · have := ih e.on (backwardE_at hb ho e he hq) (by have := backwardE_at hb ho e he hq; omega)
         rw [this, Bool.or_true]
    rw [h] at hm
    cases hm
  · rfl
def GSlot (P : Program) (ops : Array Oper) (Q : Exit → Act → World → Prop) (n : Nat) (I : (Nat → Bool) → Act → World → Prop) (k : Nat) (o : Oper) : Prop :=
 ∀ (g : Nat → Bool) (a : Act) (w : World), a.tmps.size = n → g k = false → (o.after.all fun e => !Region.binds .any e || g e.on) = true → I g a w →
  ∀ K' : Act → World → Prop, (∀ v w, I (fun j => if j = k then true else g j) (a.put o.dst v) w → K' (a.put o.dst v) w) →
   if Region.wanted o (yielded ops a.tmps) = true then Oper.wp P o a w K' Q else K' (a.put o.dst undef) w
theorem GSlot.of {n : Nat} {I : (Nat → Bool) → Act → World → Prop} {k : Nat} {o : Oper} (hg : o.guard = none) (h : SlotStep P Q n I k o) : GSlot P ops Q n I k o := by
 intro g a w hn hk hr hI K' hK
 rw [if_pos (by simp [Region.wanted, hg])]
 exact h g a w hn hk hr hI K' hK
theorem GSlot.want {n : Nat} {I : (Nat → Bool) → Act → World → Prop} {k : Nat} {o : Oper} {j d : Nat} {b : Bool} (hg : o.guard = some (j, b)) (hd : (ops[j]?).bind (·.dst) = some d) (hdn : d < n)
 (hw : ∀ (g : Nat → Bool) (a : Act) (w : World), (o.after.all fun e => !Region.binds .any e || g e.on) = true → I g a w → sl a d = .bool b)
 (h : SlotStep P Q n I k o) : GSlot P ops Q n I k o := by
 intro g a w hn hk hr hI K' hK
 have h1 := hw g a w hr hI
 have h2 : a.tmps[d]? = some (.bool b) := by
  have hlt : d < a.tmps.size := by omega
  rw [Array.getElem?_eq_getElem hlt, sl_get h1 hlt]
 have h3 : yielded ops a.tmps j = some b := by
  unfold yielded
  rw [hd]
  simp [h2]
 rw [if_pos (by simp [Region.wanted, hg, h3])]
 exact h g a w hn hk hr hI K' hK
theorem GSlot.skip {n : Nat} {I : (Nat → Bool) → Act → World → Prop} {k : Nat} {o : Oper} {j d : Nat} {b : Bool} (hg : o.guard = some (j, b)) (hd : (ops[j]?).bind (·.dst) = some d) (hdn : d < n)
 (hw : ∀ (g : Nat → Bool) (a : Act) (w : World), (o.after.all fun e => !Region.binds .any e || g e.on) = true → I g a w → sl a d = .bool (!b))
 (h : ∀ (g : Nat → Bool) (a : Act) (w : World), a.tmps.size = n → g k = false → (o.after.all fun e => !Region.binds .any e || g e.on) = true → I g a w → I (fun j => if j = k then true else g j) (a.put o.dst undef) w) : GSlot P ops Q n I k o := by
 intro g a w hn hk hr hI K' hK
 have h1 := hw g a w hr hI
 have h2 : a.tmps[d]? = some (.bool (!b)) := by
  have hlt : d < a.tmps.size := by omega
  rw [Array.getElem?_eq_getElem hlt, sl_get h1 hlt]
 have h3 : yielded ops a.tmps j = some (!b) := by
  unfold yielded
  rw [hd]
  simp [h2]
 rw [if_neg (by simp [Region.wanted, hg, h3])]
 exact hK _ _ (h g a w hn hk hr hI)
inductive GSlots (P : Program) (ops : Array Oper) (Q : Exit → Act → World → Prop) (n : Nat) (I : (Nat → Bool) → Act → World → Prop) : Nat → List Oper → Prop
 | nil {k} : GSlots P ops Q n I k []
 | cons {k o r} (h : GSlot P ops Q n I k o) (hs : GSlots P ops Q n I (k + 1) r) : GSlots P ops Q n I k (o :: r)
theorem GSlots.at {n : Nat} {I : (Nat → Bool) → Act → World → Prop} {k : Nat} {r : List Oper} (h : GSlots P ops Q n I k r) :
 ∀ i o, r[i]? = some o → GSlot P ops Q n I (k + i) o := by
 induction h with
 | nil => intro i o h; simp at h
 | cons h1 _ ih =>
  intro i o h
  cases i with
  | zero => simp at h; subst h; exact h1
  | succ i => have := ih i o (by simpa using h); rwa [Nat.add_assoc, Nat.add_comm 1 i] at this
theorem wpAny_slots {L : List Nat} {a0 : Act} {n : Nat} (hn : a0.tmps.size = n) (hL : dstIn ops L = true) (I : (Nat → Bool) → Act → World → Prop) (hb : backwardE ops = true)
 (hd : ∀ g a w, (∀ i, i < ops.size → g i = true) → SameBut L a0 a → I g a w → Q .normal a w)
 (hs : GSlots P ops Q n I 0 ops.toList) : ∀ (fuel : Nat) (l : Array Bool) (a : Act) (w : World), l.size = ops.size →
  l.toList.countP (fun b => !b) ≤ fuel → SameBut L a0 a → I (fun j => l.getD j false) a w → wpAny P .any ops Q fuel l a w
 | 0, l, a, w, hz, hc, hS, hI => by
  have h0 : Region.ready .any ops l = [] := by
   apply List.eq_nil_iff_forall_not_mem.2
   intro i hi
   have h1 := countP_set (ready_false hi hz).1
   omega
  exact ⟨h0, hd _ a w (ready_nilE hb hz h0) hS hI⟩
 | fuel + 1, l, a, w, hz, hc, hS, hI => by
  refine ⟨fun h0 => hd _ a w (ready_nilE hb hz h0) hS hI, fun i hi => ?_⟩
  obtain ⟨h1, h2, h3⟩ := ready_false hi hz
  obtain ⟨o, ho⟩ : ∃ o, ops[i]? = some o := ⟨ops[i], by simp [h2]⟩
  have hstep := hs.at i o (by simpa using ho)
  rw [Nat.zero_add] at hstep
  have hdst : ∀ j, o.dst = some j → j ∈ L := by
   intro j hj
   unfold dstIn at hL
   rw [List.all_eq_true] at hL
   have := hL o (by rw [Array.mem_toList_iff]; exact Array.mem_of_getElem? ho)
   rw [hj] at this
   simpa using this
  refine wpOp_step ho (fun K' hK => ?_)
  refine hstep _ a w (hS.1.trans hn) (by have h6 := h1; simp only [Array.getElem?_toList] at h6; simp [h6]) (h3 o ho) hI K' (fun v w' h' => hK _ w' ?_)
  refine wpAny_slots hn hL I hb hd hs fuel _ _ w' (by simpa using hz) ?_ (hS.put hdst v) ?_
  · have h3 := countP_set h1
    have h4 : (l.setIfInBounds i true).toList = l.toList.set i true := by simp
    rw [h4]
    omega
  · have h5 : (fun j => (l.setIfInBounds i true).getD j false) = (fun j => if j = i then true else l.getD j false) := by
     funext j
     simp only [Array.getD_eq_getD_getElem?, Array.getElem?_setIfInBounds]
     by_cases h : i = j
     · subst h; simp [hz, h2]
     · rw [if_neg h, if_neg (Ne.symm h)]
    rw [h5]
    exact h'
theorem region_guards {id : Nat} {a : Act} {w : World} (n : Nat) (L : List Nat) (I : (Nat → Bool) → Act → World → Prop) (hm : P.follows .mixedOrders = true) (hb : backwardE ops = true) (hn : a.tmps.size = n) (hL : dstIn ops L = true)
 (h0 : I (fun _ => false) a w.drew)
 (hd : ∀ g b w', (∀ i, i < ops.size → g i = true) → b = putAll (sl b) L a → I g b w' → Q .normal b w')
 (hs : GSlots P ops Q n I 0 ops.toList) : (Code.region id ops true).wp P Q a w := by
 refine wp_region_any hm (wpAny_slots hn hL I hb (fun g b w' hg hS hI => hd g b w' hg hS.all hI) hs _ _ _ _ (by simp) ?_ (SameBut.refl _ _) ?_)
 · simpa using List.countP_le_length (p := fun b => !b) (l := (Array.replicate ops.size false).toList)
 · have h5 : (fun j => (Array.replicate ops.size false).getD j false) = (fun _ => false) := by
    funext j
    simp only [Array.getD_eq_getD_getElem?, Array.getElem?_replicate]
    split <;> rfl
   rw [h5]
   exact h0
end
structure PlGo (k : Nat) (q q' : Value) (w w' : World) : Prop where
 os : w'.os = w.os
 tape : w'.tape = w.tape
 output : w'.output = w.output
 size : w.heap.size ≤ w'.heap.size
 block : ∀ j, j < w.heap.size → j ≠ k → q.ownBlock ≠ some j → w'.heap[j]? = w.heap[j]?
 own : ∀ j, q'.ownBlock = some j → q.ownBlock = some j ∨ w.heap.size ≤ j
theorem PlGo.refl (k : Nat) (q : Value) (w : World) : PlGo k q q w w := ⟨rfl, rfl, rfl, Nat.le_refl _, fun _ _ _ _ => rfl, fun _ h => .inl h⟩
theorem PlGo.trans {k : Nat} {q q' q'' : Value} {a b c : World} (h : PlGo k q q' a b) (h' : PlGo k q' q'' b c) : PlGo k q q'' a c := by
 refine ⟨h'.os.trans h.os, h'.tape.trans h.tape, h'.output.trans h.output, Nat.le_trans h.size h'.size, fun j hj hk hq => ?_, fun j hj => ?_⟩
 · have hq' : q'.ownBlock ≠ some j := by
    intro e
    rcases h.own j e with e | e
    · exact hq e
    · omega
   exact (h'.block j (Nat.lt_of_lt_of_le hj h.size) hk hq').trans (h.block j hj hk hq)
 · rcases h'.own j hj with e | e
   · exact h.own j e
   · exact .inr (Nat.le_trans h.size e)
theorem PlGo.later {k : Nat} {q : Value} {w w' : World} (h : Later w w') : PlGo k q q w w' := ⟨h.os, h.tape, h.output, h.size, fun j hj _ _ => h.block j hj, fun _ h => .inl h⟩
theorem PlGo.keep {k : Nat} {q q' : Value} {w w' : World} (h : PlGo k q q' w w') {j : Nat} {x : Obj} (hx : w.heap[j]? = some x) (hk : j ≠ k) (hq : q.ownBlock ≠ some j) : w'.heap[j]? = some x :=
 (h.block j (Array.getElem?_eq_some_iff.1 hx).1 hk hq).trans hx
theorem PlGo.setCell {k : Nat} {q : Value} (w : World) (o : Nat) (x : Value) : PlGo k q q w (w.setCell ⟨k, o, none⟩ x) :=
 ⟨rfl, rfl, rfl, by simp [World.setCell], fun j _ hk _ => Below.heap_setCell _ _ _ _ hk, fun _ h => .inl h⟩
theorem PlGo.grown {k : Nat} {q q' : Value} {w w' : World} (h : w.grownBy w' q.ownBlock) (hq : ∀ j, q'.ownBlock = some j → q.ownBlock = some j ∨ w.heap.size ≤ j) : PlGo k q q' w w' :=
 ⟨h.os, h.tape, h.output, h.size, fun j hj _ hq => h.block j hj (fun e => hq e.symm), hq⟩
theorem grown_alloc {w w' : World} {o : Obj} {row : Option Nat} (h : (w.alloc o).grownBy w' row) : w.grownBy w' row :=
 ⟨h.os, h.tape, h.output, Nat.le_trans (by simp) h.size, fun k hk hr => (h.block k (by simp; omega) hr).trans (Below.heap_alloc w o k hk)⟩
theorem own_empty {w : World} {base : Nat} (hb : base ≤ w.heap.size) (E : TypeId) (s : Nat) : (w.alloc (.cells #[] E)).ownsRow base E s (.slice (some ⟨w.heap.size, 0, none⟩) 0 0) 0 [] :=
 World.ownsRow_made w #[] 0 hb (by decide) (by simp)
theorem RowAt.add {w : World} {b off : Nat} {xs : List Value} (h : RowAt w b off xs) : ∀ j u, xs[j]? = some u → w.cell? ((⟨b, off, none⟩ : Addr).add j) = some u := by
 intro j u hj
 have ha : (Addr.add ⟨b, off, none⟩ j) = ⟨b, off + j, none⟩ := by
  unfold Addr.add
  split
  · rename_i hz; subst hz; rfl
  · rfl
 rw [ha]
 exact h.2 j u hj
theorem ia_Move : (Tryz.prog.info? 107).map (fun i => (i.zero, i.size, i.bytes)) = some (some (.agg #[.int .i64 0, .int .i64 0, .int .i64 0, .int .i64 0]), 4, 32) := by kernel_rfl
theorem oneCell_movs : ∀ (l : List Mov), ∀ u ∈ movs l, u.oneCell' = true := by
 intro l u hu
 simp only [movs, List.mem_flatMap, Mov.cells] at hu
 obtain ⟨x, _, hx⟩ := hu
 simp at hx
 rcases hx with rfl | rfl | rfl | rfl <;> rfl
theorem app_Move {ops : Array Oper} {rest : List Oper} {o : Oper} {a : Act} {w : World} {Q : Exit → Act → World → Prop} (hgd : o.guard = none) (s x : Operand)
 (ho : o.op = .call { callee := .builtin .append, args := #[s, x], argTypes := #[52, 52] })
 (base : Nat) (v : Value) (l : List Mov) (hs : a.eval s = v) (hown : w.ownsRow base 107 4 v l.length (movs l))
 (ad : Addr) (m c : Nat) (news : List Mov) (hx : a.eval x = .slice (some ad) m c) (hm : news.length = m) (hnews : ∀ j u, (movs news)[j]? = some u → w.cell? (ad.add j) = some u)
 (hlen : l.length + m ≤ 1048576) (hbase : base ≤ w.heap.size)
 (h : ∀ v' w', w'.ownsRow base 107 4 v' (l ++ news).length (movs (l ++ news)) → w.grownBy w' v.ownBlock → wpList Tryz.prog ops Q rest (a.put o.dst v') w') : wpList Tryz.prog ops Q (o :: rest) a w := by
 obtain ⟨i0, hi, hz0, hz1, hz2⟩ := info_parts ia_Move
 refine wpList_append_own w hgd s x 52 ho base 107 i0 _ 4 32 Tryz.underlying52 hi hz0 hz1 hz2 rfl (by decide) v l.length (movs l) hs hown ad m c (movs news) hx (by rw [movs_len, hm]) hnews (oneCell_movs _) (by unfold maxLen; omega) (by omega) hbase ?_
 intro v' w' ho' hg _
 refine h v' w' ?_ hg
 rw [List.length_append, hm, show movs (l ++ news) = movs l ++ movs news from by simp [movs]]
 exact ho'
theorem app1_Move {ops : Array Oper} {rest : List Oper} {o : Oper} {a : Act} {w : World} {Q : Exit → Act → World → Prop} (hgd : o.guard = none) (s x' : Operand)
 (ho : o.op = .call { callee := .builtin .append, args := #[s, x'], argTypes := #[52, 52] })
 (base : Nat) (v : Value) (l : List Mov) (x : Mov) (hs : a.eval s = v) (hown : w.ownsRow base 107 4 v l.length (movs l))
 (hx : a.eval x' = .slice (some ⟨w.heap.size, 0, none⟩) 1 1) (hlen : l.length + 1 ≤ 1048576) (hbase : base ≤ w.heap.size)
 (h : ∀ v' w', w'.ownsRow base 107 4 v' (l ++ [x]).length (movs (l ++ [x])) → w.grownBy w' v.ownBlock → wpList Tryz.prog ops Q rest (a.put o.dst v') w') :
 wpList Tryz.prog ops Q (o :: rest) a (w.alloc (.cells #[.int .i64 x.k, .int .i64 x.s, .int .i64 x.f.d, .int .i64 x.f.t] 107)) := by
 refine app_Move hgd s x' ho base v l hs (hown.alloc _) ⟨w.heap.size, 0, none⟩ 1 1 [x] hx rfl ?_ hlen (Nat.le_trans hbase (by simp)) fun v' w' h1 h2 => h v' w' h1 (grown_alloc h2)
 intro j u hj
 have hb : (w.alloc (.cells #[.int .i64 x.k, .int .i64 x.s, .int .i64 x.f.d, .int .i64 x.f.t] 107)).heap[w.heap.size]? = some (.cells #[.int .i64 x.k, .int .i64 x.s, .int .i64 x.f.d, .int .i64 x.f.t] 107 (0, 0)) := heap_alloc_new _ _
 have ha : (Addr.add ⟨w.heap.size, 0, none⟩ j) = ⟨w.heap.size, j, none⟩ := by
  unfold Addr.add
  split
  · rename_i hz; subst hz; rfl
  · simp
 rw [ha]
 simp only [World.cell?, hb]
 simpa [movs, Mov.cells] using hj
theorem ia_Int64 : (Tryz.prog.info? 2).map (fun i => (i.zero, i.size, i.bytes)) = some (some (.int .i64 0), 1, 8) := by kernel_rfl
theorem oneCell_nums : ∀ (l : List Int), ∀ u ∈ nums l, u.oneCell' = true := by
 intro l u hu
 simp only [nums, List.mem_map] at hu
 obtain ⟨x, _, rfl⟩ := hu
 rfl
theorem app_Int64 {ops : Array Oper} {rest : List Oper} {o : Oper} {a : Act} {w : World} {Q : Exit → Act → World → Prop} (hgd : o.guard = none) (s x : Operand)
 (ho : o.op = .call { callee := .builtin .append, args := #[s, x], argTypes := #[24, 24] })
 (base : Nat) (v : Value) (l : List Int) (hs : a.eval s = v) (hown : w.ownsRow base 2 1 v l.length (nums l))
 (ad : Addr) (m c : Nat) (news : List Int) (hx : a.eval x = .slice (some ad) m c) (hm : news.length = m) (hnews : ∀ j u, (nums news)[j]? = some u → w.cell? (ad.add j) = some u)
 (hlen : l.length + m ≤ 1048576) (hbase : base ≤ w.heap.size)
 (h : ∀ v' w', w'.ownsRow base 2 1 v' (l ++ news).length (nums (l ++ news)) → w.grownBy w' v.ownBlock → wpList Tryz.prog ops Q rest (a.put o.dst v') w') : wpList Tryz.prog ops Q (o :: rest) a w := by
 obtain ⟨i0, hi, hz0, hz1, hz2⟩ := info_parts ia_Int64
 refine wpList_append_own w hgd s x 24 ho base 2 i0 _ 1 8 Tryz.underlying24 hi hz0 hz1 hz2 rfl (by decide) v l.length (nums l) hs hown ad m c (nums news) hx (by rw [nums_len, hm]) hnews (oneCell_nums _) (by unfold maxLen; omega) (by omega) hbase ?_
 intro v' w' ho' hg _
 refine h v' w' ?_ hg
 rw [List.length_append, hm, show nums (l ++ news) = nums l ++ nums news from by simp [nums]]
 exact ho'
theorem app1_Int64 {ops : Array Oper} {rest : List Oper} {o : Oper} {a : Act} {w : World} {Q : Exit → Act → World → Prop} (hgd : o.guard = none) (s x' : Operand)
 (ho : o.op = .call { callee := .builtin .append, args := #[s, x'], argTypes := #[24, 24] })
 (base : Nat) (v : Value) (l : List Int) (x : Int) (hs : a.eval s = v) (hown : w.ownsRow base 2 1 v l.length (nums l))
 (hx : a.eval x' = .slice (some ⟨w.heap.size, 0, none⟩) 1 1) (hlen : l.length + 1 ≤ 1048576) (hbase : base ≤ w.heap.size)
 (h : ∀ v' w', w'.ownsRow base 2 1 v' (l ++ [x]).length (nums (l ++ [x])) → w.grownBy w' v.ownBlock → wpList Tryz.prog ops Q rest (a.put o.dst v') w') :
 wpList Tryz.prog ops Q (o :: rest) a (w.alloc (.cells #[.int .i64 x] 2)) := by
 refine app_Int64 hgd s x' ho base v l hs (hown.alloc _) ⟨w.heap.size, 0, none⟩ 1 1 [x] hx rfl ?_ hlen (Nat.le_trans hbase (by simp)) fun v' w' h1 h2 => h v' w' h1 (grown_alloc h2)
 intro j u hj
 have hb : (w.alloc (.cells #[.int .i64 x] 2)).heap[w.heap.size]? = some (.cells #[.int .i64 x] 2 (0, 0)) := heap_alloc_new _ _
 have ha : (Addr.add ⟨w.heap.size, 0, none⟩ j) = ⟨w.heap.size, j, none⟩ := by
  unfold Addr.add
  split
  · rename_i hz; subst hz; rfl
  · simp
 rw [ha]
 simp only [World.cell?, hb]
 simpa [nums] using hj
theorem ia_Setting : (Tryz.prog.info? 28).map (fun i => (i.zero, i.size, i.bytes)) = some (some (.agg #[.int .i64 0, .int .i64 0]), 2, 16) := by kernel_rfl
theorem oneCell_stgs : ∀ (l : List Stg), ∀ u ∈ stgs l, u.oneCell' = true := by
 intro l u hu
 simp only [stgs, List.mem_flatMap, Stg.cells] at hu
 obtain ⟨x, _, hx⟩ := hu
 simp at hx
 rcases hx with rfl | rfl <;> rfl
theorem app_Setting {ops : Array Oper} {rest : List Oper} {o : Oper} {a : Act} {w : World} {Q : Exit → Act → World → Prop} (hgd : o.guard = none) (s x : Operand)
 (ho : o.op = .call { callee := .builtin .append, args := #[s, x], argTypes := #[115, 115] })
 (base : Nat) (v : Value) (l : List Stg) (hs : a.eval s = v) (hown : w.ownsRow base 28 2 v l.length (stgs l))
 (ad : Addr) (m c : Nat) (news : List Stg) (hx : a.eval x = .slice (some ad) m c) (hm : news.length = m) (hnews : ∀ j u, (stgs news)[j]? = some u → w.cell? (ad.add j) = some u)
 (hlen : l.length + m ≤ 1048576) (hbase : base ≤ w.heap.size)
 (h : ∀ v' w', w'.ownsRow base 28 2 v' (l ++ news).length (stgs (l ++ news)) → w.grownBy w' v.ownBlock → wpList Tryz.prog ops Q rest (a.put o.dst v') w') : wpList Tryz.prog ops Q (o :: rest) a w := by
 obtain ⟨i0, hi, hz0, hz1, hz2⟩ := info_parts ia_Setting
 refine wpList_append_own w hgd s x 115 ho base 28 i0 _ 2 16 Tryz.underlying115 hi hz0 hz1 hz2 rfl (by decide) v l.length (stgs l) hs hown ad m c (stgs news) hx (by rw [stgs_len, hm]) hnews (oneCell_stgs _) (by unfold maxLen; omega) (by omega) hbase ?_
 intro v' w' ho' hg _
 refine h v' w' ?_ hg
 rw [List.length_append, hm, show stgs (l ++ news) = stgs l ++ stgs news from by simp [stgs]]
 exact ho'
theorem app1_Setting {ops : Array Oper} {rest : List Oper} {o : Oper} {a : Act} {w : World} {Q : Exit → Act → World → Prop} (hgd : o.guard = none) (s x' : Operand)
 (ho : o.op = .call { callee := .builtin .append, args := #[s, x'], argTypes := #[115, 115] })
 (base : Nat) (v : Value) (l : List Stg) (x : Stg) (hs : a.eval s = v) (hown : w.ownsRow base 28 2 v l.length (stgs l))
 (hx : a.eval x' = .slice (some ⟨w.heap.size, 0, none⟩) 1 1) (hlen : l.length + 1 ≤ 1048576) (hbase : base ≤ w.heap.size)
 (h : ∀ v' w', w'.ownsRow base 28 2 v' (l ++ [x]).length (stgs (l ++ [x])) → w.grownBy w' v.ownBlock → wpList Tryz.prog ops Q rest (a.put o.dst v') w') :
 wpList Tryz.prog ops Q (o :: rest) a (w.alloc (.cells #[.int .i64 x.sh, .int .i64 x.cu] 28)) := by
 refine app_Setting hgd s x' ho base v l hs (hown.alloc _) ⟨w.heap.size, 0, none⟩ 1 1 [x] hx rfl ?_ hlen (Nat.le_trans hbase (by simp)) fun v' w' h1 h2 => h v' w' h1 (grown_alloc h2)
 intro j u hj
 have hb : (w.alloc (.cells #[.int .i64 x.sh, .int .i64 x.cu] 28)).heap[w.heap.size]? = some (.cells #[.int .i64 x.sh, .int .i64 x.cu] 28 (0, 0)) := heap_alloc_new _ _
 have ha : (Addr.add ⟨w.heap.size, 0, none⟩ j) = ⟨w.heap.size, j, none⟩ := by
  unfold Addr.add
  split
  · rename_i hz; subst hz; rfl
  · simp
 rw [ha]
 simp only [World.cell?, hb]
 simpa [stgs, Stg.cells] using hj
def IsSl (v : Value) (n : Nat) : Prop := ∃ a cap, v = .slice a n cap
theorem isSl_of {w : World} {base : Nat} {e : TypeId} {s : Nat} {v : Value} {n : Nat} {xs : List Value} (ho : w.ownsRow base e s v n xs) : IsSl v n := by
 rcases ho.2 with ⟨rfl, rfl⟩ | ⟨g, cap, cur, rfl, _⟩
 · exact ⟨_, _, rfl⟩
 · exact ⟨_, _, rfl⟩
theorem rows_grown {w w' : World} {base : Nat} {e : TypeId} {s : Nat} {v : Value} {n : Nat} {xs : List Value} (ho : w.ownsRow base e s v n xs) {row : Option Nat} (hg : w.grownBy w' row) (hne : ∀ k, v.ownBlock = some k → row ≠ some k) : w'.ownsRow base e s v n xs := by
 obtain ⟨h1, h2⟩ := ho
 refine ⟨h1, ?_⟩
 rcases h2 with h2 | ⟨g, cap, cur, hv, hb, hh, r⟩
 · exact .inl h2
 · refine .inr ⟨g, cap, cur, hv, hb, ?_, r⟩
   subst hv
   exact grown_keep' hg hh (hne g rfl)
where
 grown_keep' {a b : World} {row : Option Nat} (h : a.grownBy b row) {k : Nat} {x : Obj} (hk : a.heap[k]? = some x) (hne : row ≠ some k) : b.heap[k]? = some x :=
  (h.block k (Array.getElem?_eq_some_iff.1 hk).1 (fun e => hne e.symm)).trans hk
theorem row_add {w : World} {base : Nat} {e : TypeId} {s g n cap : Nat} {xs : List Value} (ho : w.ownsRow base e s (.slice (some ⟨g, 0, none⟩) n cap) n xs) : ∀ j u, xs[j]? = some u → w.cell? ((⟨g, 0, none⟩ : Addr).add j) = some u := by
 rcases ho.2 with ⟨h, _⟩ | ⟨g', cap', cur, hv, _, hh, _, _, _, ht⟩
 · cases h
 · simp only [Value.slice.injEq, Option.some.injEq, Addr.mk.injEq, and_true, true_and] at hv
   obtain ⟨rfl, rfl⟩ := hv
   intro j u hj
   have ha : (Addr.add ⟨g, 0, none⟩ j) = ⟨g, j, none⟩ := by
    unfold Addr.add
    split
    · rename_i hz; subst hz; rfl
    · simp
   rw [ha]
   subst ht
   simp [List.getElem?_take] at hj
   simp [World.cell?, hh, hj.2]
theorem owns_setNe {w : World} {base : Nat} {e : TypeId} {s : Nat} {v : Value} {n : Nat} {xs : List Value} (ho : w.ownsRow base e s v n xs) {k : Nat} (hk : v.ownBlock ≠ some k) (j : Nat) (x : Value) : (w.setCell ⟨k, j, none⟩ x).ownsRow base e s v n xs :=
 rows_grown ho (grown_setCell (grown_refl w (some k)) j x) (fun q e1 e2 => hk (by rw [e1, ← e2]))
theorem qF {a : Act} {p : Prop} {i j : Nat} {v u : Value} (h : p → sl a i = v) (hij : i ≠ j := by decide) : p → sl (a.put (some j) u) i = v := keepF h hij
theorem qB {a : Act} {i j : Nat} {v u : Value} (h : sl a i = v) (hij : i ≠ j := by decide) : sl (a.put (some j) u) i = v := keepB h hij
theorem qP {a : Act} {p : Prop} {i : Nat} {v : Value} (h : i < a.tmps.size := by omega) : p → sl (a.put (some i) v) i = v := fun _ => put_eq h
theorem qLa {a w : World} {o : Obj} (h : Later a w) : Later a (w.alloc o) := h.alloc o
theorem qLd {a w : World} (h : Later a w) : Later a w.drew := h.drew
theorem qLe {a w : World} {n : Nat} (h : Later a w) : Later a (w.drewN n) := h.drewN n
theorem qLs {a w : World} {p : Addr} {u : Value} (h : Later a w) (hp : a.heap.size ≤ p.block := by first | omega | (simp; omega) | (simp; done)) : Later a (w.setCell p u) := h.setCell hp u
theorem qLt {a b c : World} (h : Later a b) (k : Later b c) : Later a c := h.trans k
theorem qK {w : World} {o : Obj} {k : Nat} (hk : k = w.heap.size) : (w.alloc o).heap[k]? = some o := heap_alloc_new' w o hk
theorem qKo {w : World} {o : Obj} {k : Nat} {x : Obj} (h : w.heap[k]? = some x) : (w.alloc o).heap[k]? = some x := heap_alloc_old w o h
theorem qKs {w : World} {k g o : Nat} {x : Obj} {v : Value} (h : w.heap[k]? = some x) (hne : k ≠ g) : (w.setCell ⟨g, o, none⟩ v).heap[k]? = some x := other_set h hne v
theorem qOa {w : World} {o : Obj} {base : Nat} {e : TypeId} {s : Nat} {v : Value} {n : Nat} {xs : List Value} (h : w.ownsRow base e s v n xs) : (w.alloc o).ownsRow base e s v n xs := World.ownsRow.alloc h o
theorem qOs {w : World} {base : Nat} {e : TypeId} {s : Nat} {v : Value} {n : Nat} {xs : List Value} {k j : Nat} {x : Value} (ho : w.ownsRow base e s v n xs) (hk : v.ownBlock ≠ some k) : (w.setCell ⟨k, j, none⟩ x).ownsRow base e s v n xs := owns_setNe ho hk j x
theorem qOd {w : World} {base : Nat} {e : TypeId} {s : Nat} {v : Value} {n : Nat} {xs : List Value} (h : w.ownsRow base e s v n xs) : w.drew.ownsRow base e s v n xs := owns_later h (Later.refl _).drew
theorem qOe {w : World} {base : Nat} {e : TypeId} {s : Nat} {v : Value} {n m : Nat} {xs : List Value} (h : w.ownsRow base e s v n xs) : (w.drewN m).ownsRow base e s v n xs := owns_later h ((Later.refl _).drewN _)
theorem qOn {w : World} {base : Nat} {e : TypeId} {s : Nat} {v : Value} {n : Nat} {xs : List Value} (ho : w.ownsRow base e s v n xs) {k : Nat} (h : w.heap.size ≤ k) : v.ownBlock ≠ some k :=
 fun e => by have := (ho.lt k e).2; omega
theorem qOl {w : World} {base : Nat} {e : TypeId} {s : Nat} {v : Value} {n : Nat} {xs : List Value} (ho : w.ownsRow base e s v n xs) {k : Nat} (h : k < base) : v.ownBlock ≠ some k :=
 fun e => by have := (ho.lt k e).1; omega
theorem qst {P : Program} {Q : Exit → Act → World → Prop} {n : Nat} {I : (Nat → Bool) → Act → World → Prop} {k : Nat} {o : Oper}
 (h : ∀ (g : Nat → Bool) (a : Act) (w : World), a.tmps.size = n → g k = false → (o.after.all fun e => !Region.binds .any e || g e.on) = true → Hid (I g a w) →
  ∀ K' : Act → World → Prop, Hid (∀ v w, I (fun j => if j = k then true else g j) (a.put o.dst v) w → K' (a.put o.dst v) w) → Oper.wp P o a w K' Q) : SlotStep P Q n I k o :=
 fun g a w h1 h2 h3 h4 K h5 => h g a w h1 h2 h3 (Lib.hid h4) K (Lib.hid h5)
theorem qla {a b : World} (h : Later a b := by repeat (with_reducible first | exact Later.refl _ | refine qLa ?_ | refine qLd ?_ | refine qLe ?_ | refine qLs ?_ | refine qLt ?_ (by assumption))) : Later a b := h
theorem qlh {a b : World} (h : Later a b := by repeat (with_reducible first | exact Later.refl _ | (apply Hid.out; assumption) | refine qLa ?_ | refine qLd ?_ | refine qLe ?_ | refine qLs ?_)) : Later a b := h
theorem qoh {w w2 : World} {base : Nat} {e : TypeId} {s : Nat} {v : Value} {n : Nat} {xs : List Value} (X : Hid (w.ownsRow base e s v n xs)) (h : w2.ownsRow base e s v n xs := by repeat (with_reducible first | (apply Hid.out; assumption) | apply qOa | (apply qOs; case hk => first | assumption | exact qOn (Hid.out (by assumption)) (by first | omega | (simp; omega)) | exact qOl (Hid.out (by assumption)) (by omega)) | apply qOd | apply qOe)) : w2.ownsRow base e s v n xs := h
theorem qsz {a b c : Nat} (h : b ≤ c) (h' : a ≤ b := by first | (simp; done) | (simp; omega)) : a ≤ c := Nat.le_trans h' h
end Go.Proofs.YtgngbdacejghcaaGreatDoor
