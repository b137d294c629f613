/- DERIVED. append on a slice of the call's own, the element types of this program. -/
import Derived.Test.YtfhppnmbmdpjeaaB0
import Derived.Laws.AppendOwnNone
import Derived.Deep.RegionLaw
namespace Go.Proofs.Ytfhppnmbmdpjeaa
set_option linter.unusedVariables false
set_option linter.unusedSimpArgs false
open Go.RowKit
set_option maxRecDepth 100000

theorem grown_alloc {w w' : World} {o : Obj} {row : Option Nat} (h : (w.alloc o).grownBy w' row) : w.grownBy w' row :=
  ⟨h.os, h.tape, h.output, Nat.le_trans (by simp) h.size, fun k hk hr => (h.block k (by simp; omega) hr).trans (Below.heap_alloc w o k hk)⟩

theorem own_empty {w : World} {base : Nat} (hb : base ≤ w.heap.size) (E : TypeId) (s : Nat) : (w.alloc (.cells #[] E)).ownsRow base E s (.slice (some ⟨w.heap.size, 0, none⟩) 0 0) 0 [] :=
  World.ownsRow_made w #[] 0 hb (by decide) (by simp)

theorem RowAt.add {w : World} {b off : Nat} {xs : List Value} (h : RowAt w b off xs) : ∀ j u, xs[j]? = some u → w.cell? ((⟨b, off, none⟩ : Addr).add j) = some u := by
  intro j u hj
  have ha : (Addr.add ⟨b, off, none⟩ j) = ⟨b, off + j, none⟩ := by
    unfold Addr.add
    split
    · rename_i hz; subst hz; rfl
    · rfl
  rw [ha]
  exact h.2 j u hj

theorem flat_one {α : Type} (f : α → List Value) (x : α) : ([x] : List α).flatMap f = f x := by simp

theorem ia_Term : (Try.prog.info? 101).map (fun i => (i.zero, i.size, i.bytes)) = some (some (.agg #[.int .i64 0, .int .i64 0, .bool false]), 3, 24) := by kernel_rfl

theorem oneCell_trms : ∀ (l : List Trm), ∀ u ∈ trms l, u.oneCell' = true := by
  intro l u hu
  simp only [trms, List.mem_flatMap, Trm.cells] at hu
  obtain ⟨x, _, hx⟩ := hu
  simp at hx
  rcases hx with rfl | rfl | rfl <;> rfl

/-- out = append(out, xs...) where xs lies in memory. -/
theorem app_Term {ops : Array Oper} {rest : List Oper} {o : Oper} {a : Act} {w : World} {Q : Exit → Act → World → Prop} (hgd : o.guard = none) (s x : Operand)
    (ho : o.op = .call { callee := .builtin .append, args := #[s, x], argTypes := #[47, 47] })
    (base : Nat) (v : Value) (l : List Trm) (hs : a.eval s = v) (hown : w.ownsRow base 101 3 v l.length (trms l))
    (ad : Addr) (m c : Nat) (news : List Trm) (hx : a.eval x = .slice (some ad) m c) (hm : news.length = m) (hnews : ∀ j u, (trms news)[j]? = some u → w.cell? (ad.add j) = some u)
    (hlen : l.length + m ≤ 1048576) (hbase : base ≤ w.heap.size)
    (h : ∀ v' w', w'.ownsRow base 101 3 v' (l ++ news).length (trms (l ++ news)) → w.grownBy w' v.ownBlock → wpList Try.prog ops Q rest (a.put o.dst v') w') : wpList Try.prog ops Q (o :: rest) a w := by
  obtain ⟨i0, hi, hz0, hz1, hz2⟩ := info_parts ia_Term
  refine wpList_append_own w hgd s x 47 ho base 101 i0 _ 3 24 Try.underlying47 hi hz0 hz1 hz2 rfl (by decide) v l.length (trms l) hs hown ad m c (trms news) hx (by rw [trms_len, hm]) hnews (oneCell_trms _) (by unfold maxLen; omega) (by omega) hbase ?_
  intro v' w' ho' hg _
  refine h v' w' ?_ hg
  rw [List.length_append, hm, show trms (l ++ news) = trms l ++ trms news from by simp [trms]]
  exact ho'
/-- out = append(out, x), x just laid in a block of its own. -/
theorem app1_Term {ops : Array Oper} {rest : List Oper} {o : Oper} {a : Act} {w : World} {Q : Exit → Act → World → Prop} (hgd : o.guard = none) (s x' : Operand)
    (ho : o.op = .call { callee := .builtin .append, args := #[s, x'], argTypes := #[47, 47] })
    (base : Nat) (v : Value) (l : List Trm) (x : Trm) (hs : a.eval s = v) (hown : w.ownsRow base 101 3 v l.length (trms l))
    (hx : a.eval x' = .slice (some ⟨w.heap.size, 0, none⟩) 1 1) (hlen : l.length + 1 ≤ 1048576) (hbase : base ≤ w.heap.size)
    (h : ∀ v' w', w'.ownsRow base 101 3 v' (l ++ [x]).length (trms (l ++ [x])) → w.grownBy w' v.ownBlock → wpList Try.prog ops Q rest (a.put o.dst v') w') :
    wpList Try.prog ops Q (o :: rest) a (w.alloc (.cells #[.int .i64 x.f.d, .int .i64 x.f.t, .bool x.dv] 101)) := by
  refine app_Term hgd s x' ho base v l hs (hown.alloc _) ⟨w.heap.size, 0, none⟩ 1 1 [x] hx rfl ?_ hlen (Nat.le_trans hbase (by simp)) fun v' w' h1 h2 => h v' w' h1 (grown_alloc h2)
  intro j u hj
  have hb : (w.alloc (.cells #[.int .i64 x.f.d, .int .i64 x.f.t, .bool x.dv] 101)).heap[w.heap.size]? = some (.cells #[.int .i64 x.f.d, .int .i64 x.f.t, .bool x.dv] 101 (0, 0)) := heap_alloc_new _ _
  have ha : (Addr.add ⟨w.heap.size, 0, none⟩ j) = ⟨w.heap.size, j, none⟩ := by
    unfold Addr.add
    split
    · rename_i hz; subst hz; rfl
    · simp
  rw [ha]
  simp only [World.cell?, hb]
  simpa [trms, Trm.cells] using hj

/-- out := append([]T{}, xs...). -/
theorem appC_Term {ops : Array Oper} {rest : List Oper} {o : Oper} {a : Act} {w : World} {Q : Exit → Act → World → Prop} (hgd : o.guard = none) (s x : Operand)
    (ho : o.op = .call { callee := .builtin .append, args := #[s, x], argTypes := #[47, 47] })
    (base : Nat) (l : List Trm) (hs : a.eval s = .slice (some ⟨w.heap.size, 0, none⟩) 0 0)
    (b off m c : Nat) (hx : a.eval x = .slice (some ⟨b, off, none⟩) m c) (hm : l.length = m) (hr : RowAt w b off (trms l))
    (hlen : m ≤ 1048576) (hbase : base ≤ w.heap.size)
    (h : ∀ v' w', w'.ownsRow base 101 3 v' l.length (trms l) → Later w w' → wpList Try.prog ops Q rest (a.put o.dst v') w') :
    wpList Try.prog ops Q (o :: rest) a (w.alloc (.cells #[] 101)) := by
  refine app_Term hgd s x ho base _ [] hs (own_empty hbase _ _) ⟨b, off, none⟩ m c l hx hm (hr.later ((Later.refl _).alloc _)).add (by simpa using hlen) (Nat.le_trans hbase (by simp)) fun v' w' h1 h2 => h v' w' (by simpa using h1) ?_
  exact Below.grown ((Later.refl w).alloc _) h2 (by simp) fun k hk => by simp [Value.ownBlock] at hk; omega

theorem new_Term (w : World) (x : Trm) : ∀ j u, (trms [x])[j]? = some u → ((w.alloc (.cells #[.int .i64 x.f.d, .int .i64 x.f.t, .bool x.dv] 101)).drew).cell? ((⟨w.heap.size, 0, none⟩ : Addr).add j) = some u := by
  intro j u hj
  have hb : ((w.alloc (.cells #[.int .i64 x.f.d, .int .i64 x.f.t, .bool x.dv] 101)).drew).heap[w.heap.size]? = some (.cells #[.int .i64 x.f.d, .int .i64 x.f.t, .bool x.dv] 101 (0, 0)) := heap_alloc_new _ _
  have ha : (Addr.add ⟨w.heap.size, 0, none⟩ j) = ⟨w.heap.size, j, none⟩ := by
    unfold Addr.add
    split
    · rename_i hz; subst hz; rfl
    · simp
  rw [ha]
  simp only [World.cell?, hb]
  simpa [trms, Trm.cells] using hj
/-- out = append(out, x) as a step of a region that draws. -/
theorem stepA1_Term {ops : Array Oper} {o : Oper} {a : Act} {w : World} {K : Act → World → Prop} {Q : Exit → Act → World → Prop} {E' : Prop} (hgd : o.guard = none) (s x' : Operand)
    (ho : o.op = .call { callee := .builtin .append, args := #[s, x'], argTypes := #[47, 47] })
    (base : Nat) (v : Value) (l : List Trm) (x : Trm) (hs : a.eval s = v) (hown : w.ownsRow base 101 3 v l.length (trms l))
    (hx : a.eval x' = .slice (some ⟨w.heap.size, 0, none⟩) 1 1) (hlen : l.length + 1 ≤ 1048576) (hbase : base ≤ w.heap.size)
    (h : ∀ v' w', w'.ownsRow base 101 3 v' (l ++ [x]).length (trms (l ++ [x])) → w.grownBy w' v.ownBlock → K (a.put o.dst v') w') :
    if Region.wanted o (yielded ops a.tmps) = true then Oper.wp Try.prog o a ((w.alloc (.cells #[.int .i64 x.f.d, .int .i64 x.f.t, .bool x.dv] 101)).drew) K Q else E' := by
  have hw : Region.wanted o (yielded ops a.tmps) = true := by simp [Region.wanted, hgd]
  rw [if_pos hw]
  obtain ⟨i0, hi, hz0, hz1, hz2⟩ := info_parts ia_Term
  refine wp_append_own _ s x' 47 ho base 101 i0 _ 3 24 Try.underlying47 hi hz0 hz1 hz2 rfl (by decide) v l.length (trms l) hs (owns_later (hown.alloc _) (Later.refl _).drew) ⟨w.heap.size, 0, none⟩ 1 1 (trms [x]) hx (by rw [trms_len]; rfl) (new_Term w x) (oneCell_trms _) (by unfold maxLen; omega) (by omega) (Nat.le_trans hbase (by show w.heap.size ≤ (w.alloc _).heap.size; simp)) ?_
  intro v' w' ho' hg _
  refine h v' w' ?_ (grown_alloc ⟨hg.os, hg.tape, hg.output, hg.size, hg.block⟩)
  rw [List.length_append, show trms (l ++ [x]) = trms l ++ trms [x] from by simp [trms]]
  exact ho'


theorem ia_Move : (Try.prog.info? 107).map (fun i => (i.zero, i.size, i.bytes)) = some (some (.agg #[.int .i64 0, .int .i64 0, .int .i64 0, .int .i64 0]), 4, 32) := by kernel_rfl

theorem oneCell_movs : ∀ (l : List Mov), ∀ u ∈ movs l, u.oneCell' = true := by
  intro l u hu
  simp only [movs, List.mem_flatMap, Mov.cells] at hu
  obtain ⟨x, _, hx⟩ := hu
  simp at hx
  rcases hx with rfl | rfl | rfl | rfl <;> rfl

/-- out = append(out, xs...) where xs lies in memory. -/
theorem app_Move {ops : Array Oper} {rest : List Oper} {o : Oper} {a : Act} {w : World} {Q : Exit → Act → World → Prop} (hgd : o.guard = none) (s x : Operand)
    (ho : o.op = .call { callee := .builtin .append, args := #[s, x], argTypes := #[65, 65] })
    (base : Nat) (v : Value) (l : List Mov) (hs : a.eval s = v) (hown : w.ownsRow base 107 4 v l.length (movs l))
    (ad : Addr) (m c : Nat) (news : List Mov) (hx : a.eval x = .slice (some ad) m c) (hm : news.length = m) (hnews : ∀ j u, (movs news)[j]? = some u → w.cell? (ad.add j) = some u)
    (hlen : l.length + m ≤ 1048576) (hbase : base ≤ w.heap.size)
    (h : ∀ v' w', w'.ownsRow base 107 4 v' (l ++ news).length (movs (l ++ news)) → w.grownBy w' v.ownBlock → wpList Try.prog ops Q rest (a.put o.dst v') w') : wpList Try.prog ops Q (o :: rest) a w := by
  obtain ⟨i0, hi, hz0, hz1, hz2⟩ := info_parts ia_Move
  refine wpList_append_own w hgd s x 65 ho base 107 i0 _ 4 32 Try.underlying65 hi hz0 hz1 hz2 rfl (by decide) v l.length (movs l) hs hown ad m c (movs news) hx (by rw [movs_len, hm]) hnews (oneCell_movs _) (by unfold maxLen; omega) (by omega) hbase ?_
  intro v' w' ho' hg _
  refine h v' w' ?_ hg
  rw [List.length_append, hm, show movs (l ++ news) = movs l ++ movs news from by simp [movs]]
  exact ho'
/-- out = append(out, x), x just laid in a block of its own. -/
theorem app1_Move {ops : Array Oper} {rest : List Oper} {o : Oper} {a : Act} {w : World} {Q : Exit → Act → World → Prop} (hgd : o.guard = none) (s x' : Operand)
    (ho : o.op = .call { callee := .builtin .append, args := #[s, x'], argTypes := #[65, 65] })
    (base : Nat) (v : Value) (l : List Mov) (x : Mov) (hs : a.eval s = v) (hown : w.ownsRow base 107 4 v l.length (movs l))
    (hx : a.eval x' = .slice (some ⟨w.heap.size, 0, none⟩) 1 1) (hlen : l.length + 1 ≤ 1048576) (hbase : base ≤ w.heap.size)
    (h : ∀ v' w', w'.ownsRow base 107 4 v' (l ++ [x]).length (movs (l ++ [x])) → w.grownBy w' v.ownBlock → wpList Try.prog ops Q rest (a.put o.dst v') w') :
    wpList Try.prog ops Q (o :: rest) a (w.alloc (.cells #[.int .i64 x.k, .int .i64 x.s, .int .i64 x.f.d, .int .i64 x.f.t] 107)) := by
  refine app_Move hgd s x' ho base v l hs (hown.alloc _) ⟨w.heap.size, 0, none⟩ 1 1 [x] hx rfl ?_ hlen (Nat.le_trans hbase (by simp)) fun v' w' h1 h2 => h v' w' h1 (grown_alloc h2)
  intro j u hj
  have hb : (w.alloc (.cells #[.int .i64 x.k, .int .i64 x.s, .int .i64 x.f.d, .int .i64 x.f.t] 107)).heap[w.heap.size]? = some (.cells #[.int .i64 x.k, .int .i64 x.s, .int .i64 x.f.d, .int .i64 x.f.t] 107 (0, 0)) := heap_alloc_new _ _
  have ha : (Addr.add ⟨w.heap.size, 0, none⟩ j) = ⟨w.heap.size, j, none⟩ := by
    unfold Addr.add
    split
    · rename_i hz; subst hz; rfl
    · simp
  rw [ha]
  simp only [World.cell?, hb]
  simpa [movs, Mov.cells] using hj

/-- out := append([]T{}, xs...). -/
theorem appC_Move {ops : Array Oper} {rest : List Oper} {o : Oper} {a : Act} {w : World} {Q : Exit → Act → World → Prop} (hgd : o.guard = none) (s x : Operand)
    (ho : o.op = .call { callee := .builtin .append, args := #[s, x], argTypes := #[65, 65] })
    (base : Nat) (l : List Mov) (hs : a.eval s = .slice (some ⟨w.heap.size, 0, none⟩) 0 0)
    (b off m c : Nat) (hx : a.eval x = .slice (some ⟨b, off, none⟩) m c) (hm : l.length = m) (hr : RowAt w b off (movs l))
    (hlen : m ≤ 1048576) (hbase : base ≤ w.heap.size)
    (h : ∀ v' w', w'.ownsRow base 107 4 v' l.length (movs l) → Later w w' → wpList Try.prog ops Q rest (a.put o.dst v') w') :
    wpList Try.prog ops Q (o :: rest) a (w.alloc (.cells #[] 107)) := by
  refine app_Move hgd s x ho base _ [] hs (own_empty hbase _ _) ⟨b, off, none⟩ m c l hx hm (hr.later ((Later.refl _).alloc _)).add (by simpa using hlen) (Nat.le_trans hbase (by simp)) fun v' w' h1 h2 => h v' w' (by simpa using h1) ?_
  exact Below.grown ((Later.refl w).alloc _) h2 (by simp) fun k hk => by simp [Value.ownBlock] at hk; omega

theorem new_Move (w : World) (x : Mov) : ∀ j u, (movs [x])[j]? = some u → ((w.alloc (.cells #[.int .i64 x.k, .int .i64 x.s, .int .i64 x.f.d, .int .i64 x.f.t] 107)).drew).cell? ((⟨w.heap.size, 0, none⟩ : Addr).add j) = some u := by
  intro j u hj
  have hb : ((w.alloc (.cells #[.int .i64 x.k, .int .i64 x.s, .int .i64 x.f.d, .int .i64 x.f.t] 107)).drew).heap[w.heap.size]? = some (.cells #[.int .i64 x.k, .int .i64 x.s, .int .i64 x.f.d, .int .i64 x.f.t] 107 (0, 0)) := heap_alloc_new _ _
  have ha : (Addr.add ⟨w.heap.size, 0, none⟩ j) = ⟨w.heap.size, j, none⟩ := by
    unfold Addr.add
    split
    · rename_i hz; subst hz; rfl
    · simp
  rw [ha]
  simp only [World.cell?, hb]
  simpa [movs, Mov.cells] using hj
/-- out = append(out, x) as a step of a region that draws. -/
theorem stepA1_Move {ops : Array Oper} {o : Oper} {a : Act} {w : World} {K : Act → World → Prop} {Q : Exit → Act → World → Prop} {E' : Prop} (hgd : o.guard = none) (s x' : Operand)
    (ho : o.op = .call { callee := .builtin .append, args := #[s, x'], argTypes := #[65, 65] })
    (base : Nat) (v : Value) (l : List Mov) (x : Mov) (hs : a.eval s = v) (hown : w.ownsRow base 107 4 v l.length (movs l))
    (hx : a.eval x' = .slice (some ⟨w.heap.size, 0, none⟩) 1 1) (hlen : l.length + 1 ≤ 1048576) (hbase : base ≤ w.heap.size)
    (h : ∀ v' w', w'.ownsRow base 107 4 v' (l ++ [x]).length (movs (l ++ [x])) → w.grownBy w' v.ownBlock → K (a.put o.dst v') w') :
    if Region.wanted o (yielded ops a.tmps) = true then Oper.wp Try.prog o a ((w.alloc (.cells #[.int .i64 x.k, .int .i64 x.s, .int .i64 x.f.d, .int .i64 x.f.t] 107)).drew) K Q else E' := by
  have hw : Region.wanted o (yielded ops a.tmps) = true := by simp [Region.wanted, hgd]
  rw [if_pos hw]
  obtain ⟨i0, hi, hz0, hz1, hz2⟩ := info_parts ia_Move
  refine wp_append_own _ s x' 65 ho base 107 i0 _ 4 32 Try.underlying65 hi hz0 hz1 hz2 rfl (by decide) v l.length (movs l) hs (owns_later (hown.alloc _) (Later.refl _).drew) ⟨w.heap.size, 0, none⟩ 1 1 (movs [x]) hx (by rw [movs_len]; rfl) (new_Move w x) (oneCell_movs _) (by unfold maxLen; omega) (by omega) (Nat.le_trans hbase (by show w.heap.size ≤ (w.alloc _).heap.size; simp)) ?_
  intro v' w' ho' hg _
  refine h v' w' ?_ (grown_alloc ⟨hg.os, hg.tape, hg.output, hg.size, hg.block⟩)
  rw [List.length_append, show movs (l ++ [x]) = movs l ++ movs [x] from by simp [movs]]
  exact ho'


theorem ia_Figure : (Try.prog.info? 29).map (fun i => (i.zero, i.size, i.bytes)) = some (some (.agg #[.int .i64 0, .int .i64 0]), 2, 16) := by kernel_rfl

theorem oneCell_figs : ∀ (l : List Fig), ∀ u ∈ figs l, u.oneCell' = true := by
  intro l u hu
  simp only [figs, List.mem_flatMap, Fig.cells] at hu
  obtain ⟨x, _, hx⟩ := hu
  simp at hx
  rcases hx with rfl | rfl <;> rfl

/-- out = append(out, xs...) where xs lies in memory. -/
theorem app_Figure {ops : Array Oper} {rest : List Oper} {o : Oper} {a : Act} {w : World} {Q : Exit → Act → World → Prop} (hgd : o.guard = none) (s x : Operand)
    (ho : o.op = .call { callee := .builtin .append, args := #[s, x], argTypes := #[53, 53] })
    (base : Nat) (v : Value) (l : List Fig) (hs : a.eval s = v) (hown : w.ownsRow base 29 2 v l.length (figs l))
    (ad : Addr) (m c : Nat) (news : List Fig) (hx : a.eval x = .slice (some ad) m c) (hm : news.length = m) (hnews : ∀ j u, (figs news)[j]? = some u → w.cell? (ad.add j) = some u)
    (hlen : l.length + m ≤ 1048576) (hbase : base ≤ w.heap.size)
    (h : ∀ v' w', w'.ownsRow base 29 2 v' (l ++ news).length (figs (l ++ news)) → w.grownBy w' v.ownBlock → wpList Try.prog ops Q rest (a.put o.dst v') w') : wpList Try.prog ops Q (o :: rest) a w := by
  obtain ⟨i0, hi, hz0, hz1, hz2⟩ := info_parts ia_Figure
  refine wpList_append_own w hgd s x 53 ho base 29 i0 _ 2 16 Try.underlying53 hi hz0 hz1 hz2 rfl (by decide) v l.length (figs l) hs hown ad m c (figs news) hx (by rw [figs_len, hm]) hnews (oneCell_figs _) (by unfold maxLen; omega) (by omega) hbase ?_
  intro v' w' ho' hg _
  refine h v' w' ?_ hg
  rw [List.length_append, hm, show figs (l ++ news) = figs l ++ figs news from by simp [figs]]
  exact ho'
/-- out = append(out, x), x just laid in a block of its own. -/
theorem app1_Figure {ops : Array Oper} {rest : List Oper} {o : Oper} {a : Act} {w : World} {Q : Exit → Act → World → Prop} (hgd : o.guard = none) (s x' : Operand)
    (ho : o.op = .call { callee := .builtin .append, args := #[s, x'], argTypes := #[53, 53] })
    (base : Nat) (v : Value) (l : List Fig) (x : Fig) (hs : a.eval s = v) (hown : w.ownsRow base 29 2 v l.length (figs l))
    (hx : a.eval x' = .slice (some ⟨w.heap.size, 0, none⟩) 1 1) (hlen : l.length + 1 ≤ 1048576) (hbase : base ≤ w.heap.size)
    (h : ∀ v' w', w'.ownsRow base 29 2 v' (l ++ [x]).length (figs (l ++ [x])) → w.grownBy w' v.ownBlock → wpList Try.prog ops Q rest (a.put o.dst v') w') :
    wpList Try.prog ops Q (o :: rest) a (w.alloc (.cells #[.int .i64 x.d, .int .i64 x.t] 29)) := by
  refine app_Figure hgd s x' ho base v l hs (hown.alloc _) ⟨w.heap.size, 0, none⟩ 1 1 [x] hx rfl ?_ hlen (Nat.le_trans hbase (by simp)) fun v' w' h1 h2 => h v' w' h1 (grown_alloc h2)
  intro j u hj
  have hb : (w.alloc (.cells #[.int .i64 x.d, .int .i64 x.t] 29)).heap[w.heap.size]? = some (.cells #[.int .i64 x.d, .int .i64 x.t] 29 (0, 0)) := heap_alloc_new _ _
  have ha : (Addr.add ⟨w.heap.size, 0, none⟩ j) = ⟨w.heap.size, j, none⟩ := by
    unfold Addr.add
    split
    · rename_i hz; subst hz; rfl
    · simp
  rw [ha]
  simp only [World.cell?, hb]
  simpa [figs, Fig.cells] using hj

/-- out := append([]T{}, xs...). -/
theorem appC_Figure {ops : Array Oper} {rest : List Oper} {o : Oper} {a : Act} {w : World} {Q : Exit → Act → World → Prop} (hgd : o.guard = none) (s x : Operand)
    (ho : o.op = .call { callee := .builtin .append, args := #[s, x], argTypes := #[53, 53] })
    (base : Nat) (l : List Fig) (hs : a.eval s = .slice (some ⟨w.heap.size, 0, none⟩) 0 0)
    (b off m c : Nat) (hx : a.eval x = .slice (some ⟨b, off, none⟩) m c) (hm : l.length = m) (hr : RowAt w b off (figs l))
    (hlen : m ≤ 1048576) (hbase : base ≤ w.heap.size)
    (h : ∀ v' w', w'.ownsRow base 29 2 v' l.length (figs l) → Later w w' → wpList Try.prog ops Q rest (a.put o.dst v') w') :
    wpList Try.prog ops Q (o :: rest) a (w.alloc (.cells #[] 29)) := by
  refine app_Figure hgd s x ho base _ [] hs (own_empty hbase _ _) ⟨b, off, none⟩ m c l hx hm (hr.later ((Later.refl _).alloc _)).add (by simpa using hlen) (Nat.le_trans hbase (by simp)) fun v' w' h1 h2 => h v' w' (by simpa using h1) ?_
  exact Below.grown ((Later.refl w).alloc _) h2 (by simp) fun k hk => by simp [Value.ownBlock] at hk; omega

theorem new_Figure (w : World) (x : Fig) : ∀ j u, (figs [x])[j]? = some u → ((w.alloc (.cells #[.int .i64 x.d, .int .i64 x.t] 29)).drew).cell? ((⟨w.heap.size, 0, none⟩ : Addr).add j) = some u := by
  intro j u hj
  have hb : ((w.alloc (.cells #[.int .i64 x.d, .int .i64 x.t] 29)).drew).heap[w.heap.size]? = some (.cells #[.int .i64 x.d, .int .i64 x.t] 29 (0, 0)) := heap_alloc_new _ _
  have ha : (Addr.add ⟨w.heap.size, 0, none⟩ j) = ⟨w.heap.size, j, none⟩ := by
    unfold Addr.add
    split
    · rename_i hz; subst hz; rfl
    · simp
  rw [ha]
  simp only [World.cell?, hb]
  simpa [figs, Fig.cells] using hj
/-- out = append(out, x) as a step of a region that draws. -/
theorem stepA1_Figure {ops : Array Oper} {o : Oper} {a : Act} {w : World} {K : Act → World → Prop} {Q : Exit → Act → World → Prop} {E' : Prop} (hgd : o.guard = none) (s x' : Operand)
    (ho : o.op = .call { callee := .builtin .append, args := #[s, x'], argTypes := #[53, 53] })
    (base : Nat) (v : Value) (l : List Fig) (x : Fig) (hs : a.eval s = v) (hown : w.ownsRow base 29 2 v l.length (figs l))
    (hx : a.eval x' = .slice (some ⟨w.heap.size, 0, none⟩) 1 1) (hlen : l.length + 1 ≤ 1048576) (hbase : base ≤ w.heap.size)
    (h : ∀ v' w', w'.ownsRow base 29 2 v' (l ++ [x]).length (figs (l ++ [x])) → w.grownBy w' v.ownBlock → K (a.put o.dst v') w') :
    if Region.wanted o (yielded ops a.tmps) = true then Oper.wp Try.prog o a ((w.alloc (.cells #[.int .i64 x.d, .int .i64 x.t] 29)).drew) K Q else E' := by
  have hw : Region.wanted o (yielded ops a.tmps) = true := by simp [Region.wanted, hgd]
  rw [if_pos hw]
  obtain ⟨i0, hi, hz0, hz1, hz2⟩ := info_parts ia_Figure
  refine wp_append_own _ s x' 53 ho base 29 i0 _ 2 16 Try.underlying53 hi hz0 hz1 hz2 rfl (by decide) v l.length (figs l) hs (owns_later (hown.alloc _) (Later.refl _).drew) ⟨w.heap.size, 0, none⟩ 1 1 (figs [x]) hx (by rw [figs_len]; rfl) (new_Figure w x) (oneCell_figs _) (by unfold maxLen; omega) (by omega) (Nat.le_trans hbase (by show w.heap.size ≤ (w.alloc _).heap.size; simp)) ?_
  intro v' w' ho' hg _
  refine h v' w' ?_ (grown_alloc ⟨hg.os, hg.tape, hg.output, hg.size, hg.block⟩)
  rw [List.length_append, show figs (l ++ [x]) = figs l ++ figs [x] from by simp [figs]]
  exact ho'


theorem ia_Int64 : (Try.prog.info? 2).map (fun i => (i.zero, i.size, i.bytes)) = some (some (.int .i64 0), 1, 8) := by kernel_rfl

theorem oneCell_nums : ∀ (l : List Int), ∀ u ∈ nums l, u.oneCell' = true := by
  intro l u hu
  simp only [nums, List.mem_map] at hu
  obtain ⟨x, _, rfl⟩ := hu
  rfl

/-- out = append(out, xs...) where xs lies in memory. -/
theorem app_Int64 {ops : Array Oper} {rest : List Oper} {o : Oper} {a : Act} {w : World} {Q : Exit → Act → World → Prop} (hgd : o.guard = none) (s x : Operand)
    (ho : o.op = .call { callee := .builtin .append, args := #[s, x], argTypes := #[22, 22] })
    (base : Nat) (v : Value) (l : List Int) (hs : a.eval s = v) (hown : w.ownsRow base 2 1 v l.length (nums l))
    (ad : Addr) (m c : Nat) (news : List Int) (hx : a.eval x = .slice (some ad) m c) (hm : news.length = m) (hnews : ∀ j u, (nums news)[j]? = some u → w.cell? (ad.add j) = some u)
    (hlen : l.length + m ≤ 1048576) (hbase : base ≤ w.heap.size)
    (h : ∀ v' w', w'.ownsRow base 2 1 v' (l ++ news).length (nums (l ++ news)) → w.grownBy w' v.ownBlock → wpList Try.prog ops Q rest (a.put o.dst v') w') : wpList Try.prog ops Q (o :: rest) a w := by
  obtain ⟨i0, hi, hz0, hz1, hz2⟩ := info_parts ia_Int64
  refine wpList_append_own w hgd s x 22 ho base 2 i0 _ 1 8 Try.underlying22 hi hz0 hz1 hz2 rfl (by decide) v l.length (nums l) hs hown ad m c (nums news) hx (by rw [nums_len, hm]) hnews (oneCell_nums _) (by unfold maxLen; omega) (by omega) hbase ?_
  intro v' w' ho' hg _
  refine h v' w' ?_ hg
  rw [List.length_append, hm, show nums (l ++ news) = nums l ++ nums news from by simp [nums]]
  exact ho'
/-- out = append(out, x), x just laid in a block of its own. -/
theorem app1_Int64 {ops : Array Oper} {rest : List Oper} {o : Oper} {a : Act} {w : World} {Q : Exit → Act → World → Prop} (hgd : o.guard = none) (s x' : Operand)
    (ho : o.op = .call { callee := .builtin .append, args := #[s, x'], argTypes := #[22, 22] })
    (base : Nat) (v : Value) (l : List Int) (x : Int) (hs : a.eval s = v) (hown : w.ownsRow base 2 1 v l.length (nums l))
    (hx : a.eval x' = .slice (some ⟨w.heap.size, 0, none⟩) 1 1) (hlen : l.length + 1 ≤ 1048576) (hbase : base ≤ w.heap.size)
    (h : ∀ v' w', w'.ownsRow base 2 1 v' (l ++ [x]).length (nums (l ++ [x])) → w.grownBy w' v.ownBlock → wpList Try.prog ops Q rest (a.put o.dst v') w') :
    wpList Try.prog ops Q (o :: rest) a (w.alloc (.cells #[.int .i64 x] 2)) := by
  refine app_Int64 hgd s x' ho base v l hs (hown.alloc _) ⟨w.heap.size, 0, none⟩ 1 1 [x] hx rfl ?_ hlen (Nat.le_trans hbase (by simp)) fun v' w' h1 h2 => h v' w' h1 (grown_alloc h2)
  intro j u hj
  have hb : (w.alloc (.cells #[.int .i64 x] 2)).heap[w.heap.size]? = some (.cells #[.int .i64 x] 2 (0, 0)) := heap_alloc_new _ _
  have ha : (Addr.add ⟨w.heap.size, 0, none⟩ j) = ⟨w.heap.size, j, none⟩ := by
    unfold Addr.add
    split
    · rename_i hz; subst hz; rfl
    · simp
  rw [ha]
  simp only [World.cell?, hb]
  simpa [nums] using hj

/-- out := append([]T{}, xs...). -/
theorem appC_Int64 {ops : Array Oper} {rest : List Oper} {o : Oper} {a : Act} {w : World} {Q : Exit → Act → World → Prop} (hgd : o.guard = none) (s x : Operand)
    (ho : o.op = .call { callee := .builtin .append, args := #[s, x], argTypes := #[22, 22] })
    (base : Nat) (l : List Int) (hs : a.eval s = .slice (some ⟨w.heap.size, 0, none⟩) 0 0)
    (b off m c : Nat) (hx : a.eval x = .slice (some ⟨b, off, none⟩) m c) (hm : l.length = m) (hr : RowAt w b off (nums l))
    (hlen : m ≤ 1048576) (hbase : base ≤ w.heap.size)
    (h : ∀ v' w', w'.ownsRow base 2 1 v' l.length (nums l) → Later w w' → wpList Try.prog ops Q rest (a.put o.dst v') w') :
    wpList Try.prog ops Q (o :: rest) a (w.alloc (.cells #[] 2)) := by
  refine app_Int64 hgd s x ho base _ [] hs (own_empty hbase _ _) ⟨b, off, none⟩ m c l hx hm (hr.later ((Later.refl _).alloc _)).add (by simpa using hlen) (Nat.le_trans hbase (by simp)) fun v' w' h1 h2 => h v' w' (by simpa using h1) ?_
  exact Below.grown ((Later.refl w).alloc _) h2 (by simp) fun k hk => by simp [Value.ownBlock] at hk; omega

theorem new_Int64 (w : World) (x : Int) : ∀ j u, (nums [x])[j]? = some u → ((w.alloc (.cells #[.int .i64 x] 2)).drew).cell? ((⟨w.heap.size, 0, none⟩ : Addr).add j) = some u := by
  intro j u hj
  have hb : ((w.alloc (.cells #[.int .i64 x] 2)).drew).heap[w.heap.size]? = some (.cells #[.int .i64 x] 2 (0, 0)) := heap_alloc_new _ _
  have ha : (Addr.add ⟨w.heap.size, 0, none⟩ j) = ⟨w.heap.size, j, none⟩ := by
    unfold Addr.add
    split
    · rename_i hz; subst hz; rfl
    · simp
  rw [ha]
  simp only [World.cell?, hb]
  simpa [nums] using hj
/-- out = append(out, x) as a step of a region that draws. -/
theorem stepA1_Int64 {ops : Array Oper} {o : Oper} {a : Act} {w : World} {K : Act → World → Prop} {Q : Exit → Act → World → Prop} {E' : Prop} (hgd : o.guard = none) (s x' : Operand)
    (ho : o.op = .call { callee := .builtin .append, args := #[s, x'], argTypes := #[22, 22] })
    (base : Nat) (v : Value) (l : List Int) (x : Int) (hs : a.eval s = v) (hown : w.ownsRow base 2 1 v l.length (nums l))
    (hx : a.eval x' = .slice (some ⟨w.heap.size, 0, none⟩) 1 1) (hlen : l.length + 1 ≤ 1048576) (hbase : base ≤ w.heap.size)
    (h : ∀ v' w', w'.ownsRow base 2 1 v' (l ++ [x]).length (nums (l ++ [x])) → w.grownBy w' v.ownBlock → K (a.put o.dst v') w') :
    if Region.wanted o (yielded ops a.tmps) = true then Oper.wp Try.prog o a ((w.alloc (.cells #[.int .i64 x] 2)).drew) K Q else E' := by
  have hw : Region.wanted o (yielded ops a.tmps) = true := by simp [Region.wanted, hgd]
  rw [if_pos hw]
  obtain ⟨i0, hi, hz0, hz1, hz2⟩ := info_parts ia_Int64
  refine wp_append_own _ s x' 22 ho base 2 i0 _ 1 8 Try.underlying22 hi hz0 hz1 hz2 rfl (by decide) v l.length (nums l) hs (owns_later (hown.alloc _) (Later.refl _).drew) ⟨w.heap.size, 0, none⟩ 1 1 (nums [x]) hx (by rw [nums_len]; rfl) (new_Int64 w x) (oneCell_nums _) (by unfold maxLen; omega) (by omega) (Nat.le_trans hbase (by show w.heap.size ≤ (w.alloc _).heap.size; simp)) ?_
  intro v' w' ho' hg _
  refine h v' w' ?_ (grown_alloc ⟨hg.os, hg.tape, hg.output, hg.size, hg.block⟩)
  rw [List.length_append, show nums (l ++ [x]) = nums l ++ nums [x] from by simp [nums]]
  exact ho'


theorem ia_Setting : (Try.prog.info? 34).map (fun i => (i.zero, i.size, i.bytes)) = some (some (.agg #[.int .i64 0, .int .i64 0]), 2, 16) := by kernel_rfl

theorem oneCell_stgs : ∀ (l : List Stg), ∀ u ∈ stgs l, u.oneCell' = true := by
  intro l u hu
  simp only [stgs, List.mem_flatMap, Stg.cells] at hu
  obtain ⟨x, _, hx⟩ := hu
  simp at hx
  rcases hx with rfl | rfl <;> rfl

/-- out = append(out, xs...) where xs lies in memory. -/
theorem app_Setting {ops : Array Oper} {rest : List Oper} {o : Oper} {a : Act} {w : World} {Q : Exit → Act → World → Prop} (hgd : o.guard = none) (s x : Operand)
    (ho : o.op = .call { callee := .builtin .append, args := #[s, x], argTypes := #[155, 155] })
    (base : Nat) (v : Value) (l : List Stg) (hs : a.eval s = v) (hown : w.ownsRow base 34 2 v l.length (stgs l))
    (ad : Addr) (m c : Nat) (news : List Stg) (hx : a.eval x = .slice (some ad) m c) (hm : news.length = m) (hnews : ∀ j u, (stgs news)[j]? = some u → w.cell? (ad.add j) = some u)
    (hlen : l.length + m ≤ 1048576) (hbase : base ≤ w.heap.size)
    (h : ∀ v' w', w'.ownsRow base 34 2 v' (l ++ news).length (stgs (l ++ news)) → w.grownBy w' v.ownBlock → wpList Try.prog ops Q rest (a.put o.dst v') w') : wpList Try.prog ops Q (o :: rest) a w := by
  obtain ⟨i0, hi, hz0, hz1, hz2⟩ := info_parts ia_Setting
  refine wpList_append_own w hgd s x 155 ho base 34 i0 _ 2 16 Try.underlying155 hi hz0 hz1 hz2 rfl (by decide) v l.length (stgs l) hs hown ad m c (stgs news) hx (by rw [stgs_len, hm]) hnews (oneCell_stgs _) (by unfold maxLen; omega) (by omega) hbase ?_
  intro v' w' ho' hg _
  refine h v' w' ?_ hg
  rw [List.length_append, hm, show stgs (l ++ news) = stgs l ++ stgs news from by simp [stgs]]
  exact ho'
/-- out = append(out, x), x just laid in a block of its own. -/
theorem app1_Setting {ops : Array Oper} {rest : List Oper} {o : Oper} {a : Act} {w : World} {Q : Exit → Act → World → Prop} (hgd : o.guard = none) (s x' : Operand)
    (ho : o.op = .call { callee := .builtin .append, args := #[s, x'], argTypes := #[155, 155] })
    (base : Nat) (v : Value) (l : List Stg) (x : Stg) (hs : a.eval s = v) (hown : w.ownsRow base 34 2 v l.length (stgs l))
    (hx : a.eval x' = .slice (some ⟨w.heap.size, 0, none⟩) 1 1) (hlen : l.length + 1 ≤ 1048576) (hbase : base ≤ w.heap.size)
    (h : ∀ v' w', w'.ownsRow base 34 2 v' (l ++ [x]).length (stgs (l ++ [x])) → w.grownBy w' v.ownBlock → wpList Try.prog ops Q rest (a.put o.dst v') w') :
    wpList Try.prog ops Q (o :: rest) a (w.alloc (.cells #[.int .i64 x.sh, .int .i64 x.cu] 34)) := by
  refine app_Setting hgd s x' ho base v l hs (hown.alloc _) ⟨w.heap.size, 0, none⟩ 1 1 [x] hx rfl ?_ hlen (Nat.le_trans hbase (by simp)) fun v' w' h1 h2 => h v' w' h1 (grown_alloc h2)
  intro j u hj
  have hb : (w.alloc (.cells #[.int .i64 x.sh, .int .i64 x.cu] 34)).heap[w.heap.size]? = some (.cells #[.int .i64 x.sh, .int .i64 x.cu] 34 (0, 0)) := heap_alloc_new _ _
  have ha : (Addr.add ⟨w.heap.size, 0, none⟩ j) = ⟨w.heap.size, j, none⟩ := by
    unfold Addr.add
    split
    · rename_i hz; subst hz; rfl
    · simp
  rw [ha]
  simp only [World.cell?, hb]
  simpa [stgs, Stg.cells] using hj

/-- out := append([]T{}, xs...). -/
theorem appC_Setting {ops : Array Oper} {rest : List Oper} {o : Oper} {a : Act} {w : World} {Q : Exit → Act → World → Prop} (hgd : o.guard = none) (s x : Operand)
    (ho : o.op = .call { callee := .builtin .append, args := #[s, x], argTypes := #[155, 155] })
    (base : Nat) (l : List Stg) (hs : a.eval s = .slice (some ⟨w.heap.size, 0, none⟩) 0 0)
    (b off m c : Nat) (hx : a.eval x = .slice (some ⟨b, off, none⟩) m c) (hm : l.length = m) (hr : RowAt w b off (stgs l))
    (hlen : m ≤ 1048576) (hbase : base ≤ w.heap.size)
    (h : ∀ v' w', w'.ownsRow base 34 2 v' l.length (stgs l) → Later w w' → wpList Try.prog ops Q rest (a.put o.dst v') w') :
    wpList Try.prog ops Q (o :: rest) a (w.alloc (.cells #[] 34)) := by
  refine app_Setting hgd s x ho base _ [] hs (own_empty hbase _ _) ⟨b, off, none⟩ m c l hx hm (hr.later ((Later.refl _).alloc _)).add (by simpa using hlen) (Nat.le_trans hbase (by simp)) fun v' w' h1 h2 => h v' w' (by simpa using h1) ?_
  exact Below.grown ((Later.refl w).alloc _) h2 (by simp) fun k hk => by simp [Value.ownBlock] at hk; omega

theorem new_Setting (w : World) (x : Stg) : ∀ j u, (stgs [x])[j]? = some u → ((w.alloc (.cells #[.int .i64 x.sh, .int .i64 x.cu] 34)).drew).cell? ((⟨w.heap.size, 0, none⟩ : Addr).add j) = some u := by
  intro j u hj
  have hb : ((w.alloc (.cells #[.int .i64 x.sh, .int .i64 x.cu] 34)).drew).heap[w.heap.size]? = some (.cells #[.int .i64 x.sh, .int .i64 x.cu] 34 (0, 0)) := heap_alloc_new _ _
  have ha : (Addr.add ⟨w.heap.size, 0, none⟩ j) = ⟨w.heap.size, j, none⟩ := by
    unfold Addr.add
    split
    · rename_i hz; subst hz; rfl
    · simp
  rw [ha]
  simp only [World.cell?, hb]
  simpa [stgs, Stg.cells] using hj
/-- out = append(out, x) as a step of a region that draws. -/
theorem stepA1_Setting {ops : Array Oper} {o : Oper} {a : Act} {w : World} {K : Act → World → Prop} {Q : Exit → Act → World → Prop} {E' : Prop} (hgd : o.guard = none) (s x' : Operand)
    (ho : o.op = .call { callee := .builtin .append, args := #[s, x'], argTypes := #[155, 155] })
    (base : Nat) (v : Value) (l : List Stg) (x : Stg) (hs : a.eval s = v) (hown : w.ownsRow base 34 2 v l.length (stgs l))
    (hx : a.eval x' = .slice (some ⟨w.heap.size, 0, none⟩) 1 1) (hlen : l.length + 1 ≤ 1048576) (hbase : base ≤ w.heap.size)
    (h : ∀ v' w', w'.ownsRow base 34 2 v' (l ++ [x]).length (stgs (l ++ [x])) → w.grownBy w' v.ownBlock → K (a.put o.dst v') w') :
    if Region.wanted o (yielded ops a.tmps) = true then Oper.wp Try.prog o a ((w.alloc (.cells #[.int .i64 x.sh, .int .i64 x.cu] 34)).drew) K Q else E' := by
  have hw : Region.wanted o (yielded ops a.tmps) = true := by simp [Region.wanted, hgd]
  rw [if_pos hw]
  obtain ⟨i0, hi, hz0, hz1, hz2⟩ := info_parts ia_Setting
  refine wp_append_own _ s x' 155 ho base 34 i0 _ 2 16 Try.underlying155 hi hz0 hz1 hz2 rfl (by decide) v l.length (stgs l) hs (owns_later (hown.alloc _) (Later.refl _).drew) ⟨w.heap.size, 0, none⟩ 1 1 (stgs [x]) hx (by rw [stgs_len]; rfl) (new_Setting w x) (oneCell_stgs _) (by unfold maxLen; omega) (by omega) (Nat.le_trans hbase (by show w.heap.size ≤ (w.alloc _).heap.size; simp)) ?_
  intro v' w' ho' hg _
  refine h v' w' ?_ (grown_alloc ⟨hg.os, hg.tape, hg.output, hg.size, hg.block⟩)
  rw [List.length_append, show stgs (l ++ [x]) = stgs l ++ stgs [x] from by simp [stgs]]
  exact ho'


end Go.Proofs.Ytfhppnmbmdpjeaa
