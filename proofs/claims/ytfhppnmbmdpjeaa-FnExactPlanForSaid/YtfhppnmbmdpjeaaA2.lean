/- DERIVED. append on a slice of the call's own, told where the new slice lies. -/
import Derived.Test.YtfhppnmbmdpjeaaA1
import Derived.Maps.AppendAt
namespace Go.Proofs.Ytfhppnmbmdpjeaa
set_option linter.unusedVariables false
set_option linter.unusedSimpArgs false
open Go.RowKit
set_option maxRecDepth 100000

/-- out = append(out, xs...), one operation; the new slice lies in the old one's row or in a new block. -/
theorem wpA_Move {o : Oper} {a : Act} {w : World} {K : Act → World → Prop} {Q : Exit → Act → World → Prop} (s x : Operand)
    (ho : o.op = .call { callee := .builtin .append, args := #[s, x], argTypes := #[65, 65] })
    (base : Nat) (v : Value) (l : List Mov) (hs : a.eval s = v) (hown : w.ownsRow base 107 4 v l.length (movs l))
    (ad : Addr) (m c : Nat) (news : List Mov) (hx : a.eval x = .slice (some ad) m c) (hm : news.length = m) (hnews : ∀ j u, (movs news)[j]? = some u → w.cell? (ad.add j) = some u)
    (hlen : l.length + m ≤ 1048576) (hbase : base ≤ w.heap.size)
    (h : ∀ v' w', w'.ownsRow base 107 4 v' (l ++ news).length (movs (l ++ news)) → w.grownBy w' v.ownBlock → (∀ j, v'.ownBlock = some j → v.ownBlock = some j ∨ w.heap.size ≤ j) → K (a.put o.dst v') w') :
    Oper.wp Try.prog o a w K Q := by
  obtain ⟨i0, hi, hz0, hz1, hz2⟩ := info_parts ia_Move
  obtain ⟨v', w', hr, h2, h3, h4, h5⟩ := run_append_own_at (P := Try.prog) w base 65 o.type 107 i0 _ 4 32 Try.underlying65 hi hz0 hz1 hz2 rfl (by decide) v l.length (movs l) hown ad m c (movs news) (by rw [movs_len, hm]) hnews (oneCell_movs _) (by unfold maxLen; omega) (by omega) hbase
  unfold Oper.wp execOp
  simp only [ho, resolve, invoke, builtin, Sem.run_bind, Sem.run_pure, Result.andThen_ok, List.map_toArray, List.map_cons, List.map_nil, hs, hx, hr]
  refine h v' w' ?_ h3 (fun j hj => ?_)
  · rw [List.length_append, hm, show movs (l ++ news) = movs l ++ movs news from by simp [movs]]
    exact h2
  · rcases h5 with h5 | h5
    · exact .inl (h5.symm.trans hj)
    · rw [h5] at hj
      exact .inr (Nat.le_of_eq (Option.some.inj hj))

/-- out = append(out, xs...), one operation; the new slice lies in the old one's row or in a new block. -/
theorem wpA_Int64 {o : Oper} {a : Act} {w : World} {K : Act → World → Prop} {Q : Exit → Act → World → Prop} (s x : Operand)
    (ho : o.op = .call { callee := .builtin .append, args := #[s, x], argTypes := #[22, 22] })
    (base : Nat) (v : Value) (l : List Int) (hs : a.eval s = v) (hown : w.ownsRow base 2 1 v l.length (nums l))
    (ad : Addr) (m c : Nat) (news : List Int) (hx : a.eval x = .slice (some ad) m c) (hm : news.length = m) (hnews : ∀ j u, (nums news)[j]? = some u → w.cell? (ad.add j) = some u)
    (hlen : l.length + m ≤ 1048576) (hbase : base ≤ w.heap.size)
    (h : ∀ v' w', w'.ownsRow base 2 1 v' (l ++ news).length (nums (l ++ news)) → w.grownBy w' v.ownBlock → (∀ j, v'.ownBlock = some j → v.ownBlock = some j ∨ w.heap.size ≤ j) → K (a.put o.dst v') w') :
    Oper.wp Try.prog o a w K Q := by
  obtain ⟨i0, hi, hz0, hz1, hz2⟩ := info_parts ia_Int64
  obtain ⟨v', w', hr, h2, h3, h4, h5⟩ := run_append_own_at (P := Try.prog) w base 22 o.type 2 i0 _ 1 8 Try.underlying22 hi hz0 hz1 hz2 rfl (by decide) v l.length (nums l) hown ad m c (nums news) (by rw [nums_len, hm]) hnews (oneCell_nums _) (by unfold maxLen; omega) (by omega) hbase
  unfold Oper.wp execOp
  simp only [ho, resolve, invoke, builtin, Sem.run_bind, Sem.run_pure, Result.andThen_ok, List.map_toArray, List.map_cons, List.map_nil, hs, hx, hr]
  refine h v' w' ?_ h3 (fun j hj => ?_)
  · rw [List.length_append, hm, show nums (l ++ news) = nums l ++ nums news from by simp [nums]]
    exact h2
  · rcases h5 with h5 | h5
    · exact .inl (h5.symm.trans hj)
    · rw [h5] at hj
      exact .inr (Nat.le_of_eq (Option.some.inj hj))

/-- out = append(out, x) as a step of a region that draws; the new slice lies in the old one's row or in a new block. -/
theorem stepA1at_Move {ops : Array Oper} {o : Oper} {a : Act} {w : World} {K : Act → World → Prop} {Q : Exit → Act → World → Prop} {E' : Prop} (hgd : o.guard = none) (s x' : Operand)
    (ho : o.op = .call { callee := .builtin .append, args := #[s, x'], argTypes := #[65, 65] })
    (base : Nat) (v : Value) (l : List Mov) (x : Mov) (hs : a.eval s = v) (hown : w.ownsRow base 107 4 v l.length (movs l))
    (hx : a.eval x' = .slice (some ⟨w.heap.size, 0, none⟩) 1 1) (hlen : l.length + 1 ≤ 1048576) (hbase : base ≤ w.heap.size)
    (h : ∀ v' w', w'.ownsRow base 107 4 v' (l ++ [x]).length (movs (l ++ [x])) → w.grownBy w' v.ownBlock → (∀ j, v'.ownBlock = some j → v.ownBlock = some j ∨ w.heap.size ≤ j) → K (a.put o.dst v') w') :
    if Region.wanted o (yielded ops a.tmps) = true then Oper.wp Try.prog o a ((w.alloc (.cells #[.int .i64 x.k, .int .i64 x.s, .int .i64 x.f.d, .int .i64 x.f.t] 107)).drew) K Q else E' := by
  have hw : Region.wanted o (yielded ops a.tmps) = true := by simp [Region.wanted, hgd]
  rw [if_pos hw]
  refine wpA_Move s x' ho base v l hs (owns_later (hown.alloc _) (Later.refl _).drew) ⟨w.heap.size, 0, none⟩ 1 1 [x] hx rfl (new_Move w x) hlen (Nat.le_trans hbase (by show w.heap.size ≤ (w.alloc _).heap.size; simp)) fun v' w' h2 h3 h5 => ?_
  refine h v' w' h2 (grown_alloc ⟨h3.os, h3.tape, h3.output, h3.size, h3.block⟩) fun j hj => ?_
  rcases h5 j hj with h5 | h5
  · exact .inl h5
  · exact .inr (Nat.le_trans (show w.heap.size ≤ (w.alloc _).heap.size by simp) h5)

/-- A slice of n elements. -/
def IsSl (v : Value) (n : Nat) : Prop := ∃ a cap, v = .slice a n cap
theorem isSl_of {w : World} {base : Nat} {e : TypeId} {s : Nat} {v : Value} {n : Nat} {xs : List Value} (ho : w.ownsRow base e s v n xs) : IsSl v n := by
  rcases ho.2 with ⟨rfl, rfl⟩ | ⟨g, cap, cur, rfl, _⟩
  · exact ⟨_, _, rfl⟩
  · exact ⟨_, _, rfl⟩
/-- A row is kept where another one is written. -/
theorem rows_grown {w w' : World} {base : Nat} {e : TypeId} {s : Nat} {v : Value} {n : Nat} {xs : List Value} (ho : w.ownsRow base e s v n xs) {row : Option Nat} (hg : w.grownBy w' row) (hne : ∀ k, v.ownBlock = some k → row ≠ some k) : w'.ownsRow base e s v n xs := by
  obtain ⟨h1, h2⟩ := ho
  refine ⟨h1, ?_⟩
  rcases h2 with h2 | ⟨g, cap, cur, hv, hb, hh, r⟩
  · exact .inl h2
  · refine .inr ⟨g, cap, cur, hv, hb, ?_, r⟩
    subst hv
    exact grown_keep' hg hh (hne g rfl)
where
  grown_keep' {a b : World} {row : Option Nat} (h : a.grownBy b row) {k : Nat} {x : Obj} (hk : a.heap[k]? = some x) (hne : row ≠ some k) : b.heap[k]? = some x :=
    (h.block k (Array.getElem?_eq_some_iff.1 hk).1 (fun e => hne e.symm)).trans hk
/-- The cells of a row, from its head. -/
theorem row_add {w : World} {base : Nat} {e : TypeId} {s g n cap : Nat} {xs : List Value} (ho : w.ownsRow base e s (.slice (some ⟨g, 0, none⟩) n cap) n xs) : ∀ j u, xs[j]? = some u → w.cell? ((⟨g, 0, none⟩ : Addr).add j) = some u := by
  rcases ho.2 with ⟨h, _⟩ | ⟨g', cap', cur, hv, _, hh, _, _, _, ht⟩
  · cases h
  · simp only [Value.slice.injEq, Option.some.injEq, Addr.mk.injEq, and_true, true_and] at hv
    obtain ⟨rfl, rfl⟩ := hv
    intro j u hj
    have ha : (Addr.add ⟨g, 0, none⟩ j) = ⟨g, j, none⟩ := by
      unfold Addr.add
      split
      · rename_i hz; subst hz; rfl
      · simp
    rw [ha]
    subst ht
    simp [List.getElem?_take] at hj
    simp [World.cell?, hh, hj.2]

/-- A row is kept where a cell of another block is set. -/
theorem owns_setNe {w : World} {base : Nat} {e : TypeId} {s : Nat} {v : Value} {n : Nat} {xs : List Value} (ho : w.ownsRow base e s v n xs) {k : Nat} (hk : v.ownBlock ≠ some k) (j : Nat) (x : Value) : (w.setCell ⟨k, j, none⟩ x).ownsRow base e s v n xs :=
  rows_grown ho (grown_setCell (grown_refl w (some k)) j x) (fun q e1 e2 => hk (by rw [e1, ← e2]))

/-- The slice in a plan's value. -/
def qOf : Value → Value
  | .agg cs => cs.getD 2 undef
  | _ => undef

end Go.Proofs.Ytfhppnmbmdpjeaa
