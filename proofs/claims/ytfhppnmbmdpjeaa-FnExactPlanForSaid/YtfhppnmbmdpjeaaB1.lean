/- DERIVED. A region that draws its order, by an invariant over what is done already: each operation is walked once, whatever came before it. -/
import Derived.Test.YtfhppnmbmdpjeaaB0
namespace Go.Proofs.Ytfhppnmbmdpjeaa
set_option linter.unusedVariables false
set_option linter.unusedSimpArgs false
open Go.RowKit

section
variable {P : Program} {ops : Array Oper} {Q : Exit → Act → World → Prop}

/-- The operation o, number k, keeps the invariant (its second argument: what is done already). -/
def InvStep (P : Program) (Q : Exit → Act → World → Prop) (I : (Nat → Bool) → Act → World → Prop) (k : Nat) (o : Oper) : Prop :=
  ∀ (g : Nat → Bool) (a : Act) (w : World), g k = false → (o.after.all fun e => !Region.binds .any e || g e.on) = true → I g a w →
    ∀ K' : Act → World → Prop, (∀ a w, I (fun j => if j = k then true else g j) a w → K' a w) → Oper.wp P o a w K' Q

inductive InvSteps (P : Program) (Q : Exit → Act → World → Prop) (I : (Nat → Bool) → Act → World → Prop) : Nat → List Oper → Prop
  | nil {k} : InvSteps P Q I k []
  | cons {k o r} (h : InvStep P Q I k o) (hs : InvSteps P Q I (k + 1) r) : InvSteps P Q I k (o :: r)

theorem InvSteps.at {I : (Nat → Bool) → Act → World → Prop} {k : Nat} {r : List Oper} (h : InvSteps P Q I k r) :
    ∀ i o, r[i]? = some o → InvStep P Q I (k + i) o := by
  induction h with
  | nil => intro i o h; simp at h
  | cons h1 _ ih =>
    intro i o h
    cases i with
    | zero => simp at h; subst h; exact h1
    | succ i => have := ih i o (by simpa using h); rwa [Nat.add_assoc, Nat.add_comm 1 i] at this

theorem countP_set {l : List Bool} {i : Nat} (h : l[i]? = some false) : (l.set i true).countP (fun b => !b) + 1 = l.countP (fun b => !b) := by
  induction l generalizing i with
  | nil => simp at h
  | cons b l ih =>
    cases i with
    | zero => simp at h; subst h; simp
    | succ i =>
      have := ih (i := i) (by simpa using h)
      simp only [List.set_cons_succ, List.countP_cons]
      omega

theorem ready_false {l : Array Bool} {i : Nat} (h : i ∈ Region.ready .any ops l) (hs : l.size = ops.size) :
    l.toList[i]? = some false ∧ i < ops.size ∧ ∀ o, ops[i]? = some o → (o.after.all fun e => !Region.binds .any e || l.getD e.on false) = true := by
  unfold Region.ready at h
  simp only [List.mem_filter, List.mem_range, Bool.and_eq_true, Bool.not_eq_true'] at h
  obtain ⟨h1, h2, h4⟩ := h
  refine ⟨?_, h1, ?_⟩
  · have h3 : i < l.size := by omega
    simp only [Array.getD, h3, dite_true] at h2
    rw [← h2]
    simp [h3]
  · intro o ho
    rw [ho] at h4
    exact h4

/-- Each operation waits for earlier ones alone, and none stands behind a guard. -/
def backward (ops : Array Oper) : Bool := (List.range ops.size).all fun i => ((ops[i]?).map fun o => o.guard.isNone && o.after.all fun e => !Region.binds .any e || decide (e.on < i)).getD false

theorem backward_at (hb : backward ops = true) {i : Nat} {o : Oper} (ho : ops[i]? = some o) : o.guard = none ∧ ∀ e ∈ o.after, Region.binds .any e = true → e.on < i := by
  unfold backward at hb
  rw [List.all_eq_true] at hb
  have h := hb i (List.mem_range.2 (Array.getElem?_eq_some_iff.1 ho).1)
  rw [ho] at h
  simp only [Option.map_some, Option.getD_some, Bool.and_eq_true, Option.isNone_iff_eq_none, Array.all_eq_true_iff_forall_mem, Bool.or_eq_true, decide_eq_true_eq] at h
  refine ⟨h.1, fun e he hb => ?_⟩
  rcases h.2 e he with h' | h'
  · rw [hb] at h'; cases h'
  · exact h'

theorem ready_nil (hb : backward ops = true) {l : Array Bool} (hz : l.size = ops.size) (h : Region.ready .any ops l = []) : ∀ i, i < ops.size → l.getD i false = true := by
  intro i
  induction i using Nat.strongRecOn with
  | _ i ih =>
    intro hi
    rcases hv : l.getD i false with _ | _
    · exfalso
      obtain ⟨o, ho⟩ : ∃ o, ops[i]? = some o := ⟨ops[i], by simp [hi]⟩
      have h3 : i < l.size := by omega
      have hm : i ∈ Region.ready .any ops l := by
        unfold Region.ready
        simp only [List.mem_filter, List.mem_range, Bool.and_eq_true, Bool.not_eq_true']
        refine ⟨hi, ?_, ?_⟩
        · simp only [Array.getD, h3, dite_true] at hv ⊢
          exact hv
        · rw [ho]
          simp only [Option.map_some, Option.getD_some, Array.all_eq_true_iff_forall_mem]
          intro e he
          cases hq : Region.binds .any e
          · rfl
          · have := ih e.on ((backward_at hb ho).2 e he hq) (by have := (backward_at hb ho).2 e he hq; omega)
            rw [this, Bool.or_true]
      rw [h] at hm
      cases hm
    · rfl

theorem wpAny_inv (I : (Nat → Bool) → Act → World → Prop) (hb : backward ops = true)
    (hd : ∀ g a w, (∀ i, i < ops.size → g i = true) → I g a w → Q .normal a w)
    (hs : InvSteps P Q I 0 ops.toList) : ∀ (fuel : Nat) (l : Array Bool) (a : Act) (w : World), l.size = ops.size →
      l.toList.countP (fun b => !b) ≤ fuel → I (fun j => l.getD j false) a w → wpAny P .any ops Q fuel l a w
  | 0, l, a, w, hz, hc, hI => by
    have h0 : Region.ready .any ops l = [] := by
      apply List.eq_nil_iff_forall_not_mem.2
      intro i hi
      have h1 := countP_set (ready_false hi hz).1
      omega
    exact ⟨h0, hd _ a w (ready_nil hb hz h0) hI⟩
  | fuel + 1, l, a, w, hz, hc, hI => by
    refine ⟨fun h0 => hd _ a w (ready_nil hb hz h0) hI, fun i hi => ?_⟩
    obtain ⟨h1, h2, h3⟩ := ready_false hi hz
    obtain ⟨o, ho⟩ : ∃ o, ops[i]? = some o := ⟨ops[i], by simp [h2]⟩
    have hstep := hs.at i o (by simpa using ho)
    rw [Nat.zero_add] at hstep
    refine wpOp_step ho (fun K' hK => ?_)
    have hw : Region.wanted o (yielded ops a.tmps) = true := by simp [Region.wanted, (backward_at hb ho).1]
    rw [if_pos hw]
    refine hstep _ a w (by have h6 := h1; simp only [Array.getElem?_toList] at h6; simp [h6]) (h3 o ho) hI K' (fun a' w' h' => hK a' w' ?_)
    refine wpAny_inv I hb hd hs fuel _ a' w' (by simpa using hz) ?_ ?_
    · have h3 := countP_set h1
      have h4 : (l.setIfInBounds i true).toList = l.toList.set i true := by simp
      rw [h4]
      omega
    · have h5 : (fun j => (l.setIfInBounds i true).getD j false) = (fun j => if j = i then true else l.getD j false) := by
        funext j
        simp only [Array.getD_eq_getD_getElem?, Array.getElem?_setIfInBounds]
        by_cases h : i = j
        · subst h; simp [hz, h2]
        · rw [if_neg h, if_neg (Ne.symm h)]
      rw [h5]
      exact h'

/-- A region that draws, by an invariant (its first argument: the act before the region; its second: what is done already). -/
theorem region_inv {id : Nat} {a : Act} {w : World} (I : Act → (Nat → Bool) → Act → World → Prop) (hm : P.follows .mixedOrders = true) (hb : backward ops = true)
    (h0 : I a (fun _ => false) a w.drew)
    (hd : ∀ g a' w, (∀ i, i < ops.size → g i = true) → I a g a' w → Q .normal a' w)
    (hs : InvSteps P Q (I a) 0 ops.toList) : (Code.region id ops true).wp P Q a w := by
  refine wp_region_any hm (wpAny_inv (I a) hb hd hs _ _ _ _ (by simp) ?_ ?_)
  · simpa using List.countP_le_length (p := fun b => !b) (l := (Array.replicate ops.size false).toList)
  · have h5 : (fun j => (Array.replicate ops.size false).getD j false) = (fun _ => false) := by
      funext j
      simp only [Array.getD_eq_getD_getElem?, Array.getElem?_replicate]
      split <;> rfl
    rw [h5]
    exact h0

end

end Go.Proofs.Ytfhppnmbmdpjeaa
