/- DERIVED. A region that draws its order and holds guarded operations, by an invariant over the slots. -/
import Derived.Test.YtfhppnmbmdpjeaaB3
namespace Go.Proofs.Ytfhppnmbmdpjeaa
set_option linter.unusedVariables false
set_option linter.unusedSimpArgs false
open Go.RowKit

section
variable {P : Program} {ops : Array Oper} {Q : Exit → Act → World → Prop}

/-- Each operation waits for earlier ones alone. -/
def backwardE (ops : Array Oper) : Bool := (List.range ops.size).all fun i => ((ops[i]?).map fun o => o.after.all fun e => !Region.binds .any e || decide (e.on < i)).getD false

theorem backwardE_at (hb : backwardE ops = true) {i : Nat} {o : Oper} (ho : ops[i]? = some o) : ∀ e ∈ o.after, Region.binds .any e = true → e.on < i := by
  unfold backwardE at hb
  rw [List.all_eq_true] at hb
  have h := hb i (List.mem_range.2 (Array.getElem?_eq_some_iff.1 ho).1)
  rw [ho] at h
  simp only [Option.map_some, Option.getD_some, Array.all_eq_true_iff_forall_mem, Bool.or_eq_true, decide_eq_true_eq] at h
  intro e he hb
  rcases h e he with h' | h'
  · rw [hb] at h'; cases h'
  · exact h'

theorem ready_nilE (hb : backwardE ops = true) {l : Array Bool} (hz : l.size = ops.size) (h : Region.ready .any ops l = []) : ∀ i, i < ops.size → l.getD i false = true := by
  intro i
  induction i using Nat.strongRecOn with
  | _ i ih =>
    intro hi
    rcases hv : l.getD i false with _ | _
    · exfalso
      obtain ⟨o, ho⟩ : ∃ o, ops[i]? = some o := ⟨ops[i], by simp [hi]⟩
      have h3 : i < l.size := by omega
      have hm : i ∈ Region.ready .any ops l := by
        unfold Region.ready
        simp only [List.mem_filter, List.mem_range, Bool.and_eq_true, Bool.not_eq_true']
        refine ⟨hi, ?_, ?_⟩
        · simp only [Array.getD, h3, dite_true] at hv ⊢
          exact hv
        · rw [ho]
          simp only [Option.map_some, Option.getD_some, Array.all_eq_true_iff_forall_mem]
          intro e he
          cases hq : Region.binds .any e
          · rfl
          · have := ih e.on (backwardE_at hb ho e he hq) (by have := backwardE_at hb ho e he hq; omega)
            rw [this, Bool.or_true]
      rw [h] at hm
      cases hm
    · rfl

/-- The operation o, number k, keeps the invariant, its guard asked. -/
def GSlot (P : Program) (ops : Array Oper) (Q : Exit → Act → World → Prop) (n : Nat) (I : (Nat → Bool) → Act → World → Prop) (k : Nat) (o : Oper) : Prop :=
  ∀ (g : Nat → Bool) (a : Act) (w : World), a.tmps.size = n → g k = false → (o.after.all fun e => !Region.binds .any e || g e.on) = true → I g a w →
    ∀ K' : Act → World → Prop, (∀ v w, I (fun j => if j = k then true else g j) (a.put o.dst v) w → K' (a.put o.dst v) w) →
      if Region.wanted o (yielded ops a.tmps) = true then Oper.wp P o a w K' Q else K' (a.put o.dst undef) w

theorem GSlot.of {n : Nat} {I : (Nat → Bool) → Act → World → Prop} {k : Nat} {o : Oper} (hg : o.guard = none) (h : SlotStep P Q n I k o) : GSlot P ops Q n I k o := by
  intro g a w hn hk hr hI K' hK
  rw [if_pos (by simp [Region.wanted, hg])]
  exact h g a w hn hk hr hI K' hK

theorem GSlot.want {n : Nat} {I : (Nat → Bool) → Act → World → Prop} {k : Nat} {o : Oper} {j d : Nat} {b : Bool} (hg : o.guard = some (j, b)) (hd : (ops[j]?).bind (·.dst) = some d) (hdn : d < n)
    (hw : ∀ (g : Nat → Bool) (a : Act) (w : World), (o.after.all fun e => !Region.binds .any e || g e.on) = true → I g a w → sl a d = .bool b)
    (h : SlotStep P Q n I k o) : GSlot P ops Q n I k o := by
  intro g a w hn hk hr hI K' hK
  have h1 := hw g a w hr hI
  have h2 : a.tmps[d]? = some (.bool b) := by
    have hlt : d < a.tmps.size := by omega
    rw [Array.getElem?_eq_getElem hlt, sl_get h1 hlt]
  have h3 : yielded ops a.tmps j = some b := by
    unfold yielded
    rw [hd]
    simp [h2]
  rw [if_pos (by simp [Region.wanted, hg, h3])]
  exact h g a w hn hk hr hI K' hK

theorem GSlot.skip {n : Nat} {I : (Nat → Bool) → Act → World → Prop} {k : Nat} {o : Oper} {j d : Nat} {b : Bool} (hg : o.guard = some (j, b)) (hd : (ops[j]?).bind (·.dst) = some d) (hdn : d < n)
    (hw : ∀ (g : Nat → Bool) (a : Act) (w : World), (o.after.all fun e => !Region.binds .any e || g e.on) = true → I g a w → sl a d = .bool (!b))
    (h : ∀ (g : Nat → Bool) (a : Act) (w : World), a.tmps.size = n → g k = false → (o.after.all fun e => !Region.binds .any e || g e.on) = true → I g a w → I (fun j => if j = k then true else g j) (a.put o.dst undef) w) : GSlot P ops Q n I k o := by
  intro g a w hn hk hr hI K' hK
  have h1 := hw g a w hr hI
  have h2 : a.tmps[d]? = some (.bool (!b)) := by
    have hlt : d < a.tmps.size := by omega
    rw [Array.getElem?_eq_getElem hlt, sl_get h1 hlt]
  have h3 : yielded ops a.tmps j = some (!b) := by
    unfold yielded
    rw [hd]
    simp [h2]
  rw [if_neg (by simp [Region.wanted, hg, h3])]
  exact hK _ _ (h g a w hn hk hr hI)

inductive GSlots (P : Program) (ops : Array Oper) (Q : Exit → Act → World → Prop) (n : Nat) (I : (Nat → Bool) → Act → World → Prop) : Nat → List Oper → Prop
  | nil {k} : GSlots P ops Q n I k []
  | cons {k o r} (h : GSlot P ops Q n I k o) (hs : GSlots P ops Q n I (k + 1) r) : GSlots P ops Q n I k (o :: r)

theorem GSlots.at {n : Nat} {I : (Nat → Bool) → Act → World → Prop} {k : Nat} {r : List Oper} (h : GSlots P ops Q n I k r) :
    ∀ i o, r[i]? = some o → GSlot P ops Q n I (k + i) o := by
  induction h with
  | nil => intro i o h; simp at h
  | cons h1 _ ih =>
    intro i o h
    cases i with
    | zero => simp at h; subst h; exact h1
    | succ i => have := ih i o (by simpa using h); rwa [Nat.add_assoc, Nat.add_comm 1 i] at this

theorem wpAny_slots {L : List Nat} {a0 : Act} {n : Nat} (hn : a0.tmps.size = n) (hL : dstIn ops L = true) (I : (Nat → Bool) → Act → World → Prop) (hb : backwardE ops = true)
    (hd : ∀ g a w, (∀ i, i < ops.size → g i = true) → SameBut L a0 a → I g a w → Q .normal a w)
    (hs : GSlots P ops Q n I 0 ops.toList) : ∀ (fuel : Nat) (l : Array Bool) (a : Act) (w : World), l.size = ops.size →
      l.toList.countP (fun b => !b) ≤ fuel → SameBut L a0 a → I (fun j => l.getD j false) a w → wpAny P .any ops Q fuel l a w
  | 0, l, a, w, hz, hc, hS, hI => by
    have h0 : Region.ready .any ops l = [] := by
      apply List.eq_nil_iff_forall_not_mem.2
      intro i hi
      have h1 := countP_set (ready_false hi hz).1
      omega
    exact ⟨h0, hd _ a w (ready_nilE hb hz h0) hS hI⟩
  | fuel + 1, l, a, w, hz, hc, hS, hI => by
    refine ⟨fun h0 => hd _ a w (ready_nilE hb hz h0) hS hI, fun i hi => ?_⟩
    obtain ⟨h1, h2, h3⟩ := ready_false hi hz
    obtain ⟨o, ho⟩ : ∃ o, ops[i]? = some o := ⟨ops[i], by simp [h2]⟩
    have hstep := hs.at i o (by simpa using ho)
    rw [Nat.zero_add] at hstep
    have hdst : ∀ j, o.dst = some j → j ∈ L := by
      intro j hj
      unfold dstIn at hL
      rw [List.all_eq_true] at hL
      have := hL o (by rw [Array.mem_toList_iff]; exact Array.mem_of_getElem? ho)
      rw [hj] at this
      simpa using this
    refine wpOp_step ho (fun K' hK => ?_)
    refine hstep _ a w (hS.1.trans hn) (by have h6 := h1; simp only [Array.getElem?_toList] at h6; simp [h6]) (h3 o ho) hI K' (fun v w' h' => hK _ w' ?_)
    refine wpAny_slots hn hL I hb hd hs fuel _ _ w' (by simpa using hz) ?_ (hS.put hdst v) ?_
    · have h3 := countP_set h1
      have h4 : (l.setIfInBounds i true).toList = l.toList.set i true := by simp
      rw [h4]
      omega
    · have h5 : (fun j => (l.setIfInBounds i true).getD j false) = (fun j => if j = i then true else l.getD j false) := by
        funext j
        simp only [Array.getD_eq_getD_getElem?, Array.getElem?_setIfInBounds]
        by_cases h : i = j
        · subst h; simp [hz, h2]
        · rw [if_neg h, if_neg (Ne.symm h)]
      rw [h5]
      exact h'

/-- A region that draws and holds guards. -/
theorem region_guards {id : Nat} {a : Act} {w : World} (n : Nat) (L : List Nat) (I : (Nat → Bool) → Act → World → Prop) (hm : P.follows .mixedOrders = true) (hb : backwardE ops = true) (hn : a.tmps.size = n) (hL : dstIn ops L = true)
    (h0 : I (fun _ => false) a w.drew)
    (hd : ∀ g b w', (∀ i, i < ops.size → g i = true) → b = putAll (sl b) L a → I g b w' → Q .normal b w')
    (hs : GSlots P ops Q n I 0 ops.toList) : (Code.region id ops true).wp P Q a w := by
  refine wp_region_any hm (wpAny_slots hn hL I hb (fun g b w' hg hS hI => hd g b w' hg hS.all hI) hs _ _ _ _ (by simp) ?_ (SameBut.refl _ _) ?_)
  · simpa using List.countP_le_length (p := fun b => !b) (l := (Array.replicate ops.size false).toList)
  · have h5 : (fun j => (Array.replicate ops.size false).getD j false) = (fun _ => false) := by
      funext j
      simp only [Array.getD_eq_getD_getElem?, Array.getElem?_replicate]
      split <;> rfl
    rw [h5]
    exact h0

end

end Go.Proofs.Ytfhppnmbmdpjeaa
