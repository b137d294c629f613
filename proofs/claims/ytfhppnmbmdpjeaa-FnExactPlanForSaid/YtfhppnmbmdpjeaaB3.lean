/- DERIVED. A region that draws its order, by an invariant over the slots: the act stays a letter while the operations are walked, each once. -/
import Derived.Test.YtfhppnmbmdpjeaaB1
import Derived.Test.YtfhppnmbmdpjeaaB2
namespace Go.Proofs.Ytfhppnmbmdpjeaa
set_option linter.unusedVariables false
set_option linter.unusedSimpArgs false
open Go.RowKit

/-- The value in a slot. -/
abbrev sl (a : Act) (i : Nat) : Value := a.tmps.getD i undef

theorem put_eq {a : Act} {i : Nat} {v : Value} (h : i < a.tmps.size) : sl (a.put (some i) v) i = v := by
  simp [sl, Act.put, Array.getD, h]
theorem put_ne {a : Act} {i j : Nat} {v : Value} (h : i ≠ j) : sl (a.put (some j) v) i = sl a i := by
  simp only [sl, Act.put, Array.getD_eq_getD_getElem?]
  rw [Array.getElem?_setIfInBounds_ne (Ne.symm h)]
theorem put_none {a : Act} {v : Value} : a.put none v = a := rfl
theorem put_size {a : Act} {d : Option Tmp} {v : Value} : (a.put d v).tmps.size = a.tmps.size := by
  cases d <;> simp [Act.put]
theorem keepF {a : Act} {p : Prop} {i j : Nat} {v u : Value} (h : p → sl a i = v) (hij : i ≠ j) : p → sl (a.put (some j) u) i = v := fun hp => (put_ne hij).trans (h hp)
theorem keepB {a : Act} {i j : Nat} {v u : Value} (h : sl a i = v) (hij : i ≠ j) : sl (a.put (some j) u) i = v := (put_ne hij).trans h

theorem sl_get {a : Act} {i : Nat} {v : Value} (h : sl a i = v) (hi : i < a.tmps.size) : a.tmps[i] = v := by
  simpa [sl, Array.getD, hi] using h

/-- The same act but for some slots. -/
def SameBut (L : List Nat) (a b : Act) : Prop := b.tmps.size = a.tmps.size ∧ b.defers = a.defers ∧ ∀ i, i ∉ L → sl b i = sl a i

theorem SameBut.refl (L : List Nat) (a : Act) : SameBut L a a := ⟨rfl, rfl, fun _ _ => rfl⟩
theorem SameBut.put {L : List Nat} {a b : Act} (h : SameBut L a b) {d : Option Tmp} (hd : ∀ j, d = some j → j ∈ L) (v : Value) : SameBut L a (b.put d v) := by
  obtain ⟨h1, h2, h3⟩ := h
  cases d with
  | none => exact ⟨h1, h2, h3⟩
  | some j =>
    refine ⟨put_size.trans h1, h2, fun i hi => ?_⟩
    rw [put_ne (show i ≠ j from fun e => hi (by rw [e]; exact hd j rfl))]
    exact h3 i hi

theorem act_ext {a b : Act} (h1 : b.tmps.size = a.tmps.size) (h2 : b.defers = a.defers) (h3 : ∀ i, sl b i = sl a i) : b = a := by
  obtain ⟨t, d⟩ := a
  obtain ⟨t', d'⟩ := b
  simp only at h1 h2
  subst h2
  have : t' = t := by
    apply Array.ext h1
    intro i hi hi'
    have := h3 i
    simpa [sl, Array.getD, hi, hi'] using this
  rw [this]

def putAll (f : Nat → Value) : List Nat → Act → Act
  | [], a => a
  | i :: l, a => putAll f l (a.put (some i) (f i))
theorem putAll_size (f : Nat → Value) : ∀ (l : List Nat) (a : Act), (putAll f l a).tmps.size = a.tmps.size
  | [], a => rfl
  | i :: l, a => (putAll_size f l _).trans put_size
theorem putAll_defers (f : Nat → Value) : ∀ (l : List Nat) (a : Act), (putAll f l a).defers = a.defers
  | [], a => rfl
  | i :: l, a => putAll_defers f l _
theorem putAll_not (f : Nat → Value) : ∀ (l : List Nat) (a : Act) (i : Nat), i ∉ l → sl (putAll f l a) i = sl a i
  | [], a, i, _ => rfl
  | j :: l, a, i, h => by
    rw [putAll, putAll_not f l _ i (fun e => h (List.mem_cons_of_mem _ e)), put_ne (show i ≠ j from fun e => h (by rw [e]; exact List.mem_cons_self))]
theorem putAll_mem (f : Nat → Value) : ∀ (l : List Nat) (a : Act) (i : Nat), i ∈ l → i < a.tmps.size → sl (putAll f l a) i = f i
  | j :: l, a, i, h, hs => by
    rw [putAll]
    by_cases hi : i ∈ l
    · exact putAll_mem f l _ i hi (by rw [put_size]; exact hs)
    · rw [putAll_not f l _ i hi]
      rcases List.mem_cons.1 h with rfl | h
      · exact put_eq hs
      · exact absurd h hi

theorem SameBut.all {L : List Nat} {a b : Act} (h : SameBut L a b) : b = putAll (sl b) L a := by
  obtain ⟨h1, h2, h3⟩ := h
  refine act_ext (h1.trans (putAll_size _ _ _).symm) (h2.trans (putAll_defers _ _ _).symm) fun i => ?_
  by_cases hi : i ∈ L
  · by_cases hs : i < a.tmps.size
    · rw [putAll_mem _ _ _ _ hi hs]
    · have e1 : sl b i = undef := by simp [sl, Array.getD, h1, hs]
      have e2 : sl (putAll (sl b) L a) i = undef := by simp [sl, Array.getD, putAll_size, hs]
      rw [e1, e2]
  · rw [h3 i hi, putAll_not _ _ _ _ hi]

section
variable {P : Program} {ops : Array Oper} {Q : Exit → Act → World → Prop}

/-- The operation o, number k, keeps the invariant. -/
def SlotStep (P : Program) (Q : Exit → Act → World → Prop) (n : Nat) (I : (Nat → Bool) → Act → World → Prop) (k : Nat) (o : Oper) : Prop :=
  ∀ (g : Nat → Bool) (a : Act) (w : World), a.tmps.size = n → g k = false → (o.after.all fun e => !Region.binds .any e || g e.on) = true → I g a w →
    ∀ K' : Act → World → Prop, (∀ v w, I (fun j => if j = k then true else g j) (a.put o.dst v) w → K' (a.put o.dst v) w) → Oper.wp P o a w K' Q

inductive SlotSteps (P : Program) (Q : Exit → Act → World → Prop) (n : Nat) (I : (Nat → Bool) → Act → World → Prop) : Nat → List Oper → Prop
  | nil {k} : SlotSteps P Q n I k []
  | cons {k o r} (h : SlotStep P Q n I k o) (hs : SlotSteps P Q n I (k + 1) r) : SlotSteps P Q n I k (o :: r)

theorem SlotSteps.inv {n : Nat} {I : (Nat → Bool) → Act → World → Prop} {a0 : Act} (hn : a0.tmps.size = n) {L : List Nat} {k : Nat} {r : List Oper} (h : SlotSteps P Q n I k r) :
    (∀ o ∈ r, ∀ j, o.dst = some j → j ∈ L) → InvSteps P Q (fun g a w => SameBut L a0 a ∧ I g a w) k r := by
  induction h with
  | nil => intro _; exact .nil
  | cons h1 _ ih =>
    intro hL
    refine .cons ?_ (ih fun o ho => hL o (List.mem_cons_of_mem _ ho))
    intro g a w hk hr hI K' hK
    obtain ⟨hs, hI⟩ := hI
    exact h1 g a w (hs.1.trans hn) hk hr hI K' fun v w' hI' => hK _ _ ⟨hs.put (hL _ List.mem_cons_self) v, hI'⟩

def dstIn (ops : Array Oper) (L : List Nat) : Bool := ops.toList.all fun o => match o.dst with | some j => L.contains j | none => true

/-- A region that draws, by an invariant over the slots; L: the slots that it writes. -/
theorem region_slots {id : Nat} {a : Act} {w : World} (n : Nat) (L : List Nat) (I : (Nat → Bool) → Act → World → Prop) (hm : P.follows .mixedOrders = true) (hb : backward ops = true) (hn : a.tmps.size = n) (hL : dstIn ops L = true)
    (h0 : I (fun _ => false) a w.drew)
    (hd : ∀ g b w', (∀ i, i < ops.size → g i = true) → b = putAll (sl b) L a → I g b w' → Q .normal b w')
    (hs : SlotSteps P Q n I 0 ops.toList) : (Code.region id ops true).wp P Q a w := by
  refine region_inv (fun a0 g b w' => SameBut L a0 b ∧ I g b w') hm hb ⟨SameBut.refl _ _, h0⟩ ?_ ?_
  · intro g b w' hg hI
    obtain ⟨h1, h2⟩ := hI
    exact hd g b w' hg h1.all h2
  · refine hs.inv hn ?_
    intro o ho j hj
    unfold dstIn at hL
    rw [List.all_eq_true] at hL
    have := hL o ho
    rw [hj] at this
    simpa using this

end

end Go.Proofs.Ytfhppnmbmdpjeaa
