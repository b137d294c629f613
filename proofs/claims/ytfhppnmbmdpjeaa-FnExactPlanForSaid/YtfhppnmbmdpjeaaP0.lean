/- DERIVED. Plain words: figures, terms, moves, and what the functions answer. No program in sight. -/
namespace Go.Proofs.Ytfhppnmbmdpjeaa
set_option linter.unusedVariables false
set_option linter.unusedSimpArgs false

/-- A figure. -/
structure Fig where
  d : Int
  t : Int
deriving DecidableEq

structure Trm where
  f : Fig
  dv : Bool
deriving DecidableEq

structure Mov where
  k : Int
  s : Int
  f : Fig
deriving DecidableEq

structure Itv where
  lo : Int
  hi : Int
deriving DecidableEq

structure Stg where
  sh : Int
  cu : Int
deriving DecidableEq

structure Ers where
  en : Int
  pa : Int
  ey : Int
deriving DecidableEq


/-- lo ≤ n ≤ hi. -/
def inR (n lo hi : Int) : Bool := decide (lo ≤ n) && decide (n ≤ hi)
theorem inR_true {n lo hi : Int} (h : inR n lo hi = true) : lo ≤ n ∧ n ≤ hi := by simpa [inR] using h
theorem inR_mk {n lo hi : Int} (h : lo ≤ n ∧ n ≤ hi) : inR n lo hi = true := by simpa [inR] using h
theorem inR_false {n lo hi : Int} (h : inR n lo hi = false) : n < lo ∨ hi < n := by
  simp [inR] at h
  omega

def isFig (f : Fig) : Bool := inR f.d 1000 9999 && inR f.t (-30) 30
theorem isFig_true {f : Fig} (h : isFig f = true) : 1000 ≤ f.d ∧ f.d ≤ 9999 ∧ -30 ≤ f.t ∧ f.t ≤ 30 := by
  simp [isFig] at h
  exact ⟨(inR_true h.1).1, (inR_true h.1).2, (inR_true h.2).1, (inR_true h.2).2⟩

def okTrm (t : Trm) : Bool := isFig t.f
def headDv : List Trm → Bool
  | [] => false
  | t :: _ => t.dv
def isChain (l : List Trm) : Bool := l.all okTrm && (inR l.length 1 6 && !headDv l)
theorem isChain_true {l : List Trm} (h : isChain l = true) : 1 ≤ l.length ∧ l.length ≤ 6 ∧ headDv l = false ∧ ∀ t ∈ l, okTrm t = true := by
  simp only [isChain, Bool.and_eq_true, List.all_eq_true, Bool.not_eq_true'] at h
  have := inR_true h.2.1
  exact ⟨by omega, by omega, h.2.2, h.1⟩

def isScale (s : Int) : Bool := inR s 0 5
/-- A scale, and not the linear one. -/
def isScaleN (s : Int) : Bool := inR s 0 5 && !(s == 5)
def isMove (m : Mov) : Bool := if inR m.k 0 2 then isScaleN m.s && isFig m.f else inR m.k 3 6 && (m.s == 0 && (m.f.d == 0 && m.f.t == 0))
def areMoves (l : List Mov) : Bool := l.all isMove && decide (l.length ≤ 30)
/-- The code of moves. -/
def codeMoves (l : List Mov) : Int := if l.all isMove then (if l.length ≤ 30 then 0 else 3) else 1

def eqFig (a b : Fig) : Bool := decide (a = b)
def eqTrm (a b : Trm) : Bool := decide (a = b)
def eqMov (a b : Mov) : Bool := decide (a = b)
theorem eqFig_ny {a b : Fig} (h : (!eqFig a b) = false) : a = b := by simpa [eqFig] using h
theorem eqFig_nn {a b : Fig} (h : (!eqFig a b) = true) : a ≠ b := by simpa [eqFig] using h
theorem eqFig_true {a b : Fig} (h : eqFig a b = true) : a = b := by simpa [eqFig] using h
theorem eqTrm_ny {a b : Trm} (h : (!eqTrm a b) = false) : a = b := by simpa [eqTrm] using h
theorem eqTrm_nn {a b : Trm} (h : (!eqTrm a b) = true) : a ≠ b := by simpa [eqTrm] using h
theorem eqTrm_true {a b : Trm} (h : eqTrm a b = true) : a = b := by simpa [eqTrm] using h
theorem eqMov_ny {a b : Mov} (h : (!eqMov a b) = false) : a = b := by simpa [eqMov] using h
theorem eqMov_nn {a b : Mov} (h : (!eqMov a b) = true) : a ≠ b := by simpa [eqMov] using h
theorem eqMov_true {a b : Mov} (h : eqMov a b = true) : a = b := by simpa [eqMov] using h
theorem eqFig_false {a b : Fig} (h : ¬ eqFig a b = true) : a ≠ b := by simpa [eqFig] using h
theorem eqTrm_false {a b : Trm} (h : ¬ eqTrm a b = true) : a ≠ b := by simpa [eqTrm] using h
theorem eqMov_false {a b : Mov} (h : ¬ eqMov a b = true) : a ≠ b := by simpa [eqMov] using h

theorem codeMoves_cases (l : List Mov) : codeMoves l = 0 ∨ codeMoves l = 1 ∨ codeMoves l = 3 := by
  simp only [codeMoves]
  split
  · split <;> simp
  · simp

theorem take_snoc' {α : Type} {l : List α} {k : Nat} {x : α} (h : l[k]? = some x) : l.take (k + 1) = l.take k ++ [x] := by
  rw [List.take_add_one, h]; rfl

theorem all_snoc {α : Type} {l : List α} {k : Nat} {x : α} {p : α → Bool} (h : l[k]? = some x) (ha : (l.take k).all p = true) (hx : p x = true) : (l.take (k + 1)).all p = true := by
  rw [take_snoc' h, List.all_append, ha]; simp [hx]

theorem all_false {α : Type} {l : List α} {k : Nat} {x : α} {p : α → Bool} (h : l[k]? = some x) (hx : p x = false) : l.all p = false := by
  rw [Bool.eq_false_iff]; intro ha
  rw [List.all_eq_true] at ha
  rw [ha x (List.mem_of_getElem? h)] at hx; cases hx

theorem get_ex {α : Type} {l : List α} {k : Nat} (h : k < l.length) : ∃ x, l[k]? = some x := ⟨l[k], List.getElem?_eq_getElem h⟩

theorem take_eq_all {α : Type} {l : List α} {k : Nat} (h : l.length ≤ k) : l.take k = l := List.take_of_length_le h

theorem take_ext {α : Type} {l m : List α} {k : Nat} {x y : α} (hx : l[k]? = some x) (hy : m[k]? = some y) (h : l.take k = m.take k) (he : x = y) : l.take (k + 1) = m.take (k + 1) := by
  rw [take_snoc' hx, take_snoc' hy, h, he]

theorem ne_of_get {α : Type} {l m : List α} {k : Nat} {x y : α} (hx : l[k]? = some x) (hy : m[k]? = some y) (he : x ≠ y) : l ≠ m := by
  intro h; subst h; rw [hx] at hy; exact he (Option.some.inj hy)

theorem any_false_end {α : Type} {l : List α} {k : Nat} {p : α → Bool} (h : l.length ≤ k) (ha : (l.take k).any p = false) : l.any p = false := by rwa [take_eq_all h] at ha
theorem any_snoc {α : Type} {l : List α} {k : Nat} {x : α} {p : α → Bool} (h : l[k]? = some x) (ha : (l.take k).any p = false) (hx : p x = false) : (l.take (k + 1)).any p = false := by
  rw [take_snoc' h, List.any_append, ha]; simp [hx]
theorem any_true {α : Type} {l : List α} {k : Nat} {x : α} {p : α → Bool} (h : l[k]? = some x) (hx : p x = true) : l.any p = true :=
  List.any_eq_true.2 ⟨x, List.mem_of_getElem? h, hx⟩
theorem any_not {α : Type} (l : List α) (p : α → Bool) : (!l.any fun x => !p x) = l.all p := by
  induction l with
  | nil => rfl
  | cons x l ih => simp only [List.any_cons, List.all_cons, Bool.not_or, Bool.not_not, ih]

def tensStep (n : Int) (t : Trm) : Int := if t.dv then n - t.f.t else n + t.f.t
def sumTens (l : List Trm) : Int := l.foldl tensStep 0
theorem sumTens_snoc (l : List Trm) (t : Trm) : sumTens (l ++ [t]) = tensStep (sumTens l) t := by simp [sumTens]
theorem tensStep_y {n : Int} {t : Trm} (h : t.dv = true) : tensStep n t = n - t.f.t := by simp [tensStep, h]
theorem tensStep_n {n : Int} {t : Trm} (h : t.dv = false) : tensStep n t = n + t.f.t := by simp [tensStep, h]

def setStep (n : Int) (m : Mov) : Int := if m.k ≤ 2 then n + 1 else n
def countSet (l : List Mov) : Int := l.foldl setStep 0
def countSettings (l : List Mov) : Int := if codeMoves l = 0 then countSet l else 0
theorem countSet_snoc (l : List Mov) (m : Mov) : countSet (l ++ [m]) = setStep (countSet l) m := by simp [countSet]

theorem okTrm_bd {t : Trm} (h : okTrm t = true) : 1000 ≤ t.f.d ∧ t.f.d ≤ 9999 ∧ -30 ≤ t.f.t ∧ t.f.t ≤ 30 := isFig_true h

theorem isChain_ok {l : List Trm} (h : isChain l = true) {k : Nat} {t : Trm} (ht : l[k]? = some t) : 1000 ≤ t.f.d ∧ t.f.d ≤ 9999 ∧ -30 ≤ t.f.t ∧ t.f.t ≤ 30 :=
  okTrm_bd ((isChain_true h).2.2.2 t (List.mem_of_getElem? ht))

/-- The answer of a function over chains: something and 0, or nothing and 1. -/
def codeChain (l : List Trm) : Int := if isChain l then 0 else 1
def sumOfTens (l : List Trm) : Int := if isChain l then sumTens l else 0

def flipTrm (dv : Bool) (t : Trm) : Trm := ⟨t.f, t.dv != dv⟩
def joinL (cs ds : List Trm) (dv : Bool) : List Trm := cs ++ ds.map (flipTrm dv)
theorem joinL_len (cs ds : List Trm) (dv : Bool) : (joinL cs ds dv).length = cs.length + ds.length := by simp [joinL]
theorem joinL_snoc (cs ds : List Trm) (dv : Bool) (t : Trm) : joinL cs (ds ++ [t]) dv = joinL cs ds dv ++ [⟨t.f, t.dv != dv⟩] := by simp [joinL, flipTrm]
/-- Joined chains, and the code. -/
def joinChains (cs ds : List Trm) (dv : Bool) : List Trm × Int :=
  if isChain cs && isChain ds then (if cs.length + ds.length ≤ 6 then (joinL cs ds dv, 0) else ([], 3)) else ([], 1)

theorem joinChains_len (cs ds : List Trm) (dv : Bool) : (joinChains cs ds dv).1.length ≤ 6 := by
  simp only [joinChains]
  split
  · split
    · rename_i h; simpa [joinL_len] using h
    · simp
  · simp

/-- The list with the elements at two places exchanged. -/
def swapL (l : List Trm) (a b : Nat) : List Trm :=
  match l[a]?, l[b]? with
  | some x, some y => (l.set a y).set b x
  | _, _ => l
def swapTerms (l : List Trm) (a b : Int) : List Trm × Int :=
  if isChain l then
    (if inR a 0 (l.length - 1) && inR b 0 (l.length - 1) then (if isChain (swapL l a.toNat b.toNat) then (swapL l a.toNat b.toNat, 0) else ([], 5)) else ([], 2))
  else ([], 1)

/-- The two lists in turn, beginning with the first; then what is left. -/
def weave : List Trm → List Trm → List Trm
  | [], ms => ms
  | d :: ds, ms => d :: weave ms ds
  termination_by ds ms => ds.length + ms.length
def sortL (l : List Trm) : List Trm :=
  match l with
  | [] => []
  | t :: r => t :: weave (r.filter fun x => x.dv) (r.filter fun x => !x.dv)
def sortTerms (l : List Trm) : List Trm × Int := if isChain l then (sortL l, 0) else ([], 1)

/-- The order of a scale: the power of ten that it shows, or 0. -/
def ordScale (s : Int) : Int := if s = 0 then 1 else if s = 1 then 2 else if s = 2 then 3 else if s = 3 then -1 else 0
theorem ordScale_cases (s : Int) : (s = 0 ∧ ordScale s = 1) ∨ (s = 1 ∧ ordScale s = 2) ∨ (s = 2 ∧ ordScale s = 3) ∨ (s = 3 ∧ ordScale s = -1) ∨ ((s == 0) = false ∧ (s == 1) = false ∧ (s == 2) = false ∧ (s == 3) = false ∧ ordScale s = 0) := by
  simp only [ordScale]
  by_cases h0 : s = 0
  · simp [h0]
  by_cases h1 : s = 1
  · simp [h1]
  by_cases h2 : s = 2
  · simp [h2]
  by_cases h3 : s = 3
  · simp [h3]
  simp [h0, h1, h2, h3]
def codeOrd (s : Int) : Int := if ordScale s = 0 then 2 else 0

/-- Whether a list of numbers holds one. -/
def hasI (l : List Int) (x : Int) : Bool := l.any fun y => y == x
theorem hasI_true {l : List Int} {k : Nat} {x : Int} (h : l[k]? = some x) : hasI l x = true := any_true (p := fun y => y == x) h (by simp)
theorem hasI_iff (l : List Int) (x : Int) : hasI l x = true ↔ x ∈ l := by simp [hasI]

def dfT : Trm := ⟨⟨0, 0⟩, false⟩
/-- The index at a place: in range, and not yet met. -/
def okAt (n : Nat) (os : List Int) (i : Nat) : Bool := inR (os.getD i 0) 0 (n - 1) && !hasI (os.take i) (os.getD i 0)
def ordOk (n : Nat) (os : List Int) : Bool := (List.range os.length).all (okAt n os)
theorem ordOk_false {n : Nat} {os : List Int} {i : Nat} (hi : i < os.length) (h : okAt n os i = false) : ordOk n os = false := by
  rw [Bool.eq_false_iff]
  intro ha
  rw [ordOk, List.all_eq_true] at ha
  rw [ha i (List.mem_range.2 hi)] at h
  cases h
theorem ordOk_true {n : Nat} {os : List Int} (h : ∀ i, i < os.length → okAt n os i = true) : ordOk n os = true := by
  rw [ordOk, List.all_eq_true]
  exact fun i hi => h i (List.mem_range.1 hi)
def orderedL (c : List Trm) (os : List Int) : List Trm := os.map fun k => c.getD k.toNat dfT
theorem orderedL_len (c : List Trm) (os : List Int) : (orderedL c os).length = os.length := by simp [orderedL]
theorem orderedL_snoc (c : List Trm) (os : List Int) (k : Int) : orderedL c (os ++ [k]) = orderedL c os ++ [c.getD k.toNat dfT] := by simp [orderedL]
def orderTerms (c : List Trm) (os : List Int) : List Trm × Int :=
  if isChain c then (if ordOk c.length os then (if os.length = c.length then (if isChain (orderedL c os) then (orderedL c os, 0) else ([], 5)) else ([], 2)) else ([], 2)) else ([], 1)
theorem orderTerms_len (c : List Trm) (os : List Int) : (orderTerms c os).1.length ≤ 6 := by
  simp only [orderTerms]
  split
  · split
    · split
      · split
        · rename_i h
          exact (isChain_true h).2.1
        · simp
      · simp
    · simp
  · simp
theorem okAt_get {n : Nat} {os : List Int} {i : Nat} {x : Int} (hx : os[i]? = some x) : okAt n os i = (inR x 0 (n - 1) && !hasI (os.take i) x) := by
  simp [okAt, List.getD, hx]
theorem getD_of {c : List Trm} {k : Nat} {t : Trm} (h : c[k]? = some t) : c.getD k dfT = t := by simp [List.getD, h]

theorem swapTerms_len (l : List Trm) (a b : Int) : (swapTerms l a b).1.length ≤ 6 := by
  simp only [swapTerms]
  split
  · split
    · split
      · rename_i h
        exact (isChain_true h).2.1
      · simp
    · simp
  · simp
theorem weave_len : ∀ ds ms : List Trm, (weave ds ms).length = ds.length + ms.length
  | [], ms => by simp [weave]
  | d :: ds, ms => by rw [weave, List.length_cons, weave_len ms ds, List.length_cons]; omega
  termination_by ds ms => ds.length + ms.length
theorem filter_two_len (r : List Trm) : (r.filter fun x => x.dv).length + (r.filter fun x => !x.dv).length = r.length := by
  induction r with
  | nil => rfl
  | cons y r ih => cases hy : y.dv <;> simp [hy] <;> omega
theorem sortTerms_len (l : List Trm) : (sortTerms l).1.length ≤ 6 := by
  simp only [sortTerms]
  split
  · rename_i h
    have h6 := (isChain_true h).2.1
    cases l with
    | nil => simp [sortL]
    | cons t r =>
      have hp := filter_two_len r
      simp only [sortL, List.length_cons, weave_len] at h6 ⊢
      omega
  · simp

end Go.Proofs.Ytfhppnmbmdpjeaa
