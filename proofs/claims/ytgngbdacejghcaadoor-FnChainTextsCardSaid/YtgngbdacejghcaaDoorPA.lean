/- DERIVED. Plain words. No program in sight. -/
namespace Go.Proofs.YtgngbdacejghcaaDoor
set_option linter.unusedVariables false
set_option linter.unusedSimpArgs false

/-- A figure. -/
structure Fig where
  d : Int
  t : Int
deriving DecidableEq

structure Trm where
  f : Fig
  dv : Bool
deriving DecidableEq

structure Mov where
  k : Int
  s : Int
  f : Fig
deriving DecidableEq

structure Itv where
  lo : Int
  hi : Int
deriving DecidableEq

structure Stg where
  sh : Int
  cu : Int
deriving DecidableEq

structure Ers where
  en : Int
  pa : Int
  ey : Int
deriving DecidableEq


/-- lo ≤ n ≤ hi. -/
def inR (n lo hi : Int) : Bool := decide (lo ≤ n) && decide (n ≤ hi)
theorem inR_true {n lo hi : Int} (h : inR n lo hi = true) : lo ≤ n ∧ n ≤ hi := by simpa [inR] using h
theorem inR_mk {n lo hi : Int} (h : lo ≤ n ∧ n ≤ hi) : inR n lo hi = true := by simpa [inR] using h
theorem inR_false {n lo hi : Int} (h : inR n lo hi = false) : n < lo ∨ hi < n := by
  simp [inR] at h
  omega

def isFig (f : Fig) : Bool := inR f.d 1000 9999 && inR f.t (-30) 30
theorem isFig_true {f : Fig} (h : isFig f = true) : 1000 ≤ f.d ∧ f.d ≤ 9999 ∧ -30 ≤ f.t ∧ f.t ≤ 30 := by
  simp [isFig] at h
  exact ⟨(inR_true h.1).1, (inR_true h.1).2, (inR_true h.2).1, (inR_true h.2).2⟩

def okTrm (t : Trm) : Bool := isFig t.f
def headDv : List Trm → Bool
  | [] => false
  | t :: _ => t.dv
def isChain (l : List Trm) : Bool := l.all okTrm && (inR l.length 1 6 && !headDv l)
theorem isChain_true {l : List Trm} (h : isChain l = true) : 1 ≤ l.length ∧ l.length ≤ 6 ∧ headDv l = false ∧ ∀ t ∈ l, okTrm t = true := by
  simp only [isChain, Bool.and_eq_true, List.all_eq_true, Bool.not_eq_true'] at h
  have := inR_true h.2.1
  exact ⟨by omega, by omega, h.2.2, h.1⟩

def isScale (s : Int) : Bool := inR s 0 5
/-- A scale, and not the linear one. -/
def isScaleN (s : Int) : Bool := inR s 0 5 && !(s == 5)
def isMove (m : Mov) : Bool := if inR m.k 0 2 then isScaleN m.s && isFig m.f else inR m.k 3 6 && (m.s == 0 && (m.f.d == 0 && m.f.t == 0))
def areMoves (l : List Mov) : Bool := l.all isMove && decide (l.length ≤ 30)
/-- The code of moves. -/
def codeMoves (l : List Mov) : Int := if l.all isMove then (if l.length ≤ 30 then 0 else 3) else 1

def eqFig (a b : Fig) : Bool := decide (a = b)
def eqTrm (a b : Trm) : Bool := decide (a = b)
def eqMov (a b : Mov) : Bool := decide (a = b)
theorem eqFig_ny {a b : Fig} (h : (!eqFig a b) = false) : a = b := by simpa [eqFig] using h
theorem eqFig_nn {a b : Fig} (h : (!eqFig a b) = true) : a ≠ b := by simpa [eqFig] using h
theorem eqFig_true {a b : Fig} (h : eqFig a b = true) : a = b := by simpa [eqFig] using h
theorem eqTrm_ny {a b : Trm} (h : (!eqTrm a b) = false) : a = b := by simpa [eqTrm] using h
theorem eqTrm_nn {a b : Trm} (h : (!eqTrm a b) = true) : a ≠ b := by simpa [eqTrm] using h
theorem eqTrm_true {a b : Trm} (h : eqTrm a b = true) : a = b := by simpa [eqTrm] using h
theorem eqMov_ny {a b : Mov} (h : (!eqMov a b) = false) : a = b := by simpa [eqMov] using h
theorem eqMov_nn {a b : Mov} (h : (!eqMov a b) = true) : a ≠ b := by simpa [eqMov] using h
theorem eqMov_true {a b : Mov} (h : eqMov a b = true) : a = b := by simpa [eqMov] using h
theorem eqFig_false {a b : Fig} (h : ¬ eqFig a b = true) : a ≠ b := by simpa [eqFig] using h
theorem eqTrm_false {a b : Trm} (h : ¬ eqTrm a b = true) : a ≠ b := by simpa [eqTrm] using h
theorem eqMov_false {a b : Mov} (h : ¬ eqMov a b = true) : a ≠ b := by simpa [eqMov] using h

theorem codeMoves_cases (l : List Mov) : codeMoves l = 0 ∨ codeMoves l = 1 ∨ codeMoves l = 3 := by
  simp only [codeMoves]
  split
  · split <;> simp
  · simp

theorem take_snoc' {α : Type} {l : List α} {k : Nat} {x : α} (h : l[k]? = some x) : l.take (k + 1) = l.take k ++ [x] := by
  rw [List.take_add_one, h]; rfl

theorem all_snoc {α : Type} {l : List α} {k : Nat} {x : α} {p : α → Bool} (h : l[k]? = some x) (ha : (l.take k).all p = true) (hx : p x = true) : (l.take (k + 1)).all p = true := by
  rw [take_snoc' h, List.all_append, ha]; simp [hx]

theorem all_false {α : Type} {l : List α} {k : Nat} {x : α} {p : α → Bool} (h : l[k]? = some x) (hx : p x = false) : l.all p = false := by
  rw [Bool.eq_false_iff]; intro ha
  rw [List.all_eq_true] at ha
  rw [ha x (List.mem_of_getElem? h)] at hx; cases hx

theorem get_ex {α : Type} {l : List α} {k : Nat} (h : k < l.length) : ∃ x, l[k]? = some x := ⟨l[k], List.getElem?_eq_getElem h⟩

theorem take_eq_all {α : Type} {l : List α} {k : Nat} (h : l.length ≤ k) : l.take k = l := List.take_of_length_le h

theorem take_ext {α : Type} {l m : List α} {k : Nat} {x y : α} (hx : l[k]? = some x) (hy : m[k]? = some y) (h : l.take k = m.take k) (he : x = y) : l.take (k + 1) = m.take (k + 1) := by
  rw [take_snoc' hx, take_snoc' hy, h, he]

theorem ne_of_get {α : Type} {l m : List α} {k : Nat} {x y : α} (hx : l[k]? = some x) (hy : m[k]? = some y) (he : x ≠ y) : l ≠ m := by
  intro h; subst h; rw [hx] at hy; exact he (Option.some.inj hy)

theorem any_false_end {α : Type} {l : List α} {k : Nat} {p : α → Bool} (h : l.length ≤ k) (ha : (l.take k).any p = false) : l.any p = false := by rwa [take_eq_all h] at ha
theorem any_snoc {α : Type} {l : List α} {k : Nat} {x : α} {p : α → Bool} (h : l[k]? = some x) (ha : (l.take k).any p = false) (hx : p x = false) : (l.take (k + 1)).any p = false := by
  rw [take_snoc' h, List.any_append, ha]; simp [hx]
theorem any_true {α : Type} {l : List α} {k : Nat} {x : α} {p : α → Bool} (h : l[k]? = some x) (hx : p x = true) : l.any p = true :=
  List.any_eq_true.2 ⟨x, List.mem_of_getElem? h, hx⟩
theorem any_not {α : Type} (l : List α) (p : α → Bool) : (!l.any fun x => !p x) = l.all p := by
  induction l with
  | nil => rfl
  | cons x l ih => simp only [List.any_cons, List.all_cons, Bool.not_or, Bool.not_not, ih]

def tensStep (n : Int) (t : Trm) : Int := if t.dv then n - t.f.t else n + t.f.t
def sumTens (l : List Trm) : Int := l.foldl tensStep 0
theorem sumTens_snoc (l : List Trm) (t : Trm) : sumTens (l ++ [t]) = tensStep (sumTens l) t := by simp [sumTens]
theorem tensStep_y {n : Int} {t : Trm} (h : t.dv = true) : tensStep n t = n - t.f.t := by simp [tensStep, h]
theorem tensStep_n {n : Int} {t : Trm} (h : t.dv = false) : tensStep n t = n + t.f.t := by simp [tensStep, h]

def setStep (n : Int) (m : Mov) : Int := if m.k ≤ 2 then n + 1 else n
def countSet (l : List Mov) : Int := l.foldl setStep 0
def countSettings (l : List Mov) : Int := if codeMoves l = 0 then countSet l else 0
theorem countSet_snoc (l : List Mov) (m : Mov) : countSet (l ++ [m]) = setStep (countSet l) m := by simp [countSet]

theorem okTrm_bd {t : Trm} (h : okTrm t = true) : 1000 ≤ t.f.d ∧ t.f.d ≤ 9999 ∧ -30 ≤ t.f.t ∧ t.f.t ≤ 30 := isFig_true h

theorem isChain_ok {l : List Trm} (h : isChain l = true) {k : Nat} {t : Trm} (ht : l[k]? = some t) : 1000 ≤ t.f.d ∧ t.f.d ≤ 9999 ∧ -30 ≤ t.f.t ∧ t.f.t ≤ 30 :=
  okTrm_bd ((isChain_true h).2.2.2 t (List.mem_of_getElem? ht))

/-- The answer of a function over chains: something and 0, or nothing and 1. -/
def codeChain (l : List Trm) : Int := if isChain l then 0 else 1
def sumOfTens (l : List Trm) : Int := if isChain l then sumTens l else 0

def flipTrm (dv : Bool) (t : Trm) : Trm := ⟨t.f, t.dv != dv⟩
def joinL (cs ds : List Trm) (dv : Bool) : List Trm := cs ++ ds.map (flipTrm dv)
theorem joinL_len (cs ds : List Trm) (dv : Bool) : (joinL cs ds dv).length = cs.length + ds.length := by simp [joinL]
theorem joinL_snoc (cs ds : List Trm) (dv : Bool) (t : Trm) : joinL cs (ds ++ [t]) dv = joinL cs ds dv ++ [⟨t.f, t.dv != dv⟩] := by simp [joinL, flipTrm]
/-- Joined chains, and the code. -/
def joinChains (cs ds : List Trm) (dv : Bool) : List Trm × Int :=
  if isChain cs && isChain ds then (if cs.length + ds.length ≤ 6 then (joinL cs ds dv, 0) else ([], 3)) else ([], 1)

theorem joinChains_len (cs ds : List Trm) (dv : Bool) : (joinChains cs ds dv).1.length ≤ 6 := by
  simp only [joinChains]
  split
  · split
    · rename_i h; simpa [joinL_len] using h
    · simp
  · simp

/-- The list with the elements at two places exchanged. -/
def swapL (l : List Trm) (a b : Nat) : List Trm :=
  match l[a]?, l[b]? with
  | some x, some y => (l.set a y).set b x
  | _, _ => l
def swapTerms (l : List Trm) (a b : Int) : List Trm × Int :=
  if isChain l then
    (if inR a 0 (l.length - 1) && inR b 0 (l.length - 1) then (if isChain (swapL l a.toNat b.toNat) then (swapL l a.toNat b.toNat, 0) else ([], 5)) else ([], 2))
  else ([], 1)

/-- The two lists in turn, beginning with the first; then what is left. -/
def weave : List Trm → List Trm → List Trm
  | [], ms => ms
  | d :: ds, ms => d :: weave ms ds
  termination_by ds ms => ds.length + ms.length
def sortL (l : List Trm) : List Trm :=
  match l with
  | [] => []
  | t :: r => t :: weave (r.filter fun x => x.dv) (r.filter fun x => !x.dv)
def sortTerms (l : List Trm) : List Trm × Int := if isChain l then (sortL l, 0) else ([], 1)

/-- The order of a scale: the power of ten that it shows, or 0. -/
def ordScale (s : Int) : Int := if s = 0 then 1 else if s = 1 then 2 else if s = 2 then 3 else if s = 3 then -1 else 0
theorem ordScale_cases (s : Int) : (s = 0 ∧ ordScale s = 1) ∨ (s = 1 ∧ ordScale s = 2) ∨ (s = 2 ∧ ordScale s = 3) ∨ (s = 3 ∧ ordScale s = -1) ∨ ((s == 0) = false ∧ (s == 1) = false ∧ (s == 2) = false ∧ (s == 3) = false ∧ ordScale s = 0) := by
  simp only [ordScale]
  by_cases h0 : s = 0
  · simp [h0]
  by_cases h1 : s = 1
  · simp [h1]
  by_cases h2 : s = 2
  · simp [h2]
  by_cases h3 : s = 3
  · simp [h3]
  simp [h0, h1, h2, h3]
def codeOrd (s : Int) : Int := if ordScale s = 0 then 2 else 0

/-- Whether a list of numbers holds one. -/
def hasI (l : List Int) (x : Int) : Bool := l.any fun y => y == x
theorem hasI_true {l : List Int} {k : Nat} {x : Int} (h : l[k]? = some x) : hasI l x = true := any_true (p := fun y => y == x) h (by simp)
theorem hasI_iff (l : List Int) (x : Int) : hasI l x = true ↔ x ∈ l := by simp [hasI]

def dfT : Trm := ⟨⟨0, 0⟩, false⟩
/-- The index at a place: in range, and not yet met. -/
def okAt (n : Nat) (os : List Int) (i : Nat) : Bool := inR (os.getD i 0) 0 (n - 1) && !hasI (os.take i) (os.getD i 0)
def ordOk (n : Nat) (os : List Int) : Bool := (List.range os.length).all (okAt n os)
theorem ordOk_false {n : Nat} {os : List Int} {i : Nat} (hi : i < os.length) (h : okAt n os i = false) : ordOk n os = false := by
  rw [Bool.eq_false_iff]
  intro ha
  rw [ordOk, List.all_eq_true] at ha
  rw [ha i (List.mem_range.2 hi)] at h
  cases h
theorem ordOk_true {n : Nat} {os : List Int} (h : ∀ i, i < os.length → okAt n os i = true) : ordOk n os = true := by
  rw [ordOk, List.all_eq_true]
  exact fun i hi => h i (List.mem_range.1 hi)
def orderedL (c : List Trm) (os : List Int) : List Trm := os.map fun k => c.getD k.toNat dfT
theorem orderedL_len (c : List Trm) (os : List Int) : (orderedL c os).length = os.length := by simp [orderedL]
theorem orderedL_snoc (c : List Trm) (os : List Int) (k : Int) : orderedL c (os ++ [k]) = orderedL c os ++ [c.getD k.toNat dfT] := by simp [orderedL]
def orderTerms (c : List Trm) (os : List Int) : List Trm × Int :=
  if isChain c then (if ordOk c.length os then (if os.length = c.length then (if isChain (orderedL c os) then (orderedL c os, 0) else ([], 5)) else ([], 2)) else ([], 2)) else ([], 1)
theorem orderTerms_len (c : List Trm) (os : List Int) : (orderTerms c os).1.length ≤ 6 := by
  simp only [orderTerms]
  split
  · split
    · split
      · split
        · rename_i h
          exact (isChain_true h).2.1
        · simp
      · simp
    · simp
  · simp
theorem okAt_get {n : Nat} {os : List Int} {i : Nat} {x : Int} (hx : os[i]? = some x) : okAt n os i = (inR x 0 (n - 1) && !hasI (os.take i) x) := by
  simp [okAt, List.getD, hx]
theorem getD_of {c : List Trm} {k : Nat} {t : Trm} (h : c[k]? = some t) : c.getD k dfT = t := by simp [List.getD, h]

theorem swapTerms_len (l : List Trm) (a b : Int) : (swapTerms l a b).1.length ≤ 6 := by
  simp only [swapTerms]
  split
  · split
    · split
      · rename_i h
        exact (isChain_true h).2.1
      · simp
    · simp
  · simp
theorem weave_len : ∀ ds ms : List Trm, (weave ds ms).length = ds.length + ms.length
  | [], ms => by simp [weave]
  | d :: ds, ms => by rw [weave, List.length_cons, weave_len ms ds, List.length_cons]; omega
  termination_by ds ms => ds.length + ms.length
theorem filter_two_len (r : List Trm) : (r.filter fun x => x.dv).length + (r.filter fun x => !x.dv).length = r.length := by
  induction r with
  | nil => rfl
  | cons y r ih => cases hy : y.dv <;> simp [hy] <;> omega
theorem sortTerms_len (l : List Trm) : (sortTerms l).1.length ≤ 6 := by
  simp only [sortTerms]
  split
  · rename_i h
    have h6 := (isChain_true h).2.1
    cases l with
    | nil => simp [sortL]
    | cons t r =>
      have hp := filter_two_len r
      simp only [sortL, List.length_cons, weave_len] at h6 ⊢
      omega
  · simp

/-- A quotient, rounded up. -/
def cdiv (a b : Int) : Int := -((-a) / b)

theorem tdiv_neg {a b : Int} (ha : a < 0) (hb : 0 < b) :
    a.tdiv b ≤ 0 ∧ a ≤ a.tdiv b ∧ a.tmod b ≤ 0 ∧ (a.tmod b = 0 → a.tdiv b = a / b) ∧ (a.tmod b ≠ 0 → a.tdiv b - 1 = a / b) := by
  obtain ⟨m, rfl⟩ : ∃ m, a = -m := ⟨-a, by omega⟩
  have hm : 0 < m := by omega
  rw [Int.neg_tdiv, Int.neg_tmod, Int.tdiv_eq_ediv_of_nonneg (by omega), Int.tmod_eq_emod_of_nonneg (by omega)]
  have h1 := Int.emod_nonneg m (show b ≠ 0 by omega)
  have h2 := Int.emod_lt_of_pos m hb
  have h3 := Int.mul_ediv_add_emod m b
  have h4 : 0 ≤ m / b := Int.ediv_nonneg (by omega) (by omega)
  have h5 : m / b ≤ m := by
    have := Int.ediv_le_self b (show 0 ≤ m by omega)
    exact this
  refine ⟨by omega, by omega, by omega, fun h => ?_, fun h => ?_⟩
  · have : m % b = 0 := by omega
    have := ((Int.ediv_emod_unique (a := -m) (b := b) (r := 0) (q := -(m / b)) hb).2 ⟨by rw [Int.mul_neg]; omega, by omega, by omega⟩).1
    exact this.symm
  · have := ((Int.ediv_emod_unique (a := -m) (b := b) (r := b - m % b) (q := -(m / b) - 1) hb).2 ⟨by rw [Int.mul_sub, Int.mul_neg]; omega, by omega, by omega⟩).1
    exact this.symm

theorem pow2_20 {k : Nat} (h : k ≤ 20) : (2 : Int) ^ k ≤ 1048576 := by
  have h1 : 2 ^ k ≤ 2 ^ 20 := Nat.pow_le_pow_right (by decide) h
  have h2 : ((2 ^ k : Nat) : Int) ≤ ((2 ^ 20 : Nat) : Int) := Int.ofNat_le.2 h1
  simpa using h2

theorem mul_self_le {a b : Int} (h0 : 0 ≤ a) (h : a ≤ b) : a * a ≤ b * b := Int.mul_le_mul h h h0 (by omega)

/-- One step of the lower logarithm: the square, and the next bit. -/
def lowStep (s : Int × Int) : Int × Int :=
  if 1000000000 ≤ s.1 * s.1 / 100000000 then (s.1 * s.1 / 100000000 / 10, s.2 * 2 + 1) else (s.1 * s.1 / 100000000, s.2 * 2)
/-- One step of the upper logarithm. -/
def highStep (s : Int × Int) : Int × Int :=
  if 1000000000 ≤ cdiv (s.1 * s.1) 100000000 then (cdiv (cdiv (s.1 * s.1) 100000000) 10, s.2 * 2 + 1) else (cdiv (s.1 * s.1) 100000000, s.2 * 2)
def lowS (x : Int) : Nat → Int × Int
  | 0 => (x, 0)
  | n + 1 => lowStep (lowS x n)
def highS (x : Int) : Nat → Int × Int
  | 0 => (x, 0)
  | n + 1 => highStep (highS x n)

theorem lowStep_pos {s : Int × Int} (h : 1000000000 ≤ s.1 * s.1 / 100000000) : lowStep s = (s.1 * s.1 / 100000000 / 10, s.2 * 2 + 1) := if_pos h
theorem lowStep_neg {s : Int × Int} (h : ¬ 1000000000 ≤ s.1 * s.1 / 100000000) : lowStep s = (s.1 * s.1 / 100000000, s.2 * 2) := if_neg h
theorem highStep_pos {s : Int × Int} (h : 1000000000 ≤ cdiv (s.1 * s.1) 100000000) : highStep s = (cdiv (cdiv (s.1 * s.1) 100000000) 10, s.2 * 2 + 1) := if_pos h
theorem highStep_neg {s : Int × Int} (h : ¬ 1000000000 ≤ cdiv (s.1 * s.1) 100000000) : highStep s = (cdiv (s.1 * s.1) 100000000, s.2 * 2) := if_neg h

theorem lowS_bd {x : Int} (h1 : 100000000 ≤ x) (h2 : x ≤ 999999999) : ∀ n : Nat, 100000000 ≤ (lowS x n).1 ∧ (lowS x n).1 ≤ 999999999 ∧ 0 ≤ (lowS x n).2 ∧ (lowS x n).2 < 2 ^ n
  | 0 => by simp [lowS]; omega
  | n + 1 => by
    obtain ⟨a1, a2, a3, a4⟩ := lowS_bd h1 h2 n
    have b1 := mul_self_le (by omega : (0 : Int) ≤ 100000000) a1
    have b2 := mul_self_le (by omega) a2
    have hp : (2 : Int) ^ (n + 1) = 2 ^ n * 2 := by rw [Int.pow_succ]
    rw [hp, lowS]
    by_cases hq : 1000000000 ≤ (lowS x n).1 * (lowS x n).1 / 100000000
    · rw [lowStep_pos hq]; simp only; omega
    · rw [lowStep_neg hq]; simp only; omega

theorem highS_bd {x : Int} (h1 : 100000000 ≤ x) (h2 : x ≤ 999999999) : ∀ n : Nat, 100000000 ≤ (highS x n).1 ∧ (highS x n).1 ≤ 1000000000 ∧ 0 ≤ (highS x n).2 ∧ (highS x n).2 < 2 ^ n
  | 0 => by simp [highS]; omega
  | n + 1 => by
    obtain ⟨a1, a2, a3, a4⟩ := highS_bd h1 h2 n
    have b1 := mul_self_le (by omega : (0 : Int) ≤ 100000000) a1
    have b2 := mul_self_le (by omega) a2
    have hp : (2 : Int) ^ (n + 1) = 2 ^ n * 2 := by rw [Int.pow_succ]
    rw [hp, highS]
    by_cases hq : 1000000000 ≤ cdiv ((highS x n).1 * (highS x n).1) 100000000
    · rw [highStep_pos hq]; simp only [cdiv] at hq ⊢; omega
    · rw [highStep_neg hq]; simp only [cdiv] at hq ⊢; omega

/-- The logarithm of x. -/
def logOf (x : Int) : Itv := ⟨(lowS x 20).2, (highS x 20).2 + 1⟩
theorem logOf_bd {x : Int} (h1 : 100000000 ≤ x) (h2 : x ≤ 999999999) : 0 ≤ (logOf x).lo ∧ (logOf x).lo ≤ 1048575 ∧ 1 ≤ (logOf x).hi ∧ (logOf x).hi ≤ 1048576 := by
  have a := lowS_bd h1 h2 20
  have b := highS_bd h1 h2 20
  simp only [logOf]
  have hp : (2 : Int) ^ 20 = 1048576 := by decide
  rw [hp] at a b
  omega

/-- The logarithm of a figure. -/
def figLog (f : Fig) : Itv := ⟨(logOf (f.d * 100000)).lo + f.t * 1048576, (logOf (f.d * 100000)).hi + f.t * 1048576⟩
theorem figLog_bd {f : Fig} (h1 : 1000 ≤ f.d) (h2 : f.d ≤ 9999) : f.t * 1048576 ≤ (figLog f).lo ∧ (figLog f).lo ≤ f.t * 1048576 + 1048575 ∧ f.t * 1048576 + 1 ≤ (figLog f).hi ∧ (figLog f).hi ≤ f.t * 1048576 + 1048576 := by
  have := logOf_bd (x := f.d * 100000) (by omega) (by omega)
  simp only [figLog]
  omega

theorem figLog_bd2 {f : Fig} (h1 : 1000 ≤ f.d) (h2 : f.d ≤ 9999) (h3 : -30 ≤ f.t) (h4 : f.t ≤ 30) : -33000000 ≤ (figLog f).lo ∧ (figLog f).lo ≤ 33000000 ∧ -33000000 ≤ (figLog f).hi ∧ (figLog f).hi ≤ 33000000 := by
  have := figLog_bd h1 h2
  omega

def addI (a b : Itv) : Itv := ⟨a.lo + b.lo, a.hi + b.hi⟩
def subI (a b : Itv) : Itv := ⟨a.lo - b.hi, a.hi - b.lo⟩
def logStep (a : Itv) (t : Trm) : Itv := if t.dv then subI a (figLog t.f) else addI a (figLog t.f)
def chainLog0 (l : List Trm) : Itv := l.foldl logStep ⟨0, 0⟩
theorem chainLog0_snoc (l : List Trm) (t : Trm) : chainLog0 (l ++ [t]) = logStep (chainLog0 l) t := by simp [chainLog0]
theorem logStep_y {a : Itv} {t : Trm} (h : t.dv = true) : logStep a t = ⟨a.lo - (figLog t.f).hi, a.hi - (figLog t.f).lo⟩ := by simp [logStep, h, subI]
theorem logStep_n {a : Itv} {t : Trm} (h : t.dv = false) : logStep a t = ⟨a.lo + (figLog t.f).lo, a.hi + (figLog t.f).hi⟩ := by simp [logStep, h, addI]
theorem chainLog0_bdk (l : List Trm) (h : ∀ t ∈ l, okTrm t = true) : ∀ k : Nat, k ≤ l.length → -33000000 * (k : Int) ≤ (chainLog0 (l.take k)).lo ∧ (chainLog0 (l.take k)).lo ≤ 33000000 * k ∧ -33000000 * (k : Int) ≤ (chainLog0 (l.take k)).hi ∧ (chainLog0 (l.take k)).hi ≤ 33000000 * k
  | 0, _ => by simp [chainLog0]
  | k + 1, hk => by
    have ih := chainLog0_bdk l h k (by omega)
    obtain ⟨t, ht⟩ := get_ex (l := l) (k := k) (by omega)
    obtain ⟨t1, t2, t3, t4⟩ := okTrm_bd (h t (List.mem_of_getElem? ht))
    have h2 := figLog_bd2 t1 t2 t3 t4
    rw [take_snoc' ht, chainLog0_snoc]
    cases hq : t.dv
    · rw [logStep_n hq]; simp only; omega
    · rw [logStep_y hq]; simp only; omega
theorem chainLog0_bd {l : List Trm} (h : isChain l = true) : -198000000 ≤ (chainLog0 l).lo ∧ (chainLog0 l).lo ≤ 198000000 ∧ -198000000 ≤ (chainLog0 l).hi ∧ (chainLog0 l).hi ≤ 198000000 := by
  have hc := isChain_true h
  have := chainLog0_bdk l hc.2.2.2 l.length (Nat.le_refl _)
  rw [take_eq_all (Nat.le_refl _)] at this
  omega
/-- The logarithm of a chain, and the code. -/
def chainLog (l : List Trm) : Itv := if isChain l then chainLog0 l else ⟨0, 0⟩

theorem mul_bd {a n A B : Int} (h1 : -A ≤ a) (h2 : a ≤ A) (h3 : -B ≤ n) (h4 : n ≤ B) (hA : 0 ≤ A) : -(A * B) ≤ a * n ∧ a * n ≤ A * B := by
  have hB : 0 ≤ B := by omega
  by_cases ha : 0 ≤ a <;> by_cases hn : 0 ≤ n
  · have e1 := Int.mul_le_mul h2 h4 hn hA
    have e2 := Int.mul_nonneg ha hn
    have e3 := Int.mul_nonneg hA hB
    omega
  · have e1 := Int.mul_le_mul h2 (show -n ≤ B by omega) (by omega) hA
    have e2 := Int.mul_nonneg ha (show 0 ≤ -n by omega)
    have e3 := Int.mul_nonneg hA hB
    rw [Int.mul_neg] at e1 e2
    omega
  · have e1 := Int.mul_le_mul (show -a ≤ A by omega) h4 hn hA
    have e2 := Int.mul_nonneg (show 0 ≤ -a by omega) hn
    have e3 := Int.mul_nonneg hA hB
    rw [Int.neg_mul] at e1 e2
    omega
  · have e1 := Int.mul_le_mul (show -a ≤ A by omega) (show -n ≤ B by omega) (by omega) hA
    have e2 := Int.mul_nonneg (show 0 ≤ -a by omega) (show 0 ≤ -n by omega)
    have e3 := Int.mul_nonneg hA hB
    rw [Int.neg_mul_neg] at e1 e2
    omega

/-- An interval times n / d. -/
def scaleI (a : Itv) (n d : Int) : Itv := ⟨min (a.lo * n) (a.hi * n) / d, cdiv (max (a.lo * n) (a.hi * n)) d⟩

/-- Lexicographic: the bits first. -/
def le2 (s t : Int × Int) : Prop := s.2 < t.2 ∨ (s.2 = t.2 ∧ s.1 ≤ t.1)
theorem le2_lh {s t : Int × Int} (hs : 0 ≤ s.1) (h : le2 s t) : le2 (lowStep s) (highStep t) := by
  obtain ⟨x, a⟩ := s
  obtain ⟨y, b⟩ := t
  simp only [le2] at h hs
  have hl : (lowStep (x, a)).2 = a * 2 ∨ (lowStep (x, a)).2 = a * 2 + 1 := by
    by_cases hq : 1000000000 ≤ x * x / 100000000
    · rw [lowStep_pos (s := (x, a)) hq]; exact .inr rfl
    · rw [lowStep_neg (s := (x, a)) hq]; exact .inl rfl
  have hh : (highStep (y, b)).2 = b * 2 ∨ (highStep (y, b)).2 = b * 2 + 1 := by
    by_cases hq : 1000000000 ≤ cdiv (y * y) 100000000
    · rw [highStep_pos (s := (y, b)) hq]; exact .inr rfl
    · rw [highStep_neg (s := (y, b)) hq]; exact .inl rfl
  rcases h with h | ⟨h1, h2⟩
  · exact .inl (by omega)
  · subst h1
    have hm := mul_self_le hs h2
    by_cases hq : 1000000000 ≤ x * x / 100000000 <;> by_cases hr : 1000000000 ≤ cdiv (y * y) 100000000
    · rw [lowStep_pos (s := (x, a)) hq, highStep_pos (s := (y, a)) hr]; refine Or.inr ⟨rfl, ?_⟩; simp only [cdiv] at hq hr ⊢; omega
    · simp only [cdiv] at hr; omega
    · rw [lowStep_neg (s := (x, a)) hq, highStep_pos (s := (y, a)) hr]; simp only [le2]; omega
    · rw [lowStep_neg (s := (x, a)) hq, highStep_neg (s := (y, a)) hr]; refine Or.inr ⟨rfl, ?_⟩; simp only [cdiv] at hq hr ⊢; omega
theorem lowS_le_highS {x : Int} (h1 : 100000000 ≤ x) (h2 : x ≤ 999999999) : ∀ n, le2 (lowS x n) (highS x n)
  | 0 => .inr ⟨rfl, Int.le_refl _⟩
  | n + 1 => le2_lh (by have := (lowS_bd h1 h2 n).1; omega) (lowS_le_highS h1 h2 n)
theorem logOf_le {x : Int} (h1 : 100000000 ≤ x) (h2 : x ≤ 999999999) : (logOf x).lo < (logOf x).hi := by
  have := lowS_le_highS h1 h2 20
  simp only [logOf, le2] at this ⊢
  omega
theorem figLog_le {f : Fig} (h1 : 1000 ≤ f.d) (h2 : f.d ≤ 9999) : (figLog f).lo < (figLog f).hi := by
  have := logOf_le (x := f.d * 100000) (by omega) (by omega)
  simp only [figLog]
  omega
theorem chainLog0_lek (l : List Trm) (h : ∀ t ∈ l, okTrm t = true) : ∀ k : Nat, k ≤ l.length → (chainLog0 (l.take k)).lo ≤ (chainLog0 (l.take k)).hi
  | 0, _ => by simp [chainLog0]
  | k + 1, hk => by
    have ih := chainLog0_lek l h k (by omega)
    obtain ⟨t, ht⟩ := get_ex (l := l) (k := k) (by omega)
    obtain ⟨t1, t2, t3, t4⟩ := okTrm_bd (h t (List.mem_of_getElem? ht))
    have h2 := figLog_le t1 t2
    rw [take_snoc' ht, chainLog0_snoc]
    cases hq : t.dv
    · rw [logStep_n hq]; simp only; omega
    · rw [logStep_y hq]; simp only; omega
theorem chainLog0_le {l : List Trm} (h : isChain l = true) : (chainLog0 l).lo ≤ (chainLog0 l).hi := by
  have := chainLog0_lek l (isChain_true h).2.2.2 l.length (Nat.le_refl _)
  rwa [take_eq_all (Nat.le_refl _)] at this

/-- Whether a figure's digits agree with a chain up to some units, and the code. -/
def meetI (a b : Itv) : Bool := decide (a.lo ≤ b.hi) && decide (b.lo ≤ a.hi)
def codeDigits (l : List Trm) (f : Fig) (u : Int) : Int := if isChain l && isFig f then (if inR u 0 1048576 then 0 else 2) else 1
def checkDigits (l : List Trm) (f : Fig) (u : Int) : Bool := if codeDigits l f u = 0 then meetI ⟨(figLog f).lo - u, (figLog f).hi + u⟩ (chainLog0 l) else false

/-- The numerator times ten until it is great enough; the tens go down. -/
def upLoop (d n t : Int) : Int × Int := if 1 ≤ n ∧ n < 1000 * d then upLoop d (n * 10) (t - 1) else (n, t)
  termination_by (1000 * d - n).toNat
  decreasing_by omega
/-- The denominator times ten until it is great enough; the tens go up. -/
def dnLoop (n d t : Int) : Int × Int := if 1 ≤ d ∧ 10000 * d ≤ n then dnLoop n (d * 10) (t + 1) else (d, t)
  termination_by (n - d).toNat
  decreasing_by omega
theorem upLoop_go {d n t : Int} (h1 : 1 ≤ n) (h2 : n < 1000 * d) : upLoop d n t = upLoop d (n * 10) (t - 1) := by rw [upLoop, if_pos ⟨h1, h2⟩]
theorem upLoop_end {d n t : Int} (h2 : ¬ n < 1000 * d) : upLoop d n t = (n, t) := by rw [upLoop, if_neg (fun h => h2 h.2)]
theorem dnLoop_go {d n t : Int} (h1 : 1 ≤ d) (h2 : 10000 * d ≤ n) : dnLoop n d t = dnLoop n (d * 10) (t + 1) := by rw [dnLoop, if_pos ⟨h1, h2⟩]
theorem dnLoop_end {d n t : Int} (h2 : ¬ 10000 * d ≤ n) : dnLoop n d t = (d, t) := by rw [dnLoop, if_neg (fun h => h2 h.2)]

theorem upLoop_bd (d n t : Int) (h1 : 1 ≤ n) (h2 : n < 1000 * d) : 1000 * d ≤ (upLoop d n t).1 ∧ (upLoop d n t).1 < 10000 * d ∧ (upLoop d n t).2 ≤ t - 1 ∧ t - (upLoop d n t).2 ≤ (upLoop d n t).1 - n := by
  rw [upLoop_go h1 h2]
  by_cases h3 : n * 10 < 1000 * d
  · have := upLoop_bd d (n * 10) (t - 1) (by omega) h3
    omega
  · rw [upLoop_end h3]
    simp only
    omega
  termination_by (1000 * d - n).toNat
  decreasing_by omega
theorem dnLoop_bd (n d t : Int) (h1 : 1 ≤ d) (h2 : 10000 * d ≤ n) : 1000 * (dnLoop n d t).1 ≤ n ∧ n < 10000 * (dnLoop n d t).1 ∧ d * 10 ≤ (dnLoop n d t).1 ∧ t + 1 ≤ (dnLoop n d t).2 ∧ (dnLoop n d t).2 ≤ t + (dnLoop n d t).1 - d := by
  rw [dnLoop_go h1 h2]
  by_cases h3 : 10000 * (d * 10) ≤ n
  · have := dnLoop_bd n (d * 10) (t + 1) (by omega) h3
    omega
  · rw [dnLoop_end h3]
    simp only
    omega
  termination_by (n - d).toNat
  decreasing_by omega

/-- The last step of rounding. -/
def endRnd (n d t : Int) : Fig := if (2 * n + d) / (2 * d) = 10000 then ⟨1000, t + 1⟩ else ⟨(2 * n + d) / (2 * d), t⟩
/-- A positive fraction, rounded to a figure. -/
def rndF (n d t : Int) : Fig := endRnd (upLoop d n (t + 3)).1 (dnLoop (upLoop d n (t + 3)).1 d (upLoop d n (t + 3)).2).1 (dnLoop (upLoop d n (t + 3)).1 d (upLoop d n (t + 3)).2).2
/-- The same, the other way round. -/
theorem rndF_alt {n d t : Int} (hn : 1 ≤ n) (hd : 1 ≤ d) : rndF n d t = endRnd (upLoop (dnLoop n d (t + 3)).1 n (dnLoop n d (t + 3)).2).1 (dnLoop n d (t + 3)).1 (upLoop (dnLoop n d (t + 3)).1 n (dnLoop n d (t + 3)).2).2 := by
  unfold rndF
  by_cases h : n < 1000 * d
  · have hb := upLoop_bd d n (t + 3) hn h
    rw [dnLoop_end (n := n) (d := d) (by omega)]
    simp only
    rw [dnLoop_end (n := (upLoop d n (t + 3)).1) (by omega)]
  · rw [upLoop_end h]
    simp only
    by_cases h2 : 10000 * d ≤ n
    · have hb := dnLoop_bd n d (t + 3) hd h2
      rw [upLoop_end (d := (dnLoop n d (t + 3)).1) (by omega)]
    · rw [dnLoop_end h2]
      simp only
      rw [upLoop_end h]
/-- The digits of what is rounded. -/
theorem endRnd_bd {n d t : Int} (hd : 1 ≤ d) (h1 : 1000 * d ≤ n) (h2 : n < 10000 * d) : 1000 ≤ (endRnd n d t).d ∧ (endRnd n d t).d ≤ 9999 ∧ t ≤ (endRnd n d t).t ∧ (endRnd n d t).t ≤ t + 1 := by
  have hq1 : 1000 ≤ (2 * n + d) / (2 * d) := Int.le_ediv_of_mul_le (by omega) (by omega)
  have hq2 : (2 * n + d) / (2 * d) < 10001 := Int.ediv_lt_of_lt_mul (by omega) (by omega)
  unfold endRnd
  split
  · simp only; omega
  · simp only; omega
theorem rndF_d {n d t : Int} (hn : 1 ≤ n) (hd : 1 ≤ d) : 1000 ≤ (rndF n d t).d ∧ (rndF n d t).d ≤ 9999 := by
  unfold rndF
  by_cases h : n < 1000 * d
  · have hb := upLoop_bd d n (t + 3) hn h
    rw [dnLoop_end (n := (upLoop d n (t + 3)).1) (by omega)]
    have := endRnd_bd (t := (upLoop d n (t + 3)).2) hd hb.1 hb.2.1
    exact ⟨this.1, this.2.1⟩
  · rw [upLoop_end h]
    simp only
    by_cases h2 : 10000 * d ≤ n
    · have hb := dnLoop_bd n d (t + 3) hd h2
      have := endRnd_bd (t := (dnLoop n d (t + 3)).2) (by omega) hb.1 hb.2.1
      exact ⟨this.1, this.2.1⟩
    · rw [dnLoop_end h2]
      have := endRnd_bd (t := t + 3) hd (by omega) (show n < 10000 * d by omega)
      exact ⟨this.1, this.2.1⟩

/-- A figure, if it is one, and the code. -/
def limF (f : Fig) : Fig := if isFig f then f else ⟨0, 0⟩
def codeLim (f : Fig) : Int := if isFig f then 0 else 3
def mulF (a b : Fig) : Fig := rndF (a.d * b.d) 1 (a.t + b.t - 6)
def divF (a b : Fig) : Fig := rndF a.d b.d (a.t - b.t)
def mulR (a b : Fig) : Fig := if isFig a && isFig b then limF (mulF a b) else ⟨0, 0⟩
def mulC (a b : Fig) : Int := if isFig a && isFig b then codeLim (mulF a b) else 1
def divR (a b : Fig) : Fig := if isFig a && isFig b then limF (divF a b) else ⟨0, 0⟩
def divC (a b : Fig) : Int := if isFig a && isFig b then codeLim (divF a b) else 1
/-- A figure, rounded to one digit. -/
def cutF (a : Fig) : Fig := if (2 * a.d + 1000) / 2000 * 1000 = 10000 then ⟨1000, a.t + 1⟩ else ⟨(2 * a.d + 1000) / 2000 * 1000, a.t⟩
def cutR (a : Fig) : Fig := if isFig a then limF (cutF a) else ⟨0, 0⟩
def cutC (a : Fig) : Int := if isFig a then codeLim (cutF a) else 1

theorem codeLim_cases (f : Fig) : (isFig f = true ∧ codeLim f = 0 ∧ limF f = f) ∨ (isFig f = false ∧ codeLim f = 3 ∧ limF f = ⟨0, 0⟩) := by
  cases h : isFig f <;> simp [codeLim, limF, h]
theorem isFig_00 : isFig ⟨0, 0⟩ = false := by decide
/-- What one step of a chain gives: the figure and the code. -/
def opR (dv : Bool) (a b : Fig) : Fig := if dv then divR a b else mulR a b
def opC (dv : Bool) (a b : Fig) : Int := if dv then divC a b else mulC a b
theorem op_cases (dv : Bool) {a b : Fig} (ha : isFig a = true) (hb : isFig b = true) : (opC dv a b = 0 ∧ isFig (opR dv a b) = true) ∨ (opC dv a b = 3 ∧ opR dv a b = ⟨0, 0⟩) := by
  cases dv
  · have hm := codeLim_cases (mulF a b)
    simp only [opC, opR, mulC, mulR, ha, hb, Bool.and_self, if_true, Bool.false_eq_true, if_false]
    rcases hm with ⟨h1, h2, h3⟩ | ⟨h1, h2, h3⟩
    · exact .inl ⟨h2, by rw [h3]; exact h1⟩
    · exact .inr ⟨h2, h3⟩
  · have hm := codeLim_cases (divF a b)
    simp only [opC, opR, divC, divR, ha, hb, Bool.and_self, if_true]
    rcases hm with ⟨h1, h2, h3⟩ | ⟨h1, h2, h3⟩
    · exact .inl ⟨h2, by rw [h3]; exact h1⟩
    · exact .inr ⟨h2, h3⟩
theorem cut_cases {a : Fig} (ha : isFig a = true) : (cutC a = 0 ∧ isFig (cutR a) = true) ∨ (cutC a = 3 ∧ cutR a = ⟨0, 0⟩) := by
  have hm := codeLim_cases (cutF a)
  simp only [cutC, cutR, ha, if_true]
  rcases hm with ⟨h1, h2, h3⟩ | ⟨h1, h2, h3⟩
  · exact .inl ⟨h2, by rw [h3]; exact h1⟩
  · exact .inr ⟨h2, h3⟩

/-- The figure of a chain: what comes in, then the terms. None: the limit is met. -/
def figFold : Fig → List Trm → Option Fig
  | a, [] => some a
  | a, t :: l => if opC t.dv a t.f = 0 then figFold (opR t.dv a t.f) l else none
theorem figFold_go {a : Fig} {t : Trm} {l : List Trm} (h : opC t.dv a t.f = 0) : figFold a (t :: l) = figFold (opR t.dv a t.f) l := if_pos h
theorem figFold_stop {a : Fig} {t : Trm} {l : List Trm} (h : opC t.dv a t.f = 3) : figFold a (t :: l) = none := if_neg (by omega)
theorem figFold_ok : ∀ (l : List Trm) (a b : Fig), isFig a = true → (∀ t ∈ l, okTrm t = true) → figFold a l = some b → isFig b = true
  | [], a, b, ha, _, h => by simp [figFold] at h; subst h; exact ha
  | t :: l, a, b, ha, hl, h => by
    rcases op_cases t.dv ha (show isFig t.f = true from hl t (by simp)) with ⟨h1, h2⟩ | ⟨h1, h2⟩
    · rw [figFold_go h1] at h
      exact figFold_ok l _ b h2 (fun x hx => hl x (by simp [hx])) h
    · rw [figFold_stop h1] at h
      cases h
def optF : Option Fig → Fig
  | some f => f
  | none => ⟨0, 0⟩
def optC : Option Fig → Int
  | some _ => 0
  | none => 3
def headF : List Trm → Fig
  | [] => ⟨0, 0⟩
  | t :: _ => t.f
def chainFig0 (l : List Trm) : Option Fig := figFold (headF l) (l.drop 1)
def chainFig (l : List Trm) : Fig := if isChain l then optF (chainFig0 l) else ⟨0, 0⟩
def chainFigC (l : List Trm) : Int := if isChain l then optC (chainFig0 l) else 1
theorem drop_get {α : Type} {l : List α} {k : Nat} {x : α} (h : l[k]? = some x) : l.drop k = x :: l.drop (k + 1) := by
  have hk := (List.getElem?_eq_some_iff.1 h)
  obtain ⟨h1, h2⟩ := hk
  rw [List.drop_eq_getElem_cons h1, h2]

/-- The rough figure of a chain. -/
def roughFold : Fig → List Trm → Option Fig
  | a, [] => some a
  | a, t :: l => if cutC t.f = 0 then (if opC t.dv a (cutR t.f) = 0 then (if cutC (opR t.dv a (cutR t.f)) = 0 then roughFold (cutR (opR t.dv a (cutR t.f))) l else none) else none) else none
theorem roughFold_go {a : Fig} {t : Trm} {l : List Trm} (h1 : cutC t.f = 0) (h2 : opC t.dv a (cutR t.f) = 0) (h3 : cutC (opR t.dv a (cutR t.f)) = 0) : roughFold a (t :: l) = roughFold (cutR (opR t.dv a (cutR t.f))) l := by
  rw [roughFold, if_pos h1, if_pos h2, if_pos h3]
theorem roughFold_1 {a : Fig} {t : Trm} {l : List Trm} (h1 : cutC t.f = 3) : roughFold a (t :: l) = none := by rw [roughFold, if_neg (by omega)]
theorem roughFold_2 {a : Fig} {t : Trm} {l : List Trm} (h1 : cutC t.f = 0) (h2 : opC t.dv a (cutR t.f) = 3) : roughFold a (t :: l) = none := by rw [roughFold, if_pos h1, if_neg (by omega)]
theorem roughFold_3 {a : Fig} {t : Trm} {l : List Trm} (h1 : cutC t.f = 0) (h2 : opC t.dv a (cutR t.f) = 0) (h3 : cutC (opR t.dv a (cutR t.f)) = 3) : roughFold a (t :: l) = none := by rw [roughFold, if_pos h1, if_pos h2, if_neg (by omega)]
def rough0 (l : List Trm) : Option Fig := if cutC (headF l) = 0 then roughFold (cutR (headF l)) (l.drop 1) else none
def roughChain (l : List Trm) : Fig := if isChain l then optF (rough0 l) else ⟨0, 0⟩
def roughC (l : List Trm) : Int := if isChain l then optC (rough0 l) else 1
/-- What is rounded to one digit stays so. -/
theorem cut_idem {a : Fig} (ha : isFig a = true) (h : cutC a = 0) : cutC (cutR a) = 0 ∧ cutR (cutR a) = cutR a := by
  have hb := isFig_true ha
  have hm := codeLim_cases (cutF a)
  have e1 : cutR a = limF (cutF a) := by simp [cutR, ha]
  have e2 : cutC a = codeLim (cutF a) := by simp [cutC, ha]
  rw [e2] at h
  rw [e1]
  rcases hm with ⟨h1, h2, h3⟩ | ⟨h1, h2, h3⟩
  · rw [h3]
    have hf : cutF (cutF a) = cutF a := by
      have hq1 : 1 ≤ (2 * a.d + 1000) / 2000 := by omega
      have hq2 : (2 * a.d + 1000) / 2000 ≤ 10 := by omega
      unfold cutF
      generalize hq : (2 * a.d + 1000) / 2000 = q at *
      by_cases h10 : q * 1000 = 10000
      · simp only [h10, if_true]
        rfl
      · simp only [h10, if_false]
        have e : (2 * (q * 1000) + 1000) / 2000 = q := by omega
        rw [e, if_neg h10]
    have e3 : codeLim (cutF a) = 0 := h2
    simp [cutC, cutR, h1, hf, e3, h3]
  · omega

/-- The figure with some digits whose logarithm is nearest. -/
def gapOf (g : Int) (a : Itv) : Int := a.lo + a.hi - (figLog ⟨g, 0⟩).lo - (figLog ⟨g, 0⟩).hi
def placeT (x : Int) : Int := if 1048576 < x - 2097152 * (x / 2097152) then x / 2097152 + 1 else x / 2097152
def placeF (g : Int) (a : Itv) : Fig := ⟨g, placeT (gapOf g a)⟩
theorem placeT_bd (x : Int) : x / 2097152 ≤ placeT x ∧ placeT x ≤ x / 2097152 + 1 := by
  unfold placeT
  split <;> omega
def codePlace (l : List Trm) (g : Int) : Int := if isChain l then (if inR g 1000 9999 then codeLim (placeF g (chainLog0 l)) else 2) else 1
def placeDigits (l : List Trm) (g : Int) : Fig := if isChain l then (if inR g 1000 9999 then limF (placeF g (chainLog0 l)) else ⟨0, 0⟩) else ⟨0, 0⟩

/-- The tens of a chain, and the carry. -/
def tensI (a : Itv) : Itv := ⟨a.lo / 1048576, a.hi / 1048576⟩
def tensOf (l : List Trm) : Itv := if isChain l then tensI (chainLog0 l) else ⟨0, 0⟩
def carryOf (l : List Trm) : Itv := if isChain l then ⟨(chainLog0 l).lo / 1048576 - sumTens l, (chainLog0 l).hi / 1048576 - sumTens l⟩ else ⟨0, 0⟩
theorem sumTens_bdk (l : List Trm) (h : ∀ t ∈ l, okTrm t = true) : ∀ k : Nat, k ≤ l.length → -30 * (k : Int) ≤ sumTens (l.take k) ∧ sumTens (l.take k) ≤ 30 * k
  | 0, _ => by simp [sumTens]
  | k + 1, hk => by
    have ih := sumTens_bdk l h k (by omega)
    obtain ⟨t, ht⟩ := get_ex (l := l) (k := k) (by omega)
    obtain ⟨t1, t2, t3, t4⟩ := okTrm_bd (h t (List.mem_of_getElem? ht))
    rw [take_snoc' ht, sumTens_snoc]
    cases hq : t.dv
    · rw [tensStep_n hq]; omega
    · rw [tensStep_y hq]; omega
theorem sumTens_bd {l : List Trm} (h : isChain l = true) : -180 ≤ sumTens l ∧ sumTens l ≤ 180 := by
  have hc := isChain_true h
  have := sumTens_bdk l hc.2.2.2 l.length (Nat.le_refl _)
  rw [take_eq_all (Nat.le_refl _)] at this
  omega

/-- The tens of the parts of a chain. -/
def partL (l : List Trm) : Nat → Option (List Int)
  | 0 => some []
  | k + 1 => match partL l k with
    | some r => if chainFigC (l.take (k + 1)) = 0 then some (r ++ [(chainFig (l.take (k + 1))).t]) else none
    | none => none
theorem partL_none {l : List Trm} {k : Nat} (h : partL l k = none) : ∀ j, k ≤ j → partL l j = none := by
  intro j hj
  obtain ⟨m, rfl⟩ : ∃ m, j = k + m := ⟨j - k, by omega⟩
  clear hj
  induction m with
  | zero => exact h
  | succ m ih => rw [← Nat.add_assoc, partL, ih]
theorem partL_len {l : List Trm} : ∀ {k : Nat} {r : List Int}, partL l k = some r → r.length = k
  | 0, r, h => by simp [partL] at h; subst h; rfl
  | k + 1, r, h => by
    rw [partL] at h
    cases hp : partL l k with
    | none => rw [hp] at h; simp at h
    | some q =>
      rw [hp] at h
      have hl := partL_len hp
      simp only at h
      split at h
      · simp at h
        subst h
        simp [hl]
      · cases h
def partialTens (l : List Trm) : List Int := if isChain l then ((partL l l.length).getD []) else []
def codePartial (l : List Trm) : Int := if isChain l then (match partL l l.length with | some _ => 0 | none => 3) else 1
theorem take_isChain {l : List Trm} (h : isChain l = true) {k : Nat} (hk : k < l.length) : isChain (l.take (k + 1)) = true := by
  have hc := isChain_true h
  have hl : (l.take (k + 1)).length = k + 1 := by rw [List.length_take, Nat.min_eq_left hk]
  have h1 : headDv (l.take (k + 1)) = false := by
    have := hc.2.2.1
    cases l with
    | nil => simp at hk
    | cons x l => exact this
  simp only [isChain, Bool.and_eq_true, List.all_eq_true, Bool.not_eq_true']
  refine ⟨fun t ht => hc.2.2.2 t (List.mem_of_mem_take ht), inR_mk (by rw [hl]; omega), h1⟩

theorem ordScale_bd (s : Int) : -1 ≤ ordScale s ∧ ordScale s ≤ 3 := by
  rcases ordScale_cases s with ⟨_, h⟩ | ⟨_, h⟩ | ⟨_, h⟩ | ⟨_, h⟩ | ⟨_, _, _, _, h⟩ <;> rw [h] <;> omega
/-- The numerator and the denominator of the exponent of a transfer. -/
def expN (a b : Int) : Int := if ordScale a < 0 then -ordScale b else ordScale b
def expD (a b : Int) : Int := if ordScale a < 0 then -ordScale a else ordScale a
theorem exp_bd {a b : Int} (h : ordScale a ≠ 0) : -3 ≤ expN a b ∧ expN a b ≤ 3 ∧ 1 ≤ expD a b ∧ expD a b ≤ 3 := by
  have h1 := ordScale_bd a
  have h2 := ordScale_bd b
  unfold expN expD
  split <;> omega
/-- Both scales have an order. -/
def ordOk2 (a b : Int) : Bool := !(ordScale a == 0 || ordScale b == 0)
theorem ordOk2_true {a b : Int} (h : ordOk2 a b = true) : ordScale a ≠ 0 ∧ ordScale b ≠ 0 := by simpa [ordOk2] using h
def codeExact (a b : Int) (f : Fig) : Int := if isFig f then (if ordOk2 a b then 0 else 2) else 1
def expI (a b : Int) (f : Fig) : Itv := scaleI (figLog f) (expN a b) (expD a b)
def transF (a b : Int) (f r : Fig) : Fig := if isFig f && isFig r then (if ordOk2 a b then limF (placeF r.d (expI a b f)) else ⟨0, 0⟩) else ⟨0, 0⟩
def transC (a b : Int) (f r : Fig) : Int := if isFig f && isFig r then (if ordOk2 a b then codeLim (placeF r.d (expI a b f)) else 2) else 1

theorem cdiv_bd {x d M : Int} (hd : 1 ≤ d) (h1 : -M ≤ x) (h2 : x ≤ M) (hM : 0 ≤ M) : -M ≤ cdiv x d ∧ cdiv x d ≤ M := by
  have k1 : -M ≤ (-x) / d := Int.le_ediv_of_mul_le (by omega) (by
    have := Int.mul_le_mul_of_nonneg_left hd hM
    rw [Int.neg_mul]
    omega)
  have k2 : (-x) / d ≤ M := by
    have h := Int.ediv_lt_of_lt_mul (a := -x) (b := M + 1) (c := d) (by omega) (by
      have := Int.mul_le_mul_of_nonneg_left hd (show 0 ≤ M + 1 by omega)
      omega)
    omega
  unfold cdiv
  omega
theorem fdiv_bd {x d M : Int} (hd : 1 ≤ d) (h1 : -M ≤ x) (h2 : x ≤ M) (hM : 0 ≤ M) : -M ≤ x / d ∧ x / d ≤ M := by
  have := cdiv_bd (x := -x) hd (by omega) (by omega) hM
  unfold cdiv at this
  rw [Int.neg_neg] at this
  omega
theorem scaleI_bd {a : Itv} {n d A B : Int} (h1 : -A ≤ a.lo) (h2 : a.lo ≤ A) (h3 : -A ≤ a.hi) (h4 : a.hi ≤ A) (h5 : -B ≤ n) (h6 : n ≤ B) (hA : 0 ≤ A) (hB : 0 ≤ B) (hd : 1 ≤ d) :
    -(A * B) ≤ (scaleI a n d).lo ∧ (scaleI a n d).lo ≤ A * B ∧ -(A * B) ≤ (scaleI a n d).hi ∧ (scaleI a n d).hi ≤ A * B := by
  have m1 := mul_bd h1 h2 h5 h6 hA
  have m2 := mul_bd h3 h4 h5 h6 hA
  have hAB : 0 ≤ A * B := Int.mul_nonneg hA hB
  have k1 := fdiv_bd (x := min (a.lo * n) (a.hi * n)) hd (by omega) (by omega) hAB
  have k2 := cdiv_bd (x := max (a.lo * n) (a.hi * n)) hd (by omega) (by omega) hAB
  exact ⟨k1.1, k1.2, k2.1, k2.2⟩
theorem expI_bd {a b : Int} {f : Fig} (hf : isFig f = true) (h : ordScale a ≠ 0) : -99000000 ≤ (expI a b f).lo ∧ (expI a b f).lo ≤ 99000000 ∧ -99000000 ≤ (expI a b f).hi ∧ (expI a b f).hi ≤ 99000000 := by
  have e := exp_bd (b := b) h
  have hb := isFig_true hf
  have l := figLog_bd2 hb.1 hb.2.1 hb.2.2.1 hb.2.2.2
  have := scaleI_bd (a := figLog f) (n := expN a b) (d := expD a b) (A := 33000000) (B := 3) (by omega) (by omega) (by omega) (by omega) (by omega) (by omega) (by omega) (by omega) (by omega)
  exact this
theorem gapOf_log (g : Int) (a : Itv) : gapOf g a = a.lo + a.hi - (logOf (g * 100000)).lo - (logOf (g * 100000)).hi := by
  simp [gapOf, figLog]

theorem le2_ll {s t : Int × Int} (hs : 0 ≤ s.1) (h : le2 s t) : le2 (lowStep s) (lowStep t) := by
  obtain ⟨x, a⟩ := s
  obtain ⟨y, b⟩ := t
  simp only [le2] at h hs
  have hl : (lowStep (x, a)).2 = a * 2 ∨ (lowStep (x, a)).2 = a * 2 + 1 := by
    by_cases hq : 1000000000 ≤ x * x / 100000000
    · rw [lowStep_pos (s := (x, a)) hq]; exact .inr rfl
    · rw [lowStep_neg (s := (x, a)) hq]; exact .inl rfl
  have hh : (lowStep (y, b)).2 = b * 2 ∨ (lowStep (y, b)).2 = b * 2 + 1 := by
    by_cases hq : 1000000000 ≤ y * y / 100000000
    · rw [lowStep_pos (s := (y, b)) hq]; exact .inr rfl
    · rw [lowStep_neg (s := (y, b)) hq]; exact .inl rfl
  rcases h with h | ⟨h1, h2⟩
  · exact .inl (by omega)
  · subst h1
    have hm := mul_self_le hs h2
    by_cases hq : 1000000000 ≤ x * x / 100000000 <;> by_cases hr : 1000000000 ≤ y * y / 100000000
    · rw [lowStep_pos (s := (x, a)) hq, lowStep_pos (s := (y, a)) hr]; refine Or.inr ⟨rfl, ?_⟩; simp only; omega
    · omega
    · rw [lowStep_neg (s := (x, a)) hq, lowStep_pos (s := (y, a)) hr]; simp only [le2]; omega
    · rw [lowStep_neg (s := (x, a)) hq, lowStep_neg (s := (y, a)) hr]; refine Or.inr ⟨rfl, ?_⟩; simp only; omega
theorem le2_hh {s t : Int × Int} (hs : 0 ≤ s.1) (h : le2 s t) : le2 (highStep s) (highStep t) := by
  obtain ⟨x, a⟩ := s
  obtain ⟨y, b⟩ := t
  simp only [le2] at h hs
  have hl : (highStep (x, a)).2 = a * 2 ∨ (highStep (x, a)).2 = a * 2 + 1 := by
    by_cases hq : 1000000000 ≤ cdiv (x * x) 100000000
    · rw [highStep_pos (s := (x, a)) hq]; exact .inr rfl
    · rw [highStep_neg (s := (x, a)) hq]; exact .inl rfl
  have hh : (highStep (y, b)).2 = b * 2 ∨ (highStep (y, b)).2 = b * 2 + 1 := by
    by_cases hq : 1000000000 ≤ cdiv (y * y) 100000000
    · rw [highStep_pos (s := (y, b)) hq]; exact .inr rfl
    · rw [highStep_neg (s := (y, b)) hq]; exact .inl rfl
  rcases h with h | ⟨h1, h2⟩
  · exact .inl (by omega)
  · subst h1
    have hm := mul_self_le hs h2
    by_cases hq : 1000000000 ≤ cdiv (x * x) 100000000 <;> by_cases hr : 1000000000 ≤ cdiv (y * y) 100000000
    · rw [highStep_pos (s := (x, a)) hq, highStep_pos (s := (y, a)) hr]; refine Or.inr ⟨rfl, ?_⟩; simp only [cdiv] at hq hr ⊢; omega
    · simp only [cdiv] at hq hr; omega
    · rw [highStep_neg (s := (x, a)) hq, highStep_pos (s := (y, a)) hr]; simp only [le2]; omega
    · rw [highStep_neg (s := (x, a)) hq, highStep_neg (s := (y, a)) hr]; refine Or.inr ⟨rfl, ?_⟩; simp only [cdiv] at hq hr ⊢; omega
theorem lowS_mono {x y : Int} (h1 : 100000000 ≤ x) (h2 : x ≤ y) (h3 : y ≤ 999999999) : ∀ n, le2 (lowS x n) (lowS y n)
  | 0 => .inr ⟨rfl, h2⟩
  | n + 1 => le2_ll (by have := (lowS_bd h1 (by omega) n).1; omega) (lowS_mono h1 h2 h3 n)
theorem highS_mono {x y : Int} (h1 : 100000000 ≤ x) (h2 : x ≤ y) (h3 : y ≤ 999999999) : ∀ n, le2 (highS x n) (highS y n)
  | 0 => .inr ⟨rfl, h2⟩
  | n + 1 => le2_hh (by have := (highS_bd h1 (by omega) n).1; omega) (highS_mono h1 h2 h3 n)
theorem logOf_mono {x y : Int} (h1 : 100000000 ≤ x) (h2 : x ≤ y) (h3 : y ≤ 999999999) : (logOf x).lo ≤ (logOf y).lo ∧ (logOf x).hi ≤ (logOf y).hi := by
  have a := lowS_mono h1 h2 h3 20
  have b := highS_mono h1 h2 h3 20
  simp only [logOf, le2] at a b ⊢
  omega
theorem low_one : ∀ n, lowS 100000000 n = (100000000, 0)
  | 0 => rfl
  | n + 1 => by rw [lowS, low_one n]; decide
theorem high_one : ∀ n, highS 100000000 n = (100000000, 0)
  | 0 => rfl
  | n + 1 => by rw [highS, high_one n]; decide
theorem logOf_one : logOf 100000000 = ⟨0, 1⟩ := by simp [logOf, low_one, high_one]

/-- The figure with a number. -/
def atF (n : Int) : Fig := ⟨1000 + n % 9000, n / 9000⟩
theorem atF_of {i t : Int} (h1 : 0 ≤ i) (h2 : i < 9000) : atF (9000 * t + i) = ⟨1000 + i, t⟩ := by
  have e1 : (9000 * t + i) % 9000 = i := by omega
  have e2 : (9000 * t + i) / 9000 = t := by omega
  rw [atF, e1, e2]
theorem figLog_at (n : Int) : figLog (atF n) = ⟨(logOf ((1000 + n % 9000) * 100000)).lo + n / 9000 * 1048576, (logOf ((1000 + n % 9000) * 100000)).hi + n / 9000 * 1048576⟩ := rfl
theorem at_mono {n m : Int} (h : n ≤ m) : (figLog (atF n)).lo ≤ (figLog (atF m)).lo ∧ (figLog (atF n)).hi ≤ (figLog (atF m)).hi := by
  rw [figLog_at, figLog_at]
  simp only
  have b1 := logOf_bd (x := (1000 + n % 9000) * 100000) (by omega) (by omega)
  have b2 := logOf_bd (x := (1000 + m % 9000) * 100000) (by omega) (by omega)
  by_cases hd : n / 9000 = m / 9000
  · have := logOf_mono (x := (1000 + n % 9000) * 100000) (y := (1000 + m % 9000) * 100000) (by omega) (by omega) (by omega)
    rw [hd]
    omega
  · omega

/-- The first number for which something holds, up to a greatest one. -/
def firstFrom (p : Int → Bool) : Nat → Int → Int
  | 0, n => n
  | f + 1, n => if p n then n else firstFrom p f (n + 1)
def IsFirst (p : Int → Bool) (r : Int) : Prop := -270000 ≤ r ∧ r ≤ 279000 ∧ (r = 279000 ∨ p r = true) ∧ (r = -270000 ∨ p (r - 1) = false)
theorem firstFrom_is (p : Int → Bool) : ∀ (f : Nat) (n : Int), -270000 ≤ n → n + f = 279000 → (n = -270000 ∨ p (n - 1) = false) → IsFirst p (firstFrom p f n)
  | 0, n, h1, h2, h3 => ⟨h1, by simp [firstFrom]; omega, .inl (by simp [firstFrom]; omega), h3⟩
  | f + 1, n, h1, h2, h3 => by
    rw [firstFrom]
    by_cases hp : p n = true
    · rw [if_pos hp]
      exact ⟨h1, by omega, .inr hp, h3⟩
    · rw [if_neg hp]
      exact firstFrom_is p f (n + 1) (by omega) (by omega) (.inr (by rw [Int.add_sub_cancel]; simpa using hp))
def firstN (p : Int → Bool) : Int := firstFrom p 549000 (-270000)
theorem firstN_is (p : Int → Bool) : IsFirst p (firstN p) := firstFrom_is p 549000 (-270000) (by omega) (by omega) (.inl rfl)
theorem first_unique {p : Int → Bool} (hm : ∀ a b, a ≤ b → p a = true → p b = true) {r s : Int} (hr : IsFirst p r) (hs : IsFirst p s) : r = s := by
  obtain ⟨r1, r2, r3, r4⟩ := hr
  obtain ⟨s1, s2, s3, s4⟩ := hs
  rcases Int.lt_trichotomy r s with h | h | h
  · exfalso
    have hp : p r = true := by rcases r3 with e | e; · omega
                               · exact e
    have hq := hm r (s - 1) (by omega) hp
    rcases s4 with e | e
    · omega
    · rw [hq] at e; cases e
  · exact h
  · exfalso
    have hp : p s = true := by rcases s3 with e | e; · omega
                               · exact e
    have hq := hm s (r - 1) (by omega) hp
    rcases r4 with e | e
    · omega
    · rw [hq] at e; cases e

def pHigh (u : Int) (n : Int) : Bool := decide (u < (figLog (atF n)).hi)
def pLow (u : Int) (n : Int) : Bool := decide (u ≤ (figLog (atF n)).lo)
theorem pHigh_mono (u : Int) : ∀ a b, a ≤ b → pHigh u a = true → pHigh u b = true := by
  intro a b h hp
  have := (at_mono h).2
  simp only [pHigh, decide_eq_true_eq] at hp ⊢
  omega
theorem pLow_mono (u : Int) : ∀ a b, a ≤ b → pLow u a = true → pLow u b = true := by
  intro a b h hp
  have := (at_mono h).1
  simp only [pLow, decide_eq_true_eq] at hp ⊢
  omega
/-- The number of the figure above, and of that below and one. -/
def nBelow (u : Int) : Int := firstN (pHigh u)
def nAbove (u : Int) : Int := firstN (pLow u)
def belowF (u : Int) : Fig := atF (nBelow u - 1)
def aboveF (u : Int) : Fig := atF (nAbove u)
theorem nBelow_bd (u : Int) : -270000 ≤ nBelow u ∧ nBelow u ≤ 279000 := ⟨(firstN_is _).1, (firstN_is _).2.1⟩
theorem nAbove_bd (u : Int) : -270000 ≤ nAbove u ∧ nAbove u ≤ 279000 := ⟨(firstN_is _).1, (firstN_is _).2.1⟩
def isUnits (u : Int) : Bool := inR u (-31457280) 31457280

theorem hi_head (t : Int) : (figLog (atF (9000 * t))).hi = t * 1048576 + 1 := by
  have := atF_of (i := 0) (t := t) (by omega) (by omega)
  rw [Int.add_zero] at this
  rw [this]
  have e : (logOf ((1000 + 0) * 100000)) = ⟨0, 1⟩ := logOf_one
  simp only [figLog, e]
  omega
theorem lo_head (t : Int) : (figLog (atF (9000 * t))).lo = t * 1048576 := by
  have := atF_of (i := 0) (t := t) (by omega) (by omega)
  rw [Int.add_zero] at this
  rw [this]
  have e : (logOf ((1000 + 0) * 100000)) = ⟨0, 1⟩ := logOf_one
  simp only [figLog, e]
  omega
theorem lo_last (t : Int) : (figLog (atF (9000 * t - 1))).lo ≤ t * 1048576 - 1 := by
  have := atF_of (i := 8999) (t := t - 1) (by omega) (by omega)
  rw [show 9000 * t - 1 = 9000 * (t - 1) + 8999 from by omega, this]
  have := figLog_bd (f := ⟨1000 + 8999, t - 1⟩) (by simp) (by simp)
  simp only at this
  omega

/-- The program's search below: the first digits of a power of ten. -/
theorem below_of {u i : Int} (hu : isUnits u = true) (ht : -30 ≤ (u - 1) / 1048576) (h1 : 0 ≤ i) (h2 : i ≤ 9000)
    (h3 : i = 9000 ∨ u < (figLog ⟨1000 + i, (u - 1) / 1048576⟩).hi) (h4 : i = 0 ∨ ¬ u < (figLog ⟨1000 + (i - 1), (u - 1) / 1048576⟩).hi) :
    belowF u = ⟨999 + i, (u - 1) / 1048576⟩ ∧ 1 ≤ i := by
  have hb := inR_true hu
  obtain ⟨t, ht2⟩ : ∃ t, (u - 1) / 1048576 = t := ⟨_, rfl⟩
  rw [ht2] at h3 h4 ht ⊢
  have hi1 : 1 ≤ i := by
    rcases Int.lt_or_le 0 i with h | h
    · omega
    · have hi0 : i = 0 := by omega
      subst hi0
      rcases h3 with h3 | h3
      · omega
      · have := hi_head t
        rw [show 9000 * t = 9000 * t + 0 from by omega, atF_of (by omega) (by omega)] at this
        rw [this] at h3
        omega
  have hfirst : IsFirst (pHigh u) (9000 * t + i) := by
    refine ⟨by omega, by omega, ?_, ?_⟩
    · right
      simp only [pHigh, decide_eq_true_eq]
      rcases h3 with h3 | h3
      · subst h3
        rw [show 9000 * t + 9000 = 9000 * (t + 1) from by omega, hi_head]
        omega
      · by_cases h9 : i = 9000
        · subst h9
          rw [show 9000 * t + 9000 = 9000 * (t + 1) from by omega, hi_head]
          omega
        · rw [atF_of h1 (by omega)]
          exact h3
    · right
      simp only [pHigh, decide_eq_false_iff_not]
      rw [show 9000 * t + i - 1 = 9000 * t + (i - 1) from by omega, atF_of (by omega) (by omega)]
      rcases h4 with h4 | h4
      · omega
      · exact h4
  have e := first_unique (pHigh_mono u) (firstN_is (pHigh u)) hfirst
  refine ⟨?_, hi1⟩
  rw [belowF, nBelow, e, show 9000 * t + i - 1 = 9000 * t + (i - 1) from by omega, atF_of (by omega) (by omega)]
  simp only [Fig.mk.injEq, and_true]
  omega
theorem below_isFig {u i : Int} (hu : isUnits u = true) (ht : -30 ≤ (u - 1) / 1048576) (h1 : 1 ≤ i) (h2 : i ≤ 9000) : isFig ⟨999 + i, (u - 1) / 1048576⟩ = true := by
  have hb := inR_true hu
  simp only [isFig, Bool.and_eq_true]
  exact ⟨inR_mk (by omega), inR_mk (by omega)⟩
theorem below_none {u : Int} (hu : isUnits u = true) (ht : (u - 1) / 1048576 < -30) : isFig (belowF u) = false := by
  have hb := inR_true hu
  have hu2 : u = -31457280 := by omega
  have hfirst : IsFirst (pHigh u) (-270000) := by
    refine ⟨by omega, by omega, .inr ?_, .inl rfl⟩
    simp only [pHigh, decide_eq_true_eq]
    rw [show (-270000 : Int) = 9000 * -30 from rfl, hi_head]
    omega
  have e := first_unique (pHigh_mono u) (firstN_is (pHigh u)) hfirst
  rw [belowF, nBelow, e]
  decide
/-- The program's search above. -/
theorem above_of {u i : Int} (hu : isUnits u = true) (h1 : 0 ≤ i) (h2 : i ≤ 9000)
    (h3 : i = 9000 ∨ u ≤ (figLog ⟨1000 + i, u / 1048576⟩).lo) (h4 : i = 0 ∨ ¬ u ≤ (figLog ⟨1000 + (i - 1), u / 1048576⟩).lo) :
    aboveF u = if i = 9000 then ⟨1000, u / 1048576 + 1⟩ else ⟨1000 + i, u / 1048576⟩ := by
  have hb := inR_true hu
  obtain ⟨t, ht2⟩ : ∃ t, u / 1048576 = t := ⟨_, rfl⟩
  rw [ht2] at h3 h4 ⊢
  have hfirst : IsFirst (pLow u) (9000 * t + i) := by
    refine ⟨by omega, by omega, ?_, ?_⟩
    · right
      simp only [pLow, decide_eq_true_eq]
      by_cases h9 : i = 9000
      · subst h9
        rw [show 9000 * t + 9000 = 9000 * (t + 1) from by omega, lo_head]
        omega
      · rw [atF_of h1 (by omega)]
        rcases h3 with h3 | h3
        · omega
        · exact h3
    · right
      simp only [pLow, decide_eq_false_iff_not]
      by_cases h0 : i = 0
      · subst h0
        have := lo_last t
        rw [Int.add_zero]
        omega
      · rw [show 9000 * t + i - 1 = 9000 * t + (i - 1) from by omega, atF_of (by omega) (by omega)]
        rcases h4 with h4 | h4
        · omega
        · exact h4
  have e := first_unique (pLow_mono u) (firstN_is (pLow u)) hfirst
  rw [aboveF, nAbove, e]
  by_cases h9 : i = 9000
  · rw [if_pos h9]
    subst h9
    rw [show 9000 * t + 9000 = 9000 * (t + 1) + 0 from by omega, atF_of (by omega) (by omega)]
    rfl
  · rw [if_neg h9, atF_of h1 (by omega)]

/-- The span of an interval: two figures and the code. -/
def spanC (a : Itv) : Int := if isUnits a.lo && isUnits a.hi then (if isFig (belowF a.lo) && isFig (aboveF a.hi) then 0 else 4) else 2
def spanL (a : Itv) : Fig := if spanC a = 0 then belowF a.lo else ⟨0, 0⟩
def spanH (a : Itv) : Fig := if spanC a = 0 then aboveF a.hi else ⟨0, 0⟩
def chainSpanC (l : List Trm) : Int := if isChain l then spanC (chainLog0 l) else 1
def chainSpanL (l : List Trm) : Fig := if isChain l then spanL (chainLog0 l) else ⟨0, 0⟩
def chainSpanH (l : List Trm) : Fig := if isChain l then spanH (chainLog0 l) else ⟨0, 0⟩

theorem scaleI_le {a : Itv} {n d : Int} (hd : 1 ≤ d) : (scaleI a n d).lo ≤ (scaleI a n d).hi := by
  have h1 : min (a.lo * n) (a.hi * n) ≤ max (a.lo * n) (a.hi * n) := by omega
  have h2 : min (a.lo * n) (a.hi * n) / d ≤ max (a.lo * n) (a.hi * n) / d := Int.ediv_le_ediv (by omega) h1
  have h3 : max (a.lo * n) (a.hi * n) / d ≤ cdiv (max (a.lo * n) (a.hi * n)) d := by
    obtain ⟨x, hx⟩ : ∃ x, max (a.lo * n) (a.hi * n) = x := ⟨_, rfl⟩
    rw [hx]
    unfold cdiv
    have e1 := Int.mul_ediv_add_emod x d
    have e2 := Int.emod_nonneg x (show d ≠ 0 by omega)
    have e3 := Int.mul_ediv_add_emod (-x) d
    have e4 := Int.emod_nonneg (-x) (show d ≠ 0 by omega)
    have e5 : d * (x / d) + d * ((-x) / d) ≤ 0 := by omega
    rw [← Int.mul_add] at e5
    have e6 : x / d + (-x) / d ≤ 0 := by
      rcases Int.lt_or_le 0 (x / d + (-x) / d) with h | h
      · have := Int.mul_pos (show 0 < d by omega) h
        omega
      · exact h
    omega
  exact Int.le_trans h2 h3
theorem powI_bd {f : Fig} {n d : Int} (hf : isFig f = true) (h1 : -12 ≤ n) (h2 : n ≤ 12) (h3 : 1 ≤ d) : -396000000 ≤ (scaleI (figLog f) n d).lo ∧ (scaleI (figLog f) n d).lo ≤ 396000000 ∧ -396000000 ≤ (scaleI (figLog f) n d).hi ∧ (scaleI (figLog f) n d).hi ≤ 396000000 := by
  have hb := isFig_true hf
  have l := figLog_bd2 hb.1 hb.2.1 hb.2.2.1 hb.2.2.2
  have := scaleI_bd (a := figLog f) (n := n) (d := d) (A := 33000000) (B := 12) (by omega) (by omega) (by omega) (by omega) (by omega) (by omega) (by omega) (by omega) h3
  exact this
/-- The span of what a transfer tells. -/
def txC (a b : Int) (f : Fig) : Int := if isFig f then (if ordOk2 a b then spanC (expI a b f) else 2) else 1
def txL (a b : Int) (f : Fig) : Fig := if isFig f then (if ordOk2 a b then spanL (expI a b f) else ⟨0, 0⟩) else ⟨0, 0⟩
def txH (a b : Int) (f : Fig) : Fig := if isFig f then (if ordOk2 a b then spanH (expI a b f) else ⟨0, 0⟩) else ⟨0, 0⟩

/-- A rule: its length, the scales of its parts. -/
structure Rul where
  len : Int
  st : List Int
  sl : List Int

def okSc (l : List Int) (i : Nat) : Bool := isScaleN (l.getD i 0) && !hasI (l.take i) (l.getD i 0)
def allSc (l : List Int) : Bool := (List.range l.length).all (okSc l)
def areSc (l : List Int) : Bool := allSc l && inR l.length 1 6
theorem okSc_get {l : List Int} {i : Nat} {x : Int} (hx : l[i]? = some x) : okSc l i = (isScaleN x && !hasI (l.take i) x) := by
  simp [okSc, List.getD, hx]
theorem areSc_false {l : List Int} {i : Nat} (hi : i < l.length) (h : okSc l i = false) : areSc l = false := by
  have : allSc l = false := by
    rw [Bool.eq_false_iff]
    intro ha
    rw [allSc, List.all_eq_true] at ha
    rw [ha i (List.mem_range.2 hi)] at h
    cases h
  rw [areSc, this, Bool.false_and]
theorem allSc_true {l : List Int} (h : ∀ i, i < l.length → okSc l i = true) : allSc l = true := by
  rw [allSc, List.all_eq_true]
  exact fun i hi => h i (List.mem_range.1 hi)
theorem areSc_len {l : List Int} (h : areSc l = true) : 1 ≤ l.length ∧ l.length ≤ 6 := by
  simp only [areSc, Bool.and_eq_true] at h
  have := inR_true h.2
  omega
/-- A scale that is on a part of a rule. -/
theorem areSc_has {l : List Int} (h : areSc l = true) {x : Int} (hx : hasI l x = true) : isScaleN x = true := by
  simp only [areSc, Bool.and_eq_true] at h
  rw [hasI_iff] at hx
  obtain ⟨i, hi, rfl⟩ := List.mem_iff_getElem.1 hx
  have ha := h.1
  rw [allSc, List.all_eq_true] at ha
  have := ha i (List.mem_range.2 hi)
  rw [okSc_get (List.getElem?_eq_getElem hi), Bool.and_eq_true] at this
  exact this.1
theorem isScaleN_bd {s : Int} (h : isScaleN s = true) : 0 ≤ s ∧ s ≤ 4 := by
  simp only [isScaleN, Bool.and_eq_true] at h
  have h1 := inR_true h.1
  have h2 : ¬ s = 5 := by simpa using h.2
  omega
def isRule (r : Rul) : Bool := inR r.len 1 100000 && areSc r.st && areSc r.sl
def isStg (s : Stg) : Bool := inR s.sh (-1048576) 1048576 && inR s.cu 0 1048576
theorem isStg_bd {s : Stg} (h : isStg s = true) : -1048576 ≤ s.sh ∧ s.sh ≤ 1048576 ∧ 0 ≤ s.cu ∧ s.cu ≤ 1048576 := by
  simp only [isStg, Bool.and_eq_true] at h
  have h1 := inR_true h.1
  have h2 := inR_true h.2
  omega
theorem isRule_and {r : Rul} (h : isRule r = true) : inR r.len 1 100000 = true ∧ areSc r.st = true ∧ areSc r.sl = true := by
  simp only [isRule, Bool.and_eq_true] at h
  exact ⟨h.1.1, h.1.2, h.2⟩
/-- The scales of a part. -/
def onR (r : Rul) (slide : Bool) : List Int := if slide then r.sl else r.st

/-- The position of a figure on a scale. -/
def lg (d : Int) : Itv := logOf (d * 100000)
def posI (s : Int) (f : Fig) : Itv :=
  if s = 5 then ⟨(f.d - 1000) * 1048576 / 9000, cdiv ((f.d - 1000) * 1048576) 9000⟩
  else if s = 1 then scaleI ⟨(lg f.d).lo + 1048576 * (f.t % 2), (lg f.d).hi + 1048576 * (f.t % 2)⟩ 1 2
  else if s = 2 then scaleI ⟨(lg f.d).lo + 1048576 * (f.t % 3), (lg f.d).hi + 1048576 * (f.t % 3)⟩ 1 3
  else if s = 3 then ⟨1048576 - (lg f.d).hi, 1048576 - (lg f.d).lo⟩
  else if s = 4 then (if (lg f.d).lo - (lg 3142).hi < 0 then ⟨(lg f.d).lo - (lg 3142).hi + 1048576, (lg f.d).hi - (lg 3142).lo + 1048576⟩ else ⟨(lg f.d).lo - (lg 3142).hi, (lg f.d).hi - (lg 3142).lo⟩)
  else lg f.d
theorem lg_bd {d : Int} (h1 : 1000 ≤ d) (h2 : d ≤ 9999) : 0 ≤ (lg d).lo ∧ (lg d).lo ≤ 1048575 ∧ 1 ≤ (lg d).hi ∧ (lg d).hi ≤ 1048576 := logOf_bd (by omega) (by omega)
theorem posI_bd {s : Int} {f : Fig} (h1 : 1000 ≤ f.d) (h2 : f.d ≤ 9999) : -10000000 ≤ (posI s f).lo ∧ (posI s f).lo ≤ 10000000 ∧ -10000000 ≤ (posI s f).hi ∧ (posI s f).hi ≤ 10000000 := by
  have hb := lg_bd h1 h2
  have hc := lg_bd (d := 3142) (by omega) (by omega)
  unfold posI
  by_cases h5 : s = 5
  · rw [if_pos h5]; simp only [cdiv]; omega
  rw [if_neg h5]
  by_cases h1 : s = 1
  · rw [if_pos h1]
    have := scaleI_bd (a := ⟨(lg f.d).lo + 1048576 * (f.t % 2), (lg f.d).hi + 1048576 * (f.t % 2)⟩) (n := 1) (d := 2) (A := 10000000) (B := 1) (by simp only; omega) (by simp only; omega) (by simp only; omega) (by simp only; omega) (by omega) (by omega) (by omega) (by omega) (by omega)
    exact this
  rw [if_neg h1]
  by_cases h2 : s = 2
  · rw [if_pos h2]
    have := scaleI_bd (a := ⟨(lg f.d).lo + 1048576 * (f.t % 3), (lg f.d).hi + 1048576 * (f.t % 3)⟩) (n := 1) (d := 3) (A := 10000000) (B := 1) (by simp only; omega) (by simp only; omega) (by simp only; omega) (by simp only; omega) (by omega) (by omega) (by omega) (by omega) (by omega)
    exact this
  rw [if_neg h2]
  by_cases h3 : s = 3
  · rw [if_pos h3]; simp only; omega
  rw [if_neg h3]
  by_cases h4 : s = 4
  · rw [if_pos h4]; split <;> simp only <;> omega
  rw [if_neg h4]
  omega
/-- The point of a figure on a scale. -/
def ptF (s : Int) (f : Fig) : Int := ((posI s f).lo + (posI s f).hi) / 2
theorem ptF_bd {s : Int} {f : Fig} (h1 : 1000 ≤ f.d) (h2 : f.d ≤ 9999) : -10000000 ≤ ptF s f ∧ ptF s f ≤ 10000000 := by
  have := posI_bd (s := s) h1 h2
  unfold ptF
  omega

/-- Whether the scale of a move is where it must be. -/
def mvOn (r : Rul) (m : Mov) : Bool := if m.k ≤ 2 then hasI (onR r (!(m.k == 0))) m.s else true
/-- What a move makes of a setting. -/
def mvTo (s : Stg) (m : Mov) : Stg :=
  if m.k = 0 then ⟨s.sh, ptF m.s m.f⟩ else if m.k = 1 then ⟨s.sh, ptF m.s m.f + s.sh⟩ else if m.k = 2 then ⟨s.cu - ptF m.s m.f, s.cu⟩
  else if m.k = 3 then ⟨s.cu, s.cu⟩ else if m.k = 4 then ⟨s.cu - 1048576, s.cu⟩ else if m.k = 5 then ⟨s.sh, s.sh⟩ else if m.k = 6 then ⟨s.sh, s.sh + 1048576⟩ else s
def mvS (r : Rul) (s : Stg) (m : Mov) : Stg := if mvOn r m then mvTo s m else ⟨0, 0⟩
def mvOk (r : Rul) (s : Stg) (m : Mov) : Bool := if mvOn r m then isStg (mvTo s m) else false
theorem isMove_cases {m : Mov} (h : isMove m = true) : (0 ≤ m.k ∧ m.k ≤ 2 ∧ isScaleN m.s = true ∧ isFig m.f = true) ∨ (3 ≤ m.k ∧ m.k ≤ 6 ∧ m.s = 0 ∧ m.f = ⟨0, 0⟩) := by
  unfold isMove at h
  by_cases hk : inR m.k 0 2 = true
  · rw [if_pos hk, Bool.and_eq_true] at h
    have := inR_true hk
    exact .inl ⟨this.1, this.2, h.1, h.2⟩
  · rw [if_neg hk] at h
    simp only [Bool.and_eq_true, beq_iff_eq] at h
    have := inR_true h.1
    obtain ⟨f1, f2⟩ := h.2.2
    obtain ⟨k, s, ⟨a, b⟩⟩ := m
    simp only at f1 f2
    exact .inr ⟨this.1, this.2, h.2.1, by simp only; rw [f1, f2]⟩

theorem mvOk_stg {r : Rul} {s : Stg} {m : Mov} (h : mvOk r s m = true) : isStg (mvS r s m) = true := by
  unfold mvOk at h
  unfold mvS
  cases ho : mvOn r m
  · rw [ho] at h; simp at h
  · rw [ho] at h; simpa using h
/-- The settings after each move, up to the first that is not possible. -/
def runSt (r : Rul) : Stg → List Mov → List Stg
  | _, [] => []
  | s, m :: l => if mvOk r s m then mvS r s m :: runSt r (mvS r s m) l else []
def lastSt : Stg → List Stg → Stg
  | s, [] => s
  | _, x :: l => lastSt x l
theorem lastSt_snoc : ∀ (s : Stg) (l : List Stg) (x : Stg), lastSt s (l ++ [x]) = x
  | _, [], _ => rfl
  | _, y :: l, x => lastSt_snoc y l x
theorem runSt_go {r : Rul} {s : Stg} {m : Mov} {l : List Mov} (h : mvOk r s m = true) : runSt r s (m :: l) = mvS r s m :: runSt r (mvS r s m) l := if_pos h
theorem runSt_stop {r : Rul} {s : Stg} {m : Mov} {l : List Mov} (h : mvOk r s m = false) : runSt r s (m :: l) = [] := if_neg (by simp [h])
theorem runSt_len (r : Rul) : ∀ (s : Stg) (l : List Mov), (runSt r s l).length ≤ l.length
  | _, [] => by simp [runSt]
  | s, m :: l => by
    cases h : mvOk r s m
    · rw [runSt_stop h]; simp
    · rw [runSt_go h]; simp only [List.length_cons]; have := runSt_len r (mvS r s m) l; omega
theorem runSt_stg (r : Rul) : ∀ (s : Stg) (l : List Mov), ∀ x ∈ runSt r s l, isStg x = true
  | _, [] => by simp [runSt]
  | s, m :: l => by
    cases h : mvOk r s m
    · rw [runSt_stop h]; simp
    · rw [runSt_go h]
      intro x hx
      rcases List.mem_cons.1 hx with rfl | hx
      · exact mvOk_stg h
      · exact runSt_stg r _ l x hx
/-- What is done after k rounds. -/
def Ran (r : Rul) (s : Stg) (l : List Mov) (k : Nat) (L : List Stg) (S : Stg) : Prop := L.length = k ∧ runSt r s l = L ++ runSt r S (l.drop k) ∧ lastSt s L = S ∧ isStg S = true
theorem Ran.zero {r : Rul} {s : Stg} {l : List Mov} (h : isStg s = true) : Ran r s l 0 [] s := ⟨rfl, by simp, rfl, h⟩
theorem Ran.go {r : Rul} {s : Stg} {l : List Mov} {k : Nat} {L : List Stg} {S : Stg} {m : Mov} (h : Ran r s l k L S) (hm : l[k]? = some m) (ho : mvOk r S m = true) : Ran r s l (k + 1) (L ++ [mvS r S m]) (mvS r S m) := by
  obtain ⟨h1, h2, h3, h4⟩ := h
  refine ⟨by simp [h1], ?_, lastSt_snoc _ _ _, mvOk_stg ho⟩
  have hd : l.drop k = m :: l.drop (k + 1) := by
    obtain ⟨hk, hx⟩ := List.getElem?_eq_some_iff.1 hm
    rw [List.drop_eq_getElem_cons hk, hx]
  rw [h2, hd, runSt_go ho]
  simp
theorem Ran.stop {r : Rul} {s : Stg} {l : List Mov} {k : Nat} {L : List Stg} {S : Stg} {m : Mov} (h : Ran r s l k L S) (hm : l[k]? = some m) (ho : mvOk r S m = false) : runSt r s l = L := by
  have hd : l.drop k = m :: l.drop (k + 1) := by
    obtain ⟨hk, hx⟩ := List.getElem?_eq_some_iff.1 hm
    rw [List.drop_eq_getElem_cons hk, hx]
  rw [h.2.1, hd, runSt_stop ho, List.append_nil]
theorem Ran.done {r : Rul} {s : Stg} {l : List Mov} {k : Nat} {L : List Stg} {S : Stg} (h : Ran r s l k L S) (hk : l.length ≤ k) : runSt r s l = L := by
  rw [h.2.1, List.drop_eq_nil_of_le hk, runSt, List.append_nil]

/-- Where a run stops: -1 if it does not. -/
def stopI (r : Rul) (s : Stg) (l : List Mov) : Int := if (runSt r s l).length = l.length then -1 else ((runSt r s l).length : Int)
theorem stopI_done {r : Rul} {s : Stg} {L : List Stg} {m : List Mov} (h : runSt r s m = L) (hl : L.length = m.length) : stopI r s m = -1 := by
  unfold stopI; rw [h, if_pos hl]
theorem stopI_stop {r : Rul} {s : Stg} {L : List Stg} {m : List Mov} (h : runSt r s m = L) (hl : L.length < m.length) : stopI r s m = (L.length : Int) := by
  unfold stopI; rw [h, if_neg (by omega)]
/-- The code of a rule, a setting and moves. -/
def codeRun (r : Rul) (s : Stg) (l : List Mov) : Int := if isRule r && isStg s then codeMoves l else 1
def allDone (r : Rul) (s : Stg) (l : List Mov) : Bool := (runSt r s l).length == l.length
def runMv (r : Rul) (s : Stg) (l : List Mov) : Stg := if codeRun r s l = 0 then (if allDone r s l then lastSt s (runSt r s l) else ⟨0, 0⟩) else ⟨0, 0⟩
def runC (r : Rul) (s : Stg) (l : List Mov) : Int := if codeRun r s l = 0 then (if allDone r s l then 0 else 5) else codeRun r s l
def firstI (r : Rul) (s : Stg) (l : List Mov) : Int := if codeRun r s l = 0 then (if allDone r s l then 0 else (runSt r s l).length) else 0
def firstC (r : Rul) (s : Stg) (l : List Mov) : Int := if codeRun r s l = 0 then (if allDone r s l then 4 else 0) else codeRun r s l
/-- How far slide and cursor go. -/
def trav : Stg → List Stg → Int × Int
  | _, [] => (0, 0)
  | s, x :: l => (max (x.sh - s.sh) (s.sh - x.sh) + (trav x l).1, max (x.cu - s.cu) (s.cu - x.cu) + (trav x l).2)
theorem trav_snoc : ∀ (s : Stg) (l : List Stg) (x : Stg), trav s (l ++ [x]) = ((trav s l).1 + max (x.sh - (lastSt s l).sh) ((lastSt s l).sh - x.sh), (trav s l).2 + max (x.cu - (lastSt s l).cu) ((lastSt s l).cu - x.cu))
  | s, [], x => by simp [trav, lastSt]
  | s, y :: l, x => by
    rw [List.cons_append, trav, trav_snoc y l x, trav, lastSt]
    simp only [Prod.mk.injEq]
    omega
def travS (r : Rul) (s : Stg) (l : List Mov) : Int := if codeRun r s l = 0 then (if allDone r s l then (trav s (runSt r s l)).1 else 0) else 0
def travK (r : Rul) (s : Stg) (l : List Mov) : Int := if codeRun r s l = 0 then (if allDone r s l then (trav s (runSt r s l)).2 else 0) else 0
theorem codeRun_0 {r : Rul} {s : Stg} {l : List Mov} (h : codeRun r s l = 0) : isRule r = true ∧ isStg s = true ∧ codeMoves l = 0 := by
  unfold codeRun at h
  split at h
  · rename_i hq
    rw [Bool.and_eq_true] at hq
    exact ⟨hq.1, hq.2, h⟩
  · omega
theorem codeMoves_0 {l : List Mov} (h : codeMoves l = 0) : l.all isMove = true ∧ l.length ≤ 30 := by
  unfold codeMoves at h
  split at h
  · rename_i hq
    split at h
    · rename_i h2; exact ⟨hq, h2⟩
    · omega
  · omega
theorem all_get {α : Type} {l : List α} {p : α → Bool} (h : l.all p = true) {k : Nat} {x : α} (hx : l[k]? = some x) : p x = true := by
  rw [List.all_eq_true] at h
  exact h x (List.mem_of_getElem? hx)

end Go.Proofs.YtgngbdacejghcaaDoor
