/- DERIVED. Plain words. No program in sight. -/
namespace Go.Proofs.YtgngbdacejghcaaGreatDoor
set_option linter.unusedVariables false
set_option linter.unusedSimpArgs false
structure Fig where
  d : Int
  t : Int
deriving DecidableEq
structure Trm where
  f : Fig
  dv : Bool
deriving DecidableEq
structure Mov where
  k : Int
  s : Int
  f : Fig
deriving DecidableEq
structure Itv where
  lo : Int
  hi : Int
deriving DecidableEq
structure Stg where
  sh : Int
  cu : Int
deriving DecidableEq
structure Ers where
  en : Int
  pa : Int
  ey : Int
deriving DecidableEq
def inR (n lo hi : Int) : Bool := decide (lo ≤ n) && decide (n ≤ hi)
theorem inR_true {n lo hi : Int} (h : inR n lo hi = true) : lo ≤ n ∧ n ≤ hi := by simpa [inR] using h
theorem inR_mk {n lo hi : Int} (h : lo ≤ n ∧ n ≤ hi) : inR n lo hi = true := by simpa [inR] using h
def isFig (f : Fig) : Bool := inR f.d 1000 9999 && inR f.t (-30) 30
theorem isFig_true {f : Fig} (h : isFig f = true) : 1000 ≤ f.d ∧ f.d ≤ 9999 ∧ -30 ≤ f.t ∧ f.t ≤ 30 := by
  simp [isFig] at h
  exact ⟨(inR_true h.1).1, (inR_true h.1).2, (inR_true h.2).1, (inR_true h.2).2⟩
def okTrm (t : Trm) : Bool := isFig t.f
def isScale (s : Int) : Bool := inR s 0 5
def isScaleN (s : Int) : Bool := inR s 0 5 && !(s == 5)
def isMove (m : Mov) : Bool := if inR m.k 0 2 then isScaleN m.s && isFig m.f else inR m.k 3 6 && (m.s == 0 && (m.f.d == 0 && m.f.t == 0))
def codeMoves (l : List Mov) : Int := if l.all isMove then (if l.length ≤ 30 then 0 else 3) else 1
theorem codeMoves_cases (l : List Mov) : codeMoves l = 0 ∨ codeMoves l = 1 ∨ codeMoves l = 3 := by
  simp only [codeMoves]
  split
  · split <;> simp
  · simp
theorem take_snoc' {α : Type} {l : List α} {k : Nat} {x : α} (h : l[k]? = some x) : l.take (k + 1) = l.take k ++ [x] := by
  rw [List.take_add_one, h]; rfl
theorem all_snoc {α : Type} {l : List α} {k : Nat} {x : α} {p : α → Bool} (h : l[k]? = some x) (ha : (l.take k).all p = true) (hx : p x = true) : (l.take (k + 1)).all p = true := by
  rw [take_snoc' h, List.all_append, ha]; simp [hx]
theorem all_false {α : Type} {l : List α} {k : Nat} {x : α} {p : α → Bool} (h : l[k]? = some x) (hx : p x = false) : l.all p = false := by
  rw [Bool.eq_false_iff]; intro ha
  rw [List.all_eq_true] at ha
  rw [ha x (List.mem_of_getElem? h)] at hx; cases hx
theorem get_ex {α : Type} {l : List α} {k : Nat} (h : k < l.length) : ∃ x, l[k]? = some x := ⟨l[k], List.getElem?_eq_getElem h⟩
theorem take_eq_all {α : Type} {l : List α} {k : Nat} (h : l.length ≤ k) : l.take k = l := List.take_of_length_le h
theorem any_false_end {α : Type} {l : List α} {k : Nat} {p : α → Bool} (h : l.length ≤ k) (ha : (l.take k).any p = false) : l.any p = false := by rwa [take_eq_all h] at ha
theorem any_snoc {α : Type} {l : List α} {k : Nat} {x : α} {p : α → Bool} (h : l[k]? = some x) (ha : (l.take k).any p = false) (hx : p x = false) : (l.take (k + 1)).any p = false := by
  rw [take_snoc' h, List.any_append, ha]; simp [hx]
theorem any_true {α : Type} {l : List α} {k : Nat} {x : α} {p : α → Bool} (h : l[k]? = some x) (hx : p x = true) : l.any p = true :=
  List.any_eq_true.2 ⟨x, List.mem_of_getElem? h, hx⟩
theorem any_not {α : Type} (l : List α) (p : α → Bool) : (!l.any fun x => !p x) = l.all p := by
  induction l with
  | nil => rfl
  | cons x l ih => simp only [List.any_cons, List.all_cons, Bool.not_or, Bool.not_not, ih]
def setStep (n : Int) (m : Mov) : Int := if m.k ≤ 2 then n + 1 else n
def countSet (l : List Mov) : Int := l.foldl setStep 0
def countSettings (l : List Mov) : Int := if codeMoves l = 0 then countSet l else 0
theorem countSet_snoc (l : List Mov) (m : Mov) : countSet (l ++ [m]) = setStep (countSet l) m := by simp [countSet]
theorem okTrm_bd {t : Trm} (h : okTrm t = true) : 1000 ≤ t.f.d ∧ t.f.d ≤ 9999 ∧ -30 ≤ t.f.t ∧ t.f.t ≤ 30 := isFig_true h
def hasI (l : List Int) (x : Int) : Bool := l.any fun y => y == x
def cdiv (a b : Int) : Int := -((-a) / b)
theorem tdiv_neg {a b : Int} (ha : a < 0) (hb : 0 < b) :
    a.tdiv b ≤ 0 ∧ a ≤ a.tdiv b ∧ a.tmod b ≤ 0 ∧ (a.tmod b = 0 → a.tdiv b = a / b) ∧ (a.tmod b ≠ 0 → a.tdiv b - 1 = a / b) := by
  obtain ⟨m, rfl⟩ : ∃ m, a = -m := ⟨-a, by omega⟩
  have hm : 0 < m := by omega
  rw [Int.neg_tdiv, Int.neg_tmod, Int.tdiv_eq_ediv_of_nonneg (by omega), Int.tmod_eq_emod_of_nonneg (by omega)]
  have h1 := Int.emod_nonneg m (show b ≠ 0 by omega)
  have h2 := Int.emod_lt_of_pos m hb
  have h3 := Int.mul_ediv_add_emod m b
  have h4 : 0 ≤ m / b := Int.ediv_nonneg (by omega) (by omega)
  have h5 : m / b ≤ m := by
    have := Int.ediv_le_self b (show 0 ≤ m by omega)
    exact this
  refine ⟨by omega, by omega, by omega, fun h => ?_, fun h => ?_⟩
  · have : m % b = 0 := by omega
    have := ((Int.ediv_emod_unique (a := -m) (b := b) (r := 0) (q := -(m / b)) hb).2 ⟨by rw [Int.mul_neg]; omega, by omega, by omega⟩).1
    exact this.symm
  · have := ((Int.ediv_emod_unique (a := -m) (b := b) (r := b - m % b) (q := -(m / b) - 1) hb).2 ⟨by rw [Int.mul_sub, Int.mul_neg]; omega, by omega, by omega⟩).1
    exact this.symm
theorem pow2_20 {k : Nat} (h : k ≤ 20) : (2 : Int) ^ k ≤ 1048576 := by
  have h1 : 2 ^ k ≤ 2 ^ 20 := Nat.pow_le_pow_right (by decide) h
  have h2 : ((2 ^ k : Nat) : Int) ≤ ((2 ^ 20 : Nat) : Int) := Int.ofNat_le.2 h1
  simpa using h2
theorem mul_self_le {a b : Int} (h0 : 0 ≤ a) (h : a ≤ b) : a * a ≤ b * b := Int.mul_le_mul h h h0 (by omega)
def lowStep (s : Int × Int) : Int × Int :=
  if 1000000000 ≤ s.1 * s.1 / 100000000 then (s.1 * s.1 / 100000000 / 10, s.2 * 2 + 1) else (s.1 * s.1 / 100000000, s.2 * 2)
def highStep (s : Int × Int) : Int × Int :=
  if 1000000000 ≤ cdiv (s.1 * s.1) 100000000 then (cdiv (cdiv (s.1 * s.1) 100000000) 10, s.2 * 2 + 1) else (cdiv (s.1 * s.1) 100000000, s.2 * 2)
def lowS (x : Int) : Nat → Int × Int
  | 0 => (x, 0)
  | n + 1 => lowStep (lowS x n)
def highS (x : Int) : Nat → Int × Int
  | 0 => (x, 0)
  | n + 1 => highStep (highS x n)
theorem lowStep_pos {s : Int × Int} (h : 1000000000 ≤ s.1 * s.1 / 100000000) : lowStep s = (s.1 * s.1 / 100000000 / 10, s.2 * 2 + 1) := if_pos h
theorem lowStep_neg {s : Int × Int} (h : ¬ 1000000000 ≤ s.1 * s.1 / 100000000) : lowStep s = (s.1 * s.1 / 100000000, s.2 * 2) := if_neg h
theorem highStep_pos {s : Int × Int} (h : 1000000000 ≤ cdiv (s.1 * s.1) 100000000) : highStep s = (cdiv (cdiv (s.1 * s.1) 100000000) 10, s.2 * 2 + 1) := if_pos h
theorem highStep_neg {s : Int × Int} (h : ¬ 1000000000 ≤ cdiv (s.1 * s.1) 100000000) : highStep s = (cdiv (s.1 * s.1) 100000000, s.2 * 2) := if_neg h
theorem lowS_bd {x : Int} (h1 : 100000000 ≤ x) (h2 : x ≤ 999999999) : ∀ n : Nat, 100000000 ≤ (lowS x n).1 ∧ (lowS x n).1 ≤ 999999999 ∧ 0 ≤ (lowS x n).2 ∧ (lowS x n).2 < 2 ^ n
  | 0 => by simp [lowS]; omega
  | n + 1 => by
    obtain ⟨a1, a2, a3, a4⟩ := lowS_bd h1 h2 n
    have b1 := mul_self_le (by omega : (0 : Int) ≤ 100000000) a1
    have b2 := mul_self_le (by omega) a2
    have hp : (2 : Int) ^ (n + 1) = 2 ^ n * 2 := by rw [Int.pow_succ]
    rw [hp, lowS]
    by_cases hq : 1000000000 ≤ (lowS x n).1 * (lowS x n).1 / 100000000
    · rw [lowStep_pos hq]; simp only; omega
    · rw [lowStep_neg hq]; simp only; omega
theorem highS_bd {x : Int} (h1 : 100000000 ≤ x) (h2 : x ≤ 999999999) : ∀ n : Nat, 100000000 ≤ (highS x n).1 ∧ (highS x n).1 ≤ 1000000000 ∧ 0 ≤ (highS x n).2 ∧ (highS x n).2 < 2 ^ n
  | 0 => by simp [highS]; omega
  | n + 1 => by
    obtain ⟨a1, a2, a3, a4⟩ := highS_bd h1 h2 n
    have b1 := mul_self_le (by omega : (0 : Int) ≤ 100000000) a1
    have b2 := mul_self_le (by omega) a2
    have hp : (2 : Int) ^ (n + 1) = 2 ^ n * 2 := by rw [Int.pow_succ]
    rw [hp, highS]
    by_cases hq : 1000000000 ≤ cdiv ((highS x n).1 * (highS x n).1) 100000000
    · rw [highStep_pos hq]; simp only [cdiv] at hq ⊢; omega
    · rw [highStep_neg hq]; simp only [cdiv] at hq ⊢; omega
def logOf (x : Int) : Itv := ⟨(lowS x 20).2, (highS x 20).2 + 1⟩
theorem logOf_bd {x : Int} (h1 : 100000000 ≤ x) (h2 : x ≤ 999999999) : 0 ≤ (logOf x).lo ∧ (logOf x).lo ≤ 1048575 ∧ 1 ≤ (logOf x).hi ∧ (logOf x).hi ≤ 1048576 := by
  have a := lowS_bd h1 h2 20
  have b := highS_bd h1 h2 20
  simp only [logOf]
  have hp : (2 : Int) ^ 20 = 1048576 := by decide
  rw [hp] at a b
  omega
def figLog (f : Fig) : Itv := ⟨(logOf (f.d * 100000)).lo + f.t * 1048576, (logOf (f.d * 100000)).hi + f.t * 1048576⟩
theorem mul_bd {a n A B : Int} (h1 : -A ≤ a) (h2 : a ≤ A) (h3 : -B ≤ n) (h4 : n ≤ B) (hA : 0 ≤ A) : -(A * B) ≤ a * n ∧ a * n ≤ A * B := by
  have hB : 0 ≤ B := by omega
  by_cases ha : 0 ≤ a <;> by_cases hn : 0 ≤ n
  · have e1 := Int.mul_le_mul h2 h4 hn hA
    have e2 := Int.mul_nonneg ha hn
    have e3 := Int.mul_nonneg hA hB
    omega
  · have e1 := Int.mul_le_mul h2 (show -n ≤ B by omega) (by omega) hA
    have e2 := Int.mul_nonneg ha (show 0 ≤ -n by omega)
    have e3 := Int.mul_nonneg hA hB
    rw [Int.mul_neg] at e1 e2
    omega
  · have e1 := Int.mul_le_mul (show -a ≤ A by omega) h4 hn hA
    have e2 := Int.mul_nonneg (show 0 ≤ -a by omega) hn
    have e3 := Int.mul_nonneg hA hB
    rw [Int.neg_mul] at e1 e2
    omega
  · have e1 := Int.mul_le_mul (show -a ≤ A by omega) (show -n ≤ B by omega) (by omega) hA
    have e2 := Int.mul_nonneg (show 0 ≤ -a by omega) (show 0 ≤ -n by omega)
    have e3 := Int.mul_nonneg hA hB
    rw [Int.neg_mul_neg] at e1 e2
    omega
def scaleI (a : Itv) (n d : Int) : Itv := ⟨min (a.lo * n) (a.hi * n) / d, cdiv (max (a.lo * n) (a.hi * n)) d⟩
theorem cdiv_bd {x d M : Int} (hd : 1 ≤ d) (h1 : -M ≤ x) (h2 : x ≤ M) (hM : 0 ≤ M) : -M ≤ cdiv x d ∧ cdiv x d ≤ M := by
  have k1 : -M ≤ (-x) / d := Int.le_ediv_of_mul_le (by omega) (by
    have := Int.mul_le_mul_of_nonneg_left hd hM
    rw [Int.neg_mul]
    omega)
  have k2 : (-x) / d ≤ M := by
    have h := Int.ediv_lt_of_lt_mul (a := -x) (b := M + 1) (c := d) (by omega) (by
      have := Int.mul_le_mul_of_nonneg_left hd (show 0 ≤ M + 1 by omega)
      omega)
    omega
  unfold cdiv
  omega
theorem fdiv_bd {x d M : Int} (hd : 1 ≤ d) (h1 : -M ≤ x) (h2 : x ≤ M) (hM : 0 ≤ M) : -M ≤ x / d ∧ x / d ≤ M := by
  have := cdiv_bd (x := -x) hd (by omega) (by omega) hM
  unfold cdiv at this
  rw [Int.neg_neg] at this
  omega
theorem scaleI_bd {a : Itv} {n d A B : Int} (h1 : -A ≤ a.lo) (h2 : a.lo ≤ A) (h3 : -A ≤ a.hi) (h4 : a.hi ≤ A) (h5 : -B ≤ n) (h6 : n ≤ B) (hA : 0 ≤ A) (hB : 0 ≤ B) (hd : 1 ≤ d) :
    -(A * B) ≤ (scaleI a n d).lo ∧ (scaleI a n d).lo ≤ A * B ∧ -(A * B) ≤ (scaleI a n d).hi ∧ (scaleI a n d).hi ≤ A * B := by
  have m1 := mul_bd h1 h2 h5 h6 hA
  have m2 := mul_bd h3 h4 h5 h6 hA
  have hAB : 0 ≤ A * B := Int.mul_nonneg hA hB
  have k1 := fdiv_bd (x := min (a.lo * n) (a.hi * n)) hd (by omega) (by omega) hAB
  have k2 := cdiv_bd (x := max (a.lo * n) (a.hi * n)) hd (by omega) (by omega) hAB
  exact ⟨k1.1, k1.2, k2.1, k2.2⟩
structure Rul where
  len : Int
  st : List Int
  sl : List Int
def okSc (l : List Int) (i : Nat) : Bool := isScaleN (l.getD i 0) && !hasI (l.take i) (l.getD i 0)
def allSc (l : List Int) : Bool := (List.range l.length).all (okSc l)
def areSc (l : List Int) : Bool := allSc l && inR l.length 1 6
theorem okSc_get {l : List Int} {i : Nat} {x : Int} (hx : l[i]? = some x) : okSc l i = (isScaleN x && !hasI (l.take i) x) := by
  simp [okSc, List.getD, hx]
theorem areSc_false {l : List Int} {i : Nat} (hi : i < l.length) (h : okSc l i = false) : areSc l = false := by
  have : allSc l = false := by
    rw [Bool.eq_false_iff]
    intro ha
    rw [allSc, List.all_eq_true] at ha
    rw [ha i (List.mem_range.2 hi)] at h
    cases h
  rw [areSc, this, Bool.false_and]
theorem allSc_true {l : List Int} (h : ∀ i, i < l.length → okSc l i = true) : allSc l = true := by
  rw [allSc, List.all_eq_true]
  exact fun i hi => h i (List.mem_range.1 hi)
theorem isScaleN_bd {s : Int} (h : isScaleN s = true) : 0 ≤ s ∧ s ≤ 4 := by
  simp only [isScaleN, Bool.and_eq_true] at h
  have h1 := inR_true h.1
  have h2 : ¬ s = 5 := by simpa using h.2
  omega
def isRule (r : Rul) : Bool := inR r.len 1 100000 && areSc r.st && areSc r.sl
def isStg (s : Stg) : Bool := inR s.sh (-1048576) 1048576 && inR s.cu 0 1048576
theorem isStg_bd {s : Stg} (h : isStg s = true) : -1048576 ≤ s.sh ∧ s.sh ≤ 1048576 ∧ 0 ≤ s.cu ∧ s.cu ≤ 1048576 := by
  simp only [isStg, Bool.and_eq_true] at h
  have h1 := inR_true h.1
  have h2 := inR_true h.2
  omega
def onR (r : Rul) (slide : Bool) : List Int := if slide then r.sl else r.st
def lg (d : Int) : Itv := logOf (d * 100000)
def posI (s : Int) (f : Fig) : Itv :=
  if s = 5 then ⟨(f.d - 1000) * 1048576 / 9000, cdiv ((f.d - 1000) * 1048576) 9000⟩
  else if s = 1 then scaleI ⟨(lg f.d).lo + 1048576 * (f.t % 2), (lg f.d).hi + 1048576 * (f.t % 2)⟩ 1 2
  else if s = 2 then scaleI ⟨(lg f.d).lo + 1048576 * (f.t % 3), (lg f.d).hi + 1048576 * (f.t % 3)⟩ 1 3
  else if s = 3 then ⟨1048576 - (lg f.d).hi, 1048576 - (lg f.d).lo⟩
  else if s = 4 then (if (lg f.d).lo - (lg 3142).hi < 0 then ⟨(lg f.d).lo - (lg 3142).hi + 1048576, (lg f.d).hi - (lg 3142).lo + 1048576⟩ else ⟨(lg f.d).lo - (lg 3142).hi, (lg f.d).hi - (lg 3142).lo⟩)
  else lg f.d
theorem lg_bd {d : Int} (h1 : 1000 ≤ d) (h2 : d ≤ 9999) : 0 ≤ (lg d).lo ∧ (lg d).lo ≤ 1048575 ∧ 1 ≤ (lg d).hi ∧ (lg d).hi ≤ 1048576 := logOf_bd (by omega) (by omega)
theorem posI_bd {s : Int} {f : Fig} (h1 : 1000 ≤ f.d) (h2 : f.d ≤ 9999) : -10000000 ≤ (posI s f).lo ∧ (posI s f).lo ≤ 10000000 ∧ -10000000 ≤ (posI s f).hi ∧ (posI s f).hi ≤ 10000000 := by
  have hb := lg_bd h1 h2
  have hc := lg_bd (d := 3142) (by omega) (by omega)
  unfold posI
  by_cases h5 : s = 5
  · rw [if_pos h5]; simp only [cdiv]; omega
  rw [if_neg h5]
  by_cases h1 : s = 1
  · rw [if_pos h1]
    have := scaleI_bd (a := ⟨(lg f.d).lo + 1048576 * (f.t % 2), (lg f.d).hi + 1048576 * (f.t % 2)⟩) (n := 1) (d := 2) (A := 10000000) (B := 1) (by simp only; omega) (by simp only; omega) (by simp only; omega) (by simp only; omega) (by omega) (by omega) (by omega) (by omega) (by omega)
    exact this
  rw [if_neg h1]
  by_cases h2 : s = 2
  · rw [if_pos h2]
    have := scaleI_bd (a := ⟨(lg f.d).lo + 1048576 * (f.t % 3), (lg f.d).hi + 1048576 * (f.t % 3)⟩) (n := 1) (d := 3) (A := 10000000) (B := 1) (by simp only; omega) (by simp only; omega) (by simp only; omega) (by simp only; omega) (by omega) (by omega) (by omega) (by omega) (by omega)
    exact this
  rw [if_neg h2]
  by_cases h3 : s = 3
  · rw [if_pos h3]; simp only; omega
  rw [if_neg h3]
  by_cases h4 : s = 4
  · rw [if_pos h4]; split <;> simp only <;> omega
  rw [if_neg h4]
  omega
def ptF (s : Int) (f : Fig) : Int := ((posI s f).lo + (posI s f).hi) / 2
theorem ptF_bd {s : Int} {f : Fig} (h1 : 1000 ≤ f.d) (h2 : f.d ≤ 9999) : -10000000 ≤ ptF s f ∧ ptF s f ≤ 10000000 := by
  have := posI_bd (s := s) h1 h2
  unfold ptF
  omega
def mvOn (r : Rul) (m : Mov) : Bool := if m.k ≤ 2 then hasI (onR r (!(m.k == 0))) m.s else true
def mvTo (s : Stg) (m : Mov) : Stg :=
  if m.k = 0 then ⟨s.sh, ptF m.s m.f⟩ else if m.k = 1 then ⟨s.sh, ptF m.s m.f + s.sh⟩ else if m.k = 2 then ⟨s.cu - ptF m.s m.f, s.cu⟩
  else if m.k = 3 then ⟨s.cu, s.cu⟩ else if m.k = 4 then ⟨s.cu - 1048576, s.cu⟩ else if m.k = 5 then ⟨s.sh, s.sh⟩ else if m.k = 6 then ⟨s.sh, s.sh + 1048576⟩ else s
def mvS (r : Rul) (s : Stg) (m : Mov) : Stg := if mvOn r m then mvTo s m else ⟨0, 0⟩
def mvOk (r : Rul) (s : Stg) (m : Mov) : Bool := if mvOn r m then isStg (mvTo s m) else false
theorem isMove_cases {m : Mov} (h : isMove m = true) : (0 ≤ m.k ∧ m.k ≤ 2 ∧ isScaleN m.s = true ∧ isFig m.f = true) ∨ (3 ≤ m.k ∧ m.k ≤ 6 ∧ m.s = 0 ∧ m.f = ⟨0, 0⟩) := by
  unfold isMove at h
  by_cases hk : inR m.k 0 2 = true
  · rw [if_pos hk, Bool.and_eq_true] at h
    have := inR_true hk
    exact .inl ⟨this.1, this.2, h.1, h.2⟩
  · rw [if_neg hk] at h
    simp only [Bool.and_eq_true, beq_iff_eq] at h
    have := inR_true h.1
    obtain ⟨f1, f2⟩ := h.2.2
    obtain ⟨k, s, ⟨a, b⟩⟩ := m
    simp only at f1 f2
    exact .inr ⟨this.1, this.2, h.2.1, by simp only; rw [f1, f2]⟩
theorem mvOk_stg {r : Rul} {s : Stg} {m : Mov} (h : mvOk r s m = true) : isStg (mvS r s m) = true := by
  unfold mvOk at h
  unfold mvS
  cases ho : mvOn r m
  · rw [ho] at h; simp at h
  · rw [ho] at h; simpa using h
def runSt (r : Rul) : Stg → List Mov → List Stg
  | _, [] => []
  | s, m :: l => if mvOk r s m then mvS r s m :: runSt r (mvS r s m) l else []
def lastSt : Stg → List Stg → Stg
  | s, [] => s
  | _, x :: l => lastSt x l
theorem lastSt_snoc : ∀ (s : Stg) (l : List Stg) (x : Stg), lastSt s (l ++ [x]) = x
  | _, [], _ => rfl
  | _, y :: l, x => lastSt_snoc y l x
theorem runSt_go {r : Rul} {s : Stg} {m : Mov} {l : List Mov} (h : mvOk r s m = true) : runSt r s (m :: l) = mvS r s m :: runSt r (mvS r s m) l := if_pos h
theorem runSt_stop {r : Rul} {s : Stg} {m : Mov} {l : List Mov} (h : mvOk r s m = false) : runSt r s (m :: l) = [] := if_neg (by simp [h])
theorem runSt_len (r : Rul) : ∀ (s : Stg) (l : List Mov), (runSt r s l).length ≤ l.length
  | _, [] => by simp [runSt]
  | s, m :: l => by
    cases h : mvOk r s m
    · rw [runSt_stop h]; simp
    · rw [runSt_go h]; simp only [List.length_cons]; have := runSt_len r (mvS r s m) l; omega
theorem runSt_stg (r : Rul) : ∀ (s : Stg) (l : List Mov), ∀ x ∈ runSt r s l, isStg x = true
  | _, [] => by simp [runSt]
  | s, m :: l => by
    cases h : mvOk r s m
    · rw [runSt_stop h]; simp
    · rw [runSt_go h]
      intro x hx
      rcases List.mem_cons.1 hx with rfl | hx
      · exact mvOk_stg h
      · exact runSt_stg r _ l x hx
def Ran (r : Rul) (s : Stg) (l : List Mov) (k : Nat) (L : List Stg) (S : Stg) : Prop := L.length = k ∧ runSt r s l = L ++ runSt r S (l.drop k) ∧ lastSt s L = S ∧ isStg S = true
theorem Ran.zero {r : Rul} {s : Stg} {l : List Mov} (h : isStg s = true) : Ran r s l 0 [] s := ⟨rfl, by simp, rfl, h⟩
theorem Ran.go {r : Rul} {s : Stg} {l : List Mov} {k : Nat} {L : List Stg} {S : Stg} {m : Mov} (h : Ran r s l k L S) (hm : l[k]? = some m) (ho : mvOk r S m = true) : Ran r s l (k + 1) (L ++ [mvS r S m]) (mvS r S m) := by
  obtain ⟨h1, h2, h3, h4⟩ := h
  refine ⟨by simp [h1], ?_, lastSt_snoc _ _ _, mvOk_stg ho⟩
  have hd : l.drop k = m :: l.drop (k + 1) := by
    obtain ⟨hk, hx⟩ := List.getElem?_eq_some_iff.1 hm
    rw [List.drop_eq_getElem_cons hk, hx]
  rw [h2, hd, runSt_go ho]
  simp
theorem Ran.stop {r : Rul} {s : Stg} {l : List Mov} {k : Nat} {L : List Stg} {S : Stg} {m : Mov} (h : Ran r s l k L S) (hm : l[k]? = some m) (ho : mvOk r S m = false) : runSt r s l = L := by
  have hd : l.drop k = m :: l.drop (k + 1) := by
    obtain ⟨hk, hx⟩ := List.getElem?_eq_some_iff.1 hm
    rw [List.drop_eq_getElem_cons hk, hx]
  rw [h.2.1, hd, runSt_stop ho, List.append_nil]
theorem Ran.done {r : Rul} {s : Stg} {l : List Mov} {k : Nat} {L : List Stg} {S : Stg} (h : Ran r s l k L S) (hk : l.length ≤ k) : runSt r s l = L := by
  rw [h.2.1, List.drop_eq_nil_of_le hk, runSt, List.append_nil]
def codeRun (r : Rul) (s : Stg) (l : List Mov) : Int := if isRule r && isStg s then codeMoves l else 1
def allDone (r : Rul) (s : Stg) (l : List Mov) : Bool := (runSt r s l).length == l.length
def runMv (r : Rul) (s : Stg) (l : List Mov) : Stg := if codeRun r s l = 0 then (if allDone r s l then lastSt s (runSt r s l) else ⟨0, 0⟩) else ⟨0, 0⟩
def runC (r : Rul) (s : Stg) (l : List Mov) : Int := if codeRun r s l = 0 then (if allDone r s l then 0 else 5) else codeRun r s l
def firstC (r : Rul) (s : Stg) (l : List Mov) : Int := if codeRun r s l = 0 then (if allDone r s l then 4 else 0) else codeRun r s l
def trav : Stg → List Stg → Int × Int
  | _, [] => (0, 0)
  | s, x :: l => (max (x.sh - s.sh) (s.sh - x.sh) + (trav x l).1, max (x.cu - s.cu) (s.cu - x.cu) + (trav x l).2)
theorem trav_snoc : ∀ (s : Stg) (l : List Stg) (x : Stg), trav s (l ++ [x]) = ((trav s l).1 + max (x.sh - (lastSt s l).sh) ((lastSt s l).sh - x.sh), (trav s l).2 + max (x.cu - (lastSt s l).cu) ((lastSt s l).cu - x.cu))
  | s, [], x => by simp [trav, lastSt]
  | s, y :: l, x => by
    rw [List.cons_append, trav, trav_snoc y l x, trav, lastSt]
    simp only [Prod.mk.injEq]
    omega
def travS (r : Rul) (s : Stg) (l : List Mov) : Int := if codeRun r s l = 0 then (if allDone r s l then (trav s (runSt r s l)).1 else 0) else 0
def travK (r : Rul) (s : Stg) (l : List Mov) : Int := if codeRun r s l = 0 then (if allDone r s l then (trav s (runSt r s l)).2 else 0) else 0
theorem codeRun_0 {r : Rul} {s : Stg} {l : List Mov} (h : codeRun r s l = 0) : isRule r = true ∧ isStg s = true ∧ codeMoves l = 0 := by
  unfold codeRun at h
  split at h
  · rename_i hq
    rw [Bool.and_eq_true] at hq
    exact ⟨hq.1, hq.2, h⟩
  · omega
theorem codeMoves_0 {l : List Mov} (h : codeMoves l = 0) : l.all isMove = true ∧ l.length ≤ 30 := by
  unfold codeMoves at h
  split at h
  · rename_i hq
    split at h
    · rename_i h2; exact ⟨hq, h2⟩
    · omega
  · omega
theorem all_get {α : Type} {l : List α} {p : α → Bool} (h : l.all p = true) {k : Nat} {x : α} (hx : l[k]? = some x) : p x = true := by
  rw [List.all_eq_true] at h
  exact h x (List.mem_of_getElem? hx)
end Go.Proofs.YtgngbdacejghcaaGreatDoor
