/- DERIVED. Plain words: figures below and above a number of units, spans. No program in sight. -/
import Derived.Test.YtfhppnmbmdpjeaaP4
namespace Go.Proofs.Ytfhppnmbmdpjeaa
set_option linter.unusedVariables false
set_option linter.unusedSimpArgs false

theorem le2_ll {s t : Int × Int} (hs : 0 ≤ s.1) (h : le2 s t) : le2 (lowStep s) (lowStep t) := by
  obtain ⟨x, a⟩ := s
  obtain ⟨y, b⟩ := t
  simp only [le2] at h hs
  have hl : (lowStep (x, a)).2 = a * 2 ∨ (lowStep (x, a)).2 = a * 2 + 1 := by
    by_cases hq : 1000000000 ≤ x * x / 100000000
    · rw [lowStep_pos (s := (x, a)) hq]; exact .inr rfl
    · rw [lowStep_neg (s := (x, a)) hq]; exact .inl rfl
  have hh : (lowStep (y, b)).2 = b * 2 ∨ (lowStep (y, b)).2 = b * 2 + 1 := by
    by_cases hq : 1000000000 ≤ y * y / 100000000
    · rw [lowStep_pos (s := (y, b)) hq]; exact .inr rfl
    · rw [lowStep_neg (s := (y, b)) hq]; exact .inl rfl
  rcases h with h | ⟨h1, h2⟩
  · exact .inl (by omega)
  · subst h1
    have hm := mul_self_le hs h2
    by_cases hq : 1000000000 ≤ x * x / 100000000 <;> by_cases hr : 1000000000 ≤ y * y / 100000000
    · rw [lowStep_pos (s := (x, a)) hq, lowStep_pos (s := (y, a)) hr]; refine Or.inr ⟨rfl, ?_⟩; simp only; omega
    · omega
    · rw [lowStep_neg (s := (x, a)) hq, lowStep_pos (s := (y, a)) hr]; simp only [le2]; omega
    · rw [lowStep_neg (s := (x, a)) hq, lowStep_neg (s := (y, a)) hr]; refine Or.inr ⟨rfl, ?_⟩; simp only; omega
theorem le2_hh {s t : Int × Int} (hs : 0 ≤ s.1) (h : le2 s t) : le2 (highStep s) (highStep t) := by
  obtain ⟨x, a⟩ := s
  obtain ⟨y, b⟩ := t
  simp only [le2] at h hs
  have hl : (highStep (x, a)).2 = a * 2 ∨ (highStep (x, a)).2 = a * 2 + 1 := by
    by_cases hq : 1000000000 ≤ cdiv (x * x) 100000000
    · rw [highStep_pos (s := (x, a)) hq]; exact .inr rfl
    · rw [highStep_neg (s := (x, a)) hq]; exact .inl rfl
  have hh : (highStep (y, b)).2 = b * 2 ∨ (highStep (y, b)).2 = b * 2 + 1 := by
    by_cases hq : 1000000000 ≤ cdiv (y * y) 100000000
    · rw [highStep_pos (s := (y, b)) hq]; exact .inr rfl
    · rw [highStep_neg (s := (y, b)) hq]; exact .inl rfl
  rcases h with h | ⟨h1, h2⟩
  · exact .inl (by omega)
  · subst h1
    have hm := mul_self_le hs h2
    by_cases hq : 1000000000 ≤ cdiv (x * x) 100000000 <;> by_cases hr : 1000000000 ≤ cdiv (y * y) 100000000
    · rw [highStep_pos (s := (x, a)) hq, highStep_pos (s := (y, a)) hr]; refine Or.inr ⟨rfl, ?_⟩; simp only [cdiv] at hq hr ⊢; omega
    · simp only [cdiv] at hq hr; omega
    · rw [highStep_neg (s := (x, a)) hq, highStep_pos (s := (y, a)) hr]; simp only [le2]; omega
    · rw [highStep_neg (s := (x, a)) hq, highStep_neg (s := (y, a)) hr]; refine Or.inr ⟨rfl, ?_⟩; simp only [cdiv] at hq hr ⊢; omega
theorem lowS_mono {x y : Int} (h1 : 100000000 ≤ x) (h2 : x ≤ y) (h3 : y ≤ 999999999) : ∀ n, le2 (lowS x n) (lowS y n)
  | 0 => .inr ⟨rfl, h2⟩
  | n + 1 => le2_ll (by have := (lowS_bd h1 (by omega) n).1; omega) (lowS_mono h1 h2 h3 n)
theorem highS_mono {x y : Int} (h1 : 100000000 ≤ x) (h2 : x ≤ y) (h3 : y ≤ 999999999) : ∀ n, le2 (highS x n) (highS y n)
  | 0 => .inr ⟨rfl, h2⟩
  | n + 1 => le2_hh (by have := (highS_bd h1 (by omega) n).1; omega) (highS_mono h1 h2 h3 n)
theorem logOf_mono {x y : Int} (h1 : 100000000 ≤ x) (h2 : x ≤ y) (h3 : y ≤ 999999999) : (logOf x).lo ≤ (logOf y).lo ∧ (logOf x).hi ≤ (logOf y).hi := by
  have a := lowS_mono h1 h2 h3 20
  have b := highS_mono h1 h2 h3 20
  simp only [logOf, le2] at a b ⊢
  omega
theorem low_one : ∀ n, lowS 100000000 n = (100000000, 0)
  | 0 => rfl
  | n + 1 => by rw [lowS, low_one n]; decide
theorem high_one : ∀ n, highS 100000000 n = (100000000, 0)
  | 0 => rfl
  | n + 1 => by rw [highS, high_one n]; decide
theorem logOf_one : logOf 100000000 = ⟨0, 1⟩ := by simp [logOf, low_one, high_one]

/-- The figure with a number. -/
def atF (n : Int) : Fig := ⟨1000 + n % 9000, n / 9000⟩
theorem atF_of {i t : Int} (h1 : 0 ≤ i) (h2 : i < 9000) : atF (9000 * t + i) = ⟨1000 + i, t⟩ := by
  have e1 : (9000 * t + i) % 9000 = i := by omega
  have e2 : (9000 * t + i) / 9000 = t := by omega
  rw [atF, e1, e2]
theorem figLog_at (n : Int) : figLog (atF n) = ⟨(logOf ((1000 + n % 9000) * 100000)).lo + n / 9000 * 1048576, (logOf ((1000 + n % 9000) * 100000)).hi + n / 9000 * 1048576⟩ := rfl
theorem at_mono {n m : Int} (h : n ≤ m) : (figLog (atF n)).lo ≤ (figLog (atF m)).lo ∧ (figLog (atF n)).hi ≤ (figLog (atF m)).hi := by
  rw [figLog_at, figLog_at]
  simp only
  have b1 := logOf_bd (x := (1000 + n % 9000) * 100000) (by omega) (by omega)
  have b2 := logOf_bd (x := (1000 + m % 9000) * 100000) (by omega) (by omega)
  by_cases hd : n / 9000 = m / 9000
  · have := logOf_mono (x := (1000 + n % 9000) * 100000) (y := (1000 + m % 9000) * 100000) (by omega) (by omega) (by omega)
    rw [hd]
    omega
  · omega

/-- The first number for which something holds, up to a greatest one. -/
def firstFrom (p : Int → Bool) : Nat → Int → Int
  | 0, n => n
  | f + 1, n => if p n then n else firstFrom p f (n + 1)
def IsFirst (p : Int → Bool) (r : Int) : Prop := -270000 ≤ r ∧ r ≤ 279000 ∧ (r = 279000 ∨ p r = true) ∧ (r = -270000 ∨ p (r - 1) = false)
theorem firstFrom_is (p : Int → Bool) : ∀ (f : Nat) (n : Int), -270000 ≤ n → n + f = 279000 → (n = -270000 ∨ p (n - 1) = false) → IsFirst p (firstFrom p f n)
  | 0, n, h1, h2, h3 => ⟨h1, by simp [firstFrom]; omega, .inl (by simp [firstFrom]; omega), h3⟩
  | f + 1, n, h1, h2, h3 => by
    rw [firstFrom]
    by_cases hp : p n = true
    · rw [if_pos hp]
      exact ⟨h1, by omega, .inr hp, h3⟩
    · rw [if_neg hp]
      exact firstFrom_is p f (n + 1) (by omega) (by omega) (.inr (by rw [Int.add_sub_cancel]; simpa using hp))
def firstN (p : Int → Bool) : Int := firstFrom p 549000 (-270000)
theorem firstN_is (p : Int → Bool) : IsFirst p (firstN p) := firstFrom_is p 549000 (-270000) (by omega) (by omega) (.inl rfl)
theorem first_unique {p : Int → Bool} (hm : ∀ a b, a ≤ b → p a = true → p b = true) {r s : Int} (hr : IsFirst p r) (hs : IsFirst p s) : r = s := by
  obtain ⟨r1, r2, r3, r4⟩ := hr
  obtain ⟨s1, s2, s3, s4⟩ := hs
  rcases Int.lt_trichotomy r s with h | h | h
  · exfalso
    have hp : p r = true := by rcases r3 with e | e; · omega
                               · exact e
    have hq := hm r (s - 1) (by omega) hp
    rcases s4 with e | e
    · omega
    · rw [hq] at e; cases e
  · exact h
  · exfalso
    have hp : p s = true := by rcases s3 with e | e; · omega
                               · exact e
    have hq := hm s (r - 1) (by omega) hp
    rcases r4 with e | e
    · omega
    · rw [hq] at e; cases e

def pHigh (u : Int) (n : Int) : Bool := decide (u < (figLog (atF n)).hi)
def pLow (u : Int) (n : Int) : Bool := decide (u ≤ (figLog (atF n)).lo)
theorem pHigh_mono (u : Int) : ∀ a b, a ≤ b → pHigh u a = true → pHigh u b = true := by
  intro a b h hp
  have := (at_mono h).2
  simp only [pHigh, decide_eq_true_eq] at hp ⊢
  omega
theorem pLow_mono (u : Int) : ∀ a b, a ≤ b → pLow u a = true → pLow u b = true := by
  intro a b h hp
  have := (at_mono h).1
  simp only [pLow, decide_eq_true_eq] at hp ⊢
  omega
/-- The number of the figure above, and of that below and one. -/
def nBelow (u : Int) : Int := firstN (pHigh u)
def nAbove (u : Int) : Int := firstN (pLow u)
def belowF (u : Int) : Fig := atF (nBelow u - 1)
def aboveF (u : Int) : Fig := atF (nAbove u)
theorem nBelow_bd (u : Int) : -270000 ≤ nBelow u ∧ nBelow u ≤ 279000 := ⟨(firstN_is _).1, (firstN_is _).2.1⟩
theorem nAbove_bd (u : Int) : -270000 ≤ nAbove u ∧ nAbove u ≤ 279000 := ⟨(firstN_is _).1, (firstN_is _).2.1⟩
def isUnits (u : Int) : Bool := inR u (-31457280) 31457280

theorem hi_head (t : Int) : (figLog (atF (9000 * t))).hi = t * 1048576 + 1 := by
  have := atF_of (i := 0) (t := t) (by omega) (by omega)
  rw [Int.add_zero] at this
  rw [this]
  have e : (logOf ((1000 + 0) * 100000)) = ⟨0, 1⟩ := logOf_one
  simp only [figLog, e]
  omega
theorem lo_head (t : Int) : (figLog (atF (9000 * t))).lo = t * 1048576 := by
  have := atF_of (i := 0) (t := t) (by omega) (by omega)
  rw [Int.add_zero] at this
  rw [this]
  have e : (logOf ((1000 + 0) * 100000)) = ⟨0, 1⟩ := logOf_one
  simp only [figLog, e]
  omega
theorem lo_last (t : Int) : (figLog (atF (9000 * t - 1))).lo ≤ t * 1048576 - 1 := by
  have := atF_of (i := 8999) (t := t - 1) (by omega) (by omega)
  rw [show 9000 * t - 1 = 9000 * (t - 1) + 8999 from by omega, this]
  have := figLog_bd (f := ⟨1000 + 8999, t - 1⟩) (by simp) (by simp)
  simp only at this
  omega

/-- The program's search below: the first digits of a power of ten. -/
theorem below_of {u i : Int} (hu : isUnits u = true) (ht : -30 ≤ (u - 1) / 1048576) (h1 : 0 ≤ i) (h2 : i ≤ 9000)
    (h3 : i = 9000 ∨ u < (figLog ⟨1000 + i, (u - 1) / 1048576⟩).hi) (h4 : i = 0 ∨ ¬ u < (figLog ⟨1000 + (i - 1), (u - 1) / 1048576⟩).hi) :
    belowF u = ⟨999 + i, (u - 1) / 1048576⟩ ∧ 1 ≤ i := by
  have hb := inR_true hu
  obtain ⟨t, ht2⟩ : ∃ t, (u - 1) / 1048576 = t := ⟨_, rfl⟩
  rw [ht2] at h3 h4 ht ⊢
  have hi1 : 1 ≤ i := by
    rcases Int.lt_or_le 0 i with h | h
    · omega
    · have hi0 : i = 0 := by omega
      subst hi0
      rcases h3 with h3 | h3
      · omega
      · have := hi_head t
        rw [show 9000 * t = 9000 * t + 0 from by omega, atF_of (by omega) (by omega)] at this
        rw [this] at h3
        omega
  have hfirst : IsFirst (pHigh u) (9000 * t + i) := by
    refine ⟨by omega, by omega, ?_, ?_⟩
    · right
      simp only [pHigh, decide_eq_true_eq]
      rcases h3 with h3 | h3
      · subst h3
        rw [show 9000 * t + 9000 = 9000 * (t + 1) from by omega, hi_head]
        omega
      · by_cases h9 : i = 9000
        · subst h9
          rw [show 9000 * t + 9000 = 9000 * (t + 1) from by omega, hi_head]
          omega
        · rw [atF_of h1 (by omega)]
          exact h3
    · right
      simp only [pHigh, decide_eq_false_iff_not]
      rw [show 9000 * t + i - 1 = 9000 * t + (i - 1) from by omega, atF_of (by omega) (by omega)]
      rcases h4 with h4 | h4
      · omega
      · exact h4
  have e := first_unique (pHigh_mono u) (firstN_is (pHigh u)) hfirst
  refine ⟨?_, hi1⟩
  rw [belowF, nBelow, e, show 9000 * t + i - 1 = 9000 * t + (i - 1) from by omega, atF_of (by omega) (by omega)]
  simp only [Fig.mk.injEq, and_true]
  omega
theorem below_isFig {u i : Int} (hu : isUnits u = true) (ht : -30 ≤ (u - 1) / 1048576) (h1 : 1 ≤ i) (h2 : i ≤ 9000) : isFig ⟨999 + i, (u - 1) / 1048576⟩ = true := by
  have hb := inR_true hu
  simp only [isFig, Bool.and_eq_true]
  exact ⟨inR_mk (by omega), inR_mk (by omega)⟩
theorem below_none {u : Int} (hu : isUnits u = true) (ht : (u - 1) / 1048576 < -30) : isFig (belowF u) = false := by
  have hb := inR_true hu
  have hu2 : u = -31457280 := by omega
  have hfirst : IsFirst (pHigh u) (-270000) := by
    refine ⟨by omega, by omega, .inr ?_, .inl rfl⟩
    simp only [pHigh, decide_eq_true_eq]
    rw [show (-270000 : Int) = 9000 * -30 from rfl, hi_head]
    omega
  have e := first_unique (pHigh_mono u) (firstN_is (pHigh u)) hfirst
  rw [belowF, nBelow, e]
  decide
/-- The program's search above. -/
theorem above_of {u i : Int} (hu : isUnits u = true) (h1 : 0 ≤ i) (h2 : i ≤ 9000)
    (h3 : i = 9000 ∨ u ≤ (figLog ⟨1000 + i, u / 1048576⟩).lo) (h4 : i = 0 ∨ ¬ u ≤ (figLog ⟨1000 + (i - 1), u / 1048576⟩).lo) :
    aboveF u = if i = 9000 then ⟨1000, u / 1048576 + 1⟩ else ⟨1000 + i, u / 1048576⟩ := by
  have hb := inR_true hu
  obtain ⟨t, ht2⟩ : ∃ t, u / 1048576 = t := ⟨_, rfl⟩
  rw [ht2] at h3 h4 ⊢
  have hfirst : IsFirst (pLow u) (9000 * t + i) := by
    refine ⟨by omega, by omega, ?_, ?_⟩
    · right
      simp only [pLow, decide_eq_true_eq]
      by_cases h9 : i = 9000
      · subst h9
        rw [show 9000 * t + 9000 = 9000 * (t + 1) from by omega, lo_head]
        omega
      · rw [atF_of h1 (by omega)]
        rcases h3 with h3 | h3
        · omega
        · exact h3
    · right
      simp only [pLow, decide_eq_false_iff_not]
      by_cases h0 : i = 0
      · subst h0
        have := lo_last t
        rw [Int.add_zero]
        omega
      · rw [show 9000 * t + i - 1 = 9000 * t + (i - 1) from by omega, atF_of (by omega) (by omega)]
        rcases h4 with h4 | h4
        · omega
        · exact h4
  have e := first_unique (pLow_mono u) (firstN_is (pLow u)) hfirst
  rw [aboveF, nAbove, e]
  by_cases h9 : i = 9000
  · rw [if_pos h9]
    subst h9
    rw [show 9000 * t + 9000 = 9000 * (t + 1) + 0 from by omega, atF_of (by omega) (by omega)]
    rfl
  · rw [if_neg h9, atF_of h1 (by omega)]

/-- The span of an interval: two figures and the code. -/
def spanC (a : Itv) : Int := if isUnits a.lo && isUnits a.hi then (if isFig (belowF a.lo) && isFig (aboveF a.hi) then 0 else 4) else 2
def spanL (a : Itv) : Fig := if spanC a = 0 then belowF a.lo else ⟨0, 0⟩
def spanH (a : Itv) : Fig := if spanC a = 0 then aboveF a.hi else ⟨0, 0⟩
def chainSpanC (l : List Trm) : Int := if isChain l then spanC (chainLog0 l) else 1
def chainSpanL (l : List Trm) : Fig := if isChain l then spanL (chainLog0 l) else ⟨0, 0⟩
def chainSpanH (l : List Trm) : Fig := if isChain l then spanH (chainLog0 l) else ⟨0, 0⟩

end Go.Proofs.Ytfhppnmbmdpjeaa
