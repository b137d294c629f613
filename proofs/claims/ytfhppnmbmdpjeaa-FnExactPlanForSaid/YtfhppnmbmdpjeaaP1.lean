/- DERIVED. Plain words: quotients, logarithms, chains' logarithms. No program in sight. -/
import Derived.Test.YtfhppnmbmdpjeaaP0
namespace Go.Proofs.Ytfhppnmbmdpjeaa
set_option linter.unusedVariables false
set_option linter.unusedSimpArgs false

/-- A quotient, rounded up. -/
def cdiv (a b : Int) : Int := -((-a) / b)

theorem tdiv_neg {a b : Int} (ha : a < 0) (hb : 0 < b) :
    a.tdiv b ≤ 0 ∧ a ≤ a.tdiv b ∧ a.tmod b ≤ 0 ∧ (a.tmod b = 0 → a.tdiv b = a / b) ∧ (a.tmod b ≠ 0 → a.tdiv b - 1 = a / b) := by
  obtain ⟨m, rfl⟩ : ∃ m, a = -m := ⟨-a, by omega⟩
  have hm : 0 < m := by omega
  rw [Int.neg_tdiv, Int.neg_tmod, Int.tdiv_eq_ediv_of_nonneg (by omega), Int.tmod_eq_emod_of_nonneg (by omega)]
  have h1 := Int.emod_nonneg m (show b ≠ 0 by omega)
  have h2 := Int.emod_lt_of_pos m hb
  have h3 := Int.mul_ediv_add_emod m b
  have h4 : 0 ≤ m / b := Int.ediv_nonneg (by omega) (by omega)
  have h5 : m / b ≤ m := by
    have := Int.ediv_le_self b (show 0 ≤ m by omega)
    exact this
  refine ⟨by omega, by omega, by omega, fun h => ?_, fun h => ?_⟩
  · have : m % b = 0 := by omega
    have := ((Int.ediv_emod_unique (a := -m) (b := b) (r := 0) (q := -(m / b)) hb).2 ⟨by rw [Int.mul_neg]; omega, by omega, by omega⟩).1
    exact this.symm
  · have := ((Int.ediv_emod_unique (a := -m) (b := b) (r := b - m % b) (q := -(m / b) - 1) hb).2 ⟨by rw [Int.mul_sub, Int.mul_neg]; omega, by omega, by omega⟩).1
    exact this.symm

theorem pow2_20 {k : Nat} (h : k ≤ 20) : (2 : Int) ^ k ≤ 1048576 := by
  have h1 : 2 ^ k ≤ 2 ^ 20 := Nat.pow_le_pow_right (by decide) h
  have h2 : ((2 ^ k : Nat) : Int) ≤ ((2 ^ 20 : Nat) : Int) := Int.ofNat_le.2 h1
  simpa using h2

theorem mul_self_le {a b : Int} (h0 : 0 ≤ a) (h : a ≤ b) : a * a ≤ b * b := Int.mul_le_mul h h h0 (by omega)

/-- One step of the lower logarithm: the square, and the next bit. -/
def lowStep (s : Int × Int) : Int × Int :=
  if 1000000000 ≤ s.1 * s.1 / 100000000 then (s.1 * s.1 / 100000000 / 10, s.2 * 2 + 1) else (s.1 * s.1 / 100000000, s.2 * 2)
/-- One step of the upper logarithm. -/
def highStep (s : Int × Int) : Int × Int :=
  if 1000000000 ≤ cdiv (s.1 * s.1) 100000000 then (cdiv (cdiv (s.1 * s.1) 100000000) 10, s.2 * 2 + 1) else (cdiv (s.1 * s.1) 100000000, s.2 * 2)
def lowS (x : Int) : Nat → Int × Int
  | 0 => (x, 0)
  | n + 1 => lowStep (lowS x n)
def highS (x : Int) : Nat → Int × Int
  | 0 => (x, 0)
  | n + 1 => highStep (highS x n)

theorem lowStep_pos {s : Int × Int} (h : 1000000000 ≤ s.1 * s.1 / 100000000) : lowStep s = (s.1 * s.1 / 100000000 / 10, s.2 * 2 + 1) := if_pos h
theorem lowStep_neg {s : Int × Int} (h : ¬ 1000000000 ≤ s.1 * s.1 / 100000000) : lowStep s = (s.1 * s.1 / 100000000, s.2 * 2) := if_neg h
theorem highStep_pos {s : Int × Int} (h : 1000000000 ≤ cdiv (s.1 * s.1) 100000000) : highStep s = (cdiv (cdiv (s.1 * s.1) 100000000) 10, s.2 * 2 + 1) := if_pos h
theorem highStep_neg {s : Int × Int} (h : ¬ 1000000000 ≤ cdiv (s.1 * s.1) 100000000) : highStep s = (cdiv (s.1 * s.1) 100000000, s.2 * 2) := if_neg h

theorem lowS_bd {x : Int} (h1 : 100000000 ≤ x) (h2 : x ≤ 999999999) : ∀ n : Nat, 100000000 ≤ (lowS x n).1 ∧ (lowS x n).1 ≤ 999999999 ∧ 0 ≤ (lowS x n).2 ∧ (lowS x n).2 < 2 ^ n
  | 0 => by simp [lowS]; omega
  | n + 1 => by
    obtain ⟨a1, a2, a3, a4⟩ := lowS_bd h1 h2 n
    have b1 := mul_self_le (by omega : (0 : Int) ≤ 100000000) a1
    have b2 := mul_self_le (by omega) a2
    have hp : (2 : Int) ^ (n + 1) = 2 ^ n * 2 := by rw [Int.pow_succ]
    rw [hp, lowS]
    by_cases hq : 1000000000 ≤ (lowS x n).1 * (lowS x n).1 / 100000000
    · rw [lowStep_pos hq]; simp only; omega
    · rw [lowStep_neg hq]; simp only; omega

theorem highS_bd {x : Int} (h1 : 100000000 ≤ x) (h2 : x ≤ 999999999) : ∀ n : Nat, 100000000 ≤ (highS x n).1 ∧ (highS x n).1 ≤ 1000000000 ∧ 0 ≤ (highS x n).2 ∧ (highS x n).2 < 2 ^ n
  | 0 => by simp [highS]; omega
  | n + 1 => by
    obtain ⟨a1, a2, a3, a4⟩ := highS_bd h1 h2 n
    have b1 := mul_self_le (by omega : (0 : Int) ≤ 100000000) a1
    have b2 := mul_self_le (by omega) a2
    have hp : (2 : Int) ^ (n + 1) = 2 ^ n * 2 := by rw [Int.pow_succ]
    rw [hp, highS]
    by_cases hq : 1000000000 ≤ cdiv ((highS x n).1 * (highS x n).1) 100000000
    · rw [highStep_pos hq]; simp only [cdiv] at hq ⊢; omega
    · rw [highStep_neg hq]; simp only [cdiv] at hq ⊢; omega

/-- The logarithm of x. -/
def logOf (x : Int) : Itv := ⟨(lowS x 20).2, (highS x 20).2 + 1⟩
theorem logOf_bd {x : Int} (h1 : 100000000 ≤ x) (h2 : x ≤ 999999999) : 0 ≤ (logOf x).lo ∧ (logOf x).lo ≤ 1048575 ∧ 1 ≤ (logOf x).hi ∧ (logOf x).hi ≤ 1048576 := by
  have a := lowS_bd h1 h2 20
  have b := highS_bd h1 h2 20
  simp only [logOf]
  have hp : (2 : Int) ^ 20 = 1048576 := by decide
  rw [hp] at a b
  omega

/-- The logarithm of a figure. -/
def figLog (f : Fig) : Itv := ⟨(logOf (f.d * 100000)).lo + f.t * 1048576, (logOf (f.d * 100000)).hi + f.t * 1048576⟩
theorem figLog_bd {f : Fig} (h1 : 1000 ≤ f.d) (h2 : f.d ≤ 9999) : f.t * 1048576 ≤ (figLog f).lo ∧ (figLog f).lo ≤ f.t * 1048576 + 1048575 ∧ f.t * 1048576 + 1 ≤ (figLog f).hi ∧ (figLog f).hi ≤ f.t * 1048576 + 1048576 := by
  have := logOf_bd (x := f.d * 100000) (by omega) (by omega)
  simp only [figLog]
  omega

theorem figLog_bd2 {f : Fig} (h1 : 1000 ≤ f.d) (h2 : f.d ≤ 9999) (h3 : -30 ≤ f.t) (h4 : f.t ≤ 30) : -33000000 ≤ (figLog f).lo ∧ (figLog f).lo ≤ 33000000 ∧ -33000000 ≤ (figLog f).hi ∧ (figLog f).hi ≤ 33000000 := by
  have := figLog_bd h1 h2
  omega

def addI (a b : Itv) : Itv := ⟨a.lo + b.lo, a.hi + b.hi⟩
def subI (a b : Itv) : Itv := ⟨a.lo - b.hi, a.hi - b.lo⟩
def logStep (a : Itv) (t : Trm) : Itv := if t.dv then subI a (figLog t.f) else addI a (figLog t.f)
def chainLog0 (l : List Trm) : Itv := l.foldl logStep ⟨0, 0⟩
theorem chainLog0_snoc (l : List Trm) (t : Trm) : chainLog0 (l ++ [t]) = logStep (chainLog0 l) t := by simp [chainLog0]
theorem logStep_y {a : Itv} {t : Trm} (h : t.dv = true) : logStep a t = ⟨a.lo - (figLog t.f).hi, a.hi - (figLog t.f).lo⟩ := by simp [logStep, h, subI]
theorem logStep_n {a : Itv} {t : Trm} (h : t.dv = false) : logStep a t = ⟨a.lo + (figLog t.f).lo, a.hi + (figLog t.f).hi⟩ := by simp [logStep, h, addI]
theorem chainLog0_bdk (l : List Trm) (h : ∀ t ∈ l, okTrm t = true) : ∀ k : Nat, k ≤ l.length → -33000000 * (k : Int) ≤ (chainLog0 (l.take k)).lo ∧ (chainLog0 (l.take k)).lo ≤ 33000000 * k ∧ -33000000 * (k : Int) ≤ (chainLog0 (l.take k)).hi ∧ (chainLog0 (l.take k)).hi ≤ 33000000 * k
  | 0, _ => by simp [chainLog0]
  | k + 1, hk => by
    have ih := chainLog0_bdk l h k (by omega)
    obtain ⟨t, ht⟩ := get_ex (l := l) (k := k) (by omega)
    obtain ⟨t1, t2, t3, t4⟩ := okTrm_bd (h t (List.mem_of_getElem? ht))
    have h2 := figLog_bd2 t1 t2 t3 t4
    rw [take_snoc' ht, chainLog0_snoc]
    cases hq : t.dv
    · rw [logStep_n hq]; simp only; omega
    · rw [logStep_y hq]; simp only; omega
theorem chainLog0_bd {l : List Trm} (h : isChain l = true) : -198000000 ≤ (chainLog0 l).lo ∧ (chainLog0 l).lo ≤ 198000000 ∧ -198000000 ≤ (chainLog0 l).hi ∧ (chainLog0 l).hi ≤ 198000000 := by
  have hc := isChain_true h
  have := chainLog0_bdk l hc.2.2.2 l.length (Nat.le_refl _)
  rw [take_eq_all (Nat.le_refl _)] at this
  omega
/-- The logarithm of a chain, and the code. -/
def chainLog (l : List Trm) : Itv := if isChain l then chainLog0 l else ⟨0, 0⟩

end Go.Proofs.Ytfhppnmbmdpjeaa
