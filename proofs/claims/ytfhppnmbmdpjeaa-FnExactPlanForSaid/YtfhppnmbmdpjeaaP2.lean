/- DERIVED. Plain words: intervals, transfers, digits that are placed. No program in sight. -/
import Derived.Test.YtfhppnmbmdpjeaaP1
namespace Go.Proofs.Ytfhppnmbmdpjeaa
set_option linter.unusedVariables false
set_option linter.unusedSimpArgs false

theorem mul_bd {a n A B : Int} (h1 : -A ≤ a) (h2 : a ≤ A) (h3 : -B ≤ n) (h4 : n ≤ B) (hA : 0 ≤ A) : -(A * B) ≤ a * n ∧ a * n ≤ A * B := by
  have hB : 0 ≤ B := by omega
  by_cases ha : 0 ≤ a <;> by_cases hn : 0 ≤ n
  · have e1 := Int.mul_le_mul h2 h4 hn hA
    have e2 := Int.mul_nonneg ha hn
    have e3 := Int.mul_nonneg hA hB
    omega
  · have e1 := Int.mul_le_mul h2 (show -n ≤ B by omega) (by omega) hA
    have e2 := Int.mul_nonneg ha (show 0 ≤ -n by omega)
    have e3 := Int.mul_nonneg hA hB
    rw [Int.mul_neg] at e1 e2
    omega
  · have e1 := Int.mul_le_mul (show -a ≤ A by omega) h4 hn hA
    have e2 := Int.mul_nonneg (show 0 ≤ -a by omega) hn
    have e3 := Int.mul_nonneg hA hB
    rw [Int.neg_mul] at e1 e2
    omega
  · have e1 := Int.mul_le_mul (show -a ≤ A by omega) (show -n ≤ B by omega) (by omega) hA
    have e2 := Int.mul_nonneg (show 0 ≤ -a by omega) (show 0 ≤ -n by omega)
    have e3 := Int.mul_nonneg hA hB
    rw [Int.neg_mul_neg] at e1 e2
    omega

/-- An interval times n / d. -/
def scaleI (a : Itv) (n d : Int) : Itv := ⟨min (a.lo * n) (a.hi * n) / d, cdiv (max (a.lo * n) (a.hi * n)) d⟩

/-- Lexicographic: the bits first. -/
def le2 (s t : Int × Int) : Prop := s.2 < t.2 ∨ (s.2 = t.2 ∧ s.1 ≤ t.1)
theorem le2_lh {s t : Int × Int} (hs : 0 ≤ s.1) (h : le2 s t) : le2 (lowStep s) (highStep t) := by
  obtain ⟨x, a⟩ := s
  obtain ⟨y, b⟩ := t
  simp only [le2] at h hs
  have hl : (lowStep (x, a)).2 = a * 2 ∨ (lowStep (x, a)).2 = a * 2 + 1 := by
    by_cases hq : 1000000000 ≤ x * x / 100000000
    · rw [lowStep_pos (s := (x, a)) hq]; exact .inr rfl
    · rw [lowStep_neg (s := (x, a)) hq]; exact .inl rfl
  have hh : (highStep (y, b)).2 = b * 2 ∨ (highStep (y, b)).2 = b * 2 + 1 := by
    by_cases hq : 1000000000 ≤ cdiv (y * y) 100000000
    · rw [highStep_pos (s := (y, b)) hq]; exact .inr rfl
    · rw [highStep_neg (s := (y, b)) hq]; exact .inl rfl
  rcases h with h | ⟨h1, h2⟩
  · exact .inl (by omega)
  · subst h1
    have hm := mul_self_le hs h2
    by_cases hq : 1000000000 ≤ x * x / 100000000 <;> by_cases hr : 1000000000 ≤ cdiv (y * y) 100000000
    · rw [lowStep_pos (s := (x, a)) hq, highStep_pos (s := (y, a)) hr]; refine Or.inr ⟨rfl, ?_⟩; simp only [cdiv] at hq hr ⊢; omega
    · simp only [cdiv] at hr; omega
    · rw [lowStep_neg (s := (x, a)) hq, highStep_pos (s := (y, a)) hr]; simp only [le2]; omega
    · rw [lowStep_neg (s := (x, a)) hq, highStep_neg (s := (y, a)) hr]; refine Or.inr ⟨rfl, ?_⟩; simp only [cdiv] at hq hr ⊢; omega
theorem lowS_le_highS {x : Int} (h1 : 100000000 ≤ x) (h2 : x ≤ 999999999) : ∀ n, le2 (lowS x n) (highS x n)
  | 0 => .inr ⟨rfl, Int.le_refl _⟩
  | n + 1 => le2_lh (by have := (lowS_bd h1 h2 n).1; omega) (lowS_le_highS h1 h2 n)
theorem logOf_le {x : Int} (h1 : 100000000 ≤ x) (h2 : x ≤ 999999999) : (logOf x).lo < (logOf x).hi := by
  have := lowS_le_highS h1 h2 20
  simp only [logOf, le2] at this ⊢
  omega
theorem figLog_le {f : Fig} (h1 : 1000 ≤ f.d) (h2 : f.d ≤ 9999) : (figLog f).lo < (figLog f).hi := by
  have := logOf_le (x := f.d * 100000) (by omega) (by omega)
  simp only [figLog]
  omega
theorem chainLog0_lek (l : List Trm) (h : ∀ t ∈ l, okTrm t = true) : ∀ k : Nat, k ≤ l.length → (chainLog0 (l.take k)).lo ≤ (chainLog0 (l.take k)).hi
  | 0, _ => by simp [chainLog0]
  | k + 1, hk => by
    have ih := chainLog0_lek l h k (by omega)
    obtain ⟨t, ht⟩ := get_ex (l := l) (k := k) (by omega)
    obtain ⟨t1, t2, t3, t4⟩ := okTrm_bd (h t (List.mem_of_getElem? ht))
    have h2 := figLog_le t1 t2
    rw [take_snoc' ht, chainLog0_snoc]
    cases hq : t.dv
    · rw [logStep_n hq]; simp only; omega
    · rw [logStep_y hq]; simp only; omega
theorem chainLog0_le {l : List Trm} (h : isChain l = true) : (chainLog0 l).lo ≤ (chainLog0 l).hi := by
  have := chainLog0_lek l (isChain_true h).2.2.2 l.length (Nat.le_refl _)
  rwa [take_eq_all (Nat.le_refl _)] at this

/-- Whether a figure's digits agree with a chain up to some units, and the code. -/
def meetI (a b : Itv) : Bool := decide (a.lo ≤ b.hi) && decide (b.lo ≤ a.hi)
def codeDigits (l : List Trm) (f : Fig) (u : Int) : Int := if isChain l && isFig f then (if inR u 0 1048576 then 0 else 2) else 1
def checkDigits (l : List Trm) (f : Fig) (u : Int) : Bool := if codeDigits l f u = 0 then meetI ⟨(figLog f).lo - u, (figLog f).hi + u⟩ (chainLog0 l) else false

end Go.Proofs.Ytfhppnmbmdpjeaa
