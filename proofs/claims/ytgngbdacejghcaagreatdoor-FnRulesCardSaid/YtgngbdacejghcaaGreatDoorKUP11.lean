/- DERIVED. Plain words: the span of a plan's result, its bound, errors for a bound. No program in sight. -/
import Derived.Test.YtgngbdacejghcaaGreatDoorKUP9
namespace Go.Proofs.YtgngbdacejghcaaGreatDoor
set_option linter.unusedVariables false
set_option linter.unusedSimpArgs false
def keyF (f : Fig) : Int := 10000 * f.t + f.d
def cmpF (a b : Fig) : Int := if keyF a < keyF b then -1 else if keyF b < keyF a then 1 else 0
theorem cmpF_lt {a b : Fig} : cmpF a b < 0 ↔ keyF a < keyF b := by
  unfold cmpF
  by_cases h1 : keyF a < keyF b
  · rw [if_pos h1]; omega
  · by_cases h2 : keyF b < keyF a
    · rw [if_neg h1, if_pos h2]; omega
    · rw [if_neg h1, if_neg h2]; omega
theorem isFig_bd {f : Fig} (h : isFig f = true) : 1000 ≤ f.d ∧ f.d ≤ 9999 ∧ -30 ≤ f.t ∧ f.t ≤ 30 := by
  simp only [isFig, Bool.and_eq_true] at h
  have h1 := inR_true h.1
  have h2 := inR_true h.2
  omega
def p10 (n : Int) : Int := 10 ^ n.toNat
end Go.Proofs.YtgngbdacejghcaaGreatDoor
