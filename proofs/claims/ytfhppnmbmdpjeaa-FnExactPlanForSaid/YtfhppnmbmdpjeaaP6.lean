/- DERIVED. Plain words: spans of powers. No program in sight. -/
import Derived.Test.YtfhppnmbmdpjeaaP5
namespace Go.Proofs.Ytfhppnmbmdpjeaa
set_option linter.unusedVariables false
set_option linter.unusedSimpArgs false

theorem scaleI_le {a : Itv} {n d : Int} (hd : 1 ≤ d) : (scaleI a n d).lo ≤ (scaleI a n d).hi := by
  have h1 : min (a.lo * n) (a.hi * n) ≤ max (a.lo * n) (a.hi * n) := by omega
  have h2 : min (a.lo * n) (a.hi * n) / d ≤ max (a.lo * n) (a.hi * n) / d := Int.ediv_le_ediv (by omega) h1
  have h3 : max (a.lo * n) (a.hi * n) / d ≤ cdiv (max (a.lo * n) (a.hi * n)) d := by
    obtain ⟨x, hx⟩ : ∃ x, max (a.lo * n) (a.hi * n) = x := ⟨_, rfl⟩
    rw [hx]
    unfold cdiv
    have e1 := Int.mul_ediv_add_emod x d
    have e2 := Int.emod_nonneg x (show d ≠ 0 by omega)
    have e3 := Int.mul_ediv_add_emod (-x) d
    have e4 := Int.emod_nonneg (-x) (show d ≠ 0 by omega)
    have e5 : d * (x / d) + d * ((-x) / d) ≤ 0 := by omega
    rw [← Int.mul_add] at e5
    have e6 : x / d + (-x) / d ≤ 0 := by
      rcases Int.lt_or_le 0 (x / d + (-x) / d) with h | h
      · have := Int.mul_pos (show 0 < d by omega) h
        omega
      · exact h
    omega
  exact Int.le_trans h2 h3
theorem powI_bd {f : Fig} {n d : Int} (hf : isFig f = true) (h1 : -12 ≤ n) (h2 : n ≤ 12) (h3 : 1 ≤ d) : -396000000 ≤ (scaleI (figLog f) n d).lo ∧ (scaleI (figLog f) n d).lo ≤ 396000000 ∧ -396000000 ≤ (scaleI (figLog f) n d).hi ∧ (scaleI (figLog f) n d).hi ≤ 396000000 := by
  have hb := isFig_true hf
  have l := figLog_bd2 hb.1 hb.2.1 hb.2.2.1 hb.2.2.2
  have := scaleI_bd (a := figLog f) (n := n) (d := d) (A := 33000000) (B := 12) (by omega) (by omega) (by omega) (by omega) (by omega) (by omega) (by omega) (by omega) h3
  exact this
/-- The span of what a transfer tells. -/
def txC (a b : Int) (f : Fig) : Int := if isFig f then (if ordOk2 a b then spanC (expI a b f) else 2) else 1
def txL (a b : Int) (f : Fig) : Fig := if isFig f then (if ordOk2 a b then spanL (expI a b f) else ⟨0, 0⟩) else ⟨0, 0⟩
def txH (a b : Int) (f : Fig) : Fig := if isFig f then (if ordOk2 a b then spanH (expI a b f) else ⟨0, 0⟩) else ⟨0, 0⟩

end Go.Proofs.Ytfhppnmbmdpjeaa
