/- DERIVED. Plain words: transfers that are placed. No program in sight. -/
import Derived.Test.YtfhppnmbmdpjeaaP3
namespace Go.Proofs.Ytfhppnmbmdpjeaa
set_option linter.unusedVariables false
set_option linter.unusedSimpArgs false

theorem ordScale_bd (s : Int) : -1 ≤ ordScale s ∧ ordScale s ≤ 3 := by
  rcases ordScale_cases s with ⟨_, h⟩ | ⟨_, h⟩ | ⟨_, h⟩ | ⟨_, h⟩ | ⟨_, _, _, _, h⟩ <;> rw [h] <;> omega
/-- The numerator and the denominator of the exponent of a transfer. -/
def expN (a b : Int) : Int := if ordScale a < 0 then -ordScale b else ordScale b
def expD (a b : Int) : Int := if ordScale a < 0 then -ordScale a else ordScale a
theorem exp_bd {a b : Int} (h : ordScale a ≠ 0) : -3 ≤ expN a b ∧ expN a b ≤ 3 ∧ 1 ≤ expD a b ∧ expD a b ≤ 3 := by
  have h1 := ordScale_bd a
  have h2 := ordScale_bd b
  unfold expN expD
  split <;> omega
/-- Both scales have an order. -/
def ordOk2 (a b : Int) : Bool := !(ordScale a == 0 || ordScale b == 0)
theorem ordOk2_true {a b : Int} (h : ordOk2 a b = true) : ordScale a ≠ 0 ∧ ordScale b ≠ 0 := by simpa [ordOk2] using h
def codeExact (a b : Int) (f : Fig) : Int := if isFig f then (if ordOk2 a b then 0 else 2) else 1
def expI (a b : Int) (f : Fig) : Itv := scaleI (figLog f) (expN a b) (expD a b)
def transF (a b : Int) (f r : Fig) : Fig := if isFig f && isFig r then (if ordOk2 a b then limF (placeF r.d (expI a b f)) else ⟨0, 0⟩) else ⟨0, 0⟩
def transC (a b : Int) (f r : Fig) : Int := if isFig f && isFig r then (if ordOk2 a b then codeLim (placeF r.d (expI a b f)) else 2) else 1

theorem cdiv_bd {x d M : Int} (hd : 1 ≤ d) (h1 : -M ≤ x) (h2 : x ≤ M) (hM : 0 ≤ M) : -M ≤ cdiv x d ∧ cdiv x d ≤ M := by
  have k1 : -M ≤ (-x) / d := Int.le_ediv_of_mul_le (by omega) (by
    have := Int.mul_le_mul_of_nonneg_left hd hM
    rw [Int.neg_mul]
    omega)
  have k2 : (-x) / d ≤ M := by
    have h := Int.ediv_lt_of_lt_mul (a := -x) (b := M + 1) (c := d) (by omega) (by
      have := Int.mul_le_mul_of_nonneg_left hd (show 0 ≤ M + 1 by omega)
      omega)
    omega
  unfold cdiv
  omega
theorem fdiv_bd {x d M : Int} (hd : 1 ≤ d) (h1 : -M ≤ x) (h2 : x ≤ M) (hM : 0 ≤ M) : -M ≤ x / d ∧ x / d ≤ M := by
  have := cdiv_bd (x := -x) hd (by omega) (by omega) hM
  unfold cdiv at this
  rw [Int.neg_neg] at this
  omega
theorem scaleI_bd {a : Itv} {n d A B : Int} (h1 : -A ≤ a.lo) (h2 : a.lo ≤ A) (h3 : -A ≤ a.hi) (h4 : a.hi ≤ A) (h5 : -B ≤ n) (h6 : n ≤ B) (hA : 0 ≤ A) (hB : 0 ≤ B) (hd : 1 ≤ d) :
    -(A * B) ≤ (scaleI a n d).lo ∧ (scaleI a n d).lo ≤ A * B ∧ -(A * B) ≤ (scaleI a n d).hi ∧ (scaleI a n d).hi ≤ A * B := by
  have m1 := mul_bd h1 h2 h5 h6 hA
  have m2 := mul_bd h3 h4 h5 h6 hA
  have hAB : 0 ≤ A * B := Int.mul_nonneg hA hB
  have k1 := fdiv_bd (x := min (a.lo * n) (a.hi * n)) hd (by omega) (by omega) hAB
  have k2 := cdiv_bd (x := max (a.lo * n) (a.hi * n)) hd (by omega) (by omega) hAB
  exact ⟨k1.1, k1.2, k2.1, k2.2⟩
theorem expI_bd {a b : Int} {f : Fig} (hf : isFig f = true) (h : ordScale a ≠ 0) : -99000000 ≤ (expI a b f).lo ∧ (expI a b f).lo ≤ 99000000 ∧ -99000000 ≤ (expI a b f).hi ∧ (expI a b f).hi ≤ 99000000 := by
  have e := exp_bd (b := b) h
  have hb := isFig_true hf
  have l := figLog_bd2 hb.1 hb.2.1 hb.2.2.1 hb.2.2.2
  have := scaleI_bd (a := figLog f) (n := expN a b) (d := expD a b) (A := 33000000) (B := 3) (by omega) (by omega) (by omega) (by omega) (by omega) (by omega) (by omega) (by omega) (by omega)
  exact this
theorem gapOf_log (g : Int) (a : Itv) : gapOf g a = a.lo + a.hi - (logOf (g * 100000)).lo - (logOf (g * 100000)).hi := by
  simp [gapOf, figLog]

end Go.Proofs.Ytfhppnmbmdpjeaa
