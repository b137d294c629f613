/- DERIVED. Plain words: the span of a plan's result, its bound, errors for a bound. No program in sight. -/
import Derived.Test.YtkoojngonldcbaaGreatKBP10
namespace Go.Proofs.YtkoojngonldcbaaGreat
set_option linter.unusedVariables false
set_option linter.unusedSimpArgs false
def keyF (f : Fig) : Int := 10000 * f.t + f.d
def cmpF (a b : Fig) : Int := if keyF a < keyF b then -1 else if keyF b < keyF a then 1 else 0
theorem cmpF_le {a b : Fig} : cmpF a b ≤ 0 ↔ keyF a ≤ keyF b := by
  unfold cmpF
  by_cases h1 : keyF a < keyF b
  · rw [if_pos h1]; omega
  · by_cases h2 : keyF b < keyF a
    · rw [if_neg h1, if_pos h2]; omega
    · rw [if_neg h1, if_neg h2]; omega
theorem cmpF_lt {a b : Fig} : cmpF a b < 0 ↔ keyF a < keyF b := by
  unfold cmpF
  by_cases h1 : keyF a < keyF b
  · rw [if_pos h1]; omega
  · by_cases h2 : keyF b < keyF a
    · rw [if_neg h1, if_pos h2]; omega
    · rw [if_neg h1, if_neg h2]; omega
theorem isFig_bd {f : Fig} (h : isFig f = true) : 1000 ≤ f.d ∧ f.d ≤ 9999 ∧ -30 ≤ f.t ∧ f.t ≤ 30 := by
  simp only [isFig, Bool.and_eq_true] at h
  have h1 := inR_true h.1
  have h2 := inR_true h.2
  omega
def p10 (n : Int) : Int := 10 ^ n.toNat
theorem p10_0 : p10 0 = 1 := rfl
theorem p10_s {n : Int} (h : 0 ≤ n) : p10 (n + 1) = p10 n * 10 := by
  unfold p10
  rw [show (n + 1).toNat = n.toNat + 1 by omega, Int.pow_succ]
theorem p10_bd {n : Int} (h : 0 ≤ n) (h2 : n ≤ 7) : 1 ≤ p10 n ∧ p10 n ≤ 10000000 := by
  have : n = 0 ∨ n = 1 ∨ n = 2 ∨ n = 3 ∨ n = 4 ∨ n = 5 ∨ n = 6 ∨ n = 7 := by omega
  rcases this with rfl | rfl | rfl | rfl | rfl | rfl | rfl | rfl <;> decide
def relN (a b : Fig) : Int := a.d * p10 (max 0 (a.t - b.t))
def relD (a b : Fig) : Int := b.d * p10 (max 0 (b.t - a.t))
def relQ (a b : Fig) : Int := cdiv (1000000 * max (relN a b - relD a b) (relD a b - relN a b)) (relD a b)
def relE (a b : Fig) : Int := if a.t - b.t > 1 then 9000001 else if a.t - b.t < -6 then 1000000 else relQ a b
def relC (a b : Fig) : Int := if relE a b > 9000000 then 3 else 0
def relV (a b : Fig) : Int := if relE a b > 9000000 then 0 else relE a b
theorem relN_bd {a b : Fig} (ha : isFig a = true) (h1 : a.t - b.t ≤ 1) : 1000 ≤ relN a b ∧ relN a b ≤ 99990 := by
  have h := isFig_bd ha
  unfold relN
  have : max 0 (a.t - b.t) = 0 ∨ max 0 (a.t - b.t) = 1 := by omega
  rcases this with e | e
  · rw [e, p10_0]; omega
  · rw [e, show p10 1 = 10 from rfl]; omega
theorem relD_bd {a b : Fig} (hb : isFig b = true) (h1 : -7 ≤ a.t - b.t) : 1000 ≤ relD a b ∧ relD a b ≤ 99990000000 := by
  have h := isFig_bd hb
  have hp := p10_bd (n := max 0 (b.t - a.t)) (by omega) (by omega)
  unfold relD
  generalize p10 (max 0 (b.t - a.t)) = p at hp
  have e1 := Int.mul_le_mul (show b.d ≤ 9999 by omega) hp.2 (by omega) (by omega)
  have e2 := Int.mul_le_mul (show 1000 ≤ b.d by omega) hp.1 (by omega) (by omega)
  omega
theorem relE_seven {a b : Fig} (ha : isFig a = true) (hb : isFig b = true) (h : a.t - b.t = -7) : relQ a b = 1000000 := by
  have h1 := isFig_bd ha
  have h2 := isFig_bd hb
  have e1 : relN a b = a.d := by unfold relN; rw [show max 0 (a.t - b.t) = 0 by omega, p10_0]; omega
  have e2 : relD a b = b.d * 10000000 := by unfold relD; rw [show max 0 (b.t - a.t) = 7 by omega]; rfl
  unfold relQ
  rw [e1, e2, show max (a.d - b.d * 10000000) (b.d * 10000000 - a.d) = b.d * 10000000 - a.d by omega]
  have k1 := (cdiv_le (a := 1000000 * (b.d * 10000000 - a.d)) (L := b.d * 10000000) (x := 1000000) (by omega)).2 (by omega)
  have k2 : ¬ cdiv (1000000 * (b.d * 10000000 - a.d)) (b.d * 10000000) ≤ 999999 := fun q => by
    have := (cdiv_le (a := 1000000 * (b.d * 10000000 - a.d)) (L := b.d * 10000000) (x := 999999) (by omega)).1 q
    omega
  omega
theorem relE_mid {a b : Fig} (ha : isFig a = true) (hb : isFig b = true) (h1 : ¬ 2 ≤ a.t - b.t) (h2 : ¬ a.t - b.t ≤ -8) : relE a b = relQ a b := by
  unfold relE
  rw [if_neg (by omega)]
  by_cases h : a.t - b.t = -7
  · rw [if_pos (by omega), relE_seven ha hb h]
  · rw [if_neg (by omega)]
theorem relQ_bd {a b : Fig} (ha : isFig a = true) (hb : isFig b = true) (h1 : ¬ 2 ≤ a.t - b.t) (h2 : ¬ a.t - b.t ≤ -8) : 0 ≤ relQ a b ∧ relQ a b ≤ 100000000000000000 := by
  have hn := relN_bd (b := b) ha (by omega)
  have hd := relD_bd (a := a) hb (by omega)
  have e1 := cdiv_nonneg (a := 1000000 * max (relN a b - relD a b) (relD a b - relN a b)) (L := relD a b) (by omega) (by omega)
  have e2 := cdiv_self_le (a := 1000000 * max (relN a b - relD a b) (relD a b - relN a b)) (L := relD a b) (by omega) (by omega)
  unfold relQ
  omega
def resI (c : List Trm) (u : Int) : Itv := ⟨(chainLog0 c).lo - u, (chainLog0 c).hi + u⟩
def planI (r : Rul) (c : List Trm) (e : Ers) : Itv := resI c (unP r.len c e)
def psC (r : Rul) (c : List Trm) (e : Ers) : Int := if codeBound r c e = 0 then spanC (planI r c e) else codeBound r c e
def psL (r : Rul) (c : List Trm) (e : Ers) : Fig := if codeBound r c e = 0 then spanL (planI r c e) else ⟨0, 0⟩
def psH (r : Rul) (c : List Trm) (e : Ers) : Fig := if codeBound r c e = 0 then spanH (planI r c e) else ⟨0, 0⟩
theorem psC_0 {r : Rul} {c : List Trm} {e : Ers} (h : psC r c e = 0) : codeBound r c e = 0 ∧ spanC (planI r c e) = 0 := by
  unfold psC at h
  split at h
  · rename_i h1; exact ⟨h1, h⟩
  · omega
theorem spanC_0 {a : Itv} (h : spanC a = 0) : isFig (spanL a) = true ∧ isFig (spanH a) = true ∧ spanL a = belowF a.lo ∧ spanH a = aboveF a.hi := by
  have e1 : spanL a = belowF a.lo := by unfold spanL; rw [if_pos h]
  have e2 : spanH a = aboveF a.hi := by unfold spanH; rw [if_pos h]
  rw [e1, e2]
  unfold spanC at h
  split at h
  · split at h
    · rename_i h1
      rw [Bool.and_eq_true] at h1
      exact ⟨h1.1, h1.2, rfl, rfl⟩
    · omega
  · omega
theorem key_at_mono {n m : Int} (h : n ≤ m) : keyF (atF n) ≤ keyF (atF m) := by
  simp only [keyF, atF]
  omega
theorem below_le_above {u v : Int} (h : u ≤ v) : keyF (belowF u) ≤ keyF (aboveF v) := by
  refine key_at_mono ?_
  obtain ⟨a1, a2, a3, a4⟩ := firstN_is (pHigh u)
  obtain ⟨b1, b2, b3, b4⟩ := firstN_is (pLow v)
  show nBelow u - 1 ≤ nAbove v
  unfold nBelow nAbove
  refine Int.not_lt.1 fun q => ?_
  have e1 : pLow v (firstN (pLow v)) = true := by
    rcases b3 with b | b
    · omega
    · exact b
  have e2 : pHigh u (firstN (pHigh u) - 1) = false := by
    rcases a4 with a | a
    · omega
    · exact a
  simp only [pLow, pHigh, decide_eq_true_eq, decide_eq_false_iff_not] at e1 e2
  have m := (at_mono (Int.le_of_lt q)).2
  have l := figLog_le (f := atF (firstN (pLow v))) (by simp only [atF]; omega) (by simp only [atF]; omega)
  omega
theorem span_le {a : Itv} (ha : a.lo ≤ a.hi) (h : spanC a = 0) : keyF (spanL a) ≤ keyF (spanH a) := by
  obtain ⟨_, _, e1, e2⟩ := spanC_0 h
  rw [e1, e2]
  exact below_le_above ha
theorem resI_le {c : List Trm} (h : isChain c = true) {u : Int} (hu : 0 ≤ u) : (resI c u).lo ≤ (resI c u).hi := by
  have := chainLog0_le h
  simp only [resI]
  omega
def pbC (r : Rul) (c : List Trm) (e : Ers) : Int := if psC r c e = 0 then relC (psH r c e) (psL r c e) else psC r c e
def pbV (r : Rul) (c : List Trm) (e : Ers) : Int := if psC r c e = 0 then relV (psH r c e) (psL r c e) else 0
def candT (L H : Fig) (d : Int) : Int := (keyF H - d) / 10000
def hitT (L H : Fig) (d k : Int) : Bool := decide (keyF L ≤ 10000 * k + d) && decide (10000 * k + d ≤ keyF H)
def inSpan (L H : Fig) (d : Int) : Bool := decide (keyF L ≤ 10000 * candT L H d + d)
theorem hitT_iff {L H : Fig} {d k : Int} : hitT L H d k = true ↔ keyF L ≤ 10000 * k + d ∧ 10000 * k + d ≤ keyF H := by
  unfold hitT
  rw [Bool.and_eq_true, decide_eq_true_eq, decide_eq_true_eq]
theorem inSpan_iff {L H : Fig} {d : Int} : inSpan L H d = true ↔ keyF L ≤ 10000 * ((keyF H - d) / 10000) + d := by
  unfold inSpan candT
  rw [decide_eq_true_eq]
theorem inSpan_hit {L H : Fig} {d k : Int} (h : hitT L H d k = true) : inSpan L H d = true := by
  have h := hitT_iff.1 h
  refine inSpan_iff.2 ?_
  omega
theorem inSpan_cand {L H : Fig} {d : Int} (h : inSpan L H d = true) : hitT L H d (candT L H d) = true := by
  have h := inSpan_iff.1 h
  refine hitT_iff.2 ?_
  show keyF L ≤ 10000 * ((keyF H - d) / 10000) + d ∧ 10000 * ((keyF H - d) / 10000) + d ≤ keyF H
  omega
theorem cand_bd {L H : Fig} {d : Int} (hL : isFig L = true) (hH : isFig H = true) (h1 : 1000 ≤ d) (h2 : d ≤ 9999) (h : inSpan L H d = true) : L.t ≤ candT L H d ∧ candT L H d ≤ H.t ∧ -30 ≤ candT L H d ∧ candT L H d ≤ 30 := by
  have a := isFig_bd hL
  have b := isFig_bd hH
  have h := inSpan_iff.1 h
  show L.t ≤ (keyF H - d) / 10000 ∧ (keyF H - d) / 10000 ≤ H.t ∧ -30 ≤ (keyF H - d) / 10000 ∧ (keyF H - d) / 10000 ≤ 30
  have e1 : keyF L = 10000 * L.t + L.d := rfl
  have e2 : keyF H = 10000 * H.t + H.d := rfl
  omega
def wiC (r : Rul) (c : List Trm) (e : Ers) (f : Fig) : Int := if isFig f then psC r c e else 1
def wiB (r : Rul) (c : List Trm) (e : Ers) (f : Fig) : Bool := decide (wiC r c e f = 0) && inSpan (psL r c e) (psH r c e) f.d
end Go.Proofs.YtkoojngonldcbaaGreat
