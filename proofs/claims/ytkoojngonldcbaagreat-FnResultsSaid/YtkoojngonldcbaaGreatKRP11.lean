/- DERIVED. Plain words: units of a plan, the length that is needed. No program in sight. -/
import Derived.Test.YtkoojngonldcbaaGreatKRP9
namespace Go.Proofs.YtkoojngonldcbaaGreat
set_option linter.unusedVariables false
set_option linter.unusedSimpArgs false
def isErs (e : Ers) : Bool := inR e.en 0 200 && (inR e.pa 0 200 && inR e.ey 0 200)
theorem isErs_bd {e : Ers} (h : isErs e = true) : 0 ≤ e.en ∧ e.en ≤ 200 ∧ 0 ≤ e.pa ∧ e.pa ≤ 200 ∧ 0 ≤ e.ey ∧ e.ey ≤ 200 := by
  simp only [isErs, Bool.and_eq_true] at h
  have h1 := inR_true h.1
  have h2 := inR_true h.2.1
  have h3 := inR_true h.2.2
  omega
def totE (e : Ers) : Int := 2 * e.en + e.pa + e.ey
theorem totE_bd {e : Ers} (h : isErs e = true) : 0 ≤ totE e ∧ totE e ≤ 800 := by
  have := isErs_bd h
  unfold totE
  omega
def unE (len : Int) (e : Ers) : Int := cdiv (totE e * 1048576) len
theorem cdiv_le {a L x : Int} (h : 0 < L) : cdiv a L ≤ x ↔ a ≤ x * L := by
  unfold cdiv
  have h1 : -x ≤ (-a) / L ↔ (-x) * L ≤ -a := Int.le_ediv_iff_mul_le h
  rw [Int.neg_mul] at h1
  omega
theorem cdiv_nonneg {a L : Int} (ha : 0 ≤ a) (h : 0 < L) : 0 ≤ cdiv a L := by
  unfold cdiv
  have : (-a) / L ≤ 0 := by
    have h1 := Int.ediv_le_ediv h (show -a ≤ 0 by omega)
    simpa using h1
  omega
theorem cdiv_self_le {a L : Int} (ha : 0 ≤ a) (h : 0 < L) : cdiv a L ≤ a := by
  rw [cdiv_le h]
  have := Int.mul_le_mul_of_nonneg_left (show (1 : Int) ≤ L by omega) ha
  omega
theorem unE_bd {len : Int} {e : Ers} (h : isErs e = true) (hl : 1 ≤ len) : 0 ≤ unE len e ∧ unE len e ≤ 838860800 := by
  have ht := totE_bd h
  have h1 := cdiv_nonneg (a := totE e * 1048576) (L := len) (by omega) (by omega)
  have h2 := cdiv_self_le (a := totE e * 1048576) (L := len) (by omega) (by omega)
  unfold unE
  omega
theorem countSet_bdk (l : List Mov) : ∀ k : Nat, 0 ≤ countSet (l.take k) ∧ countSet (l.take k) ≤ k
  | 0 => by simp [countSet]
  | k + 1 => by
    have ih := countSet_bdk l k
    by_cases hk : k < l.length
    · obtain ⟨m, hm⟩ := get_ex hk
      rw [take_snoc' hm, countSet_snoc]
      unfold setStep
      split <;> omega
    · rw [List.take_of_length_le (by omega)] at ih ⊢
      omega
theorem countSet_bd (l : List Mov) : 0 ≤ countSet l ∧ countSet l ≤ l.length := by
  have := countSet_bdk l l.length
  rwa [List.take_of_length_le (Nat.le_refl _)] at this
def codeBound (r : Rul) (c : List Trm) (e : Ers) : Int := if isErs e then codePlan r c else 1
theorem codeBound_0 {r : Rul} {c : List Trm} {e : Ers} (h : codeBound r c e = 0) : isErs e = true ∧ codePlan r c = 0 := by
  unfold codeBound at h
  split at h
  · rename_i h1; exact ⟨h1, h⟩
  · omega
def unP (len : Int) (c : List Trm) (e : Ers) : Int := (countSet (planL c) + 1) * (unE len e + 2)
theorem unP_bd {len : Int} {c : List Trm} {e : Ers} (h : isErs e = true) (hl : 1 ≤ len) (h17 : (planL c).length ≤ 17) : 0 ≤ unP len c e ∧ unP len c e ≤ 15099494436 := by
  have h1 := unE_bd h hl
  have h2 := countSet_bd (planL c)
  unfold unP
  have h3 := Int.mul_le_mul (show countSet (planL c) + 1 ≤ 18 by omega) (show unE len e + 2 ≤ 838860802 by omega) (by omega) (by omega)
  have h4 := Int.mul_nonneg (show 0 ≤ countSet (planL c) + 1 by omega) (show 0 ≤ unE len e + 2 by omega)
  omega
theorem isRule_len {r : Rul} (h : isRule r = true) : 1 ≤ r.len ∧ r.len ≤ 100000 := by
  have := inR_true (isRule_and h).1
  omega
end Go.Proofs.YtkoojngonldcbaaGreat
namespace Go.Proofs.YtkoojngonldcbaaGreat
set_option linter.unusedVariables false
set_option linter.unusedSimpArgs false
def keyF (f : Fig) : Int := 10000 * f.t + f.d
def cmpF (a b : Fig) : Int := if keyF a < keyF b then -1 else if keyF b < keyF a then 1 else 0
theorem cmpF_le {a b : Fig} : cmpF a b ≤ 0 ↔ keyF a ≤ keyF b := by
  unfold cmpF
  by_cases h1 : keyF a < keyF b
  · rw [if_pos h1]; omega
  · by_cases h2 : keyF b < keyF a
    · rw [if_neg h1, if_pos h2]; omega
    · rw [if_neg h1, if_neg h2]; omega
theorem cmpF_lt {a b : Fig} : cmpF a b < 0 ↔ keyF a < keyF b := by
  unfold cmpF
  by_cases h1 : keyF a < keyF b
  · rw [if_pos h1]; omega
  · by_cases h2 : keyF b < keyF a
    · rw [if_neg h1, if_pos h2]; omega
    · rw [if_neg h1, if_neg h2]; omega
theorem isFig_bd {f : Fig} (h : isFig f = true) : 1000 ≤ f.d ∧ f.d ≤ 9999 ∧ -30 ≤ f.t ∧ f.t ≤ 30 := by
  simp only [isFig, Bool.and_eq_true] at h
  have h1 := inR_true h.1
  have h2 := inR_true h.2
  omega
def p10 (n : Int) : Int := 10 ^ n.toNat
theorem p10_0 : p10 0 = 1 := rfl
def resI (c : List Trm) (u : Int) : Itv := ⟨(chainLog0 c).lo - u, (chainLog0 c).hi + u⟩
def planI (r : Rul) (c : List Trm) (e : Ers) : Itv := resI c (unP r.len c e)
def psC (r : Rul) (c : List Trm) (e : Ers) : Int := if codeBound r c e = 0 then spanC (planI r c e) else codeBound r c e
def psL (r : Rul) (c : List Trm) (e : Ers) : Fig := if codeBound r c e = 0 then spanL (planI r c e) else ⟨0, 0⟩
def psH (r : Rul) (c : List Trm) (e : Ers) : Fig := if codeBound r c e = 0 then spanH (planI r c e) else ⟨0, 0⟩
theorem psC_0 {r : Rul} {c : List Trm} {e : Ers} (h : psC r c e = 0) : codeBound r c e = 0 ∧ spanC (planI r c e) = 0 := by
  unfold psC at h
  split at h
  · rename_i h1; exact ⟨h1, h⟩
  · omega
theorem spanC_0 {a : Itv} (h : spanC a = 0) : isFig (spanL a) = true ∧ isFig (spanH a) = true ∧ spanL a = belowF a.lo ∧ spanH a = aboveF a.hi := by
  have e1 : spanL a = belowF a.lo := by unfold spanL; rw [if_pos h]
  have e2 : spanH a = aboveF a.hi := by unfold spanH; rw [if_pos h]
  rw [e1, e2]
  unfold spanC at h
  split at h
  · split at h
    · rename_i h1
      rw [Bool.and_eq_true] at h1
      exact ⟨h1.1, h1.2, rfl, rfl⟩
    · omega
  · omega
theorem key_at_mono {n m : Int} (h : n ≤ m) : keyF (atF n) ≤ keyF (atF m) := by
  simp only [keyF, atF]
  omega
theorem below_le_above {u v : Int} (h : u ≤ v) : keyF (belowF u) ≤ keyF (aboveF v) := by
  refine key_at_mono ?_
  obtain ⟨a1, a2, a3, a4⟩ := firstN_is (pHigh u)
  obtain ⟨b1, b2, b3, b4⟩ := firstN_is (pLow v)
  show nBelow u - 1 ≤ nAbove v
  unfold nBelow nAbove
  refine Int.not_lt.1 fun q => ?_
  have e1 : pLow v (firstN (pLow v)) = true := by
    rcases b3 with b | b
    · omega
    · exact b
  have e2 : pHigh u (firstN (pHigh u) - 1) = false := by
    rcases a4 with a | a
    · omega
    · exact a
  simp only [pLow, pHigh, decide_eq_true_eq, decide_eq_false_iff_not] at e1 e2
  have m := (at_mono (Int.le_of_lt q)).2
  have l := figLog_le (f := atF (firstN (pLow v))) (by simp only [atF]; omega) (by simp only [atF]; omega)
  omega
theorem span_le {a : Itv} (ha : a.lo ≤ a.hi) (h : spanC a = 0) : keyF (spanL a) ≤ keyF (spanH a) := by
  obtain ⟨_, _, e1, e2⟩ := spanC_0 h
  rw [e1, e2]
  exact below_le_above ha
theorem resI_le {c : List Trm} (h : isChain c = true) {u : Int} (hu : 0 ≤ u) : (resI c u).lo ≤ (resI c u).hi := by
  have := chainLog0_le h
  simp only [resI]
  omega
def candT (L H : Fig) (d : Int) : Int := (keyF H - d) / 10000
def hitT (L H : Fig) (d k : Int) : Bool := decide (keyF L ≤ 10000 * k + d) && decide (10000 * k + d ≤ keyF H)
def inSpan (L H : Fig) (d : Int) : Bool := decide (keyF L ≤ 10000 * candT L H d + d)
theorem hitT_iff {L H : Fig} {d k : Int} : hitT L H d k = true ↔ keyF L ≤ 10000 * k + d ∧ 10000 * k + d ≤ keyF H := by
  unfold hitT
  rw [Bool.and_eq_true, decide_eq_true_eq, decide_eq_true_eq]
theorem inSpan_iff {L H : Fig} {d : Int} : inSpan L H d = true ↔ keyF L ≤ 10000 * ((keyF H - d) / 10000) + d := by
  unfold inSpan candT
  rw [decide_eq_true_eq]
theorem inSpan_hit {L H : Fig} {d k : Int} (h : hitT L H d k = true) : inSpan L H d = true := by
  have h := hitT_iff.1 h
  refine inSpan_iff.2 ?_
  omega
theorem inSpan_cand {L H : Fig} {d : Int} (h : inSpan L H d = true) : hitT L H d (candT L H d) = true := by
  have h := inSpan_iff.1 h
  refine hitT_iff.2 ?_
  show keyF L ≤ 10000 * ((keyF H - d) / 10000) + d ∧ 10000 * ((keyF H - d) / 10000) + d ≤ keyF H
  omega
theorem cand_bd {L H : Fig} {d : Int} (hL : isFig L = true) (hH : isFig H = true) (h1 : 1000 ≤ d) (h2 : d ≤ 9999) (h : inSpan L H d = true) : L.t ≤ candT L H d ∧ candT L H d ≤ H.t ∧ -30 ≤ candT L H d ∧ candT L H d ≤ 30 := by
  have a := isFig_bd hL
  have b := isFig_bd hH
  have h := inSpan_iff.1 h
  show L.t ≤ (keyF H - d) / 10000 ∧ (keyF H - d) / 10000 ≤ H.t ∧ -30 ≤ (keyF H - d) / 10000 ∧ (keyF H - d) / 10000 ≤ 30
  have e1 : keyF L = 10000 * L.t + L.d := rfl
  have e2 : keyF H = 10000 * H.t + H.d := rfl
  omega
def wiC (r : Rul) (c : List Trm) (e : Ers) (f : Fig) : Int := if isFig f then psC r c e else 1
def wiB (r : Rul) (c : List Trm) (e : Ers) (f : Fig) : Bool := decide (wiC r c e f = 0) && inSpan (psL r c e) (psH r c e) f.d
end Go.Proofs.YtkoojngonldcbaaGreat
