/- DERIVED. Plain words: the span of a plan's result, its bound, errors for a bound. No program in sight. -/
import Derived.Test.YtkoojngonldcbaaGreatKGP10
import Derived.Test.YtkoojngonldcbaaGreatKGM12
import Derived.Test.YtkoojngonldcbaaGreatKGM35
import Derived.Test.YtkoojngonldcbaaGreatKGM17
import Derived.Test.YtkoojngonldcbaaGreatKGBA
import Derived.Test.YtkoojngonldcbaaGreatKGM13
import Derived.Test.YtkoojngonldcbaaGreatKGPA
namespace Go.Proofs.YtkoojngonldcbaaGreat
set_option linter.unusedVariables false
set_option linter.unusedSimpArgs false
def keyF (f : Fig) : Int := 10000 * f.t + f.d
def cmpF (a b : Fig) : Int := if keyF a < keyF b then -1 else if keyF b < keyF a then 1 else 0
theorem cmpF_lt {a b : Fig} : cmpF a b < 0 ↔ keyF a < keyF b := by
  unfold cmpF
  by_cases h1 : keyF a < keyF b
  · rw [if_pos h1]; omega
  · by_cases h2 : keyF b < keyF a
    · rw [if_neg h1, if_pos h2]; omega
    · rw [if_neg h1, if_neg h2]; omega
theorem isFig_bd {f : Fig} (h : isFig f = true) : 1000 ≤ f.d ∧ f.d ≤ 9999 ∧ -30 ≤ f.t ∧ f.t ≤ 30 := by
  simp only [isFig, Bool.and_eq_true] at h
  have h1 := inR_true h.1
  have h2 := inR_true h.2
  omega
def p10 (n : Int) : Int := 10 ^ n.toNat
theorem p10_0 : p10 0 = 1 := rfl
theorem p10_s {n : Int} (h : 0 ≤ n) : p10 (n + 1) = p10 n * 10 := by
  unfold p10
  rw [show (n + 1).toNat = n.toNat + 1 by omega, Int.pow_succ]
theorem p10_bd {n : Int} (h : 0 ≤ n) (h2 : n ≤ 7) : 1 ≤ p10 n ∧ p10 n ≤ 10000000 := by
  have : n = 0 ∨ n = 1 ∨ n = 2 ∨ n = 3 ∨ n = 4 ∨ n = 5 ∨ n = 6 ∨ n = 7 := by omega
  rcases this with rfl | rfl | rfl | rfl | rfl | rfl | rfl | rfl <;> decide
def relN (a b : Fig) : Int := a.d * p10 (max 0 (a.t - b.t))
def relD (a b : Fig) : Int := b.d * p10 (max 0 (b.t - a.t))
def relQ (a b : Fig) : Int := cdiv (1000000 * max (relN a b - relD a b) (relD a b - relN a b)) (relD a b)
def relE (a b : Fig) : Int := if a.t - b.t > 1 then 9000001 else if a.t - b.t < -6 then 1000000 else relQ a b
def relC (a b : Fig) : Int := if relE a b > 9000000 then 3 else 0
def relV (a b : Fig) : Int := if relE a b > 9000000 then 0 else relE a b
theorem relN_bd {a b : Fig} (ha : isFig a = true) (h1 : a.t - b.t ≤ 1) : 1000 ≤ relN a b ∧ relN a b ≤ 99990 := by
  have h := isFig_bd ha
  unfold relN
  have : max 0 (a.t - b.t) = 0 ∨ max 0 (a.t - b.t) = 1 := by omega
  rcases this with e | e
  · rw [e, p10_0]; omega
  · rw [e, show p10 1 = 10 from rfl]; omega
theorem relD_bd {a b : Fig} (hb : isFig b = true) (h1 : -7 ≤ a.t - b.t) : 1000 ≤ relD a b ∧ relD a b ≤ 99990000000 := by
  have h := isFig_bd hb
  have hp := p10_bd (n := max 0 (b.t - a.t)) (by omega) (by omega)
  unfold relD
  generalize p10 (max 0 (b.t - a.t)) = p at hp
  have e1 := Int.mul_le_mul (show b.d ≤ 9999 by omega) hp.2 (by omega) (by omega)
  have e2 := Int.mul_le_mul (show 1000 ≤ b.d by omega) hp.1 (by omega) (by omega)
  omega
theorem relE_seven {a b : Fig} (ha : isFig a = true) (hb : isFig b = true) (h : a.t - b.t = -7) : relQ a b = 1000000 := by
  have h1 := isFig_bd ha
  have h2 := isFig_bd hb
  have e1 : relN a b = a.d := by unfold relN; rw [show max 0 (a.t - b.t) = 0 by omega, p10_0]; omega
  have e2 : relD a b = b.d * 10000000 := by unfold relD; rw [show max 0 (b.t - a.t) = 7 by omega]; rfl
  unfold relQ
  rw [e1, e2, show max (a.d - b.d * 10000000) (b.d * 10000000 - a.d) = b.d * 10000000 - a.d by omega]
  have k1 := (cdiv_le (a := 1000000 * (b.d * 10000000 - a.d)) (L := b.d * 10000000) (x := 1000000) (by omega)).2 (by omega)
  have k2 : ¬ cdiv (1000000 * (b.d * 10000000 - a.d)) (b.d * 10000000) ≤ 999999 := fun q => by
    have := (cdiv_le (a := 1000000 * (b.d * 10000000 - a.d)) (L := b.d * 10000000) (x := 999999) (by omega)).1 q
    omega
  omega
theorem relE_mid {a b : Fig} (ha : isFig a = true) (hb : isFig b = true) (h1 : ¬ 2 ≤ a.t - b.t) (h2 : ¬ a.t - b.t ≤ -8) : relE a b = relQ a b := by
  unfold relE
  rw [if_neg (by omega)]
  by_cases h : a.t - b.t = -7
  · rw [if_pos (by omega), relE_seven ha hb h]
  · rw [if_neg (by omega)]
theorem relQ_bd {a b : Fig} (ha : isFig a = true) (hb : isFig b = true) (h1 : ¬ 2 ≤ a.t - b.t) (h2 : ¬ a.t - b.t ≤ -8) : 0 ≤ relQ a b ∧ relQ a b ≤ 100000000000000000 := by
  have hn := relN_bd (b := b) ha (by omega)
  have hd := relD_bd (a := a) hb (by omega)
  have e1 := cdiv_nonneg (a := 1000000 * max (relN a b - relD a b) (relD a b - relN a b)) (L := relD a b) (by omega) (by omega)
  have e2 := cdiv_self_le (a := 1000000 * max (relN a b - relD a b) (relD a b - relN a b)) (L := relD a b) (by omega) (by omega)
  unfold relQ
  omega
def resI (c : List Trm) (u : Int) : Itv := ⟨(chainLog0 c).lo - u, (chainLog0 c).hi + u⟩
def planI (r : Rul) (c : List Trm) (e : Ers) : Itv := resI c (unP r.len c e)
def psC (r : Rul) (c : List Trm) (e : Ers) : Int := if codeBound r c e = 0 then spanC (planI r c e) else codeBound r c e
def psL (r : Rul) (c : List Trm) (e : Ers) : Fig := if codeBound r c e = 0 then spanL (planI r c e) else ⟨0, 0⟩
def psH (r : Rul) (c : List Trm) (e : Ers) : Fig := if codeBound r c e = 0 then spanH (planI r c e) else ⟨0, 0⟩
theorem psC_0 {r : Rul} {c : List Trm} {e : Ers} (h : psC r c e = 0) : codeBound r c e = 0 ∧ spanC (planI r c e) = 0 := by
  unfold psC at h
  split at h
  · rename_i h1; exact ⟨h1, h⟩
  · omega
theorem spanC_0 {a : Itv} (h : spanC a = 0) : isFig (spanL a) = true ∧ isFig (spanH a) = true ∧ spanL a = belowF a.lo ∧ spanH a = aboveF a.hi := by
  have e1 : spanL a = belowF a.lo := by unfold spanL; rw [if_pos h]
  have e2 : spanH a = aboveF a.hi := by unfold spanH; rw [if_pos h]
  rw [e1, e2]
  unfold spanC at h
  split at h
  · split at h
    · rename_i h1
      rw [Bool.and_eq_true] at h1
      exact ⟨h1.1, h1.2, rfl, rfl⟩
    · omega
  · omega
theorem key_at_mono {n m : Int} (h : n ≤ m) : keyF (atF n) ≤ keyF (atF m) := by
  simp only [keyF, atF]
  omega
theorem below_le_above {u v : Int} (h : u ≤ v) : keyF (belowF u) ≤ keyF (aboveF v) := by
  refine key_at_mono ?_
  obtain ⟨a1, a2, a3, a4⟩ := firstN_is (pHigh u)
  obtain ⟨b1, b2, b3, b4⟩ := firstN_is (pLow v)
  show nBelow u - 1 ≤ nAbove v
  unfold nBelow nAbove
  refine Int.not_lt.1 fun q => ?_
  have e1 : pLow v (firstN (pLow v)) = true := by
    rcases b3 with b | b
    · omega
    · exact b
  have e2 : pHigh u (firstN (pHigh u) - 1) = false := by
    rcases a4 with a | a
    · omega
    · exact a
  simp only [pLow, pHigh, decide_eq_true_eq, decide_eq_false_iff_not] at e1 e2
  have m := (at_mono (Int.le_of_lt q)).2
  have l := figLog_le (f := atF (firstN (pLow v))) (by simp only [atF]; omega) (by simp only [atF]; omega)
  omega
theorem span_le {a : Itv} (ha : a.lo ≤ a.hi) (h : spanC a = 0) : keyF (spanL a) ≤ keyF (spanH a) := by
  obtain ⟨_, _, e1, e2⟩ := spanC_0 h
  rw [e1, e2]
  exact below_le_above ha
theorem resI_le {c : List Trm} (h : isChain c = true) {u : Int} (hu : 0 ≤ u) : (resI c u).lo ≤ (resI c u).hi := by
  have := chainLog0_le h
  simp only [resI]
  omega
def pbC (r : Rul) (c : List Trm) (e : Ers) : Int := if psC r c e = 0 then relC (psH r c e) (psL r c e) else psC r c e
def pbV (r : Rul) (c : List Trm) (e : Ers) : Int := if psC r c e = 0 then relV (psH r c e) (psL r c e) else 0
def partE (e : Ers) (n : Int) : Ers := ⟨e.en * n / 20, e.pa * n / 20, e.ey * n / 20⟩
theorem part_bd {x n : Int} (h1 : 0 ≤ x) (h2 : x ≤ 200) (h3 : 0 ≤ n) (h4 : n ≤ 20) : 0 ≤ x * n / 20 ∧ x * n / 20 ≤ 200 ∧ 0 ≤ x * n ∧ x * n ≤ 4000 := by
  have e1 := Int.mul_nonneg h1 h3
  have e2 := Int.mul_le_mul h2 h4 h3 (by omega)
  omega
theorem isErs_mk {e : Ers} (h : 0 ≤ e.en ∧ e.en ≤ 200 ∧ 0 ≤ e.pa ∧ e.pa ≤ 200 ∧ 0 ≤ e.ey ∧ e.ey ≤ 200) : isErs e = true := by
  simp only [isErs, Bool.and_eq_true]
  exact ⟨inR_mk (by omega), inR_mk (by omega), inR_mk (by omega)⟩
theorem part_isErs {e : Ers} {n : Int} (h : isErs e = true) (h3 : 0 ≤ n) (h4 : n ≤ 20) : isErs (partE e n) = true := by
  obtain ⟨a1, a2, b1, b2, c1, c2⟩ := isErs_bd h
  have ka := part_bd a1 a2 h3 h4
  have kb := part_bd b1 b2 h3 h4
  have kc := part_bd c1 c2 h3 h4
  exact isErs_mk ⟨ka.1, ka.2.1, kb.1, kb.2.1, kc.1, kc.2.1⟩
theorem part_code {r : Rul} {c : List Trm} {e : Ers} {n : Int} (h : codeBound r c e = 0) (h3 : 0 ≤ n) (h4 : n ≤ 20) : codeBound r c (partE e n) = 0 := by
  obtain ⟨h1, h2⟩ := codeBound_0 h
  unfold codeBound
  rw [if_pos (part_isErs h1 h3 h4), h2]
def keepsE (r : Rul) (c : List Trm) (e : Ers) (b n : Int) : Bool := decide (pbC r c (partE e n) = 0) && decide (pbV r c (partE e n) ≤ b)
def mostE (r : Rul) (c : List Trm) (e : Ers) (b : Int) : Nat → Int
  | 0 => if keepsE r c e b 0 then 0 else -1
  | k + 1 => if keepsE r c e b (k + 1 : Nat) then (k + 1 : Nat) else mostE r c e b k
def efC (r : Rul) (c : List Trm) (e : Ers) (b : Int) : Int := if codeBound r c e = 0 then (if inR b 0 1000000 then (if mostE r c e b 20 < 0 then 4 else 0) else 2) else codeBound r c e
def efV (r : Rul) (c : List Trm) (e : Ers) (b : Int) : Int := if efC r c e b = 0 then mostE r c e b 20 else 0
end Go.Proofs.YtkoojngonldcbaaGreat
namespace Go.Proofs.YtkoojngonldcbaaGreat
set_option linter.unusedVariables false
set_option linter.unusedSimpArgs false
open Go.RowKit
set_option maxRecDepth 100000
theorem wrap_big {n : Int} (h1 : -4000000000000000000 ≤ n) (h2 : n ≤ 4000000000000000000) : IntKind.i64.wrap n = n := by
 simp only [IntKind.wrap, IntKind.bits, IntKind.signed]
 simp
 omega
end Go.Proofs.YtkoojngonldcbaaGreat
namespace Go.Proofs.YtkoojngonldcbaaGreat
set_option linter.unusedVariables false
set_option linter.unusedSimpArgs false
open Go.RowKit
set_option maxRecDepth 100000
theorem w_l02Two (a b c d : Int) (w : World) :
 Calls Tryz.prog 196 #[.agg #[.int .i64 a, .int .i64 b], .agg #[.int .i64 c, .int .i64 d]] w fun e w' => e = .returned (.bool (isFig ⟨a, b⟩ && isFig ⟨c, d⟩)) ∧ Later w w' := by
 cases h1 : isFig ⟨a, b⟩ <;> cases h2 : isFig ⟨c, d⟩
 all_goals
  have H1 := Lib.hid h1
  have H2 := Lib.hid h2
  clear h1 h2
  go_enter Tryz.func196, Tryz.ntmps196
  go_wp2_with fail
  refine (w_specIsFigure _ _ _).mono ?_
  rintro e w1 ⟨rfl, hL⟩
  rw [H1.out]
  obtain ⟨⟨c0, f0, z0⟩, ⟨c1, f1, z1⟩⟩ := blk2 hL
  go_wp2_with (go_at_call 103; refine (w_specIsFigure _ _ _).mono ?_; rintro e w2 ⟨rfl, hL2⟩; rw [H2.out])
  go_ret
  exact ⟨rfl, qla⟩
end Go.Proofs.YtkoojngonldcbaaGreat
