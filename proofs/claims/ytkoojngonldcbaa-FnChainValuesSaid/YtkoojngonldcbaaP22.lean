/- DERIVED. Plain words: the laws of tens and of the values of chains. No program in sight. -/
import Derived.Test.YtkoojngonldcbaaP21
namespace Go.Proofs.Ytkoojngonldcbaa
set_option linter.unusedVariables false
set_option linter.unusedSimpArgs false
set_option maxRecDepth 100000

/-- A ratio near to 1 makes a small relative error. -/
theorem rel_le {f a : Fig} (hf : isFig f = true) (ha : isFig a = true) {B : Nat} (hB : B ≤ 10000) (h1 : Rl 1000000 (1000000 + B) (figP f) (figP a)) (h2 : Rl (1000000 - B) 1000000 (figP a) (figP f)) : relC f a = 0 ∧ relV f a ≤ B := by
  obtain ⟨f1, f2, f3, f4⟩ := isFig_true hf
  obtain ⟨a1, a2, a3, a4⟩ := isFig_true ha
  obtain ⟨i, hi⟩ : ∃ i : Nat, max 0 (f.t - a.t) = i := ⟨(max 0 (f.t - a.t)).toNat, by omega⟩
  obtain ⟨j, hj⟩ : ∃ j : Nat, max 0 (a.t - f.t) = j := ⟨(max 0 (a.t - f.t)).toNat, by omega⟩
  have hp := pPM (a := f.t) (b := a.t) (i := j) (j := i) (by omega)
  have hP : 0 < pP a.t * pM f.t := Nat.mul_pos (pP_pos _) (pM_pos _)
  obtain ⟨x, hx⟩ := Int.eq_ofNat_of_zero_le (show 0 ≤ f.d by omega)
  obtain ⟨y, hy⟩ := Int.eq_ofNat_of_zero_le (show 0 ≤ a.d by omega)
  have k1 : 1000000 * (x * 10 ^ i) ≤ (1000000 + B) * (y * 10 ^ j) := by
    unfold Rl figP at h1
    simp only [hx, hy, Int.toNat_natCast] at h1
    have m := Nat.mul_le_mul_left (10 ^ j) h1
    rw [show 10 ^ j * (1000000 * (x * pP f.t * (1000 * pM a.t))) = 1000 * 1000000 * x * (pP f.t * pM a.t * 10 ^ j) from by ac_rfl, hp] at m
    refine Nat.le_of_mul_le_mul_left (c := 1000 * (pP a.t * pM f.t)) ?_ (by omega)
    refine Nat.le_trans (Nat.le_of_eq ?_) (Nat.le_trans m (Nat.le_of_eq ?_)) <;> ac_rfl
  have k2 : (1000000 - B) * (y * 10 ^ j) ≤ 1000000 * (x * 10 ^ i) := by
    unfold Rl figP at h2
    simp only [hx, hy, Int.toNat_natCast] at h2
    have m := Nat.mul_le_mul_left (10 ^ j) h2
    rw [show 10 ^ j * (1000000 * (x * pP f.t * (1000 * pM a.t))) = 1000 * 1000000 * x * (pP f.t * pM a.t * 10 ^ j) from by ac_rfl, hp] at m
    refine Nat.le_of_mul_le_mul_left (c := 1000 * (pP a.t * pM f.t)) ?_ (by omega)
    refine Nat.le_trans (Nat.le_of_eq ?_) (Nat.le_trans m (Nat.le_of_eq ?_)) <;> ac_rfl
  have pow_ge : ∀ n m : Nat, n ≤ m → 10 ^ n ≤ 10 ^ m := fun n m h => Nat.pow_le_pow_right (by decide) h
  have s1 : ¬ 2 ≤ f.t - a.t := by
    intro h
    have hi2 := pow_ge 2 i (by omega)
    obtain rfl : j = 0 := by omega
    have m1 := Nat.mul_le_mul (show 1000 ≤ x by omega) hi2
    have m2 := Nat.mul_le_mul (show 1000000 + B ≤ 1010000 by omega) (show y * 10 ^ 0 ≤ 9999 by simp; omega)
    omega
  have s2 : ¬ a.t - f.t ≥ 6 := by
    intro h
    have hi2 := pow_ge 6 j (by omega)
    obtain rfl : i = 0 := by omega
    have m1 := Nat.mul_le_mul (show 1000 ≤ y by omega) hi2
    have m2 := Nat.mul_le_mul (show 990000 ≤ 1000000 - B by omega) m1
    have m3 : x * 10 ^ 0 ≤ 9999 := by simp; omega
    omega
  have eN : relN f a = ((x * 10 ^ i : Nat) : Int) := by
    unfold relN p10
    rw [hi, hx, Int.toNat_natCast, Int.natCast_mul, Int.natCast_pow]
    rfl
  have eD : relD f a = ((y * 10 ^ j : Nat) : Int) := by
    unfold relD p10
    rw [hj, hy, Int.toNat_natCast, Int.natCast_mul, Int.natCast_pow]
    rfl
  have hyp : 0 < y * 10 ^ j := Nat.mul_pos (by omega) (Nat.pow_pos (by decide))
  have hE : relE f a ≤ B := by
    rw [relE_mid hf ha (by omega) (by omega)]
    unfold relQ
    rw [eN, eD]
    refine (cdiv_le (by omega)).2 ?_
    have e3 : (B : Int) * ((y * 10 ^ j : Nat) : Int) = ((B * (y * 10 ^ j) : Nat) : Int) := (Int.natCast_mul _ _).symm
    have e4 : (1000000 + B) * (y * 10 ^ j) = 1000000 * (y * 10 ^ j) + B * (y * 10 ^ j) := Nat.add_mul _ _ _
    have e5 : (1000000 - B) * (y * 10 ^ j) = 1000000 * (y * 10 ^ j) - B * (y * 10 ^ j) := Nat.sub_mul _ _ _
    rw [e4] at k1
    rw [e5] at k2
    first | rw [e3] | rw [Int.mul_comm, e3]
    generalize B * (y * 10 ^ j) = z at *
    generalize y * 10 ^ j = y' at *
    generalize x * 10 ^ i = x' at *
    omega
  unfold relC relV
  rw [if_neg (by omega), if_neg (by omega)]
  exact ⟨rfl, hE⟩

theorem at_next (n : Int) : Rl 1000 1001 (figP (atF (n + 1))) (figP (atF n)) := by
  obtain ⟨x, hx⟩ := Int.eq_ofNat_of_zero_le (show 0 ≤ n % 9000 by omega)
  have hx2 : x < 9000 := by omega
  by_cases h : x + 1 < 9000
  · have e : atF (n + 1) = ⟨1000 + (x + 1), n / 9000⟩ := by
      have := atF_of (i := x + 1) (t := n / 9000) (by omega) (by omega)
      rw [show n + 1 = 9000 * (n / 9000) + (x + 1) from by omega]
      exact this
    rw [e]
    unfold atF Rl figP
    simp only [hx]
    rw [show (1000 + ((x : Int) + 1)).toNat = 1001 + x from by omega, show (1000 + (x : Int)).toNat = 1000 + x from by omega]
    rw [show 1000 * ((1001 + x) * pP (n / 9000) * (1000 * pM (n / 9000))) = 1000 * (pP (n / 9000) * pM (n / 9000)) * (1000 * (1001 + x)) from by ac_rfl, show 1001 * ((1000 + x) * pP (n / 9000) * (1000 * pM (n / 9000))) = 1000 * (pP (n / 9000) * pM (n / 9000)) * (1001 * (1000 + x)) from by ac_rfl]
    exact Nat.mul_le_mul_left _ (by omega)
  · have hx9 : x = 8999 := by omega
    have e : atF (n + 1) = ⟨1000, n / 9000 + 1⟩ := by
      have := atF_of (i := 0) (t := n / 9000 + 1) (by omega) (by omega)
      rw [show n + 1 = 9000 * (n / 9000 + 1) + 0 from by omega]
      exact this
    rw [e]
    unfold atF Rl figP
    simp only [hx, hx9]
    have hp := pPM (a := n / 9000 + 1) (b := n / 9000) (i := 0) (j := 1) (by omega)
    rw [Nat.pow_zero, Nat.mul_one, Nat.pow_one] at hp
    rw [show (1000 : Int).toNat = 1000 from rfl, show (1000 + ((8999 : Nat) : Int)).toNat = 9999 from rfl]
    rw [show 1000 * (1000 * pP (n / 9000 + 1) * (1000 * pM (n / 9000))) = 1000000000 * (pP (n / 9000 + 1) * pM (n / 9000)) from by rw [show (1000000000 : Nat) = 1000 * 1000 * 1000 from rfl]; ac_rfl, hp]
    rw [show 1001 * (9999 * pP (n / 9000) * (1000 * pM (n / 9000 + 1))) = 1001 * 9999 * 1000 * (pP (n / 9000) * pM (n / 9000 + 1)) from by ac_rfl]
    omega

theorem widthC (l : List Trm) (h : ∀ t ∈ l, okTrm t = true) : ∀ k : Nat, k ≤ l.length → (chainLog0 (l.take k)).hi ≤ (chainLog0 (l.take k)).lo + 2 * k
  | 0, _ => by simp [chainLog0]
  | k + 1, hk => by
    have ih := widthC l h k (by omega)
    obtain ⟨t, ht⟩ := get_ex (l := l) (k := k) (by omega)
    obtain ⟨t1, t2, t3, t4⟩ := okTrm_bd (h t (List.mem_of_getElem? ht))
    have h2 := width t1 t2
    rw [take_snoc' ht, chainLog0_snoc]
    cases hq : t.dv
    · rw [logStep_n hq]; simp only; omega
    · rw [logStep_y hq]; simp only; omega
theorem width_chain {l : List Trm} (h : isChain l = true) : (chainLog0 l).hi ≤ (chainLog0 l).lo + 12 := by
  have hc := isChain_true h
  have := widthC l hc.2.2.2 l.length (Nat.le_refl _)
  rw [take_eq_all (Nat.le_refl _)] at this
  omega
theorem at_d (n : Int) : 1000 ≤ (atF n).d ∧ (atF n).d ≤ 9999 := by
  unfold atF
  simp only
  omega
/-- The figure below a chain, and the one above it, against its value. -/
theorem below_near {l : List Trm} (hc : isChain l = true) (hu : isUnits (chainLog0 l).lo = true) (hb : isFig (belowF (chainLog0 l).lo) = true) :
    Rl 1 1 (figP (belowF (chainLog0 l).lo)) (chainP l) ∧ Rl (10000000 ^ 14 * 1000) (10000022 ^ 14 * 1001) (chainP l) (figP (belowF (chainLog0 l).lo)) := by
  obtain ⟨T, hT⟩ : ∃ T, T = 2 ^ 20 := ⟨_, rfl⟩
  have hok := (isChain_true hc).2.2.2
  obtain ⟨s1, s2⟩ := chain_sound hT hok
  have hw := width_chain hc
  obtain ⟨u1, u2⟩ := inR_true hu
  obtain ⟨r1, r2, r3, r4⟩ := firstN_is (pHigh (chainLog0 l).lo)
  have e : nBelow (chainLog0 l).lo = firstN (pHigh (chainLog0 l).lo) := rfl
  rw [← e] at r1 r2 r3 r4
  unfold belowF at hb ⊢
  obtain ⟨n, hn⟩ : ∃ n, nBelow (chainLog0 l).lo - 1 = n := ⟨_, rfl⟩
  rw [hn] at hb r4 ⊢
  have b := (isFig_true hb)
  have bt : (atF n).t = n / 9000 := rfl
  have hlow : (figLog (atF n)).hi ≤ (chainLog0 l).lo := by
    rcases r4 with h | h
    · omega
    · simp only [pHigh, decide_eq_false_iff_not] at h; omega
  have hhi : (chainLog0 l).lo < (figLog (atF (n + 1))).hi := by
    rcases r3 with h | h
    · have := hi_head 31
      rw [show n + 1 = 9000 * 31 from by omega, this]
      omega
    · simp only [pHigh, decide_eq_true_eq] at h
      rw [show n + 1 = nBelow (chainLog0 l).lo from by omega]
      exact h
  have d1 := at_d n
  have d2 := at_d (n + 1)
  obtain ⟨q1, q2⟩ := figLog_sound hT d1.1 d1.2
  obtain ⟨p1, p2⟩ := figLog_sound hT d2.1 d2.2
  have w2 := width d2.1 d2.2
  refine ⟨L10_rl hT s1 q2 hlow, ?_⟩
  exact Rl_trans (figP_pos (by omega)) (L10_rlk hT (k := 14) p1 s2 (by omega)) (at_next n)
theorem above_near {l : List Trm} (hc : isChain l = true) (hu : isUnits (chainLog0 l).hi = true) (hb : isFig (aboveF (chainLog0 l).hi) = true) :
    Rl 1 1 (chainP l) (figP (aboveF (chainLog0 l).hi)) ∧ Rl (1000 * 10000000 ^ 14) (1001 * 10000022 ^ 14) (figP (aboveF (chainLog0 l).hi)) (chainP l) := by
  obtain ⟨T, hT⟩ : ∃ T, T = 2 ^ 20 := ⟨_, rfl⟩
  have hok := (isChain_true hc).2.2.2
  obtain ⟨s1, s2⟩ := chain_sound hT hok
  have hw := width_chain hc
  obtain ⟨u1, u2⟩ := inR_true hu
  obtain ⟨r1, r2, r3, r4⟩ := firstN_is (pLow (chainLog0 l).hi)
  have e : nAbove (chainLog0 l).hi = firstN (pLow (chainLog0 l).hi) := rfl
  rw [← e] at r1 r2 r3 r4
  unfold aboveF at hb ⊢
  obtain ⟨n, hn⟩ : ∃ n, nAbove (chainLog0 l).hi = n + 1 := ⟨nAbove (chainLog0 l).hi - 1, by omega⟩
  rw [hn] at hb r3 r4 ⊢
  rw [Int.add_sub_cancel] at r4
  have b := (isFig_true hb)
  have bt : (atF (n + 1)).t = (n + 1) / 9000 := rfl
  have hhi : (chainLog0 l).hi ≤ (figLog (atF (n + 1))).lo := by
    rcases r3 with h | h
    · omega
    · simp only [pLow, decide_eq_true_eq] at h; exact h
  have hlow : (figLog (atF n)).lo < (chainLog0 l).hi := by
    rcases r4 with h | h
    · have := lo_last (-30)
      rw [show (9000 * -30 - 1 : Int) = n from by omega] at this
      omega
    · simp only [pLow, decide_eq_false_iff_not] at h; omega
  have d1 := at_d n
  have d2 := at_d (n + 1)
  obtain ⟨q1, q2⟩ := figLog_sound hT d1.1 d1.2
  obtain ⟨p1, p2⟩ := figLog_sound hT d2.1 d2.2
  have w2 := width d1.1 d1.2
  refine ⟨L10_rl hT p1 s2 hhi, ?_⟩
  exact Rl_trans (figP_pos (by omega)) (at_next n) (L10_rlk hT (k := 14) s1 q2 (by omega))
theorem chain_near_len {l : List Trm} (hc : isChain l = true) {F : Fig} (h : chainFig0 l = some F) : Rl (1999 ^ (l.length - 1)) (2000 ^ (l.length - 1)) (chainP l) (figP F) ∧ Rl (2000 ^ (l.length - 1)) (2001 ^ (l.length - 1)) (figP F) (chainP l) := by
  obtain ⟨c1, c2, c3, c4⟩ := isChain_true hc
  cases l with
  | nil => simp at c1
  | cons t l =>
    have hf : isFig t.f = true := c4 t (by simp)
    have hd : t.dv = false := c3
    have e : chainP (t :: l) = l.foldl valStep (figP t.f) := by
      simp [chainP, valStep, opP, hd, mulP]
    have := fold_near l t.f F (figP t.f) 0 hf (fun x hx => c4 x (by simp [hx])) (figP_pos (by have := (isFig_true hf).1; omega)) h (by simp [Rl]) (by simp [Rl])
    rw [e]
    simp only [Nat.zero_add] at this
    rw [List.length_cons, Nat.add_sub_cancel]
    exact this
/-- The figure of a chain is near to both ends of its span. -/
theorem values_rel {l : List Trm} (hs : chainSpanC l = 0) (hf : chainFigC l = 0) :
    relC (chainFig l) (chainSpanL l) = 0 ∧ relV (chainFig l) (chainSpanL l) ≤ 1000 * l.length + 2200 ∧ relC (chainFig l) (chainSpanH l) = 0 ∧ relV (chainFig l) (chainSpanH l) ≤ 1000 * l.length + 2200 := by
  have hc : isChain l = true := by
    cases h : isChain l
    · simp [chainSpanC, h] at hs
    · rfl
  obtain ⟨c1, c2, c3, c4⟩ := isChain_true hc
  have hs' : spanC (chainLog0 l) = 0 := by simpa [chainSpanC, hc] using hs
  have hsp : isUnits (chainLog0 l).lo = true ∧ isUnits (chainLog0 l).hi = true ∧ isFig (belowF (chainLog0 l).lo) = true ∧ isFig (aboveF (chainLog0 l).hi) = true := by
    unfold spanC at hs'
    by_cases h1 : (isUnits (chainLog0 l).lo && isUnits (chainLog0 l).hi) = true
    · rw [if_pos h1] at hs'
      by_cases h2 : (isFig (belowF (chainLog0 l).lo) && isFig (aboveF (chainLog0 l).hi)) = true
      · simp only [Bool.and_eq_true] at h1 h2
        exact ⟨h1.1, h1.2, h2.1, h2.2⟩
      · rw [if_neg h2] at hs'; simp at hs'
    · rw [if_neg h1] at hs'; simp at hs'
  obtain ⟨u1, u2, g1, g2⟩ := hsp
  have eL : chainSpanL l = belowF (chainLog0 l).lo := by simp [chainSpanL, hc, spanL, hs']
  have eH : chainSpanH l = aboveF (chainLog0 l).hi := by simp [chainSpanH, hc, spanH, hs']
  obtain ⟨F, hF⟩ : ∃ F, chainFig0 l = some F := by
    cases h : chainFig0 l with
    | none => simp [chainFigC, hc, h, optC] at hf
    | some F => exact ⟨F, rfl⟩
  have eF : chainFig l = F := by simp [chainFig, hc, hF, optF]
  have hFf : isFig F = true := by
    cases hl : l with
    | nil => rw [hl] at c1; simp at c1
    | cons t m =>
      rw [hl] at hF c4
      exact figFold_ok m t.f F (c4 t (by simp)) (fun x hx => c4 x (by simp [hx])) hF
  rw [eL, eH, eF]
  obtain ⟨n1, n2⟩ := chain_near_len hc hF
  obtain ⟨b1, b2⟩ := below_near hc u1 g1
  obtain ⟨a1, a2⟩ := above_near hc u2 g2
  have hV := chainP_pos c4
  have hp0 : ∀ (x k : Nat), 0 < x → 0 < x ^ k := fun x k h => Nat.pow_pos h
  have w1 := Rl_trans hV n2 b2
  have w2 := Rl_trans hV b1 n1
  have w3 := Rl_trans hV n2 a1
  have w4 := Rl_trans hV a2 n1
  have hB : ((1000 * l.length + 2200 : Nat) : Int) = 1000 * (l.length : Int) + 2200 := by omega
  rw [← hB]
  have hn : l.length = 1 ∨ l.length = 2 ∨ l.length = 3 ∨ l.length = 4 ∨ l.length = 5 ∨ l.length = 6 := by omega
  have key : ∀ n : Nat, l.length = n → n ≤ 6 → (∀ m ∈ [1, 2, 3, 4, 5, 6], (m = n) → 1000000 * (2001 ^ (m - 1) * (10000022 ^ 14 * 1001)) ≤ (1000000 + (1000 * m + 2200)) * (2000 ^ (m - 1) * (10000000 ^ 14 * 1000)) ∧ (1000000 - (1000 * m + 2200)) * (1 * 2000 ^ (m - 1)) ≤ 1000000 * (1 * 1999 ^ (m - 1)) ∧ 1000000 * (2001 ^ (m - 1) * 1) ≤ (1000000 + (1000 * m + 2200)) * (2000 ^ (m - 1) * 1) ∧ (1000000 - (1000 * m + 2200)) * (1001 * 10000022 ^ 14 * 2000 ^ (m - 1)) ≤ 1000000 * (1000 * 10000000 ^ 14 * 1999 ^ (m - 1))) := by
    intro n _ _ m hm _
    simp only [List.mem_cons, List.not_mem_nil, or_false] at hm
    rcases hm with rfl | rfl | rfl | rfl | rfl | rfl <;> decide +kernel
  have hk := key l.length rfl c2 l.length (by simp only [List.mem_cons, List.not_mem_nil, or_false]; omega) rfl
  obtain ⟨k1, k2, k3, k4⟩ := hk
  have p1 := hp0 2001 (l.length - 1) (by decide)
  have p2 := hp0 2000 (l.length - 1) (by decide)
  have r1 := rel_le hFf g1 (B := 1000 * l.length + 2200) (by omega) (Rl_weak (Nat.mul_pos p1 (by decide +kernel)) w1 k1) (Rl_weak (Nat.mul_pos (by decide) p2) w2 k2)
  have r2 := rel_le hFf g2 (B := 1000 * l.length + 2200) (by omega) (Rl_weak (Nat.mul_pos p1 (by decide)) w3 k3) (Rl_weak (Nat.mul_pos (by decide +kernel) p2) w4 k4)
  exact ⟨r1.1, r1.2, r2.1, r2.2⟩

end Go.Proofs.Ytkoojngonldcbaa
