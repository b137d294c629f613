/- DERIVED. Plain words: the laws of tens and of joined chains. No program in sight. -/
import Derived.Test.YtkoojngonldcbaaP22
namespace Go.Proofs.Ytkoojngonldcbaa
set_option linter.unusedVariables false
set_option linter.unusedSimpArgs false
set_option maxRecDepth 100000

theorem joinL_log (dv : Bool) : ∀ (ds : List Trm) (a b : Itv), (ds.map (flipTrm dv)).foldl logStep (if dv then subI a b else addI a b) = (if dv then subI a (ds.foldl logStep b) else addI a (ds.foldl logStep b))
  | [], a, b => rfl
  | t :: ds, a, b => by
    rw [List.map_cons, List.foldl_cons, List.foldl_cons, ← joinL_log dv ds a (logStep b t)]
    congr 1
    obtain ⟨f, tv⟩ := t
    cases dv <;> cases tv <;> simp [flipTrm, logStep, subI, addI] <;> omega
theorem join_log {cs ds : List Trm} {dv : Bool} : chainLog0 (joinL cs ds dv) = (if dv then subI (chainLog0 cs) (chainLog0 ds) else addI (chainLog0 cs) (chainLog0 ds)) := by
  have := joinL_log dv ds (chainLog0 cs) ⟨0, 0⟩
  unfold joinL
  rw [chainLog0, List.foldl_append]
  rw [show (if dv then subI (chainLog0 cs) ⟨0, 0⟩ else addI (chainLog0 cs) ⟨0, 0⟩) = chainLog0 cs from by cases dv <;> simp [subI, addI]] at this
  exact this
/-- What the law of joined chains asks. -/
theorem join_law {cs ds : List Trm} {dv : Bool} (h : (joinChains cs ds dv).2 = 0) : isChain cs = true ∧ isChain ds = true ∧ isChain (joinChains cs ds dv).1 = true ∧
    (dv = true → (chainLog (joinChains cs ds dv).1).lo = (chainLog cs).lo - (chainLog ds).hi ∧ (chainLog (joinChains cs ds dv).1).hi = (chainLog cs).hi - (chainLog ds).lo) ∧
    (dv = false → (chainLog (joinChains cs ds dv).1).lo = (chainLog cs).lo + (chainLog ds).lo ∧ (chainLog (joinChains cs ds dv).1).hi = (chainLog cs).hi + (chainLog ds).hi) := by
  unfold joinChains at h ⊢
  by_cases h1 : (isChain cs && isChain ds) = true
  · rw [if_pos h1] at h ⊢
    by_cases h2 : cs.length + ds.length ≤ 6
    · rw [if_pos h2]
      rw [Bool.and_eq_true] at h1
      obtain ⟨c1, c2, c3, c4⟩ := isChain_true h1.1
      obtain ⟨d1, d2, d3, d4⟩ := isChain_true h1.2
      have hj : isChain (joinL cs ds dv) = true := by
        simp only [isChain, Bool.and_eq_true, List.all_eq_true, Bool.not_eq_true']
        refine ⟨?_, inR_mk (by rw [joinL_len]; omega), ?_⟩
        · intro t ht
          simp only [joinL, List.mem_append, List.mem_map] at ht
          rcases ht with ht | ⟨u, hu, rfl⟩
          · exact c4 t ht
          · exact d4 u hu
        · cases cs with
          | nil => simp at c1
          | cons x cs => exact c3
      refine ⟨h1.1, h1.2, hj, ?_, ?_⟩
      · intro hd
        subst hd
        simp only [chainLog]
        rw [if_pos hj, if_pos h1.1, if_pos h1.2, join_log]
        exact ⟨rfl, rfl⟩
      · intro hd
        subst hd
        simp only [chainLog]
        rw [if_pos hj, if_pos h1.1, if_pos h1.2, join_log]
        exact ⟨rfl, rfl⟩
    · rw [if_neg h2] at h; simp at h
  · rw [if_neg h1] at h; simp at h

/-- The carry of a chain. -/
theorem carry_bdk (l : List Trm) (h : ∀ t ∈ l, okTrm t = true) : ∀ k : Nat, k ≤ l.length → (chainLog0 (l.take k)).hi - sumTens (l.take k) * 1048576 ≤ 1048576 * k ∧ -(1048576 * (k : Int)) ≤ (chainLog0 (l.take k)).lo - sumTens (l.take k) * 1048576
  | 0, _ => by simp [chainLog0, sumTens]
  | k + 1, hk => by
    have ih := carry_bdk l h k (by omega)
    obtain ⟨t, ht⟩ := get_ex (l := l) (k := k) (by omega)
    obtain ⟨t1, t2, t3, t4⟩ := okTrm_bd (h t (List.mem_of_getElem? ht))
    have h2 := figLog_bd t1 t2
    rw [take_snoc' ht, chainLog0_snoc, sumTens_snoc]
    cases hq : t.dv
    · rw [logStep_n hq, tensStep_n hq]; simp only; omega
    · rw [logStep_y hq, tensStep_y hq]; simp only; omega
theorem carry_law {l : List Trm} (h : isChain l = true) : (carryOf l).lo = (tensOf l).lo - sumOfTens l ∧ (carryOf l).hi = (tensOf l).hi - sumOfTens l ∧ (tensOf l).lo ≤ (tensOf l).hi ∧ (carryOf l).hi ≤ l.length ∧ -(l.length : Int) ≤ (carryOf l).lo := by
  have hc := isChain_true h
  have b := carry_bdk l hc.2.2.2 l.length (Nat.le_refl _)
  rw [take_eq_all (Nat.le_refl _)] at b
  have e := chainLog0_le h
  have q1 : carryOf l = ⟨(chainLog0 l).lo / 1048576 - sumTens l, (chainLog0 l).hi / 1048576 - sumTens l⟩ := if_pos h
  have q2 : tensOf l = ⟨(chainLog0 l).lo / 1048576, (chainLog0 l).hi / 1048576⟩ := if_pos h
  have q3 : sumOfTens l = sumTens l := if_pos h
  rw [q1, q2, q3]
  refine ⟨rfl, rfl, ?_, ?_, ?_⟩ <;> simp only <;> omega
/-- The figure of a chain has its tens, up to one. -/
theorem tens_near {l : List Trm} (hc : isChain l = true) {F : Fig} (hF : chainFig0 l = some F) (hf : isFig F = true) : (tensOf l).lo - 1 ≤ F.t ∧ F.t ≤ (tensOf l).hi + 1 := by
  obtain ⟨T, hT⟩ : ∃ T, T = 2 ^ 20 := ⟨_, rfl⟩
  have hT2 : (T : Int) = 1048576 := by rw [hT]; rfl
  have hok := (isChain_true hc).2.2.2
  obtain ⟨s1, s2⟩ := chain_sound hT hok
  obtain ⟨n1, n2⟩ := chain_near hc hF
  obtain ⟨f1, f2, f3, f4⟩ := isFig_true hf
  have hV := chainP_pos hok
  obtain ⟨x, hx⟩ := Int.eq_ofNat_of_zero_le (show 0 ≤ F.d by omega)
  have e1 : (tensOf l).lo = (chainLog0 l).lo / 1048576 := by simp [tensOf, hc, tensI]
  have e2 : (tensOf l).hi = (chainLog0 l).hi / 1048576 := by simp [tensOf, hc, tensI]
  rw [e1, e2]
  constructor
  · generalize hq : (chainLog0 l).lo / 1048576 = q
    have k : Rl 1 1 (pP q, pM q) (chainP l) := by
      refine L10_rl hT s1 (v := q * T) ?_ (by rw [hT2]; omega)
      have := L10_ten T (-q)
      rw [pM_neg, pP_neg, Int.neg_mul] at this
      exact this
    have m := Rl_trans hV k n1
    apply Int.not_lt.1
    intro hlt
    obtain ⟨s, hs⟩ : ∃ s : Nat, q = F.t + 2 + s := ⟨(q - F.t - 2).toNat, by omega⟩
    have hp := pPM (a := F.t) (b := q) (i := s + 2) (j := 0) (by omega)
    unfold Rl figP at m
    simp only [hx, Int.toNat_natCast] at m
    rw [Nat.pow_zero, Nat.mul_one] at hp
    rw [show 1 * 1999 ^ 5 * (pP q * (1000 * pM F.t)) = 1999 ^ 5 * 1000 * (pP q * pM F.t) from by rw [Nat.one_mul]; ac_rfl, ← hp, show 1 * 2000 ^ 5 * (x * pP F.t * pM q) = 2000 ^ 5 * x * (pP F.t * pM q) from by rw [Nat.one_mul]; ac_rfl, show 1999 ^ 5 * 1000 * (pP F.t * pM q * 10 ^ (s + 2)) = 1999 ^ 5 * 1000 * 10 ^ (s + 2) * (pP F.t * pM q) from by ac_rfl] at m
    have m2 := Nat.le_of_mul_le_mul_right m (Nat.mul_pos (pP_pos _) (pM_pos _))
    have hpw : 1 ≤ 10 ^ s := Nat.pow_pos (by decide)
    rw [Nat.pow_add] at m2
    omega
  · generalize hq : (chainLog0 l).hi / 1048576 + 1 = q
    have k : Rl 1 1 (chainP l) (pP q, pM q) := by
      refine L10_rl hT (L10_ten T q) s2 ?_
      rw [hT2]; omega
    have m := Rl_trans hV n2 k
    apply Int.not_lt.1
    intro hlt
    obtain ⟨s, hs⟩ : ∃ s : Nat, F.t = q + 1 + s := ⟨(F.t - q - 1).toNat, by omega⟩
    have hp := pPM (a := q) (b := F.t) (i := s + 1) (j := 0) (by omega)
    unfold Rl figP at m
    simp only [hx, Int.toNat_natCast] at m
    rw [Nat.pow_zero, Nat.mul_one] at hp
    rw [show 2000 ^ 5 * 1 * (x * pP F.t * pM q) = 2000 ^ 5 * x * (pP F.t * pM q) from by rw [Nat.mul_one]; ac_rfl, ← hp, show 2001 ^ 5 * 1 * (pP q * (1000 * pM F.t)) = 2001 ^ 5 * 1000 * (pP q * pM F.t) from by rw [Nat.mul_one]; ac_rfl, show 2000 ^ 5 * x * (pP q * pM F.t * 10 ^ (s + 1)) = 2000 ^ 5 * x * 10 ^ (s + 1) * (pP q * pM F.t) from by ac_rfl] at m
    have m2 := Nat.le_of_mul_le_mul_right m (Nat.mul_pos (pP_pos _) (pM_pos _))
    have hpw : 1 ≤ 10 ^ s := Nat.pow_pos (by decide)
    have m3 := Nat.mul_le_mul (show 1000 ≤ x by omega) hpw
    rw [Nat.pow_add, show 2000 ^ 5 * x * (10 ^ s * 10 ^ 1) = 2000 ^ 5 * 10 * (x * 10 ^ s) from by rw [Nat.pow_one]; ac_rfl] at m2
    omega
theorem tens_law {l : List Trm} (hc : isChain l = true) : chainFigC l = 3 ∨ chainFigC l = 0 ∧ (tensOf l).lo - 1 ≤ (chainFig l).t ∧ (chainFig l).t ≤ (tensOf l).hi + 1 := by
  obtain ⟨c1, c2, c3, c4⟩ := isChain_true hc
  cases h : chainFig0 l with
  | none => exact .inl (by simp [chainFigC, hc, h, optC])
  | some F =>
    have hFf : isFig F = true := by
      cases hl : l with
      | nil => rw [hl] at c1; simp at c1
      | cons t m =>
        rw [hl] at h c4
        exact figFold_ok m t.f F (c4 t (by simp)) (fun x hx => c4 x (by simp [hx])) h
    have e : chainFig l = F := by simp [chainFig, hc, h, optF]
    rw [e]
    exact .inr ⟨by simp [chainFigC, hc, h, optC], tens_near hc h hFf⟩
/-- Digits are placed next to a chain. -/
theorem place_law {l : List Trm} {g : Int} (h : codePlace l g = 0) : isChain l = true ∧ isFig (placeDigits l g) = true ∧ (placeDigits l g).d = g ∧ (chainLog l).lo - (figLog (placeDigits l g)).hi ≤ 524308 ∧ (figLog (placeDigits l g)).lo - (chainLog l).hi ≤ 524308 := by
  unfold codePlace at h
  by_cases hc : isChain l = true
  · rw [if_pos hc] at h
    by_cases hg : inR g 1000 9999 = true
    · rw [if_pos hg] at h
      have hm := codeLim_cases (placeF g (chainLog0 l))
      have hf : isFig (placeF g (chainLog0 l)) = true := by
        rcases hm with ⟨h1, _, _⟩ | ⟨_, h2, _⟩
        · exact h1
        · omega
      have e : placeDigits l g = placeF g (chainLog0 l) := by simp [placeDigits, hc, hg, limF, hf]
      rw [e]
      have hl := chainLog0_le hc
      have hb := inR_true hg
      have e1 : (figLog (placeF g (chainLog0 l))).lo = (figLog ⟨g, 0⟩).lo + placeT (gapOf g (chainLog0 l)) * 1048576 := by simp [figLog, placeF]
      have e2 : (figLog (placeF g (chainLog0 l))).hi = (figLog ⟨g, 0⟩).hi + placeT (gapOf g (chainLog0 l)) * 1048576 := by simp [figLog, placeF]
      have hw := figLog_le (f := ⟨g, 0⟩) hb.1 hb.2
      have e3 : chainLog l = chainLog0 l := by simp [chainLog, hc]
      refine ⟨hc, hf, rfl, ?_, ?_⟩
      · rw [e2, e3]
        have e4 : gapOf g (chainLog0 l) = (chainLog0 l).lo + (chainLog0 l).hi - (figLog ⟨g, 0⟩).lo - (figLog ⟨g, 0⟩).hi := rfl
        generalize gapOf g (chainLog0 l) = x at *
        unfold placeT
        split <;> omega
      · rw [e1, e3]
        have e4 : gapOf g (chainLog0 l) = (chainLog0 l).lo + (chainLog0 l).hi - (figLog ⟨g, 0⟩).lo - (figLog ⟨g, 0⟩).hi := rfl
        generalize gapOf g (chainLog0 l) = x at *
        unfold placeT
        split <;> omega
    · rw [if_neg hg] at h; simp at h
  · rw [if_neg hc] at h; simp at h

end Go.Proofs.Ytkoojngonldcbaa
