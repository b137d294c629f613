/- DERIVED. Plain words: rough chains have one digit, digits that fit stay so, partial tens end with those of the chain. No program in sight. -/
import Derived.Test.YtkoojngonldcbaaPA
namespace Go.Proofs.Ytkoojngonldcbaa
set_option linter.unusedVariables false
set_option linter.unusedSimpArgs false
set_option maxRecDepth 100000

theorem cutR_mod {a : Fig} (ha : isFig a = true) (h : cutC a = 0) : (cutR a).d % 1000 = 0 := by
  have hm := codeLim_cases (cutF a)
  have e1 : cutR a = limF (cutF a) := by simp [cutR, ha]
  have e2 : cutC a = codeLim (cutF a) := by simp [cutC, ha]
  rw [e2] at h
  rw [e1]
  rcases hm with ⟨h1, h2, h3⟩ | ⟨h1, h2, h3⟩
  · rw [h3]
    unfold cutF
    split
    · rfl
    · simp only; omega
  · omega
theorem roughFold_mod : ∀ (l : List Trm) (a b : Fig), isFig a = true → a.d % 1000 = 0 → (∀ t ∈ l, okTrm t = true) → roughFold a l = some b → b.d % 1000 = 0
  | [], a, b, _, hd, _, h => by simp [roughFold] at h; subst h; exact hd
  | t :: l, a, b, ha, hd, hl, h => by
    have ht : isFig t.f = true := hl t (by simp)
    rcases cut_cases ht with ⟨h1, h2⟩ | ⟨h1, h2⟩
    · rcases op_cases t.dv ha h2 with ⟨h3, h4⟩ | ⟨h3, h4⟩
      · rcases cut_cases h4 with ⟨h5, h6⟩ | ⟨h5, h6⟩
        · rw [roughFold_go h1 h3 h5] at h
          exact roughFold_mod l _ b h6 (cutR_mod h4 h5) (fun x hx => hl x (by simp [hx])) h
        · rw [roughFold_3 h1 h3 h5] at h; cases h
      · rw [roughFold_2 h1 h3] at h; cases h
    · rw [roughFold_1 h1] at h; cases h
theorem rough_mod {l : List Trm} (h : roughC l = 0) : (roughChain l).d % 1000 = 0 := by
  unfold roughC at h
  cases hc : isChain l
  · simp [hc] at h
  simp only [hc, if_true] at h
  unfold roughChain
  simp only [hc, if_true]
  have hh := isChain_true hc
  cases hr : rough0 l with
  | none => rw [hr] at h; simp [optC] at h
  | some b =>
    show b.d % 1000 = 0
    unfold rough0 at hr
    have hf : isFig (headF l) = true := by
      cases l with
      | nil => simp at hh
      | cons t l => exact hh.2.2.2 t (by simp)
    rcases cut_cases hf with ⟨h1, h2⟩ | ⟨h1, h2⟩
    · rw [if_pos h1] at hr
      exact roughFold_mod _ _ b h2 (cutR_mod hf h1) (fun t ht => hh.2.2.2 t (List.mem_of_mem_drop ht)) hr
    · rw [if_neg (by omega)] at hr; cases hr
theorem digits_more {l : List Trm} {f : Fig} {u : Int} (h : codeDigits l f u = 0) (hu : u < 1048576) : codeDigits l f (u + 1) = 0 ∧ (checkDigits l f u = true → checkDigits l f (u + 1) = true) := by
  have h0 := h
  unfold codeDigits at h
  cases hc : (isChain l && isFig f)
  · simp [hc] at h
  simp only [hc, if_true] at h
  cases hr : inR u 0 1048576
  · simp [hr] at h
  have hr2 : inR (u + 1) 0 1048576 = true := by
    simp only [inR, Bool.and_eq_true, decide_eq_true_eq] at hr ⊢
    omega
  have h1 : codeDigits l f (u + 1) = 0 := by unfold codeDigits; simp [hc, hr2]
  refine ⟨h1, fun hk => ?_⟩
  unfold checkDigits at hk ⊢
  rw [if_pos h0] at hk
  rw [if_pos h1]
  simp only [meetI, Bool.and_eq_true, decide_eq_true_eq] at hk ⊢
  omega

theorem partL_get {l : List Trm} : ∀ {k : Nat} {r : List Int}, partL l k = some r → ∀ j, j < k → chainFigC (l.take (j + 1)) = 0 ∧ r[j]? = some (chainFig (l.take (j + 1))).t
  | 0, r, _ => fun j hj => absurd hj (Nat.not_lt_zero _)
  | k + 1, r, h => by
    rw [partL] at h
    cases hp : partL l k with
    | none => rw [hp] at h; simp at h
    | some q =>
      rw [hp] at h
      have hl := partL_len hp
      simp only at h
      split at h
      · rename_i hc
        simp at h
        subst h
        intro j hj
        by_cases hjk : j < k
        · obtain ⟨h1, h2⟩ := partL_get hp j hjk
          exact ⟨h1, by rw [List.getElem?_append_left (by omega)]; exact h2⟩
        · obtain rfl : j = k := by omega
          exact ⟨hc, by rw [List.getElem?_append_right (by omega), hl]; simp⟩
      · cases h
theorem partial_ok {l : List Trm} (h : codePartial l = 0) : isChain l = true ∧ chainFigC l = 0 ∧ (partialTens l).length = l.length ∧ (partialTens l)[l.length - 1]? = some (chainFig l).t ∧ ∀ t, l[0]? = some t → (partialTens l)[0]? = some t.f.t := by
  unfold codePartial at h
  cases hc : isChain l
  · simp [hc] at h
  simp only [hc, if_true] at h
  have hh := isChain_true hc
  cases hp : partL l l.length with
  | none => rw [hp] at h; simp at h
  | some r =>
    have hg := partL_get hp
    have hr : partialTens l = r := by simp [partialTens, hc, hp]
    rw [hr]
    have h1 := hg (l.length - 1) (by omega)
    rw [show l.length - 1 + 1 = l.length from by omega, List.take_length] at h1
    refine ⟨rfl, h1.1, partL_len hp, h1.2, fun t ht => ?_⟩
    have h2 := (hg 0 (by omega)).2
    cases l with
    | nil => simp at ht
    | cons x l =>
      simp at ht
      subst ht
      rw [h2]
      have hc1 : isChain [x] = true := take_isChain hc (k := 0) (by simp)
      simp [chainFig, hc1, chainFig0, figFold, headF, optF]
end Go.Proofs.Ytkoojngonldcbaa
