/- DERIVED. Plain words: exchanging and sorting terms leaves the logarithm. No program in sight. -/
import Derived.Test.YtkoojngonldcbaaPA
namespace Go.Proofs.Ytkoojngonldcbaa
set_option linter.unusedVariables false
set_option linter.unusedSimpArgs false
set_option maxRecDepth 100000

theorem logStep_comm (a : Itv) (x y : Trm) : logStep (logStep a x) y = logStep (logStep a y) x := by
  cases hx : x.dv <;> cases hy : y.dv
  · rw [logStep_n hx, logStep_n hy, logStep_n hx, logStep_n hy]; simp only [Itv.mk.injEq]; omega
  · rw [logStep_n hx, logStep_y hy, logStep_n hx, logStep_y hy]; simp only [Itv.mk.injEq]; omega
  · rw [logStep_y hx, logStep_n hy, logStep_y hx, logStep_n hy]; simp only [Itv.mk.injEq]; omega
  · rw [logStep_y hx, logStep_y hy, logStep_y hx, logStep_y hy]; simp only [Itv.mk.injEq]; omega
theorem chainLog0_perm {l m : List Trm} (h : l.Perm m) : chainLog0 l = chainLog0 m := by
  have : ∀ {l m : List Trm}, l.Perm m → ∀ a, l.foldl logStep a = m.foldl logStep a := by
    intro l m h
    induction h with
    | nil => exact fun _ => rfl
    | cons x _ ih => exact fun a => ih _
    | swap x y l => exact fun a => by simp only [List.foldl_cons]; rw [logStep_comm]
    | trans _ _ i1 i2 => exact fun a => (i1 a).trans (i2 a)
  exact this h _

theorem weave_perm : ∀ (n : Nat) (a b : List Trm), a.length + b.length ≤ n → (weave a b).Perm (a ++ b)
  | 0, [], [], _ => by rw [weave]; exact .nil
  | 0, _ :: _, _, h => by simp at h
  | 0, [], _ :: _, h => by simp at h
  | n + 1, [], b, _ => by rw [weave]; exact .refl _
  | n + 1, x :: a, b, h => by
    rw [weave]
    have ih := weave_perm n b a (by simp at h; omega)
    exact (ih.trans List.perm_append_comm).cons x
theorem filter_perm (p : Trm → Bool) : ∀ l : List Trm, ((l.filter p) ++ (l.filter fun x => !p x)).Perm l
  | [] => .nil
  | x :: l => by
    have ih := filter_perm p l
    cases hp : p x
    · simp only [List.filter_cons, hp, Bool.false_eq_true, if_false, Bool.not_false, if_true]
      exact (List.perm_middle).trans (ih.cons x)
    · simp only [List.filter_cons, hp, if_true, Bool.not_true, Bool.false_eq_true, if_false, List.cons_append]
      exact ih.cons x
theorem sortL_perm (l : List Trm) : (sortL l).Perm l := by
  cases l with
  | nil => exact .nil
  | cons t r => exact ((weave_perm _ _ _ (Nat.le_refl _)).trans (filter_perm (fun x => x.dv) r)).cons t
theorem sortL_len (l : List Trm) : (sortL l).length = l.length := (sortL_perm l).length_eq
theorem isChain_perm {l m : List Trm} (h : l.Perm m) (hd : headDv l = headDv m) (hl : isChain l = true) : isChain m = true := by
  simp only [isChain, Bool.and_eq_true, List.all_eq_true] at hl ⊢
  obtain ⟨h1, h2, h3⟩ := hl
  exact ⟨fun t ht => h1 t (h.mem_iff.2 ht), by rw [← h.length_eq]; exact h2, by rw [← hd]; exact h3⟩
theorem sortL_head (l : List Trm) : headDv (sortL l) = headDv l := by cases l <;> rfl
theorem sortL_chain {l : List Trm} (h : isChain l = true) : isChain (sortL l) = true := isChain_perm (sortL_perm l).symm (sortL_head l).symm h
theorem sortL_log (l : List Trm) : chainLog0 (sortL l) = chainLog0 l := chainLog0_perm (sortL_perm l)

theorem swapL_perm (l : List Trm) (a b : Nat) : (swapL l a b).Perm l := by
  unfold swapL
  split
  · rename_i x y hx hy
    obtain ⟨ha, hxe⟩ := List.getElem?_eq_some_iff.1 hx
    obtain ⟨hb, hye⟩ := List.getElem?_eq_some_iff.1 hy
    subst hxe hye
    exact List.set_set_perm ha hb
  · exact .refl _
theorem swapL_log (l : List Trm) (a b : Nat) : chainLog0 (swapL l a b) = chainLog0 l := chainLog0_perm (swapL_perm l a b)
theorem swapL_len (l : List Trm) (a b : Nat) : (swapL l a b).length = l.length := (swapL_perm l a b).length_eq
theorem swapL_swapL (l : List Trm) (a b : Nat) (ha : a < l.length) (hb : b < l.length) : swapL (swapL l a b) a b = l := by
  have e : swapL l a b = (l.set a l[b]).set b l[a] := by simp [swapL, ha, hb]
  rw [e]
  have hl : ((l.set a l[b]).set b l[a]).length = l.length := by simp
  have e2 : ∀ (m : List Trm) (ha : a < m.length) (hb : b < m.length), swapL m a b = (m.set a m[b]).set b m[a] := by
    intro m ha hb; simp [swapL, ha, hb]
  rw [e2 _ (by omega) (by omega)]
  apply List.ext_getElem?
  intro i
  simp only [List.getElem?_set, List.length_set, List.getElem_set]
  by_cases h1 : b = i
  · subst h1
    by_cases h2 : a = b
    · subst h2; simp [hb]
    · have h3 : ¬ b = a := fun e => h2 e.symm
      simp [hb, h3]
  · by_cases h2 : a = i
    · subst h2; simp [ha, h1]
    · simp [h1, h2]
theorem swapTerms_ok {l : List Trm} {a b : Int} (h : (swapTerms l a b).2 = 0) : isChain l = true ∧ 0 ≤ a ∧ a < l.length ∧ 0 ≤ b ∧ b < l.length ∧ (swapTerms l a b).1 = swapL l a.toNat b.toNat ∧ isChain (swapL l a.toNat b.toNat) = true := by
  unfold swapTerms at h ⊢
  cases hc : isChain l
  · simp [hc] at h
  cases hi : (inR a 0 (l.length - 1) && inR b 0 (l.length - 1))
  · simp [hc, hi] at h
  cases hs : isChain (swapL l a.toNat b.toNat)
  · simp [hc, hi, hs] at h
  simp only [inR, Bool.and_eq_true, decide_eq_true_eq] at hi
  simp [hc, inR, hi, hs]
  omega
theorem swapTerms_back {l : List Trm} {a b : Int} (h : (swapTerms l a b).2 = 0) : swapTerms (swapTerms l a b).1 a b = (l, 0) := by
  obtain ⟨hc, ha, ha', hb, hb', he, hc'⟩ := swapTerms_ok h
  rw [he]
  unfold swapTerms
  have h1 : swapL (swapL l a.toNat b.toNat) a.toNat b.toNat = l := swapL_swapL l _ _ (by omega) (by omega)
  have h2 : (inR a 0 ((swapL l a.toNat b.toNat).length - 1) && inR b 0 ((swapL l a.toNat b.toNat).length - 1)) = true := by
    rw [swapL_len]; simp only [inR, Bool.and_eq_true, decide_eq_true_eq]; omega
  rw [hc', if_pos rfl, h2, if_pos rfl, h1, hc, if_pos rfl]
theorem sortTerms_ok {l : List Trm} (h : (sortTerms l).2 = 0) : isChain l = true ∧ (sortTerms l).1 = sortL l := by
  unfold sortTerms at h ⊢
  cases hc : isChain l
  · simp [hc] at h
  · simp
theorem chainLog_swap {l : List Trm} {a b : Int} (h : (swapTerms l a b).2 = 0) : codeChain l = 0 ∧ codeChain (swapTerms l a b).1 = 0 ∧ chainLog (swapTerms l a b).1 = chainLog l := by
  obtain ⟨hc, ha, ha', hb, hb', he, hc'⟩ := swapTerms_ok h
  rw [he]
  simp [codeChain, chainLog, hc, hc', swapL_log]
theorem chainLog_sort {l : List Trm} (h : (sortTerms l).2 = 0) : codeChain l = 0 ∧ codeChain (sortTerms l).1 = 0 ∧ chainLog (sortTerms l).1 = chainLog l := by
  obtain ⟨hc, he⟩ := sortTerms_ok h
  rw [he]
  simp [codeChain, chainLog, hc, sortL_chain hc, sortL_log]
end Go.Proofs.Ytkoojngonldcbaa
