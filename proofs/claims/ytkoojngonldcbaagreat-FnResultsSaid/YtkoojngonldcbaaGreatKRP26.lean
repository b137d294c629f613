/- DERIVED. Plain words: the result of the usual plan lies within its span; ordered terms have the same logarithm. No program in sight. -/
import Derived.Test.YtkoojngonldcbaaGreatKRP12
import Derived.Test.YtkoojngonldcbaaGreatKRP24
namespace Go.Proofs.YtkoojngonldcbaaGreat
set_option linter.unusedVariables false
set_option linter.unusedSimpArgs false
set_option maxRecDepth 100000
theorem near_ex (s t : Int) : ∀ k : Nat, ∃ n, IsNear s t 0 ((k : Int) + 1) n
  | 0 => ⟨0, near_one⟩
  | k + 1 => by
    obtain ⟨n, hn⟩ := near_ex s t k
    obtain ⟨h1, h2⟩ := near_snoc hn (by omega)
    by_cases h : aw s t ((k : Int) + 1) < aw s t n
    · exact ⟨_, by have := h1 h; rwa [show ((k + 1 : Nat) : Int) + 1 = (k : Int) + 1 + 1 from by omega]⟩
    · exact ⟨_, by have := h2 h; rwa [show ((k + 1 : Nat) : Int) + 1 = (k : Int) + 1 + 1 from by omega]⟩
theorem readF_near0 (t : Int) : ∃ n, IsNear 0 t 0 9000 n ∧ readF 0 t = atF n := by
  obtain ⟨n, hn⟩ := near_ex 0 t 8999
  have hn' : IsNear 0 t 0 (9000 * decN 0) n := hn
  exact ⟨n, hn, by unfold readF; rw [nearN_eq hn']⟩
theorem pt0_in {d t : Int} (h1 : 1000 ≤ d) (h2 : d ≤ 9999) : (lg d).lo ≤ ptF 0 ⟨d, t⟩ ∧ ptF 0 ⟨d, t⟩ < (lg d).hi := by
  have := lg_lt h1 h2
  have e : ptF 0 ⟨d, t⟩ = ((lg d).lo + (lg d).hi) / 2 := rfl
  omega
theorem pts_in : ∀ (l : List Trm) (a : Itv) (n k : Int), (∀ t ∈ l, okTrm t = true) → a.lo ≤ n + 1048576 * k → n + 1048576 * k ≤ a.hi →
    (l.foldl logStep a).lo ≤ l.foldl ptStep n + 1048576 * l.foldl tensStep k ∧ l.foldl ptStep n + 1048576 * l.foldl tensStep k ≤ (l.foldl logStep a).hi
  | [], a, n, k, _, h1, h2 => ⟨h1, h2⟩
  | t :: l, a, n, k, h, h1, h2 => by
    obtain ⟨t1, t2, t3, t4⟩ := okTrm_bd (h t (by simp))
    have hp := pt0_in (t := t.f.t) t1 t2
    have e0 : ptF 0 ⟨t.f.d, t.f.t⟩ = ptF 0 t.f := rfl
    rw [e0] at hp
    have e1 : (figLog t.f).lo = (lg t.f.d).lo + t.f.t * 1048576 := rfl
    have e2 : (figLog t.f).hi = (lg t.f.d).hi + t.f.t * 1048576 := rfl
    rw [List.foldl_cons, List.foldl_cons, List.foldl_cons]
    refine pts_in l _ _ _ (fun x hx => h x (by simp [hx])) ?_ ?_
    · cases hd : t.dv
      · rw [logStep_n hd, ptStep_n hd, tensStep_n hd]; simp only; omega
      · rw [logStep_y hd, ptStep_y hd, tensStep_y hd]; simp only; omega
    · cases hd : t.dv
      · rw [logStep_n hd, ptStep_n hd, tensStep_n hd]; simp only; omega
      · rw [logStep_y hd, ptStep_y hd, tensStep_y hd]; simp only; omega
theorem P0_eq {n : Int} (h0 : 0 ≤ n) (h1 : n < 9000) : (lg (1000 + n)).lo ≤ P 0 n ∧ P 0 n < (lg (1000 + n)).hi := by
  have e : P 0 n = ptF 0 ⟨1000 + n, 0⟩ := by unfold P; rw [show atF n = ⟨1000 + n, 0⟩ from by simp only [atF]; congr 1 <;> omega]
  rw [e]
  exact pt0_in (by omega) (by omega)
theorem P0_lt {n : Int} (h0 : 0 ≤ n) (h1 : n + 1 < 9000) : P 0 n < P 0 (n + 1) := by
  have h := P_step (s := 0) (n := n) (by decide) h0 (by simp only [decN]; omega) (by intro h; exact absurd h (by decide))
  simpa [lessP] using h
theorem aw_less {t n m : Int} (h : le3 0 t n m) : ¬ aw 0 t m < aw 0 t n := by
  unfold le3 at h; omega
theorem near_within {cu K n lo hi u : Int} (hn : IsNear 0 cu 0 9000 n) (hc0 : 0 ≤ cu) (hc1 : cu ≤ 1048576) (hlo : lo ≤ cu + 1048576 * K) (hhi : cu + 1048576 * K ≤ hi) (hu : 0 < u)
    (hb : isFig (belowF (lo - u)) = true) (ha : isFig (aboveF (hi + u)) = true) :
    keyF (belowF (lo - u)) ≤ 10000 * K + (1000 + n) ∧ 10000 * K + (1000 + n) ≤ keyF (aboveF (hi + u)) := by
  obtain ⟨n0, n1, nm⟩ := hn
  have eM : atF (9000 * K + n) = ⟨1000 + n, K⟩ := by simp only [atF]; congr 1 <;> omega
  have kM : keyF (atF (9000 * K + n)) = 10000 * K + (1000 + n) := by rw [eM]; simp only [keyF]
  rw [← kM]
  constructor
  · refine key_at_mono (Int.not_lt.1 fun q => ?_)
    obtain ⟨a1, a2, a3, a4⟩ := firstN_is (pHigh (lo - u))
    have hf := isFig_bd hb
    have ht : (belowF (lo - u)).t = (nBelow (lo - u) - 1) / 9000 := rfl
    rw [ht] at hf
    unfold nBelow at hf q
    have e2 : pHigh (lo - u) (firstN (pHigh (lo - u)) - 1) = false := by
      rcases a4 with a | a
      · omega
      · exact a
    have m := (at_mono (show 9000 * K + n + 1 ≤ firstN (pHigh (lo - u)) - 1 by omega)).2
    simp only [pHigh, decide_eq_false_iff_not] at e2
    by_cases h9 : n + 1 < 9000
    · have eN : atF (9000 * K + n + 1) = ⟨1000 + (n + 1), K⟩ := by simp only [atF]; congr 1 <;> omega
      rw [eN] at m
      have e3 : (figLog ⟨1000 + (n + 1), K⟩).hi = (lg (1000 + (n + 1))).hi + K * 1048576 := rfl
      have p1 := P0_eq (n := n + 1) (by omega) h9
      have p2 := P0_lt n0 h9
      refine aw_less (nm (n + 1) (by omega) h9) ?_
      unfold aw
      omega
    · have eN : atF (9000 * K + n + 1) = ⟨1000, K + 1⟩ := by simp only [atF]; congr 1 <;> omega
      rw [eN] at m
      have e3 : (figLog ⟨1000, K + 1⟩).hi = (lg 1000).hi + (K + 1) * 1048576 := rfl
      have := lg_bd (d := 1000) (by omega) (by omega)
      omega
  · refine key_at_mono (Int.not_lt.1 fun q => ?_)
    obtain ⟨a1, a2, a3, a4⟩ := firstN_is (pLow (hi + u))
    have hf := isFig_bd ha
    have ht : (aboveF (hi + u)).t = nAbove (hi + u) / 9000 := rfl
    rw [ht] at hf
    unfold nAbove at hf q
    have e2 : pLow (hi + u) (firstN (pLow (hi + u))) = true := by
      rcases a3 with a | a
      · omega
      · exact a
    have m := (at_mono (show firstN (pLow (hi + u)) ≤ 9000 * K + n - 1 by omega)).1
    simp only [pLow, decide_eq_true_eq] at e2
    by_cases h9 : 1 ≤ n
    · have eN : atF (9000 * K + n - 1) = ⟨1000 + (n - 1), K⟩ := by simp only [atF]; congr 1 <;> omega
      rw [eN] at m
      have e3 : (figLog ⟨1000 + (n - 1), K⟩).lo = (lg (1000 + (n - 1))).lo + K * 1048576 := rfl
      have p1 := P0_eq (n := n - 1) (by omega) (by omega)
      have p2 := P0_lt (n := n - 1) (by omega) (by omega)
      rw [Int.sub_add_cancel] at p2
      refine aw_less (nm (n - 1) (by omega) (by omega)) ?_
      unfold aw
      omega
    · have eN : atF (9000 * K + n - 1) = ⟨9999, K - 1⟩ := by simp only [atF]; congr 1 <;> omega
      rw [eN] at m
      have e3 : (figLog ⟨9999, K - 1⟩).lo = (lg 9999).lo + (K - 1) * 1048576 := rfl
      have := lg_bd (d := 9999) (by omega) (by omega)
      omega
theorem planTC_0 {r : Rul} {c : List Trm} (h : codePlan r c = 0) : planTC r c = 0 := by
  unfold planTC
  rw [if_pos h, (usual_run h).1]
theorem trav_nonneg : ∀ (l : List Stg) (s : Stg), 0 ≤ (trav s l).1 ∧ 0 ≤ (trav s l).2
  | [], s => by simp [trav]
  | x :: l, s => by
    have := trav_nonneg l x
    simp only [trav]
    omega
theorem planT_nonneg (r : Rul) (c : List Trm) : 0 ≤ planTS r c ∧ 0 ≤ planTK r c := by
  unfold planTS planTK travS travK
  have := trav_nonneg (runSt r ⟨0, 0⟩ (planL c)) ⟨0, 0⟩
  constructor
  · repeat (split)
    all_goals first | exact this.1 | decide
  · repeat (split)
    all_goals first | exact this.2 | decide
theorem usual_stg {r : Rul} {c : List Trm} (h : codePlan r c = 0) : isStg (usualP c).s = true := by
  obtain ⟨h1, h2, h3, h4⟩ := codePlan_0 h
  exact (OkP.usual ⟨h3, h4⟩ h2).st
theorem psC_range {r : Rul} {c : List Trm} {e : Ers} (h : codeBound r c e = 0) : psC r c e = 0 ∨ psC r c e = 2 ∨ psC r c e = 4 := by
  unfold psC spanC
  rw [if_pos h]
  split
  · split <;> omega
  · omega
theorem result_law {r : Rul} {c : List Trm} (h : codePlan r c = 0) :
    planTC r c = 0 ∧ 0 ≤ planTS r c ∧ 0 ≤ planTK r c ∧ isFig (readF 0 (usualP c).s.cu) = true ∧
    (wiC r c noE (readF 0 (usualP c).s.cu) = 2 ∨ wiC r c noE (readF 0 (usualP c).s.cu) = 4 ∨ (wiC r c noE (readF 0 (usualP c).s.cu) = 0 ∧ wiB r c noE (readF 0 (usualP c).s.cu) = true)) := by
  obtain ⟨h1, h2, h3, h4⟩ := codePlan_0 h
  obtain ⟨n, hn, hr⟩ := readF_near0 (usualP c).s.cu
  have hnn := hn
  obtain ⟨n0, n1, _⟩ := hnn
  have eN : atF n = ⟨1000 + n, 0⟩ := by simp only [atF]; congr 1 <;> omega
  have hf : isFig (readF 0 (usualP c).s.cu) = true := by rw [hr]; exact atF_fig (s := 0) n0 (by simp only [decN]; omega)
  have hb0 : codeBound r c noE = 0 := by unfold codeBound; rw [noE_is]; exact h
  have ew : wiC r c noE (readF 0 (usualP c).s.cu) = psC r c noE := by unfold wiC; rw [if_pos hf]
  refine ⟨planTC_0 h, (planT_nonneg r c).1, (planT_nonneg r c).2, hf, ?_⟩
  rw [ew]
  rcases psC_range hb0 with hp | hp | hp
  · refine .inr (.inr ⟨hp, ?_⟩)
    obtain ⟨_, hs⟩ := psC_0 hp
    obtain ⟨_, _, g1, g2⟩ := spanC_all hs
    have q3 : psL r c noE = spanL (planI r c noE) := by unfold psL; rw [if_pos hb0]
    have q4 : psH r c noE = spanH (planI r c noE) := by unfold psH; rw [if_pos hb0]
    obtain ⟨_, _, e1, e2⟩ := spanC_0 hs
    have hsb := isStg_bd (usual_stg h)
    have hv := usual_val h2
    obtain ⟨v1, v2⟩ := pts_in c ⟨0, 0⟩ 0 0 (isChain_true h2).2.2.2 (by decide) (by decide)
    have v1' : (chainLog0 c).lo ≤ sumPts c + 1048576 * sumTens c := v1
    have v2' : sumPts c + 1048576 * sumTens c ≤ (chainLog0 c).hi := v2
    obtain ⟨K, hK⟩ : ∃ K, sumPts c + 1048576 * sumTens c = (usualP c).s.cu + 1048576 * K := ⟨(sumPts c + 1048576 * sumTens c - (usualP c).s.cu) / 1048576, by omega⟩
    rw [hK] at v1' v2'
    have hu : 0 < unP r.len c noE := by
      have hl := isRule_len h1
      have h0 := (unE_bd noE_is hl.1).1
      have hc := countSet_bd (planL c)
      unfold unP
      exact Int.mul_pos (by omega) (by omega)
    have key := near_within hn hsb.2.2.1 hsb.2.2.2 v1' v2' hu g1 g2
    unfold wiB
    rw [Bool.and_eq_true]
    refine ⟨by rw [ew, hp]; rfl, ?_⟩
    rw [hr, eN, q3, q4, e1, e2]
    exact inSpan_hit (k := K) (hitT_iff.2 key)
  · exact .inl hp
  · exact .inr (.inl hp)
theorem perm_sub : ∀ (o L : List Int), o.Nodup → (∀ x ∈ o, x ∈ L) → o.length = L.length → o.Perm L
  | [], L, _, _, h => by
    have : L = [] := List.length_eq_zero_iff.1 h.symm
    rw [this]
  | x :: o, L, hd, hm, hl => by
    have hx := hm x (by simp)
    have p := List.perm_cons_erase hx
    refine (List.Perm.cons x ?_).trans p.symm
    refine perm_sub o (L.erase x) (List.nodup_cons.1 hd).2 (fun y hy => ?_) ?_
    · have hne : y ≠ x := fun e => (List.nodup_cons.1 hd).1 (e ▸ hy)
      exact (List.mem_erase_of_ne hne).2 (hm y (by simp [hy]))
    · rw [List.length_erase_of_mem hx]; simp only [List.length_cons] at hl; omega
theorem ordOk_at {n : Nat} {os : List Int} (h : ordOk n os = true) {i : Nat} {x : Int} (hx : os[i]? = some x) : 0 ≤ x ∧ x ≤ n - 1 ∧ x ∉ os.take i := by
  have hi : i < os.length := (List.getElem?_eq_some_iff.1 hx).1
  rw [ordOk, List.all_eq_true] at h
  have := h i (List.mem_range.2 hi)
  rw [okAt_get hx, Bool.and_eq_true] at this
  obtain ⟨a, b⟩ := this
  have hr := inR_true a
  refine ⟨hr.1, hr.2, fun hm => ?_⟩
  rw [(hasI_iff _ _).2 hm] at b
  cases b
theorem ordOk_nodup {n : Nat} {os : List Int} (h : ordOk n os = true) : os.Nodup := by
  rw [List.nodup_iff_pairwise_ne, List.pairwise_iff_getElem]
  intro i j hi hj hij e
  have hx : os[j]? = some os[j] := List.getElem?_eq_getElem hj
  refine (ordOk_at h hx).2.2 ?_
  rw [← e]
  rw [List.mem_take_iff_getElem]
  exact ⟨i, by omega, rfl⟩
theorem orderedL_perm {c : List Trm} {os : List Int} (h : ordOk c.length os = true) (hl : os.length = c.length) : (orderedL c os).Perm c := by
  have hp : os.Perm (idO c.length) := by
    refine perm_sub _ _ (ordOk_nodup h) (fun x hx => ?_) (by simp [idO, hl])
    obtain ⟨i, hi, e⟩ := List.getElem_of_mem hx
    have := ordOk_at h (List.getElem?_eq_some_iff.2 ⟨hi, e⟩)
    unfold idO
    rw [List.mem_map]
    exact ⟨x.toNat, List.mem_range.2 (by omega), by omega⟩
  have := hp.map (fun k : Int => c.getD k.toNat dfT)
  have e := orderedL_idO c
  unfold orderedL at e ⊢
  rw [e] at this
  exact this
theorem order_law {c : List Trm} {os : List Int} (h : (orderTerms c os).2 = 0) : codeChain c = 0 ∧ codeChain (orderTerms c os).1 = 0 ∧ chainLog (orderTerms c os).1 = chainLog c := by
  unfold orderTerms at h ⊢
  by_cases h1 : isChain c = true
  rotate_left
  · rw [if_neg h1] at h; simp at h
  rw [if_pos h1] at h ⊢
  by_cases h2 : ordOk c.length os = true
  rotate_left
  · rw [if_neg h2] at h; simp at h
  rw [if_pos h2] at h ⊢
  by_cases h3 : os.length = c.length
  rotate_left
  · rw [if_neg h3] at h; simp at h
  rw [if_pos h3] at h ⊢
  by_cases h4 : isChain (orderedL c os) = true
  rotate_left
  · rw [if_neg h4] at h; simp at h
  rw [if_pos h4]
  refine ⟨by simp [codeChain, h1], by simp [codeChain, h4], ?_⟩
  simp only [chainLog, h1, h4, if_true]
  exact chainLog0_perm (orderedL_perm h2 h3)
end Go.Proofs.YtkoojngonldcbaaGreat
