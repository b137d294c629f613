/- DERIVED. Plain words: plans, best orders. No program in sight. -/
import Derived.Test.YtkoojngonldcbaaGreatKPP9
import Derived.Test.YtkoojngonldcbaaGreatKPP13
namespace Go.Proofs.YtkoojngonldcbaaGreat
set_option linter.unusedVariables false
set_option linter.unusedSimpArgs false
set_option maxRecDepth 100000
def atP (p : Pln) : Int := if p.e then p.s.sh else p.s.cu
def ValP (p : Pln) (V : Int) : Prop := (atP p - V) % 1048576 = 0
theorem under_val {p : Pln} {V : Int} (h : ValP p V) : ((underP p).s.cu - V) % 1048576 = 0 := by
  unfold ValP atP at h
  unfold underP
  cases he : p.e
  · simp only [he, Bool.false_eq_true, if_false] at h ⊢
    exact h
  · simp only [he, if_true] at h ⊢
    split
    · simp only [doP, mvTo5]; exact h
    · simp only [doP, mvTo6]; omega
theorem term_val {p : Pln} {V : Int} {t : Trm} (h : ValP p V) : ValP (termP p t) (ptStep V t) := by
  have hu := under_val h
  unfold termP
  cases hd : t.dv
  · simp only [Bool.false_eq_true, if_false]
    rw [ptStep_n hd]
    split
    · rename_i hq
      rw [Bool.and_eq_true] at hq
      unfold ValP atP at h ⊢
      rw [hq.1, if_pos rfl] at h
      simp only [doP, mvTo1, Bool.false_eq_true, if_false]
      omega
    · unfold ValP atP sideP
      split
      · simp only [doP, mvTo1, mvTo3, Bool.false_eq_true, if_false]; omega
      · simp only [doP, mvTo1, mvTo4, Bool.false_eq_true, if_false]; omega
  · simp only [if_true]
    rw [ptStep_y hd]
    unfold ValP atP
    simp only [doP, mvTo2, if_true]
    omega
theorem fold_val : ∀ (l : List Trm) (p : Pln) (V : Int), ValP p V → ValP (l.foldl termP p) (l.foldl ptStep V)
  | [], _, _, h => h
  | t :: l, p, V, h => fold_val l _ _ (term_val h)
theorem usual_val {c : List Trm} (h : isChain c = true) : ((usualP c).s.cu - sumPts c) % 1048576 = 0 := by
  have hh := isChain_true h
  cases c with
  | nil => simp at hh
  | cons t l =>
    have hd : t.dv = false := hh.2.2.1
    have h0 : ValP (startP t.f) (ptStep 0 t) := by
      rw [ptStep_n hd]
      unfold ValP atP startP
      simp only [doP, mvTo0, Bool.false_eq_true, if_false]
      omega
    exact under_val (fold_val l _ _ h0)
theorem codeMoves_mk {l : List Mov} (h : l.all isMove = true) (hl : l.length ≤ 30) : codeMoves l = 0 := by
  unfold codeMoves; rw [if_pos h, if_pos hl]
theorem usual_run {r : Rul} {c : List Trm} (h : codePlan r c = 0) : runC r ⟨0, 0⟩ (planL c) = 0 ∧ runMv r ⟨0, 0⟩ (planL c) = (usualP c).s := by
  obtain ⟨h1, h2, h3, h4⟩ := codePlan_0 h
  have ho := OkP.usual (r := r) ⟨h3, h4⟩ h2
  have hc : codeRun r ⟨0, 0⟩ (planL c) = 0 := by
    unfold codeRun
    rw [h1, show isStg ⟨0, 0⟩ = true from by decide]
    simp only [Bool.and_self, if_true]
    exact codeMoves_mk ho.mv (Nat.le_trans ho.len (by decide))
  have ha : allDone r ⟨0, 0⟩ (planL c) = true := by
    unfold allDone; rw [beq_iff_eq]; exact ho.full
  constructor
  · unfold runC; rw [if_pos hc, ha]; rfl
  · unfold runMv; rw [if_pos hc, ha, if_pos rfl]; exact ho.last
theorem plan_is {r : Rul} {c : List Trm} (h : codePlan r c = 0) : isPlan r c (planFor r c) = true := by
  obtain ⟨h1, h2⟩ := usual_run h
  rw [planFor_yes h]
  unfold isPlan
  rw [if_pos h, if_pos h1, h2, usual_val (codePlan_0 h).2.1]
  rfl
theorem updO_yes {cost : List Int → Int} {s : List Int × Int} {o : List Int} (h : s.2 < 0 ∨ cost o < s.2) : updO cost s o = (o, cost o) := if_pos h
theorem updO_no {cost : List Int → Int} {s : List Int × Int} {o : List Int} (h : ¬ (s.2 < 0 ∨ cost o < s.2)) : updO cost s o = s := if_neg h
theorem upd_keep {cost : List Int → Int} (hc : ∀ o, 0 ≤ cost o) : ∀ (l : List (List Int)) (s : List Int × Int), 0 ≤ s.2 → (l.foldl (updO cost) s).2 ≤ s.2 ∧ (∀ o ∈ l, (l.foldl (updO cost) s).2 ≤ cost o) ∧ (l.foldl (updO cost) s = s ∨ ∃ o ∈ l, l.foldl (updO cost) s = (o, cost o))
  | [], s, _ => ⟨Int.le_refl _, by simp, .inl rfl⟩
  | x :: l, s, hs => by
    rw [List.foldl_cons]
    by_cases h : s.2 < 0 ∨ cost x < s.2
    · rw [updO_yes h]
      obtain ⟨h1, h2, h3⟩ := upd_keep hc l (x, cost x) (hc x)
      simp only at h1
      refine ⟨by omega, fun o ho => ?_, .inr ?_⟩
      · rcases List.mem_cons.1 ho with rfl | ho
        · exact h1
        · exact h2 o ho
      · rcases h3 with h3 | ⟨o, ho, h3⟩
        · exact ⟨x, by simp, h3⟩
        · exact ⟨o, by simp [ho], h3⟩
    · rw [updO_no h]
      obtain ⟨h1, h2, h3⟩ := upd_keep hc l s hs
      refine ⟨h1, fun o ho => ?_, ?_⟩
      · rcases List.mem_cons.1 ho with rfl | ho
        · omega
        · exact h2 o ho
      · rcases h3 with h3 | ⟨o, ho, h3⟩
        · exact .inl h3
        · exact .inr ⟨o, by simp [ho], h3⟩
theorem best_is {cost : List Int → Int} (hc : ∀ o, 0 ≤ cost o) {l : List (List Int)} (hl : l ≠ []) : (bestO cost l).1 ∈ l ∧ (bestO cost l).2 = cost (bestO cost l).1 ∧ ∀ o ∈ l, (bestO cost l).2 ≤ cost o := by
  cases l with
  | nil => exact absurd rfl hl
  | cons x l =>
    have e : bestO cost (x :: l) = l.foldl (updO cost) (x, cost x) := by
      unfold bestO; rw [List.foldl_cons, updO_yes (.inl (by decide))]
    rw [e]
    obtain ⟨h1, h2, h3⟩ := upd_keep hc l (x, cost x) (hc x)
    refine ⟨?_, ?_, fun o ho => ?_⟩
    · rcases h3 with h3 | ⟨o, ho, h3⟩
      · rw [h3]; simp
      · rw [h3]; simp [ho]
    · rcases h3 with h3 | ⟨o, ho, h3⟩ <;> rw [h3]
    · rcases List.mem_cons.1 ho with rfl | ho
      · exact h1
      · exact h2 o ho
structure OrdO (c : List Trm) (o : List Int) : Prop where
  good : GoodO c o
  nodup : o.Nodup
theorem OrdO.snoc {c : List Trm} {o : List Int} {k : Nat} (h : OrdO c o) (hk : k < c.length) (hs : skipO c o k = false) : OrdO c (o ++ [(k : Int)]) := by
  refine ⟨h.good.snoc hk hs, ?_⟩
  have hn : (k : Int) ∉ o := by
    intro hm
    have : hasI o k = true := (hasI_iff o k).2 hm
    simp [skipO, this] at hs
  rw [List.nodup_append]
  exact ⟨h.nodup, by simp, fun a ha b hb => by simp at hb; subst hb; exact fun e => hn (e ▸ ha)⟩
theorem lvs_ord {c : List Trm} : ∀ (n : Nat) (o : List Int), OrdO c o → ∀ x ∈ lvs c n o, OrdO c x
  | 0, o, h, x, hx => by simp [lvs] at hx; rw [hx]; exact h
  | n + 1, o, h, x, hx => by
    rw [lvs] at hx
    obtain ⟨k, hk, hx⟩ := List.mem_flatMap.1 hx
    split at hx
    · simp at hx
    · rename_i hs
      exact lvs_ord n _ (h.snoc (List.mem_range.1 hk) (Bool.eq_false_iff.2 hs)) x hx
theorem nodup_take {l : List Int} (h : l.Nodup) {i : Nat} {x : Int} (hx : l[i]? = some x) : hasI (l.take i) x = false := by
  rw [Bool.eq_false_iff]
  intro hh
  rw [hasI_iff] at hh
  obtain ⟨j, hj, he⟩ := List.mem_iff_getElem.1 hh
  rw [List.length_take] at hj
  rw [List.getElem_take] at he
  obtain ⟨hi, hxe⟩ := List.getElem?_eq_some_iff.1 hx
  have hp := List.pairwise_iff_getElem.1 h j i (by omega) hi (by omega)
  exact hp (he.trans hxe.symm)
theorem ord_ok {c : List Trm} {o : List Int} (hc : isChain c = true) (h : OrdO c o) (hl : o.length = c.length) : orderTerms c o = (orderedL c o, 0) := by
  have hcc := isChain_true hc
  have h1 : ordOk c.length o = true := ordOk_true fun i hi => by
    obtain ⟨x, hx⟩ := get_ex (l := o) (k := i) hi
    rw [okAt_get hx, nodup_take h.nodup hx]
    have hr := h.good.range x (List.mem_of_getElem? hx)
    rw [inR_mk (by omega)]
    rfl
  have h2 : isChain (orderedL c o) = true := h.good.chain hc (by omega) (by omega)
  unfold orderTerms
  rw [if_pos hc, if_pos h1, if_pos hl, if_pos h2]
def idO (n : Nat) : List Int := (List.range n).map fun k : Nat => (k : Int)
theorem lvs_idO {c : List Trm} (hd : headDv c = false) : ∀ (n k : Nat), k + n = c.length → idO c.length ∈ lvs c n (idO k)
  | 0, k, h => by simp [lvs, show k = c.length from by omega]
  | n + 1, k, h => by
    rw [lvs]
    refine List.mem_flatMap.2 ⟨k, List.mem_range.2 (by omega), ?_⟩
    have hs : skipO c (idO k) k = false := by
      unfold skipO
      have h1 : hasI (idO k) k = false := by
        rw [Bool.eq_false_iff]; intro hh; rw [hasI_iff] at hh
        obtain ⟨a, ha, he⟩ : ∃ a : Nat, a < k ∧ (a : Int) = k := by simpa [idO] using hh
        omega
      rw [h1]
      cases k with
      | zero =>
        cases c with
        | nil => simp at h
        | cons t l => simpa [headDv, idO] using hd
      | succ k => simp [idO, List.range_succ]
    rw [hs, if_neg (by simp)]
    have e : idO k ++ [(k : Int)] = idO (k + 1) := by simp [idO, List.range_succ]
    rw [e]
    exact lvs_idO hd n (k + 1) (by omega)
theorem orderedL_idO (c : List Trm) : orderedL c (idO c.length) = c := by
  apply List.ext_getElem?
  intro i
  unfold orderedL idO
  rw [List.map_map, List.getElem?_map]
  by_cases hi : i < c.length
  · rw [List.getElem?_range hi]; simp [List.getD, hi]
  · rw [List.getElem?_eq_none (by simp; omega), List.getElem?_eq_none (by omega)]; rfl
theorem OrdO.nil (c : List Trm) : OrdO c [] := ⟨GoodO.nil c, List.nodup_nil⟩
theorem best_all {cost : List Int → Int} (hc : ∀ o, 0 ≤ cost o) {c : List Trm} (h : isChain c = true) :
    orderTerms c (bestO cost (lvs c c.length [])).1 = (orderedL c (bestO cost (lvs c c.length [])).1, 0) ∧ (bestO cost (lvs c c.length [])).2 = cost (bestO cost (lvs c c.length [])).1 ∧ (bestO cost (lvs c c.length [])).2 ≤ cost (idO c.length) := by
  have hcc := isChain_true h
  have hid : idO c.length ∈ lvs c c.length [] := lvs_idO hcc.2.2.1 c.length 0 (by omega)
  obtain ⟨h1, h2, h3⟩ := best_is hc (List.ne_nil_of_mem hid)
  have hl := lvs_len _ _ _ h1
  exact ⟨ord_ok h (lvs_ord _ _ (OrdO.nil c) _ h1) (by simpa using hl), h2, h3 _ hid⟩
end Go.Proofs.YtkoojngonldcbaaGreat
