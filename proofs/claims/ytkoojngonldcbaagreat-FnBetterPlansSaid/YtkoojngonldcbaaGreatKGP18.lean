/- DERIVED. Walks: laws.likeInts. -/
import Derived.Test.YtkoojngonldcbaaGreatKGM100
import Derived.Test.YtkoojngonldcbaaGreatKGP13
namespace Go.Proofs.YtkoojngonldcbaaGreat
set_option linter.unusedVariables false
set_option linter.unusedSimpArgs false
open Go.RowKit
set_option maxRecDepth 100000
set_option maxHeartbeats 1000000 in
theorem w_likeIntsY (v v' : Value) (ts : List Int) (w : World) (h : IsNums w v ts) (h' : IsNums w v' ts) :
 Calls Tryz.prog 18 #[v, v'] w fun e w' => e = .returned (.bool true) ∧ Later w w' := by
 obtain ⟨hxl, hn, a, cap, rfl, hcap, hmax, hrow⟩ := h
 obtain ⟨hxl', hn', a', cap', rfl, hcap', hmax', hrow'⟩ := h'
 clear hxl hxl' hn'
 obtain ⟨n, hnn⟩ : ∃ n, ts.length = n := ⟨_, rfl⟩
 rw [hnn] at hn hcap hrow hcap' hrow' ⊢
 have HN := Lib.hid hnn
 have HR := Lib.hid hrow
 have HR' := Lib.hid hrow'
 clear hnn hrow hrow'
 go_enter Tryz.func18, Tryz.ntmps18
 go_wp2
 go_loopw [5] (fun i wr => ∃ k : Nat, k ≤ n ∧ i = .int .i64 k ∧ Later w wr) (fun i _ => n - (intOf i).toNat)
 case atStart => exact ⟨0, Nat.zero_le _, rfl, Later.refl _⟩
 case round =>
  obtain ⟨k, hk, rfl, hL⟩ := hrel
  by_cases hlt : k < n
  · obtain ⟨b, off, rfl, hr⟩ := HR.out (by omega)
    obtain ⟨b', off', rfl, hr'⟩ := HR'.out (by omega)
    obtain ⟨t, ht⟩ := get_ex (l := ts) (k := k) (by have := HN.out; omega)
    have HT := Lib.hid ht
    have c1_0 := (hr.later hL).num ht
    have d0 := (hr'.later hL).num ht
    have hz1 := (hr.later hL).1
    have hz2 := (hr'.later hL).1
    clear ht
    go_wp2_with fail
    go_quiet (fail)
    go_wp2
    go_roundw
    case rel => exact ⟨k + 1, by omega, by go_num, qla⟩
    case measure => simp [intOf]; omega
  · go_wp2
    go_ret
    exact ⟨rfl, hL⟩
end Go.Proofs.YtkoojngonldcbaaGreat
namespace Go.Proofs.YtkoojngonldcbaaGreat
set_option linter.unusedVariables false
set_option linter.unusedSimpArgs false
set_option maxRecDepth 100000
theorem updO_yes {cost : List Int → Int} {s : List Int × Int} {o : List Int} (h : s.2 < 0 ∨ cost o < s.2) : updO cost s o = (o, cost o) := if_pos h
theorem updO_no {cost : List Int → Int} {s : List Int × Int} {o : List Int} (h : ¬ (s.2 < 0 ∨ cost o < s.2)) : updO cost s o = s := if_neg h
theorem upd_keep {cost : List Int → Int} (hc : ∀ o, 0 ≤ cost o) : ∀ (l : List (List Int)) (s : List Int × Int), 0 ≤ s.2 → (l.foldl (updO cost) s).2 ≤ s.2 ∧ (∀ o ∈ l, (l.foldl (updO cost) s).2 ≤ cost o) ∧ (l.foldl (updO cost) s = s ∨ ∃ o ∈ l, l.foldl (updO cost) s = (o, cost o))
  | [], s, _ => ⟨Int.le_refl _, by simp, .inl rfl⟩
  | x :: l, s, hs => by
    rw [List.foldl_cons]
    by_cases h : s.2 < 0 ∨ cost x < s.2
    · rw [updO_yes h]
      obtain ⟨h1, h2, h3⟩ := upd_keep hc l (x, cost x) (hc x)
      simp only at h1
      refine ⟨by omega, fun o ho => ?_, .inr ?_⟩
      · rcases List.mem_cons.1 ho with rfl | ho
        · exact h1
        · exact h2 o ho
      · rcases h3 with h3 | ⟨o, ho, h3⟩
        · exact ⟨x, by simp, h3⟩
        · exact ⟨o, by simp [ho], h3⟩
    · rw [updO_no h]
      obtain ⟨h1, h2, h3⟩ := upd_keep hc l s hs
      refine ⟨h1, fun o ho => ?_, ?_⟩
      · rcases List.mem_cons.1 ho with rfl | ho
        · omega
        · exact h2 o ho
      · rcases h3 with h3 | ⟨o, ho, h3⟩
        · exact .inl h3
        · exact .inr ⟨o, by simp [ho], h3⟩
theorem best_is {cost : List Int → Int} (hc : ∀ o, 0 ≤ cost o) {l : List (List Int)} (hl : l ≠ []) : (bestO cost l).1 ∈ l ∧ (bestO cost l).2 = cost (bestO cost l).1 ∧ ∀ o ∈ l, (bestO cost l).2 ≤ cost o := by
  cases l with
  | nil => exact absurd rfl hl
  | cons x l =>
    have e : bestO cost (x :: l) = l.foldl (updO cost) (x, cost x) := by
      unfold bestO; rw [List.foldl_cons, updO_yes (.inl (by decide))]
    rw [e]
    obtain ⟨h1, h2, h3⟩ := upd_keep hc l (x, cost x) (hc x)
    refine ⟨?_, ?_, fun o ho => ?_⟩
    · rcases h3 with h3 | ⟨o, ho, h3⟩
      · rw [h3]; simp
      · rw [h3]; simp [ho]
    · rcases h3 with h3 | ⟨o, ho, h3⟩ <;> rw [h3]
    · rcases List.mem_cons.1 ho with rfl | ho
      · exact h1
      · exact h2 o ho
structure OrdO (c : List Trm) (o : List Int) : Prop where
  good : GoodO c o
  nodup : o.Nodup
theorem OrdO.snoc {c : List Trm} {o : List Int} {k : Nat} (h : OrdO c o) (hk : k < c.length) (hs : skipO c o k = false) : OrdO c (o ++ [(k : Int)]) := by
  refine ⟨h.good.snoc hk hs, ?_⟩
  have hn : (k : Int) ∉ o := by
    intro hm
    have : hasI o k = true := (hasI_iff o k).2 hm
    simp [skipO, this] at hs
  rw [List.nodup_append]
  exact ⟨h.nodup, by simp, fun a ha b hb => by simp at hb; subst hb; exact fun e => hn (e ▸ ha)⟩
theorem lvs_ord {c : List Trm} : ∀ (n : Nat) (o : List Int), OrdO c o → ∀ x ∈ lvs c n o, OrdO c x
  | 0, o, h, x, hx => by simp [lvs] at hx; rw [hx]; exact h
  | n + 1, o, h, x, hx => by
    rw [lvs] at hx
    obtain ⟨k, hk, hx⟩ := List.mem_flatMap.1 hx
    split at hx
    · simp at hx
    · rename_i hs
      exact lvs_ord n _ (h.snoc (List.mem_range.1 hk) (Bool.eq_false_iff.2 hs)) x hx
theorem nodup_take {l : List Int} (h : l.Nodup) {i : Nat} {x : Int} (hx : l[i]? = some x) : hasI (l.take i) x = false := by
  rw [Bool.eq_false_iff]
  intro hh
  rw [hasI_iff] at hh
  obtain ⟨j, hj, he⟩ := List.mem_iff_getElem.1 hh
  rw [List.length_take] at hj
  rw [List.getElem_take] at he
  obtain ⟨hi, hxe⟩ := List.getElem?_eq_some_iff.1 hx
  have hp := List.pairwise_iff_getElem.1 h j i (by omega) hi (by omega)
  exact hp (he.trans hxe.symm)
theorem ord_ok {c : List Trm} {o : List Int} (hc : isChain c = true) (h : OrdO c o) (hl : o.length = c.length) : orderTerms c o = (orderedL c o, 0) := by
  have hcc := isChain_true hc
  have h1 : ordOk c.length o = true := ordOk_true fun i hi => by
    obtain ⟨x, hx⟩ := get_ex (l := o) (k := i) hi
    rw [okAt_get hx, nodup_take h.nodup hx]
    have hr := h.good.range x (List.mem_of_getElem? hx)
    rw [inR_mk (by omega)]
    rfl
  have h2 : isChain (orderedL c o) = true := h.good.chain hc (by omega) (by omega)
  unfold orderTerms
  rw [if_pos hc, if_pos h1, if_pos hl, if_pos h2]
def idO (n : Nat) : List Int := (List.range n).map fun k : Nat => (k : Int)
theorem lvs_idO {c : List Trm} (hd : headDv c = false) : ∀ (n k : Nat), k + n = c.length → idO c.length ∈ lvs c n (idO k)
  | 0, k, h => by simp [lvs, show k = c.length from by omega]
  | n + 1, k, h => by
    rw [lvs]
    refine List.mem_flatMap.2 ⟨k, List.mem_range.2 (by omega), ?_⟩
    have hs : skipO c (idO k) k = false := by
      unfold skipO
      have h1 : hasI (idO k) k = false := by
        rw [Bool.eq_false_iff]; intro hh; rw [hasI_iff] at hh
        obtain ⟨a, ha, he⟩ : ∃ a : Nat, a < k ∧ (a : Int) = k := by simpa [idO] using hh
        omega
      rw [h1]
      cases k with
      | zero =>
        cases c with
        | nil => simp at h
        | cons t l => simpa [headDv, idO] using hd
      | succ k => simp [idO, List.range_succ]
    rw [hs, if_neg (by simp)]
    have e : idO k ++ [(k : Int)] = idO (k + 1) := by simp [idO, List.range_succ]
    rw [e]
    exact lvs_idO hd n (k + 1) (by omega)
theorem orderedL_idO (c : List Trm) : orderedL c (idO c.length) = c := by
  apply List.ext_getElem?
  intro i
  unfold orderedL idO
  rw [List.map_map, List.getElem?_map]
  by_cases hi : i < c.length
  · rw [List.getElem?_range hi]; simp [List.getD, hi]
  · rw [List.getElem?_eq_none (by simp; omega), List.getElem?_eq_none (by omega)]; rfl
theorem OrdO.nil (c : List Trm) : OrdO c [] := ⟨GoodO.nil c, List.nodup_nil⟩
theorem best_all {cost : List Int → Int} (hc : ∀ o, 0 ≤ cost o) {c : List Trm} (h : isChain c = true) :
    orderTerms c (bestO cost (lvs c c.length [])).1 = (orderedL c (bestO cost (lvs c c.length [])).1, 0) ∧ (bestO cost (lvs c c.length [])).2 = cost (bestO cost (lvs c c.length [])).1 ∧ (bestO cost (lvs c c.length [])).2 ≤ cost (idO c.length) := by
  have hcc := isChain_true h
  have hid : idO c.length ∈ lvs c c.length [] := lvs_idO hcc.2.2.1 c.length 0 (by omega)
  obtain ⟨h1, h2, h3⟩ := best_is hc (List.ne_nil_of_mem hid)
  have hl := lvs_len _ _ _ h1
  exact ⟨ord_ok h (lvs_ord _ _ (OrdO.nil c) _ h1) (by simpa using hl), h2, h3 _ hid⟩
end Go.Proofs.YtkoojngonldcbaaGreat
