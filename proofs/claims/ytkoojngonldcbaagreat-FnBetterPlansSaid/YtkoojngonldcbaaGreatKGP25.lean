/- DERIVED. Plain words: what the law of better plans asks. No program in sight. -/
import Derived.Test.YtkoojngonldcbaaGreatKGM22
import Derived.Test.YtkoojngonldcbaaGreatKGP18
namespace Go.Proofs.YtkoojngonldcbaaGreat
set_option linter.unusedVariables false
set_option linter.unusedSimpArgs false
set_option maxRecDepth 100000
theorem orderedL_chain {c : List Trm} {o : List Int} (h : (orderTerms c o).2 = 0) (hs : orderTerms c o = (orderedL c o, 0)) : isChain (orderedL c o) = true := by
  cases hq : isChain (orderedL c o)
  · exfalso
    unfold orderTerms at h
    rw [hq] at h
    repeat (split at h)
    all_goals simp_all
  · rfl
theorem better_law {r : Rul} {c : List Trm} {e : Ers} (h : codeBound r c e = 0) {B : List Int × Int} (hB : B = bestO (fun o => max 0 (unP r.len (orderedL c o) e)) (lvs c c.length [])) :
    orderTerms c B.1 = (orderedL c B.1, 0) ∧ codeBound r (orderedL c B.1) e = 0 ∧ planUn r (orderedL c B.1) e = B.2 ∧ B.2 ≤ planUn r c e := by
  obtain ⟨he, hp⟩ := codeBound_0 h
  obtain ⟨h1, h2, h3, h4⟩ := codePlan_0 hp
  obtain ⟨b1, b2, b3⟩ := best_all (cost := fun o => max 0 (unP r.len (orderedL c o) e)) (fun o => by omega) h2
  rw [← hB] at b1 b2 b3
  have hch := orderedL_chain (by rw [b1]) b1
  have hl := isRule_len h1
  have hcp : codePlan r (orderedL c B.1) = 0 := codePlan_ok h1 hch h3 h4
  have hcb : codeBound r (orderedL c B.1) e = 0 := by unfold codeBound; rw [he]; exact hcp
  have u1 := unP_bd (c := orderedL c B.1) he hl.1 (planL_len ⟨h3, h4⟩ hch)
  have u2 := unP_bd (c := c) he hl.1 (planL_len ⟨h3, h4⟩ h2)
  have q1 : planUn r (orderedL c B.1) e = unP r.len (orderedL c B.1) e := by unfold planUn; rw [if_pos hcb]
  have q2 : planUn r c e = unP r.len c e := by unfold planUn; rw [if_pos h]
  rw [q1, q2]
  simp only [orderedL_idO] at b2 b3
  exact ⟨b1, hcb, by omega, by omega⟩
theorem isRule_len' {n m : Int} {st sd : List Int} (h : isRule ⟨n, st, sd⟩ = true) (h1 : 1 ≤ m) (h2 : m ≤ 100000) : isRule ⟨m, st, sd⟩ = true := by
  have hp := isRule_and h
  have e : inR m 1 100000 = true := by simp [inR]; omega
  simp only [isRule, e, hp.2.1, hp.2.2, Bool.and_self]
theorem codeBound_len {n m : Int} {st sd : List Int} {c : List Trm} {e : Ers} (h : codeBound ⟨n, st, sd⟩ c e = 0) (h1 : 1 ≤ m) (h2 : m ≤ 100000) : codeBound ⟨m, st, sd⟩ c e = 0 := by
  obtain ⟨he, hp⟩ := codeBound_0 h
  obtain ⟨r1, r2, r3, r4⟩ := codePlan_0 hp
  have hcp : codePlan ⟨m, st, sd⟩ c = 0 := codePlan_ok (isRule_len' r1 h1 h2) r2 r3 r4
  unfold codeBound; rw [he]; exact hcp
theorem len_law {n : Int} {st sd : List Int} {c : List Trm} {e : Ers} {u : Int} (h : codeLen ⟨n, st, sd⟩ c e u = 0) :
    ∃ l, lenNeed ⟨n, st, sd⟩ c e u = l ∧ 1 ≤ l ∧ l ≤ 100000 ∧ codeBound ⟨l, st, sd⟩ c e = 0 ∧ planUn ⟨l, st, sd⟩ c e ≤ u ∧
      (1 < l → codeBound ⟨l - 1, st, sd⟩ c e = 0 ∧ ¬ planUn ⟨l - 1, st, sd⟩ c e ≤ u) := by
  have h0 := h
  unfold codeLen at h
  by_cases hb : codeBound ⟨n, st, sd⟩ c e = 0
  rotate_left
  · rw [if_neg hb] at h; exact absurd h hb
  rw [if_pos hb] at h
  by_cases hu : inR u 1 1048576 = true
  rotate_left
  · rw [if_neg hu] at h; omega
  rw [if_pos hu] at h
  by_cases hl : lenB c e u = true
  rotate_left
  · rw [if_neg hl] at h; omega
  obtain ⟨he, _⟩ := codeBound_0 hb
  have hn : 0 ≤ needE e := by have := totE_bd he; unfold needE; omega
  have hv : lenNeed ⟨n, st, sd⟩ c e u = lenV c e u := by unfold lenNeed; rw [if_pos h0]
  have hk : 1 ≤ lenV c e u ∧ lenV c e u ≤ 100000 := by
    unfold lenB at hl
    by_cases q : lenU c u < 1
    · have : lenV c e u = 1 := by unfold lenV; rw [if_pos q]
      omega
    · rw [if_neg q] at hl
      have := of_decide_eq_true hl
      refine ⟨?_, this⟩
      unfold lenV
      rw [if_neg q]
      omega
  refine ⟨_, hv, hk.1, hk.2, codeBound_len hb hk.1 hk.2, ?_, ?_⟩
  · have e1 : planUn ⟨lenV c e u, st, sd⟩ c e = unP (lenV c e u) c e := by unfold planUn; rw [if_pos (codeBound_len hb hk.1 hk.2)]
    rw [e1, unP_le he hk.1]
    unfold lenB at hl
    by_cases q : lenU c u < 1
    · rw [if_pos q] at hl
      simp only [Bool.and_eq_true, beq_iff_eq] at hl
      exact .inr hl
    · refine .inl ⟨by omega, ?_⟩
      unfold lenV
      rw [if_neg q]
      omega
  · intro h1
    have hb1 := codeBound_len hb (m := lenV c e u - 1) (by omega) (by omega)
    refine ⟨hb1, ?_⟩
    have e1 : planUn ⟨lenV c e u - 1, st, sd⟩ c e = unP (lenV c e u - 1) c e := by unfold planUn; rw [if_pos hb1]
    rw [e1, unP_le he (by omega)]
    unfold lenV at h1 ⊢
    by_cases q : lenU c u < 1
    · rw [if_pos q] at h1; omega
    · rw [if_neg q] at h1 ⊢
      omega
theorem mostE_law {r : Rul} {c : List Trm} {e : Ers} {b : Int} : ∀ k : Nat, 0 ≤ mostE r c e b k → keepsE r c e b (mostE r c e b k) = true ∧ mostE r c e b k ≤ k
  | 0, h => by
    unfold mostE at h ⊢
    by_cases q : keepsE r c e b 0 = true
    · rw [if_pos q]; exact ⟨q, by omega⟩
    · rw [if_neg q] at h; omega
  | k + 1, h => by
    unfold mostE at h ⊢
    by_cases q : keepsE r c e b ((k + 1 : Nat) : Int) = true
    · rw [if_pos q]; exact ⟨q, by omega⟩
    · rw [if_neg q] at h ⊢
      obtain ⟨a, b'⟩ := mostE_law k h
      exact ⟨a, by omega⟩
theorem errors_law {r : Rul} {c : List Trm} {e : Ers} {b : Int} (h : efC r c e b = 0) : ∃ k, efV r c e b = k ∧ 0 ≤ k ∧ k ≤ 20 ∧ isErs e = true ∧ pbC r c (partE e k) = 0 ∧ pbV r c (partE e k) ≤ b := by
  have hv : efV r c e b = mostE r c e b 20 := by unfold efV; rw [if_pos h]
  unfold efC at h
  by_cases hb : codeBound r c e = 0
  rotate_left
  · rw [if_neg hb] at h; exact absurd h hb
  rw [if_pos hb] at h
  by_cases hu : inR b 0 1000000 = true
  rotate_left
  · rw [if_neg hu] at h; omega
  rw [if_pos hu] at h
  by_cases hm : mostE r c e b 20 < 0
  · rw [if_pos hm] at h; omega
  obtain ⟨k1, k2⟩ := mostE_law (r := r) (c := c) (e := e) (b := b) 20 (by omega)
  unfold keepsE at k1
  simp only [Bool.and_eq_true, decide_eq_true_eq] at k1
  exact ⟨_, hv, by omega, k2, (codeBound_0 hb).1, k1.1, k1.2⟩
end Go.Proofs.YtkoojngonldcbaaGreat
