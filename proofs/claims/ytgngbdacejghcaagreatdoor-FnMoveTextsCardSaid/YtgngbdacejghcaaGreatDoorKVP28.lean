/- DERIVED. Plain words: doing moves in two parts. No program in sight. -/
import Derived.Test.YtgngbdacejghcaaGreatDoorKVPA
namespace Go.Proofs.YtgngbdacejghcaaGreatDoor
set_option linter.unusedVariables false
set_option linter.unusedSimpArgs false
set_option maxRecDepth 100000
theorem lastSt_app : ∀ (s : Stg) (a b : List Stg), lastSt s (a ++ b) = lastSt (lastSt s a) b
  | _, [], _ => rfl
  | _, x :: a, b => lastSt_app x a b
theorem runSt_take (r : Rul) : ∀ (s : Stg) (l : List Mov) (k : Nat), runSt r s (l.take k) = (runSt r s l).take k
  | s, [], k => by simp [runSt]
  | s, m :: l, 0 => by simp [runSt]
  | s, m :: l, k + 1 => by
    cases h : mvOk r s m
    · rw [runSt_stop h, List.take_succ_cons, runSt_stop h]; rfl
    · rw [runSt_go h, List.take_succ_cons, runSt_go h, List.take_succ_cons, runSt_take r _ l k]
theorem runSt_split (r : Rul) : ∀ (s : Stg) (l : List Mov) (k : Nat), k ≤ (runSt r s l).length → runSt r s l = (runSt r s l).take k ++ runSt r (lastSt s ((runSt r s l).take k)) (l.drop k)
  | s, l, 0, _ => by simp [lastSt]
  | s, [], k + 1, h => by simp [runSt] at h
  | s, m :: l, k + 1, h => by
    cases ho : mvOk r s m
    · rw [runSt_stop ho] at h; simp at h
    · rw [runSt_go ho] at h ⊢
      simp only [List.take_succ_cons, List.cons_append, List.drop_succ_cons]
      congr 1
      exact runSt_split r (mvS r s m) l k (by simpa using h)
theorem codeMoves_take {l : List Mov} (h : codeMoves l = 0) (k : Nat) : codeMoves (l.take k) = 0 ∧ codeMoves (l.drop k) = 0 := by
  unfold codeMoves at h
  cases ha : l.all isMove
  · simp [ha] at h
  simp only [ha, if_true] at h
  have hl : l.length ≤ 30 := by
    by_cases hl : l.length ≤ 30
    · exact hl
    · simp [hl] at h
  rw [List.all_eq_true] at ha
  have h1 : (l.take k).all isMove = true := by rw [List.all_eq_true]; exact fun x hx => ha x (List.mem_of_mem_take hx)
  have h2 : (l.drop k).all isMove = true := by rw [List.all_eq_true]; exact fun x hx => ha x (List.mem_of_mem_drop hx)
  have h3 : (l.take k).length ≤ 30 := by rw [List.length_take]; omega
  have h4 : (l.drop k).length ≤ 30 := by rw [List.length_drop]; omega
  unfold codeMoves
  constructor
  · rw [if_pos h1, if_pos h3]
  · rw [if_pos h2, if_pos h4]
theorem codeRun_ok {r : Rul} {s : Stg} {l : List Mov} (h : codeRun r s l = 0) : isRule r = true ∧ isStg s = true ∧ codeMoves l = 0 := by
  unfold codeRun at h
  cases hc : (isRule r && isStg s)
  · simp [hc] at h
  simp only [hc, if_true] at h
  rw [Bool.and_eq_true] at hc
  exact ⟨hc.1, hc.2, h⟩
theorem codeRun_mk {r : Rul} {s : Stg} {l : List Mov} (h1 : isRule r = true) (h2 : isStg s = true) (h3 : codeMoves l = 0) : codeRun r s l = 0 := by
  unfold codeRun; simp [h1, h2, h3]
theorem lastSt_mem {s : Stg} : ∀ {L : List Stg}, isStg s = true → (∀ x ∈ L, isStg x = true) → isStg (lastSt s L) = true
  | [], h, _ => h
  | x :: L, _, hL => lastSt_mem (L := L) (hL x (by simp)) fun y hy => hL y (by simp [hy])
theorem run_ok {r : Rul} {s : Stg} {l : List Mov} (h : runC r s l = 0) : codeRun r s l = 0 ∧ allDone r s l = true := by
  unfold runC at h
  by_cases hc : codeRun r s l = 0
  rotate_left
  · rw [if_neg hc] at h; exact absurd h hc
  rw [if_pos hc] at h
  cases hd : allDone r s l
  · rw [hd] at h; simp at h
  · exact ⟨hc, rfl⟩
theorem run_parts {r : Rul} {s : Stg} {l : List Mov} (h : runC r s l = 0) (k : Nat) (hk : k ≤ l.length) :
    firstC r s l = 4 ∧ runC r s (l.take k) = 0 ∧ runC r (runMv r s (l.take k)) (l.drop k) = 0 ∧ runMv r (runMv r s (l.take k)) (l.drop k) = runMv r s l ∧ isStg (runMv r s l) = true := by
  obtain ⟨hc, hd⟩ := run_ok h
  obtain ⟨h1, h2, h3⟩ := codeRun_ok hc
  have hlen : (runSt r s l).length = l.length := by simpa [allDone] using hd
  have c1 := codeRun_mk h1 h2 (codeMoves_take h3 k).1
  have a1 : allDone r s (l.take k) = true := by
    simp only [allDone, runSt_take, beq_iff_eq, List.length_take]; omega
  have e1 : runMv r s (l.take k) = lastSt s ((runSt r s l).take k) := by
    unfold runMv; rw [if_pos c1, a1, if_pos rfl, runSt_take]
  have hs1 : isStg (lastSt s ((runSt r s l).take k)) = true := lastSt_mem h2 fun x hx => runSt_stg r s l x (List.mem_of_mem_take hx)
  have hsp := runSt_split r s l k (by omega)
  have c2 : codeRun r (lastSt s ((runSt r s l).take k)) (l.drop k) = 0 := codeRun_mk h1 hs1 (codeMoves_take h3 k).2
  have a2 : allDone r (lastSt s ((runSt r s l).take k)) (l.drop k) = true := by
    simp only [allDone, beq_iff_eq, List.length_drop]
    have := congrArg List.length hsp
    rw [List.length_append, List.length_take] at this
    omega
  refine ⟨by simp [firstC, hc, hd], by simp [runC, c1, a1], ?_, ?_, ?_⟩
  · rw [e1]; simp [runC, c2, a2]
  · rw [e1]
    have e2 : runMv r s l = lastSt s (runSt r s l) := by unfold runMv; rw [if_pos hc, hd, if_pos rfl]
    rw [e2, hsp, lastSt_app, ← hsp]
    unfold runMv; rw [if_pos c2, a2, if_pos rfl]
  · have e2 : runMv r s l = lastSt s (runSt r s l) := by unfold runMv; rw [if_pos hc, hd, if_pos rfl]
    rw [e2]
    exact lastSt_mem h2 (runSt_stg r s l)
end Go.Proofs.YtgngbdacejghcaaGreatDoor
namespace Go.Proofs.YtgngbdacejghcaaGreatDoor
set_option linter.unusedVariables false
set_option linter.unusedSimpArgs false
set_option maxRecDepth 100000
theorem trav_app : ∀ (s : Stg) (a b : List Stg), trav s (a ++ b) = ((trav s a).1 + (trav (lastSt s a) b).1, (trav s a).2 + (trav (lastSt s a) b).2)
  | s, [], b => by simp [trav, lastSt]
  | s, x :: a, b => by
    have ih := trav_app x a b
    simp only [List.cons_append, trav, lastSt, ih, Prod.mk.injEq]
    omega
theorem trav_parts {r : Rul} {s : Stg} {l : List Mov} (h : runC r s l = 0) (k : Nat) (hk : k ≤ l.length) :
    travS r s (l.take k) + travS r (runMv r s (l.take k)) (l.drop k) = travS r s l ∧ travK r s (l.take k) + travK r (runMv r s (l.take k)) (l.drop k) = travK r s l := by
  obtain ⟨hc, hd⟩ := run_ok h
  obtain ⟨h1, h2, h3⟩ := codeRun_ok hc
  have hlen : (runSt r s l).length = l.length := by simpa [allDone] using hd
  have c1 := codeRun_mk h1 h2 (codeMoves_take h3 k).1
  have a1 : allDone r s (l.take k) = true := by
    simp only [allDone, runSt_take, beq_iff_eq, List.length_take]; omega
  have e1 : runMv r s (l.take k) = lastSt s ((runSt r s l).take k) := by
    unfold runMv; rw [if_pos c1, a1, if_pos rfl, runSt_take]
  have hs1 : isStg (lastSt s ((runSt r s l).take k)) = true := lastSt_mem h2 fun x hx => runSt_stg r s l x (List.mem_of_mem_take hx)
  have hsp := runSt_split r s l k (by omega)
  have c2 : codeRun r (lastSt s ((runSt r s l).take k)) (l.drop k) = 0 := codeRun_mk h1 hs1 (codeMoves_take h3 k).2
  have a2 : allDone r (lastSt s ((runSt r s l).take k)) (l.drop k) = true := by
    simp only [allDone, beq_iff_eq, List.length_drop]
    have := congrArg List.length hsp
    rw [List.length_append, List.length_take] at this
    omega
  have ht := trav_app s ((runSt r s l).take k) (runSt r (lastSt s ((runSt r s l).take k)) (l.drop k))
  rw [← hsp] at ht
  rw [e1]
  unfold travS travK
  simp only [if_pos c1, if_pos c2, if_pos hc, a1, a2, hd, if_true, runSt_take]
  exact ⟨(congrArg Prod.fst ht).symm, (congrArg Prod.snd ht).symm⟩
theorem travel_parts {r : Rul} {s : Stg} {l : List Mov} (h : runC r s l = 0) (k : Nat) (hk : k ≤ l.length) :
    runC r s (l.take k) = 0 ∧ runC r (runMv r s (l.take k)) (l.drop k) = 0 ∧ isStg (runMv r s (l.take k)) = true := by
  obtain ⟨_, p1, p2, _, _⟩ := run_parts h k hk
  obtain ⟨q1, _⟩ := run_ok p2
  exact ⟨p1, p2, (codeRun_ok q1).2.1⟩
theorem trav_bd : ∀ (l : List Stg) (s : Stg), isStg s = true → (∀ x ∈ l, isStg x = true) → 0 ≤ (trav s l).1 ∧ (trav s l).1 ≤ 2097152 * (l.length : Int) ∧ 0 ≤ (trav s l).2 ∧ (trav s l).2 ≤ 2097152 * (l.length : Int)
  | [], s, _, _ => by simp [trav]
  | x :: l, s, hs, hl => by
    have hx := hl x (by simp)
    obtain ⟨i1, i2, i3, i4⟩ := trav_bd l x hx (fun y hy => hl y (List.mem_cons_of_mem _ hy))
    obtain ⟨a1, a2, a3, a4⟩ := isStg_bd hs
    obtain ⟨b1, b2, b3, b4⟩ := isStg_bd hx
    simp only [trav, List.length_cons]
    push_cast
    omega
theorem travS_bd (r : Rul) (s : Stg) {l : List Mov} (h : l.length ≤ 31) : 0 ≤ travS r s l ∧ travS r s l ≤ 100000000 ∧ 0 ≤ travK r s l ∧ travK r s l ≤ 100000000 := by
  unfold travS travK
  by_cases hc : codeRun r s l = 0
  · rw [if_pos hc, if_pos hc]
    obtain ⟨_, h2, _⟩ := codeRun_ok hc
    have hb := trav_bd (runSt r s l) s h2 (runSt_stg r s l)
    have hlen := runSt_len r s l
    cases allDone r s l
    · simp
    · rw [if_pos rfl, if_pos rfl]
      omega
  · rw [if_neg hc, if_neg hc]
    omega
end Go.Proofs.YtgngbdacejghcaaGreatDoor
