/- DERIVED. Plain words: exchanging and sorting terms leaves the logarithm. No program in sight. -/
import Derived.Test.YtkoojngonldcbaaGreatKRPA
import Derived.Test.YtkoojngonldcbaaGreatKRP9
import Derived.Test.YtkoojngonldcbaaGreatKRM89
import Derived.Test.YtkoojngonldcbaaGreatKRP11
namespace Go.Proofs.YtkoojngonldcbaaGreat
set_option linter.unusedVariables false
set_option linter.unusedSimpArgs false
set_option maxRecDepth 100000
theorem logStep_comm (a : Itv) (x y : Trm) : logStep (logStep a x) y = logStep (logStep a y) x := by
  cases hx : x.dv <;> cases hy : y.dv
  · rw [logStep_n hx, logStep_n hy, logStep_n hx, logStep_n hy]; simp only [Itv.mk.injEq]; omega
  · rw [logStep_n hx, logStep_y hy, logStep_n hx, logStep_y hy]; simp only [Itv.mk.injEq]; omega
  · rw [logStep_y hx, logStep_n hy, logStep_y hx, logStep_n hy]; simp only [Itv.mk.injEq]; omega
  · rw [logStep_y hx, logStep_y hy, logStep_y hx, logStep_y hy]; simp only [Itv.mk.injEq]; omega
theorem chainLog0_perm {l m : List Trm} (h : l.Perm m) : chainLog0 l = chainLog0 m := by
  have : ∀ {l m : List Trm}, l.Perm m → ∀ a, l.foldl logStep a = m.foldl logStep a := by
    intro l m h
    induction h with
    | nil => exact fun _ => rfl
    | cons x _ ih => exact fun a => ih _
    | swap x y l => exact fun a => by simp only [List.foldl_cons]; rw [logStep_comm]
    | trans _ _ i1 i2 => exact fun a => (i1 a).trans (i2 a)
  exact this h _
end Go.Proofs.YtkoojngonldcbaaGreat
namespace Go.Proofs.YtkoojngonldcbaaGreat
set_option linter.unusedVariables false
set_option linter.unusedSimpArgs false
set_option maxRecDepth 100000
def atP (p : Pln) : Int := if p.e then p.s.sh else p.s.cu
def ValP (p : Pln) (V : Int) : Prop := (atP p - V) % 1048576 = 0
theorem under_val {p : Pln} {V : Int} (h : ValP p V) : ((underP p).s.cu - V) % 1048576 = 0 := by
  unfold ValP atP at h
  unfold underP
  cases he : p.e
  · simp only [he, Bool.false_eq_true, if_false] at h ⊢
    exact h
  · simp only [he, if_true] at h ⊢
    split
    · simp only [doP, mvTo5]; exact h
    · simp only [doP, mvTo6]; omega
theorem term_val {p : Pln} {V : Int} {t : Trm} (h : ValP p V) : ValP (termP p t) (ptStep V t) := by
  have hu := under_val h
  unfold termP
  cases hd : t.dv
  · simp only [Bool.false_eq_true, if_false]
    rw [ptStep_n hd]
    split
    · rename_i hq
      rw [Bool.and_eq_true] at hq
      unfold ValP atP at h ⊢
      rw [hq.1, if_pos rfl] at h
      simp only [doP, mvTo1, Bool.false_eq_true, if_false]
      omega
    · unfold ValP atP sideP
      split
      · simp only [doP, mvTo1, mvTo3, Bool.false_eq_true, if_false]; omega
      · simp only [doP, mvTo1, mvTo4, Bool.false_eq_true, if_false]; omega
  · simp only [if_true]
    rw [ptStep_y hd]
    unfold ValP atP
    simp only [doP, mvTo2, if_true]
    omega
theorem fold_val : ∀ (l : List Trm) (p : Pln) (V : Int), ValP p V → ValP (l.foldl termP p) (l.foldl ptStep V)
  | [], _, _, h => h
  | t :: l, p, V, h => fold_val l _ _ (term_val h)
theorem usual_val {c : List Trm} (h : isChain c = true) : ((usualP c).s.cu - sumPts c) % 1048576 = 0 := by
  have hh := isChain_true h
  cases c with
  | nil => simp at hh
  | cons t l =>
    have hd : t.dv = false := hh.2.2.1
    have h0 : ValP (startP t.f) (ptStep 0 t) := by
      rw [ptStep_n hd]
      unfold ValP atP startP
      simp only [doP, mvTo0, Bool.false_eq_true, if_false]
      omega
    exact under_val (fold_val l _ _ h0)
theorem codeMoves_mk {l : List Mov} (h : l.all isMove = true) (hl : l.length ≤ 30) : codeMoves l = 0 := by
  unfold codeMoves; rw [if_pos h, if_pos hl]
theorem usual_run {r : Rul} {c : List Trm} (h : codePlan r c = 0) : runC r ⟨0, 0⟩ (planL c) = 0 ∧ runMv r ⟨0, 0⟩ (planL c) = (usualP c).s := by
  obtain ⟨h1, h2, h3, h4⟩ := codePlan_0 h
  have ho := OkP.usual (r := r) ⟨h3, h4⟩ h2
  have hc : codeRun r ⟨0, 0⟩ (planL c) = 0 := by
    unfold codeRun
    rw [h1, show isStg ⟨0, 0⟩ = true from by decide]
    simp only [Bool.and_self, if_true]
    exact codeMoves_mk ho.mv (Nat.le_trans ho.len (by decide))
  have ha : allDone r ⟨0, 0⟩ (planL c) = true := by
    unfold allDone; rw [beq_iff_eq]; exact ho.full
  constructor
  · unfold runC; rw [if_pos hc, ha]; rfl
  · unfold runMv; rw [if_pos hc, ha, if_pos rfl]; exact ho.last
end Go.Proofs.YtkoojngonldcbaaGreat
namespace Go.Proofs.YtkoojngonldcbaaGreat
set_option linter.unusedVariables false
set_option linter.unusedSimpArgs false
set_option maxRecDepth 100000
structure OrdO (c : List Trm) (o : List Int) : Prop where
  good : GoodO c o
  nodup : o.Nodup
def idO (n : Nat) : List Int := (List.range n).map fun k : Nat => (k : Int)
theorem orderedL_idO (c : List Trm) : orderedL c (idO c.length) = c := by
  apply List.ext_getElem?
  intro i
  unfold orderedL idO
  rw [List.map_map, List.getElem?_map]
  by_cases hi : i < c.length
  · rw [List.getElem?_range hi]; simp [List.getD, hi]
  · rw [List.getElem?_eq_none (by simp; omega), List.getElem?_eq_none (by omega)]; rfl
theorem OrdO.nil (c : List Trm) : OrdO c [] := ⟨GoodO.nil c, List.nodup_nil⟩
end Go.Proofs.YtkoojngonldcbaaGreat
namespace Go.Proofs.YtkoojngonldcbaaGreat
set_option linter.unusedVariables false
set_option linter.unusedSimpArgs false
set_option maxRecDepth 100000
theorem spanC_all {a : Itv} (h : spanC a = 0) : isUnits a.lo = true ∧ isUnits a.hi = true ∧ isFig (belowF a.lo) = true ∧ isFig (aboveF a.hi) = true := by
  unfold spanC at h
  split at h
  · rename_i h0
    rw [Bool.and_eq_true] at h0
    split at h
    · rename_i h1
      rw [Bool.and_eq_true] at h1
      exact ⟨h0.1, h0.2, h1.1, h1.2⟩
    · omega
  · omega
def noE : Ers := ⟨0, 0, 0⟩
theorem noE_is : isErs noE = true := by decide
end Go.Proofs.YtkoojngonldcbaaGreat
