/- DERIVED. Plain words: moves that are run. No program in sight. -/
import Derived.Test.YtfhppnmbmdpjeaaP7
namespace Go.Proofs.Ytfhppnmbmdpjeaa
set_option linter.unusedVariables false
set_option linter.unusedSimpArgs false

theorem mvOk_stg {r : Rul} {s : Stg} {m : Mov} (h : mvOk r s m = true) : isStg (mvS r s m) = true := by
  unfold mvOk at h
  unfold mvS
  cases ho : mvOn r m
  · rw [ho] at h; simp at h
  · rw [ho] at h; simpa using h
/-- The settings after each move, up to the first that is not possible. -/
def runSt (r : Rul) : Stg → List Mov → List Stg
  | _, [] => []
  | s, m :: l => if mvOk r s m then mvS r s m :: runSt r (mvS r s m) l else []
def lastSt : Stg → List Stg → Stg
  | s, [] => s
  | _, x :: l => lastSt x l
theorem lastSt_snoc : ∀ (s : Stg) (l : List Stg) (x : Stg), lastSt s (l ++ [x]) = x
  | _, [], _ => rfl
  | _, y :: l, x => lastSt_snoc y l x
theorem runSt_go {r : Rul} {s : Stg} {m : Mov} {l : List Mov} (h : mvOk r s m = true) : runSt r s (m :: l) = mvS r s m :: runSt r (mvS r s m) l := if_pos h
theorem runSt_stop {r : Rul} {s : Stg} {m : Mov} {l : List Mov} (h : mvOk r s m = false) : runSt r s (m :: l) = [] := if_neg (by simp [h])
theorem runSt_len (r : Rul) : ∀ (s : Stg) (l : List Mov), (runSt r s l).length ≤ l.length
  | _, [] => by simp [runSt]
  | s, m :: l => by
    cases h : mvOk r s m
    · rw [runSt_stop h]; simp
    · rw [runSt_go h]; simp only [List.length_cons]; have := runSt_len r (mvS r s m) l; omega
theorem runSt_stg (r : Rul) : ∀ (s : Stg) (l : List Mov), ∀ x ∈ runSt r s l, isStg x = true
  | _, [] => by simp [runSt]
  | s, m :: l => by
    cases h : mvOk r s m
    · rw [runSt_stop h]; simp
    · rw [runSt_go h]
      intro x hx
      rcases List.mem_cons.1 hx with rfl | hx
      · exact mvOk_stg h
      · exact runSt_stg r _ l x hx
/-- What is done after k rounds. -/
def Ran (r : Rul) (s : Stg) (l : List Mov) (k : Nat) (L : List Stg) (S : Stg) : Prop := L.length = k ∧ runSt r s l = L ++ runSt r S (l.drop k) ∧ lastSt s L = S ∧ isStg S = true
theorem Ran.zero {r : Rul} {s : Stg} {l : List Mov} (h : isStg s = true) : Ran r s l 0 [] s := ⟨rfl, by simp, rfl, h⟩
theorem Ran.go {r : Rul} {s : Stg} {l : List Mov} {k : Nat} {L : List Stg} {S : Stg} {m : Mov} (h : Ran r s l k L S) (hm : l[k]? = some m) (ho : mvOk r S m = true) : Ran r s l (k + 1) (L ++ [mvS r S m]) (mvS r S m) := by
  obtain ⟨h1, h2, h3, h4⟩ := h
  refine ⟨by simp [h1], ?_, lastSt_snoc _ _ _, mvOk_stg ho⟩
  have hd : l.drop k = m :: l.drop (k + 1) := by
    obtain ⟨hk, hx⟩ := List.getElem?_eq_some_iff.1 hm
    rw [List.drop_eq_getElem_cons hk, hx]
  rw [h2, hd, runSt_go ho]
  simp
theorem Ran.stop {r : Rul} {s : Stg} {l : List Mov} {k : Nat} {L : List Stg} {S : Stg} {m : Mov} (h : Ran r s l k L S) (hm : l[k]? = some m) (ho : mvOk r S m = false) : runSt r s l = L := by
  have hd : l.drop k = m :: l.drop (k + 1) := by
    obtain ⟨hk, hx⟩ := List.getElem?_eq_some_iff.1 hm
    rw [List.drop_eq_getElem_cons hk, hx]
  rw [h.2.1, hd, runSt_stop ho, List.append_nil]
theorem Ran.done {r : Rul} {s : Stg} {l : List Mov} {k : Nat} {L : List Stg} {S : Stg} (h : Ran r s l k L S) (hk : l.length ≤ k) : runSt r s l = L := by
  rw [h.2.1, List.drop_eq_nil_of_le hk, runSt, List.append_nil]

/-- Where a run stops: -1 if it does not. -/
def stopI (r : Rul) (s : Stg) (l : List Mov) : Int := if (runSt r s l).length = l.length then -1 else ((runSt r s l).length : Int)
theorem stopI_done {r : Rul} {s : Stg} {L : List Stg} {m : List Mov} (h : runSt r s m = L) (hl : L.length = m.length) : stopI r s m = -1 := by
  unfold stopI; rw [h, if_pos hl]
theorem stopI_stop {r : Rul} {s : Stg} {L : List Stg} {m : List Mov} (h : runSt r s m = L) (hl : L.length < m.length) : stopI r s m = (L.length : Int) := by
  unfold stopI; rw [h, if_neg (by omega)]
/-- The code of a rule, a setting and moves. -/
def codeRun (r : Rul) (s : Stg) (l : List Mov) : Int := if isRule r && isStg s then codeMoves l else 1
def allDone (r : Rul) (s : Stg) (l : List Mov) : Bool := (runSt r s l).length == l.length
def runMv (r : Rul) (s : Stg) (l : List Mov) : Stg := if codeRun r s l = 0 then (if allDone r s l then lastSt s (runSt r s l) else ⟨0, 0⟩) else ⟨0, 0⟩
def runC (r : Rul) (s : Stg) (l : List Mov) : Int := if codeRun r s l = 0 then (if allDone r s l then 0 else 5) else codeRun r s l
def firstI (r : Rul) (s : Stg) (l : List Mov) : Int := if codeRun r s l = 0 then (if allDone r s l then 0 else (runSt r s l).length) else 0
def firstC (r : Rul) (s : Stg) (l : List Mov) : Int := if codeRun r s l = 0 then (if allDone r s l then 4 else 0) else codeRun r s l
/-- How far slide and cursor go. -/
def trav : Stg → List Stg → Int × Int
  | _, [] => (0, 0)
  | s, x :: l => (max (x.sh - s.sh) (s.sh - x.sh) + (trav x l).1, max (x.cu - s.cu) (s.cu - x.cu) + (trav x l).2)
theorem trav_snoc : ∀ (s : Stg) (l : List Stg) (x : Stg), trav s (l ++ [x]) = ((trav s l).1 + max (x.sh - (lastSt s l).sh) ((lastSt s l).sh - x.sh), (trav s l).2 + max (x.cu - (lastSt s l).cu) ((lastSt s l).cu - x.cu))
  | s, [], x => by simp [trav, lastSt]
  | s, y :: l, x => by
    rw [List.cons_append, trav, trav_snoc y l x, trav, lastSt]
    simp only [Prod.mk.injEq]
    omega
def travS (r : Rul) (s : Stg) (l : List Mov) : Int := if codeRun r s l = 0 then (if allDone r s l then (trav s (runSt r s l)).1 else 0) else 0
def travK (r : Rul) (s : Stg) (l : List Mov) : Int := if codeRun r s l = 0 then (if allDone r s l then (trav s (runSt r s l)).2 else 0) else 0
theorem codeRun_0 {r : Rul} {s : Stg} {l : List Mov} (h : codeRun r s l = 0) : isRule r = true ∧ isStg s = true ∧ codeMoves l = 0 := by
  unfold codeRun at h
  split at h
  · rename_i hq
    rw [Bool.and_eq_true] at hq
    exact ⟨hq.1, hq.2, h⟩
  · omega
theorem codeMoves_0 {l : List Mov} (h : codeMoves l = 0) : l.all isMove = true ∧ l.length ≤ 30 := by
  unfold codeMoves at h
  split at h
  · rename_i hq
    split at h
    · rename_i h2; exact ⟨hq, h2⟩
    · omega
  · omega
theorem all_get {α : Type} {l : List α} {p : α → Bool} (h : l.all p = true) {k : Nat} {x : α} (hx : l[k]? = some x) : p x = true := by
  rw [List.all_eq_true] at h
  exact h x (List.mem_of_getElem? hx)

end Go.Proofs.Ytfhppnmbmdpjeaa
