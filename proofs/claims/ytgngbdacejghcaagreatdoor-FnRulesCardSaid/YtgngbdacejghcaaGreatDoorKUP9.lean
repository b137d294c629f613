/- DERIVED. Plain words: the usual plan of a chain. No program in sight. -/
import Derived.Test.YtgngbdacejghcaaGreatDoorKUPA
namespace Go.Proofs.YtgngbdacejghcaaGreatDoor
set_option linter.unusedVariables false
set_option linter.unusedSimpArgs false
theorem pt0_bd {f : Fig} (h1 : 1000 ≤ f.d) (h2 : f.d ≤ 9999) : 0 ≤ ptF 0 f ∧ ptF 0 f ≤ 1048576 := by
  have hb := lg_bd h1 h2
  have h : ptF 0 f = ((lg f.d).lo + (lg f.d).hi) / 2 := rfl
  omega
structure Pln where
  s : Stg
  l : List Mov
  e : Bool
def doP (p : Pln) (k : Int) (f : Fig) (e : Bool) : Pln := ⟨mvTo p.s ⟨k, 0, f⟩, p.l ++ [⟨k, 0, f⟩], e⟩
def fitsP (s : Stg) (f : Fig) : Bool := inR (s.sh + ptF 0 f) 0 1048576
structure OkP (r : Rul) (p : Pln) (n : Nat) : Prop where
  st : isStg p.s = true
  mv : p.l.all isMove = true
  len : p.l.length ≤ n
  full : (runSt r ⟨0, 0⟩ p.l).length = p.l.length
  last : lastSt ⟨0, 0⟩ (runSt r ⟨0, 0⟩ p.l) = p.s
theorem runSt_snoc {r : Rul} {m : Mov} : ∀ {s : Stg} {l : List Mov}, (runSt r s l).length = l.length → mvOk r (lastSt s (runSt r s l)) m = true → runSt r s (l ++ [m]) = runSt r s l ++ [mvS r (lastSt s (runSt r s l)) m]
  | s, [], _, h => by
    simp only [runSt, lastSt] at h
    rw [List.nil_append, runSt_go h]
    rfl
  | s, x :: l, h, h' => by
    cases hx : mvOk r s x
    · rw [runSt_stop hx] at h; simp at h
    · rw [runSt_go hx] at h h'
      rw [List.cons_append, runSt_go hx, runSt_go hx, List.cons_append]
      rw [runSt_snoc (by simpa using h) h']
      rfl
variable {r : Rul}
theorem mv0 (hC : hasI r.st 0 = true ∧ hasI r.sl 0 = true) (s : Stg) (k : Int) (f : Fig) : mvS r s ⟨k, 0, f⟩ = mvTo s ⟨k, 0, f⟩ ∧ mvOk r s ⟨k, 0, f⟩ = isStg (mvTo s ⟨k, 0, f⟩) := by
  have ho : mvOn r ⟨k, 0, f⟩ = true := by
    unfold mvOn
    by_cases hk : k ≤ 2
    · rw [if_pos hk]
      simp only [onR]
      split
      · exact hC.2
      · exact hC.1
    · rw [if_neg hk]
  unfold mvS mvOk
  rw [ho]
  exact ⟨rfl, rfl⟩
theorem OkP.does {p : Pln} {n : Nat} (h : OkP r p n) (hC : hasI r.st 0 = true ∧ hasI r.sl 0 = true) {k : Int} {f : Fig} (hm : isMove ⟨k, 0, f⟩ = true) (hs : isStg (mvTo p.s ⟨k, 0, f⟩) = true) (e : Bool) : OkP r (doP p k f e) (n + 1) := by
  have hm0 := mv0 hC p.s k f
  have ho : mvOk r (lastSt ⟨0, 0⟩ (runSt r ⟨0, 0⟩ p.l)) ⟨k, 0, f⟩ = true := by rw [h.last, hm0.2, hs]
  have hr := runSt_snoc h.full ho
  refine ⟨hs, ?_, ?_, ?_, ?_⟩
  · simp only [doP, List.all_append, h.mv, Bool.true_and, List.all_cons, List.all_nil, Bool.and_true, hm]
  · simp only [doP, List.length_append, List.length_cons, List.length_nil]
    have := h.len
    omega
  · simp only [doP]
    rw [hr, List.length_append, List.length_append, h.full]
    rfl
  · simp only [doP]
    rw [hr, lastSt_snoc, h.last]
    exact hm0.1
theorem isMove_end {k : Int} (h1 : 3 ≤ k) (h2 : k ≤ 6) : isMove ⟨k, 0, ⟨0, 0⟩⟩ = true := by
  unfold isMove
  have : inR k 0 2 = false := by
    rw [Bool.eq_false_iff]; intro h; have := inR_true h; omega
  rw [if_neg (by simp [this])]
  simp [inR, h1, h2]
theorem isMove_fig {k : Int} {f : Fig} (h1 : 0 ≤ k) (h2 : k ≤ 2) (hf : isFig f = true) : isMove ⟨k, 0, f⟩ = true := by
  unfold isMove
  rw [if_pos (inR_mk ⟨h1, h2⟩), hf]
  rfl
theorem isStg_mk {a b : Int} (h1 : -1048576 ≤ a) (h2 : a ≤ 1048576) (h3 : 0 ≤ b) (h4 : b ≤ 1048576) : isStg ⟨a, b⟩ = true := by
  simp [isStg, inR, h1, h2, h3, h4]
theorem mvTo1 (s : Stg) (f : Fig) : mvTo s ⟨1, 0, f⟩ = ⟨s.sh, ptF 0 f + s.sh⟩ := rfl
theorem mvTo2 (s : Stg) (f : Fig) : mvTo s ⟨2, 0, f⟩ = ⟨s.cu - ptF 0 f, s.cu⟩ := rfl
theorem mvTo3 (s : Stg) (f : Fig) : mvTo s ⟨3, 0, f⟩ = ⟨s.cu, s.cu⟩ := rfl
theorem mvTo4 (s : Stg) (f : Fig) : mvTo s ⟨4, 0, f⟩ = ⟨s.cu - 1048576, s.cu⟩ := rfl
theorem OkP.set {p : Pln} {n : Nat} (h : OkP r p n) (hC : hasI r.st 0 = true ∧ hasI r.sl 0 = true) {f : Fig} (hf : isFig f = true) (e : Bool) : OkP r (doP p 2 f e) (n + 1) := by
  have hfb := isFig_true hf
  have hp := pt0_bd hfb.1 hfb.2.1
  have hb := isStg_bd h.st
  exact h.does hC (isMove_fig (by decide) (by decide) hf) (by rw [mvTo2]; exact isStg_mk (by omega) (by omega) (by omega) (by omega)) e
theorem OkP.slide {p : Pln} {n : Nat} (h : OkP r p n) (hC : hasI r.st 0 = true ∧ hasI r.sl 0 = true) {f : Fig} (hf : isFig f = true) (h0 : fitsP p.s f = true) (e : Bool) : OkP r (doP p 1 f e) (n + 1) := by
  have hb := isStg_bd h.st
  have := inR_true h0
  exact h.does hC (isMove_fig (by decide) (by decide) hf) (by rw [mvTo1]; exact isStg_mk (by omega) (by omega) (by omega) (by omega)) e
theorem OkP.left {p : Pln} {n : Nat} (h : OkP r p n) (hC : hasI r.st 0 = true ∧ hasI r.sl 0 = true) (e : Bool) : OkP r (doP p 3 ⟨0, 0⟩ e) (n + 1) := by
  have hb := isStg_bd h.st
  exact h.does hC (isMove_end (by decide) (by decide)) (by rw [mvTo3]; exact isStg_mk (by omega) (by omega) (by omega) (by omega)) e
theorem OkP.right {p : Pln} {n : Nat} (h : OkP r p n) (hC : hasI r.st 0 = true ∧ hasI r.sl 0 = true) (e : Bool) : OkP r (doP p 4 ⟨0, 0⟩ e) (n + 1) := by
  have hb := isStg_bd h.st
  exact h.does hC (isMove_end (by decide) (by decide)) (by rw [mvTo4]; exact isStg_mk (by omega) (by omega) (by omega) (by omega)) e
end Go.Proofs.YtgngbdacejghcaaGreatDoor
