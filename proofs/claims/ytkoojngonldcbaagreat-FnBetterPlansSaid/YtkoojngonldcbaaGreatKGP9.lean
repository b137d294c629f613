/- DERIVED. Plain words: the usual plan of a chain. No program in sight. -/
import Derived.Test.YtkoojngonldcbaaGreatKGPA
namespace Go.Proofs.YtkoojngonldcbaaGreat
set_option linter.unusedVariables false
set_option linter.unusedSimpArgs false
theorem pt0_bd {f : Fig} (h1 : 1000 ≤ f.d) (h2 : f.d ≤ 9999) : 0 ≤ ptF 0 f ∧ ptF 0 f ≤ 1048576 := by
  have hb := lg_bd h1 h2
  have h : ptF 0 f = ((lg f.d).lo + (lg f.d).hi) / 2 := rfl
  omega
def codePlan (r : Rul) (c : List Trm) : Int := if isRule r && isChain c then (if hasI r.st 0 && hasI r.sl 0 then 0 else 5) else 1
theorem codePlan_0 {r : Rul} {c : List Trm} (h : codePlan r c = 0) : isRule r = true ∧ isChain c = true ∧ hasI r.st 0 = true ∧ hasI r.sl 0 = true := by
  unfold codePlan at h
  split at h
  · rename_i h1
    rw [Bool.and_eq_true] at h1
    split at h
    · rename_i h2
      rw [Bool.and_eq_true] at h2
      exact ⟨h1.1, h1.2, h2.1, h2.2⟩
    · omega
  · omega
theorem codePlan_1a {r : Rul} {c : List Trm} (h : isRule r = false) : codePlan r c = 1 := by unfold codePlan; rw [h]; rfl
theorem codePlan_1b {r : Rul} {c : List Trm} (h : isRule r = true) (h' : isChain c = false) : codePlan r c = 1 := by unfold codePlan; rw [h, h']; rfl
theorem codePlan_5a {r : Rul} {c : List Trm} (h : isRule r = true) (h' : isChain c = true) (h'' : hasI r.st 0 = false) : codePlan r c = 5 := by unfold codePlan; rw [h, h', h'']; rfl
theorem codePlan_5b {r : Rul} {c : List Trm} (h : isRule r = true) (h' : isChain c = true) (h'' : hasI r.st 0 = true) (h3 : hasI r.sl 0 = false) : codePlan r c = 5 := by unfold codePlan; rw [h, h', h'', h3]; rfl
theorem codePlan_ok {r : Rul} {c : List Trm} (h : isRule r = true) (h' : isChain c = true) (h'' : hasI r.st 0 = true) (h3 : hasI r.sl 0 = true) : codePlan r c = 0 := by unfold codePlan; rw [h, h', h'', h3]; rfl
structure Pln where
  s : Stg
  l : List Mov
  e : Bool
def doP (p : Pln) (k : Int) (f : Fig) (e : Bool) : Pln := ⟨mvTo p.s ⟨k, 0, f⟩, p.l ++ [⟨k, 0, f⟩], e⟩
def underP (p : Pln) : Pln := if p.e then (if 0 ≤ p.s.sh then doP p 5 ⟨0, 0⟩ false else doP p 6 ⟨0, 0⟩ false) else p
def fitsP (s : Stg) (f : Fig) : Bool := inR (s.sh + ptF 0 f) 0 1048576
def leftP (s : Stg) (f : Fig) : Bool := inR (s.cu + ptF 0 f) 0 1048576
def sideP (p : Pln) (f : Fig) : Pln := if leftP p.s f then doP p 3 ⟨0, 0⟩ false else doP p 4 ⟨0, 0⟩ false
def termP (p : Pln) (t : Trm) : Pln :=
  if t.dv then doP (underP p) 2 t.f true
  else if p.e && fitsP p.s t.f then doP p 1 t.f false
  else doP (sideP (underP p) t.f) 1 t.f false
def startP (f : Fig) : Pln := doP ⟨⟨0, 0⟩, [], false⟩ 0 f false
def foldP (c : List Trm) : Pln := (c.drop 1).foldl termP (startP (headF c))
def usualP (c : List Trm) : Pln := underP (foldP c)
def planL (c : List Trm) : List Mov := (usualP c).l
structure OkP (r : Rul) (p : Pln) (n : Nat) : Prop where
  st : isStg p.s = true
  mv : p.l.all isMove = true
  len : p.l.length ≤ n
  full : (runSt r ⟨0, 0⟩ p.l).length = p.l.length
  last : lastSt ⟨0, 0⟩ (runSt r ⟨0, 0⟩ p.l) = p.s
theorem OkP.more {r : Rul} {p : Pln} {n m : Nat} (h : OkP r p n) (hm : n ≤ m) : OkP r p m := ⟨h.st, h.mv, Nat.le_trans h.len hm, h.full, h.last⟩
theorem runSt_snoc {r : Rul} {m : Mov} : ∀ {s : Stg} {l : List Mov}, (runSt r s l).length = l.length → mvOk r (lastSt s (runSt r s l)) m = true → runSt r s (l ++ [m]) = runSt r s l ++ [mvS r (lastSt s (runSt r s l)) m]
  | s, [], _, h => by
    simp only [runSt, lastSt] at h
    rw [List.nil_append, runSt_go h]
    rfl
  | s, x :: l, h, h' => by
    cases hx : mvOk r s x
    · rw [runSt_stop hx] at h; simp at h
    · rw [runSt_go hx] at h h'
      rw [List.cons_append, runSt_go hx, runSt_go hx, List.cons_append]
      rw [runSt_snoc (by simpa using h) h']
      rfl
variable {r : Rul}
theorem mv0 (hC : hasI r.st 0 = true ∧ hasI r.sl 0 = true) (s : Stg) (k : Int) (f : Fig) : mvS r s ⟨k, 0, f⟩ = mvTo s ⟨k, 0, f⟩ ∧ mvOk r s ⟨k, 0, f⟩ = isStg (mvTo s ⟨k, 0, f⟩) := by
  have ho : mvOn r ⟨k, 0, f⟩ = true := by
    unfold mvOn
    by_cases hk : k ≤ 2
    · rw [if_pos hk]
      simp only [onR]
      split
      · exact hC.2
      · exact hC.1
    · rw [if_neg hk]
  unfold mvS mvOk
  rw [ho]
  exact ⟨rfl, rfl⟩
theorem OkP.does {p : Pln} {n : Nat} (h : OkP r p n) (hC : hasI r.st 0 = true ∧ hasI r.sl 0 = true) {k : Int} {f : Fig} (hm : isMove ⟨k, 0, f⟩ = true) (hs : isStg (mvTo p.s ⟨k, 0, f⟩) = true) (e : Bool) : OkP r (doP p k f e) (n + 1) := by
  have hm0 := mv0 hC p.s k f
  have ho : mvOk r (lastSt ⟨0, 0⟩ (runSt r ⟨0, 0⟩ p.l)) ⟨k, 0, f⟩ = true := by rw [h.last, hm0.2, hs]
  have hr := runSt_snoc h.full ho
  refine ⟨hs, ?_, ?_, ?_, ?_⟩
  · simp only [doP, List.all_append, h.mv, Bool.true_and, List.all_cons, List.all_nil, Bool.and_true, hm]
  · simp only [doP, List.length_append, List.length_cons, List.length_nil]
    have := h.len
    omega
  · simp only [doP]
    rw [hr, List.length_append, List.length_append, h.full]
    rfl
  · simp only [doP]
    rw [hr, lastSt_snoc, h.last]
    exact hm0.1
theorem isMove_end {k : Int} (h1 : 3 ≤ k) (h2 : k ≤ 6) : isMove ⟨k, 0, ⟨0, 0⟩⟩ = true := by
  unfold isMove
  have : inR k 0 2 = false := by
    rw [Bool.eq_false_iff]; intro h; have := inR_true h; omega
  rw [if_neg (by simp [this])]
  simp [inR, h1, h2]
theorem isMove_fig {k : Int} {f : Fig} (h1 : 0 ≤ k) (h2 : k ≤ 2) (hf : isFig f = true) : isMove ⟨k, 0, f⟩ = true := by
  unfold isMove
  rw [if_pos (inR_mk ⟨h1, h2⟩), hf]
  rfl
theorem isStg_mk {a b : Int} (h1 : -1048576 ≤ a) (h2 : a ≤ 1048576) (h3 : 0 ≤ b) (h4 : b ≤ 1048576) : isStg ⟨a, b⟩ = true := by
  simp [isStg, inR, h1, h2, h3, h4]
theorem mvTo0 (s : Stg) (f : Fig) : mvTo s ⟨0, 0, f⟩ = ⟨s.sh, ptF 0 f⟩ := rfl
theorem mvTo1 (s : Stg) (f : Fig) : mvTo s ⟨1, 0, f⟩ = ⟨s.sh, ptF 0 f + s.sh⟩ := rfl
theorem mvTo2 (s : Stg) (f : Fig) : mvTo s ⟨2, 0, f⟩ = ⟨s.cu - ptF 0 f, s.cu⟩ := rfl
theorem mvTo3 (s : Stg) (f : Fig) : mvTo s ⟨3, 0, f⟩ = ⟨s.cu, s.cu⟩ := rfl
theorem mvTo4 (s : Stg) (f : Fig) : mvTo s ⟨4, 0, f⟩ = ⟨s.cu - 1048576, s.cu⟩ := rfl
theorem mvTo5 (s : Stg) (f : Fig) : mvTo s ⟨5, 0, f⟩ = ⟨s.sh, s.sh⟩ := rfl
theorem mvTo6 (s : Stg) (f : Fig) : mvTo s ⟨6, 0, f⟩ = ⟨s.sh, s.sh + 1048576⟩ := rfl
theorem OkP.under {p : Pln} {n : Nat} (h : OkP r p n) (hC : hasI r.st 0 = true ∧ hasI r.sl 0 = true) : OkP r (underP p) (n + 1) := by
  unfold underP
  have hb := isStg_bd h.st
  split
  · split
    · exact h.does hC (isMove_end (by decide) (by decide)) (by rw [mvTo5]; exact isStg_mk (by omega) (by omega) (by omega) (by omega)) false
    · exact h.does hC (isMove_end (by decide) (by decide)) (by rw [mvTo6]; exact isStg_mk (by omega) (by omega) (by omega) (by omega)) false
  · exact h.more (by omega)
theorem underP_e (p : Pln) : (underP p).e = false := by
  unfold underP
  split
  · split <;> rfl
  · rename_i h; simpa using h
theorem OkP.start (hC : hasI r.st 0 = true ∧ hasI r.sl 0 = true) {f : Fig} (hf : isFig f = true) : OkP r (startP f) 1 := by
  have h0 : OkP r ⟨⟨0, 0⟩, [], false⟩ 0 := ⟨by decide, rfl, Nat.le_refl _, rfl, rfl⟩
  have hfb := isFig_true hf
  have hp := pt0_bd hfb.1 hfb.2.1
  exact h0.does hC (isMove_fig (by decide) (by decide) hf) (by rw [mvTo0]; exact isStg_mk (by decide) (by decide) hp.1 hp.2) false
theorem OkP.set {p : Pln} {n : Nat} (h : OkP r p n) (hC : hasI r.st 0 = true ∧ hasI r.sl 0 = true) {f : Fig} (hf : isFig f = true) (e : Bool) : OkP r (doP p 2 f e) (n + 1) := by
  have hfb := isFig_true hf
  have hp := pt0_bd hfb.1 hfb.2.1
  have hb := isStg_bd h.st
  exact h.does hC (isMove_fig (by decide) (by decide) hf) (by rw [mvTo2]; exact isStg_mk (by omega) (by omega) (by omega) (by omega)) e
theorem OkP.slide {p : Pln} {n : Nat} (h : OkP r p n) (hC : hasI r.st 0 = true ∧ hasI r.sl 0 = true) {f : Fig} (hf : isFig f = true) (h0 : fitsP p.s f = true) (e : Bool) : OkP r (doP p 1 f e) (n + 1) := by
  have hb := isStg_bd h.st
  have := inR_true h0
  exact h.does hC (isMove_fig (by decide) (by decide) hf) (by rw [mvTo1]; exact isStg_mk (by omega) (by omega) (by omega) (by omega)) e
theorem OkP.left {p : Pln} {n : Nat} (h : OkP r p n) (hC : hasI r.st 0 = true ∧ hasI r.sl 0 = true) (e : Bool) : OkP r (doP p 3 ⟨0, 0⟩ e) (n + 1) := by
  have hb := isStg_bd h.st
  exact h.does hC (isMove_end (by decide) (by decide)) (by rw [mvTo3]; exact isStg_mk (by omega) (by omega) (by omega) (by omega)) e
theorem OkP.right {p : Pln} {n : Nat} (h : OkP r p n) (hC : hasI r.st 0 = true ∧ hasI r.sl 0 = true) (e : Bool) : OkP r (doP p 4 ⟨0, 0⟩ e) (n + 1) := by
  have hb := isStg_bd h.st
  exact h.does hC (isMove_end (by decide) (by decide)) (by rw [mvTo4]; exact isStg_mk (by omega) (by omega) (by omega) (by omega)) e
theorem OkP.side {p : Pln} {n : Nat} (h : OkP r p n) (hC : hasI r.st 0 = true ∧ hasI r.sl 0 = true) {f : Fig} (hf : isFig f = true) : OkP r (sideP p f) (n + 1) ∧ fitsP (sideP p f).s f = true := by
  have hfb := isFig_true hf
  have hp := pt0_bd hfb.1 hfb.2.1
  have hb := isStg_bd h.st
  unfold sideP
  split
  · rename_i hl
    have hl := inR_true hl
    exact ⟨h.left hC false, inR_mk ⟨by simp only [doP, mvTo3]; omega, by simp only [doP, mvTo3]; omega⟩⟩
  · rename_i hl
    have hl := inR_false (Bool.eq_false_iff.2 hl)
    exact ⟨h.right hC false, inR_mk ⟨by simp only [doP, mvTo4]; omega, by simp only [doP, mvTo4]; omega⟩⟩
theorem OkP.term {p : Pln} {n : Nat} (h : OkP r p n) (hC : hasI r.st 0 = true ∧ hasI r.sl 0 = true) {t : Trm} (ht : okTrm t = true) : OkP r (termP p t) (n + 3) := by
  unfold termP
  split
  · exact ((h.under hC).set hC ht true).more (by omega)
  · split
    · rename_i hq
      rw [Bool.and_eq_true] at hq
      exact (h.slide hC ht hq.2 false).more (by omega)
    · have := (h.under hC).side hC (f := t.f) ht
      exact this.1.slide hC ht this.2 false
theorem OkP.fold (hC : hasI r.st 0 = true ∧ hasI r.sl 0 = true) : ∀ {l : List Trm} {p : Pln} {n : Nat}, OkP r p n → (∀ t ∈ l, okTrm t = true) → OkP r (l.foldl termP p) (n + 3 * l.length)
  | [], p, n, h, _ => h
  | t :: l, p, n, h, ha => by
    have := OkP.fold hC (h.term hC (ha t (by simp))) (fun x hx => ha x (List.mem_cons_of_mem _ hx))
    rw [List.foldl_cons]
    refine this.more ?_
    simp only [List.length_cons]
    omega
theorem headF_ok {c : List Trm} (h : isChain c = true) : isFig (headF c) = true := by
  have hc := isChain_true h
  cases c with
  | nil => simp at hc
  | cons t l => exact hc.2.2.2 t (by simp)
theorem chain_tail {c : List Trm} (h : isChain c = true) : ∀ t ∈ c.drop 1, okTrm t = true := fun t ht => (isChain_true h).2.2.2 t (List.mem_of_mem_drop ht)
theorem OkP.usual {c : List Trm} (hC : hasI r.st 0 = true ∧ hasI r.sl 0 = true) (h : isChain c = true) : OkP r (usualP c) 17 := by
  have hc := isChain_true h
  have h1 := OkP.fold hC (OkP.start hC (headF_ok h)) (chain_tail h)
  refine (h1.under hC).more ?_
  rw [List.length_drop]
  omega
theorem OkP.atK {c : List Trm} (hC : hasI r.st 0 = true ∧ hasI r.sl 0 = true) (h : isChain c = true) (k : Nat) : OkP r (((c.drop 1).take k).foldl termP (startP (headF c))) 16 := by
  have hc := isChain_true h
  refine (OkP.fold hC (OkP.start hC (headF_ok h)) (fun t ht => chain_tail h t (List.mem_of_mem_take ht))).more ?_
  rw [List.length_take, List.length_drop]
  omega
theorem foldP_snoc (l : List Trm) (t : Trm) (p : Pln) : (l ++ [t]).foldl termP p = termP (l.foldl termP p) t := by simp
theorem planL_len {c : List Trm} (hC : hasI r.st 0 = true ∧ hasI r.sl 0 = true) (h : isChain c = true) : (planL c).length ≤ 17 := (OkP.usual hC h).len
end Go.Proofs.YtkoojngonldcbaaGreat
