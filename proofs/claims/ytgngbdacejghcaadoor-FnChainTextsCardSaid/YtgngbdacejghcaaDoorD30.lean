/- DERIVED. Plain: chains read from text (words). -/
import Derived.Test.YtgngbdacejghcaaDoorD4
import Derived.Test.YtgngbdacejghcaaDoorD26
namespace Go.Proofs.YtgngbdacejghcaaDoor
set_option linter.unusedVariables false
set_option linter.unusedSimpArgs false
open Go.RowKit
set_option maxRecDepth 100000
set_option linter.unusedVariables false

def isSep (c : UInt8) : Bool := c == 42 || c == 47
/-- A text split at its signs of operation: the parts, and whether one divides by each. -/
def tok : Bool → List UInt8 → List (List UInt8 × Bool)
  | d, [] => [([], d)]
  | d, c :: r => if isSep c = true then ([], d) :: tok (c == 47) r else match tok d r with
    | (h, e) :: t => (c :: h, e) :: t
    | [] => [([c], d)]
theorem tok_cons (d : Bool) (c : UInt8) (r : List UInt8) : tok d (c :: r) = if isSep c = true then ([], d) :: tok (c == 47) r else match tok d r with
    | (h, e) :: t => (c :: h, e) :: t
    | [] => [([c], d)] := rfl
theorem tok_miss {d : Bool} : ∀ {l : List UInt8}, (∀ (k : Nat) c, l[k]? = some c → isSep c = false) → tok d l = [(l, d)]
  | [], _ => rfl
  | c :: r, h => by
    have hc : isSep c = false := h 0 c rfl
    have ih := tok_miss (d := d) (l := r) (fun k x hk => h (k + 1) x (by simpa using hk))
    unfold tok
    rw [hc, ih]
    rfl
theorem tok_hit {d : Bool} : ∀ {l : List UInt8} {m : Nat} {c : UInt8}, l[m]? = some c → isSep c = true → (∀ (k : Nat) x, k < m → l[k]? = some x → isSep x = false) → tok d l = (l.take m, d) :: tok (c == 47) (l.drop (m + 1))
  | [], m, c, h, _, _ => by simp at h
  | a :: r, 0, c, h, hc, _ => by
    have e : a = c := by simpa using h
    subst e
    show (if isSep a = true then ([], d) :: tok (a == 47) r else _) = _
    rw [if_pos hc]
    rfl
  | a :: r, m + 1, c, h, hc, hk => by
    have ha : isSep a = false := hk 0 a (by omega) rfl
    have ih := tok_hit (d := d) (l := r) (m := m) (c := c) (by simpa using h) hc (fun k x hk' hh => hk (k + 1) x (by omega) (by simpa using hh))
    rw [tok_cons, ha, ih]
    rfl
theorem tok_head (d : Bool) : ∀ l : List UInt8, ∃ x t, tok d l = (x, d) :: t
  | [] => ⟨[], [], rfl⟩
  | c :: r => by
    obtain ⟨x, t, ih⟩ := tok_head d r
    unfold tok
    split
    · exact ⟨_, _, rfl⟩
    · rw [ih]; exact ⟨_, _, rfl⟩
def glueR : List (List UInt8 × Bool) → List UInt8
  | [] => []
  | p :: r => (if p.2 then 47 else 42) :: (p.1 ++ glueR r)
def glue : List (List UInt8 × Bool) → List UInt8
  | [] => []
  | p :: r => p.1 ++ glueR r
theorem sep_back {c : UInt8} (h : isSep c = true) : (if (c == 47) = true then (47 : UInt8) else 42) = c := by
  unfold isSep at h
  rw [Bool.or_eq_true] at h
  rcases h with h | h
  · rw [beq_iff_eq.1 h]; decide
  · rw [beq_iff_eq.1 h]; decide
theorem glue_tok : ∀ (d : Bool) (l : List UInt8), glue (tok d l) = l
  | d, [] => rfl
  | d, c :: r => by
    unfold tok
    split
    · rename_i hc
      obtain ⟨x, t, e⟩ := tok_head (c == 47) r
      have ih := glue_tok (c == 47) r
      rw [e] at ih ⊢
      simp only [glue, glueR, List.nil_append, sep_back hc] at ih ⊢
      rw [ih]
    · obtain ⟨x, t, e⟩ := tok_head d r
      have ih := glue_tok d r
      rw [e] at ih ⊢
      simp only [glue, List.cons_append] at ih ⊢
      rw [ih]
theorem sep_of (d : Bool) : isSep (if d = true then (47 : UInt8) else 42) = true ∧ ((if d = true then (47 : UInt8) else 42) == 47) = d := by cases d <;> decide
theorem tok_glue : ∀ {d : Bool} {x : List UInt8} {r : List (List UInt8 × Bool)}, (∀ p ∈ (x, d) :: r, ∀ c ∈ p.1, isSep c = false) → tok d (glue ((x, d) :: r)) = (x, d) :: r
  | d, x, [], h => by
    simp only [glue, glueR, List.append_nil]
    exact tok_miss fun k c hk => h (x, d) (by simp) c (List.mem_of_getElem? hk)
  | d, x, (y, e) :: r, h => by
    have ih := tok_glue (d := e) (x := y) (r := r) (fun p hp => h p (List.mem_cons_of_mem _ hp))
    obtain ⟨s1, s2⟩ := sep_of e
    simp only [glue, glueR] at ih ⊢
    rw [tok_hit (m := x.length) (c := if e = true then 47 else 42) (by rw [List.getElem?_append_right (by omega)]; simp) s1 (fun k z hk hz => by
      rw [List.getElem?_append_left hk] at hz
      exact h (x, d) (by simp) z (List.mem_of_getElem? hz)), s2]
    have e1 : (x ++ (if e = true then (47 : UInt8) else 42) :: (y ++ glueR r)).drop (x.length + 1) = y ++ glueR r := by
      rw [← List.drop_drop, List.drop_left]; rfl
    rw [e1, ih, List.take_left]
def toks (l : List Trm) : List (List UInt8 × Bool) := l.map fun t => (figT t.f, t.dv)
theorem glueR_toks : ∀ l : List Trm, glueR (toks l) = chR l
  | [] => rfl
  | t :: r => by
    have ih := glueR_toks r
    simp only [toks, List.map_cons, glueR, chR, sepB] at ih ⊢
    rw [ih]
    simp
theorem glue_toks (l : List Trm) : glue (toks l) = chT l := by
  cases l with
  | nil => rfl
  | cons t r =>
    have := glueR_toks r
    simp only [toks, List.map_cons, glue, chT] at this ⊢
    rw [this]
theorem isSep_fig {f : Fig} (h : isFig f = true) : ∀ c ∈ figT f, isSep c = false := by
  intro c hc
  cases hs : isSep c with
  | false => rfl
  | true =>
    unfold isSep at hs
    rw [Bool.or_eq_true] at hs
    rcases hs with hs | hs
    · rw [beq_iff_eq.1 hs] at hc; exact absurd hc (figT_no h (.inr (.inl rfl)))
    · rw [beq_iff_eq.1 hs] at hc; exact absurd hc (figT_no h (.inr (.inr rfl)))
theorem ch_tok {l : List Trm} (h : isChain l = true) : tok false (chT l) = toks l := by
  obtain ⟨h1, h2, h3, h4⟩ := isChain_true h
  cases l with
  | nil => simp at h1
  | cons t r =>
    have hd : t.dv = false := h3
    rw [← glue_toks]
    simp only [toks, List.map_cons, hd]
    refine tok_glue fun p hp => ?_
    rcases List.mem_cons.1 hp with rfl | hp
    · exact isSep_fig (h4 t (by simp))
    · obtain ⟨u, hu, rfl⟩ := List.mem_map.1 hp
      exact isSep_fig (h4 u (List.mem_cons_of_mem _ hu))
theorem toks_inj : ∀ {l m : List Trm}, (∀ t ∈ l, okTrm t = true) → (∀ t ∈ m, okTrm t = true) → toks l = toks m → l = m
  | [], [], _, _, _ => rfl
  | [], y :: m, _, _, h => by simp [toks] at h
  | x :: l, [], _, _, h => by simp [toks] at h
  | x :: l, y :: m, hl, hm, h => by
    simp only [toks, List.map_cons, List.cons.injEq, Prod.mk.injEq] at h
    obtain ⟨f, dv⟩ := x
    obtain ⟨g, dw⟩ := y
    have e := figT_inj (hl _ (by simp)) (hm _ (by simp)) h.1.1
    have e2 := h.1.2
    simp only at e e2
    rw [e, e2, toks_inj (fun z hz => hl z (List.mem_cons_of_mem _ hz)) (fun z hz => hm z (List.mem_cons_of_mem _ hz)) h.2]
theorem chT_inj {l m : List Trm} (hl : isChain l = true) (hm : isChain m = true) (h : chT l = chT m) : l = m := by
  have e := ch_tok hl
  rw [h, ch_tok hm] at e
  exact (toks_inj (isChain_true hm).2.2.2 (isChain_true hl).2.2.2 e).symm
open Classical in
/-- A chain, as its text says. -/
noncomputable def rdC (s : List UInt8) : Option (List Trm) := if h : ∃ l, isChain l = true ∧ chT l = s then some h.choose else none
theorem rdC_some {s : List UInt8} {l : List Trm} (h1 : isChain l = true) (h2 : chT l = s) : rdC s = some l := by
  have h : ∃ l, isChain l = true ∧ chT l = s := ⟨l, h1, h2⟩
  unfold rdC
  rw [dif_pos h]
  congr 1
  exact chT_inj h.choose_spec.1 h1 (h.choose_spec.2.trans h2.symm)
theorem rdC_none {s : List UInt8} (h : ∀ l, isChain l = true → chT l ≠ s) : rdC s = none := by
  unfold rdC
  rw [dif_neg (fun ⟨f, a, b⟩ => h f a b)]
theorem rdC_is {s : List UInt8} {l : List Trm} (h : rdC s = some l) : isChain l = true ∧ chT l = s := by
  unfold rdC at h
  split at h
  · rename_i hx
    injection h with h
    subst h
    exact hx.choose_spec
  · cases h
theorem rdC_bad {s x : List UInt8} {d : Bool} {L : List (List UInt8 × Bool)} (hk : tok false s = L ++ tok d x) {y : List UInt8} {t : List (List UInt8 × Bool)} (hy : tok d x = (y, d) :: t) (h : rdF y = none) : rdC s = none := rdC_none fun l h1 h2 => by
  have e := ch_tok h1
  rw [h2, hk, hy] at e
  have e2 : (toks l)[L.length]? = some (y, d) := by rw [← e]; simp
  unfold toks at e2
  rw [List.getElem?_map] at e2
  cases hl : l[L.length]? with
  | none => rw [hl] at e2; cases e2
  | some u =>
    rw [hl] at e2
    have e3 := Option.some.inj e2
    have := rdF_some ((isChain_true h1).2.2.2 u (List.mem_of_getElem? hl)) (Prod.mk.inj e3).1
    rw [h] at this
    cases this
theorem rdC_all {s : List UInt8} {L : List Trm} (h : tok false s = toks L) (hf : ∀ t ∈ L, isFig t.f = true) : (isChain L = true → rdC s = some L) ∧ (isChain L = false → rdC s = none) := by
  refine ⟨fun hc => rdC_some hc (by rw [← glue_toks, ← h, glue_tok]), fun hc => rdC_none fun l h1 h2 => ?_⟩
  have e := ch_tok h1
  rw [h2, h] at e
  rw [toks_inj hf (isChain_true h1).2.2.2 e, h1] at hc
  cases hc
theorem toks_snoc (L : List Trm) (f : Fig) (d : Bool) : toks (L ++ [⟨f, d⟩]) = toks L ++ [(figT f, d)] := by simp [toks]
noncomputable def rcV (s : List UInt8) : List Trm := (rdC s).getD []
noncomputable def rcC (s : List UInt8) : Int := if (rdC s).isSome then 0 else 6
theorem rc_no {s : List UInt8} (h : rdC s = none) : rcV s = [] ∧ rcC s = 6 := by simp [rcV, rcC, h]
theorem rc_yes {s : List UInt8} {l : List Trm} (h : rdC s = some l) : rcV s = l ∧ rcC s = 0 := by simp [rcV, rcC, h]
theorem rc_len (s : List UInt8) : (rcV s).length ≤ 6 := by
  cases h : rdC s with
  | none => rw [(rc_no h).1]; simp
  | some l => rw [(rc_yes h).1]; exact (isChain_true (rdC_is h).1).2.1
end Go.Proofs.YtgngbdacejghcaaDoor
