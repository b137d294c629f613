/- DERIVED. Plain words: figures that are rounded, multiplied, divided; the figure of a chain; rough chains; digits that are placed. No program in sight. -/
import Derived.Test.YtfhppnmbmdpjeaaP2
namespace Go.Proofs.Ytfhppnmbmdpjeaa
set_option linter.unusedVariables false
set_option linter.unusedSimpArgs false

/-- The numerator times ten until it is great enough; the tens go down. -/
def upLoop (d n t : Int) : Int × Int := if 1 ≤ n ∧ n < 1000 * d then upLoop d (n * 10) (t - 1) else (n, t)
  termination_by (1000 * d - n).toNat
  decreasing_by omega
/-- The denominator times ten until it is great enough; the tens go up. -/
def dnLoop (n d t : Int) : Int × Int := if 1 ≤ d ∧ 10000 * d ≤ n then dnLoop n (d * 10) (t + 1) else (d, t)
  termination_by (n - d).toNat
  decreasing_by omega
theorem upLoop_go {d n t : Int} (h1 : 1 ≤ n) (h2 : n < 1000 * d) : upLoop d n t = upLoop d (n * 10) (t - 1) := by rw [upLoop, if_pos ⟨h1, h2⟩]
theorem upLoop_end {d n t : Int} (h2 : ¬ n < 1000 * d) : upLoop d n t = (n, t) := by rw [upLoop, if_neg (fun h => h2 h.2)]
theorem dnLoop_go {d n t : Int} (h1 : 1 ≤ d) (h2 : 10000 * d ≤ n) : dnLoop n d t = dnLoop n (d * 10) (t + 1) := by rw [dnLoop, if_pos ⟨h1, h2⟩]
theorem dnLoop_end {d n t : Int} (h2 : ¬ 10000 * d ≤ n) : dnLoop n d t = (d, t) := by rw [dnLoop, if_neg (fun h => h2 h.2)]

theorem upLoop_bd (d n t : Int) (h1 : 1 ≤ n) (h2 : n < 1000 * d) : 1000 * d ≤ (upLoop d n t).1 ∧ (upLoop d n t).1 < 10000 * d ∧ (upLoop d n t).2 ≤ t - 1 ∧ t - (upLoop d n t).2 ≤ (upLoop d n t).1 - n := by
  rw [upLoop_go h1 h2]
  by_cases h3 : n * 10 < 1000 * d
  · have := upLoop_bd d (n * 10) (t - 1) (by omega) h3
    omega
  · rw [upLoop_end h3]
    simp only
    omega
  termination_by (1000 * d - n).toNat
  decreasing_by omega
theorem dnLoop_bd (n d t : Int) (h1 : 1 ≤ d) (h2 : 10000 * d ≤ n) : 1000 * (dnLoop n d t).1 ≤ n ∧ n < 10000 * (dnLoop n d t).1 ∧ d * 10 ≤ (dnLoop n d t).1 ∧ t + 1 ≤ (dnLoop n d t).2 ∧ (dnLoop n d t).2 ≤ t + (dnLoop n d t).1 - d := by
  rw [dnLoop_go h1 h2]
  by_cases h3 : 10000 * (d * 10) ≤ n
  · have := dnLoop_bd n (d * 10) (t + 1) (by omega) h3
    omega
  · rw [dnLoop_end h3]
    simp only
    omega
  termination_by (n - d).toNat
  decreasing_by omega

/-- The last step of rounding. -/
def endRnd (n d t : Int) : Fig := if (2 * n + d) / (2 * d) = 10000 then ⟨1000, t + 1⟩ else ⟨(2 * n + d) / (2 * d), t⟩
/-- A positive fraction, rounded to a figure. -/
def rndF (n d t : Int) : Fig := endRnd (upLoop d n (t + 3)).1 (dnLoop (upLoop d n (t + 3)).1 d (upLoop d n (t + 3)).2).1 (dnLoop (upLoop d n (t + 3)).1 d (upLoop d n (t + 3)).2).2
/-- The same, the other way round. -/
theorem rndF_alt {n d t : Int} (hn : 1 ≤ n) (hd : 1 ≤ d) : rndF n d t = endRnd (upLoop (dnLoop n d (t + 3)).1 n (dnLoop n d (t + 3)).2).1 (dnLoop n d (t + 3)).1 (upLoop (dnLoop n d (t + 3)).1 n (dnLoop n d (t + 3)).2).2 := by
  unfold rndF
  by_cases h : n < 1000 * d
  · have hb := upLoop_bd d n (t + 3) hn h
    rw [dnLoop_end (n := n) (d := d) (by omega)]
    simp only
    rw [dnLoop_end (n := (upLoop d n (t + 3)).1) (by omega)]
  · rw [upLoop_end h]
    simp only
    by_cases h2 : 10000 * d ≤ n
    · have hb := dnLoop_bd n d (t + 3) hd h2
      rw [upLoop_end (d := (dnLoop n d (t + 3)).1) (by omega)]
    · rw [dnLoop_end h2]
      simp only
      rw [upLoop_end h]
/-- The digits of what is rounded. -/
theorem endRnd_bd {n d t : Int} (hd : 1 ≤ d) (h1 : 1000 * d ≤ n) (h2 : n < 10000 * d) : 1000 ≤ (endRnd n d t).d ∧ (endRnd n d t).d ≤ 9999 ∧ t ≤ (endRnd n d t).t ∧ (endRnd n d t).t ≤ t + 1 := by
  have hq1 : 1000 ≤ (2 * n + d) / (2 * d) := Int.le_ediv_of_mul_le (by omega) (by omega)
  have hq2 : (2 * n + d) / (2 * d) < 10001 := Int.ediv_lt_of_lt_mul (by omega) (by omega)
  unfold endRnd
  split
  · simp only; omega
  · simp only; omega
theorem rndF_d {n d t : Int} (hn : 1 ≤ n) (hd : 1 ≤ d) : 1000 ≤ (rndF n d t).d ∧ (rndF n d t).d ≤ 9999 := by
  unfold rndF
  by_cases h : n < 1000 * d
  · have hb := upLoop_bd d n (t + 3) hn h
    rw [dnLoop_end (n := (upLoop d n (t + 3)).1) (by omega)]
    have := endRnd_bd (t := (upLoop d n (t + 3)).2) hd hb.1 hb.2.1
    exact ⟨this.1, this.2.1⟩
  · rw [upLoop_end h]
    simp only
    by_cases h2 : 10000 * d ≤ n
    · have hb := dnLoop_bd n d (t + 3) hd h2
      have := endRnd_bd (t := (dnLoop n d (t + 3)).2) (by omega) hb.1 hb.2.1
      exact ⟨this.1, this.2.1⟩
    · rw [dnLoop_end h2]
      have := endRnd_bd (t := t + 3) hd (by omega) (show n < 10000 * d by omega)
      exact ⟨this.1, this.2.1⟩

/-- A figure, if it is one, and the code. -/
def limF (f : Fig) : Fig := if isFig f then f else ⟨0, 0⟩
def codeLim (f : Fig) : Int := if isFig f then 0 else 3
def mulF (a b : Fig) : Fig := rndF (a.d * b.d) 1 (a.t + b.t - 6)
def divF (a b : Fig) : Fig := rndF a.d b.d (a.t - b.t)
def mulR (a b : Fig) : Fig := if isFig a && isFig b then limF (mulF a b) else ⟨0, 0⟩
def mulC (a b : Fig) : Int := if isFig a && isFig b then codeLim (mulF a b) else 1
def divR (a b : Fig) : Fig := if isFig a && isFig b then limF (divF a b) else ⟨0, 0⟩
def divC (a b : Fig) : Int := if isFig a && isFig b then codeLim (divF a b) else 1
/-- A figure, rounded to one digit. -/
def cutF (a : Fig) : Fig := if (2 * a.d + 1000) / 2000 * 1000 = 10000 then ⟨1000, a.t + 1⟩ else ⟨(2 * a.d + 1000) / 2000 * 1000, a.t⟩
def cutR (a : Fig) : Fig := if isFig a then limF (cutF a) else ⟨0, 0⟩
def cutC (a : Fig) : Int := if isFig a then codeLim (cutF a) else 1

theorem codeLim_cases (f : Fig) : (isFig f = true ∧ codeLim f = 0 ∧ limF f = f) ∨ (isFig f = false ∧ codeLim f = 3 ∧ limF f = ⟨0, 0⟩) := by
  cases h : isFig f <;> simp [codeLim, limF, h]
theorem isFig_00 : isFig ⟨0, 0⟩ = false := by decide
/-- What one step of a chain gives: the figure and the code. -/
def opR (dv : Bool) (a b : Fig) : Fig := if dv then divR a b else mulR a b
def opC (dv : Bool) (a b : Fig) : Int := if dv then divC a b else mulC a b
theorem op_cases (dv : Bool) {a b : Fig} (ha : isFig a = true) (hb : isFig b = true) : (opC dv a b = 0 ∧ isFig (opR dv a b) = true) ∨ (opC dv a b = 3 ∧ opR dv a b = ⟨0, 0⟩) := by
  cases dv
  · have hm := codeLim_cases (mulF a b)
    simp only [opC, opR, mulC, mulR, ha, hb, Bool.and_self, if_true, Bool.false_eq_true, if_false]
    rcases hm with ⟨h1, h2, h3⟩ | ⟨h1, h2, h3⟩
    · exact .inl ⟨h2, by rw [h3]; exact h1⟩
    · exact .inr ⟨h2, h3⟩
  · have hm := codeLim_cases (divF a b)
    simp only [opC, opR, divC, divR, ha, hb, Bool.and_self, if_true]
    rcases hm with ⟨h1, h2, h3⟩ | ⟨h1, h2, h3⟩
    · exact .inl ⟨h2, by rw [h3]; exact h1⟩
    · exact .inr ⟨h2, h3⟩
theorem cut_cases {a : Fig} (ha : isFig a = true) : (cutC a = 0 ∧ isFig (cutR a) = true) ∨ (cutC a = 3 ∧ cutR a = ⟨0, 0⟩) := by
  have hm := codeLim_cases (cutF a)
  simp only [cutC, cutR, ha, if_true]
  rcases hm with ⟨h1, h2, h3⟩ | ⟨h1, h2, h3⟩
  · exact .inl ⟨h2, by rw [h3]; exact h1⟩
  · exact .inr ⟨h2, h3⟩

/-- The figure of a chain: what comes in, then the terms. None: the limit is met. -/
def figFold : Fig → List Trm → Option Fig
  | a, [] => some a
  | a, t :: l => if opC t.dv a t.f = 0 then figFold (opR t.dv a t.f) l else none
theorem figFold_go {a : Fig} {t : Trm} {l : List Trm} (h : opC t.dv a t.f = 0) : figFold a (t :: l) = figFold (opR t.dv a t.f) l := if_pos h
theorem figFold_stop {a : Fig} {t : Trm} {l : List Trm} (h : opC t.dv a t.f = 3) : figFold a (t :: l) = none := if_neg (by omega)
theorem figFold_ok : ∀ (l : List Trm) (a b : Fig), isFig a = true → (∀ t ∈ l, okTrm t = true) → figFold a l = some b → isFig b = true
  | [], a, b, ha, _, h => by simp [figFold] at h; subst h; exact ha
  | t :: l, a, b, ha, hl, h => by
    rcases op_cases t.dv ha (show isFig t.f = true from hl t (by simp)) with ⟨h1, h2⟩ | ⟨h1, h2⟩
    · rw [figFold_go h1] at h
      exact figFold_ok l _ b h2 (fun x hx => hl x (by simp [hx])) h
    · rw [figFold_stop h1] at h
      cases h
def optF : Option Fig → Fig
  | some f => f
  | none => ⟨0, 0⟩
def optC : Option Fig → Int
  | some _ => 0
  | none => 3
def headF : List Trm → Fig
  | [] => ⟨0, 0⟩
  | t :: _ => t.f
def chainFig0 (l : List Trm) : Option Fig := figFold (headF l) (l.drop 1)
def chainFig (l : List Trm) : Fig := if isChain l then optF (chainFig0 l) else ⟨0, 0⟩
def chainFigC (l : List Trm) : Int := if isChain l then optC (chainFig0 l) else 1
theorem drop_get {α : Type} {l : List α} {k : Nat} {x : α} (h : l[k]? = some x) : l.drop k = x :: l.drop (k + 1) := by
  have hk := (List.getElem?_eq_some_iff.1 h)
  obtain ⟨h1, h2⟩ := hk
  rw [List.drop_eq_getElem_cons h1, h2]

/-- The rough figure of a chain. -/
def roughFold : Fig → List Trm → Option Fig
  | a, [] => some a
  | a, t :: l => if cutC t.f = 0 then (if opC t.dv a (cutR t.f) = 0 then (if cutC (opR t.dv a (cutR t.f)) = 0 then roughFold (cutR (opR t.dv a (cutR t.f))) l else none) else none) else none
theorem roughFold_go {a : Fig} {t : Trm} {l : List Trm} (h1 : cutC t.f = 0) (h2 : opC t.dv a (cutR t.f) = 0) (h3 : cutC (opR t.dv a (cutR t.f)) = 0) : roughFold a (t :: l) = roughFold (cutR (opR t.dv a (cutR t.f))) l := by
  rw [roughFold, if_pos h1, if_pos h2, if_pos h3]
theorem roughFold_1 {a : Fig} {t : Trm} {l : List Trm} (h1 : cutC t.f = 3) : roughFold a (t :: l) = none := by rw [roughFold, if_neg (by omega)]
theorem roughFold_2 {a : Fig} {t : Trm} {l : List Trm} (h1 : cutC t.f = 0) (h2 : opC t.dv a (cutR t.f) = 3) : roughFold a (t :: l) = none := by rw [roughFold, if_pos h1, if_neg (by omega)]
theorem roughFold_3 {a : Fig} {t : Trm} {l : List Trm} (h1 : cutC t.f = 0) (h2 : opC t.dv a (cutR t.f) = 0) (h3 : cutC (opR t.dv a (cutR t.f)) = 3) : roughFold a (t :: l) = none := by rw [roughFold, if_pos h1, if_pos h2, if_neg (by omega)]
def rough0 (l : List Trm) : Option Fig := if cutC (headF l) = 0 then roughFold (cutR (headF l)) (l.drop 1) else none
def roughChain (l : List Trm) : Fig := if isChain l then optF (rough0 l) else ⟨0, 0⟩
def roughC (l : List Trm) : Int := if isChain l then optC (rough0 l) else 1
/-- What is rounded to one digit stays so. -/
theorem cut_idem {a : Fig} (ha : isFig a = true) (h : cutC a = 0) : cutC (cutR a) = 0 ∧ cutR (cutR a) = cutR a := by
  have hb := isFig_true ha
  have hm := codeLim_cases (cutF a)
  have e1 : cutR a = limF (cutF a) := by simp [cutR, ha]
  have e2 : cutC a = codeLim (cutF a) := by simp [cutC, ha]
  rw [e2] at h
  rw [e1]
  rcases hm with ⟨h1, h2, h3⟩ | ⟨h1, h2, h3⟩
  · rw [h3]
    have hf : cutF (cutF a) = cutF a := by
      have hq1 : 1 ≤ (2 * a.d + 1000) / 2000 := by omega
      have hq2 : (2 * a.d + 1000) / 2000 ≤ 10 := by omega
      unfold cutF
      generalize hq : (2 * a.d + 1000) / 2000 = q at *
      by_cases h10 : q * 1000 = 10000
      · simp only [h10, if_true]
        rfl
      · simp only [h10, if_false]
        have e : (2 * (q * 1000) + 1000) / 2000 = q := by omega
        rw [e, if_neg h10]
    have e3 : codeLim (cutF a) = 0 := h2
    simp [cutC, cutR, h1, hf, e3, h3]
  · omega

/-- The figure with some digits whose logarithm is nearest. -/
def gapOf (g : Int) (a : Itv) : Int := a.lo + a.hi - (figLog ⟨g, 0⟩).lo - (figLog ⟨g, 0⟩).hi
def placeT (x : Int) : Int := if 1048576 < x - 2097152 * (x / 2097152) then x / 2097152 + 1 else x / 2097152
def placeF (g : Int) (a : Itv) : Fig := ⟨g, placeT (gapOf g a)⟩
theorem placeT_bd (x : Int) : x / 2097152 ≤ placeT x ∧ placeT x ≤ x / 2097152 + 1 := by
  unfold placeT
  split <;> omega
def codePlace (l : List Trm) (g : Int) : Int := if isChain l then (if inR g 1000 9999 then codeLim (placeF g (chainLog0 l)) else 2) else 1
def placeDigits (l : List Trm) (g : Int) : Fig := if isChain l then (if inR g 1000 9999 then limF (placeF g (chainLog0 l)) else ⟨0, 0⟩) else ⟨0, 0⟩

/-- The tens of a chain, and the carry. -/
def tensI (a : Itv) : Itv := ⟨a.lo / 1048576, a.hi / 1048576⟩
def tensOf (l : List Trm) : Itv := if isChain l then tensI (chainLog0 l) else ⟨0, 0⟩
def carryOf (l : List Trm) : Itv := if isChain l then ⟨(chainLog0 l).lo / 1048576 - sumTens l, (chainLog0 l).hi / 1048576 - sumTens l⟩ else ⟨0, 0⟩
theorem sumTens_bdk (l : List Trm) (h : ∀ t ∈ l, okTrm t = true) : ∀ k : Nat, k ≤ l.length → -30 * (k : Int) ≤ sumTens (l.take k) ∧ sumTens (l.take k) ≤ 30 * k
  | 0, _ => by simp [sumTens]
  | k + 1, hk => by
    have ih := sumTens_bdk l h k (by omega)
    obtain ⟨t, ht⟩ := get_ex (l := l) (k := k) (by omega)
    obtain ⟨t1, t2, t3, t4⟩ := okTrm_bd (h t (List.mem_of_getElem? ht))
    rw [take_snoc' ht, sumTens_snoc]
    cases hq : t.dv
    · rw [tensStep_n hq]; omega
    · rw [tensStep_y hq]; omega
theorem sumTens_bd {l : List Trm} (h : isChain l = true) : -180 ≤ sumTens l ∧ sumTens l ≤ 180 := by
  have hc := isChain_true h
  have := sumTens_bdk l hc.2.2.2 l.length (Nat.le_refl _)
  rw [take_eq_all (Nat.le_refl _)] at this
  omega

/-- The tens of the parts of a chain. -/
def partL (l : List Trm) : Nat → Option (List Int)
  | 0 => some []
  | k + 1 => match partL l k with
    | some r => if chainFigC (l.take (k + 1)) = 0 then some (r ++ [(chainFig (l.take (k + 1))).t]) else none
    | none => none
theorem partL_none {l : List Trm} {k : Nat} (h : partL l k = none) : ∀ j, k ≤ j → partL l j = none := by
  intro j hj
  obtain ⟨m, rfl⟩ : ∃ m, j = k + m := ⟨j - k, by omega⟩
  clear hj
  induction m with
  | zero => exact h
  | succ m ih => rw [← Nat.add_assoc, partL, ih]
theorem partL_len {l : List Trm} : ∀ {k : Nat} {r : List Int}, partL l k = some r → r.length = k
  | 0, r, h => by simp [partL] at h; subst h; rfl
  | k + 1, r, h => by
    rw [partL] at h
    cases hp : partL l k with
    | none => rw [hp] at h; simp at h
    | some q =>
      rw [hp] at h
      have hl := partL_len hp
      simp only at h
      split at h
      · simp at h
        subst h
        simp [hl]
      · cases h
def partialTens (l : List Trm) : List Int := if isChain l then ((partL l l.length).getD []) else []
def codePartial (l : List Trm) : Int := if isChain l then (match partL l l.length with | some _ => 0 | none => 3) else 1
theorem take_isChain {l : List Trm} (h : isChain l = true) {k : Nat} (hk : k < l.length) : isChain (l.take (k + 1)) = true := by
  have hc := isChain_true h
  have hl : (l.take (k + 1)).length = k + 1 := by rw [List.length_take, Nat.min_eq_left hk]
  have h1 : headDv (l.take (k + 1)) = false := by
    have := hc.2.2.1
    cases l with
    | nil => simp at hk
    | cons x l => exact this
  simp only [isChain, Bool.and_eq_true, List.all_eq_true, Bool.not_eq_true']
  refine ⟨fun t ht => hc.2.2.2 t (List.mem_of_mem_take ht), inR_mk (by rw [hl]; omega), h1⟩

end Go.Proofs.Ytfhppnmbmdpjeaa
