/- DERIVED. Plain words: rules, settings, positions, moves. No program in sight. -/
import Derived.Test.YtfhppnmbmdpjeaaP6
namespace Go.Proofs.Ytfhppnmbmdpjeaa
set_option linter.unusedVariables false
set_option linter.unusedSimpArgs false

/-- A rule: its length, the scales of its parts. -/
structure Rul where
  len : Int
  st : List Int
  sl : List Int

def okSc (l : List Int) (i : Nat) : Bool := isScaleN (l.getD i 0) && !hasI (l.take i) (l.getD i 0)
def allSc (l : List Int) : Bool := (List.range l.length).all (okSc l)
def areSc (l : List Int) : Bool := allSc l && inR l.length 1 6
theorem okSc_get {l : List Int} {i : Nat} {x : Int} (hx : l[i]? = some x) : okSc l i = (isScaleN x && !hasI (l.take i) x) := by
  simp [okSc, List.getD, hx]
theorem areSc_false {l : List Int} {i : Nat} (hi : i < l.length) (h : okSc l i = false) : areSc l = false := by
  have : allSc l = false := by
    rw [Bool.eq_false_iff]
    intro ha
    rw [allSc, List.all_eq_true] at ha
    rw [ha i (List.mem_range.2 hi)] at h
    cases h
  rw [areSc, this, Bool.false_and]
theorem allSc_true {l : List Int} (h : ∀ i, i < l.length → okSc l i = true) : allSc l = true := by
  rw [allSc, List.all_eq_true]
  exact fun i hi => h i (List.mem_range.1 hi)
theorem areSc_len {l : List Int} (h : areSc l = true) : 1 ≤ l.length ∧ l.length ≤ 6 := by
  simp only [areSc, Bool.and_eq_true] at h
  have := inR_true h.2
  omega
/-- A scale that is on a part of a rule. -/
theorem areSc_has {l : List Int} (h : areSc l = true) {x : Int} (hx : hasI l x = true) : isScaleN x = true := by
  simp only [areSc, Bool.and_eq_true] at h
  rw [hasI_iff] at hx
  obtain ⟨i, hi, rfl⟩ := List.mem_iff_getElem.1 hx
  have ha := h.1
  rw [allSc, List.all_eq_true] at ha
  have := ha i (List.mem_range.2 hi)
  rw [okSc_get (List.getElem?_eq_getElem hi), Bool.and_eq_true] at this
  exact this.1
theorem isScaleN_bd {s : Int} (h : isScaleN s = true) : 0 ≤ s ∧ s ≤ 4 := by
  simp only [isScaleN, Bool.and_eq_true] at h
  have h1 := inR_true h.1
  have h2 : ¬ s = 5 := by simpa using h.2
  omega
def isRule (r : Rul) : Bool := inR r.len 1 100000 && areSc r.st && areSc r.sl
def isStg (s : Stg) : Bool := inR s.sh (-1048576) 1048576 && inR s.cu 0 1048576
theorem isStg_bd {s : Stg} (h : isStg s = true) : -1048576 ≤ s.sh ∧ s.sh ≤ 1048576 ∧ 0 ≤ s.cu ∧ s.cu ≤ 1048576 := by
  simp only [isStg, Bool.and_eq_true] at h
  have h1 := inR_true h.1
  have h2 := inR_true h.2
  omega
theorem isRule_and {r : Rul} (h : isRule r = true) : inR r.len 1 100000 = true ∧ areSc r.st = true ∧ areSc r.sl = true := by
  simp only [isRule, Bool.and_eq_true] at h
  exact ⟨h.1.1, h.1.2, h.2⟩
/-- The scales of a part. -/
def onR (r : Rul) (slide : Bool) : List Int := if slide then r.sl else r.st

/-- The position of a figure on a scale. -/
def lg (d : Int) : Itv := logOf (d * 100000)
def posI (s : Int) (f : Fig) : Itv :=
  if s = 5 then ⟨(f.d - 1000) * 1048576 / 9000, cdiv ((f.d - 1000) * 1048576) 9000⟩
  else if s = 1 then scaleI ⟨(lg f.d).lo + 1048576 * (f.t % 2), (lg f.d).hi + 1048576 * (f.t % 2)⟩ 1 2
  else if s = 2 then scaleI ⟨(lg f.d).lo + 1048576 * (f.t % 3), (lg f.d).hi + 1048576 * (f.t % 3)⟩ 1 3
  else if s = 3 then ⟨1048576 - (lg f.d).hi, 1048576 - (lg f.d).lo⟩
  else if s = 4 then (if (lg f.d).lo - (lg 3142).hi < 0 then ⟨(lg f.d).lo - (lg 3142).hi + 1048576, (lg f.d).hi - (lg 3142).lo + 1048576⟩ else ⟨(lg f.d).lo - (lg 3142).hi, (lg f.d).hi - (lg 3142).lo⟩)
  else lg f.d
theorem lg_bd {d : Int} (h1 : 1000 ≤ d) (h2 : d ≤ 9999) : 0 ≤ (lg d).lo ∧ (lg d).lo ≤ 1048575 ∧ 1 ≤ (lg d).hi ∧ (lg d).hi ≤ 1048576 := logOf_bd (by omega) (by omega)
theorem posI_bd {s : Int} {f : Fig} (h1 : 1000 ≤ f.d) (h2 : f.d ≤ 9999) : -10000000 ≤ (posI s f).lo ∧ (posI s f).lo ≤ 10000000 ∧ -10000000 ≤ (posI s f).hi ∧ (posI s f).hi ≤ 10000000 := by
  have hb := lg_bd h1 h2
  have hc := lg_bd (d := 3142) (by omega) (by omega)
  unfold posI
  by_cases h5 : s = 5
  · rw [if_pos h5]; simp only [cdiv]; omega
  rw [if_neg h5]
  by_cases h1 : s = 1
  · rw [if_pos h1]
    have := scaleI_bd (a := ⟨(lg f.d).lo + 1048576 * (f.t % 2), (lg f.d).hi + 1048576 * (f.t % 2)⟩) (n := 1) (d := 2) (A := 10000000) (B := 1) (by simp only; omega) (by simp only; omega) (by simp only; omega) (by simp only; omega) (by omega) (by omega) (by omega) (by omega) (by omega)
    exact this
  rw [if_neg h1]
  by_cases h2 : s = 2
  · rw [if_pos h2]
    have := scaleI_bd (a := ⟨(lg f.d).lo + 1048576 * (f.t % 3), (lg f.d).hi + 1048576 * (f.t % 3)⟩) (n := 1) (d := 3) (A := 10000000) (B := 1) (by simp only; omega) (by simp only; omega) (by simp only; omega) (by simp only; omega) (by omega) (by omega) (by omega) (by omega) (by omega)
    exact this
  rw [if_neg h2]
  by_cases h3 : s = 3
  · rw [if_pos h3]; simp only; omega
  rw [if_neg h3]
  by_cases h4 : s = 4
  · rw [if_pos h4]; split <;> simp only <;> omega
  rw [if_neg h4]
  omega
/-- The point of a figure on a scale. -/
def ptF (s : Int) (f : Fig) : Int := ((posI s f).lo + (posI s f).hi) / 2
theorem ptF_bd {s : Int} {f : Fig} (h1 : 1000 ≤ f.d) (h2 : f.d ≤ 9999) : -10000000 ≤ ptF s f ∧ ptF s f ≤ 10000000 := by
  have := posI_bd (s := s) h1 h2
  unfold ptF
  omega

/-- Whether the scale of a move is where it must be. -/
def mvOn (r : Rul) (m : Mov) : Bool := if m.k ≤ 2 then hasI (onR r (!(m.k == 0))) m.s else true
/-- What a move makes of a setting. -/
def mvTo (s : Stg) (m : Mov) : Stg :=
  if m.k = 0 then ⟨s.sh, ptF m.s m.f⟩ else if m.k = 1 then ⟨s.sh, ptF m.s m.f + s.sh⟩ else if m.k = 2 then ⟨s.cu - ptF m.s m.f, s.cu⟩
  else if m.k = 3 then ⟨s.cu, s.cu⟩ else if m.k = 4 then ⟨s.cu - 1048576, s.cu⟩ else if m.k = 5 then ⟨s.sh, s.sh⟩ else if m.k = 6 then ⟨s.sh, s.sh + 1048576⟩ else s
def mvS (r : Rul) (s : Stg) (m : Mov) : Stg := if mvOn r m then mvTo s m else ⟨0, 0⟩
def mvOk (r : Rul) (s : Stg) (m : Mov) : Bool := if mvOn r m then isStg (mvTo s m) else false
theorem isMove_cases {m : Mov} (h : isMove m = true) : (0 ≤ m.k ∧ m.k ≤ 2 ∧ isScaleN m.s = true ∧ isFig m.f = true) ∨ (3 ≤ m.k ∧ m.k ≤ 6 ∧ m.s = 0 ∧ m.f = ⟨0, 0⟩) := by
  unfold isMove at h
  by_cases hk : inR m.k 0 2 = true
  · rw [if_pos hk, Bool.and_eq_true] at h
    have := inR_true hk
    exact .inl ⟨this.1, this.2, h.1, h.2⟩
  · rw [if_neg hk] at h
    simp only [Bool.and_eq_true, beq_iff_eq] at h
    have := inR_true h.1
    obtain ⟨f1, f2⟩ := h.2.2
    obtain ⟨k, s, ⟨a, b⟩⟩ := m
    simp only at f1 f2
    exact .inr ⟨this.1, this.2, h.2.1, by simp only; rw [f1, f2]⟩

end Go.Proofs.Ytfhppnmbmdpjeaa
