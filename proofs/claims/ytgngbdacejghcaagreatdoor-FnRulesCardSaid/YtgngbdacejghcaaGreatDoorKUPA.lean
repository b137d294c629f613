/- DERIVED. Plain words. No program in sight. -/
namespace Go.Proofs.YtgngbdacejghcaaGreatDoor
set_option linter.unusedVariables false
set_option linter.unusedSimpArgs false
structure Fig where
  d : Int
  t : Int
deriving DecidableEq
structure Trm where
  f : Fig
  dv : Bool
deriving DecidableEq
structure Mov where
  k : Int
  s : Int
  f : Fig
deriving DecidableEq
structure Itv where
  lo : Int
  hi : Int
deriving DecidableEq
structure Stg where
  sh : Int
  cu : Int
deriving DecidableEq
structure Ers where
  en : Int
  pa : Int
  ey : Int
deriving DecidableEq
def inR (n lo hi : Int) : Bool := decide (lo ≤ n) && decide (n ≤ hi)
theorem inR_true {n lo hi : Int} (h : inR n lo hi = true) : lo ≤ n ∧ n ≤ hi := by simpa [inR] using h
theorem inR_mk {n lo hi : Int} (h : lo ≤ n ∧ n ≤ hi) : inR n lo hi = true := by simpa [inR] using h
def isFig (f : Fig) : Bool := inR f.d 1000 9999 && inR f.t (-30) 30
theorem isFig_true {f : Fig} (h : isFig f = true) : 1000 ≤ f.d ∧ f.d ≤ 9999 ∧ -30 ≤ f.t ∧ f.t ≤ 30 := by
  simp [isFig] at h
  exact ⟨(inR_true h.1).1, (inR_true h.1).2, (inR_true h.2).1, (inR_true h.2).2⟩
def isScale (s : Int) : Bool := inR s 0 5
def isScaleN (s : Int) : Bool := inR s 0 5 && !(s == 5)
def isMove (m : Mov) : Bool := if inR m.k 0 2 then isScaleN m.s && isFig m.f else inR m.k 3 6 && (m.s == 0 && (m.f.d == 0 && m.f.t == 0))
theorem take_snoc' {α : Type} {l : List α} {k : Nat} {x : α} (h : l[k]? = some x) : l.take (k + 1) = l.take k ++ [x] := by
  rw [List.take_add_one, h]; rfl
theorem all_snoc {α : Type} {l : List α} {k : Nat} {x : α} {p : α → Bool} (h : l[k]? = some x) (ha : (l.take k).all p = true) (hx : p x = true) : (l.take (k + 1)).all p = true := by
  rw [take_snoc' h, List.all_append, ha]; simp [hx]
theorem all_false {α : Type} {l : List α} {k : Nat} {x : α} {p : α → Bool} (h : l[k]? = some x) (hx : p x = false) : l.all p = false := by
  rw [Bool.eq_false_iff]; intro ha
  rw [List.all_eq_true] at ha
  rw [ha x (List.mem_of_getElem? h)] at hx; cases hx
theorem get_ex {α : Type} {l : List α} {k : Nat} (h : k < l.length) : ∃ x, l[k]? = some x := ⟨l[k], List.getElem?_eq_getElem h⟩
theorem take_eq_all {α : Type} {l : List α} {k : Nat} (h : l.length ≤ k) : l.take k = l := List.take_of_length_le h
theorem any_false_end {α : Type} {l : List α} {k : Nat} {p : α → Bool} (h : l.length ≤ k) (ha : (l.take k).any p = false) : l.any p = false := by rwa [take_eq_all h] at ha
theorem any_snoc {α : Type} {l : List α} {k : Nat} {x : α} {p : α → Bool} (h : l[k]? = some x) (ha : (l.take k).any p = false) (hx : p x = false) : (l.take (k + 1)).any p = false := by
  rw [take_snoc' h, List.any_append, ha]; simp [hx]
theorem any_true {α : Type} {l : List α} {k : Nat} {x : α} {p : α → Bool} (h : l[k]? = some x) (hx : p x = true) : l.any p = true :=
  List.any_eq_true.2 ⟨x, List.mem_of_getElem? h, hx⟩
def hasI (l : List Int) (x : Int) : Bool := l.any fun y => y == x
theorem hasI_iff (l : List Int) (x : Int) : hasI l x = true ↔ x ∈ l := by simp [hasI]
def cdiv (a b : Int) : Int := -((-a) / b)
theorem tdiv_neg {a b : Int} (ha : a < 0) (hb : 0 < b) :
    a.tdiv b ≤ 0 ∧ a ≤ a.tdiv b ∧ a.tmod b ≤ 0 ∧ (a.tmod b = 0 → a.tdiv b = a / b) ∧ (a.tmod b ≠ 0 → a.tdiv b - 1 = a / b) := by
  obtain ⟨m, rfl⟩ : ∃ m, a = -m := ⟨-a, by omega⟩
  have hm : 0 < m := by omega
  rw [Int.neg_tdiv, Int.neg_tmod, Int.tdiv_eq_ediv_of_nonneg (by omega), Int.tmod_eq_emod_of_nonneg (by omega)]
  have h1 := Int.emod_nonneg m (show b ≠ 0 by omega)
  have h2 := Int.emod_lt_of_pos m hb
  have h3 := Int.mul_ediv_add_emod m b
  have h4 : 0 ≤ m / b := Int.ediv_nonneg (by omega) (by omega)
  have h5 : m / b ≤ m := by
    have := Int.ediv_le_self b (show 0 ≤ m by omega)
    exact this
  refine ⟨by omega, by omega, by omega, fun h => ?_, fun h => ?_⟩
  · have : m % b = 0 := by omega
    have := ((Int.ediv_emod_unique (a := -m) (b := b) (r := 0) (q := -(m / b)) hb).2 ⟨by rw [Int.mul_neg]; omega, by omega, by omega⟩).1
    exact this.symm
  · have := ((Int.ediv_emod_unique (a := -m) (b := b) (r := b - m % b) (q := -(m / b) - 1) hb).2 ⟨by rw [Int.mul_sub, Int.mul_neg]; omega, by omega, by omega⟩).1
    exact this.symm
theorem pow2_20 {k : Nat} (h : k ≤ 20) : (2 : Int) ^ k ≤ 1048576 := by
  have h1 : 2 ^ k ≤ 2 ^ 20 := Nat.pow_le_pow_right (by decide) h
  have h2 : ((2 ^ k : Nat) : Int) ≤ ((2 ^ 20 : Nat) : Int) := Int.ofNat_le.2 h1
  simpa using h2
theorem mul_self_le {a b : Int} (h0 : 0 ≤ a) (h : a ≤ b) : a * a ≤ b * b := Int.mul_le_mul h h h0 (by omega)
def lowStep (s : Int × Int) : Int × Int :=
  if 1000000000 ≤ s.1 * s.1 / 100000000 then (s.1 * s.1 / 100000000 / 10, s.2 * 2 + 1) else (s.1 * s.1 / 100000000, s.2 * 2)
def highStep (s : Int × Int) : Int × Int :=
  if 1000000000 ≤ cdiv (s.1 * s.1) 100000000 then (cdiv (cdiv (s.1 * s.1) 100000000) 10, s.2 * 2 + 1) else (cdiv (s.1 * s.1) 100000000, s.2 * 2)
def lowS (x : Int) : Nat → Int × Int
  | 0 => (x, 0)
  | n + 1 => lowStep (lowS x n)
def highS (x : Int) : Nat → Int × Int
  | 0 => (x, 0)
  | n + 1 => highStep (highS x n)
theorem lowStep_pos {s : Int × Int} (h : 1000000000 ≤ s.1 * s.1 / 100000000) : lowStep s = (s.1 * s.1 / 100000000 / 10, s.2 * 2 + 1) := if_pos h
theorem lowStep_neg {s : Int × Int} (h : ¬ 1000000000 ≤ s.1 * s.1 / 100000000) : lowStep s = (s.1 * s.1 / 100000000, s.2 * 2) := if_neg h
theorem highStep_pos {s : Int × Int} (h : 1000000000 ≤ cdiv (s.1 * s.1) 100000000) : highStep s = (cdiv (cdiv (s.1 * s.1) 100000000) 10, s.2 * 2 + 1) := if_pos h
theorem highStep_neg {s : Int × Int} (h : ¬ 1000000000 ≤ cdiv (s.1 * s.1) 100000000) : highStep s = (cdiv (s.1 * s.1) 100000000, s.2 * 2) := if_neg h
theorem lowS_bd {x : Int} (h1 : 100000000 ≤ x) (h2 : x ≤ 999999999) : ∀ n : Nat, 100000000 ≤ (lowS x n).1 ∧ (lowS x n).1 ≤ 999999999 ∧ 0 ≤ (lowS x n).2 ∧ (lowS x n).2 < 2 ^ n
  | 0 => by simp [lowS]; omega
  | n + 1 => by
    obtain ⟨a1, a2, a3, a4⟩ := lowS_bd h1 h2 n
    have b1 := mul_self_le (by omega : (0 : Int) ≤ 100000000) a1
    have b2 := mul_self_le (by omega) a2
    have hp : (2 : Int) ^ (n + 1) = 2 ^ n * 2 := by rw [Int.pow_succ]
    rw [hp, lowS]
    by_cases hq : 1000000000 ≤ (lowS x n).1 * (lowS x n).1 / 100000000
    · rw [lowStep_pos hq]; simp only; omega
    · rw [lowStep_neg hq]; simp only; omega
theorem highS_bd {x : Int} (h1 : 100000000 ≤ x) (h2 : x ≤ 999999999) : ∀ n : Nat, 100000000 ≤ (highS x n).1 ∧ (highS x n).1 ≤ 1000000000 ∧ 0 ≤ (highS x n).2 ∧ (highS x n).2 < 2 ^ n
  | 0 => by simp [highS]; omega
  | n + 1 => by
    obtain ⟨a1, a2, a3, a4⟩ := highS_bd h1 h2 n
    have b1 := mul_self_le (by omega : (0 : Int) ≤ 100000000) a1
    have b2 := mul_self_le (by omega) a2
    have hp : (2 : Int) ^ (n + 1) = 2 ^ n * 2 := by rw [Int.pow_succ]
    rw [hp, highS]
    by_cases hq : 1000000000 ≤ cdiv ((highS x n).1 * (highS x n).1) 100000000
    · rw [highStep_pos hq]; simp only [cdiv] at hq ⊢; omega
    · rw [highStep_neg hq]; simp only [cdiv] at hq ⊢; omega
def logOf (x : Int) : Itv := ⟨(lowS x 20).2, (highS x 20).2 + 1⟩
theorem logOf_bd {x : Int} (h1 : 100000000 ≤ x) (h2 : x ≤ 999999999) : 0 ≤ (logOf x).lo ∧ (logOf x).lo ≤ 1048575 ∧ 1 ≤ (logOf x).hi ∧ (logOf x).hi ≤ 1048576 := by
  have a := lowS_bd h1 h2 20
  have b := highS_bd h1 h2 20
  simp only [logOf]
  have hp : (2 : Int) ^ 20 = 1048576 := by decide
  rw [hp] at a b
  omega
def figLog (f : Fig) : Itv := ⟨(logOf (f.d * 100000)).lo + f.t * 1048576, (logOf (f.d * 100000)).hi + f.t * 1048576⟩
theorem mul_bd {a n A B : Int} (h1 : -A ≤ a) (h2 : a ≤ A) (h3 : -B ≤ n) (h4 : n ≤ B) (hA : 0 ≤ A) : -(A * B) ≤ a * n ∧ a * n ≤ A * B := by
  have hB : 0 ≤ B := by omega
  by_cases ha : 0 ≤ a <;> by_cases hn : 0 ≤ n
  · have e1 := Int.mul_le_mul h2 h4 hn hA
    have e2 := Int.mul_nonneg ha hn
    have e3 := Int.mul_nonneg hA hB
    omega
  · have e1 := Int.mul_le_mul h2 (show -n ≤ B by omega) (by omega) hA
    have e2 := Int.mul_nonneg ha (show 0 ≤ -n by omega)
    have e3 := Int.mul_nonneg hA hB
    rw [Int.mul_neg] at e1 e2
    omega
  · have e1 := Int.mul_le_mul (show -a ≤ A by omega) h4 hn hA
    have e2 := Int.mul_nonneg (show 0 ≤ -a by omega) hn
    have e3 := Int.mul_nonneg hA hB
    rw [Int.neg_mul] at e1 e2
    omega
  · have e1 := Int.mul_le_mul (show -a ≤ A by omega) (show -n ≤ B by omega) (by omega) hA
    have e2 := Int.mul_nonneg (show 0 ≤ -a by omega) (show 0 ≤ -n by omega)
    have e3 := Int.mul_nonneg hA hB
    rw [Int.neg_mul_neg] at e1 e2
    omega
def scaleI (a : Itv) (n d : Int) : Itv := ⟨min (a.lo * n) (a.hi * n) / d, cdiv (max (a.lo * n) (a.hi * n)) d⟩
def le2 (s t : Int × Int) : Prop := s.2 < t.2 ∨ (s.2 = t.2 ∧ s.1 ≤ t.1)
theorem le2_lh {s t : Int × Int} (hs : 0 ≤ s.1) (h : le2 s t) : le2 (lowStep s) (highStep t) := by
  obtain ⟨x, a⟩ := s
  obtain ⟨y, b⟩ := t
  simp only [le2] at h hs
  have hl : (lowStep (x, a)).2 = a * 2 ∨ (lowStep (x, a)).2 = a * 2 + 1 := by
    by_cases hq : 1000000000 ≤ x * x / 100000000
    · rw [lowStep_pos (s := (x, a)) hq]; exact .inr rfl
    · rw [lowStep_neg (s := (x, a)) hq]; exact .inl rfl
  have hh : (highStep (y, b)).2 = b * 2 ∨ (highStep (y, b)).2 = b * 2 + 1 := by
    by_cases hq : 1000000000 ≤ cdiv (y * y) 100000000
    · rw [highStep_pos (s := (y, b)) hq]; exact .inr rfl
    · rw [highStep_neg (s := (y, b)) hq]; exact .inl rfl
  rcases h with h | ⟨h1, h2⟩
  · exact .inl (by omega)
  · subst h1
    have hm := mul_self_le hs h2
    by_cases hq : 1000000000 ≤ x * x / 100000000 <;> by_cases hr : 1000000000 ≤ cdiv (y * y) 100000000
    · rw [lowStep_pos (s := (x, a)) hq, highStep_pos (s := (y, a)) hr]; refine Or.inr ⟨rfl, ?_⟩; simp only [cdiv] at hq hr ⊢; omega
    · simp only [cdiv] at hr; omega
    · rw [lowStep_neg (s := (x, a)) hq, highStep_pos (s := (y, a)) hr]; simp only [le2]; omega
    · rw [lowStep_neg (s := (x, a)) hq, highStep_neg (s := (y, a)) hr]; refine Or.inr ⟨rfl, ?_⟩; simp only [cdiv] at hq hr ⊢; omega
theorem lowS_le_highS {x : Int} (h1 : 100000000 ≤ x) (h2 : x ≤ 999999999) : ∀ n, le2 (lowS x n) (highS x n)
  | 0 => .inr ⟨rfl, Int.le_refl _⟩
  | n + 1 => le2_lh (by have := (lowS_bd h1 h2 n).1; omega) (lowS_le_highS h1 h2 n)
theorem logOf_le {x : Int} (h1 : 100000000 ≤ x) (h2 : x ≤ 999999999) : (logOf x).lo < (logOf x).hi := by
  have := lowS_le_highS h1 h2 20
  simp only [logOf, le2] at this ⊢
  omega
theorem cdiv_bd {x d M : Int} (hd : 1 ≤ d) (h1 : -M ≤ x) (h2 : x ≤ M) (hM : 0 ≤ M) : -M ≤ cdiv x d ∧ cdiv x d ≤ M := by
  have k1 : -M ≤ (-x) / d := Int.le_ediv_of_mul_le (by omega) (by
    have := Int.mul_le_mul_of_nonneg_left hd hM
    rw [Int.neg_mul]
    omega)
  have k2 : (-x) / d ≤ M := by
    have h := Int.ediv_lt_of_lt_mul (a := -x) (b := M + 1) (c := d) (by omega) (by
      have := Int.mul_le_mul_of_nonneg_left hd (show 0 ≤ M + 1 by omega)
      omega)
    omega
  unfold cdiv
  omega
theorem fdiv_bd {x d M : Int} (hd : 1 ≤ d) (h1 : -M ≤ x) (h2 : x ≤ M) (hM : 0 ≤ M) : -M ≤ x / d ∧ x / d ≤ M := by
  have := cdiv_bd (x := -x) hd (by omega) (by omega) hM
  unfold cdiv at this
  rw [Int.neg_neg] at this
  omega
theorem scaleI_bd {a : Itv} {n d A B : Int} (h1 : -A ≤ a.lo) (h2 : a.lo ≤ A) (h3 : -A ≤ a.hi) (h4 : a.hi ≤ A) (h5 : -B ≤ n) (h6 : n ≤ B) (hA : 0 ≤ A) (hB : 0 ≤ B) (hd : 1 ≤ d) :
    -(A * B) ≤ (scaleI a n d).lo ∧ (scaleI a n d).lo ≤ A * B ∧ -(A * B) ≤ (scaleI a n d).hi ∧ (scaleI a n d).hi ≤ A * B := by
  have m1 := mul_bd h1 h2 h5 h6 hA
  have m2 := mul_bd h3 h4 h5 h6 hA
  have hAB : 0 ≤ A * B := Int.mul_nonneg hA hB
  have k1 := fdiv_bd (x := min (a.lo * n) (a.hi * n)) hd (by omega) (by omega) hAB
  have k2 := cdiv_bd (x := max (a.lo * n) (a.hi * n)) hd (by omega) (by omega) hAB
  exact ⟨k1.1, k1.2, k2.1, k2.2⟩
theorem le2_ll {s t : Int × Int} (hs : 0 ≤ s.1) (h : le2 s t) : le2 (lowStep s) (lowStep t) := by
  obtain ⟨x, a⟩ := s
  obtain ⟨y, b⟩ := t
  simp only [le2] at h hs
  have hl : (lowStep (x, a)).2 = a * 2 ∨ (lowStep (x, a)).2 = a * 2 + 1 := by
    by_cases hq : 1000000000 ≤ x * x / 100000000
    · rw [lowStep_pos (s := (x, a)) hq]; exact .inr rfl
    · rw [lowStep_neg (s := (x, a)) hq]; exact .inl rfl
  have hh : (lowStep (y, b)).2 = b * 2 ∨ (lowStep (y, b)).2 = b * 2 + 1 := by
    by_cases hq : 1000000000 ≤ y * y / 100000000
    · rw [lowStep_pos (s := (y, b)) hq]; exact .inr rfl
    · rw [lowStep_neg (s := (y, b)) hq]; exact .inl rfl
  rcases h with h | ⟨h1, h2⟩
  · exact .inl (by omega)
  · subst h1
    have hm := mul_self_le hs h2
    by_cases hq : 1000000000 ≤ x * x / 100000000 <;> by_cases hr : 1000000000 ≤ y * y / 100000000
    · rw [lowStep_pos (s := (x, a)) hq, lowStep_pos (s := (y, a)) hr]; refine Or.inr ⟨rfl, ?_⟩; simp only; omega
    · omega
    · rw [lowStep_neg (s := (x, a)) hq, lowStep_pos (s := (y, a)) hr]; simp only [le2]; omega
    · rw [lowStep_neg (s := (x, a)) hq, lowStep_neg (s := (y, a)) hr]; refine Or.inr ⟨rfl, ?_⟩; simp only; omega
theorem le2_hh {s t : Int × Int} (hs : 0 ≤ s.1) (h : le2 s t) : le2 (highStep s) (highStep t) := by
  obtain ⟨x, a⟩ := s
  obtain ⟨y, b⟩ := t
  simp only [le2] at h hs
  have hl : (highStep (x, a)).2 = a * 2 ∨ (highStep (x, a)).2 = a * 2 + 1 := by
    by_cases hq : 1000000000 ≤ cdiv (x * x) 100000000
    · rw [highStep_pos (s := (x, a)) hq]; exact .inr rfl
    · rw [highStep_neg (s := (x, a)) hq]; exact .inl rfl
  have hh : (highStep (y, b)).2 = b * 2 ∨ (highStep (y, b)).2 = b * 2 + 1 := by
    by_cases hq : 1000000000 ≤ cdiv (y * y) 100000000
    · rw [highStep_pos (s := (y, b)) hq]; exact .inr rfl
    · rw [highStep_neg (s := (y, b)) hq]; exact .inl rfl
  rcases h with h | ⟨h1, h2⟩
  · exact .inl (by omega)
  · subst h1
    have hm := mul_self_le hs h2
    by_cases hq : 1000000000 ≤ cdiv (x * x) 100000000 <;> by_cases hr : 1000000000 ≤ cdiv (y * y) 100000000
    · rw [highStep_pos (s := (x, a)) hq, highStep_pos (s := (y, a)) hr]; refine Or.inr ⟨rfl, ?_⟩; simp only [cdiv] at hq hr ⊢; omega
    · simp only [cdiv] at hq hr; omega
    · rw [highStep_neg (s := (x, a)) hq, highStep_pos (s := (y, a)) hr]; simp only [le2]; omega
    · rw [highStep_neg (s := (x, a)) hq, highStep_neg (s := (y, a)) hr]; refine Or.inr ⟨rfl, ?_⟩; simp only [cdiv] at hq hr ⊢; omega
theorem lowS_mono {x y : Int} (h1 : 100000000 ≤ x) (h2 : x ≤ y) (h3 : y ≤ 999999999) : ∀ n, le2 (lowS x n) (lowS y n)
  | 0 => .inr ⟨rfl, h2⟩
  | n + 1 => le2_ll (by have := (lowS_bd h1 (by omega) n).1; omega) (lowS_mono h1 h2 h3 n)
theorem highS_mono {x y : Int} (h1 : 100000000 ≤ x) (h2 : x ≤ y) (h3 : y ≤ 999999999) : ∀ n, le2 (highS x n) (highS y n)
  | 0 => .inr ⟨rfl, h2⟩
  | n + 1 => le2_hh (by have := (highS_bd h1 (by omega) n).1; omega) (highS_mono h1 h2 h3 n)
theorem logOf_mono {x y : Int} (h1 : 100000000 ≤ x) (h2 : x ≤ y) (h3 : y ≤ 999999999) : (logOf x).lo ≤ (logOf y).lo ∧ (logOf x).hi ≤ (logOf y).hi := by
  have a := lowS_mono h1 h2 h3 20
  have b := highS_mono h1 h2 h3 20
  simp only [logOf, le2] at a b ⊢
  omega
def atF (n : Int) : Fig := ⟨1000 + n % 9000, n / 9000⟩
theorem atF_of {i t : Int} (h1 : 0 ≤ i) (h2 : i < 9000) : atF (9000 * t + i) = ⟨1000 + i, t⟩ := by
  have e1 : (9000 * t + i) % 9000 = i := by omega
  have e2 : (9000 * t + i) / 9000 = t := by omega
  rw [atF, e1, e2]
structure Rul where
  len : Int
  st : List Int
  sl : List Int
def okSc (l : List Int) (i : Nat) : Bool := isScaleN (l.getD i 0) && !hasI (l.take i) (l.getD i 0)
def allSc (l : List Int) : Bool := (List.range l.length).all (okSc l)
def areSc (l : List Int) : Bool := allSc l && inR l.length 1 6
theorem okSc_get {l : List Int} {i : Nat} {x : Int} (hx : l[i]? = some x) : okSc l i = (isScaleN x && !hasI (l.take i) x) := by
  simp [okSc, List.getD, hx]
theorem areSc_false {l : List Int} {i : Nat} (hi : i < l.length) (h : okSc l i = false) : areSc l = false := by
  have : allSc l = false := by
    rw [Bool.eq_false_iff]
    intro ha
    rw [allSc, List.all_eq_true] at ha
    rw [ha i (List.mem_range.2 hi)] at h
    cases h
  rw [areSc, this, Bool.false_and]
theorem allSc_true {l : List Int} (h : ∀ i, i < l.length → okSc l i = true) : allSc l = true := by
  rw [allSc, List.all_eq_true]
  exact fun i hi => h i (List.mem_range.1 hi)
theorem areSc_has {l : List Int} (h : areSc l = true) {x : Int} (hx : hasI l x = true) : isScaleN x = true := by
  simp only [areSc, Bool.and_eq_true] at h
  rw [hasI_iff] at hx
  obtain ⟨i, hi, rfl⟩ := List.mem_iff_getElem.1 hx
  have ha := h.1
  rw [allSc, List.all_eq_true] at ha
  have := ha i (List.mem_range.2 hi)
  rw [okSc_get (List.getElem?_eq_getElem hi), Bool.and_eq_true] at this
  exact this.1
theorem isScaleN_bd {s : Int} (h : isScaleN s = true) : 0 ≤ s ∧ s ≤ 4 := by
  simp only [isScaleN, Bool.and_eq_true] at h
  have h1 := inR_true h.1
  have h2 : ¬ s = 5 := by simpa using h.2
  omega
def isRule (r : Rul) : Bool := inR r.len 1 100000 && areSc r.st && areSc r.sl
def isStg (s : Stg) : Bool := inR s.sh (-1048576) 1048576 && inR s.cu 0 1048576
theorem isStg_bd {s : Stg} (h : isStg s = true) : -1048576 ≤ s.sh ∧ s.sh ≤ 1048576 ∧ 0 ≤ s.cu ∧ s.cu ≤ 1048576 := by
  simp only [isStg, Bool.and_eq_true] at h
  have h1 := inR_true h.1
  have h2 := inR_true h.2
  omega
theorem isRule_and {r : Rul} (h : isRule r = true) : inR r.len 1 100000 = true ∧ areSc r.st = true ∧ areSc r.sl = true := by
  simp only [isRule, Bool.and_eq_true] at h
  exact ⟨h.1.1, h.1.2, h.2⟩
def onR (r : Rul) (slide : Bool) : List Int := if slide then r.sl else r.st
def lg (d : Int) : Itv := logOf (d * 100000)
def posI (s : Int) (f : Fig) : Itv :=
  if s = 5 then ⟨(f.d - 1000) * 1048576 / 9000, cdiv ((f.d - 1000) * 1048576) 9000⟩
  else if s = 1 then scaleI ⟨(lg f.d).lo + 1048576 * (f.t % 2), (lg f.d).hi + 1048576 * (f.t % 2)⟩ 1 2
  else if s = 2 then scaleI ⟨(lg f.d).lo + 1048576 * (f.t % 3), (lg f.d).hi + 1048576 * (f.t % 3)⟩ 1 3
  else if s = 3 then ⟨1048576 - (lg f.d).hi, 1048576 - (lg f.d).lo⟩
  else if s = 4 then (if (lg f.d).lo - (lg 3142).hi < 0 then ⟨(lg f.d).lo - (lg 3142).hi + 1048576, (lg f.d).hi - (lg 3142).lo + 1048576⟩ else ⟨(lg f.d).lo - (lg 3142).hi, (lg f.d).hi - (lg 3142).lo⟩)
  else lg f.d
theorem lg_bd {d : Int} (h1 : 1000 ≤ d) (h2 : d ≤ 9999) : 0 ≤ (lg d).lo ∧ (lg d).lo ≤ 1048575 ∧ 1 ≤ (lg d).hi ∧ (lg d).hi ≤ 1048576 := logOf_bd (by omega) (by omega)
theorem posI_bd {s : Int} {f : Fig} (h1 : 1000 ≤ f.d) (h2 : f.d ≤ 9999) : -10000000 ≤ (posI s f).lo ∧ (posI s f).lo ≤ 10000000 ∧ -10000000 ≤ (posI s f).hi ∧ (posI s f).hi ≤ 10000000 := by
  have hb := lg_bd h1 h2
  have hc := lg_bd (d := 3142) (by omega) (by omega)
  unfold posI
  by_cases h5 : s = 5
  · rw [if_pos h5]; simp only [cdiv]; omega
  rw [if_neg h5]
  by_cases h1 : s = 1
  · rw [if_pos h1]
    have := scaleI_bd (a := ⟨(lg f.d).lo + 1048576 * (f.t % 2), (lg f.d).hi + 1048576 * (f.t % 2)⟩) (n := 1) (d := 2) (A := 10000000) (B := 1) (by simp only; omega) (by simp only; omega) (by simp only; omega) (by simp only; omega) (by omega) (by omega) (by omega) (by omega) (by omega)
    exact this
  rw [if_neg h1]
  by_cases h2 : s = 2
  · rw [if_pos h2]
    have := scaleI_bd (a := ⟨(lg f.d).lo + 1048576 * (f.t % 3), (lg f.d).hi + 1048576 * (f.t % 3)⟩) (n := 1) (d := 3) (A := 10000000) (B := 1) (by simp only; omega) (by simp only; omega) (by simp only; omega) (by simp only; omega) (by omega) (by omega) (by omega) (by omega) (by omega)
    exact this
  rw [if_neg h2]
  by_cases h3 : s = 3
  · rw [if_pos h3]; simp only; omega
  rw [if_neg h3]
  by_cases h4 : s = 4
  · rw [if_pos h4]; split <;> simp only <;> omega
  rw [if_neg h4]
  omega
def ptF (s : Int) (f : Fig) : Int := ((posI s f).lo + (posI s f).hi) / 2
theorem ptF_bd {s : Int} {f : Fig} (h1 : 1000 ≤ f.d) (h2 : f.d ≤ 9999) : -10000000 ≤ ptF s f ∧ ptF s f ≤ 10000000 := by
  have := posI_bd (s := s) h1 h2
  unfold ptF
  omega
def mvOn (r : Rul) (m : Mov) : Bool := if m.k ≤ 2 then hasI (onR r (!(m.k == 0))) m.s else true
def mvTo (s : Stg) (m : Mov) : Stg :=
  if m.k = 0 then ⟨s.sh, ptF m.s m.f⟩ else if m.k = 1 then ⟨s.sh, ptF m.s m.f + s.sh⟩ else if m.k = 2 then ⟨s.cu - ptF m.s m.f, s.cu⟩
  else if m.k = 3 then ⟨s.cu, s.cu⟩ else if m.k = 4 then ⟨s.cu - 1048576, s.cu⟩ else if m.k = 5 then ⟨s.sh, s.sh⟩ else if m.k = 6 then ⟨s.sh, s.sh + 1048576⟩ else s
def mvS (r : Rul) (s : Stg) (m : Mov) : Stg := if mvOn r m then mvTo s m else ⟨0, 0⟩
def mvOk (r : Rul) (s : Stg) (m : Mov) : Bool := if mvOn r m then isStg (mvTo s m) else false
def runSt (r : Rul) : Stg → List Mov → List Stg
  | _, [] => []
  | s, m :: l => if mvOk r s m then mvS r s m :: runSt r (mvS r s m) l else []
def lastSt : Stg → List Stg → Stg
  | s, [] => s
  | _, x :: l => lastSt x l
theorem lastSt_snoc : ∀ (s : Stg) (l : List Stg) (x : Stg), lastSt s (l ++ [x]) = x
  | _, [], _ => rfl
  | _, y :: l, x => lastSt_snoc y l x
theorem runSt_go {r : Rul} {s : Stg} {m : Mov} {l : List Mov} (h : mvOk r s m = true) : runSt r s (m :: l) = mvS r s m :: runSt r (mvS r s m) l := if_pos h
theorem runSt_stop {r : Rul} {s : Stg} {m : Mov} {l : List Mov} (h : mvOk r s m = false) : runSt r s (m :: l) = [] := if_neg (by simp [h])
def Ran (r : Rul) (s : Stg) (l : List Mov) (k : Nat) (L : List Stg) (S : Stg) : Prop := L.length = k ∧ runSt r s l = L ++ runSt r S (l.drop k) ∧ lastSt s L = S ∧ isStg S = true
theorem Ran.zero {r : Rul} {s : Stg} {l : List Mov} (h : isStg s = true) : Ran r s l 0 [] s := ⟨rfl, by simp, rfl, h⟩
theorem Ran.done {r : Rul} {s : Stg} {l : List Mov} {k : Nat} {L : List Stg} {S : Stg} (h : Ran r s l k L S) (hk : l.length ≤ k) : runSt r s l = L := by
  rw [h.2.1, List.drop_eq_nil_of_le hk, runSt, List.append_nil]
end Go.Proofs.YtgngbdacejghcaaGreatDoor
