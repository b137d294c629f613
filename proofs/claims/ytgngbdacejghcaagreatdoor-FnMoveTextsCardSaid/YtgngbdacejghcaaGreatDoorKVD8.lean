/- DERIVED. Plain: numbers read from text. -/
import Derived.Lib.ParseIntB
import Derived.Lib.ItoaNum
namespace Go.Proofs.YtgngbdacejghcaaGreatDoor
set_option linter.unusedVariables false
set_option linter.unusedSimpArgs false
open Go.Lib
theorem parseUintM_snoc (M : Nat) : ∀ (l : List UInt8) (acc : Nat) (c : UInt8) (a : Nat), parseUintM M acc l = .ok a → parseUintM M acc (l ++ [c]) = parseUintM M a [c]
 | [], acc, c, a, h => by
  simp only [parseUintM] at h
  injection h with h
  subst h
  rfl
 | x :: l, acc, c, a, h => by
  simp only [List.cons_append]
  unfold parseUintM at h ⊢
  split at h
  · rename_i hd
    rw [if_pos hd]
    split at h
    · cases h
    · rename_i h1
      rw [if_neg h1]
      split at h
      · cases h
      · rename_i h2
        rw [if_neg h2]
        exact parseUintM_snoc M l _ c a h
  · cases h
theorem digit_nat (i : Nat) (h : i < 10) : (UInt8.ofNat (48 + i)).toNat = 48 + i := by
 simp
 omega
theorem parse_digits : ∀ (k u : Nat), u < k → u ≤ 18446744073709551615 → parseUintM 18446744073709551615 0 (decDigits u) = .ok u
 | 0, u, h, _ => absurd h (by omega)
 | k + 1, u, h, hu => by
  by_cases h10 : u < 10
  · rw [decDigits_one h10]
    unfold parseUintM
    rw [digit_nat u h10, if_pos (by omega), if_neg (by omega), if_neg (by omega)]
    show NumEnd.ok (0 * 10 + (48 + u - 48)) = NumEnd.ok u
    congr 1
    omega
  · have ih := parse_digits k (u / 10) (by omega) (by omega)
    rw [decDigits, dif_neg h10, parseUintM_snoc _ _ _ _ _ ih]
    unfold parseUintM
    rw [digit_nat (u % 10) (by omega), if_pos (by omega), if_neg (by omega), if_neg (by omega)]
    show NumEnd.ok (u / 10 * 10 + (48 + u % 10 - 48)) = NumEnd.ok u
    congr 1
    omega
theorem digits_all : ∀ (k u : Nat), u < k → ∀ c ∈ decDigits u, 48 ≤ c.toNat ∧ c.toNat ≤ 57
 | 0, u, h => absurd h (by omega)
 | k + 1, u, h => by
  by_cases h10 : u < 10
  · rw [decDigits_one h10]
    intro c hc
    simp only [List.mem_singleton] at hc
    subst hc
    rw [digit_nat u h10]
    omega
  · rw [decDigits, dif_neg h10]
    intro c hc
    rcases List.mem_append.1 hc with hc | hc
    · exact digits_all k (u / 10) (by omega) c hc
    · simp only [List.mem_singleton] at hc
      subst hc
      rw [digit_nat (u % 10) (by omega)]
      omega
theorem digits_cons (u : Nat) : ∃ c r, decDigits u = c :: r ∧ 48 ≤ c.toNat ∧ c.toNat ≤ 57 := by
 have hl : 1 ≤ (decDigits u).length := by rw [decDigits_length]; exact nDigits_pos u
 cases h : decDigits u with
 | nil => rw [h] at hl; simp at hl
 | cons c r =>
  have := digits_all (u + 1) u (by omega) c (by rw [h]; simp)
  exact ⟨c, r, rfl, this.1, this.2⟩
theorem parse_itoa {n : Int} (h0 : -9223372036854775808 ≤ n) (h1 : n ≤ 9223372036854775807) : parseIntB 64 (itoa n) = .ok n := by
 by_cases hn : n < 0
 · obtain ⟨u, hu⟩ : ∃ u : Nat, n.natAbs = u := ⟨_, rfl⟩
   have hp := parse_digits (u + 1) u (by omega) (by omega)
   obtain ⟨c, r, hc, _, _⟩ := digits_cons u
   have hne : decDigits u ≠ [] := by rw [hc]; simp
   rw [itoa, if_pos hn, hu]
   unfold parseIntB
   have e45 : (45 : UInt8).toNat = 45 := rfl
   simp only [e45]
   rw [if_pos (Or.inr trivial)]
   have hpu : parseUintB 64 (decDigits u) = .ok u := by
    unfold parseUintB
    rw [if_neg hne]
    exact hp
   rw [hpu]
   simp only [not_true_eq_false, false_and, if_false, true_and, if_true]
   rw [if_neg (by omega)]
   congr 1
   omega
 · obtain ⟨u, hu⟩ : ∃ u : Nat, n.toNat = u := ⟨_, rfl⟩
   have hp := parse_digits (u + 1) u (by omega) (by omega)
   obtain ⟨c, r, hc, hc1, hc2⟩ := digits_cons u
   rw [itoa, if_neg hn, hu]
   have hpu : parseUintB 64 (decDigits u) = .ok u := by
    unfold parseUintB
    rw [if_neg (by rw [hc]; simp)]
    exact hp
   rw [hc] at hpu ⊢
   unfold parseIntB
   have n1 : ¬ (c.toNat = 43 ∨ c.toNat = 45) := by omega
   have n2 : ¬ c.toNat = 45 := by omega
   simp only [n1, if_false, hpu]
   simp only [n2, not_false_eq_true, true_and, false_and, if_false]
   rw [if_neg (by omega)]
   congr 1
   omega
theorem parse_bd {s : List UInt8} {v : Int} (h : parseIntB 64 s = .ok v) : -9223372036854775808 ≤ v ∧ v ≤ 9223372036854775807 := by
 cases s with
 | nil => cases h
 | cons c r =>
  unfold parseIntB at h
  simp only at h
  split at h
  · cases h
  · cases h
  · rename_i u _
    split at h
    · cases h
    · rename_i h1
      split at h
      · cases h
      · rename_i h2
        injection h with h
        subst h
        by_cases hq : c.toNat = 45
        · rw [if_pos hq]
          have : ¬ 9223372036854775808 < u := fun e => h2 ⟨hq, e⟩
          omega
        · rw [if_neg hq]
          have : ¬ 9223372036854775808 ≤ u := fun e => h1 ⟨hq, e⟩
          omega
def numI (s : List UInt8) : Option Int := match parseIntB 64 s with
 | .ok v => if itoa v = s then some v else none
 | _ => none
theorem numI_some {s : List UInt8} {v : Int} : numI s = some v ↔ (-9223372036854775808 ≤ v ∧ v ≤ 9223372036854775807 ∧ s = itoa v) := by
 constructor
 · intro h
   unfold numI at h
   split at h
   · rename_i u hu
     split at h
     · rename_i he
       injection h with h
       subst h
       exact ⟨(parse_bd hu).1, (parse_bd hu).2, he.symm⟩
     · cases h
   · cases h
 · rintro ⟨h0, h1, rfl⟩
   unfold numI
   rw [parse_itoa h0 h1]
   simp
theorem itoa_inj {a b : Int} (a0 : -9223372036854775808 ≤ a) (a1 : a ≤ 9223372036854775807) (b0 : -9223372036854775808 ≤ b) (b1 : b ≤ 9223372036854775807) (h : itoa a = itoa b) : a = b := by
 have := parse_itoa a0 a1
 rw [h, parse_itoa b0 b1] at this
 injection this with this
 exact this.symm
def valD (l : List UInt8) : Nat := l.foldl (fun n c => 10 * n + (c.toNat - 48)) 0
theorem valD_snoc (l : List UInt8) (c : UInt8) : valD (l ++ [c]) = 10 * valD l + (c.toNat - 48) := by simp [valD]
theorem valD_digits : ∀ (k u : Nat), u < k → valD (decDigits u) = u
 | 0, u, h => absurd h (by omega)
 | k + 1, u, h => by
  by_cases h10 : u < 10
  · rw [decDigits_one h10]
    show 10 * 0 + ((UInt8.ofNat (48 + u)).toNat - 48) = u
    rw [digit_nat u h10]
    omega
  · rw [decDigits, dif_neg h10, valD_snoc, valD_digits k (u / 10) (by omega), digit_nat (u % 10) (by omega)]
    omega
def isDig (c : UInt8) : Bool := decide (48 ≤ c.toNat) && decide (c.toNat ≤ 57)
def valN (s : List UInt8) : Option Nat := if 1 ≤ s.length ∧ s.length ≤ 13 ∧ s.all isDig = true ∧ decDigits (valD s) = s then some (valD s) else none
theorem valD_lt : ∀ (s : List UInt8) (k : Nat), (s.take k).all isDig = true → valD (s.take k) < 10 ^ k
 | s, 0, _ => by simp [valD]
 | s, k + 1, h => by
  by_cases hk : k < s.length
  · have e : s.take (k + 1) = s.take k ++ [s[k]] := by rw [List.take_add_one, List.getElem?_eq_getElem hk]; rfl
    rw [e] at h ⊢
    rw [List.all_append, Bool.and_eq_true] at h
    have ih := valD_lt s k h.1
    have hd : s[k].toNat ≤ 57 := by
     have := h.2
     simp only [List.all_cons, List.all_nil, Bool.and_true, isDig, Bool.and_eq_true, decide_eq_true_eq] at this
     exact this.2
    rw [valD_snoc, Nat.pow_succ]
    omega
  · rw [List.take_of_length_le (by omega)] at h ⊢
    have ih := valD_lt s k (by rw [List.take_of_length_le (by omega)]; exact h)
    rw [List.take_of_length_le (by omega)] at ih
    rw [Nat.pow_succ]
    omega
theorem valN_some {s : List UInt8} {n : Nat} : valN s = some n ↔ (s.length ≤ 13 ∧ s = decDigits n) := by
 constructor
 · intro h
   unfold valN at h
   split at h
   · rename_i hc
     injection h with h
     subst h
     exact ⟨hc.2.1, hc.2.2.2.symm⟩
   · cases h
 · rintro ⟨h1, rfl⟩
   have hv := valD_digits (n + 1) n (by omega)
   unfold valN
   rw [hv, if_pos ⟨by rw [decDigits_length]; exact nDigits_pos n, h1, by
    rw [List.all_eq_true]
    intro c hc
    have := digits_all (n + 1) n (by omega) c hc
    simp [isDig, this.1, this.2], rfl⟩]
theorem nd13 : ∀ (k u : Nat), u < 10 ^ (k + 1) → nDigits u ≤ k + 1
 | 0, u, h => by rw [nDigits_small (by simpa using h)]; omega
 | k + 1, u, h => by
  by_cases hu : u < 10
  · rw [nDigits_small hu]; omega
  · rw [nDigits_big hu]
    have := nd13 k (u / 10) (by rw [Nat.pow_succ] at h; omega)
    omega
end Go.Proofs.YtgngbdacejghcaaGreatDoor
