/- DERIVED. Plain words: logarithms are sound; the value of a chain against its figure and its span. No program in sight. -/
import Derived.Test.YtkoojngonldcbaaP12
import Derived.Test.YtkoojngonldcbaaP11
namespace Go.Proofs.Ytkoojngonldcbaa
set_option linter.unusedVariables false
set_option linter.unusedSimpArgs false
set_option maxRecDepth 100000

/-- The part of an exponent that is above, and below, nothing. -/
def pP (t : Int) : Nat := 10 ^ t.toNat
def pM (t : Int) : Nat := 10 ^ (-t).toNat
theorem pP_pos (t : Int) : 0 < pP t := Nat.pow_pos (by decide)
theorem pM_pos (t : Int) : 0 < pM t := Nat.pow_pos (by decide)
theorem pM_neg (t : Int) : pM (-t) = pP t := by unfold pM pP; rw [Int.neg_neg]
theorem pP_neg (t : Int) : pP (-t) = pM t := rfl

/-- A ratio: the first part over the second. X times a is at most Y times b. -/
def Rl (a b : Nat) (X Y : Nat × Nat) : Prop := a * (X.1 * Y.2) ≤ b * (Y.1 * X.2)
def mulP (X Y : Nat × Nat) : Nat × Nat := (X.1 * Y.1, X.2 * Y.2)
def swP (X : Nat × Nat) : Nat × Nat := (X.2, X.1)
def posP (X : Nat × Nat) : Prop := 0 < X.1 ∧ 0 < X.2
theorem posP_mul {X Y : Nat × Nat} (h : posP X) (h' : posP Y) : posP (mulP X Y) := ⟨Nat.mul_pos h.1 h'.1, Nat.mul_pos h.2 h'.2⟩
theorem posP_sw {X : Nat × Nat} (h : posP X) : posP (swP X) := ⟨h.2, h.1⟩
theorem Rl_trans {a b c d : Nat} {X Y Z : Nat × Nat} (hY : posP Y) (h : Rl a b X Y) (h' : Rl c d Y Z) : Rl (a * c) (b * d) X Z := by
  unfold Rl at *
  have m := Nat.mul_le_mul h h'
  have e1 : a * (X.1 * Y.2) * (c * (Y.1 * Z.2)) = (Y.1 * Y.2) * (a * c * (X.1 * Z.2)) := by ac_rfl
  have e2 : b * (Y.1 * X.2) * (d * (Z.1 * Y.2)) = (Y.1 * Y.2) * (b * d * (Z.1 * X.2)) := by ac_rfl
  rw [e1, e2] at m
  exact Nat.le_of_mul_le_mul_left m (Nat.mul_pos hY.1 hY.2)
theorem Rl_mul {a b : Nat} {X Y : Nat × Nat} (h : Rl a b X Y) (F : Nat × Nat) : Rl a b (mulP X F) (mulP Y F) := by
  unfold Rl mulP at *
  have m := Nat.mul_le_mul_right (F.1 * F.2) h
  have e1 : a * (X.1 * Y.2) * (F.1 * F.2) = a * (X.1 * F.1 * (Y.2 * F.2)) := by ac_rfl
  have e2 : b * (Y.1 * X.2) * (F.1 * F.2) = b * (Y.1 * F.1 * (X.2 * F.2)) := by ac_rfl
  rw [e1, e2] at m
  exact m
theorem Rl_refl (X : Nat × Nat) : Rl 1 1 X X := Nat.le_refl _
theorem Rl_weak {a b c d : Nat} {X Y : Nat × Nat} (hb : 0 < b) (h : Rl a b X Y) (hab : c * b ≤ d * a) : Rl c d X Y := by
  unfold Rl at *
  have m1 := Nat.mul_le_mul_left d h
  have m2 := Nat.mul_le_mul_right (X.1 * Y.2) hab
  have e1 : c * b * (X.1 * Y.2) = b * (c * (X.1 * Y.2)) := by ac_rfl
  have e2 : d * (a * (X.1 * Y.2)) = d * a * (X.1 * Y.2) := by ac_rfl
  have e3 : d * (b * (Y.1 * X.2)) = b * (d * (Y.1 * X.2)) := by ac_rfl
  rw [e1] at m2
  rw [e2, e3] at m1
  exact Nat.le_of_mul_le_mul_left (Nat.le_trans m2 m1) hb

/-- 10 to the u is at most the ratio to the T. -/
def L10 (T : Nat) (u : Int) (X : Nat × Nat) : Prop := pP u * X.2 ^ T ≤ pM u * X.1 ^ T
theorem L10_mul {T : Nat} {u v : Int} {X Y : Nat × Nat} (h : L10 T u X) (h' : L10 T v Y) : L10 T (u + v) (mulP X Y) := by
  unfold L10 mulP at *
  have m := Nat.mul_le_mul h h'
  obtain ⟨c, e1, e2⟩ : ∃ c, u.toNat + v.toNat = c + (u + v).toNat ∧ (-u).toNat + (-v).toNat = c + (-(u + v)).toNat := ⟨u.toNat + v.toNat - (u + v).toNat, by omega, by omega⟩
  have f1 : pP u * pP v = 10 ^ c * pP (u + v) := by unfold pP; rw [← Nat.pow_add, ← Nat.pow_add, e1]
  have f2 : pM u * pM v = 10 ^ c * pM (u + v) := by unfold pM; rw [← Nat.pow_add, ← Nat.pow_add, e2]
  have g1 : pP u * X.2 ^ T * (pP v * Y.2 ^ T) = 10 ^ c * (pP (u + v) * (X.2 * Y.2) ^ T) := by
    rw [Nat.mul_pow, show pP u * X.2 ^ T * (pP v * Y.2 ^ T) = pP u * pP v * (X.2 ^ T * Y.2 ^ T) from by ac_rfl, f1]; ac_rfl
  have g2 : pM u * X.1 ^ T * (pM v * Y.1 ^ T) = 10 ^ c * (pM (u + v) * (X.1 * Y.1) ^ T) := by
    rw [Nat.mul_pow, show pM u * X.1 ^ T * (pM v * Y.1 ^ T) = pM u * pM v * (X.1 ^ T * Y.1 ^ T) from by ac_rfl, f2]; ac_rfl
  rw [g1, g2] at m
  exact Nat.le_of_mul_le_mul_left m (Nat.pow_pos (by decide))
theorem L10_one (T : Nat) {w : Int} (hw : w ≤ 0) : L10 T w (1, 1) := by
  unfold L10
  have e : w.toNat = 0 := by omega
  have e1 : pP w = 1 := by unfold pP; rw [e]
  simp only [e1, Nat.one_pow, Nat.mul_one]
  exact pM_pos w
theorem mulP_one (X : Nat × Nat) : mulP X (1, 1) = X := by simp [mulP]
theorem L10_down {T : Nat} {u v : Int} {X : Nat × Nat} (h : L10 T u X) (hv : v ≤ u) : L10 T v X := by
  have := L10_mul h (L10_one T (w := v - u) (by omega))
  rw [mulP_one] at this
  rwa [show u + (v - u) = v from by omega] at this
def powP (X : Nat × Nat) (n : Nat) : Nat × Nat := (X.1 ^ n, X.2 ^ n)
theorem L10_pow {T : Nat} {X : Nat × Nat} (h : L10 T 1 X) : ∀ n : Nat, L10 T n (powP X n)
  | 0 => L10_one T (by omega)
  | n + 1 => by
    have := L10_mul (L10_pow h n) h
    exact this
/-- What is at least 10 to nothing is at least 1. -/
theorem L10_le {T : Nat} (hT : 0 < T) {u : Int} {X : Nat × Nat} (h : L10 T u X) (hu : 0 ≤ u) : X.2 ≤ X.1 := by
  have h0 := L10_down h hu
  unfold L10 at h0
  have e1 : pP 0 = 1 := rfl
  have e2 : pM 0 = 1 := rfl
  rw [e1, e2, Nat.one_mul, Nat.one_mul] at h0
  rcases Nat.lt_or_ge X.1 X.2 with hl | hl
  · have := Nat.pow_lt_pow_left hl (show T ≠ 0 by omega)
    omega
  · exact hl
theorem L10_scale {T : Nat} {u : Int} {X : Nat × Nat} {c : Nat} (hc : 0 < c) (h : L10 T u (X.1 * c, X.2 * c)) : L10 T u X := by
  unfold L10 at *
  simp only [Nat.mul_pow] at h
  have e1 : pP u * (X.2 ^ T * c ^ T) = c ^ T * (pP u * X.2 ^ T) := by ac_rfl
  have e2 : pM u * (X.1 ^ T * c ^ T) = c ^ T * (pM u * X.1 ^ T) := by ac_rfl
  rw [e1, e2] at h
  exact Nat.le_of_mul_le_mul_left h (Nat.pow_pos hc)
/-- A power of ten. -/
theorem L10_ten (T : Nat) (t : Int) : L10 T (t * T) (pP t, pM t) := by
  have key : ∀ n : Nat, (((n : Int) * T).toNat = n * T) ∧ ((-((n : Int) * T)).toNat = 0) := by
    intro n
    have e : ((n : Int) * T) = ((n * T : Nat) : Int) := (Int.natCast_mul n T).symm
    rw [e]
    omega
  unfold L10 pP pM
  rcases Int.le_total 0 t with ht | ht
  · obtain ⟨n, rfl⟩ := Int.eq_ofNat_of_zero_le ht
    rw [(key n).1, (key n).2, show (-(n : Int)).toNat = 0 from by omega, Int.toNat_natCast]
    simp only [Nat.pow_zero, Nat.one_pow, Nat.mul_one, Nat.one_mul, Nat.pow_mul]
    exact Nat.le_refl _
  · obtain ⟨n, hn⟩ := Int.eq_ofNat_of_zero_le (show 0 ≤ -t by omega)
    obtain rfl : t = -(n : Int) := by omega
    rw [Int.neg_mul, (key n).2, show - -((n : Int) * T) = (n : Int) * T from Int.neg_neg _, (key n).1, show (-(n : Int)).toNat = 0 from by omega, Int.neg_neg, Int.toNat_natCast]
    simp only [Nat.pow_zero, Nat.one_pow, Nat.mul_one, Nat.one_mul, Nat.pow_mul]
    exact Nat.le_refl _

/-- Both loops of the logarithm, on natural numbers, told by what they keep. -/
def One : Nat := 100000000
theorem loN_keep : ∀ (k x n j X : Nat), 0 < x → 10 ^ n * (x * One ^ 2 ^ j) ≤ One * X ^ 2 ^ j → ∃ y, 10 ^ loN k x n * (y * One ^ 2 ^ (j + k)) ≤ One * X ^ 2 ^ (j + k) ∧ (One ≤ x → One ≤ y)
  | 0, x, n, j, X, hx, h => ⟨x, h, id⟩
  | k + 1, x, n, j, X, hx, h => by
    have hsq : 10 ^ (n * 2) * (x * x) * (One ^ 2 ^ (j + 1)) ≤ One * One * X ^ 2 ^ (j + 1) := by
      have m := Nat.mul_le_mul h h
      rw [Nat.pow_succ 2 j, Nat.pow_mul, Nat.pow_mul, Nat.pow_mul, Nat.pow_two, Nat.pow_two, Nat.pow_two]
      have e1 : 10 ^ n * (x * One ^ 2 ^ j) * (10 ^ n * (x * One ^ 2 ^ j)) = 10 ^ n * 10 ^ n * (x * x) * (One ^ 2 ^ j * One ^ 2 ^ j) := by ac_rfl
      have e2 : One * X ^ 2 ^ j * (One * X ^ 2 ^ j) = One * One * (X ^ 2 ^ j * X ^ 2 ^ j) := by ac_rfl
      rw [e1, e2] at m
      exact m
    have hq : x * x / 100000000 * One ≤ x * x := Nat.div_mul_le_self _ _
    obtain ⟨q, hqe⟩ : ∃ q, x * x / 100000000 = q := ⟨_, rfl⟩
    rw [hqe] at hq
    have hone : One ≤ x → One ≤ q := by
      intro ho
      rw [← hqe]
      have := Nat.mul_le_mul ho ho
      exact (Nat.le_div_iff_mul_le (by decide)).2 this
    -- one step on, with or without a bit
    have stepOn : ∀ (y n' : Nat), 10 ^ n' * (y * One) ≤ 10 ^ (n * 2) * (x * x) → 10 ^ n' * (y * One ^ 2 ^ (j + 1)) ≤ One * X ^ 2 ^ (j + 1) := by
      intro y n' hy
      have m := Nat.le_trans (Nat.mul_le_mul_right (One ^ 2 ^ (j + 1)) hy) hsq
      have e1 : 10 ^ n' * (y * One) * One ^ 2 ^ (j + 1) = One * (10 ^ n' * (y * One ^ 2 ^ (j + 1))) := by ac_rfl
      have e2 : One * One * X ^ 2 ^ (j + 1) = One * (One * X ^ 2 ^ (j + 1)) := by ac_rfl
      rw [e1, e2] at m
      exact Nat.le_of_mul_le_mul_left m (by decide)
    rw [loN, hqe]
    by_cases hb : 1000000000 ≤ q
    · have hb' : Nat.ble 1000000000 q = true := Nat.ble_eq_true_of_le hb
      simp only [hb', cond_true]
      have h10 : q / 10 * 10 ≤ q := Nat.div_mul_le_self _ _
      have hy : 10 ^ (n * 2 + 1) * (q / 10 * One) ≤ 10 ^ (n * 2) * (x * x) := by
        rw [Nat.pow_succ, Nat.mul_assoc]
        refine Nat.mul_le_mul_left _ (Nat.le_trans ?_ hq)
        rw [← Nat.mul_assoc]
        refine Nat.mul_le_mul_right _ ?_
        omega
      obtain ⟨y, h1, h3⟩ := loN_keep k (q / 10) (n * 2 + 1) (j + 1) X (by omega) (stepOn _ _ hy)
      refine ⟨y, ?_, fun _ => h3 (by unfold One; omega)⟩
      rw [show j + (k + 1) = j + 1 + k from by omega]
      exact h1
    · have hb' : Nat.ble 1000000000 q = false := by
        cases hh : Nat.ble 1000000000 q with
        | false => rfl
        | true => exact absurd (Nat.le_of_ble_eq_true hh) hb
      simp only [hb', cond_false]
      by_cases hq0 : 0 < q
      · obtain ⟨y, h1, h3⟩ := loN_keep k q (n * 2) (j + 1) X hq0 (stepOn _ _ (Nat.mul_le_mul_left _ hq))
        refine ⟨y, ?_, fun ho => h3 (hone ho)⟩
        rw [show j + (k + 1) = j + 1 + k from by omega]
        exact h1
      · refine ⟨0, by simp, fun ho => ?_⟩
        have := hone ho
        unfold One at this
        omega
theorem hiN_keep : ∀ (k x n j X : Nat), x ≤ 10 * One → One * X ^ 2 ^ j ≤ 10 ^ n * (x * One ^ 2 ^ j) → ∃ y, y ≤ 10 * One ∧ One * X ^ 2 ^ (j + k) ≤ 10 ^ hiN k x n * (y * One ^ 2 ^ (j + k))
  | 0, x, n, j, X, hx, h => ⟨x, hx, h⟩
  | k + 1, x, n, j, X, hx, h => by
    have hsq : One * One * X ^ 2 ^ (j + 1) ≤ 10 ^ (n * 2) * (x * x) * (One ^ 2 ^ (j + 1)) := by
      have m := Nat.mul_le_mul h h
      rw [Nat.pow_succ 2 j, Nat.pow_mul, Nat.pow_mul, Nat.pow_mul, Nat.pow_two, Nat.pow_two, Nat.pow_two]
      have e1 : 10 ^ n * (x * One ^ 2 ^ j) * (10 ^ n * (x * One ^ 2 ^ j)) = 10 ^ n * 10 ^ n * (x * x) * (One ^ 2 ^ j * One ^ 2 ^ j) := by ac_rfl
      have e2 : One * X ^ 2 ^ j * (One * X ^ 2 ^ j) = One * One * (X ^ 2 ^ j * X ^ 2 ^ j) := by ac_rfl
      rw [e1, e2] at m
      exact m
    have hq : x * x ≤ (x * x + 99999999) / 100000000 * One := by unfold One; omega
    have hq2 : (x * x + 99999999) / 100000000 ≤ 100 * One := by
      have := Nat.mul_le_mul hx hx
      unfold One at *
      omega
    obtain ⟨q, hqe⟩ : ∃ q, (x * x + 99999999) / 100000000 = q := ⟨_, rfl⟩
    rw [hqe] at hq hq2
    have stepOn : ∀ (y n' : Nat), 10 ^ (n * 2) * (x * x) ≤ 10 ^ n' * (y * One) → One * X ^ 2 ^ (j + 1) ≤ 10 ^ n' * (y * One ^ 2 ^ (j + 1)) := by
      intro y n' hy
      have m := Nat.le_trans hsq (Nat.mul_le_mul_right (One ^ 2 ^ (j + 1)) hy)
      have e1 : 10 ^ n' * (y * One) * One ^ 2 ^ (j + 1) = One * (10 ^ n' * (y * One ^ 2 ^ (j + 1))) := by ac_rfl
      have e2 : One * One * X ^ 2 ^ (j + 1) = One * (One * X ^ 2 ^ (j + 1)) := by ac_rfl
      rw [e1, e2] at m
      exact Nat.le_of_mul_le_mul_left m (by decide)
    rw [hiN, hqe]
    by_cases hb : 1000000000 ≤ q
    · have hb' : Nat.ble 1000000000 q = true := Nat.ble_eq_true_of_le hb
      simp only [hb', cond_true]
      have h10 : q ≤ (q + 9) / 10 * 10 := by omega
      have hy : 10 ^ (n * 2) * (x * x) ≤ 10 ^ (n * 2 + 1) * ((q + 9) / 10 * One) := by
        rw [Nat.pow_succ, Nat.mul_assoc]
        refine Nat.mul_le_mul_left _ (Nat.le_trans hq ?_)
        rw [← Nat.mul_assoc]
        refine Nat.mul_le_mul_right _ ?_
        omega
      obtain ⟨y, h1, h2⟩ := hiN_keep k ((q + 9) / 10) (n * 2 + 1) (j + 1) X (by unfold One at *; omega) (stepOn _ _ hy)
      refine ⟨y, h1, ?_⟩
      rw [show j + (k + 1) = j + 1 + k from by omega]
      exact h2
    · have hb' : Nat.ble 1000000000 q = false := by
        cases hh : Nat.ble 1000000000 q with
        | false => rfl
        | true => exact absurd (Nat.le_of_ble_eq_true hh) hb
      simp only [hb', cond_false]
      obtain ⟨y, h1, h2⟩ := hiN_keep k q (n * 2) (j + 1) X (by unfold One; omega) (stepOn _ _ (Nat.mul_le_mul_left _ hq))
      refine ⟨y, h1, ?_⟩
      rw [show j + (k + 1) = j + 1 + k from by omega]
      exact h2

/-- A figure as a ratio. -/
def figP (f : Fig) : Nat × Nat := (f.d.toNat * pP f.t, 1000 * pM f.t)
theorem figP_pos {f : Fig} (h : 1 ≤ f.d) : posP (figP f) := ⟨Nat.mul_pos (by omega) (pP_pos _), Nat.mul_pos (by decide) (pM_pos _)⟩
theorem lg_N (d : Nat) : (lg d).lo = (loN 20 (d * 100000) 0 : Nat) ∧ (lg d).hi = (hiN 20 (d * 100000) 0 : Nat) + 1 := by
  have h1 : (lowS ((d : Int) * 100000) 20).2 = (loN 20 (d * 100000) 0 : Nat) := by
    rw [lowS_G, show (((d : Int) * 100000, (0 : Int))) = (((d * 100000 : Nat) : Int), ((0 : Nat) : Int)) from rfl]
    exact lowG_N 20 (d * 100000) 0
  have h2 : (highS ((d : Int) * 100000) 20).2 = (hiN 20 (d * 100000) 0 : Nat) := by
    rw [highS_G, show (((d : Int) * 100000, (0 : Int))) = (((d * 100000 : Nat) : Int), ((0 : Nat) : Int)) from rfl]
    exact highG_N 20 (d * 100000) 0
  unfold lg logOf
  rw [h1, h2]
  exact ⟨rfl, rfl⟩
theorem lo_sound {T : Nat} (hT : T = 2 ^ 20) {x : Nat} (hx : One ≤ x) : L10 T (loN 20 x 0 : Nat) (x, One) := by
  obtain ⟨y, h1, h2⟩ := loN_keep 20 x 0 0 x (by unfold One at hx; omega) (by simp only [Nat.pow_zero, Nat.pow_one, Nat.one_mul]; rw [Nat.mul_comm]; exact Nat.le_refl _)
  rw [Nat.zero_add, ← hT] at h1
  have hy := h2 hx
  unfold L10 pP pM
  rw [Int.toNat_natCast, show (-((loN 20 x 0 : Nat) : Int)).toNat = 0 from by omega]
  simp only [Nat.pow_zero, Nat.one_mul]
  have m := Nat.mul_le_mul_right (10 ^ loN 20 x 0 * One ^ T) hy
  have e : y * (10 ^ loN 20 x 0 * One ^ T) = 10 ^ loN 20 x 0 * (y * One ^ T) := by ac_rfl
  rw [e] at m
  exact Nat.le_of_mul_le_mul_left (Nat.le_trans m h1) (by decide)
theorem hi_sound {T : Nat} (hT : T = 2 ^ 20) {x : Nat} (hx : x ≤ 10 * One) : L10 T (-((hiN 20 x 0 : Nat) + 1 : Int)) (One, x) := by
  obtain ⟨y, h1, h2⟩ := hiN_keep 20 x 0 0 x hx (by simp only [Nat.pow_zero, Nat.pow_one, Nat.one_mul]; rw [Nat.mul_comm]; exact Nat.le_refl _)
  rw [Nat.zero_add, ← hT] at h2
  unfold L10 pP pM
  rw [show (-((hiN 20 x 0 : Nat) + 1 : Int)).toNat = 0 from by omega, show (- -((hiN 20 x 0 : Nat) + 1 : Int)).toNat = hiN 20 x 0 + 1 from by omega]
  simp only [Nat.pow_zero, Nat.one_mul]
  have m := Nat.mul_le_mul_right (10 ^ hiN 20 x 0 * One ^ T) h1
  have e : y * (10 ^ hiN 20 x 0 * One ^ T) = 10 ^ hiN 20 x 0 * (y * One ^ T) := by ac_rfl
  have e2 : 10 * One * (10 ^ hiN 20 x 0 * One ^ T) = One * (10 ^ (hiN 20 x 0 + 1) * One ^ T) := by rw [Nat.pow_succ]; ac_rfl
  rw [e, e2] at m
  exact Nat.le_of_mul_le_mul_left (Nat.le_trans h2 m) (by decide)
/-- The logarithm of a figure is sound. -/
theorem figLog_sound {T : Nat} (hT : T = 2 ^ 20) {f : Fig} (h1 : 1000 ≤ f.d) (h2 : f.d ≤ 9999) : L10 T (figLog f).lo (figP f) ∧ L10 T (-(figLog f).hi) (swP (figP f)) := by
  obtain ⟨d, t⟩ := f
  simp only at h1 h2
  obtain ⟨n, rfl⟩ := Int.eq_ofNat_of_zero_le (show 0 ≤ d by omega)
  have hT2 : (T : Int) = 1048576 := by rw [hT]; rfl
  have hl := lo_sound hT (x := n * 100000) (by unfold One; omega)
  have hh := hi_sound hT (x := n * 100000) (by unfold One; omega)
  have hO : One = 1000 * 100000 := rfl
  rw [hO] at hl hh
  have k1 : L10 T (loN 20 (n * 100000) 0 : Nat) (n, 1000) := L10_scale (c := 100000) (by decide) hl
  have k2 : L10 T (-((hiN 20 (n * 100000) 0 : Nat) + 1 : Int)) (1000, n) := L10_scale (c := 100000) (by decide) hh
  have e := lg_N n
  have m1 := L10_mul k1 (L10_ten T t)
  have m2 := L10_mul k2 (L10_ten T (-t))
  have g1 : (figLog ⟨n, t⟩).lo = (loN 20 (n * 100000) 0 : Nat) + t * T := by rw [hT2, ← e.1]; rfl
  have g2 : -(figLog ⟨n, t⟩).hi = (-((hiN 20 (n * 100000) 0 : Nat) + 1 : Int)) + -t * T := by
    have : (figLog ⟨n, t⟩).hi = (lg n).hi + t * 1048576 := rfl
    rw [this, hT2, e.2]; omega
  rw [pM_neg] at m2
  rw [g1, g2]
  exact ⟨m1, m2⟩
/-- One unit. -/
def unitP : Nat × Nat := (10000022, 10000000)
theorem unit_sound {T : Nat} (hT : T = 2 ^ 20) : L10 T 1 unitP := by
  have h := lo_sound hT (x := 100000220) (by unfold One; omega)
  have e : loN 20 100000220 0 = 1 := by decide +kernel
  rw [e, show One = 10000000 * 10 from rfl, show 100000220 = 10000022 * 10 from rfl] at h
  exact L10_scale (c := 10) (by decide) h
/-- What is at least 10 to some units below nothing. -/
theorem L10_units {T : Nat} (hT : T = 2 ^ 20) {u : Int} {X : Nat × Nat} {k : Nat} (h : L10 T u X) (hk : -(k : Int) ≤ u) : Rl (10000000 ^ k) (10000022 ^ k) (1, 1) X := by
  have m := L10_mul h (L10_pow (unit_sound hT) k)
  have := L10_le (by rw [hT]; exact Nat.pow_pos (by decide)) m (by omega)
  unfold Rl
  simp only [mulP, powP, unitP] at this
  simp only [Nat.mul_one, Nat.one_mul]
  rw [Nat.mul_comm (10000000 ^ k), Nat.mul_comm (10000022 ^ k)]
  exact this

/-- The exact value of a chain, as a ratio. -/
def opP (dv : Bool) (X : Nat × Nat) (f : Fig) : Nat × Nat := if dv then mulP X (swP (figP f)) else mulP X (figP f)
def valStep (X : Nat × Nat) (t : Trm) : Nat × Nat := opP t.dv X t.f
def chainP (l : List Trm) : Nat × Nat := l.foldl valStep (1, 1)
theorem val_sound {T : Nat} (hT : T = 2 ^ 20) : ∀ (l : List Trm) (a : Itv) (X : Nat × Nat), (∀ t ∈ l, okTrm t = true) → L10 T a.lo X → L10 T (-a.hi) (swP X) → L10 T (l.foldl logStep a).lo (l.foldl valStep X) ∧ L10 T (-(l.foldl logStep a).hi) (swP (l.foldl valStep X))
  | [], a, X, _, h1, h2 => ⟨h1, h2⟩
  | t :: l, a, X, hl, h1, h2 => by
    obtain ⟨t1, t2, t3, t4⟩ := okTrm_bd (hl t (by simp))
    obtain ⟨f1, f2⟩ := figLog_sound hT t1 t2
    rw [List.foldl_cons, List.foldl_cons]
    refine val_sound hT l _ _ (fun x hx => hl x (by simp [hx])) ?_ ?_
    · cases hq : t.dv
      · rw [logStep_n hq]
        simp only [valStep, opP, hq]
        exact L10_mul h1 f1
      · rw [logStep_y hq]
        simp only [valStep, opP, hq]
        exact L10_mul h1 f2
    · cases hq : t.dv
      · rw [logStep_n hq]
        simp only [valStep, opP, hq]
        have := L10_mul h2 f2
        rw [show -(a.hi + (figLog t.f).hi) = -a.hi + -(figLog t.f).hi from by omega]
        exact this
      · rw [logStep_y hq]
        simp only [valStep, opP, hq]
        have := L10_mul h2 f1
        rw [show -(a.hi - (figLog t.f).lo) = -a.hi + (figLog t.f).lo from by omega]
        exact this
theorem chain_sound {T : Nat} (hT : T = 2 ^ 20) {l : List Trm} (h : ∀ t ∈ l, okTrm t = true) : L10 T (chainLog0 l).lo (chainP l) ∧ L10 T (-(chainLog0 l).hi) (swP (chainP l)) :=
  val_sound hT l ⟨0, 0⟩ (1, 1) h (L10_one T (by simp)) (L10_one T (by simp))
theorem val_pos : ∀ (l : List Trm) (X : Nat × Nat), (∀ t ∈ l, okTrm t = true) → posP X → posP (l.foldl valStep X)
  | [], X, _, h => h
  | t :: l, X, hl, h => by
    have t1 := (okTrm_bd (hl t (by simp))).1
    rw [List.foldl_cons]
    refine val_pos l _ (fun x hx => hl x (by simp [hx])) ?_
    simp only [valStep, opP]
    cases t.dv
    · exact posP_mul h (figP_pos (by omega))
    · exact posP_mul h (posP_sw (figP_pos (by omega)))
theorem chainP_pos {l : List Trm} (h : ∀ t ∈ l, okTrm t = true) : posP (chainP l) := val_pos l _ h ⟨by decide, by decide⟩

theorem pPM {a b : Int} {i j : Nat} (h : a + i = b + j) : pP a * pM b * 10 ^ i = pP b * pM a * 10 ^ j := by
  unfold pP pM
  rw [← Nat.pow_add, ← Nat.pow_add, ← Nat.pow_add, ← Nat.pow_add]
  congr 1
  omega
/-- A rounded ratio is off by at most a two thousandth. -/
theorem end_near {n d i j : Nat} {t : Int} (hd : 1 ≤ d) (h1 : 1000 * (d * 10 ^ j) ≤ n * 10 ^ i) :
    Rl 1999 2000 (n * pP t, d * pM t) (figP (endRnd ((n * 10 ^ i : Nat) : Int) ((d * 10 ^ j : Nat) : Int) (t + 3 - i + j))) ∧ Rl 2000 2001 (figP (endRnd ((n * 10 ^ i : Nat) : Int) ((d * 10 ^ j : Nat) : Int) (t + 3 - i + j))) (n * pP t, d * pM t) := by
  have hD0 : 0 < d * 10 ^ j := Nat.mul_pos hd (Nat.pow_pos (by decide))
  obtain ⟨q, hq⟩ : ∃ q : Nat, (2 * (n * 10 ^ i) + d * 10 ^ j) / (2 * (d * 10 ^ j)) = q := ⟨_, rfl⟩
  have hq1 : 2000 * (q * (d * 10 ^ j)) ≤ 2001 * (n * 10 ^ i) ∧ 1999 * (n * 10 ^ i) ≤ 2000 * (q * (d * 10 ^ j)) := by
    have e1 := Nat.div_mul_le_self (2 * (n * 10 ^ i) + d * 10 ^ j) (2 * (d * 10 ^ j))
    have e2 := Nat.lt_div_mul_add (a := 2 * (n * 10 ^ i) + d * 10 ^ j) (show 0 < 2 * (d * 10 ^ j) by omega)
    rw [hq, show q * (2 * (d * 10 ^ j)) = 2 * (q * (d * 10 ^ j)) from by ac_rfl] at e1 e2
    generalize q * (d * 10 ^ j) = x at *
    generalize d * 10 ^ j = y at *
    generalize n * 10 ^ i = z at *
    omega
  obtain ⟨F, k, hF, hFd, hFt⟩ : ∃ (F : Fig) (k : Nat), endRnd ((n * 10 ^ i : Nat) : Int) ((d * 10 ^ j : Nat) : Int) (t + 3 - i + j) = F ∧ F.d.toNat * 10 ^ k = q ∧ F.t + i = t + ((3 + j + k : Nat) : Int) := by
    have e : (2 * ((n * 10 ^ i : Nat) : Int) + ((d * 10 ^ j : Nat) : Int)) / (2 * ((d * 10 ^ j : Nat) : Int)) = (q : Int) := by
      rw [← hq]
      generalize n * 10 ^ i = z
      generalize d * 10 ^ j = y
      rw [Int.natCast_ediv, Int.natCast_add, Int.natCast_mul, Int.natCast_mul]
      rfl
    unfold endRnd
    rw [e]
    by_cases h : (q : Int) = 10000
    · rw [if_pos h]
      exact ⟨_, 1, rfl, by simp only; omega, by simp only; omega⟩
    · rw [if_neg h]
      exact ⟨_, 0, rfl, by simp, by simp only; omega⟩
  rw [hF]
  have hp := pPM hFt
  have hP : 0 < 10 ^ (j + k) := Nat.pow_pos (by decide)
  have hP2 : 10 ^ (3 + j + k) = 1000 * 10 ^ (j + k) := by rw [Nat.add_assoc, Nat.pow_add]
  unfold Rl figP
  simp only
  constructor
  · refine Nat.le_of_mul_le_mul_left ?_ hP
    have m := Nat.mul_le_mul_left (pP F.t * pM t) hq1.2
    rw [show pP F.t * pM t * (1999 * (n * 10 ^ i)) = 1999 * n * (pP F.t * pM t * 10 ^ i) from by ac_rfl, hp, hP2, ← hFd] at m
    rw [show 10 ^ (j + k) * (1999 * (n * pP t * (1000 * pM F.t))) = 1999 * n * (pP t * pM F.t * (1000 * 10 ^ (j + k))) from by ac_rfl]
    refine Nat.le_trans m (Nat.le_of_eq ?_)
    rw [Nat.pow_add]
    ac_rfl
  · refine Nat.le_of_mul_le_mul_left ?_ hP
    have m := Nat.mul_le_mul_left (pP F.t * pM t) hq1.1
    rw [show pP F.t * pM t * (2001 * (n * 10 ^ i)) = 2001 * n * (pP F.t * pM t * 10 ^ i) from by ac_rfl, hp, hP2, ← hFd] at m
    rw [show 10 ^ (j + k) * (2001 * (n * pP t * (1000 * pM F.t))) = 2001 * n * (pP t * pM F.t * (1000 * 10 ^ (j + k))) from by ac_rfl]
    refine Nat.le_trans (Nat.le_of_eq ?_) m
    rw [Nat.pow_add]
    ac_rfl
theorem upLoop_form (d n t : Int) : ∃ i : Nat, upLoop d n t = (n * 10 ^ i, t - i) := by
  by_cases h : 1 ≤ n ∧ n < 1000 * d
  · rw [upLoop_go h.1 h.2]
    obtain ⟨i, hi⟩ := upLoop_form d (n * 10) (t - 1)
    refine ⟨i + 1, ?_⟩
    rw [hi]
    refine Prod.ext ?_ ?_
    · simp only [Int.pow_succ]; ac_rfl
    · simp only; omega
  · refine ⟨0, ?_⟩
    rw [upLoop, if_neg h]
    simp
  termination_by (1000 * d - n).toNat
  decreasing_by omega
theorem dnLoop_form (n d t : Int) : ∃ j : Nat, dnLoop n d t = (d * 10 ^ j, t + j) := by
  by_cases h : 1 ≤ d ∧ 10000 * d ≤ n
  · rw [dnLoop_go h.1 h.2]
    obtain ⟨i, hi⟩ := dnLoop_form n (d * 10) (t + 1)
    refine ⟨i + 1, ?_⟩
    rw [hi]
    refine Prod.ext ?_ ?_
    · simp only [Int.pow_succ]; ac_rfl
    · simp only; omega
  · refine ⟨0, ?_⟩
    rw [dnLoop, if_neg h]
    simp
  termination_by (n - d).toNat
  decreasing_by omega
theorem rnd_near {n d : Nat} {t : Int} (hn : 1 ≤ n) (hd : 1 ≤ d) : Rl 1999 2000 (n * pP t, d * pM t) (figP (rndF n d t)) ∧ Rl 2000 2001 (figP (rndF n d t)) (n * pP t, d * pM t) := by
  have cast : ∀ (x y : Nat), ((x : Int) * 10 ^ y) = ((x * 10 ^ y : Nat) : Int) := by intro x y; rw [Int.natCast_mul, Int.natCast_pow]; rfl
  unfold rndF
  by_cases h : (n : Int) < 1000 * d
  · have hb := upLoop_bd d n (t + 3) (by omega) h
    rw [dnLoop_end (n := (upLoop d n (t + 3)).1) (by omega)]
    obtain ⟨i, hi⟩ := upLoop_form d n (t + 3)
    rw [hi] at hb ⊢
    simp only at hb ⊢
    rw [cast] at hb ⊢
    have := end_near (n := n) (d := d) (i := i) (j := 0) (t := t) hd (by simp only [Nat.pow_zero, Nat.mul_one]; omega)
    simp only [Nat.pow_zero, Nat.mul_one] at this
    rw [show t + 3 - (i : Int) + ((0 : Nat) : Int) = t + 3 - i from by omega] at this
    exact this
  · rw [upLoop_end h]
    simp only
    obtain ⟨j, hj⟩ := dnLoop_form n d (t + 3)
    have hb : 1000 * (dnLoop (n : Int) d (t + 3)).1 ≤ n := by
      by_cases h2 : 10000 * (d : Int) ≤ n
      · exact (dnLoop_bd n d (t + 3) (by omega) h2).1
      · rw [dnLoop_end h2]; simp only; omega
    rw [hj] at hb ⊢
    simp only at hb ⊢
    rw [cast] at hb ⊢
    have := end_near (n := n) (d := d) (i := 0) (j := j) (t := t) hd (by simp only [Nat.pow_zero, Nat.mul_one]; omega)
    simp only [Nat.pow_zero, Nat.mul_one] at this
    rw [show t + 3 - ((0 : Nat) : Int) + j = t + 3 + j from by omega] at this
    exact this
/-- A step of a chain, rounded. -/
def eqR (X Y : Nat × Nat) : Prop := X.1 * Y.2 = Y.1 * X.2
theorem Rl_eq {X Y : Nat × Nat} (h : eqR X Y) : Rl 1 1 X Y ∧ Rl 1 1 Y X := by
  unfold Rl eqR at *
  constructor <;> omega
theorem op_near {dv : Bool} {a f : Fig} (ha : isFig a = true) (hf : isFig f = true) (h : opC dv a f = 0) : Rl 1999 2000 (opP dv (figP a) f) (figP (opR dv a f)) ∧ Rl 2000 2001 (figP (opR dv a f)) (opP dv (figP a) f) := by
  obtain ⟨a1, a2, a3, a4⟩ := isFig_true ha
  obtain ⟨f1, f2, f3, f4⟩ := isFig_true hf
  have key : ∀ {n d : Nat} {t : Int} {X : Nat × Nat}, 1 ≤ n → 1 ≤ d → eqR X (n * pP t, d * pM t) → Rl 1999 2000 X (figP (rndF n d t)) ∧ Rl 2000 2001 (figP (rndF n d t)) X := by
    intro n d t X hn hd he
    have hY : posP (n * pP t, d * pM t) := ⟨Nat.mul_pos hn (pP_pos _), Nat.mul_pos hd (pM_pos _)⟩
    obtain ⟨r1, r2⟩ := rnd_near (t := t) hn hd
    obtain ⟨e1, e2⟩ := Rl_eq he
    have k1 := Rl_trans hY e1 r1
    have k2 := Rl_trans hY r2 e2
    rw [Nat.one_mul, Nat.one_mul] at k1
    rw [Nat.mul_one, Nat.mul_one] at k2
    exact ⟨k1, k2⟩
  obtain ⟨ad, at'⟩ := a
  obtain ⟨fd, ft⟩ := f
  simp only at a1 a2 a3 a4 f1 f2 f3 f4
  obtain ⟨x, rfl⟩ := Int.eq_ofNat_of_zero_le (show 0 ≤ ad by omega)
  obtain ⟨y, rfl⟩ := Int.eq_ofNat_of_zero_le (show 0 ≤ fd by omega)
  cases dv
  · have hm := codeLim_cases (mulF ⟨x, at'⟩ ⟨y, ft⟩)
    simp only [opC, opR, mulC, mulR, ha, hf, Bool.and_self, if_true, Bool.false_eq_true, if_false] at h ⊢
    rcases hm with ⟨h1, h2, h3⟩ | ⟨h1, h2, h3⟩
    · rw [h3]
      unfold mulF
      simp only
      have e : ((x : Int) * y) = ((x * y : Nat) : Int) := (Int.natCast_mul _ _).symm
      rw [e]
      refine key (n := x * y) (d := 1) (Nat.mul_pos (by omega) (by omega)) (by omega) ?_
      have hp : pP (at' + ft - 6) * pM at' * pM ft * 10 ^ 6 = pM (at' + ft - 6) * pP at' * pP ft := by
        unfold pP pM
        rw [← Nat.pow_add, ← Nat.pow_add, ← Nat.pow_add, ← Nat.pow_add, ← Nat.pow_add]
        congr 1
        omega
      unfold eqR opP mulP figP
      simp only [Bool.false_eq_true, if_false, Int.toNat_natCast, Nat.one_mul]
      rw [show x * pP at' * (y * pP ft) * pM (at' + ft - 6) = x * y * (pM (at' + ft - 6) * pP at' * pP ft) from by ac_rfl, ← hp, show (10 : Nat) ^ 6 = 1000 * 1000 from rfl]
      ac_rfl
    · omega
  · have hm := codeLim_cases (divF ⟨x, at'⟩ ⟨y, ft⟩)
    simp only [opC, opR, divC, divR, ha, hf, Bool.and_self, if_true] at h ⊢
    rcases hm with ⟨h1, h2, h3⟩ | ⟨h1, h2, h3⟩
    · rw [h3]
      unfold divF
      simp only
      refine key (n := x) (d := y) (by omega) (by omega) ?_
      have hp : pP (at' - ft) * pM at' * pP ft = pM (at' - ft) * pP at' * pM ft := by
        unfold pP pM
        rw [← Nat.pow_add, ← Nat.pow_add, ← Nat.pow_add, ← Nat.pow_add]
        congr 1
        omega
      unfold eqR opP mulP swP figP
      simp only [if_true, Int.toNat_natCast]
      rw [show x * pP at' * (1000 * pM ft) * (y * pM (at' - ft)) = x * y * 1000 * (pM (at' - ft) * pP at' * pM ft) from by ac_rfl, ← hp]
      ac_rfl
    · omega
theorem opP_mono {a b : Nat} {X Y : Nat × Nat} (h : Rl a b X Y) (dv : Bool) (f : Fig) : Rl a b (opP dv X f) (opP dv Y f) := by
  unfold opP
  cases dv
  · exact Rl_mul h _
  · exact Rl_mul h _
theorem opP_pos {X : Nat × Nat} {f : Fig} (h : posP X) (hf : isFig f = true) (dv : Bool) : posP (opP dv X f) := by
  have := (isFig_true hf).1
  unfold opP
  cases dv
  · exact posP_mul h (figP_pos (by omega))
  · exact posP_mul h (posP_sw (figP_pos (by omega)))
/-- The figure of a chain against its value. -/
theorem fold_near : ∀ (l : List Trm) (a b : Fig) (X : Nat × Nat) (k : Nat), isFig a = true → (∀ t ∈ l, okTrm t = true) → posP X → figFold a l = some b → Rl (1999 ^ k) (2000 ^ k) X (figP a) → Rl (2000 ^ k) (2001 ^ k) (figP a) X →
    Rl (1999 ^ (k + l.length)) (2000 ^ (k + l.length)) (l.foldl valStep X) (figP b) ∧ Rl (2000 ^ (k + l.length)) (2001 ^ (k + l.length)) (figP b) (l.foldl valStep X)
  | [], a, b, X, k, ha, _, hX, h, h1, h2 => by
    simp [figFold] at h
    subst h
    exact ⟨h1, h2⟩
  | t :: l, a, b, X, k, ha, hl, hX, h, h1, h2 => by
    have hf : isFig t.f = true := hl t (by simp)
    rcases op_cases t.dv ha hf with ⟨e1, e2⟩ | ⟨e1, e2⟩
    · rw [figFold_go e1] at h
      obtain ⟨n1, n2⟩ := op_near ha hf e1
      have a1 := (isFig_true ha).1
      have hp := opP_pos (X := figP a) (figP_pos (by omega)) hf t.dv
      have m1 := Rl_trans hp (opP_mono h1 t.dv t.f) n1
      have m2 := Rl_trans hp n2 (opP_mono h2 t.dv t.f)
      rw [← Nat.pow_succ, ← Nat.pow_succ] at m1
      rw [Nat.mul_comm, ← Nat.pow_succ, Nat.mul_comm, ← Nat.pow_succ] at m2
      have := fold_near l _ b _ (k + 1) e2 (fun x hx => hl x (by simp [hx])) (opP_pos hX hf t.dv) h m1 m2
      rw [List.length_cons, show k + (l.length + 1) = k + 1 + l.length from by omega, List.foldl_cons]
      exact this
    · rw [figFold_stop e1] at h
      cases h
theorem chain_near {l : List Trm} (hc : isChain l = true) {F : Fig} (h : chainFig0 l = some F) : Rl (1999 ^ 5) (2000 ^ 5) (chainP l) (figP F) ∧ Rl (2000 ^ 5) (2001 ^ 5) (figP F) (chainP l) := by
  obtain ⟨c1, c2, c3, c4⟩ := isChain_true hc
  cases l with
  | nil => simp at c1
  | cons t l =>
    have hf : isFig t.f = true := c4 t (by simp)
    have hd : t.dv = false := c3
    have e : chainP (t :: l) = l.foldl valStep (figP t.f) := by
      simp [chainP, valStep, opP, hd, mulP]
    have hl : l.length ≤ 5 := by simp at c2; omega
    have := fold_near l t.f F (figP t.f) 0 hf (fun x hx => c4 x (by simp [hx])) (figP_pos (by have := (isFig_true hf).1; omega)) h (by simp [Rl]) (by simp [Rl])
    rw [e]
    simp only [Nat.zero_add] at this
    refine ⟨Rl_weak (Nat.pow_pos (by decide)) this.1 ?_, Rl_weak (Nat.pow_pos (by decide)) this.2 ?_⟩
    · generalize l.length = n at *
      have : n = 0 ∨ n = 1 ∨ n = 2 ∨ n = 3 ∨ n = 4 ∨ n = 5 := by omega
      rcases this with rfl | rfl | rfl | rfl | rfl | rfl <;> decide
    · generalize l.length = n at *
      have : n = 0 ∨ n = 1 ∨ n = 2 ∨ n = 3 ∨ n = 4 ∨ n = 5 := by omega
      rcases this with rfl | rfl | rfl | rfl | rfl | rfl <;> decide

end Go.Proofs.Ytkoojngonldcbaa
