/- DERIVED. Plain words: the laws of tens and of the values of chains. No program in sight. -/
import Derived.Test.YtkoojngonldcbaaP20
namespace Go.Proofs.Ytkoojngonldcbaa
set_option linter.unusedVariables false
set_option linter.unusedSimpArgs false
set_option maxRecDepth 100000

theorem L10_rl {T : Nat} (hT : T = 2 ^ 20) {u v : Int} {X Y : Nat × Nat} (h : L10 T u X) (h' : L10 T (-v) (swP Y)) (huv : v ≤ u) : Rl 1 1 Y X := by
  have m := L10_le (by rw [hT]; exact Nat.pow_pos (by decide)) (L10_mul h h') (by omega)
  unfold Rl
  simp only [mulP, swP] at m
  rw [Nat.one_mul, Nat.one_mul, Nat.mul_comm Y.1]
  exact m
theorem L10_rlk {T : Nat} (hT : T = 2 ^ 20) {u v : Int} {X Y : Nat × Nat} {k : Nat} (h : L10 T u X) (h' : L10 T (-v) (swP Y)) (huv : v ≤ u + k) : Rl (10000000 ^ k) (10000022 ^ k) Y X := by
  have m := L10_units hT (k := k) (L10_mul h h') (by omega)
  unfold Rl at *
  simp only [mulP, swP, Nat.one_mul, Nat.mul_one] at m
  rw [Nat.mul_comm Y.1]
  exact m

/-- The widths of the logarithms: at most 2. -/
def chkW : Nat → Nat → Bool
  | 0, _ => true
  | k + 1, d => Nat.ble (hiN 20 (d * 100000) 0) (loN 20 (d * 100000) 0 + 1) && chkW k (d + 1)
theorem chkW_at : ∀ (k d : Nat), chkW k d = true → ∀ i, d ≤ i → i < d + k → hiN 20 (i * 100000) 0 ≤ loN 20 (i * 100000) 0 + 1
  | 0, d, _, i, h1, h2 => by omega
  | k + 1, d, h, i, h1, h2 => by
    rw [chkW, Bool.and_eq_true] at h
    obtain ⟨a, b⟩ := h
    by_cases he : i = d
    · subst he; exact Nat.le_of_ble_eq_true a
    · exact chkW_at k (d + 1) b i (by omega) (by omega)
theorem chkW1 : chkW 1500 1000 = true := by decide +kernel
theorem chkW2 : chkW 1500 2500 = true := by decide +kernel
theorem chkW3 : chkW 1500 4000 = true := by decide +kernel
theorem chkW4 : chkW 1500 5500 = true := by decide +kernel
theorem chkW5 : chkW 1500 7000 = true := by decide +kernel
theorem chkW6 : chkW 1500 8500 = true := by decide +kernel
theorem width {f : Fig} (h1 : 1000 ≤ f.d) (h2 : f.d ≤ 9999) : (figLog f).hi ≤ (figLog f).lo + 2 := by
  obtain ⟨d, t⟩ := f
  simp only at h1 h2
  obtain ⟨n, rfl⟩ := Int.eq_ofNat_of_zero_le (show 0 ≤ d by omega)
  have e := lg_N n
  have g1 : (figLog ⟨n, t⟩).lo = (lg n).lo + t * 1048576 := rfl
  have g2 : (figLog ⟨n, t⟩).hi = (lg n).hi + t * 1048576 := rfl
  have hw : hiN 20 (n * 100000) 0 ≤ loN 20 (n * 100000) 0 + 1 := by
    by_cases a1 : n < 2500
    · exact chkW_at _ _ chkW1 n (by omega) (by omega)
    by_cases a2 : n < 4000
    · exact chkW_at _ _ chkW2 n (by omega) (by omega)
    by_cases a3 : n < 5500
    · exact chkW_at _ _ chkW3 n (by omega) (by omega)
    by_cases a4 : n < 7000
    · exact chkW_at _ _ chkW4 n (by omega) (by omega)
    by_cases a5 : n < 8500
    · exact chkW_at _ _ chkW5 n (by omega) (by omega)
    exact chkW_at _ _ chkW6 n (by omega) (by omega)
  rw [g1, g2, e.1, e.2]
  omega

end Go.Proofs.Ytkoojngonldcbaa
