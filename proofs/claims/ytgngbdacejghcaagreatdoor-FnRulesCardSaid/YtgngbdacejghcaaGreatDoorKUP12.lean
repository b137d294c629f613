/- DERIVED. Plain words: the points of a scale rise strictly; the nearest figure. No program in sight. -/
import Derived.Test.YtgngbdacejghcaaGreatDoorKUPA
namespace Go.Proofs.YtgngbdacejghcaaGreatDoor
set_option linter.unusedVariables false
set_option linter.unusedSimpArgs false
set_option maxRecDepth 100000
def loN : Nat → Nat → Nat → Nat
  | 0, _, n => n
  | k + 1, x, n => (fun q => bif Nat.ble 1000000000 q then loN k (q / 10) (n * 2 + 1) else loN k q (n * 2)) (x * x / 100000000)
def hiN : Nat → Nat → Nat → Nat
  | 0, _, n => n
  | k + 1, x, n => (fun q => bif Nat.ble 1000000000 q then hiN k ((q + 9) / 10) (n * 2 + 1) else hiN k q (n * 2)) ((x * x + 99999999) / 100000000)
def lowG : Nat → Int × Int → Int × Int
  | 0, s => s
  | k + 1, s => lowG k (lowStep s)
def highG : Nat → Int × Int → Int × Int
  | 0, s => s
  | k + 1, s => highG k (highStep s)
theorem lowG_step : ∀ (k : Nat) (s : Int × Int), lowG k (lowStep s) = lowStep (lowG k s)
  | 0, _ => rfl
  | k + 1, s => lowG_step k (lowStep s)
theorem highG_step : ∀ (k : Nat) (s : Int × Int), highG k (highStep s) = highStep (highG k s)
  | 0, _ => rfl
  | k + 1, s => highG_step k (highStep s)
theorem lowS_G (x : Int) : ∀ k, lowS x k = lowG k (x, 0)
  | 0 => rfl
  | k + 1 => by rw [lowS, lowS_G x k, lowG, lowG_step]
theorem highS_G (x : Int) : ∀ k, highS x k = highG k (x, 0)
  | 0 => rfl
  | k + 1 => by rw [highS, highS_G x k, highG, highG_step]
theorem lowG_N : ∀ (k a n : Nat), (lowG k (a, n)).2 = (loN k a n : Nat)
  | 0, _, _ => rfl
  | k + 1, a, n => by
    have e : ((a : Int) * a / 100000000) = ((a * a / 100000000 : Nat) : Int) := by rw [Int.natCast_ediv, Int.natCast_mul]; rfl
    rw [lowG, loN]
    by_cases h : 1000000000 ≤ a * a / 100000000
    · have hb : Nat.ble 1000000000 (a * a / 100000000) = true := Nat.ble_eq_true_of_le h
      rw [lowStep_pos (by simp only; rw [e]; omega)]
      simp only [hb, cond_true]
      rw [← lowG_N k (a * a / 100000000 / 10) (n * 2 + 1), e]
      rfl
    · have hb : Nat.ble 1000000000 (a * a / 100000000) = false := by
        cases hh : Nat.ble 1000000000 (a * a / 100000000) with
        | false => rfl
        | true => exact absurd (Nat.le_of_ble_eq_true hh) h
      rw [lowStep_neg (by simp only; rw [e]; omega)]
      simp only [hb, cond_false]
      rw [← lowG_N k (a * a / 100000000) (n * 2), e]
      rfl
theorem highG_N : ∀ (k a n : Nat), (highG k (a, n)).2 = (hiN k a n : Nat)
  | 0, _, _ => rfl
  | k + 1, a, n => by
    have e : cdiv ((a : Int) * a) 100000000 = (((a * a + 99999999) / 100000000 : Nat) : Int) := by
      rw [show ((a : Int) * a) = ((a * a : Nat) : Int) from (Int.natCast_mul a a).symm]
      unfold cdiv
      omega
    have e2 : ∀ q : Nat, cdiv (q : Int) 10 = (((q + 9) / 10 : Nat) : Int) := by
      intro q
      unfold cdiv
      omega
    rw [highG, hiN]
    by_cases h : 1000000000 ≤ (a * a + 99999999) / 100000000
    · have hb : Nat.ble 1000000000 ((a * a + 99999999) / 100000000) = true := Nat.ble_eq_true_of_le h
      rw [highStep_pos (by simp only; rw [e]; omega)]
      simp only [hb, cond_true]
      rw [← highG_N k (((a * a + 99999999) / 100000000 + 9) / 10) (n * 2 + 1), e, e2]
      rfl
    · have hb : Nat.ble 1000000000 ((a * a + 99999999) / 100000000) = false := by
        cases hh : Nat.ble 1000000000 ((a * a + 99999999) / 100000000) with
        | false => rfl
        | true => exact absurd (Nat.le_of_ble_eq_true hh) h
      rw [highStep_neg (by simp only; rw [e]; omega)]
      simp only [hb, cond_false]
      rw [← highG_N k ((a * a + 99999999) / 100000000) (n * 2), e]
      rfl
def gN (d : Nat) : Nat := loN 20 (d * 100000) 0 + hiN 20 (d * 100000) 0 + 1
def gI (d : Int) : Int := (lg d).lo + (lg d).hi
theorem gI_N (d : Nat) : gI d = (gN d : Nat) := by
  have h1 : (lowS ((d : Int) * 100000) 20).2 = (loN 20 (d * 100000) 0 : Nat) := by
    rw [lowS_G, show (((d : Int) * 100000, (0 : Int))) = (((d * 100000 : Nat) : Int), ((0 : Nat) : Int)) from rfl]
    exact lowG_N 20 (d * 100000) 0
  have h2 : (highS ((d : Int) * 100000) 20).2 = (hiN 20 (d * 100000) 0 : Nat) := by
    rw [highS_G, show (((d : Int) * 100000, (0 : Int))) = (((d * 100000 : Nat) : Int), ((0 : Nat) : Int)) from rfl]
    exact highG_N 20 (d * 100000) 0
  unfold gI gN lg logOf
  rw [h1, h2]
  simp only
  omega
def chk : Nat → Nat → Nat → Bool
  | 0, _, _ => true
  | k + 1, d, p => (fun q => Nat.ble (p + 60) q && chk k (d + 1) q) (gN d)
theorem chk_gap : ∀ (k d : Nat), 1 ≤ d → chk k d (gN (d - 1)) = true → ∀ i, d ≤ i → i < d + k → gN (i - 1) + 60 ≤ gN i
  | 0, d, _, _, i, h1, h2 => by omega
  | k + 1, d, hd, h, i, h1, h2 => by
    rw [chk, Bool.and_eq_true] at h
    obtain ⟨a, b⟩ := h
    by_cases he : i = d
    · subst he; exact Nat.le_of_ble_eq_true a
    · exact chk_gap k (d + 1) (by omega) b i (by omega) (by omega)
theorem chk1 : chk 1000 1001 (gN 1000) = true := by decide +kernel
theorem chk2 : chk 1000 2001 (gN 2000) = true := by decide +kernel
theorem chk3 : chk 1000 3001 (gN 3000) = true := by decide +kernel
theorem chk4 : chk 1000 4001 (gN 4000) = true := by decide +kernel
theorem chk5 : chk 1000 5001 (gN 5000) = true := by decide +kernel
theorem chk6 : chk 1000 6001 (gN 6000) = true := by decide +kernel
theorem chk7 : chk 1000 7001 (gN 7000) = true := by decide +kernel
theorem chk8 : chk 1000 8001 (gN 8000) = true := by decide +kernel
theorem chk9 : chk 999 9001 (gN 9000) = true := by decide +kernel
theorem gN_first : gN 1000 = 1 := by decide +kernel
theorem gN_last : gN 9999 = 2097061 := by decide +kernel
theorem cf_lo : hiN 20 314200000 0 + 1 ≤ loN 20 314300000 0 := by decide +kernel
theorem gN_gap (i : Nat) (h1 : 1001 ≤ i) (h2 : i ≤ 9999) : gN (i - 1) + 60 ≤ gN i := by
  by_cases a1 : i < 2001
  · exact chk_gap _ _ (by omega) chk1 i (by omega) (by omega)
  by_cases a2 : i < 3001
  · exact chk_gap _ _ (by omega) chk2 i (by omega) (by omega)
  by_cases a3 : i < 4001
  · exact chk_gap _ _ (by omega) chk3 i (by omega) (by omega)
  by_cases a4 : i < 5001
  · exact chk_gap _ _ (by omega) chk4 i (by omega) (by omega)
  by_cases a5 : i < 6001
  · exact chk_gap _ _ (by omega) chk5 i (by omega) (by omega)
  by_cases a6 : i < 7001
  · exact chk_gap _ _ (by omega) chk6 i (by omega) (by omega)
  by_cases a7 : i < 8001
  · exact chk_gap _ _ (by omega) chk7 i (by omega) (by omega)
  by_cases a8 : i < 9001
  · exact chk_gap _ _ (by omega) chk8 i (by omega) (by omega)
  · exact chk_gap _ _ (by omega) chk9 i (by omega) (by omega)
theorem gI_gap {d : Int} (h1 : 1000 ≤ d) (h2 : d < 9999) : gI d + 60 ≤ gI (d + 1) := by
  obtain ⟨n, rfl⟩ := Int.eq_ofNat_of_zero_le (show 0 ≤ d by omega)
  have h := gN_gap (n + 1) (by omega) (by omega)
  rw [show ((n : Int) + 1) = ((n + 1 : Nat) : Int) from rfl, gI_N, gI_N]
  rw [show n + 1 - 1 = n by omega] at h
  omega
theorem gI_first : gI 1000 = 1 := by
  have := gI_N 1000
  rw [gN_first] at this
  exact this
theorem gI_last : gI 9999 = 2097061 := by
  have := gI_N 9999
  rw [gN_last] at this
  exact this
theorem cf_hi : (lg 3142).hi ≤ (lg 3143).lo := by
  have h1 : (highS 314200000 20).2 = (hiN 20 314200000 0 : Nat) := by
    rw [highS_G]
    exact highG_N 20 314200000 0
  have h2 : (lowS 314300000 20).2 = (loN 20 314300000 0 : Nat) := by
    rw [lowS_G]
    exact lowG_N 20 314300000 0
  have h3 := cf_lo
  unfold lg logOf
  simp only
  rw [show (3142 : Int) * 100000 = 314200000 from rfl, show (3143 : Int) * 100000 = 314300000 from rfl, h1, h2]
  omega
def decN (s : Int) : Int := if s = 1 then 2 else if s = 2 then 3 else 1
theorem decN_bd (s : Int) : 1 ≤ decN s ∧ decN s ≤ 3 := by
  unfold decN
  split
  · omega
  · split <;> omega
def P (s n : Int) : Int := ptF s (atF n)
theorem P_0 {s n : Int} (h1 : s ≠ 1) (h2 : s ≠ 2) (h3 : s ≠ 3) (h4 : s ≠ 4) (h5 : s ≠ 5) : P s n = gI (1000 + n % 9000) / 2 := by
  unfold P ptF posI
  rw [if_neg h5, if_neg h1, if_neg h2, if_neg h3, if_neg h4]
  rfl
theorem P_3 {n : Int} : P 3 n = (2097152 - gI (1000 + n % 9000)) / 2 := by
  unfold P ptF posI gI atF
  rw [if_neg (by omega), if_neg (by omega), if_neg (by omega), if_pos rfl]
  simp only
  congr 1
  omega
theorem P_4 {n : Int} : P 4 n = if (lg (1000 + n % 9000)).lo - (lg 3142).hi < 0 then (gI (1000 + n % 9000) - gI 3142 + 2097152) / 2 else (gI (1000 + n % 9000) - gI 3142) / 2 := by
  unfold P ptF posI gI atF
  rw [if_neg (by omega), if_neg (by omega), if_neg (by omega), if_neg (by omega), if_pos rfl]
  simp only
  split
  · simp only
    congr 1
    omega
  · simp only
    congr 1
    omega
theorem P_12 {s n k : Int} (hs : (s = 1 ∧ k = 2) ∨ (s = 2 ∧ k = 3)) (h0 : 0 ≤ n) (hn : n < 9000 * k) : 2 * k * P s n ≤ gI (1000 + n % 9000) + 2097152 * (n / 9000) + k ∧ gI (1000 + n % 9000) + 2097152 * (n / 9000) ≤ 2 * k * P s n + 3 * k := by
  have hb := lg_bd (d := 1000 + n % 9000) (by omega) (by omega)
  have hle : (lg (1000 + n % 9000)).lo < (lg (1000 + n % 9000)).hi := logOf_le (by omega) (by omega)
  rcases hs with ⟨rfl, rfl⟩ | ⟨rfl, rfl⟩
  · unfold P ptF posI gI atF scaleI cdiv
    rw [if_neg (by omega), if_pos rfl]
    simp only
    rw [Int.min_eq_left (by omega), Int.max_eq_right (by omega)]
    omega
  · unfold P ptF posI gI atF scaleI cdiv
    rw [if_neg (by omega), if_neg (by omega), if_pos rfl]
    simp only
    rw [Int.min_eq_left (by omega), Int.max_eq_right (by omega)]
    omega
theorem lg_mono {a b : Int} (h1 : 1000 ≤ a) (h2 : a ≤ b) (h3 : b ≤ 9999) : (lg a).lo ≤ (lg b).lo ∧ (lg a).hi ≤ (lg b).hi := logOf_mono (by omega) (by omega) (by omega)
theorem lg_lt {a : Int} (h1 : 1000 ≤ a) (h3 : a ≤ 9999) : (lg a).lo < (lg a).hi := logOf_le (by omega) (by omega)
def lessP (s x y : Int) : Prop := if s = 3 then y < x else x < y
theorem P_step {s n : Int} (h5 : s ≠ 5) (h0 : 0 ≤ n) (hn : n + 1 < 9000 * decN s) (h4 : s = 4 → n ≠ 2142) : lessP s (P s n) (P s (n + 1)) := by
  have hd := decN_bd s
  -- the sums of the bounds at both places
  have hg : (n % 9000 < 8999 ∧ (n + 1) % 9000 = n % 9000 + 1 ∧ (n + 1) / 9000 = n / 9000 ∧ gI (1000 + n % 9000) + 60 ≤ gI (1000 + (n % 9000 + 1))) ∨ (n % 9000 = 8999 ∧ (n + 1) % 9000 = 0 ∧ (n + 1) / 9000 = n / 9000 + 1 ∧ gI (1000 + n % 9000) = 2097061 ∧ gI (1000 + 0) = 1) := by
    by_cases h : n % 9000 < 8999
    · refine .inl ⟨h, by omega, by omega, ?_⟩
      have := gI_gap (d := 1000 + n % 9000) (by omega) (by omega)
      rwa [show 1000 + n % 9000 + 1 = 1000 + (n % 9000 + 1) by omega] at this
    · have h' : n % 9000 = 8999 := by omega
      refine .inr ⟨h', by omega, by omega, ?_, gI_first⟩
      rw [h']
      exact gI_last
  unfold lessP
  by_cases h3 : s = 3
  · subst h3
    rw [if_pos rfl, P_3, P_3]
    have : decN 3 = 1 := rfl
    rw [this] at hn
    rcases hg with ⟨_, a, b, c⟩ | ⟨a, _, _, _, _⟩
    · rw [a]; omega
    · omega
  rw [if_neg h3]
  by_cases h1 : s = 1
  · subst h1
    have e : decN 1 = 2 := rfl
    rw [e] at hn
    have p1 := P_12 (s := 1) (n := n) (k := 2) (.inl ⟨rfl, rfl⟩) (by omega) (by omega)
    have p2 := P_12 (s := 1) (n := n + 1) (k := 2) (.inl ⟨rfl, rfl⟩) (by omega) (by omega)
    rcases hg with ⟨_, a, b, c⟩ | ⟨a, b, c, d, e⟩
    · rw [a, b] at p2; omega
    · rw [b, c, e] at p2; rw [d] at p1; omega
  by_cases h2 : s = 2
  · subst h2
    have e : decN 2 = 3 := rfl
    rw [e] at hn
    have p1 := P_12 (s := 2) (n := n) (k := 3) (.inr ⟨rfl, rfl⟩) (by omega) (by omega)
    have p2 := P_12 (s := 2) (n := n + 1) (k := 3) (.inr ⟨rfl, rfl⟩) (by omega) (by omega)
    rcases hg with ⟨_, a, b, c⟩ | ⟨a, b, c, d, e⟩
    · rw [a, b] at p2; omega
    · rw [b, c, e] at p2; rw [d] at p1; omega
  have hd1 : decN s = 1 := by unfold decN; rw [if_neg h1, if_neg h2]
  rw [hd1] at hn
  rcases hg with ⟨_, a, b, c⟩ | ⟨a, _, _, _, _⟩
  rotate_left
  · omega
  by_cases h4' : s = 4
  · subst h4'
    have hne := h4 rfl
    rw [P_4, P_4, a]
    have m1 := lg_mono (a := 1000 + n % 9000) (b := 1000 + (n % 9000 + 1)) (by omega) (by omega) (by omega)
    by_cases hx : n ≤ 2141
    · have m2 := lg_mono (a := 1000 + (n % 9000 + 1)) (b := 3142) (by omega) (by omega) (by omega)
      have m3 := lg_lt (a := 3142) (by omega) (by omega)
      rw [if_pos (by omega), if_pos (by omega)]
      omega
    · have m2 := lg_mono (a := 3143) (b := 1000 + n % 9000) (by omega) (by omega) (by omega)
      have m3 := cf_hi
      rw [if_neg (by omega), if_neg (by omega)]
      omega
  rw [P_0 h1 h2 h3 h4' h5, P_0 h1 h2 h3 h4' h5, a]
  omega
theorem lessP_trans {s x y z : Int} (h : lessP s x y) (h' : lessP s y z) : lessP s x z := by
  unfold lessP at *
  split at h
  · rw [if_pos ‹_›] at *; omega
  · rw [if_neg ‹_›] at *; omega
def IsSeg (s a b : Int) : Prop := 0 ≤ a ∧ a ≤ b ∧ b ≤ 9000 * decN s ∧ (s = 4 → b ≤ 2143 ∨ 2143 ≤ a)
theorem P_lt {s a b : Int} (h5 : s ≠ 5) (hs : IsSeg s a b) {i j : Int} (h1 : a ≤ i) (h2 : i < j) (h3 : j < b) : lessP s (P s i) (P s j) := by
  obtain ⟨s1, s2, s3, s4⟩ := hs
  obtain ⟨k, rfl⟩ : ∃ k : Nat, j = i + 1 + k := ⟨(j - i - 1).toNat, by omega⟩
  induction k with
  | zero =>
    have := P_step (s := s) (n := i) h5 (by omega) (by omega) (by intro h; have := s4 h; omega)
    rw [show i + 1 + ((0 : Nat) : Int) = i + 1 by omega]
    exact this
  | succ k ih =>
    have h := ih (by omega) (by omega)
    refine lessP_trans h ?_
    have := P_step (s := s) (n := i + 1 + (k : Nat)) h5 (by omega) (by omega) (by intro h; have := s4 h; omega)
    rwa [show i + 1 + ((k : Nat) : Int) + 1 = i + 1 + ((k + 1 : Nat) : Int) by omega] at this
def aw (s t n : Int) : Int := max (P s n - t) (t - P s n)
theorem aw_eq (s t n : Int) : aw s t n = if P s n < t then t - P s n else P s n - t := by
  unfold aw
  split <;> omega
def le3 (s t n m : Int) : Prop := aw s t n < aw s t m ∨ (aw s t n = aw s t m ∧ n ≤ m)
theorem le3_refl (s t n : Int) : le3 s t n n := .inr ⟨rfl, by omega⟩
theorem le3_trans {s t a b c : Int} (h : le3 s t a b) (h' : le3 s t b c) : le3 s t a c := by
  unfold le3 at *
  omega
theorem le3_anti {s t a b : Int} (h : le3 s t a b) (h' : le3 s t b a) : a = b := by
  unfold le3 at *
  omega
def IsNear (s t a b n : Int) : Prop := a ≤ n ∧ n < b ∧ ∀ m, a ≤ m → m < b → le3 s t n m
theorem near_unique {s t a b n m : Int} (h : IsNear s t a b n) (h' : IsNear s t a b m) : n = m :=
  le3_anti (h.2.2 m h'.1 h'.2.1) (h'.2.2 n h.1 h.2.1)
def reach (s t n : Int) : Prop := if s = 3 then P s n ≤ t else t ≤ P s n
instance (s t n : Int) : Decidable (reach s t n) := by unfold reach; split <;> infer_instance
def IsCut (s t a b h : Int) : Prop := a ≤ h ∧ h ≤ b ∧ (h = b ∨ reach s t h) ∧ (h = a ∨ ¬ reach s t (h - 1))
theorem cut_after {s t a b h m : Int} (h5 : s ≠ 5) (hs : IsSeg s a b) (hc : IsCut s t a b h) (h1 : h ≤ m) (h2 : m < b) : le3 s t h m := by
  by_cases he : m = h
  · subst he; exact le3_refl s t m
  obtain ⟨c1, c2, c3, c4⟩ := hc
  have hl := P_lt h5 hs (i := h) (j := m) c1 (by omega) h2
  have hr : reach s t h := c3.resolve_left (by omega)
  left
  rw [aw_eq, aw_eq]
  unfold lessP at hl
  unfold reach at hr
  by_cases h3 : s = 3
  · rw [if_pos h3] at hl hr
    rw [if_pos (show P s m < t by omega)]
    split <;> omega
  · rw [if_neg h3] at hl hr
    rw [if_neg (by omega), if_neg (by omega)]
    omega
theorem cut_before {s t a b h m : Int} (h5 : s ≠ 5) (hs : IsSeg s a b) (hc : IsCut s t a b h) (h1 : a ≤ m) (h2 : m < h) : le3 s t (h - 1) m := by
  by_cases he : m = h - 1
  · subst he; exact le3_refl s t _
  obtain ⟨c1, c2, c3, c4⟩ := hc
  have hl := P_lt h5 hs (i := m) (j := h - 1) h1 (by omega) (by omega)
  have hr : ¬ reach s t (h - 1) := c4.resolve_left (by omega)
  left
  rw [aw_eq, aw_eq]
  unfold lessP at hl
  unfold reach at hr
  by_cases h3 : s = 3
  · rw [if_pos h3] at hl hr
    rw [if_neg (by omega), if_neg (by omega)]
    omega
  · rw [if_neg h3] at hl hr
    rw [if_pos (by omega), if_pos (by omega)]
    omega
theorem cut_unique {s t a b h k : Int} (h5 : s ≠ 5) (hs : IsSeg s a b) (hc : IsCut s t a b h) (hk : IsCut s t a b k) : h = k := by
  have key : ∀ x y, IsCut s t a b x → IsCut s t a b y → ¬ x < y := by
    intro x y hx hy hlt
    have hr : reach s t x := hx.2.2.1.resolve_left (by have := hy.2.1; omega)
    have hn : ¬ reach s t (y - 1) := hy.2.2.2.resolve_left (by have := hx.1; omega)
    by_cases he : x = y - 1
    · rw [he] at hr; exact hn hr
    have hl := P_lt h5 hs (i := x) (j := y - 1) hx.1 (by omega) (by have := hy.2.1; omega)
    apply hn
    unfold lessP at hl
    unfold reach at hr ⊢
    by_cases h3 : s = 3
    · rw [if_pos h3] at *; omega
    · rw [if_neg h3] at *; omega
  have h1 := key h k hc hk
  have h2 := key k h hk hc
  omega
theorem near_snoc {s t a n k : Int} (hn : IsNear s t a k n) (hk : a ≤ k) : (aw s t k < aw s t n → IsNear s t a (k + 1) k) ∧ (¬ aw s t k < aw s t n → IsNear s t a (k + 1) n) := by
  obtain ⟨n1, n2, n3⟩ := hn
  constructor
  · intro hlt
    refine ⟨by omega, by omega, fun m m1 m2 => ?_⟩
    by_cases he : m = k
    · subst he; exact le3_refl s t m
    · exact le3_trans (.inl hlt) (n3 m m1 (by omega))
  · intro hlt
    refine ⟨n1, by omega, fun m m1 m2 => ?_⟩
    by_cases he : m = k
    · subst he; unfold le3; omega
    · exact n3 m m1 (by omega)
theorem near_one {s t a : Int} : IsNear s t a (a + 1) a := ⟨by omega, by omega, fun m h1 h2 => by rw [show m = a by omega]; exact le3_refl s t a⟩
def upd (s t : Int) : Option Int → Int → Option Int
  | none, n => some n
  | some b, n => if aw s t n < aw s t b ∨ (aw s t n = aw s t b ∧ n < b) then some n else some b
theorem upd_some (s t : Int) (o : Option Int) (n : Int) : ∃ x, upd s t o n = some x ∧ le3 s t x n ∧ (x = n ∨ o = some x) ∧ ∀ b, o = some b → le3 s t x b := by
  cases o with
  | none => exact ⟨n, rfl, le3_refl s t n, .inl rfl, fun b h => by cases h⟩
  | some b =>
    by_cases h : aw s t n < aw s t b ∨ (aw s t n = aw s t b ∧ n < b)
    · refine ⟨n, if_pos h, le3_refl s t n, .inl rfl, fun c hc => ?_⟩
      cases hc
      unfold le3
      omega
    · refine ⟨b, if_neg h, ?_, .inr rfl, fun c hc => ?_⟩
      · unfold le3; omega
      · cases hc; exact le3_refl s t b
def InvO (s t x : Int) : Option Int → Prop
  | none => x = 0
  | some n => IsNear s t 0 x n
def tries (s t a b h : Int) (o : Option Int) : Option Int :=
  if a < h then upd s t (if h < b then upd s t o h else o) (h - 1) else (if h < b then upd s t o h else o)
theorem tries_inv {s t a b h : Int} {o : Option Int} (h5 : s ≠ 5) (hs : IsSeg s a b) (_hab : a < b) (hc : IsCut s t a b h) (ho : InvO s t a o) : InvO s t b (tries s t a b h o) := by
  have c1 := hc.1
  have c2 := hc.2.1
  have ha := hs.1
  -- what a candidate must do
  have fin : ∀ (x : Int) (o' : Option Int), o' = some x → a ≤ x ∧ x < b ∨ o = some x → (∀ c, o = some c → le3 s t x c) → (∀ m, a ≤ m → m < b → le3 s t x m) → InvO s t b o' := by
    intro x o' he hx h1 h2
    subst he
    have hlo : ∀ m, 0 ≤ m → m < a → le3 s t x m := by
      intro m m1 m2
      cases o with
      | none => have : a = 0 := ho; omega
      | some c => exact le3_trans (h1 c rfl) (ho.2.2 m m1 m2)
    refine ⟨?_, ?_, fun m m1 m2 => ?_⟩
    · rcases hx with hx | hx
      · omega
      · subst hx; exact ho.1
    · rcases hx with hx | hx
      · omega
      · subst hx; have := ho.2.1; omega
    · by_cases hm : m < a
      · exact hlo m m1 hm
      · exact h2 m (by omega) m2
  unfold tries
  by_cases hb : h < b
  · rw [if_pos hb]
    obtain ⟨x, hx, x1, x2, x3⟩ := upd_some s t o h
    by_cases hh : a < h
    · rw [if_pos hh, hx]
      obtain ⟨y, hy, y1, y2, y3⟩ := upd_some s t (some x) (h - 1)
      have yx := y3 x rfl
      refine fin y _ hy ?_ (fun c hc' => le3_trans yx (x3 c hc')) (fun m m1 m2 => ?_)
      · rcases y2 with rfl | y2
        · exact .inl ⟨by omega, by omega⟩
        · cases y2
          rcases x2 with rfl | x2
          · exact .inl ⟨by omega, hb⟩
          · exact .inr x2
      · by_cases hm : h ≤ m
        · exact le3_trans yx (le3_trans x1 (cut_after h5 hs hc hm m2))
        · exact le3_trans y1 (cut_before h5 hs hc m1 (by omega))
    · rw [if_neg hh]
      refine fin x _ hx ?_ x3 (fun m m1 m2 => ?_)
      · rcases x2 with rfl | x2
        · exact .inl ⟨c1, hb⟩
        · exact .inr x2
      · exact le3_trans x1 (cut_after h5 hs hc (by omega) m2)
  · rw [if_neg hb, if_pos (by omega)]
    obtain ⟨y, hy, y1, y2, y3⟩ := upd_some s t o (h - 1)
    refine fin y _ hy ?_ y3 (fun m m1 m2 => le3_trans y1 (cut_before h5 hs hc m1 (by omega)))
    rcases y2 with rfl | y2
    · exact .inl ⟨by omega, by omega⟩
    · exact .inr y2
noncomputable def nearN (s t : Int) : Int := open Classical in if h : ∃ n, IsNear s t 0 (9000 * decN s) n then Classical.choose h else 0
theorem nearN_eq {s t n : Int} (h : IsNear s t 0 (9000 * decN s) n) : nearN s t = n := by
  unfold nearN
  rw [dif_pos ⟨n, h⟩]
  exact near_unique (Classical.choose_spec (⟨n, h⟩ : ∃ n, IsNear s t 0 (9000 * decN s) n)) h
noncomputable def readF (s t : Int) : Fig := atF (nearN s t)
theorem atF_fig {s n : Int} (h0 : 0 ≤ n) (h1 : n < 9000 * decN s) : isFig (atF n) = true := by
  have := decN_bd s
  unfold isFig
  rw [Bool.and_eq_true]
  exact ⟨inR_mk ⟨by simp only [atF]; omega, by simp only [atF]; omega⟩, inR_mk ⟨by simp only [atF]; omega, by simp only [atF]; omega⟩⟩
end Go.Proofs.YtgngbdacejghcaaGreatDoor
