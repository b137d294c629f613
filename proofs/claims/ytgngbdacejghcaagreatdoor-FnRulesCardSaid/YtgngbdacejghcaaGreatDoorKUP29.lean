/- DERIVED. Plain words: a figure to which the cursor is set is read there again. No program in sight. -/
import Derived.Test.YtgngbdacejghcaaGreatDoorKUP12
namespace Go.Proofs.YtgngbdacejghcaaGreatDoor
set_option linter.unusedVariables false
set_option linter.unusedSimpArgs false
set_option maxRecDepth 100000
theorem near_exR (s t : Int) : ∀ k : Nat, ∃ n, IsNear s t 0 ((k : Int) + 1) n
  | 0 => ⟨0, near_one⟩
  | k + 1 => by
    obtain ⟨n, hn⟩ := near_exR s t k
    obtain ⟨h1, h2⟩ := near_snoc hn (by omega)
    by_cases h : aw s t ((k : Int) + 1) < aw s t n
    · exact ⟨_, by have := h1 h; rwa [show ((k + 1 : Nat) : Int) + 1 = (k : Int) + 1 + 1 from by omega]⟩
    · exact ⟨_, by have := h2 h; rwa [show ((k + 1 : Nat) : Int) + 1 = (k : Int) + 1 + 1 from by omega]⟩
theorem readF_nearR (s t : Int) : ∃ n, IsNear s t 0 (9000 * decN s) n ∧ readF s t = atF n := by
  have hd := decN_bd s
  obtain ⟨n, hn⟩ := near_exR s t (9000 * decN s - 1).toNat
  rw [show ((9000 * decN s - 1).toNat : Int) + 1 = 9000 * decN s from by omega] at hn
  exact ⟨n, hn, by unfold readF; rw [nearN_eq hn]⟩
theorem pt_own {s : Int} {f : Fig} (h5 : s ≠ 5) (hf : isFig f = true) : ∃ n, 0 ≤ n ∧ n < 9000 * decN s ∧ P s n = ptF s f := by
  obtain ⟨f1, f2, _, _⟩ := isFig_true hf
  obtain ⟨d, t⟩ := f
  simp only at f1 f2
  by_cases h1 : s = 1
  · subst h1
    refine ⟨9000 * (t % 2) + (d - 1000), by omega, by rw [show decN 1 = 2 from rfl]; omega, ?_⟩
    unfold P
    rw [atF_of (by omega) (by omega)]
    unfold ptF posI
    rw [if_neg (by omega), if_pos rfl, if_neg (by omega), if_pos rfl]
    simp only
    rw [show 1000 + (d - 1000) = d from by omega, show t % 2 % 2 = t % 2 from by omega]
  by_cases h2 : s = 2
  · subst h2
    refine ⟨9000 * (t % 3) + (d - 1000), by omega, by rw [show decN 2 = 3 from rfl]; omega, ?_⟩
    unfold P
    rw [atF_of (by omega) (by omega)]
    unfold ptF posI
    rw [if_neg (by omega), if_neg (by omega), if_pos rfl, if_neg (by omega), if_neg (by omega), if_pos rfl]
    simp only
    rw [show 1000 + (d - 1000) = d from by omega, show t % 3 % 3 = t % 3 from by omega]
  · have hd : decN s = 1 := by unfold decN; rw [if_neg h1, if_neg h2]
    refine ⟨9000 * 0 + (d - 1000), by omega, by omega, ?_⟩
    unfold P
    rw [atF_of (by omega) (by omega)]
    unfold ptF posI
    rw [if_neg h5, if_neg h1, if_neg h2, if_neg h5, if_neg h1, if_neg h2]
    simp only
    rw [show 1000 + (d - 1000) = d from by omega]
theorem pt_read {s : Int} {f : Fig} (h5 : s ≠ 5) (hf : isFig f = true) : ptF s (readF s (ptF s f)) = ptF s f ∧ isFig (readF s (ptF s f)) = true := by
  obtain ⟨n, ⟨n1, n2, hn⟩, hr⟩ := readF_nearR s (ptF s f)
  obtain ⟨m, m1, m2, hm⟩ := pt_own h5 hf
  have h := hn m m1 m2
  rw [hr]
  refine ⟨?_, atF_fig n1 n2⟩
  have e : P s n = ptF s (atF n) := rfl
  rcases h with h | ⟨h, _⟩ <;> (unfold aw at h; rw [hm] at h; omega)
theorem pt_in {s : Int} {f : Fig} (h5 : s ≠ 5) (hf : isFig f = true) : 0 ≤ ptF s f ∧ ptF s f ≤ 1048576 := by
  obtain ⟨f1, f2, _, _⟩ := isFig_true hf
  have hb := lg_bd f1 f2
  have hl := lg_lt f1 f2
  unfold ptF posI
  rw [if_neg h5]
  split
  · unfold scaleI cdiv
    simp only
    rw [Int.min_eq_left (by omega), Int.max_eq_right (by omega)]
    omega
  split
  · unfold scaleI cdiv
    simp only
    rw [Int.min_eq_left (by omega), Int.max_eq_right (by omega)]
    omega
  split
  · simp only
    omega
  split
  · have hc := lg_bd (d := 3142) (by omega) (by omega)
    have hk := lg_lt (a := 3142) (by omega) (by omega)
    have hx := cf_hi
    split
    · rename_i h
      simp only
      have hle : f.d ≤ 3142 := by
        apply Classical.byContradiction
        intro hn
        have := lg_mono (a := 3143) (b := f.d) (by omega) (by omega) f2
        omega
      have := lg_mono (a := f.d) (b := 3142) f1 hle (by omega)
      omega
    · rename_i h
      simp only
      omega
  · omega
end Go.Proofs.YtgngbdacejghcaaGreatDoor
