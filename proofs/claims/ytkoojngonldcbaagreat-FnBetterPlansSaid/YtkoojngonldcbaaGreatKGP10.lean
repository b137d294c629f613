/- DERIVED. Plain words: units of a plan, the length that is needed. No program in sight. -/
import Derived.Test.YtkoojngonldcbaaGreatKGP9
namespace Go.Proofs.YtkoojngonldcbaaGreat
set_option linter.unusedVariables false
set_option linter.unusedSimpArgs false
def isErs (e : Ers) : Bool := inR e.en 0 200 && (inR e.pa 0 200 && inR e.ey 0 200)
theorem isErs_bd {e : Ers} (h : isErs e = true) : 0 ≤ e.en ∧ e.en ≤ 200 ∧ 0 ≤ e.pa ∧ e.pa ≤ 200 ∧ 0 ≤ e.ey ∧ e.ey ≤ 200 := by
  simp only [isErs, Bool.and_eq_true] at h
  have h1 := inR_true h.1
  have h2 := inR_true h.2.1
  have h3 := inR_true h.2.2
  omega
def totE (e : Ers) : Int := 2 * e.en + e.pa + e.ey
theorem totE_bd {e : Ers} (h : isErs e = true) : 0 ≤ totE e ∧ totE e ≤ 800 := by
  have := isErs_bd h
  unfold totE
  omega
def unE (len : Int) (e : Ers) : Int := cdiv (totE e * 1048576) len
theorem cdiv_le {a L x : Int} (h : 0 < L) : cdiv a L ≤ x ↔ a ≤ x * L := by
  unfold cdiv
  have h1 : -x ≤ (-a) / L ↔ (-x) * L ≤ -a := Int.le_ediv_iff_mul_le h
  rw [Int.neg_mul] at h1
  omega
theorem cdiv_nonneg {a L : Int} (ha : 0 ≤ a) (h : 0 < L) : 0 ≤ cdiv a L := by
  unfold cdiv
  have : (-a) / L ≤ 0 := by
    have h1 := Int.ediv_le_ediv h (show -a ≤ 0 by omega)
    simpa using h1
  omega
theorem cdiv_self_le {a L : Int} (ha : 0 ≤ a) (h : 0 < L) : cdiv a L ≤ a := by
  rw [cdiv_le h]
  have := Int.mul_le_mul_of_nonneg_left (show (1 : Int) ≤ L by omega) ha
  omega
theorem unE_bd {len : Int} {e : Ers} (h : isErs e = true) (hl : 1 ≤ len) : 0 ≤ unE len e ∧ unE len e ≤ 838860800 := by
  have ht := totE_bd h
  have h1 := cdiv_nonneg (a := totE e * 1048576) (L := len) (by omega) (by omega)
  have h2 := cdiv_self_le (a := totE e * 1048576) (L := len) (by omega) (by omega)
  unfold unE
  omega
theorem countSet_bdk (l : List Mov) : ∀ k : Nat, 0 ≤ countSet (l.take k) ∧ countSet (l.take k) ≤ k
  | 0 => by simp [countSet]
  | k + 1 => by
    have ih := countSet_bdk l k
    by_cases hk : k < l.length
    · obtain ⟨m, hm⟩ := get_ex hk
      rw [take_snoc' hm, countSet_snoc]
      unfold setStep
      split <;> omega
    · rw [List.take_of_length_le (by omega)] at ih ⊢
      omega
theorem countSet_bd (l : List Mov) : 0 ≤ countSet l ∧ countSet l ≤ l.length := by
  have := countSet_bdk l l.length
  rwa [List.take_of_length_le (Nat.le_refl _)] at this
def codeBound (r : Rul) (c : List Trm) (e : Ers) : Int := if isErs e then codePlan r c else 1
theorem codeBound_0 {r : Rul} {c : List Trm} {e : Ers} (h : codeBound r c e = 0) : isErs e = true ∧ codePlan r c = 0 := by
  unfold codeBound at h
  split at h
  · rename_i h1; exact ⟨h1, h⟩
  · omega
def unP (len : Int) (c : List Trm) (e : Ers) : Int := (countSet (planL c) + 1) * (unE len e + 2)
def planUn (r : Rul) (c : List Trm) (e : Ers) : Int := if codeBound r c e = 0 then unP r.len c e else 0
theorem unP_bd {len : Int} {c : List Trm} {e : Ers} (h : isErs e = true) (hl : 1 ≤ len) (h17 : (planL c).length ≤ 17) : 0 ≤ unP len c e ∧ unP len c e ≤ 15099494436 := by
  have h1 := unE_bd h hl
  have h2 := countSet_bd (planL c)
  unfold unP
  have h3 := Int.mul_le_mul (show countSet (planL c) + 1 ≤ 18 by omega) (show unE len e + 2 ≤ 838860802 by omega) (by omega) (by omega)
  have h4 := Int.mul_nonneg (show 0 ≤ countSet (planL c) + 1 by omega) (show 0 ≤ unE len e + 2 by omega)
  omega
theorem isRule_len {r : Rul} (h : isRule r = true) : 1 ≤ r.len ∧ r.len ≤ 100000 := by
  have := inR_true (isRule_and h).1
  omega
def lenU (c : List Trm) (u : Int) : Int := u / (countSet (planL c) + 1) - 2
def needE (e : Ers) : Int := totE e * 1048576
def lenV (c : List Trm) (e : Ers) (u : Int) : Int := if lenU c u < 1 then 1 else max 1 (cdiv (needE e) (lenU c u))
def lenB (c : List Trm) (e : Ers) (u : Int) : Bool := if lenU c u < 1 then lenU c u == 0 && needE e == 0 else decide (lenV c e u ≤ 100000)
def codeLen (r : Rul) (c : List Trm) (e : Ers) (u : Int) : Int := if codeBound r c e = 0 then (if inR u 1 1048576 then (if lenB c e u then 0 else 4) else 2) else codeBound r c e
def lenNeed (r : Rul) (c : List Trm) (e : Ers) (u : Int) : Int := if codeLen r c e u = 0 then lenV c e u else 0
theorem unP_le {c : List Trm} {e : Ers} {u L : Int} (he : isErs e = true) (hL : 1 ≤ L) : unP L c e ≤ u ↔ ((1 ≤ lenU c u ∧ cdiv (needE e) (lenU c u) ≤ L) ∨ (lenU c u = 0 ∧ needE e = 0)) := by
  have hc := (countSet_bd (planL c)).1
  have hn : 0 ≤ needE e := by have := totE_bd he; unfold needE; omega
  have h1 : unP L c e ≤ u ↔ unE L e ≤ lenU c u := by
    unfold unP lenU
    have := Int.le_ediv_iff_mul_le (a := unE L e + 2) (b := u) (c := countSet (planL c) + 1) (by omega)
    rw [Int.mul_comm (countSet (planL c) + 1)]
    omega
  rw [h1]
  have h2 : unE L e ≤ lenU c u ↔ needE e ≤ lenU c u * L := cdiv_le (by omega)
  rw [h2]
  rcases (show lenU c u < 0 ∨ lenU c u = 0 ∨ 1 ≤ lenU c u by omega) with h | h | h
  · have h3 : lenU c u * L ≤ -1 * L := Int.mul_le_mul_of_nonneg_right (by omega) (by omega)
    constructor
    · intro h4; omega
    · intro h4; omega
  · rw [h]
    constructor
    · intro h4; exact .inr ⟨rfl, by omega⟩
    · intro h4; omega
  · have h3 : cdiv (needE e) (lenU c u) ≤ L ↔ needE e ≤ L * lenU c u := cdiv_le (by omega)
    rw [h3, Int.mul_comm]
    constructor
    · intro h4; exact .inl ⟨h, h4⟩
    · intro h4; omega
theorem len_found {c : List Trm} {e : Ers} {u T : Int} (he : isErs e = true) (h1 : 1 ≤ T) (h2 : T ≤ 100001) (hT : T = 100001 ∨ unP T c e ≤ u) (hL : T - 1 = 0 ∨ ¬ unP (T - 1) c e ≤ u) :
    (lenB c e u = true ∧ T = lenV c e u ∧ T ≤ 100000) ∨ (lenB c e u = false ∧ T = 100001) := by
  have hn : 0 ≤ needE e := by have := totE_bd he; unfold needE; omega
  have kT := unP_le (c := c) (u := u) he h1
  have kL : T - 1 = 0 ∨ ¬ ((1 ≤ lenU c u ∧ cdiv (needE e) (lenU c u) ≤ T - 1) ∨ (lenU c u = 0 ∧ needE e = 0)) := by
    rcases hL with h | h
    · exact .inl h
    · by_cases h0 : T - 1 = 0
      · exact .inl h0
      · exact .inr (fun q => h ((unP_le he (by omega)).2 q))
  rw [kT] at hT
  unfold lenB lenV
  by_cases hu : lenU c u < 1
  · rw [if_pos hu, if_pos hu]
    by_cases hz : lenU c u = 0 ∧ needE e = 0
    · refine .inl ⟨by simp [hz.1, hz.2], by omega, by omega⟩
    · refine .inr ⟨?_, by omega⟩
      rw [Bool.and_eq_false_iff]
      simp only [beq_eq_false_iff_ne]
      omega
  · rw [if_neg hu, if_neg hu]
    by_cases hm : max 1 (cdiv (needE e) (lenU c u)) ≤ 100000
    · exact .inl ⟨by simp only [decide_eq_true_eq]; exact hm, by omega, by omega⟩
    · exact .inr ⟨by simp only [decide_eq_false_iff_not]; exact hm, by omega⟩
theorem codeMoves_plan {r : Rul} {c : List Trm} (hC : hasI r.st 0 = true ∧ hasI r.sl 0 = true) (h : isChain c = true) : codeMoves (planL c) = 0 := by
  have ho := OkP.usual hC h
  unfold codeMoves planL
  rw [if_pos ho.mv, if_pos (Nat.le_trans ho.len (by decide))]
end Go.Proofs.YtkoojngonldcbaaGreat
