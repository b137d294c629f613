/- DERIVED. Plain: what the program's reading of a move comes to. -/
import Derived.Test.YtgngbdacejghcaaDoorD13
import Derived.Test.YtgngbdacejghcaaDoorD19
import Derived.Test.YtgngbdacejghcaaDoorD21
namespace Go.Proofs.YtgngbdacejghcaaDoor
set_option linter.unusedVariables false
set_option linter.unusedSimpArgs false
open Go.RowKit
set_option maxRecDepth 100000
set_option linter.unusedVariables false

theorem cut_at {b : UInt8} : ∀ {x r : List UInt8}, b ∉ x → Lib.index (x ++ b :: r) [b] = (x.length : Nat)
  | [], r, _ => by rw [Lib.index_one]; simp [Lib.indexByte]
  | c :: x, r, h => by
    have hc : (c == b) = false := by
      rw [beq_eq_false_iff_ne]
      intro e
      exact h (by rw [e]; simp)
    have ih := cut_at (b := b) (x := x) (r := r) (fun (hm : b ∈ x) => h (List.mem_cons_of_mem _ hm))
    rw [Lib.index_one] at ih ⊢
    rw [List.cons_append]
    unfold Lib.indexByte
    rw [hc, ih]
    simp
theorem cut_part {b : UInt8} {x r : List UInt8} (h : b ∉ x) : Lib.cut (x ++ b :: r) [b] = (x, r, true) := by
  unfold Lib.cut
  rw [cut_at h, if_pos (by omega)]
  simp
def letters : List UInt8 := [80, 83, 84, 76, 82, 108, 114]
def kOf (c : UInt8) : Int := Lib.indexByte letters c
theorem kOf_bd (c : UInt8) : -1 ≤ kOf c ∧ kOf c ≤ 6 := by
  have hg := Lib.indexByte_ge letters c
  refine ⟨hg, ?_⟩
  by_cases h : Lib.indexByte letters c = -1
  · unfold kOf; omega
  · obtain ⟨o, ho⟩ : ∃ o : Nat, Lib.indexByte letters c = o := ⟨(Lib.indexByte letters c).toNat, by omega⟩
    have h1 := (List.getElem?_eq_some_iff.1 (Lib.indexByte_some ho).1).1
    have h7 : letters.length = 7 := rfl
    unfold kOf
    omega
theorem kOf_let {k : Int} {c : UInt8} (h0 : 0 ≤ k) (h6 : k ≤ 6) (h : letB k = [c]) : kOf c = k := by
  have hx : k = 0 ∨ k = 1 ∨ k = 2 ∨ k = 3 ∨ k = 4 ∨ k = 5 ∨ k = 6 := by omega
  rcases hx with rfl | rfl | rfl | rfl | rfl | rfl | rfl <;> (injection h with h _; subst h; decide)
theorem scZ_scB {s : Int} (h0 : 0 ≤ s) (h5 : s ≤ 5) : scZ (scB s) = s := by
  have hx : s = 0 ∨ s = 1 ∨ s = 2 ∨ s = 3 ∨ s = 4 ∨ s = 5 := by omega
  rcases hx with rfl | rfl | rfl | rfl | rfl | rfl <;> decide
/-- The move that the program makes of a text, before it looks whether it is one. -/
noncomputable def mkM (c : UInt8) (r : List UInt8) : Mov := if inR (kOf c) 0 2 = true then ⟨kOf c, scZ (Lib.cut r [58]).1, rfF (Lib.cut r [58]).2.1⟩ else ⟨kOf c, 0, ⟨0, 0⟩⟩
theorem mk_is {m : Mov} {c : UInt8} {r : List UInt8} (hm : isMove m = true) (h : mvT m = c :: r) : mkM c r = m := by
  obtain ⟨a0, a6⟩ := move_k hm
  obtain ⟨x, hx, _⟩ := letB_one a0 a6
  rcases isMove_cases hm with ⟨p1, p2, p3, p4⟩ | ⟨p1, p2, p3, p4⟩
  · obtain ⟨s0, s1, _⟩ := move_bd hm p2
    unfold mvT at h
    rw [if_pos p2, hx, List.append_assoc, List.append_assoc, List.singleton_append] at h
    injection h with e1 e2
    subst e1
    have hk := kOf_let a0 a6 hx
    have hc : Lib.cut r [58] = (scB m.s, figT m.f, true) := by rw [← e2]; exact cut_part (scB_no58 s0 (by omega))
    have hi : inR (kOf x) 0 2 = true := by rw [hk]; simp [inR]; omega
    unfold mkM
    rw [if_pos hi, hc, hk]
    simp only
    rw [scZ_scB s0 (by omega), (rf_yes (rdF_some p4 rfl)).1]
  · unfold mvT at h
    rw [if_neg (by omega), hx] at h
    injection h with e1 e2
    subst e1
    have hk := kOf_let a0 a6 hx
    have hi : ¬ inR (kOf x) 0 2 = true := by
      rw [hk]
      intro e
      have := inR_true e
      omega
    unfold mkM
    rw [if_neg hi, hk]
    obtain ⟨k, s, f⟩ := m
    simp only at p3 p4 ⊢
    rw [p3, p4]
theorem rdM_nil : rdM [] = none := rdM_none fun m hm e => by
  obtain ⟨a0, a6⟩ := move_k hm
  obtain ⟨x, hx, _⟩ := letB_one a0 a6
  unfold mvT at e
  rw [hx] at e
  split at e <;> simp at e
theorem rdM_mk (c : UInt8) (r : List UInt8) : rdM (c :: r) = if isMove (mkM c r) = true ∧ mvT (mkM c r) = c :: r then some (mkM c r) else none := by
  by_cases h : isMove (mkM c r) = true ∧ mvT (mkM c r) = c :: r
  · rw [if_pos h]
    exact rdM_some h.1 h.2
  · rw [if_neg h]
    refine rdM_none fun m hm e => ?_
    have := mk_is hm e
    exact h (by rw [this]; exact ⟨hm, e⟩)
end Go.Proofs.YtgngbdacejghcaaDoor
