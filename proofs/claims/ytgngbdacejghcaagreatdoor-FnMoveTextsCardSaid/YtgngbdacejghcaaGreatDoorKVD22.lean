/- DERIVED. Plain: moves read from text (words). -/
import Derived.Test.YtgngbdacejghcaaGreatDoorKVD5
import Derived.Test.YtgngbdacejghcaaGreatDoorKVD18
import Derived.Test.YtgngbdacejghcaaGreatDoorKVD13
import Derived.Test.YtgngbdacejghcaaGreatDoorKVD19
namespace Go.Proofs.YtgngbdacejghcaaGreatDoor
set_option linter.unusedVariables false
set_option linter.unusedSimpArgs false
open Go.RowKit
set_option maxRecDepth 100000
set_option linter.unusedVariables false
theorem part_unique {b : UInt8} : ∀ {x y r s : List UInt8}, b ∉ x → b ∉ y → x ++ b :: r = y ++ b :: s → x = y ∧ r = s
 | [], [], r, s, _, _, h => ⟨rfl, by simpa using h⟩
 | [], c :: y, r, s, _, hy, h => by
  injection h with h1 _
  exact absurd (by rw [h1]; simp) hy
 | c :: x, [], r, s, hx, _, h => by
  injection h with h1 _
  exact absurd (by rw [← h1]; simp) hx
 | c :: x, d :: y, r, s, hx, hy, h => by
  injection h with h1 h2
  obtain ⟨e1, e2⟩ := part_unique (x := x) (y := y) (fun m => hx (by simp [m])) (fun m => hy (by simp [m])) h2
  exact ⟨by rw [h1, e1], e2⟩
theorem scB_no58 {s : Int} (h0 : 0 ≤ s) (h5 : s ≤ 5) : (58 : UInt8) ∉ scB s := by
 have hx : s = 0 ∨ s = 1 ∨ s = 2 ∨ s = 3 ∨ s = 4 ∨ s = 5 := by omega
 rcases hx with rfl | rfl | rfl | rfl | rfl | rfl <;> decide
theorem scB_inj {s t : Int} (h0 : 0 ≤ s) (h5 : s ≤ 5) (g0 : 0 ≤ t) (g5 : t ≤ 5) (h : scB s = scB t) : s = t := by
 have hx : s = 0 ∨ s = 1 ∨ s = 2 ∨ s = 3 ∨ s = 4 ∨ s = 5 := by omega
 have hy : t = 0 ∨ t = 1 ∨ t = 2 ∨ t = 3 ∨ t = 4 ∨ t = 5 := by omega
 rcases hx with rfl | rfl | rfl | rfl | rfl | rfl <;> rcases hy with rfl | rfl | rfl | rfl | rfl | rfl <;> first | rfl | (exact absurd h (by decide))
theorem letB_one {k : Int} (h0 : 0 ≤ k) (h6 : k ≤ 6) : ∃ c, letB k = [c] ∧ ∀ j : Int, 0 ≤ j → j ≤ 6 → letB j = [c] → j = k := by
 have hx : k = 0 ∨ k = 1 ∨ k = 2 ∨ k = 3 ∨ k = 4 ∨ k = 5 ∨ k = 6 := by omega
 rcases hx with rfl | rfl | rfl | rfl | rfl | rfl | rfl
 all_goals
  refine ⟨_, rfl, fun j j0 j6 hj => ?_⟩
  have hy : j = 0 ∨ j = 1 ∨ j = 2 ∨ j = 3 ∨ j = 4 ∨ j = 5 ∨ j = 6 := by omega
  rcases hy with rfl | rfl | rfl | rfl | rfl | rfl | rfl <;> first | rfl | (exact absurd hj (by decide))
theorem mvT_inj {m n : Mov} (hm : isMove m = true) (hn : isMove n = true) (h : mvT m = mvT n) : m = n := by
 obtain ⟨a0, a6⟩ := move_k hm
 obtain ⟨b0, b6⟩ := move_k hn
 obtain ⟨c, hc, _⟩ := letB_one a0 a6
 obtain ⟨d, hd, hu⟩ := letB_one b0 b6
 have hk : m.k = n.k := by
  refine hu _ a0 a6 ?_
  have hh : (mvT m).head? = (mvT n).head? := by rw [h]
  unfold mvT at hh
  rw [hc, hd] at hh
  have e : c = d := by
   split at hh <;> split at hh <;> simpa using hh
  rw [hc, e]
 rcases isMove_cases hm with ⟨p1, p2, p3, p4⟩ | ⟨p1, p2, p3, p4⟩
 · rcases isMove_cases hn with ⟨q1, q2, q3, q4⟩ | ⟨q1, q2, q3, q4⟩
   · obtain ⟨s0, s1, _⟩ := move_bd hm p2
     obtain ⟨t0, t1, _⟩ := move_bd hn q2
     unfold mvT at h
     rw [if_pos p2, if_pos q2, hk, List.append_assoc, List.append_assoc, List.append_assoc, List.append_assoc] at h
     have h2 := List.append_cancel_left h
     obtain ⟨e1, e2⟩ := part_unique (scB_no58 s0 (by omega)) (scB_no58 t0 (by omega)) h2
     have e3 := scB_inj s0 (by omega) t0 (by omega) e1
     have e4 := figT_inj p4 q4 e2
     obtain ⟨k, s, f⟩ := m
     obtain ⟨k', s', f'⟩ := n
     simp only at hk e3 e4
     rw [hk, e3, e4]
   · omega
 · rcases isMove_cases hn with ⟨q1, q2, q3, q4⟩ | ⟨q1, q2, q3, q4⟩
   · omega
   · obtain ⟨k, s, f⟩ := m
     obtain ⟨k', s', f'⟩ := n
     simp only at hk p3 p4 q3 q4
     rw [hk, p3, p4, q3, q4]
open Classical in
noncomputable def rdM (s : List UInt8) : Option Mov := if h : ∃ m, isMove m = true ∧ mvT m = s then some h.choose else none
theorem rdM_some {s : List UInt8} {m : Mov} (h1 : isMove m = true) (h2 : mvT m = s) : rdM s = some m := by
 have h : ∃ m, isMove m = true ∧ mvT m = s := ⟨m, h1, h2⟩
 unfold rdM
 rw [dif_pos h]
 congr 1
 exact mvT_inj h.choose_spec.1 h1 (h.choose_spec.2.trans h2.symm)
theorem rdM_none {s : List UInt8} (h : ∀ m, isMove m = true → mvT m ≠ s) : rdM s = none := by
 unfold rdM
 rw [dif_neg (fun ⟨f, a, b⟩ => h f a b)]
theorem rdM_is {s : List UInt8} {m : Mov} (h : rdM s = some m) : isMove m = true ∧ mvT m = s := by
 unfold rdM at h
 split at h
 · rename_i hx
   injection h with h
   subst h
   exact hx.choose_spec
 · cases h
end Go.Proofs.YtgngbdacejghcaaGreatDoor
namespace Go.Proofs.YtgngbdacejghcaaGreatDoor
set_option linter.unusedVariables false
set_option linter.unusedSimpArgs false
open Go.RowKit
set_option maxRecDepth 100000
set_option linter.unusedVariables false
theorem cut_at {b : UInt8} : ∀ {x r : List UInt8}, b ∉ x → Lib.index (x ++ b :: r) [b] = (x.length : Nat)
 | [], r, _ => by rw [Lib.index_one]; simp [Lib.indexByte]
 | c :: x, r, h => by
  have hc : (c == b) = false := by
   rw [beq_eq_false_iff_ne]
   intro e
   exact h (by rw [e]; simp)
  have ih := cut_at (b := b) (x := x) (r := r) (fun (hm : b ∈ x) => h (List.mem_cons_of_mem _ hm))
  rw [Lib.index_one] at ih ⊢
  rw [List.cons_append]
  unfold Lib.indexByte
  rw [hc, ih]
  simp
theorem cut_part {b : UInt8} {x r : List UInt8} (h : b ∉ x) : Lib.cut (x ++ b :: r) [b] = (x, r, true) := by
 unfold Lib.cut
 rw [cut_at h, if_pos (by omega)]
 simp
def letters : List UInt8 := [80, 83, 84, 76, 82, 108, 114]
def kOf (c : UInt8) : Int := Lib.indexByte letters c
theorem kOf_bd (c : UInt8) : -1 ≤ kOf c ∧ kOf c ≤ 6 := by
 have hg := Lib.indexByte_ge letters c
 refine ⟨hg, ?_⟩
 by_cases h : Lib.indexByte letters c = -1
 · unfold kOf; omega
 · obtain ⟨o, ho⟩ : ∃ o : Nat, Lib.indexByte letters c = o := ⟨(Lib.indexByte letters c).toNat, by omega⟩
   have h1 := (List.getElem?_eq_some_iff.1 (Lib.indexByte_some ho).1).1
   have h7 : letters.length = 7 := rfl
   unfold kOf
   omega
theorem kOf_let {k : Int} {c : UInt8} (h0 : 0 ≤ k) (h6 : k ≤ 6) (h : letB k = [c]) : kOf c = k := by
 have hx : k = 0 ∨ k = 1 ∨ k = 2 ∨ k = 3 ∨ k = 4 ∨ k = 5 ∨ k = 6 := by omega
 rcases hx with rfl | rfl | rfl | rfl | rfl | rfl | rfl <;> (injection h with h _; subst h; decide)
theorem scZ_scB {s : Int} (h0 : 0 ≤ s) (h5 : s ≤ 5) : scZ (scB s) = s := by
 have hx : s = 0 ∨ s = 1 ∨ s = 2 ∨ s = 3 ∨ s = 4 ∨ s = 5 := by omega
 rcases hx with rfl | rfl | rfl | rfl | rfl | rfl <;> decide
noncomputable def mkM (c : UInt8) (r : List UInt8) : Mov := if inR (kOf c) 0 2 = true then ⟨kOf c, scZ (Lib.cut r [58]).1, rfF (Lib.cut r [58]).2.1⟩ else ⟨kOf c, 0, ⟨0, 0⟩⟩
theorem mk_is {m : Mov} {c : UInt8} {r : List UInt8} (hm : isMove m = true) (h : mvT m = c :: r) : mkM c r = m := by
 obtain ⟨a0, a6⟩ := move_k hm
 obtain ⟨x, hx, _⟩ := letB_one a0 a6
 rcases isMove_cases hm with ⟨p1, p2, p3, p4⟩ | ⟨p1, p2, p3, p4⟩
 · obtain ⟨s0, s1, _⟩ := move_bd hm p2
   unfold mvT at h
   rw [if_pos p2, hx, List.append_assoc, List.append_assoc, List.singleton_append] at h
   injection h with e1 e2
   subst e1
   have hk := kOf_let a0 a6 hx
   have hc : Lib.cut r [58] = (scB m.s, figT m.f, true) := by rw [← e2]; exact cut_part (scB_no58 s0 (by omega))
   have hi : inR (kOf x) 0 2 = true := by rw [hk]; simp [inR]; omega
   unfold mkM
   rw [if_pos hi, hc, hk]
   simp only
   rw [scZ_scB s0 (by omega), (rf_yes (rdF_some p4 rfl)).1]
 · unfold mvT at h
   rw [if_neg (by omega), hx] at h
   injection h with e1 e2
   subst e1
   have hk := kOf_let a0 a6 hx
   have hi : ¬ inR (kOf x) 0 2 = true := by
    rw [hk]
    intro e
    have := inR_true e
    omega
   unfold mkM
   rw [if_neg hi, hk]
   obtain ⟨k, s, f⟩ := m
   simp only at p3 p4 ⊢
   rw [p3, p4]
theorem rdM_nil : rdM [] = none := rdM_none fun m hm e => by
 obtain ⟨a0, a6⟩ := move_k hm
 obtain ⟨x, hx, _⟩ := letB_one a0 a6
 unfold mvT at e
 rw [hx] at e
 split at e <;> simp at e
theorem rdM_mk (c : UInt8) (r : List UInt8) : rdM (c :: r) = if isMove (mkM c r) = true ∧ mvT (mkM c r) = c :: r then some (mkM c r) else none := by
 by_cases h : isMove (mkM c r) = true ∧ mvT (mkM c r) = c :: r
 · rw [if_pos h]
   exact rdM_some h.1 h.2
 · rw [if_neg h]
   refine rdM_none fun m hm e => ?_
   have := mk_is hm e
   exact h (by rw [this]; exact ⟨hm, e⟩)
end Go.Proofs.YtgngbdacejghcaaGreatDoor
