/- DERIVED. Walks: marks on a rule, and what a rule holds. -/
import Derived.Test.YtgngbdacejghcaaDoorD15
import Derived.Test.YtgngbdacejghcaaDoorHRule
namespace Go.Proofs.YtgngbdacejghcaaDoor
set_option linter.unusedVariables false
set_option linter.unusedSimpArgs false
open Go.RowKit
set_option maxRecDepth 100000
set_option linter.unusedVariables false

theorem w_markRule2 (n : Int) (x y : Option Addr) (n1 n2 c1 c2 b1 b2 : Nat) (xs ys : List Value) (hn : n1 ≤ 1048576) (hn2 : n2 ≤ 1048576) (w : World) (ho : w.ownsRow b1 2 1 (.slice x n1 c1) n1 xs) (ho2 : w.ownsRow b2 2 1 (.slice y n2 c2) n2 ys) (hap : (Value.slice y n2 c2).ownBlock = none ∨ (Value.slice y n2 c2).ownBlock ≠ (Value.slice x n1 c1).ownBlock) :
    Calls Tryd.prog 22 #[.agg #[.int .i64 n, .slice x n1 c1, .slice y n2 c2], .int .i64 1] w fun e w' => e = .returned (.int .i64 (1 + n1 + n2)) ∧ TwoGo (.slice x n1 c1) (.slice y n2 c2) w w' ∧
      w'.ownsRow b1 2 1 (.slice x n1 c1) n1 (markInt 1 n1) ∧ w'.ownsRow b2 2 1 (.slice y n2 c2) n2 (markInt (1 + n1) n2) := by
  have HO := Lib.hid ho
  have HO2 := Lib.hid ho2
  have HA := Lib.hid hap
  have HN := Lib.hid (own_neR ho (k := w.heap.size) (.inr (Nat.le_refl _)))
  have HN2 := Lib.hid (own_neR ho2 (k := w.heap.size) (.inr (Nat.le_refl _)))
  clear ho ho2 hap
  go_enter Tryd.func22, Tryd.ntmps22
  go_wp2_with fail
  refine (w_markInt64S _ n1 b1 xs _ (by omega) (by omega) hn _ (HO.out.alloc _)).mono ?_
  rintro e w1 ⟨rfl, ho, hg⟩
  have hk1 := grown_keepR hg (heap_alloc_new w (.cells #[.int .i64 n, .slice x n1 c1, .slice y n2 c2] 39)) HN.out
  obtain ⟨c0, f0, z0⟩ := blk_at hk1
  have HG := Lib.hid hg
  have ho2' := (HO2.out.alloc (.cells #[.int .i64 n, .slice x n1 c1, .slice y n2 c2] 39)).kept hg HA.out
  have HO2' := Lib.hid ho2'
  have HM1 := Lib.hid ho
  clear hk1 hg ho ho2'
  go_wp2_with fail
  refine (w_markInt64S _ n2 b2 ys _ (by omega) (by omega) hn2 _ HO2'.out).mono ?_
  rintro e w2 ⟨rfl, ho, hg⟩
  have HG2 := Lib.hid hg
  have HM2 := Lib.hid ho
  have HM1' := Lib.hid (rows_grown HM1.out hg (fun k e1 e2 => by
    rcases HA.out with h | h
    · rw [h] at e2; cases e2
    · exact h (e2.trans e1.symm)))
  clear ho hg
  go_wp2
  go_ret
  refine ⟨rfl, ⟨HG2.out.os.trans HG.out.os, HG2.out.tape.trans HG.out.tape, HG2.out.output.trans HG.out.output, ?_, fun j hj h1 h2 => ?_⟩, HM1'.out, HM2.out⟩
  · have h1 := HG.out.size
    have h2 := HG2.out.size
    simp at h1
    omega
  · have hs := HG.out.size
    simp at hs
    exact (HG2.out.block j (by omega) (fun e => h2 e.symm)).trans ((HG.out.block j (by simp; omega) (fun e => h1 e.symm)).trans (Below.heap_alloc w _ j hj))

theorem w_heldRule2 (n : Int) (u v : Value) (n1 n2 : Nat) (w : World) (hn : n1 ≤ 1048576) (hn2 : n2 ≤ 1048576) (h : Reads w u n1 1 (markInt 1 n1)) (h2 : Reads w v n2 1 (markInt (1 + n1) n2)) :
    Calls Tryd.prog 23 #[.agg #[.int .i64 n, u, v], .int .i64 1] w fun e w' => e = .returned (.int .i64 (1 + n1 + n2)) ∧ Later w w' := by
  have H := Lib.hid h
  have H2 := Lib.hid h2
  obtain ⟨_, _, au, capu, rfl, _, _, _⟩ := h
  obtain ⟨_, _, av, capv, rfl, _, _, _⟩ := h2
  have hb1 : decide ((1 : Int) + (n1 : Int) < 0) = false := decide_eq_false (by omega)
  have hb2 : decide ((1 : Int) + (n1 : Int) + (n2 : Int) < 0) = false := decide_eq_false (by omega)
  go_enter Tryd.func23, Tryd.ntmps23
  go_wp2_with fail
  refine (w_heldInt64S _ n1 1 (by omega) (by omega) _ (H.out.later (by (repeat (with_reducible first | exact Later.refl _ | refine Later.alloc ?_ _ | refine Later.drew ?_ | refine Later.drewN ?_ _ | refine Later.setCell ?_ (by simp; try omega) _ | refine Later.trans ?_ (by assumption)))))).mono ?_
  rintro e w1 ⟨rfl, hw⟩
  subst hw
  go_wp2_with fail
  refine (w_heldInt64S _ n2 _ (by omega) (by omega) _ (H2.out.later (by (repeat (with_reducible first | exact Later.refl _ | refine Later.alloc ?_ _ | refine Later.drew ?_ | refine Later.drewN ?_ _ | refine Later.setCell ?_ (by simp; try omega) _ | refine Later.trans ?_ (by assumption)))))).mono ?_
  rintro e w2 ⟨rfl, hw⟩
  subst hw
  go_wp2
  go_ret
  exact ⟨rfl, by (repeat (with_reducible first | exact Later.refl _ | refine Later.alloc ?_ _ | refine Later.drew ?_ | refine Later.drewN ?_ _ | refine Later.setCell ?_ (by simp; try omega) _ | refine Later.trans ?_ (by assumption)))⟩
end Go.Proofs.YtgngbdacejghcaaDoor
