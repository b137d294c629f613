/- DERIVED. Walks: the laws' helpers on rules and settings. -/
import Derived.Test.YtgngbdacejghcaaDoorM1
import Derived.Test.YtgngbdacejghcaaDoorBA
import Derived.Test.YtgngbdacejghcaaDoorHInt64
namespace Go.Proofs.YtgngbdacejghcaaDoor
set_option linter.unusedVariables false
set_option linter.unusedSimpArgs false
open Go.RowKit
set_option maxRecDepth 100000

theorem set_0of3 {w : World} {k : Nat} {x y z : Value} {T : TypeId} (h : w.heap[k]? = some (.cells #[x, y, z] T (0, 0))) (a : Value) :
    (w.setCell ⟨k, 0, none⟩ a).heap[k]? = some (.cells #[a, y, z] T (0, 0)) := by
  rw [heap_setCell_same w k 0 _ T a h]
  rfl
theorem set_1of3 {w : World} {k : Nat} {x y z : Value} {T : TypeId} (h : w.heap[k]? = some (.cells #[x, y, z] T (0, 0))) (a : Value) :
    (w.setCell ⟨k, 1, none⟩ a).heap[k]? = some (.cells #[x, a, z] T (0, 0)) := by
  rw [heap_setCell_same w k 1 _ T a h]
  rfl
theorem set_2of3 {w : World} {k : Nat} {x y z : Value} {T : TypeId} (h : w.heap[k]? = some (.cells #[x, y, z] T (0, 0))) (a : Value) :
    (w.setCell ⟨k, 2, none⟩ a).heap[k]? = some (.cells #[x, y, a] T (0, 0)) := by
  rw [heap_setCell_same w k 2 _ T a h]
  rfl
theorem own_setCell {w : World} {base : Nat} {e : TypeId} {s : Nat} {v : Value} {n : Nat} {xs : List Value} (ho : w.ownsRow base e s v n xs) {k : Nat} (hk : k < base) (j : Nat) (x : Value) : (w.setCell ⟨k, j, none⟩ x).ownsRow base e s v n xs :=
  ho.kept (row := some k) (grown_setCell (grown_refl w (some k)) j x) (by
    cases h : v.ownBlock with
    | none => exact .inl rfl
    | some q =>
      refine .inr ?_
      have := (ho.lt q h).1
      simp
      omega)

/-- What a rule leaves of the budget, or -1. -/
def szR (left : Int) (a b : Nat) : Int := if left < a + b then -1 else left - a - b
theorem szR_no {left : Int} {a b : Nat} (h : left < a + b) : szR left a b = -1 := if_pos h
theorem szR_ok {left : Int} {a b : Nat} (h : (a : Int) + b ≤ left) : szR left a b = left - a - b := if_neg (by omega)

theorem w_eqRule_same (n : Int) (u v u' v' : Value) (l1 l2 : List Int) (w : World) (h : IsNums w u l1) (h' : IsNums w v l2) (h2 : IsNums w u' l1) (h2' : IsNums w v' l2) :
    Calls Tryd.prog 21 #[.agg #[.int .i64 n, u, v], .agg #[.int .i64 n, u', v']] w fun e w' => e = .returned (.bool true) ∧ Later w w' := by
  have H := Lib.hid h
  have H' := Lib.hid h'
  have H2 := Lib.hid h2
  have H2' := Lib.hid h2'
  obtain ⟨_, _, au, capu, rfl, _, _, _⟩ := h
  obtain ⟨_, _, av, capv, rfl, _, _, _⟩ := h'
  obtain ⟨_, _, au2, capu2, rfl, _, _, _⟩ := h2
  obtain ⟨_, _, av2, capv2, rfl, _, _, _⟩ := h2'
  go_enter Tryd.func21, Tryd.ntmps21
  go_wp2_with fail
  refine (w_eqInt64S _ _ _ _ _ (H.out.later (by (repeat (with_reducible first | exact Later.refl _ | refine Later.alloc ?_ _ | refine Later.drew ?_ | refine Later.drewN ?_ _ | refine Later.setCell ?_ (by simp; try omega) _ | refine Later.trans ?_ (by assumption))))) (H2.out.later (by (repeat (with_reducible first | exact Later.refl _ | refine Later.alloc ?_ _ | refine Later.drew ?_ | refine Later.drewN ?_ _ | refine Later.setCell ?_ (by simp; try omega) _ | refine Later.trans ?_ (by assumption)))))).mono ?_
  rintro e w1 ⟨he, hL⟩
  obtain rfl : e = .returned (.bool true) := by rw [he]; simp
  clear he
  obtain ⟨⟨c0, f0, z0⟩, ⟨c1, f1, z1⟩⟩ := blk2 hL
  have HL1 := Lib.hid (show Later w w1 from by (repeat (with_reducible first | exact Later.refl _ | refine Later.alloc ?_ _ | refine Later.drew ?_ | refine Later.drewN ?_ _ | refine Later.setCell ?_ (by simp; try omega) _ | refine Later.trans ?_ (by assumption))))
  go_wp2_with fail
  refine (w_eqInt64S _ _ _ _ _ (H'.out.later HL1.out) (H2'.out.later HL1.out)).mono ?_
  rintro e w2 ⟨he, hL2⟩
  obtain rfl : e = .returned (.bool true) := by rw [he]; simp
  clear he
  go_wp2
  go_ret
  exact ⟨rfl, by (repeat (with_reducible first | exact Later.refl _ | refine Later.alloc ?_ _ | refine Later.drew ?_ | refine Later.drewN ?_ _ | refine Later.setCell ?_ (by simp; try omega) _ | refine Later.trans ?_ (by assumption)))⟩

theorem w_eqMove_same (k s d t : Int) (w : World) :
    Calls Tryd.prog 48 #[.agg #[.int .i64 k, .int .i64 s, .int .i64 d, .int .i64 t], .agg #[.int .i64 k, .int .i64 s, .int .i64 d, .int .i64 t]] w fun e w' => e = .returned (.bool true) ∧ Later w w' := by
  refine (w_eqMove k s d t k s d t w).mono ?_
  rintro e w1 ⟨rfl, hL⟩
  exact ⟨by simp [eqMov], hL⟩

/-- What is left alone where a rule is marked. -/
structure TwoGo (x y : Value) (w w' : World) : Prop where
  os : w'.os = w.os
  tape : w'.tape = w.tape
  output : w'.output = w.output
  size : w.heap.size ≤ w'.heap.size
  block : ∀ j, j < w.heap.size → x.ownBlock ≠ some j → y.ownBlock ≠ some j → w'.heap[j]? = w.heap[j]?
theorem TwoGo.keep {x y : Value} {w w' : World} (h : TwoGo x y w w') {j : Nat} {o : Obj} (ho : w.heap[j]? = some o) (hx : x.ownBlock ≠ some j) (hy : y.ownBlock ≠ some j) : w'.heap[j]? = some o := (h.block j (Array.getElem?_eq_some_iff.1 ho).1 hx hy).trans ho
theorem TwoGo.owns {x y : Value} {w w' : World} (h : TwoGo x y w w') {base : Nat} {e : TypeId} {s : Nat} {v : Value} {n : Nat} {xs : List Value} (ho : w.ownsRow base e s v n xs) (hx : v.ownBlock = none ∨ v.ownBlock ≠ x.ownBlock) (hy : v.ownBlock = none ∨ v.ownBlock ≠ y.ownBlock) : w'.ownsRow base e s v n xs := by
  obtain ⟨h1, h2⟩ := ho
  refine ⟨h1, ?_⟩
  rcases h2 with h2 | ⟨g, cap, cur, rfl, hb, hh, r⟩
  · exact .inl h2
  · refine .inr ⟨g, cap, cur, rfl, hb, ?_, r⟩
    refine h.keep hh (fun e => ?_) (fun e => ?_)
    · rcases hx with hx | hx
      · cases hx
      · exact hx e.symm
    · rcases hy with hy | hy
      · cases hy
      · exact hy e.symm
theorem TwoGo.later {x y : Value} {a w w' : World} (ha : Later a w) (h : TwoGo x y w w') (hx : ∀ j, x.ownBlock = some j → a.heap.size ≤ j) (hy : ∀ j, y.ownBlock = some j → a.heap.size ≤ j) : Later a w' :=
  Below.trans ha ⟨h.os, h.tape, h.output, h.size, fun j hj => h.block j (Nat.lt_of_lt_of_le hj ha.size) (fun e => by have := hx j e; omega) (fun e => by have := hy j e; omega)⟩
theorem own_ne_type {w : World} {base : Nat} {e T : TypeId} {s : Nat} {v : Value} {n : Nat} {xs : List Value} (ho : w.ownsRow base e s v n xs) {k : Nat} {c : Array Value} (hk : w.heap[k]? = some (.cells c T (0, 0))) (hne : e ≠ T) : v.ownBlock ≠ some k := by
  rcases ho.2 with ⟨rfl, _⟩ | ⟨g, cap, cur, rfl, hb, hh, r⟩
  · intro h; cases h
  · intro h
    have h' : g = k := by simpa [Value.ownBlock] using h
    subst h'
    rw [hk] at hh
    simp only [Option.some.injEq, Obj.cells.injEq] at hh
    exact hne hh.2.1.symm
theorem grown_keepR {a b : World} {row : Option Nat} (h : a.grownBy b row) {k : Nat} {x : Obj} (hk : a.heap[k]? = some x) (hne : row ≠ some k) : b.heap[k]? = some x :=
  (h.block k (Array.getElem?_eq_some_iff.1 hk).1 (fun e => hne e.symm)).trans hk
theorem own_neR {w : World} {base : Nat} {e : TypeId} {s : Nat} {v : Value} {n : Nat} {xs : List Value} (ho : w.ownsRow base e s v n xs) {k : Nat} (hk : k < base ∨ w.heap.size ≤ k) : v.ownBlock ≠ some k := by
  intro h
  have := ho.lt k h
  omega
theorem w_markRule (n : Int) (x y : Option Addr) (n1 n2 c1 c2 base : Nat) (xs ys : List Value) (k : Int) (hk : 0 ≤ k) (hk2 : k ≤ 4000000) (hn : n1 ≤ 1048576) (hn2 : n2 ≤ 1048576) (w : World) (ho : w.ownsRow base 2 1 (.slice x n1 c1) n1 xs) (ho2 : w.ownsRow base 2 1 (.slice y n2 c2) n2 ys) (hap : (Value.slice y n2 c2).ownBlock = none ∨ (Value.slice y n2 c2).ownBlock ≠ (Value.slice x n1 c1).ownBlock) :
    Calls Tryd.prog 22 #[.agg #[.int .i64 n, .slice x n1 c1, .slice y n2 c2], .int .i64 k] w fun e w' => e = .returned (.int .i64 (k + n1 + n2)) ∧ TwoGo (.slice x n1 c1) (.slice y n2 c2) w w' := by
  have HO := Lib.hid ho
  have HO2 := Lib.hid ho2
  have HA := Lib.hid hap
  have HN := Lib.hid (own_neR ho (k := w.heap.size) (.inr (Nat.le_refl _)))
  have HN2 := Lib.hid (own_neR ho2 (k := w.heap.size) (.inr (Nat.le_refl _)))
  clear ho ho2 hap
  go_enter Tryd.func22, Tryd.ntmps22
  go_wp2_with fail
  refine (w_markInt64S _ n1 base xs _ hk (by omega) hn _ (HO.out.alloc _)).mono ?_
  rintro e w1 ⟨rfl, ho, hg⟩
  have hk1 := grown_keepR hg (heap_alloc_new w (.cells #[.int .i64 n, .slice x n1 c1, .slice y n2 c2] 39)) HN.out
  obtain ⟨c0, f0, z0⟩ := blk_at hk1
  have HG := Lib.hid hg
  have ho2' := (HO2.out.alloc (.cells #[.int .i64 n, .slice x n1 c1, .slice y n2 c2] 39)).kept hg HA.out
  have HO2' := Lib.hid ho2'
  clear hk1 hg ho ho2'
  go_wp2_with fail
  refine (w_markInt64S _ n2 base ys _ (by omega) (by omega) hn2 _ HO2'.out).mono ?_
  rintro e w2 ⟨rfl, ho, hg⟩
  have HG2 := Lib.hid hg
  clear ho hg
  go_wp2
  go_ret
  refine ⟨rfl, HG2.out.os.trans HG.out.os, HG2.out.tape.trans HG.out.tape, HG2.out.output.trans HG.out.output, ?_, fun j hj h1 h2 => ?_⟩
  · have h1 := HG.out.size
    have h2 := HG2.out.size
    simp at h1
    omega
  · have hs := HG.out.size
    simp at hs
    exact (HG2.out.block j (by omega) (fun e => h2 e.symm)).trans ((HG.out.block j (by simp; omega) (fun e => h1 e.symm)).trans (Below.heap_alloc w _ j hj))

end Go.Proofs.YtgngbdacejghcaaDoor
