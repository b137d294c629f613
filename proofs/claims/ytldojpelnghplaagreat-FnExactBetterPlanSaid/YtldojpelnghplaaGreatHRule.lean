/- DERIVED. Walks: the laws' helpers on rules and settings. -/
import Derived.Test.YtldojpelnghplaaGreatM1
import Derived.Test.YtldojpelnghplaaGreatBA
import Derived.Test.YtldojpelnghplaaGreatHInt64
namespace Go.Proofs.YtldojpelnghplaaGreat
set_option linter.unusedVariables false
set_option linter.unusedSimpArgs false
open Go.RowKit
set_option maxRecDepth 100000

theorem set_0of3 {w : World} {k : Nat} {x y z : Value} {T : TypeId} (h : w.heap[k]? = some (.cells #[x, y, z] T (0, 0))) (a : Value) :
    (w.setCell ⟨k, 0, none⟩ a).heap[k]? = some (.cells #[a, y, z] T (0, 0)) := by
  rw [heap_setCell_same w k 0 _ T a h]
  rfl
theorem set_1of3 {w : World} {k : Nat} {x y z : Value} {T : TypeId} (h : w.heap[k]? = some (.cells #[x, y, z] T (0, 0))) (a : Value) :
    (w.setCell ⟨k, 1, none⟩ a).heap[k]? = some (.cells #[x, a, z] T (0, 0)) := by
  rw [heap_setCell_same w k 1 _ T a h]
  rfl
theorem set_2of3 {w : World} {k : Nat} {x y z : Value} {T : TypeId} (h : w.heap[k]? = some (.cells #[x, y, z] T (0, 0))) (a : Value) :
    (w.setCell ⟨k, 2, none⟩ a).heap[k]? = some (.cells #[x, y, a] T (0, 0)) := by
  rw [heap_setCell_same w k 2 _ T a h]
  rfl
theorem own_setCell {w : World} {base : Nat} {e : TypeId} {s : Nat} {v : Value} {n : Nat} {xs : List Value} (ho : w.ownsRow base e s v n xs) {k : Nat} (hk : k < base) (j : Nat) (x : Value) : (w.setCell ⟨k, j, none⟩ x).ownsRow base e s v n xs :=
  ho.kept (row := some k) (grown_setCell (grown_refl w (some k)) j x) (by
    cases h : v.ownBlock with
    | none => exact .inl rfl
    | some q =>
      refine .inr ?_
      have := (ho.lt q h).1
      simp
      omega)

/-- What a rule leaves of the budget, or -1. -/
def szR (left : Int) (a b : Nat) : Int := if left < a + b then -1 else left - a - b
theorem szR_no {left : Int} {a b : Nat} (h : left < a + b) : szR left a b = -1 := if_pos h
theorem szR_ok {left : Int} {a b : Nat} (h : (a : Int) + b ≤ left) : szR left a b = left - a - b := if_neg (by omega)

theorem w_szRule (n : Int) (a : Option Addr) (len cap : Nat) (a' : Option Addr) (len' cap' : Nat) (left : Int) (hl : 0 ≤ left) (hl2 : left ≤ 1048576) (hm : len ≤ 9223372036854775807) (hm' : len' ≤ 9223372036854775807) (w : World) :
    Calls Tryz.prog 8 #[.agg #[.int .i64 n, .slice a len cap, .slice a' len' cap'], .int .i64 left] w fun e w' => e = .returned (.int .i64 (szR left len len')) ∧ Later w w' := by
  by_cases h1 : left < len
  · have HF := Lib.hid (szR_no (left := left) (a := len) (b := len') (by omega))
    have HS := Lib.hid (show (if left < (len : Int) then (-1 : Int) else left - (len : Int)) = -1 from if_pos h1)
    go_enter Tryz.func8, Tryz.ntmps8
    go_wp2_with fail
    refine (w_szInt64S _ _ _ _ hl hl2 hm _).mono ?_
    rintro e w' ⟨rfl, rfl⟩
    rw [HS.out]
    go_wp2
    go_ret
    exact ⟨by rw [HF.out]; rfl, by (repeat (with_reducible first | exact Later.refl _ | refine Later.alloc ?_ _ | refine Later.drew ?_ | refine Later.drewN ?_ _ | refine Later.setCell ?_ (by simp; try omega) _ | refine Later.trans ?_ (by assumption)))⟩
  by_cases h2 : left - len < len'
  · have HF := Lib.hid (szR_no (left := left) (a := len) (b := len') (by omega))
    have HS := Lib.hid (show (if left < (len : Int) then (-1 : Int) else left - (len : Int)) = left - len from if_neg h1)
    have HT := Lib.hid (show (if left - (len : Int) < (len' : Int) then (-1 : Int) else left - (len : Int) - (len' : Int)) = -1 from if_pos h2)
    go_enter Tryz.func8, Tryz.ntmps8
    go_wp2_with fail
    refine (w_szInt64S _ _ _ _ hl hl2 hm _).mono ?_
    rintro e w' ⟨rfl, rfl⟩
    rw [HS.out]
    go_wp2_with fail
    refine (w_szInt64S _ _ _ _ (by omega) (by omega) hm' _).mono ?_
    rintro e w' ⟨rfl, rfl⟩
    rw [HT.out]
    go_wp2
    go_ret
    exact ⟨by rw [HF.out]; rfl, by (repeat (with_reducible first | exact Later.refl _ | refine Later.alloc ?_ _ | refine Later.drew ?_ | refine Later.drewN ?_ _ | refine Later.setCell ?_ (by simp; try omega) _ | refine Later.trans ?_ (by assumption)))⟩
  · have HF := Lib.hid (szR_ok (left := left) (a := len) (b := len') (by omega))
    have HS := Lib.hid (show (if left < (len : Int) then (-1 : Int) else left - (len : Int)) = left - len from if_neg h1)
    have HT := Lib.hid (show (if left - (len : Int) < (len' : Int) then (-1 : Int) else left - (len : Int) - (len' : Int)) = left - len - len' from if_neg h2)
    go_enter Tryz.func8, Tryz.ntmps8
    go_wp2_with fail
    refine (w_szInt64S _ _ _ _ hl hl2 hm _).mono ?_
    rintro e w' ⟨rfl, rfl⟩
    rw [HS.out]
    go_wp2_with fail
    refine (w_szInt64S _ _ _ _ (by omega) (by omega) hm' _).mono ?_
    rintro e w' ⟨rfl, rfl⟩
    rw [HT.out]
    go_wp2
    go_ret
    exact ⟨by rw [HF.out]; rfl, by (repeat (with_reducible first | exact Later.refl _ | refine Later.alloc ?_ _ | refine Later.drew ?_ | refine Later.drewN ?_ _ | refine Later.setCell ?_ (by simp; try omega) _ | refine Later.trans ?_ (by assumption)))⟩

theorem w_toRuleX (n : Int) (u v : Value) (l1 l2 : List Int) (w : World) (h : IsNums w u l1) (h' : IsNums w v l2) :
    Calls Tryz.prog 11 #[.agg #[.int .i64 n, u, v]] w fun e w' => ∃ x y, e = .returned (.agg #[.int .i64 n, x, y]) ∧ Later w w' ∧ w'.ownsRow w.heap.size 2 1 x l1.length (nums l1) ∧ w'.ownsRow w.heap.size 2 1 y l2.length (nums l2) ∧ (y.ownBlock = none ∨ y.ownBlock ≠ x.ownBlock) := by
  have H := Lib.hid h
  have H' := Lib.hid h'
  obtain ⟨_, _, au, capu, rfl, _, _, _⟩ := h
  obtain ⟨_, _, av, capv, rfl, _, _, _⟩ := h'
  go_enter Tryz.func11, Tryz.ntmps11
  go_wp2_with fail
  refine (w_toInt64S _ l1 _ (H.out.later (by (repeat (with_reducible first | exact Later.refl _ | refine Later.alloc ?_ _ | refine Later.drew ?_ | refine Later.drewN ?_ _ | refine Later.setCell ?_ (by simp; try omega) _ | refine Later.trans ?_ (by assumption)))))).mono ?_
  rintro e w1 ⟨x, rfl, hL, ho⟩
  obtain ⟨_, _, ax, capx, rfl, _, _, _⟩ := reads_of_owns ho (by omega)
  obtain ⟨k0, k1, k2⟩ := kept3 hL
  have hsz := hL.size
  simp only [World.size_alloc] at hsz
  have HL1 := Lib.hid (show Later w w1 from by (repeat (with_reducible first | exact Later.refl _ | refine Later.alloc ?_ _ | refine Later.drew ?_ | refine Later.drewN ?_ _ | refine Later.setCell ?_ (by simp; try omega) _ | refine Later.trans ?_ (by assumption))))
  have HO := Lib.hid (owns_base (base' := w.heap.size + 1 + 1 + 1) ho (by simp))
  have K1 := Lib.hid k1
  have K2 := Lib.hid (set_1of3 k2 (.slice ax l1.length capx))
  obtain ⟨c0, f0, z0⟩ := blk_at k0
  obtain ⟨c1, f1, z1⟩ := blk_at k1
  obtain ⟨c2, f2, z2⟩ := blk_at k2
  have HL2 := Lib.hid (show Later w (w1.setCell ⟨w.heap.size + 1 + 1, 1, none⟩ (.slice ax l1.length capx)) from HL1.out.setCell (by simp; omega) _)
  clear k0 k1 k2 ho hL
  go_wp2_with fail
  refine (w_toInt64S _ l2 _ (H'.out.later HL2.out)).mono ?_
  rintro e w2 ⟨y, rfl, hL3, ho2⟩
  obtain ⟨_, _, ay, capy, rfl, _, _, _⟩ := reads_of_owns ho2 (by omega)
  have HAp := Lib.hid (own_apart (own_setCell HO.out (by omega) 1 (.slice ax l1.length capx)) ho2 (Nat.le_refl _))
  have HO2 := Lib.hid (owns_base (base' := w.heap.size + 1 + 1 + 1) ho2 (by simp; omega))
  have hsz2 := hL3.size
  simp only [World.size_setCell] at hsz2
  have HO1 := Lib.hid (owns_later (own_setCell HO.out (by omega) 1 (.slice ax l1.length capx)) hL3)
  have k2 := hL3.keep K2.out
  have k1 := hL3.keep (other_set K1.out (by omega) _)
  have K2' := Lib.hid (set_2of3 k2 (.slice ay l2.length capy))
  obtain ⟨d1, g1, y1⟩ := blk_at k1
  obtain ⟨d2, g2, y2⟩ := blk_at k2
  have hL0 := HL2.out.trans hL3
  clear k1 k2 ho2 c0 f0 z0 c1 f1 z1 c2 f2 z2
  go_wp2
  refine bodyPost_ret (v := .agg #[.int .i64 n, (.slice ax l1.length capx), (.slice ay l2.length capy)]) (by simp [results, Tryz.results11, go_sem, d1, y1]) rfl ⟨_, _, rfl, by (repeat (with_reducible first | exact Later.refl _ | refine Later.alloc ?_ _ | refine Later.drew ?_ | refine Later.drewN ?_ _ | refine Later.setCell ?_ (by simp; try omega) _ | refine Later.trans ?_ (by assumption))), ?_, ?_, HAp.out⟩
  · exact owns_base (own_setCell (own_setCell (own_setCell (own_setCell HO1.out (by omega) _ _) (by omega) _ _) (by omega) _ _) (by omega) _ _) (by omega)
  · exact owns_base (own_setCell (own_setCell (own_setCell (own_setCell HO2.out (by omega) _ _) (by omega) _ _) (by omega) _ _) (by omega) _ _) (by omega)

theorem w_toRule (n : Int) (u v : Value) (l1 l2 : List Int) (w : World) (h : IsNums w u l1) (h' : IsNums w v l2) :
    Calls Tryz.prog 11 #[.agg #[.int .i64 n, u, v]] w fun e w' => ∃ x y, e = .returned (.agg #[.int .i64 n, x, y]) ∧ Later w w' ∧ w'.ownsRow w.heap.size 2 1 x l1.length (nums l1) ∧ w'.ownsRow w.heap.size 2 1 y l2.length (nums l2) :=
  (w_toRuleX n u v l1 l2 w h h').mono fun e w' ⟨x, y, h1, h2, h3, h4, _⟩ => ⟨x, y, h1, h2, h3, h4⟩

theorem w_toRuleS (n : Int) (u v : Value) (l1 l2 : List Int) (w : World) (h : IsNums w u l1) (h' : IsNums w v l2) :
    Calls Tryz.prog 11 #[.agg #[.int .i64 n, u, v]] w fun e w' => ∃ x cx y cy, e = .returned (.agg #[.int .i64 n, .slice x l1.length cx, .slice y l2.length cy]) ∧ Later w w' ∧ w'.ownsRow w.heap.size 2 1 (.slice x l1.length cx) l1.length (nums l1) ∧ w'.ownsRow w.heap.size 2 1 (.slice y l2.length cy) l2.length (nums l2) := by
  refine (w_toRule n u v l1 l2 w h h').mono ?_
  rintro e w1 ⟨x, y, rfl, hL, ho, ho2⟩
  obtain ⟨_, _, ax, capx, rfl, _, _, _⟩ := reads_of_owns ho h.2.1
  obtain ⟨_, _, ay, capy, rfl, _, _, _⟩ := reads_of_owns ho2 h'.2.1
  exact ⟨ax, capx, ay, capy, rfl, hL, ho, ho2⟩

theorem w_toRuleA (n : Int) (u v : Value) (l1 l2 : List Int) (w : World) (h : IsNums w u l1) (h' : IsNums w v l2) :
    Calls Tryz.prog 11 #[.agg #[.int .i64 n, u, v]] w fun e w' => ∃ x cx y cy, e = .returned (.agg #[.int .i64 n, .slice x l1.length cx, .slice y l2.length cy]) ∧ Later w w' ∧ w'.ownsRow w.heap.size 2 1 (.slice x l1.length cx) l1.length (nums l1) ∧ w'.ownsRow w.heap.size 2 1 (.slice y l2.length cy) l2.length (nums l2) ∧ ((Value.slice y l2.length cy).ownBlock = none ∨ (Value.slice y l2.length cy).ownBlock ≠ (Value.slice x l1.length cx).ownBlock) := by
  refine (w_toRuleX n u v l1 l2 w h h').mono ?_
  rintro e w1 ⟨x, y, rfl, hL, ho, ho2, hap⟩
  obtain ⟨_, _, ax, capx, rfl, _, _, _⟩ := reads_of_owns ho h.2.1
  obtain ⟨_, _, ay, capy, rfl, _, _, _⟩ := reads_of_owns ho2 h'.2.1
  exact ⟨ax, capx, ay, capy, rfl, hL, ho, ho2, hap⟩

theorem w_eqRule_same (n : Int) (u v u' v' : Value) (l1 l2 : List Int) (w : World) (h : IsNums w u l1) (h' : IsNums w v l2) (h2 : IsNums w u' l1) (h2' : IsNums w v' l2) :
    Calls Tryz.prog 16 #[.agg #[.int .i64 n, u, v], .agg #[.int .i64 n, u', v']] w fun e w' => e = .returned (.bool true) ∧ Later w w' := by
  have H := Lib.hid h
  have H' := Lib.hid h'
  have H2 := Lib.hid h2
  have H2' := Lib.hid h2'
  obtain ⟨_, _, au, capu, rfl, _, _, _⟩ := h
  obtain ⟨_, _, av, capv, rfl, _, _, _⟩ := h'
  obtain ⟨_, _, au2, capu2, rfl, _, _, _⟩ := h2
  obtain ⟨_, _, av2, capv2, rfl, _, _, _⟩ := h2'
  go_enter Tryz.func16, Tryz.ntmps16
  go_wp2_with fail
  refine (w_eqInt64S _ _ _ _ _ (H.out.later (by (repeat (with_reducible first | exact Later.refl _ | refine Later.alloc ?_ _ | refine Later.drew ?_ | refine Later.drewN ?_ _ | refine Later.setCell ?_ (by simp; try omega) _ | refine Later.trans ?_ (by assumption))))) (H2.out.later (by (repeat (with_reducible first | exact Later.refl _ | refine Later.alloc ?_ _ | refine Later.drew ?_ | refine Later.drewN ?_ _ | refine Later.setCell ?_ (by simp; try omega) _ | refine Later.trans ?_ (by assumption)))))).mono ?_
  rintro e w1 ⟨he, hL⟩
  obtain rfl : e = .returned (.bool true) := by rw [he]; simp
  clear he
  obtain ⟨⟨c0, f0, z0⟩, ⟨c1, f1, z1⟩⟩ := blk2 hL
  have HL1 := Lib.hid (show Later w w1 from by (repeat (with_reducible first | exact Later.refl _ | refine Later.alloc ?_ _ | refine Later.drew ?_ | refine Later.drewN ?_ _ | refine Later.setCell ?_ (by simp; try omega) _ | refine Later.trans ?_ (by assumption))))
  go_wp2_with fail
  refine (w_eqInt64S _ _ _ _ _ (H'.out.later HL1.out) (H2'.out.later HL1.out)).mono ?_
  rintro e w2 ⟨he, hL2⟩
  obtain rfl : e = .returned (.bool true) := by rw [he]; simp
  clear he
  go_wp2
  go_ret
  exact ⟨rfl, by (repeat (with_reducible first | exact Later.refl _ | refine Later.alloc ?_ _ | refine Later.drew ?_ | refine Later.drewN ?_ _ | refine Later.setCell ?_ (by simp; try omega) _ | refine Later.trans ?_ (by assumption)))⟩

/-- What is left alone where a rule is marked. -/
structure TwoGo (x y : Value) (w w' : World) : Prop where
  os : w'.os = w.os
  tape : w'.tape = w.tape
  output : w'.output = w.output
  size : w.heap.size ≤ w'.heap.size
  block : ∀ j, j < w.heap.size → x.ownBlock ≠ some j → y.ownBlock ≠ some j → w'.heap[j]? = w.heap[j]?
theorem TwoGo.keep {x y : Value} {w w' : World} (h : TwoGo x y w w') {j : Nat} {o : Obj} (ho : w.heap[j]? = some o) (hx : x.ownBlock ≠ some j) (hy : y.ownBlock ≠ some j) : w'.heap[j]? = some o := (h.block j (Array.getElem?_eq_some_iff.1 ho).1 hx hy).trans ho
theorem TwoGo.owns {x y : Value} {w w' : World} (h : TwoGo x y w w') {base : Nat} {e : TypeId} {s : Nat} {v : Value} {n : Nat} {xs : List Value} (ho : w.ownsRow base e s v n xs) (hx : v.ownBlock = none ∨ v.ownBlock ≠ x.ownBlock) (hy : v.ownBlock = none ∨ v.ownBlock ≠ y.ownBlock) : w'.ownsRow base e s v n xs := by
  obtain ⟨h1, h2⟩ := ho
  refine ⟨h1, ?_⟩
  rcases h2 with h2 | ⟨g, cap, cur, rfl, hb, hh, r⟩
  · exact .inl h2
  · refine .inr ⟨g, cap, cur, rfl, hb, ?_, r⟩
    refine h.keep hh (fun e => ?_) (fun e => ?_)
    · rcases hx with hx | hx
      · cases hx
      · exact hx e.symm
    · rcases hy with hy | hy
      · cases hy
      · exact hy e.symm
theorem TwoGo.later {x y : Value} {a w w' : World} (ha : Later a w) (h : TwoGo x y w w') (hx : ∀ j, x.ownBlock = some j → a.heap.size ≤ j) (hy : ∀ j, y.ownBlock = some j → a.heap.size ≤ j) : Later a w' :=
  Below.trans ha ⟨h.os, h.tape, h.output, h.size, fun j hj => h.block j (Nat.lt_of_lt_of_le hj ha.size) (fun e => by have := hx j e; omega) (fun e => by have := hy j e; omega)⟩
theorem own_ne_type {w : World} {base : Nat} {e T : TypeId} {s : Nat} {v : Value} {n : Nat} {xs : List Value} (ho : w.ownsRow base e s v n xs) {k : Nat} {c : Array Value} (hk : w.heap[k]? = some (.cells c T (0, 0))) (hne : e ≠ T) : v.ownBlock ≠ some k := by
  rcases ho.2 with ⟨rfl, _⟩ | ⟨g, cap, cur, rfl, hb, hh, r⟩
  · intro h; cases h
  · intro h
    have h' : g = k := by simpa [Value.ownBlock] using h
    subst h'
    rw [hk] at hh
    simp only [Option.some.injEq, Obj.cells.injEq] at hh
    exact hne hh.2.1.symm
theorem grown_keepR {a b : World} {row : Option Nat} (h : a.grownBy b row) {k : Nat} {x : Obj} (hk : a.heap[k]? = some x) (hne : row ≠ some k) : b.heap[k]? = some x :=
  (h.block k (Array.getElem?_eq_some_iff.1 hk).1 (fun e => hne e.symm)).trans hk
theorem own_neR {w : World} {base : Nat} {e : TypeId} {s : Nat} {v : Value} {n : Nat} {xs : List Value} (ho : w.ownsRow base e s v n xs) {k : Nat} (hk : k < base ∨ w.heap.size ≤ k) : v.ownBlock ≠ some k := by
  intro h
  have := ho.lt k h
  omega
theorem w_markRule (n : Int) (x y : Option Addr) (n1 n2 c1 c2 base : Nat) (xs ys : List Value) (k : Int) (hk : 0 ≤ k) (hk2 : k ≤ 4000000) (hn : n1 ≤ 1048576) (hn2 : n2 ≤ 1048576) (w : World) (ho : w.ownsRow base 2 1 (.slice x n1 c1) n1 xs) (ho2 : w.ownsRow base 2 1 (.slice y n2 c2) n2 ys) (hap : (Value.slice y n2 c2).ownBlock = none ∨ (Value.slice y n2 c2).ownBlock ≠ (Value.slice x n1 c1).ownBlock) :
    Calls Tryz.prog 18 #[.agg #[.int .i64 n, .slice x n1 c1, .slice y n2 c2], .int .i64 k] w fun e w' => e = .returned (.int .i64 (k + n1 + n2)) ∧ TwoGo (.slice x n1 c1) (.slice y n2 c2) w w' := by
  have HO := Lib.hid ho
  have HO2 := Lib.hid ho2
  have HA := Lib.hid hap
  have HN := Lib.hid (own_neR ho (k := w.heap.size) (.inr (Nat.le_refl _)))
  have HN2 := Lib.hid (own_neR ho2 (k := w.heap.size) (.inr (Nat.le_refl _)))
  clear ho ho2 hap
  go_enter Tryz.func18, Tryz.ntmps18
  go_wp2_with fail
  refine (w_markInt64S _ n1 base xs _ hk (by omega) hn _ (HO.out.alloc _)).mono ?_
  rintro e w1 ⟨rfl, ho, hg⟩
  have hk1 := grown_keepR hg (heap_alloc_new w (.cells #[.int .i64 n, .slice x n1 c1, .slice y n2 c2] 32)) HN.out
  obtain ⟨c0, f0, z0⟩ := blk_at hk1
  have HG := Lib.hid hg
  have ho2' := (HO2.out.alloc (.cells #[.int .i64 n, .slice x n1 c1, .slice y n2 c2] 32)).kept hg HA.out
  have HO2' := Lib.hid ho2'
  clear hk1 hg ho ho2'
  go_wp2_with fail
  refine (w_markInt64S _ n2 base ys _ (by omega) (by omega) hn2 _ HO2'.out).mono ?_
  rintro e w2 ⟨rfl, ho, hg⟩
  have HG2 := Lib.hid hg
  clear ho hg
  go_wp2
  go_ret
  refine ⟨rfl, HG2.out.os.trans HG.out.os, HG2.out.tape.trans HG.out.tape, HG2.out.output.trans HG.out.output, ?_, fun j hj h1 h2 => ?_⟩
  · have h1 := HG.out.size
    have h2 := HG2.out.size
    simp at h1
    omega
  · have hs := HG.out.size
    simp at hs
    exact (HG2.out.block j (by omega) (fun e => h2 e.symm)).trans ((HG.out.block j (by simp; omega) (fun e => h1 e.symm)).trans (Below.heap_alloc w _ j hj))

end Go.Proofs.YtldojpelnghplaaGreat
