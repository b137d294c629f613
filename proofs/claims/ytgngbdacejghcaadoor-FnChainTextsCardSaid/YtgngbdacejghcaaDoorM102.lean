/- DERIVED. Walks: drawn chains. -/
import Derived.Test.YtgngbdacejghcaaDoorM101
namespace Go.Proofs.YtgngbdacejghcaaDoor
set_option linter.unusedVariables false
set_option linter.unusedSimpArgs false
open Go.RowKit
set_option maxRecDepth 100000

theorem isChain_one {f : Fig} (h : 1000 ≤ f.d ∧ f.d ≤ 9999 ∧ -3 ≤ f.t ∧ f.t ≤ 3) : isChain [⟨f, false⟩] = true := by
  simp [isChain, okTrm, isFig, inR, headDv]; omega
theorem isChain_snoc {l : List Trm} {f : Fig} {dv : Bool} (hl : isChain l = true) (h : 1000 ≤ f.d ∧ f.d ≤ 9999 ∧ -3 ≤ f.t ∧ f.t ≤ 3) (hn : l.length < 6) : isChain (l ++ [⟨f, dv⟩]) = true := by
  simp only [isChain, Bool.and_eq_true, List.all_eq_true, List.mem_append, List.mem_singleton, inR, decide_eq_true_eq] at hl ⊢
  obtain ⟨h1, h2, h3⟩ := hl
  refine ⟨fun t ht => ?_, ⟨by simp; omega, by simp; omega⟩, ?_⟩
  · rcases ht with ht | rfl
    · exact h1 t ht
    · simp [okTrm, isFig, inR]; omega
  · cases l with
    | nil => simp at h2
    | cons a l => exact h3
theorem own_take {w : World} {base : Nat} {e : TypeId} {s n cap : Nat} {a : Option Addr} {xs : List Value} (ho : w.ownsRow base e s (.slice a n cap) n xs) {k : Nat} (hk : k ≤ n) (h0 : k = 0 → a = none → cap = 0) : w.ownsRow base e s (.slice a k cap) k (xs.take (k * s)) := by
  obtain ⟨hl, h⟩ := ho
  have hks : k * s ≤ n * s := Nat.mul_le_mul_right _ hk
  refine ⟨by rw [List.length_take]; omega, ?_⟩
  rcases h with ⟨h1, h2⟩ | ⟨g, cp, cur, h1, h2, h3, h4, h5, h6, h7⟩
  · left
    cases h1
    have : k = 0 := by omega
    subst this
    exact ⟨rfl, rfl⟩
  · right
    cases h1
    refine ⟨g, _, cur, rfl, h2, h3, by omega, h5, h6, ?_⟩
    rw [← h7, List.take_take, Nat.min_eq_left hks]

set_option maxHeartbeats 2000000 in
theorem w_l13Valid (k : Nat) (c : Value) (w : World) (h : Src w k c) :
    Calls Tryd.prog 67 #[.pointer (some ⟨k, 0, none⟩)] w fun e w' => ∃ (v : Value) (l : List Trm), e = .returned v ∧ w'.ownsRow w.heap.size 60 3 v l.length (trms l) ∧ isChain l = true ∧ l.length ≤ 5 ∧ Drawn w w' k ∧ Src w' k c := by
  have hk := h.lt
  go_enter Tryd.func67, Tryd.ntmps67
  go_wp2_with fail
  refine (w_l02Valid k c _ (by repeat (with_reducible first | assumption | refine Src.alloc ?_ _ | refine Src.drew ?_ | refine Src.drewN ?_ _ | refine Src.setCell ?_ (by first | omega | (simp; omega)) _ _))).mono ?_
  rintro e w1 ⟨f, rfl, fb, hD, hS1⟩
  have hz1 : w.heap.size ≤ w1.heap.size := Nat.le_trans (by simp) hD.size
  have hD1 : Drawn w w1 k := Drawn.trans (by repeat (with_reducible first | assumption | exact grown_refl _ _ | refine Drawn.alloc ?_ _ | refine Drawn.drew ?_ | refine Drawn.drewN ?_ _ | refine Drawn.setCell ?_ (by first | omega | (simp; omega)) _ _)) hD
  clear hD
  go_wp2_with fail
  refine (w_l01Next k c 5 _ (by repeat (with_reducible first | assumption | refine Src.alloc ?_ _ | refine Src.drew ?_ | refine Src.drewN ?_ _ | refine Src.setCell ?_ (by first | omega | (simp; omega)) _ _))).mono ?_
  rintro e w2 ⟨x2, rfl, x2a, x2b, hD, hS2⟩
  have hz2 : w1.heap.size ≤ w2.heap.size := Nat.le_trans (by simp) hD.size
  have HO_2 := Lib.hid (hD.owns (base := w.heap.size) (e := 60) (s := 3) (v := .slice (some ⟨w1.heap.size, 0, none⟩) 1 1) (n := 1) (xs := trms [⟨f, false⟩]) ⟨rfl, .inr ⟨w1.heap.size, 1, #[.int .i64 f.d, .int .i64 f.t, .bool false], rfl, hD1.size, heap_alloc_new _ _, by decide, by decide, rfl, rfl⟩⟩ (by omega))
  have hD2 : Drawn w w2 k := Drawn.trans (by repeat (with_reducible first | assumption | exact grown_refl _ _ | refine Drawn.alloc ?_ _ | refine Drawn.drew ?_ | refine Drawn.drewN ?_ _ | refine Drawn.setCell ?_ (by first | omega | (simp; omega)) _ _)) hD
  clear hD
  obtain ⟨n, rfl⟩ : ∃ n : Nat, x2 = n := ⟨x2.toNat, by omega⟩
  have hn4 : n ≤ 4 := by omega
  clear x2a x2b
  go_wp2
  go_loopw [3, 4] (fun v i wr => ∃ (l : List Trm) (m : Nat), i = .int .i64 (m : Nat) ∧ wr.ownsRow w.heap.size 60 3 v l.length (trms l) ∧ l.length + m ≤ 5 ∧ Hid (isChain l = true) ∧ Drawn w wr k ∧ Src wr k c) (fun _ i _ => (intOf i).toNat)
  case atStart => exact ⟨[⟨f, false⟩], n, rfl, HO_2.out, by simp; omega, isChain_one fb, hD2, hS2⟩
  case round =>
    obtain ⟨l, m, rfl, hO, hlm, HC, hDr, hSr⟩ := hrel
    have HO := Lib.hid hO
    clear hO
    by_cases hm : 0 < m
    · skip
      go_wp2_with fail
      refine (w_l02Valid k c _ (by repeat (with_reducible first | assumption | refine Src.alloc ?_ _ | refine Src.drew ?_ | refine Src.drewN ?_ _ | refine Src.setCell ?_ (by first | omega | (simp; omega)) _ _))).mono ?_
      rintro e w3 ⟨g, rfl, gb, hD, hS3⟩
      have hz3 : wr.heap.size ≤ w3.heap.size := Nat.le_trans (by simp) hD.size
      have hD3 : Drawn wr w3 k := Drawn.trans (by repeat (with_reducible first | assumption | exact grown_refl _ _ | refine Drawn.alloc ?_ _ | refine Drawn.drew ?_ | refine Drawn.drewN ?_ _ | refine Drawn.setCell ?_ (by first | omega | (simp; omega)) _ _)) hD
      clear hD
      go_wp2_with fail
      refine (w_l01Next k c 2 _ (by repeat (with_reducible first | assumption | refine Src.alloc ?_ _ | refine Src.drew ?_ | refine Src.drewN ?_ _ | refine Src.setCell ?_ (by first | omega | (simp; omega)) _ _))).mono ?_
      rintro e w4 ⟨x4, rfl, x4a, x4b, hD, hS4⟩
      have hz4 : w3.heap.size ≤ w4.heap.size := Nat.le_trans (by simp) hD.size
      have hD4 : Drawn wr w4 k := Drawn.trans (by repeat (with_reducible first | assumption | exact grown_refl _ _ | refine Drawn.alloc ?_ _ | refine Drawn.drew ?_ | refine Drawn.drewN ?_ _ | refine Drawn.setCell ?_ (by first | omega | (simp; omega)) _ _)) hD
      clear hD
      have hO4 := hD4.owns HO.out (by omega)
      have HO4 := Lib.hid hO4
      have hDD : Drawn w w4 k := hDr.trans hD4
      have hz4 := hDD.size
      clear hO4
      by_cases hq : x4 = 0
      · subst hq
        go_wp2_with (at_builtin; refine app1_Term rfl (.tmp 15) (.tmp 22) rfl w.heap.size _ l ⟨g, true⟩ rfl HO4.out (by simp [Act.eval, Array.getD]) (by omega) hz4 ?_; intro v5 w5 ho5 hg5)
        go_roundw
        case rel => exact ⟨l ++ [⟨g, true⟩], m - 1, by go_num, ho5, by simp; omega, Lib.hid (isChain_snoc HC.out gb (by omega)), hDD.own (Nat.le_refl _) HO4.out hg5, hS4.own (base := w.heap.size) (by omega) HO4.out hg5⟩
        case measure => simp [intOf]; omega
      · have hqb : (x4 == 0) = false := by simpa using hq
        go_wp2_with (at_builtin; refine app1_Term rfl (.tmp 15) (.tmp 22) rfl w.heap.size _ l ⟨g, false⟩ rfl HO4.out (by simp [Act.eval, Array.getD]) (by omega) hz4 ?_; intro v5 w5 ho5 hg5)
        go_roundw
        case rel => exact ⟨l ++ [⟨g, false⟩], m - 1, by go_num, ho5, by simp; omega, Lib.hid (isChain_snoc HC.out gb (by omega)), hDD.own (Nat.le_refl _) HO4.out hg5, hS4.own (base := w.heap.size) (by omega) HO4.out hg5⟩
        case measure => simp [intOf]; omega
    · obtain ⟨av, cv, rfl⟩ := isSl_of HO.out
      go_wp2
      go_ret
      exact ⟨_, l, rfl, HO.out, HC.out, by omega, hDr, hSr⟩

theorem set_same {α : Type} {l : List α} {j : Nat} {u : α} (h : l[j]? = some u) : l.set j u = l := by
  apply List.ext_getElem?
  intro i
  rw [List.getElem?_set]
  split
  · rename_i e
    subst e
    obtain ⟨hj, _⟩ := List.getElem?_eq_some_iff.1 h
    rw [if_pos hj, h]
  · rfl
theorem trm_cell {l : List Trm} {i j : Nat} {t : Trm} (h : l[i]? = some t) (hj : j < 3) : (trms l)[i * 3 + j]? = t.cells[j]? := flat_get Trm.cells 3 (fun _ => rfl) l i j t h hj
theorem own_setDv {w : World} {base : Nat} {e : TypeId} {g n cap : Nat} {l : List Trm} (ho : w.ownsRow base e 3 (.slice (some ⟨g, 0, none⟩) n cap) n (trms l)) {i : Nat} {t : Trm} (h : l[i]? = some t) (b : Bool) :
    (w.setCell ⟨g, i * 3 + 2, none⟩ (.bool b)).ownsRow base e 3 (.slice (some ⟨g, 0, none⟩) n cap) n (trms (l.set i ⟨t.f, b⟩)) := by
  rw [trms_set l i _ (List.getElem?_eq_some_iff.1 h).1, set_same (j := i * 3) (trm_cell (j := 0) h (by decide)), set_same (j := i * 3 + 1) (trm_cell (j := 1) h (by decide))]
  exact (ho.stored (i * 3 + 2) (.bool b)).1
theorem own_setF {w : World} {base : Nat} {e : TypeId} {g n cap : Nat} {l : List Trm} (ho : w.ownsRow base e 3 (.slice (some ⟨g, 0, none⟩) n cap) n (trms l)) {i : Nat} {t : Trm} (h : l[i]? = some t) (f : Fig) :
    ((w.setCell ⟨g, i * 3, none⟩ (.int .i64 f.d)).setCell ⟨g, i * 3 + 1, none⟩ (.int .i64 f.t)).ownsRow base e 3 (.slice (some ⟨g, 0, none⟩) n cap) n (trms (l.set i ⟨f, t.dv⟩)) := by
  have hi := (List.getElem?_eq_some_iff.1 h).1
  have e2 : (((trms l).set (i * 3) (.int .i64 f.d)).set (i * 3 + 1) (.int .i64 f.t))[i * 3 + 2]? = some (.bool t.dv) := by
    rw [List.getElem?_set_ne (by omega), List.getElem?_set_ne (by omega)]
    exact trm_cell (j := 2) h (by decide)
  rw [trms_set l i _ hi, set_same e2]
  exact ((ho.stored (i * 3) (.int .i64 f.d)).1.stored (i * 3 + 1) (.int .i64 f.t)).1
theorem own_setTens {w : World} {base : Nat} {e : TypeId} {g n cap : Nat} {l : List Trm} (ho : w.ownsRow base e 3 (.slice (some ⟨g, 0, none⟩) n cap) n (trms l)) {i : Nat} {t : Trm} (h : l[i]? = some t) (x : Int) :
    (w.setCell ⟨g, i * 3 + 1, none⟩ (.int .i64 x)).ownsRow base e 3 (.slice (some ⟨g, 0, none⟩) n cap) n (trms (l.set i ⟨⟨t.f.d, x⟩, t.dv⟩)) := by
  have e2 : ((trms l).set (i * 3 + 1) (.int .i64 x))[i * 3 + 2]? = some (.bool t.dv) := by
    rw [List.getElem?_set_ne (by omega)]
    exact trm_cell (j := 2) h (by decide)
  rw [trms_set l i _ (List.getElem?_eq_some_iff.1 h).1, set_same (j := i * 3) (trm_cell (j := 0) h (by decide)), set_same e2]
  exact (ho.stored (i * 3 + 1) (.int .i64 x)).1
/-- How many elements a slice has. -/
def slN : Value → Nat
  | .slice _ n _ => n
  | _ => 0
theorem slN_own {w : World} {base : Nat} {e : TypeId} {s : Nat} {v : Value} {n : Nat} {xs : List Value} (ho : w.ownsRow base e s v n xs) : slN v = n := by
  obtain ⟨a, c, rfl⟩ := isSl_of ho
  rfl

set_option maxHeartbeats 2000000 in
theorem w_l13Draw (k : Nat) (c : Value) (w : World) (h : Src w k c) :
    Calls Tryd.prog 65 #[.pointer (some ⟨k, 0, none⟩)] w fun e w' => ∃ (v : Value) (l : List Trm), e = .returned v ∧ w'.ownsRow w.heap.size 60 3 v l.length (trms l) ∧ l.length ≤ 7 ∧ Drawn w w' k ∧ Src w' k c := by
  have hk := h.lt
  go_enter Tryd.func65, Tryd.ntmps65
  go_wp2_with fail
  refine (w_l13Valid k c _ h).mono ?_
  rintro e w1 ⟨v, l, rfl, hO, hC, hl5, hD1, hS1⟩
  have HO1 := Lib.hid hO
  clear hO
  obtain ⟨m, hm⟩ : ∃ m, l.length = m + 1 := ⟨l.length - 1, by have := (isChain_true hC).1; omega⟩
  rw [hm] at HO1
  have HM := Lib.hid hm
  have hm4 : m ≤ 4 := by omega
  clear hC hm hl5
  go_wp2_with fail
  refine (w_l01Next k c 20 _ hS1).mono ?_
  rintro e w2 ⟨x2, rfl, x2a, x2b, hD, hS2⟩
  have HO2 := Lib.hid (hD.owns HO1.out (by omega))
  have hD2 := hD1.trans hD
  clear hD
  have hz2 := hD2.size
  rcases own_shape HO2.out with ⟨_, hq, _⟩ | ⟨g, cap, rfl, hg0, hg1, hcap, hmx⟩
  · omega
  by_cases hq0 : x2 = 0
  · subst hq0
    obtain ⟨t, ht⟩ := get_ex (l := l) (k := 0) (by have := HM.out; omega)
    obtain ⟨e0, e1, e2⟩ := own_trm HO2.out ht
    have fz := fun j => HO2.out.frozenAt j
    have HS := Lib.hid (own_setDv HO2.out ht true)
    clear ht
    simp only [Nat.zero_mul, Nat.zero_add] at e0 e1 e2
    go_wp2
    go_ret
    exact ⟨_, l.set 0 ⟨t.f, true⟩, rfl, by rw [List.length_set, HM.out]; exact HS.out, by rw [List.length_set, HM.out]; omega, (by repeat (with_reducible first | assumption | exact grown_refl _ _ | refine Drawn.alloc ?_ _ | refine Drawn.drew ?_ | refine Drawn.drewN ?_ _ | refine Drawn.setCell ?_ (by first | omega | (simp; omega)) _ _)), (by repeat (with_reducible first | assumption | refine Src.alloc ?_ _ | refine Src.drew ?_ | refine Src.drewN ?_ _ | refine Src.setCell ?_ (by first | omega | (simp; omega)) _ _))⟩
  have hb0 : (x2 == 0) = false := by simpa using hq0
  by_cases hq1 : x2 = 1
  · subst hq1
    go_wp2_with fail
    refine (w_l02Draw k c _ hS2).mono ?_
    rintro e w3 ⟨f, rfl, hD, hS3⟩
    have HO3 := Lib.hid (hD.owns HO2.out (by omega))
    have hD3 := hD2.trans hD
    clear hD
    obtain ⟨t, ht⟩ := get_ex (l := l) (k := m) (by have := HM.out; omega)
    obtain ⟨e0, e1, e2⟩ := own_trm HO3.out ht
    have fz := fun j => HO3.out.frozenAt j
    have HS := Lib.hid (own_setF HO3.out ht f)
    clear ht
    have hg3 : g < w3.heap.size := by rcases own_shape HO3.out with ⟨h1, _⟩ | ⟨_, _, h1, _, h2, _⟩ <;> cases h1; exact h2
    have hi1 : ((m + 1 : Nat) : Int) - 1 = m := by omega
    go_wp2
    go_ret
    exact ⟨_, l.set m ⟨f, t.dv⟩, rfl, by rw [List.length_set, HM.out]; exact HS.out, by rw [List.length_set, HM.out]; omega, (by repeat (with_reducible first | assumption | exact grown_refl _ _ | refine Drawn.alloc ?_ _ | refine Drawn.drew ?_ | refine Drawn.drewN ?_ _ | refine Drawn.setCell ?_ (by first | omega | (simp; omega)) _ _)), (by repeat (with_reducible first | assumption | refine Src.alloc ?_ _ | refine Src.drew ?_ | refine Src.drewN ?_ _ | refine Src.setCell ?_ (by first | omega | (simp; omega)) _ _))⟩
  have hb1 : (x2 == 1) = false := by simpa using hq1
  by_cases hq2 : x2 = 2
  · subst hq2
    have HO3 := Lib.hid (show w2.ownsRow w.heap.size 60 3 (.slice (some ⟨g, 0, none⟩) l.length cap) l.length (trms l) from HM.out ▸ HO2.out)
    rw [← HM.out]
    go_wp2
    go_loopw [3] (fun v wr => ∃ l : List Trm, wr.ownsRow w.heap.size 60 3 v l.length (trms l) ∧ l.length ≤ 7 ∧ Drawn w wr k ∧ Src wr k c) (fun v _ => 7 - slN v)
    case atStart => exact ⟨l, HO3.out, by have := HM.out; omega, hD2, hS2⟩
    case round =>
      obtain ⟨l', hO, hl7, hDr, hSr⟩ := hrel
      have hsl := slN_own hO
      have HSL := Lib.hid hsl
      have HO := Lib.hid hO
      obtain ⟨av, cv, rfl⟩ := isSl_of hO
      clear hO hsl
      go_wp2_with fail
      refine (w_l01Next k c 2 _ hSr).mono ?_
      rintro e w3 ⟨y, rfl, ya, yb, hD, hS3⟩
      have HO4 := Lib.hid (hD.owns HO.out (by omega))
      have hD3 := hDr.trans hD
      clear hD
      by_cases hlt : (l'.length : Int) < 6 + y
      · go_wp2_with fail
        refine (w_l02Valid k c _ hS3).mono ?_
        rintro e w4 ⟨f, rfl, fb, hD, hS4⟩
        have HO5 := Lib.hid (hD.owns HO4.out (by omega))
        have hD4 := hD3.trans hD
        have hz4 := hD4.size
        clear hD
        go_wp2_with (at_builtin; refine app1_Term rfl (.tmp 31) (.tmp 35) rfl w.heap.size _ l' ⟨f, false⟩ rfl HO5.out (by simp [Act.eval, Array.getD]) (by omega) hz4 ?_; intro v5 w5 ho5 hg5)
        go_roundw
        case rel => exact ⟨l' ++ [⟨f, false⟩], ho5, by simp; omega, hD4.own (Nat.le_refl _) HO5.out hg5, hS4.own (base := w.heap.size) (by omega) HO5.out hg5⟩
        case measure =>
          have h1 := slN_own ho5
          have h2 := HSL.out
          rw [List.length_append, List.length_cons, List.length_nil] at h1
          omega
      · go_wp2
        go_ret
        exact ⟨_, l', rfl, HO4.out, hl7, (by repeat (with_reducible first | assumption | exact grown_refl _ _ | refine Drawn.alloc ?_ _ | refine Drawn.drew ?_ | refine Drawn.drewN ?_ _ | refine Drawn.setCell ?_ (by first | omega | (simp; omega)) _ _)), (by repeat (with_reducible first | assumption | refine Src.alloc ?_ _ | refine Src.drew ?_ | refine Src.drewN ?_ _ | refine Src.setCell ?_ (by first | omega | (simp; omega)) _ _))⟩
  have hb2 : (x2 == 2) = false := by simpa using hq2
  by_cases hq3 : x2 = 3
  · subst hq3
    have HT := Lib.hid (own_take HO2.out (k := 0) (Nat.zero_le _) (fun _ h => by cases h))
    go_wp2
    go_ret
    exact ⟨_, [], rfl, HT.out, by simp, (by repeat (with_reducible first | assumption | exact grown_refl _ _ | refine Drawn.alloc ?_ _ | refine Drawn.drew ?_ | refine Drawn.drewN ?_ _ | refine Drawn.setCell ?_ (by first | omega | (simp; omega)) _ _)), (by repeat (with_reducible first | assumption | refine Src.alloc ?_ _ | refine Src.drew ?_ | refine Src.drewN ?_ _ | refine Src.setCell ?_ (by first | omega | (simp; omega)) _ _))⟩
  have hb3 : (x2 == 3) = false := by simpa using hq3
  go_wp2
  go_ret
  exact ⟨_, l, rfl, by rw [HM.out]; exact HO2.out, by have := HM.out; omega, (by repeat (with_reducible first | assumption | exact grown_refl _ _ | refine Drawn.alloc ?_ _ | refine Drawn.drew ?_ | refine Drawn.drewN ?_ _ | refine Drawn.setCell ?_ (by first | omega | (simp; omega)) _ _)), (by repeat (with_reducible first | assumption | refine Src.alloc ?_ _ | refine Src.drew ?_ | refine Src.drewN ?_ _ | refine Src.setCell ?_ (by first | omega | (simp; omega)) _ _))⟩

end Go.Proofs.YtgngbdacejghcaaDoor
