/- DERIVED. Walks: terms in an order. -/
import Derived.Test.YtldojpelnghplaaGreatM3
import Derived.Test.YtldojpelnghplaaGreatBA
namespace Go.Proofs.YtldojpelnghplaaGreat
set_option linter.unusedVariables false
set_option linter.unusedSimpArgs false
open Go.RowKit
set_option maxRecDepth 100000

theorem w_l01Has (v : Value) (l : List Int) (x : Int) (w : World) (h : IsNums w v l) :
    Calls Tryz.prog 56 #[v, .int .i64 x] w fun e w' => e = .returned (.bool (hasI l x)) ∧ w = w' := by
  obtain ⟨hxl1, hn1, a1, cap1, rfl, hcap1, hmax1, hrow1⟩ := h
  have HR1 := Lib.hid hrow1
  clear hrow1 hxl1
  go_enter Tryz.func56, Tryz.ntmps56
  go_wp2
  go_loop [5] (fun i => ∃ k : Nat, k ≤ l.length ∧ i = .int .i64 k ∧ Hid ((l.take k).any (fun y => y == x) = false)) (fun i => l.length - (intOf i).toNat)
  case atStart => exact ⟨0, Nat.zero_le _, rfl, by simp [Hid]⟩
  case round =>
    obtain ⟨k, hk, rfl, HE⟩ := hrel
    have hL := Later.refl w
    by_cases hlt : k < l.length
    · obtain ⟨b1, off1, rfl, hr1⟩ := HR1.out (by omega)
      obtain ⟨y, ht1⟩ := get_ex (l := l) (k := k) (by omega)
      have HT1 := Lib.hid ht1
      have c1_0 := (hr1.later hL).num ht1
      clear ht1
      cases hq : (y == x)
      · have HQ := Lib.hid hq
        go_wp2
        go_round
        case rel => exact ⟨k + 1, by omega, by go_num, any_snoc HT1.out HE.out HQ.out⟩
        case measure => simp [intOf]; omega
      · have hf : hasI l x = true := any_true (p := fun y => y == x) HT1.out hq
        have HF := Lib.hid hf
        clear hf
        go_wp2
        go_ret
        exact ⟨by rw [HF.out]; rfl, rfl⟩
    · have hf : hasI l x = false := any_false_end (by omega) HE.out
      have HF := Lib.hid hf
      clear hf
      go_wp2
      go_ret
      exact ⟨by rw [HF.out]; rfl, rfl⟩

theorem w_indexInt (v : Value) (l : List Int) (x : Int) (w : World) (h : IsNums w v l) :
    Calls Tryz.prog 123 #[v, .int .i64 x] w fun e w' => (∃ r : Int, e = .returned (.int .i64 r) ∧ decide (0 ≤ r) = hasI l x) ∧ w = w' := by
  obtain ⟨hxl1, hn1, a1, cap1, rfl, hcap1, hmax1, hrow1⟩ := h
  have HR1 := Lib.hid hrow1
  clear hrow1 hxl1
  go_enter Tryz.func123, Tryz.ntmps123
  go_wp2
  go_loop [5, 8] (fun _ i => ∃ k : Nat, k ≤ l.length ∧ i = .int .i64 k ∧ Hid ((l.take k).any (fun y => y == x) = false)) (fun _ i => l.length - (intOf i).toNat)
  case atStart => exact ⟨0, Nat.zero_le _, rfl, by simp [Hid]⟩
  case round =>
    obtain ⟨k, hk, rfl, HE⟩ := hrel
    have hL := Later.refl w
    by_cases hlt : k < l.length
    · obtain ⟨b1, off1, rfl, hr1⟩ := HR1.out (by omega)
      obtain ⟨y, ht1⟩ := get_ex (l := l) (k := k) (by omega)
      have HT1 := Lib.hid ht1
      have c1_0 := (hr1.later hL).num ht1
      clear ht1
      cases hq : (x == y)
      · have HQ := Lib.hid hq
        go_wp2
        go_round
        case rel => exact ⟨k + 1, by omega, by go_num, any_snoc HT1.out HE.out (by have := HQ.out; simp at this ⊢; omega)⟩
        case measure => simp [intOf]; omega
      · have hf : hasI l x = true := any_true (p := fun y => y == x) HT1.out (by simp at hq ⊢; omega)
        have HF := Lib.hid hf
        clear hf
        go_wp2
        go_ret
        exact ⟨⟨_, rfl, by rw [HF.out]; simp⟩, rfl⟩
    · have hf : hasI l x = false := any_false_end (by omega) HE.out
      have HF := Lib.hid hf
      clear hf
      go_wp2
      go_ret
      exact ⟨⟨_, rfl, by rw [HF.out]; simp⟩, rfl⟩

theorem w_containsInt (v : Value) (l : List Int) (x : Int) (w : World) (h : IsNums w v l) :
    Calls Tryz.prog 85 #[v, .int .i64 x] w fun e w' => e = .returned (.bool (hasI l x)) ∧ w = w' := by
  go_enter Tryz.func85, Tryz.ntmps85
  go_wp2_with (go_at_call 123; refine (w_indexInt _ _ _ _ h).mono ?_; rintro e w1 ⟨⟨r, rfl, hr⟩, rfl⟩)
  go_ret
  exact ⟨by simp_all, rfl⟩

theorem w_l14Ordered (v u : Value) (c : List Trm) (os : List Int) (w : World) (h : IsTrms w v c) (h' : IsNums w u os) (hr : ∀ k ∈ os, 0 ≤ k ∧ k < c.length) :
    Calls Tryz.prog 55 #[v, u] w fun e w' => ∃ v', e = .returned v' ∧ Later w w' ∧ w'.ownsRow w.heap.size 64 3 v' (orderedL c os).length (trms (orderedL c os)) := by
  have HO := Lib.hid hr
  clear hr
  obtain ⟨hxl1, hn1, a1, cap1, rfl, hcap1, hmax1, hrow1⟩ := h
  have HR1 := Lib.hid hrow1
  clear hrow1 hxl1
  obtain ⟨hxl2, hn2, a2, cap2, rfl, hcap2, hmax2, hrow2⟩ := h'
  have HR2 := Lib.hid hrow2
  clear hrow2 hxl2
  go_enter Tryz.func55, Tryz.ntmps55
  go_wp2
  go_loopw [5, 6] (fun r i wr => ∃ k : Nat, k ≤ os.length ∧ i = .int .i64 k ∧ Later w wr ∧ wr.ownsRow w.heap.size 64 3 r (orderedL c (os.take k)).length (trms (orderedL c (os.take k)))) (fun _ i _ => os.length - (intOf i).toNat)
  case atStart => exact ⟨0, Nat.zero_le _, rfl, by (repeat (with_reducible first | exact Later.refl _ | refine Later.alloc ?_ _ | refine Later.drew ?_ | refine Later.drewN ?_ _ | refine Later.setCell ?_ (by simp; try omega) _ | refine Later.trans ?_ (by assumption))), own_empty (Nat.le_refl _) _ _⟩
  case round =>
    obtain ⟨k, hk, rfl, hL, hown⟩ := hrel
    have hJ := orderedL_len c (os.take k)
    rw [List.length_take, Nat.min_eq_left hk] at hJ
    have HJ := Lib.hid hJ
    clear hJ
    by_cases hlt : k < os.length
    · obtain ⟨b2, off2, rfl, hr2⟩ := HR2.out (by omega)
      obtain ⟨y, ht2⟩ := get_ex (l := os) (k := k) (by omega)
      have HT2 := Lib.hid ht2
      have c2_0 := (hr2.later hL).num ht2
      clear ht2
      have hy := HO.out y (List.mem_of_getElem? HT2.out)
      obtain ⟨i, rfl⟩ := Int.eq_ofNat_of_zero_le hy.1
      have hi : i < c.length := by omega
      clear hy
      obtain ⟨b1, off1, rfl, hr1⟩ := HR1.out (by omega)
      obtain ⟨t, ht⟩ := get_ex hi
      have HT1 := Lib.hid ht
      obtain ⟨c1_0, c1_1, c1_2⟩ := (hr1.later hL).trm ht
      clear ht
      go_wp2_with (at_builtin; refine app1_Term rfl (.tmp 14) (.tmp 22) rfl w.heap.size _ _ t rfl hown rfl ?_ hL.size ?_; (· rw [HJ.out]; omega); intro v1 w4 ho4 hg4)
      go_roundw
      case rel => exact ⟨k + 1, by omega, by go_num, hL.own (Nat.le_refl _) hown hg4, by rw [take_snoc' HT2.out, orderedL_snoc, Int.toNat_natCast, getD_of HT1.out]; exact ho4⟩
      case measure => simp [intOf]; omega
    · have hown' : wr.ownsRow w.heap.size 64 3 u5 (orderedL c os).length (trms (orderedL c os)) := by
        rw [take_eq_all (by omega)] at hown
        exact hown
      clear hown
      go_wp2
      go_ret
      exact ⟨_, rfl, hL, hown'⟩

end Go.Proofs.YtldojpelnghplaaGreat
