/- DERIVED. Walks: figures that are limited, placed, listed; distances; the exponent of a transfer. -/
import Derived.Test.YtgngbdacejghcaaGreatDoorKUM17
import Derived.Test.YtgngbdacejghcaaGreatDoorKUBA
import Derived.Test.YtgngbdacejghcaaGreatDoorKUM13
import Derived.Test.YtgngbdacejghcaaGreatDoorKUPA
namespace Go.Proofs.YtgngbdacejghcaaGreatDoor
set_option linter.unusedVariables false
set_option linter.unusedSimpArgs false
open Go.RowKit
set_option maxRecDepth 100000
theorem w_areFigures (v : Value) (l : List Fig) (w : World) (h : IsFigs w v l) :
 Calls Tryz.prog 121 #[v] w fun e w' => e = .returned (.bool (l.all isFig)) ∧ Later w w' := by
 obtain ⟨hxl1, hn1, a1, cap1, rfl, hcap1, hmax1, hrow1⟩ := h
 have HR1 := Lib.hid hrow1
 clear hrow1 hxl1
 go_enter Tryz.func121, Tryz.ntmps121
 go_wp2
 go_loopw [7] (fun i wr => ∃ k : Nat, k ≤ l.length ∧ i = .int .i64 k ∧ Later w wr ∧ Hid ((l.take k).all isFig = true)) (fun i _ => l.length - (intOf i).toNat)
 case atStart => exact ⟨0, Nat.zero_le _, rfl, Later.refl _, by simp [Hid]⟩
 case round =>
  obtain ⟨k, hk, rfl, hL, HE⟩ := hrel
  by_cases hlt : k < l.length
  · obtain ⟨b1, off1, rfl, hr1⟩ := HR1.out (by omega)
    obtain ⟨t, ht1⟩ := get_ex (l := l) (k := k) (by omega)
    have HT1 := Lib.hid ht1
    obtain ⟨c1_0, c1_1⟩ := (hr1.later hL).fig ht1
    clear ht1
    cases hq : isFig t
    all_goals
     have HQ := Lib.hid hq
     clear hq
     go_wp2_with (go_at_call 46; refine (w_implIsFigure _ _ _).mono ?_; rintro e w1 ⟨rfl, hL1⟩; rw [show isFig ⟨t.d, t.t⟩ = _ from HQ.out])
    · have hf := all_false (p := isFig) HT1.out HQ.out
      go_ret
      exact ⟨by rw [hf]; rfl, qla⟩
    · go_roundw
      case rel => exact ⟨k + 1, by omega, by go_num, qla, all_snoc HT1.out HE.out HQ.out⟩
      case measure => simp [intOf]; omega
  · have ha : l.all isFig = true := by
     have := HE.out
     rwa [take_eq_all (by omega)] at this
    have HA := Lib.hid ha
    clear ha
    go_wp2
    go_ret
    exact ⟨by rw [HA.out]; rfl, hL⟩
theorem w_distance (a b : Int) (h1 : -1000000000000000000 ≤ a) (h2 : a ≤ 1000000000000000000) (h3 : -1000000000000000000 ≤ b) (h4 : b ≤ 1000000000000000000) (w : World) :
 Calls Tryz.prog 88 #[.int .i64 a, .int .i64 b] w fun e w' => e = .returned (.int .i64 (max (a - b) (b - a))) ∧ w = w' := by
 rcases Int.lt_trichotomy a b with hm | hm | hm
 · have HE := Lib.hid (show max (a - b) (b - a) = b - a by omega)
   go_enter Tryz.func88, Tryz.ntmps88
   go_wp2
   go_ret
   exact ⟨by rw [HE.out]; rfl, rfl⟩
 · subst hm
   have HE := Lib.hid (show max (a - a) (a - a) = 0 by omega)
   go_enter Tryz.func88, Tryz.ntmps88
   go_wp2
   go_ret
   exact ⟨by rw [HE.out]; rfl, rfl⟩
 · have HE := Lib.hid (show max (a - b) (b - a) = a - b by omega)
   go_enter Tryz.func88, Tryz.ntmps88
   go_wp2
   go_ret
   exact ⟨by rw [HE.out]; rfl, rfl⟩
end Go.Proofs.YtgngbdacejghcaaGreatDoor
