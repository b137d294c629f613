/- DERIVED. Walks: figures that are limited, placed, listed; distances; the exponent of a transfer. -/
import Derived.Test.YtgngbdacejghcaaGreatDoorKVM17
import Derived.Test.YtgngbdacejghcaaGreatDoorKVBA
import Derived.Test.YtgngbdacejghcaaGreatDoorKVM13
import Derived.Test.YtgngbdacejghcaaGreatDoorKVPA
namespace Go.Proofs.YtgngbdacejghcaaGreatDoor
set_option linter.unusedVariables false
set_option linter.unusedSimpArgs false
open Go.RowKit
set_option maxRecDepth 100000
theorem w_distance (a b : Int) (h1 : -1000000000000000000 ≤ a) (h2 : a ≤ 1000000000000000000) (h3 : -1000000000000000000 ≤ b) (h4 : b ≤ 1000000000000000000) (w : World) :
 Calls Tryz.prog 88 #[.int .i64 a, .int .i64 b] w fun e w' => e = .returned (.int .i64 (max (a - b) (b - a))) ∧ w = w' := by
 rcases Int.lt_trichotomy a b with hm | hm | hm
 · have HE := Lib.hid (show max (a - b) (b - a) = b - a by omega)
   go_enter Tryz.func88, Tryz.ntmps88
   go_wp2
   go_ret
   exact ⟨by rw [HE.out]; rfl, rfl⟩
 · subst hm
   have HE := Lib.hid (show max (a - a) (a - a) = 0 by omega)
   go_enter Tryz.func88, Tryz.ntmps88
   go_wp2
   go_ret
   exact ⟨by rw [HE.out]; rfl, rfl⟩
 · have HE := Lib.hid (show max (a - b) (b - a) = a - b by omega)
   go_enter Tryz.func88, Tryz.ntmps88
   go_wp2
   go_ret
   exact ⟨by rw [HE.out]; rfl, rfl⟩
end Go.Proofs.YtgngbdacejghcaaGreatDoor
namespace Go.Proofs.YtgngbdacejghcaaGreatDoor
set_option linter.unusedVariables false
set_option linter.unusedSimpArgs false
open Go.RowKit
set_option maxRecDepth 100000
theorem tmod_mod {a m : Int} (hm : 0 < m) : (a.tmod m + m) % m = a % m := by
 rw [Int.add_emod_right, Int.tmod_def, Int.sub_mul_emod_self_left]
theorem w_l01Mod (a m : Int) (h1 : 0 < m) (h2 : m ≤ 1000000000000) (h3 : -1000000000000000 ≤ a) (h4 : a ≤ 1000000000000000) (w : World) :
 Calls Tryz.prog 165 #[.int .i64 a, .int .i64 m] w fun e w' => e = .returned (.int .i64 (a % m)) ∧ w = w' := by
 have hm0 : (m == 0) = false := by simp; omega
 by_cases hneg : a < 0
 · have hq := tdiv_neg hneg h1
   have hlt : -m < a.tmod m := by
    have := Int.tmod_def a m
    have h := Int.lt_tmod_of_pos a h1
    omega
   have hle := hq.2.2.1
   have HF := Lib.hid (tmod_mod (a := a) h1)
   clear hq
   go_enter Tryz.func165, Tryz.ntmps165
   go_wp2
   go_ret
   exact ⟨by rw [← HF.out]; rfl, rfl⟩
 · have hb1 := Int.emod_nonneg a (show m ≠ 0 by omega)
   have hb2 := Int.emod_lt_of_pos a h1
   have HF := Lib.hid (show (a % m + m) % m = a % m from by rw [Int.add_emod_right, Int.emod_emod])
   go_enter Tryz.func165, Tryz.ntmps165
   go_wp2
   go_ret
   exact ⟨by rw [← HF.out]; rfl, rfl⟩
end Go.Proofs.YtgngbdacejghcaaGreatDoor
