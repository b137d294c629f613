/- DERIVED. Walks: a remainder. -/
import Derived.Test.YtgngbdacejghcaaGreatDoorKUM18
import Derived.Test.YtgngbdacejghcaaGreatDoorKUPA
import Derived.Test.YtgngbdacejghcaaGreatDoorKUBA
namespace Go.Proofs.YtgngbdacejghcaaGreatDoor
set_option linter.unusedVariables false
set_option linter.unusedSimpArgs false
open Go.RowKit
set_option maxRecDepth 100000
theorem tmod_mod {a m : Int} (hm : 0 < m) : (a.tmod m + m) % m = a % m := by
 rw [Int.add_emod_right, Int.tmod_def, Int.sub_mul_emod_self_left]
theorem w_l01Mod (a m : Int) (h1 : 0 < m) (h2 : m ≤ 1000000000000) (h3 : -1000000000000000 ≤ a) (h4 : a ≤ 1000000000000000) (w : World) :
 Calls Tryz.prog 165 #[.int .i64 a, .int .i64 m] w fun e w' => e = .returned (.int .i64 (a % m)) ∧ w = w' := by
 have hm0 : (m == 0) = false := by simp; omega
 by_cases hneg : a < 0
 · have hq := tdiv_neg hneg h1
   have hlt : -m < a.tmod m := by
    have := Int.tmod_def a m
    have h := Int.lt_tmod_of_pos a h1
    omega
   have hle := hq.2.2.1
   have HF := Lib.hid (tmod_mod (a := a) h1)
   clear hq
   go_enter Tryz.func165, Tryz.ntmps165
   go_wp2
   go_ret
   exact ⟨by rw [← HF.out]; rfl, rfl⟩
 · have hb1 := Int.emod_nonneg a (show m ≠ 0 by omega)
   have hb2 := Int.emod_lt_of_pos a h1
   have HF := Lib.hid (show (a % m + m) % m = a % m from by rw [Int.add_emod_right, Int.emod_emod])
   go_enter Tryz.func165, Tryz.ntmps165
   go_wp2
   go_ret
   exact ⟨by rw [← HF.out]; rfl, rfl⟩
end Go.Proofs.YtgngbdacejghcaaGreatDoor
