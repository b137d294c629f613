/- DERIVED. Walks: laws.likeInts. -/
import Derived.Test.YtgngbdacejghcaaGreatDoorKUM100
namespace Go.Proofs.YtgngbdacejghcaaGreatDoor
set_option linter.unusedVariables false
set_option linter.unusedSimpArgs false
open Go.RowKit
set_option maxRecDepth 100000
set_option maxHeartbeats 1000000 in
theorem w_likeIntsY (v v' : Value) (ts : List Int) (w : World) (h : IsNums w v ts) (h' : IsNums w v' ts) :
 Calls Tryz.prog 71 #[v, v'] w fun e w' => e = .returned (.bool true) ∧ Later w w' := by
 obtain ⟨hxl, hn, a, cap, rfl, hcap, hmax, hrow⟩ := h
 obtain ⟨hxl', hn', a', cap', rfl, hcap', hmax', hrow'⟩ := h'
 clear hxl hxl' hn'
 obtain ⟨n, hnn⟩ : ∃ n, ts.length = n := ⟨_, rfl⟩
 rw [hnn] at hn hcap hrow hcap' hrow' ⊢
 have HN := Lib.hid hnn
 have HR := Lib.hid hrow
 have HR' := Lib.hid hrow'
 clear hnn hrow hrow'
 go_enter Tryz.func71, Tryz.ntmps71
 go_wp2
 go_loopw [5] (fun i wr => ∃ k : Nat, k ≤ n ∧ i = .int .i64 k ∧ Later w wr) (fun i _ => n - (intOf i).toNat)
 case atStart => exact ⟨0, Nat.zero_le _, rfl, Later.refl _⟩
 case round =>
  obtain ⟨k, hk, rfl, hL⟩ := hrel
  by_cases hlt : k < n
  · obtain ⟨b, off, rfl, hr⟩ := HR.out (by omega)
    obtain ⟨b', off', rfl, hr'⟩ := HR'.out (by omega)
    obtain ⟨t, ht⟩ := get_ex (l := ts) (k := k) (by have := HN.out; omega)
    have HT := Lib.hid ht
    have c1_0 := (hr.later hL).num ht
    have d0 := (hr'.later hL).num ht
    have hz1 := (hr.later hL).1
    have hz2 := (hr'.later hL).1
    clear ht
    go_wp2_with fail
    go_quiet (fail)
    go_wp2
    go_roundw
    case rel => exact ⟨k + 1, by omega, by go_num, qla⟩
    case measure => simp [intOf]; omega
  · go_wp2
    go_ret
    exact ⟨rfl, hL⟩
end Go.Proofs.YtgngbdacejghcaaGreatDoor
