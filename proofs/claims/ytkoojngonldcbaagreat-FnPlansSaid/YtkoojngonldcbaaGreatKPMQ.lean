/- DERIVED. Walks: likeInts, likeMoves. -/
import Derived.Test.YtkoojngonldcbaaGreatKPM100
namespace Go.Proofs.YtkoojngonldcbaaGreat
set_option linter.unusedVariables false
set_option linter.unusedSimpArgs false
open Go.RowKit
set_option maxRecDepth 100000
set_option maxHeartbeats 1000000 in
theorem w_likeIntsY (v v' : Value) (ts : List Int) (w : World) (h : IsNums w v ts) (h' : IsNums w v' ts) :
 Calls Tryz.prog 18 #[v, v'] w fun e w' => e = .returned (.bool true) ∧ Later w w' := by
 obtain ⟨hxl, hn, a, cap, rfl, hcap, hmax, hrow⟩ := h
 obtain ⟨hxl', hn', a', cap', rfl, hcap', hmax', hrow'⟩ := h'
 clear hxl hxl' hn'
 obtain ⟨n, hnn⟩ : ∃ n, ts.length = n := ⟨_, rfl⟩
 rw [hnn] at hn hcap hrow hcap' hrow' ⊢
 have HN := Lib.hid hnn
 have HR := Lib.hid hrow
 have HR' := Lib.hid hrow'
 clear hnn hrow hrow'
 go_enter Tryz.func18, Tryz.ntmps18
 go_wp2
 go_loopw [5] (fun i wr => ∃ k : Nat, k ≤ n ∧ i = .int .i64 k ∧ Later w wr) (fun i _ => n - (intOf i).toNat)
 case atStart => exact ⟨0, Nat.zero_le _, rfl, Later.refl _⟩
 case round =>
  obtain ⟨k, hk, rfl, hL⟩ := hrel
  by_cases hlt : k < n
  · obtain ⟨b, off, rfl, hr⟩ := HR.out (by omega)
    obtain ⟨b', off', rfl, hr'⟩ := HR'.out (by omega)
    obtain ⟨t, ht⟩ := get_ex (l := ts) (k := k) (by have := HN.out; omega)
    have HT := Lib.hid ht
    have c1_0 := (hr.later hL).num ht
    have d0 := (hr'.later hL).num ht
    have hz1 := (hr.later hL).1
    have hz2 := (hr'.later hL).1
    clear ht
    go_wp2_with fail
    go_quiet (fail)
    go_wp2
    go_roundw
    case rel => exact ⟨k + 1, by omega, by go_num, by (repeat (with_reducible first | exact Later.refl _ | refine qLa ?_ | refine qLd ?_ | refine qLe ?_ | refine qLs ?_ | refine qLt ?_ (by assumption)))⟩
    case measure => simp [intOf]; omega
  · go_wp2
    go_ret
    exact ⟨rfl, hL⟩
set_option maxHeartbeats 1000000 in
theorem w_likeMovesY (v v' : Value) (ts : List Mov) (w : World) (h : IsMovs w v ts) (h' : IsMovs w v' ts) :
 Calls Tryz.prog 19 #[v, v'] w fun e w' => e = .returned (.bool true) ∧ Later w w' := by
 obtain ⟨hxl, hn, a, cap, rfl, hcap, hmax, hrow⟩ := h
 obtain ⟨hxl', hn', a', cap', rfl, hcap', hmax', hrow'⟩ := h'
 clear hxl hxl' hn'
 obtain ⟨n, hnn⟩ : ∃ n, ts.length = n := ⟨_, rfl⟩
 rw [hnn] at hn hcap hrow hcap' hrow' ⊢
 have HN := Lib.hid hnn
 have HR := Lib.hid hrow
 have HR' := Lib.hid hrow'
 clear hnn hrow hrow'
 go_enter Tryz.func19, Tryz.ntmps19
 go_wp2
 go_loopw [5] (fun i wr => ∃ k : Nat, k ≤ n ∧ i = .int .i64 k ∧ Later w wr) (fun i _ => n - (intOf i).toNat)
 case atStart => exact ⟨0, Nat.zero_le _, rfl, Later.refl _⟩
 case round =>
  obtain ⟨k, hk, rfl, hL⟩ := hrel
  by_cases hlt : k < n
  · obtain ⟨b, off, rfl, hr⟩ := HR.out (by omega)
    obtain ⟨b', off', rfl, hr'⟩ := HR'.out (by omega)
    obtain ⟨t, ht⟩ := get_ex (l := ts) (k := k) (by have := HN.out; omega)
    have HT := Lib.hid ht
    obtain ⟨c1_0, c1_1, c1_2, c1_3⟩ := (hr.later hL).mov ht
    obtain ⟨d0, d1, d2, d3⟩ := (hr'.later hL).mov ht
    have hz1 := (hr.later hL).1
    have hz2 := (hr'.later hL).1
    clear ht
    go_wp2_with fail
    go_quiet (fail)
    go_wp2
    go_roundw
    case rel => exact ⟨k + 1, by omega, by go_num, by (repeat (with_reducible first | exact Later.refl _ | refine qLa ?_ | refine qLd ?_ | refine qLe ?_ | refine qLs ?_ | refine qLt ?_ (by assumption)))⟩
    case measure => simp [intOf]; omega
  · go_wp2
    go_ret
    exact ⟨rfl, hL⟩
end Go.Proofs.YtkoojngonldcbaaGreat
