/- DERIVED. Walks: figures that are limited, placed, listed; distances; the exponent of a transfer. -/
import Derived.Test.YtkoojngonldcbaaGreatKBM17
import Derived.Test.YtkoojngonldcbaaGreatKBBA
import Derived.Test.YtkoojngonldcbaaGreatKBM13
import Derived.Test.YtkoojngonldcbaaGreatKBPA
namespace Go.Proofs.YtkoojngonldcbaaGreat
set_option linter.unusedVariables false
set_option linter.unusedSimpArgs false
open Go.RowKit
set_option maxRecDepth 100000
theorem w_areFigures (v : Value) (l : List Fig) (w : World) (h : IsFigs w v l) :
 Calls Tryz.prog 167 #[v] w fun e w' => e = .returned (.bool (l.all isFig)) ∧ Later w w' := by
 obtain ⟨hxl1, hn1, a1, cap1, rfl, hcap1, hmax1, hrow1⟩ := h
 have HR1 := Lib.hid hrow1
 clear hrow1 hxl1
 go_enter Tryz.func167, Tryz.ntmps167
 go_wp2
 go_loopw [7] (fun i wr => ∃ k : Nat, k ≤ l.length ∧ i = .int .i64 k ∧ Later w wr ∧ Hid ((l.take k).all isFig = true)) (fun i _ => l.length - (intOf i).toNat)
 case atStart => exact ⟨0, Nat.zero_le _, rfl, Later.refl _, by simp [Hid]⟩
 case round =>
  obtain ⟨k, hk, rfl, hL, HE⟩ := hrel
  by_cases hlt : k < l.length
  · obtain ⟨b1, off1, rfl, hr1⟩ := HR1.out (by omega)
    obtain ⟨t, ht1⟩ := get_ex (l := l) (k := k) (by omega)
    have HT1 := Lib.hid ht1
    obtain ⟨c1_0, c1_1⟩ := (hr1.later hL).fig ht1
    clear ht1
    cases hq : isFig t
    all_goals
     have HQ := Lib.hid hq
     clear hq
     go_wp2_with (go_at_call 86; refine (w_implIsFigure _ _ _).mono ?_; rintro e w1 ⟨rfl, hL1⟩; rw [show isFig ⟨t.d, t.t⟩ = _ from HQ.out])
    · have hf := all_false (p := isFig) HT1.out HQ.out
      go_ret
      exact ⟨by rw [hf]; rfl, qla⟩
    · go_roundw
      case rel => exact ⟨k + 1, by omega, by go_num, qla, all_snoc HT1.out HE.out HQ.out⟩
      case measure => simp [intOf]; omega
  · have ha : l.all isFig = true := by
     have := HE.out
     rwa [take_eq_all (by omega)] at this
    have HA := Lib.hid ha
    clear ha
    go_wp2
    go_ret
    exact ⟨by rw [HA.out]; rfl, hL⟩
end Go.Proofs.YtkoojngonldcbaaGreat
namespace Go.Proofs.YtkoojngonldcbaaGreat
set_option linter.unusedVariables false
set_option linter.unusedSimpArgs false
open Go.RowKit
set_option maxRecDepth 100000
theorem tmod_mod {a m : Int} (hm : 0 < m) : (a.tmod m + m) % m = a % m := by
 rw [Int.add_emod_right, Int.tmod_def, Int.sub_mul_emod_self_left]
theorem w_l01Mod (a m : Int) (h1 : 0 < m) (h2 : m ≤ 1000000000000) (h3 : -1000000000000000 ≤ a) (h4 : a ≤ 1000000000000000) (w : World) :
 Calls Tryz.prog 69 #[.int .i64 a, .int .i64 m] w fun e w' => e = .returned (.int .i64 (a % m)) ∧ w = w' := by
 have hm0 : (m == 0) = false := by simp; omega
 by_cases hneg : a < 0
 · have hq := tdiv_neg hneg h1
   have hlt : -m < a.tmod m := by
    have := Int.tmod_def a m
    have h := Int.lt_tmod_of_pos a h1
    omega
   have hle := hq.2.2.1
   have HF := Lib.hid (tmod_mod (a := a) h1)
   clear hq
   go_enter Tryz.func69, Tryz.ntmps69
   go_wp2
   go_ret
   exact ⟨by rw [← HF.out]; rfl, rfl⟩
 · have hb1 := Int.emod_nonneg a (show m ≠ 0 by omega)
   have hb2 := Int.emod_lt_of_pos a h1
   have HF := Lib.hid (show (a % m + m) % m = a % m from by rw [Int.add_emod_right, Int.emod_emod])
   go_enter Tryz.func69, Tryz.ntmps69
   go_wp2
   go_ret
   exact ⟨by rw [← HF.out]; rfl, rfl⟩
end Go.Proofs.YtkoojngonldcbaaGreat
