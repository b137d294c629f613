/- DERIVED. Walks: the draws of chains. -/
import Derived.Test.YtgngbdacejghcaaGreatDoorKVM101
import Derived.Test.YtgngbdacejghcaaGreatDoorKVM1
import Derived.Test.YtgngbdacejghcaaGreatDoorKVBA
namespace Go.Proofs.YtgngbdacejghcaaGreatDoor
set_option linter.unusedVariables false
set_option linter.unusedSimpArgs false
open Go.RowKit
set_option maxRecDepth 100000
theorem w_l01From' (c : Value) (bs : List Int) (w : World) (h : IsByts w c bs) (hB : ∀ b ∈ bs, 0 ≤ b ∧ b ≤ 255) (hl : bs.length ≤ 4096) :
 Calls Tryz.prog 40 #[c] w fun e w' => ∃ k, e = .returned (.pointer (some ⟨k, 0, none⟩)) ∧ w.heap.size ≤ k ∧ Later w w' ∧ Src w' k c :=
 (w_l01From c bs w h hB hl).mono fun e w' h => ⟨_, h.1, Nat.le_refl _, h.2.1, h.2.2⟩
theorem w_big (a : Option Addr) (n cap : Nat) (hn : n ≤ 9223372036854775807) (w : World) :
 Calls Tryz.prog 5 #[.slice a n cap] w fun e w' => e = .returned (.bool (decide ((4096 : Int) < (n : Int)))) ∧ w = w' := by
 go_enter Tryz.func5, Tryz.ntmps5
 go_wp2
 go_ret
 exact ⟨rfl, rfl⟩
end Go.Proofs.YtgngbdacejghcaaGreatDoor
namespace Go.Proofs.YtgngbdacejghcaaGreatDoor
set_option linter.unusedVariables false
set_option linter.unusedSimpArgs false
open Go.RowKit
set_option maxRecDepth 100000
theorem w_l01Has (v : Value) (l : List Int) (x : Int) (w : World) (h : IsNums w v l) :
 Calls Tryz.prog 69 #[v, .int .i64 x] w fun e w' => e = .returned (.bool (hasI l x)) ∧ w = w' := by
 obtain ⟨hxl1, hn1, a1, cap1, rfl, hcap1, hmax1, hrow1⟩ := h
 have HR1 := Lib.hid hrow1
 clear hrow1 hxl1
 go_enter Tryz.func69, Tryz.ntmps69
 go_wp2
 go_loop [5] (fun i => ∃ k : Nat, k ≤ l.length ∧ i = .int .i64 k ∧ Hid ((l.take k).any (fun y => y == x) = false)) (fun i => l.length - (intOf i).toNat)
 case atStart => exact ⟨0, Nat.zero_le _, rfl, by simp [Hid]⟩
 case round =>
  obtain ⟨k, hk, rfl, HE⟩ := hrel
  have hL := Later.refl w
  by_cases hlt : k < l.length
  · obtain ⟨b1, off1, rfl, hr1⟩ := HR1.out (by omega)
    obtain ⟨y, ht1⟩ := get_ex (l := l) (k := k) (by omega)
    have HT1 := Lib.hid ht1
    have c1_0 := (hr1.later hL).num ht1
    clear ht1
    cases hq : (y == x)
    · have HQ := Lib.hid hq
      go_wp2
      go_round
      case rel => exact ⟨k + 1, by omega, by go_num, any_snoc HT1.out HE.out HQ.out⟩
      case measure => simp [intOf]; omega
    · have hf : hasI l x = true := any_true (p := fun y => y == x) HT1.out hq
      have HF := Lib.hid hf
      clear hf
      go_wp2
      go_ret
      exact ⟨by rw [HF.out]; rfl, rfl⟩
  · have hf : hasI l x = false := any_false_end (by omega) HE.out
    have HF := Lib.hid hf
    clear hf
    go_wp2
    go_ret
    exact ⟨by rw [HF.out]; rfl, rfl⟩
theorem w_indexInt (v : Value) (l : List Int) (x : Int) (w : World) (h : IsNums w v l) :
 Calls Tryz.prog 136 #[v, .int .i64 x] w fun e w' => (∃ r : Int, e = .returned (.int .i64 r) ∧ decide (0 ≤ r) = hasI l x) ∧ w = w' := by
 obtain ⟨hxl1, hn1, a1, cap1, rfl, hcap1, hmax1, hrow1⟩ := h
 have HR1 := Lib.hid hrow1
 clear hrow1 hxl1
 go_enter Tryz.func136, Tryz.ntmps136
 go_wp2
 go_loop [5, 8] (fun _ i => ∃ k : Nat, k ≤ l.length ∧ i = .int .i64 k ∧ Hid ((l.take k).any (fun y => y == x) = false)) (fun _ i => l.length - (intOf i).toNat)
 case atStart => exact ⟨0, Nat.zero_le _, rfl, by simp [Hid]⟩
 case round =>
  obtain ⟨k, hk, rfl, HE⟩ := hrel
  have hL := Later.refl w
  by_cases hlt : k < l.length
  · obtain ⟨b1, off1, rfl, hr1⟩ := HR1.out (by omega)
    obtain ⟨y, ht1⟩ := get_ex (l := l) (k := k) (by omega)
    have HT1 := Lib.hid ht1
    have c1_0 := (hr1.later hL).num ht1
    clear ht1
    cases hq : (x == y)
    · have HQ := Lib.hid hq
      go_wp2
      go_round
      case rel => exact ⟨k + 1, by omega, by go_num, any_snoc HT1.out HE.out (by have := HQ.out; simp at this ⊢; omega)⟩
      case measure => simp [intOf]; omega
    · have hf : hasI l x = true := any_true (p := fun y => y == x) HT1.out (by simp at hq ⊢; omega)
      have HF := Lib.hid hf
      clear hf
      go_wp2
      go_ret
      exact ⟨⟨_, rfl, by rw [HF.out]; simp⟩, rfl⟩
  · have hf : hasI l x = false := any_false_end (by omega) HE.out
    have HF := Lib.hid hf
    clear hf
    go_wp2
    go_ret
    exact ⟨⟨_, rfl, by rw [HF.out]; simp⟩, rfl⟩
theorem w_containsInt (v : Value) (l : List Int) (x : Int) (w : World) (h : IsNums w v l) :
 Calls Tryz.prog 96 #[v, .int .i64 x] w fun e w' => e = .returned (.bool (hasI l x)) ∧ w = w' := by
 go_enter Tryz.func96, Tryz.ntmps96
 go_wp2_with (go_at_call 136; refine (w_indexInt _ _ _ _ h).mono ?_; rintro e w1 ⟨⟨r, rfl, hr⟩, rfl⟩)
 go_ret
 exact ⟨by simp_all, rfl⟩
end Go.Proofs.YtgngbdacejghcaaGreatDoor
