/- DERIVED. Walks: quotients and logarithms. -/
import Derived.Test.YtgngbdacejghcaaGreatDoorKVM1
import Derived.Test.YtgngbdacejghcaaGreatDoorKVPA
namespace Go.Proofs.YtgngbdacejghcaaGreatDoor
set_option linter.unusedVariables false
set_option linter.unusedSimpArgs false
open Go.RowKit
set_option maxRecDepth 100000
theorem w_down (a b : Int) (hb : 0 < b) (hb2 : b ≤ 4000000000000000000) (ha : -4000000000000000000 ≤ a) (ha2 : a ≤ 4000000000000000000) (w : World) :
 Calls Tryz.prog 98 #[.int .i64 a, .int .i64 b] w fun e w' => e = .returned (.int .i64 (a / b)) ∧ w = w' := by
 have hbn : ¬ b < 0 := by omega
 have hb0 : (b == 0) = false := by simp; omega
 by_cases hneg : a < 0
 · obtain ⟨q1, q2, q3, q4, q5⟩ := tdiv_neg hneg hb
   by_cases hr : a.tmod b = 0
   · have hf := q4 hr
     have hr2 : (a.tmod b != 0) = false := by simp [hr]
     have hr3 : ¬ a.tmod b < 0 := by omega
     have HF := Lib.hid hf
     clear hf q4 q5 hr
     go_enter Tryz.func98, Tryz.ntmps98
     go_wp2
     go_ret
     exact ⟨by rw [← HF.out]; rfl, rfl⟩
   · have hf := q5 hr
     have hr2 : (a.tmod b != 0) = true := by simpa using hr
     have hr3 : a.tmod b < 0 := by omega
     have HF := Lib.hid hf
     clear hf q4 q5 hr
     go_enter Tryz.func98, Tryz.ntmps98
     go_wp2
     go_ret
     exact ⟨by rw [← HF.out]; rfl, rfl⟩
 · have hr3 : ¬ a % b < 0 := by have := Int.emod_nonneg a (show b ≠ 0 by omega); omega
   by_cases hr : a % b = 0
   · have hr2 : (a % b != 0) = false := by simp [hr]
     clear hr
     go_enter Tryz.func98, Tryz.ntmps98
     go_wp2
     go_ret
     exact ⟨rfl, rfl⟩
   · have hr2 : (a % b != 0) = true := by simpa using hr
     clear hr
     go_enter Tryz.func98, Tryz.ntmps98
     go_wp2
     go_ret
     exact ⟨rfl, rfl⟩
theorem w_l01Floor (a b : Int) (hb : 0 < b) (hb2 : b ≤ 4000000000000000000) (ha : -4000000000000000000 ≤ a) (ha2 : a ≤ 4000000000000000000) (w : World) :
 Calls Tryz.prog 144 #[.int .i64 a, .int .i64 b] w fun e w' => e = .returned (.int .i64 (a / b)) ∧ w = w' := by
 have hbn : ¬ b < 0 := by omega
 have hb0 : (b == 0) = false := by simp; omega
 by_cases hneg : a < 0
 · obtain ⟨q1, q2, q3, q4, q5⟩ := tdiv_neg hneg hb
   by_cases hr : a.tmod b = 0
   · have hf := q4 hr
     have hr2 : (a.tmod b != 0) = false := by simp [hr]
     have hr3 : ¬ a.tmod b < 0 := by omega
     have HF := Lib.hid hf
     clear hf q4 q5 hr
     go_enter Tryz.func144, Tryz.ntmps144
     go_wp2
     go_ret
     exact ⟨by rw [← HF.out]; rfl, rfl⟩
   · have hf := q5 hr
     have hr2 : (a.tmod b != 0) = true := by simpa using hr
     have hr3 : a.tmod b < 0 := by omega
     have HF := Lib.hid hf
     clear hf q4 q5 hr
     go_enter Tryz.func144, Tryz.ntmps144
     go_wp2
     go_ret
     exact ⟨by rw [← HF.out]; rfl, rfl⟩
 · have hr3 : ¬ a % b < 0 := by have := Int.emod_nonneg a (show b ≠ 0 by omega); omega
   by_cases hr : a % b = 0
   · have hr2 : (a % b != 0) = false := by simp [hr]
     clear hr
     go_enter Tryz.func144, Tryz.ntmps144
     go_wp2
     go_ret
     exact ⟨rfl, rfl⟩
   · have hr2 : (a % b != 0) = true := by simpa using hr
     clear hr
     go_enter Tryz.func144, Tryz.ntmps144
     go_wp2
     go_ret
     exact ⟨rfl, rfl⟩
theorem w_up (a b : Int) (hb : 0 < b) (hb2 : b ≤ 4000000000000000000) (ha : -4000000000000000000 ≤ a) (ha2 : a ≤ 4000000000000000000) (w : World) :
 Calls Tryz.prog 137 #[.int .i64 a, .int .i64 b] w fun e w' => e = .returned (.int .i64 (cdiv a b)) ∧ w = w' := by
 have h1 : -4000000000000000000 ≤ (-a) / b := by
  have := Int.neg_le_of_neg_le (a := 4000000000000000000) (b := (-a) / b)
  have h := Int.le_ediv_of_mul_le (a := -4000000000000000000) (b := -a) hb (by
   have : -4000000000000000000 * b ≤ -4000000000000000000 * 1 := Int.mul_le_mul_of_nonpos_left (by decide) (by omega)
   omega)
  exact h
 have h2 : (-a) / b ≤ 4000000000000000000 := by
  by_cases hn : 0 ≤ -a
  · have := Int.ediv_le_self b hn
    omega
  · have := Int.ediv_neg_of_neg_of_pos (a := -a) (b := b) (by omega) hb
    omega
 have hf : cdiv a b = -((-a) / b) := rfl
 have HF := Lib.hid hf
 clear hf
 go_enter Tryz.func137, Tryz.ntmps137
 go_wp2_with fail
 refine (w_down _ _ hb hb2 (by omega) (by omega) _).mono ?_
 rintro e w' ⟨rfl, rfl⟩
 go_wp2
 go_ret
 exact ⟨by rw [HF.out]; rfl, rfl⟩
theorem w_l01Ceil (a b : Int) (hb : 0 < b) (hb2 : b ≤ 4000000000000000000) (ha : -4000000000000000000 ≤ a) (ha2 : a ≤ 4000000000000000000) (w : World) :
 Calls Tryz.prog 168 #[.int .i64 a, .int .i64 b] w fun e w' => e = .returned (.int .i64 (cdiv a b)) ∧ w = w' := by
 have h1 : -4000000000000000000 ≤ (-a) / b := by
  have := Int.neg_le_of_neg_le (a := 4000000000000000000) (b := (-a) / b)
  have h := Int.le_ediv_of_mul_le (a := -4000000000000000000) (b := -a) hb (by
   have : -4000000000000000000 * b ≤ -4000000000000000000 * 1 := Int.mul_le_mul_of_nonpos_left (by decide) (by omega)
   omega)
  exact h
 have h2 : (-a) / b ≤ 4000000000000000000 := by
  by_cases hn : 0 ≤ -a
  · have := Int.ediv_le_self b hn
    omega
  · have := Int.ediv_neg_of_neg_of_pos (a := -a) (b := b) (by omega) hb
    omega
 have hf : cdiv a b = -((-a) / b) := rfl
 have HF := Lib.hid hf
 clear hf
 go_enter Tryz.func168, Tryz.ntmps168
 go_wp2_with fail
 refine (w_l01Floor _ _ hb hb2 (by omega) (by omega) _).mono ?_
 rintro e w' ⟨rfl, rfl⟩
 go_wp2
 go_ret
 exact ⟨by rw [HF.out]; rfl, rfl⟩
theorem w_l03Bits_low (x : Int) (h1 : 100000000 ≤ x) (h2 : x ≤ 999999999) (w : World) :
 Calls Tryz.prog 188 #[.int .i64 x, .bool false] w fun e w' => e = .returned (.int .i64 (lowS x 20).2) ∧ w = w' := by
 go_enter Tryz.func188, Tryz.ntmps188
 go_wp2
 go_loop [0, 5, 6, 7] (fun y n i _ => ∃ k : Nat, k ≤ 20 ∧ i = .int .i64 k ∧ ∃ Y A : Int, y = .int .i64 Y ∧ n = .int .i64 A ∧ Hid ((lowS x k) = (Y, A))) (fun _ _ i _ => 20 - (intOf i).toNat)
 case atStart => exact ⟨0, by decide, rfl, _, _, rfl, rfl, rfl⟩
 case round =>
  obtain ⟨k, hk, rfl, Y, A, rfl, rfl, HS⟩ := hrel
  by_cases hlt : k < 20
  · have bd := lowS_bd h1 h2 k
    have hpow := pow2_20 hk
    rw [HS.out] at bd
    simp only at bd
    obtain ⟨y1, y2, a1, a2⟩ := bd
    have s1 := mul_self_le (by omega : (0 : Int) ≤ 100000000) y1
    have s2 := mul_self_le (by omega) y2
    have a3 : A ≤ 1048576 := by omega
    clear a2 hpow
    simp only [show (100000000 : Int) * 100000000 = 10000000000000000 from by decide, show (999999999 : Int) * 999999999 = 999999998000000001 from by decide] at s1 s2
    by_cases hq : 1000000000 ≤ Y * Y / 100000000
    · have hn : lowS x (k + 1) = (Y * Y / 100000000 / 10, 2 * A + 1) := by
       rw [lowS, lowStep_pos (by rw [HS.out]; exact hq), HS.out, Int.mul_comm 2 A]
      have HN := Lib.hid hn
      clear hn
      go_wp2
      go_round
      case rel => exact ⟨k + 1, by omega, by go_num, _, _, rfl, rfl, HN.out⟩
      case measure => simp [intOf]; omega
    · have hn : lowS x (k + 1) = (Y * Y / 100000000, 2 * A) := by
       rw [lowS, lowStep_neg (by rw [HS.out]; exact hq), HS.out, Int.mul_comm 2 A]
      have HN := Lib.hid hn
      clear hn
      go_wp2
      go_round
      case rel => exact ⟨k + 1, by omega, by go_num, _, _, rfl, rfl, HN.out⟩
      case measure => simp [intOf]; omega
  · obtain rfl : k = 20 := by omega
    go_wp2
    go_ret
    exact ⟨by rw [HS.out]; rfl, rfl⟩
theorem w_l03Bits_high (x : Int) (h1 : 100000000 ≤ x) (h2 : x ≤ 999999999) (w : World) :
 Calls Tryz.prog 188 #[.int .i64 x, .bool true] w fun e w' => e = .returned (.int .i64 (highS x 20).2) ∧ w = w' := by
 go_enter Tryz.func188, Tryz.ntmps188
 go_wp2
 go_loop [0, 5, 6, 7] (fun y n i _ => ∃ k : Nat, k ≤ 20 ∧ i = .int .i64 k ∧ ∃ Y A : Int, y = .int .i64 Y ∧ n = .int .i64 A ∧ Hid ((highS x k) = (Y, A))) (fun _ _ i _ => 20 - (intOf i).toNat)
 case atStart => exact ⟨0, by decide, rfl, _, _, rfl, rfl, rfl⟩
 case round =>
  obtain ⟨k, hk, rfl, Y, A, rfl, rfl, HS⟩ := hrel
  by_cases hlt : k < 20
  · have bd := highS_bd h1 h2 k
    have hpow := pow2_20 hk
    rw [HS.out] at bd
    simp only at bd
    obtain ⟨y1, y2, a1, a2⟩ := bd
    have s1 := mul_self_le (by omega : (0 : Int) ≤ 100000000) y1
    have s2 := mul_self_le (by omega) y2
    have a3 : A ≤ 1048576 := by omega
    clear a2 hpow
    simp only [show (100000000 : Int) * 100000000 = 10000000000000000 from by decide, show (1000000000 : Int) * 1000000000 = 1000000000000000000 from by decide] at s1 s2
    have c1 : 0 ≤ cdiv (Y * Y) 100000000 := by simp only [cdiv]; omega
    have c2 : cdiv (Y * Y) 100000000 ≤ 10000000000 := by simp only [cdiv]; omega
    by_cases hq : 1000000000 ≤ cdiv (Y * Y) 100000000
    · have hn : highS x (k + 1) = (cdiv (cdiv (Y * Y) 100000000) 10, 2 * A + 1) := by
       rw [highS, highStep_pos (by rw [HS.out]; exact hq), HS.out, Int.mul_comm 2 A]
      have HN := Lib.hid hn
      clear hn
      go_wp2_with fail
      refine (w_l01Ceil _ _ (by decide) (by decide) (by omega) (by omega) _).mono ?_
      rintro e w' ⟨rfl, rfl⟩
      go_wp2_with fail
      refine (w_l01Ceil _ _ (by decide) (by decide) (by omega) (by omega) _).mono ?_
      rintro e w' ⟨rfl, rfl⟩
      go_wp2
      go_round
      case rel => exact ⟨k + 1, by omega, by go_num, _, _, rfl, rfl, HN.out⟩
      case measure => simp [intOf]; omega
    · have hn : highS x (k + 1) = (cdiv (Y * Y) 100000000, 2 * A) := by
       rw [highS, highStep_neg (by rw [HS.out]; exact hq), HS.out, Int.mul_comm 2 A]
      have HN := Lib.hid hn
      clear hn
      go_wp2_with fail
      refine (w_l01Ceil _ _ (by decide) (by decide) (by omega) (by omega) _).mono ?_
      rintro e w' ⟨rfl, rfl⟩
      go_wp2
      go_round
      case rel => exact ⟨k + 1, by omega, by go_num, _, _, rfl, rfl, HN.out⟩
      case measure => simp [intOf]; omega
  · obtain rfl : k = 20 := by omega
    go_wp2
    go_ret
    exact ⟨by rw [HS.out]; rfl, rfl⟩
end Go.Proofs.YtgngbdacejghcaaGreatDoor
