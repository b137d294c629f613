/- DERIVED. Walks: logarithms of figures and chains. -/
import Derived.Test.YtgngbdacejghcaaGreatDoorKVM12
import Derived.Test.YtgngbdacejghcaaGreatDoorKVM1
namespace Go.Proofs.YtgngbdacejghcaaGreatDoor
set_option linter.unusedVariables false
set_option linter.unusedSimpArgs false
open Go.RowKit
set_option maxRecDepth 100000
theorem w_l03Log (x : Int) (h1 : 100000000 ≤ x) (h2 : x ≤ 999999999) (w : World) :
 Calls Tryz.prog 164 #[.int .i64 x] w fun e w' => e = .returned (.agg #[.int .i64 (logOf x).lo, .int .i64 (logOf x).hi]) ∧ Later w w' := by
 have b := highS_bd h1 h2 20
 rw [show (2 : Int) ^ 20 = 1048576 from by decide] at b
 obtain ⟨_, _, b1, b2⟩ := b
 have e1 : (logOf x).lo = (lowS x 20).2 := rfl
 have e2 : (logOf x).hi = (highS x 20).2 + 1 := rfl
 rw [e1, e2]
 generalize hl : (lowS x 20).2 = L at *
 generalize hh : (highS x 20).2 = U at *
 have HL := Lib.hid hl
 have HH := Lib.hid hh
 clear hl hh e1 e2
 go_enter Tryz.func164, Tryz.ntmps164
 go_wp2_with fail
 refine (w_l03Bits_low _ h1 h2 _).mono ?_
 rintro e w' ⟨rfl, rfl⟩
 rw [HL.out]
 go_wp2_with fail
 refine (w_l03Bits_high _ h1 h2 _).mono ?_
 rintro e w' ⟨rfl, rfl⟩
 rw [HH.out]
 go_wp2
 refine bodyPost_ret (v := .agg #[.int .i64 L, .int .i64 (U + 1)]) (by simp [results, Tryz.results164, go_sem]) rfl ⟨rfl, ?_⟩
 exact qla
set_option maxHeartbeats 1000000 in
theorem w_logarithm (x : Int) (h1 : 100000000 ≤ x) (h2 : x ≤ 999999999) (w : World) :
 Calls Tryz.prog 163 #[.int .i64 x] w fun e w' => e = .returned (.agg #[.int .i64 (logOf x).lo, .int .i64 (logOf x).hi]) ∧ Later w w' := by
 go_enter Tryz.func163, Tryz.ntmps163
 go_wp2
 go_loopw [3, 4, 9] (fun l u i wr => ∃ k : Nat, k ≤ 20 ∧ i = .int .i64 k ∧ ∃ Y A Z B : Int, l = .int .i64 Y ∧ u = .int .i64 Z ∧ Hid (lowS x k = (Y, A)) ∧ Hid (highS x k = (Z, B)) ∧ wr = (w.alloc (.cells #[.int .i64 0, .int .i64 0] 127)).alloc (.cells #[.int .i64 A, .int .i64 B] 127)) (fun _ _ i _ => 20 - (intOf i).toNat)
 case atStart => exact ⟨0, by decide, rfl, _, _, _, _, rfl, rfl, rfl, rfl, rfl⟩
 case round =>
  obtain ⟨k, hk, rfl, Y, A, Z, B, rfl, rfl, HS, HT, rfl⟩ := hrel
  by_cases hlt : k < 20
  · have bd := lowS_bd h1 h2 k
    have bu := highS_bd h1 h2 k
    have hpow := pow2_20 hk
    rw [HS.out] at bd
    rw [HT.out] at bu
    simp only at bd bu
    obtain ⟨y1, y2, a1, a2⟩ := bd
    obtain ⟨z1, z2, b1, b2⟩ := bu
    have s1 := mul_self_le (by omega : (0 : Int) ≤ 100000000) y1
    have s2 := mul_self_le (by omega) y2
    have s3 := mul_self_le (by omega : (0 : Int) ≤ 100000000) z1
    have s4 := mul_self_le (by omega) z2
    have a3 : A ≤ 1048576 := by omega
    have b3 : B ≤ 1048576 := by omega
    clear a2 b2 hpow
    simp only [show (100000000 : Int) * 100000000 = 10000000000000000 from by decide, show (999999999 : Int) * 999999999 = 999999998000000001 from by decide, show (1000000000 : Int) * 1000000000 = 1000000000000000000 from by decide] at s1 s2 s3 s4
    have c1 : 0 ≤ cdiv (Z * Z) 100000000 := by simp only [cdiv]; omega
    have c2 : cdiv (Z * Z) 100000000 ≤ 10000000000 := by simp only [cdiv]; omega
    have hA : A * 2 = 2 * A := by omega
    by_cases hq : 1000000000 ≤ Y * Y / 100000000 <;> by_cases hr : 1000000000 ≤ cdiv (Z * Z) 100000000
    · have HN := Lib.hid (show lowS x (k + 1) = (Y * Y / 100000000 / 10, A * 2 + 1) from by rw [lowS, lowStep_pos (by rw [HS.out]; exact hq), HS.out])
      have HM := Lib.hid (show highS x (k + 1) = (cdiv (cdiv (Z * Z) 100000000) 10, B * 2 + 1) from by rw [highS, highStep_pos (by rw [HT.out]; exact hr), HT.out])
      clear hA
      go_wp2_with fail
      refine (w_down _ _ (by decide) (by decide) (by omega) (by omega) _).mono ?_
      rintro e w' ⟨rfl, rfl⟩
      go_wp2_with fail
      refine (w_down _ _ (by decide) (by decide) (by omega) (by omega) _).mono ?_
      rintro e w' ⟨rfl, rfl⟩
      go_wp2_with fail
      refine (w_up _ _ (by decide) (by decide) (by omega) (by omega) _).mono ?_
      rintro e w' ⟨rfl, rfl⟩
      go_wp2_with fail
      refine (w_up _ _ (by decide) (by decide) (by omega) (by omega) _).mono ?_
      rintro e w' ⟨rfl, rfl⟩
      go_wp2
      go_roundw
      case rel => exact ⟨k + 1, by omega, by go_num, _, _, _, _, rfl, rfl, HN.out, HM.out, rfl⟩
      case measure => simp [intOf]; omega
    · have HN := Lib.hid (show lowS x (k + 1) = (Y * Y / 100000000 / 10, A * 2 + 1) from by rw [lowS, lowStep_pos (by rw [HS.out]; exact hq), HS.out])
      have HM := Lib.hid (show highS x (k + 1) = (cdiv (Z * Z) 100000000, B * 2) from by rw [highS, highStep_neg (by rw [HT.out]; exact hr), HT.out])
      clear hA
      go_wp2_with fail
      refine (w_down _ _ (by decide) (by decide) (by omega) (by omega) _).mono ?_
      rintro e w' ⟨rfl, rfl⟩
      go_wp2_with fail
      refine (w_down _ _ (by decide) (by decide) (by omega) (by omega) _).mono ?_
      rintro e w' ⟨rfl, rfl⟩
      go_wp2_with fail
      refine (w_up _ _ (by decide) (by decide) (by omega) (by omega) _).mono ?_
      rintro e w' ⟨rfl, rfl⟩
      go_wp2
      go_roundw
      case rel => exact ⟨k + 1, by omega, by go_num, _, _, _, _, rfl, rfl, HN.out, HM.out, rfl⟩
      case measure => simp [intOf]; omega
    · have HN := Lib.hid (show lowS x (k + 1) = (Y * Y / 100000000, A * 2) from by rw [lowS, lowStep_neg (by rw [HS.out]; exact hq), HS.out])
      have HM := Lib.hid (show highS x (k + 1) = (cdiv (cdiv (Z * Z) 100000000) 10, B * 2 + 1) from by rw [highS, highStep_pos (by rw [HT.out]; exact hr), HT.out])
      clear hA
      go_wp2_with fail
      refine (w_down _ _ (by decide) (by decide) (by omega) (by omega) _).mono ?_
      rintro e w' ⟨rfl, rfl⟩
      go_wp2_with fail
      refine (w_up _ _ (by decide) (by decide) (by omega) (by omega) _).mono ?_
      rintro e w' ⟨rfl, rfl⟩
      go_wp2_with fail
      refine (w_up _ _ (by decide) (by decide) (by omega) (by omega) _).mono ?_
      rintro e w' ⟨rfl, rfl⟩
      go_wp2
      go_roundw
      case rel => exact ⟨k + 1, by omega, by go_num, _, _, _, _, rfl, rfl, HN.out, HM.out, rfl⟩
      case measure => simp [intOf]; omega
    · have HN := Lib.hid (show lowS x (k + 1) = (Y * Y / 100000000, A * 2) from by rw [lowS, lowStep_neg (by rw [HS.out]; exact hq), HS.out])
      have HM := Lib.hid (show highS x (k + 1) = (cdiv (Z * Z) 100000000, B * 2) from by rw [highS, highStep_neg (by rw [HT.out]; exact hr), HT.out])
      clear hA
      go_wp2_with fail
      refine (w_down _ _ (by decide) (by decide) (by omega) (by omega) _).mono ?_
      rintro e w' ⟨rfl, rfl⟩
      go_wp2_with fail
      refine (w_up _ _ (by decide) (by decide) (by omega) (by omega) _).mono ?_
      rintro e w' ⟨rfl, rfl⟩
      go_wp2
      go_roundw
      case rel => exact ⟨k + 1, by omega, by go_num, _, _, _, _, rfl, rfl, HN.out, HM.out, rfl⟩
      case measure => simp [intOf]; omega
  · obtain rfl : k = 20 := by omega
    have b := highS_bd h1 h2 20
    rw [show (2 : Int) ^ 20 = 1048576 from by decide, HT.out] at b
    obtain ⟨_, _, b1, b2⟩ := b
    simp only at b1 b2
    go_wp2
    refine bodyPost_ret (v := .agg #[.int .i64 A, .int .i64 (B + 1)]) (by simp [results, Tryz.results163, go_sem]) rfl ⟨?_, ?_⟩
    · simp only [logOf, HS.out, HT.out]
    · exact qla
theorem w_figureLog (d t : Int) (h1 : 1000 ≤ d) (h2 : d ≤ 9999) (h3 : -100 ≤ t) (h4 : t ≤ 100) (w : World) :
 Calls Tryz.prog 138 #[.agg #[.int .i64 d, .int .i64 t]] w fun e w' => e = .returned (.agg #[.int .i64 (figLog ⟨d, t⟩).lo, .int .i64 (figLog ⟨d, t⟩).hi]) ∧ Later w w' := by
 obtain ⟨b1, b2, b3, b4⟩ := logOf_bd (x := d * 100000) (by omega) (by omega)
 have e1 : (figLog ⟨d, t⟩).lo = (logOf (d * 100000)).lo + t * 1048576 := rfl
 have e2 : (figLog ⟨d, t⟩).hi = (logOf (d * 100000)).hi + t * 1048576 := rfl
 rw [e1, e2]
 clear e1 e2
 obtain ⟨L, hl⟩ : ∃ L, (logOf (d * 100000)).lo = L := ⟨_, rfl⟩
 obtain ⟨U, hu⟩ : ∃ U, (logOf (d * 100000)).hi = U := ⟨_, rfl⟩
 rw [hl] at b1 b2 ⊢
 rw [hu] at b3 b4 ⊢
 have HL := Lib.hid hl
 have HU := Lib.hid hu
 clear hl hu
 go_enter Tryz.func138, Tryz.ntmps138
 go_wp2_with fail
 refine (w_logarithm _ (by omega) (by omega) _).mono ?_
 rintro e w1 ⟨rfl, hL⟩
 rw [HL.out, HU.out]
 obtain ⟨⟨c0, f0, z0⟩, ⟨c1, f1, z1⟩⟩ := blk2 hL
 go_wp2
 refine bodyPost_ret (v := .agg #[.int .i64 (L + t * 1048576), .int .i64 (U + t * 1048576)]) (by simp [results, Tryz.results138, go_sem, c1, z1]) rfl ⟨rfl, ?_⟩
 exact qla
theorem w_l03Sub (a b a' b' : Int) (h1 : -4000000000000000000 ≤ a) (h2 : a ≤ 4000000000000000000) (h3 : -4000000000000000000 ≤ b) (h4 : b ≤ 4000000000000000000) (h5 : -4000000000000000000 ≤ a') (h6 : a' ≤ 4000000000000000000) (h7 : -4000000000000000000 ≤ b') (h8 : b' ≤ 4000000000000000000) (w : World) :
 Calls Tryz.prog 167 #[.agg #[.int .i64 a, .int .i64 b], .agg #[.int .i64 a', .int .i64 b']] w fun e w' => e = .returned (.agg #[.int .i64 (a - b'), .int .i64 (b - a')]) ∧ Later w w' := by
 go_enter Tryz.func167, Tryz.ntmps167
 go_wp2
 refine bodyPost_ret (v := .agg #[.int .i64 (a - b'), .int .i64 (b - a')]) (by simp [results, Tryz.results167, go_sem]) rfl ⟨rfl, ?_⟩
 exact qla
theorem w_difference (a b a' b' : Int) (h1 : -4000000000000000000 ≤ a) (h2 : a ≤ 4000000000000000000) (h3 : -4000000000000000000 ≤ b) (h4 : b ≤ 4000000000000000000) (h5 : -4000000000000000000 ≤ a') (h6 : a' ≤ 4000000000000000000) (h7 : -4000000000000000000 ≤ b') (h8 : b' ≤ 4000000000000000000) (w : World) :
 Calls Tryz.prog 142 #[.agg #[.int .i64 a, .int .i64 b], .agg #[.int .i64 a', .int .i64 b']] w fun e w' => e = .returned (.agg #[.int .i64 (a - b'), .int .i64 (b - a')]) ∧ Later w w' := by
 go_enter Tryz.func142, Tryz.ntmps142
 go_wp2
 refine bodyPost_ret (v := .agg #[.int .i64 (a - b'), .int .i64 (b - a')]) (by simp [results, Tryz.results142, go_sem]) rfl ⟨rfl, ?_⟩
 exact qla
end Go.Proofs.YtgngbdacejghcaaGreatDoor
