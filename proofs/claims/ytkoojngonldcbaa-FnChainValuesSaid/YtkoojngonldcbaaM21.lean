/- DERIVED. Walks: rounding. -/
import Derived.Test.YtkoojngonldcbaaM18
import Derived.Test.YtkoojngonldcbaaBA
namespace Go.Proofs.Ytkoojngonldcbaa
set_option linter.unusedVariables false
set_option linter.unusedSimpArgs false
open Go.RowKit
set_option maxRecDepth 100000

theorem w_near (a b : Int) (hb : 0 < b) (hb2 : b ≤ 1000000000000000) (ha : 0 ≤ a) (ha2 : a ≤ 1000000000000000) (w : World) :
    Calls Try.prog 202 #[.int .i64 a, .int .i64 b] w fun e w' => e = .returned (.int .i64 ((2 * a + b) / (2 * b))) ∧ w = w' := by
  have hbn : ¬ b < 0 := by omega
  go_enter Try.func202, Try.ntmps202
  go_wp2_with fail
  refine (w_down _ _ (by omega) (by omega) (by omega) (by omega) _).mono ?_
  rintro e w' ⟨rfl, rfl⟩
  go_wp2
  go_ret
  exact ⟨rfl, rfl⟩

theorem w_l01Nearest (a b : Int) (hb : 0 < b) (hb2 : b ≤ 1000000000000000) (ha : 0 ≤ a) (ha2 : a ≤ 1000000000000000) (w : World) :
    Calls Try.prog 204 #[.int .i64 a, .int .i64 b] w fun e w' => e = .returned (.int .i64 ((2 * a + b) / (2 * b))) ∧ w = w' := by
  go_enter Try.func204, Try.ntmps204
  go_wp2_with fail
  refine (w_l01Floor _ _ (by omega) (by omega) (by omega) (by omega) _).mono ?_
  rintro e w' ⟨rfl, rfl⟩
  go_wp2
  go_ret
  exact ⟨rfl, rfl⟩

set_option maxHeartbeats 1000000 in
theorem w_rounded (n d t : Int) (n1 : 1 ≤ n) (n2 : n ≤ 1000000000) (d1 : 1 ≤ d) (d2 : d ≤ 1000000000) (t1 : -1000 ≤ t) (t2 : t ≤ 1000) (w : World) :
    Calls Try.prog 156 #[.int .i64 n, .int .i64 d, .int .i64 t] w fun e w' => e = .returned (.agg #[.int .i64 (rndF n d t).d, .int .i64 (rndF n d t).t]) ∧ Later w w' := by
  have HR := Lib.hid (show rndF n d t = endRnd (upLoop d n (t + 3)).1 (dnLoop (upLoop d n (t + 3)).1 d (upLoop d n (t + 3)).2).1 (dnLoop (upLoop d n (t + 3)).1 d (upLoop d n (t + 3)).2).2 from rfl)
  obtain ⟨U, hU⟩ : ∃ U, upLoop d n (t + 3) = U := ⟨_, rfl⟩
  rw [hU] at HR
  have HU := Lib.hid hU
  clear hU
  go_enter Try.func156, Try.ntmps156
  go_wp2
  go_loop [0, 2] (fun x y => ∃ N T : Int, x = .int .i64 N ∧ y = .int .i64 T ∧ Hid (upLoop d N T = U) ∧ 1 ≤ N ∧ (N = n ∨ N < 10000 * d) ∧ T ≤ t + 3 ∧ t + 3 - T ≤ N - n) (fun x _ => (1000 * d - intOf x).toNat)
  case atStart => exact ⟨n, t + 3, rfl, rfl, HU.out, n1, .inl rfl, by omega, by omega⟩
  case round =>
    obtain ⟨N, T, rfl, rfl, HN, N1, N2, T1, T2⟩ := hrel
    by_cases hlt : N < 1000 * d
    · have HN2 := Lib.hid ((upLoop_go N1 hlt).symm.trans HN.out)
      go_wp2
      go_round
      case rel => exact ⟨N * 10, T - 1, rfl, rfl, HN2.out, by omega, by omega, by omega, by omega⟩
      case measure => simp [intOf]; omega
    · have hU2 := (upLoop_end (d := d) (n := N) (t := T) hlt).symm.trans HN.out
      have hU3 : U = (N, T) := hU2.symm
      rw [hU3] at HR
      simp only at HR
      have N3 : N ≤ 10000000000000 := by omega
      obtain ⟨D, hD⟩ : ∃ D, dnLoop N d T = D := ⟨_, rfl⟩
      rw [hD] at HR
      have HD := Lib.hid hD
      clear hD hU2 hU3 HU
      go_wp2
      go_loop [1, 2] (fun x y => ∃ E S : Int, x = .int .i64 E ∧ y = .int .i64 S ∧ Hid (dnLoop N E S = D) ∧ 1 ≤ E ∧ 1000 * E ≤ N ∧ T ≤ S ∧ S - T ≤ E) (fun x _ => (N - intOf x).toNat)
      case atStart => exact ⟨d, T, rfl, rfl, HD.out, d1, by omega, by omega, by omega⟩
      case round =>
        obtain ⟨E, S, rfl, rfl, HE, E1, E2, S1, S2⟩ := hrel
        by_cases hge : 10000 * E ≤ N
        · have HE2 := Lib.hid ((dnLoop_go E1 hge).symm.trans HE.out)
          go_wp2
          go_round
          case rel => exact ⟨E * 10, S + 1, rfl, rfl, HE2.out, by omega, by omega, by omega, by omega⟩
          case measure => simp [intOf]; omega
        · have hD2 := (dnLoop_end (n := N) (d := E) (t := S) hge).symm.trans HE.out
          have hD3 : D = (E, S) := hD2.symm
          rw [hD3] at HR
          simp only at HR
          clear hD2 hD3
          go_wp2_with fail
          refine (w_near _ _ (by omega) (by omega) (by omega) (by omega) _).mono ?_
          rintro e w1 ⟨rfl, rfl⟩
          by_cases hq : (2 * N + E) / (2 * E) = 10000
          · have HF := Lib.hid (show endRnd N E S = ⟨1000, S + 1⟩ from by rw [endRnd, if_pos hq])
            have hq2 : ((2 * N + E) / (2 * E) == 10000) = true := by simpa using hq
            clear hq
            go_wp2
            refine bodyPost_ret (v := .agg #[.int .i64 1000, .int .i64 (S + 1)]) (by simp [results, Try.results156, go_sem]) rfl ⟨by rw [HR.out, HF.out], by (repeat (with_reducible first | exact Later.refl _ | refine Later.alloc ?_ _ | refine Later.drew ?_ | refine Later.drewN ?_ _ | refine Later.setCell ?_ (by simp; try omega) _ | refine Later.trans ?_ (by assumption)))⟩
          · have HF := Lib.hid (show endRnd N E S = ⟨(2 * N + E) / (2 * E), S⟩ from by rw [endRnd, if_neg hq])
            have hq2 : ((2 * N + E) / (2 * E) == 10000) = false := by simpa using hq
            clear hq
            go_wp2
            refine bodyPost_ret (v := .agg #[.int .i64 ((2 * N + E) / (2 * E)), .int .i64 S]) (by simp [results, Try.results156, go_sem]) rfl ⟨by rw [HR.out, HF.out], by (repeat (with_reducible first | exact Later.refl _ | refine Later.alloc ?_ _ | refine Later.drew ?_ | refine Later.drewN ?_ _ | refine Later.setCell ?_ (by simp; try omega) _ | refine Later.trans ?_ (by assumption)))⟩

set_option maxHeartbeats 1000000 in
theorem w_l02Round (n d t : Int) (n1 : 1 ≤ n) (n2 : n ≤ 1000000000) (d1 : 1 ≤ d) (d2 : d ≤ 1000000000) (t1 : -1000 ≤ t) (t2 : t ≤ 1000) (w : World) :
    Calls Try.prog 160 #[.int .i64 n, .int .i64 d, .int .i64 t] w fun e w' => e = .returned (.agg #[.int .i64 (rndF n d t).d, .int .i64 (rndF n d t).t]) ∧ Later w w' := by
  have HR := Lib.hid (rndF_alt (t := t) n1 d1)
  obtain ⟨U, hU⟩ : ∃ U, dnLoop n d (t + 3) = U := ⟨_, rfl⟩
  rw [hU] at HR
  have HU := Lib.hid hU
  clear hU
  go_enter Try.func160, Try.ntmps160
  go_wp2
  go_loop [1, 2] (fun x y => ∃ E S : Int, x = .int .i64 E ∧ y = .int .i64 S ∧ Hid (dnLoop n E S = U) ∧ 1 ≤ E ∧ (E = d ∨ 1000 * E ≤ n) ∧ t + 3 ≤ S ∧ S - t - 3 ≤ E - d) (fun x _ => (n - intOf x).toNat)
  case atStart => exact ⟨d, t + 3, rfl, rfl, HU.out, d1, .inl rfl, by omega, by omega⟩
  case round =>
    obtain ⟨E, S, rfl, rfl, HE, E1, E2, S1, S2⟩ := hrel
    have E3 : E ≤ 1000000000 := by omega
    by_cases hge : 10000 * E ≤ n
    · have HE2 := Lib.hid ((dnLoop_go E1 hge).symm.trans HE.out)
      go_wp2
      go_round
      case rel => exact ⟨10 * E, S + 1, rfl, rfl, by rw [Int.mul_comm 10 E]; exact HE2.out, by omega, by omega, by omega, by omega⟩
      case measure => simp [intOf]; omega
    · have hU3 : U = (E, S) := ((dnLoop_end (n := n) (d := E) (t := S) hge).symm.trans HE.out).symm
      rw [hU3] at HR
      simp only at HR
      obtain ⟨D, hD⟩ : ∃ D, upLoop E n S = D := ⟨_, rfl⟩
      rw [hD] at HR
      have HD := Lib.hid hD
      clear hD hU3 HU HE E2
      go_wp2
      go_loop [0, 2] (fun x y => ∃ N T : Int, x = .int .i64 N ∧ y = .int .i64 T ∧ Hid (upLoop E N T = D) ∧ 1 ≤ N ∧ N < 10000 * E ∧ T ≤ S ∧ S - T ≤ N - n) (fun x _ => (1000 * E - intOf x).toNat)
      case atStart => exact ⟨n, S, rfl, rfl, HD.out, n1, by omega, by omega, by omega⟩
      case round =>
        obtain ⟨N, T, rfl, rfl, HN, N1, N2, T1, T2⟩ := hrel
        by_cases hlt : N < 1000 * E
        · have HN2 := Lib.hid ((upLoop_go N1 hlt).symm.trans HN.out)
          go_wp2
          go_round
          case rel => exact ⟨10 * N, T - 1, rfl, rfl, by rw [Int.mul_comm 10 N]; exact HN2.out, by omega, by omega, by omega, by omega⟩
          case measure => simp [intOf]; omega
        · have hD3 : D = (N, T) := ((upLoop_end (d := E) (n := N) (t := T) hlt).symm.trans HN.out).symm
          rw [hD3] at HR
          simp only at HR
          clear hD3 HN HD
          go_wp2_with fail
          refine (w_l01Nearest _ _ (by omega) (by omega) (by omega) (by omega) _).mono ?_
          rintro e w1 ⟨rfl, rfl⟩
          by_cases hq : (2 * N + E) / (2 * E) = 10000
          · have HF := Lib.hid (show endRnd N E T = ⟨1000, T + 1⟩ from by rw [endRnd, if_pos hq])
            have hq2 : ((2 * N + E) / (2 * E) == 10000) = true := by simpa using hq
            clear hq
            go_wp2
            refine bodyPost_ret (v := .agg #[.int .i64 1000, .int .i64 (T + 1)]) (by simp [results, Try.results160, go_sem]) rfl ⟨by rw [HR.out, HF.out], by (repeat (with_reducible first | exact Later.refl _ | refine Later.alloc ?_ _ | refine Later.drew ?_ | refine Later.drewN ?_ _ | refine Later.setCell ?_ (by simp; try omega) _ | refine Later.trans ?_ (by assumption)))⟩
          · have HF := Lib.hid (show endRnd N E T = ⟨(2 * N + E) / (2 * E), T⟩ from by rw [endRnd, if_neg hq])
            have hq2 : ((2 * N + E) / (2 * E) == 10000) = false := by simpa using hq
            clear hq
            go_wp2
            refine bodyPost_ret (v := .agg #[.int .i64 ((2 * N + E) / (2 * E)), .int .i64 T]) (by simp [results, Try.results160, go_sem]) rfl ⟨by rw [HR.out, HF.out], by (repeat (with_reducible first | exact Later.refl _ | refine Later.alloc ?_ _ | refine Later.drew ?_ | refine Later.drewN ?_ _ | refine Later.setCell ?_ (by simp; try omega) _ | refine Later.trans ?_ (by assumption)))⟩

end Go.Proofs.Ytkoojngonldcbaa
