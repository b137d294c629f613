/- DERIVED. Walks: digits that are placed next to the value of a chain. -/
import Derived.Test.YtkoojngonldcbaaM18
import Derived.Test.YtkoojngonldcbaaM14
import Derived.Test.YtkoojngonldcbaaPA
namespace Go.Proofs.Ytkoojngonldcbaa
set_option linter.unusedVariables false
set_option linter.unusedSimpArgs false
open Go.RowKit
set_option maxRecDepth 100000

theorem w_isDigits (n : Int) (w : World) : Calls Try.prog 97 #[.int .i64 n] w fun e w' => e = .returned (.bool (inR n 1000 9999)) ∧ w = w' := by
  go_enter Try.func97, Try.ntmps97
  go_wp2_with (go_at_call 82; refine (w_within _ _ _ _).mono ?_; rintro e w' ⟨rfl, rfl⟩)
  go_ret
  exact ⟨rfl, rfl⟩

set_option maxHeartbeats 2000000 in
theorem w_implPlaceDigits (v : Value) (l : List Trm) (g : Int) (w : World) (h : IsTrms w v l) :
    Calls Try.prog 29 #[v, .int .i64 g] w fun e w' => e = .returned (.tuple #[.agg #[.int .i64 (placeDigits l g).d, .int .i64 (placeDigits l g).t], .int .i64 (codePlace l g)]) ∧ Later w w' := by
  cases hc : isChain l
  · have HC := Lib.hid hc
    have HF := Lib.hid (show placeDigits l g = ⟨0, 0⟩ from by simp [placeDigits, hc])
    have HG := Lib.hid (show codePlace l g = 1 from by simp [codePlace, hc])
    clear hc
    go_enter Try.func29, Try.ntmps29
    go_wp2_with fail
    refine (w_implIsChain _ _ _ (h.later ((Later.refl _).alloc _))).mono ?_
    rintro e w1 ⟨rfl, hL⟩
    rw [HC.out]
    obtain ⟨c0, f0, z0⟩ := blk1 hL
    go_wp2
    refine bodyPost_ret (v := .tuple #[.agg #[.int .i64 0, .int .i64 0], .int .i64 1]) (by simp [results, Try.results29, go_sem, c0, z0]) rfl ⟨by rw [HF.out, HG.out], by (repeat (with_reducible first | exact Later.refl _ | refine Later.alloc ?_ _ | refine Later.drew ?_ | refine Later.drewN ?_ _ | refine Later.setCell ?_ (by simp; try omega) _ | refine Later.trans ?_ (by assumption)))⟩
  cases hr : inR g 1000 9999
  · have HC := Lib.hid hc
    have HR := Lib.hid hr
    have HF := Lib.hid (show placeDigits l g = ⟨0, 0⟩ from by simp [placeDigits, hr])
    have HG := Lib.hid (show codePlace l g = 2 from by simp [codePlace, hc, hr])
    clear hc hr
    go_enter Try.func29, Try.ntmps29
    go_wp2_with fail
    refine (w_implIsChain _ _ _ (h.later ((Later.refl _).alloc _))).mono ?_
    rintro e w1 ⟨rfl, hL⟩
    rw [HC.out]
    obtain ⟨c0, f0, z0⟩ := blk1 hL
    go_wp2_with fail
    refine (w_isDigits _ _).mono ?_
    rintro e w2 ⟨rfl, rfl⟩
    rw [HR.out]
    go_wp2
    refine bodyPost_ret (v := .tuple #[.agg #[.int .i64 0, .int .i64 0], .int .i64 2]) (by simp [results, Try.results29, go_sem, c0, z0]) rfl ⟨by rw [HF.out, HG.out], by (repeat (with_reducible first | exact Later.refl _ | refine Later.alloc ?_ _ | refine Later.drew ?_ | refine Later.drewN ?_ _ | refine Later.setCell ?_ (by simp; try omega) _ | refine Later.trans ?_ (by assumption)))⟩
  have hg := inR_true hr
  obtain ⟨g1, g2⟩ := hg
  have hbd := chainLog0_bd hc
  obtain ⟨X, hX⟩ : ∃ X, chainLog0 l = X := ⟨_, rfl⟩
  rw [hX] at hbd
  obtain ⟨d1, d2, d3, d4⟩ := hbd
  have HF := Lib.hid (show placeDigits l g = limF (placeF g ⟨X.lo, X.hi⟩) from by simp [placeDigits, hc, hr, hX])
  have HG := Lib.hid (show codePlace l g = codeLim (placeF g ⟨X.lo, X.hi⟩) from by simp [codePlace, hc, hr, hX])
  have HX := Lib.hid hX
  have HC := Lib.hid hc
  have HR := Lib.hid hr
  clear hc hr hX
  go_enter Try.func29, Try.ntmps29
  go_wp2_with fail
  refine (w_implIsChain _ _ _ (h.later ((Later.refl _).alloc _))).mono ?_
  rintro e w1 ⟨rfl, hL⟩
  rw [HC.out]
  go_wp2_with fail
  refine (w_isDigits _ _).mono ?_
  rintro e w2 ⟨rfl, rfl⟩
  rw [HR.out]
  go_wp2_with fail
  refine (w_implChainLog0 _ _ _ ((h.later ((Later.refl _).alloc _)).later hL) HC.out).mono ?_
  rintro e w2 ⟨rfl, hL2⟩
  rw [HX.out]
  go_wp2_with fail
  refine (w_placed _ _ _ _ g1 g2 (by omega) (by omega) (by omega) (by omega)).mono ?_
  rintro e w3 ⟨rfl, hL3⟩
  obtain ⟨c0, f0, z0⟩ := blk1 (hL.trans (hL2.trans hL3))
  go_wp2
  refine bodyPost_ret (v := .tuple #[.agg #[.int .i64 (limF (placeF g ⟨X.lo, X.hi⟩)).d, .int .i64 (limF (placeF g ⟨X.lo, X.hi⟩)).t], .int .i64 (codeLim (placeF g ⟨X.lo, X.hi⟩))]) (by simp [results, Try.results29, go_sem, c0, z0]) rfl ⟨by rw [HF.out, HG.out], by (repeat (with_reducible first | exact Later.refl _ | refine Later.alloc ?_ _ | refine Later.drew ?_ | refine Later.drewN ?_ _ | refine Later.setCell ?_ (by simp; try omega) _ | refine Later.trans ?_ (by assumption)))⟩

set_option maxHeartbeats 2000000 in
theorem w_specPlaceDigits (v : Value) (l : List Trm) (g : Int) (w : World) (h : IsTrms w v l) :
    Calls Try.prog 30 #[v, .int .i64 g] w fun e w' => e = .returned (.tuple #[.agg #[.int .i64 (placeDigits l g).d, .int .i64 (placeDigits l g).t], .int .i64 (codePlace l g)]) ∧ Later w w' := by
  cases hc : isChain l
  · have HC := Lib.hid hc
    have HF := Lib.hid (show placeDigits l g = ⟨0, 0⟩ from by simp [placeDigits, hc])
    have HG := Lib.hid (show codePlace l g = 1 from by simp [codePlace, hc])
    clear hc
    go_enter Try.func30, Try.ntmps30
    go_wp2_with fail
    refine (w_specIsChain _ _ _ (h.later ((Later.refl _).alloc _))).mono ?_
    rintro e w1 ⟨rfl, hL⟩
    rw [HC.out]
    obtain ⟨c0, f0, z0⟩ := blk1 hL
    go_wp2
    refine bodyPost_ret (v := .tuple #[.agg #[.int .i64 0, .int .i64 0], .int .i64 1]) (by simp [results, Try.results30, go_sem, c0, z0]) rfl ⟨by rw [HF.out, HG.out], by (repeat (with_reducible first | exact Later.refl _ | refine Later.alloc ?_ _ | refine Later.drew ?_ | refine Later.drewN ?_ _ | refine Later.setCell ?_ (by simp; try omega) _ | refine Later.trans ?_ (by assumption)))⟩
  cases hr : inR g 1000 9999
  · have HC := Lib.hid hc
    have HR := Lib.hid hr
    have HF := Lib.hid (show placeDigits l g = ⟨0, 0⟩ from by simp [placeDigits, hr])
    have HG := Lib.hid (show codePlace l g = 2 from by simp [codePlace, hc, hr])
    clear hc hr
    go_enter Try.func30, Try.ntmps30
    go_wp2_with fail
    refine (w_specIsChain _ _ _ (h.later ((Later.refl _).alloc _))).mono ?_
    rintro e w1 ⟨rfl, hL⟩
    rw [HC.out]
    obtain ⟨c0, f0, z0⟩ := blk1 hL
    go_wp2_with fail
    refine (w_l01In _ _ _ _).mono ?_
    rintro e w2 ⟨rfl, rfl⟩
    rw [HR.out]
    go_wp2
    refine bodyPost_ret (v := .tuple #[.agg #[.int .i64 0, .int .i64 0], .int .i64 2]) (by simp [results, Try.results30, go_sem, c0, z0]) rfl ⟨by rw [HF.out, HG.out], by (repeat (with_reducible first | exact Later.refl _ | refine Later.alloc ?_ _ | refine Later.drew ?_ | refine Later.drewN ?_ _ | refine Later.setCell ?_ (by simp; try omega) _ | refine Later.trans ?_ (by assumption)))⟩
  have hg := inR_true hr
  obtain ⟨g1, g2⟩ := hg
  have hbd := chainLog0_bd hc
  have hgap := gapOf_log g (chainLog0 l)
  have hlb := logOf_bd (x := g * 100000) (by omega) (by omega)
  have u1 : 100000000 ≤ g * 100000 := by omega
  have u2 : g * 100000 ≤ 999999999 := by omega
  obtain ⟨X, hX⟩ : ∃ X, (chainLog0 l).lo = X := ⟨_, rfl⟩
  obtain ⟨Y, hY⟩ : ∃ Y, (chainLog0 l).hi = Y := ⟨_, rfl⟩
  obtain ⟨Z, hZ⟩ : ∃ Z, (logOf (g * 100000)).lo = Z := ⟨_, rfl⟩
  obtain ⟨V, hV⟩ : ∃ V, (logOf (g * 100000)).hi = V := ⟨_, rfl⟩
  rw [hX, hY] at hbd
  rw [hZ, hV] at hlb
  rw [hX, hY, hZ, hV] at hgap
  obtain ⟨d1, d2, d3, d4⟩ := hbd
  obtain ⟨z1, z2, z3, z4⟩ := hlb
  have hplace : placeF g (chainLog0 l) = ⟨g, placeT (X + Y - Z - V)⟩ := by rw [placeF, hgap]
  have HF := Lib.hid (show placeDigits l g = limF ⟨g, placeT (X + Y - Z - V)⟩ from by simp [placeDigits, hc, hr, hplace])
  have HG := Lib.hid (show codePlace l g = codeLim ⟨g, placeT (X + Y - Z - V)⟩ from by simp [codePlace, hc, hr, hplace])
  obtain ⟨q, hq⟩ : ∃ q, (X + Y - Z - V) / 2097152 = q := ⟨_, rfl⟩
  have hpt : placeT (X + Y - Z - V) = if 1048576 < X + Y - Z - V - 2097152 * q then q + 1 else q := by rw [placeT, hq]
  have b1 : 2097152 * q ≤ X + Y - Z - V := by omega
  have b2 : X + Y - Z - V < 2097152 * q + 2097152 := by omega
  have HQ := Lib.hid hq
  have HX := Lib.hid hX
  have HY := Lib.hid hY
  have HZ := Lib.hid hZ
  have HV := Lib.hid hV
  have HC := Lib.hid hc
  have HR := Lib.hid hr
  clear hc hr hX hY hZ hV hgap hplace hq
  by_cases ht : 1048576 < X + Y - Z - V - 2097152 * q
  all_goals
    first
      | rw [if_pos ht] at hpt
      | rw [if_neg ht] at hpt
    have HP := Lib.hid hpt
    clear hpt
    go_enter Try.func30, Try.ntmps30
    go_wp2_with fail
    refine (w_specIsChain _ _ _ (h.later ((Later.refl _).alloc _))).mono ?_
    rintro e w1 ⟨rfl, hL⟩
    rw [HC.out]
    go_wp2_with fail
    refine (w_l01In _ _ _ _).mono ?_
    rintro e w2 ⟨rfl, rfl⟩
    rw [HR.out]
    go_wp2_with fail
    refine (w_specL13Log _ _ _ ((h.later ((Later.refl _).alloc _)).later hL) HC.out).mono ?_
    rintro e w2 ⟨rfl, hL2⟩
    rw [HX.out, HY.out]
    go_wp2_with fail
    refine (w_l03Log _ u1 u2 _).mono ?_
    rintro e w3 ⟨rfl, hL3⟩
    rw [HZ.out, HV.out]
    go_wp2_with fail
    refine (w_l01Floor _ _ (by decide) (by decide) (by omega) (by omega) _).mono ?_
    rintro e w4 ⟨rfl, rfl⟩
    rw [HQ.out]
    go_wp2_with fail
    refine (w_l02Result _ _ _).mono ?_
    rintro e w5 ⟨rfl, hL5⟩
    rw [← HP.out]
    have hk := hL5.keep (heap_alloc_old _ _ (heap_alloc_old _ _ (kept1 (hL.trans (hL2.trans hL3)))))
    obtain ⟨c0, f0, z0⟩ := blk_at hk
    go_wp2
    refine bodyPost_ret (v := .tuple #[.agg #[.int .i64 (limF ⟨g, placeT (X + Y - Z - V)⟩).d, .int .i64 (limF ⟨g, placeT (X + Y - Z - V)⟩).t], .int .i64 (codeLim ⟨g, placeT (X + Y - Z - V)⟩)]) (by simp [results, Try.results30, go_sem, c0, z0]) rfl ⟨by rw [HF.out, HG.out], by (repeat (with_reducible first | exact Later.refl _ | refine Later.alloc ?_ _ | refine Later.drew ?_ | refine Later.drewN ?_ _ | refine Later.setCell ?_ (by simp; try omega) _ | refine Later.trans ?_ (by assumption)))⟩

end Go.Proofs.Ytkoojngonldcbaa
