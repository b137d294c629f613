/- DERIVED. Walks: digits that are placed or checked. -/
import Derived.Test.YtkoojngonldcbaaM14
import Derived.Test.YtkoojngonldcbaaPA
namespace Go.Proofs.Ytkoojngonldcbaa
set_option linter.unusedVariables false
set_option linter.unusedSimpArgs false
open Go.RowKit
set_option maxRecDepth 100000

theorem w_spread (a b u : Int) (h1 : -4000000000000 ≤ a) (h2 : a ≤ 4000000000000) (h3 : -4000000000000 ≤ b) (h4 : b ≤ 4000000000000) (h5 : 0 ≤ u) (h6 : u ≤ 4000000000000) (w : World) :
    Calls Try.prog 111 #[.agg #[.int .i64 a, .int .i64 b], .int .i64 u] w fun e w' => e = .returned (.agg #[.int .i64 (a - u), .int .i64 (b + u)]) ∧ Later w w' := by
  go_enter Try.func111, Try.ntmps111
  go_wp2
  refine bodyPost_ret (v := .agg #[.int .i64 (a - u), .int .i64 (b + u)]) (by simp [results, Try.results111, go_sem]) rfl ⟨rfl, ?_⟩
  (repeat (with_reducible first | exact Later.refl _ | refine Later.alloc ?_ _ | refine Later.drew ?_ | refine Later.drewN ?_ _ | refine Later.setCell ?_ (by simp; try omega) _ | refine Later.trans ?_ (by assumption)))

theorem w_meet (a b a' b' : Int) (w : World) :
    Calls Try.prog 110 #[.agg #[.int .i64 a, .int .i64 b], .agg #[.int .i64 a', .int .i64 b']] w fun e w' => e = .returned (.bool (meetI ⟨a, b⟩ ⟨a', b'⟩)) ∧ Later w w' := by
  by_cases h1 : a ≤ b' <;> by_cases h2 : a' ≤ b
  all_goals
    have HF := Lib.hid (show meetI ⟨a, b⟩ ⟨a', b'⟩ = (decide (a ≤ b') && decide (a' ≤ b)) from rfl)
    go_enter Try.func110, Try.ntmps110
    go_wp2
    go_ret
    exact ⟨by rw [HF.out]; simp [h1, h2], by (repeat (with_reducible first | exact Later.refl _ | refine Later.alloc ?_ _ | refine Later.drew ?_ | refine Later.drewN ?_ _ | refine Later.setCell ?_ (by simp; try omega) _ | refine Later.trans ?_ (by assumption)))⟩

theorem w_implCheckDigits (v : Value) (l : List Trm) (d t u : Int) (w : World) (h : IsTrms w v l) :
    Calls Try.prog 39 #[v, .agg #[.int .i64 d, .int .i64 t], .int .i64 u] w fun e w' => e = .returned (.tuple #[.bool (checkDigits l ⟨d, t⟩ u), .int .i64 (codeDigits l ⟨d, t⟩ u)]) ∧ Later w w' := by
  have hL0 := (Later.refl w).alloc (.cells #[.int .i64 d, .int .i64 t] 41)
  cases hc : isChain l
  · have HC := Lib.hid hc
    have HG := Lib.hid (show codeDigits l ⟨d, t⟩ u = 1 from by simp [codeDigits, hc])
    have HF := Lib.hid (show checkDigits l ⟨d, t⟩ u = false from by simp [checkDigits, codeDigits, hc])
    clear hc
    go_enter Try.func39, Try.ntmps39
    go_wp2_with fail
    refine (w_implIsChain _ _ _ (h.later hL0)).mono ?_
    rintro e w1 ⟨rfl, hL⟩
    rw [HC.out]
    go_wp2
    go_ret2
    exact ⟨by rw [HF.out, HG.out]; rfl, by (repeat (with_reducible first | exact Later.refl _ | refine Later.alloc ?_ _ | refine Later.drew ?_ | refine Later.drewN ?_ _ | refine Later.setCell ?_ (by simp; try omega) _ | refine Later.trans ?_ (by assumption)))⟩
  cases hi : isFig ⟨d, t⟩
  · have HC := Lib.hid hc
    have HI := Lib.hid hi
    have HG := Lib.hid (show codeDigits l ⟨d, t⟩ u = 1 from by simp [codeDigits, hc, hi])
    have HF := Lib.hid (show checkDigits l ⟨d, t⟩ u = false from by simp [checkDigits, codeDigits, hc, hi])
    clear hc hi
    go_enter Try.func39, Try.ntmps39
    go_wp2_with fail
    refine (w_implIsChain _ _ _ (h.later hL0)).mono ?_
    rintro e w1 ⟨rfl, hL⟩
    rw [HC.out]
    obtain ⟨c0, f0, z0⟩ := blk1 hL
    go_wp2_with fail
    refine (w_implIsFigure _ _ _).mono ?_
    rintro e w2 ⟨rfl, hL2⟩
    rw [HI.out]
    go_wp2
    go_ret2
    exact ⟨by rw [HF.out, HG.out]; rfl, by (repeat (with_reducible first | exact Later.refl _ | refine Later.alloc ?_ _ | refine Later.drew ?_ | refine Later.drewN ?_ _ | refine Later.setCell ?_ (by simp; try omega) _ | refine Later.trans ?_ (by assumption)))⟩
  cases hu : inR u 0 1048576
  · have HC := Lib.hid hc
    have HI := Lib.hid hi
    have HU := Lib.hid hu
    have HG := Lib.hid (show codeDigits l ⟨d, t⟩ u = 2 from by simp [codeDigits, hc, hi, hu])
    have HF := Lib.hid (show checkDigits l ⟨d, t⟩ u = false from by simp [checkDigits, codeDigits, hc, hi, hu])
    clear hc hi hu
    go_enter Try.func39, Try.ntmps39
    go_wp2_with fail
    refine (w_implIsChain _ _ _ (h.later hL0)).mono ?_
    rintro e w1 ⟨rfl, hL⟩
    rw [HC.out]
    obtain ⟨c0, f0, z0⟩ := blk1 hL
    go_wp2_with fail
    refine (w_implIsFigure _ _ _).mono ?_
    rintro e w2 ⟨rfl, hL2⟩
    rw [HI.out]
    go_wp2_with fail
    refine (w_within _ _ _ _).mono ?_
    rintro e w3 ⟨rfl, rfl⟩
    rw [HU.out]
    go_wp2
    go_ret2
    exact ⟨by rw [HF.out, HG.out]; rfl, by (repeat (with_reducible first | exact Later.refl _ | refine Later.alloc ?_ _ | refine Later.drew ?_ | refine Later.drewN ?_ _ | refine Later.setCell ?_ (by simp; try omega) _ | refine Later.trans ?_ (by assumption)))⟩
  have hu' := inR_true hu
  have hfi := isFig_true hi
  simp only at hfi
  obtain ⟨t1, t2, t3, t4⟩ := hfi
  have hbd := figLog_bd2 (f := ⟨d, t⟩) t1 t2 t3 t4
  obtain ⟨q1, q2, q3, q4⟩ := hbd
  have t5 : -100 ≤ t := by omega
  have t6 : t ≤ 100 := by omega
  obtain ⟨x1, x2⟩ := hu'
  have HC := Lib.hid hc
  have HI := Lib.hid hi
  have HU := Lib.hid hu
  have HG := Lib.hid (show codeDigits l ⟨d, t⟩ u = 0 from by simp [codeDigits, hc, hi, hu])
  have HF := Lib.hid (show checkDigits l ⟨d, t⟩ u = meetI ⟨(figLog ⟨d, t⟩).lo - u, (figLog ⟨d, t⟩).hi + u⟩ (chainLog0 l) from by simp [checkDigits, codeDigits, hc, hi, hu])
  clear hc hi hu
  go_enter Try.func39, Try.ntmps39
  go_wp2_with fail
  refine (w_implIsChain _ _ _ (h.later hL0)).mono ?_
  rintro e w1 ⟨rfl, hL⟩
  rw [HC.out]
  obtain ⟨c0, f0, z0⟩ := blk1 hL
  go_wp2_with fail
  refine (w_implIsFigure _ _ _).mono ?_
  rintro e w2 ⟨rfl, hL2⟩
  rw [HI.out]
  clear c0 f0 z0
  obtain ⟨c0, f0, z0⟩ := blk1 (hL.trans hL2)
  go_wp2_with fail
  refine (w_within _ _ _ _).mono ?_
  rintro e w3 ⟨rfl, rfl⟩
  rw [HU.out]
  go_wp2_with fail
  refine (w_figureLog _ _ t1 t2 t5 t6 _).mono ?_
  rintro e w4 ⟨rfl, hL4⟩
  go_wp2_with fail
  refine (w_spread _ _ _ (by omega) (by omega) (by omega) (by omega) x1 (by omega) _).mono ?_
  rintro e w5 ⟨rfl, hL5⟩
  go_wp2_with fail
  refine (w_implChainLog0 _ _ _ (h.later (hL0.trans (hL.trans (hL2.trans (hL4.trans hL5))))) HC.out).mono ?_
  rintro e w6 ⟨rfl, hL6⟩
  go_wp2_with fail
  refine (w_meet _ _ _ _ _).mono ?_
  rintro e w7 ⟨rfl, hL7⟩
  go_wp2
  go_ret2
  exact ⟨by rw [HF.out, HG.out]; rfl, by (repeat (with_reducible first | exact Later.refl _ | refine Later.alloc ?_ _ | refine Later.drew ?_ | refine Later.drewN ?_ _ | refine Later.setCell ?_ (by simp; try omega) _ | refine Later.trans ?_ (by assumption)))⟩

end Go.Proofs.Ytkoojngonldcbaa
