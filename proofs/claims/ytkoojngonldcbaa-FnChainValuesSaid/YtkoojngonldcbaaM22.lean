/- DERIVED. Walks: figures multiplied, divided, rounded. -/
import Derived.Test.YtkoojngonldcbaaM21
import Derived.Test.YtkoojngonldcbaaM19
namespace Go.Proofs.Ytkoojngonldcbaa
set_option linter.unusedVariables false
set_option linter.unusedSimpArgs false
open Go.RowKit
set_option maxRecDepth 100000

theorem mul_fig {a c : Int} (h1 : 1000 ≤ a) (h2 : a ≤ 9999) (h3 : 1000 ≤ c) (h4 : c ≤ 9999) : 1000000 ≤ a * c ∧ a * c ≤ 99980001 := by
  have m1 := Int.mul_le_mul h1 h3 (by omega) (by omega)
  have m2 := Int.mul_le_mul h2 h4 (by omega) (by omega)
  omega

theorem w_l02Two (a b c d : Int) (w : World) :
    Calls Try.prog 159 #[.agg #[.int .i64 a, .int .i64 b], .agg #[.int .i64 c, .int .i64 d]] w fun e w' => e = .returned (.bool (isFig ⟨a, b⟩ && isFig ⟨c, d⟩)) ∧ Later w w' := by
  cases h1 : isFig ⟨a, b⟩ <;> cases h2 : isFig ⟨c, d⟩
  all_goals
    have H1 := Lib.hid h1
    have H2 := Lib.hid h2
    clear h1 h2
    go_enter Try.func159, Try.ntmps159
    go_wp2_with fail
    refine (w_specIsFigure _ _ _).mono ?_
    rintro e w1 ⟨rfl, hL⟩
    rw [H1.out]
    obtain ⟨⟨c0, f0, z0⟩, ⟨c1, f1, z1⟩⟩ := blk2 hL
    go_wp2_with (go_at_call 112; refine (w_specIsFigure _ _ _).mono ?_; rintro e w2 ⟨rfl, hL2⟩; rw [H2.out])
    go_ret
    exact ⟨rfl, by (repeat (with_reducible first | exact Later.refl _ | refine Later.alloc ?_ _ | refine Later.drew ?_ | refine Later.drewN ?_ _ | refine Later.setCell ?_ (by simp; try omega) _ | refine Later.trans ?_ (by assumption)))⟩

set_option maxHeartbeats 1000000 in
theorem w_implMultiplyFigures (a b c d : Int) (w : World) :
    Calls Try.prog 104 #[.agg #[.int .i64 a, .int .i64 b], .agg #[.int .i64 c, .int .i64 d]] w fun e w' => e = .returned (.tuple #[.agg #[.int .i64 (mulR ⟨a, b⟩ ⟨c, d⟩).d, .int .i64 (mulR ⟨a, b⟩ ⟨c, d⟩).t], .int .i64 (mulC ⟨a, b⟩ ⟨c, d⟩)]) ∧ Later w w' := by
  have hall : ([⟨a, b⟩, ⟨c, d⟩] : List Fig).all isFig = (isFig ⟨a, b⟩ && isFig ⟨c, d⟩) := by simp
  cases hfi : (isFig ⟨a, b⟩ && isFig ⟨c, d⟩)
  · rw [hfi] at hall
    have HA := Lib.hid hall
    have HF := Lib.hid (show mulR ⟨a, b⟩ ⟨c, d⟩ = ⟨0, 0⟩ from by simp only [mulR, hfi]; rfl)
    have HC := Lib.hid (show mulC ⟨a, b⟩ ⟨c, d⟩ = 1 from by simp only [mulC, hfi]; rfl)
    clear hall hfi
    go_enter Try.func104, Try.ntmps104
    go_wp2_with fail
    refine (w_areFigures _ [⟨a, b⟩, ⟨c, d⟩] _ (figs_lit _ (heap_alloc_new' _ _ (by simp)) rfl (by simp))).mono ?_
    rintro e w1 ⟨rfl, hL⟩
    rw [HA.out]
    obtain ⟨K0, K1, K2, -⟩ := kept4 hL
    obtain ⟨c2, f2, z2⟩ := blk_at K2
    go_wp2
    refine bodyPost_ret (v := .tuple #[.agg #[.int .i64 0, .int .i64 0], .int .i64 1]) (by simp [results, Try.results104, go_sem, c2, z2]) rfl ⟨by rw [HF.out, HC.out], by (repeat (with_reducible first | exact Later.refl _ | refine Later.alloc ?_ _ | refine Later.drew ?_ | refine Later.drewN ?_ _ | refine Later.setCell ?_ (by simp; try omega) _ | refine Later.trans ?_ (by assumption)))⟩
  · rw [hfi] at hall
    have HA := Lib.hid hall
    have hff : isFig ⟨a, b⟩ = true ∧ isFig ⟨c, d⟩ = true := by simpa using hfi
    have HF := Lib.hid (show mulR ⟨a, b⟩ ⟨c, d⟩ = limF (mulF ⟨a, b⟩ ⟨c, d⟩) from by simp only [mulR, hfi, if_true])
    have HC := Lib.hid (show mulC ⟨a, b⟩ ⟨c, d⟩ = codeLim (mulF ⟨a, b⟩ ⟨c, d⟩) from by simp only [mulC, hfi, if_true])
    have b1 := isFig_true hff.1
    have b2 := isFig_true hff.2
    simp only at b1 b2
    obtain ⟨a1, a2, a3, a4⟩ := b1
    obtain ⟨q1, q2, q3, q4⟩ := b2
    have hm := mul_fig a1 a2 q1 q2
    obtain ⟨m1, m2⟩ := hm
    obtain ⟨P, hP⟩ : ∃ P, a * c = P := ⟨_, rfl⟩
    have HG := Lib.hid (show mulF ⟨a, b⟩ ⟨c, d⟩ = rndF (a * c) 1 (b + d - 6) from rfl)
    obtain ⟨G, hG⟩ : ∃ G, rndF (a * c) 1 (b + d - 6) = G := ⟨_, rfl⟩
    rw [hG] at HG
    rw [hP] at hG m1 m2
    have wP : IntKind.i64.wrap (a * c) = P := by rw [hP]; exact wrap_same (by omega) (by omega)
    clear hP
    have HG2 := Lib.hid hG
    rw [HG.out] at HF HC
    clear hall hfi hff hG HG
    go_enter Try.func104, Try.ntmps104
    go_wp2_with fail
    refine (w_areFigures _ [⟨a, b⟩, ⟨c, d⟩] _ (figs_lit _ (heap_alloc_new' _ _ (by simp)) rfl (by simp))).mono ?_
    rintro e w1 ⟨rfl, hL⟩
    rw [HA.out]
    obtain ⟨K0, K1, K2, -⟩ := kept4 hL
    obtain ⟨c0, f0, z0⟩ := blk_at K0
    obtain ⟨c1, f1, z1⟩ := blk_at K1
    have HK2 := Lib.hid K2
    clear K2
    go_wp2_with fail
    refine (w_rounded _ _ _ (by omega) (by omega) (by omega) (by omega) (by omega) (by omega) _).mono ?_
    rintro e w2 ⟨rfl, hL2⟩
    rw [HG2.out]
    go_wp2_with fail
    refine (w_limited _ _ _).mono ?_
    rintro e w3 ⟨rfl, hL3⟩
    obtain ⟨c2, f2, z2⟩ := blk_at ((hL2.trans hL3).keep HK2.out)
    go_wp2
    refine bodyPost_ret (v := .tuple #[.agg #[.int .i64 (limF G).d, .int .i64 (limF G).t], .int .i64 (codeLim G)]) (by simp [results, Try.results104, go_sem, c2, z2]) rfl ⟨by rw [HF.out, HC.out], by (repeat (with_reducible first | exact Later.refl _ | refine Later.alloc ?_ _ | refine Later.drew ?_ | refine Later.drewN ?_ _ | refine Later.setCell ?_ (by simp; try omega) _ | refine Later.trans ?_ (by assumption)))⟩

set_option maxHeartbeats 1000000 in
theorem w_implDivideFigures (a b c d : Int) (w : World) :
    Calls Try.prog 103 #[.agg #[.int .i64 a, .int .i64 b], .agg #[.int .i64 c, .int .i64 d]] w fun e w' => e = .returned (.tuple #[.agg #[.int .i64 (divR ⟨a, b⟩ ⟨c, d⟩).d, .int .i64 (divR ⟨a, b⟩ ⟨c, d⟩).t], .int .i64 (divC ⟨a, b⟩ ⟨c, d⟩)]) ∧ Later w w' := by
  have hall : ([⟨a, b⟩, ⟨c, d⟩] : List Fig).all isFig = (isFig ⟨a, b⟩ && isFig ⟨c, d⟩) := by simp
  cases hfi : (isFig ⟨a, b⟩ && isFig ⟨c, d⟩)
  · rw [hfi] at hall
    have HA := Lib.hid hall
    have HF := Lib.hid (show divR ⟨a, b⟩ ⟨c, d⟩ = ⟨0, 0⟩ from by simp only [divR, hfi]; rfl)
    have HC := Lib.hid (show divC ⟨a, b⟩ ⟨c, d⟩ = 1 from by simp only [divC, hfi]; rfl)
    clear hall hfi
    go_enter Try.func103, Try.ntmps103
    go_wp2_with fail
    refine (w_areFigures _ [⟨a, b⟩, ⟨c, d⟩] _ (figs_lit _ (heap_alloc_new' _ _ (by simp)) rfl (by simp))).mono ?_
    rintro e w1 ⟨rfl, hL⟩
    rw [HA.out]
    obtain ⟨K0, K1, K2, -⟩ := kept4 hL
    obtain ⟨c2, f2, z2⟩ := blk_at K2
    go_wp2
    refine bodyPost_ret (v := .tuple #[.agg #[.int .i64 0, .int .i64 0], .int .i64 1]) (by simp [results, Try.results103, go_sem, c2, z2]) rfl ⟨by rw [HF.out, HC.out], by (repeat (with_reducible first | exact Later.refl _ | refine Later.alloc ?_ _ | refine Later.drew ?_ | refine Later.drewN ?_ _ | refine Later.setCell ?_ (by simp; try omega) _ | refine Later.trans ?_ (by assumption)))⟩
  · rw [hfi] at hall
    have HA := Lib.hid hall
    have hff : isFig ⟨a, b⟩ = true ∧ isFig ⟨c, d⟩ = true := by simpa using hfi
    have HF := Lib.hid (show divR ⟨a, b⟩ ⟨c, d⟩ = limF (divF ⟨a, b⟩ ⟨c, d⟩) from by simp only [divR, hfi, if_true])
    have HC := Lib.hid (show divC ⟨a, b⟩ ⟨c, d⟩ = codeLim (divF ⟨a, b⟩ ⟨c, d⟩) from by simp only [divC, hfi, if_true])
    have b1 := isFig_true hff.1
    have b2 := isFig_true hff.2
    simp only at b1 b2
    obtain ⟨a1, a2, a3, a4⟩ := b1
    obtain ⟨q1, q2, q3, q4⟩ := b2
    skip
    have HG := Lib.hid (show divF ⟨a, b⟩ ⟨c, d⟩ = rndF a c (b - d) from rfl)
    obtain ⟨G, hG⟩ : ∃ G, rndF a c (b - d) = G := ⟨_, rfl⟩
    rw [hG] at HG
    skip
    have HG2 := Lib.hid hG
    rw [HG.out] at HF HC
    clear hall hfi hff hG HG
    go_enter Try.func103, Try.ntmps103
    go_wp2_with fail
    refine (w_areFigures _ [⟨a, b⟩, ⟨c, d⟩] _ (figs_lit _ (heap_alloc_new' _ _ (by simp)) rfl (by simp))).mono ?_
    rintro e w1 ⟨rfl, hL⟩
    rw [HA.out]
    obtain ⟨K0, K1, K2, -⟩ := kept4 hL
    obtain ⟨c0, f0, z0⟩ := blk_at K0
    obtain ⟨c1, f1, z1⟩ := blk_at K1
    have HK2 := Lib.hid K2
    clear K2
    go_wp2_with fail
    refine (w_rounded _ _ _ (by omega) (by omega) (by omega) (by omega) (by omega) (by omega) _).mono ?_
    rintro e w2 ⟨rfl, hL2⟩
    rw [HG2.out]
    go_wp2_with fail
    refine (w_limited _ _ _).mono ?_
    rintro e w3 ⟨rfl, hL3⟩
    obtain ⟨c2, f2, z2⟩ := blk_at ((hL2.trans hL3).keep HK2.out)
    go_wp2
    refine bodyPost_ret (v := .tuple #[.agg #[.int .i64 (limF G).d, .int .i64 (limF G).t], .int .i64 (codeLim G)]) (by simp [results, Try.results103, go_sem, c2, z2]) rfl ⟨by rw [HF.out, HC.out], by (repeat (with_reducible first | exact Later.refl _ | refine Later.alloc ?_ _ | refine Later.drew ?_ | refine Later.drewN ?_ _ | refine Later.setCell ?_ (by simp; try omega) _ | refine Later.trans ?_ (by assumption)))⟩

set_option maxHeartbeats 1000000 in
theorem w_specMultiplyFigures (a b c d : Int) (w : World) :
    Calls Try.prog 107 #[.agg #[.int .i64 a, .int .i64 b], .agg #[.int .i64 c, .int .i64 d]] w fun e w' => e = .returned (.tuple #[.agg #[.int .i64 (mulR ⟨a, b⟩ ⟨c, d⟩).d, .int .i64 (mulR ⟨a, b⟩ ⟨c, d⟩).t], .int .i64 (mulC ⟨a, b⟩ ⟨c, d⟩)]) ∧ Later w w' := by
  cases hfi : (isFig ⟨a, b⟩ && isFig ⟨c, d⟩)
  · have HA := Lib.hid hfi
    have HF := Lib.hid (show mulR ⟨a, b⟩ ⟨c, d⟩ = ⟨0, 0⟩ from by simp only [mulR, hfi]; rfl)
    have HC := Lib.hid (show mulC ⟨a, b⟩ ⟨c, d⟩ = 1 from by simp only [mulC, hfi]; rfl)
    clear hfi
    go_enter Try.func107, Try.ntmps107
    go_wp2_with fail
    refine (w_l02Two _ _ _ _ _).mono ?_
    rintro e w1 ⟨rfl, hL⟩
    rw [HA.out]
    obtain ⟨K0, K1, K2⟩ := kept3 hL
    obtain ⟨c2, f2, z2⟩ := blk_at K2
    go_wp2
    refine bodyPost_ret (v := .tuple #[.agg #[.int .i64 0, .int .i64 0], .int .i64 1]) (by simp [results, Try.results107, go_sem, c2, z2]) rfl ⟨by rw [HF.out, HC.out], by (repeat (with_reducible first | exact Later.refl _ | refine Later.alloc ?_ _ | refine Later.drew ?_ | refine Later.drewN ?_ _ | refine Later.setCell ?_ (by simp; try omega) _ | refine Later.trans ?_ (by assumption)))⟩
  · have HA := Lib.hid hfi
    have hff : isFig ⟨a, b⟩ = true ∧ isFig ⟨c, d⟩ = true := by simpa using hfi
    have HF := Lib.hid (show mulR ⟨a, b⟩ ⟨c, d⟩ = limF (mulF ⟨a, b⟩ ⟨c, d⟩) from by simp only [mulR, hfi, if_true])
    have HC := Lib.hid (show mulC ⟨a, b⟩ ⟨c, d⟩ = codeLim (mulF ⟨a, b⟩ ⟨c, d⟩) from by simp only [mulC, hfi, if_true])
    have b1 := isFig_true hff.1
    have b2 := isFig_true hff.2
    simp only at b1 b2
    obtain ⟨a1, a2, a3, a4⟩ := b1
    obtain ⟨q1, q2, q3, q4⟩ := b2
    have hm := mul_fig a1 a2 q1 q2
    obtain ⟨m1, m2⟩ := hm
    obtain ⟨P, hP⟩ : ∃ P, a * c = P := ⟨_, rfl⟩
    have HG := Lib.hid (show mulF ⟨a, b⟩ ⟨c, d⟩ = rndF (a * c) 1 (b + d - 6) from rfl)
    obtain ⟨G, hG⟩ : ∃ G, rndF (a * c) 1 (b + d - 6) = G := ⟨_, rfl⟩
    rw [hG] at HG
    rw [hP] at hG m1 m2
    have wP : IntKind.i64.wrap (a * c) = P := by rw [hP]; exact wrap_same (by omega) (by omega)
    clear hP
    have HG2 := Lib.hid hG
    rw [HG.out] at HF HC
    clear hfi hff hG HG
    go_enter Try.func107, Try.ntmps107
    go_wp2_with fail
    refine (w_l02Two _ _ _ _ _).mono ?_
    rintro e w1 ⟨rfl, hL⟩
    rw [HA.out]
    obtain ⟨K0, K1, K2⟩ := kept3 hL
    obtain ⟨c0, f0, z0⟩ := blk_at K0
    obtain ⟨c1, f1, z1⟩ := blk_at K1
    have HK2 := Lib.hid K2
    clear K2
    go_wp2_with fail
    refine (w_l02Round _ _ _ (by omega) (by omega) (by omega) (by omega) (by omega) (by omega) _).mono ?_
    rintro e w2 ⟨rfl, hL2⟩
    rw [HG2.out]
    go_wp2_with fail
    refine (w_l02Result _ _ _).mono ?_
    rintro e w3 ⟨rfl, hL3⟩
    obtain ⟨c2, f2, z2⟩ := blk_at ((hL2.trans hL3).keep HK2.out)
    go_wp2
    refine bodyPost_ret (v := .tuple #[.agg #[.int .i64 (limF G).d, .int .i64 (limF G).t], .int .i64 (codeLim G)]) (by simp [results, Try.results107, go_sem, c2, z2]) rfl ⟨by rw [HF.out, HC.out], by (repeat (with_reducible first | exact Later.refl _ | refine Later.alloc ?_ _ | refine Later.drew ?_ | refine Later.drewN ?_ _ | refine Later.setCell ?_ (by simp; try omega) _ | refine Later.trans ?_ (by assumption)))⟩

set_option maxHeartbeats 1000000 in
theorem w_specDivideFigures (a b c d : Int) (w : World) :
    Calls Try.prog 108 #[.agg #[.int .i64 a, .int .i64 b], .agg #[.int .i64 c, .int .i64 d]] w fun e w' => e = .returned (.tuple #[.agg #[.int .i64 (divR ⟨a, b⟩ ⟨c, d⟩).d, .int .i64 (divR ⟨a, b⟩ ⟨c, d⟩).t], .int .i64 (divC ⟨a, b⟩ ⟨c, d⟩)]) ∧ Later w w' := by
  cases hfi : (isFig ⟨a, b⟩ && isFig ⟨c, d⟩)
  · have HA := Lib.hid hfi
    have HF := Lib.hid (show divR ⟨a, b⟩ ⟨c, d⟩ = ⟨0, 0⟩ from by simp only [divR, hfi]; rfl)
    have HC := Lib.hid (show divC ⟨a, b⟩ ⟨c, d⟩ = 1 from by simp only [divC, hfi]; rfl)
    clear hfi
    go_enter Try.func108, Try.ntmps108
    go_wp2_with fail
    refine (w_l02Two _ _ _ _ _).mono ?_
    rintro e w1 ⟨rfl, hL⟩
    rw [HA.out]
    obtain ⟨K0, K1, K2⟩ := kept3 hL
    obtain ⟨c2, f2, z2⟩ := blk_at K2
    go_wp2
    refine bodyPost_ret (v := .tuple #[.agg #[.int .i64 0, .int .i64 0], .int .i64 1]) (by simp [results, Try.results108, go_sem, c2, z2]) rfl ⟨by rw [HF.out, HC.out], by (repeat (with_reducible first | exact Later.refl _ | refine Later.alloc ?_ _ | refine Later.drew ?_ | refine Later.drewN ?_ _ | refine Later.setCell ?_ (by simp; try omega) _ | refine Later.trans ?_ (by assumption)))⟩
  · have HA := Lib.hid hfi
    have hff : isFig ⟨a, b⟩ = true ∧ isFig ⟨c, d⟩ = true := by simpa using hfi
    have HF := Lib.hid (show divR ⟨a, b⟩ ⟨c, d⟩ = limF (divF ⟨a, b⟩ ⟨c, d⟩) from by simp only [divR, hfi, if_true])
    have HC := Lib.hid (show divC ⟨a, b⟩ ⟨c, d⟩ = codeLim (divF ⟨a, b⟩ ⟨c, d⟩) from by simp only [divC, hfi, if_true])
    have b1 := isFig_true hff.1
    have b2 := isFig_true hff.2
    simp only at b1 b2
    obtain ⟨a1, a2, a3, a4⟩ := b1
    obtain ⟨q1, q2, q3, q4⟩ := b2
    skip
    have HG := Lib.hid (show divF ⟨a, b⟩ ⟨c, d⟩ = rndF a c (b - d) from rfl)
    obtain ⟨G, hG⟩ : ∃ G, rndF a c (b - d) = G := ⟨_, rfl⟩
    rw [hG] at HG
    skip
    have HG2 := Lib.hid hG
    rw [HG.out] at HF HC
    clear hfi hff hG HG
    go_enter Try.func108, Try.ntmps108
    go_wp2_with fail
    refine (w_l02Two _ _ _ _ _).mono ?_
    rintro e w1 ⟨rfl, hL⟩
    rw [HA.out]
    obtain ⟨K0, K1, K2⟩ := kept3 hL
    obtain ⟨c0, f0, z0⟩ := blk_at K0
    obtain ⟨c1, f1, z1⟩ := blk_at K1
    have HK2 := Lib.hid K2
    clear K2
    go_wp2_with fail
    refine (w_l02Round _ _ _ (by omega) (by omega) (by omega) (by omega) (by omega) (by omega) _).mono ?_
    rintro e w2 ⟨rfl, hL2⟩
    rw [HG2.out]
    go_wp2_with fail
    refine (w_l02Result _ _ _).mono ?_
    rintro e w3 ⟨rfl, hL3⟩
    obtain ⟨c2, f2, z2⟩ := blk_at ((hL2.trans hL3).keep HK2.out)
    go_wp2
    refine bodyPost_ret (v := .tuple #[.agg #[.int .i64 (limF G).d, .int .i64 (limF G).t], .int .i64 (codeLim G)]) (by simp [results, Try.results108, go_sem, c2, z2]) rfl ⟨by rw [HF.out, HC.out], by (repeat (with_reducible first | exact Later.refl _ | refine Later.alloc ?_ _ | refine Later.drew ?_ | refine Later.drewN ?_ _ | refine Later.setCell ?_ (by simp; try omega) _ | refine Later.trans ?_ (by assumption)))⟩

theorem w_ten3 (w : World) : Calls Try.prog 168 #[.int .i64 3] w fun e w' => e = .returned (.int .i64 1000) ∧ w = w' := by
  go_enter Try.func168, Try.ntmps168
  go_wp2
  go_loop [3, 5] (fun x i => (x = .int .i64 1 ∧ i = .int .i64 0) ∨ (x = .int .i64 10 ∧ i = .int .i64 1) ∨ (x = .int .i64 100 ∧ i = .int .i64 2) ∨ (x = .int .i64 1000 ∧ i = .int .i64 3)) (fun _ i => 3 - (intOf i).toNat)
  case atStart => exact .inl ⟨rfl, rfl⟩
  case round =>
    rcases hrel with ⟨rfl, rfl⟩ | ⟨rfl, rfl⟩ | ⟨rfl, rfl⟩ | ⟨rfl, rfl⟩
    · go_wp2
      go_round
      case rel => exact .inr (.inl ⟨rfl, rfl⟩)
      case measure => decide
    · go_wp2
      go_round
      case rel => exact .inr (.inr (.inl ⟨rfl, rfl⟩))
      case measure => decide
    · go_wp2
      go_round
      case rel => exact .inr (.inr (.inr ⟨rfl, rfl⟩))
      case measure => decide
    · go_wp2
      go_ret
      exact ⟨rfl, rfl⟩

theorem w_l01Ten3 (w : World) : Calls Try.prog 203 #[.int .i64 3] w fun e w' => e = .returned (.int .i64 1000) ∧ w = w' := by
  go_enter Try.func203, Try.ntmps203
  go_wp2
  go_loop [0, 3] (fun i x => (x = .int .i64 1 ∧ i = .int .i64 3) ∨ (x = .int .i64 10 ∧ i = .int .i64 2) ∨ (x = .int .i64 100 ∧ i = .int .i64 1) ∨ (x = .int .i64 1000 ∧ i = .int .i64 0)) (fun i _ => (intOf i).toNat)
  case atStart => exact .inl ⟨rfl, rfl⟩
  case round =>
    rcases hrel with ⟨rfl, rfl⟩ | ⟨rfl, rfl⟩ | ⟨rfl, rfl⟩ | ⟨rfl, rfl⟩
    · go_wp2
      go_round
      case rel => exact .inr (.inl ⟨rfl, rfl⟩)
      case measure => decide
    · go_wp2
      go_round
      case rel => exact .inr (.inr (.inl ⟨rfl, rfl⟩))
      case measure => decide
    · go_wp2
      go_round
      case rel => exact .inr (.inr (.inr ⟨rfl, rfl⟩))
      case measure => decide
    · go_wp2
      go_ret
      exact ⟨rfl, rfl⟩

theorem w_roundFigure1 (d t : Int) (h1 : 1000 ≤ d) (h2 : d ≤ 9999) (h3 : -100 ≤ t) (h4 : t ≤ 100) (w : World) :
    Calls Try.prog 157 #[.agg #[.int .i64 d, .int .i64 t], .int .i64 1] w fun e w' => e = .returned (.agg #[.int .i64 (cutF ⟨d, t⟩).d, .int .i64 (cutF ⟨d, t⟩).t]) ∧ Later w w' := by
  by_cases hq : (2 * d + 1000) / 2000 * 1000 = 10000
  · have HF := Lib.hid (show cutF ⟨d, t⟩ = ⟨1000, t + 1⟩ from by rw [cutF, if_pos hq])
    have hq2 : ((2 * d + 1000) / 2000 * 1000 == 10000) = true := by simp; omega
    clear hq
    go_enter Try.func157, Try.ntmps157
    go_wp2_with fail
    refine (w_ten3 _).mono ?_
    rintro e w2 ⟨rfl, rfl⟩
    go_wp2_with fail
    refine (w_down _ _ (by omega) (by omega) (by omega) (by omega) _).mono ?_
    rintro e w2 ⟨rfl, rfl⟩
    go_wp2
    refine bodyPost_ret (v := .agg #[.int .i64 1000, .int .i64 (t + 1)]) (by simp [results, Try.results157, go_sem]) rfl ⟨by rw [HF.out], by (repeat (with_reducible first | exact Later.refl _ | refine Later.alloc ?_ _ | refine Later.drew ?_ | refine Later.drewN ?_ _ | refine Later.setCell ?_ (by simp; try omega) _ | refine Later.trans ?_ (by assumption)))⟩
  · have HF := Lib.hid (show cutF ⟨d, t⟩ = ⟨(2 * d + 1000) / 2000 * 1000, t⟩ from by rw [cutF, if_neg hq])
    have hq2 : ((2 * d + 1000) / 2000 * 1000 == 10000) = false := by simp; omega
    clear hq
    go_enter Try.func157, Try.ntmps157
    go_wp2_with fail
    refine (w_ten3 _).mono ?_
    rintro e w2 ⟨rfl, rfl⟩
    go_wp2_with fail
    refine (w_down _ _ (by omega) (by omega) (by omega) (by omega) _).mono ?_
    rintro e w2 ⟨rfl, rfl⟩
    go_wp2
    refine bodyPost_ret (v := .agg #[.int .i64 ((2 * d + 1000) / 2000 * 1000), .int .i64 t]) (by simp [results, Try.results157, go_sem]) rfl ⟨by rw [HF.out], by (repeat (with_reducible first | exact Later.refl _ | refine Later.alloc ?_ _ | refine Later.drew ?_ | refine Later.drewN ?_ _ | refine Later.setCell ?_ (by simp; try omega) _ | refine Later.trans ?_ (by assumption)))⟩

set_option maxHeartbeats 1000000 in
theorem w_implRoundFigure1 (d t : Int) (w : World) :
    Calls Try.prog 105 #[.agg #[.int .i64 d, .int .i64 t], .int .i64 1] w fun e w' => e = .returned (.tuple #[.agg #[.int .i64 (cutR ⟨d, t⟩).d, .int .i64 (cutR ⟨d, t⟩).t], .int .i64 (cutC ⟨d, t⟩)]) ∧ Later w w' := by
  cases hi : isFig ⟨d, t⟩
  · have HI := Lib.hid hi
    have HF := Lib.hid (show cutR ⟨d, t⟩ = ⟨0, 0⟩ from by simp [cutR, hi])
    have HC := Lib.hid (show cutC ⟨d, t⟩ = 1 from by simp [cutC, hi])
    clear hi
    go_enter Try.func105, Try.ntmps105
    go_wp2_with fail
    refine (w_implIsFigure _ _ _).mono ?_
    rintro e w1 ⟨rfl, hL⟩
    rw [HI.out]
    obtain ⟨K0, K2⟩ := kept2 hL
    obtain ⟨c2, f2, z2⟩ := blk_at K2
    go_wp2
    refine bodyPost_ret (v := .tuple #[.agg #[.int .i64 0, .int .i64 0], .int .i64 1]) (by simp [results, Try.results105, go_sem, c2, z2]) rfl ⟨by rw [HF.out, HC.out], by (repeat (with_reducible first | exact Later.refl _ | refine Later.alloc ?_ _ | refine Later.drew ?_ | refine Later.drewN ?_ _ | refine Later.setCell ?_ (by simp; try omega) _ | refine Later.trans ?_ (by assumption)))⟩
  · have HF := Lib.hid (show cutR ⟨d, t⟩ = limF (cutF ⟨d, t⟩) from by simp [cutR, hi])
    have HC := Lib.hid (show cutC ⟨d, t⟩ = codeLim (cutF ⟨d, t⟩) from by simp [cutC, hi])
    have b1 := isFig_true hi
    simp only at b1
    obtain ⟨a1, a2, a3, a4⟩ := b1
    have HI := Lib.hid hi
    obtain ⟨G, hG⟩ : ∃ G, cutF ⟨d, t⟩ = G := ⟨_, rfl⟩
    rw [hG] at HF HC
    have HG := Lib.hid hG
    clear hi hG
    go_enter Try.func105, Try.ntmps105
    go_wp2_with fail
    refine (w_implIsFigure _ _ _).mono ?_
    rintro e w1 ⟨rfl, hL⟩
    rw [HI.out]
    obtain ⟨K0, K2⟩ := kept2 hL
    obtain ⟨c0, f0, z0⟩ := blk_at K0
    have HK2 := Lib.hid K2
    clear K2
    go_wp2_with fail
    refine (w_within _ _ _ _).mono ?_
    rintro e w1 ⟨rfl, rfl⟩
    rw [show inR 1 1 4 = true from rfl]
    go_wp2_with fail
    refine (w_roundFigure1 _ _ a1 a2 (by omega) (by omega) _).mono ?_
    rintro e w2 ⟨rfl, hL2⟩
    rw [HG.out]
    go_wp2_with fail
    refine (w_limited _ _ _).mono ?_
    rintro e w3 ⟨rfl, hL3⟩
    obtain ⟨c2, f2, z2⟩ := blk_at ((hL2.trans hL3).keep HK2.out)
    go_wp2
    refine bodyPost_ret (v := .tuple #[.agg #[.int .i64 (limF G).d, .int .i64 (limF G).t], .int .i64 (codeLim G)]) (by simp [results, Try.results105, go_sem, c2, z2]) rfl ⟨by rw [HF.out, HC.out], by (repeat (with_reducible first | exact Later.refl _ | refine Later.alloc ?_ _ | refine Later.drew ?_ | refine Later.drewN ?_ _ | refine Later.setCell ?_ (by simp; try omega) _ | refine Later.trans ?_ (by assumption)))⟩

theorem w_l02Cut1 (d t : Int) (h1 : 1000 ≤ d) (h2 : d ≤ 9999) (h3 : -100 ≤ t) (h4 : t ≤ 100) (w : World) :
    Calls Try.prog 158 #[.agg #[.int .i64 d, .int .i64 t], .int .i64 1] w fun e w' => e = .returned (.agg #[.int .i64 (cutF ⟨d, t⟩).d, .int .i64 (cutF ⟨d, t⟩).t]) ∧ Later w w' := by
  by_cases hq : (2 * d + 1000) / 2000 * 1000 = 10000
  · have HF := Lib.hid (show cutF ⟨d, t⟩ = ⟨1000, t + 1⟩ from by rw [cutF, if_pos hq])
    have hq2 : (1000 * ((2 * d + 1000) / 2000) == 10000) = true := by simp; omega
    clear hq
    go_enter Try.func158, Try.ntmps158
    go_wp2_with fail
    refine (w_l01Ten3 _).mono ?_
    rintro e w2 ⟨rfl, rfl⟩
    go_wp2_with fail
    refine (w_l01Nearest _ _ (by omega) (by omega) (by omega) (by omega) _).mono ?_
    rintro e w2 ⟨rfl, rfl⟩
    go_wp2
    refine bodyPost_ret (v := .agg #[.int .i64 1000, .int .i64 (t + 1)]) (by simp [results, Try.results158, go_sem]) rfl ⟨by rw [HF.out], by (repeat (with_reducible first | exact Later.refl _ | refine Later.alloc ?_ _ | refine Later.drew ?_ | refine Later.drewN ?_ _ | refine Later.setCell ?_ (by simp; try omega) _ | refine Later.trans ?_ (by assumption)))⟩
  · have HF := Lib.hid (show cutF ⟨d, t⟩ = ⟨1000 * ((2 * d + 1000) / 2000), t⟩ from by rw [cutF, if_neg hq]; simp only [Int.mul_comm 1000])
    have hq2 : (1000 * ((2 * d + 1000) / 2000) == 10000) = false := by simp; omega
    clear hq
    go_enter Try.func158, Try.ntmps158
    go_wp2_with fail
    refine (w_l01Ten3 _).mono ?_
    rintro e w2 ⟨rfl, rfl⟩
    go_wp2_with fail
    refine (w_l01Nearest _ _ (by omega) (by omega) (by omega) (by omega) _).mono ?_
    rintro e w2 ⟨rfl, rfl⟩
    go_wp2
    refine bodyPost_ret (v := .agg #[.int .i64 (1000 * ((2 * d + 1000) / 2000)), .int .i64 t]) (by simp [results, Try.results158, go_sem]) rfl ⟨by rw [HF.out], by (repeat (with_reducible first | exact Later.refl _ | refine Later.alloc ?_ _ | refine Later.drew ?_ | refine Later.drewN ?_ _ | refine Later.setCell ?_ (by simp; try omega) _ | refine Later.trans ?_ (by assumption)))⟩

set_option maxHeartbeats 1000000 in
theorem w_specRoundFigure1 (d t : Int) (w : World) :
    Calls Try.prog 106 #[.agg #[.int .i64 d, .int .i64 t], .int .i64 1] w fun e w' => e = .returned (.tuple #[.agg #[.int .i64 (cutR ⟨d, t⟩).d, .int .i64 (cutR ⟨d, t⟩).t], .int .i64 (cutC ⟨d, t⟩)]) ∧ Later w w' := by
  cases hi : isFig ⟨d, t⟩
  · have HI := Lib.hid hi
    have HF := Lib.hid (show cutR ⟨d, t⟩ = ⟨0, 0⟩ from by simp [cutR, hi])
    have HC := Lib.hid (show cutC ⟨d, t⟩ = 1 from by simp [cutC, hi])
    clear hi
    go_enter Try.func106, Try.ntmps106
    go_wp2_with fail
    refine (w_specIsFigure _ _ _).mono ?_
    rintro e w1 ⟨rfl, hL⟩
    rw [HI.out]
    obtain ⟨K0, K2⟩ := kept2 hL
    obtain ⟨c2, f2, z2⟩ := blk_at K2
    go_wp2
    refine bodyPost_ret (v := .tuple #[.agg #[.int .i64 0, .int .i64 0], .int .i64 1]) (by simp [results, Try.results106, go_sem, c2, z2]) rfl ⟨by rw [HF.out, HC.out], by (repeat (with_reducible first | exact Later.refl _ | refine Later.alloc ?_ _ | refine Later.drew ?_ | refine Later.drewN ?_ _ | refine Later.setCell ?_ (by simp; try omega) _ | refine Later.trans ?_ (by assumption)))⟩
  · have HF := Lib.hid (show cutR ⟨d, t⟩ = limF (cutF ⟨d, t⟩) from by simp [cutR, hi])
    have HC := Lib.hid (show cutC ⟨d, t⟩ = codeLim (cutF ⟨d, t⟩) from by simp [cutC, hi])
    have b1 := isFig_true hi
    simp only at b1
    obtain ⟨a1, a2, a3, a4⟩ := b1
    have HI := Lib.hid hi
    obtain ⟨G, hG⟩ : ∃ G, cutF ⟨d, t⟩ = G := ⟨_, rfl⟩
    rw [hG] at HF HC
    have HG := Lib.hid hG
    clear hi hG
    go_enter Try.func106, Try.ntmps106
    go_wp2_with fail
    refine (w_specIsFigure _ _ _).mono ?_
    rintro e w1 ⟨rfl, hL⟩
    rw [HI.out]
    obtain ⟨K0, K2⟩ := kept2 hL
    obtain ⟨c0, f0, z0⟩ := blk_at K0
    have HK2 := Lib.hid K2
    clear K2
    go_wp2_with fail
    refine (w_l01In _ _ _ _).mono ?_
    rintro e w1 ⟨rfl, rfl⟩
    rw [show inR 1 1 4 = true from rfl]
    go_wp2_with fail
    refine (w_l02Cut1 _ _ a1 a2 (by omega) (by omega) _).mono ?_
    rintro e w2 ⟨rfl, hL2⟩
    rw [HG.out]
    go_wp2_with fail
    refine (w_l02Result _ _ _).mono ?_
    rintro e w3 ⟨rfl, hL3⟩
    obtain ⟨c2, f2, z2⟩ := blk_at ((hL2.trans hL3).keep HK2.out)
    go_wp2
    refine bodyPost_ret (v := .tuple #[.agg #[.int .i64 (limF G).d, .int .i64 (limF G).t], .int .i64 (codeLim G)]) (by simp [results, Try.results106, go_sem, c2, z2]) rfl ⟨by rw [HF.out, HC.out], by (repeat (with_reducible first | exact Later.refl _ | refine Later.alloc ?_ _ | refine Later.drew ?_ | refine Later.drewN ?_ _ | refine Later.setCell ?_ (by simp; try omega) _ | refine Later.trans ?_ (by assumption)))⟩

end Go.Proofs.Ytkoojngonldcbaa
