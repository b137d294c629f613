/- DERIVED. Walks: FigureLog, AddLogs, SubtractLogs, RelativeError, on what is valid. -/
import Derived.Test.YtkoojngonldcbaaM14
import Derived.Test.YtkoojngonldcbaaM70
import Derived.Test.YtkoojngonldcbaaM18
import Derived.Test.YtkoojngonldcbaaM19
namespace Go.Proofs.Ytkoojngonldcbaa
set_option linter.unusedVariables false
set_option linter.unusedSimpArgs false
open Go.RowKit
set_option maxRecDepth 100000

theorem w_isValue (n : Int) (w : World) : Calls Try.prog 167 #[.int .i64 n] w fun e w' => e = .returned (.bool (inR n (-1000000000000) 1000000000000)) ∧ w = w' := by
  go_enter Try.func167, Try.ntmps167
  go_wp2
  all_goals
    go_ret
    refine ⟨?_, rfl⟩
    congr 2
    simp only [inR]
    first | (simp; done) | (simp; omega) | (simp [*]; done)

theorem w_implIsInterval (a b : Int) (w : World) (h1 : -1000000000000 ≤ a) (h2 : a ≤ b) (h3 : b ≤ 1000000000000) :
    Calls Try.prog 116 #[.agg #[.int .i64 a, .int .i64 b]] w fun e w' => e = .returned (.bool true) ∧ Later w w' := by
  have H1 := Lib.hid (show inR a (-1000000000000) 1000000000000 = true from inR_mk (by omega))
  have H2 := Lib.hid (show inR b (-1000000000000) 1000000000000 = true from inR_mk (by omega))
  go_enter Try.func116, Try.ntmps116
  go_wp2_with fail
  refine (w_isValue _ _).mono ?_
  rintro e w1 ⟨rfl, rfl⟩
  rw [H1.out]
  go_wp2_with fail
  refine (w_isValue _ _).mono ?_
  rintro e w1 ⟨rfl, rfl⟩
  rw [H2.out]
  go_wp2
  go_ret
  exact ⟨rfl, by (repeat (with_reducible first | exact Later.refl _ | refine Later.alloc ?_ _ | refine Later.drew ?_ | refine Later.drewN ?_ _ | refine Later.setCell ?_ (by simp; try omega) _ | refine Later.trans ?_ (by assumption)))⟩

theorem w_valued (a b : Int) (w : World) (h1 : -1000000000000 ≤ a) (h2 : a ≤ b) (h3 : b ≤ 1000000000000) :
    Calls Try.prog 117 #[.agg #[.int .i64 a, .int .i64 b]] w fun e w' => e = .returned (.tuple #[.agg #[.int .i64 a, .int .i64 b], .int .i64 0]) ∧ Later w w' := by
  have H1 := Lib.hid (show inR a (-1000000000000) 1000000000000 = true from inR_mk (by omega))
  have H2 := Lib.hid (show inR b (-1000000000000) 1000000000000 = true from inR_mk (by omega))
  go_enter Try.func117, Try.ntmps117
  go_wp2_with fail
  refine (w_isValue _ _).mono ?_
  rintro e w1 ⟨rfl, rfl⟩
  rw [H1.out]
  go_wp2_with fail
  refine (w_isValue _ _).mono ?_
  rintro e w1 ⟨rfl, rfl⟩
  rw [H2.out]
  go_wp2
  refine bodyPost_ret (v := .tuple #[.agg #[.int .i64 a, .int .i64 b], .int .i64 0]) (by simp [results, Try.results117, go_sem]) rfl ⟨rfl, by (repeat (with_reducible first | exact Later.refl _ | refine Later.alloc ?_ _ | refine Later.drew ?_ | refine Later.drewN ?_ _ | refine Later.setCell ?_ (by simp; try omega) _ | refine Later.trans ?_ (by assumption)))⟩

set_option maxHeartbeats 1000000 in
theorem w_AddLogs (a b a' b' : Int) (w : World) (h1 : -400000000 ≤ a) (h2 : a ≤ b) (h3 : b ≤ 400000000) (h4 : -400000000 ≤ a') (h5 : a' ≤ b') (h6 : b' ≤ 400000000) :
    Calls Try.prog 49 #[.agg #[.int .i64 a, .int .i64 b], .agg #[.int .i64 a', .int .i64 b']] w fun e w' => e = .returned (.tuple #[.agg #[.int .i64 (a + a'), .int .i64 (b + b')], .int .i64 0]) ∧ Later w w' := by
  go_enter Try.func49, Try.ntmps49
  go_wp2_with fail
  refine (w_implIsInterval _ _ _ (by omega) h2 (by omega)).mono ?_
  rintro e w1 ⟨rfl, hL⟩
  obtain ⟨K0, K1, K2⟩ := kept3 hL
  have hLw : Later w w1 := (((Later.refl w).alloc _).alloc _ |>.alloc _).trans hL
  have HK0 := Lib.hid K0
  have HK2 := Lib.hid K2
  obtain ⟨c1, f1, z1⟩ := blk_at K1
  clear K0 K2 hL
  go_wp2_with fail
  refine (w_implIsInterval _ _ _ (by omega) h5 (by omega)).mono ?_
  rintro e w2 ⟨rfl, hL⟩
  have HK0 := Lib.hid (hL.keep HK0.out)
  have HK2 := Lib.hid (hL.keep HK2.out)
  have K1 := hL.keep K1
  have hLw := hLw.trans hL
  clear c1 f1 z1 hL
  obtain ⟨c0, f0, z0⟩ := blk_at HK0.out
  obtain ⟨c1, f1, z1⟩ := blk_at K1
  go_wp2_with fail
  refine (w_sum _ _ _ _ (by omega) (by omega) (by omega) (by omega) (by omega) (by omega) (by omega) (by omega) _).mono ?_
  rintro e w3 ⟨rfl, hL⟩
  have HK2 := Lib.hid (hL.keep HK2.out)
  have hLw := hLw.trans hL
  clear c0 f0 z0 c1 f1 z1 hL
  go_wp2_with fail
  refine (w_valued _ _ _ (by omega) (by omega) (by omega)).mono ?_
  rintro e w4 ⟨rfl, hL⟩
  obtain ⟨c2, f2, z2⟩ := blk_at (hL.keep HK2.out)
  have hLw := hLw.trans hL
  clear hL
  go_wp2
  refine bodyPost_ret (v := .tuple #[.agg #[.int .i64 (a + a'), .int .i64 (b + b')], .int .i64 0]) (by simp [results, Try.results49, go_sem, c2, z2]) rfl ⟨rfl, by (repeat (with_reducible first | exact Later.refl _ | refine Later.alloc ?_ _ | refine Later.drew ?_ | refine Later.drewN ?_ _ | refine Later.setCell ?_ (by simp; try omega) _ | refine Later.trans ?_ (by assumption)))⟩

set_option maxHeartbeats 1000000 in
theorem w_SubtractLogs (a b a' b' : Int) (w : World) (h1 : -400000000 ≤ a) (h2 : a ≤ b) (h3 : b ≤ 400000000) (h4 : -400000000 ≤ a') (h5 : a' ≤ b') (h6 : b' ≤ 400000000) :
    Calls Try.prog 50 #[.agg #[.int .i64 a, .int .i64 b], .agg #[.int .i64 a', .int .i64 b']] w fun e w' => e = .returned (.tuple #[.agg #[.int .i64 (a - b'), .int .i64 (b - a')], .int .i64 0]) ∧ Later w w' := by
  go_enter Try.func50, Try.ntmps50
  go_wp2_with fail
  refine (w_implIsInterval _ _ _ (by omega) h2 (by omega)).mono ?_
  rintro e w1 ⟨rfl, hL⟩
  obtain ⟨K0, K1, K2⟩ := kept3 hL
  have hLw : Later w w1 := (((Later.refl w).alloc _).alloc _ |>.alloc _).trans hL
  have HK0 := Lib.hid K0
  have HK2 := Lib.hid K2
  obtain ⟨c1, f1, z1⟩ := blk_at K1
  clear K0 K2 hL
  go_wp2_with fail
  refine (w_implIsInterval _ _ _ (by omega) h5 (by omega)).mono ?_
  rintro e w2 ⟨rfl, hL⟩
  have HK0 := Lib.hid (hL.keep HK0.out)
  have HK2 := Lib.hid (hL.keep HK2.out)
  have K1 := hL.keep K1
  have hLw := hLw.trans hL
  clear c1 f1 z1 hL
  obtain ⟨c0, f0, z0⟩ := blk_at HK0.out
  obtain ⟨c1, f1, z1⟩ := blk_at K1
  go_wp2_with fail
  refine (w_difference _ _ _ _ (by omega) (by omega) (by omega) (by omega) (by omega) (by omega) (by omega) (by omega) _).mono ?_
  rintro e w3 ⟨rfl, hL⟩
  have HK2 := Lib.hid (hL.keep HK2.out)
  have hLw := hLw.trans hL
  clear c0 f0 z0 c1 f1 z1 hL
  go_wp2_with fail
  refine (w_valued _ _ _ (by omega) (by omega) (by omega)).mono ?_
  rintro e w4 ⟨rfl, hL⟩
  obtain ⟨c2, f2, z2⟩ := blk_at (hL.keep HK2.out)
  have hLw := hLw.trans hL
  clear hL
  go_wp2
  refine bodyPost_ret (v := .tuple #[.agg #[.int .i64 (a - b'), .int .i64 (b - a')], .int .i64 0]) (by simp [results, Try.results50, go_sem, c2, z2]) rfl ⟨rfl, by (repeat (with_reducible first | exact Later.refl _ | refine Later.alloc ?_ _ | refine Later.drew ?_ | refine Later.drewN ?_ _ | refine Later.setCell ?_ (by simp; try omega) _ | refine Later.trans ?_ (by assumption)))⟩

theorem w_implFigureLog (d t : Int) (w : World) (hf : isFig ⟨d, t⟩ = true) :
    Calls Try.prog 31 #[.agg #[.int .i64 d, .int .i64 t]] w fun e w' => e = .returned (.tuple #[.agg #[.int .i64 (figLog ⟨d, t⟩).lo, .int .i64 (figLog ⟨d, t⟩).hi], .int .i64 0]) ∧ Later w w' := by
  have hb := isFig_true hf
  simp only at hb
  obtain ⟨t1, t2, t3, t4⟩ := hb
  have HFI := Lib.hid hf
  clear hf
  go_enter Try.func31, Try.ntmps31
  go_wp2_with fail
  refine (w_implIsFigure _ _ _).mono ?_
  rintro e w1 ⟨rfl, hL⟩
  rw [HFI.out]
  obtain ⟨K0, K1⟩ := kept2 hL
  obtain ⟨c0, f0, z0⟩ := blk_at K0
  have HK1 := Lib.hid K1
  clear K0 K1
  go_wp2_with fail
  refine (w_figureLog _ _ t1 t2 (by omega) (by omega) _).mono ?_
  rintro e w2 ⟨rfl, hL2⟩
  obtain ⟨c1, f1, z1⟩ := blk_at (hL2.keep HK1.out)
  go_wp2
  refine bodyPost_ret (v := .tuple #[.agg #[.int .i64 (figLog ⟨d, t⟩).lo, .int .i64 (figLog ⟨d, t⟩).hi], .int .i64 0]) (by simp [results, Try.results31, go_sem, c1, z1]) rfl ⟨rfl, by (repeat (with_reducible first | exact Later.refl _ | refine Later.alloc ?_ _ | refine Later.drew ?_ | refine Later.drewN ?_ _ | refine Later.setCell ?_ (by simp; try omega) _ | refine Later.trans ?_ (by assumption)))⟩

theorem w_implRelativeError (a b c d : Int) (w : World) (h : isFig ⟨a, b⟩ = true) (h' : isFig ⟨c, d⟩ = true) :
    Calls Try.prog 51 #[.agg #[.int .i64 a, .int .i64 b], .agg #[.int .i64 c, .int .i64 d]] w fun e w' => e = .returned (.tuple #[.int .i64 (relV ⟨a, b⟩ ⟨c, d⟩), .int .i64 (relC ⟨a, b⟩ ⟨c, d⟩)]) ∧ Later w w' := by
  have HH := Lib.hid (show ([⟨a, b⟩, ⟨c, d⟩] : List Fig).all isFig = true from by simp [h, h'])
  have H1 := Lib.hid h
  have H2 := Lib.hid h'
  clear h h'
  go_enter Try.func51, Try.ntmps51
  go_wp2_with fail
  refine (w_areFigures _ [⟨a, b⟩, ⟨c, d⟩] _ (figs_lit _ (heap_alloc_new' _ _ (by simp)) rfl (by simp))).mono ?_
  rintro e w1 ⟨rfl, hL⟩
  rw [HH.out]
  obtain ⟨K0, K1, -⟩ := kept3 hL
  obtain ⟨c0, f0, z0⟩ := blk_at K0
  obtain ⟨c1, f1, z1⟩ := blk_at K1
  clear K0 K1
  go_wp2_with fail
  refine (w_relativeError _ _ _ _ H1.out H2.out _).mono ?_
  rintro e w2 ⟨rfl, hL2⟩
  go_wp2
  go_ret2
  exact ⟨rfl, by (repeat (with_reducible first | exact Later.refl _ | refine Later.alloc ?_ _ | refine Later.drew ?_ | refine Later.drewN ?_ _ | refine Later.setCell ?_ (by simp; try omega) _ | refine Later.trans ?_ (by assumption)))⟩

end Go.Proofs.Ytkoojngonldcbaa
