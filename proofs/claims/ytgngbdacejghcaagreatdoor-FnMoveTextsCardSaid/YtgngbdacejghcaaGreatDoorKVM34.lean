/- DERIVED. Walks: positions and points. -/
import Derived.Test.YtgngbdacejghcaaGreatDoorKVM33
import Derived.Test.YtgngbdacejghcaaGreatDoorKVM30a
namespace Go.Proofs.YtgngbdacejghcaaGreatDoor
set_option linter.unusedVariables false
set_option linter.unusedSimpArgs false
open Go.RowKit
set_option maxRecDepth 100000
theorem w_modulo2 (a : Int) (h1 : -100 ≤ a) (h2 : a ≤ 100) (w : World) :
 Calls Tryz.prog 141 #[.int .i64 a, .int .i64 2] w fun e w' => e = .returned (.int .i64 (a % 2)) ∧ w = w' := by
 have HE := Lib.hid (show a % 2 = a - 2 * (a / 2) by omega)
 go_enter Tryz.func141, Tryz.ntmps141
 go_wp2_with fail
 refine (w_down _ _ (by decide) (by decide) (by omega) (by omega) _).mono ?_
 rintro e w' ⟨rfl, rfl⟩
 go_wp2
 go_ret
 exact ⟨by rw [HE.out]; rfl, rfl⟩
theorem w_modulo3 (a : Int) (h1 : -100 ≤ a) (h2 : a ≤ 100) (w : World) :
 Calls Tryz.prog 141 #[.int .i64 a, .int .i64 3] w fun e w' => e = .returned (.int .i64 (a % 3)) ∧ w = w' := by
 have HE := Lib.hid (show a % 3 = a - 3 * (a / 3) by omega)
 go_enter Tryz.func141, Tryz.ntmps141
 go_wp2_with fail
 refine (w_down _ _ (by decide) (by decide) (by omega) (by omega) _).mono ?_
 rintro e w' ⟨rfl, rfl⟩
 go_wp2
 go_ret
 exact ⟨by rw [HE.out]; rfl, rfl⟩
theorem w_position1 (n X Y : Int) (k : Nat) (w : World) (n1 : -100000000 ≤ n) (n2 : n ≤ 100000000) (x1 : -100000000 ≤ X) (x2 : X ≤ 100000000) (y1 : -100000000 ≤ Y) (y2 : Y ≤ 100000000) (hk : w.heap[k]? = some (.cells #[.int .i64 X, .int .i64 Y] 127 (0, 0))) :
 Calls Tryz.prog 139 #[.int .i64 n, .pointer (some ⟨k, 0, none⟩)] w fun e w' => e = .returned (.agg #[.int .i64 (X + n), .int .i64 (Y + n)]) ∧ Later w w' := by
 obtain ⟨c0, f0, z0⟩ := blk_at hk
 clear hk
 go_enter Tryz.func139, Tryz.ntmps139
 go_wp2
 refine bodyPost_ret (v := .agg #[.int .i64 (X + n), .int .i64 (Y + n)]) (by simp [results, Tryz.results139, go_sem]) rfl ⟨rfl, qla⟩
set_option maxHeartbeats 1000000 in
theorem w_implPosition0 (d t : Int) (h1 : 1000 ≤ d) (h2 : d ≤ 9999) (h3 : -100 ≤ t) (h4 : t ≤ 100) (w : World) :
 Calls Tryz.prog 97 #[.int .i64 0, .agg #[.int .i64 d, .int .i64 t]] w fun e w' => e = .returned (.agg #[.int .i64 (posI 0 ⟨d, t⟩).lo, .int .i64 (posI 0 ⟨d, t⟩).hi]) ∧ Later w w' := by
 have hb := lg_bd h1 h2
 obtain ⟨X, hX⟩ : ∃ X, (lg d).lo = X := ⟨_, rfl⟩
 obtain ⟨Y, hY⟩ : ∃ Y, (lg d).hi = Y := ⟨_, rfl⟩
 rw [hX, hY] at hb
 obtain ⟨x1, x2, y1, y2⟩ := hb
 have HPI := Lib.hid (show posI 0 ⟨d, t⟩ = ⟨X, Y⟩ from by rw [← hX, ← hY]; rfl)
 have HX := Lib.hid (show (figLog ⟨d, 0⟩).lo = X from by rw [← hX]; simp [figLog, lg])
 have HY := Lib.hid (show (figLog ⟨d, 0⟩).hi = Y from by rw [← hY]; simp [figLog, lg])
 clear hX hY
 go_enter Tryz.func97, Tryz.ntmps97
 go_wp2_with fail
 refine (w_figureLog _ _ h1 h2 (by omega) (by omega) _).mono ?_
 rintro e w1 ⟨rfl, hL⟩
 rw [HX.out, HY.out]
 obtain ⟨K0, K1⟩ := kept2 hL
 obtain ⟨c1, f1, z1⟩ := blk_at K1
 go_wp2
 refine bodyPost_ret (v := .agg #[.int .i64 X, .int .i64 Y]) (by simp [results, Tryz.results97, go_sem, c1, z1]) rfl ⟨by rw [HPI.out], qla⟩
set_option maxHeartbeats 1000000 in
theorem w_specPosition0 (d t : Int) (h1 : 1000 ≤ d) (h2 : d ≤ 9999) (h3 : -100 ≤ t) (h4 : t ≤ 100) (w : World) :
 Calls Tryz.prog 143 #[.int .i64 0, .agg #[.int .i64 d, .int .i64 t]] w fun e w' => e = .returned (.agg #[.int .i64 (posI 0 ⟨d, t⟩).lo, .int .i64 (posI 0 ⟨d, t⟩).hi]) ∧ Later w w' := by
 have hb := lg_bd h1 h2
 obtain ⟨X, hX⟩ : ∃ X, (lg d).lo = X := ⟨_, rfl⟩
 obtain ⟨Y, hY⟩ : ∃ Y, (lg d).hi = Y := ⟨_, rfl⟩
 rw [hX, hY] at hb
 obtain ⟨x1, x2, y1, y2⟩ := hb
 have HPI := Lib.hid (show posI 0 ⟨d, t⟩ = ⟨X, Y⟩ from by rw [← hX, ← hY]; rfl)
 have HX := Lib.hid (show (logOf (d * 100000)).lo = X from hX)
 have HY := Lib.hid (show (logOf (d * 100000)).hi = Y from hY)
 have u1 : 100000000 ≤ d * 100000 := by omega
 have u2 : d * 100000 ≤ 999999999 := by omega
 clear hX hY
 go_enter Tryz.func143, Tryz.ntmps143
 go_wp2_with fail
 refine (w_l03Log _ u1 u2 _).mono ?_
 rintro e w1 ⟨rfl, hL⟩
 rw [HX.out, HY.out]
 obtain ⟨K0, K1⟩ := kept2 hL
 obtain ⟨c1, f1, z1⟩ := blk_at K1
 go_wp2
 refine bodyPost_ret (v := .agg #[.int .i64 X, .int .i64 Y]) (by simp [results, Tryz.results143, go_sem, c1, z1]) rfl ⟨by rw [HPI.out], qla⟩
set_option maxHeartbeats 1000000 in
theorem w_implPosition1 (d t : Int) (h1 : 1000 ≤ d) (h2 : d ≤ 9999) (h3 : -100 ≤ t) (h4 : t ≤ 100) (w : World) :
 Calls Tryz.prog 97 #[.int .i64 1, .agg #[.int .i64 d, .int .i64 t]] w fun e w' => e = .returned (.agg #[.int .i64 (posI 1 ⟨d, t⟩).lo, .int .i64 (posI 1 ⟨d, t⟩).hi]) ∧ Later w w' := by
 have hb := lg_bd h1 h2
 obtain ⟨X, hX⟩ : ∃ X, (lg d).lo = X := ⟨_, rfl⟩
 obtain ⟨Y, hY⟩ : ∃ Y, (lg d).hi = Y := ⟨_, rfl⟩
 rw [hX, hY] at hb
 obtain ⟨x1, x2, y1, y2⟩ := hb
 have HPI := Lib.hid (show posI 1 ⟨d, t⟩ = scaleI ⟨X + 1048576 * (t % 2), Y + 1048576 * (t % 2)⟩ 1 2 from by rw [← hX, ← hY]; rfl)
 obtain ⟨q, hq⟩ : ∃ q, t % 2 = q := ⟨_, rfl⟩
 have q1 : 0 ≤ q := by omega
 have q2 : q ≤ 2 := by omega
 rw [hq] at HPI
 have HQ := Lib.hid hq
 have HX := Lib.hid (show (figLog ⟨d, 0⟩).lo = X from by rw [← hX]; simp [figLog, lg])
 have HY := Lib.hid (show (figLog ⟨d, 0⟩).hi = Y from by rw [← hY]; simp [figLog, lg])
 clear hX hY
 clear hq
 go_enter Tryz.func97, Tryz.ntmps97
 go_wp2_with fail
 refine (w_figureLog _ _ h1 h2 (by omega) (by omega) _).mono ?_
 rintro e w1 ⟨rfl, hL⟩
 rw [HX.out, HY.out]
 obtain ⟨K0, K1⟩ := kept2 hL
 obtain ⟨c0, f0, z0⟩ := blk_at K0
 have HK1 := Lib.hid K1
 clear K0 K1
 go_wp2_with fail
 refine (w_modulo2 _ h3 h4 _).mono ?_
 rintro e w2 ⟨rfl, rfl⟩
 rw [HQ.out]
 go_wp2_with fail
 refine (w_position1 _ _ _ _ _ (by omega) (by omega) (by omega) (by omega) (by omega) (by omega) (heap_alloc_new _ _)).mono ?_
 rintro e w2 ⟨rfl, hL2⟩
 go_wp2_with fail
 refine (w_scaled _ _ _ _ (by omega) (by omega) (by omega) (by omega) (by omega) (by omega) (by omega) (by omega) _).mono ?_
 rintro e w3 ⟨rfl, hL3⟩
 have hk := (hL2.trans hL3).keep (heap_alloc_old _ _ HK1.out)
 obtain ⟨c1, f1, z1⟩ := blk_at hk
 clear c0 f0 z0
 go_wp2
 refine bodyPost_ret (v := .agg #[.int .i64 (scaleI ⟨X + 1048576 * q, Y + 1048576 * q⟩ 1 2).lo, .int .i64 (scaleI ⟨X + 1048576 * q, Y + 1048576 * q⟩ 1 2).hi]) (by simp [results, Tryz.results97, go_sem, c1, z1]) rfl ⟨by rw [HPI.out], qla⟩
set_option maxHeartbeats 1000000 in
theorem w_specPosition1 (d t : Int) (h1 : 1000 ≤ d) (h2 : d ≤ 9999) (h3 : -100 ≤ t) (h4 : t ≤ 100) (w : World) :
 Calls Tryz.prog 143 #[.int .i64 1, .agg #[.int .i64 d, .int .i64 t]] w fun e w' => e = .returned (.agg #[.int .i64 (posI 1 ⟨d, t⟩).lo, .int .i64 (posI 1 ⟨d, t⟩).hi]) ∧ Later w w' := by
 have hb := lg_bd h1 h2
 obtain ⟨X, hX⟩ : ∃ X, (lg d).lo = X := ⟨_, rfl⟩
 obtain ⟨Y, hY⟩ : ∃ Y, (lg d).hi = Y := ⟨_, rfl⟩
 rw [hX, hY] at hb
 obtain ⟨x1, x2, y1, y2⟩ := hb
 have HPI := Lib.hid (show posI 1 ⟨d, t⟩ = scaleI ⟨X + 1048576 * (t % 2), Y + 1048576 * (t % 2)⟩ 1 2 from by rw [← hX, ← hY]; rfl)
 obtain ⟨q, hq⟩ : ∃ q, t % 2 = q := ⟨_, rfl⟩
 have q1 : 0 ≤ q := by omega
 have q2 : q ≤ 2 := by omega
 rw [hq] at HPI
 have HQ := Lib.hid hq
 have HX := Lib.hid (show (logOf (d * 100000)).lo = X from hX)
 have HY := Lib.hid (show (logOf (d * 100000)).hi = Y from hY)
 have u1 : 100000000 ≤ d * 100000 := by omega
 have u2 : d * 100000 ≤ 999999999 := by omega
 clear hX hY
 clear hq
 go_enter Tryz.func143, Tryz.ntmps143
 go_wp2_with fail
 refine (w_l03Log _ u1 u2 _).mono ?_
 rintro e w1 ⟨rfl, hL⟩
 rw [HX.out, HY.out]
 obtain ⟨K0, K1⟩ := kept2 hL
 obtain ⟨c0, f0, z0⟩ := blk_at K0
 have HK1 := Lib.hid K1
 clear K0 K1
 go_wp2_with fail
 refine (w_l01Mod _ _ (by decide) (by decide) (by omega) (by omega) _).mono ?_
 rintro e w2 ⟨rfl, rfl⟩
 rw [HQ.out]
 go_wp2_with fail
 refine (w_l03Scale _ _ _ _ (by omega) (by omega) (by omega) (by omega) (by omega) (by omega) (by omega) (by omega) _).mono ?_
 rintro e w3 ⟨rfl, hL3⟩
 have hk := hL3.keep (heap_alloc_old _ _ HK1.out)
 obtain ⟨c1, f1, z1⟩ := blk_at hk
 clear c0 f0 z0
 go_wp2
 refine bodyPost_ret (v := .agg #[.int .i64 (scaleI ⟨X + 1048576 * q, Y + 1048576 * q⟩ 1 2).lo, .int .i64 (scaleI ⟨X + 1048576 * q, Y + 1048576 * q⟩ 1 2).hi]) (by simp [results, Tryz.results143, go_sem, c1, z1]) rfl ⟨by rw [HPI.out], qla⟩
set_option maxHeartbeats 1000000 in
theorem w_implPosition2 (d t : Int) (h1 : 1000 ≤ d) (h2 : d ≤ 9999) (h3 : -100 ≤ t) (h4 : t ≤ 100) (w : World) :
 Calls Tryz.prog 97 #[.int .i64 2, .agg #[.int .i64 d, .int .i64 t]] w fun e w' => e = .returned (.agg #[.int .i64 (posI 2 ⟨d, t⟩).lo, .int .i64 (posI 2 ⟨d, t⟩).hi]) ∧ Later w w' := by
 have hb := lg_bd h1 h2
 obtain ⟨X, hX⟩ : ∃ X, (lg d).lo = X := ⟨_, rfl⟩
 obtain ⟨Y, hY⟩ : ∃ Y, (lg d).hi = Y := ⟨_, rfl⟩
 rw [hX, hY] at hb
 obtain ⟨x1, x2, y1, y2⟩ := hb
 have HPI := Lib.hid (show posI 2 ⟨d, t⟩ = scaleI ⟨X + 1048576 * (t % 3), Y + 1048576 * (t % 3)⟩ 1 3 from by rw [← hX, ← hY]; rfl)
 obtain ⟨q, hq⟩ : ∃ q, t % 3 = q := ⟨_, rfl⟩
 have q1 : 0 ≤ q := by omega
 have q2 : q ≤ 2 := by omega
 rw [hq] at HPI
 have HQ := Lib.hid hq
 have HX := Lib.hid (show (figLog ⟨d, 0⟩).lo = X from by rw [← hX]; simp [figLog, lg])
 have HY := Lib.hid (show (figLog ⟨d, 0⟩).hi = Y from by rw [← hY]; simp [figLog, lg])
 clear hX hY
 clear hq
 go_enter Tryz.func97, Tryz.ntmps97
 go_wp2_with fail
 refine (w_figureLog _ _ h1 h2 (by omega) (by omega) _).mono ?_
 rintro e w1 ⟨rfl, hL⟩
 rw [HX.out, HY.out]
 obtain ⟨K0, K1⟩ := kept2 hL
 obtain ⟨c0, f0, z0⟩ := blk_at K0
 have HK1 := Lib.hid K1
 clear K0 K1
 go_wp2_with fail
 refine (w_modulo3 _ h3 h4 _).mono ?_
 rintro e w2 ⟨rfl, rfl⟩
 rw [HQ.out]
 go_wp2_with fail
 refine (w_position1 _ _ _ _ _ (by omega) (by omega) (by omega) (by omega) (by omega) (by omega) (heap_alloc_new _ _)).mono ?_
 rintro e w2 ⟨rfl, hL2⟩
 go_wp2_with fail
 refine (w_scaled _ _ _ _ (by omega) (by omega) (by omega) (by omega) (by omega) (by omega) (by omega) (by omega) _).mono ?_
 rintro e w3 ⟨rfl, hL3⟩
 have hk := (hL2.trans hL3).keep (heap_alloc_old _ _ HK1.out)
 obtain ⟨c1, f1, z1⟩ := blk_at hk
 clear c0 f0 z0
 go_wp2
 refine bodyPost_ret (v := .agg #[.int .i64 (scaleI ⟨X + 1048576 * q, Y + 1048576 * q⟩ 1 3).lo, .int .i64 (scaleI ⟨X + 1048576 * q, Y + 1048576 * q⟩ 1 3).hi]) (by simp [results, Tryz.results97, go_sem, c1, z1]) rfl ⟨by rw [HPI.out], qla⟩
set_option maxHeartbeats 1000000 in
theorem w_specPosition2 (d t : Int) (h1 : 1000 ≤ d) (h2 : d ≤ 9999) (h3 : -100 ≤ t) (h4 : t ≤ 100) (w : World) :
 Calls Tryz.prog 143 #[.int .i64 2, .agg #[.int .i64 d, .int .i64 t]] w fun e w' => e = .returned (.agg #[.int .i64 (posI 2 ⟨d, t⟩).lo, .int .i64 (posI 2 ⟨d, t⟩).hi]) ∧ Later w w' := by
 have hb := lg_bd h1 h2
 obtain ⟨X, hX⟩ : ∃ X, (lg d).lo = X := ⟨_, rfl⟩
 obtain ⟨Y, hY⟩ : ∃ Y, (lg d).hi = Y := ⟨_, rfl⟩
 rw [hX, hY] at hb
 obtain ⟨x1, x2, y1, y2⟩ := hb
 have HPI := Lib.hid (show posI 2 ⟨d, t⟩ = scaleI ⟨X + 1048576 * (t % 3), Y + 1048576 * (t % 3)⟩ 1 3 from by rw [← hX, ← hY]; rfl)
 obtain ⟨q, hq⟩ : ∃ q, t % 3 = q := ⟨_, rfl⟩
 have q1 : 0 ≤ q := by omega
 have q2 : q ≤ 2 := by omega
 rw [hq] at HPI
 have HQ := Lib.hid hq
 have HX := Lib.hid (show (logOf (d * 100000)).lo = X from hX)
 have HY := Lib.hid (show (logOf (d * 100000)).hi = Y from hY)
 have u1 : 100000000 ≤ d * 100000 := by omega
 have u2 : d * 100000 ≤ 999999999 := by omega
 clear hX hY
 clear hq
 go_enter Tryz.func143, Tryz.ntmps143
 go_wp2_with fail
 refine (w_l03Log _ u1 u2 _).mono ?_
 rintro e w1 ⟨rfl, hL⟩
 rw [HX.out, HY.out]
 obtain ⟨K0, K1⟩ := kept2 hL
 obtain ⟨c0, f0, z0⟩ := blk_at K0
 have HK1 := Lib.hid K1
 clear K0 K1
 go_wp2_with fail
 refine (w_l01Mod _ _ (by decide) (by decide) (by omega) (by omega) _).mono ?_
 rintro e w2 ⟨rfl, rfl⟩
 rw [HQ.out]
 go_wp2_with fail
 refine (w_l03Scale _ _ _ _ (by omega) (by omega) (by omega) (by omega) (by omega) (by omega) (by omega) (by omega) _).mono ?_
 rintro e w3 ⟨rfl, hL3⟩
 have hk := hL3.keep (heap_alloc_old _ _ HK1.out)
 obtain ⟨c1, f1, z1⟩ := blk_at hk
 clear c0 f0 z0
 go_wp2
 refine bodyPost_ret (v := .agg #[.int .i64 (scaleI ⟨X + 1048576 * q, Y + 1048576 * q⟩ 1 3).lo, .int .i64 (scaleI ⟨X + 1048576 * q, Y + 1048576 * q⟩ 1 3).hi]) (by simp [results, Tryz.results143, go_sem, c1, z1]) rfl ⟨by rw [HPI.out], qla⟩
set_option maxHeartbeats 1000000 in
theorem w_implPosition3 (d t : Int) (h1 : 1000 ≤ d) (h2 : d ≤ 9999) (h3 : -100 ≤ t) (h4 : t ≤ 100) (w : World) :
 Calls Tryz.prog 97 #[.int .i64 3, .agg #[.int .i64 d, .int .i64 t]] w fun e w' => e = .returned (.agg #[.int .i64 (posI 3 ⟨d, t⟩).lo, .int .i64 (posI 3 ⟨d, t⟩).hi]) ∧ Later w w' := by
 have hb := lg_bd h1 h2
 obtain ⟨X, hX⟩ : ∃ X, (lg d).lo = X := ⟨_, rfl⟩
 obtain ⟨Y, hY⟩ : ∃ Y, (lg d).hi = Y := ⟨_, rfl⟩
 rw [hX, hY] at hb
 obtain ⟨x1, x2, y1, y2⟩ := hb
 have HPI := Lib.hid (show posI 3 ⟨d, t⟩ = ⟨1048576 - Y, 1048576 - X⟩ from by rw [← hX, ← hY]; rfl)
 have HX := Lib.hid (show (figLog ⟨d, 0⟩).lo = X from by rw [← hX]; simp [figLog, lg])
 have HY := Lib.hid (show (figLog ⟨d, 0⟩).hi = Y from by rw [← hY]; simp [figLog, lg])
 clear hX hY
 go_enter Tryz.func97, Tryz.ntmps97
 go_wp2_with fail
 refine (w_figureLog _ _ h1 h2 (by omega) (by omega) _).mono ?_
 rintro e w1 ⟨rfl, hL⟩
 rw [HX.out, HY.out]
 obtain ⟨K0, K1⟩ := kept2 hL
 have HK1 := Lib.hid K1
 clear K0 K1
 go_wp2_with fail
 refine (w_difference _ _ _ _ (by omega) (by omega) (by omega) (by omega) (by omega) (by omega) (by omega) (by omega) _).mono ?_
 rintro e w3 ⟨rfl, hL3⟩
 have hk := hL3.keep (heap_alloc_old _ _ HK1.out)
 obtain ⟨c1, f1, z1⟩ := blk_at hk
 go_wp2
 refine bodyPost_ret (v := .agg #[.int .i64 (1048576 - Y), .int .i64 (1048576 - X)]) (by simp [results, Tryz.results97, go_sem, c1, z1]) rfl ⟨by rw [HPI.out], qla⟩
set_option maxHeartbeats 1000000 in
theorem w_specPosition3 (d t : Int) (h1 : 1000 ≤ d) (h2 : d ≤ 9999) (h3 : -100 ≤ t) (h4 : t ≤ 100) (w : World) :
 Calls Tryz.prog 143 #[.int .i64 3, .agg #[.int .i64 d, .int .i64 t]] w fun e w' => e = .returned (.agg #[.int .i64 (posI 3 ⟨d, t⟩).lo, .int .i64 (posI 3 ⟨d, t⟩).hi]) ∧ Later w w' := by
 have hb := lg_bd h1 h2
 obtain ⟨X, hX⟩ : ∃ X, (lg d).lo = X := ⟨_, rfl⟩
 obtain ⟨Y, hY⟩ : ∃ Y, (lg d).hi = Y := ⟨_, rfl⟩
 rw [hX, hY] at hb
 obtain ⟨x1, x2, y1, y2⟩ := hb
 have HPI := Lib.hid (show posI 3 ⟨d, t⟩ = ⟨1048576 - Y, 1048576 - X⟩ from by rw [← hX, ← hY]; rfl)
 have HX := Lib.hid (show (logOf (d * 100000)).lo = X from hX)
 have HY := Lib.hid (show (logOf (d * 100000)).hi = Y from hY)
 have u1 : 100000000 ≤ d * 100000 := by omega
 have u2 : d * 100000 ≤ 999999999 := by omega
 clear hX hY
 go_enter Tryz.func143, Tryz.ntmps143
 go_wp2_with fail
 refine (w_l03Log _ u1 u2 _).mono ?_
 rintro e w1 ⟨rfl, hL⟩
 rw [HX.out, HY.out]
 obtain ⟨K0, K1⟩ := kept2 hL
 obtain ⟨c1, f1, z1⟩ := blk_at K1
 go_wp2
 refine bodyPost_ret (v := .agg #[.int .i64 (1048576 - Y), .int .i64 (1048576 - X)]) (by simp [results, Tryz.results143, go_sem, c1, z1]) rfl ⟨by rw [HPI.out], qla⟩
set_option maxHeartbeats 1000000 in
theorem w_implPosition4 (d t : Int) (h1 : 1000 ≤ d) (h2 : d ≤ 9999) (h3 : -100 ≤ t) (h4 : t ≤ 100) (w : World) :
 Calls Tryz.prog 97 #[.int .i64 4, .agg #[.int .i64 d, .int .i64 t]] w fun e w' => e = .returned (.agg #[.int .i64 (posI 4 ⟨d, t⟩).lo, .int .i64 (posI 4 ⟨d, t⟩).hi]) ∧ Later w w' := by
 have hb := lg_bd h1 h2
 obtain ⟨X, hX⟩ : ∃ X, (lg d).lo = X := ⟨_, rfl⟩
 obtain ⟨Y, hY⟩ : ∃ Y, (lg d).hi = Y := ⟨_, rfl⟩
 rw [hX, hY] at hb
 obtain ⟨x1, x2, y1, y2⟩ := hb
 have hp := lg_bd (d := 3142) (by omega) (by omega)
 obtain ⟨P, hP⟩ : ∃ P, (lg 3142).lo = P := ⟨_, rfl⟩
 obtain ⟨Q, hQ⟩ : ∃ Q, (lg 3142).hi = Q := ⟨_, rfl⟩
 rw [hP, hQ] at hp
 obtain ⟨p1, p2, p3, p4⟩ := hp
 have HPI := Lib.hid (show posI 4 ⟨d, t⟩ = if X - Q < 0 then ⟨X - Q + 1048576, Y - P + 1048576⟩ else ⟨X - Q, Y - P⟩ from by rw [← hX, ← hY, ← hP, ← hQ]; rfl)
 have HP := Lib.hid (show (figLog ⟨3142, 0⟩).lo = P from by rw [← hP]; simp [figLog, lg])
 have HQ := Lib.hid (show (figLog ⟨3142, 0⟩).hi = Q from by rw [← hQ]; simp [figLog, lg])
 clear hP hQ
 have HX := Lib.hid (show (figLog ⟨d, 0⟩).lo = X from by rw [← hX]; simp [figLog, lg])
 have HY := Lib.hid (show (figLog ⟨d, 0⟩).hi = Y from by rw [← hY]; simp [figLog, lg])
 clear hX hY
 go_enter Tryz.func97, Tryz.ntmps97
 go_wp2_with fail
 refine (w_figureLog _ _ h1 h2 (by omega) (by omega) _).mono ?_
 rintro e w1 ⟨rfl, hL⟩
 rw [HX.out, HY.out]
 go_wp2_with fail
 obtain ⟨u, hu⟩ : ∃ u : World, u = w1.alloc (.cells #[.int .i64 X, .int .i64 Y] 127) := ⟨_, rfl⟩
 have hLu : Later w1 u := by rw [hu]; exact (Later.refl _).alloc _
 have K5 : u.heap[w1.heap.size]? = some (.cells #[.int .i64 X, .int .i64 Y] 127 (0, 0)) := by rw [hu]; exact heap_alloc_new _ _
 have K1 := hLu.keep (kept2 hL).2
 have hlt : w.heap.size + 1 + 1 ≤ w1.heap.size := by have := hL.size; simp at this; omega
 have hlt3 : w1.heap.size < u.heap.size := by rw [hu]; simp
 have hL0 := ((((Later.refl w).alloc (.cells #[.int .i64 d, .int .i64 t] 30)).alloc (.cells #[.int .i64 0, .int .i64 0] 127)).trans hL).trans hLu
 have hSB := hL0.size
 have hRB : w.heap.size ≤ w1.heap.size := by omega
 have hne : ¬ w.heap.size + 1 = w1.heap.size := by omega
 have hne2 : ¬ w1.heap.size = w.heap.size + 1 := by omega
 have Kr := K5
 rw [← hu]
 clear hu hL hLu
 clear K5
 refine region_slots 60 [50, 51, 52, 53] (fun g ac wc => sl ac 6 = .pointer (some ⟨w1.heap.size, 0, none⟩) ∧
  (g 0 = true → sl ac 50 = .agg #[.int .i64 X, .int .i64 Y]) ∧
  (g 1 = true → sl ac 51 = .agg #[.int .i64 3142, .int .i64 0]) ∧
  (g 2 = true → sl ac 52 = .agg #[.int .i64 P, .int .i64 Q]) ∧
  (g 3 = true → sl ac 53 = .agg #[.int .i64 (X - Q), .int .i64 (Y - P)]) ∧
  Later w wc ∧
  u.heap.size ≤ wc.heap.size ∧
  wc.heap[w.heap.size + 1]? = some (.cells #[.int .i64 0, .int .i64 0] 127 (0, 0)) ∧
  (g 4 = true → g 0 = true) ∧
  (∃ r0 r1, wc.heap[w1.heap.size]? = some (.cells #[r0, r1] 127 (0, 0)) ∧ (g 4 = true → r0 = .int .i64 (X - Q) ∧ r1 = .int .i64 (Y - P)) ∧ (g 4 = false → r0 = .int .i64 X ∧ r1 = .int .i64 Y))) (by kernel_rfl) (by kernel_rfl) rfl (by kernel_rfl) ?_ ?_ ?_
 · exact ⟨rfl, nofun, nofun, nofun, nofun, hL0.drew, Nat.le_refl _, K1, nofun, ⟨_, _, Kr, nofun, fun _ => ⟨rfl, rfl⟩⟩⟩
 · intro g ac wc hg ha hI
   obtain ⟨x6, i0, i1, i2, i3, hL, hS, B1, -, Rr⟩ := hI
   have a0 := i0 (hg 0 (by simp))
   have a1 := i1 (hg 1 (by simp))
   have a2 := i2 (hg 2 (by simp))
   have a3 := i3 (hg 3 (by simp))
   obtain ⟨r0, r1, Kr, gr⟩ := Rr
   have gr := gr.1 (hg 4 (by simp))
   rw [gr.1, gr.2] at Kr
   clear gr
   simp only [putAll, a0, a1, a2, a3] at ha
   simp only [Act.put, List.setIfInBounds_toArray, List.set_cons_succ, List.set_cons_zero] at ha
   rw [ha]
   clear x6 i0 i1 i2 i3 a0 a1 a2 a3 hg ha
   have HKR := Lib.hid Kr
   have hB1 := Lib.hid B1
   have ltr := (Array.getElem?_eq_some_iff.1 Kr).1
   have lt1 := (Array.getElem?_eq_some_iff.1 B1).1
   have ca := (blk_at Kr).1
   have fa := (blk_at Kr).2.1
   have cr := (blk_at B1).1
   have fr := (blk_at B1).2.1
   clear Kr B1
   by_cases hq : X - Q < 0
   · have HF := Lib.hid (show posI 4 ⟨d, t⟩ = ⟨X - Q + 1048576, Y - P + 1048576⟩ from by rw [HPI.out]; exact if_pos hq)
     go_wp2_with fail
     refine (w_position1 _ _ _ _ _ (by omega) (by omega) (by omega) (by omega) (by omega) (by omega) HKR.out).mono ?_
     rintro e w3 ⟨rfl, hL3⟩
     clear ca fa cr fr
     have ca := (blk_at (hL3.keep HKR.out)).1
     have fa := (blk_at (hL3.keep HKR.out)).2.1
     have za := (blk_at (hL3.keep HKR.out)).2.2
     have cr := (blk_at (hL3.keep hB1.out)).1
     have fr := (blk_at (hL3.keep hB1.out)).2.1
     have zr := (blk_at (hL3.keep hB1.out)).2.2
     go_wp2
     refine bodyPost_ret (v := .agg #[.int .i64 (X - Q + 1048576), .int .i64 (Y - P + 1048576)]) (by simp [results, Tryz.results97, go_sem, cr, zr, hne, hne2]) rfl ⟨by rw [HF.out], qla⟩
   · have HF := Lib.hid (show posI 4 ⟨d, t⟩ = ⟨X - Q, Y - P⟩ from by rw [HPI.out]; exact if_neg hq)
     go_wp2
     refine bodyPost_ret (v := .agg #[.int .i64 (X - Q), .int .i64 (Y - P)]) (by simp [results, Tryz.results97, go_sem, cr, lt1, hne, hne2]) rfl ⟨by rw [HF.out], qla⟩
 · refine .cons ?_ (.cons ?_ (.cons ?_ (.cons ?_ (.cons ?_ .nil))))
   · refine qst fun g ac wc hn hk hr HI K' hK => ?_
     obtain ⟨x6, -, -, -, -, hL, hS, B1, l4_0, Rr⟩ := HI.out
     simp [Region.binds] at hr
     have hst : g 4 = false := by
      cases hq : g 4 with
      | false => rfl
      | true =>
       have := l4_0 hq
       rw [hk] at this
       cases this
     have RR := Rr
     obtain ⟨r0, r1, R1, -, R3⟩ := RR
     have R3 := R3 hst
     rw [R3.1, R3.2] at R1
     obtain ⟨cR, fR, zR⟩ := blk_at R1
     clear R1 R3
     go_simp
     obtain ⟨-, i0, i1, i2, i3, -⟩ := HI.out
     exact hK.out _ _ ⟨qB x6, qP, qF i1, qF i2, qF i3, hL, hS, B1, (fun _ => rfl), Rr⟩
   · refine qst fun g ac wc hn hk hr HI K' hK => ?_
     obtain ⟨x6, -, -, -, -, hL, hS, B1, l4_0, Rr⟩ := HI.out
     simp [Region.binds] at hr
     go_simp
     obtain ⟨-, i0, i1, i2, i3, -⟩ := HI.out
     exact hK.out _ _ ⟨qB x6, qF i0, qP, qF i2, qF i3, hL, hS, B1, l4_0, Rr⟩
   · refine qst fun g ac wc hn hk hr HI K' hK => ?_
     obtain ⟨x6, -, i1, -, -, hL, hS, B1, l4_0, Rr⟩ := HI.out
     simp [Region.binds] at hr
     have y1 := i1 (by simp [hr])
     clear i1
     go_simp
     refine (w_figureLog _ _ (by omega) (by omega) (by omega) (by omega) _).mono ?_
     rintro e w4 ⟨rfl, hL4⟩
     rw [HP.out, HQ.out]
     obtain ⟨-, i0, i1, i2, i3, -⟩ := HI.out
     exact hK.out _ _ ⟨qB x6, qF i0, qF i1, qP, qF i3, hL.trans hL4, Nat.le_trans hS hL4.size, hL4.keep B1, l4_0, (by obtain ⟨r0, r1, R1, R2⟩ := Rr; exact ⟨r0, r1, hL4.keep R1, R2⟩)⟩
   · refine qst fun g ac wc hn hk hr HI K' hK => ?_
     obtain ⟨x6, i0, -, i2, -, hL, hS, B1, l4_0, Rr⟩ := HI.out
     simp [Region.binds] at hr
     have y0 := i0 (by simp [hr])
     have y2 := i2 (by simp [hr])
     clear i0 i2
     go_simp
     refine (w_difference _ _ _ _ (by omega) (by omega) (by omega) (by omega) (by omega) (by omega) (by omega) (by omega) _).mono ?_
     rintro e w4 ⟨rfl, hL4⟩
     obtain ⟨-, i0, i1, i2, i3, -⟩ := HI.out
     exact hK.out _ _ ⟨qB x6, qF i0, qF i1, qF i2, qP, hL.trans hL4, Nat.le_trans hS hL4.size, hL4.keep B1, l4_0, (by obtain ⟨r0, r1, R1, R2⟩ := Rr; exact ⟨r0, r1, hL4.keep R1, R2⟩)⟩
   · refine qst fun g ac wc hn hk hr HI K' hK => ?_
     obtain ⟨x6, -, -, -, i3, hL, hS, B1, l4_0, Rr⟩ := HI.out
     simp [Region.binds] at hr
     have y3 := i3 (by simp [hr])
     clear i3
     obtain ⟨r0, r1, R1, -, R3⟩ := Rr
     have R3 := R3 hk
     rw [R3.1, R3.2] at R1
     obtain ⟨c0, f0, z0⟩ := blk_at R1
     go_simp
     obtain ⟨-, i0, i1, i2, i3, -⟩ := HI.out
     exact hK.out undef _ ⟨x6, i0, i1, i2, i3, ((hL.setCell hRB _).setCell hRB _), (by simp; omega), (other_set (other_set B1 (by omega) _) (by omega) _), (fun _ => by simp [hr]), ⟨_, _, two_set R1 _ _, fun _ => ⟨rfl, rfl⟩, fun h => absurd h (by simp)⟩⟩
set_option maxHeartbeats 1000000 in
theorem w_specPosition4 (d t : Int) (h1 : 1000 ≤ d) (h2 : d ≤ 9999) (h3 : -100 ≤ t) (h4 : t ≤ 100) (w : World) :
 Calls Tryz.prog 143 #[.int .i64 4, .agg #[.int .i64 d, .int .i64 t]] w fun e w' => e = .returned (.agg #[.int .i64 (posI 4 ⟨d, t⟩).lo, .int .i64 (posI 4 ⟨d, t⟩).hi]) ∧ Later w w' := by
 have hb := lg_bd h1 h2
 obtain ⟨X, hX⟩ : ∃ X, (lg d).lo = X := ⟨_, rfl⟩
 obtain ⟨Y, hY⟩ : ∃ Y, (lg d).hi = Y := ⟨_, rfl⟩
 rw [hX, hY] at hb
 obtain ⟨x1, x2, y1, y2⟩ := hb
 have hp := lg_bd (d := 3142) (by omega) (by omega)
 obtain ⟨P, hP⟩ : ∃ P, (lg 3142).lo = P := ⟨_, rfl⟩
 obtain ⟨Q, hQ⟩ : ∃ Q, (lg 3142).hi = Q := ⟨_, rfl⟩
 rw [hP, hQ] at hp
 obtain ⟨p1, p2, p3, p4⟩ := hp
 have HPI := Lib.hid (show posI 4 ⟨d, t⟩ = if X - Q < 0 then ⟨X - Q + 1048576, Y - P + 1048576⟩ else ⟨X - Q, Y - P⟩ from by rw [← hX, ← hY, ← hP, ← hQ]; rfl)
 have HP := Lib.hid (show (logOf 314200000).lo = P from hP)
 have HQ := Lib.hid (show (logOf 314200000).hi = Q from hQ)
 clear hP hQ
 have HX := Lib.hid (show (logOf (d * 100000)).lo = X from hX)
 have HY := Lib.hid (show (logOf (d * 100000)).hi = Y from hY)
 have u1 : 100000000 ≤ d * 100000 := by omega
 have u2 : d * 100000 ≤ 999999999 := by omega
 clear hX hY
 go_enter Tryz.func143, Tryz.ntmps143
 go_wp2_with fail
 refine (w_l03Log _ u1 u2 _).mono ?_
 rintro e w1 ⟨rfl, hL⟩
 rw [HX.out, HY.out]
 go_wp2_with fail
 obtain ⟨u, hu⟩ : ∃ u : World, u = w1.alloc (.cells #[.int .i64 X, .int .i64 Y] 127) := ⟨_, rfl⟩
 have hLu : Later w1 u := by rw [hu]; exact (Later.refl _).alloc _
 have K5 : u.heap[w1.heap.size]? = some (.cells #[.int .i64 X, .int .i64 Y] 127 (0, 0)) := by rw [hu]; exact heap_alloc_new _ _
 have K1 := hLu.keep (kept2 hL).2
 have hlt : w.heap.size + 1 + 1 ≤ w1.heap.size := by have := hL.size; simp at this; omega
 have hlt3 : w1.heap.size < u.heap.size := by rw [hu]; simp
 have hL0 := ((((Later.refl w).alloc (.cells #[.int .i64 d, .int .i64 t] 30)).alloc (.cells #[.int .i64 0, .int .i64 0] 127)).trans hL).trans hLu
 have hSB := hL0.size
 have hRB : w.heap.size ≤ w1.heap.size := by omega
 have hne : ¬ w.heap.size + 1 = w1.heap.size := by omega
 have hne2 : ¬ w1.heap.size = w.heap.size + 1 := by omega
 have Kr := K5
 rw [← hu]
 clear hu hL hLu
 clear Kr
 refine region_slots 84 [58, 59, 60, 8] (fun g ac wc => sl ac 5 = .pointer (some ⟨w1.heap.size, 0, none⟩) ∧
  (g 0 = true → sl ac 58 = .agg #[.int .i64 X, .int .i64 Y]) ∧
  (g 1 = true → sl ac 59 = .agg #[.int .i64 P, .int .i64 Q]) ∧
  (g 2 = true → sl ac 60 = .agg #[.int .i64 (X - Q), .int .i64 (Y - P)]) ∧
  Later w wc ∧
  (g 3 = true → ∃ k, sl ac 8 = .pointer (some ⟨k, 0, none⟩) ∧ u.heap.size ≤ k ∧ ∃ p3_0 p3_1, wc.heap[k]? = some (.cells #[p3_0, p3_1] 127 (0, 0)) ∧ (g 4 = true → p3_0 = .int .i64 (X - Q) ∧ p3_1 = .int .i64 (Y - P))) ∧
  (g 4 = true → g 3 = true) ∧
  u.heap.size ≤ wc.heap.size ∧
  wc.heap[w.heap.size + 1]? = some (.cells #[.int .i64 0, .int .i64 0] 127 (0, 0)) ∧
  wc.heap[w1.heap.size]? = some (.cells #[.int .i64 X, .int .i64 Y] 127 (0, 0))) (by kernel_rfl) (by kernel_rfl) rfl (by kernel_rfl) ?_ ?_ ?_
 · exact ⟨rfl, nofun, nofun, nofun, hL0.drew, nofun, nofun, Nat.le_refl _, K1, K5⟩
 · intro g ac wu hg ha hI
   obtain ⟨x5, i0, i1, i2, hL, i3, -, hS, B1, B5⟩ := hI
   obtain ⟨kr3, e3, br3, p3_0, p3_1, Kr3, g3⟩ := i3 (hg 3 (by simp))
   have g3 := g3 (hg 4 (by simp))
   rw [g3.1, g3.2] at Kr3
   have a0 := i0 (hg 0 (by simp))
   have a1 := i1 (hg 1 (by simp))
   have a2 := i2 (hg 2 (by simp))
   simp only [putAll, a0, a1, a2, e3] at ha
   simp only [Act.put, List.setIfInBounds_toArray, List.set_cons_succ, List.set_cons_zero] at ha
   rw [ha]
   clear x5 i0 i1 i2 i3 a0 a1 a2 e3 g3 hg ha
   have c8 := (blk_at Kr3).1
   have z8 := (blk_at Kr3).2.2
   obtain ⟨cr, fr, zr⟩ := blk_at B1
   clear Kr3 B1
   by_cases hq : X - Q < 0
   · have HF := Lib.hid (show posI 4 ⟨d, t⟩ = ⟨X - Q + 1048576, Y - P + 1048576⟩ from by rw [HPI.out]; exact if_pos hq)
     go_wp2
     refine bodyPost_ret (v := .agg #[.int .i64 (X - Q + 1048576), .int .i64 (Y - P + 1048576)]) (by simp [results, Tryz.results143, go_sem, cr, zr]) rfl ⟨by rw [HF.out], qla⟩
   · have HF := Lib.hid (show posI 4 ⟨d, t⟩ = ⟨X - Q, Y - P⟩ from by rw [HPI.out]; exact if_neg hq)
     go_wp2
     refine bodyPost_ret (v := .agg #[.int .i64 (X - Q), .int .i64 (Y - P)]) (by simp [results, Tryz.results143, go_sem, cr, zr]) rfl ⟨by rw [HF.out], qla⟩
 · refine .cons ?_ (.cons ?_ (.cons ?_ (.cons ?_ (.cons ?_ .nil))))
   · refine qst fun g ac wc hn hk hr HI K' hK => ?_
     obtain ⟨x5, -, -, -, hL, i3, q3, hS, B1, B5⟩ := HI.out
     simp [Region.binds] at hr
     obtain ⟨c0, f0, z0⟩ := blk_at B5
     go_simp
     obtain ⟨-, i0, i1, i2, -⟩ := HI.out
     exact hK.out _ _ ⟨qB x5, qP, qF i1, qF i2, hL, (fun j => by obtain ⟨k, e1, e2, p3_0, p3_1, e3, e4⟩ := i3 j; exact ⟨k, (put_ne (by decide)).trans e1, e2, p3_0, p3_1, e3, e4⟩), q3, hS, B1, B5⟩
   · refine qst fun g ac wc hn hk hr HI K' hK => ?_
     obtain ⟨x5, -, -, -, hL, i3, q3, hS, B1, B5⟩ := HI.out
     simp [Region.binds] at hr
     go_simp
     refine (w_l03Log _ (by decide) (by decide) _).mono ?_
     rintro e w4 ⟨rfl, hL4⟩
     rw [HP.out, HQ.out]
     obtain ⟨-, i0, i1, i2, -⟩ := HI.out
     exact hK.out _ _ ⟨qB x5, qF i0, qP, qF i2, hL.trans hL4, (fun j => by obtain ⟨k, e1, e2, p3_0, p3_1, e3, e4⟩ := i3 j; exact ⟨k, (put_ne (by decide)).trans e1, e2, p3_0, p3_1, hL4.keep e3, e4⟩), q3, Nat.le_trans hS hL4.size, hL4.keep B1, hL4.keep B5⟩
   · refine qst fun g ac wc hn hk hr HI K' hK => ?_
     obtain ⟨x5, i0, i1, -, hL, i3, q3, hS, B1, B5⟩ := HI.out
     simp [Region.binds] at hr
     have y0 := i0 (by simp [hr])
     have y1 := i1 (by simp [hr])
     clear i0 i1
     go_simp
     refine (w_l03Sub _ _ _ _ (by omega) (by omega) (by omega) (by omega) (by omega) (by omega) (by omega) (by omega) _).mono ?_
     rintro e w4 ⟨rfl, hL4⟩
     obtain ⟨-, i0, i1, i2, -⟩ := HI.out
     exact hK.out _ _ ⟨qB x5, qF i0, qF i1, qP, hL.trans hL4, (fun j => by obtain ⟨k, e1, e2, p3_0, p3_1, e3, e4⟩ := i3 j; exact ⟨k, (put_ne (by decide)).trans e1, e2, p3_0, p3_1, hL4.keep e3, e4⟩), q3, Nat.le_trans hS hL4.size, hL4.keep B1, hL4.keep B5⟩
   · refine qst fun g ac wc hn hk hr HI K' hK => ?_
     obtain ⟨x5, -, -, -, hL, i3, q3, hS, B1, B5⟩ := HI.out
     simp [Region.binds] at hr
     go_simp
     obtain ⟨-, i0, i1, i2, -⟩ := HI.out
     refine hK.out _ _ ⟨qB x5, qF i0, qF i1, qF i2, hL.alloc _, (fun _ => ⟨_, put_eq (by omega), hS, _, _, heap_alloc_new _ _, fun j6 => absurd ((q3 j6).symm.trans hk) (by simp)⟩), fun _ => rfl, (by simp; omega), heap_alloc_old _ _ B1, heap_alloc_old _ _ B5⟩
   · refine qst fun g ac wc hn hk hr HI K' hK => ?_
     obtain ⟨x5, -, -, i2, hL, i3, q3, hS, B1, B5⟩ := HI.out
     simp [Region.binds] at hr
     have y2 := i2 (by simp [hr])
     clear i2
     have hda : g 3 = true := by simp [hr]
     obtain ⟨k, e1, e2, p3_0, p3_1, e3, -⟩ := i3 hda
     obtain ⟨c0, f0, z0⟩ := blk_at e3
     go_simp
     obtain ⟨-, i0, i1, i2, -⟩ := HI.out
     exact hK.out undef _ ⟨x5, i0, i1, i2, ((hL.setCell (Nat.le_trans hSB e2) _).setCell (Nat.le_trans hSB e2) _), (fun _ => ⟨k, e1, e2, _, _, two_set e3 _ _, fun _ => ⟨rfl, rfl⟩⟩), (fun _ => hda), (by simp; omega), (other_set (other_set B1 (by omega) _) (by omega) _), (other_set (other_set B5 (by omega) _) (by omega) _)⟩
theorem w_implPosition (s d t : Int) (hs : 0 ≤ s) (hs2 : s ≤ 4) (h1 : 1000 ≤ d) (h2 : d ≤ 9999) (h3 : -100 ≤ t) (h4 : t ≤ 100) (w : World) :
 Calls Tryz.prog 97 #[.int .i64 s, .agg #[.int .i64 d, .int .i64 t]] w fun e w' => e = .returned (.agg #[.int .i64 (posI s ⟨d, t⟩).lo, .int .i64 (posI s ⟨d, t⟩).hi]) ∧ Later w w' := by
 rcases (show s = 0 ∨ s = 1 ∨ s = 2 ∨ s = 3 ∨ s = 4 by omega) with rfl | rfl | rfl | rfl | rfl
 · exact w_implPosition0 d t h1 h2 h3 h4 w
 · exact w_implPosition1 d t h1 h2 h3 h4 w
 · exact w_implPosition2 d t h1 h2 h3 h4 w
 · exact w_implPosition3 d t h1 h2 h3 h4 w
 · exact w_implPosition4 d t h1 h2 h3 h4 w
theorem w_implPoint (s d t : Int) (hs : 0 ≤ s) (hs2 : s ≤ 4) (h1 : 1000 ≤ d) (h2 : d ≤ 9999) (h3 : -100 ≤ t) (h4 : t ≤ 100) (w : World) :
 Calls Tryz.prog 49 #[.int .i64 s, .agg #[.int .i64 d, .int .i64 t]] w fun e w' => e = .returned (.int .i64 (ptF s ⟨d, t⟩)) ∧ Later w w' := by
 have hb := posI_bd (s := s) (f := ⟨d, t⟩) h1 h2
 have HP := Lib.hid (show ptF s ⟨d, t⟩ = ((posI s ⟨d, t⟩).lo + (posI s ⟨d, t⟩).hi) / 2 from rfl)
 obtain ⟨X, hX⟩ : ∃ X, (posI s ⟨d, t⟩).lo = X := ⟨_, rfl⟩
 obtain ⟨Y, hY⟩ : ∃ Y, (posI s ⟨d, t⟩).hi = Y := ⟨_, rfl⟩
 rw [hX, hY] at hb HP
 obtain ⟨x1, x2, y1, y2⟩ := hb
 have HX := Lib.hid hX
 have HY := Lib.hid hY
 clear hX hY
 go_enter Tryz.func49, Tryz.ntmps49
 go_wp2_with fail
 refine (w_implPosition _ _ _ hs hs2 h1 h2 h3 h4 _).mono ?_
 rintro e w1 ⟨rfl, hL⟩
 rw [HX.out, HY.out]
 go_wp2_with fail
 refine (w_down _ _ (by decide) (by decide) (by omega) (by omega) _).mono ?_
 rintro e w2 ⟨rfl, rfl⟩
 go_wp2
 go_ret
 exact ⟨by rw [HP.out]; rfl, qla⟩
theorem w_specPosition (s d t : Int) (hs : 0 ≤ s) (hs2 : s ≤ 4) (h1 : 1000 ≤ d) (h2 : d ≤ 9999) (h3 : -100 ≤ t) (h4 : t ≤ 100) (w : World) :
 Calls Tryz.prog 143 #[.int .i64 s, .agg #[.int .i64 d, .int .i64 t]] w fun e w' => e = .returned (.agg #[.int .i64 (posI s ⟨d, t⟩).lo, .int .i64 (posI s ⟨d, t⟩).hi]) ∧ Later w w' := by
 rcases (show s = 0 ∨ s = 1 ∨ s = 2 ∨ s = 3 ∨ s = 4 by omega) with rfl | rfl | rfl | rfl | rfl
 · exact w_specPosition0 d t h1 h2 h3 h4 w
 · exact w_specPosition1 d t h1 h2 h3 h4 w
 · exact w_specPosition2 d t h1 h2 h3 h4 w
 · exact w_specPosition3 d t h1 h2 h3 h4 w
 · exact w_specPosition4 d t h1 h2 h3 h4 w
theorem w_specPoint (s d t : Int) (hs : 0 ≤ s) (hs2 : s ≤ 4) (h1 : 1000 ≤ d) (h2 : d ≤ 9999) (h3 : -100 ≤ t) (h4 : t ≤ 100) (w : World) :
 Calls Tryz.prog 101 #[.int .i64 s, .agg #[.int .i64 d, .int .i64 t]] w fun e w' => e = .returned (.int .i64 (ptF s ⟨d, t⟩)) ∧ Later w w' := by
 have hb := posI_bd (s := s) (f := ⟨d, t⟩) h1 h2
 have HP := Lib.hid (show ptF s ⟨d, t⟩ = ((posI s ⟨d, t⟩).lo + (posI s ⟨d, t⟩).hi) / 2 from rfl)
 obtain ⟨X, hX⟩ : ∃ X, (posI s ⟨d, t⟩).lo = X := ⟨_, rfl⟩
 obtain ⟨Y, hY⟩ : ∃ Y, (posI s ⟨d, t⟩).hi = Y := ⟨_, rfl⟩
 rw [hX, hY] at hb HP
 obtain ⟨x1, x2, y1, y2⟩ := hb
 have HX := Lib.hid hX
 have HY := Lib.hid hY
 clear hX hY
 go_enter Tryz.func101, Tryz.ntmps101
 go_wp2_with fail
 refine (w_specPosition _ _ _ hs hs2 h1 h2 h3 h4 _).mono ?_
 rintro e w1 ⟨rfl, hL⟩
 rw [HX.out, HY.out]
 go_wp2_with fail
 refine (w_l01Floor _ _ (by decide) (by decide) (by omega) (by omega) _).mono ?_
 rintro e w2 ⟨rfl, rfl⟩
 go_wp2
 go_ret
 exact ⟨by rw [HP.out]; rfl, qla⟩
end Go.Proofs.YtgngbdacejghcaaGreatDoor
