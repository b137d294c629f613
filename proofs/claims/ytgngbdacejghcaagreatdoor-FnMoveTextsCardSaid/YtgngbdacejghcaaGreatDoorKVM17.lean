/- DERIVED. Walks: a logarithm by a fraction (scaled, l03Scale). -/
import Derived.BigQuiet
import Derived.Test.YtgngbdacejghcaaGreatDoorKVM12
import Derived.Test.YtgngbdacejghcaaGreatDoorKVPA
namespace Go.Proofs.YtgngbdacejghcaaGreatDoor
set_option linter.unusedVariables false
set_option linter.unusedSimpArgs false
open Go.RowKit
set_option maxRecDepth 100000
theorem wrap_same {n : Int} (h1 : -1000000000000 ≤ n) (h2 : n ≤ 1000000000000) : IntKind.i64.wrap n = n := by
 simp only [IntKind.wrap, IntKind.bits, IntKind.signed]
 simp
 omega
theorem scale_bd {lo n P : Int} (h1 : -1000000000 ≤ lo) (h2 : lo ≤ 1000000000) (h3 : -1000 ≤ n) (h4 : n ≤ 1000) (hP : lo * n = P) : -1000000000000 ≤ P ∧ P ≤ 1000000000000 := by
 have := mul_bd (A := 1000000000) (B := 1000) h1 h2 h3 h4 (by omega)
 omega
set_option maxHeartbeats 1000000 in
theorem w_scaled (lo hi n d : Int) (h1 : -1000000000 ≤ lo) (h2 : lo ≤ 1000000000) (h3 : -1000000000 ≤ hi) (h4 : hi ≤ 1000000000) (h5 : -1000 ≤ n) (h6 : n ≤ 1000) (h7 : 0 < d) (h8 : d ≤ 1000) (w : World) :
 Calls Tryz.prog 140 #[.agg #[.int .i64 lo, .int .i64 hi], .int .i64 n, .int .i64 d] w fun e w' => e = .returned (.agg #[.int .i64 (scaleI ⟨lo, hi⟩ n d).lo, .int .i64 (scaleI ⟨lo, hi⟩ n d).hi]) ∧ Later w w' := by
 obtain ⟨P, hP⟩ : ∃ P, lo * n = P := ⟨_, rfl⟩
 obtain ⟨Q, hQ⟩ : ∃ Q, hi * n = Q := ⟨_, rfl⟩
 have p1 := scale_bd h1 h2 h5 h6 hP
 have q1 := scale_bd h3 h4 h5 h6 hQ
 obtain ⟨p1, p2⟩ := p1
 obtain ⟨q1, q2⟩ := q1
 have HF := Lib.hid (show scaleI ⟨lo, hi⟩ n d = ⟨min P Q / d, cdiv (max P Q) d⟩ from by simp only [scaleI, hP, hQ])
 have wP : IntKind.i64.wrap (lo * n) = P := by rw [hP]; exact wrap_same p1 p2
 have wQ : IntKind.i64.wrap (hi * n) = Q := by rw [hQ]; exact wrap_same q1 q2
 clear hP hQ
 rcases Int.lt_trichotomy P Q with hm | hm | hm
 · have e1 : min P Q = P := by omega
   have e2 : max P Q = Q := by omega
   rw [e1, e2] at HF
   clear e1 e2
   go_enter Tryz.func140, Tryz.ntmps140
   go_wp2_with fail
   go_quiet (fail)
   go_wp2_with fail
   refine (w_down _ _ h7 (by omega) (by omega) (by omega) _).mono ?_
   rintro e w1 ⟨rfl, rfl⟩
   go_wp2_with fail
   refine (w_up _ _ h7 (by omega) (by omega) (by omega) _).mono ?_
   rintro e w2 ⟨rfl, rfl⟩
   go_wp2
   refine bodyPost_ret (v := .agg #[.int .i64 (P / d), .int .i64 (cdiv Q d)]) (by simp [results, Tryz.results140, go_sem]) rfl ⟨by rw [HF.out], qla⟩
 · subst hm
   have e1 : min P P = P := by omega
   have e2 : max P P = P := by omega
   rw [e1, e2] at HF
   clear e1 e2
   go_enter Tryz.func140, Tryz.ntmps140
   go_wp2_with fail
   go_quiet (fail)
   go_wp2_with fail
   refine (w_down _ _ h7 (by omega) (by omega) (by omega) _).mono ?_
   rintro e w1 ⟨rfl, rfl⟩
   go_wp2_with fail
   refine (w_up _ _ h7 (by omega) (by omega) (by omega) _).mono ?_
   rintro e w2 ⟨rfl, rfl⟩
   go_wp2
   refine bodyPost_ret (v := .agg #[.int .i64 (P / d), .int .i64 (cdiv P d)]) (by simp [results, Tryz.results140, go_sem]) rfl ⟨by rw [HF.out], qla⟩
 · have e1 : min P Q = Q := by omega
   have e2 : max P Q = P := by omega
   rw [e1, e2] at HF
   clear e1 e2
   go_enter Tryz.func140, Tryz.ntmps140
   go_wp2_with fail
   go_quiet (fail)
   go_wp2_with fail
   refine (w_down _ _ h7 (by omega) (by omega) (by omega) _).mono ?_
   rintro e w1 ⟨rfl, rfl⟩
   go_wp2_with fail
   refine (w_up _ _ h7 (by omega) (by omega) (by omega) _).mono ?_
   rintro e w2 ⟨rfl, rfl⟩
   go_wp2
   refine bodyPost_ret (v := .agg #[.int .i64 (Q / d), .int .i64 (cdiv P d)]) (by simp [results, Tryz.results140, go_sem]) rfl ⟨by rw [HF.out], qla⟩
set_option maxHeartbeats 1000000 in
theorem w_l03Scale (lo hi n d : Int) (h1 : -1000000000 ≤ lo) (h2 : lo ≤ 1000000000) (h3 : -1000000000 ≤ hi) (h4 : hi ≤ 1000000000) (h5 : -1000 ≤ n) (h6 : n ≤ 1000) (h7 : 0 < d) (h8 : d ≤ 1000) (w : World) :
 Calls Tryz.prog 166 #[.agg #[.int .i64 lo, .int .i64 hi], .int .i64 n, .int .i64 d] w fun e w' => e = .returned (.agg #[.int .i64 (scaleI ⟨lo, hi⟩ n d).lo, .int .i64 (scaleI ⟨lo, hi⟩ n d).hi]) ∧ Later w w' := by
 obtain ⟨P, hP⟩ : ∃ P, lo * n = P := ⟨_, rfl⟩
 obtain ⟨Q, hQ⟩ : ∃ Q, hi * n = Q := ⟨_, rfl⟩
 have p1 := scale_bd h1 h2 h5 h6 hP
 have q1 := scale_bd h3 h4 h5 h6 hQ
 obtain ⟨p1, p2⟩ := p1
 obtain ⟨q1, q2⟩ := q1
 have HF := Lib.hid (show scaleI ⟨lo, hi⟩ n d = ⟨min P Q / d, cdiv (max P Q) d⟩ from by simp only [scaleI, hP, hQ])
 have wP : IntKind.i64.wrap (lo * n) = P := by rw [hP]; exact wrap_same p1 p2
 have wQ : IntKind.i64.wrap (hi * n) = Q := by rw [hQ]; exact wrap_same q1 q2
 clear hP hQ
 rcases Int.lt_trichotomy P Q with hm | hm | hm
 · have e1 : min P Q = P := by omega
   have e2 : max P Q = Q := by omega
   rw [e1, e2] at HF
   clear e1 e2
   go_enter Tryz.func166, Tryz.ntmps166
   go_wp2_with fail
   go_quiet (fail)
   go_wp2_with fail
   refine (w_l01Floor _ _ h7 (by omega) (by omega) (by omega) _).mono ?_
   rintro e w1 ⟨rfl, rfl⟩
   go_wp2_with fail
   refine (w_l01Ceil _ _ h7 (by omega) (by omega) (by omega) _).mono ?_
   rintro e w2 ⟨rfl, rfl⟩
   go_wp2
   refine bodyPost_ret (v := .agg #[.int .i64 (P / d), .int .i64 (cdiv Q d)]) (by simp [results, Tryz.results166, go_sem]) rfl ⟨by rw [HF.out], qla⟩
 · subst hm
   have e1 : min P P = P := by omega
   have e2 : max P P = P := by omega
   rw [e1, e2] at HF
   clear e1 e2
   go_enter Tryz.func166, Tryz.ntmps166
   go_wp2_with fail
   go_quiet (fail)
   go_wp2_with fail
   refine (w_l01Floor _ _ h7 (by omega) (by omega) (by omega) _).mono ?_
   rintro e w1 ⟨rfl, rfl⟩
   go_wp2_with fail
   refine (w_l01Ceil _ _ h7 (by omega) (by omega) (by omega) _).mono ?_
   rintro e w2 ⟨rfl, rfl⟩
   go_wp2
   refine bodyPost_ret (v := .agg #[.int .i64 (P / d), .int .i64 (cdiv P d)]) (by simp [results, Tryz.results166, go_sem]) rfl ⟨by rw [HF.out], qla⟩
 · have e1 : min P Q = Q := by omega
   have e2 : max P Q = P := by omega
   rw [e1, e2] at HF
   clear e1 e2
   go_enter Tryz.func166, Tryz.ntmps166
   go_wp2_with fail
   go_quiet (fail)
   go_wp2_with fail
   refine (w_l01Floor _ _ h7 (by omega) (by omega) (by omega) _).mono ?_
   rintro e w1 ⟨rfl, rfl⟩
   go_wp2_with fail
   refine (w_l01Ceil _ _ h7 (by omega) (by omega) (by omega) _).mono ?_
   rintro e w2 ⟨rfl, rfl⟩
   go_wp2
   refine bodyPost_ret (v := .agg #[.int .i64 (Q / d), .int .i64 (cdiv P d)]) (by simp [results, Tryz.results166, go_sem]) rfl ⟨by rw [HF.out], qla⟩
end Go.Proofs.YtgngbdacejghcaaGreatDoor
