/- DERIVED. Walks: PlaceTransfer. -/
import Derived.Test.YtcnbnlmoohieoaaM18
import Derived.Test.YtcnbnlmoohieoaaP4
import Derived.Test.YtcnbnlmoohieoaaB3
namespace Go.Proofs.Ytcnbnlmoohieoaa
set_option linter.unusedVariables false
set_option linter.unusedSimpArgs false
open Go.RowKit
set_option maxRecDepth 100000

theorem w_exponent (a b : Int) (w : World) :
    Calls Try.prog 83 #[.int .i64 a, .int .i64 b] w fun e w' => e = .returned (.tuple #[.int .i64 (expN a b), .int .i64 (expD a b)]) ∧ w = w' := by
  have h1 := ordScale_bd a
  have h2 := ordScale_bd b
  obtain ⟨x, hx⟩ : ∃ x, ordScale a = x := ⟨_, rfl⟩
  obtain ⟨y, hy⟩ : ∃ y, ordScale b = y := ⟨_, rfl⟩
  have hn : expN a b = if x < 0 then -y else y := by rw [expN, hx, hy]
  have hd : expD a b = if x < 0 then -x else x := by rw [expD, hx]
  rw [hx] at h1
  rw [hy] at h2
  have HX := Lib.hid hx
  have HY := Lib.hid hy
  clear hx hy
  by_cases hq : x < 0
  all_goals
    first
      | rw [if_pos hq] at hn hd
      | rw [if_neg hq] at hn hd
    have HN := Lib.hid hn
    have HD := Lib.hid hd
    clear hn hd
    go_enter Try.func83, Try.ntmps83
    go_wp2_with fail
    refine (w_orderOf _ _).mono ?_
    rintro e w' ⟨rfl, rfl⟩
    rw [HY.out]
    go_wp2_with fail
    refine (w_orderOf _ _).mono ?_
    rintro e w' ⟨rfl, rfl⟩
    rw [HX.out]
    go_wp2
    go_ret2
    exact ⟨by rw [HN.out, HD.out]; rfl, rfl⟩

theorem w_l17Power (a b : Int) (w : World) :
    Calls Try.prog 76 #[.int .i64 a, .int .i64 b] w fun e w' => e = .returned (.tuple #[.int .i64 (expN a b), .int .i64 (expD a b)]) ∧ w = w' := by
  have h1 := ordScale_bd a
  have h2 := ordScale_bd b
  obtain ⟨x, hx⟩ : ∃ x, ordScale a = x := ⟨_, rfl⟩
  obtain ⟨y, hy⟩ : ∃ y, ordScale b = y := ⟨_, rfl⟩
  have hn : expN a b = if x < 0 then -y else y := by rw [expN, hx, hy]
  have hd : expD a b = if x < 0 then -x else x := by rw [expD, hx]
  rw [hx] at h1
  rw [hy] at h2
  have HX := Lib.hid hx
  have HY := Lib.hid hy
  clear hx hy
  by_cases hq : x < 0
  all_goals
    first
      | rw [if_pos hq] at hn hd
      | rw [if_neg hq] at hn hd
    have HN := Lib.hid hn
    have HD := Lib.hid hd
    clear hn hd
    go_enter Try.func76, Try.ntmps76
    go_wp2_with fail
    refine (w_l17Order _ _).mono ?_
    rintro e w' ⟨rfl, rfl⟩
    rw [HX.out]
    go_wp2_with fail
    refine (w_l17Order _ _).mono ?_
    rintro e w' ⟨rfl, rfl⟩
    rw [HY.out]
    go_wp2
    go_ret2
    exact ⟨by rw [HN.out, HD.out]; rfl, rfl⟩

theorem w_l17Exact (a b d t : Int) (w : World) :
    Calls Try.prog 75 #[.int .i64 a, .int .i64 b, .agg #[.int .i64 d, .int .i64 t]] w fun e w' => e = .returned (.int .i64 (codeExact a b ⟨d, t⟩)) ∧ Later w w' := by
  cases hi : isFig ⟨d, t⟩
  · have HI := Lib.hid hi
    have HF := Lib.hid (show codeExact a b ⟨d, t⟩ = 1 from by simp [codeExact, hi])
    clear hi
    go_enter Try.func75, Try.ntmps75
    go_wp2_with fail
    refine (w_specIsFigure _ _ _).mono ?_
    rintro e w1 ⟨rfl, hL⟩
    rw [HI.out]
    go_wp2
    go_ret
    exact ⟨by rw [HF.out]; rfl, by (repeat (with_reducible first | exact Later.refl _ | refine Later.alloc ?_ _ | refine Later.drew ?_ | refine Later.drewN ?_ _ | refine Later.setCell ?_ (by simp; try omega) _ | refine Later.trans ?_ (by assumption)))⟩
  have hf : codeExact a b ⟨d, t⟩ = if (ordScale a == 0 || ordScale b == 0) then 2 else 0 := by
    simp only [codeExact, hi, ordOk2, if_true]
    by_cases hq : (ordScale a == 0 || ordScale b == 0) = true <;> simp [hq]
  have HI := Lib.hid hi
  clear hi
  cases ha : (ordScale a == 0)
  · cases hb : (ordScale b == 0)
    all_goals
      rw [ha, hb] at hf
      have HF := Lib.hid hf
      clear hf
      go_enter Try.func75, Try.ntmps75
      go_wp2_with fail
      refine (w_specIsFigure _ _ _).mono ?_
      rintro e w1 ⟨rfl, hL⟩
      rw [HI.out]
      go_wp2_with fail
      refine (w_l17Order _ _).mono ?_
      rintro e w' ⟨rfl, rfl⟩
      go_wp2_with fail
      refine (w_l17Order _ _).mono ?_
      rintro e w' ⟨rfl, rfl⟩
      go_wp2
      go_ret
      exact ⟨by rw [HF.out]; rfl, by (repeat (with_reducible first | exact Later.refl _ | refine Later.alloc ?_ _ | refine Later.drew ?_ | refine Later.drewN ?_ _ | refine Later.setCell ?_ (by simp; try omega) _ | refine Later.trans ?_ (by assumption)))⟩
  · rw [ha] at hf
    have HF := Lib.hid hf
    clear hf
    go_enter Try.func75, Try.ntmps75
    go_wp2_with fail
    refine (w_specIsFigure _ _ _).mono ?_
    rintro e w1 ⟨rfl, hL⟩
    rw [HI.out]
    go_wp2_with fail
    refine (w_l17Order _ _).mono ?_
    rintro e w' ⟨rfl, rfl⟩
    go_wp2
    go_ret
    exact ⟨by rw [HF.out]; rfl, by (repeat (with_reducible first | exact Later.refl _ | refine Later.alloc ?_ _ | refine Later.drew ?_ | refine Later.drewN ?_ _ | refine Later.setCell ?_ (by simp; try omega) _ | refine Later.trans ?_ (by assumption)))⟩

theorem figs_lit {w : World} {k : Nat} {T : TypeId} {c : Array Value} (l : List Fig) (h : w.heap[k]? = some (.cells c T (0, 0))) (hc : c.toList = figs l) (hn : l.length ≤ 1048576) : IsFigs w (.slice (some ⟨k, 0, none⟩) l.length l.length) l := by
  refine ⟨figs_len l, hn, _, _, rfl, Nat.le_refl _, by omega, fun _ => ⟨k, 0, rfl, (Array.getElem?_eq_some_iff.1 h).1, fun j u hj => ?_⟩⟩
  rw [← hc] at hj
  rw [Nat.zero_add, (blk_at h).1]
  simpa using hj

set_option maxHeartbeats 4000000 in
theorem w_specPlaceTransfer (a b d t d2 t2 : Int) (w : World) :
    Calls Try.prog 44 #[.int .i64 a, .int .i64 b, .agg #[.int .i64 d, .int .i64 t], .agg #[.int .i64 d2, .int .i64 t2]] w fun e w' => e = .returned (.tuple #[.agg #[.int .i64 (transF a b ⟨d, t⟩ ⟨d2, t2⟩).d, .int .i64 (transF a b ⟨d, t⟩ ⟨d2, t2⟩).t], .int .i64 (transC a b ⟨d, t⟩ ⟨d2, t2⟩)]) ∧ Later w w' := by
  cases hi : isFig ⟨d2, t2⟩
  · have hI := Lib.hid hi
    have HF := Lib.hid (show transF a b ⟨d, t⟩ ⟨d2, t2⟩ = ⟨0, 0⟩ from by simp [transF, hi])
    have HC := Lib.hid (show transC a b ⟨d, t⟩ ⟨d2, t2⟩ = 1 from by simp [transC, hi])
    clear hi
    go_enter Try.func44, Try.ntmps44
    go_wp2_with fail
    refine (w_l17Exact _ _ _ _ _).mono ?_
    rintro e w1 ⟨rfl, hL⟩
    obtain ⟨⟨c0, f0, z0⟩, ⟨c1, f1, z1⟩, ⟨c2, f2, z2⟩⟩ := blk3 hL
    go_wp2_with fail
    refine (w_specIsFigure _ _ _).mono ?_
    rintro e w2 ⟨rfl, hL2⟩
    rw [hI.out]
    clear c0 f0 z0 c1 f1 z1 c2 f2 z2
    obtain ⟨⟨c0, f0, z0⟩, ⟨c1, f1, z1⟩, ⟨c2, f2, z2⟩⟩ := blk3 (hL.trans hL2)
    go_wp2
    refine bodyPost_ret (v := .tuple #[.agg #[.int .i64 0, .int .i64 0], .int .i64 1]) (by simp [results, Try.results44, go_sem, c2, z2]) rfl ⟨by rw [HF.out, HC.out], by (repeat (with_reducible first | exact Later.refl _ | refine Later.alloc ?_ _ | refine Later.drew ?_ | refine Later.drewN ?_ _ | refine Later.setCell ?_ (by simp; try omega) _ | refine Later.trans ?_ (by assumption)))⟩
  by_cases hx : codeExact a b ⟨d, t⟩ = 0
  rotate_left
  · have h3 : transF a b ⟨d, t⟩ ⟨d2, t2⟩ = ⟨0, 0⟩ ∧ transC a b ⟨d, t⟩ ⟨d2, t2⟩ = codeExact a b ⟨d, t⟩ := by
      revert hx
      simp only [transF, transC, codeExact, hi, Bool.and_true]
      cases isFig ⟨d, t⟩ <;> cases ordOk2 a b <;> simp
    have hI := Lib.hid hi
    have HF := Lib.hid h3
    have hx2 : (codeExact a b ⟨d, t⟩ != 0) = true := by simpa using hx
    clear hi h3
    obtain ⟨x, hx3⟩ : ∃ x, codeExact a b ⟨d, t⟩ = x := ⟨_, rfl⟩
    rw [hx3] at hx2 HF
    have HX := Lib.hid hx3
    clear hx3 hx
    go_enter Try.func44, Try.ntmps44
    go_wp2_with fail
    refine (w_l17Exact _ _ _ _ _).mono ?_
    rintro e w1 ⟨rfl, hL⟩
    rw [HX.out]
    obtain ⟨⟨c0, f0, z0⟩, ⟨c1, f1, z1⟩, ⟨c2, f2, z2⟩⟩ := blk3 hL
    go_wp2_with fail
    refine (w_specIsFigure _ _ _).mono ?_
    rintro e w2 ⟨rfl, hL2⟩
    rw [hI.out]
    clear c0 f0 z0 c1 f1 z1 c2 f2 z2
    obtain ⟨⟨c0, f0, z0⟩, ⟨c1, f1, z1⟩, ⟨c2, f2, z2⟩⟩ := blk3 (hL.trans hL2)
    go_wp2
    refine bodyPost_ret (v := .tuple #[.agg #[.int .i64 0, .int .i64 0], .int .i64 x]) (by simp [results, Try.results44, go_sem, c2, z2]) rfl ⟨by rw [HF.out.1, HF.out.2], by (repeat (with_reducible first | exact Later.refl _ | refine Later.alloc ?_ _ | refine Later.drew ?_ | refine Later.drewN ?_ _ | refine Later.setCell ?_ (by simp; try omega) _ | refine Later.trans ?_ (by assumption)))⟩
  have hx2 : isFig ⟨d, t⟩ = true ∧ ordOk2 a b = true := by
    revert hx
    simp only [codeExact]
    cases isFig ⟨d, t⟩ <;> cases ordOk2 a b <;> simp
  obtain ⟨hf, ho⟩ := hx2
  have HF := Lib.hid (show transF a b ⟨d, t⟩ ⟨d2, t2⟩ = limF (placeF d2 (expI a b ⟨d, t⟩)) from by simp [transF, hf, hi, ho])
  have HC := Lib.hid (show transC a b ⟨d, t⟩ ⟨d2, t2⟩ = codeLim (placeF d2 (expI a b ⟨d, t⟩)) from by simp [transC, hf, hi, ho])
  have hf' := isFig_true hf
  simp only at hf'
  obtain ⟨t1, t3, t4, t7⟩ := hf'
  have hr' := isFig_true hi
  simp only at hr'
  obtain ⟨r1, r2, r3, r4⟩ := hr'
  have hbd := figLog_bd2 (f := ⟨d, t⟩) t1 t3 t4 t7
  obtain ⟨q1, q2, q3, q4⟩ := hbd
  have q1 : -1000000000 ≤ (figLog ⟨d, t⟩).lo := by omega
  have q2 : (figLog ⟨d, t⟩).lo ≤ 1000000000 := by omega
  have q3 : -1000000000 ≤ (figLog ⟨d, t⟩).hi := by omega
  have q4 : (figLog ⟨d, t⟩).hi ≤ 1000000000 := by omega
  have t5 : -100 ≤ t := by omega
  have t6 : t ≤ 100 := by omega
  have hxb := expI_bd (b := b) hf (ordOk2_true ho).1
  have heb := exp_bd (b := b) (ordOk2_true ho).1
  have hlb := logOf_bd (x := d2 * 100000) (by omega) (by omega)
  have hgap := gapOf_log d2 (expI a b ⟨d, t⟩)
  have u1 : 100000000 ≤ d2 * 100000 := by omega
  have u2 : d2 * 100000 ≤ 999999999 := by omega
  obtain ⟨n, hn⟩ : ∃ n, expN a b = n := ⟨_, rfl⟩
  obtain ⟨m, hm⟩ : ∃ m, expD a b = m := ⟨_, rfl⟩
  obtain ⟨X, hX⟩ : ∃ X, (expI a b ⟨d, t⟩).lo = X := ⟨_, rfl⟩
  obtain ⟨Y, hY⟩ : ∃ Y, (expI a b ⟨d, t⟩).hi = Y := ⟨_, rfl⟩
  obtain ⟨Z, hZ⟩ : ∃ Z, (logOf (d2 * 100000)).lo = Z := ⟨_, rfl⟩
  obtain ⟨V, hV⟩ : ∃ V, (logOf (d2 * 100000)).hi = V := ⟨_, rfl⟩
  rw [hn, hm] at heb
  rw [hX, hY] at hxb
  rw [hZ, hV] at hlb
  rw [hX, hY, hZ, hV] at hgap
  have HX := Lib.hid (show (scaleI ⟨(figLog ⟨d, t⟩).lo, (figLog ⟨d, t⟩).hi⟩ n m).lo = X from by rw [← hX, expI, hn, hm])
  have HY := Lib.hid (show (scaleI ⟨(figLog ⟨d, t⟩).lo, (figLog ⟨d, t⟩).hi⟩ n m).hi = Y from by rw [← hY, expI, hn, hm])
  have HZ := Lib.hid hZ
  have HV := Lib.hid hV
  have HN := Lib.hid hn
  have HM := Lib.hid hm
  obtain ⟨n1, n2, m1, m2⟩ := heb
  have n1 : -1000 ≤ n := by omega
  have n2 : n ≤ 1000 := by omega
  have m1 : 0 < m := by omega
  have m2 : m ≤ 1000 := by omega
  obtain ⟨x1, x2, x3, x4⟩ := hxb
  obtain ⟨z1, z2, z3, z4⟩ := hlb
  have hplace : placeF d2 (expI a b ⟨d, t⟩) = ⟨d2, placeT (X + Y - Z - V)⟩ := by rw [placeF, hgap]
  rw [hplace] at HF HC
  obtain ⟨q, hq⟩ : ∃ q, (X + Y - Z - V) / 2097152 = q := ⟨_, rfl⟩
  have hpt : placeT (X + Y - Z - V) = if 1048576 < X + Y - Z - V - 2097152 * q then q + 1 else q := by rw [placeT, hq]
  have b1 : 2097152 * q ≤ X + Y - Z - V := by omega
  have b2 : X + Y - Z - V < 2097152 * q + 2097152 := by omega
  have HQ := Lib.hid hq
  have HCE := Lib.hid hx
  have HFI := Lib.hid hi
  have hx3 : (codeExact a b ⟨d, t⟩ != 0) = false := by simpa using hx
  clear hX hY hZ hV hn hm hgap hplace hf ho hi hx hq hx3
  go_enter Try.func44, Try.ntmps44
  go_wp2_with fail
  refine (w_l17Exact _ _ _ _ _).mono ?_
  rintro e w1 ⟨rfl, hL⟩
  rw [HCE.out]
  obtain ⟨⟨c0, f0, zz0⟩, ⟨c1, f1, zz1⟩, ⟨c2, f2, zz2⟩⟩ := blk3 hL
  go_wp2_with fail
  refine (w_specIsFigure _ _ _).mono ?_
  rintro e w2 ⟨rfl, hL2⟩
  rw [HFI.out]
  replace hL := hL.trans hL2
  clear c0 f0 zz0 c1 f1 zz1 c2 f2 zz2 hL2
  go_wp2_with fail
  refine (w_l17Power _ _ _).mono ?_
  rintro e w3 ⟨rfl, rfl⟩
  rw [HN.out, HM.out]
  obtain ⟨K0, K1, K2⟩ := kept3 hL
  have hL00 : Later w (((w.alloc (.cells #[.int .i64 d, .int .i64 t] 56)).alloc (.cells #[.int .i64 d2, .int .i64 t2] 56)).alloc (.cells #[.int .i64 0, .int .i64 0] 56)) := by (repeat (with_reducible first | exact Later.refl _ | refine Later.alloc ?_ _ | refine Later.drew ?_ | refine Later.drewN ?_ _ | refine Later.setCell ?_ (by simp; try omega) _ | refine Later.trans ?_ (by assumption)))
  have hL0 := hL00.trans hL
  have lt := hL.size
  simp only [World.size_alloc] at lt
  have hSB := hL0.size
  clear hL hL00
  go_wp2_with fail
  refine region_slots 70 [34, 35, 36, 37, 38, 39, 40, 41, 42, 13, 14] (fun g ac wc => sl ac 6 = .pointer (some ⟨w.heap.size, 0, none⟩) ∧
    sl ac 7 = .pointer (some ⟨w.heap.size + 1, 0, none⟩) ∧
    sl ac 11 = .int .i64 n ∧
    sl ac 12 = .int .i64 m ∧
    (g 0 = true → sl ac 34 = .agg #[.int .i64 d, .int .i64 t]) ∧
    (g 1 = true → sl ac 35 = .agg #[.int .i64 (figLog ⟨d, t⟩).lo, .int .i64 (figLog ⟨d, t⟩).hi]) ∧
    (g 2 = true → sl ac 36 = .int .i64 n) ∧
    (g 3 = true → sl ac 37 = .int .i64 m) ∧
    (g 4 = true → sl ac 38 = .agg #[.int .i64 X, .int .i64 Y]) ∧
    (g 5 = true → sl ac 39 = .pointer (some ⟨w.heap.size + 1, 0, none⟩)) ∧
    (g 6 = true → sl ac 40 = .int .i64 d2) ∧
    (g 7 = true → sl ac 41 = .int .i64 (d2 * 100000)) ∧
    (g 8 = true → sl ac 42 = .agg #[.int .i64 Z, .int .i64 V]) ∧
    Later w wc ∧
    (g 9 = true → ∃ k, sl ac 13 = .pointer (some ⟨k, 0, none⟩) ∧ w2.heap.size ≤ k ∧ ∃ p9_0 p9_1, wc.heap[k]? = some (.cells #[p9_0, p9_1] 63 (0, 0)) ∧ (g 11 = true → p9_0 = .int .i64 X ∧ p9_1 = .int .i64 Y)) ∧
    (g 10 = true → ∃ k, sl ac 14 = .pointer (some ⟨k, 0, none⟩) ∧ w2.heap.size ≤ k ∧ ∃ p10_0 p10_1, wc.heap[k]? = some (.cells #[p10_0, p10_1] 63 (0, 0)) ∧ (g 12 = true → p10_0 = .int .i64 Z ∧ p10_1 = .int .i64 V)) ∧
    (g 9 = true → g 10 = true → sl ac 13 ≠ sl ac 14) ∧
    (g 11 = true → g 9 = true) ∧
    (g 12 = true → g 10 = true) ∧
    w2.heap.size ≤ wc.heap.size ∧
    wc.heap[w.heap.size]? = some (.cells #[.int .i64 d, .int .i64 t] 56 (0, 0)) ∧
    wc.heap[w.heap.size + 1]? = some (.cells #[.int .i64 d2, .int .i64 t2] 56 (0, 0)) ∧
    wc.heap[w.heap.size + 1 + 1]? = some (.cells #[.int .i64 0, .int .i64 0] 56 (0, 0))) (by kernel_rfl) (by kernel_rfl) rfl (by kernel_rfl) ?_ ?_ ?_
  · exact ⟨rfl, rfl, rfl, rfl, nofun, nofun, nofun, nofun, nofun, nofun, nofun, nofun, nofun, hL0.drew, nofun, nofun, nofun, nofun, nofun, Nat.le_refl _, K0, K1, K2⟩
  · intro g ac wc hg ha hI
    obtain ⟨x6, x7, x11, x12, i0, i1, i2, i3, i4, i5, i6, i7, i8, hL, i9, i10, n9_10, -, -, hS, B0, B1, B2⟩ := hI
    obtain ⟨k9, e9, b9, p9_0, p9_1, K9, g9⟩ := i9 (hg 9 (by simp))
    have g9 := g9 (hg 11 (by simp))
    rw [g9.1, g9.2] at K9
    obtain ⟨k10, e10, b10, p10_0, p10_1, K10, g10⟩ := i10 (hg 10 (by simp))
    have g10 := g10 (hg 12 (by simp))
    rw [g10.1, g10.2] at K10
    have a0 := i0 (hg 0 (by simp))
    have a1 := i1 (hg 1 (by simp))
    have a2 := i2 (hg 2 (by simp))
    have a3 := i3 (hg 3 (by simp))
    have a4 := i4 (hg 4 (by simp))
    have a5 := i5 (hg 5 (by simp))
    have a6 := i6 (hg 6 (by simp))
    have a7 := i7 (hg 7 (by simp))
    have a8 := i8 (hg 8 (by simp))
    have hne9_10 : k9 ≠ k10 := fun hh => n9_10 (hg 9 (by simp)) (hg 10 (by simp)) (by rw [e9, e10, hh])
    simp only [putAll, a0, a1, a2, a3, a4, a5, a6, a7, a8, e9, e10] at ha
    simp only [Act.put, List.setIfInBounds_toArray, List.set_cons_succ, List.set_cons_zero] at ha
    rw [ha]
    clear x6 x7 x11 x12 i0 i1 i2 i3 i4 i5 i6 i7 i8 i9 i10 a0 a1 a2 a3 a4 a5 a6 a7 a8 e9 e10 n9_10 g9 g10 hg ha
    have c9 := (blk_at K9).1
    have f9 := (blk_at K9).2.1
    have y9 := (blk_at K9).2.2
    have c10 := (blk_at K10).1
    have f10 := (blk_at K10).2.1
    have y10 := (blk_at K10).2.2
    have c1 := (blk_at B1).1
    have f1 := (blk_at B1).2.1
    have y1 := (blk_at B1).2.2
    have HB2 := Lib.hid B2
    clear K9 K10 B0 B1 B2 hL0
    go_wp2_with fail
    refine (w_l01Floor _ _ (by decide) (by decide) (by omega) (by omega) _).mono ?_
    rintro e w5 ⟨rfl, rfl⟩
    rw [HQ.out]
    by_cases hq : 1048576 < X + Y - Z - V - 2097152 * q
    all_goals
      first
        | rw [if_pos hq] at hpt
        | rw [if_neg hq] at hpt
      have HP := Lib.hid hpt
      clear hpt
      go_wp2_with fail
      refine (w_l02Result _ _ _).mono ?_
      rintro e w6 ⟨rfl, hL6⟩
      rw [← HP.out]
      obtain ⟨c2, f2, y2⟩ := blk_at (hL6.keep HB2.out)
      go_wp2
      refine bodyPost_ret (v := .tuple #[.agg #[.int .i64 (limF ⟨d2, placeT (X + Y - Z - V)⟩).d, .int .i64 (limF ⟨d2, placeT (X + Y - Z - V)⟩).t], .int .i64 (codeLim ⟨d2, placeT (X + Y - Z - V)⟩)]) (by simp [results, Try.results44, go_sem, c2, y2]) rfl ⟨by rw [HF.out, HC.out], by (repeat (with_reducible first | exact Later.refl _ | refine Later.alloc ?_ _ | refine Later.drew ?_ | refine Later.drewN ?_ _ | refine Later.setCell ?_ (by simp; try omega) _ | refine Later.trans ?_ (by assumption)))⟩
  · refine .cons ?_ (.cons ?_ (.cons ?_ (.cons ?_ (.cons ?_ (.cons ?_ (.cons ?_ (.cons ?_ (.cons ?_ (.cons ?_ (.cons ?_ (.cons ?_ (.cons ?_ .nil))))))))))))
    · unfold SlotStep
      intro g ac wc hn hk hr hI K' hK
      obtain ⟨x6, x7, x11, x12, i0, i1, i2, i3, i4, i5, i6, i7, i8, hL, i9, i10, n9_10, q9, q10, hS, B0, B1, B2⟩ := hI
      simp only [Region.binds] at hr
      simp at hr
      replace hK := Lib.hid hK
      replace i0 := Lib.hid i0
      replace i1 := Lib.hid i1
      replace i2 := Lib.hid i2
      replace i3 := Lib.hid i3
      replace i4 := Lib.hid i4
      replace i5 := Lib.hid i5
      replace i6 := Lib.hid i6
      replace i7 := Lib.hid i7
      replace i8 := Lib.hid i8
      have hbb := blk_at B0
      have c0 := hbb.1
      have f0 := hbb.2.1
      have z0 := hbb.2.2
      clear hbb
      go_simp
      exact hK.out _ _ ⟨(keepB x6 (by decide)), (keepB x7 (by decide)), (keepB x11 (by decide)), (keepB x12 (by decide)), (fun _ => put_eq (by omega)), (keepF i1.out (by decide)), (keepF i2.out (by decide)), (keepF i3.out (by decide)), (keepF i4.out (by decide)), (keepF i5.out (by decide)), (keepF i6.out (by decide)), (keepF i7.out (by decide)), (keepF i8.out (by decide)), hL, (fun j => by obtain ⟨k, e1, e2, p9_0, p9_1, e3, e4⟩ := i9 j; exact ⟨k, (put_ne (by decide)).trans e1, e2, p9_0, p9_1, e3, e4⟩), (fun j => by obtain ⟨k, e1, e2, p10_0, p10_1, e3, e4⟩ := i10 j; exact ⟨k, (put_ne (by decide)).trans e1, e2, p10_0, p10_1, e3, e4⟩), (fun j j' => by rw [put_ne (by decide), put_ne (by decide)]; exact n9_10 j j'), q9, q10, hS, B0, B1, B2⟩
    · unfold SlotStep
      intro g ac wc hn hk hr hI K' hK
      obtain ⟨x6, x7, x11, x12, i0, i1, i2, i3, i4, i5, i6, i7, i8, hL, i9, i10, n9_10, q9, q10, hS, B0, B1, B2⟩ := hI
      simp only [Region.binds] at hr
      simp at hr
      replace hK := Lib.hid hK
      have y0 := i0 (by first | exact hr | exact hr.1 | exact hr.2 | exact hr.2.1 | exact hr.2.2 | exact hr.2.2.1 | exact hr.2.2.2 | simp [hr])
      replace i0 := Lib.hid i0
      replace i1 := Lib.hid i1
      replace i2 := Lib.hid i2
      replace i3 := Lib.hid i3
      replace i4 := Lib.hid i4
      replace i5 := Lib.hid i5
      replace i6 := Lib.hid i6
      replace i7 := Lib.hid i7
      replace i8 := Lib.hid i8
      go_simp
      refine (w_l03Figure _ _ t1 t3 t5 t6 _).mono ?_
      rintro e w4 ⟨rfl, hL4⟩
      exact hK.out _ _ ⟨(keepB x6 (by decide)), (keepB x7 (by decide)), (keepB x11 (by decide)), (keepB x12 (by decide)), (keepF i0.out (by decide)), (fun _ => put_eq (by omega)), (keepF i2.out (by decide)), (keepF i3.out (by decide)), (keepF i4.out (by decide)), (keepF i5.out (by decide)), (keepF i6.out (by decide)), (keepF i7.out (by decide)), (keepF i8.out (by decide)), hL.trans hL4, (fun j => by obtain ⟨k, e1, e2, p9_0, p9_1, e3, e4⟩ := i9 j; exact ⟨k, (put_ne (by decide)).trans e1, e2, p9_0, p9_1, hL4.keep e3, e4⟩), (fun j => by obtain ⟨k, e1, e2, p10_0, p10_1, e3, e4⟩ := i10 j; exact ⟨k, (put_ne (by decide)).trans e1, e2, p10_0, p10_1, hL4.keep e3, e4⟩), (fun j j' => by rw [put_ne (by decide), put_ne (by decide)]; exact n9_10 j j'), q9, q10, Nat.le_trans hS hL4.size, hL4.keep B0, hL4.keep B1, hL4.keep B2⟩
    · unfold SlotStep
      intro g ac wc hn hk hr hI K' hK
      obtain ⟨x6, x7, x11, x12, i0, i1, i2, i3, i4, i5, i6, i7, i8, hL, i9, i10, n9_10, q9, q10, hS, B0, B1, B2⟩ := hI
      simp only [Region.binds] at hr
      simp at hr
      replace hK := Lib.hid hK
      replace i0 := Lib.hid i0
      replace i1 := Lib.hid i1
      replace i2 := Lib.hid i2
      replace i3 := Lib.hid i3
      replace i4 := Lib.hid i4
      replace i5 := Lib.hid i5
      replace i6 := Lib.hid i6
      replace i7 := Lib.hid i7
      replace i8 := Lib.hid i8
      go_simp
      exact hK.out _ _ ⟨(keepB x6 (by decide)), (keepB x7 (by decide)), (keepB x11 (by decide)), (keepB x12 (by decide)), (keepF i0.out (by decide)), (keepF i1.out (by decide)), (fun _ => put_eq (by omega)), (keepF i3.out (by decide)), (keepF i4.out (by decide)), (keepF i5.out (by decide)), (keepF i6.out (by decide)), (keepF i7.out (by decide)), (keepF i8.out (by decide)), hL, (fun j => by obtain ⟨k, e1, e2, p9_0, p9_1, e3, e4⟩ := i9 j; exact ⟨k, (put_ne (by decide)).trans e1, e2, p9_0, p9_1, e3, e4⟩), (fun j => by obtain ⟨k, e1, e2, p10_0, p10_1, e3, e4⟩ := i10 j; exact ⟨k, (put_ne (by decide)).trans e1, e2, p10_0, p10_1, e3, e4⟩), (fun j j' => by rw [put_ne (by decide), put_ne (by decide)]; exact n9_10 j j'), q9, q10, hS, B0, B1, B2⟩
    · unfold SlotStep
      intro g ac wc hn hk hr hI K' hK
      obtain ⟨x6, x7, x11, x12, i0, i1, i2, i3, i4, i5, i6, i7, i8, hL, i9, i10, n9_10, q9, q10, hS, B0, B1, B2⟩ := hI
      simp only [Region.binds] at hr
      simp at hr
      replace hK := Lib.hid hK
      replace i0 := Lib.hid i0
      replace i1 := Lib.hid i1
      replace i2 := Lib.hid i2
      replace i3 := Lib.hid i3
      replace i4 := Lib.hid i4
      replace i5 := Lib.hid i5
      replace i6 := Lib.hid i6
      replace i7 := Lib.hid i7
      replace i8 := Lib.hid i8
      go_simp
      exact hK.out _ _ ⟨(keepB x6 (by decide)), (keepB x7 (by decide)), (keepB x11 (by decide)), (keepB x12 (by decide)), (keepF i0.out (by decide)), (keepF i1.out (by decide)), (keepF i2.out (by decide)), (fun _ => put_eq (by omega)), (keepF i4.out (by decide)), (keepF i5.out (by decide)), (keepF i6.out (by decide)), (keepF i7.out (by decide)), (keepF i8.out (by decide)), hL, (fun j => by obtain ⟨k, e1, e2, p9_0, p9_1, e3, e4⟩ := i9 j; exact ⟨k, (put_ne (by decide)).trans e1, e2, p9_0, p9_1, e3, e4⟩), (fun j => by obtain ⟨k, e1, e2, p10_0, p10_1, e3, e4⟩ := i10 j; exact ⟨k, (put_ne (by decide)).trans e1, e2, p10_0, p10_1, e3, e4⟩), (fun j j' => by rw [put_ne (by decide), put_ne (by decide)]; exact n9_10 j j'), q9, q10, hS, B0, B1, B2⟩
    · unfold SlotStep
      intro g ac wc hn hk hr hI K' hK
      obtain ⟨x6, x7, x11, x12, i0, i1, i2, i3, i4, i5, i6, i7, i8, hL, i9, i10, n9_10, q9, q10, hS, B0, B1, B2⟩ := hI
      simp only [Region.binds] at hr
      simp at hr
      replace hK := Lib.hid hK
      have y1 := i1 (by first | exact hr | exact hr.1 | exact hr.2 | exact hr.2.1 | exact hr.2.2 | exact hr.2.2.1 | exact hr.2.2.2 | simp [hr])
      have y2 := i2 (by first | exact hr | exact hr.1 | exact hr.2 | exact hr.2.1 | exact hr.2.2 | exact hr.2.2.1 | exact hr.2.2.2 | simp [hr])
      have y3 := i3 (by first | exact hr | exact hr.1 | exact hr.2 | exact hr.2.1 | exact hr.2.2 | exact hr.2.2.1 | exact hr.2.2.2 | simp [hr])
      replace i0 := Lib.hid i0
      replace i1 := Lib.hid i1
      replace i2 := Lib.hid i2
      replace i3 := Lib.hid i3
      replace i4 := Lib.hid i4
      replace i5 := Lib.hid i5
      replace i6 := Lib.hid i6
      replace i7 := Lib.hid i7
      replace i8 := Lib.hid i8
      go_simp
      refine (w_l03Scale _ _ _ _ q1 q2 q3 q4 n1 n2 m1 m2 _).mono ?_
      rintro e w4 ⟨rfl, hL4⟩
      rw [HX.out, HY.out]
      exact hK.out _ _ ⟨(keepB x6 (by decide)), (keepB x7 (by decide)), (keepB x11 (by decide)), (keepB x12 (by decide)), (keepF i0.out (by decide)), (keepF i1.out (by decide)), (keepF i2.out (by decide)), (keepF i3.out (by decide)), (fun _ => put_eq (by omega)), (keepF i5.out (by decide)), (keepF i6.out (by decide)), (keepF i7.out (by decide)), (keepF i8.out (by decide)), hL.trans hL4, (fun j => by obtain ⟨k, e1, e2, p9_0, p9_1, e3, e4⟩ := i9 j; exact ⟨k, (put_ne (by decide)).trans e1, e2, p9_0, p9_1, hL4.keep e3, e4⟩), (fun j => by obtain ⟨k, e1, e2, p10_0, p10_1, e3, e4⟩ := i10 j; exact ⟨k, (put_ne (by decide)).trans e1, e2, p10_0, p10_1, hL4.keep e3, e4⟩), (fun j j' => by rw [put_ne (by decide), put_ne (by decide)]; exact n9_10 j j'), q9, q10, Nat.le_trans hS hL4.size, hL4.keep B0, hL4.keep B1, hL4.keep B2⟩
    · unfold SlotStep
      intro g ac wc hn hk hr hI K' hK
      obtain ⟨x6, x7, x11, x12, i0, i1, i2, i3, i4, i5, i6, i7, i8, hL, i9, i10, n9_10, q9, q10, hS, B0, B1, B2⟩ := hI
      simp only [Region.binds] at hr
      simp at hr
      replace hK := Lib.hid hK
      replace i0 := Lib.hid i0
      replace i1 := Lib.hid i1
      replace i2 := Lib.hid i2
      replace i3 := Lib.hid i3
      replace i4 := Lib.hid i4
      replace i5 := Lib.hid i5
      replace i6 := Lib.hid i6
      replace i7 := Lib.hid i7
      replace i8 := Lib.hid i8
      go_simp
      exact hK.out _ _ ⟨(keepB x6 (by decide)), (keepB x7 (by decide)), (keepB x11 (by decide)), (keepB x12 (by decide)), (keepF i0.out (by decide)), (keepF i1.out (by decide)), (keepF i2.out (by decide)), (keepF i3.out (by decide)), (keepF i4.out (by decide)), (fun _ => put_eq (by omega)), (keepF i6.out (by decide)), (keepF i7.out (by decide)), (keepF i8.out (by decide)), hL, (fun j => by obtain ⟨k, e1, e2, p9_0, p9_1, e3, e4⟩ := i9 j; exact ⟨k, (put_ne (by decide)).trans e1, e2, p9_0, p9_1, e3, e4⟩), (fun j => by obtain ⟨k, e1, e2, p10_0, p10_1, e3, e4⟩ := i10 j; exact ⟨k, (put_ne (by decide)).trans e1, e2, p10_0, p10_1, e3, e4⟩), (fun j j' => by rw [put_ne (by decide), put_ne (by decide)]; exact n9_10 j j'), q9, q10, hS, B0, B1, B2⟩
    · unfold SlotStep
      intro g ac wc hn hk hr hI K' hK
      obtain ⟨x6, x7, x11, x12, i0, i1, i2, i3, i4, i5, i6, i7, i8, hL, i9, i10, n9_10, q9, q10, hS, B0, B1, B2⟩ := hI
      simp only [Region.binds] at hr
      simp at hr
      replace hK := Lib.hid hK
      have y5 := i5 (by first | exact hr | exact hr.1 | exact hr.2 | exact hr.2.1 | exact hr.2.2 | exact hr.2.2.1 | exact hr.2.2.2 | simp [hr])
      replace i0 := Lib.hid i0
      replace i1 := Lib.hid i1
      replace i2 := Lib.hid i2
      replace i3 := Lib.hid i3
      replace i4 := Lib.hid i4
      replace i5 := Lib.hid i5
      replace i6 := Lib.hid i6
      replace i7 := Lib.hid i7
      replace i8 := Lib.hid i8
      have hbb := blk_at B1
      have c0 := hbb.1
      have f0 := hbb.2.1
      have z0 := hbb.2.2
      clear hbb
      go_simp
      exact hK.out _ _ ⟨(keepB x6 (by decide)), (keepB x7 (by decide)), (keepB x11 (by decide)), (keepB x12 (by decide)), (keepF i0.out (by decide)), (keepF i1.out (by decide)), (keepF i2.out (by decide)), (keepF i3.out (by decide)), (keepF i4.out (by decide)), (keepF i5.out (by decide)), (fun _ => put_eq (by omega)), (keepF i7.out (by decide)), (keepF i8.out (by decide)), hL, (fun j => by obtain ⟨k, e1, e2, p9_0, p9_1, e3, e4⟩ := i9 j; exact ⟨k, (put_ne (by decide)).trans e1, e2, p9_0, p9_1, e3, e4⟩), (fun j => by obtain ⟨k, e1, e2, p10_0, p10_1, e3, e4⟩ := i10 j; exact ⟨k, (put_ne (by decide)).trans e1, e2, p10_0, p10_1, e3, e4⟩), (fun j j' => by rw [put_ne (by decide), put_ne (by decide)]; exact n9_10 j j'), q9, q10, hS, B0, B1, B2⟩
    · unfold SlotStep
      intro g ac wc hn hk hr hI K' hK
      obtain ⟨x6, x7, x11, x12, i0, i1, i2, i3, i4, i5, i6, i7, i8, hL, i9, i10, n9_10, q9, q10, hS, B0, B1, B2⟩ := hI
      simp only [Region.binds] at hr
      simp at hr
      replace hK := Lib.hid hK
      have y6 := i6 (by first | exact hr | exact hr.1 | exact hr.2 | exact hr.2.1 | exact hr.2.2 | exact hr.2.2.1 | exact hr.2.2.2 | simp [hr])
      replace i0 := Lib.hid i0
      replace i1 := Lib.hid i1
      replace i2 := Lib.hid i2
      replace i3 := Lib.hid i3
      replace i4 := Lib.hid i4
      replace i5 := Lib.hid i5
      replace i6 := Lib.hid i6
      replace i7 := Lib.hid i7
      replace i8 := Lib.hid i8
      have wD : IntKind.i64.wrap (d2 * 100000) = d2 * 100000 := wrap_same (by omega) (by omega)
      go_simp
      exact hK.out _ _ ⟨(keepB x6 (by decide)), (keepB x7 (by decide)), (keepB x11 (by decide)), (keepB x12 (by decide)), (keepF i0.out (by decide)), (keepF i1.out (by decide)), (keepF i2.out (by decide)), (keepF i3.out (by decide)), (keepF i4.out (by decide)), (keepF i5.out (by decide)), (keepF i6.out (by decide)), (fun _ => put_eq (by omega)), (keepF i8.out (by decide)), hL, (fun j => by obtain ⟨k, e1, e2, p9_0, p9_1, e3, e4⟩ := i9 j; exact ⟨k, (put_ne (by decide)).trans e1, e2, p9_0, p9_1, e3, e4⟩), (fun j => by obtain ⟨k, e1, e2, p10_0, p10_1, e3, e4⟩ := i10 j; exact ⟨k, (put_ne (by decide)).trans e1, e2, p10_0, p10_1, e3, e4⟩), (fun j j' => by rw [put_ne (by decide), put_ne (by decide)]; exact n9_10 j j'), q9, q10, hS, B0, B1, B2⟩
    · unfold SlotStep
      intro g ac wc hn hk hr hI K' hK
      obtain ⟨x6, x7, x11, x12, i0, i1, i2, i3, i4, i5, i6, i7, i8, hL, i9, i10, n9_10, q9, q10, hS, B0, B1, B2⟩ := hI
      simp only [Region.binds] at hr
      simp at hr
      replace hK := Lib.hid hK
      have y7 := i7 (by first | exact hr | exact hr.1 | exact hr.2 | exact hr.2.1 | exact hr.2.2 | exact hr.2.2.1 | exact hr.2.2.2 | simp [hr])
      replace i0 := Lib.hid i0
      replace i1 := Lib.hid i1
      replace i2 := Lib.hid i2
      replace i3 := Lib.hid i3
      replace i4 := Lib.hid i4
      replace i5 := Lib.hid i5
      replace i6 := Lib.hid i6
      replace i7 := Lib.hid i7
      replace i8 := Lib.hid i8
      go_simp
      refine (w_l03Log _ u1 u2 _).mono ?_
      rintro e w4 ⟨rfl, hL4⟩
      rw [HZ.out, HV.out]
      exact hK.out _ _ ⟨(keepB x6 (by decide)), (keepB x7 (by decide)), (keepB x11 (by decide)), (keepB x12 (by decide)), (keepF i0.out (by decide)), (keepF i1.out (by decide)), (keepF i2.out (by decide)), (keepF i3.out (by decide)), (keepF i4.out (by decide)), (keepF i5.out (by decide)), (keepF i6.out (by decide)), (keepF i7.out (by decide)), (fun _ => put_eq (by omega)), hL.trans hL4, (fun j => by obtain ⟨k, e1, e2, p9_0, p9_1, e3, e4⟩ := i9 j; exact ⟨k, (put_ne (by decide)).trans e1, e2, p9_0, p9_1, hL4.keep e3, e4⟩), (fun j => by obtain ⟨k, e1, e2, p10_0, p10_1, e3, e4⟩ := i10 j; exact ⟨k, (put_ne (by decide)).trans e1, e2, p10_0, p10_1, hL4.keep e3, e4⟩), (fun j j' => by rw [put_ne (by decide), put_ne (by decide)]; exact n9_10 j j'), q9, q10, Nat.le_trans hS hL4.size, hL4.keep B0, hL4.keep B1, hL4.keep B2⟩
    · unfold SlotStep
      intro g ac wc hn hk hr hI K' hK
      obtain ⟨x6, x7, x11, x12, i0, i1, i2, i3, i4, i5, i6, i7, i8, hL, i9, i10, n9_10, q9, q10, hS, B0, B1, B2⟩ := hI
      simp only [Region.binds] at hr
      simp at hr
      replace hK := Lib.hid hK
      replace i0 := Lib.hid i0
      replace i1 := Lib.hid i1
      replace i2 := Lib.hid i2
      replace i3 := Lib.hid i3
      replace i4 := Lib.hid i4
      replace i5 := Lib.hid i5
      replace i6 := Lib.hid i6
      replace i7 := Lib.hid i7
      replace i8 := Lib.hid i8
      go_simp
      refine hK.out _ _ ⟨(keepB x6 (by decide)), (keepB x7 (by decide)), (keepB x11 (by decide)), (keepB x12 (by decide)), (keepF i0.out (by decide)), (keepF i1.out (by decide)), (keepF i2.out (by decide)), (keepF i3.out (by decide)), (keepF i4.out (by decide)), (keepF i5.out (by decide)), (keepF i6.out (by decide)), (keepF i7.out (by decide)), (keepF i8.out (by decide)), hL.alloc _, (fun _ => ⟨_, put_eq (by omega), hS, _, _, heap_alloc_new _ _, fun j6 => absurd ((q9 j6).symm.trans hk) (by simp)⟩), (fun j => by obtain ⟨k, e1, e2, p10_0, p10_1, e3, e4⟩ := i10 j; exact ⟨k, (put_ne (by decide)).trans e1, e2, p10_0, p10_1, heap_alloc_old _ _ e3, e4⟩), ?_, fun _ => rfl, q10, (by simp; omega), heap_alloc_old _ _ B0, heap_alloc_old _ _ B1, heap_alloc_old _ _ B2⟩
      · intro j j'
        obtain ⟨k, e1, e2, p10_0, p10_1, e3, e4⟩ := i10 j'
        have hlt := (Array.getElem?_eq_some_iff.1 e3).1
        have o1 : sl (ac.put (some 13) (.pointer (some ⟨wc.heap.size, 0, none⟩))) 14 = .pointer (some ⟨k, 0, none⟩) := (put_ne (by decide)).trans e1
        have o2 : sl (ac.put (some 13) (.pointer (some ⟨wc.heap.size, 0, none⟩))) 13 = .pointer (some ⟨wc.heap.size, 0, none⟩) := put_eq (by omega)
        intro hh
        have hh2 := (o2.symm.trans hh).trans o1
        simp at hh2 <;> omega
    · unfold SlotStep
      intro g ac wc hn hk hr hI K' hK
      obtain ⟨x6, x7, x11, x12, i0, i1, i2, i3, i4, i5, i6, i7, i8, hL, i9, i10, n9_10, q9, q10, hS, B0, B1, B2⟩ := hI
      simp only [Region.binds] at hr
      simp at hr
      replace hK := Lib.hid hK
      replace i0 := Lib.hid i0
      replace i1 := Lib.hid i1
      replace i2 := Lib.hid i2
      replace i3 := Lib.hid i3
      replace i4 := Lib.hid i4
      replace i5 := Lib.hid i5
      replace i6 := Lib.hid i6
      replace i7 := Lib.hid i7
      replace i8 := Lib.hid i8
      go_simp
      refine hK.out _ _ ⟨(keepB x6 (by decide)), (keepB x7 (by decide)), (keepB x11 (by decide)), (keepB x12 (by decide)), (keepF i0.out (by decide)), (keepF i1.out (by decide)), (keepF i2.out (by decide)), (keepF i3.out (by decide)), (keepF i4.out (by decide)), (keepF i5.out (by decide)), (keepF i6.out (by decide)), (keepF i7.out (by decide)), (keepF i8.out (by decide)), hL.alloc _, (fun j => by obtain ⟨k, e1, e2, p9_0, p9_1, e3, e4⟩ := i9 j; exact ⟨k, (put_ne (by decide)).trans e1, e2, p9_0, p9_1, heap_alloc_old _ _ e3, e4⟩), (fun _ => ⟨_, put_eq (by omega), hS, _, _, heap_alloc_new _ _, fun j6 => absurd ((q10 j6).symm.trans hk) (by simp)⟩), ?_, q9, fun _ => rfl, (by simp; omega), heap_alloc_old _ _ B0, heap_alloc_old _ _ B1, heap_alloc_old _ _ B2⟩
      · intro j j'
        obtain ⟨k, e1, e2, p9_0, p9_1, e3, e4⟩ := i9 j
        have hlt := (Array.getElem?_eq_some_iff.1 e3).1
        have o1 : sl (ac.put (some 14) (.pointer (some ⟨wc.heap.size, 0, none⟩))) 13 = .pointer (some ⟨k, 0, none⟩) := (put_ne (by decide)).trans e1
        have o2 : sl (ac.put (some 14) (.pointer (some ⟨wc.heap.size, 0, none⟩))) 14 = .pointer (some ⟨wc.heap.size, 0, none⟩) := put_eq (by omega)
        intro hh
        have hh2 := (o1.symm.trans hh).trans o2
        simp at hh2 <;> omega
    · unfold SlotStep
      intro g ac wc hn hk hr hI K' hK
      obtain ⟨x6, x7, x11, x12, i0, i1, i2, i3, i4, i5, i6, i7, i8, hL, i9, i10, n9_10, q9, q10, hS, B0, B1, B2⟩ := hI
      simp only [Region.binds] at hr
      simp at hr
      replace hK := Lib.hid hK
      have y4 := i4 (by first | exact hr | exact hr.1 | exact hr.2 | exact hr.2.1 | exact hr.2.2 | exact hr.2.2.1 | exact hr.2.2.2 | simp [hr])
      replace i0 := Lib.hid i0
      replace i1 := Lib.hid i1
      replace i2 := Lib.hid i2
      replace i3 := Lib.hid i3
      replace i4 := Lib.hid i4
      replace i5 := Lib.hid i5
      replace i6 := Lib.hid i6
      replace i7 := Lib.hid i7
      replace i8 := Lib.hid i8
      have hda : g 9 = true := by first | exact hr | exact hr.1 | exact hr.2 | exact hr.2.1 | exact hr.2.2 | exact hr.2.2.1 | exact hr.2.2.2 | simp [hr]
      obtain ⟨k, e1, e2, p9_0, p9_1, e3, -⟩ := i9 hda
      have c0 := (blk_at e3).1
      have f0 := (blk_at e3).2.1
      have z0 := (blk_at e3).2.2
      go_simp
      exact hK.out undef _ ⟨x6, x7, x11, x12, i0.out, i1.out, i2.out, i3.out, i4.out, i5.out, i6.out, i7.out, i8.out, ((hL.setCell (Nat.le_trans hSB e2) _).setCell (Nat.le_trans hSB e2) _), (fun _ => ⟨k, e1, e2, _, _, two_set e3 _ _, fun _ => ⟨rfl, rfl⟩⟩), (fun j => by obtain ⟨k', e1', e2', p10_0, p10_1, e3', e4'⟩ := i10 j; have hne : k' ≠ k := (fun hh => n9_10 hda j (by rw [e1, e1', hh])); exact ⟨k', e1', e2', p10_0, p10_1, (other_set (other_set e3' hne _) hne _), e4'⟩), n9_10, (fun _ => hda), q10, (by simp; omega), (other_set (other_set B0 (by omega) _) (by omega) _), (other_set (other_set B1 (by omega) _) (by omega) _), (other_set (other_set B2 (by omega) _) (by omega) _)⟩
    · unfold SlotStep
      intro g ac wc hn hk hr hI K' hK
      obtain ⟨x6, x7, x11, x12, i0, i1, i2, i3, i4, i5, i6, i7, i8, hL, i9, i10, n9_10, q9, q10, hS, B0, B1, B2⟩ := hI
      simp only [Region.binds] at hr
      simp at hr
      replace hK := Lib.hid hK
      have y8 := i8 (by first | exact hr | exact hr.1 | exact hr.2 | exact hr.2.1 | exact hr.2.2 | exact hr.2.2.1 | exact hr.2.2.2 | simp [hr])
      replace i0 := Lib.hid i0
      replace i1 := Lib.hid i1
      replace i2 := Lib.hid i2
      replace i3 := Lib.hid i3
      replace i4 := Lib.hid i4
      replace i5 := Lib.hid i5
      replace i6 := Lib.hid i6
      replace i7 := Lib.hid i7
      replace i8 := Lib.hid i8
      have hda : g 10 = true := by first | exact hr | exact hr.1 | exact hr.2 | exact hr.2.1 | exact hr.2.2 | exact hr.2.2.1 | exact hr.2.2.2 | simp [hr]
      obtain ⟨k, e1, e2, p10_0, p10_1, e3, -⟩ := i10 hda
      have c0 := (blk_at e3).1
      have f0 := (blk_at e3).2.1
      have z0 := (blk_at e3).2.2
      go_simp
      exact hK.out undef _ ⟨x6, x7, x11, x12, i0.out, i1.out, i2.out, i3.out, i4.out, i5.out, i6.out, i7.out, i8.out, ((hL.setCell (Nat.le_trans hSB e2) _).setCell (Nat.le_trans hSB e2) _), (fun j => by obtain ⟨k', e1', e2', p9_0, p9_1, e3', e4'⟩ := i9 j; have hne : k' ≠ k := (fun hh => n9_10 j hda (by rw [e1, e1', hh])); exact ⟨k', e1', e2', p9_0, p9_1, (other_set (other_set e3' hne _) hne _), e4'⟩), (fun _ => ⟨k, e1, e2, _, _, two_set e3 _ _, fun _ => ⟨rfl, rfl⟩⟩), n9_10, q9, (fun _ => hda), (by simp; omega), (other_set (other_set B0 (by omega) _) (by omega) _), (other_set (other_set B1 (by omega) _) (by omega) _), (other_set (other_set B2 (by omega) _) (by omega) _)⟩

end Go.Proofs.Ytcnbnlmoohieoaa
