/- DERIVED. Walks: figures that are limited, placed, listed; distances; the exponent of a transfer. -/
import Derived.Test.YtkoojngonldcbaaM17
import Derived.Test.YtkoojngonldcbaaM11
import Derived.Test.YtkoojngonldcbaaM13
import Derived.Test.YtkoojngonldcbaaPA
import Derived.Test.YtkoojngonldcbaaBA
namespace Go.Proofs.Ytkoojngonldcbaa
set_option linter.unusedVariables false
set_option linter.unusedSimpArgs false
open Go.RowKit
set_option maxRecDepth 100000

theorem w_limited (d t : Int) (w : World) :
    Calls Try.prog 153 #[.agg #[.int .i64 d, .int .i64 t]] w fun e w' => e = .returned (.tuple #[.agg #[.int .i64 (limF ⟨d, t⟩).d, .int .i64 (limF ⟨d, t⟩).t], .int .i64 (codeLim ⟨d, t⟩)]) ∧ Later w w' := by
  rcases codeLim_cases ⟨d, t⟩ with ⟨hi, h1, h2⟩ | ⟨hi, h1, h2⟩
  all_goals
    rw [h1, h2]
    have HI := Lib.hid hi
    clear hi h1 h2
    go_enter Try.func153, Try.ntmps153
    go_wp2_with fail
    refine (w_implIsFigure _ _ _).mono ?_
    rintro e w1 ⟨rfl, hL⟩
    rw [HI.out]
    obtain ⟨⟨c0, f0, z0⟩, ⟨c1, f1, z1⟩⟩ := blk2 hL
    go_wp2
    first
      | refine bodyPost_ret (v := .tuple #[.agg #[.int .i64 d, .int .i64 t], .int .i64 0]) (by simp [results, Try.results153, go_sem, c1, z1]) rfl ⟨rfl, by (repeat (with_reducible first | exact Later.refl _ | refine Later.alloc ?_ _ | refine Later.drew ?_ | refine Later.drewN ?_ _ | refine Later.setCell ?_ (by simp; try omega) _ | refine Later.trans ?_ (by assumption)))⟩
      | refine bodyPost_ret (v := .tuple #[.agg #[.int .i64 0, .int .i64 0], .int .i64 3]) (by simp [results, Try.results153, go_sem, c1, z1]) rfl ⟨rfl, by (repeat (with_reducible first | exact Later.refl _ | refine Later.alloc ?_ _ | refine Later.drew ?_ | refine Later.drewN ?_ _ | refine Later.setCell ?_ (by simp; try omega) _ | refine Later.trans ?_ (by assumption)))⟩

theorem w_l02Result (d t : Int) (w : World) :
    Calls Try.prog 101 #[.agg #[.int .i64 d, .int .i64 t]] w fun e w' => e = .returned (.tuple #[.agg #[.int .i64 (limF ⟨d, t⟩).d, .int .i64 (limF ⟨d, t⟩).t], .int .i64 (codeLim ⟨d, t⟩)]) ∧ Later w w' := by
  rcases codeLim_cases ⟨d, t⟩ with ⟨hi, h1, h2⟩ | ⟨hi, h1, h2⟩
  all_goals
    rw [h1, h2]
    have HI := Lib.hid hi
    clear hi h1 h2
    go_enter Try.func101, Try.ntmps101
    go_wp2_with fail
    refine (w_specIsFigure _ _ _).mono ?_
    rintro e w1 ⟨rfl, hL⟩
    rw [HI.out]
    obtain ⟨⟨c0, f0, z0⟩, ⟨c1, f1, z1⟩⟩ := blk2 hL
    go_wp2
    first
      | refine bodyPost_ret (v := .tuple #[.agg #[.int .i64 d, .int .i64 t], .int .i64 0]) (by simp [results, Try.results101, go_sem, c1, z1]) rfl ⟨rfl, by (repeat (with_reducible first | exact Later.refl _ | refine Later.alloc ?_ _ | refine Later.drew ?_ | refine Later.drewN ?_ _ | refine Later.setCell ?_ (by simp; try omega) _ | refine Later.trans ?_ (by assumption)))⟩
      | refine bodyPost_ret (v := .tuple #[.agg #[.int .i64 0, .int .i64 0], .int .i64 3]) (by simp [results, Try.results101, go_sem, c1, z1]) rfl ⟨rfl, by (repeat (with_reducible first | exact Later.refl _ | refine Later.alloc ?_ _ | refine Later.drew ?_ | refine Later.drewN ?_ _ | refine Later.setCell ?_ (by simp; try omega) _ | refine Later.trans ?_ (by assumption)))⟩

theorem w_areFigures (v : Value) (l : List Fig) (w : World) (h : IsFigs w v l) :
    Calls Try.prog 120 #[v] w fun e w' => e = .returned (.bool (l.all isFig)) ∧ Later w w' := by
  obtain ⟨hxl1, hn1, a1, cap1, rfl, hcap1, hmax1, hrow1⟩ := h
  have HR1 := Lib.hid hrow1
  clear hrow1 hxl1
  go_enter Try.func120, Try.ntmps120
  go_wp2
  go_loopw [7] (fun i wr => ∃ k : Nat, k ≤ l.length ∧ i = .int .i64 k ∧ Later w wr ∧ Hid ((l.take k).all isFig = true)) (fun i _ => l.length - (intOf i).toNat)
  case atStart => exact ⟨0, Nat.zero_le _, rfl, Later.refl _, by simp [Hid]⟩
  case round =>
    obtain ⟨k, hk, rfl, hL, HE⟩ := hrel
    by_cases hlt : k < l.length
    · obtain ⟨b1, off1, rfl, hr1⟩ := HR1.out (by omega)
      obtain ⟨t, ht1⟩ := get_ex (l := l) (k := k) (by omega)
      have HT1 := Lib.hid ht1
      obtain ⟨c1_0, c1_1⟩ := (hr1.later hL).fig ht1
      clear ht1
      cases hq : isFig t
      all_goals
        have HQ := Lib.hid hq
        clear hq
        go_wp2_with (go_at_call 90; refine (w_implIsFigure _ _ _).mono ?_; rintro e w1 ⟨rfl, hL1⟩; rw [show isFig ⟨t.d, t.t⟩ = _ from HQ.out])
      · have hf := all_false (p := isFig) HT1.out HQ.out
        go_ret
        exact ⟨by rw [hf]; rfl, by (repeat (with_reducible first | exact Later.refl _ | refine Later.alloc ?_ _ | refine Later.drew ?_ | refine Later.drewN ?_ _ | refine Later.setCell ?_ (by simp; try omega) _ | refine Later.trans ?_ (by assumption)))⟩
      · go_roundw
        case rel => exact ⟨k + 1, by omega, by go_num, by (repeat (with_reducible first | exact Later.refl _ | refine Later.alloc ?_ _ | refine Later.drew ?_ | refine Later.drewN ?_ _ | refine Later.setCell ?_ (by simp; try omega) _ | refine Later.trans ?_ (by assumption))), all_snoc HT1.out HE.out HQ.out⟩
        case measure => simp [intOf]; omega
    · have ha : l.all isFig = true := by
        have := HE.out
        rwa [take_eq_all (by omega)] at this
      have HA := Lib.hid ha
      clear ha
      go_wp2
      go_ret
      exact ⟨by rw [HA.out]; rfl, hL⟩

theorem w_distance (a b : Int) (h1 : -1000000000000000000 ≤ a) (h2 : a ≤ 1000000000000000000) (h3 : -1000000000000000000 ≤ b) (h4 : b ≤ 1000000000000000000) (w : World) :
    Calls Try.prog 152 #[.int .i64 a, .int .i64 b] w fun e w' => e = .returned (.int .i64 (max (a - b) (b - a))) ∧ w = w' := by
  rcases Int.lt_trichotomy a b with hm | hm | hm
  · have HE := Lib.hid (show max (a - b) (b - a) = b - a by omega)
    go_enter Try.func152, Try.ntmps152
    go_wp2
    go_ret
    exact ⟨by rw [HE.out]; rfl, rfl⟩
  · subst hm
    have HE := Lib.hid (show max (a - a) (a - a) = 0 by omega)
    go_enter Try.func152, Try.ntmps152
    go_wp2
    go_ret
    exact ⟨by rw [HE.out]; rfl, rfl⟩
  · have HE := Lib.hid (show max (a - b) (b - a) = a - b by omega)
    go_enter Try.func152, Try.ntmps152
    go_wp2
    go_ret
    exact ⟨by rw [HE.out]; rfl, rfl⟩

set_option maxHeartbeats 1000000 in
theorem w_placed (g a b : Int) (w : World) (g1 : 1000 ≤ g) (g2 : g ≤ 9999) (h1 : -1000000000000 ≤ a) (h2 : a ≤ 1000000000000) (h3 : -1000000000000 ≤ b) (h4 : b ≤ 1000000000000) :
    Calls Try.prog 98 #[.int .i64 g, .agg #[.int .i64 a, .int .i64 b]] w fun e w' => e = .returned (.tuple #[.agg #[.int .i64 (limF (placeF g ⟨a, b⟩)).d, .int .i64 (limF (placeF g ⟨a, b⟩)).t], .int .i64 (codeLim (placeF g ⟨a, b⟩))]) ∧ Later w w' := by
  have hbd := figLog_bd (f := ⟨g, 0⟩) g1 g2
  obtain ⟨x1, x2, x3, x4⟩ := hbd
  simp only at x1 x2 x3 x4
  have hg : gapOf g ⟨a, b⟩ = a + b - (figLog ⟨g, 0⟩).lo - (figLog ⟨g, 0⟩).hi := rfl
  obtain ⟨X, hX⟩ : ∃ X, (figLog ⟨g, 0⟩).lo = X := ⟨_, rfl⟩
  obtain ⟨Y, hY⟩ : ∃ Y, (figLog ⟨g, 0⟩).hi = Y := ⟨_, rfl⟩
  rw [hX] at x1 x2 hg
  rw [hY] at x3 x4 hg
  have HX := Lib.hid hX
  have HY := Lib.hid hY
  have hp : placeF g ⟨a, b⟩ = ⟨g, placeT (a + b - X - Y)⟩ := by rw [placeF, hg]
  rw [hp]
  clear hX hY hg hp
  have q0 : ∃ q, (a + b - X - Y) / 2097152 = q := ⟨_, rfl⟩
  obtain ⟨q, hq⟩ := q0
  have hpt : placeT (a + b - X - Y) = if 1048576 < a + b - X - Y - 2097152 * q then q + 1 else q := by rw [placeT, hq]
  have b1 : 2097152 * q ≤ a + b - X - Y := by omega
  have b2 : a + b - X - Y < 2097152 * q + 2097152 := by omega
  have HQ := Lib.hid hq
  clear hq
  by_cases ht : 1048576 < a + b - X - Y - 2097152 * q
  all_goals
    first
      | rw [if_pos ht] at hpt
      | rw [if_neg ht] at hpt
    have HP := Lib.hid hpt
    clear hpt
    go_enter Try.func98, Try.ntmps98
    go_wp2_with fail
    refine (w_figureLog _ _ g1 g2 (by omega) (by omega) _).mono ?_
    rintro e w1 ⟨rfl, hL⟩
    rw [HX.out, HY.out]
    obtain ⟨⟨c0, f0, z0⟩, ⟨c1, f1, z1⟩⟩ := blk2 hL
    go_wp2_with fail
    refine (w_down _ _ (by decide) (by decide) (by omega) (by omega) _).mono ?_
    rintro e w2 ⟨rfl, rfl⟩
    rw [HQ.out]
    go_wp2_with fail
    refine (w_distance _ _ (by omega) (by omega) (by omega) (by omega) _).mono ?_
    rintro e w2 ⟨rfl, rfl⟩
    go_wp2_with fail
    refine (w_distance _ _ (by omega) (by omega) (by omega) (by omega) _).mono ?_
    rintro e w2 ⟨rfl, rfl⟩
    first
      | have hd : max (a + b - X - Y - 2097152 * (q + 1)) (2097152 * (q + 1) - (a + b - X - Y)) < max (a + b - X - Y - 2097152 * q) (2097152 * q - (a + b - X - Y)) := by omega
      | have hd : ¬ max (a + b - X - Y - 2097152 * (q + 1)) (2097152 * (q + 1) - (a + b - X - Y)) < max (a + b - X - Y - 2097152 * q) (2097152 * q - (a + b - X - Y)) := by omega
    go_wp2_with fail
    refine (w_limited _ _ _).mono ?_
    rintro e w3 ⟨rfl, hL3⟩
    rw [← HP.out]
    have hk := hL3.keep (heap_alloc_old _ _ (kept2 hL).2)
    obtain ⟨c2, f2, z2⟩ := blk_at hk
    go_wp2
    refine bodyPost_ret (v := .tuple #[.agg #[.int .i64 (limF ⟨g, placeT (a + b - X - Y)⟩).d, .int .i64 (limF ⟨g, placeT (a + b - X - Y)⟩).t], .int .i64 (codeLim ⟨g, placeT (a + b - X - Y)⟩)]) (by simp [results, Try.results98, go_sem, c2, z2]) rfl ⟨rfl, by (repeat (with_reducible first | exact Later.refl _ | refine Later.alloc ?_ _ | refine Later.drew ?_ | refine Later.drewN ?_ _ | refine Later.setCell ?_ (by simp; try omega) _ | refine Later.trans ?_ (by assumption)))⟩

end Go.Proofs.Ytkoojngonldcbaa
