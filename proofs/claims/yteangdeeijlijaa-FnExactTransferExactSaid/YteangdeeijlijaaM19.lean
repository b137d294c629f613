/- DERIVED. Walks: PlaceTransfer. -/
import Derived.Test.YteangdeeijlijaaM18
import Derived.Test.YteangdeeijlijaaP4
import Derived.Test.YteangdeeijlijaaB3
namespace Go.Proofs.Yteangdeeijlijaa
set_option linter.unusedVariables false
set_option linter.unusedSimpArgs false
open Go.RowKit
set_option maxRecDepth 100000

theorem w_exponent (a b : Int) (w : World) :
    Calls Try.prog 87 #[.int .i64 a, .int .i64 b] w fun e w' => e = .returned (.tuple #[.int .i64 (expN a b), .int .i64 (expD a b)]) ∧ w = w' := by
  have h1 := ordScale_bd a
  have h2 := ordScale_bd b
  obtain ⟨x, hx⟩ : ∃ x, ordScale a = x := ⟨_, rfl⟩
  obtain ⟨y, hy⟩ : ∃ y, ordScale b = y := ⟨_, rfl⟩
  have hn : expN a b = if x < 0 then -y else y := by rw [expN, hx, hy]
  have hd : expD a b = if x < 0 then -x else x := by rw [expD, hx]
  rw [hx] at h1
  rw [hy] at h2
  have HX := Lib.hid hx
  have HY := Lib.hid hy
  clear hx hy
  by_cases hq : x < 0
  all_goals
    first
      | rw [if_pos hq] at hn hd
      | rw [if_neg hq] at hn hd
    have HN := Lib.hid hn
    have HD := Lib.hid hd
    clear hn hd
    go_enter Try.func87, Try.ntmps87
    go_wp2_with fail
    refine (w_orderOf _ _).mono ?_
    rintro e w' ⟨rfl, rfl⟩
    rw [HY.out]
    go_wp2_with fail
    refine (w_orderOf _ _).mono ?_
    rintro e w' ⟨rfl, rfl⟩
    rw [HX.out]
    go_wp2
    go_ret2
    exact ⟨by rw [HN.out, HD.out]; rfl, rfl⟩

theorem w_l17Power (a b : Int) (w : World) :
    Calls Try.prog 83 #[.int .i64 a, .int .i64 b] w fun e w' => e = .returned (.tuple #[.int .i64 (expN a b), .int .i64 (expD a b)]) ∧ w = w' := by
  have h1 := ordScale_bd a
  have h2 := ordScale_bd b
  obtain ⟨x, hx⟩ : ∃ x, ordScale a = x := ⟨_, rfl⟩
  obtain ⟨y, hy⟩ : ∃ y, ordScale b = y := ⟨_, rfl⟩
  have hn : expN a b = if x < 0 then -y else y := by rw [expN, hx, hy]
  have hd : expD a b = if x < 0 then -x else x := by rw [expD, hx]
  rw [hx] at h1
  rw [hy] at h2
  have HX := Lib.hid hx
  have HY := Lib.hid hy
  clear hx hy
  by_cases hq : x < 0
  all_goals
    first
      | rw [if_pos hq] at hn hd
      | rw [if_neg hq] at hn hd
    have HN := Lib.hid hn
    have HD := Lib.hid hd
    clear hn hd
    go_enter Try.func83, Try.ntmps83
    go_wp2_with fail
    refine (w_l17Order _ _).mono ?_
    rintro e w' ⟨rfl, rfl⟩
    rw [HX.out]
    go_wp2_with fail
    refine (w_l17Order _ _).mono ?_
    rintro e w' ⟨rfl, rfl⟩
    rw [HY.out]
    go_wp2
    go_ret2
    exact ⟨by rw [HN.out, HD.out]; rfl, rfl⟩

theorem w_l17Exact (a b d t : Int) (w : World) :
    Calls Try.prog 82 #[.int .i64 a, .int .i64 b, .agg #[.int .i64 d, .int .i64 t]] w fun e w' => e = .returned (.int .i64 (codeExact a b ⟨d, t⟩)) ∧ Later w w' := by
  cases hi : isFig ⟨d, t⟩
  · have HI := Lib.hid hi
    have HF := Lib.hid (show codeExact a b ⟨d, t⟩ = 1 from by simp [codeExact, hi])
    clear hi
    go_enter Try.func82, Try.ntmps82
    go_wp2_with fail
    refine (w_specIsFigure _ _ _).mono ?_
    rintro e w1 ⟨rfl, hL⟩
    rw [HI.out]
    go_wp2
    go_ret
    exact ⟨by rw [HF.out]; rfl, by (repeat (with_reducible first | exact Later.refl _ | refine Later.alloc ?_ _ | refine Later.drew ?_ | refine Later.drewN ?_ _ | refine Later.setCell ?_ (by simp; try omega) _ | refine Later.trans ?_ (by assumption)))⟩
  have hf : codeExact a b ⟨d, t⟩ = if (ordScale a == 0 || ordScale b == 0) then 2 else 0 := by
    simp only [codeExact, hi, ordOk2, if_true]
    by_cases hq : (ordScale a == 0 || ordScale b == 0) = true <;> simp [hq]
  have HI := Lib.hid hi
  clear hi
  cases ha : (ordScale a == 0)
  · cases hb : (ordScale b == 0)
    all_goals
      rw [ha, hb] at hf
      have HF := Lib.hid hf
      clear hf
      go_enter Try.func82, Try.ntmps82
      go_wp2_with fail
      refine (w_specIsFigure _ _ _).mono ?_
      rintro e w1 ⟨rfl, hL⟩
      rw [HI.out]
      go_wp2_with fail
      refine (w_l17Order _ _).mono ?_
      rintro e w' ⟨rfl, rfl⟩
      go_wp2_with fail
      refine (w_l17Order _ _).mono ?_
      rintro e w' ⟨rfl, rfl⟩
      go_wp2
      go_ret
      exact ⟨by rw [HF.out]; rfl, by (repeat (with_reducible first | exact Later.refl _ | refine Later.alloc ?_ _ | refine Later.drew ?_ | refine Later.drewN ?_ _ | refine Later.setCell ?_ (by simp; try omega) _ | refine Later.trans ?_ (by assumption)))⟩
  · rw [ha] at hf
    have HF := Lib.hid hf
    clear hf
    go_enter Try.func82, Try.ntmps82
    go_wp2_with fail
    refine (w_specIsFigure _ _ _).mono ?_
    rintro e w1 ⟨rfl, hL⟩
    rw [HI.out]
    go_wp2_with fail
    refine (w_l17Order _ _).mono ?_
    rintro e w' ⟨rfl, rfl⟩
    go_wp2
    go_ret
    exact ⟨by rw [HF.out]; rfl, by (repeat (with_reducible first | exact Later.refl _ | refine Later.alloc ?_ _ | refine Later.drew ?_ | refine Later.drewN ?_ _ | refine Later.setCell ?_ (by simp; try omega) _ | refine Later.trans ?_ (by assumption)))⟩

theorem figs_lit {w : World} {k : Nat} {T : TypeId} {c : Array Value} (l : List Fig) (h : w.heap[k]? = some (.cells c T (0, 0))) (hc : c.toList = figs l) (hn : l.length ≤ 1048576) : IsFigs w (.slice (some ⟨k, 0, none⟩) l.length l.length) l := by
  refine ⟨figs_len l, hn, _, _, rfl, Nat.le_refl _, by omega, fun _ => ⟨k, 0, rfl, (Array.getElem?_eq_some_iff.1 h).1, fun j u hj => ?_⟩⟩
  rw [← hc] at hj
  rw [Nat.zero_add, (blk_at h).1]
  simpa using hj

end Go.Proofs.Yteangdeeijlijaa
