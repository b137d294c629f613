/- DERIVED. Walks: the laws' helpers on slices (MoveS). -/
import Derived.Test.YtgngbdacejghcaaDoorM1
namespace Go.Proofs.YtgngbdacejghcaaDoor
set_option linter.unusedVariables false
set_option linter.unusedSimpArgs false
open Go.RowKit
set_option maxRecDepth 100000

theorem i_MoveS : (Tryd.prog.info? 70).map (fun i => (i.zero, i.size, i.bytes)) = some (some (.agg #[.int .i64 0, .int .i64 0, .int .i64 0, .int .i64 0]), 4, 32) := by kernel_rfl

/-- What is left of the budget, or -1. -/
theorem w_szMoveS (a : Option Addr) (len cap : Nat) (left : Int) (hl : 0 ≤ left) (hl2 : left ≤ 1048576) (hm : len ≤ 9223372036854775807) (w : World) :
    Calls Tryd.prog 14 #[.slice a len cap, .int .i64 left] w fun e w' => e = .returned (.int .i64 (if left < len then -1 else left - len)) ∧ w = w' := by
  by_cases h : left < len
  all_goals
    go_enter Tryd.func14, Tryd.ntmps14
    go_wp2
    go_ret
    simp [h]

theorem w_toMoveS (v : Value) (ts : List Mov) (w : World) (h : IsMovs w v ts) :
    Calls Tryd.prog 16 #[v] w fun e w' => ∃ v', e = .returned v' ∧ Later w w' ∧ w'.ownsRow w.heap.size 70 4 v' ts.length (movs ts) := by
  obtain ⟨hxl, hn, a, cap, rfl, hcap, hmax, hrow⟩ := h
  have HX := Lib.hid hxl
  clear hxl
  obtain ⟨i0, hi, hz0, hz1, hz2⟩ := info_parts i_MoveS
  obtain ⟨n, hnn⟩ : ∃ n, ts.length = n := ⟨_, rfl⟩
  rw [hnn] at hn hcap hrow ⊢
  have HN := Lib.hid hnn
  clear hnn
  have HI := Lib.hid hz2
  clear hz2
  go_enter Tryd.func16, Tryd.ntmps16
  go_wp2_with (at_make; refine wpList_make_full _ rfl (.tmp 6) (.tmp 6) 33 rfl w.heap.size 70 i0 _ 4 Tryd.underlying33 hi hz0 hz1 .i64 .i64 _ _ n rfl rfl rfl rfl (by rw [HI.out]; omega) (by unfold maxLen; omega) (Nat.le_refl _) ?_; intro w0 hown0 hgrow0)
  have hL0 : Later w w0 := (Later.refl w).made hgrow0
  have hlen0 := hown0.1
  obtain ⟨rest0, hrest0⟩ : ∃ r, r = (madeCells (Value.cells (.agg #[.int .i64 0, .int .i64 0, .int .i64 0, .int .i64 0])) (n * 4)).toList := ⟨_, rfl⟩
  rw [← hrest0] at hown0
  clear hgrow0 hlen0 hrest0
  go_loopw [4] (fun i wr => ∃ k : Nat, k ≤ n ∧ i = .int .i64 k ∧ Later w wr ∧ ∃ rest, wr.ownsRow w.heap.size 70 4 (.slice (some ⟨w.heap.size, 0, none⟩) n n) n (movs (ts.take k) ++ rest)) (fun i _ => n - (intOf i).toNat)
  case atStart => exact ⟨0, Nat.zero_le _, rfl, hL0, rest0, by simpa [movs] using hown0⟩
  case round =>
    obtain ⟨k, hk, rfl, hL, rest, hown⟩ := hrel
    have HR := Lib.hid hrow
    clear hrow
    clear hown0
    by_cases hlt : k < n
    · obtain ⟨b, off, rfl, hr⟩ := HR.out (by omega)
      obtain ⟨t, ht⟩ := get_ex (l := ts) (k := k) (by have := HN.out; omega)
      have HT := Lib.hid ht
      obtain ⟨c1_0, c1_1, c1_2, c1_3⟩ := (hr.later hL).mov ht
      clear ht
      have hA : (movs (ts.take k)).length = k * 4 := by rw [movs_len, List.length_take, Nat.min_eq_left (by have := HN.out; omega)]
      have hlen := hown.1
      have HA := Lib.hid hA
      have HL := Lib.hid hlen
      have hrl : 4 ≤ rest.length := by rw [List.length_append, hA] at hlen; omega
      clear hlen hA
      go_wp2_with fail
      refine (w_toMove _ _ _ _ _).mono ?_
      rintro e w1 ⟨rfl, hL1⟩
      have ho1 := owns_later hown hL1
      clear hown
      obtain ⟨u0, x0⟩ := own_cell ho1 (j := k * 4) (by omega)
      obtain ⟨u1, x1⟩ := own_cell ho1 (j := k * 4 + 1) (by omega)
      obtain ⟨u2, x2⟩ := own_cell ho1 (j := k * 4 + 2) (by omega)
      obtain ⟨u3, x3⟩ := own_cell ho1 (j := k * 4 + 3) (by omega)
      have f : ∀ o, w1.frozen? ⟨w.heap.size, o, none⟩ = false := fun o => ho1.frozenAt o
      go_wp2
      go_roundw
      case rel =>
        refine ⟨k + 1, by omega, by go_num, by (repeat (with_reducible first | exact Later.refl _ | refine Later.alloc ?_ _ | refine Later.drew ?_ | refine Later.drewN ?_ _ | refine Later.setCell ?_ (by simp; try omega) _ | refine Later.trans ?_ (by assumption))), rest.drop 4, ?_⟩
        rw [take_snoc' HT.out, movs_snoc]
        have hs := ((((ho1.stored (k * 4) (.int .i64 t.k)).1.stored (k * 4 + 1) (.int .i64 t.s)).1.stored (k * 4 + 2) (.int .i64 t.f.d)).1.stored (k * 4 + 3) (.int .i64 t.f.t)).1
        rw [set4 _ _ _ (by simpa using HA.out) hrl] at hs
        exact hs
      case measure => simp [intOf]; omega
    · have hfin : wr.ownsRow w.heap.size 70 4 (.slice (some ⟨w.heap.size, 0, none⟩) n n) n (movs ts) := by
        have hkn : k = n := by omega
        have hlen := hown.1
        rw [hkn, List.take_of_length_le (by rw [HN.out]; exact Nat.le_refl _)] at hown hlen
        rw [List.length_append, movs_len, HN.out] at hlen
        have : rest = [] := List.eq_nil_of_length_eq_zero (by omega)
        rw [this, List.append_nil] at hown
        exact hown
      clear hown
      go_wp2
      go_ret
      exact ⟨_, rfl, hL, hfin⟩

theorem w_eqMoveS (v u : Value) (ts us : List Mov) (w : World) (h : IsMovs w v ts) (h' : IsMovs w u us) :
    Calls Tryd.prog 18 #[v, u] w fun e w' => e = .returned (.bool (decide (ts = us))) ∧ Later w w' := by
  obtain ⟨hxl, hn, a, cap, rfl, hcap, hmax, hrow⟩ := h
  obtain ⟨hxl', hn', a', cap', rfl, hcap', hmax', hrow'⟩ := h'
  clear hxl hxl'
  obtain ⟨n, hnn⟩ : ∃ n, ts.length = n := ⟨_, rfl⟩
  obtain ⟨n', hnn'⟩ : ∃ n, us.length = n := ⟨_, rfl⟩
  rw [hnn] at hn hcap hrow ⊢
  rw [hnn'] at hn' hcap' hrow' ⊢
  have HN := Lib.hid hnn
  have HN' := Lib.hid hnn'
  have HR := Lib.hid hrow
  have HR' := Lib.hid hrow'
  clear hnn hnn' hrow hrow'
  by_cases hne : n = n'
  · obtain rfl : n = n' := hne
    go_enter Tryd.func18, Tryd.ntmps18
    go_wp2
    go_loopw [5] (fun i wr => ∃ k : Nat, k ≤ n ∧ i = .int .i64 k ∧ Later w wr ∧ Hid (ts.take k = us.take k)) (fun i _ => n - (intOf i).toNat)
    case atStart => exact ⟨0, Nat.zero_le _, rfl, Later.refl _, by simp [Hid]⟩
    case round =>
      obtain ⟨k, hk, rfl, hL, HE⟩ := hrel
      by_cases hlt : k < n
      · obtain ⟨b, off, rfl, hr⟩ := HR.out (by omega)
        obtain ⟨b', off', rfl, hr'⟩ := HR'.out (by omega)
        obtain ⟨t, ht⟩ := get_ex (l := ts) (k := k) (by have := HN.out; omega)
        obtain ⟨s, hs⟩ := get_ex (l := us) (k := k) (by have := HN'.out; omega)
        have HT := Lib.hid ht
        have HS := Lib.hid hs
        obtain ⟨c1_0, c1_1, c1_2, c1_3⟩ := (hr.later hL).mov ht
        obtain ⟨d0, d1, d2, d3⟩ := (hr'.later hL).mov hs
        clear ht hs
        go_wp2_with fail
        go_still_tail 8, (by kernel_rfl)
        go_wp2_with (go_at_call 48; refine (w_eqMove _ _ _ _ _ _ _ _ _).mono ?_; rintro e w1 ⟨rfl, hL1⟩)
        · have he : t ≠ s := eqMov_nn (by assumption)
          go_ret
          exact ⟨by simp [ne_of_get HT.out HS.out he], by (repeat (with_reducible first | exact Later.refl _ | refine Later.alloc ?_ _ | refine Later.drew ?_ | refine Later.drewN ?_ _ | refine Later.setCell ?_ (by simp; try omega) _ | refine Later.trans ?_ (by assumption)))⟩
        · have he : t = s := eqMov_ny (by assumption)
          go_roundw
          case rel => exact ⟨k + 1, by omega, by go_num, by (repeat (with_reducible first | exact Later.refl _ | refine Later.alloc ?_ _ | refine Later.drew ?_ | refine Later.drewN ?_ _ | refine Later.setCell ?_ (by simp; try omega) _ | refine Later.trans ?_ (by assumption))), take_ext HT.out HS.out HE.out he⟩
          case measure => simp [intOf]; omega
      · have hfin : ts = us := by
          have h1 := HE.out
          rwa [take_eq_all (by have := HN.out; omega), take_eq_all (by have := HN'.out; omega)] at h1
        have HF := Lib.hid hfin
        clear hfin
        go_wp2
        go_ret
        exact ⟨by simp [HF.out], hL⟩
  · have hfin : ts ≠ us := by
      rintro rfl
      have := HN.out; have := HN'.out; omega
    have HF := Lib.hid hfin
    clear hfin
    go_enter Tryd.func18, Tryd.ntmps18
    go_wp2
    go_ret
    exact ⟨by simp [HF.out], Later.refl _⟩

def markMov (k : Int) : Nat → List Value
  | 0 => []
  | n + 1 => markMov k n ++ [.int .i64 (k + 4 * n), .int .i64 (k + 4 * n + 1), .int .i64 (k + 4 * n + 2), .int .i64 (k + 4 * n + 3)]
theorem markMov_len (k : Int) : ∀ n, (markMov k n).length = n * 4
  | 0 => rfl
  | n + 1 => by rw [markMov, List.length_append, markMov_len k n, Nat.succ_mul]; rfl
theorem markMov_get (k : Int) : ∀ n j, j < n → (markMov k n)[j * 4]? = some (.int .i64 (k + 4 * j)) ∧ (markMov k n)[j * 4 + 1]? = some (.int .i64 (k + 4 * j + 1)) ∧ (markMov k n)[j * 4 + 2]? = some (.int .i64 (k + 4 * j + 2)) ∧ (markMov k n)[j * 4 + 3]? = some (.int .i64 (k + 4 * j + 3))
  | 0, _, h => absurd h (Nat.not_lt_zero _)
  | n + 1, j, h => by
    by_cases hj : j < n
    · have ih := markMov_get k n j hj
      have hl := markMov_len k n
      rw [markMov, List.getElem?_append_left (by omega), List.getElem?_append_left (by omega), List.getElem?_append_left (by omega), List.getElem?_append_left (by omega)]
      exact ih
    · have : j = n := by omega
      subst this
      have hl := markMov_len k j
      rw [markMov, List.getElem?_append_right (by omega), List.getElem?_append_right (by omega), List.getElem?_append_right (by omega), List.getElem?_append_right (by omega), hl]
      simp

set_option maxHeartbeats 1000000 in
theorem w_markMoveS (v : Value) (n base : Nat) (xs : List Value) (k : Int) (hk : 0 ≤ k) (hk2 : k ≤ 10000000) (hn : n ≤ 1048576) (w : World) (ho : w.ownsRow base 70 4 v n xs) :
    Calls Tryd.prog 26 #[v, .int .i64 k] w fun e w' => e = .returned (.int .i64 (k + 4 * n)) ∧ w'.ownsRow base 70 4 v n (markMov k n) ∧ w.grownBy w' v.ownBlock := by
  rcases own_shape ho with ⟨rfl, rfl, rfl⟩ | ⟨g, cap, rfl, hbase, hg, hcap, hmax⟩
  · go_enter Tryd.func26, Tryd.ntmps26
    go_wp2
    refine wp_loop_rounds 1 ?_
    rw [rounds_succ]
    go_wp2
    go_ret
    exact ⟨by simp, by simpa [markMov] using ho, grown_refl _ _⟩
  go_enter Tryd.func26, Tryd.ntmps26
  go_wp2
  go_loopw [1, 5] (fun q i wr => ∃ j : Nat, j ≤ n ∧ i = .int .i64 j ∧ q = .int .i64 (k + 4 * j) ∧ (∃ rest, wr.ownsRow base 70 4 (.slice (some ⟨g, 0, none⟩) n cap) n (markMov k j ++ rest)) ∧ w.grownBy wr (some g)) (fun _ i _ => n - (intOf i).toNat)
  case atStart => exact ⟨0, Nat.zero_le _, rfl, by simp, ⟨xs, by simpa [markMov] using ho⟩, grown_refl _ _⟩
  case round =>
    obtain ⟨j, hj, rfl, rfl, ⟨rest, hown⟩, hgr⟩ := hrel
    by_cases hlt : j < n
    · have hA := markMov_len k j
      have hlen := hown.1
      have hrl : 4 ≤ rest.length := by rw [List.length_append, hA] at hlen; omega
      have HA := Lib.hid hA
      clear hA hlen
      obtain ⟨u0, x0⟩ := own_cell hown (j := j * 4) (by omega)
      obtain ⟨u1, x1⟩ := own_cell hown (j := j * 4 + 1) (by omega)
      obtain ⟨u2, x2⟩ := own_cell hown (j := j * 4 + 2) (by omega)
      obtain ⟨u3, x3⟩ := own_cell hown (j := j * 4 + 3) (by omega)
      have f : ∀ o, wr.frozen? ⟨g, o, none⟩ = false := fun o => hown.frozenAt o
      go_wp2
      go_roundw
      case rel =>
        refine ⟨j + 1, by omega, by go_num, by go_num, ⟨rest.drop 4, ?_⟩, grown_setCell (grown_setCell (grown_setCell (grown_setCell hgr _ _) _ _) _ _) _ _⟩
        have hs := ((((hown.stored (j * 4) (.int .i64 (k + 4 * j))).1.stored (j * 4 + 1) (.int .i64 (k + 4 * j + 1))).1.stored (j * 4 + 2) (.int .i64 (k + 4 * j + 2))).1.stored (j * 4 + 3) (.int .i64 (k + 4 * j + 3))).1
        rw [set4 _ _ _ (by simpa using HA.out) hrl] at hs
        simpa [markMov, Nat.add_assoc, Int.add_assoc] using hs
      case measure => simp [intOf]; omega
    · have hfin : wr.ownsRow base 70 4 (.slice (some ⟨g, 0, none⟩) n cap) n (markMov k n) := by
        have hjn : j = n := by omega
        subst hjn
        have hlen := hown.1
        rw [List.length_append, markMov_len] at hlen
        have : rest = [] := List.eq_nil_of_length_eq_zero (by omega)
        rwa [this, List.append_nil] at hown
      have hjn : (j : Int) = n := by omega
      have HJ := Lib.hid hjn
      clear hjn hown
      go_wp2
      go_ret
      exact ⟨by rw [HJ.out]; rfl, hfin, hgr⟩

theorem w_heldMoveS (v : Value) (n : Nat) (k : Int) (hk : 0 ≤ k) (hk2 : k ≤ 10000000) (w : World) (h : Reads w v n 4 (markMov k n)) :
    Calls Tryd.prog 27 #[v, .int .i64 k] w fun e w' => e = .returned (.int .i64 (k + 4 * n)) ∧ w = w' := by
  obtain ⟨_, hn, a, cap, rfl, hcap, hmax, hrow⟩ := h
  have HR := Lib.hid hrow
  clear hrow
  go_enter Tryd.func27, Tryd.ntmps27
  go_wp2
  go_loop [1, 5] (fun q i => ∃ j : Nat, j ≤ n ∧ i = .int .i64 j ∧ q = .int .i64 (k + 4 * j)) (fun _ i => n - (intOf i).toNat)
  case atStart => exact ⟨0, Nat.zero_le _, rfl, by simp⟩
  case round =>
    obtain ⟨j, hj, rfl, rfl⟩ := hrel
    by_cases hlt : j < n
    · obtain ⟨b, off, rfl, hr⟩ := HR.out (by omega)
      obtain ⟨g0, g1, g2, g3⟩ := markMov_get k n j hlt
      have c0 := hr.2 _ _ g0
      have c1 := hr.2 _ _ g1
      have c2 := hr.2 _ _ g2
      have c3 := hr.2 _ _ g3
      clear g0 g1 g2 g3
      rw [← Nat.add_assoc] at c1 c2 c3
      go_wp2
      go_round
      case rel => exact ⟨j + 1, by omega, by go_num, by go_num⟩
      case measure => simp [intOf]; omega
    · have hjn : (j : Int) = n := by omega
      have HJ := Lib.hid hjn
      clear hjn
      go_wp2
      go_ret
      exact ⟨by rw [HJ.out]; rfl, rfl⟩

end Go.Proofs.YtgngbdacejghcaaDoor
