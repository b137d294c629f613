/- DERIVED. Walks: the laws' helpers on slices of terms. -/
import Derived.Test.YtcnbnlmoohieoaaM1
namespace Go.Proofs.Ytcnbnlmoohieoaa
open Go.RowKit

theorem i_iTerm : (Try.prog.info? 73).map (fun i => (i.zero, i.size, i.bytes)) = some (some (.agg #[.int .i64 0, .int .i64 0, .bool false]), 3, 24) := by kernel_rfl

/-- What is left of the budget, or -1. -/
theorem w_szTermS (a : Option Addr) (len cap : Nat) (left : Int) (hl : 0 ≤ left) (hl2 : left ≤ 1048576) (hm : len ≤ 9223372036854775807) (w : World) :
    Calls Try.prog 17 #[.slice a len cap, .int .i64 left] w fun e w' => e = .returned (.int .i64 (if left < len then -1 else left - len)) ∧ w = w' := by
  by_cases h : left < len
  all_goals
    go_enter Try.func17, Try.ntmps17
    go_wp2
    go_ret
    simp [h]

set_option maxRecDepth 100000 in
theorem w_toTermS (v : Value) (ts : List Trm) (w : World) (h : IsTrms w v ts) :
    Calls Try.prog 19 #[v] w fun e w' => ∃ v', e = .returned v' ∧ Later w w' ∧ w'.ownsRow w.heap.size 73 3 v' ts.length (trms ts) := by
  obtain ⟨hxl, hn, a, cap, rfl, hcap, hmax, hrow⟩ := h
  have HX := Lib.hid hxl; clear hxl
  obtain ⟨i0, hi, hz0, hz1, hz2⟩ := info_parts i_iTerm
  obtain ⟨n, hnn⟩ : ∃ n, ts.length = n := ⟨_, rfl⟩
  rw [hnn] at hn hcap hrow ⊢
  have HN := Lib.hid hnn; clear hnn
  have HI := Lib.hid hz2; clear hz2
  go_enter Try.func19, Try.ntmps19
  go_wp2_with (at_make; refine wpList_make_full _ rfl (.tmp 6) (.tmp 6) 28 rfl w.heap.size 73 i0 _ 3 Try.underlying28 hi hz0 hz1 .i64 .i64 _ _ n rfl rfl rfl rfl (by rw [HI.out]; omega) (by unfold maxLen; omega) (Nat.le_refl _) ?_; intro w0 hown0 hgrow0)
  have hL0 : Later w w0 := (Later.refl w).made hgrow0
  have hlen0 := hown0.1
  obtain ⟨rest0, hrest0⟩ : ∃ r, r = (madeCells (Value.agg #[.int .i64 0, .int .i64 0, .bool false]).cells (n * 3)).toList := ⟨_, rfl⟩
  rw [← hrest0] at hown0
  clear hgrow0 hlen0 hrest0
  go_loopw [4] (fun i wr => ∃ k : Nat, k ≤ n ∧ i = .int .i64 k ∧ Later w wr ∧ ∃ rest, wr.ownsRow w.heap.size 73 3 (.slice (some ⟨w.heap.size, 0, none⟩) n n) n (trms (ts.take k) ++ rest)) (fun i _ => n - (intOf i).toNat)
  case atStart => exact ⟨0, Nat.zero_le _, rfl, hL0, rest0, by simpa [trms] using hown0⟩
  case round =>
    obtain ⟨k, hk, rfl, hL, rest, hown⟩ := hrel
    have HR := Lib.hid hrow; clear hrow
    clear hown0
    by_cases hlt : k < n
    · obtain ⟨b, off, rfl, hr⟩ := HR.out (by omega)
      obtain ⟨t, ht⟩ := get_ex (l := ts) (k := k) (by have := HN.out; omega)
      have HT := Lib.hid ht
      obtain ⟨c0, c1, c2⟩ := (hr.later hL).trm ht
      clear ht
      have hA : (trms (ts.take k)).length = k * 3 := by rw [trms_len, List.length_take, Nat.min_eq_left (by have := HN.out; omega)]
      have hlen := hown.1
      have HA := Lib.hid hA
      have HL := Lib.hid hlen
      have hrl : 3 ≤ rest.length := by rw [List.length_append, hA] at hlen; omega
      clear hlen hA
      go_wp2_with fail
      refine (w_toTerm _ _ _ _).mono ?_
      rintro e w1 ⟨rfl, hL1⟩
      have ho1 := owns_later hown hL1
      clear hown
      obtain ⟨u0, x0⟩ := own_cell ho1 (j := k * 3) (by omega)
      obtain ⟨u1, x1⟩ := own_cell ho1 (j := k * 3 + 1) (by omega)
      obtain ⟨u2, x2⟩ := own_cell ho1 (j := k * 3 + 2) (by omega)
      have f : ∀ o, w1.frozen? ⟨w.heap.size, o, none⟩ = false := fun o => ho1.frozenAt o
      go_wp2
      go_roundw
      case rel =>
        refine ⟨k + 1, by omega, by go_num, by (repeat (with_reducible first | exact Later.refl _ | refine Later.alloc ?_ _ | refine Later.drew ?_ | refine Later.drewN ?_ _ | refine Later.setCell ?_ (by simp; try omega) _ | refine Later.trans ?_ (by assumption))), rest.drop 3, ?_⟩
        rw [take_snoc' HT.out, trms_snoc]
        have hs := (((ho1.stored (k * 3) (.int .i64 t.f.d)).1.stored (k * 3 + 1) (.int .i64 t.f.t)).1.stored (k * 3 + 2) (.bool t.dv)).1
        rw [set3 _ _ _ HA.out hrl] at hs
        exact hs
      case measure => simp [intOf]; omega
    · have hfin : wr.ownsRow w.heap.size 73 3 (.slice (some ⟨w.heap.size, 0, none⟩) n n) n (trms ts) := by
        have hkn : k = n := by omega
        have hlen := hown.1
        rw [hkn, List.take_of_length_le (by rw [HN.out]; exact Nat.le_refl _)] at hown hlen
        rw [List.length_append, trms_len, HN.out] at hlen
        have : rest = [] := List.eq_nil_of_length_eq_zero (by omega)
        rw [this, List.append_nil] at hown
        exact hown
      clear hown
      go_wp2
      go_ret
      exact ⟨_, rfl, hL, hfin⟩

set_option maxRecDepth 100000 in
theorem w_eqTermS (v u : Value) (ts us : List Trm) (w : World) (h : IsTrms w v ts) (h' : IsTrms w u us) :
    Calls Try.prog 21 #[v, u] w fun e w' => e = .returned (.bool (decide (ts = us))) ∧ Later w w' := by
  obtain ⟨hxl, hn, a, cap, rfl, hcap, hmax, hrow⟩ := h
  obtain ⟨hxl', hn', a', cap', rfl, hcap', hmax', hrow'⟩ := h'
  clear hxl hxl'
  obtain ⟨n, hnn⟩ : ∃ n, ts.length = n := ⟨_, rfl⟩
  obtain ⟨n', hnn'⟩ : ∃ n, us.length = n := ⟨_, rfl⟩
  rw [hnn] at hn hcap hrow ⊢
  rw [hnn'] at hn' hcap' hrow' ⊢
  have HN := Lib.hid hnn
  have HN' := Lib.hid hnn'
  have HR := Lib.hid hrow
  have HR' := Lib.hid hrow'
  clear hnn hnn' hrow hrow'
  by_cases hne : n = n'
  · obtain rfl : n = n' := hne
    go_enter Try.func21, Try.ntmps21
    go_wp2
    go_loopw [5] (fun i wr => ∃ k : Nat, k ≤ n ∧ i = .int .i64 k ∧ Later w wr ∧ Hid (ts.take k = us.take k)) (fun i _ => n - (intOf i).toNat)
    case atStart => exact ⟨0, Nat.zero_le _, rfl, Later.refl _, by simp [Hid]⟩
    case round =>
      obtain ⟨k, hk, rfl, hL, HE⟩ := hrel
      by_cases hlt : k < n
      · obtain ⟨b, off, rfl, hr⟩ := HR.out (by omega)
        obtain ⟨b', off', rfl, hr'⟩ := HR'.out (by omega)
        obtain ⟨t, ht⟩ := get_ex (l := ts) (k := k) (by have := HN.out; omega)
        obtain ⟨s, hs⟩ := get_ex (l := us) (k := k) (by have := HN'.out; omega)
        have HT := Lib.hid ht
        have HS := Lib.hid hs
        obtain ⟨c0, c1, c2⟩ := (hr.later hL).trm ht
        obtain ⟨d0, d1, d2⟩ := (hr'.later hL).trm hs
        clear ht hs
        go_wp2_with fail
        go_still_tail 8, (by kernel_rfl)
        go_wp2_with (go_at_call 61; refine (w_eqTerm _ _ _ _ _ _ _).mono ?_; rintro e w1 ⟨rfl, hL1⟩)
        · have he : t ≠ s := eqTrm_nn (by assumption)
          go_ret
          exact ⟨by simp [ne_of_get HT.out HS.out he], by (repeat (with_reducible first | exact Later.refl _ | refine Later.alloc ?_ _ | refine Later.drew ?_ | refine Later.drewN ?_ _ | refine Later.setCell ?_ (by simp; try omega) _ | refine Later.trans ?_ (by assumption)))⟩
        · have he : t = s := eqTrm_ny (by assumption)
          go_roundw
          case rel => exact ⟨k + 1, by omega, by go_num, by (repeat (with_reducible first | exact Later.refl _ | refine Later.alloc ?_ _ | refine Later.drew ?_ | refine Later.drewN ?_ _ | refine Later.setCell ?_ (by simp; try omega) _ | refine Later.trans ?_ (by assumption))), take_ext HT.out HS.out HE.out he⟩
          case measure => simp [intOf]; omega
      · have hfin : ts = us := by
          have h1 := HE.out
          rwa [take_eq_all (by have := HN.out; omega), take_eq_all (by have := HN'.out; omega)] at h1
        have HF := Lib.hid hfin
        clear hfin
        go_wp2
        go_ret
        exact ⟨by simp [HF.out], hL⟩
  · have hfin : ts ≠ us := by
      rintro rfl
      have := HN.out; have := HN'.out; omega
    have HF := Lib.hid hfin
    clear hfin
    go_enter Try.func21, Try.ntmps21
    go_wp2
    go_ret
    exact ⟨by simp [HF.out], Later.refl _⟩

end Go.Proofs.Ytcnbnlmoohieoaa
