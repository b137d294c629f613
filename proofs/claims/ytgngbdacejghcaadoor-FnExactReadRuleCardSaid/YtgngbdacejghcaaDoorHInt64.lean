/- DERIVED. Walks: the laws' helpers on slices (Int64S). -/
import Derived.Test.YtgngbdacejghcaaDoorM1
namespace Go.Proofs.YtgngbdacejghcaaDoor
set_option linter.unusedVariables false
set_option linter.unusedSimpArgs false
open Go.RowKit
set_option maxRecDepth 100000

theorem i_Int64S : (Tryd.prog.info? 2).map (fun i => (i.zero, i.size, i.bytes)) = some (some (.int .i64 0), 1, 8) := by kernel_rfl

theorem w_eqInt64S (v u : Value) (ts us : List Int) (w : World) (h : IsNums w v ts) (h' : IsNums w u us) :
    Calls Tryd.prog 57 #[v, u] w fun e w' => e = .returned (.bool (decide (ts = us))) ∧ Later w w' := by
  obtain ⟨hxl, hn, a, cap, rfl, hcap, hmax, hrow⟩ := h
  obtain ⟨hxl', hn', a', cap', rfl, hcap', hmax', hrow'⟩ := h'
  clear hxl hxl'
  obtain ⟨n, hnn⟩ : ∃ n, ts.length = n := ⟨_, rfl⟩
  obtain ⟨n', hnn'⟩ : ∃ n, us.length = n := ⟨_, rfl⟩
  rw [hnn] at hn hcap hrow ⊢
  rw [hnn'] at hn' hcap' hrow' ⊢
  have HN := Lib.hid hnn
  have HN' := Lib.hid hnn'
  have HR := Lib.hid hrow
  have HR' := Lib.hid hrow'
  clear hnn hnn' hrow hrow'
  by_cases hne : n = n'
  · obtain rfl : n = n' := hne
    go_enter Tryd.func57, Tryd.ntmps57
    go_wp2
    go_loopw [5] (fun i wr => ∃ k : Nat, k ≤ n ∧ i = .int .i64 k ∧ Later w wr ∧ Hid (ts.take k = us.take k)) (fun i _ => n - (intOf i).toNat)
    case atStart => exact ⟨0, Nat.zero_le _, rfl, Later.refl _, by simp [Hid]⟩
    case round =>
      obtain ⟨k, hk, rfl, hL, HE⟩ := hrel
      by_cases hlt : k < n
      · obtain ⟨b, off, rfl, hr⟩ := HR.out (by omega)
        obtain ⟨b', off', rfl, hr'⟩ := HR'.out (by omega)
        obtain ⟨t, ht⟩ := get_ex (l := ts) (k := k) (by have := HN.out; omega)
        obtain ⟨s, hs⟩ := get_ex (l := us) (k := k) (by have := HN'.out; omega)
        have HT := Lib.hid ht
        have HS := Lib.hid hs
        have c1_0 := (hr.later hL).num ht
        have d0 := (hr'.later hL).num hs
        clear ht hs
        by_cases he : t = s
        · subst he
          go_wp2_with fail
          go_quiet (fail)
          go_wp2
          go_roundw
          case rel => exact ⟨k + 1, by omega, by go_num, by (repeat (with_reducible first | exact Later.refl _ | refine Later.alloc ?_ _ | refine Later.drew ?_ | refine Later.drewN ?_ _ | refine Later.setCell ?_ (by simp; try omega) _ | refine Later.trans ?_ (by assumption))), take_ext HT.out HS.out HE.out rfl⟩
          case measure => simp [intOf]; omega
        · have hb : (t == s) = false := by simpa using he
          have hb2 : (t != s) = true := by simpa using he
          go_wp2_with fail
          go_quiet (fail)
          go_wp2
          go_ret
          exact ⟨by simp [ne_of_get HT.out HS.out he], by (repeat (with_reducible first | exact Later.refl _ | refine Later.alloc ?_ _ | refine Later.drew ?_ | refine Later.drewN ?_ _ | refine Later.setCell ?_ (by simp; try omega) _ | refine Later.trans ?_ (by assumption)))⟩
      · have hfin : ts = us := by
          have h1 := HE.out
          rwa [take_eq_all (by have := HN.out; omega), take_eq_all (by have := HN'.out; omega)] at h1
        have HF := Lib.hid hfin
        clear hfin
        go_wp2
        go_ret
        exact ⟨by simp [HF.out], hL⟩
  · have hfin : ts ≠ us := by
      rintro rfl
      have := HN.out; have := HN'.out; omega
    have HF := Lib.hid hfin
    clear hfin
    go_enter Tryd.func57, Tryd.ntmps57
    go_wp2
    go_ret
    exact ⟨by simp [HF.out], Later.refl _⟩

def markInt (k : Int) : Nat → List Value
  | 0 => []
  | n + 1 => markInt k n ++ [.int .i64 (k + n)]
theorem markInt_len (k : Int) : ∀ n, (markInt k n).length = n * 1
  | 0 => rfl
  | n + 1 => by rw [markInt, List.length_append, markInt_len k n, Nat.succ_mul]; rfl
theorem markInt_get (k : Int) : ∀ n j, j < n → (markInt k n)[j]? = some (.int .i64 (k + j))
  | 0, _, h => absurd h (Nat.not_lt_zero _)
  | n + 1, j, h => by
    by_cases hj : j < n
    · have ih := markInt_get k n j hj
      have hl := markInt_len k n
      rw [markInt, List.getElem?_append_left (by omega)]
      exact ih
    · have : j = n := by omega
      subst this
      have hl := markInt_len k j
      rw [markInt, List.getElem?_append_right (by omega), hl]
      simp

theorem w_markInt64S (v : Value) (n base : Nat) (xs : List Value) (k : Int) (hk : 0 ≤ k) (hk2 : k ≤ 10000000) (hn : n ≤ 1048576) (w : World) (ho : w.ownsRow base 2 1 v n xs) :
    Calls Tryd.prog 58 #[v, .int .i64 k] w fun e w' => e = .returned (.int .i64 (k + n)) ∧ w'.ownsRow base 2 1 v n (markInt k n) ∧ w.grownBy w' v.ownBlock := by
  rcases own_shape ho with ⟨rfl, rfl, rfl⟩ | ⟨g, cap, rfl, hbase, hg, hcap, hmax⟩
  · go_enter Tryd.func58, Tryd.ntmps58
    go_wp2
    refine wp_loop_rounds 1 ?_
    rw [rounds_succ]
    go_wp2
    go_ret
    exact ⟨by simp, by simpa [markInt] using ho, grown_refl _ _⟩
  go_enter Tryd.func58, Tryd.ntmps58
  go_wp2
  go_loopw [1, 5] (fun q i wr => ∃ j : Nat, j ≤ n ∧ i = .int .i64 j ∧ q = .int .i64 (k + j) ∧ (∃ rest, wr.ownsRow base 2 1 (.slice (some ⟨g, 0, none⟩) n cap) n (markInt k j ++ rest)) ∧ w.grownBy wr (some g)) (fun _ i _ => n - (intOf i).toNat)
  case atStart => exact ⟨0, Nat.zero_le _, rfl, by simp, ⟨xs, by simpa [markInt] using ho⟩, grown_refl _ _⟩
  case round =>
    obtain ⟨j, hj, rfl, rfl, ⟨rest, hown⟩, hgr⟩ := hrel
    by_cases hlt : j < n
    · have hA := markInt_len k j
      have hlen := hown.1
      have hrl : 1 ≤ rest.length := by rw [List.length_append, hA] at hlen; omega
      have HA := Lib.hid hA
      clear hA hlen
      obtain ⟨u0, x0⟩ := own_cell hown (j := j) (by omega)
      have f : ∀ o, wr.frozen? ⟨g, o, none⟩ = false := fun o => hown.frozenAt o
      go_wp2
      go_roundw
      case rel =>
        refine ⟨j + 1, by omega, by go_num, by go_num, ⟨rest.drop 1, ?_⟩, grown_setCell hgr _ _⟩
        have hs := (hown.stored (j) (.int .i64 (k + j))).1
        rw [set1 _ _ _ (by simpa using HA.out) hrl] at hs
        simpa [markInt] using hs
      case measure => simp [intOf]; omega
    · have hfin : wr.ownsRow base 2 1 (.slice (some ⟨g, 0, none⟩) n cap) n (markInt k n) := by
        have hjn : j = n := by omega
        subst hjn
        have hlen := hown.1
        rw [List.length_append, markInt_len] at hlen
        have : rest = [] := List.eq_nil_of_length_eq_zero (by omega)
        rwa [this, List.append_nil] at hown
      have hjn : (j : Int) = n := by omega
      have HJ := Lib.hid hjn
      clear hjn hown
      go_wp2
      go_ret
      exact ⟨by rw [HJ.out]; rfl, hfin, hgr⟩

theorem w_heldInt64S (v : Value) (n : Nat) (k : Int) (hk : 0 ≤ k) (hk2 : k ≤ 10000000) (w : World) (h : Reads w v n 1 (markInt k n)) :
    Calls Tryd.prog 59 #[v, .int .i64 k] w fun e w' => e = .returned (.int .i64 (k + n)) ∧ w = w' := by
  obtain ⟨_, hn, a, cap, rfl, hcap, hmax, hrow⟩ := h
  have HR := Lib.hid hrow
  clear hrow
  go_enter Tryd.func59, Tryd.ntmps59
  go_wp2
  go_loop [1, 5] (fun q i => ∃ j : Nat, j ≤ n ∧ i = .int .i64 j ∧ q = .int .i64 (k + j)) (fun _ i => n - (intOf i).toNat)
  case atStart => exact ⟨0, Nat.zero_le _, rfl, by simp⟩
  case round =>
    obtain ⟨j, hj, rfl, rfl⟩ := hrel
    by_cases hlt : j < n
    · obtain ⟨b, off, rfl, hr⟩ := HR.out (by omega)
      have g0 := markInt_get k n j hlt
      have c0 := hr.2 _ _ g0
      clear g0
      go_wp2
      go_round
      case rel => exact ⟨j + 1, by omega, by go_num, by go_num⟩
      case measure => simp [intOf]; omega
    · have hjn : (j : Int) = n := by omega
      have HJ := Lib.hid hjn
      clear hjn
      go_wp2
      go_ret
      exact ⟨by rw [HJ.out]; rfl, rfl⟩

end Go.Proofs.YtgngbdacejghcaaDoor
