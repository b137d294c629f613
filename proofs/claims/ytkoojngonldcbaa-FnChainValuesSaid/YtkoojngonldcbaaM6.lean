/- DERIVED. Walks: joined chains. -/
import Derived.Test.YtkoojngonldcbaaM3
import Derived.Test.YtkoojngonldcbaaBA
namespace Go.Proofs.Ytkoojngonldcbaa
set_option linter.unusedVariables false
set_option linter.unusedSimpArgs false
open Go.RowKit
set_option maxRecDepth 100000

theorem w_cloneTrm (v : Value) (ts : List Trm) (w : World) (h : IsTrms w v ts) (h0 : 0 < ts.length) :
    Calls Try.prog 83 #[v] w fun e w' => ∃ v', e = .returned v' ∧ Later w w' ∧ w'.ownsRow w.heap.size 55 3 v' ts.length (trms ts) := by
  obtain ⟨hxl1, hn1, a1, cap1, rfl, hcap1, hmax1, hrow1⟩ := h
  have HR1 := Lib.hid hrow1
  clear hrow1 hxl1
  obtain ⟨b, off, rfl, hr⟩ := HR1.out h0
  clear HR1
  have HR := Lib.hid hr
  clear hr
  have hnil := fun (wx : World) => Lib.run_eql_slice_nil (P := Try.prog) (w := wx) 24
  go_enter Try.func83, Try.ntmps83
  go_wp2_with (at_builtin; refine appC_Term rfl (.tmp 5) (.tmp 6) rfl w.heap.size ts rfl b off _ _ rfl rfl HR.out hn1 (Nat.le_refl _) ?_; intro v' w1 ho1 hL1)
  go_ret
  exact ⟨_, rfl, hL1, ho1⟩

theorem w_specJoinChains (v u : Value) (cs ds : List Trm) (dv : Bool) (w : World) (h : IsTrms w v cs) (h' : IsTrms w u ds) :
    Calls Try.prog 48 #[v, u, .bool dv] w fun e w' => ∃ v', e = .returned (.tuple #[v', .int .i64 (joinChains cs ds dv).2]) ∧ Later w w' ∧ w'.ownsRow w.heap.size 55 3 v' (joinChains cs ds dv).1.length (trms (joinChains cs ds dv).1) := by
  cases hc : isChain cs
  · have hf : joinChains cs ds dv = ([], 1) := by simp [joinChains, hc]
    have HC := Lib.hid hc
    clear hc
    rw [hf]
    go_enter Try.func48, Try.ntmps48
    go_wp2_with fail
    refine (w_specIsChain _ _ _ h).mono ?_
    rintro e w1 ⟨rfl, hL⟩
    rw [HC.out]
    go_wp2
    go_ret2
    exact ⟨_, rfl, by (repeat (with_reducible first | exact Later.refl _ | refine Later.alloc ?_ _ | refine Later.drew ?_ | refine Later.drewN ?_ _ | refine Later.setCell ?_ (by simp; try omega) _ | refine Later.trans ?_ (by assumption))), World.ownsRow_nil _ _ _ _⟩
  cases hd : isChain ds
  · have hf : joinChains cs ds dv = ([], 1) := by simp [joinChains, hd]
    have HC := Lib.hid hc
    have HD := Lib.hid hd
    clear hc hd
    rw [hf]
    go_enter Try.func48, Try.ntmps48
    go_wp2_with fail
    refine (w_specIsChain _ _ _ h).mono ?_
    rintro e w1 ⟨rfl, hL⟩
    rw [HC.out]
    go_wp2_with fail
    refine (w_specIsChain _ _ _ (h'.later hL)).mono ?_
    rintro e w2 ⟨rfl, hL2⟩
    rw [HD.out]
    go_wp2
    go_ret2
    exact ⟨_, rfl, by (repeat (with_reducible first | exact Later.refl _ | refine Later.alloc ?_ _ | refine Later.drew ?_ | refine Later.drewN ?_ _ | refine Later.setCell ?_ (by simp; try omega) _ | refine Later.trans ?_ (by assumption))), World.ownsRow_nil _ _ _ _⟩
  have hlc := isChain_true hc
  have hld := isChain_true hd
  obtain ⟨hc1, hc6, _, _⟩ := hlc
  obtain ⟨hd1, hd6, _, _⟩ := hld
  have hf : joinChains cs ds dv = if cs.length + ds.length ≤ 6 then (joinL cs ds dv, 0) else ([], 3) := by simp [joinChains, hc, hd]
  have HF := Lib.hid hf
  have HC := Lib.hid hc
  have HD := Lib.hid hd
  clear hc hd hf
  have H := Lib.hid h
  have H' := Lib.hid h'
  obtain ⟨hxl1, hn1, a1, cap1, rfl, hcap1, hmax1, hrow1⟩ := h
  have HR1 := Lib.hid hrow1
  clear hrow1 hxl1
  obtain ⟨hxl2, hn2, a2, cap2, rfl, hcap2, hmax2, hrow2⟩ := h'
  have HR2 := Lib.hid hrow2
  clear hrow2 hxl2
  obtain ⟨b, off, rfl, hr⟩ := HR1.out (by omega)
  have HR := Lib.hid hr
  clear hr HR1
  go_enter Try.func48, Try.ntmps48
  go_wp2_with fail
  refine (w_specIsChain _ _ _ H.out).mono ?_
  rintro e w1 ⟨rfl, hL⟩
  rw [HC.out]
  go_wp2_with fail
  refine (w_specIsChain _ _ _ (H'.out.later hL)).mono ?_
  rintro e w2 ⟨rfl, hL2⟩
  rw [HD.out]
  have hL12 := hL.trans hL2
  clear hL hL2
  go_wp2_with (at_builtin; refine appC_Term rfl (.tmp 18) (.tmp 19) rfl w.heap.size cs rfl b off _ _ rfl rfl (HR.out.later hL12) hn1 hL12.size ?_; intro v0 w3 ho3 hL3)
  have hL123 := hL12.trans hL3
  clear hL12 hL3
  go_loopw [8, 9] (fun r i wr => ∃ k : Nat, k ≤ ds.length ∧ i = .int .i64 k ∧ Later w wr ∧ wr.ownsRow w.heap.size 55 3 r (joinL cs (ds.take k) dv).length (trms (joinL cs (ds.take k) dv))) (fun _ i _ => ds.length - (intOf i).toNat)
  case atStart => exact ⟨0, Nat.zero_le _, rfl, hL123, by simpa [joinL] using ho3⟩
  case round =>
    obtain ⟨k, hk, rfl, hL, hown⟩ := hrel
    clear ho3
    have hJ := joinL_len cs (ds.take k) dv
    rw [List.length_take, Nat.min_eq_left hk] at hJ
    have HJ := Lib.hid hJ
    clear hJ
    by_cases hlt : k < ds.length
    · obtain ⟨b2, off2, rfl, hr2⟩ := HR2.out (by omega)
      obtain ⟨t, ht2⟩ := get_ex (l := ds) (k := k) (by omega)
      have HT2 := Lib.hid ht2
      obtain ⟨c2_0, c2_1, c2_2⟩ := (hr2.later hL).trm ht2
      clear ht2
      go_wp2_with fail
      go_region_law (refine stepA1_Term rfl (.tmp 27) (.tmp 41) rfl w.heap.size _ _ ⟨t.f, t.dv != dv⟩ (by simp [Act.eval, Act.put]) hown (by simp [Act.eval, Act.put]) (by rw [HJ.out]; omega) hL.size ?_; intro v1 w3 ho3 hg3)
      all_goals
        go_wp2
        go_roundw
        case rel => exact ⟨k + 1, by omega, by go_num, hL.own (Nat.le_refl _) hown hg3, by rw [take_snoc' HT2.out, joinL_snoc]; exact ho3⟩
        case measure => simp [intOf]; omega
    · have hkn : k = ds.length := by omega
      have hown' : wr.ownsRow w.heap.size 55 3 u8 (cs.length + ds.length) (trms (joinL cs ds dv)) := by
        rw [take_eq_all (by omega), joinL_len] at hown
        exact hown
      clear hown
      by_cases h6 : cs.length + ds.length ≤ 6
      · have hf2 : joinChains cs ds dv = (joinL cs ds dv, 0) := by rw [HF.out, if_pos h6]
        have HF2 := Lib.hid hf2
        clear hf2
        rcases own_shape hown' with ⟨rfl, hz, _⟩ | ⟨g, cap, rfl, _, _, _, _⟩
        · omega
        go_wp2
        go_ret2
        exact ⟨_, by rw [HF2.out]; rfl, hL, by rw [HF2.out, joinL_len]; exact hown'⟩
      · have hf2 : joinChains cs ds dv = ([], 3) := by rw [HF.out, if_neg h6]
        have HF2 := Lib.hid hf2
        clear hf2
        rcases own_shape hown' with ⟨rfl, hz, _⟩ | ⟨g, cap, rfl, _, _, _, _⟩
        · omega
        clear hown'
        go_wp2
        go_ret2
        exact ⟨_, by rw [HF2.out]; rfl, hL, by rw [HF2.out]; exact World.ownsRow_nil _ _ _ _⟩

theorem w_implJoinChains (v u : Value) (cs ds : List Trm) (dv : Bool) (w : World) (h : IsTrms w v cs) (h' : IsTrms w u ds) :
    Calls Try.prog 47 #[v, u, .bool dv] w fun e w' => ∃ v', e = .returned (.tuple #[v', .int .i64 (joinChains cs ds dv).2]) ∧ Later w w' ∧ w'.ownsRow w.heap.size 55 3 v' (joinChains cs ds dv).1.length (trms (joinChains cs ds dv).1) := by
  cases hc : isChain cs
  · have hf : joinChains cs ds dv = ([], 1) := by simp [joinChains, hc]
    have HC := Lib.hid hc
    clear hc
    rw [hf]
    go_enter Try.func47, Try.ntmps47
    go_wp2_with fail
    refine (w_implIsChain _ _ _ h).mono ?_
    rintro e w1 ⟨rfl, hL⟩
    rw [HC.out]
    go_wp2
    go_ret2
    exact ⟨_, rfl, by (repeat (with_reducible first | exact Later.refl _ | refine Later.alloc ?_ _ | refine Later.drew ?_ | refine Later.drewN ?_ _ | refine Later.setCell ?_ (by simp; try omega) _ | refine Later.trans ?_ (by assumption))), World.ownsRow_nil _ _ _ _⟩
  cases hd : isChain ds
  · have hf : joinChains cs ds dv = ([], 1) := by simp [joinChains, hd]
    have HC := Lib.hid hc
    have HD := Lib.hid hd
    clear hc hd
    rw [hf]
    go_enter Try.func47, Try.ntmps47
    go_wp2_with fail
    refine (w_implIsChain _ _ _ h).mono ?_
    rintro e w1 ⟨rfl, hL⟩
    rw [HC.out]
    go_wp2_with fail
    refine (w_implIsChain _ _ _ (h'.later hL)).mono ?_
    rintro e w2 ⟨rfl, hL2⟩
    rw [HD.out]
    go_wp2
    go_ret2
    exact ⟨_, rfl, by (repeat (with_reducible first | exact Later.refl _ | refine Later.alloc ?_ _ | refine Later.drew ?_ | refine Later.drewN ?_ _ | refine Later.setCell ?_ (by simp; try omega) _ | refine Later.trans ?_ (by assumption))), World.ownsRow_nil _ _ _ _⟩
  have hlc := isChain_true hc
  have hld := isChain_true hd
  obtain ⟨hc1, hc6, _, _⟩ := hlc
  obtain ⟨hd1, hd6, _, _⟩ := hld
  have hf : joinChains cs ds dv = if cs.length + ds.length ≤ 6 then (joinL cs ds dv, 0) else ([], 3) := by simp [joinChains, hc, hd]
  have HC := Lib.hid hc
  have HD := Lib.hid hd
  clear hc hd
  have H := Lib.hid h
  have H' := Lib.hid h'
  obtain ⟨hxl1, hn1, a1, cap1, rfl, hcap1, hmax1, hrow1⟩ := h
  have HR1 := Lib.hid hrow1
  clear hrow1 hxl1
  obtain ⟨hxl2, hn2, a2, cap2, rfl, hcap2, hmax2, hrow2⟩ := h'
  have HR2 := Lib.hid hrow2
  clear hrow2 hxl2
  by_cases h6 : cs.length + ds.length ≤ 6
  · rw [if_pos h6] at hf
    have HF := Lib.hid hf
    clear hf
    go_enter Try.func47, Try.ntmps47
    go_wp2_with fail
    refine (w_implIsChain _ _ _ H.out).mono ?_
    rintro e w1 ⟨rfl, hL⟩
    rw [HC.out]
    go_wp2_with fail
    refine (w_implIsChain _ _ _ (H'.out.later hL)).mono ?_
    rintro e w2 ⟨rfl, hL2⟩
    rw [HD.out]
    have hL12 := hL.trans hL2
    clear hL hL2
    go_wp2_with fail
    refine (w_cloneTrm _ _ _ (H.out.later hL12) (by omega)).mono ?_
    rintro e w3 ⟨v0, rfl, hL3, ho3⟩
    have ho3 := owns_base ho3 hL12.size
    have hL123 := hL12.trans hL3
    clear hL12 hL3
    go_wp2_with fail
    go_loopw [8, 31] (fun r i wr => ∃ k : Nat, k ≤ ds.length ∧ i = .int .i64 k ∧ Later w wr ∧ wr.ownsRow w.heap.size 55 3 r (joinL cs (ds.take k) dv).length (trms (joinL cs (ds.take k) dv))) (fun _ i _ => ds.length - (intOf i).toNat)
    case atStart => exact ⟨0, Nat.zero_le _, rfl, hL123, by simpa [joinL] using ho3⟩
    case round =>
      obtain ⟨k, hk, rfl, hL, hown⟩ := hrel
      clear ho3
      have hJ := joinL_len cs (ds.take k) dv
      rw [List.length_take, Nat.min_eq_left hk] at hJ
      have HJ := Lib.hid hJ
      clear hJ
      by_cases hlt : k < ds.length
      · obtain ⟨b2, off2, rfl, hr2⟩ := HR2.out (by omega)
        obtain ⟨t, ht2⟩ := get_ex (l := ds) (k := k) (by omega)
        have HT2 := Lib.hid ht2
        obtain ⟨c2_0, c2_1, c2_2⟩ := (hr2.later hL).trm ht2
        clear ht2
        have hLa := hL.alloc (.cells #[.int .i64 t.f.d, .int .i64 t.f.t, .bool t.dv] 55)
        have hza := hLa.size
        go_wp2_with (at_builtin; go_must (refine app1_Term rfl (.tmp 35) (.tmp 43) rfl w.heap.size _ _ ⟨t.f, !(t.dv == dv)⟩ rfl (hown.alloc _) ?_ ?_ hza ?_); (· simp [Act.eval]); (· rw [HJ.out]; omega); intro v1 w4 ho4 hg4)
        go_roundw
        case rel => exact ⟨k + 1, by omega, by go_num, hLa.own (Nat.le_refl _) (hown.alloc _) hg4, by rw [take_snoc' HT2.out, joinL_snoc]; exact ho4⟩
        case measure => simp [intOf]; omega
      · have hown' : wr.ownsRow w.heap.size 55 3 u8 (cs.length + ds.length) (trms (joinL cs ds dv)) := by
          rw [take_eq_all (by omega), joinL_len] at hown
          exact hown
        clear hown
        go_wp2
        go_ret2
        exact ⟨_, by rw [HF.out]; rfl, hL, by rw [HF.out, joinL_len]; exact hown'⟩
  · rw [if_neg h6] at hf
    have HF := Lib.hid hf
    clear hf
    go_enter Try.func47, Try.ntmps47
    go_wp2_with fail
    refine (w_implIsChain _ _ _ H.out).mono ?_
    rintro e w1 ⟨rfl, hL⟩
    rw [HC.out]
    go_wp2_with fail
    refine (w_implIsChain _ _ _ (H'.out.later hL)).mono ?_
    rintro e w2 ⟨rfl, hL2⟩
    rw [HD.out]
    go_wp2
    go_ret2
    exact ⟨_, by rw [HF.out]; rfl, by (repeat (with_reducible first | exact Later.refl _ | refine Later.alloc ?_ _ | refine Later.drew ?_ | refine Later.drewN ?_ _ | refine Later.setCell ?_ (by simp; try omega) _ | refine Later.trans ?_ (by assumption))), by rw [HF.out]; exact World.ownsRow_nil _ _ _ _⟩

end Go.Proofs.Ytkoojngonldcbaa
