/- DERIVED. Walks: a table of transfers. -/
import Derived.Test.YtfhppnmbmdpjeaaM84
namespace Go.Proofs.Ytfhppnmbmdpjeaa
set_option linter.unusedVariables false
set_option linter.unusedSimpArgs false
open Go.RowKit
set_option maxRecDepth 100000

theorem tfC_all (r : Rul) (a b : Int) (B : Bool) : tfC r a b B = if B then tfC r a b true else 1 := by
  cases B
  · unfold tfC; cases isRule r <;> rfl
  · rfl
def ttC (r : Rul) (a b : Int) (l : List Fig) : Int := if tfC r a b (l.all isFig) = 0 then (if l.length ≤ 20 then 0 else 3) else tfC r a b (l.all isFig)
noncomputable def ttL (r : Rul) (a b : Int) (l : List Fig) : List Fig := if ttC r a b l = 0 then l.map (tfV a b) else []
theorem tt_no {r : Rul} {a b X : Int} {l : List Fig} (h : tfC r a b (l.all isFig) = X) (h0 : X ≠ 0) : ttC r a b l = X ∧ ttL r a b l = [] := by
  have e : ttC r a b l = X := by unfold ttC; rw [h, if_neg h0]
  exact ⟨e, by unfold ttL; rw [e, if_neg h0]⟩
theorem tt_3 {r : Rul} {a b : Int} {l : List Fig} (h : tfC r a b (l.all isFig) = 0) (h0 : ¬ l.length ≤ 20) : ttC r a b l = 3 ∧ ttL r a b l = [] := by
  have e : ttC r a b l = 3 := by unfold ttC; rw [if_pos h, if_neg h0]
  exact ⟨e, by unfold ttL; rw [e, if_neg (by omega)]⟩
theorem tt_0 {r : Rul} {a b : Int} {l : List Fig} (h : tfC r a b (l.all isFig) = 0) (h0 : l.length ≤ 20) : ttC r a b l = 0 ∧ ttL r a b l = l.map (tfV a b) := by
  have e : ttC r a b l = 0 := by unfold ttC; rw [if_pos h, if_pos h0]
  exact ⟨e, by unfold ttL; rw [if_pos e]⟩
theorem ttL_len (r : Rul) (a b : Int) (l : List Fig) : (ttL r a b l).length ≤ 20 := by
  by_cases h : tfC r a b (l.all isFig) = 0
  · by_cases h2 : l.length ≤ 20
    · rw [(tt_0 h h2).2, List.length_map]; exact h2
    · rw [(tt_3 h h2).2]; simp
  · rw [(tt_no rfl h).2]; simp
theorem map_snoc {l : List Fig} {k : Nat} {x : Fig} (a b : Int) (h : l[k]? = some x) : (l.take (k + 1)).map (tfV a b) = (l.take k).map (tfV a b) ++ [tfV a b x] := by rw [take_snoc' h]; simp
theorem all_get' {l : List Fig} {k : Nat} {x : Fig} (ha : l.all isFig = true) (h : l[k]? = some x) : isFig x = true := List.all_eq_true.1 ha x (List.mem_of_getElem? h)

set_option maxHeartbeats 2000000 in
theorem w_implTransferTable (n : Int) (u v z : Value) (st sd : List Int) (a b : Int) (l : List Fig) (w : World) (h : IsNums w u st) (h' : IsNums w v sd) (hz : IsFigs w z l) :
    Calls Try.prog 35 #[.agg #[.int .i64 n, u, v], .int .i64 a, .int .i64 b, z] w fun e w' => ∃ a' l' k', e = .returned (.tuple #[.slice a' l' k', .int .i64 (ttC ⟨n, st, sd⟩ a b l)]) ∧ Later w w' ∧ w'.ownsRow w.heap.size 29 2 (.slice a' l' k') (ttL ⟨n, st, sd⟩ a b l).length (figs (ttL ⟨n, st, sd⟩ a b l)) := by
  have H := Lib.hid h
  have H' := Lib.hid h'
  obtain ⟨_, _, au, capu, rfl, _, _, _⟩ := h
  obtain ⟨_, _, av, capv, rfl, _, _, _⟩ := h'
  have HZ := Lib.hid hz
  obtain ⟨X, hX⟩ : ∃ y, tfC ⟨n, st, sd⟩ a b (l.all isFig) = y := ⟨_, rfl⟩
  have HX := Lib.hid hX
  obtain ⟨hxl1, hn1, a1, cap1, rfl, hcap1, hmax1, hrow1⟩ := hz
  have HR1 := Lib.hid hrow1
  clear hrow1 hxl1
  by_cases h0 : X = 0
  rotate_left
  · have HF := Lib.hid (tt_no hX h0)
    have hb : (X != 0) = true := by simp [h0]
    clear hX h0
    go_enter Try.func35, Try.ntmps35
    go_wp2_with fail
    refine (w_checkTransfer _ _ _ _ _ _ _ _ _ _ (H.out.later ((Later.refl _).alloc _)) (H'.out.later ((Later.refl _).alloc _)) (HZ.out.later ((Later.refl _).alloc _))).mono ?_
    rintro e w1 ⟨rfl, hL1⟩
    rw [HX.out]
    have HLw1 := Lib.hid (((Later.refl w).alloc _).trans hL1)
    have K0 := kept1 hL1
    have HK0_1 := Lib.hid K0
    clear K0
    clear hL1
    obtain ⟨c0, f0, z0⟩ := blk_at HK0_1.out
    go_wp2
    go_ret2
    exact ⟨none, 0, 0, by rw [HF.out.1]; rfl, by have hLw := HLw1.out; (repeat (with_reducible first | exact Later.refl _ | refine Later.alloc ?_ _ | refine Later.drew ?_ | refine Later.drewN ?_ _ | refine Later.setCell ?_ (by simp; try omega) _ | refine Later.trans ?_ (by assumption))), by rw [HF.out.2]; exact World.ownsRow_nil _ _ _ _⟩
  subst h0
  by_cases h20 : l.length ≤ 20
  rotate_left
  · have HF := Lib.hid (tt_3 hX h20)
    clear hX
    go_enter Try.func35, Try.ntmps35
    go_wp2_with fail
    refine (w_checkTransfer _ _ _ _ _ _ _ _ _ _ (H.out.later ((Later.refl _).alloc _)) (H'.out.later ((Later.refl _).alloc _)) (HZ.out.later ((Later.refl _).alloc _))).mono ?_
    rintro e w1 ⟨rfl, hL1⟩
    rw [HX.out]
    have HLw1 := Lib.hid (((Later.refl w).alloc _).trans hL1)
    have K0 := kept1 hL1
    have HK0_1 := Lib.hid K0
    clear K0
    clear hL1
    obtain ⟨c0, f0, z0⟩ := blk_at HK0_1.out
    go_wp2
    go_ret2
    exact ⟨none, 0, 0, by rw [HF.out.1]; rfl, by have hLw := HLw1.out; (repeat (with_reducible first | exact Later.refl _ | refine Later.alloc ?_ _ | refine Later.drew ?_ | refine Later.drewN ?_ _ | refine Later.setCell ?_ (by simp; try omega) _ | refine Later.trans ?_ (by assumption))), by rw [HF.out.2]; exact World.ownsRow_nil _ _ _ _⟩
  have HF := Lib.hid (tt_0 hX h20)
  have hq := tfC_0 hX
  have ha := rule_st hq.1 hq.2.2.1
  have hb := rule_st hq.1 hq.2.2.2
  obtain ⟨a1, a2⟩ := ha
  obtain ⟨b1, b2⟩ := hb
  have HAll := Lib.hid hq.2.1
  clear hX hq
  go_enter Try.func35, Try.ntmps35
  go_wp2_with fail
  refine (w_checkTransfer _ _ _ _ _ _ _ _ _ _ (H.out.later ((Later.refl _).alloc _)) (H'.out.later ((Later.refl _).alloc _)) (HZ.out.later ((Later.refl _).alloc _))).mono ?_
  rintro e w1 ⟨rfl, hL1⟩
  rw [HX.out]
  have HLw1 := Lib.hid (((Later.refl w).alloc _).trans hL1)
  have K0 := kept1 hL1
  have HK0_1 := Lib.hid K0
  clear K0
  clear hL1
  obtain ⟨c0, f0, z0⟩ := blk_at HK0_1.out
  go_wp2
  go_loopw [11, 28] (fun r i wr => ∃ k : Nat, k ≤ l.length ∧ i = .int .i64 k ∧ Later w wr ∧ wr.ownsRow w.heap.size 29 2 r ((l.take k).map (tfV a b)).length (figs ((l.take k).map (tfV a b)))) (fun _ i _ => l.length - (intOf i).toNat)
  case atStart => exact ⟨0, Nat.zero_le _, rfl, (HLw1.out.alloc _), own_empty (Later.size HLw1.out) _ _⟩
  case round =>
    obtain ⟨k, hk, rfl, hL, hown⟩ := hrel
    by_cases hlt : k < l.length
    · obtain ⟨b1, off1, rfl, hr1⟩ := HR1.out (by omega)
      obtain ⟨t, ht1⟩ := get_ex (l := l) (k := k) (by omega)
      have HT1 := Lib.hid ht1
      obtain ⟨c1_0, c1_1⟩ := (hr1.later hL).fig ht1
      clear ht1
      have HFt := Lib.hid (all_get' HAll.out HT1.out)
      obtain ⟨⟨d, f⟩, hG⟩ : ∃ y, tfV a b t = y := ⟨_, rfl⟩
      have HG := Lib.hid (show tfV a b ⟨t.d, t.t⟩ = ⟨d, f⟩ from hG)
      have HN := Lib.hid ((map_snoc a b HT1.out).trans (by rw [hG]))
      have HOwn := Lib.hid hown
      clear hG hown
      go_wp2_with fail
      refine (w_transferFigure a b t.d t.t (by omega) (by omega) (by omega) (by omega) HFt.out _).mono ?_
      rintro e w2 ⟨rfl, hL2⟩
      rw [HG.out]
      have hL3 : Later wr w2 := ((Later.refl _).alloc _).trans hL2
      have hown2 := owns_later HOwn.out hL3
      have hL4 : Later w w2 := hL.trans hL3
      have HLen := Lib.hid (show ((l.take k).map (tfV a b)).length + 1 ≤ 1048576 from by rw [List.length_map, List.length_take]; omega)
      go_wp2_with (at_builtin; refine app1_Figure rfl (.tmp 32) (.tmp 37) rfl w.heap.size _ ((l.take k).map (tfV a b)) ⟨d, f⟩ rfl hown2 (by simp [Act.eval, Array.getD]) HLen.out hL4.size ?_; intro v1 w4 ho4 hg4)
      go_roundw
      case rel => exact ⟨k + 1, by omega, by go_num, hL4.own (Nat.le_refl _) hown2 hg4, by rw [HN.out]; exact ho4⟩
      case measure => simp [intOf]; omega
    · have HE := Lib.hid (show ((l.take k).map (tfV a b)) = l.map (tfV a b) from by rw [take_eq_all (by omega)])
      have HL := Lib.hid hL
      have HO := Lib.hid (HE.out ▸ hown)
      obtain ⟨a3, k3, e3⟩ := isSl_of HO.out
      subst e3
      clear hL hown
      go_wp2
      go_ret2
      exact ⟨a3, _, k3, by rw [HF.out.1]; rfl, HL.out, by rw [HF.out.2]; exact HO.out⟩

set_option maxHeartbeats 2000000 in
theorem w_specTransferTable (n : Int) (u v z : Value) (st sd : List Int) (a b : Int) (l : List Fig) (w : World) (h : IsNums w u st) (h' : IsNums w v sd) (hz : IsFigs w z l) :
    Calls Try.prog 33 #[.agg #[.int .i64 n, u, v], .int .i64 a, .int .i64 b, z] w fun e w' => ∃ a' l' k', e = .returned (.tuple #[.slice a' l' k', .int .i64 (ttC ⟨n, st, sd⟩ a b l)]) ∧ Later w w' ∧ w'.ownsRow w.heap.size 29 2 (.slice a' l' k') (ttL ⟨n, st, sd⟩ a b l).length (figs (ttL ⟨n, st, sd⟩ a b l)) := by
  have H := Lib.hid h
  have H' := Lib.hid h'
  obtain ⟨_, _, au, capu, rfl, _, _, _⟩ := h
  obtain ⟨_, _, av, capv, rfl, _, _, _⟩ := h'
  have HZ := Lib.hid hz
  obtain ⟨Y, hY⟩ : ∃ y, tfC ⟨n, st, sd⟩ a b true = y := ⟨_, rfl⟩
  have HY := Lib.hid (show tfC ⟨n, st, sd⟩ a b (isFig ⟨1000, 0⟩) = Y from hY)
  have hall := tfC_all ⟨n, st, sd⟩ a b (l.all isFig)
  rw [hY] at hall
  obtain ⟨X, hX⟩ : ∃ y, tfC ⟨n, st, sd⟩ a b (l.all isFig) = y := ⟨_, rfl⟩
  have HX := Lib.hid (show (if l.all isFig then Y else 1) = X from by rw [← hall, hX])
  have HTf := Lib.hid hX
  obtain ⟨hxl1, hn1, a1, cap1, rfl, hcap1, hmax1, hrow1⟩ := hz
  have HR1 := Lib.hid hrow1
  clear hrow1 hxl1
  clear hall hX hY
  go_enter Try.func33, Try.ntmps33
  go_wp2_with fail
  refine (w_l17Code _ _ _ _ _ _ _ _ _ _ (H.out.later ((Later.refl _).alloc _)) (H'.out.later ((Later.refl _).alloc _))).mono ?_
  rintro e w1 ⟨rfl, hL1⟩
  rw [HY.out]
  have HLw1 := Lib.hid (((Later.refl w).alloc _).trans hL1)
  have K0 := kept1 hL1
  have HK0_1 := Lib.hid K0
  clear K0
  clear hL1
  obtain ⟨c0, f0, z0⟩ := blk_at HK0_1.out
  go_wp2
  go_loopw [10, 11] (fun c i wr => ∃ k : Nat, k ≤ l.length ∧ i = .int .i64 k ∧ Later w wr ∧ ∃ C : Int, c = .int .i64 C ∧ Hid (C = if (l.take k).all isFig then Y else 1)) (fun _ i _ => l.length - (intOf i).toNat)
  case atStart => exact ⟨0, Nat.zero_le _, rfl, HLw1.out, Y, rfl, rfl⟩
  case round =>
    obtain ⟨k, hk, rfl, hL, C, rfl, HC⟩ := hrel
    by_cases hlt : k < l.length
    · obtain ⟨b1, off1, rfl, hr1⟩ := HR1.out (by omega)
      obtain ⟨t, ht1⟩ := get_ex (l := l) (k := k) (by omega)
      have HT1 := Lib.hid ht1
      obtain ⟨c1_0, c1_1⟩ := (hr1.later hL).fig ht1
      clear ht1
      have HLr := Lib.hid hL
      cases hq : isFig t
      all_goals
        have HQ := Lib.hid hq
        clear hq
        go_wp2_with fail
        refine (w_specIsFigure _ _ _).mono ?_
        rintro e w2 ⟨rfl, hL2⟩
        rw [show isFig ⟨t.d, t.t⟩ = _ from HQ.out]
        have HLn := Lib.hid (HLr.out.trans hL2)
        clear hL2
        go_wp2
        go_roundw
        case rel => first | exact ⟨k + 1, by omega, by go_num, HLn.out, 1, rfl, by rw [Hid, take_snoc' HT1.out, List.all_append]; simp [HQ.out]⟩ | exact ⟨k + 1, by omega, by go_num, HLn.out, C, rfl, by rw [Hid, take_snoc' HT1.out, List.all_append]; simp only [List.all_cons, List.all_nil, HQ.out, Bool.and_true]; exact HC.out⟩
        case measure => simp [intOf]; omega
    · have hCX : C = X := by
        have := HC.out
        rw [take_eq_all (by omega)] at this
        rw [this]; exact HX.out
      subst hCX
      have HLr := Lib.hid hL
      clear hL
      by_cases h0 : C = 0
      rotate_left
      · have HF := Lib.hid (tt_no HTf.out h0)
        have hb : (C != 0) = true := by simp [h0]
        have hb2 : (C == 0) = false := by simp [h0]
        clear h0
        go_wp2
        go_ret2
        exact ⟨none, 0, 0, by rw [HF.out.1]; rfl, HLr.out, by rw [HF.out.2]; exact World.ownsRow_nil _ _ _ _⟩
      subst h0
      by_cases h20 : l.length ≤ 20
      rotate_left
      · have HF := Lib.hid (tt_3 HTf.out h20)
        go_wp2
        go_ret2
        exact ⟨none, 0, 0, by rw [HF.out.1]; rfl, HLr.out, by rw [HF.out.2]; exact World.ownsRow_nil _ _ _ _⟩
      have HF := Lib.hid (tt_0 HTf.out h20)
      have hq := tfC_0 HTf.out
      have ha := rule_st hq.1 hq.2.2.1
      have hb := rule_st hq.1 hq.2.2.2
      obtain ⟨a1, a2⟩ := ha
      obtain ⟨b1, b2⟩ := hb
      have HAll := Lib.hid hq.2.1
      clear hq
      go_wp2
      go_loopw [12, 13] (fun r i wr => ∃ k : Nat, k ≤ l.length ∧ i = .int .i64 k ∧ Later w wr ∧ wr.ownsRow w.heap.size 29 2 r ((l.take k).map (tfV a b)).length (figs ((l.take k).map (tfV a b)))) (fun _ i _ => l.length - (intOf i).toNat)
      case atStart => exact ⟨0, Nat.zero_le _, rfl, (HLr.out.alloc _), own_empty (Later.size HLr.out) _ _⟩
      case round =>
        obtain ⟨k, hk, rfl, hL, hown⟩ := hrel
        by_cases hlt : k < l.length
        · obtain ⟨b1, off1, rfl, hr1⟩ := HR1.out (by omega)
          obtain ⟨t, ht1⟩ := get_ex (l := l) (k := k) (by omega)
          have HT1 := Lib.hid ht1
          obtain ⟨c1_0, c1_1⟩ := (hr1.later hL).fig ht1
          clear ht1
          have HFt := Lib.hid (all_get' HAll.out HT1.out)
          obtain ⟨⟨d, f⟩, hG⟩ : ∃ y, tfV a b t = y := ⟨_, rfl⟩
          have HG := Lib.hid (show tfV a b ⟨t.d, t.t⟩ = ⟨d, f⟩ from hG)
          have HN := Lib.hid ((map_snoc a b HT1.out).trans (by rw [hG]))
          have HOwn := Lib.hid hown
          clear hG hown
          go_wp2_with fail
          refine (w_l17Read a b t.d t.t (by omega) (by omega) (by omega) (by omega) HFt.out _).mono ?_
          rintro e w2 ⟨rfl, hL2⟩
          rw [HG.out]
          have hL3 : Later wr w2 := hL2
          have hown2 := owns_later HOwn.out hL3
          have hL4 : Later w w2 := hL.trans hL3
          have HLen := Lib.hid (show ((l.take k).map (tfV a b)).length + 1 ≤ 1048576 from by rw [List.length_map, List.length_take]; omega)
          go_wp2_with (at_builtin; refine app1_Figure rfl (.tmp 48) (.tmp 56) rfl w.heap.size _ ((l.take k).map (tfV a b)) ⟨d, f⟩ rfl hown2 (by simp [Act.eval, Array.getD]) HLen.out hL4.size ?_; intro v1 w4 ho4 hg4)
          go_roundw
          case rel => exact ⟨k + 1, by omega, by go_num, hL4.own (Nat.le_refl _) hown2 hg4, by rw [HN.out]; exact ho4⟩
          case measure => simp [intOf]; omega
        · have HE := Lib.hid (show ((l.take k).map (tfV a b)) = l.map (tfV a b) from by rw [take_eq_all (by omega)])
          have HL := Lib.hid hL
          have HO := Lib.hid (HE.out ▸ hown)
          obtain ⟨a3, k3, e3⟩ := isSl_of HO.out
          subst e3
          clear hL hown
          go_wp2
          go_ret2
          exact ⟨a3, _, k3, by rw [HF.out.1]; rfl, HL.out, by rw [HF.out.2]; exact HO.out⟩

end Go.Proofs.Ytfhppnmbmdpjeaa
