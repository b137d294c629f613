/- The program's MovesText: the text of moves. It answers what the reference's function answers, for all arguments. -/
import Derived.Test.YtgngbdacejghcaaDoorRows
import Derived.Test.YtgngbdacejghcaaDoorCards
import Derived.Test.YtgngbdacejghcaaDoorTie
import Derived.Test.YtgngbdacejghcaaDoorO1
import Derived.Test.YtgngbdacejghcaaDoorD7
import Derived.Test.YtgngbdacejghcaaDoorHMove
import Derived.LaidMore
import Derived.OpenShut
import Derived.SevenTiedAt
import Derived.Stop.LaidErr
import Derived.Stop.Joined
namespace Go.Proofs.YtgngbdacejghcaaDoor.lawMovesText
set_option linter.unusedVariables false
set_option linter.unusedSimpArgs false
open Go.ChangeShapes Go.WideShapes Go.ChangeAt Go.RowKit
set_option linter.unusedVariables false
set_option maxRecDepth 100000

set_option maxHeartbeats 400000 in
theorem walk (v0 : Value) (l0 : List Mov) (w : World) (r0 : Raw w v0 l0.length 4 (movs l0)) (ht : PTab w) :
    Calls Tryd.prog 4 #[v0] w fun e w' => e = .returned (.bool true) ∧ Later w w' := by
  by_cases hs0 : l0.length ≤ 1048576
  rotate_left
  · obtain ⟨_, x0, cap0, rfl, hcap0, hmax0, _⟩ := r0
    go_enter Tryd.func4, Tryd.ntmps4
    have hs : (if (1048576 : Int) < (l0.length : Int) then (-1 : Int) else (1048576 : Int) - (l0.length : Int)) = -1 := if_pos (by omega)
    have HS := Lib.hid hs
    clear hs
    go_wp2_with fail
    refine (w_szMoveS _ _ _ _ (by omega) (by omega) (by omega) _).mono ?_
    rintro e w' ⟨rfl, rfl⟩
    rw [HS.out]
    clear HS
    go_wp2
    go_ret
    exact ⟨rfl, Later.refl _⟩
  have PT := Lib.hid ht
  clear ht
  have R0 := Lib.hid (r0.reads (by omega))
  have HW := Later.refl w
  obtain ⟨_, x0, cap0, rfl, hcap0, hmax0, _⟩ := r0
  obtain ⟨R, hR⟩ : ∃ R, mtT l0 = R := ⟨_, rfl⟩
  obtain ⟨q, hq⟩ : ∃ q, codeMoves l0 = q := ⟨_, rfl⟩
  have ER := Lib.hid hR
  have EQ := Lib.hid hq
  clear hR hq
  go_enter Tryd.func4, Tryd.ntmps4
  have hs : (if (1048576 : Int) < (l0.length : Int) then (-1 : Int) else (1048576 : Int) - (l0.length : Int)) = (1048576 : Int) - (l0.length : Int) := if_neg (by omega)
  have HS := Lib.hid hs
  clear hs
  go_wp2_with fail
  refine (w_szMoveS _ _ _ _ (by omega) (by omega) (by omega) _).mono ?_
  rintro e w' ⟨rfl, rfl⟩
  rw [HS.out]
  clear HS
  go_wp2_with fail
  refine (w_toMoveS _ _ _ (R0.out.later HW)).mono ?_
  rintro e u1 ⟨ys0, rfl, hL1, ho⟩
  replace HW := HW.trans hL1
  clear hL1
  have Os0 := Lib.hid ho
  clear ho
  go_wp2_with fail
  refine (w_specMovesText _ _ _ (reads_of_owns Os0.out (by omega))).mono ?_
  rintro e u2 ⟨rfl, hL2⟩
  rw [ER.out, EQ.out]
  replace HW := HW.trans hL2
  clear hL2
  clear Os0
  go_wp2_with fail
  refine (w_toMoveS _ _ _ (R0.out.later HW)).mono ?_
  rintro e u3 ⟨yx0, rfl, hL3, ho⟩
  replace HW := HW.trans hL3
  clear hL3
  have Ox0 := Lib.hid ho
  clear ho
  go_wp2_with fail
  refine (w_implMovesText _ _ _ (reads_of_owns Ox0.out (by omega)) (PT.out.later HW)).mono ?_
  rintro e u4 ⟨rfl, hL4⟩
  rw [ER.out, EQ.out]
  replace Ox0 := Lib.hid (owns_later Ox0.out hL4)
  replace HW := HW.trans hL4
  clear hL4
  go_wp2_with fail
  refine (w_toMoveS _ _ _ (R0.out.later HW)).mono ?_
  rintro e u6 ⟨yt0, rfl, hL6, ho⟩
  replace Ox0 := Lib.hid (owns_later Ox0.out hL6)
  replace HW := HW.trans hL6
  clear hL6
  have Ot0 := Lib.hid ho
  clear ho
  go_wp2_with fail
  refine (w_eqMoveS _ _ _ _ _ (reads_of_owns Ox0.out (by omega)) (reads_of_owns Ot0.out (by omega))).mono ?_
  rintro e u7 ⟨rfl, hL7⟩
  replace HW := HW.trans hL7
  clear hL7
  go_wp2
  go_ret
  exact ⟨rfl, HW⟩

theorem tab_ty : (Tryd.prog.globals[(5 : Nat)]?).map (·.type) = some 184 := by kernel_rfl
theorem laid_tab {W : World} (h : laidMetH Tryd.prog Rows.fnExactMovesTextRow.laid W) : PTab W := by
  rw [MakeChecks.laidMetH_plain _ _ _ (by kernel_rfl)] at h
  exact Lib.tabIs_of_head (rest := []) pt_g tab_ty Tryd.underlying184 Tryd.underlying161 (by kernel_rfl) (by kernel_rfl) (laidMet.tail (laidMet.tail h))
theorem door_met (os : Os) (args : Array Value) : laidMetH Tryd.prog Rows.fnExactMovesTextRow.laid ((World.doorLaid Tryd.prog 400 os).forCall (fun _ _ => 0) ⟨#[], args, []⟩).memory :=
  laidMetH_of_parts3 (fuel := 8) (laidMet_of_run' 8 (by kernel_rfl) (by kernel_rfl)) (by kernel_rfl) (by kernel_rfl)

theorem lifted (os : Os) (started : os.Started) (H : Type) (enc : TypeId × Value → H) :
    ReturnsInHanded {} Tryd.checked os 4 .any (fun w args => (Rows.fnExactMovesTextSpec.pre enc Tryd.prog Tryd.f4 [] false w args ∧ laidMetH Tryd.prog Rows.fnExactMovesTextRow.laid w) ∧ sizedMet enc Tryd.prog Tryd.f4 (OpenSpec.ofChange Rows.fnExactMovesTextSpec) false w args)
      (Rows.fnExactMovesTextSpec.post enc Tryd.prog Tryd.f4 false true false false) := by
  refine returnsInHanded_of_change_and (C := Tryd.checked) (X := fun w _ => laidMetH Tryd.prog Rows.fnExactMovesTextRow.laid w) (fun _ _ _ hh h => h.of_heap hh) o_own started (by kernel_rfl) Tryd.func4
    (ChangeSpec.witness_shaped (enc := enc) (C := Tryd.checked) (os := os) (X := fun w _ => laidMetH Tryd.prog Rows.fnExactMovesTextRow.laid w) false (World.doorLaid Tryd.prog 400 os) #[.slice none 0 0] 8 rfl (World.shaped_of_RefB (by kernel_rfl) (by kernel_rfl)) (by kernel_rfl) (by kernel_rfl) (by kernel_rfl) (door_met os _)) ?_
  intro W base args ds gs before hval0 hW _ _ hL _
  have hval : ∀ (j : Nat) t v, Tryd.f4.params[j]? = some t → args[j]? = some v → Value.okWide Tryd.prog W .any base t v := hval0
  have hW' := hW
  obtain ⟨p, q, hA0, hV, rfl, hfz, hnd⟩ := hW
  have hA : DataW.TrodAll enc Tryd.prog W 0 (fun _ => true) true Tryd.f4.params.toList args.toList ds p := hA0
  rw [Tryd.params4] at hA hval
  obtain ⟨v0, vs0, d0, ds0, p0, q0, hargs, rfl, rfl, h0, r0⟩ := trodAll_cons hA
  obtain ⟨rfl, rfl, rfl⟩ := trodAll_nil r0
  obtain rfl : args = #[v0] := by cases args; simp_all
  obtain ⟨rfl, rfl⟩ := trodVars_none hV
  obtain ⟨a0, len0, cap0, rfl⟩ := okWide_slice Tryd.underlying30 (hval 0 30 v0 rfl rfl)
  have k0 := h0
  have lt0 : ∀ x ∈ p0, x.block < W.heap.size := by obtain ⟨m, hm⟩ := k0; exact DataW.trod_lt m _ _ _ hm
  obtain ⟨l0, w0⟩ := o_lMoveS h0
  clear hA0 hval0
  refine (walk _ l0 W w0 (laid_tab hL)).mono fun e W' ⟨he, bel⟩ => ?_
  subst he
  exact ⟨_, rfl, _, _, _, [], _, [], hW', trodAll_mk1 (shut_bool Tryd.underlying4 _), (trodAll_cons_mk (Below.trod o_laidOut (by kernel_rfl) (of_decide_eq_true (by kernel_rfl)) k0 bel lt0) trodAll_mk0), rfl, bel.frame _, fun h => by cases h⟩

theorem over : Rows.FnExactMovesTextSaid :=
  OpenClaim.holds_of_wide 4 Tryd.f4 rfl rfl rfl rfl rfl rfl rfl ⟨rfl, rfl, rfl, rfl, rfl⟩ rfl rfl rfl rfl rfl (by kernel_rfl) Tryd.func4 (by kernel_rfl)
    (of_decide_eq_true (by kernel_rfl)) (by unfold Func.isWrapper; first | (rw [if_pos (by decide +kernel)]; kernel_rfl) | (rw [if_neg (by decide +kernel)]; exact ⟨rfl, rfl⟩))
    (fun os started H enc _ => lifted os started H enc)

theorem proved : Rows.FnExactMovesTextCardSaid :=
  Claim7.holds_tied_plain_at .later [] [.data, .data, .data] true (true, "4dd07d9378b5849b743967e91cb11eec9d8f46762c551014cbd10579683d114b") true
    over (fun _ h => by cases h) (by kernel_rfl) (fun _ h => by cases h) fnExactMovesText_row_tie rfl ⟨rfl, rfl⟩ (by kernel_rfl) rfl
    (fun f fn hf hfn => by
      obtain rfl : f = 4 := Option.some.inj ((show Tryd.prog.funcNamed "loop.example/g00951/laws.FnExactMovesText" = some 4 by kernel_rfl).symm.trans hf) |>.symm
      obtain rfl : fn = Tryd.f4 := (Option.some.inj (Tryd.func4.symm.trans hfn)).symm
      exact ⟨by kernel_rfl, fun j t ht => by
        rw [Tryd.params4] at ht
        have hm : t ∈ [30] := by simpa using Array.mem_of_getElem? ht
        have hall : ([30].all fun u => !Tryd.prog.wantsStandIn u) = true := by kernel_rfl
        exact (show Tryd.prog.wantsStandIn t = false by simpa using List.all_eq_true.1 hall t hm)⟩)
    (by kernel_rfl)
#print axioms proved
end Go.Proofs.YtgngbdacejghcaaDoor.lawMovesText
