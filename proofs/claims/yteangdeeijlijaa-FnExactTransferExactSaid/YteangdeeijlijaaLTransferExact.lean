/- The program's TransferExact: the span of what a transfer tells. It answers what the reference's function answers, for all arguments. No condition. -/
import Derived.Test.YteangdeeijlijaaRows
import Derived.Test.YteangdeeijlijaaO1
import Derived.Test.YteangdeeijlijaaB3
import Derived.Test.YteangdeeijlijaaM32
namespace Go.Proofs.Yteangdeeijlijaa.lawTransferExact
set_option linter.unusedVariables false
set_option linter.unusedSimpArgs false
open Go.ChangeShapes Go.WideShapes Go.ChangeAt Go.RowKit
set_option linter.unusedVariables false
set_option maxRecDepth 100000

set_option maxHeartbeats 4000000 in
theorem walk (ag0 : Int) (ag1 : Int) (ag2_0 ag2_1 : Int) (w : World) :
    Calls Try.prog 9 #[.int .i64 ag0, .int .i64 ag1, .agg #[.int .i64 ag2_0, .int .i64 ag2_1]] w fun e w' => e = .returned (.bool true) ∧ Later w w' := by
  obtain ⟨R0, hR0⟩ : ∃ R : Fig, txL ag0 ag1 ⟨ag2_0, ag2_1⟩ = R := ⟨_, rfl⟩
  have HR0 := Lib.hid hR0
  clear hR0
  obtain ⟨R1, hR1⟩ : ∃ R : Fig, txH ag0 ag1 ⟨ag2_0, ag2_1⟩ = R := ⟨_, rfl⟩
  have HR1 := Lib.hid hR1
  clear hR1
  obtain ⟨R2, hR2⟩ : ∃ R : Int, txC ag0 ag1 ⟨ag2_0, ag2_1⟩ = R := ⟨_, rfl⟩
  have HR2 := Lib.hid hR2
  clear hR2
  have HW := Later.refl w
  go_enter Try.func9, Try.ntmps9
  go_wp2_with fail
  refine (w_toFigure _ _ _).mono ?_
  rintro e u1 ⟨rfl, hL1⟩
  have KB2 := Lib.hid (kept1 hL1)
  replace hL1 := ((Later.refl _).alloc _).trans hL1
  replace HW := HW.trans hL1
  clear hL1
  go_wp2_with fail
  refine (w_specTransferExact _ _ _ _ _ ).mono ?_
  rintro e u2 ⟨rfl, hL2⟩
  rw [HR0.out, HR1.out, HR2.out]
  replace KB2 := Lib.hid (hL2.keep KB2.out)
  replace HW := HW.trans hL2
  clear hL2
  obtain ⟨cB2, fB2, zB2⟩ := blk_at KB2.out
  go_wp2_with fail
  refine (w_toFigure _ _ _).mono ?_
  rintro e u3 ⟨rfl, hL3⟩
  clear cB2 fB2 zB2
  obtain ⟨hk0, hk1⟩ := kept2 hL3
  have KA7 := Lib.hid hk0
  have KA8 := Lib.hid hk1
  clear hk0 hk1
  replace hL3 := (((Later.refl _).alloc _).alloc _).trans hL3
  replace KB2 := Lib.hid (hL3.keep KB2.out)
  replace HW := HW.trans hL3
  clear hL3
  go_wp2_with fail
  refine (w_implTransferExact _ _ _ _ _ ).mono ?_
  rintro e u4 ⟨rfl, hL4⟩
  rw [HR0.out, HR1.out, HR2.out]
  replace KB2 := Lib.hid (hL4.keep KB2.out)
  replace KA7 := Lib.hid (hL4.keep KA7.out)
  replace KA8 := Lib.hid (hL4.keep KA8.out)
  replace HW := HW.trans hL4
  clear hL4
  obtain ⟨cA7, fA7, zA7⟩ := blk_at KA7.out
  go_wp2_with fail
  refine (w_eqFigure_same _ _ _).mono ?_
  rintro e u5 ⟨rfl, hL5⟩
  clear cA7 fA7 zA7
  obtain ⟨hk0, hk1⟩ := kept2 hL5
  have KA10 := Lib.hid hk0
  have KA11 := Lib.hid hk1
  clear hk0 hk1
  replace hL5 := (((Later.refl _).alloc _).alloc _).trans hL5
  replace KB2 := Lib.hid (hL5.keep KB2.out)
  replace KA7 := Lib.hid (hL5.keep KA7.out)
  replace KA8 := Lib.hid (hL5.keep KA8.out)
  replace HW := HW.trans hL5
  clear hL5
  obtain ⟨cA11, fA11, zA11⟩ := blk_at KA11.out
  obtain ⟨cA8, fA8, zA8⟩ := blk_at KA8.out
  go_wp2_with fail
  refine (w_eqFigure_same _ _ _).mono ?_
  rintro e u6 ⟨rfl, hL6⟩
  clear cA11 fA11 zA11 cA8 fA8 zA8
  replace KB2 := Lib.hid (hL6.keep KB2.out)
  replace KA7 := Lib.hid (hL6.keep KA7.out)
  replace KA8 := Lib.hid (hL6.keep KA8.out)
  replace KA10 := Lib.hid (hL6.keep KA10.out)
  replace KA11 := Lib.hid (hL6.keep KA11.out)
  replace HW := HW.trans hL6
  clear hL6
  go_wp2
  go_ret
  exact ⟨rfl, HW⟩

theorem lifted (os : Os) (started : os.Started) (H : Type) (enc : TypeId × Value → H) :
    ReturnsInHanded {} Try.checked os 9 .any (Rows.fnExactTransferExactSpec.pre6 enc Try.prog Try.f9 Rows.fnExactTransferExactRow.domain false) (Rows.fnExactTransferExactSpec.post enc Try.prog Try.f9 false true false false) := by
  refine returnsInHanded_of_change (C := Try.checked) o_own started (by kernel_rfl) Try.func9
    (ChangeSpec.witness6 (enc := enc) (C := Try.checked) false ⟨#[], #[.int .i64 0, .int .i64 0, .agg #[.int .i64 0, .int .i64 0]], []⟩ 8 (by kernel_rfl) (by kernel_rfl) (by kernel_rfl) (by kernel_rfl)) ?_
  intro W base args ds gs before hval0 hW hcnd _
  have hval : ∀ (j : Nat) t v, Try.f9.params[j]? = some t → args[j]? = some v → Value.okWide Try.prog W .any base t v := hval0
  have hW' := hW
  obtain ⟨p, q, hA0, hV, rfl, hfz, hnd⟩ := hW
  have hA : DataW.TrodAll enc Try.prog W 0 (fun _ => true) true Try.f9.params.toList args.toList ds p := hA0
  rw [Try.params9] at hA hval
  obtain ⟨v0, vs0, d0, ds0, p0, q0, hargs, rfl, rfl, h0, r0⟩ := trodAll_cons hA
  obtain ⟨v1, vs1, d1, ds1, p1, q1, rfl, rfl, rfl, h1, r1⟩ := trodAll_cons r0
  obtain ⟨v2, vs2, d2, ds2, p2, q2, rfl, rfl, rfl, h2, r2⟩ := trodAll_cons r1
  obtain ⟨rfl, rfl, rfl⟩ := trodAll_nil r2
  obtain rfl : args = #[v0, v1, v2] := by cases args; simp_all
  obtain ⟨rfl, rfl⟩ := trodVars_none hV
  obtain ⟨ag0, rfl, rfl, rfl, wf0⟩ := open_int Try.underlying2 (hval 0 2 v0 rfl rfl) h0
  obtain ⟨ag1, rfl, rfl, rfl, wf1⟩ := open_int Try.underlying2 (hval 1 2 v1 rfl rfl) h1
  have k2 := h2
  have lt2 : ∀ x ∈ p2, x.block < W.heap.size := by obtain ⟨m, hm⟩ := k2; exact DataW.trod_lt m _ _ _ hm
  obtain ⟨ag2_0, ag2_1, rfl⟩ := o_lFigure' (hval 2 42 v2 rfl rfl) h2
  clear hA0 hval0
  refine (walk ag0 ag1 ag2_0 ag2_1 W ).mono fun e W' ⟨he, bel⟩ => ?_
  subst he
  exact ⟨_, rfl, _, _, _, [], _, [], hW', trodAll_mk1 (shut_bool Try.underlying4 _), (trodAll_cons_mk (shut_int Try.underlying2 wf0) (trodAll_cons_mk (shut_int Try.underlying2 wf1) (trodAll_cons_mk (Below.trod o_laidOut (by kernel_rfl) (of_decide_eq_true (by kernel_rfl)) k2 bel lt2) trodAll_mk0))), rfl, bel.frame _, fun h => by cases h⟩

theorem over : Rows.fnExactTransferExactRow.holds Try.pinned (OpenSpec.ofChange Rows.fnExactTransferExactSpec) :=
  OpenClaim.holds_of_wide 9 Try.f9 rfl rfl rfl rfl rfl rfl rfl ⟨rfl, rfl, rfl, rfl, rfl⟩ rfl rfl rfl rfl rfl (by kernel_rfl) Try.func9 (by kernel_rfl)
    (of_decide_eq_true (by kernel_rfl)) (by unfold Func.isWrapper; first | (rw [if_pos (by decide +kernel)]; kernel_rfl) | (rw [if_neg (by decide +kernel)]; exact ⟨rfl, rfl⟩))
    (fun os started H enc _ => lifted os started H enc)

theorem proved : Rows.FnExactTransferExactSaid := over
#print axioms proved
end Go.Proofs.Yteangdeeijlijaa.lawTransferExact
