/- The program's ChainSpan: the span of a chain. It answers what the reference's function answers, for all arguments. No condition. -/
import Derived.Test.YteangdeeijlijaaRows
import Derived.Test.YteangdeeijlijaaO1
import Derived.Test.YteangdeeijlijaaB3
import Derived.Test.YteangdeeijlijaaM31
import Derived.Test.YteangdeeijlijaaHTerm
namespace Go.Proofs.Yteangdeeijlijaa.lawChainSpan
set_option linter.unusedVariables false
set_option linter.unusedSimpArgs false
open Go.ChangeShapes Go.WideShapes Go.ChangeAt Go.RowKit
set_option linter.unusedVariables false
set_option maxRecDepth 100000

set_option maxHeartbeats 4000000 in
theorem walk (v0 : Value) (l0 : List Trm) (w : World) (r0 : Raw w v0 l0.length 3 (trms l0)) :
    Calls Try.prog 7 #[v0] w fun e w' => e = .returned (.bool true) ∧ Later w w' := by
  by_cases hs0 : l0.length ≤ 1048576
  rotate_left
  · have HW := Later.refl w
    obtain ⟨_, sx0, cap0, rfl, hcap0, hmax0, _⟩ := r0
    go_enter Try.func7, Try.ntmps7
    have hs : (if (1048576 : Int) < (l0.length : Int) then (-1 : Int) else (1048576 : Int) - (l0.length : Int)) = -1 := if_pos (by omega)
    have HS := Lib.hid hs
    clear hs
    go_wp2_with fail
    refine (w_szTermS _ _ _ _ (by omega) (by omega) (by omega) _).mono ?_
    rintro e w' ⟨rfl, rfl⟩
    rw [HS.out]
    clear HS
    go_wp2
    go_ret
    exact ⟨rfl, HW⟩
  have R0 := Lib.hid (r0.reads (by omega))
  obtain ⟨R0, hR0⟩ : ∃ R : Fig, chainSpanL l0 = R := ⟨_, rfl⟩
  have HR0 := Lib.hid hR0
  clear hR0
  obtain ⟨R1, hR1⟩ : ∃ R : Fig, chainSpanH l0 = R := ⟨_, rfl⟩
  have HR1 := Lib.hid hR1
  clear hR1
  obtain ⟨R2, hR2⟩ : ∃ R : Int, chainSpanC l0 = R := ⟨_, rfl⟩
  have HR2 := Lib.hid hR2
  clear hR2
  have HW := Later.refl w
  obtain ⟨_, sx0, cap0, rfl, hcap0, hmax0, _⟩ := r0
  go_enter Try.func7, Try.ntmps7
  have hs : (if (1048576 : Int) < (l0.length : Int) then (-1 : Int) else (1048576 : Int) - (l0.length : Int)) = (1048576 : Int) - (l0.length : Int) := if_neg (by omega)
  have HS := Lib.hid hs
  clear hs
  go_wp2_with fail
  refine (w_szTermS _ _ _ _ (by omega) (by omega) (by omega) _).mono ?_
  rintro e w' ⟨rfl, rfl⟩
  rw [HS.out]
  clear HS
  go_wp2_with fail
  refine (w_toTermS _ _ _ (R0.out.later HW)).mono ?_
  rintro e u3 ⟨y3_0, rfl, hL3, ho0⟩
  replace HW := HW.trans hL3
  clear hL3
  have Oy3_0 := Lib.hid ho0
  clear ho0
  go_wp2_with fail
  refine (w_specChainSpan _ _ _ (reads_of_owns Oy3_0.out (by omega))).mono ?_
  rintro e u4 ⟨rfl, hL4⟩
  rw [HR0.out, HR1.out, HR2.out]
  replace Oy3_0 := Lib.hid (owns_later Oy3_0.out hL4)
  replace HW := HW.trans hL4
  clear hL4
  go_wp2_with fail
  refine (w_toTermS _ _ _ (R0.out.later ((HW.alloc _).alloc _))).mono ?_
  rintro e u5 ⟨y5_0, rfl, hL5, ho0⟩
  obtain ⟨hk0, hk1⟩ := kept2 hL5
  have KA4 := Lib.hid hk0
  have KA5 := Lib.hid hk1
  clear hk0 hk1
  replace hL5 := (((Later.refl _).alloc _).alloc _).trans hL5
  replace Oy3_0 := Lib.hid (owns_later Oy3_0.out hL5)
  replace HW := HW.trans hL5
  clear hL5
  have Oy5_0 := Lib.hid ho0
  clear ho0
  go_wp2_with fail
  refine (w_implChainSpan _ _ _ (reads_of_owns Oy5_0.out (by omega))).mono ?_
  rintro e u6 ⟨rfl, hL6⟩
  rw [HR0.out, HR1.out, HR2.out]
  replace KA4 := Lib.hid (hL6.keep KA4.out)
  replace KA5 := Lib.hid (hL6.keep KA5.out)
  replace Oy3_0 := Lib.hid (owns_later Oy3_0.out hL6)
  replace Oy5_0 := Lib.hid (owns_later Oy5_0.out hL6)
  replace HW := HW.trans hL6
  clear hL6
  obtain ⟨cA4, fA4, zA4⟩ := blk_at KA4.out
  go_wp2_with fail
  refine (w_eqFigure_same _ _ _).mono ?_
  rintro e u7 ⟨rfl, hL7⟩
  clear cA4 fA4 zA4
  obtain ⟨hk0, hk1⟩ := kept2 hL7
  have KA8 := Lib.hid hk0
  have KA9 := Lib.hid hk1
  clear hk0 hk1
  replace hL7 := (((Later.refl _).alloc _).alloc _).trans hL7
  replace KA4 := Lib.hid (hL7.keep KA4.out)
  replace KA5 := Lib.hid (hL7.keep KA5.out)
  replace Oy3_0 := Lib.hid (owns_later Oy3_0.out hL7)
  replace Oy5_0 := Lib.hid (owns_later Oy5_0.out hL7)
  replace HW := HW.trans hL7
  clear hL7
  obtain ⟨cA9, fA9, zA9⟩ := blk_at KA9.out
  obtain ⟨cA5, fA5, zA5⟩ := blk_at KA5.out
  go_wp2_with fail
  refine (w_eqFigure_same _ _ _).mono ?_
  rintro e u8 ⟨rfl, hL8⟩
  clear cA9 fA9 zA9 cA5 fA5 zA5
  replace KA4 := Lib.hid (hL8.keep KA4.out)
  replace KA5 := Lib.hid (hL8.keep KA5.out)
  replace KA8 := Lib.hid (hL8.keep KA8.out)
  replace KA9 := Lib.hid (hL8.keep KA9.out)
  replace Oy3_0 := Lib.hid (owns_later Oy3_0.out hL8)
  replace Oy5_0 := Lib.hid (owns_later Oy5_0.out hL8)
  replace HW := HW.trans hL8
  clear hL8
  go_wp2_with fail
  refine (w_toTermS _ _ _ (R0.out.later HW)).mono ?_
  rintro e u9 ⟨y9_0, rfl, hL9, ho0⟩
  replace KA4 := Lib.hid (hL9.keep KA4.out)
  replace KA5 := Lib.hid (hL9.keep KA5.out)
  replace KA8 := Lib.hid (hL9.keep KA8.out)
  replace KA9 := Lib.hid (hL9.keep KA9.out)
  replace Oy3_0 := Lib.hid (owns_later Oy3_0.out hL9)
  replace Oy5_0 := Lib.hid (owns_later Oy5_0.out hL9)
  replace HW := HW.trans hL9
  clear hL9
  have Oy9_0 := Lib.hid ho0
  clear ho0
  go_wp2_with fail
  refine (w_eqTermS _ _ _ _ _ (reads_of_owns Oy5_0.out (by omega)) (reads_of_owns Oy9_0.out (by omega))).mono ?_
  rintro e u10 ⟨rfl, hL10⟩
  replace KA4 := Lib.hid (hL10.keep KA4.out)
  replace KA5 := Lib.hid (hL10.keep KA5.out)
  replace KA8 := Lib.hid (hL10.keep KA8.out)
  replace KA9 := Lib.hid (hL10.keep KA9.out)
  replace Oy3_0 := Lib.hid (owns_later Oy3_0.out hL10)
  replace Oy5_0 := Lib.hid (owns_later Oy5_0.out hL10)
  replace Oy9_0 := Lib.hid (owns_later Oy9_0.out hL10)
  replace HW := HW.trans hL10
  clear hL10
  clear Oy9_0
  go_wp2
  go_ret
  exact ⟨rfl, HW⟩

theorem lifted (os : Os) (started : os.Started) (H : Type) (enc : TypeId × Value → H) :
    ReturnsInHanded {} Try.checked os 7 .any (Rows.fnExactChainSpanSpec.pre6 enc Try.prog Try.f7 Rows.fnExactChainSpanRow.domain false) (Rows.fnExactChainSpanSpec.post enc Try.prog Try.f7 false true false false) := by
  refine returnsInHanded_of_change (C := Try.checked) o_own started (by kernel_rfl) Try.func7
    (ChangeSpec.witness6 (enc := enc) (C := Try.checked) false ⟨#[], #[.slice none 0 0], []⟩ 8 (by kernel_rfl) (by kernel_rfl) (by kernel_rfl) (by kernel_rfl)) ?_
  intro W base args ds gs before hval0 hW hcnd _
  have hval : ∀ (j : Nat) t v, Try.f7.params[j]? = some t → args[j]? = some v → Value.okWide Try.prog W .any base t v := hval0
  have hW' := hW
  obtain ⟨p, q, hA0, hV, rfl, hfz, hnd⟩ := hW
  have hA : DataW.TrodAll enc Try.prog W 0 (fun _ => true) true Try.f7.params.toList args.toList ds p := hA0
  rw [Try.params7] at hA hval
  obtain ⟨v0, vs0, d0, ds0, p0, q0, hargs, rfl, rfl, h0, r0⟩ := trodAll_cons hA
  obtain ⟨rfl, rfl, rfl⟩ := trodAll_nil r0
  obtain rfl : args = #[v0] := by cases args; simp_all
  obtain ⟨rfl, rfl⟩ := trodVars_none hV
  obtain ⟨a0, len0, cap0, rfl⟩ := okWide_slice Try.underlying22 (hval 0 22 v0 rfl rfl)
  have k0 := h0
  have lt0 : ∀ x ∈ p0, x.block < W.heap.size := by obtain ⟨m, hm⟩ := k0; exact DataW.trod_lt m _ _ _ hm
  obtain ⟨l0, w0⟩ := o_lTermS h0
  clear hA0 hval0
  refine (walk _ l0 W w0).mono fun e W' ⟨he, bel⟩ => ?_
  subst he
  exact ⟨_, rfl, _, _, _, [], _, [], hW', trodAll_mk1 (shut_bool Try.underlying4 _), (trodAll_cons_mk (Below.trod o_laidOut (by kernel_rfl) (of_decide_eq_true (by kernel_rfl)) k0 bel lt0) trodAll_mk0), rfl, bel.frame _, fun h => by cases h⟩

theorem over : Rows.fnExactChainSpanRow.holds Try.pinned (OpenSpec.ofChange Rows.fnExactChainSpanSpec) :=
  OpenClaim.holds_of_wide 7 Try.f7 rfl rfl rfl rfl rfl rfl rfl ⟨rfl, rfl, rfl, rfl, rfl⟩ rfl rfl rfl rfl rfl (by kernel_rfl) Try.func7 (by kernel_rfl)
    (of_decide_eq_true (by kernel_rfl)) (by unfold Func.isWrapper; first | (rw [if_pos (by decide +kernel)]; kernel_rfl) | (rw [if_neg (by decide +kernel)]; exact ⟨rfl, rfl⟩))
    (fun os started H enc _ => lifted os started H enc)

theorem proved : Rows.FnExactChainSpanSaid := over
#print axioms proved
end Go.Proofs.Yteangdeeijlijaa.lawChainSpan
