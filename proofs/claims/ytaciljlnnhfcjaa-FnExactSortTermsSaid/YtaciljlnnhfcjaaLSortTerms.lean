/- The program's SortTerms: the terms sorted. It answers what the reference's function answers, for all arguments. No condition. -/
import Derived.Test.YtaciljlnnhfcjaaRows
import Derived.Test.YtaciljlnnhfcjaaO1
import Derived.Test.YtaciljlnnhfcjaaM9
import Derived.Test.YtaciljlnnhfcjaaHTerm
namespace Go.Proofs.Ytaciljlnnhfcjaa.lawSortTerms
set_option linter.unusedVariables false
set_option linter.unusedSimpArgs false
open Go.ChangeShapes Go.WideShapes Go.ChangeAt Go.RowKit
set_option linter.unusedVariables false
set_option maxRecDepth 100000

set_option maxHeartbeats 1600000 in
theorem walk (v0 : Value) (l0 : List Trm) (w : World) (r0 : Raw w v0 l0.length 3 (trms l0)) :
    Calls Try.prog 3 #[v0] w fun e w' => e = .returned (.bool true) ∧ Later w w' := by
  by_cases hs0 : l0.length ≤ 1048576
  rotate_left
  · obtain ⟨_, x0, cap0, rfl, hcap0, hmax0, _⟩ := r0
    go_enter Try.func3, Try.ntmps3
    have hs : (if (1048576 : Int) < (l0.length : Int) then (-1 : Int) else (1048576 : Int) - (l0.length : Int)) = -1 := if_pos (by omega)
    have HS := Lib.hid hs
    clear hs
    go_wp2_with fail
    refine (w_szTermS _ _ _ _ (by omega) (by omega) (by omega) _).mono ?_
    rintro e w' ⟨rfl, rfl⟩
    rw [HS.out]
    clear HS
    go_wp2
    go_ret
    exact ⟨rfl, Later.refl _⟩
  have R0 := Lib.hid (r0.reads (by omega))
  have hG : ((sortTerms l0).1).length ≤ 1048576 := by have := sortTerms_len l0; omega
  have HW := Later.refl w
  obtain ⟨_, x0, cap0, rfl, hcap0, hmax0, _⟩ := r0
  go_enter Try.func3, Try.ntmps3
  have hs : (if (1048576 : Int) < (l0.length : Int) then (-1 : Int) else (1048576 : Int) - (l0.length : Int)) = (1048576 : Int) - (l0.length : Int) := if_neg (by omega)
  have HS := Lib.hid hs
  clear hs
  go_wp2_with fail
  refine (w_szTermS _ _ _ _ (by omega) (by omega) (by omega) _).mono ?_
  rintro e w' ⟨rfl, rfl⟩
  rw [HS.out]
  clear HS
  go_wp2_with fail
  refine (w_toTermS _ _ _ (R0.out.later HW)).mono ?_
  rintro e u1 ⟨ys0, rfl, hL1, ho⟩
  have hBs0 := HW.size
  replace HW := HW.trans hL1
  clear hL1
  have Os0 := Lib.hid ho
  clear ho
  go_wp2_with fail
  refine (w_specSortTerms _ _ _ (reads_of_owns Os0.out (by omega))).mono ?_
  rintro e u2 ⟨yw0, rfl, hL2, ho⟩
  have Aw0_s0 := Lib.hid (own_apart Os0.out ho (Nat.le_refl _))
  have As0_w0 := Lib.hid (own_apart' Os0.out ho (Nat.le_refl _))
  have hBw0 := HW.size
  replace Os0 := Lib.hid (owns_later Os0.out hL2)
  replace HW := HW.trans hL2
  clear hL2
  have Ow0 := Lib.hid ho
  clear ho
  clear Os0 hBs0
  clear Aw0_s0
  clear As0_w0
  go_wp2_with fail
  refine (w_toTermS _ _ _ (R0.out.later HW)).mono ?_
  rintro e u3 ⟨yx0, rfl, hL3, ho⟩
  have Ax0_w0 := Lib.hid (own_apart Ow0.out ho (Nat.le_refl _))
  have Aw0_x0 := Lib.hid (own_apart' Ow0.out ho (Nat.le_refl _))
  have hBx0 := HW.size
  replace Ow0 := Lib.hid (owns_later Ow0.out hL3)
  replace HW := HW.trans hL3
  clear hL3
  have Ox0 := Lib.hid ho
  clear ho
  go_wp2_with fail
  refine (w_implSortTerms _ _ _ (reads_of_owns Ox0.out (by omega))).mono ?_
  rintro e u4 ⟨yg0, rfl, hL4, ho⟩
  have Ag0_w0 := Lib.hid (own_apart Ow0.out ho (Nat.le_refl _))
  have Aw0_g0 := Lib.hid (own_apart' Ow0.out ho (Nat.le_refl _))
  have Ag0_x0 := Lib.hid (own_apart Ox0.out ho (Nat.le_refl _))
  have Ax0_g0 := Lib.hid (own_apart' Ox0.out ho (Nat.le_refl _))
  have hBg0 := HW.size
  replace Ow0 := Lib.hid (owns_later Ow0.out hL4)
  replace Ox0 := Lib.hid (owns_later Ox0.out hL4)
  replace HW := HW.trans hL4
  clear hL4
  have Og0 := Lib.hid ho
  clear ho
  go_wp2_with fail
  refine (w_eqTermS _ _ _ _ _ (reads_of_owns Og0.out hG) (reads_of_owns Ow0.out hG)).mono ?_
  rintro e u5 ⟨rfl, hL5⟩
  replace Ow0 := Lib.hid (owns_later Ow0.out hL5)
  replace Ox0 := Lib.hid (owns_later Ox0.out hL5)
  replace Og0 := Lib.hid (owns_later Og0.out hL5)
  replace HW := HW.trans hL5
  clear hL5
  go_wp2_with fail
  refine (w_toTermS _ _ _ (R0.out.later HW)).mono ?_
  rintro e u6 ⟨yt0, rfl, hL6, ho⟩
  have At0_w0 := Lib.hid (own_apart Ow0.out ho (Nat.le_refl _))
  have Aw0_t0 := Lib.hid (own_apart' Ow0.out ho (Nat.le_refl _))
  have At0_x0 := Lib.hid (own_apart Ox0.out ho (Nat.le_refl _))
  have Ax0_t0 := Lib.hid (own_apart' Ox0.out ho (Nat.le_refl _))
  have At0_g0 := Lib.hid (own_apart Og0.out ho (Nat.le_refl _))
  have Ag0_t0 := Lib.hid (own_apart' Og0.out ho (Nat.le_refl _))
  have hBt0 := HW.size
  replace Ow0 := Lib.hid (owns_later Ow0.out hL6)
  replace Ox0 := Lib.hid (owns_later Ox0.out hL6)
  replace Og0 := Lib.hid (owns_later Og0.out hL6)
  replace HW := HW.trans hL6
  clear hL6
  have Ot0 := Lib.hid ho
  clear ho
  go_wp2_with fail
  refine (w_eqTermS _ _ _ _ _ (reads_of_owns Ox0.out (by omega)) (reads_of_owns Ot0.out (by omega))).mono ?_
  rintro e u7 ⟨rfl, hL7⟩
  replace Ow0 := Lib.hid (owns_later Ow0.out hL7)
  replace Ox0 := Lib.hid (owns_later Ox0.out hL7)
  replace Og0 := Lib.hid (owns_later Og0.out hL7)
  replace Ot0 := Lib.hid (owns_later Ot0.out hL7)
  replace HW := HW.trans hL7
  clear hL7
  clear Ot0 hBt0
  clear At0_w0
  clear Aw0_t0
  clear At0_x0
  clear Ax0_t0
  clear At0_g0
  clear Ag0_t0
  go_wp2_with fail
  refine (w_markTermS _ _ _ _ _ (by omega) (by omega) (by omega) _ Ox0.out).mono ?_
  rintro e u8 ⟨rfl, ho, hg⟩
  replace Ow0 := Lib.hid (Ow0.out.kept hg Aw0_x0.out)
  replace Og0 := Lib.hid (Og0.out.kept hg Ag0_x0.out)
  replace HW := HW.own hBx0 Ox0.out hg
  replace Ox0 := Lib.hid ho
  clear ho hg
  go_wp2_with fail
  refine (w_eqTermS _ _ _ _ _ (reads_of_owns Og0.out hG) (reads_of_owns Ow0.out hG)).mono ?_
  rintro e u9 ⟨rfl, hL9⟩
  replace Ow0 := Lib.hid (owns_later Ow0.out hL9)
  replace Ox0 := Lib.hid (owns_later Ox0.out hL9)
  replace Og0 := Lib.hid (owns_later Og0.out hL9)
  replace HW := HW.trans hL9
  clear hL9
  clear Ox0 hBx0
  clear Ax0_w0
  clear Aw0_x0
  clear Ag0_x0
  clear Ax0_g0
  go_wp2_with fail
  refine (w_markTermS _ _ _ _ _ (by omega) (by omega) hG _ Og0.out).mono ?_
  rintro e u10 ⟨rfl, ho, hg⟩
  replace Ow0 := Lib.hid (Ow0.out.kept hg Aw0_g0.out)
  replace HW := HW.own hBg0 Og0.out hg
  replace Og0 := Lib.hid ho
  clear ho hg
  go_wp2_with fail
  refine (w_heldTermS _ _ _ (by omega) (by omega) _ (reads_of_owns Og0.out hG)).mono ?_
  rintro e w' ⟨rfl, rfl⟩
  go_wp2_with fail
  refine (w_toTermS _ _ _ (R0.out.later HW)).mono ?_
  rintro e u11 ⟨yh0_, rfl, hL11, ho⟩
  have Ah0__w0 := Lib.hid (own_apart Ow0.out ho (Nat.le_refl _))
  have Aw0_h0_ := Lib.hid (own_apart' Ow0.out ho (Nat.le_refl _))
  have Ah0__g0 := Lib.hid (own_apart Og0.out ho (Nat.le_refl _))
  have Ag0_h0_ := Lib.hid (own_apart' Og0.out ho (Nat.le_refl _))
  have hBh0_ := HW.size
  replace Ow0 := Lib.hid (owns_later Ow0.out hL11)
  replace Og0 := Lib.hid (owns_later Og0.out hL11)
  replace HW := HW.trans hL11
  clear hL11
  have Oh0_ := Lib.hid ho
  clear ho
  go_wp2_with fail
  refine (w_implSortTerms _ _ _ (reads_of_owns Oh0_.out (by omega))).mono ?_
  rintro e u12 ⟨yh0, rfl, hL12, ho⟩
  have Ah0_w0 := Lib.hid (own_apart Ow0.out ho (Nat.le_refl _))
  have Aw0_h0 := Lib.hid (own_apart' Ow0.out ho (Nat.le_refl _))
  have Ah0_g0 := Lib.hid (own_apart Og0.out ho (Nat.le_refl _))
  have Ag0_h0 := Lib.hid (own_apart' Og0.out ho (Nat.le_refl _))
  have Ah0_h0_ := Lib.hid (own_apart Oh0_.out ho (Nat.le_refl _))
  have Ah0__h0 := Lib.hid (own_apart' Oh0_.out ho (Nat.le_refl _))
  have hBh0 := HW.size
  replace Ow0 := Lib.hid (owns_later Ow0.out hL12)
  replace Og0 := Lib.hid (owns_later Og0.out hL12)
  replace Oh0_ := Lib.hid (owns_later Oh0_.out hL12)
  replace HW := HW.trans hL12
  clear hL12
  have Oh0 := Lib.hid ho
  clear ho
  go_wp2_with fail
  refine (w_eqTermS _ _ _ _ _ (reads_of_owns Oh0.out hG) (reads_of_owns Ow0.out hG)).mono ?_
  rintro e u13 ⟨rfl, hL13⟩
  replace Ow0 := Lib.hid (owns_later Ow0.out hL13)
  replace Og0 := Lib.hid (owns_later Og0.out hL13)
  replace Oh0_ := Lib.hid (owns_later Oh0_.out hL13)
  replace Oh0 := Lib.hid (owns_later Oh0.out hL13)
  replace HW := HW.trans hL13
  clear hL13
  go_wp2_with fail
  refine (w_heldTermS _ _ _ (by omega) (by omega) _ (reads_of_owns Og0.out hG)).mono ?_
  rintro e w' ⟨rfl, rfl⟩
  go_wp2
  go_ret
  exact ⟨rfl, HW⟩

theorem lifted (os : Os) (started : os.Started) (H : Type) (enc : TypeId × Value → H) :
    ReturnsInHanded {} Try.checked os 3 .any (Rows.fnExactSortTermsSpec.pre6 enc Try.prog Try.f3 Rows.fnExactSortTermsRow.domain false) (Rows.fnExactSortTermsSpec.post enc Try.prog Try.f3 false true false false) := by
  refine returnsInHanded_of_change (C := Try.checked) o_own started (by kernel_rfl) Try.func3
    (ChangeSpec.witness6 (enc := enc) (C := Try.checked) false ⟨#[], #[.slice none 0 0], []⟩ 8 (by kernel_rfl) (by kernel_rfl) (by kernel_rfl) (by kernel_rfl)) ?_
  intro W base args ds gs before hval0 hW hcnd _
  have hval : ∀ (j : Nat) t v, Try.f3.params[j]? = some t → args[j]? = some v → Value.okWide Try.prog W .any base t v := hval0
  have hW' := hW
  obtain ⟨p, q, hA0, hV, rfl, hfz, hnd⟩ := hW
  have hA : DataW.TrodAll enc Try.prog W 0 (fun _ => true) true Try.f3.params.toList args.toList ds p := hA0
  rw [Try.params3] at hA hval
  obtain ⟨v0, vs0, d0, ds0, p0, q0, hargs, rfl, rfl, h0, r0⟩ := trodAll_cons hA
  obtain ⟨rfl, rfl, rfl⟩ := trodAll_nil r0
  obtain rfl : args = #[v0] := by cases args; simp_all
  obtain ⟨rfl, rfl⟩ := trodVars_none hV
  obtain ⟨a0, len0, cap0, rfl⟩ := okWide_slice Try.underlying22 (hval 0 22 v0 rfl rfl)
  have k0 := h0
  have lt0 : ∀ x ∈ p0, x.block < W.heap.size := by obtain ⟨m, hm⟩ := k0; exact DataW.trod_lt m _ _ _ hm
  obtain ⟨l0, w0⟩ := o_lTermS h0
  clear hA0 hval0
  refine (walk _ l0 W w0).mono fun e W' ⟨he, bel⟩ => ?_
  subst he
  exact ⟨_, rfl, _, _, _, [], _, [], hW', trodAll_mk1 (shut_bool Try.underlying4 _), (trodAll_cons_mk (Below.trod o_laidOut (by kernel_rfl) (of_decide_eq_true (by kernel_rfl)) k0 bel lt0) trodAll_mk0), rfl, bel.frame _, fun h => by cases h⟩

theorem over : Rows.fnExactSortTermsRow.holds Try.pinned (OpenSpec.ofChange Rows.fnExactSortTermsSpec) :=
  OpenClaim.holds_of_wide 3 Try.f3 rfl rfl rfl rfl rfl rfl rfl ⟨rfl, rfl, rfl, rfl, rfl⟩ rfl rfl rfl rfl rfl (by kernel_rfl) Try.func3 (by kernel_rfl)
    (of_decide_eq_true (by kernel_rfl)) (by unfold Func.isWrapper; first | (rw [if_pos (by decide +kernel)]; kernel_rfl) | (rw [if_neg (by decide +kernel)]; exact ⟨rfl, rfl⟩))
    (fun os started H enc _ => lifted os started H enc)

theorem proved : Rows.FnExactSortTermsSaid := over
#print axioms proved
end Go.Proofs.Ytaciljlnnhfcjaa.lawSortTerms
