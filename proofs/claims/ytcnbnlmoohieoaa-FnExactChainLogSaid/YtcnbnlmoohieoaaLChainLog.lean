/- The program's ChainLog: the logarithm of a chain. It answers what the reference's function answers, for all arguments. No condition. -/
import Derived.Test.YtcnbnlmoohieoaaRows
import Derived.Test.YtcnbnlmoohieoaaO1
import Derived.Test.YtcnbnlmoohieoaaM14
import Derived.Test.YtcnbnlmoohieoaaHTerm
namespace Go.Proofs.Ytcnbnlmoohieoaa.lawChainLog
set_option linter.unusedVariables false
set_option linter.unusedSimpArgs false
open Go.ChangeShapes Go.WideShapes Go.ChangeAt Go.RowKit
set_option linter.unusedVariables false
set_option maxRecDepth 100000

set_option maxHeartbeats 400000 in
theorem walk (v0 : Value) (l0 : List Trm) (w : World) (r0 : Raw w v0 l0.length 3 (trms l0)) :
    Calls Try.prog 13 #[v0] w fun e w' => e = .returned (.bool true) ∧ Later w w' := by
  by_cases hs0 : l0.length ≤ 1048576
  rotate_left
  · obtain ⟨_, x0, cap0, rfl, hcap0, hmax0, _⟩ := r0
    go_enter Try.func13, Try.ntmps13
    have hs : (if (1048576 : Int) < (l0.length : Int) then (-1 : Int) else (1048576 : Int) - (l0.length : Int)) = -1 := if_pos (by omega)
    have HS := Lib.hid hs
    clear hs
    go_wp2_with fail
    refine (w_szTermS _ _ _ _ (by omega) (by omega) (by omega) _).mono ?_
    rintro e w' ⟨rfl, rfl⟩
    rw [HS.out]
    clear HS
    go_wp2
    go_ret
    exact ⟨rfl, Later.refl _⟩
  have R0 := Lib.hid (r0.reads (by omega))
  have HW := Later.refl w
  obtain ⟨_, x0, cap0, rfl, hcap0, hmax0, _⟩ := r0
  go_enter Try.func13, Try.ntmps13
  have hs : (if (1048576 : Int) < (l0.length : Int) then (-1 : Int) else (1048576 : Int) - (l0.length : Int)) = (1048576 : Int) - (l0.length : Int) := if_neg (by omega)
  have HS := Lib.hid hs
  clear hs
  go_wp2_with fail
  refine (w_szTermS _ _ _ _ (by omega) (by omega) (by omega) _).mono ?_
  rintro e w' ⟨rfl, rfl⟩
  rw [HS.out]
  clear HS
  go_wp2_with fail
  refine (w_toTermS _ _ _ (R0.out.later HW)).mono ?_
  rintro e u1 ⟨ys0, rfl, hL1, ho⟩
  replace HW := HW.trans hL1
  clear hL1
  have Os0 := Lib.hid ho
  clear ho
  go_wp2_with fail
  refine (w_specChainLog _ _ _ (reads_of_owns Os0.out (by omega))).mono ?_
  rintro e u2 ⟨rfl, hL2⟩
  replace Os0 := Lib.hid (owns_later Os0.out hL2)
  replace HW := HW.trans hL2
  clear hL2
  clear Os0
  go_wp2_with fail
  refine (w_toTermS _ _ _ (R0.out.later (HW.alloc _))).mono ?_
  rintro e u3 ⟨yx0, rfl, hL3, ho⟩
  have Kw0 := Lib.hid (hL3.keep (heap_alloc_new _ _))
  replace hL3 := ((Later.refl _).alloc _).trans hL3
  replace HW := HW.trans hL3
  clear hL3
  have Ox0 := Lib.hid ho
  clear ho
  go_wp2_with fail
  refine (w_implChainLog _ _ _ (reads_of_owns Ox0.out (by omega))).mono ?_
  rintro e u4 ⟨rfl, hL4⟩
  replace Kw0 := Lib.hid (hL4.keep Kw0.out)
  replace Ox0 := Lib.hid (owns_later Ox0.out hL4)
  replace HW := HW.trans hL4
  clear hL4
  obtain ⟨cw0, fw0, zw0⟩ := blk_at Kw0.out
  go_wp2_with fail
  refine (w_eqInterval_same _ _ _).mono ?_
  rintro e u5 ⟨rfl, hL5⟩
  clear cw0 fw0 zw0
  have Kg0 := Lib.hid (hL5.keep (heap_alloc_new _ _))
  replace hL5 := ((Later.refl _).alloc _).trans hL5
  replace Kw0 := Lib.hid (hL5.keep Kw0.out)
  replace Ox0 := Lib.hid (owns_later Ox0.out hL5)
  replace HW := HW.trans hL5
  clear hL5
  clear Kw0
  clear Kg0
  go_wp2_with fail
  refine (w_toTermS _ _ _ (R0.out.later HW)).mono ?_
  rintro e u6 ⟨yt0, rfl, hL6, ho⟩
  replace Ox0 := Lib.hid (owns_later Ox0.out hL6)
  replace HW := HW.trans hL6
  clear hL6
  have Ot0 := Lib.hid ho
  clear ho
  go_wp2_with fail
  refine (w_eqTermS _ _ _ _ _ (reads_of_owns Ox0.out (by omega)) (reads_of_owns Ot0.out (by omega))).mono ?_
  rintro e u7 ⟨rfl, hL7⟩
  replace Ox0 := Lib.hid (owns_later Ox0.out hL7)
  replace Ot0 := Lib.hid (owns_later Ot0.out hL7)
  replace HW := HW.trans hL7
  clear hL7
  clear Ot0
  go_wp2
  go_ret
  exact ⟨rfl, HW⟩

theorem lifted (os : Os) (started : os.Started) (H : Type) (enc : TypeId × Value → H) :
    ReturnsInHanded {} Try.checked os 13 .any (Rows.fnExactChainLogSpec.pre6 enc Try.prog Try.f13 Rows.fnExactChainLogRow.domain false) (Rows.fnExactChainLogSpec.post enc Try.prog Try.f13 false true false false) := by
  refine returnsInHanded_of_change (C := Try.checked) o_own started (by kernel_rfl) Try.func13
    (ChangeSpec.witness6 (enc := enc) (C := Try.checked) false ⟨#[], #[.slice none 0 0], []⟩ 8 (by kernel_rfl) (by kernel_rfl) (by kernel_rfl) (by kernel_rfl)) ?_
  intro W base args ds gs before hval0 hW hcnd _
  have hval : ∀ (j : Nat) t v, Try.f13.params[j]? = some t → args[j]? = some v → Value.okWide Try.prog W .any base t v := hval0
  have hW' := hW
  obtain ⟨p, q, hA0, hV, rfl, hfz, hnd⟩ := hW
  have hA : DataW.TrodAll enc Try.prog W 0 (fun _ => true) true Try.f13.params.toList args.toList ds p := hA0
  rw [Try.params13] at hA hval
  obtain ⟨v0, vs0, d0, ds0, p0, q0, hargs, rfl, rfl, h0, r0⟩ := trodAll_cons hA
  obtain ⟨rfl, rfl, rfl⟩ := trodAll_nil r0
  obtain rfl : args = #[v0] := by cases args; simp_all
  obtain ⟨rfl, rfl⟩ := trodVars_none hV
  obtain ⟨a0, len0, cap0, rfl⟩ := okWide_slice Try.underlying25 (hval 0 25 v0 rfl rfl)
  have k0 := h0
  have lt0 : ∀ x ∈ p0, x.block < W.heap.size := by obtain ⟨m, hm⟩ := k0; exact DataW.trod_lt m _ _ _ hm
  obtain ⟨l0, w0⟩ := o_lTermS h0
  clear hA0 hval0
  refine (walk _ l0 W w0).mono fun e W' ⟨he, bel⟩ => ?_
  subst he
  exact ⟨_, rfl, _, _, _, [], _, [], hW', trodAll_mk1 (shut_bool Try.underlying4 _), (trodAll_cons_mk (Below.trod o_laidOut (by kernel_rfl) (of_decide_eq_true (by kernel_rfl)) k0 bel lt0) trodAll_mk0), rfl, bel.frame _, fun h => by cases h⟩

theorem over : Rows.fnExactChainLogRow.holds Try.pinned (OpenSpec.ofChange Rows.fnExactChainLogSpec) :=
  OpenClaim.holds_of_wide 13 Try.f13 rfl rfl rfl rfl rfl rfl rfl ⟨rfl, rfl, rfl, rfl, rfl⟩ rfl rfl rfl rfl rfl (by kernel_rfl) Try.func13 (by kernel_rfl)
    (of_decide_eq_true (by kernel_rfl)) (by unfold Func.isWrapper; first | (rw [if_pos (by decide +kernel)]; kernel_rfl) | (rw [if_neg (by decide +kernel)]; exact ⟨rfl, rfl⟩))
    (fun os started H enc _ => lifted os started H enc)

theorem proved : Rows.FnExactChainLogSaid := over
#print axioms proved
end Go.Proofs.Ytcnbnlmoohieoaa.lawChainLog
