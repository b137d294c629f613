/- The program's CheckDigits: whether a chain's digits can be a figure's. It answers what the reference's function answers, for all arguments. No condition. -/
import Derived.Test.YtcnbnlmoohieoaaRows
import Derived.Test.YtcnbnlmoohieoaaO1
import Derived.Test.YtcnbnlmoohieoaaM16
import Derived.Test.YtcnbnlmoohieoaaHTerm
namespace Go.Proofs.Ytcnbnlmoohieoaa.lawCheckDigits
set_option linter.unusedVariables false
set_option linter.unusedSimpArgs false
open Go.ChangeShapes Go.WideShapes Go.ChangeAt Go.RowKit
set_option linter.unusedVariables false
set_option maxRecDepth 100000

set_option maxHeartbeats 400000 in
theorem walk (v0 : Value) (l0 : List Trm) (d t u : Int) (w : World) (r0 : Raw w v0 l0.length 3 (trms l0)) :
    Calls Try.prog 14 #[v0, .agg #[.int .i64 d, .int .i64 t], .int .i64 u] w fun e w' => e = .returned (.bool true) ∧ Later w w' := by
  by_cases hs0 : l0.length ≤ 1048576
  rotate_left
  · obtain ⟨_, x0, cap0, rfl, hcap0, hmax0, _⟩ := r0
    go_enter Try.func14, Try.ntmps14
    have hs : (if (1048576 : Int) < (l0.length : Int) then (-1 : Int) else (1048576 : Int) - (l0.length : Int)) = -1 := if_pos (by omega)
    have HS := Lib.hid hs
    clear hs
    go_wp2_with fail
    refine (w_szTermS _ _ _ _ (by omega) (by omega) (by omega) _).mono ?_
    rintro e w' ⟨rfl, rfl⟩
    rw [HS.out]
    clear HS
    go_wp2
    go_ret
    exact ⟨rfl, by (repeat (with_reducible first | exact Later.refl _ | refine Later.alloc ?_ _ | refine Later.drew ?_ | refine Later.drewN ?_ _ | refine Later.setCell ?_ (by simp; try omega) _ | refine Later.trans ?_ (by assumption)))⟩
  have R0 := Lib.hid (r0.reads (by omega))
  obtain ⟨_, x0, cap0, rfl, hcap0, hmax0, _⟩ := r0
  go_enter Try.func14, Try.ntmps14
  have hs : (if (1048576 : Int) < (l0.length : Int) then (-1 : Int) else (1048576 : Int) - (l0.length : Int)) = (1048576 : Int) - (l0.length : Int) := if_neg (by omega)
  have HS := Lib.hid hs
  clear hs
  go_wp2_with fail
  refine (w_szTermS _ _ _ _ (by omega) (by omega) (by omega) _).mono ?_
  rintro e w' ⟨rfl, rfl⟩
  rw [HS.out]
  clear HS
  go_wp2_with fail
  go_region_with (first
    | (go_at_call 19; refine (w_toTermS _ _ _ (R0.out.later (by (repeat (with_reducible first | exact Later.refl _ | refine Later.alloc ?_ _ | refine Later.drew ?_ | refine Later.drewN ?_ _ | refine Later.setCell ?_ (by simp; try omega) _ | refine Later.trans ?_ (by assumption)))))).mono ?_; rintro e u1 ⟨ys0, rfl, hL1, ho⟩; have Os0 := Lib.hid ho; clear ho; have hb := blk_at (hL1.keep (show (w.alloc (.cells #[.int .i64 d, .int .i64 t] 55)).drew.heap[w.heap.size]? = some (.cells #[.int .i64 d, .int .i64 t] 55 (0, 0)) from heap_alloc_new _ _)); have c0 := hb.1; have f0 := hb.2.1; have z0 := hb.2.2; clear hb)
    | (go_at_call 45; refine (w_toFigure _ _ _).mono ?_; rintro e u2 ⟨rfl, hL2⟩)
    | (go_at_call 51; refine (w_specCheckDigits _ _ _ _ _ _ (reads_of_owns (owns_later Os0.out hL2) (by omega))).mono ?_; rintro e u3 ⟨rfl, hL3⟩))
  all_goals
    clear c0 f0 z0
    go_wp2_with fail
    refine (w_toTermS _ _ _ (R0.out.later (by (repeat (with_reducible first | exact Later.refl _ | refine Later.alloc ?_ _ | refine Later.drew ?_ | refine Later.drewN ?_ _ | refine Later.setCell ?_ (by simp; try omega) _ | refine Later.trans ?_ (by assumption)))))).mono ?_
    rintro e u4 ⟨ys1, rfl, hL4, ho⟩
    have Ox := Lib.hid ho
    clear ho
    have hb := blk_at ((hL1.trans (hL2.trans (hL3.trans hL4))).keep (show (w.alloc (.cells #[.int .i64 d, .int .i64 t] 55)).drew.heap[w.heap.size]? = some (.cells #[.int .i64 d, .int .i64 t] 55 (0, 0)) from heap_alloc_new _ _))
    have c1 := hb.1
    have f1 := hb.2.1
    have z1 := hb.2.2
    clear hb
    go_wp2_with fail
    refine (w_toFigure _ _ _).mono ?_
    rintro e u5 ⟨rfl, hL5⟩
    clear c1 f1 z1
    go_wp2_with fail
    refine (w_implCheckDigits _ _ _ _ _ _ (reads_of_owns (owns_later Ox.out hL5) (by omega))).mono ?_
    rintro e u6 ⟨rfl, hL6⟩
    go_wp2_with fail
    refine (w_toTermS _ _ _ (R0.out.later (by (repeat (with_reducible first | exact Later.refl _ | refine Later.alloc ?_ _ | refine Later.drew ?_ | refine Later.drewN ?_ _ | refine Later.setCell ?_ (by simp; try omega) _ | refine Later.trans ?_ (by assumption)))))).mono ?_
    rintro e u7 ⟨ys2, rfl, hL7, ho⟩
    have Ot := Lib.hid ho
    clear ho
    go_wp2_with fail
    refine (w_eqTermS _ _ _ _ _ (reads_of_owns (owns_later (owns_later (owns_later Ox.out hL5) hL6) hL7) (by omega)) (reads_of_owns Ot.out (by omega))).mono ?_
    rintro e u8 ⟨rfl, hL8⟩
    go_wp2
    go_ret
    exact ⟨rfl, by (repeat (with_reducible first | exact Later.refl _ | refine Later.alloc ?_ _ | refine Later.drew ?_ | refine Later.drewN ?_ _ | refine Later.setCell ?_ (by simp; try omega) _ | refine Later.trans ?_ (by assumption)))⟩

theorem lifted (os : Os) (started : os.Started) (H : Type) (enc : TypeId × Value → H) :
    ReturnsInHanded {} Try.checked os 14 .any (Rows.fnExactCheckDigitsSpec.pre6 enc Try.prog Try.f14 Rows.fnExactCheckDigitsRow.domain false) (Rows.fnExactCheckDigitsSpec.post enc Try.prog Try.f14 false true false false) := by
  refine returnsInHanded_of_change (C := Try.checked) o_own started (by kernel_rfl) Try.func14
    (ChangeSpec.witness6 (enc := enc) (C := Try.checked) false ⟨#[], #[.slice none 0 0, .agg #[.int .i64 0, .int .i64 0], .int .i64 0], []⟩ 8 (by kernel_rfl) (by kernel_rfl) (by kernel_rfl) (by kernel_rfl)) ?_
  intro W base args ds gs before hval0 hW hcnd _
  have hval : ∀ (j : Nat) t v, Try.f14.params[j]? = some t → args[j]? = some v → Value.okWide Try.prog W .any base t v := hval0
  have hW' := hW
  obtain ⟨p, q, hA0, hV, rfl, hfz, hnd⟩ := hW
  have hA : DataW.TrodAll enc Try.prog W 0 (fun _ => true) true Try.f14.params.toList args.toList ds p := hA0
  rw [Try.params14] at hA hval
  obtain ⟨v0, vs0, d0, ds0, p0, q0, hargs, rfl, rfl, h0, r0⟩ := trodAll_cons hA
  obtain ⟨v1, vs1, d1, ds1, p1, q1, rfl, rfl, rfl, h1, r1⟩ := trodAll_cons r0
  obtain ⟨v2, vs2, d2, ds2, p2, q2, rfl, rfl, rfl, h2, r2⟩ := trodAll_cons r1
  obtain ⟨rfl, rfl, rfl⟩ := trodAll_nil r2
  obtain rfl : args = #[v0, v1, v2] := by cases args; simp_all
  obtain ⟨rfl, rfl⟩ := trodVars_none hV
  obtain ⟨a0, len0, cap0, rfl⟩ := okWide_slice Try.underlying25 (hval 0 25 v0 rfl rfl)
  have k0 := h0
  have lt0 : ∀ x ∈ p0, x.block < W.heap.size := by obtain ⟨m, hm⟩ := k0; exact DataW.trod_lt m _ _ _ hm
  obtain ⟨l0, w0⟩ := o_lTermS h0
  have k1 := h1
  have lt1 : ∀ x ∈ p1, x.block < W.heap.size := by obtain ⟨m, hm⟩ := k1; exact DataW.trod_lt m _ _ _ hm
  obtain ⟨x1, y1, rfl⟩ := o_lFigure' (hval 1 55 v1 rfl rfl) h1
  obtain ⟨a2, rfl, rfl, rfl, wf2⟩ := open_int Try.underlying2 (hval 2 2 v2 rfl rfl) h2
  clear hA0 hval0
  refine (walk _ l0 x1 y1 a2 W w0).mono fun e W' ⟨he, bel⟩ => ?_
  subst he
  exact ⟨_, rfl, _, _, _, [], _, [], hW', trodAll_mk1 (shut_bool Try.underlying4 _), (trodAll_cons_mk (Below.trod o_laidOut (by kernel_rfl) (of_decide_eq_true (by kernel_rfl)) k0 bel lt0) (trodAll_cons_mk (Below.trod o_laidOut (by kernel_rfl) (of_decide_eq_true (by kernel_rfl)) k1 bel lt1) (trodAll_cons_mk (shut_int Try.underlying2 wf2) trodAll_mk0))), rfl, bel.frame _, fun h => by cases h⟩

theorem over : Rows.fnExactCheckDigitsRow.holds Try.pinned (OpenSpec.ofChange Rows.fnExactCheckDigitsSpec) :=
  OpenClaim.holds_of_wide 14 Try.f14 rfl rfl rfl rfl rfl rfl rfl ⟨rfl, rfl, rfl, rfl, rfl⟩ rfl rfl rfl rfl rfl (by kernel_rfl) Try.func14 (by kernel_rfl)
    (of_decide_eq_true (by kernel_rfl)) (by unfold Func.isWrapper; first | (rw [if_pos (by decide +kernel)]; kernel_rfl) | (rw [if_neg (by decide +kernel)]; exact ⟨rfl, rfl⟩))
    (fun os started H enc _ => lifted os started H enc)

theorem proved : Rows.FnExactCheckDigitsSaid := over
#print axioms proved
end Go.Proofs.Ytcnbnlmoohieoaa.lawCheckDigits
