/- The program's ReadChain: a chain read from its text. It answers what the reference's function answers, for all arguments. -/
import Derived.Test.YtgngbdacejghcaaDoorRows
import Derived.Test.YtgngbdacejghcaaDoorCards
import Derived.Test.YtgngbdacejghcaaDoorTie
import Derived.Test.YtgngbdacejghcaaDoorO1
import Derived.Test.YtgngbdacejghcaaDoorD24
import Derived.Test.YtgngbdacejghcaaDoorD33
import Derived.Test.YtgngbdacejghcaaDoorHTerm
import Derived.LaidMore
import Derived.Lay
import Derived.OpenShut
import Derived.ChangeMaps5
import Derived.SevenTiedAt
import Derived.Stop.LaidErr
import Derived.Stop.Joined
import Derived.Shelf.Vars
import Derived.HandedShaped
namespace Go.Proofs.YtgngbdacejghcaaDoor.lawReadChain
set_option linter.unusedVariables false
set_option linter.unusedSimpArgs false
open Go.ChangeShapes Go.WideShapes Go.ChangeAt Go.RowKit
open Go.ChangeMaps (open_string shut_string)
set_option linter.unusedVariables false
set_option maxRecDepth 100000

theorem out_parts {s : List UInt8} {w w' : World} {e : Ending} {cd : Int} {L : List Trm} (hR : rcV s = L) (hC : rcC s = cd) (h : RcOut s w e w') :
    ∃ v, e = .returned (.tuple #[v, .int .i64 cd]) ∧ Later w w' ∧ w'.ownsRow w.heap.size 60 3 v L.length (trms L) := by
  unfold RcOut at h
  rw [hR, hC] at h
  exact h

set_option maxHeartbeats 4000000 in
theorem walk (s : List UInt8) (w : World) (he : Env w) :
    Calls Tryd.prog 7 #[sv s] w fun e w' => e = .returned (.bool true) ∧ Later w w' := by
  by_cases hs : s.length ≤ 1048576
  rotate_left
  · have hb : decide ((1048576 : Int) < (s.length : Int)) = true := decide_eq_true (by omega)
    go_enter Tryd.func7, Tryd.ntmps7
    go_wp2
    go_ret
    exact ⟨rfl, Later.refl _⟩
  have hb : decide ((1048576 : Int) < (s.length : Int)) = false := decide_eq_false (by omega)
  have HE := Lib.hid he
  clear he
  have hl6 := rc_len s
  obtain ⟨L, hR⟩ : ∃ R, rcV s = R := ⟨_, rfl⟩
  obtain ⟨cd, hC⟩ : ∃ c, rcC s = c := ⟨_, rfl⟩
  rw [hR] at hl6
  have HR := Lib.hid hR
  have HC := Lib.hid hC
  clear hR hC
  go_enter Tryd.func7, Tryd.ntmps7
  go_wp2_with fail
  refine (w_specReadChain s hs _).mono ?_
  intro e w1 hw1
  obtain ⟨v1, rfl, hL1, o1⟩ := out_parts HR.out HC.out hw1
  have O1 := Lib.hid o1
  have hz1 := hL1.size
  have HW1 := Lib.hid hL1
  clear hw1 o1 hL1
  go_wp2_with fail
  refine (w_implReadChain s hs _ (HE.out.later HW1.out)).mono ?_
  intro e w2 hw2
  obtain ⟨v2, rfl, hL2, o2⟩ := out_parts HR.out HC.out hw2
  have O1b := Lib.hid (owns_later O1.out hL2)
  have AP := Lib.hid (own_apart' O1.out o2 (Nat.le_refl _))
  have O2 := Lib.hid o2
  have hz2 := hL2.size
  have HW2 := Lib.hid (HW1.out.trans hL2)
  clear hw2 o2 hL2
  go_wp2_with fail
  refine (w_eqTermS _ _ L L _ (reads_of_owns O2.out (by omega)) (reads_of_owns O1b.out (by omega))).mono ?_
  rintro e w3 ⟨he3, hL3⟩
  obtain rfl : e = .returned (.bool true) := by rw [he3]; simp
  clear he3
  have O1c := Lib.hid (owns_later O1b.out hL3)
  have O2c := Lib.hid (owns_later O2.out hL3)
  have HW3 := Lib.hid (HW2.out.trans hL3)
  have hz3 := hL3.size
  clear hL3
  go_wp2_with fail
  refine (w_markTermS _ L.length _ _ 1 (by omega) (by omega) (by omega) _ O2c.out).mono ?_
  rintro e w4 ⟨rfl, om, hg⟩
  have OM := Lib.hid om
  have O1d := Lib.hid (World.ownsRow.kept O1c.out hg AP.out)
  have HW4 := Lib.hid (show Later w w4 from Below.grown HW3.out hg (HW3.out.size) (fun j hj => by have := (O2c.out.lt j hj).1; omega))
  clear om hg
  have hq1 : decide ((1 : Int) + 3 * (L.length : Int) < 0) = false := decide_eq_false (by omega)
  go_wp2_with fail
  refine (w_heldTermS _ L.length 1 (by omega) (by omega) _ (reads_of_owns OM.out (by omega))).mono ?_
  rintro e w5 ⟨rfl, hw5⟩
  subst hw5
  go_wp2_with fail
  refine (w_implReadChain s hs _ (HE.out.later HW4.out)).mono ?_
  intro e w6 hw6
  obtain ⟨v3, rfl, hL6, o3⟩ := out_parts HR.out HC.out hw6
  have O1f := Lib.hid (owns_later O1d.out hL6)
  have OM1 := Lib.hid (owns_later OM.out hL6)
  have O3 := Lib.hid o3
  have HW6 := Lib.hid (HW4.out.trans hL6)
  clear hL6 hw6 o3
  go_wp2_with fail
  refine (w_eqTermS _ _ L L _ (reads_of_owns O3.out (by omega)) (reads_of_owns O1f.out (by omega))).mono ?_
  rintro e w7 ⟨he7, hL7⟩
  obtain rfl : e = .returned (.bool true) := by rw [he7]; simp
  clear he7
  have OM2 := Lib.hid (owns_later OM1.out hL7)
  have HW7 := Lib.hid (HW6.out.trans hL7)
  clear hL7
  go_wp2_with fail
  refine (w_heldTermS _ L.length 1 (by omega) (by omega) _ (reads_of_owns OM2.out (by omega))).mono ?_
  rintro e w8 ⟨rfl, hw8⟩
  subst hw8
  go_wp2
  go_ret
  exact ⟨rfl, HW7.out⟩

theorem lifted (os : Os) (started : os.Started) (H : Type) (enc : TypeId × Value → H) :
    ReturnsInHanded {} Tryd.checked os 7 .any (fun w args => (Rows.fnExactReadChainSpec.pre enc Tryd.prog Tryd.f7 [] false w args ∧ laidMetH Tryd.prog Rows.fnExactReadChainRow.laid w) ∧ sizedMet enc Tryd.prog Tryd.f7 (OpenSpec.ofChange Rows.fnExactReadChainSpec) false w args)
      (Rows.fnExactReadChainSpec.post enc Tryd.prog Tryd.f7 false true false false) := by
  refine handed_laid (C := Tryd.checked) (X := fun w _ => laidMetH Tryd.prog Rows.fnExactReadChainRow.laid w) (fun _ _ _ hh h => h.of_heap hh) o_own started (by kernel_rfl) Tryd.func7
    (ChangeSpec.witness_shaped (enc := enc) (C := Tryd.checked) (os := os) (X := fun w _ => laidMetH Tryd.prog Rows.fnExactReadChainRow.laid w) false (World.laidAll Tryd.prog os Rows.fnExactReadChainRow.laid) #[.string ⟨#[]⟩] 8 (World.laidAll_os _ _ _)
      (World.shaped_of_ZipB (by kernel_rfl) (by kernel_rfl)) (by kernel_rfl) (by kernel_rfl) (by kernel_rfl)
      (by rw [MakeChecks.laidMetH_plain _ _ _ (by kernel_rfl)]; exact laidMet_laidAll _ (by kernel_rfl) (by kernel_rfl))) ?_
  intro W base args ds gs before hval0 hW hL hsh
  have hval : ∀ (j : Nat) t v, Tryd.f7.params[j]? = some t → args[j]? = some v → Value.okWide Tryd.prog W .any base t v := hval0
  have hW' := hW
  obtain ⟨p, q, hA0, hV, rfl, hfz, hnd⟩ := hW
  have hA : DataW.TrodAll enc Tryd.prog W 0 (fun _ => true) true Tryd.f7.params.toList args.toList ds p := hA0
  rw [Tryd.params7] at hA hval
  obtain ⟨v0, d0, rfl, rfl, h0⟩ := trodAll_one hA
  obtain ⟨rfl, rfl⟩ := trodVars_none hV
  obtain ⟨s, rfl, rfl, rfl, ws⟩ := open_string Tryd.underlying9 (hval 0 9 v0 rfl rfl) h0
  clear hA0 hval0
  refine (walk s.data.toList W (laid_env hsh (show laidMetH Tryd.prog laid7 W from hL))).mono fun e W' ⟨he, bel⟩ => ?_
  subst he
  exact ⟨_, rfl, _, _, _, [], _, [], hW', trodAll_mk1 (shut_bool Tryd.underlying4 _), trodAll_mk1 (shut_string Tryd.underlying9 ws), rfl, bel.frame _, fun h => by cases h⟩

theorem over : Rows.FnExactReadChainSaid :=
  OpenClaim.holds_of_wide 7 Tryd.f7 rfl rfl rfl rfl rfl rfl rfl ⟨rfl, rfl, rfl, rfl, rfl⟩ rfl rfl rfl rfl rfl (by kernel_rfl) Tryd.func7 (by kernel_rfl)
    (of_decide_eq_true (by kernel_rfl)) (by unfold Func.isWrapper; first | (rw [if_pos (by decide +kernel)]; kernel_rfl) | (rw [if_neg (by decide +kernel)]; exact ⟨rfl, rfl⟩))
    (fun os started H enc _ => lifted os started H enc)

theorem proved : Rows.FnExactReadChainCardSaid :=
  Claim7.holds_tied_plain_at .later [] [.data, .data, .data, .data, .sentinel, .sentinel, .pinned] true (true, "4dd07d9378b5849b743967e91cb11eec9d8f46762c551014cbd10579683d114b") true
    over (fun _ h => by cases h) (by kernel_rfl) (fun _ h => by cases h) fnExactReadChain_row_tie rfl ⟨rfl, rfl⟩ (by kernel_rfl) rfl
    (fun f fn hf hfn => by
      obtain rfl : f = 7 := Option.some.inj ((show Tryd.prog.funcNamed "loop.example/g00951/laws.FnExactReadChain" = some 7 by kernel_rfl).symm.trans hf) |>.symm
      obtain rfl : fn = Tryd.f7 := (Option.some.inj (Tryd.func7.symm.trans hfn)).symm
      exact ⟨by kernel_rfl, fun j t ht => by
        rw [Tryd.params7] at ht
        have hm : t ∈ [9] := by simpa using Array.mem_of_getElem? ht
        have hall : ([9].all fun u => !Tryd.prog.wantsStandIn u) = true := by kernel_rfl
        exact (show Tryd.prog.wantsStandIn t = false by simpa using List.all_eq_true.1 hall t hm)⟩)
    (by kernel_rfl)
#print axioms proved
end Go.Proofs.YtgngbdacejghcaaDoor.lawReadChain
