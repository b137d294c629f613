/- The program's ReadRule: a rule read from its text. It answers what the reference's function answers, for all arguments. -/
import Derived.Test.YtgngbdacejghcaaDoorRows
import Derived.Test.YtgngbdacejghcaaDoorCards
import Derived.Test.YtgngbdacejghcaaDoorTie
import Derived.Test.YtgngbdacejghcaaDoorO1
import Derived.Test.YtgngbdacejghcaaDoorD16
import Derived.LaidMore
import Derived.Lay
import Derived.OpenShut
import Derived.ChangeMaps5
import Derived.SevenTiedAt
import Derived.Stop.LaidErr
import Derived.Stop.Joined
import Derived.Shelf.Vars
import Derived.HandedShaped
namespace Go.Proofs.YtgngbdacejghcaaDoor.lawReadRule
set_option linter.unusedVariables false
set_option linter.unusedSimpArgs false
open Go.ChangeShapes Go.WideShapes Go.ChangeAt Go.RowKit
open Go.ChangeMaps (open_string shut_string)
set_option linter.unusedVariables false
set_option maxRecDepth 100000

theorem rr_len (s : List UInt8) : (rrR s).st.length ≤ 6 ∧ (rrR s).sl.length ≤ 6 := by
  unfold rrR
  cases h : rdRule s with
  | none => simp
  | some r =>
    have hr : isRule r = true := by
      unfold rdRule at h
      split at h
      · split at h
        · rename_i hq
          injection h with h
          subst h
          rw [Bool.and_eq_true] at hq
          exact hq.2
        · cases h
      · cases h
    obtain ⟨p1, p2, p3, p4⟩ := rule_parts (n := r.len) (a := r.st) (b := r.sl) hr
    unfold areSc at p3 p4
    rw [Bool.and_eq_true] at p3 p4
    have h3 := inR_true p3.2
    have h4 := inR_true p4.2
    simp only [Option.getD_some]
    omega
theorem rdOut_parts {s : List UInt8} {w w' : World} {e : Ending} {n cd : Int} {st sl : List Int} (hR : rrR s = ⟨n, st, sl⟩) (hC : rrC s = cd) (h : RdOut s w e w') :
    ∃ x y c1 c2, e = .returned (.tuple #[.agg #[.int .i64 n, .slice x st.length c1, .slice y sl.length c2], .int .i64 cd]) ∧ Later w w' ∧
    w'.ownsRow w.heap.size 2 1 (.slice x st.length c1) st.length (nums st) ∧ w'.ownsRow w.heap.size 2 1 (.slice y sl.length c2) sl.length (nums sl) ∧
    ((Value.slice y sl.length c2).ownBlock = none ∨ (Value.slice y sl.length c2).ownBlock ≠ (Value.slice x st.length c1).ownBlock) := by
  unfold RdOut at h
  rw [hR, hC] at h
  exact h

set_option maxHeartbeats 4000000 in
theorem walk (s : List UInt8) (w : World) (he : Env w) :
    Calls Tryd.prog 5 #[sv s] w fun e w' => e = .returned (.bool true) ∧ Later w w' := by
  by_cases hs : s.length ≤ 1048576
  rotate_left
  · have hb : decide ((1048576 : Int) < (s.length : Int)) = true := decide_eq_true (by omega)
    go_enter Tryd.func5, Tryd.ntmps5
    go_wp2
    go_ret
    exact ⟨rfl, Later.refl _⟩
  have hb : decide ((1048576 : Int) < (s.length : Int)) = false := decide_eq_false (by omega)
  have HE := Lib.hid he
  clear he
  have hl6 := rr_len s
  obtain ⟨⟨n, st, sl⟩, hR⟩ : ∃ R, rrR s = R := ⟨_, rfl⟩
  obtain ⟨cd, hC⟩ : ∃ c, rrC s = c := ⟨_, rfl⟩
  rw [hR] at hl6
  obtain ⟨h61, h62⟩ := hl6
  simp only at h61 h62
  have HR := Lib.hid hR
  have HC := Lib.hid hC
  clear hR hC
  go_enter Tryd.func5, Tryd.ntmps5
  go_wp2_with fail
  refine (w_specReadRule s hs _).mono ?_
  intro e w1 hw1
  obtain ⟨x1, y1, p1, q1, rfl, hL1, ox1, oy1, ap1⟩ := rdOut_parts HR.out HC.out hw1
  have OX1 := Lib.hid ox1
  have OY1 := Lib.hid oy1
  have hz1 := hL1.size
  clear hw1 ox1 oy1 ap1
  go_wp2_with fail
  refine (w_implReadRule s hs _ (HE.out.later (hL1.alloc _))).mono ?_
  intro e w2 hw2
  obtain ⟨x2, y2, p2, q2, rfl, hL2, ox2, oy2, ap2⟩ := rdOut_parts HR.out HC.out hw2
  have K3 := Lib.hid (hL2.keep (heap_alloc_new _ _))
  have OX1b := Lib.hid (owns_later (World.ownsRow.alloc OX1.out _) hL2)
  have OY1b := Lib.hid (owns_later (World.ownsRow.alloc OY1.out _) hL2)
  have AXX := Lib.hid (own_apart' (World.ownsRow.alloc OX1.out _) ox2 (Nat.le_refl _))
  have AXY := Lib.hid (own_apart' (World.ownsRow.alloc OX1.out _) oy2 (Nat.le_refl _))
  have AYX := Lib.hid (own_apart' (World.ownsRow.alloc OY1.out _) ox2 (Nat.le_refl _))
  have AYY := Lib.hid (own_apart' (World.ownsRow.alloc OY1.out _) oy2 (Nat.le_refl _))
  have OX2 := Lib.hid ox2
  have OY2 := Lib.hid oy2
  have AP2 := Lib.hid ap2
  have hz2 := hL2.size
  simp only [World.size_alloc] at hz2
  have HW2 := (hL1.alloc _).trans hL2
  clear hw2 ox2 oy2 ap2 hL1 hL2 OX1 OY1
  obtain ⟨c3, f3, z3⟩ := blk_at K3.out
  go_wp2_with fail
  refine (w_eqRule_same n _ _ _ _ st sl _ (reads_of_owns (World.ownsRow.alloc OX2.out _) (by omega)) (reads_of_owns (World.ownsRow.alloc OY2.out _) (by omega)) (reads_of_owns (World.ownsRow.alloc OX1b.out _) (by omega)) (reads_of_owns (World.ownsRow.alloc OY1b.out _) (by omega))).mono ?_
  rintro e w3 ⟨rfl, hL3⟩
  have K5 := Lib.hid (hL3.keep (heap_alloc_new _ _))
  have K3b := Lib.hid (hL3.keep (heap_alloc_old _ _ K3.out))
  have OX1c := Lib.hid (owns_later (World.ownsRow.alloc OX1b.out _) hL3)
  have OY1c := Lib.hid (owns_later (World.ownsRow.alloc OY1b.out _) hL3)
  have OX2c := Lib.hid (owns_later (World.ownsRow.alloc OX2.out _) hL3)
  have OY2c := Lib.hid (owns_later (World.ownsRow.alloc OY2.out _) hL3)
  have HW3 := (HW2.alloc _).trans hL3
  have hz3 := hL3.size
  simp only [World.size_alloc] at hz3
  clear hL3 c3 f3 z3 HW2 OX1b OY1b OX2 OY2 K3
  obtain ⟨c3, f3, z3⟩ := blk_at K3b.out
  obtain ⟨c5, f5, z5⟩ := blk_at K5.out
  go_wp2_with fail
  refine (w_markRule2 n x2 y2 _ _ p2 q2 _ _ _ _ (by omega) (by omega) _ OX2c.out OY2c.out AP2.out).mono ?_
  rintro e w4 ⟨rfl, hT, om1, om2⟩
  have K3c := Lib.hid (hT.keep K3b.out (own_ne_type OX2c.out K3b.out (by decide)) (own_ne_type OY2c.out K3b.out (by decide)))
  have K5c := Lib.hid (hT.keep K5.out (own_ne_type OX2c.out K5.out (by decide)) (own_ne_type OY2c.out K5.out (by decide)))
  have OX1d := Lib.hid (hT.owns OX1c.out AXX.out AXY.out)
  have OY1d := Lib.hid (hT.owns OY1c.out AYX.out AYY.out)
  have HW4 := hT.later HW3 (fun j e => by have := (OX2c.out.lt j e).1; simp at this; omega) (fun j e => by have := (OY2c.out.lt j e).1; simp at this; omega)
  have OM1 := Lib.hid om1
  have OM2 := Lib.hid om2
  have hz4 := hT.size
  clear hT om1 om2 c3 f3 z3 c5 f5 z5 HW3 OX1c OY1c OX2c OY2c K3b K5
  obtain ⟨c3, f3, z3⟩ := blk_at K3c.out
  obtain ⟨c5, f5, z5⟩ := blk_at K5c.out
  have hq1 : decide ((1 : Int) + (st.length : Int) + (sl.length : Int) < 0) = false := decide_eq_false (by omega)
  go_wp2_with fail
  refine (w_heldRule2 n _ _ _ _ _ (by omega) (by omega) (reads_of_owns OM1.out (by omega)) (reads_of_owns OM2.out (by omega))).mono ?_
  rintro e w5 ⟨rfl, hL5⟩
  have K3d := Lib.hid (hL5.keep K3c.out)
  have K5d := Lib.hid (hL5.keep K5c.out)
  have OX1e := Lib.hid (owns_later OX1d.out hL5)
  have OY1e := Lib.hid (owns_later OY1d.out hL5)
  have OM1b := Lib.hid (owns_later OM1.out hL5)
  have OM2b := Lib.hid (owns_later OM2.out hL5)
  have HW5 := HW4.trans hL5
  have hz5 := hL5.size
  clear hL5 c3 f3 z3 c5 f5 z5 HW4 OX1d OY1d OM1 OM2 K3c K5c
  go_wp2_with fail
  refine (w_implReadRule s hs _ (HE.out.later HW5)).mono ?_
  intro e w6 hw6
  obtain ⟨x3, y3, p3, q3, rfl, hL6, ox3, oy3, ap3⟩ := rdOut_parts HR.out HC.out hw6
  have K3e := Lib.hid (hL6.keep K3d.out)
  have K5e := Lib.hid (hL6.keep K5d.out)
  have OX1f := Lib.hid (owns_later OX1e.out hL6)
  have OY1f := Lib.hid (owns_later OY1e.out hL6)
  have OM1c := Lib.hid (owns_later OM1b.out hL6)
  have OM2c := Lib.hid (owns_later OM2b.out hL6)
  have OX3 := Lib.hid ox3
  have OY3 := Lib.hid oy3
  have HW6 := HW5.trans hL6
  have hz6 := hL6.size
  clear hL6 hw6 ox3 oy3 ap3 HW5 OX1e OY1e OM1b OM2b K3d K5d
  obtain ⟨c3, f3, z3⟩ := blk_at K3e.out
  obtain ⟨c5, f5, z5⟩ := blk_at K5e.out
  go_wp2_with fail
  refine (w_eqRule_same n _ _ _ _ st sl _ (reads_of_owns (World.ownsRow.alloc OX3.out _) (by omega)) (reads_of_owns (World.ownsRow.alloc OY3.out _) (by omega)) (reads_of_owns (World.ownsRow.alloc OX1f.out _) (by omega)) (reads_of_owns (World.ownsRow.alloc OY1f.out _) (by omega))).mono ?_
  rintro e w7 ⟨rfl, hL7⟩
  have K5f := Lib.hid (hL7.keep (heap_alloc_old _ _ K5e.out))
  have OM1d := Lib.hid (owns_later (World.ownsRow.alloc OM1c.out _) hL7)
  have OM2d := Lib.hid (owns_later (World.ownsRow.alloc OM2c.out _) hL7)
  have HW7 := (HW6.alloc _).trans hL7
  clear hL7 c3 f3 z3 c5 f5 z5 HW6 OM1c OM2c K5e OX3 OY3 OX1f OY1f
  obtain ⟨c5, f5, z5⟩ := blk_at K5f.out
  go_wp2_with fail
  refine (w_heldRule2 n _ _ _ _ _ (by omega) (by omega) (reads_of_owns OM1d.out (by omega)) (reads_of_owns OM2d.out (by omega))).mono ?_
  rintro e w8 ⟨rfl, hL8⟩
  have HW8 := HW7.trans hL8
  clear hL8 c5 f5 z5
  go_wp2
  go_ret
  exact ⟨rfl, HW8⟩

theorem tab_ty : (Tryd.prog.globals[(5 : Nat)]?).map (·.type) = some 184 := by kernel_rfl
theorem rng_ty : (Tryd.prog.globals[(2 : Nat)]?).map (·.type) = some 115 := by kernel_rfl
theorem syn_ty : (Tryd.prog.globals[(1 : Nat)]?).map (·.type) = some 115 := by kernel_rfl
theorem star : "*" ++ "errors.errorString" = "*errors.errorString" := by decide
theorem row_err (u : TypeId) (h : Tryd.prog.typeName? 3 u = some "*errors.errorString") : u = 190 :=
  typeName_ptr_named (nm := "errors.errorString") (by rw [star]; kernel_rfl) (by kernel_rfl) (by decide) u (by rw [star]; exact h)
theorem laid_env {W : World} (hsh : W.ShapedOpen Tryd.prog) (h : laidMetH Tryd.prog Rows.fnExactReadRuleRow.laid W) : Env W := by
  rw [MakeChecks.laidMetH_plain _ _ _ (by kernel_rfl)] at h
  have h2 := laidMet.tail (laidMet.tail h)
  have h4 := laidMet.tail (laidMet.tail h2)
  have h5 := laidMet.tail h4
  obtain ⟨a1, s1, hv1, _, _, _⟩ := laid_sentinel h4 g_rng rng_ty Tryd.underlying115 row_err Tryd.underlying190 Tryd.underlying192 rfl rfl Tryd.underlying9 (by kernel_rfl) (by kernel_rfl)
  obtain ⟨a2, s2, hv2, _, _, _⟩ := laid_sentinel h5 g_syn syn_ty Tryd.underlying115 row_err Tryd.underlying190 Tryd.underlying192 rfl rfl Tryd.underlying9 (by kernel_rfl) (by kernel_rfl)
  obtain ⟨m, hm⟩ : ∃ m, W.cell? ⟨0, 0, none⟩ = some (.int .i64 m) := Go.Proofs.cell_of_shapedOpen_int (zero := #[.int .i64 0]) (t := 3) hsh (of_decide_eq_true (by kernel_rfl)) (by kernel_rfl) rfl (by kernel_rfl) (by kernel_rfl) Tryd.underlying3
  refine ⟨Lib.tabIs_of_head pt_g tab_ty Tryd.underlying184 Tryd.underlying161 (by kernel_rfl) (by kernel_rfl) h2, ⟨_, _, hv2⟩, ⟨_, _, hv1⟩, ?_, m, hm⟩
  rcases Nat.eq_zero_or_pos W.heap.size with h0 | h0
  · have : W.heap[0]? = none := Array.getElem?_eq_none (by omega)
    simp [World.cell?, this] at hm
  · exact h0
/-- A law of a change, where what is laid and the world's shape are at hand. -/
theorem handed_laid {H : Type} {enc : TypeId × Value → H} {C : Checked} {os : Os} {f : FuncId} {fn : Func} {s : ChangeSpec} {X : World → Array Value → Prop}
    (hX : ∀ (w w' : World) (args : Array Value), w.heap = w'.heap → X w args → X w' args)
    (own : ownKnob C.prog.godebug = none) (started : os.Started) (noInit : C.prog.inits.idxOf? f = none) (hfn : C.prog.funcs[f]? = some fn)
    (wit : ∃ (w : World) (tape : Tape) (i : Input), w.os = os ∧ (w.forCall tape i).Shaped C.prog ∧ i.vars = [] ∧ Input.okWide C.prog (w.forCall tape i) .any w.heap.size f i ∧
      ((s.pre enc C.prog fn [] false (w.forCall tape i).memory i.args ∧ X (w.forCall tape i).memory i.args) ∧ sizedMet enc C.prog fn (OpenSpec.ofChange s) false (w.forCall tape i).memory i.args) ∧ Assume.holds {} C.prog (lone (Frame.enter C.prog f i.args .normal) [] (w.forCall tape i)))
    (con : ∀ (W : World) (base : Nat) (args : Array Value) (ds gs : List (DataW H)) (before : List MemPlace),
      (∀ (j : Nat) t v, fn.params[j]? = some t → args[j]? = some v → Value.okWide C.prog W .any base t v) →
      DataW.Whole enc C.prog fn.params.toList s.vars false W args.toList ds gs before → X W args → W.ShapedOpen C.prog →
      Calls C.prog f args W fun e W' => ∃ v, e = .returned v ∧ s.post enc C.prog fn false true false false W args v W') :
    ReturnsInHanded {} C os f .any (fun w args => (s.pre enc C.prog fn [] false w args ∧ X w args) ∧ sizedMet enc C.prog fn (OpenSpec.ofChange s) false w args) (s.post enc C.prog fn false true false false) := by
  refine returnsInHanded_of_calls own started noInit wit ?_
  intro w tape i _ hsh _ hok hpre _
  obtain ⟨_, _, _, fn', hfn', _, _, _, _, hval⟩ := hok
  obtain rfl : fn' = fn := Option.some.inj (hfn'.symm.trans hfn)
  obtain ⟨⟨⟨ds, gs, before, hw, _⟩, hx⟩, _⟩ := hpre
  refine (con (w.forCall tape i) w.heap.size i.args ds gs before hval (DataW.Whole.of_heap (w' := w.forCall tape i) (by rfl) hw) (hX _ _ _ (by rfl) hx) hsh).mono fun e W' ⟨v, he, hp⟩ => ?_
  subst he
  exact ChangeSpec.post_blind hp

theorem lifted (os : Os) (started : os.Started) (H : Type) (enc : TypeId × Value → H) :
    ReturnsInHanded {} Tryd.checked os 5 .any (fun w args => (Rows.fnExactReadRuleSpec.pre enc Tryd.prog Tryd.f5 [] false w args ∧ laidMetH Tryd.prog Rows.fnExactReadRuleRow.laid w) ∧ sizedMet enc Tryd.prog Tryd.f5 (OpenSpec.ofChange Rows.fnExactReadRuleSpec) false w args)
      (Rows.fnExactReadRuleSpec.post enc Tryd.prog Tryd.f5 false true false false) := by
  refine handed_laid (C := Tryd.checked) (X := fun w _ => laidMetH Tryd.prog Rows.fnExactReadRuleRow.laid w) (fun _ _ _ hh h => h.of_heap hh) o_own started (by kernel_rfl) Tryd.func5
    (ChangeSpec.witness_shaped (enc := enc) (C := Tryd.checked) (os := os) (X := fun w _ => laidMetH Tryd.prog Rows.fnExactReadRuleRow.laid w) false (World.laidAll Tryd.prog os Rows.fnExactReadRuleRow.laid) #[.string ⟨#[]⟩] 8 (World.laidAll_os _ _ _)
      (World.shaped_of_ZipB (by kernel_rfl) (by kernel_rfl)) (by kernel_rfl) (by kernel_rfl) (by kernel_rfl)
      (by rw [MakeChecks.laidMetH_plain _ _ _ (by kernel_rfl)]; exact laidMet_laidAll _ (by kernel_rfl) (by kernel_rfl))) ?_
  intro W base args ds gs before hval0 hW hL hsh
  have hval : ∀ (j : Nat) t v, Tryd.f5.params[j]? = some t → args[j]? = some v → Value.okWide Tryd.prog W .any base t v := hval0
  have hW' := hW
  obtain ⟨p, q, hA0, hV, rfl, hfz, hnd⟩ := hW
  have hA : DataW.TrodAll enc Tryd.prog W 0 (fun _ => true) true Tryd.f5.params.toList args.toList ds p := hA0
  rw [Tryd.params5] at hA hval
  obtain ⟨v0, d0, rfl, rfl, h0⟩ := trodAll_one hA
  obtain ⟨rfl, rfl⟩ := trodVars_none hV
  obtain ⟨s, rfl, rfl, rfl, ws⟩ := open_string Tryd.underlying9 (hval 0 9 v0 rfl rfl) h0
  clear hA0 hval0
  refine (walk s.data.toList W (laid_env hsh hL)).mono fun e W' ⟨he, bel⟩ => ?_
  subst he
  exact ⟨_, rfl, _, _, _, [], _, [], hW', trodAll_mk1 (shut_bool Tryd.underlying4 _), trodAll_mk1 (shut_string Tryd.underlying9 ws), rfl, bel.frame _, fun h => by cases h⟩

theorem over : Rows.FnExactReadRuleSaid :=
  OpenClaim.holds_of_wide 5 Tryd.f5 rfl rfl rfl rfl rfl rfl rfl ⟨rfl, rfl, rfl, rfl, rfl⟩ rfl rfl rfl rfl rfl (by kernel_rfl) Tryd.func5 (by kernel_rfl)
    (of_decide_eq_true (by kernel_rfl)) (by unfold Func.isWrapper; first | (rw [if_pos (by decide +kernel)]; kernel_rfl) | (rw [if_neg (by decide +kernel)]; exact ⟨rfl, rfl⟩))
    (fun os started H enc _ => lifted os started H enc)

theorem proved : Rows.FnExactReadRuleCardSaid :=
  Claim7.holds_tied_plain_at .later [] [.data, .data, .data, .data, .sentinel, .sentinel, .pinned] true (true, "4dd07d9378b5849b743967e91cb11eec9d8f46762c551014cbd10579683d114b") true
    over (fun _ h => by cases h) (by kernel_rfl) (fun _ h => by cases h) fnExactReadRule_row_tie rfl ⟨rfl, rfl⟩ (by kernel_rfl) rfl
    (fun f fn hf hfn => by
      obtain rfl : f = 5 := Option.some.inj ((show Tryd.prog.funcNamed "loop.example/g00951/laws.FnExactReadRule" = some 5 by kernel_rfl).symm.trans hf) |>.symm
      obtain rfl : fn = Tryd.f5 := (Option.some.inj (Tryd.func5.symm.trans hfn)).symm
      exact ⟨by kernel_rfl, fun j t ht => by
        rw [Tryd.params5] at ht
        have hm : t ∈ [9] := by simpa using Array.mem_of_getElem? ht
        have hall : ([9].all fun u => !Tryd.prog.wantsStandIn u) = true := by kernel_rfl
        exact (show Tryd.prog.wantsStandIn t = false by simpa using List.all_eq_true.1 hall t hm)⟩)
    (by kernel_rfl)
#print axioms proved
end Go.Proofs.YtgngbdacejghcaaDoor.lawReadRule
