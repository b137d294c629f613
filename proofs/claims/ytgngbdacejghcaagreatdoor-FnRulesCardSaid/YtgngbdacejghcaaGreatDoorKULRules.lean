/- A figure to which the cursor is set is read there again, and a rule is recovered from its text: the law FnRules. It returns true for all codes. -/
import Derived.LaidMore
import Derived.Lay
import Derived.OpenShut
import Derived.SevenTiedAt
import Derived.Stop.LaidErr
import Derived.Stop.Joined
import Derived.Shelf.Vars
import Derived.HandedShaped
import Derived.Test.YtgngbdacejghcaaGreatDoorRows
import Derived.Test.YtgngbdacejghcaaGreatDoorCards
import Derived.Test.YtgngbdacejghcaaGreatDoorTie
import Derived.Test.YtgngbdacejghcaaGreatDoorKUO3
import Derived.Test.YtgngbdacejghcaaGreatDoorKUD24z
import Derived.Test.YtgngbdacejghcaaGreatDoorKUD15
import Derived.Test.YtgngbdacejghcaaGreatDoorKUD38
import Derived.Test.YtgngbdacejghcaaGreatDoorKUM84
import Derived.Test.YtgngbdacejghcaaGreatDoorKUM106
import Derived.Test.YtgngbdacejghcaaGreatDoorKUM120
import Derived.Test.YtgngbdacejghcaaGreatDoorKUM124
import Derived.Test.YtgngbdacejghcaaGreatDoorKUP29
namespace Go.Proofs.YtgngbdacejghcaaGreatDoor.lawRules
set_option linter.unusedVariables false
set_option linter.unusedSimpArgs false
open Go.ChangeShapes Go.WideShapes Go.ChangeAt Go.RowKit
set_option linter.unusedVariables false
set_option maxRecDepth 100000
theorem rr_len (s : List UInt8) : (rrR s).st.length ≤ 6 ∧ (rrR s).sl.length ≤ 6 := by
 unfold rrR
 cases h : rdRule s with
 | none => simp
 | some r =>
  have hr : isRule r = true := by
   unfold rdRule at h
   split at h
   · split at h
     · rename_i hq
       injection h with h
       subst h
       rw [Bool.and_eq_true] at hq
       exact hq.2
     · cases h
   · cases h
  obtain ⟨p1, p2, p3, p4⟩ := rule_parts (n := r.len) (a := r.st) (b := r.sl) hr
  have h3 := areSc_lenR p3
  have h4 := areSc_lenR p4
  simp only [Option.getD_some]
  omega
theorem w_implReadRuleR {s : List UInt8} {n cd : Int} {st sl : List Int} (hR : rrR s = ⟨n, st, sl⟩) (hC : rrC s = cd) (hs : s.length ≤ 1048576) (w : World) (he : Env w) :
 Calls Tryz.prog 13 #[sv s] w fun e w' => ∃ x y c1 c2, e = .returned (.tuple #[.agg #[.int .i64 n, .slice x st.length c1, .slice y sl.length c2], .int .i64 cd]) ∧ Later w w' ∧
 w'.ownsRow w.heap.size 2 1 (.slice x st.length c1) st.length (nums st) ∧ w'.ownsRow w.heap.size 2 1 (.slice y sl.length c2) sl.length (nums sl) :=
 (w_implReadRule s hs w he).mono fun e w' h => by
  unfold RdOut at h
  rw [hR, hC] at h
  obtain ⟨x, y, c1, c2, h1, h2, h3, h4, _⟩ := h
  exact ⟨x, y, c1, c2, h1, h2, h3, h4⟩
theorem w_specReadRuleR {s : List UInt8} {n cd : Int} {st sl : List Int} (hR : rrR s = ⟨n, st, sl⟩) (hC : rrC s = cd) (hs : s.length ≤ 1048576) (w : World) :
 Calls Tryz.prog 14 #[sv s] w fun e w' => ∃ x y c1 c2, e = .returned (.tuple #[.agg #[.int .i64 n, .slice x st.length c1, .slice y sl.length c2], .int .i64 cd]) ∧ Later w w' ∧
 w'.ownsRow w.heap.size 2 1 (.slice x st.length c1) st.length (nums st) ∧ w'.ownsRow w.heap.size 2 1 (.slice y sl.length c2) sl.length (nums sl) :=
 (w_specReadRule s hs w).mono fun e w' h => by
  unfold RdOut at h
  rw [hR, hC] at h
  obtain ⟨x, y, c1, c2, h1, h2, h3, h4, _⟩ := h
  exact ⟨x, y, c1, c2, h1, h2, h3, h4⟩
theorem w_likeRulesR (n : Int) (u v u' v' : Value) (l1 l2 : List Int) (w : World) (h : IsNums w u l1) (h' : IsNums w v l2) (h2 : IsNums w u' l1) (h2' : IsNums w v' l2) :
 Calls Tryz.prog 18 #[.agg #[.int .i64 n, u, v], .agg #[.int .i64 n, u', v']] w fun e w' => e = .returned (.bool true) ∧ Later w w' := by
 have H := Lib.hid h
 have H' := Lib.hid h'
 have H2 := Lib.hid h2
 have H2' := Lib.hid h2'
 obtain ⟨_, _, au, capu, rfl, _, _, _⟩ := h
 obtain ⟨_, _, av, capv, rfl, _, _, _⟩ := h'
 obtain ⟨_, _, au2, capu2, rfl, _, _, _⟩ := h2
 obtain ⟨_, _, av2, capv2, rfl, _, _, _⟩ := h2'
 go_enter Tryz.func18, Tryz.ntmps18
 go_wp2_with fail
 refine (w_likeIntsY _ _ _ _ (H.out.later (qla)) (H2.out.later (qla))).mono ?_
 rintro e w1 ⟨rfl, hL⟩
 obtain ⟨⟨c0, f0, z0⟩, ⟨c1, f1, z1⟩⟩ := blk2 hL
 have HL1 := Lib.hid (show Later w w1 from qla)
 go_wp2_with fail
 refine (w_likeIntsY _ _ _ _ (H'.out.later HL1.out) (H2'.out.later HL1.out)).mono ?_
 rintro e w2 ⟨rfl, hL2⟩
 go_wp2
 go_ret
 exact ⟨rfl, qla⟩
theorem rule_again {r : Rul} {t : List UInt8} (ht : rtT r = t) (hc : rtC r = 0) : rrR t = r ∧ rrC t = 0 := by
 cases h : isRule r with
 | false => rw [(rt_no h).2] at hc; cases hc
 | true =>
  rw [(rt_yes h).1] at ht
  rw [← ht]
  exact rule_back h
theorem cur_law {r : Rul} {s X : Stg} {b : Bool} {x : Int} {f : Fig} (h : curC r s b x f = 0) (hX : curS r s b x f = X) :
 isStg X = true ∧ pcC x f = 0 ∧ pcV x f = ptF x f ∧ (b = false → rkF r X x = readF x (ptF x f) ∧ codeOn r X false x = 0) ∧ (b = true → rsF r X x = readF x (ptF x f) ∧ rsC r X x = 0) ∧ pcC x (readF x (ptF x f)) = 0 ∧ pcV x (readF x (ptF x f)) = ptF x f := by
 have hf : isFig f = true := by
  cases hq : isFig f
  · exfalso; unfold curC at h; rw [hq] at h; simp at h
  · rfl
 have hc : codeOn r s b x = 0 := by
  unfold curC at h
  rw [if_pos hf] at h
  split at h
  · assumption
  · exact h
 have hg : isStg ⟨s.sh, curQ s b x f⟩ = true := by
  cases hq : isStg ⟨s.sh, curQ s b x f⟩
  · exfalso; unfold curC at h; rw [if_pos hf, if_pos hc, hq] at h; simp at h
  · rfl
 have e : X = ⟨s.sh, curQ s b x f⟩ := by rw [← hX]; unfold curS; rw [if_pos h]
 obtain ⟨h1, h2, h3⟩ := codeOn_inv hc
 have hx : 0 ≤ x ∧ x ≤ 4 := by
  cases b
  · exact rule_st (n := r.len) (st := r.st) (sd := r.sl) h1 h3
  · exact rule_sl (n := r.len) (st := r.st) (sd := r.sl) h1 h3
 have hs : isScale x = true := by unfold isScale; exact inR_mk (by omega)
 obtain ⟨p1, p2⟩ := pt_read (s := x) (f := f) (by omega) hf
 obtain ⟨p3, p4⟩ := pt_in (s := x) (f := f) (by omega) hf
 have q0 := pc_0 (s := x) (f := f) hf hs (by omega)
 have q1 := pc_0 (s := x) (f := readF x (ptF x f)) p2 hs (by omega)
 subst e
 refine ⟨hg, q0.1, q0.2, fun hb => ?_, fun hb => ?_, q1.1, by rw [q1.2, p1]⟩
 · subst hb
   have h4 : codeOn r ⟨s.sh, curQ s false x f⟩ false x = 0 := codeOn_0 (b := false) h1 hg h3
   exact ⟨rk_0 h4, h4⟩
 · subst hb
   have e1 : curQ s true x f - s.sh = ptF x f := by simp only [curQ]; simp
   have h4 : rsC r ⟨s.sh, curQ s true x f⟩ x = 0 := by
    unfold rsC
    rw [h1, hg, if_pos rfl, if_pos rfl, if_pos (show hasI r.sl x = true from h3)]
    simp only [e1]
    rw [if_pos (inR_mk ⟨p3, p4⟩)]
   exact ⟨by unfold rsF; rw [if_pos h4]; simp only [e1], h4⟩
set_option maxHeartbeats 16000000 in
theorem walk (v0 : Value) (bs : List Int) (W : World) (r0 : Raw W v0 bs.length 1 (byts bs)) (hB : ∀ b ∈ bs, 0 ≤ b ∧ b ≤ 255) (he : Env W) :
 Calls Tryz.prog 3 #[v0] W fun e w' => e = .returned (.bool true) ∧ Later W w' := by
 have HE := Lib.hid he
 clear he
 by_cases hb : bs.length ≤ 4096
 rotate_left
 · obtain ⟨_, x0, cap0, rfl, hcap0, hmax0, _⟩ := r0
   have hbg : decide ((4096 : Int) < (bs.length : Int)) = true := by simp; omega
   have HB := Lib.hid hbg
   clear hbg
   go_enter Tryz.func3, Tryz.ntmps3
   go_wp2_with fail
   refine (w_big _ _ _ (by omega) _).mono ?_
   rintro e w' ⟨rfl, rfl⟩
   rw [HB.out]
   go_wp2
   go_ret
   exact ⟨rfl, Later.refl _⟩
 have HC := Lib.hid (r0.reads (by omega))
 obtain ⟨_, x0, cap0, rfl, hcap0, hmax0, _⟩ := r0
 have hbg : decide ((4096 : Int) < (bs.length : Int)) = false := by simp; omega
 have HB := Lib.hid hbg
 clear hbg
 go_enter Tryz.func3, Tryz.ntmps3
 go_wp2_with fail
 refine (w_big _ _ _ (by omega) _).mono ?_
 rintro e w' ⟨rfl, rfl⟩
 rw [HB.out]
 go_wp2_with fail
 refine (w_DrawSetCursor _ bs _ ((HC.out.later qlh)) hB hb).mono ?_
 rintro e w1 ⟨n, vu, vv, st, sd, s, b, y, f, rfl, hOu, hOv, hu5, hv5, hL⟩
 obtain ⟨au, capu, rfl⟩ := isSl_of hOu
 obtain ⟨av, capv, rfl⟩ := isSl_of hOv
 have HW1 : Hid (Later W w1) := Lib.hid (Later.trans qlh hL)
 have hz1 := HW1.out.size
 have HOu_1 := Lib.hid hOu
 clear hOu
 have HOv_1 := Lib.hid hOv
 clear hOv
 clear hL
 obtain ⟨cc, hHCC⟩ : ∃ q, curC ⟨n, st, sd⟩ ⟨s.sh, s.cu⟩ b y ⟨f.d, f.t⟩ = q := ⟨_, rfl⟩
 have HCC := Lib.hid hHCC
 obtain ⟨xs, hHXS⟩ : ∃ q, (curS ⟨n, st, sd⟩ ⟨s.sh, s.cu⟩ b y ⟨f.d, f.t⟩).sh = q := ⟨_, rfl⟩
 have HXS := Lib.hid hHXS
 obtain ⟨xc, hHXC⟩ : ∃ q, (curS ⟨n, st, sd⟩ ⟨s.sh, s.cu⟩ b y ⟨f.d, f.t⟩).cu = q := ⟨_, rfl⟩
 have HXC := Lib.hid hHXC
 clear hHCC hHXS hHXC
 go_wp2_with fail
 refine (w_implSetCursor n _ _ st sd s.sh s.cu b y f.d f.t _ (reads_of_owns (qoh HOu_1) (by omega)) (reads_of_owns (qoh HOv_1) (by omega))).mono ?_
 rintro e w2 ⟨rfl, hL⟩
 have HW2 : Hid (Later W w2) := Lib.hid (Later.trans qlh hL)
 have hz2 := HW2.out.size
 have HOu_2 := Lib.hid (owns_later (qoh HOu_1) hL)
 have HOv_2 := Lib.hid (owns_later (qoh HOv_1) hL)
 have HK3_2 := Lib.hid (hL.keep (k := w1.heap.size) qkh)
 have HK4_2 := Lib.hid (hL.keep (k := w1.heap.size + 1) qkh)
 have HK7_2 := Lib.hid (hL.keep (k := w1.heap.size + 1 + 1) qkh)
 clear hL
 obtain ⟨c3, f3, z3_2⟩ := blk_at HK3_2.out
 obtain ⟨c4, f4, z4_2⟩ := blk_at HK4_2.out
 obtain ⟨c7, f7, z7_2⟩ := blk_at HK7_2.out
 rw [HXS.out, HXC.out, HCC.out]
 go_wp2_with fail
 refine (w_specSetCursor n _ _ st sd s.sh s.cu b y f.d f.t _ (reads_of_owns (qoh HOu_2) (by omega)) (reads_of_owns (qoh HOv_2) (by omega))).mono ?_
 rintro e w3 ⟨rfl, hL⟩
 have HW3 : Hid (Later W w3) := Lib.hid (Later.trans qlh hL)
 have hz3 := HW3.out.size
 have HOu_3 := Lib.hid (owns_later (qoh HOu_2) hL)
 have HOv_3 := Lib.hid (owns_later (qoh HOv_2) hL)
 have HK3_3 := Lib.hid (hL.keep (k := w1.heap.size) qkh)
 have HK4_3 := Lib.hid (hL.keep (k := w1.heap.size + 1) qkh)
 have HK7_3 := Lib.hid (hL.keep (k := w1.heap.size + 1 + 1) qkh)
 have HK8_3 := Lib.hid (hL.keep (k := w2.heap.size) qkh)
 clear hL c3 f3 c4 f4 c7 f7
 obtain ⟨c3, f3, z3_3⟩ := blk_at HK3_3.out
 obtain ⟨c4, f4, z4_3⟩ := blk_at HK4_3.out
 obtain ⟨c7, f7, z7_3⟩ := blk_at HK7_3.out
 obtain ⟨c8, f8, z8_3⟩ := blk_at HK8_3.out
 rw [HXS.out, HXC.out, HCC.out]
 go_wp2_with fail
 refine (w_DrawRuleText _ bs _ ((HC.out.later qlh)) hB hb).mono ?_
 rintro e w4 ⟨n2, vp, vq, st2, sd2, rfl, hOp, hOq, hp5, hq5, hL⟩
 obtain ⟨ap, capp, rfl⟩ := isSl_of hOp
 obtain ⟨aq, capq, rfl⟩ := isSl_of hOq
 have HW4 : Hid (Later W w4) := Lib.hid (Later.trans qlh hL)
 have hz4 := HW4.out.size
 have HOu_4 := Lib.hid (owns_later (qoh HOu_3) hL)
 have HOv_4 := Lib.hid (owns_later (qoh HOv_3) hL)
 have HK3_4 := Lib.hid (hL.keep (k := w1.heap.size) qkh)
 have HK4_4 := Lib.hid (hL.keep (k := w1.heap.size + 1) qkh)
 have HK7_4 := Lib.hid (hL.keep (k := w1.heap.size + 1 + 1) qkh)
 have HK8_4 := Lib.hid (hL.keep (k := w2.heap.size) qkh)
 have HK10_4 := Lib.hid (hL.keep (k := w3.heap.size) qkh)
 have HOp_4 := Lib.hid hOp
 clear hOp
 have HOq_4 := Lib.hid hOq
 clear hOq
 clear hL c3 f3 c4 f4 c7 f7 c8 f8
 obtain ⟨c3, f3, z3_4⟩ := blk_at HK3_4.out
 obtain ⟨c4, f4, z4_4⟩ := blk_at HK4_4.out
 obtain ⟨c7, f7, z7_4⟩ := blk_at HK7_4.out
 obtain ⟨c8, f8, z8_4⟩ := blk_at HK8_4.out
 obtain ⟨c10, f10, z10_4⟩ := blk_at HK10_4.out
 obtain ⟨tx, hHTX⟩ : ∃ q, rtT ⟨n2, st2, sd2⟩ = q := ⟨_, rfl⟩
 have HTX := Lib.hid hHTX
 obtain ⟨ct, hHCT⟩ : ∃ q, rtC ⟨n2, st2, sd2⟩ = q := ⟨_, rfl⟩
 have HCT := Lib.hid hHCT
 obtain ⟨ir, hHIR⟩ : ∃ q, isRule ⟨n2, st2, sd2⟩ = q := ⟨_, rfl⟩
 have HIR := Lib.hid hHIR
 have htx := rtT_len ⟨n2, st2, sd2⟩
 rw [hHTX] at htx
 have hcr : (ct == 0) = ir := by rw [← hHCT, ← hHIR]; unfold rtC; cases isRule ⟨n2, st2, sd2⟩ <;> rfl
 clear hHTX hHCT hHIR
 go_wp2_with fail
 refine (w_implRuleText n2 _ _ st2 sd2 _ (reads_of_owns (qoh HOp_4) (by omega)) (reads_of_owns (qoh HOq_4) (by omega)) (HE.out.later qlh).tab).mono ?_
 rintro e w5 ⟨rfl, hL⟩
 have HW5 : Hid (Later W w5) := Lib.hid (Later.trans qlh hL)
 have hz5 := HW5.out.size
 have HOu_5 := Lib.hid (owns_later (qoh HOu_4) hL)
 have HOv_5 := Lib.hid (owns_later (qoh HOv_4) hL)
 have HOp_5 := Lib.hid (owns_later (qoh HOp_4) hL)
 have HOq_5 := Lib.hid (owns_later (qoh HOq_4) hL)
 have HK3_5 := Lib.hid (hL.keep (k := w1.heap.size) qkh)
 have HK4_5 := Lib.hid (hL.keep (k := w1.heap.size + 1) qkh)
 have HK7_5 := Lib.hid (hL.keep (k := w1.heap.size + 1 + 1) qkh)
 have HK8_5 := Lib.hid (hL.keep (k := w2.heap.size) qkh)
 have HK10_5 := Lib.hid (hL.keep (k := w3.heap.size) qkh)
 have HK12_5 := Lib.hid (hL.keep (k := w4.heap.size) qkh)
 clear hL c3 f3 c4 f4 c7 f7 c8 f8 c10 f10
 obtain ⟨c3, f3, z3_5⟩ := blk_at HK3_5.out
 obtain ⟨c4, f4, z4_5⟩ := blk_at HK4_5.out
 obtain ⟨c7, f7, z7_5⟩ := blk_at HK7_5.out
 obtain ⟨c8, f8, z8_5⟩ := blk_at HK8_5.out
 obtain ⟨c10, f10, z10_5⟩ := blk_at HK10_5.out
 obtain ⟨c12, f12, z12_5⟩ := blk_at HK12_5.out
 rw [HTX.out, HCT.out]
 go_wp2_with fail
 refine (w_specRuleText n2 _ _ st2 sd2 _ (reads_of_owns (qoh HOp_5) (by omega)) (reads_of_owns (qoh HOq_5) (by omega))).mono ?_
 rintro e w6 ⟨rfl, hL⟩
 have HW6 : Hid (Later W w6) := Lib.hid (Later.trans qlh hL)
 have hz6 := HW6.out.size
 have HOu_6 := Lib.hid (owns_later (qoh HOu_5) hL)
 have HOv_6 := Lib.hid (owns_later (qoh HOv_5) hL)
 have HOp_6 := Lib.hid (owns_later (qoh HOp_5) hL)
 have HOq_6 := Lib.hid (owns_later (qoh HOq_5) hL)
 have HK3_6 := Lib.hid (hL.keep (k := w1.heap.size) qkh)
 have HK4_6 := Lib.hid (hL.keep (k := w1.heap.size + 1) qkh)
 have HK7_6 := Lib.hid (hL.keep (k := w1.heap.size + 1 + 1) qkh)
 have HK8_6 := Lib.hid (hL.keep (k := w2.heap.size) qkh)
 have HK10_6 := Lib.hid (hL.keep (k := w3.heap.size) qkh)
 have HK12_6 := Lib.hid (hL.keep (k := w4.heap.size) qkh)
 clear hL c3 f3 c4 f4 c7 f7 c8 f8 c10 f10 c12 f12
 obtain ⟨c3, f3, z3_6⟩ := blk_at HK3_6.out
 obtain ⟨c4, f4, z4_6⟩ := blk_at HK4_6.out
 obtain ⟨c7, f7, z7_6⟩ := blk_at HK7_6.out
 obtain ⟨c8, f8, z8_6⟩ := blk_at HK8_6.out
 obtain ⟨c10, f10, z10_6⟩ := blk_at HK10_6.out
 obtain ⟨c12, f12, z12_6⟩ := blk_at HK12_6.out
 rw [HTX.out, HCT.out]
 go_wp2_with fail
 refine (w_DrawReadRule _ bs _ ((HC.out.later qlh)) hB hb).mono ?_
 rintro e w7 ⟨tq, rfl, htq, hL⟩
 have HW7 : Hid (Later W w7) := Lib.hid (Later.trans qlh hL)
 have hz7 := HW7.out.size
 have HOu_7 := Lib.hid (owns_later (qoh HOu_6) hL)
 have HOv_7 := Lib.hid (owns_later (qoh HOv_6) hL)
 have HOp_7 := Lib.hid (owns_later (qoh HOp_6) hL)
 have HOq_7 := Lib.hid (owns_later (qoh HOq_6) hL)
 have HK3_7 := Lib.hid (hL.keep (k := w1.heap.size) qkh)
 have HK4_7 := Lib.hid (hL.keep (k := w1.heap.size + 1) qkh)
 have HK7_7 := Lib.hid (hL.keep (k := w1.heap.size + 1 + 1) qkh)
 have HK8_7 := Lib.hid (hL.keep (k := w2.heap.size) qkh)
 have HK10_7 := Lib.hid (hL.keep (k := w3.heap.size) qkh)
 have HK12_7 := Lib.hid (hL.keep (k := w4.heap.size) qkh)
 clear hL c3 f3 c4 f4 c7 f7 c8 f8 c10 f10 c12 f12
 obtain ⟨c3, f3, z3_7⟩ := blk_at HK3_7.out
 obtain ⟨c4, f4, z4_7⟩ := blk_at HK4_7.out
 obtain ⟨c7, f7, z7_7⟩ := blk_at HK7_7.out
 obtain ⟨c8, f8, z8_7⟩ := blk_at HK8_7.out
 obtain ⟨c10, f10, z10_7⟩ := blk_at HK10_7.out
 obtain ⟨c12, f12, z12_7⟩ := blk_at HK12_7.out
 obtain ⟨⟨rn, rst, rsd⟩, hRR⟩ : ∃ q, rrR tq = q := ⟨_, rfl⟩
 obtain ⟨rc, hRC⟩ : ∃ q, rrC tq = q := ⟨_, rfl⟩
 have hl6 := rr_len tq
 rw [hRR] at hl6
 obtain ⟨h61, h62⟩ := hl6
 simp only at h61 h62
 have HRR := Lib.hid hRR
 have HRC := Lib.hid hRC
 clear hRR hRC
 go_wp2_with fail
 refine (w_implReadRuleR HRR.out HRC.out (by omega) _ (HE.out.later qlh)).mono ?_
 rintro e w8 ⟨x1, y1, q1, q2, rfl, hL, hOg, hOh⟩
 have HW8 : Hid (Later W w8) := Lib.hid (Later.trans qlh hL)
 have hz8 := HW8.out.size
 have HOu_8 := Lib.hid (owns_later (qoh HOu_7) hL)
 have HOv_8 := Lib.hid (owns_later (qoh HOv_7) hL)
 have HOp_8 := Lib.hid (owns_later (qoh HOp_7) hL)
 have HOq_8 := Lib.hid (owns_later (qoh HOq_7) hL)
 have HK3_8 := Lib.hid (hL.keep (k := w1.heap.size) qkh)
 have HK4_8 := Lib.hid (hL.keep (k := w1.heap.size + 1) qkh)
 have HK7_8 := Lib.hid (hL.keep (k := w1.heap.size + 1 + 1) qkh)
 have HK8_8 := Lib.hid (hL.keep (k := w2.heap.size) qkh)
 have HK10_8 := Lib.hid (hL.keep (k := w3.heap.size) qkh)
 have HK12_8 := Lib.hid (hL.keep (k := w4.heap.size) qkh)
 have HOg_8 := Lib.hid hOg
 clear hOg
 have HOh_8 := Lib.hid hOh
 clear hOh
 clear hL c3 f3 c4 f4 c7 f7 c8 f8 c10 f10 c12 f12
 obtain ⟨c3, f3, z3_8⟩ := blk_at HK3_8.out
 obtain ⟨c4, f4, z4_8⟩ := blk_at HK4_8.out
 obtain ⟨c7, f7, z7_8⟩ := blk_at HK7_8.out
 obtain ⟨c8, f8, z8_8⟩ := blk_at HK8_8.out
 obtain ⟨c10, f10, z10_8⟩ := blk_at HK10_8.out
 obtain ⟨c12, f12, z12_8⟩ := blk_at HK12_8.out
 go_wp2_with fail
 refine (w_specReadRuleR HRR.out HRC.out (by omega) _).mono ?_
 rintro e w9 ⟨x2, y2, q3, q4, rfl, hL, hOi, hOj⟩
 have HW9 : Hid (Later W w9) := Lib.hid (Later.trans qlh hL)
 have hz9 := HW9.out.size
 have HOu_9 := Lib.hid (owns_later (qoh HOu_8) hL)
 have HOv_9 := Lib.hid (owns_later (qoh HOv_8) hL)
 have HOp_9 := Lib.hid (owns_later (qoh HOp_8) hL)
 have HOq_9 := Lib.hid (owns_later (qoh HOq_8) hL)
 have HOg_9 := Lib.hid (owns_later (qoh HOg_8) hL)
 have HOh_9 := Lib.hid (owns_later (qoh HOh_8) hL)
 have HK3_9 := Lib.hid (hL.keep (k := w1.heap.size) qkh)
 have HK4_9 := Lib.hid (hL.keep (k := w1.heap.size + 1) qkh)
 have HK7_9 := Lib.hid (hL.keep (k := w1.heap.size + 1 + 1) qkh)
 have HK8_9 := Lib.hid (hL.keep (k := w2.heap.size) qkh)
 have HK10_9 := Lib.hid (hL.keep (k := w3.heap.size) qkh)
 have HK12_9 := Lib.hid (hL.keep (k := w4.heap.size) qkh)
 have HK18_9 := Lib.hid (hL.keep (k := w8.heap.size) qkh)
 have HOi_9 := Lib.hid hOi
 clear hOi
 have HOj_9 := Lib.hid hOj
 clear hOj
 clear hL c3 f3 c4 f4 c7 f7 c8 f8 c10 f10 c12 f12
 obtain ⟨c3, f3, z3_9⟩ := blk_at HK3_9.out
 obtain ⟨c4, f4, z4_9⟩ := blk_at HK4_9.out
 obtain ⟨c7, f7, z7_9⟩ := blk_at HK7_9.out
 obtain ⟨c8, f8, z8_9⟩ := blk_at HK8_9.out
 obtain ⟨c10, f10, z10_9⟩ := blk_at HK10_9.out
 obtain ⟨c12, f12, z12_9⟩ := blk_at HK12_9.out
 obtain ⟨c18, f18, z18_9⟩ := blk_at HK18_9.out
 go_wp2_with fail
 refine (w_DrawHasScale _ bs _ ((HC.out.later qlh)) hB hb).mono ?_
 rintro e w10 ⟨n3, vr, vz, st3, sd3, b3, y3, rfl, hOr, hOz, hr5, hz5x, hL⟩
 obtain ⟨ar, capr, rfl⟩ := isSl_of hOr
 obtain ⟨az, capz, rfl⟩ := isSl_of hOz
 have HW10 : Hid (Later W w10) := Lib.hid (Later.trans qlh hL)
 have hz10 := HW10.out.size
 have HOu_10 := Lib.hid (owns_later (qoh HOu_9) hL)
 have HOv_10 := Lib.hid (owns_later (qoh HOv_9) hL)
 have HOp_10 := Lib.hid (owns_later (qoh HOp_9) hL)
 have HOq_10 := Lib.hid (owns_later (qoh HOq_9) hL)
 have HOg_10 := Lib.hid (owns_later (qoh HOg_9) hL)
 have HOh_10 := Lib.hid (owns_later (qoh HOh_9) hL)
 have HOi_10 := Lib.hid (owns_later (qoh HOi_9) hL)
 have HOj_10 := Lib.hid (owns_later (qoh HOj_9) hL)
 have HK3_10 := Lib.hid (hL.keep (k := w1.heap.size) qkh)
 have HK4_10 := Lib.hid (hL.keep (k := w1.heap.size + 1) qkh)
 have HK7_10 := Lib.hid (hL.keep (k := w1.heap.size + 1 + 1) qkh)
 have HK8_10 := Lib.hid (hL.keep (k := w2.heap.size) qkh)
 have HK10_10 := Lib.hid (hL.keep (k := w3.heap.size) qkh)
 have HK12_10 := Lib.hid (hL.keep (k := w4.heap.size) qkh)
 have HK18_10 := Lib.hid (hL.keep (k := w8.heap.size) qkh)
 have HK20_10 := Lib.hid (hL.keep (k := w9.heap.size) qkh)
 have HOr_10 := Lib.hid hOr
 clear hOr
 have HOz_10 := Lib.hid hOz
 clear hOz
 clear hL c3 f3 c4 f4 c7 f7 c8 f8 c10 f10 c12 f12 c18 f18
 obtain ⟨c3, f3, z3_10⟩ := blk_at HK3_10.out
 obtain ⟨c4, f4, z4_10⟩ := blk_at HK4_10.out
 obtain ⟨c7, f7, z7_10⟩ := blk_at HK7_10.out
 obtain ⟨c8, f8, z8_10⟩ := blk_at HK8_10.out
 obtain ⟨c10, f10, z10_10⟩ := blk_at HK10_10.out
 obtain ⟨c12, f12, z12_10⟩ := blk_at HK12_10.out
 obtain ⟨c18, f18, z18_10⟩ := blk_at HK18_10.out
 obtain ⟨c20, f20, z20_10⟩ := blk_at HK20_10.out
 obtain ⟨hb3, hHHB⟩ : ∃ q, hsB ⟨n3, st3, sd3⟩ b3 y3 = q := ⟨_, rfl⟩
 have HHB := Lib.hid hHHB
 obtain ⟨hc3, hHHC⟩ : ∃ q, hsC ⟨n3, st3, sd3⟩ = q := ⟨_, rfl⟩
 have HHC := Lib.hid hHHC
 clear hHHB hHHC
 go_wp2_with fail
 refine (w_implHasScale n3 _ _ st3 sd3 b3 y3 _ (reads_of_owns (qoh HOr_10) (by omega)) (reads_of_owns (qoh HOz_10) (by omega))).mono ?_
 rintro e w11 ⟨rfl, hL⟩
 have HW11 : Hid (Later W w11) := Lib.hid (Later.trans qlh hL)
 have hz11 := HW11.out.size
 have HOu_11 := Lib.hid (owns_later (qoh HOu_10) hL)
 have HOv_11 := Lib.hid (owns_later (qoh HOv_10) hL)
 have HOp_11 := Lib.hid (owns_later (qoh HOp_10) hL)
 have HOq_11 := Lib.hid (owns_later (qoh HOq_10) hL)
 have HOg_11 := Lib.hid (owns_later (qoh HOg_10) hL)
 have HOh_11 := Lib.hid (owns_later (qoh HOh_10) hL)
 have HOi_11 := Lib.hid (owns_later (qoh HOi_10) hL)
 have HOj_11 := Lib.hid (owns_later (qoh HOj_10) hL)
 have HOr_11 := Lib.hid (owns_later (qoh HOr_10) hL)
 have HOz_11 := Lib.hid (owns_later (qoh HOz_10) hL)
 have HK3_11 := Lib.hid (hL.keep (k := w1.heap.size) qkh)
 have HK4_11 := Lib.hid (hL.keep (k := w1.heap.size + 1) qkh)
 have HK7_11 := Lib.hid (hL.keep (k := w1.heap.size + 1 + 1) qkh)
 have HK8_11 := Lib.hid (hL.keep (k := w2.heap.size) qkh)
 have HK10_11 := Lib.hid (hL.keep (k := w3.heap.size) qkh)
 have HK12_11 := Lib.hid (hL.keep (k := w4.heap.size) qkh)
 have HK18_11 := Lib.hid (hL.keep (k := w8.heap.size) qkh)
 have HK20_11 := Lib.hid (hL.keep (k := w9.heap.size) qkh)
 have HK22_11 := Lib.hid (hL.keep (k := w10.heap.size) qkh)
 clear hL c3 f3 c4 f4 c7 f7 c8 f8 c10 f10 c12 f12 c18 f18 c20 f20
 obtain ⟨c3, f3, z3_11⟩ := blk_at HK3_11.out
 obtain ⟨c4, f4, z4_11⟩ := blk_at HK4_11.out
 obtain ⟨c7, f7, z7_11⟩ := blk_at HK7_11.out
 obtain ⟨c8, f8, z8_11⟩ := blk_at HK8_11.out
 obtain ⟨c10, f10, z10_11⟩ := blk_at HK10_11.out
 obtain ⟨c12, f12, z12_11⟩ := blk_at HK12_11.out
 obtain ⟨c18, f18, z18_11⟩ := blk_at HK18_11.out
 obtain ⟨c20, f20, z20_11⟩ := blk_at HK20_11.out
 obtain ⟨c22, f22, z22_11⟩ := blk_at HK22_11.out
 rw [HHB.out, HHC.out]
 go_wp2_with fail
 refine (w_specHasScale n3 _ _ st3 sd3 b3 y3 _ (reads_of_owns (qoh HOr_11) (by omega)) (reads_of_owns (qoh HOz_11) (by omega))).mono ?_
 rintro e w12 ⟨rfl, hL⟩
 have HW12 : Hid (Later W w12) := Lib.hid (Later.trans qlh hL)
 have hz12 := HW12.out.size
 have HOu_12 := Lib.hid (owns_later (qoh HOu_11) hL)
 have HOv_12 := Lib.hid (owns_later (qoh HOv_11) hL)
 have HOp_12 := Lib.hid (owns_later (qoh HOp_11) hL)
 have HOq_12 := Lib.hid (owns_later (qoh HOq_11) hL)
 have HOg_12 := Lib.hid (owns_later (qoh HOg_11) hL)
 have HOh_12 := Lib.hid (owns_later (qoh HOh_11) hL)
 have HOi_12 := Lib.hid (owns_later (qoh HOi_11) hL)
 have HOj_12 := Lib.hid (owns_later (qoh HOj_11) hL)
 have HOr_12 := Lib.hid (owns_later (qoh HOr_11) hL)
 have HOz_12 := Lib.hid (owns_later (qoh HOz_11) hL)
 have HK3_12 := Lib.hid (hL.keep (k := w1.heap.size) qkh)
 have HK4_12 := Lib.hid (hL.keep (k := w1.heap.size + 1) qkh)
 have HK7_12 := Lib.hid (hL.keep (k := w1.heap.size + 1 + 1) qkh)
 have HK8_12 := Lib.hid (hL.keep (k := w2.heap.size) qkh)
 have HK10_12 := Lib.hid (hL.keep (k := w3.heap.size) qkh)
 have HK12_12 := Lib.hid (hL.keep (k := w4.heap.size) qkh)
 have HK18_12 := Lib.hid (hL.keep (k := w8.heap.size) qkh)
 have HK20_12 := Lib.hid (hL.keep (k := w9.heap.size) qkh)
 have HK22_12 := Lib.hid (hL.keep (k := w10.heap.size) qkh)
 clear hL c3 f3 c4 f4 c7 f7 c8 f8 c10 f10 c12 f12 c18 f18 c20 f20 c22 f22
 obtain ⟨c3, f3, z3_12⟩ := blk_at HK3_12.out
 obtain ⟨c4, f4, z4_12⟩ := blk_at HK4_12.out
 obtain ⟨c7, f7, z7_12⟩ := blk_at HK7_12.out
 obtain ⟨c8, f8, z8_12⟩ := blk_at HK8_12.out
 obtain ⟨c10, f10, z10_12⟩ := blk_at HK10_12.out
 obtain ⟨c12, f12, z12_12⟩ := blk_at HK12_12.out
 obtain ⟨c18, f18, z18_12⟩ := blk_at HK18_12.out
 obtain ⟨c20, f20, z20_12⟩ := blk_at HK20_12.out
 obtain ⟨c22, f22, z22_12⟩ := blk_at HK22_12.out
 rw [HHB.out, HHC.out]
 clear HOr_12
 clear HOz_12
 clear HK22_12 c22 f22
 go_wp2_with fail
 refine (w_likeRulesR _ _ _ _ _ rst rsd _ (reads_of_owns (qoh HOg_12) (by omega)) (reads_of_owns (qoh HOh_12) (by omega)) (reads_of_owns (qoh HOi_12) (by omega)) (reads_of_owns (qoh HOj_12) (by omega))).mono ?_
 rintro e w13 ⟨rfl, hL⟩
 have HW13 : Hid (Later W w13) := Lib.hid (Later.trans qlh hL)
 have hz13 := HW13.out.size
 have HOu_13 := Lib.hid (owns_later (qoh HOu_12) hL)
 have HOv_13 := Lib.hid (owns_later (qoh HOv_12) hL)
 have HOp_13 := Lib.hid (owns_later (qoh HOp_12) hL)
 have HOq_13 := Lib.hid (owns_later (qoh HOq_12) hL)
 have HOg_13 := Lib.hid (owns_later (qoh HOg_12) hL)
 have HOh_13 := Lib.hid (owns_later (qoh HOh_12) hL)
 have HOi_13 := Lib.hid (owns_later (qoh HOi_12) hL)
 have HOj_13 := Lib.hid (owns_later (qoh HOj_12) hL)
 have HK3_13 := Lib.hid (hL.keep (k := w1.heap.size) qkh)
 have HK4_13 := Lib.hid (hL.keep (k := w1.heap.size + 1) qkh)
 have HK7_13 := Lib.hid (hL.keep (k := w1.heap.size + 1 + 1) qkh)
 have HK8_13 := Lib.hid (hL.keep (k := w2.heap.size) qkh)
 have HK10_13 := Lib.hid (hL.keep (k := w3.heap.size) qkh)
 have HK12_13 := Lib.hid (hL.keep (k := w4.heap.size) qkh)
 have HK18_13 := Lib.hid (hL.keep (k := w8.heap.size) qkh)
 have HK20_13 := Lib.hid (hL.keep (k := w9.heap.size) qkh)
 clear hL c3 f3 c4 f4 c7 f7 c8 f8 c10 f10 c12 f12 c18 f18 c20 f20
 obtain ⟨c3, f3, z3_13⟩ := blk_at HK3_13.out
 obtain ⟨c4, f4, z4_13⟩ := blk_at HK4_13.out
 obtain ⟨c7, f7, z7_13⟩ := blk_at HK7_13.out
 obtain ⟨c8, f8, z8_13⟩ := blk_at HK8_13.out
 obtain ⟨c10, f10, z10_13⟩ := blk_at HK10_13.out
 obtain ⟨c12, f12, z12_13⟩ := blk_at HK12_13.out
 obtain ⟨c18, f18, z18_13⟩ := blk_at HK18_13.out
 obtain ⟨c20, f20, z20_13⟩ := blk_at HK20_13.out
 clear HOg_13
 clear HOh_13
 clear HOi_13
 clear HOj_13
 clear HK10_13 c10 f10
 clear HK18_13 c18 f18
 clear HK20_13 c20 f20
 go_wp2_with fail
 refine (w_implIsRule n2 _ _ st2 sd2 _ (reads_of_owns (qoh HOp_13) (by omega)) (reads_of_owns (qoh HOq_13) (by omega))).mono ?_
 rintro e w14 ⟨rfl, hL⟩
 have HW14 : Hid (Later W w14) := Lib.hid (Later.trans qlh hL)
 have hz14 := HW14.out.size
 have HOu_14 := Lib.hid (owns_later (qoh HOu_13) hL)
 have HOv_14 := Lib.hid (owns_later (qoh HOv_13) hL)
 have HOp_14 := Lib.hid (owns_later (qoh HOp_13) hL)
 have HOq_14 := Lib.hid (owns_later (qoh HOq_13) hL)
 have HK3_14 := Lib.hid (hL.keep (k := w1.heap.size) qkh)
 have HK4_14 := Lib.hid (hL.keep (k := w1.heap.size + 1) qkh)
 have HK7_14 := Lib.hid (hL.keep (k := w1.heap.size + 1 + 1) qkh)
 have HK8_14 := Lib.hid (hL.keep (k := w2.heap.size) qkh)
 have HK12_14 := Lib.hid (hL.keep (k := w4.heap.size) qkh)
 clear hL c3 f3 c4 f4 c7 f7 c8 f8 c12 f12
 obtain ⟨c3, f3, z3_14⟩ := blk_at HK3_14.out
 obtain ⟨c4, f4, z4_14⟩ := blk_at HK4_14.out
 obtain ⟨c7, f7, z7_14⟩ := blk_at HK7_14.out
 obtain ⟨c8, f8, z8_14⟩ := blk_at HK8_14.out
 obtain ⟨c12, f12, z12_14⟩ := blk_at HK12_14.out
 rw [HIR.out]
 by_cases hz : ct = 0
 · skip
   have hzb : (ct == 0) = true := by simpa using hz
   obtain rfl : ir = true := by rw [← hcr]; exact hzb
   clear hcr
   have RB := Lib.hid (rule_again HTX.out (by rw [HCT.out]; exact hz))
   go_wp2_with fail
   refine (w_implReadRuleR RB.out.1 RB.out.2 (by omega) _ (HE.out.later qlh)).mono ?_
   rintro e w15 ⟨x3, y3b, q5, q6, rfl, hL, hOk, hOl⟩
   have HW15 : Hid (Later W w15) := Lib.hid (Later.trans qlh hL)
   have hz15 := HW15.out.size
   have HOu_15 := Lib.hid (owns_later (qoh HOu_14) hL)
   have HOv_15 := Lib.hid (owns_later (qoh HOv_14) hL)
   have HOp_15 := Lib.hid (owns_later (qoh HOp_14) hL)
   have HOq_15 := Lib.hid (owns_later (qoh HOq_14) hL)
   have HK3_15 := Lib.hid (hL.keep (k := w1.heap.size) qkh)
   have HK4_15 := Lib.hid (hL.keep (k := w1.heap.size + 1) qkh)
   have HK7_15 := Lib.hid (hL.keep (k := w1.heap.size + 1 + 1) qkh)
   have HK8_15 := Lib.hid (hL.keep (k := w2.heap.size) qkh)
   have HK12_15 := Lib.hid (hL.keep (k := w4.heap.size) qkh)
   have HOk_15 := Lib.hid hOk
   clear hOk
   have HOl_15 := Lib.hid hOl
   clear hOl
   clear hL c3 f3 c4 f4 c7 f7 c8 f8 c12 f12
   obtain ⟨c3, f3, z3_15⟩ := blk_at HK3_15.out
   obtain ⟨c4, f4, z4_15⟩ := blk_at HK4_15.out
   obtain ⟨c7, f7, z7_15⟩ := blk_at HK7_15.out
   obtain ⟨c8, f8, z8_15⟩ := blk_at HK8_15.out
   obtain ⟨c12, f12, z12_15⟩ := blk_at HK12_15.out
   go_wp2_with fail
   refine (w_likeRulesR _ _ _ _ _ st2 sd2 _ (reads_of_owns (qoh HOk_15) (by omega)) (reads_of_owns (qoh HOl_15) (by omega)) (reads_of_owns (qoh HOp_15) (by omega)) (reads_of_owns (qoh HOq_15) (by omega))).mono ?_
   rintro e w16 ⟨rfl, hL⟩
   have HW16 : Hid (Later W w16) := Lib.hid (Later.trans qlh hL)
   have hz16 := HW16.out.size
   have HOu_16 := Lib.hid (owns_later (qoh HOu_15) hL)
   have HOv_16 := Lib.hid (owns_later (qoh HOv_15) hL)
   have HOp_16 := Lib.hid (owns_later (qoh HOp_15) hL)
   have HOq_16 := Lib.hid (owns_later (qoh HOq_15) hL)
   have HOk_16 := Lib.hid (owns_later (qoh HOk_15) hL)
   have HOl_16 := Lib.hid (owns_later (qoh HOl_15) hL)
   have HK3_16 := Lib.hid (hL.keep (k := w1.heap.size) qkh)
   have HK4_16 := Lib.hid (hL.keep (k := w1.heap.size + 1) qkh)
   have HK7_16 := Lib.hid (hL.keep (k := w1.heap.size + 1 + 1) qkh)
   have HK8_16 := Lib.hid (hL.keep (k := w2.heap.size) qkh)
   have HK12_16 := Lib.hid (hL.keep (k := w4.heap.size) qkh)
   have HK29_16 := Lib.hid (hL.keep (k := w15.heap.size) qkh)
   clear hL c3 f3 c4 f4 c7 f7 c8 f8 c12 f12
   obtain ⟨c3, f3, z3_16⟩ := blk_at HK3_16.out
   obtain ⟨c4, f4, z4_16⟩ := blk_at HK4_16.out
   obtain ⟨c7, f7, z7_16⟩ := blk_at HK7_16.out
   obtain ⟨c8, f8, z8_16⟩ := blk_at HK8_16.out
   obtain ⟨c12, f12, z12_16⟩ := blk_at HK12_16.out
   obtain ⟨c29, f29, z29_16⟩ := blk_at HK29_16.out
   clear HOk_16
   clear HOl_16
   clear HOp_16
   clear HOq_16
   clear HK29_16 c29 f29
   clear HK12_16 c12 f12
   by_cases hc : cc = 0
   · skip
     have hcb : (cc != 0) = false := by simpa using hc
     obtain ⟨k1, k2, k3, k4, k5, k6, k7⟩ := cur_law (X := ⟨xs, xc⟩) (show curC ⟨n, st, sd⟩ ⟨s.sh, s.cu⟩ b y ⟨f.d, f.t⟩ = 0 from by rw [HCC.out]; exact hc) (by rw [← HXS.out, ← HXC.out])
     obtain ⟨P, hP⟩ : ∃ q, ptF y ⟨f.d, f.t⟩ = q := ⟨_, rfl⟩
     rw [hP] at k3 k4 k5 k6 k7
     obtain ⟨fo, ho⟩ : ∃ q, readF y P = q := ⟨_, rfl⟩
     rw [ho] at k4 k5 k6 k7
     have K1 := Lib.hid k1
     have K2 := Lib.hid k2
     have K3 := Lib.hid k3
     have K4 := Lib.hid k4
     have K5 := Lib.hid k5
     have K6 := Lib.hid (show pcC y ⟨fo.d, fo.t⟩ = 0 from k6)
     have K7 := Lib.hid (show pcV y ⟨fo.d, fo.t⟩ = P from k7)
     clear k1 k2 k3 k4 k5 k6 k7 hP ho
     by_cases hbq : b = true
     · skip
       subst hbq
       have K8 := Lib.hid (K5.out rfl)
       obtain ⟨od, hHOD⟩ : ∃ q, (rkF ⟨n, st, sd⟩ ⟨xs, xc⟩ y).d = q := ⟨_, rfl⟩
       have HOD := Lib.hid hHOD
       obtain ⟨ot, hHOT⟩ : ∃ q, (rkF ⟨n, st, sd⟩ ⟨xs, xc⟩ y).t = q := ⟨_, rfl⟩
       have HOT := Lib.hid hHOT
       obtain ⟨oc, hHOC⟩ : ∃ q, codeOn ⟨n, st, sd⟩ ⟨xs, xc⟩ false y = q := ⟨_, rfl⟩
       have HOC := Lib.hid hHOC
       clear hHOD hHOT hHOC
       go_wp2_with fail
       refine (w_implReadStock n _ _ st sd xs xc y _ (reads_of_owns (qoh HOu_16) (by omega)) (reads_of_owns (qoh HOv_16) (by omega))).mono ?_
       rintro e w17 ⟨rfl, hL⟩
       have HW17 : Hid (Later W w17) := Lib.hid (Later.trans qlh hL)
       have hz17 := HW17.out.size
       have HOu_17 := Lib.hid (owns_later (qoh HOu_16) hL)
       have HOv_17 := Lib.hid (owns_later (qoh HOv_16) hL)
       have HK3_17 := Lib.hid (hL.keep (k := w1.heap.size) qkh)
       have HK4_17 := Lib.hid (hL.keep (k := w1.heap.size + 1) qkh)
       have HK7_17 := Lib.hid (hL.keep (k := w1.heap.size + 1 + 1) qkh)
       have HK8_17 := Lib.hid (hL.keep (k := w2.heap.size) qkh)
       clear hL c3 f3 c4 f4 c7 f7 c8 f8
       obtain ⟨c3, f3, z3_17⟩ := blk_at HK3_17.out
       obtain ⟨c4, f4, z4_17⟩ := blk_at HK4_17.out
       obtain ⟨c7, f7, z7_17⟩ := blk_at HK7_17.out
       obtain ⟨c8, f8, z8_17⟩ := blk_at HK8_17.out
       rw [HOD.out, HOT.out, HOC.out]
       go_wp2_with fail
       refine (w_implReadSlide n _ _ st sd xs xc y _ (reads_of_owns (qoh HOu_17) (by omega)) (reads_of_owns (qoh HOv_17) (by omega))).mono ?_
       rintro e w18 ⟨rfl, hL⟩
       have HW18 : Hid (Later W w18) := Lib.hid (Later.trans qlh hL)
       have hz18 := HW18.out.size
       have HOu_18 := Lib.hid (owns_later (qoh HOu_17) hL)
       have HOv_18 := Lib.hid (owns_later (qoh HOv_17) hL)
       have HK3_18 := Lib.hid (hL.keep (k := w1.heap.size) qkh)
       have HK4_18 := Lib.hid (hL.keep (k := w1.heap.size + 1) qkh)
       have HK7_18 := Lib.hid (hL.keep (k := w1.heap.size + 1 + 1) qkh)
       have HK8_18 := Lib.hid (hL.keep (k := w2.heap.size) qkh)
       have HK31_18 := Lib.hid (hL.keep (k := w17.heap.size) qkh)
       clear hL c3 f3 c4 f4 c7 f7 c8 f8
       obtain ⟨c3, f3, z3_18⟩ := blk_at HK3_18.out
       obtain ⟨c4, f4, z4_18⟩ := blk_at HK4_18.out
       obtain ⟨c7, f7, z7_18⟩ := blk_at HK7_18.out
       obtain ⟨c8, f8, z8_18⟩ := blk_at HK8_18.out
       obtain ⟨c31, f31, z31_18⟩ := blk_at HK31_18.out
       rw [K8.out.1, K8.out.2]
       clear HOu_18
       clear HOv_18
       go_wp2_with fail
       refine (w_implPointOf y f.d f.t _).mono ?_
       rintro e w19 ⟨rfl, hL⟩
       have HW19 : Hid (Later W w19) := Lib.hid (Later.trans qlh hL)
       have hz19 := HW19.out.size
       have HK3_19 := Lib.hid (hL.keep (k := w1.heap.size) qkh)
       have HK4_19 := Lib.hid (hL.keep (k := w1.heap.size + 1) qkh)
       have HK7_19 := Lib.hid (hL.keep (k := w1.heap.size + 1 + 1) qkh)
       have HK8_19 := Lib.hid (hL.keep (k := w2.heap.size) qkh)
       have HK31_19 := Lib.hid (hL.keep (k := w17.heap.size) qkh)
       clear hL c3 f3 c4 f4 c7 f7 c8 f8 c31 f31
       obtain ⟨c3, f3, z3_19⟩ := blk_at HK3_19.out
       obtain ⟨c4, f4, z4_19⟩ := blk_at HK4_19.out
       obtain ⟨c7, f7, z7_19⟩ := blk_at HK7_19.out
       obtain ⟨c8, f8, z8_19⟩ := blk_at HK8_19.out
       obtain ⟨c31, f31, z31_19⟩ := blk_at HK31_19.out
       rw [K2.out, K3.out]
       go_wp2_with fail
       refine (w_implPointOf y fo.d fo.t _).mono ?_
       rintro e w20 ⟨rfl, hL⟩
       have HW20 : Hid (Later W w20) := Lib.hid (Later.trans qlh hL)
       have hz20 := HW20.out.size
       have HK3_20 := Lib.hid (hL.keep (k := w1.heap.size) qkh)
       have HK4_20 := Lib.hid (hL.keep (k := w1.heap.size + 1) qkh)
       have HK7_20 := Lib.hid (hL.keep (k := w1.heap.size + 1 + 1) qkh)
       have HK8_20 := Lib.hid (hL.keep (k := w2.heap.size) qkh)
       have HK31_20 := Lib.hid (hL.keep (k := w17.heap.size) qkh)
       clear hL c3 f3 c4 f4 c7 f7 c8 f8 c31 f31
       obtain ⟨c3, f3, z3_20⟩ := blk_at HK3_20.out
       obtain ⟨c4, f4, z4_20⟩ := blk_at HK4_20.out
       obtain ⟨c7, f7, z7_20⟩ := blk_at HK7_20.out
       obtain ⟨c8, f8, z8_20⟩ := blk_at HK8_20.out
       obtain ⟨c31, f31, z31_20⟩ := blk_at HK31_20.out
       rw [K6.out, K7.out]
       go_wp2_with fail
       refine (w_implIsSetting xs xc _).mono ?_
       rintro e w21 ⟨rfl, hL⟩
       have HW21 : Hid (Later W w21) := Lib.hid (Later.trans qlh hL)
       have hz21 := HW21.out.size
       have HK3_21 := Lib.hid (hL.keep (k := w1.heap.size) qkh)
       have HK4_21 := Lib.hid (hL.keep (k := w1.heap.size + 1) qkh)
       have HK7_21 := Lib.hid (hL.keep (k := w1.heap.size + 1 + 1) qkh)
       have HK8_21 := Lib.hid (hL.keep (k := w2.heap.size) qkh)
       have HK31_21 := Lib.hid (hL.keep (k := w17.heap.size) qkh)
       clear hL c3 f3 c4 f4 c7 f7 c8 f8 c31 f31
       obtain ⟨c3, f3, z3_21⟩ := blk_at HK3_21.out
       obtain ⟨c4, f4, z4_21⟩ := blk_at HK4_21.out
       obtain ⟨c7, f7, z7_21⟩ := blk_at HK7_21.out
       obtain ⟨c8, f8, z8_21⟩ := blk_at HK8_21.out
       obtain ⟨c31, f31, z31_21⟩ := blk_at HK31_21.out
       rw [K1.out]
       go_wp2
       go_ret
       exact ⟨rfl, qlh⟩
     · skip
       obtain rfl : b = false := by simpa using hbq
       have K8 := Lib.hid (K4.out rfl)
       go_wp2_with fail
       refine (w_implReadStock n _ _ st sd xs xc y _ (reads_of_owns (qoh HOu_16) (by omega)) (reads_of_owns (qoh HOv_16) (by omega))).mono ?_
       rintro e w17 ⟨rfl, hL⟩
       have HW17 : Hid (Later W w17) := Lib.hid (Later.trans qlh hL)
       have hz17 := HW17.out.size
       have HOu_17 := Lib.hid (owns_later (qoh HOu_16) hL)
       have HOv_17 := Lib.hid (owns_later (qoh HOv_16) hL)
       have HK3_17 := Lib.hid (hL.keep (k := w1.heap.size) qkh)
       have HK4_17 := Lib.hid (hL.keep (k := w1.heap.size + 1) qkh)
       have HK7_17 := Lib.hid (hL.keep (k := w1.heap.size + 1 + 1) qkh)
       have HK8_17 := Lib.hid (hL.keep (k := w2.heap.size) qkh)
       clear hL c3 f3 c4 f4 c7 f7 c8 f8
       obtain ⟨c3, f3, z3_17⟩ := blk_at HK3_17.out
       obtain ⟨c4, f4, z4_17⟩ := blk_at HK4_17.out
       obtain ⟨c7, f7, z7_17⟩ := blk_at HK7_17.out
       obtain ⟨c8, f8, z8_17⟩ := blk_at HK8_17.out
       rw [K8.out.1, K8.out.2]
       clear HOu_17
       clear HOv_17
       go_wp2_with fail
       refine (w_implPointOf y f.d f.t _).mono ?_
       rintro e w18 ⟨rfl, hL⟩
       have HW18 : Hid (Later W w18) := Lib.hid (Later.trans qlh hL)
       have hz18 := HW18.out.size
       have HK3_18 := Lib.hid (hL.keep (k := w1.heap.size) qkh)
       have HK4_18 := Lib.hid (hL.keep (k := w1.heap.size + 1) qkh)
       have HK7_18 := Lib.hid (hL.keep (k := w1.heap.size + 1 + 1) qkh)
       have HK8_18 := Lib.hid (hL.keep (k := w2.heap.size) qkh)
       have HK31_18 := Lib.hid (hL.keep (k := w17.heap.size) qkh)
       clear hL c3 f3 c4 f4 c7 f7 c8 f8
       obtain ⟨c3, f3, z3_18⟩ := blk_at HK3_18.out
       obtain ⟨c4, f4, z4_18⟩ := blk_at HK4_18.out
       obtain ⟨c7, f7, z7_18⟩ := blk_at HK7_18.out
       obtain ⟨c8, f8, z8_18⟩ := blk_at HK8_18.out
       obtain ⟨c31, f31, z31_18⟩ := blk_at HK31_18.out
       rw [K2.out, K3.out]
       go_wp2_with fail
       refine (w_implPointOf y fo.d fo.t _).mono ?_
       rintro e w19 ⟨rfl, hL⟩
       have HW19 : Hid (Later W w19) := Lib.hid (Later.trans qlh hL)
       have hz19 := HW19.out.size
       have HK3_19 := Lib.hid (hL.keep (k := w1.heap.size) qkh)
       have HK4_19 := Lib.hid (hL.keep (k := w1.heap.size + 1) qkh)
       have HK7_19 := Lib.hid (hL.keep (k := w1.heap.size + 1 + 1) qkh)
       have HK8_19 := Lib.hid (hL.keep (k := w2.heap.size) qkh)
       have HK31_19 := Lib.hid (hL.keep (k := w17.heap.size) qkh)
       clear hL c3 f3 c4 f4 c7 f7 c8 f8 c31 f31
       obtain ⟨c3, f3, z3_19⟩ := blk_at HK3_19.out
       obtain ⟨c4, f4, z4_19⟩ := blk_at HK4_19.out
       obtain ⟨c7, f7, z7_19⟩ := blk_at HK7_19.out
       obtain ⟨c8, f8, z8_19⟩ := blk_at HK8_19.out
       obtain ⟨c31, f31, z31_19⟩ := blk_at HK31_19.out
       rw [K6.out, K7.out]
       go_wp2_with fail
       refine (w_implIsSetting xs xc _).mono ?_
       rintro e w20 ⟨rfl, hL⟩
       have HW20 : Hid (Later W w20) := Lib.hid (Later.trans qlh hL)
       have hz20 := HW20.out.size
       have HK3_20 := Lib.hid (hL.keep (k := w1.heap.size) qkh)
       have HK4_20 := Lib.hid (hL.keep (k := w1.heap.size + 1) qkh)
       have HK7_20 := Lib.hid (hL.keep (k := w1.heap.size + 1 + 1) qkh)
       have HK8_20 := Lib.hid (hL.keep (k := w2.heap.size) qkh)
       have HK31_20 := Lib.hid (hL.keep (k := w17.heap.size) qkh)
       clear hL c3 f3 c4 f4 c7 f7 c8 f8 c31 f31
       obtain ⟨c3, f3, z3_20⟩ := blk_at HK3_20.out
       obtain ⟨c4, f4, z4_20⟩ := blk_at HK4_20.out
       obtain ⟨c7, f7, z7_20⟩ := blk_at HK7_20.out
       obtain ⟨c8, f8, z8_20⟩ := blk_at HK8_20.out
       obtain ⟨c31, f31, z31_20⟩ := blk_at HK31_20.out
       rw [K1.out]
       go_wp2
       go_ret
       exact ⟨rfl, qlh⟩
   · skip
     have hcb : (cc != 0) = true := by simpa using hc
     go_wp2
     go_ret
     exact ⟨rfl, qlh⟩
 · skip
   have hzb : (ct == 0) = false := by simpa using hz
   obtain rfl : ir = false := by rw [← hcr]; exact hzb
   clear hcr
   clear HOp_14
   clear HOq_14
   clear HK12_14 c12 f12
   by_cases hc : cc = 0
   · skip
     have hcb : (cc != 0) = false := by simpa using hc
     obtain ⟨k1, k2, k3, k4, k5, k6, k7⟩ := cur_law (X := ⟨xs, xc⟩) (show curC ⟨n, st, sd⟩ ⟨s.sh, s.cu⟩ b y ⟨f.d, f.t⟩ = 0 from by rw [HCC.out]; exact hc) (by rw [← HXS.out, ← HXC.out])
     obtain ⟨P, hP⟩ : ∃ q, ptF y ⟨f.d, f.t⟩ = q := ⟨_, rfl⟩
     rw [hP] at k3 k4 k5 k6 k7
     obtain ⟨fo, ho⟩ : ∃ q, readF y P = q := ⟨_, rfl⟩
     rw [ho] at k4 k5 k6 k7
     have K1 := Lib.hid k1
     have K2 := Lib.hid k2
     have K3 := Lib.hid k3
     have K4 := Lib.hid k4
     have K5 := Lib.hid k5
     have K6 := Lib.hid (show pcC y ⟨fo.d, fo.t⟩ = 0 from k6)
     have K7 := Lib.hid (show pcV y ⟨fo.d, fo.t⟩ = P from k7)
     clear k1 k2 k3 k4 k5 k6 k7 hP ho
     by_cases hbq : b = true
     · skip
       subst hbq
       have K8 := Lib.hid (K5.out rfl)
       obtain ⟨od, hHOD⟩ : ∃ q, (rkF ⟨n, st, sd⟩ ⟨xs, xc⟩ y).d = q := ⟨_, rfl⟩
       have HOD := Lib.hid hHOD
       obtain ⟨ot, hHOT⟩ : ∃ q, (rkF ⟨n, st, sd⟩ ⟨xs, xc⟩ y).t = q := ⟨_, rfl⟩
       have HOT := Lib.hid hHOT
       obtain ⟨oc, hHOC⟩ : ∃ q, codeOn ⟨n, st, sd⟩ ⟨xs, xc⟩ false y = q := ⟨_, rfl⟩
       have HOC := Lib.hid hHOC
       clear hHOD hHOT hHOC
       go_wp2_with fail
       refine (w_implReadStock n _ _ st sd xs xc y _ (reads_of_owns (qoh HOu_14) (by omega)) (reads_of_owns (qoh HOv_14) (by omega))).mono ?_
       rintro e w15 ⟨rfl, hL⟩
       have HW15 : Hid (Later W w15) := Lib.hid (Later.trans qlh hL)
       have hz15 := HW15.out.size
       have HOu_15 := Lib.hid (owns_later (qoh HOu_14) hL)
       have HOv_15 := Lib.hid (owns_later (qoh HOv_14) hL)
       have HK3_15 := Lib.hid (hL.keep (k := w1.heap.size) qkh)
       have HK4_15 := Lib.hid (hL.keep (k := w1.heap.size + 1) qkh)
       have HK7_15 := Lib.hid (hL.keep (k := w1.heap.size + 1 + 1) qkh)
       have HK8_15 := Lib.hid (hL.keep (k := w2.heap.size) qkh)
       clear hL c3 f3 c4 f4 c7 f7 c8 f8
       obtain ⟨c3, f3, z3_15⟩ := blk_at HK3_15.out
       obtain ⟨c4, f4, z4_15⟩ := blk_at HK4_15.out
       obtain ⟨c7, f7, z7_15⟩ := blk_at HK7_15.out
       obtain ⟨c8, f8, z8_15⟩ := blk_at HK8_15.out
       rw [HOD.out, HOT.out, HOC.out]
       go_wp2_with fail
       refine (w_implReadSlide n _ _ st sd xs xc y _ (reads_of_owns (qoh HOu_15) (by omega)) (reads_of_owns (qoh HOv_15) (by omega))).mono ?_
       rintro e w16 ⟨rfl, hL⟩
       have HW16 : Hid (Later W w16) := Lib.hid (Later.trans qlh hL)
       have hz16 := HW16.out.size
       have HOu_16 := Lib.hid (owns_later (qoh HOu_15) hL)
       have HOv_16 := Lib.hid (owns_later (qoh HOv_15) hL)
       have HK3_16 := Lib.hid (hL.keep (k := w1.heap.size) qkh)
       have HK4_16 := Lib.hid (hL.keep (k := w1.heap.size + 1) qkh)
       have HK7_16 := Lib.hid (hL.keep (k := w1.heap.size + 1 + 1) qkh)
       have HK8_16 := Lib.hid (hL.keep (k := w2.heap.size) qkh)
       have HK31_16 := Lib.hid (hL.keep (k := w15.heap.size) qkh)
       clear hL c3 f3 c4 f4 c7 f7 c8 f8
       obtain ⟨c3, f3, z3_16⟩ := blk_at HK3_16.out
       obtain ⟨c4, f4, z4_16⟩ := blk_at HK4_16.out
       obtain ⟨c7, f7, z7_16⟩ := blk_at HK7_16.out
       obtain ⟨c8, f8, z8_16⟩ := blk_at HK8_16.out
       obtain ⟨c31, f31, z31_16⟩ := blk_at HK31_16.out
       rw [K8.out.1, K8.out.2]
       clear HOu_16
       clear HOv_16
       go_wp2_with fail
       refine (w_implPointOf y f.d f.t _).mono ?_
       rintro e w17 ⟨rfl, hL⟩
       have HW17 : Hid (Later W w17) := Lib.hid (Later.trans qlh hL)
       have hz17 := HW17.out.size
       have HK3_17 := Lib.hid (hL.keep (k := w1.heap.size) qkh)
       have HK4_17 := Lib.hid (hL.keep (k := w1.heap.size + 1) qkh)
       have HK7_17 := Lib.hid (hL.keep (k := w1.heap.size + 1 + 1) qkh)
       have HK8_17 := Lib.hid (hL.keep (k := w2.heap.size) qkh)
       have HK31_17 := Lib.hid (hL.keep (k := w15.heap.size) qkh)
       clear hL c3 f3 c4 f4 c7 f7 c8 f8 c31 f31
       obtain ⟨c3, f3, z3_17⟩ := blk_at HK3_17.out
       obtain ⟨c4, f4, z4_17⟩ := blk_at HK4_17.out
       obtain ⟨c7, f7, z7_17⟩ := blk_at HK7_17.out
       obtain ⟨c8, f8, z8_17⟩ := blk_at HK8_17.out
       obtain ⟨c31, f31, z31_17⟩ := blk_at HK31_17.out
       rw [K2.out, K3.out]
       go_wp2_with fail
       refine (w_implPointOf y fo.d fo.t _).mono ?_
       rintro e w18 ⟨rfl, hL⟩
       have HW18 : Hid (Later W w18) := Lib.hid (Later.trans qlh hL)
       have hz18 := HW18.out.size
       have HK3_18 := Lib.hid (hL.keep (k := w1.heap.size) qkh)
       have HK4_18 := Lib.hid (hL.keep (k := w1.heap.size + 1) qkh)
       have HK7_18 := Lib.hid (hL.keep (k := w1.heap.size + 1 + 1) qkh)
       have HK8_18 := Lib.hid (hL.keep (k := w2.heap.size) qkh)
       have HK31_18 := Lib.hid (hL.keep (k := w15.heap.size) qkh)
       clear hL c3 f3 c4 f4 c7 f7 c8 f8 c31 f31
       obtain ⟨c3, f3, z3_18⟩ := blk_at HK3_18.out
       obtain ⟨c4, f4, z4_18⟩ := blk_at HK4_18.out
       obtain ⟨c7, f7, z7_18⟩ := blk_at HK7_18.out
       obtain ⟨c8, f8, z8_18⟩ := blk_at HK8_18.out
       obtain ⟨c31, f31, z31_18⟩ := blk_at HK31_18.out
       rw [K6.out, K7.out]
       go_wp2_with fail
       refine (w_implIsSetting xs xc _).mono ?_
       rintro e w19 ⟨rfl, hL⟩
       have HW19 : Hid (Later W w19) := Lib.hid (Later.trans qlh hL)
       have hz19 := HW19.out.size
       have HK3_19 := Lib.hid (hL.keep (k := w1.heap.size) qkh)
       have HK4_19 := Lib.hid (hL.keep (k := w1.heap.size + 1) qkh)
       have HK7_19 := Lib.hid (hL.keep (k := w1.heap.size + 1 + 1) qkh)
       have HK8_19 := Lib.hid (hL.keep (k := w2.heap.size) qkh)
       have HK31_19 := Lib.hid (hL.keep (k := w15.heap.size) qkh)
       clear hL c3 f3 c4 f4 c7 f7 c8 f8 c31 f31
       obtain ⟨c3, f3, z3_19⟩ := blk_at HK3_19.out
       obtain ⟨c4, f4, z4_19⟩ := blk_at HK4_19.out
       obtain ⟨c7, f7, z7_19⟩ := blk_at HK7_19.out
       obtain ⟨c8, f8, z8_19⟩ := blk_at HK8_19.out
       obtain ⟨c31, f31, z31_19⟩ := blk_at HK31_19.out
       rw [K1.out]
       go_wp2
       go_ret
       exact ⟨rfl, qlh⟩
     · skip
       obtain rfl : b = false := by simpa using hbq
       have K8 := Lib.hid (K4.out rfl)
       go_wp2_with fail
       refine (w_implReadStock n _ _ st sd xs xc y _ (reads_of_owns (qoh HOu_14) (by omega)) (reads_of_owns (qoh HOv_14) (by omega))).mono ?_
       rintro e w15 ⟨rfl, hL⟩
       have HW15 : Hid (Later W w15) := Lib.hid (Later.trans qlh hL)
       have hz15 := HW15.out.size
       have HOu_15 := Lib.hid (owns_later (qoh HOu_14) hL)
       have HOv_15 := Lib.hid (owns_later (qoh HOv_14) hL)
       have HK3_15 := Lib.hid (hL.keep (k := w1.heap.size) qkh)
       have HK4_15 := Lib.hid (hL.keep (k := w1.heap.size + 1) qkh)
       have HK7_15 := Lib.hid (hL.keep (k := w1.heap.size + 1 + 1) qkh)
       have HK8_15 := Lib.hid (hL.keep (k := w2.heap.size) qkh)
       clear hL c3 f3 c4 f4 c7 f7 c8 f8
       obtain ⟨c3, f3, z3_15⟩ := blk_at HK3_15.out
       obtain ⟨c4, f4, z4_15⟩ := blk_at HK4_15.out
       obtain ⟨c7, f7, z7_15⟩ := blk_at HK7_15.out
       obtain ⟨c8, f8, z8_15⟩ := blk_at HK8_15.out
       rw [K8.out.1, K8.out.2]
       clear HOu_15
       clear HOv_15
       go_wp2_with fail
       refine (w_implPointOf y f.d f.t _).mono ?_
       rintro e w16 ⟨rfl, hL⟩
       have HW16 : Hid (Later W w16) := Lib.hid (Later.trans qlh hL)
       have hz16 := HW16.out.size
       have HK3_16 := Lib.hid (hL.keep (k := w1.heap.size) qkh)
       have HK4_16 := Lib.hid (hL.keep (k := w1.heap.size + 1) qkh)
       have HK7_16 := Lib.hid (hL.keep (k := w1.heap.size + 1 + 1) qkh)
       have HK8_16 := Lib.hid (hL.keep (k := w2.heap.size) qkh)
       have HK31_16 := Lib.hid (hL.keep (k := w15.heap.size) qkh)
       clear hL c3 f3 c4 f4 c7 f7 c8 f8
       obtain ⟨c3, f3, z3_16⟩ := blk_at HK3_16.out
       obtain ⟨c4, f4, z4_16⟩ := blk_at HK4_16.out
       obtain ⟨c7, f7, z7_16⟩ := blk_at HK7_16.out
       obtain ⟨c8, f8, z8_16⟩ := blk_at HK8_16.out
       obtain ⟨c31, f31, z31_16⟩ := blk_at HK31_16.out
       rw [K2.out, K3.out]
       go_wp2_with fail
       refine (w_implPointOf y fo.d fo.t _).mono ?_
       rintro e w17 ⟨rfl, hL⟩
       have HW17 : Hid (Later W w17) := Lib.hid (Later.trans qlh hL)
       have hz17 := HW17.out.size
       have HK3_17 := Lib.hid (hL.keep (k := w1.heap.size) qkh)
       have HK4_17 := Lib.hid (hL.keep (k := w1.heap.size + 1) qkh)
       have HK7_17 := Lib.hid (hL.keep (k := w1.heap.size + 1 + 1) qkh)
       have HK8_17 := Lib.hid (hL.keep (k := w2.heap.size) qkh)
       have HK31_17 := Lib.hid (hL.keep (k := w15.heap.size) qkh)
       clear hL c3 f3 c4 f4 c7 f7 c8 f8 c31 f31
       obtain ⟨c3, f3, z3_17⟩ := blk_at HK3_17.out
       obtain ⟨c4, f4, z4_17⟩ := blk_at HK4_17.out
       obtain ⟨c7, f7, z7_17⟩ := blk_at HK7_17.out
       obtain ⟨c8, f8, z8_17⟩ := blk_at HK8_17.out
       obtain ⟨c31, f31, z31_17⟩ := blk_at HK31_17.out
       rw [K6.out, K7.out]
       go_wp2_with fail
       refine (w_implIsSetting xs xc _).mono ?_
       rintro e w18 ⟨rfl, hL⟩
       have HW18 : Hid (Later W w18) := Lib.hid (Later.trans qlh hL)
       have hz18 := HW18.out.size
       have HK3_18 := Lib.hid (hL.keep (k := w1.heap.size) qkh)
       have HK4_18 := Lib.hid (hL.keep (k := w1.heap.size + 1) qkh)
       have HK7_18 := Lib.hid (hL.keep (k := w1.heap.size + 1 + 1) qkh)
       have HK8_18 := Lib.hid (hL.keep (k := w2.heap.size) qkh)
       have HK31_18 := Lib.hid (hL.keep (k := w15.heap.size) qkh)
       clear hL c3 f3 c4 f4 c7 f7 c8 f8 c31 f31
       obtain ⟨c3, f3, z3_18⟩ := blk_at HK3_18.out
       obtain ⟨c4, f4, z4_18⟩ := blk_at HK4_18.out
       obtain ⟨c7, f7, z7_18⟩ := blk_at HK7_18.out
       obtain ⟨c8, f8, z8_18⟩ := blk_at HK8_18.out
       obtain ⟨c31, f31, z31_18⟩ := blk_at HK31_18.out
       rw [K1.out]
       go_wp2
       go_ret
       exact ⟨rfl, qlh⟩
   · skip
     have hcb : (cc != 0) = true := by simpa using hc
     go_wp2
     go_ret
     exact ⟨rfl, qlh⟩
theorem lifted (os : Os) (started : os.Started) (H : Type) (enc : TypeId × Value → H) :
 ReturnsInHanded {} Tryz.checked os 3 .any (fun w args => (Rows.fnRulesSpec.pre enc Tryz.prog Tryz.f3 [] false w args ∧ laidMetH Tryz.prog Rows.fnRulesRow.laid w) ∧ sizedMet enc Tryz.prog Tryz.f3 (OpenSpec.ofChange Rows.fnRulesSpec) false w args)
  (Rows.fnRulesSpec.post enc Tryz.prog Tryz.f3 false true false false) := by
 refine handed_laid (C := Tryz.checked) (X := fun w _ => laidMetH Tryz.prog Rows.fnRulesRow.laid w) (fun _ _ _ hh h => h.of_heap hh) o_own started (by kernel_rfl) Tryz.func3
  (ChangeSpec.witness_shaped (enc := enc) (C := Tryz.checked) (os := os) (X := fun w _ => laidMetH Tryz.prog Rows.fnRulesRow.laid w) false (World.laidAll Tryz.prog os Rows.fnRulesRow.laid) #[.slice none 0 0] 8 (World.laidAll_os _ _ _)
   (World.shaped_of_ZipB (by kernel_rfl) (by kernel_rfl)) (by kernel_rfl) (by kernel_rfl) (by kernel_rfl)
   (by rw [MakeChecks.laidMetH_plain _ _ _ (by kernel_rfl)]; exact laidMet_laidAll _ (by kernel_rfl) (by kernel_rfl))) ?_
 intro W base args ds gs before hval0 hW hLd hsh
 have hval : ∀ (j : Nat) t v, Tryz.f3.params[j]? = some t → args[j]? = some v → Value.okWide Tryz.prog W .any base t v := hval0
 have hW' := hW
 obtain ⟨p, q, hA0, hV, rfl, hfz, hnd⟩ := hW
 have hA : DataW.TrodAll enc Tryz.prog W 0 (fun _ => true) true Tryz.f3.params.toList args.toList ds p := hA0
 rw [Tryz.params3] at hA hval
 obtain ⟨v0, vs0, d0, ds0, p0, q0, hargs, rfl, rfl, h0, r0⟩ := trodAll_cons hA
 obtain ⟨rfl, rfl, rfl⟩ := trodAll_nil r0
 obtain rfl : args = #[v0] := by cases args; simp_all
 obtain ⟨rfl, rfl⟩ := trodVars_none hV
 obtain ⟨a0, len0, cap0, rfl⟩ := okWide_slice Tryz.underlying22 (hval 0 22 v0 rfl rfl)
 have k0 := h0
 have lt0 : ∀ x ∈ p0, x.block < W.heap.size := by obtain ⟨m, hm⟩ := k0; exact DataW.trod_lt m _ _ _ hm
 obtain ⟨l0, w0, hB0⟩ := o_bytes h0
 clear hA0 hval0
 refine (walk _ l0 W w0 hB0 (laid_env hsh (show laidMetH Tryz.prog laid7 W from hLd))).mono fun e W' ⟨he, bel⟩ => ?_
 subst he
 exact ⟨_, rfl, _, _, _, [], _, [], hW', trodAll_mk1 (shut_bool Tryz.underlying4 _), (trodAll_cons_mk (Below.trod o_laidOut (by kernel_rfl) (of_decide_eq_true (by kernel_rfl)) k0 bel lt0) trodAll_mk0), rfl, bel.frame _, fun h => by cases h⟩
theorem over : Rows.FnRulesSaid :=
 OpenClaim.holds_of_wide 3 Tryz.f3 rfl rfl rfl rfl rfl rfl rfl ⟨rfl, rfl, rfl, rfl, rfl⟩ rfl rfl rfl rfl rfl (by kernel_rfl) Tryz.func3 (by kernel_rfl)
  (of_decide_eq_true (by kernel_rfl)) (by unfold Func.isWrapper; first | (rw [if_pos (by decide +kernel)]; kernel_rfl) | (rw [if_neg (by decide +kernel)]; exact ⟨rfl, rfl⟩))
  (fun os started H enc _ => lifted os started H enc)
theorem proved : Rows.FnRulesCardSaid :=
 Claim7.holds_tied_plain_at .later [] [.data, .data, .data, .data, .sentinel, .sentinel, .pinned] true (true, "847ddbccc0e4c2ad6f30af028c4387c959973d2dfd3e4360b00a2afb5f0014b8") true
  over (fun _ h => by cases h) (by kernel_rfl) (fun _ h => by cases h) fnRules_row_tie rfl ⟨rfl, rfl⟩ (by kernel_rfl) rfl
  (fun f fn hf hfn => by
   obtain rfl : f = 3 := Option.some.inj ((show Tryz.prog.funcNamed "loop.example/g00951/laws.FnRules" = some 3 by kernel_rfl).symm.trans hf) |>.symm
   obtain rfl : fn = Tryz.f3 := (Option.some.inj (Tryz.func3.symm.trans hfn)).symm
   exact ⟨by kernel_rfl, fun j t ht => by
    rw [Tryz.params3] at ht
    have hm : t ∈ [22] := by simpa using Array.mem_of_getElem? ht
    have hall : ([22].all fun u => !Tryz.prog.wantsStandIn u) = true := by kernel_rfl
    exact (show Tryz.prog.wantsStandIn t = false by simpa using List.all_eq_true.1 hall t hm)⟩)
  (by kernel_rfl)
#print axioms proved
end Go.Proofs.YtgngbdacejghcaaGreatDoor.lawRules
