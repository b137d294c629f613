/- A chain is recovered from its text: the law FnChainTexts. It returns true for all codes. -/
import Derived.Test.YtgngbdacejghcaaDoorRows
import Derived.Test.YtgngbdacejghcaaDoorCards
import Derived.Test.YtgngbdacejghcaaDoorTie
import Derived.Test.YtgngbdacejghcaaDoorO3
import Derived.Test.YtgngbdacejghcaaDoorD24
import Derived.LaidMore
import Derived.Lay
import Derived.OpenShut
import Derived.SevenTiedAt
import Derived.Stop.LaidErr
import Derived.Stop.Joined
import Derived.Shelf.Vars
import Derived.HandedShaped
import Derived.Test.YtgngbdacejghcaaDoorD33
import Derived.Test.YtgngbdacejghcaaDoorD35
namespace Go.Proofs.YtgngbdacejghcaaDoor.lawChainTexts
set_option linter.unusedVariables false
set_option linter.unusedSimpArgs false
open Go.ChangeShapes Go.WideShapes Go.ChangeAt Go.RowKit
set_option linter.unusedVariables false
set_option maxRecDepth 100000

theorem ctT_len (l : List Trm) : (ctT l).length ≤ 300 := by
  unfold ctT
  split
  · rename_i h; exact chT_lenR h
  · simp
theorem w_implReadChainR (s : List UInt8) (X : List Trm) (c : Int) (hX : rcV s = X) (hc : rcC s = c) (hs : s.length ≤ 1048576) (w : World) (he : Env w) :
    Calls Tryd.prog 29 #[sv s] w fun e w' => ∃ v, e = .returned (.tuple #[v, .int .i64 c]) ∧ Later w w' ∧ w'.ownsRow w.heap.size 60 3 v X.length (trms X) := by
  subst hX
  subst hc
  exact w_implReadChain s hs w he
theorem w_specReadChainR (s : List UInt8) (X : List Trm) (c : Int) (hX : rcV s = X) (hc : rcC s = c) (hs : s.length ≤ 1048576) (w : World) :
    Calls Tryd.prog 28 #[sv s] w fun e w' => ∃ v, e = .returned (.tuple #[v, .int .i64 c]) ∧ Later w w' ∧ w'.ownsRow w.heap.size 60 3 v X.length (trms X) := by
  subst hX
  subst hc
  exact w_specReadChain s hs w
theorem w_likeTermsR (v v' : Value) (ts : List Trm) (w : World) (h : IsTrms w v ts) (h' : IsTrms w v' ts) :
    Calls Tryd.prog 35 #[v, v'] w fun e w' => e = .returned (.bool true) ∧ Later w w' :=
  (w_likeTerms v v' ts ts w h h').mono fun e w' h => by simpa using h
theorem text_back {l : List Trm} {t : List UInt8} (ht : ctT l = t) (hc : codeChain l = 0) : rcV t = l ∧ rcC t = 0 := by
  have h : isChain l = true := by
    unfold codeChain at hc
    cases hq : isChain l with
    | true => rfl
    | false => rw [hq] at hc; simp at hc
  unfold ctT at ht
  rw [if_pos h] at ht
  exact rc_yes (rdC_some h ht)
theorem chain_again {s : List UInt8} {X : List Trm} (hX : rcV s = X) (hc : rcC s = 0) : ctT X = s ∧ codeChain X = 0 := by
  cases h : rdC s with
  | none => rw [(rc_no h).2] at hc; cases hc
  | some l =>
    rw [(rc_yes h).1] at hX
    subst hX
    obtain ⟨h1, h2⟩ := rdC_is h
    exact ⟨by unfold ctT; rw [if_pos h1, h2], by unfold codeChain; rw [h1]; rfl⟩

set_option maxHeartbeats 4000000 in
theorem walk (v0 : Value) (bs : List Int) (W : World) (r0 : Raw W v0 bs.length 1 (byts bs)) (hB : ∀ b ∈ bs, 0 ≤ b ∧ b ≤ 255) (he : Env W) :
    Calls Tryd.prog 8 #[v0] W fun e w' => e = .returned (.bool true) ∧ Later W w' := by
  have HE := Lib.hid he
  clear he
  by_cases hb : bs.length ≤ 4096
  rotate_left
  · obtain ⟨_, x0, cap0, rfl, hcap0, hmax0, _⟩ := r0
    have hbg : decide ((4096 : Int) < (bs.length : Int)) = true := by simp; omega
    have HB := Lib.hid hbg
    clear hbg
    go_enter Tryd.func8, Tryd.ntmps8
    go_wp2_with fail
    refine (w_big _ _ _ (by omega) _).mono ?_
    rintro e w' ⟨rfl, rfl⟩
    rw [HB.out]
    go_wp2
    go_ret
    exact ⟨rfl, Later.refl _⟩
  have HC := Lib.hid (r0.reads (by omega))
  obtain ⟨_, x0, cap0, rfl, hcap0, hmax0, _⟩ := r0
  have hbg : decide ((4096 : Int) < (bs.length : Int)) = false := by simp; omega
  have HB := Lib.hid hbg
  clear hbg
  go_enter Tryd.func8, Tryd.ntmps8
  go_wp2_with fail
  refine (w_big _ _ _ (by omega) _).mono ?_
  rintro e w' ⟨rfl, rfl⟩
  rw [HB.out]
  go_wp2_with fail
  refine (w_DrawChainText _ bs _ ((HC.out.later (by repeat (with_reducible first | exact Later.refl _ | refine Later.alloc ?_ _ | refine Later.drew ?_ | refine Later.drewN ?_ _ | refine Later.setCell ?_ (by first | omega | (simp; omega)) _)))) hB hb).mono ?_
  rintro e w1 ⟨v, l, rfl, hOc, h17, hL⟩
  have HW1 : Hid (Later W w1) := Lib.hid (Later.trans (by repeat (with_reducible first | exact Later.refl _ | refine Later.alloc ?_ _ | refine Later.drew ?_ | refine Later.drewN ?_ _ | refine Later.setCell ?_ (by first | omega | (simp; omega)) _)) hL)
  have hz1 := HW1.out.size
  have HOc_1 := Lib.hid hOc
  clear hOc
  clear hL
  obtain ⟨tx, hTX⟩ : ∃ q, ctT l = q := ⟨_, rfl⟩
  obtain ⟨cl, hCL⟩ : ∃ q, codeChain l = q := ⟨_, rfl⟩
  have htx := ctT_len l
  rw [hTX] at htx
  have HTX := Lib.hid hTX
  have HCL := Lib.hid hCL
  clear hTX hCL
  go_wp2_with fail
  refine (w_implChainText _ l _ (reads_of_owns (by repeat (with_reducible first | exact HOc_1.out | apply World.ownsRow.alloc | (apply owns_setNe; case hk => first | assumption | exact ne_own HOc_1.out (by first | omega | (simp; omega)) | exact ne_low HOc_1.out (by omega)) | (refine owns_later ?_ (Later.refl _).drew) | (refine owns_later ?_ ((Later.refl _).drewN _)))) (by omega)) (HE.out.later (by repeat (with_reducible first | exact HW1.out | refine Later.alloc ?_ _ | refine Later.drew ?_ | refine Later.drewN ?_ _ | refine Later.setCell ?_ (by first | omega | (simp; omega)) _))).tab).mono ?_
  rintro e w2 ⟨rfl, hL⟩
  have HW2 : Hid (Later W w2) := Lib.hid (Later.trans (by repeat (with_reducible first | exact HW1.out | refine Later.alloc ?_ _ | refine Later.drew ?_ | refine Later.drewN ?_ _ | refine Later.setCell ?_ (by first | omega | (simp; omega)) _)) hL)
  have hz2 := HW2.out.size
  have HOc_2 := Lib.hid (owns_later (by repeat (with_reducible first | exact HOc_1.out | apply World.ownsRow.alloc | (apply owns_setNe; case hk => first | assumption | exact ne_own HOc_1.out (by first | omega | (simp; omega)) | exact ne_low HOc_1.out (by omega)) | (refine owns_later ?_ (Later.refl _).drew) | (refine owns_later ?_ ((Later.refl _).drewN _)))) hL)
  clear hL
  rw [HTX.out, HCL.out]
  go_wp2_with fail
  refine (w_specChainText _ l _ (reads_of_owns (by repeat (with_reducible first | exact HOc_2.out | apply World.ownsRow.alloc | (apply owns_setNe; case hk => first | assumption | exact ne_own HOc_2.out (by first | omega | (simp; omega)) | exact ne_low HOc_2.out (by omega)) | (refine owns_later ?_ (Later.refl _).drew) | (refine owns_later ?_ ((Later.refl _).drewN _)))) (by omega))).mono ?_
  rintro e w3 ⟨rfl, hL⟩
  have HW3 : Hid (Later W w3) := Lib.hid (Later.trans (by repeat (with_reducible first | exact HW2.out | refine Later.alloc ?_ _ | refine Later.drew ?_ | refine Later.drewN ?_ _ | refine Later.setCell ?_ (by first | omega | (simp; omega)) _)) hL)
  have hz3 := HW3.out.size
  have HOc_3 := Lib.hid (owns_later (by repeat (with_reducible first | exact HOc_2.out | apply World.ownsRow.alloc | (apply owns_setNe; case hk => first | assumption | exact ne_own HOc_2.out (by first | omega | (simp; omega)) | exact ne_low HOc_2.out (by omega)) | (refine owns_later ?_ (Later.refl _).drew) | (refine owns_later ?_ ((Later.refl _).drewN _)))) hL)
  clear hL
  rw [HTX.out, HCL.out]
  go_wp2_with fail
  refine (w_DrawReadChain _ bs _ ((HC.out.later (by repeat (with_reducible first | exact HW3.out | refine Later.alloc ?_ _ | refine Later.drew ?_ | refine Later.drewN ?_ _ | refine Later.setCell ?_ (by first | omega | (simp; omega)) _)))) hB hb).mono ?_
  rintro e w4 ⟨s, rfl, hsl, hL⟩
  have HW4 : Hid (Later W w4) := Lib.hid (Later.trans (by repeat (with_reducible first | exact HW3.out | refine Later.alloc ?_ _ | refine Later.drew ?_ | refine Later.drewN ?_ _ | refine Later.setCell ?_ (by first | omega | (simp; omega)) _)) hL)
  have hz4 := HW4.out.size
  have HOc_4 := Lib.hid (owns_later (by repeat (with_reducible first | exact HOc_3.out | apply World.ownsRow.alloc | (apply owns_setNe; case hk => first | assumption | exact ne_own HOc_3.out (by first | omega | (simp; omega)) | exact ne_low HOc_3.out (by omega)) | (refine owns_later ?_ (Later.refl _).drew) | (refine owns_later ?_ ((Later.refl _).drewN _)))) hL)
  clear hL
  obtain ⟨X, hX⟩ : ∃ q, rcV s = q := ⟨_, rfl⟩
  obtain ⟨cx, hCX⟩ : ∃ q, rcC s = q := ⟨_, rfl⟩
  have hx6 := rc_len s
  rw [hX] at hx6
  have HX := Lib.hid hX
  have HCX := Lib.hid hCX
  clear hX hCX
  go_wp2_with fail
  refine (w_implReadChainR s _ _ HX.out HCX.out (by omega) _ (HE.out.later (by repeat (with_reducible first | exact HW4.out | refine Later.alloc ?_ _ | refine Later.drew ?_ | refine Later.drewN ?_ _ | refine Later.setCell ?_ (by first | omega | (simp; omega)) _)))).mono ?_
  rintro e w5 ⟨vx, rfl, hL, hOx⟩
  have HW5 : Hid (Later W w5) := Lib.hid (Later.trans (by repeat (with_reducible first | exact HW4.out | refine Later.alloc ?_ _ | refine Later.drew ?_ | refine Later.drewN ?_ _ | refine Later.setCell ?_ (by first | omega | (simp; omega)) _)) hL)
  have hz5 := HW5.out.size
  have HOc_5 := Lib.hid (owns_later (by repeat (with_reducible first | exact HOc_4.out | apply World.ownsRow.alloc | (apply owns_setNe; case hk => first | assumption | exact ne_own HOc_4.out (by first | omega | (simp; omega)) | exact ne_low HOc_4.out (by omega)) | (refine owns_later ?_ (Later.refl _).drew) | (refine owns_later ?_ ((Later.refl _).drewN _)))) hL)
  have HOx_5 := Lib.hid hOx
  clear hOx
  clear hL
  go_wp2_with fail
  refine (w_specReadChainR s _ _ HX.out HCX.out (by omega) _).mono ?_
  rintro e w6 ⟨vy, rfl, hL, hOy⟩
  have HW6 : Hid (Later W w6) := Lib.hid (Later.trans (by repeat (with_reducible first | exact HW5.out | refine Later.alloc ?_ _ | refine Later.drew ?_ | refine Later.drewN ?_ _ | refine Later.setCell ?_ (by first | omega | (simp; omega)) _)) hL)
  have hz6 := HW6.out.size
  have HOc_6 := Lib.hid (owns_later (by repeat (with_reducible first | exact HOc_5.out | apply World.ownsRow.alloc | (apply owns_setNe; case hk => first | assumption | exact ne_own HOc_5.out (by first | omega | (simp; omega)) | exact ne_low HOc_5.out (by omega)) | (refine owns_later ?_ (Later.refl _).drew) | (refine owns_later ?_ ((Later.refl _).drewN _)))) hL)
  have HOx_6 := Lib.hid (owns_later (by repeat (with_reducible first | exact HOx_5.out | apply World.ownsRow.alloc | (apply owns_setNe; case hk => first | assumption | exact ne_own HOx_5.out (by first | omega | (simp; omega)) | exact ne_low HOx_5.out (by omega)) | (refine owns_later ?_ (Later.refl _).drew) | (refine owns_later ?_ ((Later.refl _).drewN _)))) hL)
  have HOy_6 := Lib.hid hOy
  clear hOy
  clear hL
  go_wp2_with fail
  refine (w_likeTermsR _ _ X _ (reads_of_owns (by repeat (with_reducible first | exact HOx_6.out | apply World.ownsRow.alloc | (apply owns_setNe; case hk => first | assumption | exact ne_own HOx_6.out (by first | omega | (simp; omega)) | exact ne_low HOx_6.out (by omega)) | (refine owns_later ?_ (Later.refl _).drew) | (refine owns_later ?_ ((Later.refl _).drewN _)))) (by omega)) (reads_of_owns (by repeat (with_reducible first | exact HOy_6.out | apply World.ownsRow.alloc | (apply owns_setNe; case hk => first | assumption | exact ne_own HOy_6.out (by first | omega | (simp; omega)) | exact ne_low HOy_6.out (by omega)) | (refine owns_later ?_ (Later.refl _).drew) | (refine owns_later ?_ ((Later.refl _).drewN _)))) (by omega))).mono ?_
  rintro e w7 ⟨rfl, hL⟩
  have HW7 : Hid (Later W w7) := Lib.hid (Later.trans (by repeat (with_reducible first | exact HW6.out | refine Later.alloc ?_ _ | refine Later.drew ?_ | refine Later.drewN ?_ _ | refine Later.setCell ?_ (by first | omega | (simp; omega)) _)) hL)
  have hz7 := HW7.out.size
  have HOc_7 := Lib.hid (owns_later (by repeat (with_reducible first | exact HOc_6.out | apply World.ownsRow.alloc | (apply owns_setNe; case hk => first | assumption | exact ne_own HOc_6.out (by first | omega | (simp; omega)) | exact ne_low HOc_6.out (by omega)) | (refine owns_later ?_ (Later.refl _).drew) | (refine owns_later ?_ ((Later.refl _).drewN _)))) hL)
  have HOx_7 := Lib.hid (owns_later (by repeat (with_reducible first | exact HOx_6.out | apply World.ownsRow.alloc | (apply owns_setNe; case hk => first | assumption | exact ne_own HOx_6.out (by first | omega | (simp; omega)) | exact ne_low HOx_6.out (by omega)) | (refine owns_later ?_ (Later.refl _).drew) | (refine owns_later ?_ ((Later.refl _).drewN _)))) hL)
  have HOy_7 := Lib.hid (owns_later (by repeat (with_reducible first | exact HOy_6.out | apply World.ownsRow.alloc | (apply owns_setNe; case hk => first | assumption | exact ne_own HOy_6.out (by first | omega | (simp; omega)) | exact ne_low HOy_6.out (by omega)) | (refine owns_later ?_ (Later.refl _).drew) | (refine owns_later ?_ ((Later.refl _).drewN _)))) hL)
  clear hL
  clear HOy_7
  by_cases hz : cx = 0
  · skip
    have hzb : (cx == 0) = true := by simpa using hz
    have AG := Lib.hid (chain_again HX.out (by rw [HCX.out]; exact hz))
    go_wp2_with fail
    refine (w_implChainText _ X _ (reads_of_owns (by repeat (with_reducible first | exact HOx_7.out | apply World.ownsRow.alloc | (apply owns_setNe; case hk => first | assumption | exact ne_own HOx_7.out (by first | omega | (simp; omega)) | exact ne_low HOx_7.out (by omega)) | (refine owns_later ?_ (Later.refl _).drew) | (refine owns_later ?_ ((Later.refl _).drewN _)))) (by omega)) (HE.out.later (by repeat (with_reducible first | exact HW7.out | refine Later.alloc ?_ _ | refine Later.drew ?_ | refine Later.drewN ?_ _ | refine Later.setCell ?_ (by first | omega | (simp; omega)) _))).tab).mono ?_
    rintro e w8 ⟨rfl, hL⟩
    have HW8 : Hid (Later W w8) := Lib.hid (Later.trans (by repeat (with_reducible first | exact HW7.out | refine Later.alloc ?_ _ | refine Later.drew ?_ | refine Later.drewN ?_ _ | refine Later.setCell ?_ (by first | omega | (simp; omega)) _)) hL)
    have hz8 := HW8.out.size
    have HOc_8 := Lib.hid (owns_later (by repeat (with_reducible first | exact HOc_7.out | apply World.ownsRow.alloc | (apply owns_setNe; case hk => first | assumption | exact ne_own HOc_7.out (by first | omega | (simp; omega)) | exact ne_low HOc_7.out (by omega)) | (refine owns_later ?_ (Later.refl _).drew) | (refine owns_later ?_ ((Later.refl _).drewN _)))) hL)
    have HOx_8 := Lib.hid (owns_later (by repeat (with_reducible first | exact HOx_7.out | apply World.ownsRow.alloc | (apply owns_setNe; case hk => first | assumption | exact ne_own HOx_7.out (by first | omega | (simp; omega)) | exact ne_low HOx_7.out (by omega)) | (refine owns_later ?_ (Later.refl _).drew) | (refine owns_later ?_ ((Later.refl _).drewN _)))) hL)
    clear hL
    rw [AG.out.1, AG.out.2]
    clear HOx_8
    by_cases hc : cl = 0
    · skip
      have hcb : (cl != 0) = false := by simpa using hc
      have RB := Lib.hid (text_back HTX.out (by rw [HCL.out]; exact hc))
      go_wp2_with fail
      refine (w_implReadChainR tx l 0 RB.out.1 RB.out.2 (by omega) _ (HE.out.later (by repeat (with_reducible first | exact HW8.out | refine Later.alloc ?_ _ | refine Later.drew ?_ | refine Later.drewN ?_ _ | refine Later.setCell ?_ (by first | omega | (simp; omega)) _)))).mono ?_
      rintro e w9 ⟨vb, rfl, hL, hOb⟩
      have HW9 : Hid (Later W w9) := Lib.hid (Later.trans (by repeat (with_reducible first | exact HW8.out | refine Later.alloc ?_ _ | refine Later.drew ?_ | refine Later.drewN ?_ _ | refine Later.setCell ?_ (by first | omega | (simp; omega)) _)) hL)
      have hz9 := HW9.out.size
      have HOc_9 := Lib.hid (owns_later (by repeat (with_reducible first | exact HOc_8.out | apply World.ownsRow.alloc | (apply owns_setNe; case hk => first | assumption | exact ne_own HOc_8.out (by first | omega | (simp; omega)) | exact ne_low HOc_8.out (by omega)) | (refine owns_later ?_ (Later.refl _).drew) | (refine owns_later ?_ ((Later.refl _).drewN _)))) hL)
      have HOb_9 := Lib.hid hOb
      clear hOb
      clear hL
      go_wp2_with fail
      refine (w_likeTermsR _ _ l _ (reads_of_owns (by repeat (with_reducible first | exact HOb_9.out | apply World.ownsRow.alloc | (apply owns_setNe; case hk => first | assumption | exact ne_own HOb_9.out (by first | omega | (simp; omega)) | exact ne_low HOb_9.out (by omega)) | (refine owns_later ?_ (Later.refl _).drew) | (refine owns_later ?_ ((Later.refl _).drewN _)))) (by omega)) (reads_of_owns (by repeat (with_reducible first | exact HOc_9.out | apply World.ownsRow.alloc | (apply owns_setNe; case hk => first | assumption | exact ne_own HOc_9.out (by first | omega | (simp; omega)) | exact ne_low HOc_9.out (by omega)) | (refine owns_later ?_ (Later.refl _).drew) | (refine owns_later ?_ ((Later.refl _).drewN _)))) (by omega))).mono ?_
      rintro e w10 ⟨rfl, hL⟩
      have HW10 : Hid (Later W w10) := Lib.hid (Later.trans (by repeat (with_reducible first | exact HW9.out | refine Later.alloc ?_ _ | refine Later.drew ?_ | refine Later.drewN ?_ _ | refine Later.setCell ?_ (by first | omega | (simp; omega)) _)) hL)
      have hz10 := HW10.out.size
      have HOc_10 := Lib.hid (owns_later (by repeat (with_reducible first | exact HOc_9.out | apply World.ownsRow.alloc | (apply owns_setNe; case hk => first | assumption | exact ne_own HOc_9.out (by first | omega | (simp; omega)) | exact ne_low HOc_9.out (by omega)) | (refine owns_later ?_ (Later.refl _).drew) | (refine owns_later ?_ ((Later.refl _).drewN _)))) hL)
      have HOb_10 := Lib.hid (owns_later (by repeat (with_reducible first | exact HOb_9.out | apply World.ownsRow.alloc | (apply owns_setNe; case hk => first | assumption | exact ne_own HOb_9.out (by first | omega | (simp; omega)) | exact ne_low HOb_9.out (by omega)) | (refine owns_later ?_ (Later.refl _).drew) | (refine owns_later ?_ ((Later.refl _).drewN _)))) hL)
      clear hL
      go_wp2
      go_ret
      exact ⟨rfl, (by repeat (with_reducible first | exact HW10.out | refine Later.alloc ?_ _ | refine Later.drew ?_ | refine Later.drewN ?_ _ | refine Later.setCell ?_ (by first | omega | (simp; omega)) _))⟩
    · skip
      have hcb : (cl != 0) = true := by simpa using hc
      go_wp2
      go_ret
      exact ⟨rfl, (by repeat (with_reducible first | exact HW8.out | refine Later.alloc ?_ _ | refine Later.drew ?_ | refine Later.drewN ?_ _ | refine Later.setCell ?_ (by first | omega | (simp; omega)) _))⟩
  · skip
    have hzb : (cx == 0) = false := by simpa using hz
    clear HOx_7
    by_cases hc : cl = 0
    · skip
      have hcb : (cl != 0) = false := by simpa using hc
      have RB := Lib.hid (text_back HTX.out (by rw [HCL.out]; exact hc))
      go_wp2_with fail
      refine (w_implReadChainR tx l 0 RB.out.1 RB.out.2 (by omega) _ (HE.out.later (by repeat (with_reducible first | exact HW7.out | refine Later.alloc ?_ _ | refine Later.drew ?_ | refine Later.drewN ?_ _ | refine Later.setCell ?_ (by first | omega | (simp; omega)) _)))).mono ?_
      rintro e w8 ⟨vb, rfl, hL, hOb⟩
      have HW8 : Hid (Later W w8) := Lib.hid (Later.trans (by repeat (with_reducible first | exact HW7.out | refine Later.alloc ?_ _ | refine Later.drew ?_ | refine Later.drewN ?_ _ | refine Later.setCell ?_ (by first | omega | (simp; omega)) _)) hL)
      have hz8 := HW8.out.size
      have HOc_8 := Lib.hid (owns_later (by repeat (with_reducible first | exact HOc_7.out | apply World.ownsRow.alloc | (apply owns_setNe; case hk => first | assumption | exact ne_own HOc_7.out (by first | omega | (simp; omega)) | exact ne_low HOc_7.out (by omega)) | (refine owns_later ?_ (Later.refl _).drew) | (refine owns_later ?_ ((Later.refl _).drewN _)))) hL)
      have HOb_8 := Lib.hid hOb
      clear hOb
      clear hL
      go_wp2_with fail
      refine (w_likeTermsR _ _ l _ (reads_of_owns (by repeat (with_reducible first | exact HOb_8.out | apply World.ownsRow.alloc | (apply owns_setNe; case hk => first | assumption | exact ne_own HOb_8.out (by first | omega | (simp; omega)) | exact ne_low HOb_8.out (by omega)) | (refine owns_later ?_ (Later.refl _).drew) | (refine owns_later ?_ ((Later.refl _).drewN _)))) (by omega)) (reads_of_owns (by repeat (with_reducible first | exact HOc_8.out | apply World.ownsRow.alloc | (apply owns_setNe; case hk => first | assumption | exact ne_own HOc_8.out (by first | omega | (simp; omega)) | exact ne_low HOc_8.out (by omega)) | (refine owns_later ?_ (Later.refl _).drew) | (refine owns_later ?_ ((Later.refl _).drewN _)))) (by omega))).mono ?_
      rintro e w9 ⟨rfl, hL⟩
      have HW9 : Hid (Later W w9) := Lib.hid (Later.trans (by repeat (with_reducible first | exact HW8.out | refine Later.alloc ?_ _ | refine Later.drew ?_ | refine Later.drewN ?_ _ | refine Later.setCell ?_ (by first | omega | (simp; omega)) _)) hL)
      have hz9 := HW9.out.size
      have HOc_9 := Lib.hid (owns_later (by repeat (with_reducible first | exact HOc_8.out | apply World.ownsRow.alloc | (apply owns_setNe; case hk => first | assumption | exact ne_own HOc_8.out (by first | omega | (simp; omega)) | exact ne_low HOc_8.out (by omega)) | (refine owns_later ?_ (Later.refl _).drew) | (refine owns_later ?_ ((Later.refl _).drewN _)))) hL)
      have HOb_9 := Lib.hid (owns_later (by repeat (with_reducible first | exact HOb_8.out | apply World.ownsRow.alloc | (apply owns_setNe; case hk => first | assumption | exact ne_own HOb_8.out (by first | omega | (simp; omega)) | exact ne_low HOb_8.out (by omega)) | (refine owns_later ?_ (Later.refl _).drew) | (refine owns_later ?_ ((Later.refl _).drewN _)))) hL)
      clear hL
      go_wp2
      go_ret
      exact ⟨rfl, (by repeat (with_reducible first | exact HW9.out | refine Later.alloc ?_ _ | refine Later.drew ?_ | refine Later.drewN ?_ _ | refine Later.setCell ?_ (by first | omega | (simp; omega)) _))⟩
    · skip
      have hcb : (cl != 0) = true := by simpa using hc
      go_wp2
      go_ret
      exact ⟨rfl, (by repeat (with_reducible first | exact HW7.out | refine Later.alloc ?_ _ | refine Later.drew ?_ | refine Later.drewN ?_ _ | refine Later.setCell ?_ (by first | omega | (simp; omega)) _))⟩

theorem lifted (os : Os) (started : os.Started) (H : Type) (enc : TypeId × Value → H) :
    ReturnsInHanded {} Tryd.checked os 8 .any (fun w args => (Rows.fnChainTextsSpec.pre enc Tryd.prog Tryd.f8 [] false w args ∧ laidMetH Tryd.prog Rows.fnChainTextsRow.laid w) ∧ sizedMet enc Tryd.prog Tryd.f8 (OpenSpec.ofChange Rows.fnChainTextsSpec) false w args)
      (Rows.fnChainTextsSpec.post enc Tryd.prog Tryd.f8 false true false false) := by
  refine handed_laid (C := Tryd.checked) (X := fun w _ => laidMetH Tryd.prog Rows.fnChainTextsRow.laid w) (fun _ _ _ hh h => h.of_heap hh) o_own started (by kernel_rfl) Tryd.func8
    (ChangeSpec.witness_shaped (enc := enc) (C := Tryd.checked) (os := os) (X := fun w _ => laidMetH Tryd.prog Rows.fnChainTextsRow.laid w) false (World.laidAll Tryd.prog os Rows.fnChainTextsRow.laid) #[.slice none 0 0] 8 (World.laidAll_os _ _ _)
      (World.shaped_of_ZipB (by kernel_rfl) (by kernel_rfl)) (by kernel_rfl) (by kernel_rfl) (by kernel_rfl)
      (by rw [MakeChecks.laidMetH_plain _ _ _ (by kernel_rfl)]; exact laidMet_laidAll _ (by kernel_rfl) (by kernel_rfl))) ?_
  intro W base args ds gs before hval0 hW hLd hsh
  have hval : ∀ (j : Nat) t v, Tryd.f8.params[j]? = some t → args[j]? = some v → Value.okWide Tryd.prog W .any base t v := hval0
  have hW' := hW
  obtain ⟨p, q, hA0, hV, rfl, hfz, hnd⟩ := hW
  have hA : DataW.TrodAll enc Tryd.prog W 0 (fun _ => true) true Tryd.f8.params.toList args.toList ds p := hA0
  rw [Tryd.params8] at hA hval
  obtain ⟨v0, vs0, d0, ds0, p0, q0, hargs, rfl, rfl, h0, r0⟩ := trodAll_cons hA
  obtain ⟨rfl, rfl, rfl⟩ := trodAll_nil r0
  obtain rfl : args = #[v0] := by cases args; simp_all
  obtain ⟨rfl, rfl⟩ := trodVars_none hV
  obtain ⟨a0, len0, cap0, rfl⟩ := okWide_slice Tryd.underlying51 (hval 0 51 v0 rfl rfl)
  have k0 := h0
  have lt0 : ∀ x ∈ p0, x.block < W.heap.size := by obtain ⟨m, hm⟩ := k0; exact DataW.trod_lt m _ _ _ hm
  obtain ⟨l0, w0, hB0⟩ := o_bytes h0
  clear hA0 hval0
  refine (walk _ l0 W w0 hB0 (laid_env hsh (show laidMetH Tryd.prog laid7 W from hLd))).mono fun e W' ⟨he, bel⟩ => ?_
  subst he
  exact ⟨_, rfl, _, _, _, [], _, [], hW', trodAll_mk1 (shut_bool Tryd.underlying4 _), (trodAll_cons_mk (Below.trod o_laidOut (by kernel_rfl) (of_decide_eq_true (by kernel_rfl)) k0 bel lt0) trodAll_mk0), rfl, bel.frame _, fun h => by cases h⟩

theorem over : Rows.FnChainTextsSaid :=
  OpenClaim.holds_of_wide 8 Tryd.f8 rfl rfl rfl rfl rfl rfl rfl ⟨rfl, rfl, rfl, rfl, rfl⟩ rfl rfl rfl rfl rfl (by kernel_rfl) Tryd.func8 (by kernel_rfl)
    (of_decide_eq_true (by kernel_rfl)) (by unfold Func.isWrapper; first | (rw [if_pos (by decide +kernel)]; kernel_rfl) | (rw [if_neg (by decide +kernel)]; exact ⟨rfl, rfl⟩))
    (fun os started H enc _ => lifted os started H enc)

theorem proved : Rows.FnChainTextsCardSaid :=
  Claim7.holds_tied_plain_at .later [] [.data, .data, .data, .data, .sentinel, .sentinel, .pinned] true (true, "4dd07d9378b5849b743967e91cb11eec9d8f46762c551014cbd10579683d114b") true
    over (fun _ h => by cases h) (by kernel_rfl) (fun _ h => by cases h) fnChainTexts_row_tie rfl ⟨rfl, rfl⟩ (by kernel_rfl) rfl
    (fun f fn hf hfn => by
      obtain rfl : f = 8 := Option.some.inj ((show Tryd.prog.funcNamed "loop.example/g00951/laws.FnChainTexts" = some 8 by kernel_rfl).symm.trans hf) |>.symm
      obtain rfl : fn = Tryd.f8 := (Option.some.inj (Tryd.func8.symm.trans hfn)).symm
      exact ⟨by kernel_rfl, fun j t ht => by
        rw [Tryd.params8] at ht
        have hm : t ∈ [51] := by simpa using Array.mem_of_getElem? ht
        have hall : ([51].all fun u => !Tryd.prog.wantsStandIn u) = true := by kernel_rfl
        exact (show Tryd.prog.wantsStandIn t = false by simpa using List.all_eq_true.1 hall t hm)⟩)
    (by kernel_rfl)
#print axioms proved
end Go.Proofs.YtgngbdacejghcaaDoor.lawChainTexts
