/- After the slide has been set the figure stands under the cursor, and no figure stands nearer than the one that is read: the law FnSettings. It returns true for all codes. No condition. -/
import Derived.Test.YtkoojngonldcbaaRows
import Derived.Test.YtkoojngonldcbaaKSO3
import Derived.Test.YtkoojngonldcbaaKSM120
import Derived.Test.YtkoojngonldcbaaKSM112
import Derived.Test.YtkoojngonldcbaaKSM35
namespace Go.Proofs.Ytkoojngonldcbaa.lawSettings
set_option linter.unusedVariables false
set_option linter.unusedSimpArgs false
open Go.ChangeShapes Go.WideShapes Go.ChangeAt Go.RowKit
set_option linter.unusedVariables false
set_option maxRecDepth 100000
theorem near_ex' (s t : Int) : ∀ k : Nat, ∃ n, IsNear s t 0 ((k : Int) + 1) n
 | 0 => ⟨0, near_one⟩
 | k + 1 => by
  obtain ⟨n, hn⟩ := near_ex' s t k
  obtain ⟨h1, h2⟩ := near_snoc hn (by omega)
  by_cases h : aw s t ((k : Int) + 1) < aw s t n
  · exact ⟨_, by have := h1 h; rwa [show ((k + 1 : Nat) : Int) + 1 = (k : Int) + 1 + 1 from by omega]⟩
  · exact ⟨_, by have := h2 h; rwa [show ((k + 1 : Nat) : Int) + 1 = (k : Int) + 1 + 1 from by omega]⟩
theorem readF_nearA (s t : Int) : ∃ n, IsNear s t 0 (9000 * decN s) n ∧ readF s t = atF n := by
 have hd := decN_bd s
 obtain ⟨n, hn⟩ := near_ex' s t (9000 * decN s - 1).toNat
 rw [show ((9000 * decN s - 1).toNat : Int) + 1 = 9000 * decN s from by omega] at hn
 exact ⟨n, hn, by unfold readF; rw [nearN_eq hn]⟩
theorem pcV_bd (s : Int) (f : Fig) : -10000000 ≤ pcV s f ∧ pcV s f ≤ 10000000 := by
 unfold pcV
 split
 · rename_i h
   have hf := (pcC_0 h).1
   have hb := isFig_true hf
   exact ptF_bd hb.1 hb.2.1
 · omega
theorem set_bd {r : Rul} {s : Stg} {x : Int} {f : Fig} : -1048576 ≤ (ssS r s x f).sh ∧ (ssS r s x f).sh ≤ 1048576 ∧ 0 ≤ (ssS r s x f).cu ∧ (ssS r s x f).cu ≤ 1048576 := by
 unfold ssS
 split
 · rename_i h
   have hg : isStg ⟨s.cu - ptF x f, s.cu⟩ = true := by
    cases hq : isStg ⟨s.cu - ptF x f, s.cu⟩
    · exfalso
      unfold ssC at h
      rw [hq] at h
      split at h
      · split at h
        · simp at h
        · rename_i h2; exact h2 h
      · omega
    · rfl
   have := isStg_bd hg
   exact this
 · simp only; omega
theorem set_law {r : Rul} {s : Stg} {x : Int} {f : Fig} (h : ssC r s x f = 0) : pcC x f = 0 ∧ (ssS r s x f).cu = s.cu ∧ (ssS r s x f).cu - (ssS r s x f).sh = pcV x f := by
 have e : ssS r s x f = ⟨s.cu - ptF x f, s.cu⟩ := by unfold ssS; rw [if_pos h]
 have hf : isFig f = true := by
  cases hq : isFig f
  · exfalso; unfold ssC at h; rw [hq] at h; simp at h
  · rfl
 have hc : codeOn r s true x = 0 := by
  unfold ssC at h
  rw [if_pos hf] at h
  split at h
  · assumption
  · exact h
 obtain ⟨h1, h2, h3⟩ := codeOn_inv hc
 have hx := rule_sl (n := r.len) (st := r.st) (sd := r.sl) h1 h3
 have hs : isScale x = true := by unfold isScale; exact inR_mk (by omega)
 have p0 := pc_0 (s := x) (f := f) hf hs (by omega)
 rw [e, p0.2]
 exact ⟨p0.1, rfl, by simp only; omega⟩
theorem stock_law {r : Rul} {s : Stg} {x : Int} (h : codeOn r s false x = 0) :
 pcC x (rkF r s x) = 0 ∧ (∀ m : Int, 0 ≤ m → m < 9000 → max (pcV x (rkF r s x) - s.cu) (s.cu - pcV x (rkF r s x)) ≤ max (pcV x ⟨1000 + m, 0⟩ - s.cu) (s.cu - pcV x ⟨1000 + m, 0⟩)) ∧
 (∀ m : Int, 0 ≤ m → m < 9000 → pcC x ⟨1000 + m, 0⟩ = 0) ∧ 0 ≤ s.cu ∧ s.cu ≤ 1048576 := by
 obtain ⟨h1, h2, h3⟩ := codeOn_inv h
 have hx := rule_st (n := r.len) (st := r.st) (sd := r.sl) h1 h3
 have hs : isScale x = true := by unfold isScale; exact inR_mk (by omega)
 have hb := isStg_bd h2
 obtain ⟨n, hn, hr⟩ := readF_nearA x s.cu
 rw [rk_0 h, hr]
 obtain ⟨n0, n1, nm⟩ := hn
 have hf := atF_fig (s := x) n0 n1
 have p0 := pc_0 (s := x) (f := atF n) hf hs (by omega)
 have pm : ∀ m : Int, 0 ≤ m → m < 9000 → pcC x ⟨1000 + m, 0⟩ = 0 ∧ pcV x ⟨1000 + m, 0⟩ = ptF x ⟨1000 + m, 0⟩ := fun m m0 m1 =>
  pc_0 (s := x) (f := ⟨1000 + m, 0⟩) (by simp only [isFig, inR, Bool.and_eq_true, decide_eq_true_eq]; omega) hs (by omega)
 refine ⟨p0.1, fun m m0 m1 => ?_, fun m m0 m1 => (pm m m0 m1).1, hb.2.2⟩
 rw [p0.2, (pm m m0 m1).2]
 have hd := decN_bd x
 have e : P x m = ptF x ⟨1000 + m, 0⟩ := by unfold P; rw [show atF m = ⟨1000 + m, 0⟩ from by simp only [atF]; congr 1 <;> omega]
 have k := nm m m0 (by omega)
 unfold le3 aw at k
 rw [e] at k
 have e2 : P x n = ptF x (atF n) := rfl
 rw [e2] at k
 omega
set_option maxHeartbeats 4000000 in
theorem walk (v0 : Value) (bs : List Int) (W : World) (r0 : Raw W v0 bs.length 1 (byts bs)) (hB : ∀ b ∈ bs, 0 ≤ b ∧ b ≤ 255) :
 Calls Try.prog 8 #[v0] W fun e w' => e = .returned (.bool true) ∧ Later W w' := by
 by_cases hb : bs.length ≤ 4096
 rotate_left
 · obtain ⟨_, x0, cap0, rfl, hcap0, hmax0, _⟩ := r0
   have hbg : decide ((4096 : Int) < (bs.length : Int)) = true := by simp; omega
   have HB := Lib.hid hbg
   clear hbg
   go_enter Try.func8, Try.ntmps8
   go_wp2_with fail
   refine (w_big _ _ _ (by omega) _).mono ?_
   rintro e w' ⟨rfl, rfl⟩
   rw [HB.out]
   go_wp2
   go_ret
   exact ⟨rfl, Later.refl _⟩
 have HC := Lib.hid (r0.reads (by omega))
 obtain ⟨_, x0, cap0, rfl, hcap0, hmax0, _⟩ := r0
 have hbg : decide ((4096 : Int) < (bs.length : Int)) = false := by simp; omega
 have HB := Lib.hid hbg
 clear hbg
 go_enter Try.func8, Try.ntmps8
 go_wp2_with fail
 refine (w_big _ _ _ (by omega) _).mono ?_
 rintro e w' ⟨rfl, rfl⟩
 rw [HB.out]
 go_wp2_with fail
 refine (w_DrawSetSlide _ bs _ ((HC.out.later qlh)) hB hb).mono ?_
 rintro e w1 ⟨n, vu, vv, st, sd, s, y, f, rfl, hOu, hOv, hu5, hv5, hL⟩
 obtain ⟨au, capu, rfl⟩ := isSl_of hOu
 obtain ⟨av, capv, rfl⟩ := isSl_of hOv
 have HW1 : Hid (Later W w1) := Lib.hid (Later.trans qlh hL)
 have hz1 := HW1.out.size
 have HOu_1 := Lib.hid hOu
 clear hOu
 have HOv_1 := Lib.hid hOv
 clear hOv
 clear hL
 go_wp2_with fail
 refine (w_implSetSlide n _ _ st sd s.sh s.cu y f.d f.t _ (reads_of_owns (qoh HOu_1) (by omega)) (reads_of_owns (qoh HOv_1) (by omega))).mono ?_
 rintro e w2 ⟨rfl, hL⟩
 have HW2 : Hid (Later W w2) := Lib.hid (Later.trans qlh hL)
 have hz2 := HW2.out.size
 have HOu_2 := Lib.hid (owns_later (qoh HOu_1) hL)
 have HOv_2 := Lib.hid (owns_later (qoh HOv_1) hL)
 have HK3_2 := Lib.hid (hL.keep (k := w1.heap.size) qkh)
 have HK4_2 := Lib.hid (hL.keep (k := w1.heap.size + 1) qkh)
 have HK6_2 := Lib.hid (hL.keep (k := w1.heap.size + 1 + 1) qkh)
 clear hL
 obtain ⟨c3, f3, z3_2⟩ := blk_at HK3_2.out
 obtain ⟨c4, f4, z4_2⟩ := blk_at HK4_2.out
 obtain ⟨c6, f6, z6_2⟩ := blk_at HK6_2.out
 go_wp2_with fail
 refine (w_specSetSlide n _ _ st sd s.sh s.cu y f.d f.t _ (reads_of_owns (qoh HOu_2) (by omega)) (reads_of_owns (qoh HOv_2) (by omega))).mono ?_
 rintro e w3 ⟨rfl, hL⟩
 have HW3 : Hid (Later W w3) := Lib.hid (Later.trans qlh hL)
 have hz3 := HW3.out.size
 have HOu_3 := Lib.hid (owns_later (qoh HOu_2) hL)
 have HOv_3 := Lib.hid (owns_later (qoh HOv_2) hL)
 have HK3_3 := Lib.hid (hL.keep (k := w1.heap.size) qkh)
 have HK4_3 := Lib.hid (hL.keep (k := w1.heap.size + 1) qkh)
 have HK6_3 := Lib.hid (hL.keep (k := w1.heap.size + 1 + 1) qkh)
 have HK7_3 := Lib.hid (hL.keep (k := w2.heap.size) qkh)
 clear hL c3 f3 c4 f4 c6 f6
 obtain ⟨c3, f3, z3_3⟩ := blk_at HK3_3.out
 obtain ⟨c4, f4, z4_3⟩ := blk_at HK4_3.out
 obtain ⟨c6, f6, z6_3⟩ := blk_at HK6_3.out
 obtain ⟨c7, f7, z7_3⟩ := blk_at HK7_3.out
 clear HOu_3
 clear HOv_3
 go_wp2_with fail
 refine (w_DrawReadStock _ bs _ ((HC.out.later qlh)) hB hb).mono ?_
 rintro e w4 ⟨n2, vp, vq, st2, sd2, s2, y2, rfl, hOp, hOq, hp5, hq5, hL⟩
 obtain ⟨ap, capp, rfl⟩ := isSl_of hOp
 obtain ⟨aq, capq, rfl⟩ := isSl_of hOq
 have HW4 : Hid (Later W w4) := Lib.hid (Later.trans qlh hL)
 have hz4 := HW4.out.size
 have HK3_4 := Lib.hid (hL.keep (k := w1.heap.size) qkh)
 have HK4_4 := Lib.hid (hL.keep (k := w1.heap.size + 1) qkh)
 have HK6_4 := Lib.hid (hL.keep (k := w1.heap.size + 1 + 1) qkh)
 have HK7_4 := Lib.hid (hL.keep (k := w2.heap.size) qkh)
 have HK9_4 := Lib.hid (hL.keep (k := w3.heap.size) qkh)
 have HOp_4 := Lib.hid hOp
 clear hOp
 have HOq_4 := Lib.hid hOq
 clear hOq
 clear hL c3 f3 c4 f4 c6 f6 c7 f7
 obtain ⟨c3, f3, z3_4⟩ := blk_at HK3_4.out
 obtain ⟨c4, f4, z4_4⟩ := blk_at HK4_4.out
 obtain ⟨c6, f6, z6_4⟩ := blk_at HK6_4.out
 obtain ⟨c7, f7, z7_4⟩ := blk_at HK7_4.out
 obtain ⟨c9, f9, z9_4⟩ := blk_at HK9_4.out
 clear HK3_4 c3 f3
 go_wp2_with fail
 refine (w_implReadStock n2 _ _ st2 sd2 s2.sh s2.cu y2 _ (reads_of_owns (qoh HOp_4) (by omega)) (reads_of_owns (qoh HOq_4) (by omega))).mono ?_
 rintro e w5 ⟨rfl, hL⟩
 have HW5 : Hid (Later W w5) := Lib.hid (Later.trans qlh hL)
 have hz5 := HW5.out.size
 have HOp_5 := Lib.hid (owns_later (qoh HOp_4) hL)
 have HOq_5 := Lib.hid (owns_later (qoh HOq_4) hL)
 have HK4_5 := Lib.hid (hL.keep (k := w1.heap.size + 1) qkh)
 have HK6_5 := Lib.hid (hL.keep (k := w1.heap.size + 1 + 1) qkh)
 have HK7_5 := Lib.hid (hL.keep (k := w2.heap.size) qkh)
 have HK9_5 := Lib.hid (hL.keep (k := w3.heap.size) qkh)
 have HK11_5 := Lib.hid (hL.keep (k := w4.heap.size) qkh)
 have HK12_5 := Lib.hid (hL.keep (k := w4.heap.size + 1) qkh)
 clear hL c4 f4 c6 f6 c7 f7 c9 f9
 obtain ⟨c4, f4, z4_5⟩ := blk_at HK4_5.out
 obtain ⟨c6, f6, z6_5⟩ := blk_at HK6_5.out
 obtain ⟨c7, f7, z7_5⟩ := blk_at HK7_5.out
 obtain ⟨c9, f9, z9_5⟩ := blk_at HK9_5.out
 obtain ⟨c11, f11, z11_5⟩ := blk_at HK11_5.out
 obtain ⟨c12, f12, z12_5⟩ := blk_at HK12_5.out
 go_wp2_with fail
 refine (w_specReadStock n2 _ _ st2 sd2 s2.sh s2.cu y2 _ (reads_of_owns (qoh HOp_5) (by omega)) (reads_of_owns (qoh HOq_5) (by omega))).mono ?_
 rintro e w6 ⟨rfl, hL⟩
 have HW6 : Hid (Later W w6) := Lib.hid (Later.trans qlh hL)
 have hz6 := HW6.out.size
 have HOp_6 := Lib.hid (owns_later (qoh HOp_5) hL)
 have HOq_6 := Lib.hid (owns_later (qoh HOq_5) hL)
 have HK4_6 := Lib.hid (hL.keep (k := w1.heap.size + 1) qkh)
 have HK6_6 := Lib.hid (hL.keep (k := w1.heap.size + 1 + 1) qkh)
 have HK7_6 := Lib.hid (hL.keep (k := w2.heap.size) qkh)
 have HK9_6 := Lib.hid (hL.keep (k := w3.heap.size) qkh)
 have HK11_6 := Lib.hid (hL.keep (k := w4.heap.size) qkh)
 have HK12_6 := Lib.hid (hL.keep (k := w4.heap.size + 1) qkh)
 have HK14_6 := Lib.hid (hL.keep (k := w5.heap.size) qkh)
 clear hL c4 f4 c6 f6 c7 f7 c9 f9 c11 f11 c12 f12
 obtain ⟨c4, f4, z4_6⟩ := blk_at HK4_6.out
 obtain ⟨c6, f6, z6_6⟩ := blk_at HK6_6.out
 obtain ⟨c7, f7, z7_6⟩ := blk_at HK7_6.out
 obtain ⟨c9, f9, z9_6⟩ := blk_at HK9_6.out
 obtain ⟨c11, f11, z11_6⟩ := blk_at HK11_6.out
 obtain ⟨c12, f12, z12_6⟩ := blk_at HK12_6.out
 obtain ⟨c14, f14, z14_6⟩ := blk_at HK14_6.out
 clear HOp_6
 clear HOq_6
 go_wp2_with fail
 refine (w_DrawReadSlide _ bs _ ((HC.out.later qlh)) hB hb).mono ?_
 rintro e w7 ⟨n3, vr, vz, st3, sd3, s3, y3, rfl, hOr, hOz, hr5, hz5x, hL⟩
 obtain ⟨ar, capr, rfl⟩ := isSl_of hOr
 obtain ⟨az, capz, rfl⟩ := isSl_of hOz
 have HW7 : Hid (Later W w7) := Lib.hid (Later.trans qlh hL)
 have hz7 := HW7.out.size
 have HK4_7 := Lib.hid (hL.keep (k := w1.heap.size + 1) qkh)
 have HK6_7 := Lib.hid (hL.keep (k := w1.heap.size + 1 + 1) qkh)
 have HK7_7 := Lib.hid (hL.keep (k := w2.heap.size) qkh)
 have HK9_7 := Lib.hid (hL.keep (k := w3.heap.size) qkh)
 have HK11_7 := Lib.hid (hL.keep (k := w4.heap.size) qkh)
 have HK12_7 := Lib.hid (hL.keep (k := w4.heap.size + 1) qkh)
 have HK14_7 := Lib.hid (hL.keep (k := w5.heap.size) qkh)
 have HK16_7 := Lib.hid (hL.keep (k := w6.heap.size) qkh)
 have HOr_7 := Lib.hid hOr
 clear hOr
 have HOz_7 := Lib.hid hOz
 clear hOz
 clear hL c4 f4 c6 f6 c7 f7 c9 f9 c11 f11 c12 f12 c14 f14
 obtain ⟨c4, f4, z4_7⟩ := blk_at HK4_7.out
 obtain ⟨c6, f6, z6_7⟩ := blk_at HK6_7.out
 obtain ⟨c7, f7, z7_7⟩ := blk_at HK7_7.out
 obtain ⟨c9, f9, z9_7⟩ := blk_at HK9_7.out
 obtain ⟨c11, f11, z11_7⟩ := blk_at HK11_7.out
 obtain ⟨c12, f12, z12_7⟩ := blk_at HK12_7.out
 obtain ⟨c14, f14, z14_7⟩ := blk_at HK14_7.out
 obtain ⟨c16, f16, z16_7⟩ := blk_at HK16_7.out
 clear HK11_7 c11 f11
 go_wp2_with fail
 refine (w_implReadSlide n3 _ _ st3 sd3 s3.sh s3.cu y3 _ (reads_of_owns (qoh HOr_7) (by omega)) (reads_of_owns (qoh HOz_7) (by omega))).mono ?_
 rintro e w8 ⟨rfl, hL⟩
 have HW8 : Hid (Later W w8) := Lib.hid (Later.trans qlh hL)
 have hz8 := HW8.out.size
 have HOr_8 := Lib.hid (owns_later (qoh HOr_7) hL)
 have HOz_8 := Lib.hid (owns_later (qoh HOz_7) hL)
 have HK4_8 := Lib.hid (hL.keep (k := w1.heap.size + 1) qkh)
 have HK6_8 := Lib.hid (hL.keep (k := w1.heap.size + 1 + 1) qkh)
 have HK7_8 := Lib.hid (hL.keep (k := w2.heap.size) qkh)
 have HK9_8 := Lib.hid (hL.keep (k := w3.heap.size) qkh)
 have HK12_8 := Lib.hid (hL.keep (k := w4.heap.size + 1) qkh)
 have HK14_8 := Lib.hid (hL.keep (k := w5.heap.size) qkh)
 have HK16_8 := Lib.hid (hL.keep (k := w6.heap.size) qkh)
 have HK18_8 := Lib.hid (hL.keep (k := w7.heap.size) qkh)
 have HK19_8 := Lib.hid (hL.keep (k := w7.heap.size + 1) qkh)
 clear hL c4 f4 c6 f6 c7 f7 c9 f9 c12 f12 c14 f14 c16 f16
 obtain ⟨c4, f4, z4_8⟩ := blk_at HK4_8.out
 obtain ⟨c6, f6, z6_8⟩ := blk_at HK6_8.out
 obtain ⟨c7, f7, z7_8⟩ := blk_at HK7_8.out
 obtain ⟨c9, f9, z9_8⟩ := blk_at HK9_8.out
 obtain ⟨c12, f12, z12_8⟩ := blk_at HK12_8.out
 obtain ⟨c14, f14, z14_8⟩ := blk_at HK14_8.out
 obtain ⟨c16, f16, z16_8⟩ := blk_at HK16_8.out
 obtain ⟨c18, f18, z18_8⟩ := blk_at HK18_8.out
 obtain ⟨c19, f19, z19_8⟩ := blk_at HK19_8.out
 go_wp2_with fail
 refine (w_specReadSlide n3 _ _ st3 sd3 s3.sh s3.cu y3 _ (reads_of_owns (qoh HOr_8) (by omega)) (reads_of_owns (qoh HOz_8) (by omega))).mono ?_
 rintro e w9 ⟨rfl, hL⟩
 have HW9 : Hid (Later W w9) := Lib.hid (Later.trans qlh hL)
 have hz9 := HW9.out.size
 have HOr_9 := Lib.hid (owns_later (qoh HOr_8) hL)
 have HOz_9 := Lib.hid (owns_later (qoh HOz_8) hL)
 have HK4_9 := Lib.hid (hL.keep (k := w1.heap.size + 1) qkh)
 have HK6_9 := Lib.hid (hL.keep (k := w1.heap.size + 1 + 1) qkh)
 have HK7_9 := Lib.hid (hL.keep (k := w2.heap.size) qkh)
 have HK9_9 := Lib.hid (hL.keep (k := w3.heap.size) qkh)
 have HK12_9 := Lib.hid (hL.keep (k := w4.heap.size + 1) qkh)
 have HK14_9 := Lib.hid (hL.keep (k := w5.heap.size) qkh)
 have HK16_9 := Lib.hid (hL.keep (k := w6.heap.size) qkh)
 have HK18_9 := Lib.hid (hL.keep (k := w7.heap.size) qkh)
 have HK19_9 := Lib.hid (hL.keep (k := w7.heap.size + 1) qkh)
 have HK21_9 := Lib.hid (hL.keep (k := w8.heap.size) qkh)
 clear hL c4 f4 c6 f6 c7 f7 c9 f9 c12 f12 c14 f14 c16 f16 c18 f18 c19 f19
 obtain ⟨c4, f4, z4_9⟩ := blk_at HK4_9.out
 obtain ⟨c6, f6, z6_9⟩ := blk_at HK6_9.out
 obtain ⟨c7, f7, z7_9⟩ := blk_at HK7_9.out
 obtain ⟨c9, f9, z9_9⟩ := blk_at HK9_9.out
 obtain ⟨c12, f12, z12_9⟩ := blk_at HK12_9.out
 obtain ⟨c14, f14, z14_9⟩ := blk_at HK14_9.out
 obtain ⟨c16, f16, z16_9⟩ := blk_at HK16_9.out
 obtain ⟨c18, f18, z18_9⟩ := blk_at HK18_9.out
 obtain ⟨c19, f19, z19_9⟩ := blk_at HK19_9.out
 obtain ⟨c21, f21, z21_9⟩ := blk_at HK21_9.out
 clear HOr_9
 clear HOz_9
 go_wp2_with fail
 refine (w_DrawPointOf _ bs _ ((HC.out.later qlh)) hB hb).mono ?_
 rintro e w10 ⟨x4, fq, rfl, hL⟩
 have HW10 : Hid (Later W w10) := Lib.hid (Later.trans qlh hL)
 have hz10 := HW10.out.size
 have HK4_10 := Lib.hid (hL.keep (k := w1.heap.size + 1) qkh)
 have HK6_10 := Lib.hid (hL.keep (k := w1.heap.size + 1 + 1) qkh)
 have HK7_10 := Lib.hid (hL.keep (k := w2.heap.size) qkh)
 have HK9_10 := Lib.hid (hL.keep (k := w3.heap.size) qkh)
 have HK12_10 := Lib.hid (hL.keep (k := w4.heap.size + 1) qkh)
 have HK14_10 := Lib.hid (hL.keep (k := w5.heap.size) qkh)
 have HK16_10 := Lib.hid (hL.keep (k := w6.heap.size) qkh)
 have HK18_10 := Lib.hid (hL.keep (k := w7.heap.size) qkh)
 have HK19_10 := Lib.hid (hL.keep (k := w7.heap.size + 1) qkh)
 have HK21_10 := Lib.hid (hL.keep (k := w8.heap.size) qkh)
 have HK23_10 := Lib.hid (hL.keep (k := w9.heap.size) qkh)
 clear hL c4 f4 c6 f6 c7 f7 c9 f9 c12 f12 c14 f14 c16 f16 c18 f18 c19 f19 c21 f21
 obtain ⟨c4, f4, z4_10⟩ := blk_at HK4_10.out
 obtain ⟨c6, f6, z6_10⟩ := blk_at HK6_10.out
 obtain ⟨c7, f7, z7_10⟩ := blk_at HK7_10.out
 obtain ⟨c9, f9, z9_10⟩ := blk_at HK9_10.out
 obtain ⟨c12, f12, z12_10⟩ := blk_at HK12_10.out
 obtain ⟨c14, f14, z14_10⟩ := blk_at HK14_10.out
 obtain ⟨c16, f16, z16_10⟩ := blk_at HK16_10.out
 obtain ⟨c18, f18, z18_10⟩ := blk_at HK18_10.out
 obtain ⟨c19, f19, z19_10⟩ := blk_at HK19_10.out
 obtain ⟨c21, f21, z21_10⟩ := blk_at HK21_10.out
 obtain ⟨c23, f23, z23_10⟩ := blk_at HK23_10.out
 clear HK18_10 c18 f18
 clear HK19_10 c19 f19
 go_wp2_with fail
 refine (w_implPointOf x4 fq.d fq.t _).mono ?_
 rintro e w11 ⟨rfl, hL⟩
 have HW11 : Hid (Later W w11) := Lib.hid (Later.trans qlh hL)
 have hz11 := HW11.out.size
 have HK4_11 := Lib.hid (hL.keep (k := w1.heap.size + 1) qkh)
 have HK6_11 := Lib.hid (hL.keep (k := w1.heap.size + 1 + 1) qkh)
 have HK7_11 := Lib.hid (hL.keep (k := w2.heap.size) qkh)
 have HK9_11 := Lib.hid (hL.keep (k := w3.heap.size) qkh)
 have HK12_11 := Lib.hid (hL.keep (k := w4.heap.size + 1) qkh)
 have HK14_11 := Lib.hid (hL.keep (k := w5.heap.size) qkh)
 have HK16_11 := Lib.hid (hL.keep (k := w6.heap.size) qkh)
 have HK21_11 := Lib.hid (hL.keep (k := w8.heap.size) qkh)
 have HK23_11 := Lib.hid (hL.keep (k := w9.heap.size) qkh)
 have HK26_11 := Lib.hid (hL.keep (k := w10.heap.size) qkh)
 clear hL c4 f4 c6 f6 c7 f7 c9 f9 c12 f12 c14 f14 c16 f16 c21 f21 c23 f23
 obtain ⟨c4, f4, z4_11⟩ := blk_at HK4_11.out
 obtain ⟨c6, f6, z6_11⟩ := blk_at HK6_11.out
 obtain ⟨c7, f7, z7_11⟩ := blk_at HK7_11.out
 obtain ⟨c9, f9, z9_11⟩ := blk_at HK9_11.out
 obtain ⟨c12, f12, z12_11⟩ := blk_at HK12_11.out
 obtain ⟨c14, f14, z14_11⟩ := blk_at HK14_11.out
 obtain ⟨c16, f16, z16_11⟩ := blk_at HK16_11.out
 obtain ⟨c21, f21, z21_11⟩ := blk_at HK21_11.out
 obtain ⟨c23, f23, z23_11⟩ := blk_at HK23_11.out
 obtain ⟨c26, f26, z26_11⟩ := blk_at HK26_11.out
 go_wp2_with fail
 refine (w_specPointOf x4 fq.d fq.t _).mono ?_
 rintro e w12 ⟨rfl, hL⟩
 have HW12 : Hid (Later W w12) := Lib.hid (Later.trans qlh hL)
 have hz12 := HW12.out.size
 have HK4_12 := Lib.hid (hL.keep (k := w1.heap.size + 1) qkh)
 have HK6_12 := Lib.hid (hL.keep (k := w1.heap.size + 1 + 1) qkh)
 have HK7_12 := Lib.hid (hL.keep (k := w2.heap.size) qkh)
 have HK9_12 := Lib.hid (hL.keep (k := w3.heap.size) qkh)
 have HK12_12 := Lib.hid (hL.keep (k := w4.heap.size + 1) qkh)
 have HK14_12 := Lib.hid (hL.keep (k := w5.heap.size) qkh)
 have HK16_12 := Lib.hid (hL.keep (k := w6.heap.size) qkh)
 have HK21_12 := Lib.hid (hL.keep (k := w8.heap.size) qkh)
 have HK23_12 := Lib.hid (hL.keep (k := w9.heap.size) qkh)
 have HK26_12 := Lib.hid (hL.keep (k := w10.heap.size) qkh)
 clear hL c4 f4 c6 f6 c7 f7 c9 f9 c12 f12 c14 f14 c16 f16 c21 f21 c23 f23 c26 f26
 obtain ⟨c4, f4, z4_12⟩ := blk_at HK4_12.out
 obtain ⟨c6, f6, z6_12⟩ := blk_at HK6_12.out
 obtain ⟨c7, f7, z7_12⟩ := blk_at HK7_12.out
 obtain ⟨c9, f9, z9_12⟩ := blk_at HK9_12.out
 obtain ⟨c12, f12, z12_12⟩ := blk_at HK12_12.out
 obtain ⟨c14, f14, z14_12⟩ := blk_at HK14_12.out
 obtain ⟨c16, f16, z16_12⟩ := blk_at HK16_12.out
 obtain ⟨c21, f21, z21_12⟩ := blk_at HK21_12.out
 obtain ⟨c23, f23, z23_12⟩ := blk_at HK23_12.out
 obtain ⟨c26, f26, z26_12⟩ := blk_at HK26_12.out
 go_wp2_with fail
 refine (w_DrawIsSetting _ bs _ ((HC.out.later qlh)) hB hb).mono ?_
 rintro e w13 ⟨s5, rfl, hL⟩
 have HW13 : Hid (Later W w13) := Lib.hid (Later.trans qlh hL)
 have hz13 := HW13.out.size
 have HK4_13 := Lib.hid (hL.keep (k := w1.heap.size + 1) qkh)
 have HK6_13 := Lib.hid (hL.keep (k := w1.heap.size + 1 + 1) qkh)
 have HK7_13 := Lib.hid (hL.keep (k := w2.heap.size) qkh)
 have HK9_13 := Lib.hid (hL.keep (k := w3.heap.size) qkh)
 have HK12_13 := Lib.hid (hL.keep (k := w4.heap.size + 1) qkh)
 have HK14_13 := Lib.hid (hL.keep (k := w5.heap.size) qkh)
 have HK16_13 := Lib.hid (hL.keep (k := w6.heap.size) qkh)
 have HK21_13 := Lib.hid (hL.keep (k := w8.heap.size) qkh)
 have HK23_13 := Lib.hid (hL.keep (k := w9.heap.size) qkh)
 have HK26_13 := Lib.hid (hL.keep (k := w10.heap.size) qkh)
 clear hL c4 f4 c6 f6 c7 f7 c9 f9 c12 f12 c14 f14 c16 f16 c21 f21 c23 f23 c26 f26
 obtain ⟨c4, f4, z4_13⟩ := blk_at HK4_13.out
 obtain ⟨c6, f6, z6_13⟩ := blk_at HK6_13.out
 obtain ⟨c7, f7, z7_13⟩ := blk_at HK7_13.out
 obtain ⟨c9, f9, z9_13⟩ := blk_at HK9_13.out
 obtain ⟨c12, f12, z12_13⟩ := blk_at HK12_13.out
 obtain ⟨c14, f14, z14_13⟩ := blk_at HK14_13.out
 obtain ⟨c16, f16, z16_13⟩ := blk_at HK16_13.out
 obtain ⟨c21, f21, z21_13⟩ := blk_at HK21_13.out
 obtain ⟨c23, f23, z23_13⟩ := blk_at HK23_13.out
 obtain ⟨c26, f26, z26_13⟩ := blk_at HK26_13.out
 clear HK26_13 c26 f26
 go_wp2_with fail
 refine wp_name ?_
 intro u hu
 have K4 : u.heap[w1.heap.size + 1]? = some (.cells #[.int .i64 s.sh, .int .i64 s.cu] 66 (0, 0)) := by rw [hu]; exact heap_alloc_old _ _ HK4_13.out
 have K6 : u.heap[w1.heap.size + 1 + 1]? = some (.cells #[.int .i64 f.d, .int .i64 f.t] 41 (0, 0)) := by rw [hu]; exact heap_alloc_old _ _ HK6_13.out
 have K7 : u.heap[w2.heap.size]? = some (.cells #[.int .i64 (ssS ⟨n, st, sd⟩ ⟨s.sh, s.cu⟩ y ⟨f.d, f.t⟩).sh, .int .i64 (ssS ⟨n, st, sd⟩ ⟨s.sh, s.cu⟩ y ⟨f.d, f.t⟩).cu] 66 (0, 0)) := by rw [hu]; exact heap_alloc_old _ _ HK7_13.out
 have K9 : u.heap[w3.heap.size]? = some (.cells #[.int .i64 (ssS ⟨n, st, sd⟩ ⟨s.sh, s.cu⟩ y ⟨f.d, f.t⟩).sh, .int .i64 (ssS ⟨n, st, sd⟩ ⟨s.sh, s.cu⟩ y ⟨f.d, f.t⟩).cu] 66 (0, 0)) := by rw [hu]; exact heap_alloc_old _ _ HK9_13.out
 have K12 : u.heap[w4.heap.size + 1]? = some (.cells #[.int .i64 s2.sh, .int .i64 s2.cu] 66 (0, 0)) := by rw [hu]; exact heap_alloc_old _ _ HK12_13.out
 have K14 : u.heap[w5.heap.size]? = some (.cells #[.int .i64 (rkF ⟨n2, st2, sd2⟩ ⟨s2.sh, s2.cu⟩ y2).d, .int .i64 (rkF ⟨n2, st2, sd2⟩ ⟨s2.sh, s2.cu⟩ y2).t] 41 (0, 0)) := by rw [hu]; exact heap_alloc_old _ _ HK14_13.out
 have K16 : u.heap[w6.heap.size]? = some (.cells #[.int .i64 (rkF ⟨n2, st2, sd2⟩ ⟨s2.sh, s2.cu⟩ y2).d, .int .i64 (rkF ⟨n2, st2, sd2⟩ ⟨s2.sh, s2.cu⟩ y2).t] 41 (0, 0)) := by rw [hu]; exact heap_alloc_old _ _ HK16_13.out
 have K21 : u.heap[w8.heap.size]? = some (.cells #[.int .i64 (rsF ⟨n3, st3, sd3⟩ ⟨s3.sh, s3.cu⟩ y3).d, .int .i64 (rsF ⟨n3, st3, sd3⟩ ⟨s3.sh, s3.cu⟩ y3).t] 41 (0, 0)) := by rw [hu]; exact heap_alloc_old _ _ HK21_13.out
 have K23 : u.heap[w9.heap.size]? = some (.cells #[.int .i64 (rsF ⟨n3, st3, sd3⟩ ⟨s3.sh, s3.cu⟩ y3).d, .int .i64 (rsF ⟨n3, st3, sd3⟩ ⟨s3.sh, s3.cu⟩ y3).t] 41 (0, 0)) := by rw [hu]; exact heap_alloc_old _ _ HK23_13.out
 have K31 : u.heap[w13.heap.size]? = some (.cells #[.int .i64 s5.sh, .int .i64 s5.cu] 66 (0, 0)) := by rw [hu]; exact heap_alloc_new _ _
 have hL0 : Later W u := by rw [hu]; exact qlh
 have hSB := hL0.size
 clear hu c4 f4 c6 f6 c7 f7 c9 f9 c12 f12 c14 f14 c16 f16 c21 f21 c23 f23
 refine region_guards 238 [122, 123, 124, 125, 126, 127, 128, 129, 130, 131, 132, 133, 134, 135, 136, 137, 138, 139, 140, 141, 142, 143, 144, 145, 146, 147, 148, 149, 150, 151, 152, 153, 154, 155, 156, 157, 158, 159, 160, 161, 162, 163, 164, 165, 166] (fun g ac wc => sl ac 8 = .int .i64 (ssC ⟨n, st, sd⟩ ⟨s.sh, s.cu⟩ y ⟨f.d, f.t⟩) ∧
  sl ac 10 = .int .i64 (ssC ⟨n, st, sd⟩ ⟨s.sh, s.cu⟩ y ⟨f.d, f.t⟩) ∧
  sl ac 15 = .int .i64 (codeOn ⟨n2, st2, sd2⟩ ⟨s2.sh, s2.cu⟩ false y2) ∧
  sl ac 17 = .int .i64 (codeOn ⟨n2, st2, sd2⟩ ⟨s2.sh, s2.cu⟩ false y2) ∧
  sl ac 22 = .int .i64 (rsC ⟨n3, st3, sd3⟩ ⟨s3.sh, s3.cu⟩ y3) ∧
  sl ac 24 = .int .i64 (rsC ⟨n3, st3, sd3⟩ ⟨s3.sh, s3.cu⟩ y3) ∧
  sl ac 28 = .int .i64 (pcC x4 ⟨fq.d, fq.t⟩) ∧
  sl ac 30 = .int .i64 (pcC x4 ⟨fq.d, fq.t⟩) ∧
  sl ac 27 = .int .i64 (pcV x4 ⟨fq.d, fq.t⟩) ∧
  sl ac 29 = .int .i64 (pcV x4 ⟨fq.d, fq.t⟩) ∧
  sl ac 7 = .pointer (some ⟨w2.heap.size, 0, none⟩) ∧
  sl ac 9 = .pointer (some ⟨w3.heap.size, 0, none⟩) ∧
  sl ac 14 = .pointer (some ⟨w5.heap.size, 0, none⟩) ∧
  sl ac 16 = .pointer (some ⟨w6.heap.size, 0, none⟩) ∧
  sl ac 21 = .pointer (some ⟨w8.heap.size, 0, none⟩) ∧
  sl ac 23 = .pointer (some ⟨w9.heap.size, 0, none⟩) ∧
  sl ac 31 = .pointer (some ⟨w13.heap.size, 0, none⟩) ∧
  (g 0 = true → sl ac 122 = .int .i64 (ssC ⟨n, st, sd⟩ ⟨s.sh, s.cu⟩ y ⟨f.d, f.t⟩)) ∧
  (g 1 = true → sl ac 123 = .int .i64 (ssC ⟨n, st, sd⟩ ⟨s.sh, s.cu⟩ y ⟨f.d, f.t⟩)) ∧
  (g 2 = true → sl ac 124 = .bool false) ∧
  (g 3 = true → sl ac 125 = .bool false) ∧
  (g 4 = true → sl ac 126 = .agg #[.int .i64 (ssS ⟨n, st, sd⟩ ⟨s.sh, s.cu⟩ y ⟨f.d, f.t⟩).sh, .int .i64 (ssS ⟨n, st, sd⟩ ⟨s.sh, s.cu⟩ y ⟨f.d, f.t⟩).cu]) ∧
  (g 5 = true → sl ac 127 = .agg #[.int .i64 (ssS ⟨n, st, sd⟩ ⟨s.sh, s.cu⟩ y ⟨f.d, f.t⟩).sh, .int .i64 (ssS ⟨n, st, sd⟩ ⟨s.sh, s.cu⟩ y ⟨f.d, f.t⟩).cu]) ∧
  (g 6 = true → sl ac 128 = .bool false) ∧
  (g 7 = true → sl ac 129 = .bool false) ∧
  (g 8 = true → sl ac 130 = .bool false) ∧
  (g 9 = true → sl ac 131 = .int .i64 (codeOn ⟨n2, st2, sd2⟩ ⟨s2.sh, s2.cu⟩ false y2)) ∧
  (g 10 = true → sl ac 132 = .int .i64 (codeOn ⟨n2, st2, sd2⟩ ⟨s2.sh, s2.cu⟩ false y2)) ∧
  (g 11 = true → sl ac 133 = .bool false) ∧
  (g 12 = true → sl ac 134 = .bool false) ∧
  (g 13 = true → sl ac 135 = .bool false) ∧
  (g 14 = true → sl ac 136 = .agg #[.int .i64 (rkF ⟨n2, st2, sd2⟩ ⟨s2.sh, s2.cu⟩ y2).d, .int .i64 (rkF ⟨n2, st2, sd2⟩ ⟨s2.sh, s2.cu⟩ y2).t]) ∧
  (g 15 = true → sl ac 137 = .agg #[.int .i64 (rkF ⟨n2, st2, sd2⟩ ⟨s2.sh, s2.cu⟩ y2).d, .int .i64 (rkF ⟨n2, st2, sd2⟩ ⟨s2.sh, s2.cu⟩ y2).t]) ∧
  (g 16 = true → sl ac 138 = .bool false) ∧
  (g 17 = true → sl ac 139 = .bool false) ∧
  (g 18 = true → sl ac 140 = .bool false) ∧
  (g 19 = true → sl ac 141 = .int .i64 (rsC ⟨n3, st3, sd3⟩ ⟨s3.sh, s3.cu⟩ y3)) ∧
  (g 20 = true → sl ac 142 = .int .i64 (rsC ⟨n3, st3, sd3⟩ ⟨s3.sh, s3.cu⟩ y3)) ∧
  (g 21 = true → sl ac 143 = .bool false) ∧
  (g 22 = true → sl ac 144 = .bool false) ∧
  (g 23 = true → sl ac 145 = .bool false) ∧
  (g 24 = true → sl ac 146 = .agg #[.int .i64 (rsF ⟨n3, st3, sd3⟩ ⟨s3.sh, s3.cu⟩ y3).d, .int .i64 (rsF ⟨n3, st3, sd3⟩ ⟨s3.sh, s3.cu⟩ y3).t]) ∧
  (g 25 = true → sl ac 147 = .agg #[.int .i64 (rsF ⟨n3, st3, sd3⟩ ⟨s3.sh, s3.cu⟩ y3).d, .int .i64 (rsF ⟨n3, st3, sd3⟩ ⟨s3.sh, s3.cu⟩ y3).t]) ∧
  (g 26 = true → sl ac 148 = .bool false) ∧
  (g 27 = true → sl ac 149 = .bool false) ∧
  (g 28 = true → sl ac 150 = .bool false) ∧
  (g 29 = true → sl ac 151 = .int .i64 (pcC x4 ⟨fq.d, fq.t⟩)) ∧
  (g 30 = true → sl ac 152 = .int .i64 (pcC x4 ⟨fq.d, fq.t⟩)) ∧
  (g 31 = true → sl ac 153 = .bool false) ∧
  (g 32 = true → sl ac 154 = .bool false) ∧
  (g 33 = true → sl ac 155 = .bool false) ∧
  (g 34 = true → sl ac 156 = .int .i64 (pcV x4 ⟨fq.d, fq.t⟩)) ∧
  (g 35 = true → sl ac 157 = .int .i64 (pcV x4 ⟨fq.d, fq.t⟩)) ∧
  (g 36 = true → sl ac 158 = .bool false) ∧
  (g 37 = true → sl ac 159 = .bool false) ∧
  (g 38 = true → sl ac 160 = .bool false) ∧
  (g 39 = true → sl ac 161 = .agg #[.int .i64 s5.sh, .int .i64 s5.cu]) ∧
  (g 40 = true → sl ac 162 = .bool (isStg ⟨s5.sh, s5.cu⟩)) ∧
  (g 41 = true → sl ac 163 = .agg #[.int .i64 s5.sh, .int .i64 s5.cu]) ∧
  (g 42 = true → sl ac 164 = .bool (isStg ⟨s5.sh, s5.cu⟩)) ∧
  (g 43 = true → sl ac 165 = .bool false) ∧
  (g 44 = true → sl ac 166 = .bool false) ∧
  Later W wc ∧
  u.heap.size ≤ wc.heap.size ∧
  wc.heap[w1.heap.size + 1]? = some (.cells #[.int .i64 s.sh, .int .i64 s.cu] 66 (0, 0)) ∧
  wc.heap[w1.heap.size + 1 + 1]? = some (.cells #[.int .i64 f.d, .int .i64 f.t] 41 (0, 0)) ∧
  wc.heap[w2.heap.size]? = some (.cells #[.int .i64 (ssS ⟨n, st, sd⟩ ⟨s.sh, s.cu⟩ y ⟨f.d, f.t⟩).sh, .int .i64 (ssS ⟨n, st, sd⟩ ⟨s.sh, s.cu⟩ y ⟨f.d, f.t⟩).cu] 66 (0, 0)) ∧
  wc.heap[w3.heap.size]? = some (.cells #[.int .i64 (ssS ⟨n, st, sd⟩ ⟨s.sh, s.cu⟩ y ⟨f.d, f.t⟩).sh, .int .i64 (ssS ⟨n, st, sd⟩ ⟨s.sh, s.cu⟩ y ⟨f.d, f.t⟩).cu] 66 (0, 0)) ∧
  wc.heap[w4.heap.size + 1]? = some (.cells #[.int .i64 s2.sh, .int .i64 s2.cu] 66 (0, 0)) ∧
  wc.heap[w5.heap.size]? = some (.cells #[.int .i64 (rkF ⟨n2, st2, sd2⟩ ⟨s2.sh, s2.cu⟩ y2).d, .int .i64 (rkF ⟨n2, st2, sd2⟩ ⟨s2.sh, s2.cu⟩ y2).t] 41 (0, 0)) ∧
  wc.heap[w6.heap.size]? = some (.cells #[.int .i64 (rkF ⟨n2, st2, sd2⟩ ⟨s2.sh, s2.cu⟩ y2).d, .int .i64 (rkF ⟨n2, st2, sd2⟩ ⟨s2.sh, s2.cu⟩ y2).t] 41 (0, 0)) ∧
  wc.heap[w8.heap.size]? = some (.cells #[.int .i64 (rsF ⟨n3, st3, sd3⟩ ⟨s3.sh, s3.cu⟩ y3).d, .int .i64 (rsF ⟨n3, st3, sd3⟩ ⟨s3.sh, s3.cu⟩ y3).t] 41 (0, 0)) ∧
  wc.heap[w9.heap.size]? = some (.cells #[.int .i64 (rsF ⟨n3, st3, sd3⟩ ⟨s3.sh, s3.cu⟩ y3).d, .int .i64 (rsF ⟨n3, st3, sd3⟩ ⟨s3.sh, s3.cu⟩ y3).t] 41 (0, 0)) ∧
  wc.heap[w13.heap.size]? = some (.cells #[.int .i64 s5.sh, .int .i64 s5.cu] 66 (0, 0))) (by kernel_rfl) (by kernel_rfl) rfl (by kernel_rfl) ?_ ?_ ?_
 · exact ⟨rfl, rfl, rfl, rfl, rfl, rfl, rfl, rfl, rfl, rfl, rfl, rfl, rfl, rfl, rfl, rfl, rfl, nofun, nofun, nofun, nofun, nofun, nofun, nofun, nofun, nofun, nofun, nofun, nofun, nofun, nofun, nofun, nofun, nofun, nofun, nofun, nofun, nofun, nofun, nofun, nofun, nofun, nofun, nofun, nofun, nofun, nofun, nofun, nofun, nofun, nofun, nofun, nofun, nofun, nofun, nofun, nofun, nofun, nofun, nofun, nofun, nofun, hL0.drew, Nat.le_refl _, K4, K6, K7, K9, K12, K14, K16, K21, K23, K31⟩
 · intro g ac wz hg ha hI
   obtain ⟨x8, x10, x15, x17, x22, x24, x28, x30, x27, x29, x7, x9, x14, x16, x21, x23, x31, i0, i1, i2, i3, i4, i5, i6, i7, i8, i9, i10, i11, i12, i13, i14, i15, i16, i17, i18, i19, i20, i21, i22, i23, i24, i25, i26, i27, i28, i29, i30, i31, i32, i33, i34, i35, i36, i37, i38, i39, i40, i41, i42, i43, i44, hL, hS, B4, B6, B7, B9, B12, B14, B16, B21, B23, B31⟩ := hI
   have a0 := i0 (hg 0 (by simp))
   have a1 := i1 (hg 1 (by simp))
   have a2 := i2 (hg 2 (by simp))
   have a3 := i3 (hg 3 (by simp))
   have a4 := i4 (hg 4 (by simp))
   have a5 := i5 (hg 5 (by simp))
   have a6 := i6 (hg 6 (by simp))
   have a7 := i7 (hg 7 (by simp))
   have a8 := i8 (hg 8 (by simp))
   have a9 := i9 (hg 9 (by simp))
   have a10 := i10 (hg 10 (by simp))
   have a11 := i11 (hg 11 (by simp))
   have a12 := i12 (hg 12 (by simp))
   have a13 := i13 (hg 13 (by simp))
   have a14 := i14 (hg 14 (by simp))
   have a15 := i15 (hg 15 (by simp))
   have a16 := i16 (hg 16 (by simp))
   have a17 := i17 (hg 17 (by simp))
   have a18 := i18 (hg 18 (by simp))
   have a19 := i19 (hg 19 (by simp))
   have a20 := i20 (hg 20 (by simp))
   have a21 := i21 (hg 21 (by simp))
   have a22 := i22 (hg 22 (by simp))
   have a23 := i23 (hg 23 (by simp))
   have a24 := i24 (hg 24 (by simp))
   have a25 := i25 (hg 25 (by simp))
   have a26 := i26 (hg 26 (by simp))
   have a27 := i27 (hg 27 (by simp))
   have a28 := i28 (hg 28 (by simp))
   have a29 := i29 (hg 29 (by simp))
   have a30 := i30 (hg 30 (by simp))
   have a31 := i31 (hg 31 (by simp))
   have a32 := i32 (hg 32 (by simp))
   have a33 := i33 (hg 33 (by simp))
   have a34 := i34 (hg 34 (by simp))
   have a35 := i35 (hg 35 (by simp))
   have a36 := i36 (hg 36 (by simp))
   have a37 := i37 (hg 37 (by simp))
   have a38 := i38 (hg 38 (by simp))
   have a39 := i39 (hg 39 (by simp))
   have a40 := i40 (hg 40 (by simp))
   have a41 := i41 (hg 41 (by simp))
   have a42 := i42 (hg 42 (by simp))
   have a43 := i43 (hg 43 (by simp))
   have a44 := i44 (hg 44 (by simp))
   simp only [putAll, a0, a1, a2, a3, a4, a5, a6, a7, a8, a9, a10, a11, a12, a13, a14, a15, a16, a17, a18, a19, a20, a21, a22, a23, a24, a25, a26, a27, a28, a29, a30, a31, a32, a33, a34, a35, a36, a37, a38, a39, a40, a41, a42, a43, a44] at ha
   simp only [Act.put, List.setIfInBounds_toArray, List.set_cons_succ, List.set_cons_zero] at ha
   rw [ha]
   clear x8 x10 x15 x17 x22 x24 x28 x30 x27 x29 x7 x9 x14 x16 x21 x23 x31 i0 i1 i2 i3 i4 i5 i6 i7 i8 i9 i10 i11 i12 i13 i14 i15 i16 i17 i18 i19 i20 i21 i22 i23 i24 i25 i26 i27 i28 i29 i30 i31 i32 i33 i34 i35 i36 i37 i38 i39 i40 i41 i42 i43 i44 a0 a1 a2 a3 a4 a5 a6 a7 a8 a9 a10 a11 a12 a13 a14 a15 a16 a17 a18 a19 a20 a21 a22 a23 a24 a25 a26 a27 a28 a29 a30 a31 a32 a33 a34 a35 a36 a37 a38 a39 a40 a41 a42 a43 a44 hg ha
   have HW99 := Lib.hid hL
   have hz99 := hL.size
   have HK4_99 := Lib.hid B4
   have HK6_99 := Lib.hid B6
   have HK7_99 := Lib.hid B7
   have HK12_99 := Lib.hid B12
   have HK14_99 := Lib.hid B14
   clear hL hS hL0 B4 K4 B6 K6 B7 K7 B9 K9 B12 K12 B14 K14 B16 K16 B21 K21 B23 K23 B31 K31
   obtain ⟨c4, f4, z4_99⟩ := blk_at HK4_99.out
   obtain ⟨c6, f6, z6_99⟩ := blk_at HK6_99.out
   obtain ⟨c7, f7, z7_99⟩ := blk_at HK7_99.out
   obtain ⟨c12, f12, z12_99⟩ := blk_at HK12_99.out
   obtain ⟨c14, f14, z14_99⟩ := blk_at HK14_99.out
   by_cases hj : codeOn ⟨n2, st2, sd2⟩ ⟨s2.sh, s2.cu⟩ false y2 = 0
   · skip
     obtain ⟨g1, g2, g3, g4⟩ := stock_law hj
     have G1 := Lib.hid g1
     have G3 := Lib.hid g3
     obtain ⟨b1, b2⟩ := g4
     obtain ⟨p1, p2⟩ := pcV_bd y2 (rkF ⟨n2, st2, sd2⟩ ⟨s2.sh, s2.cu⟩ y2)
     clear g1
     go_wp2_with fail
     refine (w_implPointOf y2 _ _ _).mono ?_
     rintro e w100 ⟨rfl, hL⟩
     have HW100 : Hid (Later W w100) := Lib.hid (Later.trans qlh hL)
     have hz100 := HW100.out.size
     have HK4_100 := Lib.hid (hL.keep (k := w1.heap.size + 1) qkh)
     have HK6_100 := Lib.hid (hL.keep (k := w1.heap.size + 1 + 1) qkh)
     have HK7_100 := Lib.hid (hL.keep (k := w2.heap.size) qkh)
     have HK12_100 := Lib.hid (hL.keep (k := w4.heap.size + 1) qkh)
     have HK14_100 := Lib.hid (hL.keep (k := w5.heap.size) qkh)
     clear hL c4 f4 c6 f6 c7 f7 c12 f12 c14 f14
     obtain ⟨c4, f4, z4_100⟩ := blk_at HK4_100.out
     obtain ⟨c6, f6, z6_100⟩ := blk_at HK6_100.out
     obtain ⟨c7, f7, z7_100⟩ := blk_at HK7_100.out
     obtain ⟨c12, f12, z12_100⟩ := blk_at HK12_100.out
     obtain ⟨c14, f14, z14_100⟩ := blk_at HK14_100.out
     rw [show pcC y2 ⟨(rkF ⟨n2, st2, sd2⟩ ⟨s2.sh, s2.cu⟩ y2).d, (rkF ⟨n2, st2, sd2⟩ ⟨s2.sh, s2.cu⟩ y2).t⟩ = 0 from G1.out]
     clear HK14_100 c14 f14
     go_wp2_with fail
     refine (w_roll _ bs 1101 _ (HC.out.later qlh) hB hb).mono ?_
     rintro e w101 ⟨rfl, hL, hDi⟩
     have HW101 : Hid (Later W w101) := Lib.hid (Later.trans qlh hL)
     have hz101 := HW101.out.size
     have HK4_101 := Lib.hid (hL.keep (k := w1.heap.size + 1) qkh)
     have HK6_101 := Lib.hid (hL.keep (k := w1.heap.size + 1 + 1) qkh)
     have HK7_101 := Lib.hid (hL.keep (k := w2.heap.size) qkh)
     have HK12_101 := Lib.hid (hL.keep (k := w4.heap.size + 1) qkh)
     clear hL c4 f4 c6 f6 c7 f7 c12 f12
     obtain ⟨c4, f4, z4_101⟩ := blk_at HK4_101.out
     obtain ⟨c6, f6, z6_101⟩ := blk_at HK6_101.out
     obtain ⟨c7, f7, z7_101⟩ := blk_at HK7_101.out
     obtain ⟨c12, f12, z12_101⟩ := blk_at HK12_101.out
     go_wp2_with fail
     refine (w_below _ _ (9000) _ hDi (by omega) (by omega)).mono ?_
     rintro e w102 ⟨x, rfl, x0, x1, hD⟩
     have HW102 : Hid (Later W w102) := Lib.hid (Later.drawn (k := w100.heap.size) HW101.out hz100 hD)
     have hz102 := HW102.out.size
     have HK4_102 := Lib.hid (hD.keep (j := w1.heap.size + 1) HK4_101.out (by omega))
     have HK6_102 := Lib.hid (hD.keep (j := w1.heap.size + 1 + 1) HK6_101.out (by omega))
     have HK7_102 := Lib.hid (hD.keep (j := w2.heap.size) HK7_101.out (by omega))
     have HK12_102 := Lib.hid (hD.keep (j := w4.heap.size + 1) HK12_101.out (by omega))
     clear hD hDi c4 f4 c6 f6 c7 f7 c12 f12
     obtain ⟨c4, f4, z4_102⟩ := blk_at HK4_102.out
     obtain ⟨c6, f6, z6_102⟩ := blk_at HK6_102.out
     obtain ⟨c7, f7, z7_102⟩ := blk_at HK7_102.out
     obtain ⟨c12, f12, z12_102⟩ := blk_at HK12_102.out
     have wx : IntKind.i64.wrap (1000 + x) = 1000 + x := wrap_same (by omega) (by omega)
     have HX := Lib.hid (G3.out x x0 x1)
     have hnear := g2 x x0 x1
     go_wp2_with fail
     refine (w_implPointOf y2 (1000 + x) 0 _).mono ?_
     rintro e w103 ⟨rfl, hL⟩
     have HW103 : Hid (Later W w103) := Lib.hid (Later.trans qlh hL)
     have hz103 := HW103.out.size
     have HK4_103 := Lib.hid (hL.keep (k := w1.heap.size + 1) qkh)
     have HK6_103 := Lib.hid (hL.keep (k := w1.heap.size + 1 + 1) qkh)
     have HK7_103 := Lib.hid (hL.keep (k := w2.heap.size) qkh)
     have HK12_103 := Lib.hid (hL.keep (k := w4.heap.size + 1) qkh)
     clear hL c4 f4 c6 f6 c7 f7 c12 f12
     obtain ⟨c4, f4, z4_103⟩ := blk_at HK4_103.out
     obtain ⟨c6, f6, z6_103⟩ := blk_at HK6_103.out
     obtain ⟨c7, f7, z7_103⟩ := blk_at HK7_103.out
     obtain ⟨c12, f12, z12_103⟩ := blk_at HK12_103.out
     rw [HX.out]
     obtain ⟨r1, r2⟩ := pcV_bd y2 ⟨1000 + x, 0⟩
     have hpA : pcV y2 ⟨(rkF ⟨n2, st2, sd2⟩ ⟨s2.sh, s2.cu⟩ y2).d, (rkF ⟨n2, st2, sd2⟩ ⟨s2.sh, s2.cu⟩ y2).t⟩ = pcV y2 (rkF ⟨n2, st2, sd2⟩ ⟨s2.sh, s2.cu⟩ y2) := rfl
     rw [hpA]
     obtain ⟨A, hA⟩ : ∃ A, pcV y2 (rkF ⟨n2, st2, sd2⟩ ⟨s2.sh, s2.cu⟩ y2) = A := ⟨_, rfl⟩
     obtain ⟨B, hB'⟩ : ∃ B, pcV y2 ⟨1000 + x, 0⟩ = B := ⟨_, rfl⟩
     rw [hA] at p1 p2 hnear ⊢
     rw [hB'] at r1 r2 hnear ⊢
     clear hpA hA hB' g2
     have wa : IntKind.i64.wrap (A - s2.cu) = A - s2.cu := wrap_same (by omega) (by omega)
     have wb : IntKind.i64.wrap (s2.cu - A) = s2.cu - A := wrap_same (by omega) (by omega)
     have wc : IntKind.i64.wrap (B - s2.cu) = B - s2.cu := wrap_same (by omega) (by omega)
     have wd : IntKind.i64.wrap (s2.cu - B) = s2.cu - B := wrap_same (by omega) (by omega)
     rcases (show A < s2.cu ∨ s2.cu ≤ A by omega) with hm | hm <;> rcases (show B < s2.cu ∨ s2.cu ≤ B by omega) with hm' | hm'
     all_goals
      try have k1 : decide (s2.cu - B < s2.cu - A) = false := by simp; omega
      try have k2 : decide (B - s2.cu < s2.cu - A) = false := by simp; omega
      try have k3 : decide (s2.cu - B < A - s2.cu) = false := by simp; omega
      try have k4 : decide (B - s2.cu < A - s2.cu) = false := by simp; omega
      by_cases hp : ssC ⟨n, st, sd⟩ ⟨s.sh, s.cu⟩ y ⟨f.d, f.t⟩ = 0
      · skip
        have hpz : (ssC ⟨n, st, sd⟩ ⟨s.sh, s.cu⟩ y ⟨f.d, f.t⟩ != 0) = false := by simpa using hp
        obtain ⟨q1, q2, q3⟩ := set_law hp
        have Q1 := Lib.hid q1
        have e1 : ((ssS ⟨n, st, sd⟩ ⟨s.sh, s.cu⟩ y ⟨f.d, f.t⟩).cu == s.cu) = true := by simpa using q2
        have e2 : IntKind.i64.wrap ((ssS ⟨n, st, sd⟩ ⟨s.sh, s.cu⟩ y ⟨f.d, f.t⟩).cu - (ssS ⟨n, st, sd⟩ ⟨s.sh, s.cu⟩ y ⟨f.d, f.t⟩).sh) = (ssS ⟨n, st, sd⟩ ⟨s.sh, s.cu⟩ y ⟨f.d, f.t⟩).cu - (ssS ⟨n, st, sd⟩ ⟨s.sh, s.cu⟩ y ⟨f.d, f.t⟩).sh := wrap_same (by have := set_bd (r := ⟨n, st, sd⟩) (s := ⟨s.sh, s.cu⟩) (x := y) (f := ⟨f.d, f.t⟩); omega) (by have := set_bd (r := ⟨n, st, sd⟩) (s := ⟨s.sh, s.cu⟩) (x := y) (f := ⟨f.d, f.t⟩); omega)
        have e3 : ((ssS ⟨n, st, sd⟩ ⟨s.sh, s.cu⟩ y ⟨f.d, f.t⟩).cu - (ssS ⟨n, st, sd⟩ ⟨s.sh, s.cu⟩ y ⟨f.d, f.t⟩).sh == pcV y ⟨f.d, f.t⟩) = true := by simpa using q3
        clear q1 q2 q3
        go_wp2_with fail
        refine (w_implPointOf y f.d f.t _).mono ?_
        rintro e w104 ⟨rfl, hL⟩
        have HW104 : Hid (Later W w104) := Lib.hid (Later.trans qlh hL)
        have hz104 := HW104.out.size
        have HK4_104 := Lib.hid (hL.keep (k := w1.heap.size + 1) qkh)
        have HK6_104 := Lib.hid (hL.keep (k := w1.heap.size + 1 + 1) qkh)
        have HK7_104 := Lib.hid (hL.keep (k := w2.heap.size) qkh)
        have HK12_104 := Lib.hid (hL.keep (k := w4.heap.size + 1) qkh)
        clear hL c4 f4 c6 f6 c7 f7 c12 f12
        obtain ⟨c4, f4, z4_104⟩ := blk_at HK4_104.out
        obtain ⟨c6, f6, z6_104⟩ := blk_at HK6_104.out
        obtain ⟨c7, f7, z7_104⟩ := blk_at HK7_104.out
        obtain ⟨c12, f12, z12_104⟩ := blk_at HK12_104.out
        rw [Q1.out]
        go_wp2
        go_ret
        exact ⟨rfl, qlh⟩
      · skip
        have hpb : (ssC ⟨n, st, sd⟩ ⟨s.sh, s.cu⟩ y ⟨f.d, f.t⟩ != 0) = true := by simpa using hp
        go_wp2
        go_ret
        exact ⟨rfl, qlh⟩
   · skip
     have hjb : (codeOn ⟨n2, st2, sd2⟩ ⟨s2.sh, s2.cu⟩ false y2 == 0) = false := by simpa using hj
     clear HK12_99 c12 f12
     clear HK14_99 c14 f14
     by_cases hp : ssC ⟨n, st, sd⟩ ⟨s.sh, s.cu⟩ y ⟨f.d, f.t⟩ = 0
     · skip
       have hpz : (ssC ⟨n, st, sd⟩ ⟨s.sh, s.cu⟩ y ⟨f.d, f.t⟩ != 0) = false := by simpa using hp
       obtain ⟨q1, q2, q3⟩ := set_law hp
       have Q1 := Lib.hid q1
       have e1 : ((ssS ⟨n, st, sd⟩ ⟨s.sh, s.cu⟩ y ⟨f.d, f.t⟩).cu == s.cu) = true := by simpa using q2
       have e2 : IntKind.i64.wrap ((ssS ⟨n, st, sd⟩ ⟨s.sh, s.cu⟩ y ⟨f.d, f.t⟩).cu - (ssS ⟨n, st, sd⟩ ⟨s.sh, s.cu⟩ y ⟨f.d, f.t⟩).sh) = (ssS ⟨n, st, sd⟩ ⟨s.sh, s.cu⟩ y ⟨f.d, f.t⟩).cu - (ssS ⟨n, st, sd⟩ ⟨s.sh, s.cu⟩ y ⟨f.d, f.t⟩).sh := wrap_same (by have := set_bd (r := ⟨n, st, sd⟩) (s := ⟨s.sh, s.cu⟩) (x := y) (f := ⟨f.d, f.t⟩); omega) (by have := set_bd (r := ⟨n, st, sd⟩) (s := ⟨s.sh, s.cu⟩) (x := y) (f := ⟨f.d, f.t⟩); omega)
       have e3 : ((ssS ⟨n, st, sd⟩ ⟨s.sh, s.cu⟩ y ⟨f.d, f.t⟩).cu - (ssS ⟨n, st, sd⟩ ⟨s.sh, s.cu⟩ y ⟨f.d, f.t⟩).sh == pcV y ⟨f.d, f.t⟩) = true := by simpa using q3
       clear q1 q2 q3
       go_wp2_with fail
       refine (w_implPointOf y f.d f.t _).mono ?_
       rintro e w100 ⟨rfl, hL⟩
       have HW100 : Hid (Later W w100) := Lib.hid (Later.trans qlh hL)
       have hz100 := HW100.out.size
       have HK4_100 := Lib.hid (hL.keep (k := w1.heap.size + 1) qkh)
       have HK6_100 := Lib.hid (hL.keep (k := w1.heap.size + 1 + 1) qkh)
       have HK7_100 := Lib.hid (hL.keep (k := w2.heap.size) qkh)
       clear hL c4 f4 c6 f6 c7 f7
       obtain ⟨c4, f4, z4_100⟩ := blk_at HK4_100.out
       obtain ⟨c6, f6, z6_100⟩ := blk_at HK6_100.out
       obtain ⟨c7, f7, z7_100⟩ := blk_at HK7_100.out
       rw [Q1.out]
       go_wp2
       go_ret
       exact ⟨rfl, qlh⟩
     · skip
       have hpb : (ssC ⟨n, st, sd⟩ ⟨s.sh, s.cu⟩ y ⟨f.d, f.t⟩ != 0) = true := by simpa using hp
       go_wp2
       go_ret
       exact ⟨rfl, qlh⟩
 · refine .cons ?_ (.cons ?_ (.cons ?_ (.cons ?_ (.cons ?_ (.cons ?_ (.cons ?_ (.cons ?_ (.cons ?_ (.cons ?_ (.cons ?_ (.cons ?_ (.cons ?_ (.cons ?_ (.cons ?_ (.cons ?_ (.cons ?_ (.cons ?_ (.cons ?_ (.cons ?_ (.cons ?_ (.cons ?_ (.cons ?_ (.cons ?_ (.cons ?_ (.cons ?_ (.cons ?_ (.cons ?_ (.cons ?_ (.cons ?_ (.cons ?_ (.cons ?_ (.cons ?_ (.cons ?_ (.cons ?_ (.cons ?_ (.cons ?_ (.cons ?_ (.cons ?_ (.cons ?_ (.cons ?_ (.cons ?_ (.cons ?_ (.cons ?_ (.cons ?_ .nil))))))))))))))))))))))))))))))))))))))))))))
   · refine GSlot.of rfl ?_
     unfold SlotStep
     intro g ac wc hn hk hr hI K' hK
     have HI := Lib.hid hI
     obtain ⟨x8, x10, x15, x17, x22, x24, x28, x30, x27, x29, x7, x9, x14, x16, x21, x23, x31, i0, i1, i2, i3, i4, i5, i6, i7, i8, i9, i10, i11, i12, i13, i14, i15, i16, i17, i18, i19, i20, i21, i22, i23, i24, i25, i26, i27, i28, i29, i30, i31, i32, i33, i34, i35, i36, i37, i38, i39, i40, i41, i42, i43, i44, hL, hS, B4, B6, B7, B9, B12, B14, B16, B21, B23, B31⟩ := hI
     simp [Region.binds] at hr
     replace hK := Lib.hid hK
     clear i0 i1 i2 i3 i4 i5 i6 i7 i8 i9 i10 i11 i12 i13 i14 i15 i16 i17 i18 i19 i20 i21 i22 i23 i24 i25 i26 i27 i28 i29 i30 i31 i32 i33 i34 i35 i36 i37 i38 i39 i40 i41 i42 i43 i44
     go_simp
     obtain ⟨-, -, -, -, -, -, -, -, -, -, -, -, -, -, -, -, -, i0, i1, i2, i3, i4, i5, i6, i7, i8, i9, i10, i11, i12, i13, i14, i15, i16, i17, i18, i19, i20, i21, i22, i23, i24, i25, i26, i27, i28, i29, i30, i31, i32, i33, i34, i35, i36, i37, i38, i39, i40, i41, i42, i43, i44, -⟩ := HI.out
     exact hK.out _ _ ⟨qB x8, qB x10, qB x15, qB x17, qB x22, qB x24, qB x28, qB x30, qB x27, qB x29, qB x7, qB x9, qB x14, qB x16, qB x21, qB x23, qB x31, qP, qF i1, qF i2, qF i3, qF i4, qF i5, qF i6, qF i7, qF i8, qF i9, qF i10, qF i11, qF i12, qF i13, qF i14, qF i15, qF i16, qF i17, qF i18, qF i19, qF i20, qF i21, qF i22, qF i23, qF i24, qF i25, qF i26, qF i27, qF i28, qF i29, qF i30, qF i31, qF i32, qF i33, qF i34, qF i35, qF i36, qF i37, qF i38, qF i39, qF i40, qF i41, qF i42, qF i43, qF i44, hL, hS, B4, B6, B7, B9, B12, B14, B16, B21, B23, B31⟩
   · refine GSlot.of rfl ?_
     unfold SlotStep
     intro g ac wc hn hk hr hI K' hK
     have HI := Lib.hid hI
     obtain ⟨x8, x10, x15, x17, x22, x24, x28, x30, x27, x29, x7, x9, x14, x16, x21, x23, x31, i0, i1, i2, i3, i4, i5, i6, i7, i8, i9, i10, i11, i12, i13, i14, i15, i16, i17, i18, i19, i20, i21, i22, i23, i24, i25, i26, i27, i28, i29, i30, i31, i32, i33, i34, i35, i36, i37, i38, i39, i40, i41, i42, i43, i44, hL, hS, B4, B6, B7, B9, B12, B14, B16, B21, B23, B31⟩ := hI
     simp [Region.binds] at hr
     replace hK := Lib.hid hK
     clear i0 i1 i2 i3 i4 i5 i6 i7 i8 i9 i10 i11 i12 i13 i14 i15 i16 i17 i18 i19 i20 i21 i22 i23 i24 i25 i26 i27 i28 i29 i30 i31 i32 i33 i34 i35 i36 i37 i38 i39 i40 i41 i42 i43 i44
     go_simp
     obtain ⟨-, -, -, -, -, -, -, -, -, -, -, -, -, -, -, -, -, i0, i1, i2, i3, i4, i5, i6, i7, i8, i9, i10, i11, i12, i13, i14, i15, i16, i17, i18, i19, i20, i21, i22, i23, i24, i25, i26, i27, i28, i29, i30, i31, i32, i33, i34, i35, i36, i37, i38, i39, i40, i41, i42, i43, i44, -⟩ := HI.out
     exact hK.out _ _ ⟨qB x8, qB x10, qB x15, qB x17, qB x22, qB x24, qB x28, qB x30, qB x27, qB x29, qB x7, qB x9, qB x14, qB x16, qB x21, qB x23, qB x31, qF i0, qP, qF i2, qF i3, qF i4, qF i5, qF i6, qF i7, qF i8, qF i9, qF i10, qF i11, qF i12, qF i13, qF i14, qF i15, qF i16, qF i17, qF i18, qF i19, qF i20, qF i21, qF i22, qF i23, qF i24, qF i25, qF i26, qF i27, qF i28, qF i29, qF i30, qF i31, qF i32, qF i33, qF i34, qF i35, qF i36, qF i37, qF i38, qF i39, qF i40, qF i41, qF i42, qF i43, qF i44, hL, hS, B4, B6, B7, B9, B12, B14, B16, B21, B23, B31⟩
   · refine GSlot.of rfl ?_
     unfold SlotStep
     intro g ac wc hn hk hr hI K' hK
     have HI := Lib.hid hI
     obtain ⟨x8, x10, x15, x17, x22, x24, x28, x30, x27, x29, x7, x9, x14, x16, x21, x23, x31, i0, i1, i2, i3, i4, i5, i6, i7, i8, i9, i10, i11, i12, i13, i14, i15, i16, i17, i18, i19, i20, i21, i22, i23, i24, i25, i26, i27, i28, i29, i30, i31, i32, i33, i34, i35, i36, i37, i38, i39, i40, i41, i42, i43, i44, hL, hS, B4, B6, B7, B9, B12, B14, B16, B21, B23, B31⟩ := hI
     simp [Region.binds] at hr
     replace hK := Lib.hid hK
     have y0 := i0 (by simp [hr])
     have y1 := i1 (by simp [hr])
     clear i0 i1 i2 i3 i4 i5 i6 i7 i8 i9 i10 i11 i12 i13 i14 i15 i16 i17 i18 i19 i20 i21 i22 i23 i24 i25 i26 i27 i28 i29 i30 i31 i32 i33 i34 i35 i36 i37 i38 i39 i40 i41 i42 i43 i44
     go_simp
     obtain ⟨-, -, -, -, -, -, -, -, -, -, -, -, -, -, -, -, -, i0, i1, i2, i3, i4, i5, i6, i7, i8, i9, i10, i11, i12, i13, i14, i15, i16, i17, i18, i19, i20, i21, i22, i23, i24, i25, i26, i27, i28, i29, i30, i31, i32, i33, i34, i35, i36, i37, i38, i39, i40, i41, i42, i43, i44, -⟩ := HI.out
     exact hK.out _ _ ⟨qB x8, qB x10, qB x15, qB x17, qB x22, qB x24, qB x28, qB x30, qB x27, qB x29, qB x7, qB x9, qB x14, qB x16, qB x21, qB x23, qB x31, qF i0, qF i1, qP, qF i3, qF i4, qF i5, qF i6, qF i7, qF i8, qF i9, qF i10, qF i11, qF i12, qF i13, qF i14, qF i15, qF i16, qF i17, qF i18, qF i19, qF i20, qF i21, qF i22, qF i23, qF i24, qF i25, qF i26, qF i27, qF i28, qF i29, qF i30, qF i31, qF i32, qF i33, qF i34, qF i35, qF i36, qF i37, qF i38, qF i39, qF i40, qF i41, qF i42, qF i43, qF i44, hL, hS, B4, B6, B7, B9, B12, B14, B16, B21, B23, B31⟩
   · refine GSlot.of rfl ?_
     unfold SlotStep
     intro g ac wc hn hk hr hI K' hK
     have HI := Lib.hid hI
     obtain ⟨x8, x10, x15, x17, x22, x24, x28, x30, x27, x29, x7, x9, x14, x16, x21, x23, x31, i0, i1, i2, i3, i4, i5, i6, i7, i8, i9, i10, i11, i12, i13, i14, i15, i16, i17, i18, i19, i20, i21, i22, i23, i24, i25, i26, i27, i28, i29, i30, i31, i32, i33, i34, i35, i36, i37, i38, i39, i40, i41, i42, i43, i44, hL, hS, B4, B6, B7, B9, B12, B14, B16, B21, B23, B31⟩ := hI
     simp [Region.binds] at hr
     replace hK := Lib.hid hK
     have y2 := i2 (by simp [hr])
     clear i0 i1 i2 i3 i4 i5 i6 i7 i8 i9 i10 i11 i12 i13 i14 i15 i16 i17 i18 i19 i20 i21 i22 i23 i24 i25 i26 i27 i28 i29 i30 i31 i32 i33 i34 i35 i36 i37 i38 i39 i40 i41 i42 i43 i44
     go_simp
     obtain ⟨-, -, -, -, -, -, -, -, -, -, -, -, -, -, -, -, -, i0, i1, i2, i3, i4, i5, i6, i7, i8, i9, i10, i11, i12, i13, i14, i15, i16, i17, i18, i19, i20, i21, i22, i23, i24, i25, i26, i27, i28, i29, i30, i31, i32, i33, i34, i35, i36, i37, i38, i39, i40, i41, i42, i43, i44, -⟩ := HI.out
     exact hK.out _ _ ⟨qB x8, qB x10, qB x15, qB x17, qB x22, qB x24, qB x28, qB x30, qB x27, qB x29, qB x7, qB x9, qB x14, qB x16, qB x21, qB x23, qB x31, qF i0, qF i1, qF i2, qP, qF i4, qF i5, qF i6, qF i7, qF i8, qF i9, qF i10, qF i11, qF i12, qF i13, qF i14, qF i15, qF i16, qF i17, qF i18, qF i19, qF i20, qF i21, qF i22, qF i23, qF i24, qF i25, qF i26, qF i27, qF i28, qF i29, qF i30, qF i31, qF i32, qF i33, qF i34, qF i35, qF i36, qF i37, qF i38, qF i39, qF i40, qF i41, qF i42, qF i43, qF i44, hL, hS, B4, B6, B7, B9, B12, B14, B16, B21, B23, B31⟩
   · refine GSlot.want rfl rfl (by decide) (fun g ac wc hr hI => ?_) ?_
     · obtain ⟨x8, x10, x15, x17, x22, x24, x28, x30, x27, x29, x7, x9, x14, x16, x21, x23, x31, i0, i1, i2, i3, i4, i5, i6, i7, i8, i9, i10, i11, i12, i13, i14, i15, i16, i17, i18, i19, i20, i21, i22, i23, i24, i25, i26, i27, i28, i29, i30, i31, i32, i33, i34, i35, i36, i37, i38, i39, i40, i41, i42, i43, i44, hL, hS, B4, B6, B7, B9, B12, B14, B16, B21, B23, B31⟩ := hI
       simp [Region.binds] at hr
       exact i3 (by simp [hr])
     unfold SlotStep
     intro g ac wc hn hk hr hI K' hK
     have HI := Lib.hid hI
     obtain ⟨x8, x10, x15, x17, x22, x24, x28, x30, x27, x29, x7, x9, x14, x16, x21, x23, x31, i0, i1, i2, i3, i4, i5, i6, i7, i8, i9, i10, i11, i12, i13, i14, i15, i16, i17, i18, i19, i20, i21, i22, i23, i24, i25, i26, i27, i28, i29, i30, i31, i32, i33, i34, i35, i36, i37, i38, i39, i40, i41, i42, i43, i44, hL, hS, B4, B6, B7, B9, B12, B14, B16, B21, B23, B31⟩ := hI
     simp [Region.binds] at hr
     replace hK := Lib.hid hK
     clear i0 i1 i2 i3 i4 i5 i6 i7 i8 i9 i10 i11 i12 i13 i14 i15 i16 i17 i18 i19 i20 i21 i22 i23 i24 i25 i26 i27 i28 i29 i30 i31 i32 i33 i34 i35 i36 i37 i38 i39 i40 i41 i42 i43 i44
     obtain ⟨c0, f0, z0⟩ := blk_at B7
     go_simp
     obtain ⟨-, -, -, -, -, -, -, -, -, -, -, -, -, -, -, -, -, i0, i1, i2, i3, i4, i5, i6, i7, i8, i9, i10, i11, i12, i13, i14, i15, i16, i17, i18, i19, i20, i21, i22, i23, i24, i25, i26, i27, i28, i29, i30, i31, i32, i33, i34, i35, i36, i37, i38, i39, i40, i41, i42, i43, i44, -⟩ := HI.out
     exact hK.out _ _ ⟨qB x8, qB x10, qB x15, qB x17, qB x22, qB x24, qB x28, qB x30, qB x27, qB x29, qB x7, qB x9, qB x14, qB x16, qB x21, qB x23, qB x31, qF i0, qF i1, qF i2, qF i3, qP, qF i5, qF i6, qF i7, qF i8, qF i9, qF i10, qF i11, qF i12, qF i13, qF i14, qF i15, qF i16, qF i17, qF i18, qF i19, qF i20, qF i21, qF i22, qF i23, qF i24, qF i25, qF i26, qF i27, qF i28, qF i29, qF i30, qF i31, qF i32, qF i33, qF i34, qF i35, qF i36, qF i37, qF i38, qF i39, qF i40, qF i41, qF i42, qF i43, qF i44, hL, hS, B4, B6, B7, B9, B12, B14, B16, B21, B23, B31⟩
   · refine GSlot.want rfl rfl (by decide) (fun g ac wc hr hI => ?_) ?_
     · obtain ⟨x8, x10, x15, x17, x22, x24, x28, x30, x27, x29, x7, x9, x14, x16, x21, x23, x31, i0, i1, i2, i3, i4, i5, i6, i7, i8, i9, i10, i11, i12, i13, i14, i15, i16, i17, i18, i19, i20, i21, i22, i23, i24, i25, i26, i27, i28, i29, i30, i31, i32, i33, i34, i35, i36, i37, i38, i39, i40, i41, i42, i43, i44, hL, hS, B4, B6, B7, B9, B12, B14, B16, B21, B23, B31⟩ := hI
       simp [Region.binds] at hr
       exact i3 (by simp [hr])
     unfold SlotStep
     intro g ac wc hn hk hr hI K' hK
     have HI := Lib.hid hI
     obtain ⟨x8, x10, x15, x17, x22, x24, x28, x30, x27, x29, x7, x9, x14, x16, x21, x23, x31, i0, i1, i2, i3, i4, i5, i6, i7, i8, i9, i10, i11, i12, i13, i14, i15, i16, i17, i18, i19, i20, i21, i22, i23, i24, i25, i26, i27, i28, i29, i30, i31, i32, i33, i34, i35, i36, i37, i38, i39, i40, i41, i42, i43, i44, hL, hS, B4, B6, B7, B9, B12, B14, B16, B21, B23, B31⟩ := hI
     simp [Region.binds] at hr
     replace hK := Lib.hid hK
     clear i0 i1 i2 i3 i4 i5 i6 i7 i8 i9 i10 i11 i12 i13 i14 i15 i16 i17 i18 i19 i20 i21 i22 i23 i24 i25 i26 i27 i28 i29 i30 i31 i32 i33 i34 i35 i36 i37 i38 i39 i40 i41 i42 i43 i44
     obtain ⟨c0, f0, z0⟩ := blk_at B9
     go_simp
     obtain ⟨-, -, -, -, -, -, -, -, -, -, -, -, -, -, -, -, -, i0, i1, i2, i3, i4, i5, i6, i7, i8, i9, i10, i11, i12, i13, i14, i15, i16, i17, i18, i19, i20, i21, i22, i23, i24, i25, i26, i27, i28, i29, i30, i31, i32, i33, i34, i35, i36, i37, i38, i39, i40, i41, i42, i43, i44, -⟩ := HI.out
     exact hK.out _ _ ⟨qB x8, qB x10, qB x15, qB x17, qB x22, qB x24, qB x28, qB x30, qB x27, qB x29, qB x7, qB x9, qB x14, qB x16, qB x21, qB x23, qB x31, qF i0, qF i1, qF i2, qF i3, qF i4, qP, qF i6, qF i7, qF i8, qF i9, qF i10, qF i11, qF i12, qF i13, qF i14, qF i15, qF i16, qF i17, qF i18, qF i19, qF i20, qF i21, qF i22, qF i23, qF i24, qF i25, qF i26, qF i27, qF i28, qF i29, qF i30, qF i31, qF i32, qF i33, qF i34, qF i35, qF i36, qF i37, qF i38, qF i39, qF i40, qF i41, qF i42, qF i43, qF i44, hL, hS, B4, B6, B7, B9, B12, B14, B16, B21, B23, B31⟩
   · refine GSlot.want rfl rfl (by decide) (fun g ac wc hr hI => ?_) ?_
     · obtain ⟨x8, x10, x15, x17, x22, x24, x28, x30, x27, x29, x7, x9, x14, x16, x21, x23, x31, i0, i1, i2, i3, i4, i5, i6, i7, i8, i9, i10, i11, i12, i13, i14, i15, i16, i17, i18, i19, i20, i21, i22, i23, i24, i25, i26, i27, i28, i29, i30, i31, i32, i33, i34, i35, i36, i37, i38, i39, i40, i41, i42, i43, i44, hL, hS, B4, B6, B7, B9, B12, B14, B16, B21, B23, B31⟩ := hI
       simp [Region.binds] at hr
       exact i3 (by simp [hr])
     unfold SlotStep
     intro g ac wc hn hk hr hI K' hK
     have HI := Lib.hid hI
     obtain ⟨x8, x10, x15, x17, x22, x24, x28, x30, x27, x29, x7, x9, x14, x16, x21, x23, x31, i0, i1, i2, i3, i4, i5, i6, i7, i8, i9, i10, i11, i12, i13, i14, i15, i16, i17, i18, i19, i20, i21, i22, i23, i24, i25, i26, i27, i28, i29, i30, i31, i32, i33, i34, i35, i36, i37, i38, i39, i40, i41, i42, i43, i44, hL, hS, B4, B6, B7, B9, B12, B14, B16, B21, B23, B31⟩ := hI
     simp [Region.binds] at hr
     replace hK := Lib.hid hK
     have y4 := i4 (by simp [hr])
     have y5 := i5 (by simp [hr])
     clear i0 i1 i2 i3 i4 i5 i6 i7 i8 i9 i10 i11 i12 i13 i14 i15 i16 i17 i18 i19 i20 i21 i22 i23 i24 i25 i26 i27 i28 i29 i30 i31 i32 i33 i34 i35 i36 i37 i38 i39 i40 i41 i42 i43 i44
     go_simp
     obtain ⟨-, -, -, -, -, -, -, -, -, -, -, -, -, -, -, -, -, i0, i1, i2, i3, i4, i5, i6, i7, i8, i9, i10, i11, i12, i13, i14, i15, i16, i17, i18, i19, i20, i21, i22, i23, i24, i25, i26, i27, i28, i29, i30, i31, i32, i33, i34, i35, i36, i37, i38, i39, i40, i41, i42, i43, i44, -⟩ := HI.out
     exact hK.out _ _ ⟨qB x8, qB x10, qB x15, qB x17, qB x22, qB x24, qB x28, qB x30, qB x27, qB x29, qB x7, qB x9, qB x14, qB x16, qB x21, qB x23, qB x31, qF i0, qF i1, qF i2, qF i3, qF i4, qF i5, qP, qF i7, qF i8, qF i9, qF i10, qF i11, qF i12, qF i13, qF i14, qF i15, qF i16, qF i17, qF i18, qF i19, qF i20, qF i21, qF i22, qF i23, qF i24, qF i25, qF i26, qF i27, qF i28, qF i29, qF i30, qF i31, qF i32, qF i33, qF i34, qF i35, qF i36, qF i37, qF i38, qF i39, qF i40, qF i41, qF i42, qF i43, qF i44, hL, hS, B4, B6, B7, B9, B12, B14, B16, B21, B23, B31⟩
   · refine GSlot.of rfl ?_
     unfold SlotStep
     intro g ac wc hn hk hr hI K' hK
     have HI := Lib.hid hI
     obtain ⟨x8, x10, x15, x17, x22, x24, x28, x30, x27, x29, x7, x9, x14, x16, x21, x23, x31, i0, i1, i2, i3, i4, i5, i6, i7, i8, i9, i10, i11, i12, i13, i14, i15, i16, i17, i18, i19, i20, i21, i22, i23, i24, i25, i26, i27, i28, i29, i30, i31, i32, i33, i34, i35, i36, i37, i38, i39, i40, i41, i42, i43, i44, hL, hS, B4, B6, B7, B9, B12, B14, B16, B21, B23, B31⟩ := hI
     simp [Region.binds] at hr
     replace hK := Lib.hid hK
     have y3 := i3 (by simp [hr])
     have y6 := i6 (by simp [hr])
     have z3 := sl_get y3 (by omega)
     have z6 := sl_get y6 (by omega)
     clear i0 i1 i2 i3 i4 i5 i6 i7 i8 i9 i10 i11 i12 i13 i14 i15 i16 i17 i18 i19 i20 i21 i22 i23 i24 i25 i26 i27 i28 i29 i30 i31 i32 i33 i34 i35 i36 i37 i38 i39 i40 i41 i42 i43 i44
     go_simp
     obtain ⟨-, -, -, -, -, -, -, -, -, -, -, -, -, -, -, -, -, i0, i1, i2, i3, i4, i5, i6, i7, i8, i9, i10, i11, i12, i13, i14, i15, i16, i17, i18, i19, i20, i21, i22, i23, i24, i25, i26, i27, i28, i29, i30, i31, i32, i33, i34, i35, i36, i37, i38, i39, i40, i41, i42, i43, i44, -⟩ := HI.out
     exact hK.out _ _ ⟨qB x8, qB x10, qB x15, qB x17, qB x22, qB x24, qB x28, qB x30, qB x27, qB x29, qB x7, qB x9, qB x14, qB x16, qB x21, qB x23, qB x31, qF i0, qF i1, qF i2, qF i3, qF i4, qF i5, qF i6, qP, qF i8, qF i9, qF i10, qF i11, qF i12, qF i13, qF i14, qF i15, qF i16, qF i17, qF i18, qF i19, qF i20, qF i21, qF i22, qF i23, qF i24, qF i25, qF i26, qF i27, qF i28, qF i29, qF i30, qF i31, qF i32, qF i33, qF i34, qF i35, qF i36, qF i37, qF i38, qF i39, qF i40, qF i41, qF i42, qF i43, qF i44, hL, hS, B4, B6, B7, B9, B12, B14, B16, B21, B23, B31⟩
   · refine GSlot.of rfl ?_
     unfold SlotStep
     intro g ac wc hn hk hr hI K' hK
     have HI := Lib.hid hI
     obtain ⟨x8, x10, x15, x17, x22, x24, x28, x30, x27, x29, x7, x9, x14, x16, x21, x23, x31, i0, i1, i2, i3, i4, i5, i6, i7, i8, i9, i10, i11, i12, i13, i14, i15, i16, i17, i18, i19, i20, i21, i22, i23, i24, i25, i26, i27, i28, i29, i30, i31, i32, i33, i34, i35, i36, i37, i38, i39, i40, i41, i42, i43, i44, hL, hS, B4, B6, B7, B9, B12, B14, B16, B21, B23, B31⟩ := hI
     simp [Region.binds] at hr
     replace hK := Lib.hid hK
     have y7 := i7 (by simp [hr])
     clear i0 i1 i2 i3 i4 i5 i6 i7 i8 i9 i10 i11 i12 i13 i14 i15 i16 i17 i18 i19 i20 i21 i22 i23 i24 i25 i26 i27 i28 i29 i30 i31 i32 i33 i34 i35 i36 i37 i38 i39 i40 i41 i42 i43 i44
     go_simp
     obtain ⟨-, -, -, -, -, -, -, -, -, -, -, -, -, -, -, -, -, i0, i1, i2, i3, i4, i5, i6, i7, i8, i9, i10, i11, i12, i13, i14, i15, i16, i17, i18, i19, i20, i21, i22, i23, i24, i25, i26, i27, i28, i29, i30, i31, i32, i33, i34, i35, i36, i37, i38, i39, i40, i41, i42, i43, i44, -⟩ := HI.out
     exact hK.out _ _ ⟨qB x8, qB x10, qB x15, qB x17, qB x22, qB x24, qB x28, qB x30, qB x27, qB x29, qB x7, qB x9, qB x14, qB x16, qB x21, qB x23, qB x31, qF i0, qF i1, qF i2, qF i3, qF i4, qF i5, qF i6, qF i7, qP, qF i9, qF i10, qF i11, qF i12, qF i13, qF i14, qF i15, qF i16, qF i17, qF i18, qF i19, qF i20, qF i21, qF i22, qF i23, qF i24, qF i25, qF i26, qF i27, qF i28, qF i29, qF i30, qF i31, qF i32, qF i33, qF i34, qF i35, qF i36, qF i37, qF i38, qF i39, qF i40, qF i41, qF i42, qF i43, qF i44, hL, hS, B4, B6, B7, B9, B12, B14, B16, B21, B23, B31⟩
   · refine GSlot.want rfl rfl (by decide) (fun g ac wc hr hI => ?_) ?_
     · obtain ⟨x8, x10, x15, x17, x22, x24, x28, x30, x27, x29, x7, x9, x14, x16, x21, x23, x31, i0, i1, i2, i3, i4, i5, i6, i7, i8, i9, i10, i11, i12, i13, i14, i15, i16, i17, i18, i19, i20, i21, i22, i23, i24, i25, i26, i27, i28, i29, i30, i31, i32, i33, i34, i35, i36, i37, i38, i39, i40, i41, i42, i43, i44, hL, hS, B4, B6, B7, B9, B12, B14, B16, B21, B23, B31⟩ := hI
       simp [Region.binds] at hr
       exact i8 (by simp [hr])
     unfold SlotStep
     intro g ac wc hn hk hr hI K' hK
     have HI := Lib.hid hI
     obtain ⟨x8, x10, x15, x17, x22, x24, x28, x30, x27, x29, x7, x9, x14, x16, x21, x23, x31, i0, i1, i2, i3, i4, i5, i6, i7, i8, i9, i10, i11, i12, i13, i14, i15, i16, i17, i18, i19, i20, i21, i22, i23, i24, i25, i26, i27, i28, i29, i30, i31, i32, i33, i34, i35, i36, i37, i38, i39, i40, i41, i42, i43, i44, hL, hS, B4, B6, B7, B9, B12, B14, B16, B21, B23, B31⟩ := hI
     simp [Region.binds] at hr
     replace hK := Lib.hid hK
     clear i0 i1 i2 i3 i4 i5 i6 i7 i8 i9 i10 i11 i12 i13 i14 i15 i16 i17 i18 i19 i20 i21 i22 i23 i24 i25 i26 i27 i28 i29 i30 i31 i32 i33 i34 i35 i36 i37 i38 i39 i40 i41 i42 i43 i44
     go_simp
     obtain ⟨-, -, -, -, -, -, -, -, -, -, -, -, -, -, -, -, -, i0, i1, i2, i3, i4, i5, i6, i7, i8, i9, i10, i11, i12, i13, i14, i15, i16, i17, i18, i19, i20, i21, i22, i23, i24, i25, i26, i27, i28, i29, i30, i31, i32, i33, i34, i35, i36, i37, i38, i39, i40, i41, i42, i43, i44, -⟩ := HI.out
     exact hK.out _ _ ⟨qB x8, qB x10, qB x15, qB x17, qB x22, qB x24, qB x28, qB x30, qB x27, qB x29, qB x7, qB x9, qB x14, qB x16, qB x21, qB x23, qB x31, qF i0, qF i1, qF i2, qF i3, qF i4, qF i5, qF i6, qF i7, qF i8, qP, qF i10, qF i11, qF i12, qF i13, qF i14, qF i15, qF i16, qF i17, qF i18, qF i19, qF i20, qF i21, qF i22, qF i23, qF i24, qF i25, qF i26, qF i27, qF i28, qF i29, qF i30, qF i31, qF i32, qF i33, qF i34, qF i35, qF i36, qF i37, qF i38, qF i39, qF i40, qF i41, qF i42, qF i43, qF i44, hL, hS, B4, B6, B7, B9, B12, B14, B16, B21, B23, B31⟩
   · refine GSlot.want rfl rfl (by decide) (fun g ac wc hr hI => ?_) ?_
     · obtain ⟨x8, x10, x15, x17, x22, x24, x28, x30, x27, x29, x7, x9, x14, x16, x21, x23, x31, i0, i1, i2, i3, i4, i5, i6, i7, i8, i9, i10, i11, i12, i13, i14, i15, i16, i17, i18, i19, i20, i21, i22, i23, i24, i25, i26, i27, i28, i29, i30, i31, i32, i33, i34, i35, i36, i37, i38, i39, i40, i41, i42, i43, i44, hL, hS, B4, B6, B7, B9, B12, B14, B16, B21, B23, B31⟩ := hI
       simp [Region.binds] at hr
       exact i8 (by simp [hr])
     unfold SlotStep
     intro g ac wc hn hk hr hI K' hK
     have HI := Lib.hid hI
     obtain ⟨x8, x10, x15, x17, x22, x24, x28, x30, x27, x29, x7, x9, x14, x16, x21, x23, x31, i0, i1, i2, i3, i4, i5, i6, i7, i8, i9, i10, i11, i12, i13, i14, i15, i16, i17, i18, i19, i20, i21, i22, i23, i24, i25, i26, i27, i28, i29, i30, i31, i32, i33, i34, i35, i36, i37, i38, i39, i40, i41, i42, i43, i44, hL, hS, B4, B6, B7, B9, B12, B14, B16, B21, B23, B31⟩ := hI
     simp [Region.binds] at hr
     replace hK := Lib.hid hK
     clear i0 i1 i2 i3 i4 i5 i6 i7 i8 i9 i10 i11 i12 i13 i14 i15 i16 i17 i18 i19 i20 i21 i22 i23 i24 i25 i26 i27 i28 i29 i30 i31 i32 i33 i34 i35 i36 i37 i38 i39 i40 i41 i42 i43 i44
     go_simp
     obtain ⟨-, -, -, -, -, -, -, -, -, -, -, -, -, -, -, -, -, i0, i1, i2, i3, i4, i5, i6, i7, i8, i9, i10, i11, i12, i13, i14, i15, i16, i17, i18, i19, i20, i21, i22, i23, i24, i25, i26, i27, i28, i29, i30, i31, i32, i33, i34, i35, i36, i37, i38, i39, i40, i41, i42, i43, i44, -⟩ := HI.out
     exact hK.out _ _ ⟨qB x8, qB x10, qB x15, qB x17, qB x22, qB x24, qB x28, qB x30, qB x27, qB x29, qB x7, qB x9, qB x14, qB x16, qB x21, qB x23, qB x31, qF i0, qF i1, qF i2, qF i3, qF i4, qF i5, qF i6, qF i7, qF i8, qF i9, qP, qF i11, qF i12, qF i13, qF i14, qF i15, qF i16, qF i17, qF i18, qF i19, qF i20, qF i21, qF i22, qF i23, qF i24, qF i25, qF i26, qF i27, qF i28, qF i29, qF i30, qF i31, qF i32, qF i33, qF i34, qF i35, qF i36, qF i37, qF i38, qF i39, qF i40, qF i41, qF i42, qF i43, qF i44, hL, hS, B4, B6, B7, B9, B12, B14, B16, B21, B23, B31⟩
   · refine GSlot.want rfl rfl (by decide) (fun g ac wc hr hI => ?_) ?_
     · obtain ⟨x8, x10, x15, x17, x22, x24, x28, x30, x27, x29, x7, x9, x14, x16, x21, x23, x31, i0, i1, i2, i3, i4, i5, i6, i7, i8, i9, i10, i11, i12, i13, i14, i15, i16, i17, i18, i19, i20, i21, i22, i23, i24, i25, i26, i27, i28, i29, i30, i31, i32, i33, i34, i35, i36, i37, i38, i39, i40, i41, i42, i43, i44, hL, hS, B4, B6, B7, B9, B12, B14, B16, B21, B23, B31⟩ := hI
       simp [Region.binds] at hr
       exact i8 (by simp [hr])
     unfold SlotStep
     intro g ac wc hn hk hr hI K' hK
     have HI := Lib.hid hI
     obtain ⟨x8, x10, x15, x17, x22, x24, x28, x30, x27, x29, x7, x9, x14, x16, x21, x23, x31, i0, i1, i2, i3, i4, i5, i6, i7, i8, i9, i10, i11, i12, i13, i14, i15, i16, i17, i18, i19, i20, i21, i22, i23, i24, i25, i26, i27, i28, i29, i30, i31, i32, i33, i34, i35, i36, i37, i38, i39, i40, i41, i42, i43, i44, hL, hS, B4, B6, B7, B9, B12, B14, B16, B21, B23, B31⟩ := hI
     simp [Region.binds] at hr
     replace hK := Lib.hid hK
     have y9 := i9 (by simp [hr])
     have y10 := i10 (by simp [hr])
     clear i0 i1 i2 i3 i4 i5 i6 i7 i8 i9 i10 i11 i12 i13 i14 i15 i16 i17 i18 i19 i20 i21 i22 i23 i24 i25 i26 i27 i28 i29 i30 i31 i32 i33 i34 i35 i36 i37 i38 i39 i40 i41 i42 i43 i44
     go_simp
     obtain ⟨-, -, -, -, -, -, -, -, -, -, -, -, -, -, -, -, -, i0, i1, i2, i3, i4, i5, i6, i7, i8, i9, i10, i11, i12, i13, i14, i15, i16, i17, i18, i19, i20, i21, i22, i23, i24, i25, i26, i27, i28, i29, i30, i31, i32, i33, i34, i35, i36, i37, i38, i39, i40, i41, i42, i43, i44, -⟩ := HI.out
     exact hK.out _ _ ⟨qB x8, qB x10, qB x15, qB x17, qB x22, qB x24, qB x28, qB x30, qB x27, qB x29, qB x7, qB x9, qB x14, qB x16, qB x21, qB x23, qB x31, qF i0, qF i1, qF i2, qF i3, qF i4, qF i5, qF i6, qF i7, qF i8, qF i9, qF i10, qP, qF i12, qF i13, qF i14, qF i15, qF i16, qF i17, qF i18, qF i19, qF i20, qF i21, qF i22, qF i23, qF i24, qF i25, qF i26, qF i27, qF i28, qF i29, qF i30, qF i31, qF i32, qF i33, qF i34, qF i35, qF i36, qF i37, qF i38, qF i39, qF i40, qF i41, qF i42, qF i43, qF i44, hL, hS, B4, B6, B7, B9, B12, B14, B16, B21, B23, B31⟩
   · refine GSlot.of rfl ?_
     unfold SlotStep
     intro g ac wc hn hk hr hI K' hK
     have HI := Lib.hid hI
     obtain ⟨x8, x10, x15, x17, x22, x24, x28, x30, x27, x29, x7, x9, x14, x16, x21, x23, x31, i0, i1, i2, i3, i4, i5, i6, i7, i8, i9, i10, i11, i12, i13, i14, i15, i16, i17, i18, i19, i20, i21, i22, i23, i24, i25, i26, i27, i28, i29, i30, i31, i32, i33, i34, i35, i36, i37, i38, i39, i40, i41, i42, i43, i44, hL, hS, B4, B6, B7, B9, B12, B14, B16, B21, B23, B31⟩ := hI
     simp [Region.binds] at hr
     replace hK := Lib.hid hK
     have y8 := i8 (by simp [hr])
     have y11 := i11 (by simp [hr])
     have z8 := sl_get y8 (by omega)
     have z11 := sl_get y11 (by omega)
     clear i0 i1 i2 i3 i4 i5 i6 i7 i8 i9 i10 i11 i12 i13 i14 i15 i16 i17 i18 i19 i20 i21 i22 i23 i24 i25 i26 i27 i28 i29 i30 i31 i32 i33 i34 i35 i36 i37 i38 i39 i40 i41 i42 i43 i44
     go_simp
     obtain ⟨-, -, -, -, -, -, -, -, -, -, -, -, -, -, -, -, -, i0, i1, i2, i3, i4, i5, i6, i7, i8, i9, i10, i11, i12, i13, i14, i15, i16, i17, i18, i19, i20, i21, i22, i23, i24, i25, i26, i27, i28, i29, i30, i31, i32, i33, i34, i35, i36, i37, i38, i39, i40, i41, i42, i43, i44, -⟩ := HI.out
     exact hK.out _ _ ⟨qB x8, qB x10, qB x15, qB x17, qB x22, qB x24, qB x28, qB x30, qB x27, qB x29, qB x7, qB x9, qB x14, qB x16, qB x21, qB x23, qB x31, qF i0, qF i1, qF i2, qF i3, qF i4, qF i5, qF i6, qF i7, qF i8, qF i9, qF i10, qF i11, qP, qF i13, qF i14, qF i15, qF i16, qF i17, qF i18, qF i19, qF i20, qF i21, qF i22, qF i23, qF i24, qF i25, qF i26, qF i27, qF i28, qF i29, qF i30, qF i31, qF i32, qF i33, qF i34, qF i35, qF i36, qF i37, qF i38, qF i39, qF i40, qF i41, qF i42, qF i43, qF i44, hL, hS, B4, B6, B7, B9, B12, B14, B16, B21, B23, B31⟩
   · refine GSlot.of rfl ?_
     unfold SlotStep
     intro g ac wc hn hk hr hI K' hK
     have HI := Lib.hid hI
     obtain ⟨x8, x10, x15, x17, x22, x24, x28, x30, x27, x29, x7, x9, x14, x16, x21, x23, x31, i0, i1, i2, i3, i4, i5, i6, i7, i8, i9, i10, i11, i12, i13, i14, i15, i16, i17, i18, i19, i20, i21, i22, i23, i24, i25, i26, i27, i28, i29, i30, i31, i32, i33, i34, i35, i36, i37, i38, i39, i40, i41, i42, i43, i44, hL, hS, B4, B6, B7, B9, B12, B14, B16, B21, B23, B31⟩ := hI
     simp [Region.binds] at hr
     replace hK := Lib.hid hK
     have y12 := i12 (by simp [hr])
     clear i0 i1 i2 i3 i4 i5 i6 i7 i8 i9 i10 i11 i12 i13 i14 i15 i16 i17 i18 i19 i20 i21 i22 i23 i24 i25 i26 i27 i28 i29 i30 i31 i32 i33 i34 i35 i36 i37 i38 i39 i40 i41 i42 i43 i44
     go_simp
     obtain ⟨-, -, -, -, -, -, -, -, -, -, -, -, -, -, -, -, -, i0, i1, i2, i3, i4, i5, i6, i7, i8, i9, i10, i11, i12, i13, i14, i15, i16, i17, i18, i19, i20, i21, i22, i23, i24, i25, i26, i27, i28, i29, i30, i31, i32, i33, i34, i35, i36, i37, i38, i39, i40, i41, i42, i43, i44, -⟩ := HI.out
     exact hK.out _ _ ⟨qB x8, qB x10, qB x15, qB x17, qB x22, qB x24, qB x28, qB x30, qB x27, qB x29, qB x7, qB x9, qB x14, qB x16, qB x21, qB x23, qB x31, qF i0, qF i1, qF i2, qF i3, qF i4, qF i5, qF i6, qF i7, qF i8, qF i9, qF i10, qF i11, qF i12, qP, qF i14, qF i15, qF i16, qF i17, qF i18, qF i19, qF i20, qF i21, qF i22, qF i23, qF i24, qF i25, qF i26, qF i27, qF i28, qF i29, qF i30, qF i31, qF i32, qF i33, qF i34, qF i35, qF i36, qF i37, qF i38, qF i39, qF i40, qF i41, qF i42, qF i43, qF i44, hL, hS, B4, B6, B7, B9, B12, B14, B16, B21, B23, B31⟩
   · refine GSlot.want rfl rfl (by decide) (fun g ac wc hr hI => ?_) ?_
     · obtain ⟨x8, x10, x15, x17, x22, x24, x28, x30, x27, x29, x7, x9, x14, x16, x21, x23, x31, i0, i1, i2, i3, i4, i5, i6, i7, i8, i9, i10, i11, i12, i13, i14, i15, i16, i17, i18, i19, i20, i21, i22, i23, i24, i25, i26, i27, i28, i29, i30, i31, i32, i33, i34, i35, i36, i37, i38, i39, i40, i41, i42, i43, i44, hL, hS, B4, B6, B7, B9, B12, B14, B16, B21, B23, B31⟩ := hI
       simp [Region.binds] at hr
       exact i13 (by simp [hr])
     unfold SlotStep
     intro g ac wc hn hk hr hI K' hK
     have HI := Lib.hid hI
     obtain ⟨x8, x10, x15, x17, x22, x24, x28, x30, x27, x29, x7, x9, x14, x16, x21, x23, x31, i0, i1, i2, i3, i4, i5, i6, i7, i8, i9, i10, i11, i12, i13, i14, i15, i16, i17, i18, i19, i20, i21, i22, i23, i24, i25, i26, i27, i28, i29, i30, i31, i32, i33, i34, i35, i36, i37, i38, i39, i40, i41, i42, i43, i44, hL, hS, B4, B6, B7, B9, B12, B14, B16, B21, B23, B31⟩ := hI
     simp [Region.binds] at hr
     replace hK := Lib.hid hK
     clear i0 i1 i2 i3 i4 i5 i6 i7 i8 i9 i10 i11 i12 i13 i14 i15 i16 i17 i18 i19 i20 i21 i22 i23 i24 i25 i26 i27 i28 i29 i30 i31 i32 i33 i34 i35 i36 i37 i38 i39 i40 i41 i42 i43 i44
     obtain ⟨c0, f0, z0⟩ := blk_at B14
     go_simp
     obtain ⟨-, -, -, -, -, -, -, -, -, -, -, -, -, -, -, -, -, i0, i1, i2, i3, i4, i5, i6, i7, i8, i9, i10, i11, i12, i13, i14, i15, i16, i17, i18, i19, i20, i21, i22, i23, i24, i25, i26, i27, i28, i29, i30, i31, i32, i33, i34, i35, i36, i37, i38, i39, i40, i41, i42, i43, i44, -⟩ := HI.out
     exact hK.out _ _ ⟨qB x8, qB x10, qB x15, qB x17, qB x22, qB x24, qB x28, qB x30, qB x27, qB x29, qB x7, qB x9, qB x14, qB x16, qB x21, qB x23, qB x31, qF i0, qF i1, qF i2, qF i3, qF i4, qF i5, qF i6, qF i7, qF i8, qF i9, qF i10, qF i11, qF i12, qF i13, qP, qF i15, qF i16, qF i17, qF i18, qF i19, qF i20, qF i21, qF i22, qF i23, qF i24, qF i25, qF i26, qF i27, qF i28, qF i29, qF i30, qF i31, qF i32, qF i33, qF i34, qF i35, qF i36, qF i37, qF i38, qF i39, qF i40, qF i41, qF i42, qF i43, qF i44, hL, hS, B4, B6, B7, B9, B12, B14, B16, B21, B23, B31⟩
   · refine GSlot.want rfl rfl (by decide) (fun g ac wc hr hI => ?_) ?_
     · obtain ⟨x8, x10, x15, x17, x22, x24, x28, x30, x27, x29, x7, x9, x14, x16, x21, x23, x31, i0, i1, i2, i3, i4, i5, i6, i7, i8, i9, i10, i11, i12, i13, i14, i15, i16, i17, i18, i19, i20, i21, i22, i23, i24, i25, i26, i27, i28, i29, i30, i31, i32, i33, i34, i35, i36, i37, i38, i39, i40, i41, i42, i43, i44, hL, hS, B4, B6, B7, B9, B12, B14, B16, B21, B23, B31⟩ := hI
       simp [Region.binds] at hr
       exact i13 (by simp [hr])
     unfold SlotStep
     intro g ac wc hn hk hr hI K' hK
     have HI := Lib.hid hI
     obtain ⟨x8, x10, x15, x17, x22, x24, x28, x30, x27, x29, x7, x9, x14, x16, x21, x23, x31, i0, i1, i2, i3, i4, i5, i6, i7, i8, i9, i10, i11, i12, i13, i14, i15, i16, i17, i18, i19, i20, i21, i22, i23, i24, i25, i26, i27, i28, i29, i30, i31, i32, i33, i34, i35, i36, i37, i38, i39, i40, i41, i42, i43, i44, hL, hS, B4, B6, B7, B9, B12, B14, B16, B21, B23, B31⟩ := hI
     simp [Region.binds] at hr
     replace hK := Lib.hid hK
     clear i0 i1 i2 i3 i4 i5 i6 i7 i8 i9 i10 i11 i12 i13 i14 i15 i16 i17 i18 i19 i20 i21 i22 i23 i24 i25 i26 i27 i28 i29 i30 i31 i32 i33 i34 i35 i36 i37 i38 i39 i40 i41 i42 i43 i44
     obtain ⟨c0, f0, z0⟩ := blk_at B16
     go_simp
     obtain ⟨-, -, -, -, -, -, -, -, -, -, -, -, -, -, -, -, -, i0, i1, i2, i3, i4, i5, i6, i7, i8, i9, i10, i11, i12, i13, i14, i15, i16, i17, i18, i19, i20, i21, i22, i23, i24, i25, i26, i27, i28, i29, i30, i31, i32, i33, i34, i35, i36, i37, i38, i39, i40, i41, i42, i43, i44, -⟩ := HI.out
     exact hK.out _ _ ⟨qB x8, qB x10, qB x15, qB x17, qB x22, qB x24, qB x28, qB x30, qB x27, qB x29, qB x7, qB x9, qB x14, qB x16, qB x21, qB x23, qB x31, qF i0, qF i1, qF i2, qF i3, qF i4, qF i5, qF i6, qF i7, qF i8, qF i9, qF i10, qF i11, qF i12, qF i13, qF i14, qP, qF i16, qF i17, qF i18, qF i19, qF i20, qF i21, qF i22, qF i23, qF i24, qF i25, qF i26, qF i27, qF i28, qF i29, qF i30, qF i31, qF i32, qF i33, qF i34, qF i35, qF i36, qF i37, qF i38, qF i39, qF i40, qF i41, qF i42, qF i43, qF i44, hL, hS, B4, B6, B7, B9, B12, B14, B16, B21, B23, B31⟩
   · refine GSlot.want rfl rfl (by decide) (fun g ac wc hr hI => ?_) ?_
     · obtain ⟨x8, x10, x15, x17, x22, x24, x28, x30, x27, x29, x7, x9, x14, x16, x21, x23, x31, i0, i1, i2, i3, i4, i5, i6, i7, i8, i9, i10, i11, i12, i13, i14, i15, i16, i17, i18, i19, i20, i21, i22, i23, i24, i25, i26, i27, i28, i29, i30, i31, i32, i33, i34, i35, i36, i37, i38, i39, i40, i41, i42, i43, i44, hL, hS, B4, B6, B7, B9, B12, B14, B16, B21, B23, B31⟩ := hI
       simp [Region.binds] at hr
       exact i13 (by simp [hr])
     unfold SlotStep
     intro g ac wc hn hk hr hI K' hK
     have HI := Lib.hid hI
     obtain ⟨x8, x10, x15, x17, x22, x24, x28, x30, x27, x29, x7, x9, x14, x16, x21, x23, x31, i0, i1, i2, i3, i4, i5, i6, i7, i8, i9, i10, i11, i12, i13, i14, i15, i16, i17, i18, i19, i20, i21, i22, i23, i24, i25, i26, i27, i28, i29, i30, i31, i32, i33, i34, i35, i36, i37, i38, i39, i40, i41, i42, i43, i44, hL, hS, B4, B6, B7, B9, B12, B14, B16, B21, B23, B31⟩ := hI
     simp [Region.binds] at hr
     replace hK := Lib.hid hK
     have y14 := i14 (by simp [hr])
     have y15 := i15 (by simp [hr])
     clear i0 i1 i2 i3 i4 i5 i6 i7 i8 i9 i10 i11 i12 i13 i14 i15 i16 i17 i18 i19 i20 i21 i22 i23 i24 i25 i26 i27 i28 i29 i30 i31 i32 i33 i34 i35 i36 i37 i38 i39 i40 i41 i42 i43 i44
     go_simp
     obtain ⟨-, -, -, -, -, -, -, -, -, -, -, -, -, -, -, -, -, i0, i1, i2, i3, i4, i5, i6, i7, i8, i9, i10, i11, i12, i13, i14, i15, i16, i17, i18, i19, i20, i21, i22, i23, i24, i25, i26, i27, i28, i29, i30, i31, i32, i33, i34, i35, i36, i37, i38, i39, i40, i41, i42, i43, i44, -⟩ := HI.out
     exact hK.out _ _ ⟨qB x8, qB x10, qB x15, qB x17, qB x22, qB x24, qB x28, qB x30, qB x27, qB x29, qB x7, qB x9, qB x14, qB x16, qB x21, qB x23, qB x31, qF i0, qF i1, qF i2, qF i3, qF i4, qF i5, qF i6, qF i7, qF i8, qF i9, qF i10, qF i11, qF i12, qF i13, qF i14, qF i15, qP, qF i17, qF i18, qF i19, qF i20, qF i21, qF i22, qF i23, qF i24, qF i25, qF i26, qF i27, qF i28, qF i29, qF i30, qF i31, qF i32, qF i33, qF i34, qF i35, qF i36, qF i37, qF i38, qF i39, qF i40, qF i41, qF i42, qF i43, qF i44, hL, hS, B4, B6, B7, B9, B12, B14, B16, B21, B23, B31⟩
   · refine GSlot.of rfl ?_
     unfold SlotStep
     intro g ac wc hn hk hr hI K' hK
     have HI := Lib.hid hI
     obtain ⟨x8, x10, x15, x17, x22, x24, x28, x30, x27, x29, x7, x9, x14, x16, x21, x23, x31, i0, i1, i2, i3, i4, i5, i6, i7, i8, i9, i10, i11, i12, i13, i14, i15, i16, i17, i18, i19, i20, i21, i22, i23, i24, i25, i26, i27, i28, i29, i30, i31, i32, i33, i34, i35, i36, i37, i38, i39, i40, i41, i42, i43, i44, hL, hS, B4, B6, B7, B9, B12, B14, B16, B21, B23, B31⟩ := hI
     simp [Region.binds] at hr
     replace hK := Lib.hid hK
     have y13 := i13 (by simp [hr])
     have y16 := i16 (by simp [hr])
     have z13 := sl_get y13 (by omega)
     have z16 := sl_get y16 (by omega)
     clear i0 i1 i2 i3 i4 i5 i6 i7 i8 i9 i10 i11 i12 i13 i14 i15 i16 i17 i18 i19 i20 i21 i22 i23 i24 i25 i26 i27 i28 i29 i30 i31 i32 i33 i34 i35 i36 i37 i38 i39 i40 i41 i42 i43 i44
     go_simp
     obtain ⟨-, -, -, -, -, -, -, -, -, -, -, -, -, -, -, -, -, i0, i1, i2, i3, i4, i5, i6, i7, i8, i9, i10, i11, i12, i13, i14, i15, i16, i17, i18, i19, i20, i21, i22, i23, i24, i25, i26, i27, i28, i29, i30, i31, i32, i33, i34, i35, i36, i37, i38, i39, i40, i41, i42, i43, i44, -⟩ := HI.out
     exact hK.out _ _ ⟨qB x8, qB x10, qB x15, qB x17, qB x22, qB x24, qB x28, qB x30, qB x27, qB x29, qB x7, qB x9, qB x14, qB x16, qB x21, qB x23, qB x31, qF i0, qF i1, qF i2, qF i3, qF i4, qF i5, qF i6, qF i7, qF i8, qF i9, qF i10, qF i11, qF i12, qF i13, qF i14, qF i15, qF i16, qP, qF i18, qF i19, qF i20, qF i21, qF i22, qF i23, qF i24, qF i25, qF i26, qF i27, qF i28, qF i29, qF i30, qF i31, qF i32, qF i33, qF i34, qF i35, qF i36, qF i37, qF i38, qF i39, qF i40, qF i41, qF i42, qF i43, qF i44, hL, hS, B4, B6, B7, B9, B12, B14, B16, B21, B23, B31⟩
   · refine GSlot.of rfl ?_
     unfold SlotStep
     intro g ac wc hn hk hr hI K' hK
     have HI := Lib.hid hI
     obtain ⟨x8, x10, x15, x17, x22, x24, x28, x30, x27, x29, x7, x9, x14, x16, x21, x23, x31, i0, i1, i2, i3, i4, i5, i6, i7, i8, i9, i10, i11, i12, i13, i14, i15, i16, i17, i18, i19, i20, i21, i22, i23, i24, i25, i26, i27, i28, i29, i30, i31, i32, i33, i34, i35, i36, i37, i38, i39, i40, i41, i42, i43, i44, hL, hS, B4, B6, B7, B9, B12, B14, B16, B21, B23, B31⟩ := hI
     simp [Region.binds] at hr
     replace hK := Lib.hid hK
     have y17 := i17 (by simp [hr])
     clear i0 i1 i2 i3 i4 i5 i6 i7 i8 i9 i10 i11 i12 i13 i14 i15 i16 i17 i18 i19 i20 i21 i22 i23 i24 i25 i26 i27 i28 i29 i30 i31 i32 i33 i34 i35 i36 i37 i38 i39 i40 i41 i42 i43 i44
     go_simp
     obtain ⟨-, -, -, -, -, -, -, -, -, -, -, -, -, -, -, -, -, i0, i1, i2, i3, i4, i5, i6, i7, i8, i9, i10, i11, i12, i13, i14, i15, i16, i17, i18, i19, i20, i21, i22, i23, i24, i25, i26, i27, i28, i29, i30, i31, i32, i33, i34, i35, i36, i37, i38, i39, i40, i41, i42, i43, i44, -⟩ := HI.out
     exact hK.out _ _ ⟨qB x8, qB x10, qB x15, qB x17, qB x22, qB x24, qB x28, qB x30, qB x27, qB x29, qB x7, qB x9, qB x14, qB x16, qB x21, qB x23, qB x31, qF i0, qF i1, qF i2, qF i3, qF i4, qF i5, qF i6, qF i7, qF i8, qF i9, qF i10, qF i11, qF i12, qF i13, qF i14, qF i15, qF i16, qF i17, qP, qF i19, qF i20, qF i21, qF i22, qF i23, qF i24, qF i25, qF i26, qF i27, qF i28, qF i29, qF i30, qF i31, qF i32, qF i33, qF i34, qF i35, qF i36, qF i37, qF i38, qF i39, qF i40, qF i41, qF i42, qF i43, qF i44, hL, hS, B4, B6, B7, B9, B12, B14, B16, B21, B23, B31⟩
   · refine GSlot.want rfl rfl (by decide) (fun g ac wc hr hI => ?_) ?_
     · obtain ⟨x8, x10, x15, x17, x22, x24, x28, x30, x27, x29, x7, x9, x14, x16, x21, x23, x31, i0, i1, i2, i3, i4, i5, i6, i7, i8, i9, i10, i11, i12, i13, i14, i15, i16, i17, i18, i19, i20, i21, i22, i23, i24, i25, i26, i27, i28, i29, i30, i31, i32, i33, i34, i35, i36, i37, i38, i39, i40, i41, i42, i43, i44, hL, hS, B4, B6, B7, B9, B12, B14, B16, B21, B23, B31⟩ := hI
       simp [Region.binds] at hr
       exact i18 (by simp [hr])
     unfold SlotStep
     intro g ac wc hn hk hr hI K' hK
     have HI := Lib.hid hI
     obtain ⟨x8, x10, x15, x17, x22, x24, x28, x30, x27, x29, x7, x9, x14, x16, x21, x23, x31, i0, i1, i2, i3, i4, i5, i6, i7, i8, i9, i10, i11, i12, i13, i14, i15, i16, i17, i18, i19, i20, i21, i22, i23, i24, i25, i26, i27, i28, i29, i30, i31, i32, i33, i34, i35, i36, i37, i38, i39, i40, i41, i42, i43, i44, hL, hS, B4, B6, B7, B9, B12, B14, B16, B21, B23, B31⟩ := hI
     simp [Region.binds] at hr
     replace hK := Lib.hid hK
     clear i0 i1 i2 i3 i4 i5 i6 i7 i8 i9 i10 i11 i12 i13 i14 i15 i16 i17 i18 i19 i20 i21 i22 i23 i24 i25 i26 i27 i28 i29 i30 i31 i32 i33 i34 i35 i36 i37 i38 i39 i40 i41 i42 i43 i44
     go_simp
     obtain ⟨-, -, -, -, -, -, -, -, -, -, -, -, -, -, -, -, -, i0, i1, i2, i3, i4, i5, i6, i7, i8, i9, i10, i11, i12, i13, i14, i15, i16, i17, i18, i19, i20, i21, i22, i23, i24, i25, i26, i27, i28, i29, i30, i31, i32, i33, i34, i35, i36, i37, i38, i39, i40, i41, i42, i43, i44, -⟩ := HI.out
     exact hK.out _ _ ⟨qB x8, qB x10, qB x15, qB x17, qB x22, qB x24, qB x28, qB x30, qB x27, qB x29, qB x7, qB x9, qB x14, qB x16, qB x21, qB x23, qB x31, qF i0, qF i1, qF i2, qF i3, qF i4, qF i5, qF i6, qF i7, qF i8, qF i9, qF i10, qF i11, qF i12, qF i13, qF i14, qF i15, qF i16, qF i17, qF i18, qP, qF i20, qF i21, qF i22, qF i23, qF i24, qF i25, qF i26, qF i27, qF i28, qF i29, qF i30, qF i31, qF i32, qF i33, qF i34, qF i35, qF i36, qF i37, qF i38, qF i39, qF i40, qF i41, qF i42, qF i43, qF i44, hL, hS, B4, B6, B7, B9, B12, B14, B16, B21, B23, B31⟩
   · refine GSlot.want rfl rfl (by decide) (fun g ac wc hr hI => ?_) ?_
     · obtain ⟨x8, x10, x15, x17, x22, x24, x28, x30, x27, x29, x7, x9, x14, x16, x21, x23, x31, i0, i1, i2, i3, i4, i5, i6, i7, i8, i9, i10, i11, i12, i13, i14, i15, i16, i17, i18, i19, i20, i21, i22, i23, i24, i25, i26, i27, i28, i29, i30, i31, i32, i33, i34, i35, i36, i37, i38, i39, i40, i41, i42, i43, i44, hL, hS, B4, B6, B7, B9, B12, B14, B16, B21, B23, B31⟩ := hI
       simp [Region.binds] at hr
       exact i18 (by simp [hr])
     unfold SlotStep
     intro g ac wc hn hk hr hI K' hK
     have HI := Lib.hid hI
     obtain ⟨x8, x10, x15, x17, x22, x24, x28, x30, x27, x29, x7, x9, x14, x16, x21, x23, x31, i0, i1, i2, i3, i4, i5, i6, i7, i8, i9, i10, i11, i12, i13, i14, i15, i16, i17, i18, i19, i20, i21, i22, i23, i24, i25, i26, i27, i28, i29, i30, i31, i32, i33, i34, i35, i36, i37, i38, i39, i40, i41, i42, i43, i44, hL, hS, B4, B6, B7, B9, B12, B14, B16, B21, B23, B31⟩ := hI
     simp [Region.binds] at hr
     replace hK := Lib.hid hK
     clear i0 i1 i2 i3 i4 i5 i6 i7 i8 i9 i10 i11 i12 i13 i14 i15 i16 i17 i18 i19 i20 i21 i22 i23 i24 i25 i26 i27 i28 i29 i30 i31 i32 i33 i34 i35 i36 i37 i38 i39 i40 i41 i42 i43 i44
     go_simp
     obtain ⟨-, -, -, -, -, -, -, -, -, -, -, -, -, -, -, -, -, i0, i1, i2, i3, i4, i5, i6, i7, i8, i9, i10, i11, i12, i13, i14, i15, i16, i17, i18, i19, i20, i21, i22, i23, i24, i25, i26, i27, i28, i29, i30, i31, i32, i33, i34, i35, i36, i37, i38, i39, i40, i41, i42, i43, i44, -⟩ := HI.out
     exact hK.out _ _ ⟨qB x8, qB x10, qB x15, qB x17, qB x22, qB x24, qB x28, qB x30, qB x27, qB x29, qB x7, qB x9, qB x14, qB x16, qB x21, qB x23, qB x31, qF i0, qF i1, qF i2, qF i3, qF i4, qF i5, qF i6, qF i7, qF i8, qF i9, qF i10, qF i11, qF i12, qF i13, qF i14, qF i15, qF i16, qF i17, qF i18, qF i19, qP, qF i21, qF i22, qF i23, qF i24, qF i25, qF i26, qF i27, qF i28, qF i29, qF i30, qF i31, qF i32, qF i33, qF i34, qF i35, qF i36, qF i37, qF i38, qF i39, qF i40, qF i41, qF i42, qF i43, qF i44, hL, hS, B4, B6, B7, B9, B12, B14, B16, B21, B23, B31⟩
   · refine GSlot.want rfl rfl (by decide) (fun g ac wc hr hI => ?_) ?_
     · obtain ⟨x8, x10, x15, x17, x22, x24, x28, x30, x27, x29, x7, x9, x14, x16, x21, x23, x31, i0, i1, i2, i3, i4, i5, i6, i7, i8, i9, i10, i11, i12, i13, i14, i15, i16, i17, i18, i19, i20, i21, i22, i23, i24, i25, i26, i27, i28, i29, i30, i31, i32, i33, i34, i35, i36, i37, i38, i39, i40, i41, i42, i43, i44, hL, hS, B4, B6, B7, B9, B12, B14, B16, B21, B23, B31⟩ := hI
       simp [Region.binds] at hr
       exact i18 (by simp [hr])
     unfold SlotStep
     intro g ac wc hn hk hr hI K' hK
     have HI := Lib.hid hI
     obtain ⟨x8, x10, x15, x17, x22, x24, x28, x30, x27, x29, x7, x9, x14, x16, x21, x23, x31, i0, i1, i2, i3, i4, i5, i6, i7, i8, i9, i10, i11, i12, i13, i14, i15, i16, i17, i18, i19, i20, i21, i22, i23, i24, i25, i26, i27, i28, i29, i30, i31, i32, i33, i34, i35, i36, i37, i38, i39, i40, i41, i42, i43, i44, hL, hS, B4, B6, B7, B9, B12, B14, B16, B21, B23, B31⟩ := hI
     simp [Region.binds] at hr
     replace hK := Lib.hid hK
     have y19 := i19 (by simp [hr])
     have y20 := i20 (by simp [hr])
     clear i0 i1 i2 i3 i4 i5 i6 i7 i8 i9 i10 i11 i12 i13 i14 i15 i16 i17 i18 i19 i20 i21 i22 i23 i24 i25 i26 i27 i28 i29 i30 i31 i32 i33 i34 i35 i36 i37 i38 i39 i40 i41 i42 i43 i44
     go_simp
     obtain ⟨-, -, -, -, -, -, -, -, -, -, -, -, -, -, -, -, -, i0, i1, i2, i3, i4, i5, i6, i7, i8, i9, i10, i11, i12, i13, i14, i15, i16, i17, i18, i19, i20, i21, i22, i23, i24, i25, i26, i27, i28, i29, i30, i31, i32, i33, i34, i35, i36, i37, i38, i39, i40, i41, i42, i43, i44, -⟩ := HI.out
     exact hK.out _ _ ⟨qB x8, qB x10, qB x15, qB x17, qB x22, qB x24, qB x28, qB x30, qB x27, qB x29, qB x7, qB x9, qB x14, qB x16, qB x21, qB x23, qB x31, qF i0, qF i1, qF i2, qF i3, qF i4, qF i5, qF i6, qF i7, qF i8, qF i9, qF i10, qF i11, qF i12, qF i13, qF i14, qF i15, qF i16, qF i17, qF i18, qF i19, qF i20, qP, qF i22, qF i23, qF i24, qF i25, qF i26, qF i27, qF i28, qF i29, qF i30, qF i31, qF i32, qF i33, qF i34, qF i35, qF i36, qF i37, qF i38, qF i39, qF i40, qF i41, qF i42, qF i43, qF i44, hL, hS, B4, B6, B7, B9, B12, B14, B16, B21, B23, B31⟩
   · refine GSlot.of rfl ?_
     unfold SlotStep
     intro g ac wc hn hk hr hI K' hK
     have HI := Lib.hid hI
     obtain ⟨x8, x10, x15, x17, x22, x24, x28, x30, x27, x29, x7, x9, x14, x16, x21, x23, x31, i0, i1, i2, i3, i4, i5, i6, i7, i8, i9, i10, i11, i12, i13, i14, i15, i16, i17, i18, i19, i20, i21, i22, i23, i24, i25, i26, i27, i28, i29, i30, i31, i32, i33, i34, i35, i36, i37, i38, i39, i40, i41, i42, i43, i44, hL, hS, B4, B6, B7, B9, B12, B14, B16, B21, B23, B31⟩ := hI
     simp [Region.binds] at hr
     replace hK := Lib.hid hK
     have y18 := i18 (by simp [hr])
     have y21 := i21 (by simp [hr])
     have z18 := sl_get y18 (by omega)
     have z21 := sl_get y21 (by omega)
     clear i0 i1 i2 i3 i4 i5 i6 i7 i8 i9 i10 i11 i12 i13 i14 i15 i16 i17 i18 i19 i20 i21 i22 i23 i24 i25 i26 i27 i28 i29 i30 i31 i32 i33 i34 i35 i36 i37 i38 i39 i40 i41 i42 i43 i44
     go_simp
     obtain ⟨-, -, -, -, -, -, -, -, -, -, -, -, -, -, -, -, -, i0, i1, i2, i3, i4, i5, i6, i7, i8, i9, i10, i11, i12, i13, i14, i15, i16, i17, i18, i19, i20, i21, i22, i23, i24, i25, i26, i27, i28, i29, i30, i31, i32, i33, i34, i35, i36, i37, i38, i39, i40, i41, i42, i43, i44, -⟩ := HI.out
     exact hK.out _ _ ⟨qB x8, qB x10, qB x15, qB x17, qB x22, qB x24, qB x28, qB x30, qB x27, qB x29, qB x7, qB x9, qB x14, qB x16, qB x21, qB x23, qB x31, qF i0, qF i1, qF i2, qF i3, qF i4, qF i5, qF i6, qF i7, qF i8, qF i9, qF i10, qF i11, qF i12, qF i13, qF i14, qF i15, qF i16, qF i17, qF i18, qF i19, qF i20, qF i21, qP, qF i23, qF i24, qF i25, qF i26, qF i27, qF i28, qF i29, qF i30, qF i31, qF i32, qF i33, qF i34, qF i35, qF i36, qF i37, qF i38, qF i39, qF i40, qF i41, qF i42, qF i43, qF i44, hL, hS, B4, B6, B7, B9, B12, B14, B16, B21, B23, B31⟩
   · refine GSlot.of rfl ?_
     unfold SlotStep
     intro g ac wc hn hk hr hI K' hK
     have HI := Lib.hid hI
     obtain ⟨x8, x10, x15, x17, x22, x24, x28, x30, x27, x29, x7, x9, x14, x16, x21, x23, x31, i0, i1, i2, i3, i4, i5, i6, i7, i8, i9, i10, i11, i12, i13, i14, i15, i16, i17, i18, i19, i20, i21, i22, i23, i24, i25, i26, i27, i28, i29, i30, i31, i32, i33, i34, i35, i36, i37, i38, i39, i40, i41, i42, i43, i44, hL, hS, B4, B6, B7, B9, B12, B14, B16, B21, B23, B31⟩ := hI
     simp [Region.binds] at hr
     replace hK := Lib.hid hK
     have y22 := i22 (by simp [hr])
     clear i0 i1 i2 i3 i4 i5 i6 i7 i8 i9 i10 i11 i12 i13 i14 i15 i16 i17 i18 i19 i20 i21 i22 i23 i24 i25 i26 i27 i28 i29 i30 i31 i32 i33 i34 i35 i36 i37 i38 i39 i40 i41 i42 i43 i44
     go_simp
     obtain ⟨-, -, -, -, -, -, -, -, -, -, -, -, -, -, -, -, -, i0, i1, i2, i3, i4, i5, i6, i7, i8, i9, i10, i11, i12, i13, i14, i15, i16, i17, i18, i19, i20, i21, i22, i23, i24, i25, i26, i27, i28, i29, i30, i31, i32, i33, i34, i35, i36, i37, i38, i39, i40, i41, i42, i43, i44, -⟩ := HI.out
     exact hK.out _ _ ⟨qB x8, qB x10, qB x15, qB x17, qB x22, qB x24, qB x28, qB x30, qB x27, qB x29, qB x7, qB x9, qB x14, qB x16, qB x21, qB x23, qB x31, qF i0, qF i1, qF i2, qF i3, qF i4, qF i5, qF i6, qF i7, qF i8, qF i9, qF i10, qF i11, qF i12, qF i13, qF i14, qF i15, qF i16, qF i17, qF i18, qF i19, qF i20, qF i21, qF i22, qP, qF i24, qF i25, qF i26, qF i27, qF i28, qF i29, qF i30, qF i31, qF i32, qF i33, qF i34, qF i35, qF i36, qF i37, qF i38, qF i39, qF i40, qF i41, qF i42, qF i43, qF i44, hL, hS, B4, B6, B7, B9, B12, B14, B16, B21, B23, B31⟩
   · refine GSlot.want rfl rfl (by decide) (fun g ac wc hr hI => ?_) ?_
     · obtain ⟨x8, x10, x15, x17, x22, x24, x28, x30, x27, x29, x7, x9, x14, x16, x21, x23, x31, i0, i1, i2, i3, i4, i5, i6, i7, i8, i9, i10, i11, i12, i13, i14, i15, i16, i17, i18, i19, i20, i21, i22, i23, i24, i25, i26, i27, i28, i29, i30, i31, i32, i33, i34, i35, i36, i37, i38, i39, i40, i41, i42, i43, i44, hL, hS, B4, B6, B7, B9, B12, B14, B16, B21, B23, B31⟩ := hI
       simp [Region.binds] at hr
       exact i23 (by simp [hr])
     unfold SlotStep
     intro g ac wc hn hk hr hI K' hK
     have HI := Lib.hid hI
     obtain ⟨x8, x10, x15, x17, x22, x24, x28, x30, x27, x29, x7, x9, x14, x16, x21, x23, x31, i0, i1, i2, i3, i4, i5, i6, i7, i8, i9, i10, i11, i12, i13, i14, i15, i16, i17, i18, i19, i20, i21, i22, i23, i24, i25, i26, i27, i28, i29, i30, i31, i32, i33, i34, i35, i36, i37, i38, i39, i40, i41, i42, i43, i44, hL, hS, B4, B6, B7, B9, B12, B14, B16, B21, B23, B31⟩ := hI
     simp [Region.binds] at hr
     replace hK := Lib.hid hK
     clear i0 i1 i2 i3 i4 i5 i6 i7 i8 i9 i10 i11 i12 i13 i14 i15 i16 i17 i18 i19 i20 i21 i22 i23 i24 i25 i26 i27 i28 i29 i30 i31 i32 i33 i34 i35 i36 i37 i38 i39 i40 i41 i42 i43 i44
     obtain ⟨c0, f0, z0⟩ := blk_at B21
     go_simp
     obtain ⟨-, -, -, -, -, -, -, -, -, -, -, -, -, -, -, -, -, i0, i1, i2, i3, i4, i5, i6, i7, i8, i9, i10, i11, i12, i13, i14, i15, i16, i17, i18, i19, i20, i21, i22, i23, i24, i25, i26, i27, i28, i29, i30, i31, i32, i33, i34, i35, i36, i37, i38, i39, i40, i41, i42, i43, i44, -⟩ := HI.out
     exact hK.out _ _ ⟨qB x8, qB x10, qB x15, qB x17, qB x22, qB x24, qB x28, qB x30, qB x27, qB x29, qB x7, qB x9, qB x14, qB x16, qB x21, qB x23, qB x31, qF i0, qF i1, qF i2, qF i3, qF i4, qF i5, qF i6, qF i7, qF i8, qF i9, qF i10, qF i11, qF i12, qF i13, qF i14, qF i15, qF i16, qF i17, qF i18, qF i19, qF i20, qF i21, qF i22, qF i23, qP, qF i25, qF i26, qF i27, qF i28, qF i29, qF i30, qF i31, qF i32, qF i33, qF i34, qF i35, qF i36, qF i37, qF i38, qF i39, qF i40, qF i41, qF i42, qF i43, qF i44, hL, hS, B4, B6, B7, B9, B12, B14, B16, B21, B23, B31⟩
   · refine GSlot.want rfl rfl (by decide) (fun g ac wc hr hI => ?_) ?_
     · obtain ⟨x8, x10, x15, x17, x22, x24, x28, x30, x27, x29, x7, x9, x14, x16, x21, x23, x31, i0, i1, i2, i3, i4, i5, i6, i7, i8, i9, i10, i11, i12, i13, i14, i15, i16, i17, i18, i19, i20, i21, i22, i23, i24, i25, i26, i27, i28, i29, i30, i31, i32, i33, i34, i35, i36, i37, i38, i39, i40, i41, i42, i43, i44, hL, hS, B4, B6, B7, B9, B12, B14, B16, B21, B23, B31⟩ := hI
       simp [Region.binds] at hr
       exact i23 (by simp [hr])
     unfold SlotStep
     intro g ac wc hn hk hr hI K' hK
     have HI := Lib.hid hI
     obtain ⟨x8, x10, x15, x17, x22, x24, x28, x30, x27, x29, x7, x9, x14, x16, x21, x23, x31, i0, i1, i2, i3, i4, i5, i6, i7, i8, i9, i10, i11, i12, i13, i14, i15, i16, i17, i18, i19, i20, i21, i22, i23, i24, i25, i26, i27, i28, i29, i30, i31, i32, i33, i34, i35, i36, i37, i38, i39, i40, i41, i42, i43, i44, hL, hS, B4, B6, B7, B9, B12, B14, B16, B21, B23, B31⟩ := hI
     simp [Region.binds] at hr
     replace hK := Lib.hid hK
     clear i0 i1 i2 i3 i4 i5 i6 i7 i8 i9 i10 i11 i12 i13 i14 i15 i16 i17 i18 i19 i20 i21 i22 i23 i24 i25 i26 i27 i28 i29 i30 i31 i32 i33 i34 i35 i36 i37 i38 i39 i40 i41 i42 i43 i44
     obtain ⟨c0, f0, z0⟩ := blk_at B23
     go_simp
     obtain ⟨-, -, -, -, -, -, -, -, -, -, -, -, -, -, -, -, -, i0, i1, i2, i3, i4, i5, i6, i7, i8, i9, i10, i11, i12, i13, i14, i15, i16, i17, i18, i19, i20, i21, i22, i23, i24, i25, i26, i27, i28, i29, i30, i31, i32, i33, i34, i35, i36, i37, i38, i39, i40, i41, i42, i43, i44, -⟩ := HI.out
     exact hK.out _ _ ⟨qB x8, qB x10, qB x15, qB x17, qB x22, qB x24, qB x28, qB x30, qB x27, qB x29, qB x7, qB x9, qB x14, qB x16, qB x21, qB x23, qB x31, qF i0, qF i1, qF i2, qF i3, qF i4, qF i5, qF i6, qF i7, qF i8, qF i9, qF i10, qF i11, qF i12, qF i13, qF i14, qF i15, qF i16, qF i17, qF i18, qF i19, qF i20, qF i21, qF i22, qF i23, qF i24, qP, qF i26, qF i27, qF i28, qF i29, qF i30, qF i31, qF i32, qF i33, qF i34, qF i35, qF i36, qF i37, qF i38, qF i39, qF i40, qF i41, qF i42, qF i43, qF i44, hL, hS, B4, B6, B7, B9, B12, B14, B16, B21, B23, B31⟩
   · refine GSlot.want rfl rfl (by decide) (fun g ac wc hr hI => ?_) ?_
     · obtain ⟨x8, x10, x15, x17, x22, x24, x28, x30, x27, x29, x7, x9, x14, x16, x21, x23, x31, i0, i1, i2, i3, i4, i5, i6, i7, i8, i9, i10, i11, i12, i13, i14, i15, i16, i17, i18, i19, i20, i21, i22, i23, i24, i25, i26, i27, i28, i29, i30, i31, i32, i33, i34, i35, i36, i37, i38, i39, i40, i41, i42, i43, i44, hL, hS, B4, B6, B7, B9, B12, B14, B16, B21, B23, B31⟩ := hI
       simp [Region.binds] at hr
       exact i23 (by simp [hr])
     unfold SlotStep
     intro g ac wc hn hk hr hI K' hK
     have HI := Lib.hid hI
     obtain ⟨x8, x10, x15, x17, x22, x24, x28, x30, x27, x29, x7, x9, x14, x16, x21, x23, x31, i0, i1, i2, i3, i4, i5, i6, i7, i8, i9, i10, i11, i12, i13, i14, i15, i16, i17, i18, i19, i20, i21, i22, i23, i24, i25, i26, i27, i28, i29, i30, i31, i32, i33, i34, i35, i36, i37, i38, i39, i40, i41, i42, i43, i44, hL, hS, B4, B6, B7, B9, B12, B14, B16, B21, B23, B31⟩ := hI
     simp [Region.binds] at hr
     replace hK := Lib.hid hK
     have y24 := i24 (by simp [hr])
     have y25 := i25 (by simp [hr])
     clear i0 i1 i2 i3 i4 i5 i6 i7 i8 i9 i10 i11 i12 i13 i14 i15 i16 i17 i18 i19 i20 i21 i22 i23 i24 i25 i26 i27 i28 i29 i30 i31 i32 i33 i34 i35 i36 i37 i38 i39 i40 i41 i42 i43 i44
     go_simp
     obtain ⟨-, -, -, -, -, -, -, -, -, -, -, -, -, -, -, -, -, i0, i1, i2, i3, i4, i5, i6, i7, i8, i9, i10, i11, i12, i13, i14, i15, i16, i17, i18, i19, i20, i21, i22, i23, i24, i25, i26, i27, i28, i29, i30, i31, i32, i33, i34, i35, i36, i37, i38, i39, i40, i41, i42, i43, i44, -⟩ := HI.out
     exact hK.out _ _ ⟨qB x8, qB x10, qB x15, qB x17, qB x22, qB x24, qB x28, qB x30, qB x27, qB x29, qB x7, qB x9, qB x14, qB x16, qB x21, qB x23, qB x31, qF i0, qF i1, qF i2, qF i3, qF i4, qF i5, qF i6, qF i7, qF i8, qF i9, qF i10, qF i11, qF i12, qF i13, qF i14, qF i15, qF i16, qF i17, qF i18, qF i19, qF i20, qF i21, qF i22, qF i23, qF i24, qF i25, qP, qF i27, qF i28, qF i29, qF i30, qF i31, qF i32, qF i33, qF i34, qF i35, qF i36, qF i37, qF i38, qF i39, qF i40, qF i41, qF i42, qF i43, qF i44, hL, hS, B4, B6, B7, B9, B12, B14, B16, B21, B23, B31⟩
   · refine GSlot.of rfl ?_
     unfold SlotStep
     intro g ac wc hn hk hr hI K' hK
     have HI := Lib.hid hI
     obtain ⟨x8, x10, x15, x17, x22, x24, x28, x30, x27, x29, x7, x9, x14, x16, x21, x23, x31, i0, i1, i2, i3, i4, i5, i6, i7, i8, i9, i10, i11, i12, i13, i14, i15, i16, i17, i18, i19, i20, i21, i22, i23, i24, i25, i26, i27, i28, i29, i30, i31, i32, i33, i34, i35, i36, i37, i38, i39, i40, i41, i42, i43, i44, hL, hS, B4, B6, B7, B9, B12, B14, B16, B21, B23, B31⟩ := hI
     simp [Region.binds] at hr
     replace hK := Lib.hid hK
     have y23 := i23 (by simp [hr])
     have y26 := i26 (by simp [hr])
     have z23 := sl_get y23 (by omega)
     have z26 := sl_get y26 (by omega)
     clear i0 i1 i2 i3 i4 i5 i6 i7 i8 i9 i10 i11 i12 i13 i14 i15 i16 i17 i18 i19 i20 i21 i22 i23 i24 i25 i26 i27 i28 i29 i30 i31 i32 i33 i34 i35 i36 i37 i38 i39 i40 i41 i42 i43 i44
     go_simp
     obtain ⟨-, -, -, -, -, -, -, -, -, -, -, -, -, -, -, -, -, i0, i1, i2, i3, i4, i5, i6, i7, i8, i9, i10, i11, i12, i13, i14, i15, i16, i17, i18, i19, i20, i21, i22, i23, i24, i25, i26, i27, i28, i29, i30, i31, i32, i33, i34, i35, i36, i37, i38, i39, i40, i41, i42, i43, i44, -⟩ := HI.out
     exact hK.out _ _ ⟨qB x8, qB x10, qB x15, qB x17, qB x22, qB x24, qB x28, qB x30, qB x27, qB x29, qB x7, qB x9, qB x14, qB x16, qB x21, qB x23, qB x31, qF i0, qF i1, qF i2, qF i3, qF i4, qF i5, qF i6, qF i7, qF i8, qF i9, qF i10, qF i11, qF i12, qF i13, qF i14, qF i15, qF i16, qF i17, qF i18, qF i19, qF i20, qF i21, qF i22, qF i23, qF i24, qF i25, qF i26, qP, qF i28, qF i29, qF i30, qF i31, qF i32, qF i33, qF i34, qF i35, qF i36, qF i37, qF i38, qF i39, qF i40, qF i41, qF i42, qF i43, qF i44, hL, hS, B4, B6, B7, B9, B12, B14, B16, B21, B23, B31⟩
   · refine GSlot.of rfl ?_
     unfold SlotStep
     intro g ac wc hn hk hr hI K' hK
     have HI := Lib.hid hI
     obtain ⟨x8, x10, x15, x17, x22, x24, x28, x30, x27, x29, x7, x9, x14, x16, x21, x23, x31, i0, i1, i2, i3, i4, i5, i6, i7, i8, i9, i10, i11, i12, i13, i14, i15, i16, i17, i18, i19, i20, i21, i22, i23, i24, i25, i26, i27, i28, i29, i30, i31, i32, i33, i34, i35, i36, i37, i38, i39, i40, i41, i42, i43, i44, hL, hS, B4, B6, B7, B9, B12, B14, B16, B21, B23, B31⟩ := hI
     simp [Region.binds] at hr
     replace hK := Lib.hid hK
     have y27 := i27 (by simp [hr])
     clear i0 i1 i2 i3 i4 i5 i6 i7 i8 i9 i10 i11 i12 i13 i14 i15 i16 i17 i18 i19 i20 i21 i22 i23 i24 i25 i26 i27 i28 i29 i30 i31 i32 i33 i34 i35 i36 i37 i38 i39 i40 i41 i42 i43 i44
     go_simp
     obtain ⟨-, -, -, -, -, -, -, -, -, -, -, -, -, -, -, -, -, i0, i1, i2, i3, i4, i5, i6, i7, i8, i9, i10, i11, i12, i13, i14, i15, i16, i17, i18, i19, i20, i21, i22, i23, i24, i25, i26, i27, i28, i29, i30, i31, i32, i33, i34, i35, i36, i37, i38, i39, i40, i41, i42, i43, i44, -⟩ := HI.out
     exact hK.out _ _ ⟨qB x8, qB x10, qB x15, qB x17, qB x22, qB x24, qB x28, qB x30, qB x27, qB x29, qB x7, qB x9, qB x14, qB x16, qB x21, qB x23, qB x31, qF i0, qF i1, qF i2, qF i3, qF i4, qF i5, qF i6, qF i7, qF i8, qF i9, qF i10, qF i11, qF i12, qF i13, qF i14, qF i15, qF i16, qF i17, qF i18, qF i19, qF i20, qF i21, qF i22, qF i23, qF i24, qF i25, qF i26, qF i27, qP, qF i29, qF i30, qF i31, qF i32, qF i33, qF i34, qF i35, qF i36, qF i37, qF i38, qF i39, qF i40, qF i41, qF i42, qF i43, qF i44, hL, hS, B4, B6, B7, B9, B12, B14, B16, B21, B23, B31⟩
   · refine GSlot.want rfl rfl (by decide) (fun g ac wc hr hI => ?_) ?_
     · obtain ⟨x8, x10, x15, x17, x22, x24, x28, x30, x27, x29, x7, x9, x14, x16, x21, x23, x31, i0, i1, i2, i3, i4, i5, i6, i7, i8, i9, i10, i11, i12, i13, i14, i15, i16, i17, i18, i19, i20, i21, i22, i23, i24, i25, i26, i27, i28, i29, i30, i31, i32, i33, i34, i35, i36, i37, i38, i39, i40, i41, i42, i43, i44, hL, hS, B4, B6, B7, B9, B12, B14, B16, B21, B23, B31⟩ := hI
       simp [Region.binds] at hr
       exact i28 (by simp [hr])
     unfold SlotStep
     intro g ac wc hn hk hr hI K' hK
     have HI := Lib.hid hI
     obtain ⟨x8, x10, x15, x17, x22, x24, x28, x30, x27, x29, x7, x9, x14, x16, x21, x23, x31, i0, i1, i2, i3, i4, i5, i6, i7, i8, i9, i10, i11, i12, i13, i14, i15, i16, i17, i18, i19, i20, i21, i22, i23, i24, i25, i26, i27, i28, i29, i30, i31, i32, i33, i34, i35, i36, i37, i38, i39, i40, i41, i42, i43, i44, hL, hS, B4, B6, B7, B9, B12, B14, B16, B21, B23, B31⟩ := hI
     simp [Region.binds] at hr
     replace hK := Lib.hid hK
     clear i0 i1 i2 i3 i4 i5 i6 i7 i8 i9 i10 i11 i12 i13 i14 i15 i16 i17 i18 i19 i20 i21 i22 i23 i24 i25 i26 i27 i28 i29 i30 i31 i32 i33 i34 i35 i36 i37 i38 i39 i40 i41 i42 i43 i44
     go_simp
     obtain ⟨-, -, -, -, -, -, -, -, -, -, -, -, -, -, -, -, -, i0, i1, i2, i3, i4, i5, i6, i7, i8, i9, i10, i11, i12, i13, i14, i15, i16, i17, i18, i19, i20, i21, i22, i23, i24, i25, i26, i27, i28, i29, i30, i31, i32, i33, i34, i35, i36, i37, i38, i39, i40, i41, i42, i43, i44, -⟩ := HI.out
     exact hK.out _ _ ⟨qB x8, qB x10, qB x15, qB x17, qB x22, qB x24, qB x28, qB x30, qB x27, qB x29, qB x7, qB x9, qB x14, qB x16, qB x21, qB x23, qB x31, qF i0, qF i1, qF i2, qF i3, qF i4, qF i5, qF i6, qF i7, qF i8, qF i9, qF i10, qF i11, qF i12, qF i13, qF i14, qF i15, qF i16, qF i17, qF i18, qF i19, qF i20, qF i21, qF i22, qF i23, qF i24, qF i25, qF i26, qF i27, qF i28, qP, qF i30, qF i31, qF i32, qF i33, qF i34, qF i35, qF i36, qF i37, qF i38, qF i39, qF i40, qF i41, qF i42, qF i43, qF i44, hL, hS, B4, B6, B7, B9, B12, B14, B16, B21, B23, B31⟩
   · refine GSlot.want rfl rfl (by decide) (fun g ac wc hr hI => ?_) ?_
     · obtain ⟨x8, x10, x15, x17, x22, x24, x28, x30, x27, x29, x7, x9, x14, x16, x21, x23, x31, i0, i1, i2, i3, i4, i5, i6, i7, i8, i9, i10, i11, i12, i13, i14, i15, i16, i17, i18, i19, i20, i21, i22, i23, i24, i25, i26, i27, i28, i29, i30, i31, i32, i33, i34, i35, i36, i37, i38, i39, i40, i41, i42, i43, i44, hL, hS, B4, B6, B7, B9, B12, B14, B16, B21, B23, B31⟩ := hI
       simp [Region.binds] at hr
       exact i28 (by simp [hr])
     unfold SlotStep
     intro g ac wc hn hk hr hI K' hK
     have HI := Lib.hid hI
     obtain ⟨x8, x10, x15, x17, x22, x24, x28, x30, x27, x29, x7, x9, x14, x16, x21, x23, x31, i0, i1, i2, i3, i4, i5, i6, i7, i8, i9, i10, i11, i12, i13, i14, i15, i16, i17, i18, i19, i20, i21, i22, i23, i24, i25, i26, i27, i28, i29, i30, i31, i32, i33, i34, i35, i36, i37, i38, i39, i40, i41, i42, i43, i44, hL, hS, B4, B6, B7, B9, B12, B14, B16, B21, B23, B31⟩ := hI
     simp [Region.binds] at hr
     replace hK := Lib.hid hK
     clear i0 i1 i2 i3 i4 i5 i6 i7 i8 i9 i10 i11 i12 i13 i14 i15 i16 i17 i18 i19 i20 i21 i22 i23 i24 i25 i26 i27 i28 i29 i30 i31 i32 i33 i34 i35 i36 i37 i38 i39 i40 i41 i42 i43 i44
     go_simp
     obtain ⟨-, -, -, -, -, -, -, -, -, -, -, -, -, -, -, -, -, i0, i1, i2, i3, i4, i5, i6, i7, i8, i9, i10, i11, i12, i13, i14, i15, i16, i17, i18, i19, i20, i21, i22, i23, i24, i25, i26, i27, i28, i29, i30, i31, i32, i33, i34, i35, i36, i37, i38, i39, i40, i41, i42, i43, i44, -⟩ := HI.out
     exact hK.out _ _ ⟨qB x8, qB x10, qB x15, qB x17, qB x22, qB x24, qB x28, qB x30, qB x27, qB x29, qB x7, qB x9, qB x14, qB x16, qB x21, qB x23, qB x31, qF i0, qF i1, qF i2, qF i3, qF i4, qF i5, qF i6, qF i7, qF i8, qF i9, qF i10, qF i11, qF i12, qF i13, qF i14, qF i15, qF i16, qF i17, qF i18, qF i19, qF i20, qF i21, qF i22, qF i23, qF i24, qF i25, qF i26, qF i27, qF i28, qF i29, qP, qF i31, qF i32, qF i33, qF i34, qF i35, qF i36, qF i37, qF i38, qF i39, qF i40, qF i41, qF i42, qF i43, qF i44, hL, hS, B4, B6, B7, B9, B12, B14, B16, B21, B23, B31⟩
   · refine GSlot.want rfl rfl (by decide) (fun g ac wc hr hI => ?_) ?_
     · obtain ⟨x8, x10, x15, x17, x22, x24, x28, x30, x27, x29, x7, x9, x14, x16, x21, x23, x31, i0, i1, i2, i3, i4, i5, i6, i7, i8, i9, i10, i11, i12, i13, i14, i15, i16, i17, i18, i19, i20, i21, i22, i23, i24, i25, i26, i27, i28, i29, i30, i31, i32, i33, i34, i35, i36, i37, i38, i39, i40, i41, i42, i43, i44, hL, hS, B4, B6, B7, B9, B12, B14, B16, B21, B23, B31⟩ := hI
       simp [Region.binds] at hr
       exact i28 (by simp [hr])
     unfold SlotStep
     intro g ac wc hn hk hr hI K' hK
     have HI := Lib.hid hI
     obtain ⟨x8, x10, x15, x17, x22, x24, x28, x30, x27, x29, x7, x9, x14, x16, x21, x23, x31, i0, i1, i2, i3, i4, i5, i6, i7, i8, i9, i10, i11, i12, i13, i14, i15, i16, i17, i18, i19, i20, i21, i22, i23, i24, i25, i26, i27, i28, i29, i30, i31, i32, i33, i34, i35, i36, i37, i38, i39, i40, i41, i42, i43, i44, hL, hS, B4, B6, B7, B9, B12, B14, B16, B21, B23, B31⟩ := hI
     simp [Region.binds] at hr
     replace hK := Lib.hid hK
     have y29 := i29 (by simp [hr])
     have y30 := i30 (by simp [hr])
     clear i0 i1 i2 i3 i4 i5 i6 i7 i8 i9 i10 i11 i12 i13 i14 i15 i16 i17 i18 i19 i20 i21 i22 i23 i24 i25 i26 i27 i28 i29 i30 i31 i32 i33 i34 i35 i36 i37 i38 i39 i40 i41 i42 i43 i44
     go_simp
     obtain ⟨-, -, -, -, -, -, -, -, -, -, -, -, -, -, -, -, -, i0, i1, i2, i3, i4, i5, i6, i7, i8, i9, i10, i11, i12, i13, i14, i15, i16, i17, i18, i19, i20, i21, i22, i23, i24, i25, i26, i27, i28, i29, i30, i31, i32, i33, i34, i35, i36, i37, i38, i39, i40, i41, i42, i43, i44, -⟩ := HI.out
     exact hK.out _ _ ⟨qB x8, qB x10, qB x15, qB x17, qB x22, qB x24, qB x28, qB x30, qB x27, qB x29, qB x7, qB x9, qB x14, qB x16, qB x21, qB x23, qB x31, qF i0, qF i1, qF i2, qF i3, qF i4, qF i5, qF i6, qF i7, qF i8, qF i9, qF i10, qF i11, qF i12, qF i13, qF i14, qF i15, qF i16, qF i17, qF i18, qF i19, qF i20, qF i21, qF i22, qF i23, qF i24, qF i25, qF i26, qF i27, qF i28, qF i29, qF i30, qP, qF i32, qF i33, qF i34, qF i35, qF i36, qF i37, qF i38, qF i39, qF i40, qF i41, qF i42, qF i43, qF i44, hL, hS, B4, B6, B7, B9, B12, B14, B16, B21, B23, B31⟩
   · refine GSlot.of rfl ?_
     unfold SlotStep
     intro g ac wc hn hk hr hI K' hK
     have HI := Lib.hid hI
     obtain ⟨x8, x10, x15, x17, x22, x24, x28, x30, x27, x29, x7, x9, x14, x16, x21, x23, x31, i0, i1, i2, i3, i4, i5, i6, i7, i8, i9, i10, i11, i12, i13, i14, i15, i16, i17, i18, i19, i20, i21, i22, i23, i24, i25, i26, i27, i28, i29, i30, i31, i32, i33, i34, i35, i36, i37, i38, i39, i40, i41, i42, i43, i44, hL, hS, B4, B6, B7, B9, B12, B14, B16, B21, B23, B31⟩ := hI
     simp [Region.binds] at hr
     replace hK := Lib.hid hK
     have y28 := i28 (by simp [hr])
     have y31 := i31 (by simp [hr])
     have z28 := sl_get y28 (by omega)
     have z31 := sl_get y31 (by omega)
     clear i0 i1 i2 i3 i4 i5 i6 i7 i8 i9 i10 i11 i12 i13 i14 i15 i16 i17 i18 i19 i20 i21 i22 i23 i24 i25 i26 i27 i28 i29 i30 i31 i32 i33 i34 i35 i36 i37 i38 i39 i40 i41 i42 i43 i44
     go_simp
     obtain ⟨-, -, -, -, -, -, -, -, -, -, -, -, -, -, -, -, -, i0, i1, i2, i3, i4, i5, i6, i7, i8, i9, i10, i11, i12, i13, i14, i15, i16, i17, i18, i19, i20, i21, i22, i23, i24, i25, i26, i27, i28, i29, i30, i31, i32, i33, i34, i35, i36, i37, i38, i39, i40, i41, i42, i43, i44, -⟩ := HI.out
     exact hK.out _ _ ⟨qB x8, qB x10, qB x15, qB x17, qB x22, qB x24, qB x28, qB x30, qB x27, qB x29, qB x7, qB x9, qB x14, qB x16, qB x21, qB x23, qB x31, qF i0, qF i1, qF i2, qF i3, qF i4, qF i5, qF i6, qF i7, qF i8, qF i9, qF i10, qF i11, qF i12, qF i13, qF i14, qF i15, qF i16, qF i17, qF i18, qF i19, qF i20, qF i21, qF i22, qF i23, qF i24, qF i25, qF i26, qF i27, qF i28, qF i29, qF i30, qF i31, qP, qF i33, qF i34, qF i35, qF i36, qF i37, qF i38, qF i39, qF i40, qF i41, qF i42, qF i43, qF i44, hL, hS, B4, B6, B7, B9, B12, B14, B16, B21, B23, B31⟩
   · refine GSlot.of rfl ?_
     unfold SlotStep
     intro g ac wc hn hk hr hI K' hK
     have HI := Lib.hid hI
     obtain ⟨x8, x10, x15, x17, x22, x24, x28, x30, x27, x29, x7, x9, x14, x16, x21, x23, x31, i0, i1, i2, i3, i4, i5, i6, i7, i8, i9, i10, i11, i12, i13, i14, i15, i16, i17, i18, i19, i20, i21, i22, i23, i24, i25, i26, i27, i28, i29, i30, i31, i32, i33, i34, i35, i36, i37, i38, i39, i40, i41, i42, i43, i44, hL, hS, B4, B6, B7, B9, B12, B14, B16, B21, B23, B31⟩ := hI
     simp [Region.binds] at hr
     replace hK := Lib.hid hK
     have y32 := i32 (by simp [hr])
     clear i0 i1 i2 i3 i4 i5 i6 i7 i8 i9 i10 i11 i12 i13 i14 i15 i16 i17 i18 i19 i20 i21 i22 i23 i24 i25 i26 i27 i28 i29 i30 i31 i32 i33 i34 i35 i36 i37 i38 i39 i40 i41 i42 i43 i44
     go_simp
     obtain ⟨-, -, -, -, -, -, -, -, -, -, -, -, -, -, -, -, -, i0, i1, i2, i3, i4, i5, i6, i7, i8, i9, i10, i11, i12, i13, i14, i15, i16, i17, i18, i19, i20, i21, i22, i23, i24, i25, i26, i27, i28, i29, i30, i31, i32, i33, i34, i35, i36, i37, i38, i39, i40, i41, i42, i43, i44, -⟩ := HI.out
     exact hK.out _ _ ⟨qB x8, qB x10, qB x15, qB x17, qB x22, qB x24, qB x28, qB x30, qB x27, qB x29, qB x7, qB x9, qB x14, qB x16, qB x21, qB x23, qB x31, qF i0, qF i1, qF i2, qF i3, qF i4, qF i5, qF i6, qF i7, qF i8, qF i9, qF i10, qF i11, qF i12, qF i13, qF i14, qF i15, qF i16, qF i17, qF i18, qF i19, qF i20, qF i21, qF i22, qF i23, qF i24, qF i25, qF i26, qF i27, qF i28, qF i29, qF i30, qF i31, qF i32, qP, qF i34, qF i35, qF i36, qF i37, qF i38, qF i39, qF i40, qF i41, qF i42, qF i43, qF i44, hL, hS, B4, B6, B7, B9, B12, B14, B16, B21, B23, B31⟩
   · refine GSlot.want rfl rfl (by decide) (fun g ac wc hr hI => ?_) ?_
     · obtain ⟨x8, x10, x15, x17, x22, x24, x28, x30, x27, x29, x7, x9, x14, x16, x21, x23, x31, i0, i1, i2, i3, i4, i5, i6, i7, i8, i9, i10, i11, i12, i13, i14, i15, i16, i17, i18, i19, i20, i21, i22, i23, i24, i25, i26, i27, i28, i29, i30, i31, i32, i33, i34, i35, i36, i37, i38, i39, i40, i41, i42, i43, i44, hL, hS, B4, B6, B7, B9, B12, B14, B16, B21, B23, B31⟩ := hI
       simp [Region.binds] at hr
       exact i33 (by simp [hr])
     unfold SlotStep
     intro g ac wc hn hk hr hI K' hK
     have HI := Lib.hid hI
     obtain ⟨x8, x10, x15, x17, x22, x24, x28, x30, x27, x29, x7, x9, x14, x16, x21, x23, x31, i0, i1, i2, i3, i4, i5, i6, i7, i8, i9, i10, i11, i12, i13, i14, i15, i16, i17, i18, i19, i20, i21, i22, i23, i24, i25, i26, i27, i28, i29, i30, i31, i32, i33, i34, i35, i36, i37, i38, i39, i40, i41, i42, i43, i44, hL, hS, B4, B6, B7, B9, B12, B14, B16, B21, B23, B31⟩ := hI
     simp [Region.binds] at hr
     replace hK := Lib.hid hK
     clear i0 i1 i2 i3 i4 i5 i6 i7 i8 i9 i10 i11 i12 i13 i14 i15 i16 i17 i18 i19 i20 i21 i22 i23 i24 i25 i26 i27 i28 i29 i30 i31 i32 i33 i34 i35 i36 i37 i38 i39 i40 i41 i42 i43 i44
     go_simp
     obtain ⟨-, -, -, -, -, -, -, -, -, -, -, -, -, -, -, -, -, i0, i1, i2, i3, i4, i5, i6, i7, i8, i9, i10, i11, i12, i13, i14, i15, i16, i17, i18, i19, i20, i21, i22, i23, i24, i25, i26, i27, i28, i29, i30, i31, i32, i33, i34, i35, i36, i37, i38, i39, i40, i41, i42, i43, i44, -⟩ := HI.out
     exact hK.out _ _ ⟨qB x8, qB x10, qB x15, qB x17, qB x22, qB x24, qB x28, qB x30, qB x27, qB x29, qB x7, qB x9, qB x14, qB x16, qB x21, qB x23, qB x31, qF i0, qF i1, qF i2, qF i3, qF i4, qF i5, qF i6, qF i7, qF i8, qF i9, qF i10, qF i11, qF i12, qF i13, qF i14, qF i15, qF i16, qF i17, qF i18, qF i19, qF i20, qF i21, qF i22, qF i23, qF i24, qF i25, qF i26, qF i27, qF i28, qF i29, qF i30, qF i31, qF i32, qF i33, qP, qF i35, qF i36, qF i37, qF i38, qF i39, qF i40, qF i41, qF i42, qF i43, qF i44, hL, hS, B4, B6, B7, B9, B12, B14, B16, B21, B23, B31⟩
   · refine GSlot.want rfl rfl (by decide) (fun g ac wc hr hI => ?_) ?_
     · obtain ⟨x8, x10, x15, x17, x22, x24, x28, x30, x27, x29, x7, x9, x14, x16, x21, x23, x31, i0, i1, i2, i3, i4, i5, i6, i7, i8, i9, i10, i11, i12, i13, i14, i15, i16, i17, i18, i19, i20, i21, i22, i23, i24, i25, i26, i27, i28, i29, i30, i31, i32, i33, i34, i35, i36, i37, i38, i39, i40, i41, i42, i43, i44, hL, hS, B4, B6, B7, B9, B12, B14, B16, B21, B23, B31⟩ := hI
       simp [Region.binds] at hr
       exact i33 (by simp [hr])
     unfold SlotStep
     intro g ac wc hn hk hr hI K' hK
     have HI := Lib.hid hI
     obtain ⟨x8, x10, x15, x17, x22, x24, x28, x30, x27, x29, x7, x9, x14, x16, x21, x23, x31, i0, i1, i2, i3, i4, i5, i6, i7, i8, i9, i10, i11, i12, i13, i14, i15, i16, i17, i18, i19, i20, i21, i22, i23, i24, i25, i26, i27, i28, i29, i30, i31, i32, i33, i34, i35, i36, i37, i38, i39, i40, i41, i42, i43, i44, hL, hS, B4, B6, B7, B9, B12, B14, B16, B21, B23, B31⟩ := hI
     simp [Region.binds] at hr
     replace hK := Lib.hid hK
     clear i0 i1 i2 i3 i4 i5 i6 i7 i8 i9 i10 i11 i12 i13 i14 i15 i16 i17 i18 i19 i20 i21 i22 i23 i24 i25 i26 i27 i28 i29 i30 i31 i32 i33 i34 i35 i36 i37 i38 i39 i40 i41 i42 i43 i44
     go_simp
     obtain ⟨-, -, -, -, -, -, -, -, -, -, -, -, -, -, -, -, -, i0, i1, i2, i3, i4, i5, i6, i7, i8, i9, i10, i11, i12, i13, i14, i15, i16, i17, i18, i19, i20, i21, i22, i23, i24, i25, i26, i27, i28, i29, i30, i31, i32, i33, i34, i35, i36, i37, i38, i39, i40, i41, i42, i43, i44, -⟩ := HI.out
     exact hK.out _ _ ⟨qB x8, qB x10, qB x15, qB x17, qB x22, qB x24, qB x28, qB x30, qB x27, qB x29, qB x7, qB x9, qB x14, qB x16, qB x21, qB x23, qB x31, qF i0, qF i1, qF i2, qF i3, qF i4, qF i5, qF i6, qF i7, qF i8, qF i9, qF i10, qF i11, qF i12, qF i13, qF i14, qF i15, qF i16, qF i17, qF i18, qF i19, qF i20, qF i21, qF i22, qF i23, qF i24, qF i25, qF i26, qF i27, qF i28, qF i29, qF i30, qF i31, qF i32, qF i33, qF i34, qP, qF i36, qF i37, qF i38, qF i39, qF i40, qF i41, qF i42, qF i43, qF i44, hL, hS, B4, B6, B7, B9, B12, B14, B16, B21, B23, B31⟩
   · refine GSlot.want rfl rfl (by decide) (fun g ac wc hr hI => ?_) ?_
     · obtain ⟨x8, x10, x15, x17, x22, x24, x28, x30, x27, x29, x7, x9, x14, x16, x21, x23, x31, i0, i1, i2, i3, i4, i5, i6, i7, i8, i9, i10, i11, i12, i13, i14, i15, i16, i17, i18, i19, i20, i21, i22, i23, i24, i25, i26, i27, i28, i29, i30, i31, i32, i33, i34, i35, i36, i37, i38, i39, i40, i41, i42, i43, i44, hL, hS, B4, B6, B7, B9, B12, B14, B16, B21, B23, B31⟩ := hI
       simp [Region.binds] at hr
       exact i33 (by simp [hr])
     unfold SlotStep
     intro g ac wc hn hk hr hI K' hK
     have HI := Lib.hid hI
     obtain ⟨x8, x10, x15, x17, x22, x24, x28, x30, x27, x29, x7, x9, x14, x16, x21, x23, x31, i0, i1, i2, i3, i4, i5, i6, i7, i8, i9, i10, i11, i12, i13, i14, i15, i16, i17, i18, i19, i20, i21, i22, i23, i24, i25, i26, i27, i28, i29, i30, i31, i32, i33, i34, i35, i36, i37, i38, i39, i40, i41, i42, i43, i44, hL, hS, B4, B6, B7, B9, B12, B14, B16, B21, B23, B31⟩ := hI
     simp [Region.binds] at hr
     replace hK := Lib.hid hK
     have y34 := i34 (by simp [hr])
     have y35 := i35 (by simp [hr])
     clear i0 i1 i2 i3 i4 i5 i6 i7 i8 i9 i10 i11 i12 i13 i14 i15 i16 i17 i18 i19 i20 i21 i22 i23 i24 i25 i26 i27 i28 i29 i30 i31 i32 i33 i34 i35 i36 i37 i38 i39 i40 i41 i42 i43 i44
     go_simp
     obtain ⟨-, -, -, -, -, -, -, -, -, -, -, -, -, -, -, -, -, i0, i1, i2, i3, i4, i5, i6, i7, i8, i9, i10, i11, i12, i13, i14, i15, i16, i17, i18, i19, i20, i21, i22, i23, i24, i25, i26, i27, i28, i29, i30, i31, i32, i33, i34, i35, i36, i37, i38, i39, i40, i41, i42, i43, i44, -⟩ := HI.out
     exact hK.out _ _ ⟨qB x8, qB x10, qB x15, qB x17, qB x22, qB x24, qB x28, qB x30, qB x27, qB x29, qB x7, qB x9, qB x14, qB x16, qB x21, qB x23, qB x31, qF i0, qF i1, qF i2, qF i3, qF i4, qF i5, qF i6, qF i7, qF i8, qF i9, qF i10, qF i11, qF i12, qF i13, qF i14, qF i15, qF i16, qF i17, qF i18, qF i19, qF i20, qF i21, qF i22, qF i23, qF i24, qF i25, qF i26, qF i27, qF i28, qF i29, qF i30, qF i31, qF i32, qF i33, qF i34, qF i35, qP, qF i37, qF i38, qF i39, qF i40, qF i41, qF i42, qF i43, qF i44, hL, hS, B4, B6, B7, B9, B12, B14, B16, B21, B23, B31⟩
   · refine GSlot.of rfl ?_
     unfold SlotStep
     intro g ac wc hn hk hr hI K' hK
     have HI := Lib.hid hI
     obtain ⟨x8, x10, x15, x17, x22, x24, x28, x30, x27, x29, x7, x9, x14, x16, x21, x23, x31, i0, i1, i2, i3, i4, i5, i6, i7, i8, i9, i10, i11, i12, i13, i14, i15, i16, i17, i18, i19, i20, i21, i22, i23, i24, i25, i26, i27, i28, i29, i30, i31, i32, i33, i34, i35, i36, i37, i38, i39, i40, i41, i42, i43, i44, hL, hS, B4, B6, B7, B9, B12, B14, B16, B21, B23, B31⟩ := hI
     simp [Region.binds] at hr
     replace hK := Lib.hid hK
     have y33 := i33 (by simp [hr])
     have y36 := i36 (by simp [hr])
     have z33 := sl_get y33 (by omega)
     have z36 := sl_get y36 (by omega)
     clear i0 i1 i2 i3 i4 i5 i6 i7 i8 i9 i10 i11 i12 i13 i14 i15 i16 i17 i18 i19 i20 i21 i22 i23 i24 i25 i26 i27 i28 i29 i30 i31 i32 i33 i34 i35 i36 i37 i38 i39 i40 i41 i42 i43 i44
     go_simp
     obtain ⟨-, -, -, -, -, -, -, -, -, -, -, -, -, -, -, -, -, i0, i1, i2, i3, i4, i5, i6, i7, i8, i9, i10, i11, i12, i13, i14, i15, i16, i17, i18, i19, i20, i21, i22, i23, i24, i25, i26, i27, i28, i29, i30, i31, i32, i33, i34, i35, i36, i37, i38, i39, i40, i41, i42, i43, i44, -⟩ := HI.out
     exact hK.out _ _ ⟨qB x8, qB x10, qB x15, qB x17, qB x22, qB x24, qB x28, qB x30, qB x27, qB x29, qB x7, qB x9, qB x14, qB x16, qB x21, qB x23, qB x31, qF i0, qF i1, qF i2, qF i3, qF i4, qF i5, qF i6, qF i7, qF i8, qF i9, qF i10, qF i11, qF i12, qF i13, qF i14, qF i15, qF i16, qF i17, qF i18, qF i19, qF i20, qF i21, qF i22, qF i23, qF i24, qF i25, qF i26, qF i27, qF i28, qF i29, qF i30, qF i31, qF i32, qF i33, qF i34, qF i35, qF i36, qP, qF i38, qF i39, qF i40, qF i41, qF i42, qF i43, qF i44, hL, hS, B4, B6, B7, B9, B12, B14, B16, B21, B23, B31⟩
   · refine GSlot.of rfl ?_
     unfold SlotStep
     intro g ac wc hn hk hr hI K' hK
     have HI := Lib.hid hI
     obtain ⟨x8, x10, x15, x17, x22, x24, x28, x30, x27, x29, x7, x9, x14, x16, x21, x23, x31, i0, i1, i2, i3, i4, i5, i6, i7, i8, i9, i10, i11, i12, i13, i14, i15, i16, i17, i18, i19, i20, i21, i22, i23, i24, i25, i26, i27, i28, i29, i30, i31, i32, i33, i34, i35, i36, i37, i38, i39, i40, i41, i42, i43, i44, hL, hS, B4, B6, B7, B9, B12, B14, B16, B21, B23, B31⟩ := hI
     simp [Region.binds] at hr
     replace hK := Lib.hid hK
     have y37 := i37 (by simp [hr])
     clear i0 i1 i2 i3 i4 i5 i6 i7 i8 i9 i10 i11 i12 i13 i14 i15 i16 i17 i18 i19 i20 i21 i22 i23 i24 i25 i26 i27 i28 i29 i30 i31 i32 i33 i34 i35 i36 i37 i38 i39 i40 i41 i42 i43 i44
     go_simp
     obtain ⟨-, -, -, -, -, -, -, -, -, -, -, -, -, -, -, -, -, i0, i1, i2, i3, i4, i5, i6, i7, i8, i9, i10, i11, i12, i13, i14, i15, i16, i17, i18, i19, i20, i21, i22, i23, i24, i25, i26, i27, i28, i29, i30, i31, i32, i33, i34, i35, i36, i37, i38, i39, i40, i41, i42, i43, i44, -⟩ := HI.out
     exact hK.out _ _ ⟨qB x8, qB x10, qB x15, qB x17, qB x22, qB x24, qB x28, qB x30, qB x27, qB x29, qB x7, qB x9, qB x14, qB x16, qB x21, qB x23, qB x31, qF i0, qF i1, qF i2, qF i3, qF i4, qF i5, qF i6, qF i7, qF i8, qF i9, qF i10, qF i11, qF i12, qF i13, qF i14, qF i15, qF i16, qF i17, qF i18, qF i19, qF i20, qF i21, qF i22, qF i23, qF i24, qF i25, qF i26, qF i27, qF i28, qF i29, qF i30, qF i31, qF i32, qF i33, qF i34, qF i35, qF i36, qF i37, qP, qF i39, qF i40, qF i41, qF i42, qF i43, qF i44, hL, hS, B4, B6, B7, B9, B12, B14, B16, B21, B23, B31⟩
   · refine GSlot.want rfl rfl (by decide) (fun g ac wc hr hI => ?_) ?_
     · obtain ⟨x8, x10, x15, x17, x22, x24, x28, x30, x27, x29, x7, x9, x14, x16, x21, x23, x31, i0, i1, i2, i3, i4, i5, i6, i7, i8, i9, i10, i11, i12, i13, i14, i15, i16, i17, i18, i19, i20, i21, i22, i23, i24, i25, i26, i27, i28, i29, i30, i31, i32, i33, i34, i35, i36, i37, i38, i39, i40, i41, i42, i43, i44, hL, hS, B4, B6, B7, B9, B12, B14, B16, B21, B23, B31⟩ := hI
       simp [Region.binds] at hr
       exact i38 (by simp [hr])
     unfold SlotStep
     intro g ac wc hn hk hr hI K' hK
     have HI := Lib.hid hI
     obtain ⟨x8, x10, x15, x17, x22, x24, x28, x30, x27, x29, x7, x9, x14, x16, x21, x23, x31, i0, i1, i2, i3, i4, i5, i6, i7, i8, i9, i10, i11, i12, i13, i14, i15, i16, i17, i18, i19, i20, i21, i22, i23, i24, i25, i26, i27, i28, i29, i30, i31, i32, i33, i34, i35, i36, i37, i38, i39, i40, i41, i42, i43, i44, hL, hS, B4, B6, B7, B9, B12, B14, B16, B21, B23, B31⟩ := hI
     simp [Region.binds] at hr
     replace hK := Lib.hid hK
     clear i0 i1 i2 i3 i4 i5 i6 i7 i8 i9 i10 i11 i12 i13 i14 i15 i16 i17 i18 i19 i20 i21 i22 i23 i24 i25 i26 i27 i28 i29 i30 i31 i32 i33 i34 i35 i36 i37 i38 i39 i40 i41 i42 i43 i44
     obtain ⟨c0, f0, z0⟩ := blk_at B31
     go_simp
     obtain ⟨-, -, -, -, -, -, -, -, -, -, -, -, -, -, -, -, -, i0, i1, i2, i3, i4, i5, i6, i7, i8, i9, i10, i11, i12, i13, i14, i15, i16, i17, i18, i19, i20, i21, i22, i23, i24, i25, i26, i27, i28, i29, i30, i31, i32, i33, i34, i35, i36, i37, i38, i39, i40, i41, i42, i43, i44, -⟩ := HI.out
     exact hK.out _ _ ⟨qB x8, qB x10, qB x15, qB x17, qB x22, qB x24, qB x28, qB x30, qB x27, qB x29, qB x7, qB x9, qB x14, qB x16, qB x21, qB x23, qB x31, qF i0, qF i1, qF i2, qF i3, qF i4, qF i5, qF i6, qF i7, qF i8, qF i9, qF i10, qF i11, qF i12, qF i13, qF i14, qF i15, qF i16, qF i17, qF i18, qF i19, qF i20, qF i21, qF i22, qF i23, qF i24, qF i25, qF i26, qF i27, qF i28, qF i29, qF i30, qF i31, qF i32, qF i33, qF i34, qF i35, qF i36, qF i37, qF i38, qP, qF i40, qF i41, qF i42, qF i43, qF i44, hL, hS, B4, B6, B7, B9, B12, B14, B16, B21, B23, B31⟩
   · refine GSlot.want rfl rfl (by decide) (fun g ac wc hr hI => ?_) ?_
     · obtain ⟨x8, x10, x15, x17, x22, x24, x28, x30, x27, x29, x7, x9, x14, x16, x21, x23, x31, i0, i1, i2, i3, i4, i5, i6, i7, i8, i9, i10, i11, i12, i13, i14, i15, i16, i17, i18, i19, i20, i21, i22, i23, i24, i25, i26, i27, i28, i29, i30, i31, i32, i33, i34, i35, i36, i37, i38, i39, i40, i41, i42, i43, i44, hL, hS, B4, B6, B7, B9, B12, B14, B16, B21, B23, B31⟩ := hI
       simp [Region.binds] at hr
       exact i38 (by simp [hr])
     unfold SlotStep
     intro g ac wc hn hk hr hI K' hK
     have HI := Lib.hid hI
     obtain ⟨x8, x10, x15, x17, x22, x24, x28, x30, x27, x29, x7, x9, x14, x16, x21, x23, x31, i0, i1, i2, i3, i4, i5, i6, i7, i8, i9, i10, i11, i12, i13, i14, i15, i16, i17, i18, i19, i20, i21, i22, i23, i24, i25, i26, i27, i28, i29, i30, i31, i32, i33, i34, i35, i36, i37, i38, i39, i40, i41, i42, i43, i44, hL, hS, B4, B6, B7, B9, B12, B14, B16, B21, B23, B31⟩ := hI
     simp [Region.binds] at hr
     replace hK := Lib.hid hK
     have y39 := i39 (by simp [hr])
     clear i0 i1 i2 i3 i4 i5 i6 i7 i8 i9 i10 i11 i12 i13 i14 i15 i16 i17 i18 i19 i20 i21 i22 i23 i24 i25 i26 i27 i28 i29 i30 i31 i32 i33 i34 i35 i36 i37 i38 i39 i40 i41 i42 i43 i44
     go_simp
     refine (w_implIsSetting _ _ _).mono ?_
     rintro e w4 ⟨rfl, hL4⟩
     obtain ⟨-, -, -, -, -, -, -, -, -, -, -, -, -, -, -, -, -, i0, i1, i2, i3, i4, i5, i6, i7, i8, i9, i10, i11, i12, i13, i14, i15, i16, i17, i18, i19, i20, i21, i22, i23, i24, i25, i26, i27, i28, i29, i30, i31, i32, i33, i34, i35, i36, i37, i38, i39, i40, i41, i42, i43, i44, -⟩ := HI.out
     exact hK.out _ _ ⟨qB x8, qB x10, qB x15, qB x17, qB x22, qB x24, qB x28, qB x30, qB x27, qB x29, qB x7, qB x9, qB x14, qB x16, qB x21, qB x23, qB x31, qF i0, qF i1, qF i2, qF i3, qF i4, qF i5, qF i6, qF i7, qF i8, qF i9, qF i10, qF i11, qF i12, qF i13, qF i14, qF i15, qF i16, qF i17, qF i18, qF i19, qF i20, qF i21, qF i22, qF i23, qF i24, qF i25, qF i26, qF i27, qF i28, qF i29, qF i30, qF i31, qF i32, qF i33, qF i34, qF i35, qF i36, qF i37, qF i38, qF i39, qP, qF i41, qF i42, qF i43, qF i44, hL.trans hL4, Nat.le_trans hS hL4.size, hL4.keep B4, hL4.keep B6, hL4.keep B7, hL4.keep B9, hL4.keep B12, hL4.keep B14, hL4.keep B16, hL4.keep B21, hL4.keep B23, hL4.keep B31⟩
   · refine GSlot.want rfl rfl (by decide) (fun g ac wc hr hI => ?_) ?_
     · obtain ⟨x8, x10, x15, x17, x22, x24, x28, x30, x27, x29, x7, x9, x14, x16, x21, x23, x31, i0, i1, i2, i3, i4, i5, i6, i7, i8, i9, i10, i11, i12, i13, i14, i15, i16, i17, i18, i19, i20, i21, i22, i23, i24, i25, i26, i27, i28, i29, i30, i31, i32, i33, i34, i35, i36, i37, i38, i39, i40, i41, i42, i43, i44, hL, hS, B4, B6, B7, B9, B12, B14, B16, B21, B23, B31⟩ := hI
       simp [Region.binds] at hr
       exact i38 (by simp [hr])
     unfold SlotStep
     intro g ac wc hn hk hr hI K' hK
     have HI := Lib.hid hI
     obtain ⟨x8, x10, x15, x17, x22, x24, x28, x30, x27, x29, x7, x9, x14, x16, x21, x23, x31, i0, i1, i2, i3, i4, i5, i6, i7, i8, i9, i10, i11, i12, i13, i14, i15, i16, i17, i18, i19, i20, i21, i22, i23, i24, i25, i26, i27, i28, i29, i30, i31, i32, i33, i34, i35, i36, i37, i38, i39, i40, i41, i42, i43, i44, hL, hS, B4, B6, B7, B9, B12, B14, B16, B21, B23, B31⟩ := hI
     simp [Region.binds] at hr
     replace hK := Lib.hid hK
     clear i0 i1 i2 i3 i4 i5 i6 i7 i8 i9 i10 i11 i12 i13 i14 i15 i16 i17 i18 i19 i20 i21 i22 i23 i24 i25 i26 i27 i28 i29 i30 i31 i32 i33 i34 i35 i36 i37 i38 i39 i40 i41 i42 i43 i44
     obtain ⟨c0, f0, z0⟩ := blk_at B31
     go_simp
     obtain ⟨-, -, -, -, -, -, -, -, -, -, -, -, -, -, -, -, -, i0, i1, i2, i3, i4, i5, i6, i7, i8, i9, i10, i11, i12, i13, i14, i15, i16, i17, i18, i19, i20, i21, i22, i23, i24, i25, i26, i27, i28, i29, i30, i31, i32, i33, i34, i35, i36, i37, i38, i39, i40, i41, i42, i43, i44, -⟩ := HI.out
     exact hK.out _ _ ⟨qB x8, qB x10, qB x15, qB x17, qB x22, qB x24, qB x28, qB x30, qB x27, qB x29, qB x7, qB x9, qB x14, qB x16, qB x21, qB x23, qB x31, qF i0, qF i1, qF i2, qF i3, qF i4, qF i5, qF i6, qF i7, qF i8, qF i9, qF i10, qF i11, qF i12, qF i13, qF i14, qF i15, qF i16, qF i17, qF i18, qF i19, qF i20, qF i21, qF i22, qF i23, qF i24, qF i25, qF i26, qF i27, qF i28, qF i29, qF i30, qF i31, qF i32, qF i33, qF i34, qF i35, qF i36, qF i37, qF i38, qF i39, qF i40, qP, qF i42, qF i43, qF i44, hL, hS, B4, B6, B7, B9, B12, B14, B16, B21, B23, B31⟩
   · refine GSlot.want rfl rfl (by decide) (fun g ac wc hr hI => ?_) ?_
     · obtain ⟨x8, x10, x15, x17, x22, x24, x28, x30, x27, x29, x7, x9, x14, x16, x21, x23, x31, i0, i1, i2, i3, i4, i5, i6, i7, i8, i9, i10, i11, i12, i13, i14, i15, i16, i17, i18, i19, i20, i21, i22, i23, i24, i25, i26, i27, i28, i29, i30, i31, i32, i33, i34, i35, i36, i37, i38, i39, i40, i41, i42, i43, i44, hL, hS, B4, B6, B7, B9, B12, B14, B16, B21, B23, B31⟩ := hI
       simp [Region.binds] at hr
       exact i38 (by simp [hr])
     unfold SlotStep
     intro g ac wc hn hk hr hI K' hK
     have HI := Lib.hid hI
     obtain ⟨x8, x10, x15, x17, x22, x24, x28, x30, x27, x29, x7, x9, x14, x16, x21, x23, x31, i0, i1, i2, i3, i4, i5, i6, i7, i8, i9, i10, i11, i12, i13, i14, i15, i16, i17, i18, i19, i20, i21, i22, i23, i24, i25, i26, i27, i28, i29, i30, i31, i32, i33, i34, i35, i36, i37, i38, i39, i40, i41, i42, i43, i44, hL, hS, B4, B6, B7, B9, B12, B14, B16, B21, B23, B31⟩ := hI
     simp [Region.binds] at hr
     replace hK := Lib.hid hK
     have y41 := i41 (by simp [hr])
     clear i0 i1 i2 i3 i4 i5 i6 i7 i8 i9 i10 i11 i12 i13 i14 i15 i16 i17 i18 i19 i20 i21 i22 i23 i24 i25 i26 i27 i28 i29 i30 i31 i32 i33 i34 i35 i36 i37 i38 i39 i40 i41 i42 i43 i44
     go_simp
     refine (w_specIsSetting _ _ _).mono ?_
     rintro e w4 ⟨rfl, hL4⟩
     obtain ⟨-, -, -, -, -, -, -, -, -, -, -, -, -, -, -, -, -, i0, i1, i2, i3, i4, i5, i6, i7, i8, i9, i10, i11, i12, i13, i14, i15, i16, i17, i18, i19, i20, i21, i22, i23, i24, i25, i26, i27, i28, i29, i30, i31, i32, i33, i34, i35, i36, i37, i38, i39, i40, i41, i42, i43, i44, -⟩ := HI.out
     exact hK.out _ _ ⟨qB x8, qB x10, qB x15, qB x17, qB x22, qB x24, qB x28, qB x30, qB x27, qB x29, qB x7, qB x9, qB x14, qB x16, qB x21, qB x23, qB x31, qF i0, qF i1, qF i2, qF i3, qF i4, qF i5, qF i6, qF i7, qF i8, qF i9, qF i10, qF i11, qF i12, qF i13, qF i14, qF i15, qF i16, qF i17, qF i18, qF i19, qF i20, qF i21, qF i22, qF i23, qF i24, qF i25, qF i26, qF i27, qF i28, qF i29, qF i30, qF i31, qF i32, qF i33, qF i34, qF i35, qF i36, qF i37, qF i38, qF i39, qF i40, qF i41, qP, qF i43, qF i44, hL.trans hL4, Nat.le_trans hS hL4.size, hL4.keep B4, hL4.keep B6, hL4.keep B7, hL4.keep B9, hL4.keep B12, hL4.keep B14, hL4.keep B16, hL4.keep B21, hL4.keep B23, hL4.keep B31⟩
   · refine GSlot.want rfl rfl (by decide) (fun g ac wc hr hI => ?_) ?_
     · obtain ⟨x8, x10, x15, x17, x22, x24, x28, x30, x27, x29, x7, x9, x14, x16, x21, x23, x31, i0, i1, i2, i3, i4, i5, i6, i7, i8, i9, i10, i11, i12, i13, i14, i15, i16, i17, i18, i19, i20, i21, i22, i23, i24, i25, i26, i27, i28, i29, i30, i31, i32, i33, i34, i35, i36, i37, i38, i39, i40, i41, i42, i43, i44, hL, hS, B4, B6, B7, B9, B12, B14, B16, B21, B23, B31⟩ := hI
       simp [Region.binds] at hr
       exact i38 (by simp [hr])
     unfold SlotStep
     intro g ac wc hn hk hr hI K' hK
     have HI := Lib.hid hI
     obtain ⟨x8, x10, x15, x17, x22, x24, x28, x30, x27, x29, x7, x9, x14, x16, x21, x23, x31, i0, i1, i2, i3, i4, i5, i6, i7, i8, i9, i10, i11, i12, i13, i14, i15, i16, i17, i18, i19, i20, i21, i22, i23, i24, i25, i26, i27, i28, i29, i30, i31, i32, i33, i34, i35, i36, i37, i38, i39, i40, i41, i42, i43, i44, hL, hS, B4, B6, B7, B9, B12, B14, B16, B21, B23, B31⟩ := hI
     simp [Region.binds] at hr
     replace hK := Lib.hid hK
     have y40 := i40 (by simp [hr])
     have y42 := i42 (by simp [hr])
     clear i0 i1 i2 i3 i4 i5 i6 i7 i8 i9 i10 i11 i12 i13 i14 i15 i16 i17 i18 i19 i20 i21 i22 i23 i24 i25 i26 i27 i28 i29 i30 i31 i32 i33 i34 i35 i36 i37 i38 i39 i40 i41 i42 i43 i44
     go_simp
     obtain ⟨-, -, -, -, -, -, -, -, -, -, -, -, -, -, -, -, -, i0, i1, i2, i3, i4, i5, i6, i7, i8, i9, i10, i11, i12, i13, i14, i15, i16, i17, i18, i19, i20, i21, i22, i23, i24, i25, i26, i27, i28, i29, i30, i31, i32, i33, i34, i35, i36, i37, i38, i39, i40, i41, i42, i43, i44, -⟩ := HI.out
     exact hK.out _ _ ⟨qB x8, qB x10, qB x15, qB x17, qB x22, qB x24, qB x28, qB x30, qB x27, qB x29, qB x7, qB x9, qB x14, qB x16, qB x21, qB x23, qB x31, qF i0, qF i1, qF i2, qF i3, qF i4, qF i5, qF i6, qF i7, qF i8, qF i9, qF i10, qF i11, qF i12, qF i13, qF i14, qF i15, qF i16, qF i17, qF i18, qF i19, qF i20, qF i21, qF i22, qF i23, qF i24, qF i25, qF i26, qF i27, qF i28, qF i29, qF i30, qF i31, qF i32, qF i33, qF i34, qF i35, qF i36, qF i37, qF i38, qF i39, qF i40, qF i41, qF i42, qP, qF i44, hL, hS, B4, B6, B7, B9, B12, B14, B16, B21, B23, B31⟩
   · refine GSlot.of rfl ?_
     unfold SlotStep
     intro g ac wc hn hk hr hI K' hK
     have HI := Lib.hid hI
     obtain ⟨x8, x10, x15, x17, x22, x24, x28, x30, x27, x29, x7, x9, x14, x16, x21, x23, x31, i0, i1, i2, i3, i4, i5, i6, i7, i8, i9, i10, i11, i12, i13, i14, i15, i16, i17, i18, i19, i20, i21, i22, i23, i24, i25, i26, i27, i28, i29, i30, i31, i32, i33, i34, i35, i36, i37, i38, i39, i40, i41, i42, i43, i44, hL, hS, B4, B6, B7, B9, B12, B14, B16, B21, B23, B31⟩ := hI
     simp [Region.binds] at hr
     replace hK := Lib.hid hK
     have y38 := i38 (by simp [hr])
     have y43 := i43 (by simp [hr])
     have z38 := sl_get y38 (by omega)
     have z43 := sl_get y43 (by omega)
     clear i0 i1 i2 i3 i4 i5 i6 i7 i8 i9 i10 i11 i12 i13 i14 i15 i16 i17 i18 i19 i20 i21 i22 i23 i24 i25 i26 i27 i28 i29 i30 i31 i32 i33 i34 i35 i36 i37 i38 i39 i40 i41 i42 i43 i44
     go_simp
     obtain ⟨-, -, -, -, -, -, -, -, -, -, -, -, -, -, -, -, -, i0, i1, i2, i3, i4, i5, i6, i7, i8, i9, i10, i11, i12, i13, i14, i15, i16, i17, i18, i19, i20, i21, i22, i23, i24, i25, i26, i27, i28, i29, i30, i31, i32, i33, i34, i35, i36, i37, i38, i39, i40, i41, i42, i43, i44, -⟩ := HI.out
     exact hK.out _ _ ⟨qB x8, qB x10, qB x15, qB x17, qB x22, qB x24, qB x28, qB x30, qB x27, qB x29, qB x7, qB x9, qB x14, qB x16, qB x21, qB x23, qB x31, qF i0, qF i1, qF i2, qF i3, qF i4, qF i5, qF i6, qF i7, qF i8, qF i9, qF i10, qF i11, qF i12, qF i13, qF i14, qF i15, qF i16, qF i17, qF i18, qF i19, qF i20, qF i21, qF i22, qF i23, qF i24, qF i25, qF i26, qF i27, qF i28, qF i29, qF i30, qF i31, qF i32, qF i33, qF i34, qF i35, qF i36, qF i37, qF i38, qF i39, qF i40, qF i41, qF i42, qF i43, qP, hL, hS, B4, B6, B7, B9, B12, B14, B16, B21, B23, B31⟩
theorem lifted (os : Os) (started : os.Started) (H : Type) (enc : TypeId × Value → H) :
 ReturnsInHanded {} Try.checked os 8 .any (Rows.fnSettingsSpec.pre6 enc Try.prog Try.f8 Rows.fnSettingsRow.domain false) (Rows.fnSettingsSpec.post enc Try.prog Try.f8 false true false false) := by
 refine returnsInHanded_of_change (C := Try.checked) o_own started (by kernel_rfl) Try.func8
  (ChangeSpec.witness6 (enc := enc) (C := Try.checked) false ⟨#[], #[.slice none 0 0], []⟩ 8 (by kernel_rfl) (by kernel_rfl) (by kernel_rfl) (by kernel_rfl)) ?_
 intro W base args ds gs before hval0 hW hcnd _
 have hval : ∀ (j : Nat) t v, Try.f8.params[j]? = some t → args[j]? = some v → Value.okWide Try.prog W .any base t v := hval0
 have hW' := hW
 obtain ⟨p, q, hA0, hV, rfl, hfz, hnd⟩ := hW
 have hA : DataW.TrodAll enc Try.prog W 0 (fun _ => true) true Try.f8.params.toList args.toList ds p := hA0
 rw [Try.params8] at hA hval
 obtain ⟨v0, vs0, d0, ds0, p0, q0, hargs, rfl, rfl, h0, r0⟩ := trodAll_cons hA
 obtain ⟨rfl, rfl, rfl⟩ := trodAll_nil r0
 obtain rfl : args = #[v0] := by cases args; simp_all
 obtain ⟨rfl, rfl⟩ := trodVars_none hV
 obtain ⟨a0, len0, cap0, rfl⟩ := okWide_slice Try.underlying22 (hval 0 22 v0 rfl rfl)
 have k0 := h0
 have lt0 : ∀ x ∈ p0, x.block < W.heap.size := by obtain ⟨m, hm⟩ := k0; exact DataW.trod_lt m _ _ _ hm
 obtain ⟨l0, w0, hB0⟩ := o_bytes h0
 clear hA0 hval0
 refine (walk _ l0 W w0 hB0).mono fun e W' ⟨he, bel⟩ => ?_
 subst he
 exact ⟨_, rfl, _, _, _, [], _, [], hW', trodAll_mk1 (shut_bool Try.underlying4 _), (trodAll_cons_mk (Below.trod o_laidOut (by kernel_rfl) (of_decide_eq_true (by kernel_rfl)) k0 bel lt0) trodAll_mk0), rfl, bel.frame _, fun h => by cases h⟩
theorem over : Rows.fnSettingsRow.holds Try.pinned (OpenSpec.ofChange Rows.fnSettingsSpec) :=
 OpenClaim.holds_of_wide 8 Try.f8 rfl rfl rfl rfl rfl rfl rfl ⟨rfl, rfl, rfl, rfl, rfl⟩ rfl rfl rfl rfl rfl (by kernel_rfl) Try.func8 (by kernel_rfl)
  (of_decide_eq_true (by kernel_rfl)) (by unfold Func.isWrapper; first | (rw [if_pos (by decide +kernel)]; kernel_rfl) | (rw [if_neg (by decide +kernel)]; exact ⟨rfl, rfl⟩))
  (fun os started H enc _ => lifted os started H enc)
theorem proved : Rows.FnSettingsSaid := over
#print axioms proved
end Go.Proofs.Ytkoojngonldcbaa.lawSettings
