/- Moves are recovered from their text, and travels of both parts add up: the law FnMoveTexts. It returns true for all codes. -/
import Derived.LaidMore
import Derived.Lay
import Derived.OpenShut
import Derived.SevenTiedAt
import Derived.Stop.LaidErr
import Derived.Stop.Joined
import Derived.Shelf.Vars
import Derived.HandedShaped
import Derived.Test.YtgngbdacejghcaaGreatDoorRows
import Derived.Test.YtgngbdacejghcaaGreatDoorCards
import Derived.Test.YtgngbdacejghcaaGreatDoorTie
import Derived.Test.YtgngbdacejghcaaGreatDoorKVO3
import Derived.Test.YtgngbdacejghcaaGreatDoorKVD24z
import Derived.Test.YtgngbdacejghcaaGreatDoorKVD27
import Derived.Test.YtgngbdacejghcaaGreatDoorKVD36
import Derived.Test.YtgngbdacejghcaaGreatDoorKVM7
import Derived.Test.YtgngbdacejghcaaGreatDoorKVM40
import Derived.Test.YtgngbdacejghcaaGreatDoorKVM41
import Derived.Test.YtgngbdacejghcaaGreatDoorKVM43
import Derived.Test.YtgngbdacejghcaaGreatDoorKVM111
import Derived.Test.YtgngbdacejghcaaGreatDoorKVM116
import Derived.Test.YtgngbdacejghcaaGreatDoorKVP28
namespace Go.Proofs.YtgngbdacejghcaaGreatDoor.lawMoveTexts
set_option linter.unusedVariables false
set_option linter.unusedSimpArgs false
open Go.ChangeShapes Go.WideShapes Go.ChangeAt Go.RowKit
set_option linter.unusedVariables false
set_option maxRecDepth 100000
theorem own_caps {w : World} {base : Nat} {e : TypeId} {s : Nat} {a : Option Addr} {n c : Nat} {xs : List Value} (ho : w.ownsRow base e s (.slice a n c) n xs) : n ≤ c ∧ c ≤ 9223372036854775807 := by
 rcases own_shape ho with ⟨h1, h2, _⟩ | ⟨_, _, h1, _, _, h3, h4⟩
 · have e := (Value.slice.inj h1).2
   omega
 · cases h1
   exact ⟨h3, h4⟩
theorem movs_end {w : World} {l : List Mov} {k : Nat} (h : k = l.length) (a : Option Addr) : IsMovs w (.slice a 0 0) (l.drop k) := by
 have e : l.drop k = [] := List.drop_eq_nil_of_le (by omega)
 rw [e]
 exact ⟨rfl, by decide, a, 0, rfl, Nat.le_refl _, by decide, fun h0 => absurd h0 (Nat.lt_irrefl _)⟩
theorem movs_drop {w : World} {g cap k : Nat} {l : List Mov} (h : IsMovs w (.slice (some ⟨g, 0, none⟩) l.length cap) l) (hk : k ≤ l.length) : IsMovs w (.slice (some ⟨g, k * 4, none⟩) (l.length - k) (cap - k)) (l.drop k) := by
 obtain ⟨h1, h2, a, c, he, h4, h5, h6⟩ := h
 cases he
 have hl : (l.drop k).length = l.length - k := List.length_drop
 refine ⟨movs_len _, by omega, _, _, by rw [hl], by omega, by omega, fun h0 => ⟨g, k * 4, rfl, ?_⟩⟩
 obtain ⟨b, off, he, hr⟩ := h6 (by omega)
 cases he
 have e : movs (l.drop k) = (movs l).drop (k * 4) := (flat_drop Mov.cells 4 (fun _ => rfl) l k).symm
 rw [e]
 have := hr.drop (k * 4)
 rwa [Nat.zero_add] at this
theorem w_implReadMovesR (s : List UInt8) (X : List Mov) (c : Int) (hX : msV s = X) (hc : msC s = c) (hs : s.length ≤ 1048576) (w : World) (he : Env w) :
 Calls Tryz.prog 28 #[sv s] w fun e w' => ∃ v, e = .returned (.tuple #[v, .int .i64 c]) ∧ Later w w' ∧ w'.ownsRow w.heap.size 107 4 v X.length (movs X) := by
 subst hX
 subst hc
 exact w_implReadMoves s hs w he
theorem w_specReadMovesR (s : List UInt8) (X : List Mov) (c : Int) (hX : msV s = X) (hc : msC s = c) (hs : s.length ≤ 1048576) (w : World) :
 Calls Tryz.prog 29 #[sv s] w fun e w' => ∃ v, e = .returned (.tuple #[v, .int .i64 c]) ∧ Later w w' ∧ w'.ownsRow w.heap.size 107 4 v X.length (movs X) := by
 subst hX
 subst hc
 exact w_specReadMoves s hs w
theorem text_back {l : List Mov} {t : List UInt8} (ht : mtT l = t) (hc : codeMoves l = 0) : msV t = l ∧ msC t = 0 := by
 unfold mtT at ht
 rw [if_pos hc] at ht
 exact ms_yes (rdMs_some hc ht)
theorem moves_again {s : List UInt8} {X : List Mov} (hX : msV s = X) (hc : msC s = 0) : mtT X = s ∧ codeMoves X = 0 := by
 cases h : rdMs s with
 | none => rw [(ms_no h).2] at hc; cases hc
 | some l =>
  rw [(ms_yes h).1] at hX
  subst hX
  obtain ⟨h1, h2⟩ := rdMs_is h
  exact ⟨by unfold mtT; rw [if_pos h1, h2], h1⟩
set_option maxHeartbeats 16000000 in
theorem walk (v0 : Value) (bs : List Int) (W : World) (r0 : Raw W v0 bs.length 1 (byts bs)) (hB : ∀ b ∈ bs, 0 ≤ b ∧ b ≤ 255) (he : Env W) :
 Calls Tryz.prog 4 #[v0] W fun e w' => e = .returned (.bool true) ∧ Later W w' := by
 have HE := Lib.hid he
 clear he
 by_cases hb : bs.length ≤ 4096
 rotate_left
 · obtain ⟨_, x0, cap0, rfl, hcap0, hmax0, _⟩ := r0
   have hbg : decide ((4096 : Int) < (bs.length : Int)) = true := by simp; omega
   have HB := Lib.hid hbg
   clear hbg
   go_enter Tryz.func4, Tryz.ntmps4
   go_wp2_with fail
   refine (w_big _ _ _ (by omega) _).mono ?_
   rintro e w' ⟨rfl, rfl⟩
   rw [HB.out]
   go_wp2
   go_ret
   exact ⟨rfl, Later.refl _⟩
 have HC := Lib.hid (r0.reads (by omega))
 obtain ⟨_, x0, cap0, rfl, hcap0, hmax0, _⟩ := r0
 have hbg : decide ((4096 : Int) < (bs.length : Int)) = false := by simp; omega
 have HB := Lib.hid hbg
 clear hbg
 go_enter Tryz.func4, Tryz.ntmps4
 go_wp2_with fail
 refine (w_big _ _ _ (by omega) _).mono ?_
 rintro e w' ⟨rfl, rfl⟩
 rw [HB.out]
 go_wp2_with fail
 refine (w_DrawMovesText _ bs _ ((HC.out.later qlh)) hB hb).mono ?_
 rintro e w1 ⟨vd, ld, rfl, hOd, hd31, hL⟩
 obtain ⟨ad, capd, rfl⟩ := isSl_of hOd
 have HW1 : Hid (Later W w1) := Lib.hid (Later.trans qlh hL)
 have hz1 := HW1.out.size
 have HOd_1 := Lib.hid hOd
 clear hOd
 clear hL
 have htx := mtT_lenR ld
 obtain ⟨tx, hHTX⟩ : ∃ q, mtT ld = q := ⟨_, rfl⟩
 have HTX := Lib.hid hHTX
 obtain ⟨cl, hHCL⟩ : ∃ q, codeMoves ld = q := ⟨_, rfl⟩
 have HCL := Lib.hid hHCL
 rw [hHTX] at htx
 clear hHTX hHCL
 go_wp2_with fail
 refine (w_implMovesText _ ld _ (reads_of_owns (qoh HOd_1) (by omega)) (HE.out.later qlh).tab).mono ?_
 rintro e w2 ⟨rfl, hL⟩
 have HW2 : Hid (Later W w2) := Lib.hid (Later.trans qlh hL)
 have hz2 := HW2.out.size
 have HOd_2 := Lib.hid (owns_later (qoh HOd_1) hL)
 clear hL
 rw [HTX.out, HCL.out]
 go_wp2_with fail
 refine (w_specMovesText _ ld _ (reads_of_owns (qoh HOd_2) (by omega))).mono ?_
 rintro e w3 ⟨rfl, hL⟩
 have HW3 : Hid (Later W w3) := Lib.hid (Later.trans qlh hL)
 have hz3 := HW3.out.size
 have HOd_3 := Lib.hid (owns_later (qoh HOd_2) hL)
 clear hL
 rw [HTX.out, HCL.out]
 go_wp2_with fail
 refine (w_DrawReadMoves _ bs _ ((HC.out.later qlh)) hB hb).mono ?_
 rintro e w4 ⟨tq, rfl, htq, hL⟩
 have HW4 : Hid (Later W w4) := Lib.hid (Later.trans qlh hL)
 have hz4 := HW4.out.size
 have HOd_4 := Lib.hid (owns_later (qoh HOd_3) hL)
 clear hL
 have hx30 := ms_len tq
 obtain ⟨X, hHX⟩ : ∃ q, msV tq = q := ⟨_, rfl⟩
 have HX := Lib.hid hHX
 obtain ⟨cx, hHCX⟩ : ∃ q, msC tq = q := ⟨_, rfl⟩
 have HCX := Lib.hid hHCX
 rw [hHX] at hx30
 clear hHX hHCX
 go_wp2_with fail
 refine (w_implReadMovesR tq X cx HX.out HCX.out (by omega) _ (HE.out.later qlh)).mono ?_
 rintro e w5 ⟨vx, rfl, hL, hOx⟩
 have HW5 : Hid (Later W w5) := Lib.hid (Later.trans qlh hL)
 have hz5 := HW5.out.size
 have HOd_5 := Lib.hid (owns_later (qoh HOd_4) hL)
 have HOx_5 := Lib.hid hOx
 clear hOx
 clear hL
 go_wp2_with fail
 refine (w_specReadMovesR tq X cx HX.out HCX.out (by omega) _).mono ?_
 rintro e w6 ⟨vy, rfl, hL, hOy⟩
 have HW6 : Hid (Later W w6) := Lib.hid (Later.trans qlh hL)
 have hz6 := HW6.out.size
 have HOd_6 := Lib.hid (owns_later (qoh HOd_5) hL)
 have HOx_6 := Lib.hid (owns_later (qoh HOx_5) hL)
 have HOy_6 := Lib.hid hOy
 clear hOy
 clear hL
 go_wp2_with fail
 refine (w_DrawTravelOf _ bs _ ((HC.out.later qlh)) hB hb).mono ?_
 rintro e w7 ⟨n, vu, vv, st, sd, s, l, vz, rfl, hOu, hOv, hu5, hv5, hOz, hz31, hL⟩
 obtain ⟨au, capu, rfl⟩ := isSl_of hOu
 obtain ⟨av, capv, rfl⟩ := isSl_of hOv
 obtain ⟨az, capz, rfl⟩ := isSl_of hOz
 obtain ⟨hcz, hcz2⟩ := own_caps hOz
 have HW7 : Hid (Later W w7) := Lib.hid (Later.trans qlh hL)
 have hz7 := HW7.out.size
 have HOd_7 := Lib.hid (owns_later (qoh HOd_6) hL)
 have HOx_7 := Lib.hid (owns_later (qoh HOx_6) hL)
 have HOy_7 := Lib.hid (owns_later (qoh HOy_6) hL)
 have HOu_7 := Lib.hid hOu
 clear hOu
 have HOv_7 := Lib.hid hOv
 clear hOv
 have HOz_7 := Lib.hid hOz
 clear hOz
 clear hL
 obtain ⟨aS, hHAS⟩ : ∃ q, travS ⟨n, st, sd⟩ ⟨s.sh, s.cu⟩ l = q := ⟨_, rfl⟩
 have HAS := Lib.hid hHAS
 obtain ⟨aK, hHAK⟩ : ∃ q, travK ⟨n, st, sd⟩ ⟨s.sh, s.cu⟩ l = q := ⟨_, rfl⟩
 have HAK := Lib.hid hHAK
 obtain ⟨cr, hHCR⟩ : ∃ q, runC ⟨n, st, sd⟩ ⟨s.sh, s.cu⟩ l = q := ⟨_, rfl⟩
 have HCR := Lib.hid hHCR
 clear hHAS hHAK hHCR
 go_wp2_with fail
 refine (w_implTravelOf n _ _ st sd s.sh s.cu _ l _ (reads_of_owns (qoh HOu_7) (by omega)) (reads_of_owns (qoh HOv_7) (by omega)) (reads_of_owns (qoh HOz_7) (by omega))).mono ?_
 rintro e w8 ⟨rfl, hL⟩
 have HW8 : Hid (Later W w8) := Lib.hid (Later.trans qlh hL)
 have hz8 := HW8.out.size
 have HOd_8 := Lib.hid (owns_later (qoh HOd_7) hL)
 have HOx_8 := Lib.hid (owns_later (qoh HOx_7) hL)
 have HOy_8 := Lib.hid (owns_later (qoh HOy_7) hL)
 have HOu_8 := Lib.hid (owns_later (qoh HOu_7) hL)
 have HOv_8 := Lib.hid (owns_later (qoh HOv_7) hL)
 have HOz_8 := Lib.hid (owns_later (qoh HOz_7) hL)
 have HK13_8 := Lib.hid (hL.keep (k := w7.heap.size) qkh)
 have HK14_8 := Lib.hid (hL.keep (k := w7.heap.size + 1) qkh)
 clear hL
 obtain ⟨c13, f13, z13_8⟩ := blk_at HK13_8.out
 obtain ⟨c14, f14, z14_8⟩ := blk_at HK14_8.out
 rw [HAS.out, HAK.out, HCR.out]
 go_wp2_with fail
 refine (w_specTravelOf n _ _ st sd s.sh s.cu _ l _ (reads_of_owns (qoh HOu_8) (by omega)) (reads_of_owns (qoh HOv_8) (by omega)) (reads_of_owns (qoh HOz_8) (by omega))).mono ?_
 rintro e w9 ⟨rfl, hL⟩
 have HW9 : Hid (Later W w9) := Lib.hid (Later.trans qlh hL)
 have hz9 := HW9.out.size
 have HOd_9 := Lib.hid (owns_later (qoh HOd_8) hL)
 have HOx_9 := Lib.hid (owns_later (qoh HOx_8) hL)
 have HOy_9 := Lib.hid (owns_later (qoh HOy_8) hL)
 have HOu_9 := Lib.hid (owns_later (qoh HOu_8) hL)
 have HOv_9 := Lib.hid (owns_later (qoh HOv_8) hL)
 have HOz_9 := Lib.hid (owns_later (qoh HOz_8) hL)
 have HK13_9 := Lib.hid (hL.keep (k := w7.heap.size) qkh)
 have HK14_9 := Lib.hid (hL.keep (k := w7.heap.size + 1) qkh)
 clear hL c13 f13 c14 f14
 obtain ⟨c13, f13, z13_9⟩ := blk_at HK13_9.out
 obtain ⟨c14, f14, z14_9⟩ := blk_at HK14_9.out
 rw [HAS.out, HAK.out, HCR.out]
 go_wp2_with fail
 refine (w_DrawCountSettings _ bs _ ((HC.out.later qlh)) hB hb).mono ?_
 rintro e w10 ⟨ve, le, rfl, hOe, he31, hL⟩
 obtain ⟨ae, cape, rfl⟩ := isSl_of hOe
 have HW10 : Hid (Later W w10) := Lib.hid (Later.trans qlh hL)
 have hz10 := HW10.out.size
 have HOd_10 := Lib.hid (owns_later (qoh HOd_9) hL)
 have HOx_10 := Lib.hid (owns_later (qoh HOx_9) hL)
 have HOy_10 := Lib.hid (owns_later (qoh HOy_9) hL)
 have HOu_10 := Lib.hid (owns_later (qoh HOu_9) hL)
 have HOv_10 := Lib.hid (owns_later (qoh HOv_9) hL)
 have HOz_10 := Lib.hid (owns_later (qoh HOz_9) hL)
 have HK13_10 := Lib.hid (hL.keep (k := w7.heap.size) qkh)
 have HK14_10 := Lib.hid (hL.keep (k := w7.heap.size + 1) qkh)
 have HOe_10 := Lib.hid hOe
 clear hOe
 clear hL c13 f13 c14 f14
 obtain ⟨c13, f13, z13_10⟩ := blk_at HK13_10.out
 obtain ⟨c14, f14, z14_10⟩ := blk_at HK14_10.out
 obtain ⟨nc, hHNC⟩ : ∃ q, countSettings le = q := ⟨_, rfl⟩
 have HNC := Lib.hid hHNC
 obtain ⟨ce, hHCE⟩ : ∃ q, codeMoves le = q := ⟨_, rfl⟩
 have HCE := Lib.hid hHCE
 clear hHNC hHCE
 go_wp2_with fail
 refine (w_implCountSettings _ le _ (reads_of_owns (qoh HOe_10) (by omega))).mono ?_
 rintro e w11 ⟨rfl, hL⟩
 have HW11 : Hid (Later W w11) := Lib.hid (Later.trans qlh hL)
 have hz11 := HW11.out.size
 have HOd_11 := Lib.hid (owns_later (qoh HOd_10) hL)
 have HOx_11 := Lib.hid (owns_later (qoh HOx_10) hL)
 have HOy_11 := Lib.hid (owns_later (qoh HOy_10) hL)
 have HOu_11 := Lib.hid (owns_later (qoh HOu_10) hL)
 have HOv_11 := Lib.hid (owns_later (qoh HOv_10) hL)
 have HOz_11 := Lib.hid (owns_later (qoh HOz_10) hL)
 have HOe_11 := Lib.hid (owns_later (qoh HOe_10) hL)
 have HK13_11 := Lib.hid (hL.keep (k := w7.heap.size) qkh)
 have HK14_11 := Lib.hid (hL.keep (k := w7.heap.size + 1) qkh)
 clear hL c13 f13 c14 f14
 obtain ⟨c13, f13, z13_11⟩ := blk_at HK13_11.out
 obtain ⟨c14, f14, z14_11⟩ := blk_at HK14_11.out
 rw [HNC.out, HCE.out]
 go_wp2_with fail
 refine (w_specCountSettings _ le _ (reads_of_owns (qoh HOe_11) (by omega))).mono ?_
 rintro e w12 ⟨rfl, hL⟩
 have HW12 : Hid (Later W w12) := Lib.hid (Later.trans qlh hL)
 have hz12 := HW12.out.size
 have HOd_12 := Lib.hid (owns_later (qoh HOd_11) hL)
 have HOx_12 := Lib.hid (owns_later (qoh HOx_11) hL)
 have HOy_12 := Lib.hid (owns_later (qoh HOy_11) hL)
 have HOu_12 := Lib.hid (owns_later (qoh HOu_11) hL)
 have HOv_12 := Lib.hid (owns_later (qoh HOv_11) hL)
 have HOz_12 := Lib.hid (owns_later (qoh HOz_11) hL)
 have HOe_12 := Lib.hid (owns_later (qoh HOe_11) hL)
 have HK13_12 := Lib.hid (hL.keep (k := w7.heap.size) qkh)
 have HK14_12 := Lib.hid (hL.keep (k := w7.heap.size + 1) qkh)
 clear hL c13 f13 c14 f14
 obtain ⟨c13, f13, z13_12⟩ := blk_at HK13_12.out
 obtain ⟨c14, f14, z14_12⟩ := blk_at HK14_12.out
 rw [HNC.out, HCE.out]
 go_wp2_with fail
 refine (w_likeMovesY _ _ X _ (reads_of_owns (qoh HOx_12) (by omega)) (reads_of_owns (qoh HOy_12) (by omega))).mono ?_
 rintro e w13 ⟨rfl, hL⟩
 have HW13 : Hid (Later W w13) := Lib.hid (Later.trans qlh hL)
 have hz13 := HW13.out.size
 have HOd_13 := Lib.hid (owns_later (qoh HOd_12) hL)
 have HOx_13 := Lib.hid (owns_later (qoh HOx_12) hL)
 have HOy_13 := Lib.hid (owns_later (qoh HOy_12) hL)
 have HOu_13 := Lib.hid (owns_later (qoh HOu_12) hL)
 have HOv_13 := Lib.hid (owns_later (qoh HOv_12) hL)
 have HOz_13 := Lib.hid (owns_later (qoh HOz_12) hL)
 have HOe_13 := Lib.hid (owns_later (qoh HOe_12) hL)
 have HK13_13 := Lib.hid (hL.keep (k := w7.heap.size) qkh)
 have HK14_13 := Lib.hid (hL.keep (k := w7.heap.size + 1) qkh)
 clear hL c13 f13 c14 f14
 obtain ⟨c13, f13, z13_13⟩ := blk_at HK13_13.out
 obtain ⟨c14, f14, z14_13⟩ := blk_at HK14_13.out
 clear HOy_13
 clear HOe_13
 by_cases hr : cr = 0
 · skip
   have hrb : (cr == 0) = true := by simpa using hr
   by_cases hz : cx = 0
   case' neg =>
    have hzb : (cx == 0) = false := by simpa using hz
    clear HOx_13
    go_wp2_with fail
    rename World => w40
    have HW40 := HW13
    have hz40 := hz13
    have HOd_40 := HOd_13
    have HOu_40 := HOu_13
    have HOv_40 := HOv_13
    have HOz_40 := HOz_13
    have HK13_40 := HK13_13
    have z13_40 := z13_13
    have HK14_40 := HK14_13
    have z14_40 := z14_13
    clear HW13 HOd_13 HOu_13 HOv_13 HOz_13 HK13_13 HK14_13
   case' pos =>
    have hzb : (cx == 0) = true := by simpa using hz
    have AG := Lib.hid (moves_again HX.out (by rw [HCX.out]; exact hz))
    go_wp2_with fail
    refine (w_implMovesText _ X _ (reads_of_owns (qoh HOx_13) (by omega)) (HE.out.later qlh).tab).mono ?_
    rintro e w14 ⟨rfl, hL⟩
    have HW14 : Hid (Later W w14) := Lib.hid (Later.trans qlh hL)
    have hz14 := HW14.out.size
    have HOd_14 := Lib.hid (owns_later (qoh HOd_13) hL)
    have HOx_14 := Lib.hid (owns_later (qoh HOx_13) hL)
    have HOu_14 := Lib.hid (owns_later (qoh HOu_13) hL)
    have HOv_14 := Lib.hid (owns_later (qoh HOv_13) hL)
    have HOz_14 := Lib.hid (owns_later (qoh HOz_13) hL)
    have HK13_14 := Lib.hid (hL.keep (k := w7.heap.size) qkh)
    have HK14_14 := Lib.hid (hL.keep (k := w7.heap.size + 1) qkh)
    clear hL c13 f13 c14 f14
    obtain ⟨c13, f13, z13_14⟩ := blk_at HK13_14.out
    obtain ⟨c14, f14, z14_14⟩ := blk_at HK14_14.out
    rw [AG.out.1, AG.out.2]
    clear HOx_14
    go_wp2_with fail
    rename World => w40
    have HW40 := HW14
    have hz40 := hz14
    have HOd_40 := HOd_14
    have HOu_40 := HOu_14
    have HOv_40 := HOv_14
    have HOz_40 := HOz_14
    have HK13_40 := HK13_14
    have z13_40 := z13_14
    have HK14_40 := HK14_14
    have z14_40 := z14_14
    clear HW14 HOd_14 HOu_14 HOv_14 HOz_14 HK13_14 HK14_14
   all_goals
    have HRC := Lib.hid (show runC ⟨n, st, sd⟩ ⟨s.sh, s.cu⟩ l = 0 from by rw [HCR.out]; exact hr)
    go_wp2_with fail
    refine (w_roll _ bs 1202 _ (HC.out.later qlh) hB hb).mono ?_
    rintro e w41 ⟨rfl, hL, hDi⟩
    have HW41 : Hid (Later W w41) := Lib.hid (Later.trans qlh hL)
    have hz41 := HW41.out.size
    have HOd_41 := Lib.hid (owns_later (qoh HOd_40) hL)
    have HOu_41 := Lib.hid (owns_later (qoh HOu_40) hL)
    have HOv_41 := Lib.hid (owns_later (qoh HOv_40) hL)
    have HOz_41 := Lib.hid (owns_later (qoh HOz_40) hL)
    have HK13_41 := Lib.hid (hL.keep (k := w7.heap.size) qkh)
    have HK14_41 := Lib.hid (hL.keep (k := w7.heap.size + 1) qkh)
    clear hL c13 f13 c14 f14
    obtain ⟨c13, f13, z13_41⟩ := blk_at HK13_41.out
    obtain ⟨c14, f14, z14_41⟩ := blk_at HK14_41.out
    go_wp2_with fail
    refine (w_below _ _ (((l.length : Int) + 1)) _ hDi (by omega) (by omega)).mono ?_
    rintro e w42 ⟨xx, rfl, xx0, xx1, hD⟩
    have HW42 : Hid (Later W w42) := Lib.hid (Later.drawn (k := w40.heap.size) HW41.out hz40 hD)
    have hz42 := HW42.out.size
    have HOd_42 := Lib.hid (rows_grown HOd_41.out hD (fun j hj e => by have h := (HOd_40.out.lt _ hj).2; cases e; omega))
    have HOu_42 := Lib.hid (rows_grown HOu_41.out hD (fun j hj e => by have h := (HOu_40.out.lt _ hj).2; cases e; omega))
    have HOv_42 := Lib.hid (rows_grown HOv_41.out hD (fun j hj e => by have h := (HOv_40.out.lt _ hj).2; cases e; omega))
    have HOz_42 := Lib.hid (rows_grown HOz_41.out hD (fun j hj e => by have h := (HOz_40.out.lt _ hj).2; cases e; omega))
    have HK13_42 := Lib.hid (hD.keep (j := w7.heap.size) HK13_41.out (by omega))
    have HK14_42 := Lib.hid (hD.keep (j := w7.heap.size + 1) HK14_41.out (by omega))
    clear hD hDi c13 f13 c14 f14
    obtain ⟨c13, f13, z13_42⟩ := blk_at HK13_42.out
    obtain ⟨c14, f14, z14_42⟩ := blk_at HK14_42.out
    obtain ⟨ct, rfl⟩ : ∃ ct : Nat, xx = ct := ⟨xx.toNat, by omega⟩
    have hkl : ct ≤ l.length := by omega
    obtain ⟨hp1, hp2, hp3⟩ := travel_parts HRC.out ct hkl
    obtain ⟨hq1, hq2⟩ := trav_parts HRC.out ct hkl
    have hbA := travS_bd ⟨n, st, sd⟩ ⟨s.sh, s.cu⟩ (l := l.take ct) (by simp; omega)
    have hbB := travS_bd ⟨n, st, sd⟩ (runMv ⟨n, st, sd⟩ ⟨s.sh, s.cu⟩ (l.take ct)) (l := l.drop ct) (by simp; omega)
    have hbC := travS_bd ⟨n, st, sd⟩ ⟨s.sh, s.cu⟩ (l := l) hz31
    rw [HAS.out] at hq1 hbC
    rw [HAK.out] at hq2 hbC
    have HR1 := Lib.hid (show runC ⟨n, st, sd⟩ ⟨s.sh, s.cu⟩ (l.take ct) = 0 from hp1)
    have HR2 := Lib.hid (show runC ⟨n, st, sd⟩ ⟨(runMv ⟨n, st, sd⟩ ⟨s.sh, s.cu⟩ (l.take ct)).sh, (runMv ⟨n, st, sd⟩ ⟨s.sh, s.cu⟩ (l.take ct)).cu⟩ (l.drop ct) = 0 from hp2)
    obtain ⟨pS, hPS⟩ : ∃ q, travS ⟨n, st, sd⟩ ⟨s.sh, s.cu⟩ (l.take ct) = q := ⟨_, rfl⟩
    obtain ⟨pK, hPK⟩ : ∃ q, travK ⟨n, st, sd⟩ ⟨s.sh, s.cu⟩ (l.take ct) = q := ⟨_, rfl⟩
    obtain ⟨qS, hQS⟩ : ∃ q, travS ⟨n, st, sd⟩ ⟨(runMv ⟨n, st, sd⟩ ⟨s.sh, s.cu⟩ (l.take ct)).sh, (runMv ⟨n, st, sd⟩ ⟨s.sh, s.cu⟩ (l.take ct)).cu⟩ (l.drop ct) = q := ⟨_, rfl⟩
    obtain ⟨qK, hQK⟩ : ∃ q, travK ⟨n, st, sd⟩ ⟨(runMv ⟨n, st, sd⟩ ⟨s.sh, s.cu⟩ (l.take ct)).sh, (runMv ⟨n, st, sd⟩ ⟨s.sh, s.cu⟩ (l.take ct)).cu⟩ (l.drop ct) = q := ⟨_, rfl⟩
    rw [hPS] at hq1 hbA
    rw [hPK] at hq2 hbA
    rw [show travS ⟨n, st, sd⟩ (runMv ⟨n, st, sd⟩ ⟨s.sh, s.cu⟩ (l.take ct)) (l.drop ct) = qS from hQS] at hq1 hbB
    rw [show travK ⟨n, st, sd⟩ (runMv ⟨n, st, sd⟩ ⟨s.sh, s.cu⟩ (l.take ct)) (l.drop ct) = qK from hQK] at hq2 hbB
    have HPS := Lib.hid hPS
    have HPK := Lib.hid hPK
    have HQS := Lib.hid hQS
    have HQK := Lib.hid hQK
    have w1 : IntKind.i64.wrap (pS + qS) = aS := by rw [← hq1]; exact wrapI (by omega) (by omega)
    have w2 : IntKind.i64.wrap (pK + qK) = aK := by rw [← hq2]; exact wrapI (by omega) (by omega)
    clear hp1 hp2 hp3 hq1 hq2 hbA hbB hbC hPS hPK hQS hQK xx0 xx1
    go_wp2_with fail
    have hL0 := HW42.out
    have hSB := HW42.out.size
    have K13 := HK13_42.out
    have K14 := HK14_42.out
    have Qd := HOd_42.out
    have Qu := HOu_42.out
    have Qv := HOv_42.out
    have Qz := HOz_42.out
    clear c13 f13 c14 f14
    have NBd := own_le Qd
    have NBu := own_le Qu
    have NBv := own_le Qv
    have NBz := own_le Qz
    refine region_slots 233 [167, 168, 169, 170, 171, 172, 166, 173, 174, 30, 31] (fun g ac wc => sl ac 13 = .pointer (some ⟨w7.heap.size, 0, none⟩) ∧
     sl ac 14 = .pointer (some ⟨w7.heap.size + 1, 0, none⟩) ∧
     sl ac 15 = .slice az l.length capz ∧
     sl ac 29 = .int .i64 (ct : Nat) ∧
     (g 0 = true → sl ac 167 = .agg #[.int .i64 n, .slice au st.length capu, .slice av sd.length capv]) ∧
     (g 1 = true → sl ac 168 = .agg #[.int .i64 s.sh, .int .i64 s.cu]) ∧
     (g 2 = true → sl ac 169 = .slice az l.length capz) ∧
     (g 3 = true → sl ac 170 = .int .i64 (ct : Nat)) ∧
     (g 4 = true → sl ac 171 = .slice az ct capz) ∧
     (g 5 = true → sl ac 172 = .tuple #[.agg #[.int .i64 (runMv ⟨n, st, sd⟩ ⟨s.sh, s.cu⟩ (l.take ct)).sh, .int .i64 (runMv ⟨n, st, sd⟩ ⟨s.sh, s.cu⟩ (l.take ct)).cu], .int .i64 0]) ∧
     (g 6 = true → sl ac 166 = .tuple #[.agg #[.int .i64 (runMv ⟨n, st, sd⟩ ⟨s.sh, s.cu⟩ (l.take ct)).sh, .int .i64 (runMv ⟨n, st, sd⟩ ⟨s.sh, s.cu⟩ (l.take ct)).cu], .int .i64 0]) ∧
     (g 7 = true → sl ac 173 = .agg #[.int .i64 (runMv ⟨n, st, sd⟩ ⟨s.sh, s.cu⟩ (l.take ct)).sh, .int .i64 (runMv ⟨n, st, sd⟩ ⟨s.sh, s.cu⟩ (l.take ct)).cu]) ∧
     (g 8 = true → sl ac 174 = .int .i64 0) ∧
     (g 11 = true → sl ac 31 = .int .i64 0) ∧
     Later W wc ∧
     (g 9 = true → ∃ k, sl ac 30 = .pointer (some ⟨k, 0, none⟩) ∧ w42.heap.size ≤ k ∧ ∃ q9_0 q9_1, wc.heap[k]? = some (.cells #[q9_0, q9_1] 28 (0, 0)) ∧ (g 10 = true → q9_0 = .int .i64 (runMv ⟨n, st, sd⟩ ⟨s.sh, s.cu⟩ (l.take ct)).sh ∧ q9_1 = .int .i64 (runMv ⟨n, st, sd⟩ ⟨s.sh, s.cu⟩ (l.take ct)).cu)) ∧
     wc.ownsRow W.heap.size 107 4 (.slice ad ld.length capd) (ld.length) (movs ld) ∧
     wc.ownsRow w6.heap.size 2 1 (.slice au st.length capu) (st.length) (nums st) ∧
     wc.ownsRow w6.heap.size 2 1 (.slice av sd.length capv) (sd.length) (nums sd) ∧
     wc.ownsRow w6.heap.size 107 4 (.slice az l.length capz) (l.length) (movs l) ∧
     (g 10 = true → g 9 = true) ∧
     w42.heap.size ≤ wc.heap.size ∧
     wc.heap[w7.heap.size]? = some (.cells #[.int .i64 n, .slice au st.length capu, .slice av sd.length capv] 26 (0, 0)) ∧
     wc.heap[w7.heap.size + 1]? = some (.cells #[.int .i64 s.sh, .int .i64 s.cu] 28 (0, 0))) (by kernel_rfl) (by kernel_rfl) rfl (by kernel_rfl) ?_ ?_ ?_
    · exact ⟨rfl, rfl, rfl, rfl, nofun, nofun, nofun, nofun, nofun, nofun, nofun, nofun, nofun, nofun, hL0.drew, nofun, owns_later Qd (Later.refl _).drew, owns_later Qu (Later.refl _).drew, owns_later Qv (Later.refl _).drew, owns_later Qz (Later.refl _).drew, nofun, Nat.le_refl _, K13, K14⟩
    · intro g ac wu hg ha hI
      obtain ⟨x13, x14, x15, x29, i0, i1, i2, i3, i4, i5, i6, i7, i8, i11, hL, n9, Qd, Qu, Qv, Qz, -, hS, B13, B14⟩ := hI
      have a0 := i0 (hg 0 (by simp))
      have a1 := i1 (hg 1 (by simp))
      have a2 := i2 (hg 2 (by simp))
      have a3 := i3 (hg 3 (by simp))
      have a4 := i4 (hg 4 (by simp))
      have a5 := i5 (hg 5 (by simp))
      have a6 := i6 (hg 6 (by simp))
      have a7 := i7 (hg 7 (by simp))
      have a8 := i8 (hg 8 (by simp))
      have a11 := i11 (hg 11 (by simp))
      obtain ⟨kr9, e9, br9, q9_0, q9_1, Kr9, g9⟩ := n9 (hg 9 (by simp))
      have g9 := g9 (hg 10 (by simp))
      rw [g9.1, g9.2] at Kr9
      clear g9
      simp only [putAll, a0, a1, a2, a3, a4, a5, a6, a7, a8, a11, e9] at ha
      simp only [Act.put, List.setIfInBounds_toArray, List.set_cons_succ, List.set_cons_zero] at ha
      rw [ha]
      clear x13 x14 x15 x29 i0 i1 i2 i3 i4 i5 i6 i7 i8 i11 a0 a1 a2 a3 a4 a5 a6 a7 a8 a11 e9 n9 hg ha
      have HW142 := Lib.hid hL
      have hz142 := hL.size
      have HK13_142 := Lib.hid B13
      have HK14_142 := Lib.hid B14
      have HOd_142 := Lib.hid Qd
      have HOu_142 := Lib.hid Qu
      have HOv_142 := Lib.hid Qv
      have HOz_142 := Lib.hid Qz
      have HKNr_142 := Lib.hid Kr9
      have hzwu := hS
      clear hL hS B13 B14 Kr9 hL0 K13 K14 Qd Qu Qv Qz
      obtain ⟨c13, f13, z13_142⟩ := blk_at HK13_142.out
      obtain ⟨c14, f14, z14_142⟩ := blk_at HK14_142.out
      obtain ⟨cNr, fNr, zNr_142⟩ := blk_at HKNr_142.out
      go_wp2_with fail
      have hL0 := HW142.out
      have hSB := HW142.out.size
      have K13 := HK13_142.out
      have K14 := HK14_142.out
      have KNr := HKNr_142.out
      have Qd := HOd_142.out
      have Qu := HOu_142.out
      have Qv := HOv_142.out
      have Qz := HOz_142.out
      clear c13 f13 c14 f14 cNr fNr
      have NBd := own_le Qd
      have NBu := own_le Qu
      have NBv := own_le Qv
      have NBz := own_le Qz
      refine region_slots 233 [176, 177, 178, 179, 180, 181, 175, 182, 183, 184, 32, 33, 34] (fun g ac wc => sl ac 13 = .pointer (some ⟨w7.heap.size, 0, none⟩) ∧
       sl ac 14 = .pointer (some ⟨w7.heap.size + 1, 0, none⟩) ∧
       sl ac 15 = .slice az l.length capz ∧
       sl ac 29 = .int .i64 (ct : Nat) ∧
       (g 0 = true → sl ac 176 = .agg #[.int .i64 n, .slice au st.length capu, .slice av sd.length capv]) ∧
       (g 1 = true → sl ac 177 = .agg #[.int .i64 s.sh, .int .i64 s.cu]) ∧
       (g 2 = true → sl ac 178 = .slice az l.length capz) ∧
       (g 3 = true → sl ac 179 = .int .i64 (ct : Nat)) ∧
       (g 4 = true → sl ac 180 = .slice az ct capz) ∧
       (g 5 = true → sl ac 181 = .tuple #[.int .i64 pS, .int .i64 pK, .int .i64 0]) ∧
       (g 6 = true → sl ac 175 = .tuple #[.int .i64 pS, .int .i64 pK, .int .i64 0]) ∧
       (g 7 = true → sl ac 182 = .int .i64 pS) ∧
       (g 8 = true → sl ac 183 = .int .i64 pK) ∧
       (g 9 = true → sl ac 184 = .int .i64 0) ∧
       (g 10 = true → sl ac 32 = .int .i64 pS) ∧
       (g 11 = true → sl ac 33 = .int .i64 pK) ∧
       (g 12 = true → sl ac 34 = .int .i64 0) ∧
       Later W wc ∧
       wc.ownsRow W.heap.size 107 4 (.slice ad ld.length capd) (ld.length) (movs ld) ∧
       wc.ownsRow w6.heap.size 2 1 (.slice au st.length capu) (st.length) (nums st) ∧
       wc.ownsRow w6.heap.size 2 1 (.slice av sd.length capv) (sd.length) (nums sd) ∧
       wc.ownsRow w6.heap.size 107 4 (.slice az l.length capz) (l.length) (movs l) ∧
       wu.heap.size ≤ wc.heap.size ∧
       wc.heap[w7.heap.size]? = some (.cells #[.int .i64 n, .slice au st.length capu, .slice av sd.length capv] 26 (0, 0)) ∧
       wc.heap[w7.heap.size + 1]? = some (.cells #[.int .i64 s.sh, .int .i64 s.cu] 28 (0, 0)) ∧
       wc.heap[kr9]? = some (.cells #[.int .i64 (runMv ⟨n, st, sd⟩ ⟨s.sh, s.cu⟩ (l.take ct)).sh, .int .i64 (runMv ⟨n, st, sd⟩ ⟨s.sh, s.cu⟩ (l.take ct)).cu] 28 (0, 0))) (by kernel_rfl) (by kernel_rfl) rfl (by kernel_rfl) ?_ ?_ ?_
      · exact ⟨rfl, rfl, rfl, rfl, nofun, nofun, nofun, nofun, nofun, nofun, nofun, nofun, nofun, nofun, nofun, nofun, nofun, hL0.drew, owns_later Qd (Later.refl _).drew, owns_later Qu (Later.refl _).drew, owns_later Qv (Later.refl _).drew, owns_later Qz (Later.refl _).drew, Nat.le_refl _, K13, K14, KNr⟩
      · intro g ac ur hg ha hI
        obtain ⟨x13, x14, x15, x29, i0, i1, i2, i3, i4, i5, i6, i7, i8, i9, i10, i11, i12, hL, Qd, Qu, Qv, Qz, hS, B13, B14, BNr⟩ := hI
        have a0 := i0 (hg 0 (by simp))
        have a1 := i1 (hg 1 (by simp))
        have a2 := i2 (hg 2 (by simp))
        have a3 := i3 (hg 3 (by simp))
        have a4 := i4 (hg 4 (by simp))
        have a5 := i5 (hg 5 (by simp))
        have a6 := i6 (hg 6 (by simp))
        have a7 := i7 (hg 7 (by simp))
        have a8 := i8 (hg 8 (by simp))
        have a9 := i9 (hg 9 (by simp))
        have a10 := i10 (hg 10 (by simp))
        have a11 := i11 (hg 11 (by simp))
        have a12 := i12 (hg 12 (by simp))
        simp only [putAll, a0, a1, a2, a3, a4, a5, a6, a7, a8, a9, a10, a11, a12] at ha
        simp only [Act.put, List.setIfInBounds_toArray, List.set_cons_succ, List.set_cons_zero] at ha
        rw [ha]
        clear x13 x14 x15 x29 i0 i1 i2 i3 i4 i5 i6 i7 i8 i9 i10 i11 i12 a0 a1 a2 a3 a4 a5 a6 a7 a8 a9 a10 a11 a12 hg ha
        have HW242 := Lib.hid hL
        have hz242 := hL.size
        have HK13_242 := Lib.hid B13
        have HK14_242 := Lib.hid B14
        have HKNr_242 := Lib.hid BNr
        have HOd_242 := Lib.hid Qd
        have HOu_242 := Lib.hid Qu
        have HOv_242 := Lib.hid Qv
        have HOz_242 := Lib.hid Qz
        clear hL hS B13 B14 BNr hL0 K13 K14 KNr Qd Qu Qv Qz
        obtain ⟨c13, f13, z13_242⟩ := blk_at HK13_242.out
        obtain ⟨c14, f14, z14_242⟩ := blk_at HK14_242.out
        obtain ⟨cNr, fNr, zNr_242⟩ := blk_at HKNr_242.out
        by_cases hkc : ct = capz
        · skip
          have HKN := Lib.hid (show ct = l.length by omega)
          subst hkc
          go_wp2_with fail
          have hL0 := HW242.out
          have hSB := HW242.out.size
          have K13 := HK13_242.out
          have K14 := HK14_242.out
          have KNr := HKNr_242.out
          have Qd := HOd_242.out
          have Qu := HOu_242.out
          have Qv := HOv_242.out
          have Qz := HOz_242.out
          clear c13 f13 c14 f14 cNr fNr
          have NBd := own_le Qd
          have NBu := own_le Qu
          have NBv := own_le Qv
          have NBz := own_le Qz
          refine region_slots 233 [186, 187, 188, 189, 190, 191, 185, 192, 193, 194, 35, 36, 37] (fun g ac wc => sl ac 13 = .pointer (some ⟨w7.heap.size, 0, none⟩) ∧
           sl ac 30 = .pointer (some ⟨kr9, 0, none⟩) ∧
           sl ac 15 = .slice az l.length ct ∧
           sl ac 29 = .int .i64 (ct : Nat) ∧
           (g 0 = true → sl ac 186 = .agg #[.int .i64 n, .slice au st.length capu, .slice av sd.length capv]) ∧
           (g 1 = true → sl ac 187 = .agg #[.int .i64 (runMv ⟨n, st, sd⟩ ⟨s.sh, s.cu⟩ (l.take ct)).sh, .int .i64 (runMv ⟨n, st, sd⟩ ⟨s.sh, s.cu⟩ (l.take ct)).cu]) ∧
           (g 2 = true → sl ac 188 = .slice az l.length ct) ∧
           (g 3 = true → sl ac 189 = .int .i64 (ct : Nat)) ∧
           (g 4 = true → sl ac 190 = .slice az 0 0) ∧
           (g 5 = true → sl ac 191 = .tuple #[.int .i64 qS, .int .i64 qK, .int .i64 0]) ∧
           (g 6 = true → sl ac 185 = .tuple #[.int .i64 qS, .int .i64 qK, .int .i64 0]) ∧
           (g 7 = true → sl ac 192 = .int .i64 qS) ∧
           (g 8 = true → sl ac 193 = .int .i64 qK) ∧
           (g 9 = true → sl ac 194 = .int .i64 0) ∧
           (g 10 = true → sl ac 35 = .int .i64 qS) ∧
           (g 11 = true → sl ac 36 = .int .i64 qK) ∧
           (g 12 = true → sl ac 37 = .int .i64 0) ∧
           Later W wc ∧
           wc.ownsRow W.heap.size 107 4 (.slice ad ld.length capd) (ld.length) (movs ld) ∧
           wc.ownsRow w6.heap.size 2 1 (.slice au st.length capu) (st.length) (nums st) ∧
           wc.ownsRow w6.heap.size 2 1 (.slice av sd.length capv) (sd.length) (nums sd) ∧
           wc.ownsRow w6.heap.size 107 4 (.slice az l.length ct) (l.length) (movs l) ∧
           ur.heap.size ≤ wc.heap.size ∧
           wc.heap[w7.heap.size]? = some (.cells #[.int .i64 n, .slice au st.length capu, .slice av sd.length capv] 26 (0, 0)) ∧
           wc.heap[w7.heap.size + 1]? = some (.cells #[.int .i64 s.sh, .int .i64 s.cu] 28 (0, 0)) ∧
           wc.heap[kr9]? = some (.cells #[.int .i64 (runMv ⟨n, st, sd⟩ ⟨s.sh, s.cu⟩ (l.take ct)).sh, .int .i64 (runMv ⟨n, st, sd⟩ ⟨s.sh, s.cu⟩ (l.take ct)).cu] 28 (0, 0))) (by kernel_rfl) (by kernel_rfl) rfl (by kernel_rfl) ?_ ?_ ?_
          · exact ⟨rfl, rfl, rfl, rfl, nofun, nofun, nofun, nofun, nofun, nofun, nofun, nofun, nofun, nofun, nofun, nofun, nofun, hL0.drew, owns_later Qd (Later.refl _).drew, owns_later Qu (Later.refl _).drew, owns_later Qv (Later.refl _).drew, owns_later Qz (Later.refl _).drew, Nat.le_refl _, K13, K14, KNr⟩
          · intro g ac us hg ha hI
            obtain ⟨x13, x30, x15, x29, i0, i1, i2, i3, i4, i5, i6, i7, i8, i9, i10, i11, i12, hL, Qd, Qu, Qv, Qz, hS, B13, B14, BNr⟩ := hI
            have a0 := i0 (hg 0 (by simp))
            have a1 := i1 (hg 1 (by simp))
            have a2 := i2 (hg 2 (by simp))
            have a3 := i3 (hg 3 (by simp))
            have a4 := i4 (hg 4 (by simp))
            have a5 := i5 (hg 5 (by simp))
            have a6 := i6 (hg 6 (by simp))
            have a7 := i7 (hg 7 (by simp))
            have a8 := i8 (hg 8 (by simp))
            have a9 := i9 (hg 9 (by simp))
            have a10 := i10 (hg 10 (by simp))
            have a11 := i11 (hg 11 (by simp))
            have a12 := i12 (hg 12 (by simp))
            simp only [putAll, a0, a1, a2, a3, a4, a5, a6, a7, a8, a9, a10, a11, a12] at ha
            simp only [Act.put, List.setIfInBounds_toArray, List.set_cons_succ, List.set_cons_zero] at ha
            rw [ha]
            clear x13 x30 x15 x29 i0 i1 i2 i3 i4 i5 i6 i7 i8 i9 i10 i11 i12 a0 a1 a2 a3 a4 a5 a6 a7 a8 a9 a10 a11 a12 hg ha
            have HW342 := Lib.hid hL
            have hz342 := hL.size
            have HK13_342 := Lib.hid B13
            have HK14_342 := Lib.hid B14
            have HKNr_342 := Lib.hid BNr
            have HOd_342 := Lib.hid Qd
            have HOu_342 := Lib.hid Qu
            have HOv_342 := Lib.hid Qv
            have HOz_342 := Lib.hid Qz
            clear hL hS B13 B14 BNr hL0 K13 K14 KNr Qd Qu Qv Qz
            obtain ⟨c13, f13, z13_342⟩ := blk_at HK13_342.out
            obtain ⟨c14, f14, z14_342⟩ := blk_at HK14_342.out
            obtain ⟨cNr, fNr, zNr_342⟩ := blk_at HKNr_342.out
            clear HK13_342 c13 f13
            clear HK14_342 c14 f14
            clear HKNr_342 cNr fNr
            clear HOu_342
            clear HOv_342
            clear HOz_342
            by_cases hc : cl = 0
            · skip
              have hcb : (cl != 0) = false := by simpa using hc
              have RB := Lib.hid (text_back HTX.out (by rw [HCL.out]; exact hc))
              go_wp2_with fail
              refine (w_implReadMovesR tx ld 0 RB.out.1 RB.out.2 (by omega) _ (HE.out.later qlh)).mono ?_
              rintro e w343 ⟨vb, rfl, hL, hOb⟩
              have HW343 : Hid (Later W w343) := Lib.hid (Later.trans qlh hL)
              have hz343 := HW343.out.size
              have HOd_343 := Lib.hid (owns_later (qoh HOd_342) hL)
              have HOb_343 := Lib.hid hOb
              clear hOb
              clear hL
              go_wp2_with fail
              refine (w_likeMovesY _ _ ld _ (reads_of_owns (qoh HOb_343) (by omega)) (reads_of_owns (qoh HOd_343) (by omega))).mono ?_
              rintro e w344 ⟨rfl, hL⟩
              have HW344 : Hid (Later W w344) := Lib.hid (Later.trans qlh hL)
              have hz344 := HW344.out.size
              have HOd_344 := Lib.hid (owns_later (qoh HOd_343) hL)
              have HOb_344 := Lib.hid (owns_later (qoh HOb_343) hL)
              clear hL
              go_wp2
              go_ret
              exact ⟨rfl, qlh⟩
            · skip
              have hcb : (cl != 0) = true := by simpa using hc
              go_wp2
              go_ret
              exact ⟨rfl, qlh⟩
          · refine .cons ?_ (.cons ?_ (.cons ?_ (.cons ?_ (.cons ?_ (.cons ?_ (.cons ?_ (.cons ?_ (.cons ?_ (.cons ?_ (.cons ?_ (.cons ?_ (.cons ?_ .nil))))))))))))
            · refine qst fun g ac wc hn hk hr HI K' hK => ?_
              obtain ⟨x13, x30, x15, x29, i0, i1, i2, i3, i4, i5, i6, i7, i8, i9, i10, i11, i12, hL, Qd, Qu, Qv, Qz, hS, B13, B14, BNr⟩ := HI.out
              simp [Region.binds] at hr
              clear i0 i1 i2 i3 i4 i5 i6 i7 i8 i9 i10 i11 i12 Qd Qu Qv Qz
              obtain ⟨cb, fb, zb⟩ := blk_at B13
              go_simp
              obtain ⟨-, -, -, -, i0, i1, i2, i3, i4, i5, i6, i7, i8, i9, i10, i11, i12, -, Qd, Qu, Qv, Qz, -⟩ := HI.out
              exact hK.out _ _ ⟨qB x13, qB x30, qB x15, qB x29, qP, qF i1, qF i2, qF i3, qF i4, qF i5, qF i6, qF i7, qF i8, qF i9, qF i10, qF i11, qF i12, hL, Qd, Qu, Qv, Qz, hS, B13, B14, BNr⟩
            · refine qst fun g ac wc hn hk hr HI K' hK => ?_
              obtain ⟨x13, x30, x15, x29, i0, i1, i2, i3, i4, i5, i6, i7, i8, i9, i10, i11, i12, hL, Qd, Qu, Qv, Qz, hS, B13, B14, BNr⟩ := HI.out
              simp [Region.binds] at hr
              clear i0 i1 i2 i3 i4 i5 i6 i7 i8 i9 i10 i11 i12 Qd Qu Qv Qz
              obtain ⟨cb, fb, zb⟩ := blk_at BNr
              go_simp
              obtain ⟨-, -, -, -, i0, i1, i2, i3, i4, i5, i6, i7, i8, i9, i10, i11, i12, -, Qd, Qu, Qv, Qz, -⟩ := HI.out
              exact hK.out _ _ ⟨qB x13, qB x30, qB x15, qB x29, qF i0, qP, qF i2, qF i3, qF i4, qF i5, qF i6, qF i7, qF i8, qF i9, qF i10, qF i11, qF i12, hL, Qd, Qu, Qv, Qz, hS, B13, B14, BNr⟩
            · refine qst fun g ac wc hn hk hr HI K' hK => ?_
              obtain ⟨x13, x30, x15, x29, i0, i1, i2, i3, i4, i5, i6, i7, i8, i9, i10, i11, i12, hL, Qd, Qu, Qv, Qz, hS, B13, B14, BNr⟩ := HI.out
              simp [Region.binds] at hr
              clear i0 i1 i2 i3 i4 i5 i6 i7 i8 i9 i10 i11 i12 Qd Qu Qv Qz
              go_simp
              obtain ⟨-, -, -, -, i0, i1, i2, i3, i4, i5, i6, i7, i8, i9, i10, i11, i12, -, Qd, Qu, Qv, Qz, -⟩ := HI.out
              exact hK.out _ _ ⟨qB x13, qB x30, qB x15, qB x29, qF i0, qF i1, qP, qF i3, qF i4, qF i5, qF i6, qF i7, qF i8, qF i9, qF i10, qF i11, qF i12, hL, Qd, Qu, Qv, Qz, hS, B13, B14, BNr⟩
            · refine qst fun g ac wc hn hk hr HI K' hK => ?_
              obtain ⟨x13, x30, x15, x29, i0, i1, i2, i3, i4, i5, i6, i7, i8, i9, i10, i11, i12, hL, Qd, Qu, Qv, Qz, hS, B13, B14, BNr⟩ := HI.out
              simp [Region.binds] at hr
              clear i0 i1 i2 i3 i4 i5 i6 i7 i8 i9 i10 i11 i12 Qd Qu Qv Qz
              go_simp
              obtain ⟨-, -, -, -, i0, i1, i2, i3, i4, i5, i6, i7, i8, i9, i10, i11, i12, -, Qd, Qu, Qv, Qz, -⟩ := HI.out
              exact hK.out _ _ ⟨qB x13, qB x30, qB x15, qB x29, qF i0, qF i1, qF i2, qP, qF i4, qF i5, qF i6, qF i7, qF i8, qF i9, qF i10, qF i11, qF i12, hL, Qd, Qu, Qv, Qz, hS, B13, B14, BNr⟩
            · refine qst fun g ac wc hn hk hr HI K' hK => ?_
              obtain ⟨x13, x30, x15, x29, i0, i1, i2, i3, i4, i5, i6, i7, i8, i9, i10, i11, i12, hL, Qd, Qu, Qv, Qz, hS, B13, B14, BNr⟩ := HI.out
              simp [Region.binds] at hr
              have y2 := i2 (by simp [hr])
              have y3 := i3 (by simp [hr])
              have z2 := sl_get y2 (by omega)
              have z3 := sl_get y3 (by omega)
              clear i0 i1 i2 i3 i4 i5 i6 i7 i8 i9 i10 i11 i12 Qd Qu Qv Qz
              have hkn2 : l.length - ct = 0 := by have h := HKN.out; omega
              have hle2 : ((ct : Int) ≤ (l.length : Int)) = True := by simp; have h := HKN.out; omega
              go_simp
              obtain ⟨-, -, -, -, i0, i1, i2, i3, i4, i5, i6, i7, i8, i9, i10, i11, i12, -, Qd, Qu, Qv, Qz, -⟩ := HI.out
              exact hK.out _ _ ⟨qB x13, qB x30, qB x15, qB x29, qF i0, qF i1, qF i2, qF i3, qP, qF i5, qF i6, qF i7, qF i8, qF i9, qF i10, qF i11, qF i12, hL, Qd, Qu, Qv, Qz, hS, B13, B14, BNr⟩
            · refine qst fun g ac wc hn hk hr HI K' hK => ?_
              obtain ⟨x13, x30, x15, x29, i0, i1, i2, i3, i4, i5, i6, i7, i8, i9, i10, i11, i12, hL, Qd, Qu, Qv, Qz, hS, B13, B14, BNr⟩ := HI.out
              simp [Region.binds] at hr
              have y0 := i0 (by simp [hr])
              have y1 := i1 (by simp [hr])
              have y4 := i4 (by simp [hr])
              have z0 := sl_get y0 (by omega)
              have z1 := sl_get y1 (by omega)
              have z4 := sl_get y4 (by omega)
              replace i0 := Lib.hid i0
              replace i1 := Lib.hid i1
              replace i2 := Lib.hid i2
              replace i3 := Lib.hid i3
              replace i4 := Lib.hid i4
              replace i5 := Lib.hid i5
              replace i6 := Lib.hid i6
              replace i7 := Lib.hid i7
              replace i8 := Lib.hid i8
              replace i9 := Lib.hid i9
              replace i10 := Lib.hid i10
              replace i11 := Lib.hid i11
              replace i12 := Lib.hid i12
              replace Qd := Lib.hid Qd
              replace Qu := Lib.hid Qu
              replace Qv := Lib.hid Qv
              replace Qz := Lib.hid Qz
              go_simp
              refine (w_implTravelOf n _ _ st sd (runMv ⟨n, st, sd⟩ ⟨s.sh, s.cu⟩ (l.take ct)).sh (runMv ⟨n, st, sd⟩ ⟨s.sh, s.cu⟩ (l.take ct)).cu _ (l.drop ct) wc (reads_of_owns Qu.out (by omega)) (reads_of_owns Qv.out (by omega)) (movs_end HKN.out az)).mono ?_
              rintro e w4 ⟨rfl, hL4⟩
              rw [HQS.out, HQK.out, HR2.out]
              exact hK.out _ _ ⟨qB x13, qB x30, qB x15, qB x29, qF i0.out, qF i1.out, qF i2.out, qF i3.out, qF i4.out, qP, qF i6.out, qF i7.out, qF i8.out, qF i9.out, qF i10.out, qF i11.out, qF i12.out, hL.trans hL4, (owns_later Qd.out hL4), (owns_later Qu.out hL4), (owns_later Qv.out hL4), (owns_later Qz.out hL4), Nat.le_trans hS hL4.size, (hL4.keep B13), (hL4.keep B14), (hL4.keep BNr)⟩
            · refine qst fun g ac wc hn hk hr HI K' hK => ?_
              obtain ⟨x13, x30, x15, x29, i0, i1, i2, i3, i4, i5, i6, i7, i8, i9, i10, i11, i12, hL, Qd, Qu, Qv, Qz, hS, B13, B14, BNr⟩ := HI.out
              simp [Region.binds] at hr
              have y5 := i5 (by simp [hr])
              have z5 := sl_get y5 (by omega)
              clear i0 i1 i2 i3 i4 i5 i6 i7 i8 i9 i10 i11 i12 Qd Qu Qv Qz
              go_simp
              obtain ⟨-, -, -, -, i0, i1, i2, i3, i4, i5, i6, i7, i8, i9, i10, i11, i12, -, Qd, Qu, Qv, Qz, -⟩ := HI.out
              exact hK.out _ _ ⟨qB x13, qB x30, qB x15, qB x29, qF i0, qF i1, qF i2, qF i3, qF i4, qF i5, qP, qF i7, qF i8, qF i9, qF i10, qF i11, qF i12, hL, Qd, Qu, Qv, Qz, hS, B13, B14, BNr⟩
            · refine qst fun g ac wc hn hk hr HI K' hK => ?_
              obtain ⟨x13, x30, x15, x29, i0, i1, i2, i3, i4, i5, i6, i7, i8, i9, i10, i11, i12, hL, Qd, Qu, Qv, Qz, hS, B13, B14, BNr⟩ := HI.out
              simp [Region.binds] at hr
              have y6 := i6 (by simp [hr])
              have z6 := sl_get y6 (by omega)
              clear i0 i1 i2 i3 i4 i5 i6 i7 i8 i9 i10 i11 i12 Qd Qu Qv Qz
              go_simp
              obtain ⟨-, -, -, -, i0, i1, i2, i3, i4, i5, i6, i7, i8, i9, i10, i11, i12, -, Qd, Qu, Qv, Qz, -⟩ := HI.out
              exact hK.out _ _ ⟨qB x13, qB x30, qB x15, qB x29, qF i0, qF i1, qF i2, qF i3, qF i4, qF i5, qF i6, qP, qF i8, qF i9, qF i10, qF i11, qF i12, hL, Qd, Qu, Qv, Qz, hS, B13, B14, BNr⟩
            · refine qst fun g ac wc hn hk hr HI K' hK => ?_
              obtain ⟨x13, x30, x15, x29, i0, i1, i2, i3, i4, i5, i6, i7, i8, i9, i10, i11, i12, hL, Qd, Qu, Qv, Qz, hS, B13, B14, BNr⟩ := HI.out
              simp [Region.binds] at hr
              have y6 := i6 (by simp [hr])
              have z6 := sl_get y6 (by omega)
              clear i0 i1 i2 i3 i4 i5 i6 i7 i8 i9 i10 i11 i12 Qd Qu Qv Qz
              go_simp
              obtain ⟨-, -, -, -, i0, i1, i2, i3, i4, i5, i6, i7, i8, i9, i10, i11, i12, -, Qd, Qu, Qv, Qz, -⟩ := HI.out
              exact hK.out _ _ ⟨qB x13, qB x30, qB x15, qB x29, qF i0, qF i1, qF i2, qF i3, qF i4, qF i5, qF i6, qF i7, qP, qF i9, qF i10, qF i11, qF i12, hL, Qd, Qu, Qv, Qz, hS, B13, B14, BNr⟩
            · refine qst fun g ac wc hn hk hr HI K' hK => ?_
              obtain ⟨x13, x30, x15, x29, i0, i1, i2, i3, i4, i5, i6, i7, i8, i9, i10, i11, i12, hL, Qd, Qu, Qv, Qz, hS, B13, B14, BNr⟩ := HI.out
              simp [Region.binds] at hr
              have y6 := i6 (by simp [hr])
              have z6 := sl_get y6 (by omega)
              clear i0 i1 i2 i3 i4 i5 i6 i7 i8 i9 i10 i11 i12 Qd Qu Qv Qz
              go_simp
              obtain ⟨-, -, -, -, i0, i1, i2, i3, i4, i5, i6, i7, i8, i9, i10, i11, i12, -, Qd, Qu, Qv, Qz, -⟩ := HI.out
              exact hK.out _ _ ⟨qB x13, qB x30, qB x15, qB x29, qF i0, qF i1, qF i2, qF i3, qF i4, qF i5, qF i6, qF i7, qF i8, qP, qF i10, qF i11, qF i12, hL, Qd, Qu, Qv, Qz, hS, B13, B14, BNr⟩
            · refine qst fun g ac wc hn hk hr HI K' hK => ?_
              obtain ⟨x13, x30, x15, x29, i0, i1, i2, i3, i4, i5, i6, i7, i8, i9, i10, i11, i12, hL, Qd, Qu, Qv, Qz, hS, B13, B14, BNr⟩ := HI.out
              simp [Region.binds] at hr
              have y7 := i7 (by simp [hr])
              have z7 := sl_get y7 (by omega)
              clear i0 i1 i2 i3 i4 i5 i6 i7 i8 i9 i10 i11 i12 Qd Qu Qv Qz
              go_simp
              obtain ⟨-, -, -, -, i0, i1, i2, i3, i4, i5, i6, i7, i8, i9, i10, i11, i12, -, Qd, Qu, Qv, Qz, -⟩ := HI.out
              exact hK.out _ _ ⟨qB x13, qB x30, qB x15, qB x29, qF i0, qF i1, qF i2, qF i3, qF i4, qF i5, qF i6, qF i7, qF i8, qF i9, qP, qF i11, qF i12, hL, Qd, Qu, Qv, Qz, hS, B13, B14, BNr⟩
            · refine qst fun g ac wc hn hk hr HI K' hK => ?_
              obtain ⟨x13, x30, x15, x29, i0, i1, i2, i3, i4, i5, i6, i7, i8, i9, i10, i11, i12, hL, Qd, Qu, Qv, Qz, hS, B13, B14, BNr⟩ := HI.out
              simp [Region.binds] at hr
              have y8 := i8 (by simp [hr])
              have z8 := sl_get y8 (by omega)
              clear i0 i1 i2 i3 i4 i5 i6 i7 i8 i9 i10 i11 i12 Qd Qu Qv Qz
              go_simp
              obtain ⟨-, -, -, -, i0, i1, i2, i3, i4, i5, i6, i7, i8, i9, i10, i11, i12, -, Qd, Qu, Qv, Qz, -⟩ := HI.out
              exact hK.out _ _ ⟨qB x13, qB x30, qB x15, qB x29, qF i0, qF i1, qF i2, qF i3, qF i4, qF i5, qF i6, qF i7, qF i8, qF i9, qF i10, qP, qF i12, hL, Qd, Qu, Qv, Qz, hS, B13, B14, BNr⟩
            · refine qst fun g ac wc hn hk hr HI K' hK => ?_
              obtain ⟨x13, x30, x15, x29, i0, i1, i2, i3, i4, i5, i6, i7, i8, i9, i10, i11, i12, hL, Qd, Qu, Qv, Qz, hS, B13, B14, BNr⟩ := HI.out
              simp [Region.binds] at hr
              have y9 := i9 (by simp [hr])
              have z9 := sl_get y9 (by omega)
              clear i0 i1 i2 i3 i4 i5 i6 i7 i8 i9 i10 i11 i12 Qd Qu Qv Qz
              go_simp
              obtain ⟨-, -, -, -, i0, i1, i2, i3, i4, i5, i6, i7, i8, i9, i10, i11, i12, -, Qd, Qu, Qv, Qz, -⟩ := HI.out
              exact hK.out _ _ ⟨qB x13, qB x30, qB x15, qB x29, qF i0, qF i1, qF i2, qF i3, qF i4, qF i5, qF i6, qF i7, qF i8, qF i9, qF i10, qF i11, qP, hL, Qd, Qu, Qv, Qz, hS, B13, B14, BNr⟩
        · skip
          rcases own_shape HOz_242.out with ⟨hq, _, _⟩ | ⟨gz, _, hs, _, _, _, _⟩
          · have e := (Value.slice.inj hq).2
            omega
          cases hs
          have hkc3 : ¬ capz = ct := fun e => hkc e.symm
          go_wp2_with fail
          have hL0 := HW242.out
          have hSB := HW242.out.size
          have K13 := HK13_242.out
          have K14 := HK14_242.out
          have KNr := HKNr_242.out
          have Qd := HOd_242.out
          have Qu := HOu_242.out
          have Qv := HOv_242.out
          have Qz := HOz_242.out
          clear c13 f13 c14 f14 cNr fNr
          have NBd := own_le Qd
          have NBu := own_le Qu
          have NBv := own_le Qv
          have NBz := own_le Qz
          refine region_slots 233 [186, 187, 188, 189, 190, 191, 185, 192, 193, 194, 35, 36, 37] (fun g ac wc => sl ac 13 = .pointer (some ⟨w7.heap.size, 0, none⟩) ∧
           sl ac 30 = .pointer (some ⟨kr9, 0, none⟩) ∧
           sl ac 15 = .slice (some ⟨gz, 0, none⟩) l.length capz ∧
           sl ac 29 = .int .i64 (ct : Nat) ∧
           (g 0 = true → sl ac 186 = .agg #[.int .i64 n, .slice au st.length capu, .slice av sd.length capv]) ∧
           (g 1 = true → sl ac 187 = .agg #[.int .i64 (runMv ⟨n, st, sd⟩ ⟨s.sh, s.cu⟩ (l.take ct)).sh, .int .i64 (runMv ⟨n, st, sd⟩ ⟨s.sh, s.cu⟩ (l.take ct)).cu]) ∧
           (g 2 = true → sl ac 188 = .slice (some ⟨gz, 0, none⟩) l.length capz) ∧
           (g 3 = true → sl ac 189 = .int .i64 (ct : Nat)) ∧
           (g 4 = true → sl ac 190 = .slice (some ⟨gz, ct * 4, none⟩) (l.length - ct) (capz - ct)) ∧
           (g 5 = true → sl ac 191 = .tuple #[.int .i64 qS, .int .i64 qK, .int .i64 0]) ∧
           (g 6 = true → sl ac 185 = .tuple #[.int .i64 qS, .int .i64 qK, .int .i64 0]) ∧
           (g 7 = true → sl ac 192 = .int .i64 qS) ∧
           (g 8 = true → sl ac 193 = .int .i64 qK) ∧
           (g 9 = true → sl ac 194 = .int .i64 0) ∧
           (g 10 = true → sl ac 35 = .int .i64 qS) ∧
           (g 11 = true → sl ac 36 = .int .i64 qK) ∧
           (g 12 = true → sl ac 37 = .int .i64 0) ∧
           Later W wc ∧
           wc.ownsRow W.heap.size 107 4 (.slice ad ld.length capd) (ld.length) (movs ld) ∧
           wc.ownsRow w6.heap.size 2 1 (.slice au st.length capu) (st.length) (nums st) ∧
           wc.ownsRow w6.heap.size 2 1 (.slice av sd.length capv) (sd.length) (nums sd) ∧
           wc.ownsRow w6.heap.size 107 4 (.slice (some ⟨gz, 0, none⟩) l.length capz) (l.length) (movs l) ∧
           ur.heap.size ≤ wc.heap.size ∧
           wc.heap[w7.heap.size]? = some (.cells #[.int .i64 n, .slice au st.length capu, .slice av sd.length capv] 26 (0, 0)) ∧
           wc.heap[w7.heap.size + 1]? = some (.cells #[.int .i64 s.sh, .int .i64 s.cu] 28 (0, 0)) ∧
           wc.heap[kr9]? = some (.cells #[.int .i64 (runMv ⟨n, st, sd⟩ ⟨s.sh, s.cu⟩ (l.take ct)).sh, .int .i64 (runMv ⟨n, st, sd⟩ ⟨s.sh, s.cu⟩ (l.take ct)).cu] 28 (0, 0))) (by kernel_rfl) (by kernel_rfl) rfl (by kernel_rfl) ?_ ?_ ?_
          · exact ⟨rfl, rfl, rfl, rfl, nofun, nofun, nofun, nofun, nofun, nofun, nofun, nofun, nofun, nofun, nofun, nofun, nofun, hL0.drew, owns_later Qd (Later.refl _).drew, owns_later Qu (Later.refl _).drew, owns_later Qv (Later.refl _).drew, owns_later Qz (Later.refl _).drew, Nat.le_refl _, K13, K14, KNr⟩
          · intro g ac us hg ha hI
            obtain ⟨x13, x30, x15, x29, i0, i1, i2, i3, i4, i5, i6, i7, i8, i9, i10, i11, i12, hL, Qd, Qu, Qv, Qz, hS, B13, B14, BNr⟩ := hI
            have a0 := i0 (hg 0 (by simp))
            have a1 := i1 (hg 1 (by simp))
            have a2 := i2 (hg 2 (by simp))
            have a3 := i3 (hg 3 (by simp))
            have a4 := i4 (hg 4 (by simp))
            have a5 := i5 (hg 5 (by simp))
            have a6 := i6 (hg 6 (by simp))
            have a7 := i7 (hg 7 (by simp))
            have a8 := i8 (hg 8 (by simp))
            have a9 := i9 (hg 9 (by simp))
            have a10 := i10 (hg 10 (by simp))
            have a11 := i11 (hg 11 (by simp))
            have a12 := i12 (hg 12 (by simp))
            simp only [putAll, a0, a1, a2, a3, a4, a5, a6, a7, a8, a9, a10, a11, a12] at ha
            simp only [Act.put, List.setIfInBounds_toArray, List.set_cons_succ, List.set_cons_zero] at ha
            rw [ha]
            clear x13 x30 x15 x29 i0 i1 i2 i3 i4 i5 i6 i7 i8 i9 i10 i11 i12 a0 a1 a2 a3 a4 a5 a6 a7 a8 a9 a10 a11 a12 hg ha
            have HW342 := Lib.hid hL
            have hz342 := hL.size
            have HK13_342 := Lib.hid B13
            have HK14_342 := Lib.hid B14
            have HKNr_342 := Lib.hid BNr
            have HOd_342 := Lib.hid Qd
            have HOu_342 := Lib.hid Qu
            have HOv_342 := Lib.hid Qv
            have HOz_342 := Lib.hid Qz
            clear hL hS B13 B14 BNr hL0 K13 K14 KNr Qd Qu Qv Qz
            obtain ⟨c13, f13, z13_342⟩ := blk_at HK13_342.out
            obtain ⟨c14, f14, z14_342⟩ := blk_at HK14_342.out
            obtain ⟨cNr, fNr, zNr_342⟩ := blk_at HKNr_342.out
            clear HK13_342 c13 f13
            clear HK14_342 c14 f14
            clear HKNr_342 cNr fNr
            clear HOu_342
            clear HOv_342
            clear HOz_342
            by_cases hc : cl = 0
            · skip
              have hcb : (cl != 0) = false := by simpa using hc
              have RB := Lib.hid (text_back HTX.out (by rw [HCL.out]; exact hc))
              go_wp2_with fail
              refine (w_implReadMovesR tx ld 0 RB.out.1 RB.out.2 (by omega) _ (HE.out.later qlh)).mono ?_
              rintro e w343 ⟨vb, rfl, hL, hOb⟩
              have HW343 : Hid (Later W w343) := Lib.hid (Later.trans qlh hL)
              have hz343 := HW343.out.size
              have HOd_343 := Lib.hid (owns_later (qoh HOd_342) hL)
              have HOb_343 := Lib.hid hOb
              clear hOb
              clear hL
              go_wp2_with fail
              refine (w_likeMovesY _ _ ld _ (reads_of_owns (qoh HOb_343) (by omega)) (reads_of_owns (qoh HOd_343) (by omega))).mono ?_
              rintro e w344 ⟨rfl, hL⟩
              have HW344 : Hid (Later W w344) := Lib.hid (Later.trans qlh hL)
              have hz344 := HW344.out.size
              have HOd_344 := Lib.hid (owns_later (qoh HOd_343) hL)
              have HOb_344 := Lib.hid (owns_later (qoh HOb_343) hL)
              clear hL
              go_wp2
              go_ret
              exact ⟨rfl, qlh⟩
            · skip
              have hcb : (cl != 0) = true := by simpa using hc
              go_wp2
              go_ret
              exact ⟨rfl, qlh⟩
          · refine .cons ?_ (.cons ?_ (.cons ?_ (.cons ?_ (.cons ?_ (.cons ?_ (.cons ?_ (.cons ?_ (.cons ?_ (.cons ?_ (.cons ?_ (.cons ?_ (.cons ?_ .nil))))))))))))
            · refine qst fun g ac wc hn hk hr HI K' hK => ?_
              obtain ⟨x13, x30, x15, x29, i0, i1, i2, i3, i4, i5, i6, i7, i8, i9, i10, i11, i12, hL, Qd, Qu, Qv, Qz, hS, B13, B14, BNr⟩ := HI.out
              simp [Region.binds] at hr
              clear i0 i1 i2 i3 i4 i5 i6 i7 i8 i9 i10 i11 i12 Qd Qu Qv Qz
              obtain ⟨cb, fb, zb⟩ := blk_at B13
              go_simp
              obtain ⟨-, -, -, -, i0, i1, i2, i3, i4, i5, i6, i7, i8, i9, i10, i11, i12, -, Qd, Qu, Qv, Qz, -⟩ := HI.out
              exact hK.out _ _ ⟨qB x13, qB x30, qB x15, qB x29, qP, qF i1, qF i2, qF i3, qF i4, qF i5, qF i6, qF i7, qF i8, qF i9, qF i10, qF i11, qF i12, hL, Qd, Qu, Qv, Qz, hS, B13, B14, BNr⟩
            · refine qst fun g ac wc hn hk hr HI K' hK => ?_
              obtain ⟨x13, x30, x15, x29, i0, i1, i2, i3, i4, i5, i6, i7, i8, i9, i10, i11, i12, hL, Qd, Qu, Qv, Qz, hS, B13, B14, BNr⟩ := HI.out
              simp [Region.binds] at hr
              clear i0 i1 i2 i3 i4 i5 i6 i7 i8 i9 i10 i11 i12 Qd Qu Qv Qz
              obtain ⟨cb, fb, zb⟩ := blk_at BNr
              go_simp
              obtain ⟨-, -, -, -, i0, i1, i2, i3, i4, i5, i6, i7, i8, i9, i10, i11, i12, -, Qd, Qu, Qv, Qz, -⟩ := HI.out
              exact hK.out _ _ ⟨qB x13, qB x30, qB x15, qB x29, qF i0, qP, qF i2, qF i3, qF i4, qF i5, qF i6, qF i7, qF i8, qF i9, qF i10, qF i11, qF i12, hL, Qd, Qu, Qv, Qz, hS, B13, B14, BNr⟩
            · refine qst fun g ac wc hn hk hr HI K' hK => ?_
              obtain ⟨x13, x30, x15, x29, i0, i1, i2, i3, i4, i5, i6, i7, i8, i9, i10, i11, i12, hL, Qd, Qu, Qv, Qz, hS, B13, B14, BNr⟩ := HI.out
              simp [Region.binds] at hr
              clear i0 i1 i2 i3 i4 i5 i6 i7 i8 i9 i10 i11 i12 Qd Qu Qv Qz
              go_simp
              obtain ⟨-, -, -, -, i0, i1, i2, i3, i4, i5, i6, i7, i8, i9, i10, i11, i12, -, Qd, Qu, Qv, Qz, -⟩ := HI.out
              exact hK.out _ _ ⟨qB x13, qB x30, qB x15, qB x29, qF i0, qF i1, qP, qF i3, qF i4, qF i5, qF i6, qF i7, qF i8, qF i9, qF i10, qF i11, qF i12, hL, Qd, Qu, Qv, Qz, hS, B13, B14, BNr⟩
            · refine qst fun g ac wc hn hk hr HI K' hK => ?_
              obtain ⟨x13, x30, x15, x29, i0, i1, i2, i3, i4, i5, i6, i7, i8, i9, i10, i11, i12, hL, Qd, Qu, Qv, Qz, hS, B13, B14, BNr⟩ := HI.out
              simp [Region.binds] at hr
              clear i0 i1 i2 i3 i4 i5 i6 i7 i8 i9 i10 i11 i12 Qd Qu Qv Qz
              go_simp
              obtain ⟨-, -, -, -, i0, i1, i2, i3, i4, i5, i6, i7, i8, i9, i10, i11, i12, -, Qd, Qu, Qv, Qz, -⟩ := HI.out
              exact hK.out _ _ ⟨qB x13, qB x30, qB x15, qB x29, qF i0, qF i1, qF i2, qP, qF i4, qF i5, qF i6, qF i7, qF i8, qF i9, qF i10, qF i11, qF i12, hL, Qd, Qu, Qv, Qz, hS, B13, B14, BNr⟩
            · refine qst fun g ac wc hn hk hr HI K' hK => ?_
              obtain ⟨x13, x30, x15, x29, i0, i1, i2, i3, i4, i5, i6, i7, i8, i9, i10, i11, i12, hL, Qd, Qu, Qv, Qz, hS, B13, B14, BNr⟩ := HI.out
              simp [Region.binds] at hr
              have y2 := i2 (by simp [hr])
              have y3 := i3 (by simp [hr])
              have z2 := sl_get y2 (by omega)
              have z3 := sl_get y3 (by omega)
              clear i0 i1 i2 i3 i4 i5 i6 i7 i8 i9 i10 i11 i12 Qd Qu Qv Qz
              have hle2 : ((ct : Int) ≤ (l.length : Int)) = True := by simp; omega
              go_simp
              obtain ⟨-, -, -, -, i0, i1, i2, i3, i4, i5, i6, i7, i8, i9, i10, i11, i12, -, Qd, Qu, Qv, Qz, -⟩ := HI.out
              exact hK.out _ _ ⟨qB x13, qB x30, qB x15, qB x29, qF i0, qF i1, qF i2, qF i3, qP, qF i5, qF i6, qF i7, qF i8, qF i9, qF i10, qF i11, qF i12, hL, Qd, Qu, Qv, Qz, hS, B13, B14, BNr⟩
            · refine qst fun g ac wc hn hk hr HI K' hK => ?_
              obtain ⟨x13, x30, x15, x29, i0, i1, i2, i3, i4, i5, i6, i7, i8, i9, i10, i11, i12, hL, Qd, Qu, Qv, Qz, hS, B13, B14, BNr⟩ := HI.out
              simp [Region.binds] at hr
              have y0 := i0 (by simp [hr])
              have y1 := i1 (by simp [hr])
              have y4 := i4 (by simp [hr])
              have z0 := sl_get y0 (by omega)
              have z1 := sl_get y1 (by omega)
              have z4 := sl_get y4 (by omega)
              replace i0 := Lib.hid i0
              replace i1 := Lib.hid i1
              replace i2 := Lib.hid i2
              replace i3 := Lib.hid i3
              replace i4 := Lib.hid i4
              replace i5 := Lib.hid i5
              replace i6 := Lib.hid i6
              replace i7 := Lib.hid i7
              replace i8 := Lib.hid i8
              replace i9 := Lib.hid i9
              replace i10 := Lib.hid i10
              replace i11 := Lib.hid i11
              replace i12 := Lib.hid i12
              replace Qd := Lib.hid Qd
              replace Qu := Lib.hid Qu
              replace Qv := Lib.hid Qv
              replace Qz := Lib.hid Qz
              go_simp
              refine (w_implTravelOf n _ _ st sd (runMv ⟨n, st, sd⟩ ⟨s.sh, s.cu⟩ (l.take ct)).sh (runMv ⟨n, st, sd⟩ ⟨s.sh, s.cu⟩ (l.take ct)).cu _ (l.drop ct) wc (reads_of_owns Qu.out (by omega)) (reads_of_owns Qv.out (by omega)) (movs_drop (reads_of_owns Qz.out (by omega)) hkl)).mono ?_
              rintro e w4 ⟨rfl, hL4⟩
              rw [HQS.out, HQK.out, HR2.out]
              exact hK.out _ _ ⟨qB x13, qB x30, qB x15, qB x29, qF i0.out, qF i1.out, qF i2.out, qF i3.out, qF i4.out, qP, qF i6.out, qF i7.out, qF i8.out, qF i9.out, qF i10.out, qF i11.out, qF i12.out, hL.trans hL4, (owns_later Qd.out hL4), (owns_later Qu.out hL4), (owns_later Qv.out hL4), (owns_later Qz.out hL4), Nat.le_trans hS hL4.size, (hL4.keep B13), (hL4.keep B14), (hL4.keep BNr)⟩
            · refine qst fun g ac wc hn hk hr HI K' hK => ?_
              obtain ⟨x13, x30, x15, x29, i0, i1, i2, i3, i4, i5, i6, i7, i8, i9, i10, i11, i12, hL, Qd, Qu, Qv, Qz, hS, B13, B14, BNr⟩ := HI.out
              simp [Region.binds] at hr
              have y5 := i5 (by simp [hr])
              have z5 := sl_get y5 (by omega)
              clear i0 i1 i2 i3 i4 i5 i6 i7 i8 i9 i10 i11 i12 Qd Qu Qv Qz
              go_simp
              obtain ⟨-, -, -, -, i0, i1, i2, i3, i4, i5, i6, i7, i8, i9, i10, i11, i12, -, Qd, Qu, Qv, Qz, -⟩ := HI.out
              exact hK.out _ _ ⟨qB x13, qB x30, qB x15, qB x29, qF i0, qF i1, qF i2, qF i3, qF i4, qF i5, qP, qF i7, qF i8, qF i9, qF i10, qF i11, qF i12, hL, Qd, Qu, Qv, Qz, hS, B13, B14, BNr⟩
            · refine qst fun g ac wc hn hk hr HI K' hK => ?_
              obtain ⟨x13, x30, x15, x29, i0, i1, i2, i3, i4, i5, i6, i7, i8, i9, i10, i11, i12, hL, Qd, Qu, Qv, Qz, hS, B13, B14, BNr⟩ := HI.out
              simp [Region.binds] at hr
              have y6 := i6 (by simp [hr])
              have z6 := sl_get y6 (by omega)
              clear i0 i1 i2 i3 i4 i5 i6 i7 i8 i9 i10 i11 i12 Qd Qu Qv Qz
              go_simp
              obtain ⟨-, -, -, -, i0, i1, i2, i3, i4, i5, i6, i7, i8, i9, i10, i11, i12, -, Qd, Qu, Qv, Qz, -⟩ := HI.out
              exact hK.out _ _ ⟨qB x13, qB x30, qB x15, qB x29, qF i0, qF i1, qF i2, qF i3, qF i4, qF i5, qF i6, qP, qF i8, qF i9, qF i10, qF i11, qF i12, hL, Qd, Qu, Qv, Qz, hS, B13, B14, BNr⟩
            · refine qst fun g ac wc hn hk hr HI K' hK => ?_
              obtain ⟨x13, x30, x15, x29, i0, i1, i2, i3, i4, i5, i6, i7, i8, i9, i10, i11, i12, hL, Qd, Qu, Qv, Qz, hS, B13, B14, BNr⟩ := HI.out
              simp [Region.binds] at hr
              have y6 := i6 (by simp [hr])
              have z6 := sl_get y6 (by omega)
              clear i0 i1 i2 i3 i4 i5 i6 i7 i8 i9 i10 i11 i12 Qd Qu Qv Qz
              go_simp
              obtain ⟨-, -, -, -, i0, i1, i2, i3, i4, i5, i6, i7, i8, i9, i10, i11, i12, -, Qd, Qu, Qv, Qz, -⟩ := HI.out
              exact hK.out _ _ ⟨qB x13, qB x30, qB x15, qB x29, qF i0, qF i1, qF i2, qF i3, qF i4, qF i5, qF i6, qF i7, qP, qF i9, qF i10, qF i11, qF i12, hL, Qd, Qu, Qv, Qz, hS, B13, B14, BNr⟩
            · refine qst fun g ac wc hn hk hr HI K' hK => ?_
              obtain ⟨x13, x30, x15, x29, i0, i1, i2, i3, i4, i5, i6, i7, i8, i9, i10, i11, i12, hL, Qd, Qu, Qv, Qz, hS, B13, B14, BNr⟩ := HI.out
              simp [Region.binds] at hr
              have y6 := i6 (by simp [hr])
              have z6 := sl_get y6 (by omega)
              clear i0 i1 i2 i3 i4 i5 i6 i7 i8 i9 i10 i11 i12 Qd Qu Qv Qz
              go_simp
              obtain ⟨-, -, -, -, i0, i1, i2, i3, i4, i5, i6, i7, i8, i9, i10, i11, i12, -, Qd, Qu, Qv, Qz, -⟩ := HI.out
              exact hK.out _ _ ⟨qB x13, qB x30, qB x15, qB x29, qF i0, qF i1, qF i2, qF i3, qF i4, qF i5, qF i6, qF i7, qF i8, qP, qF i10, qF i11, qF i12, hL, Qd, Qu, Qv, Qz, hS, B13, B14, BNr⟩
            · refine qst fun g ac wc hn hk hr HI K' hK => ?_
              obtain ⟨x13, x30, x15, x29, i0, i1, i2, i3, i4, i5, i6, i7, i8, i9, i10, i11, i12, hL, Qd, Qu, Qv, Qz, hS, B13, B14, BNr⟩ := HI.out
              simp [Region.binds] at hr
              have y7 := i7 (by simp [hr])
              have z7 := sl_get y7 (by omega)
              clear i0 i1 i2 i3 i4 i5 i6 i7 i8 i9 i10 i11 i12 Qd Qu Qv Qz
              go_simp
              obtain ⟨-, -, -, -, i0, i1, i2, i3, i4, i5, i6, i7, i8, i9, i10, i11, i12, -, Qd, Qu, Qv, Qz, -⟩ := HI.out
              exact hK.out _ _ ⟨qB x13, qB x30, qB x15, qB x29, qF i0, qF i1, qF i2, qF i3, qF i4, qF i5, qF i6, qF i7, qF i8, qF i9, qP, qF i11, qF i12, hL, Qd, Qu, Qv, Qz, hS, B13, B14, BNr⟩
            · refine qst fun g ac wc hn hk hr HI K' hK => ?_
              obtain ⟨x13, x30, x15, x29, i0, i1, i2, i3, i4, i5, i6, i7, i8, i9, i10, i11, i12, hL, Qd, Qu, Qv, Qz, hS, B13, B14, BNr⟩ := HI.out
              simp [Region.binds] at hr
              have y8 := i8 (by simp [hr])
              have z8 := sl_get y8 (by omega)
              clear i0 i1 i2 i3 i4 i5 i6 i7 i8 i9 i10 i11 i12 Qd Qu Qv Qz
              go_simp
              obtain ⟨-, -, -, -, i0, i1, i2, i3, i4, i5, i6, i7, i8, i9, i10, i11, i12, -, Qd, Qu, Qv, Qz, -⟩ := HI.out
              exact hK.out _ _ ⟨qB x13, qB x30, qB x15, qB x29, qF i0, qF i1, qF i2, qF i3, qF i4, qF i5, qF i6, qF i7, qF i8, qF i9, qF i10, qP, qF i12, hL, Qd, Qu, Qv, Qz, hS, B13, B14, BNr⟩
            · refine qst fun g ac wc hn hk hr HI K' hK => ?_
              obtain ⟨x13, x30, x15, x29, i0, i1, i2, i3, i4, i5, i6, i7, i8, i9, i10, i11, i12, hL, Qd, Qu, Qv, Qz, hS, B13, B14, BNr⟩ := HI.out
              simp [Region.binds] at hr
              have y9 := i9 (by simp [hr])
              have z9 := sl_get y9 (by omega)
              clear i0 i1 i2 i3 i4 i5 i6 i7 i8 i9 i10 i11 i12 Qd Qu Qv Qz
              go_simp
              obtain ⟨-, -, -, -, i0, i1, i2, i3, i4, i5, i6, i7, i8, i9, i10, i11, i12, -, Qd, Qu, Qv, Qz, -⟩ := HI.out
              exact hK.out _ _ ⟨qB x13, qB x30, qB x15, qB x29, qF i0, qF i1, qF i2, qF i3, qF i4, qF i5, qF i6, qF i7, qF i8, qF i9, qF i10, qF i11, qP, hL, Qd, Qu, Qv, Qz, hS, B13, B14, BNr⟩
      · refine .cons ?_ (.cons ?_ (.cons ?_ (.cons ?_ (.cons ?_ (.cons ?_ (.cons ?_ (.cons ?_ (.cons ?_ (.cons ?_ (.cons ?_ (.cons ?_ (.cons ?_ .nil))))))))))))
        · refine qst fun g ac wc hn hk hr HI K' hK => ?_
          obtain ⟨x13, x14, x15, x29, i0, i1, i2, i3, i4, i5, i6, i7, i8, i9, i10, i11, i12, hL, Qd, Qu, Qv, Qz, hS, B13, B14, BNr⟩ := HI.out
          simp [Region.binds] at hr
          clear i0 i1 i2 i3 i4 i5 i6 i7 i8 i9 i10 i11 i12 Qd Qu Qv Qz
          obtain ⟨cb, fb, zb⟩ := blk_at B13
          go_simp
          obtain ⟨-, -, -, -, i0, i1, i2, i3, i4, i5, i6, i7, i8, i9, i10, i11, i12, -, Qd, Qu, Qv, Qz, -⟩ := HI.out
          exact hK.out _ _ ⟨qB x13, qB x14, qB x15, qB x29, qP, qF i1, qF i2, qF i3, qF i4, qF i5, qF i6, qF i7, qF i8, qF i9, qF i10, qF i11, qF i12, hL, Qd, Qu, Qv, Qz, hS, B13, B14, BNr⟩
        · refine qst fun g ac wc hn hk hr HI K' hK => ?_
          obtain ⟨x13, x14, x15, x29, i0, i1, i2, i3, i4, i5, i6, i7, i8, i9, i10, i11, i12, hL, Qd, Qu, Qv, Qz, hS, B13, B14, BNr⟩ := HI.out
          simp [Region.binds] at hr
          clear i0 i1 i2 i3 i4 i5 i6 i7 i8 i9 i10 i11 i12 Qd Qu Qv Qz
          obtain ⟨cb, fb, zb⟩ := blk_at B14
          go_simp
          obtain ⟨-, -, -, -, i0, i1, i2, i3, i4, i5, i6, i7, i8, i9, i10, i11, i12, -, Qd, Qu, Qv, Qz, -⟩ := HI.out
          exact hK.out _ _ ⟨qB x13, qB x14, qB x15, qB x29, qF i0, qP, qF i2, qF i3, qF i4, qF i5, qF i6, qF i7, qF i8, qF i9, qF i10, qF i11, qF i12, hL, Qd, Qu, Qv, Qz, hS, B13, B14, BNr⟩
        · refine qst fun g ac wc hn hk hr HI K' hK => ?_
          obtain ⟨x13, x14, x15, x29, i0, i1, i2, i3, i4, i5, i6, i7, i8, i9, i10, i11, i12, hL, Qd, Qu, Qv, Qz, hS, B13, B14, BNr⟩ := HI.out
          simp [Region.binds] at hr
          clear i0 i1 i2 i3 i4 i5 i6 i7 i8 i9 i10 i11 i12 Qd Qu Qv Qz
          go_simp
          obtain ⟨-, -, -, -, i0, i1, i2, i3, i4, i5, i6, i7, i8, i9, i10, i11, i12, -, Qd, Qu, Qv, Qz, -⟩ := HI.out
          exact hK.out _ _ ⟨qB x13, qB x14, qB x15, qB x29, qF i0, qF i1, qP, qF i3, qF i4, qF i5, qF i6, qF i7, qF i8, qF i9, qF i10, qF i11, qF i12, hL, Qd, Qu, Qv, Qz, hS, B13, B14, BNr⟩
        · refine qst fun g ac wc hn hk hr HI K' hK => ?_
          obtain ⟨x13, x14, x15, x29, i0, i1, i2, i3, i4, i5, i6, i7, i8, i9, i10, i11, i12, hL, Qd, Qu, Qv, Qz, hS, B13, B14, BNr⟩ := HI.out
          simp [Region.binds] at hr
          clear i0 i1 i2 i3 i4 i5 i6 i7 i8 i9 i10 i11 i12 Qd Qu Qv Qz
          go_simp
          obtain ⟨-, -, -, -, i0, i1, i2, i3, i4, i5, i6, i7, i8, i9, i10, i11, i12, -, Qd, Qu, Qv, Qz, -⟩ := HI.out
          exact hK.out _ _ ⟨qB x13, qB x14, qB x15, qB x29, qF i0, qF i1, qF i2, qP, qF i4, qF i5, qF i6, qF i7, qF i8, qF i9, qF i10, qF i11, qF i12, hL, Qd, Qu, Qv, Qz, hS, B13, B14, BNr⟩
        · refine qst fun g ac wc hn hk hr HI K' hK => ?_
          obtain ⟨x13, x14, x15, x29, i0, i1, i2, i3, i4, i5, i6, i7, i8, i9, i10, i11, i12, hL, Qd, Qu, Qv, Qz, hS, B13, B14, BNr⟩ := HI.out
          simp [Region.binds] at hr
          have y2 := i2 (by simp [hr])
          have y3 := i3 (by simp [hr])
          have z2 := sl_get y2 (by omega)
          have z3 := sl_get y3 (by omega)
          clear i0 i1 i2 i3 i4 i5 i6 i7 i8 i9 i10 i11 i12 Qd Qu Qv Qz
          have hle2 : ((ct : Int) ≤ (capz : Int)) = True := by simp; omega
          go_simp
          obtain ⟨-, -, -, -, i0, i1, i2, i3, i4, i5, i6, i7, i8, i9, i10, i11, i12, -, Qd, Qu, Qv, Qz, -⟩ := HI.out
          exact hK.out _ _ ⟨qB x13, qB x14, qB x15, qB x29, qF i0, qF i1, qF i2, qF i3, qP, qF i5, qF i6, qF i7, qF i8, qF i9, qF i10, qF i11, qF i12, hL, Qd, Qu, Qv, Qz, hS, B13, B14, BNr⟩
        · refine qst fun g ac wc hn hk hr HI K' hK => ?_
          obtain ⟨x13, x14, x15, x29, i0, i1, i2, i3, i4, i5, i6, i7, i8, i9, i10, i11, i12, hL, Qd, Qu, Qv, Qz, hS, B13, B14, BNr⟩ := HI.out
          simp [Region.binds] at hr
          have y0 := i0 (by simp [hr])
          have y1 := i1 (by simp [hr])
          have y4 := i4 (by simp [hr])
          have z0 := sl_get y0 (by omega)
          have z1 := sl_get y1 (by omega)
          have z4 := sl_get y4 (by omega)
          replace i0 := Lib.hid i0
          replace i1 := Lib.hid i1
          replace i2 := Lib.hid i2
          replace i3 := Lib.hid i3
          replace i4 := Lib.hid i4
          replace i5 := Lib.hid i5
          replace i6 := Lib.hid i6
          replace i7 := Lib.hid i7
          replace i8 := Lib.hid i8
          replace i9 := Lib.hid i9
          replace i10 := Lib.hid i10
          replace i11 := Lib.hid i11
          replace i12 := Lib.hid i12
          replace Qd := Lib.hid Qd
          replace Qu := Lib.hid Qu
          replace Qv := Lib.hid Qv
          replace Qz := Lib.hid Qz
          go_simp
          refine (w_implTravelOf n _ _ st sd s.sh s.cu _ (l.take ct) wc (reads_of_owns Qu.out (by omega)) (reads_of_owns Qv.out (by omega)) (IsMovs.take (reads_of_owns Qz.out (by omega)) (by omega))).mono ?_
          rintro e w4 ⟨rfl, hL4⟩
          rw [HPS.out, HPK.out, HR1.out]
          exact hK.out _ _ ⟨qB x13, qB x14, qB x15, qB x29, qF i0.out, qF i1.out, qF i2.out, qF i3.out, qF i4.out, qP, qF i6.out, qF i7.out, qF i8.out, qF i9.out, qF i10.out, qF i11.out, qF i12.out, hL.trans hL4, (owns_later Qd.out hL4), (owns_later Qu.out hL4), (owns_later Qv.out hL4), (owns_later Qz.out hL4), Nat.le_trans hS hL4.size, (hL4.keep B13), (hL4.keep B14), (hL4.keep BNr)⟩
        · refine qst fun g ac wc hn hk hr HI K' hK => ?_
          obtain ⟨x13, x14, x15, x29, i0, i1, i2, i3, i4, i5, i6, i7, i8, i9, i10, i11, i12, hL, Qd, Qu, Qv, Qz, hS, B13, B14, BNr⟩ := HI.out
          simp [Region.binds] at hr
          have y5 := i5 (by simp [hr])
          have z5 := sl_get y5 (by omega)
          clear i0 i1 i2 i3 i4 i5 i6 i7 i8 i9 i10 i11 i12 Qd Qu Qv Qz
          go_simp
          obtain ⟨-, -, -, -, i0, i1, i2, i3, i4, i5, i6, i7, i8, i9, i10, i11, i12, -, Qd, Qu, Qv, Qz, -⟩ := HI.out
          exact hK.out _ _ ⟨qB x13, qB x14, qB x15, qB x29, qF i0, qF i1, qF i2, qF i3, qF i4, qF i5, qP, qF i7, qF i8, qF i9, qF i10, qF i11, qF i12, hL, Qd, Qu, Qv, Qz, hS, B13, B14, BNr⟩
        · refine qst fun g ac wc hn hk hr HI K' hK => ?_
          obtain ⟨x13, x14, x15, x29, i0, i1, i2, i3, i4, i5, i6, i7, i8, i9, i10, i11, i12, hL, Qd, Qu, Qv, Qz, hS, B13, B14, BNr⟩ := HI.out
          simp [Region.binds] at hr
          have y6 := i6 (by simp [hr])
          have z6 := sl_get y6 (by omega)
          clear i0 i1 i2 i3 i4 i5 i6 i7 i8 i9 i10 i11 i12 Qd Qu Qv Qz
          go_simp
          obtain ⟨-, -, -, -, i0, i1, i2, i3, i4, i5, i6, i7, i8, i9, i10, i11, i12, -, Qd, Qu, Qv, Qz, -⟩ := HI.out
          exact hK.out _ _ ⟨qB x13, qB x14, qB x15, qB x29, qF i0, qF i1, qF i2, qF i3, qF i4, qF i5, qF i6, qP, qF i8, qF i9, qF i10, qF i11, qF i12, hL, Qd, Qu, Qv, Qz, hS, B13, B14, BNr⟩
        · refine qst fun g ac wc hn hk hr HI K' hK => ?_
          obtain ⟨x13, x14, x15, x29, i0, i1, i2, i3, i4, i5, i6, i7, i8, i9, i10, i11, i12, hL, Qd, Qu, Qv, Qz, hS, B13, B14, BNr⟩ := HI.out
          simp [Region.binds] at hr
          have y6 := i6 (by simp [hr])
          have z6 := sl_get y6 (by omega)
          clear i0 i1 i2 i3 i4 i5 i6 i7 i8 i9 i10 i11 i12 Qd Qu Qv Qz
          go_simp
          obtain ⟨-, -, -, -, i0, i1, i2, i3, i4, i5, i6, i7, i8, i9, i10, i11, i12, -, Qd, Qu, Qv, Qz, -⟩ := HI.out
          exact hK.out _ _ ⟨qB x13, qB x14, qB x15, qB x29, qF i0, qF i1, qF i2, qF i3, qF i4, qF i5, qF i6, qF i7, qP, qF i9, qF i10, qF i11, qF i12, hL, Qd, Qu, Qv, Qz, hS, B13, B14, BNr⟩
        · refine qst fun g ac wc hn hk hr HI K' hK => ?_
          obtain ⟨x13, x14, x15, x29, i0, i1, i2, i3, i4, i5, i6, i7, i8, i9, i10, i11, i12, hL, Qd, Qu, Qv, Qz, hS, B13, B14, BNr⟩ := HI.out
          simp [Region.binds] at hr
          have y6 := i6 (by simp [hr])
          have z6 := sl_get y6 (by omega)
          clear i0 i1 i2 i3 i4 i5 i6 i7 i8 i9 i10 i11 i12 Qd Qu Qv Qz
          go_simp
          obtain ⟨-, -, -, -, i0, i1, i2, i3, i4, i5, i6, i7, i8, i9, i10, i11, i12, -, Qd, Qu, Qv, Qz, -⟩ := HI.out
          exact hK.out _ _ ⟨qB x13, qB x14, qB x15, qB x29, qF i0, qF i1, qF i2, qF i3, qF i4, qF i5, qF i6, qF i7, qF i8, qP, qF i10, qF i11, qF i12, hL, Qd, Qu, Qv, Qz, hS, B13, B14, BNr⟩
        · refine qst fun g ac wc hn hk hr HI K' hK => ?_
          obtain ⟨x13, x14, x15, x29, i0, i1, i2, i3, i4, i5, i6, i7, i8, i9, i10, i11, i12, hL, Qd, Qu, Qv, Qz, hS, B13, B14, BNr⟩ := HI.out
          simp [Region.binds] at hr
          have y7 := i7 (by simp [hr])
          have z7 := sl_get y7 (by omega)
          clear i0 i1 i2 i3 i4 i5 i6 i7 i8 i9 i10 i11 i12 Qd Qu Qv Qz
          go_simp
          obtain ⟨-, -, -, -, i0, i1, i2, i3, i4, i5, i6, i7, i8, i9, i10, i11, i12, -, Qd, Qu, Qv, Qz, -⟩ := HI.out
          exact hK.out _ _ ⟨qB x13, qB x14, qB x15, qB x29, qF i0, qF i1, qF i2, qF i3, qF i4, qF i5, qF i6, qF i7, qF i8, qF i9, qP, qF i11, qF i12, hL, Qd, Qu, Qv, Qz, hS, B13, B14, BNr⟩
        · refine qst fun g ac wc hn hk hr HI K' hK => ?_
          obtain ⟨x13, x14, x15, x29, i0, i1, i2, i3, i4, i5, i6, i7, i8, i9, i10, i11, i12, hL, Qd, Qu, Qv, Qz, hS, B13, B14, BNr⟩ := HI.out
          simp [Region.binds] at hr
          have y8 := i8 (by simp [hr])
          have z8 := sl_get y8 (by omega)
          clear i0 i1 i2 i3 i4 i5 i6 i7 i8 i9 i10 i11 i12 Qd Qu Qv Qz
          go_simp
          obtain ⟨-, -, -, -, i0, i1, i2, i3, i4, i5, i6, i7, i8, i9, i10, i11, i12, -, Qd, Qu, Qv, Qz, -⟩ := HI.out
          exact hK.out _ _ ⟨qB x13, qB x14, qB x15, qB x29, qF i0, qF i1, qF i2, qF i3, qF i4, qF i5, qF i6, qF i7, qF i8, qF i9, qF i10, qP, qF i12, hL, Qd, Qu, Qv, Qz, hS, B13, B14, BNr⟩
        · refine qst fun g ac wc hn hk hr HI K' hK => ?_
          obtain ⟨x13, x14, x15, x29, i0, i1, i2, i3, i4, i5, i6, i7, i8, i9, i10, i11, i12, hL, Qd, Qu, Qv, Qz, hS, B13, B14, BNr⟩ := HI.out
          simp [Region.binds] at hr
          have y9 := i9 (by simp [hr])
          have z9 := sl_get y9 (by omega)
          clear i0 i1 i2 i3 i4 i5 i6 i7 i8 i9 i10 i11 i12 Qd Qu Qv Qz
          go_simp
          obtain ⟨-, -, -, -, i0, i1, i2, i3, i4, i5, i6, i7, i8, i9, i10, i11, i12, -, Qd, Qu, Qv, Qz, -⟩ := HI.out
          exact hK.out _ _ ⟨qB x13, qB x14, qB x15, qB x29, qF i0, qF i1, qF i2, qF i3, qF i4, qF i5, qF i6, qF i7, qF i8, qF i9, qF i10, qF i11, qP, hL, Qd, Qu, Qv, Qz, hS, B13, B14, BNr⟩
    · refine .cons ?_ (.cons ?_ (.cons ?_ (.cons ?_ (.cons ?_ (.cons ?_ (.cons ?_ (.cons ?_ (.cons ?_ (.cons ?_ (.cons ?_ (.cons ?_ .nil)))))))))))
      · refine qst fun g ac wc hn hk hr HI K' hK => ?_
        obtain ⟨x13, x14, x15, x29, i0, i1, i2, i3, i4, i5, i6, i7, i8, i11, hL, n9, Qd, Qu, Qv, Qz, m10_9, hS, B13, B14⟩ := HI.out
        simp [Region.binds] at hr
        clear i0 i1 i2 i3 i4 i5 i6 i7 i8 i11 n9 Qd Qu Qv Qz
        obtain ⟨cb, fb, zb⟩ := blk_at B13
        go_simp
        obtain ⟨-, -, -, -, i0, i1, i2, i3, i4, i5, i6, i7, i8, i11, -, n9, Qd, Qu, Qv, Qz, -⟩ := HI.out
        exact hK.out _ _ ⟨qB x13, qB x14, qB x15, qB x29, qP, qF i1, qF i2, qF i3, qF i4, qF i5, qF i6, qF i7, qF i8, qF i11, hL, (fun h => by obtain ⟨k, e1, e2, q9_0, q9_1, e3, e4⟩ := n9 h; exact ⟨k, (put_ne (by decide)).trans e1, e2, q9_0, q9_1, e3, e4⟩), Qd, Qu, Qv, Qz, m10_9, hS, B13, B14⟩
      · refine qst fun g ac wc hn hk hr HI K' hK => ?_
        obtain ⟨x13, x14, x15, x29, i0, i1, i2, i3, i4, i5, i6, i7, i8, i11, hL, n9, Qd, Qu, Qv, Qz, m10_9, hS, B13, B14⟩ := HI.out
        simp [Region.binds] at hr
        clear i0 i1 i2 i3 i4 i5 i6 i7 i8 i11 n9 Qd Qu Qv Qz
        obtain ⟨cb, fb, zb⟩ := blk_at B14
        go_simp
        obtain ⟨-, -, -, -, i0, i1, i2, i3, i4, i5, i6, i7, i8, i11, -, n9, Qd, Qu, Qv, Qz, -⟩ := HI.out
        exact hK.out _ _ ⟨qB x13, qB x14, qB x15, qB x29, qF i0, qP, qF i2, qF i3, qF i4, qF i5, qF i6, qF i7, qF i8, qF i11, hL, (fun h => by obtain ⟨k, e1, e2, q9_0, q9_1, e3, e4⟩ := n9 h; exact ⟨k, (put_ne (by decide)).trans e1, e2, q9_0, q9_1, e3, e4⟩), Qd, Qu, Qv, Qz, m10_9, hS, B13, B14⟩
      · refine qst fun g ac wc hn hk hr HI K' hK => ?_
        obtain ⟨x13, x14, x15, x29, i0, i1, i2, i3, i4, i5, i6, i7, i8, i11, hL, n9, Qd, Qu, Qv, Qz, m10_9, hS, B13, B14⟩ := HI.out
        simp [Region.binds] at hr
        clear i0 i1 i2 i3 i4 i5 i6 i7 i8 i11 n9 Qd Qu Qv Qz
        go_simp
        obtain ⟨-, -, -, -, i0, i1, i2, i3, i4, i5, i6, i7, i8, i11, -, n9, Qd, Qu, Qv, Qz, -⟩ := HI.out
        exact hK.out _ _ ⟨qB x13, qB x14, qB x15, qB x29, qF i0, qF i1, qP, qF i3, qF i4, qF i5, qF i6, qF i7, qF i8, qF i11, hL, (fun h => by obtain ⟨k, e1, e2, q9_0, q9_1, e3, e4⟩ := n9 h; exact ⟨k, (put_ne (by decide)).trans e1, e2, q9_0, q9_1, e3, e4⟩), Qd, Qu, Qv, Qz, m10_9, hS, B13, B14⟩
      · refine qst fun g ac wc hn hk hr HI K' hK => ?_
        obtain ⟨x13, x14, x15, x29, i0, i1, i2, i3, i4, i5, i6, i7, i8, i11, hL, n9, Qd, Qu, Qv, Qz, m10_9, hS, B13, B14⟩ := HI.out
        simp [Region.binds] at hr
        clear i0 i1 i2 i3 i4 i5 i6 i7 i8 i11 n9 Qd Qu Qv Qz
        go_simp
        obtain ⟨-, -, -, -, i0, i1, i2, i3, i4, i5, i6, i7, i8, i11, -, n9, Qd, Qu, Qv, Qz, -⟩ := HI.out
        exact hK.out _ _ ⟨qB x13, qB x14, qB x15, qB x29, qF i0, qF i1, qF i2, qP, qF i4, qF i5, qF i6, qF i7, qF i8, qF i11, hL, (fun h => by obtain ⟨k, e1, e2, q9_0, q9_1, e3, e4⟩ := n9 h; exact ⟨k, (put_ne (by decide)).trans e1, e2, q9_0, q9_1, e3, e4⟩), Qd, Qu, Qv, Qz, m10_9, hS, B13, B14⟩
      · refine qst fun g ac wc hn hk hr HI K' hK => ?_
        obtain ⟨x13, x14, x15, x29, i0, i1, i2, i3, i4, i5, i6, i7, i8, i11, hL, n9, Qd, Qu, Qv, Qz, m10_9, hS, B13, B14⟩ := HI.out
        simp [Region.binds] at hr
        have y2 := i2 (by simp [hr])
        have y3 := i3 (by simp [hr])
        have z2 := sl_get y2 (by omega)
        have z3 := sl_get y3 (by omega)
        clear i0 i1 i2 i3 i4 i5 i6 i7 i8 i11 n9 Qd Qu Qv Qz
        have hle2 : ((ct : Int) ≤ (capz : Int)) = True := by simp; omega
        go_simp
        obtain ⟨-, -, -, -, i0, i1, i2, i3, i4, i5, i6, i7, i8, i11, -, n9, Qd, Qu, Qv, Qz, -⟩ := HI.out
        exact hK.out _ _ ⟨qB x13, qB x14, qB x15, qB x29, qF i0, qF i1, qF i2, qF i3, qP, qF i5, qF i6, qF i7, qF i8, qF i11, hL, (fun h => by obtain ⟨k, e1, e2, q9_0, q9_1, e3, e4⟩ := n9 h; exact ⟨k, (put_ne (by decide)).trans e1, e2, q9_0, q9_1, e3, e4⟩), Qd, Qu, Qv, Qz, m10_9, hS, B13, B14⟩
      · refine qst fun g ac wc hn hk hr HI K' hK => ?_
        obtain ⟨x13, x14, x15, x29, i0, i1, i2, i3, i4, i5, i6, i7, i8, i11, hL, n9, Qd, Qu, Qv, Qz, m10_9, hS, B13, B14⟩ := HI.out
        simp [Region.binds] at hr
        have y0 := i0 (by simp [hr])
        have y1 := i1 (by simp [hr])
        have y4 := i4 (by simp [hr])
        have z0 := sl_get y0 (by omega)
        have z1 := sl_get y1 (by omega)
        have z4 := sl_get y4 (by omega)
        replace i0 := Lib.hid i0
        replace i1 := Lib.hid i1
        replace i2 := Lib.hid i2
        replace i3 := Lib.hid i3
        replace i4 := Lib.hid i4
        replace i5 := Lib.hid i5
        replace i6 := Lib.hid i6
        replace i7 := Lib.hid i7
        replace i8 := Lib.hid i8
        replace i11 := Lib.hid i11
        replace n9 := Lib.hid n9
        replace Qd := Lib.hid Qd
        replace Qu := Lib.hid Qu
        replace Qv := Lib.hid Qv
        replace Qz := Lib.hid Qz
        go_simp
        refine (w_implRunMoves n _ _ st sd s.sh s.cu _ (l.take ct) wc (reads_of_owns Qu.out (by omega)) (reads_of_owns Qv.out (by omega)) (IsMovs.take (reads_of_owns Qz.out (by omega)) (by omega))).mono ?_
        rintro e w4 ⟨rfl, hL4⟩
        rw [HR1.out]
        exact hK.out _ _ ⟨qB x13, qB x14, qB x15, qB x29, qF i0.out, qF i1.out, qF i2.out, qF i3.out, qF i4.out, qP, qF i6.out, qF i7.out, qF i8.out, qF i11.out, hL.trans hL4, (fun h => by obtain ⟨k, e1, e2, q9_0, q9_1, e3, e4⟩ := n9.out h; exact ⟨k, (put_ne (by decide)).trans e1, e2, q9_0, q9_1, hL4.keep e3, e4⟩), (owns_later Qd.out hL4), (owns_later Qu.out hL4), (owns_later Qv.out hL4), (owns_later Qz.out hL4), m10_9, Nat.le_trans hS hL4.size, (hL4.keep B13), (hL4.keep B14)⟩
      · refine qst fun g ac wc hn hk hr HI K' hK => ?_
        obtain ⟨x13, x14, x15, x29, i0, i1, i2, i3, i4, i5, i6, i7, i8, i11, hL, n9, Qd, Qu, Qv, Qz, m10_9, hS, B13, B14⟩ := HI.out
        simp [Region.binds] at hr
        have y5 := i5 (by simp [hr])
        have z5 := sl_get y5 (by omega)
        clear i0 i1 i2 i3 i4 i5 i6 i7 i8 i11 n9 Qd Qu Qv Qz
        go_simp
        obtain ⟨-, -, -, -, i0, i1, i2, i3, i4, i5, i6, i7, i8, i11, -, n9, Qd, Qu, Qv, Qz, -⟩ := HI.out
        exact hK.out _ _ ⟨qB x13, qB x14, qB x15, qB x29, qF i0, qF i1, qF i2, qF i3, qF i4, qF i5, qP, qF i7, qF i8, qF i11, hL, (fun h => by obtain ⟨k, e1, e2, q9_0, q9_1, e3, e4⟩ := n9 h; exact ⟨k, (put_ne (by decide)).trans e1, e2, q9_0, q9_1, e3, e4⟩), Qd, Qu, Qv, Qz, m10_9, hS, B13, B14⟩
      · refine qst fun g ac wc hn hk hr HI K' hK => ?_
        obtain ⟨x13, x14, x15, x29, i0, i1, i2, i3, i4, i5, i6, i7, i8, i11, hL, n9, Qd, Qu, Qv, Qz, m10_9, hS, B13, B14⟩ := HI.out
        simp [Region.binds] at hr
        have y6 := i6 (by simp [hr])
        have z6 := sl_get y6 (by omega)
        clear i0 i1 i2 i3 i4 i5 i6 i7 i8 i11 n9 Qd Qu Qv Qz
        go_simp
        obtain ⟨-, -, -, -, i0, i1, i2, i3, i4, i5, i6, i7, i8, i11, -, n9, Qd, Qu, Qv, Qz, -⟩ := HI.out
        exact hK.out _ _ ⟨qB x13, qB x14, qB x15, qB x29, qF i0, qF i1, qF i2, qF i3, qF i4, qF i5, qF i6, qP, qF i8, qF i11, hL, (fun h => by obtain ⟨k, e1, e2, q9_0, q9_1, e3, e4⟩ := n9 h; exact ⟨k, (put_ne (by decide)).trans e1, e2, q9_0, q9_1, e3, e4⟩), Qd, Qu, Qv, Qz, m10_9, hS, B13, B14⟩
      · refine qst fun g ac wc hn hk hr HI K' hK => ?_
        obtain ⟨x13, x14, x15, x29, i0, i1, i2, i3, i4, i5, i6, i7, i8, i11, hL, n9, Qd, Qu, Qv, Qz, m10_9, hS, B13, B14⟩ := HI.out
        simp [Region.binds] at hr
        have y6 := i6 (by simp [hr])
        have z6 := sl_get y6 (by omega)
        clear i0 i1 i2 i3 i4 i5 i6 i7 i8 i11 n9 Qd Qu Qv Qz
        go_simp
        obtain ⟨-, -, -, -, i0, i1, i2, i3, i4, i5, i6, i7, i8, i11, -, n9, Qd, Qu, Qv, Qz, -⟩ := HI.out
        exact hK.out _ _ ⟨qB x13, qB x14, qB x15, qB x29, qF i0, qF i1, qF i2, qF i3, qF i4, qF i5, qF i6, qF i7, qP, qF i11, hL, (fun h => by obtain ⟨k, e1, e2, q9_0, q9_1, e3, e4⟩ := n9 h; exact ⟨k, (put_ne (by decide)).trans e1, e2, q9_0, q9_1, e3, e4⟩), Qd, Qu, Qv, Qz, m10_9, hS, B13, B14⟩
      · refine qst fun g ac wc hn hk hr HI K' hK => ?_
        obtain ⟨x13, x14, x15, x29, i0, i1, i2, i3, i4, i5, i6, i7, i8, i11, hL, n9, Qd, Qu, Qv, Qz, m10_9, hS, B13, B14⟩ := HI.out
        simp [Region.binds] at hr
        clear i0 i1 i2 i3 i4 i5 i6 i7 i8 i11 n9 Qd Qu Qv Qz
        go_simp
        have hL4 := (Later.refl wc).alloc (.cells #[.int .i64 0, .int .i64 0] 28)
        obtain ⟨-, -, -, -, i0, i1, i2, i3, i4, i5, i6, i7, i8, i11, -, n9, Qd, Qu, Qv, Qz, -⟩ := HI.out
        exact hK.out _ _ ⟨qB x13, qB x14, qB x15, qB x29, qF i0, qF i1, qF i2, qF i3, qF i4, qF i5, qF i6, qF i7, qF i8, qF i11, hL.alloc _, (fun _ => ⟨_, put_eq (by omega), hS, _, _, heap_alloc_new _ _, fun h => absurd (m10_9 h) (by rw [hk]; simp)⟩), (owns_later Qd hL4), (owns_later Qu hL4), (owns_later Qv hL4), (owns_later Qz hL4), (fun _ => rfl), (by simp; omega), (hL4.keep B13), (hL4.keep B14)⟩
      · refine qst fun g ac wc hn hk hr HI K' hK => ?_
        obtain ⟨x13, x14, x15, x29, i0, i1, i2, i3, i4, i5, i6, i7, i8, i11, hL, n9, Qd, Qu, Qv, Qz, m10_9, hS, B13, B14⟩ := HI.out
        simp [Region.binds] at hr
        have y7 := i7 (by simp [hr])
        have gm9 : g 9 = true := by first | exact m10_9 (by simp [hr]) | exact hr | exact hr.1 | exact hr.2 | exact hr.2.1 | simp [hr]
        replace i0 := Lib.hid i0
        replace i1 := Lib.hid i1
        replace i2 := Lib.hid i2
        replace i3 := Lib.hid i3
        replace i4 := Lib.hid i4
        replace i5 := Lib.hid i5
        replace i6 := Lib.hid i6
        replace i7 := Lib.hid i7
        replace i8 := Lib.hid i8
        replace i11 := Lib.hid i11
        replace n9 := Lib.hid n9
        replace Qd := Lib.hid Qd
        replace Qu := Lib.hid Qu
        replace Qv := Lib.hid Qv
        replace Qz := Lib.hid Qz
        obtain ⟨k, e1, e2, q9_0, q9_1, e3, -⟩ := n9.out gm9
        obtain ⟨c0, f0, z0⟩ := blk_at e3
        have ze := sl_get e1 (by omega)
        have z7 := sl_get y7 (by omega)
        go_simp
        exact hK.out undef _ ⟨x13, x14, x15, x29, i0.out, i1.out, i2.out, i3.out, i4.out, i5.out, i6.out, i7.out, i8.out, i11.out, ((hL.setCell (show W.heap.size ≤ k by omega) _).setCell (show W.heap.size ≤ k by omega) _), (fun _ => ⟨k, e1, e2, _, _, two_set e3 _ _, fun _ => ⟨rfl, rfl⟩⟩), (owns_setNe (owns_setNe Qd.out (fun e => by have := NBd _ e; omega) _ _) (fun e => by have := NBd _ e; omega) _ _), (owns_setNe (owns_setNe Qu.out (fun e => by have := NBu _ e; omega) _ _) (fun e => by have := NBu _ e; omega) _ _), (owns_setNe (owns_setNe Qv.out (fun e => by have := NBv _ e; omega) _ _) (fun e => by have := NBv _ e; omega) _ _), (owns_setNe (owns_setNe Qz.out (fun e => by have := NBz _ e; omega) _ _) (fun e => by have := NBz _ e; omega) _ _), (fun _ => gm9), (by simp; omega), (other_set (other_set B13 (by omega) _) (by omega) _), (other_set (other_set B14 (by omega) _) (by omega) _)⟩
      · refine qst fun g ac wc hn hk hr HI K' hK => ?_
        obtain ⟨x13, x14, x15, x29, i0, i1, i2, i3, i4, i5, i6, i7, i8, i11, hL, n9, Qd, Qu, Qv, Qz, m10_9, hS, B13, B14⟩ := HI.out
        simp [Region.binds] at hr
        have y8 := i8 (by simp [hr])
        have z8 := sl_get y8 (by omega)
        clear i0 i1 i2 i3 i4 i5 i6 i7 i8 i11 n9 Qd Qu Qv Qz
        go_simp
        obtain ⟨-, -, -, -, i0, i1, i2, i3, i4, i5, i6, i7, i8, i11, -, n9, Qd, Qu, Qv, Qz, -⟩ := HI.out
        exact hK.out _ _ ⟨qB x13, qB x14, qB x15, qB x29, qF i0, qF i1, qF i2, qF i3, qF i4, qF i5, qF i6, qF i7, qF i8, qP, hL, (fun h => by obtain ⟨k, e1, e2, q9_0, q9_1, e3, e4⟩ := n9 h; exact ⟨k, (put_ne (by decide)).trans e1, e2, q9_0, q9_1, e3, e4⟩), Qd, Qu, Qv, Qz, m10_9, hS, B13, B14⟩
 · skip
   have hrb : (cr == 0) = false := by simpa using hr
   clear HK13_13 c13 f13
   clear HK14_13 c14 f14
   clear HOu_13
   clear HOv_13
   clear HOz_13
   by_cases hz : cx = 0
   · skip
     have hzb : (cx == 0) = true := by simpa using hz
     have AG := Lib.hid (moves_again HX.out (by rw [HCX.out]; exact hz))
     go_wp2_with fail
     refine (w_implMovesText _ X _ (reads_of_owns (qoh HOx_13) (by omega)) (HE.out.later qlh).tab).mono ?_
     rintro e w14 ⟨rfl, hL⟩
     have HW14 : Hid (Later W w14) := Lib.hid (Later.trans qlh hL)
     have hz14 := HW14.out.size
     have HOd_14 := Lib.hid (owns_later (qoh HOd_13) hL)
     have HOx_14 := Lib.hid (owns_later (qoh HOx_13) hL)
     clear hL
     rw [AG.out.1, AG.out.2]
     clear HOx_14
     by_cases hc : cl = 0
     · skip
       have hcb : (cl != 0) = false := by simpa using hc
       have RB := Lib.hid (text_back HTX.out (by rw [HCL.out]; exact hc))
       go_wp2_with fail
       refine (w_implReadMovesR tx ld 0 RB.out.1 RB.out.2 (by omega) _ (HE.out.later qlh)).mono ?_
       rintro e w15 ⟨vb, rfl, hL, hOb⟩
       have HW15 : Hid (Later W w15) := Lib.hid (Later.trans qlh hL)
       have hz15 := HW15.out.size
       have HOd_15 := Lib.hid (owns_later (qoh HOd_14) hL)
       have HOb_15 := Lib.hid hOb
       clear hOb
       clear hL
       go_wp2_with fail
       refine (w_likeMovesY _ _ ld _ (reads_of_owns (qoh HOb_15) (by omega)) (reads_of_owns (qoh HOd_15) (by omega))).mono ?_
       rintro e w16 ⟨rfl, hL⟩
       have HW16 : Hid (Later W w16) := Lib.hid (Later.trans qlh hL)
       have hz16 := HW16.out.size
       have HOd_16 := Lib.hid (owns_later (qoh HOd_15) hL)
       have HOb_16 := Lib.hid (owns_later (qoh HOb_15) hL)
       clear hL
       go_wp2
       go_ret
       exact ⟨rfl, qlh⟩
     · skip
       have hcb : (cl != 0) = true := by simpa using hc
       go_wp2
       go_ret
       exact ⟨rfl, qlh⟩
   · skip
     have hzb : (cx == 0) = false := by simpa using hz
     clear HOx_13
     by_cases hc : cl = 0
     · skip
       have hcb : (cl != 0) = false := by simpa using hc
       have RB := Lib.hid (text_back HTX.out (by rw [HCL.out]; exact hc))
       go_wp2_with fail
       refine (w_implReadMovesR tx ld 0 RB.out.1 RB.out.2 (by omega) _ (HE.out.later qlh)).mono ?_
       rintro e w14 ⟨vb, rfl, hL, hOb⟩
       have HW14 : Hid (Later W w14) := Lib.hid (Later.trans qlh hL)
       have hz14 := HW14.out.size
       have HOd_14 := Lib.hid (owns_later (qoh HOd_13) hL)
       have HOb_14 := Lib.hid hOb
       clear hOb
       clear hL
       go_wp2_with fail
       refine (w_likeMovesY _ _ ld _ (reads_of_owns (qoh HOb_14) (by omega)) (reads_of_owns (qoh HOd_14) (by omega))).mono ?_
       rintro e w15 ⟨rfl, hL⟩
       have HW15 : Hid (Later W w15) := Lib.hid (Later.trans qlh hL)
       have hz15 := HW15.out.size
       have HOd_15 := Lib.hid (owns_later (qoh HOd_14) hL)
       have HOb_15 := Lib.hid (owns_later (qoh HOb_14) hL)
       clear hL
       go_wp2
       go_ret
       exact ⟨rfl, qlh⟩
     · skip
       have hcb : (cl != 0) = true := by simpa using hc
       go_wp2
       go_ret
       exact ⟨rfl, qlh⟩
theorem lifted (os : Os) (started : os.Started) (H : Type) (enc : TypeId × Value → H) :
 ReturnsInHanded {} Tryz.checked os 4 .any (fun w args => (Rows.fnMoveTextsSpec.pre enc Tryz.prog Tryz.f4 [] false w args ∧ laidMetH Tryz.prog Rows.fnMoveTextsRow.laid w) ∧ sizedMet enc Tryz.prog Tryz.f4 (OpenSpec.ofChange Rows.fnMoveTextsSpec) false w args)
  (Rows.fnMoveTextsSpec.post enc Tryz.prog Tryz.f4 false true false false) := by
 refine handed_laid (C := Tryz.checked) (X := fun w _ => laidMetH Tryz.prog Rows.fnMoveTextsRow.laid w) (fun _ _ _ hh h => h.of_heap hh) o_own started (by kernel_rfl) Tryz.func4
  (ChangeSpec.witness_shaped (enc := enc) (C := Tryz.checked) (os := os) (X := fun w _ => laidMetH Tryz.prog Rows.fnMoveTextsRow.laid w) false (World.laidAll Tryz.prog os Rows.fnMoveTextsRow.laid) #[.slice none 0 0] 8 (World.laidAll_os _ _ _)
   (World.shaped_of_ZipB (by kernel_rfl) (by kernel_rfl)) (by kernel_rfl) (by kernel_rfl) (by kernel_rfl)
   (by rw [MakeChecks.laidMetH_plain _ _ _ (by kernel_rfl)]; exact laidMet_laidAll _ (by kernel_rfl) (by kernel_rfl))) ?_
 intro W base args ds gs before hval0 hW hLd hsh
 have hval : ∀ (j : Nat) t v, Tryz.f4.params[j]? = some t → args[j]? = some v → Value.okWide Tryz.prog W .any base t v := hval0
 have hW' := hW
 obtain ⟨p, q, hA0, hV, rfl, hfz, hnd⟩ := hW
 have hA : DataW.TrodAll enc Tryz.prog W 0 (fun _ => true) true Tryz.f4.params.toList args.toList ds p := hA0
 rw [Tryz.params4] at hA hval
 obtain ⟨v0, vs0, d0, ds0, p0, q0, hargs, rfl, rfl, h0, r0⟩ := trodAll_cons hA
 obtain ⟨rfl, rfl, rfl⟩ := trodAll_nil r0
 obtain rfl : args = #[v0] := by cases args; simp_all
 obtain ⟨rfl, rfl⟩ := trodVars_none hV
 obtain ⟨a0, len0, cap0, rfl⟩ := okWide_slice Tryz.underlying22 (hval 0 22 v0 rfl rfl)
 have k0 := h0
 have lt0 : ∀ x ∈ p0, x.block < W.heap.size := by obtain ⟨m, hm⟩ := k0; exact DataW.trod_lt m _ _ _ hm
 obtain ⟨l0, w0, hB0⟩ := o_bytes h0
 clear hA0 hval0
 refine (walk _ l0 W w0 hB0 (laid_env hsh (show laidMetH Tryz.prog laid7 W from hLd))).mono fun e W' ⟨he, bel⟩ => ?_
 subst he
 exact ⟨_, rfl, _, _, _, [], _, [], hW', trodAll_mk1 (shut_bool Tryz.underlying4 _), (trodAll_cons_mk (Below.trod o_laidOut (by kernel_rfl) (of_decide_eq_true (by kernel_rfl)) k0 bel lt0) trodAll_mk0), rfl, bel.frame _, fun h => by cases h⟩
theorem over : Rows.FnMoveTextsSaid :=
 OpenClaim.holds_of_wide 4 Tryz.f4 rfl rfl rfl rfl rfl rfl rfl ⟨rfl, rfl, rfl, rfl, rfl⟩ rfl rfl rfl rfl rfl (by kernel_rfl) Tryz.func4 (by kernel_rfl)
  (of_decide_eq_true (by kernel_rfl)) (by unfold Func.isWrapper; first | (rw [if_pos (by decide +kernel)]; kernel_rfl) | (rw [if_neg (by decide +kernel)]; exact ⟨rfl, rfl⟩))
  (fun os started H enc _ => lifted os started H enc)
theorem proved : Rows.FnMoveTextsCardSaid :=
 Claim7.holds_tied_plain_at .later [] [.data, .data, .data, .data, .sentinel, .sentinel, .pinned] true (true, "847ddbccc0e4c2ad6f30af028c4387c959973d2dfd3e4360b00a2afb5f0014b8") true
  over (fun _ h => by cases h) (by kernel_rfl) (fun _ h => by cases h) fnMoveTexts_row_tie rfl ⟨rfl, rfl⟩ (by kernel_rfl) rfl
  (fun f fn hf hfn => by
   obtain rfl : f = 4 := Option.some.inj ((show Tryz.prog.funcNamed "loop.example/g00951/laws.FnMoveTexts" = some 4 by kernel_rfl).symm.trans hf) |>.symm
   obtain rfl : fn = Tryz.f4 := (Option.some.inj (Tryz.func4.symm.trans hfn)).symm
   exact ⟨by kernel_rfl, fun j t ht => by
    rw [Tryz.params4] at ht
    have hm : t ∈ [22] := by simpa using Array.mem_of_getElem? ht
    have hall : ([22].all fun u => !Tryz.prog.wantsStandIn u) = true := by kernel_rfl
    exact (show Tryz.prog.wantsStandIn t = false by simpa using List.all_eq_true.1 hall t hm)⟩)
  (by kernel_rfl)
#print axioms proved
end Go.Proofs.YtgngbdacejghcaaGreatDoor.lawMoveTexts
