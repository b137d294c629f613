/- DERIVED. Walks: points on all scales; the draws of settings. -/
import Derived.Test.YtkoojngonldcbaaKSM119
import Derived.Test.YtkoojngonldcbaaKSM19
import Derived.Test.YtkoojngonldcbaaKSM108
import Derived.Test.YtkoojngonldcbaaKSM103
namespace Go.Proofs.Ytkoojngonldcbaa
set_option linter.unusedVariables false
set_option linter.unusedSimpArgs false
open Go.RowKit
set_option maxRecDepth 100000
theorem w_implPosition5 (d t : Int) (h1 : 1000 ≤ d) (h2 : d ≤ 9999) (w : World) :
 Calls Try.prog 183 #[.int .i64 5, .agg #[.int .i64 d, .int .i64 t]] w fun e w' => e = .returned (.agg #[.int .i64 (posI 5 ⟨d, t⟩).lo, .int .i64 (posI 5 ⟨d, t⟩).hi]) ∧ Later w w' := by
 have wa : IntKind.i64.wrap (d - 1000) = d - 1000 := wrap_same (by omega) (by omega)
 have wb : IntKind.i64.wrap ((d - 1000) * 1048576) = (d - 1000) * 1048576 := wrap_same (by omega) (by omega)
 have HP := Lib.hid (show posI 5 ⟨d, t⟩ = ⟨(d - 1000) * 1048576 / 9000, cdiv ((d - 1000) * 1048576) 9000⟩ from rfl)
 go_enter Try.func183, Try.ntmps183
 go_wp2_with fail
 refine (w_down _ _ (by decide) (by decide) (by omega) (by omega) _).mono ?_
 rintro e w1 ⟨rfl, rfl⟩
 go_wp2_with fail
 refine (w_up _ _ (by decide) (by decide) (by omega) (by omega) _).mono ?_
 rintro e w2 ⟨rfl, rfl⟩
 go_wp2
 refine bodyPost_ret (v := .agg #[.int .i64 ((d - 1000) * 1048576 / 9000), .int .i64 (cdiv ((d - 1000) * 1048576) 9000)]) (by simp [results, Try.results183, go_sem]) rfl ⟨by rw [HP.out], qla⟩
theorem w_specPosition5 (d t : Int) (h1 : 1000 ≤ d) (h2 : d ≤ 9999) (w : World) :
 Calls Try.prog 186 #[.int .i64 5, .agg #[.int .i64 d, .int .i64 t]] w fun e w' => e = .returned (.agg #[.int .i64 (posI 5 ⟨d, t⟩).lo, .int .i64 (posI 5 ⟨d, t⟩).hi]) ∧ Later w w' := by
 have wa : IntKind.i64.wrap (d - 1000) = d - 1000 := wrap_same (by omega) (by omega)
 have wb : IntKind.i64.wrap ((d - 1000) * 1048576) = (d - 1000) * 1048576 := wrap_same (by omega) (by omega)
 have HP := Lib.hid (show posI 5 ⟨d, t⟩ = ⟨(d - 1000) * 1048576 / 9000, cdiv ((d - 1000) * 1048576) 9000⟩ from rfl)
 have u1 : 100000000 ≤ d * 100000 := by omega
 have u2 : d * 100000 ≤ 999999999 := by omega
 go_enter Try.func186, Try.ntmps186
 go_wp2_with fail
 refine (w_l03Log _ u1 u2 _).mono ?_
 rintro e w1 ⟨rfl, hL⟩
 obtain ⟨K0, K1⟩ := kept2 hL
 obtain ⟨c0, f0, z0⟩ := blk_at K0
 obtain ⟨c1, f1, z1⟩ := blk_at K1
 go_wp2_with fail
 refine (w_l01Floor _ _ (by decide) (by decide) (by omega) (by omega) _).mono ?_
 rintro e w2 ⟨rfl, rfl⟩
 go_wp2_with fail
 refine (w_l01Ceil _ _ (by decide) (by decide) (by omega) (by omega) _).mono ?_
 rintro e w2 ⟨rfl, rfl⟩
 go_wp2
 refine bodyPost_ret (v := .agg #[.int .i64 ((d - 1000) * 1048576 / 9000), .int .i64 (cdiv ((d - 1000) * 1048576) 9000)]) (by simp [results, Try.results186, go_sem, c1, z1]) rfl ⟨by rw [HP.out], qla⟩
theorem w_implPoint5 (d t : Int) (h1 : 1000 ≤ d) (h2 : d ≤ 9999) (w : World) :
 Calls Try.prog 136 #[.int .i64 5, .agg #[.int .i64 d, .int .i64 t]] w fun e w' => e = .returned (.int .i64 (ptF 5 ⟨d, t⟩)) ∧ Later w w' := by
 have hb := posI_bd (s := 5) (f := ⟨d, t⟩) h1 h2
 have HP := Lib.hid (show ptF 5 ⟨d, t⟩ = ((posI 5 ⟨d, t⟩).lo + (posI 5 ⟨d, t⟩).hi) / 2 from rfl)
 obtain ⟨X, hX⟩ : ∃ X, (posI 5 ⟨d, t⟩).lo = X := ⟨_, rfl⟩
 obtain ⟨Y, hY⟩ : ∃ Y, (posI 5 ⟨d, t⟩).hi = Y := ⟨_, rfl⟩
 rw [hX, hY] at hb HP
 obtain ⟨x1, x2, y1, y2⟩ := hb
 have HX := Lib.hid hX
 have HY := Lib.hid hY
 clear hX hY
 go_enter Try.func136, Try.ntmps136
 go_wp2_with fail
 refine (w_implPosition5 _ _ h1 h2 _).mono ?_
 rintro e w1 ⟨rfl, hL⟩
 rw [HX.out, HY.out]
 go_wp2_with fail
 refine (w_down _ _ (by decide) (by decide) (by omega) (by omega) _).mono ?_
 rintro e w2 ⟨rfl, rfl⟩
 go_wp2
 go_ret
 exact ⟨by rw [HP.out]; rfl, qla⟩
theorem w_implPointA (s d t : Int) (hs : 0 ≤ s) (hs2 : s ≤ 5) (h1 : 1000 ≤ d) (h2 : d ≤ 9999) (h3 : -100 ≤ t) (h4 : t ≤ 100) (w : World) :
 Calls Try.prog 136 #[.int .i64 s, .agg #[.int .i64 d, .int .i64 t]] w fun e w' => e = .returned (.int .i64 (ptF s ⟨d, t⟩)) ∧ Later w w' := by
 by_cases h : s = 5
 · subst h; exact w_implPoint5 d t h1 h2 w
 · exact w_implPoint s d t hs (by omega) h1 h2 h3 h4 w
theorem w_specPoint5 (d t : Int) (h1 : 1000 ≤ d) (h2 : d ≤ 9999) (w : World) :
 Calls Try.prog 140 #[.int .i64 5, .agg #[.int .i64 d, .int .i64 t]] w fun e w' => e = .returned (.int .i64 (ptF 5 ⟨d, t⟩)) ∧ Later w w' := by
 have hb := posI_bd (s := 5) (f := ⟨d, t⟩) h1 h2
 have HP := Lib.hid (show ptF 5 ⟨d, t⟩ = ((posI 5 ⟨d, t⟩).lo + (posI 5 ⟨d, t⟩).hi) / 2 from rfl)
 obtain ⟨X, hX⟩ : ∃ X, (posI 5 ⟨d, t⟩).lo = X := ⟨_, rfl⟩
 obtain ⟨Y, hY⟩ : ∃ Y, (posI 5 ⟨d, t⟩).hi = Y := ⟨_, rfl⟩
 rw [hX, hY] at hb HP
 obtain ⟨x1, x2, y1, y2⟩ := hb
 have HX := Lib.hid hX
 have HY := Lib.hid hY
 clear hX hY
 go_enter Try.func140, Try.ntmps140
 go_wp2_with fail
 refine (w_specPosition5 _ _ h1 h2 _).mono ?_
 rintro e w1 ⟨rfl, hL⟩
 rw [HX.out, HY.out]
 go_wp2_with fail
 refine (w_l01Floor _ _ (by decide) (by decide) (by omega) (by omega) _).mono ?_
 rintro e w2 ⟨rfl, rfl⟩
 go_wp2
 go_ret
 exact ⟨by rw [HP.out]; rfl, qla⟩
theorem w_specPointA (s d t : Int) (hs : 0 ≤ s) (hs2 : s ≤ 5) (h1 : 1000 ≤ d) (h2 : d ≤ 9999) (h3 : -100 ≤ t) (h4 : t ≤ 100) (w : World) :
 Calls Try.prog 140 #[.int .i64 s, .agg #[.int .i64 d, .int .i64 t]] w fun e w' => e = .returned (.int .i64 (ptF s ⟨d, t⟩)) ∧ Later w w' := by
 by_cases h : s = 5
 · subst h; exact w_specPoint5 d t h1 h2 w
 · exact w_specPoint s d t hs (by omega) h1 h2 h3 h4 w
def tzF (f : Fig) : Bool := f.t == 0
def csC (s : Int) (l : List Fig) : Int := if l.all isFig then (if isScale s then (if s = 5 then (if l.all tzF then 0 else 2) else 0) else 2) else 1
set_option maxHeartbeats 1000000 in
theorem w_checkShown (s : Int) (v : Value) (l : List Fig) (w : World) (h : IsFigs w v l) :
 Calls Try.prog 145 #[.int .i64 s, v] w fun e w' => e = .returned (.int .i64 (csC s l)) ∧ Later w w' := by
 have HV := Lib.hid h
 obtain ⟨hxl1, hn1, a1, cap1, rfl, hcap1, hmax1, hrow1⟩ := h
 have HR1 := Lib.hid hrow1
 clear hrow1 hxl1
 cases h1 : l.all isFig
 · have HF := Lib.hid (show csC s l = 1 from by unfold csC; rw [h1]; rfl)
   have H1 := Lib.hid h1
   clear h1
   go_enter Try.func145, Try.ntmps145
   go_wp2_with fail
   refine (w_areFigures _ _ _ HV.out).mono ?_
   rintro e w1 ⟨rfl, hL1⟩
   rw [H1.out]
   go_wp2
   go_ret
   exact ⟨by rw [HF.out]; rfl, hL1⟩
 cases h2 : isScale s
 · have HF := Lib.hid (show csC s l = 2 from by unfold csC; rw [h1, h2]; rfl)
   have H1 := Lib.hid h1
   have H2 := Lib.hid h2
   clear h1 h2
   go_enter Try.func145, Try.ntmps145
   go_wp2_with fail
   refine (w_areFigures _ _ _ HV.out).mono ?_
   rintro e w1 ⟨rfl, hL1⟩
   rw [H1.out]
   go_wp2_with fail
   refine (w_implIsScale _ _).mono ?_
   rintro e w0 ⟨rfl, rfl⟩
   rw [H2.out]
   go_wp2
   go_ret
   exact ⟨by rw [HF.out]; rfl, hL1⟩
 have HG := Lib.hid (show csC s l = if s = 5 then (if l.all tzF then 0 else 2) else 0 from by unfold csC; rw [h1, h2]; rfl)
 have H1 := Lib.hid h1
 have H2 := Lib.hid h2
 clear h1 h2
 go_enter Try.func145, Try.ntmps145
 go_wp2_with fail
 refine (w_areFigures _ _ _ HV.out).mono ?_
 rintro e w1 ⟨rfl, hL1⟩
 rw [H1.out]
 go_wp2_with fail
 refine (w_implIsScale _ _).mono ?_
 rintro e w0 ⟨rfl, rfl⟩
 rw [H2.out]
 go_wp2
 go_loopw [15] (fun i wr => ∃ k : Nat, k ≤ l.length ∧ i = .int .i64 k ∧ Later w wr ∧ Hid (s = 5 → (l.take k).all tzF = true)) (fun i _ => l.length - (intOf i).toNat)
 case atStart => exact ⟨0, Nat.zero_le _, rfl, hL1, by simp [Hid]⟩
 case round =>
  obtain ⟨k, hk, rfl, hL, HE⟩ := hrel
  by_cases hlt : k < l.length
  · obtain ⟨b1, off1, rfl, hr1⟩ := HR1.out (by omega)
    obtain ⟨t, ht1⟩ := get_ex (l := l) (k := k) (by omega)
    have HT1 := Lib.hid ht1
    obtain ⟨c1_0, c1_1⟩ := (hr1.later hL).fig ht1
    clear ht1
    by_cases h5 : s = 5
    · subst h5
      by_cases hz : t.t = 0
      · have hzb : (t.t != 0) = false := by simpa using hz
        have hn := all_snoc HT1.out (HE.out rfl) (show tzF t = true by simp [tzF, hz])
        have HN := Lib.hid hn
        clear hn hz
        go_wp2
        go_roundw
        case rel => exact ⟨k + 1, by omega, by go_num, qla, fun _ => HN.out⟩
        case measure => simp [intOf]; omega
      · have hzb : (t.t != 0) = true := by simpa using hz
        have hf := all_false (p := tzF) HT1.out (by simpa [tzF] using hz)
        have HF := Lib.hid (show csC 5 l = 2 from by rw [HG.out, if_pos rfl, hf]; rfl)
        clear hf hz
        go_wp2
        go_ret
        exact ⟨by rw [HF.out]; rfl, qla⟩
    · have hsb : (s == 5) = false := by simpa using h5
      go_wp2
      go_roundw
      case rel => exact ⟨k + 1, by omega, by go_num, qla, fun e => absurd e h5⟩
      case measure => simp [intOf]; omega
  · have HF := Lib.hid (show csC s l = 0 from by
     rw [HG.out]
     split
     · rename_i h5
       have := HE.out h5
       rw [take_eq_all (by omega)] at this
       rw [this]; rfl
     · rfl)
    go_wp2
    go_ret
    exact ⟨by rw [HF.out]; rfl, hL⟩
theorem csC_one (s : Int) (f : Fig) : csC s [f] = pcC s f := by
 unfold csC pcC tzF
 cases h1 : isFig f <;> cases h2 : isScale s <;> by_cases h5 : s = 5 <;> by_cases h0 : f.t = 0 <;> simp_all
theorem pcC_0 {s : Int} {f : Fig} (h : pcC s f = 0) : isFig f = true ∧ isScale s = true := by
 unfold pcC at h
 cases h1 : isFig f <;> cases h2 : isScale s <;> rw [h1, h2] at h <;> simp at h ⊢
theorem w_l05Code (s d t : Int) (w : World) :
 Calls Try.prog 146 #[.int .i64 s, .agg #[.int .i64 d, .int .i64 t]] w fun e w' => e = .returned (.int .i64 (pcC s ⟨d, t⟩)) ∧ Later w w' := by
 cases h1 : isFig ⟨d, t⟩
 · have HF := Lib.hid (pc_1 (s := s) h1).1
   have H1 := Lib.hid h1
   clear h1
   go_enter Try.func146, Try.ntmps146
   go_wp2_with fail
   refine (w_specIsFigure _ _ _).mono ?_
   rintro e w1 ⟨rfl, hL1⟩
   rw [H1.out]
   go_wp2
   go_ret
   exact ⟨by rw [HF.out]; rfl, qla⟩
 cases h2 : isScale s
 · have HF := Lib.hid (pc_2 h1 h2).1
   have H1 := Lib.hid h1
   have H2 := Lib.hid h2
   clear h1 h2
   go_enter Try.func146, Try.ntmps146
   go_wp2_with fail
   refine (w_specIsFigure _ _ _).mono ?_
   rintro e w1 ⟨rfl, hL1⟩
   rw [H1.out]
   go_wp2_with fail
   refine (w_specIsScale _ _).mono ?_
   rintro e w0 ⟨rfl, rfl⟩
   rw [H2.out]
   go_wp2
   go_ret
   exact ⟨by rw [HF.out]; rfl, qla⟩
 by_cases h5 : s = 5
 · by_cases hz : t = 0
   · have HF := Lib.hid (pc_0 h1 h2 (by simp [hz])).1
     have H1 := Lib.hid h1
     have H2 := Lib.hid h2
     have hzb : (t != 0) = false := by simpa using hz
     subst h5
     clear h1 h2 hz
     go_enter Try.func146, Try.ntmps146
     go_wp2_with fail
     refine (w_specIsFigure _ _ _).mono ?_
     rintro e w1 ⟨rfl, hL1⟩
     rw [H1.out]
     have K0 := kept1 hL1
     obtain ⟨c0, f0, z0⟩ := blk_at K0
     clear K0
     go_wp2_with fail
     refine (w_specIsScale _ _).mono ?_
     rintro e w0 ⟨rfl, rfl⟩
     rw [H2.out]
     go_wp2
     go_ret
     exact ⟨by rw [HF.out]; rfl, qla⟩
   · have HF := Lib.hid (pc_2b h1 h2 ⟨h5, hz⟩).1
     have H1 := Lib.hid h1
     have H2 := Lib.hid h2
     have hzb : (t != 0) = true := by simpa using hz
     subst h5
     clear h1 h2 hz
     go_enter Try.func146, Try.ntmps146
     go_wp2_with fail
     refine (w_specIsFigure _ _ _).mono ?_
     rintro e w1 ⟨rfl, hL1⟩
     rw [H1.out]
     have K0 := kept1 hL1
     obtain ⟨c0, f0, z0⟩ := blk_at K0
     clear K0
     go_wp2_with fail
     refine (w_specIsScale _ _).mono ?_
     rintro e w0 ⟨rfl, rfl⟩
     rw [H2.out]
     go_wp2
     go_ret
     exact ⟨by rw [HF.out]; rfl, qla⟩
 · have HF := Lib.hid (pc_0 (f := ⟨d, t⟩) h1 h2 (by simp [h5])).1
   have H1 := Lib.hid h1
   have H2 := Lib.hid h2
   have hsb : (s == 5) = false := by simpa using h5
   clear h1 h2
   go_enter Try.func146, Try.ntmps146
   go_wp2_with fail
   refine (w_specIsFigure _ _ _).mono ?_
   rintro e w1 ⟨rfl, hL1⟩
   rw [H1.out]
   go_wp2_with fail
   refine (w_specIsScale _ _).mono ?_
   rintro e w0 ⟨rfl, rfl⟩
   rw [H2.out]
   go_wp2
   go_ret
   exact ⟨by rw [HF.out]; rfl, qla⟩
set_option maxHeartbeats 1000000 in
theorem w_implPointOf (s d t : Int) (w : World) :
 Calls Try.prog 75 #[.int .i64 s, .agg #[.int .i64 d, .int .i64 t]] w fun e w' => e = .returned (.tuple #[.int .i64 (pcV s ⟨d, t⟩), .int .i64 (pcC s ⟨d, t⟩)]) ∧ Later w w' := by
 obtain ⟨k, hk⟩ : ∃ k, pcC s ⟨d, t⟩ = k := ⟨_, rfl⟩
 by_cases hk0 : k = 0
 rotate_left
 · have HF := Lib.hid (show pcV s ⟨d, t⟩ = 0 ∧ pcC s ⟨d, t⟩ = k from ⟨by unfold pcV; rw [hk, if_neg hk0], hk⟩)
   have HC := Lib.hid (show csC s [⟨d, t⟩] = k from by rw [csC_one]; exact hk)
   have hkb : (k != 0) = true := by simpa using hk0
   clear hk
   go_enter Try.func75, Try.ntmps75
   go_wp2_with fail
   refine (w_checkShown _ _ [⟨d, t⟩] _ (figs_lit [⟨d, t⟩] (heap_alloc_new' _ _ (by simp)) rfl (by simp))).mono ?_
   rintro e w1 ⟨rfl, hL1⟩
   rw [HC.out]
   have HLw1 := Lib.hid ((((Later.refl w).alloc _).alloc _).trans hL1)
   obtain ⟨K0, -⟩ := kept2 hL1
   have HK0_1 := Lib.hid K0
   clear K0 hL1
   obtain ⟨c0, f0, z0⟩ := blk_at HK0_1.out
   go_wp2
   go_ret2
   exact ⟨by rw [HF.out.1, HF.out.2]; rfl, by have hLw := HLw1.out; exact qla⟩
 subst hk0
 obtain ⟨g1, g2⟩ := pcC_0 hk
 obtain ⟨s1, s2⟩ := isScale_bd g2
 have hfb := isFig_true g1
 simp only at hfb
 obtain ⟨f1, f2, f3, f4⟩ := hfb
 obtain ⟨p, hp⟩ : ∃ y, ptF s ⟨d, t⟩ = y := ⟨_, rfl⟩
 have HF := Lib.hid (show pcV s ⟨d, t⟩ = p ∧ pcC s ⟨d, t⟩ = 0 from ⟨by unfold pcV; rw [hk, if_pos rfl, hp], hk⟩)
 have HP := Lib.hid hp
 have HC := Lib.hid (show csC s [⟨d, t⟩] = 0 from by rw [csC_one]; exact hk)
 clear hk hp g1 g2
 go_enter Try.func75, Try.ntmps75
 go_wp2_with fail
 refine (w_checkShown _ _ [⟨d, t⟩] _ (figs_lit [⟨d, t⟩] (heap_alloc_new' _ _ (by simp)) rfl (by simp))).mono ?_
 rintro e w1 ⟨rfl, hL1⟩
 rw [HC.out]
 have HLw1 := Lib.hid ((((Later.refl w).alloc _).alloc _).trans hL1)
 obtain ⟨K0, -⟩ := kept2 hL1
 have HK0_1 := Lib.hid K0
 clear K0 hL1
 obtain ⟨c0, f0, z0⟩ := blk_at HK0_1.out
 go_wp2_with fail
 refine (w_implPointA s d t s1 s2 f1 f2 (by omega) (by omega) _).mono ?_
 rintro e w2 ⟨rfl, hL2⟩
 rw [HP.out]
 clear c0 f0 z0
 have HLw2 := Lib.hid (HLw1.out.trans hL2)
 have HK0_2 := Lib.hid (hL2.keep HK0_1.out)
 clear hL2
 obtain ⟨c0, f0, z0⟩ := blk_at HK0_2.out
 go_wp2
 go_ret2
 exact ⟨by rw [HF.out.1, HF.out.2]; rfl, by have hLw := HLw2.out; exact qla⟩
set_option maxHeartbeats 1000000 in
theorem w_specPointOf (s d t : Int) (w : World) :
 Calls Try.prog 76 #[.int .i64 s, .agg #[.int .i64 d, .int .i64 t]] w fun e w' => e = .returned (.tuple #[.int .i64 (pcV s ⟨d, t⟩), .int .i64 (pcC s ⟨d, t⟩)]) ∧ Later w w' := by
 obtain ⟨k, hk⟩ : ∃ k, pcC s ⟨d, t⟩ = k := ⟨_, rfl⟩
 by_cases hk0 : k = 0
 rotate_left
 · have HF := Lib.hid (show pcV s ⟨d, t⟩ = 0 ∧ pcC s ⟨d, t⟩ = k from ⟨by unfold pcV; rw [hk, if_neg hk0], hk⟩)
   have HC := Lib.hid (show pcC s ⟨d, t⟩ = k from hk)
   have hkb : (k != 0) = true := by simpa using hk0
   clear hk
   go_enter Try.func76, Try.ntmps76
   go_wp2_with fail
   refine (w_l05Code s d t _).mono ?_
   rintro e w1 ⟨rfl, hL1⟩
   rw [HC.out]
   have HLw1 := Lib.hid (((Later.refl w).alloc _).trans hL1)
   have K0 := kept1 hL1
   have HK0_1 := Lib.hid K0
   clear K0
   clear hL1
   obtain ⟨c0, f0, z0⟩ := blk_at HK0_1.out
   go_wp2
   go_ret2
   exact ⟨by rw [HF.out.1, HF.out.2]; rfl, by have hLw := HLw1.out; exact qla⟩
 subst hk0
 obtain ⟨g1, g2⟩ := pcC_0 hk
 obtain ⟨s1, s2⟩ := isScale_bd g2
 have hfb := isFig_true g1
 simp only at hfb
 obtain ⟨f1, f2, f3, f4⟩ := hfb
 obtain ⟨p, hp⟩ : ∃ y, ptF s ⟨d, t⟩ = y := ⟨_, rfl⟩
 have HF := Lib.hid (show pcV s ⟨d, t⟩ = p ∧ pcC s ⟨d, t⟩ = 0 from ⟨by unfold pcV; rw [hk, if_pos rfl, hp], hk⟩)
 have HP := Lib.hid hp
 have HC := Lib.hid (show pcC s ⟨d, t⟩ = 0 from hk)
 clear hk hp g1 g2
 go_enter Try.func76, Try.ntmps76
 go_wp2_with fail
 refine (w_l05Code s d t _).mono ?_
 rintro e w1 ⟨rfl, hL1⟩
 rw [HC.out]
 have HLw1 := Lib.hid (((Later.refl w).alloc _).trans hL1)
 have K0 := kept1 hL1
 have HK0_1 := Lib.hid K0
 clear K0
 clear hL1
 obtain ⟨c0, f0, z0⟩ := blk_at HK0_1.out
 go_wp2_with fail
 refine (w_specPointA s d t s1 s2 f1 f2 (by omega) (by omega) _).mono ?_
 rintro e w2 ⟨rfl, hL2⟩
 rw [HP.out]
 clear c0 f0 z0
 have HLw2 := Lib.hid (HLw1.out.trans hL2)
 have HK0_2 := Lib.hid (hL2.keep HK0_1.out)
 clear hL2
 obtain ⟨c0, f0, z0⟩ := blk_at HK0_2.out
 go_wp2
 go_ret2
 exact ⟨by rw [HF.out.1, HF.out.2]; rfl, by have hLw := HLw2.out; exact qla⟩
set_option maxHeartbeats 2000000 in
theorem w_DrawIsSetting (c : Value) (bs : List Int) (w : World) (h : IsByts w c bs) (hB : ∀ b ∈ bs, 0 ≤ b ∧ b ≤ 255) (hl : bs.length ≤ 4096) :
 Calls Try.prog 77 #[c] w fun e w' => ∃ s : Stg, e = .returned (.agg #[.int .i64 s.sh, .int .i64 s.cu]) ∧ Later w w' := by
 go_enter Try.func77, Try.ntmps77
 go_wp2_with fail
 refine (w_l01From' c bs _ (h.later (qla)) hB hl).mono ?_
 rintro e w1 ⟨k, rfl, hk0, hL1, hS1⟩
 have hk0 : w.heap.size + 1 ≤ k := by simpa using hk0
 have hk := hS1.lt
 have hAc := byts_in h
 have hD1 : Drawn w w1 k := Drawn.later (by repeat (with_reducible first | exact grown_refl _ _ | refine Drawn.alloc ?_ _)) hL1
 have HK0_1 := Lib.hid (hL1.keep (k := w.heap.size) qkh)
 obtain ⟨c0, f0, z0_1⟩ := blk_at HK0_1.out
 have hz1 := hD1.size
 clear hL1
 go_wp2_with fail
 refine (w_l11DrawSetting k c _ qsh).mono ?_
 rintro e w2 ⟨s, rfl, hD, hS2⟩
 have hz2 : w1.heap.size ≤ w2.heap.size := qsz hD.size
 have hD2 : Drawn w w2 k := Drawn.trans qdh hD
 have HK0_2 := Lib.hid (hD.keep (j := w.heap.size) qkh (by omega))
 clear hD c0 f0
 obtain ⟨c0, f0, z0_2⟩ := blk_at HK0_2.out
 go_wp2
 refine bodyPost_ret (v := .agg #[.int .i64 s.sh, .int .i64 s.cu]) (by simp [results, Try.results77, go_sem, c0, z0_2]) rfl ⟨s, rfl, Later.drawn (k := k) (Later.refl w) (by omega) qdh⟩
set_option maxHeartbeats 2000000 in
theorem w_l05DrawFigure (k : Nat) (c : Value) (x : Int) (w : World) (h : Src w k c) :
 Calls Try.prog 199 #[.pointer (some ⟨k, 0, none⟩), .int .i64 x] w fun e w' => ∃ f : Fig, e = .returned (.agg #[.int .i64 f.d, .int .i64 f.t]) ∧ Drawn w w' k ∧ Src w' k c := by
 have hk := h.lt
 go_enter Try.func199, Try.ntmps199
 go_wp2_with fail
 refine (w_l02Draw k c _ qsh).mono ?_
 rintro e w1 ⟨f, rfl, hD, hS1⟩
 have hz1 : w.heap.size ≤ w1.heap.size := qsz hD.size
 have hD1 : Drawn w w1 k := Drawn.trans qdh hD
 have HK0_1 := Lib.hid (hD.keep (j := w.heap.size) qkh (by omega))
 clear hD
 obtain ⟨c0, f0, z0_1⟩ := blk_at HK0_1.out
 by_cases hq : x = 5
 · skip
   obtain rfl := hq
   go_wp2_with fail
   refine (w_l01Next k c 10 _ qsh).mono ?_
   rintro e w2 ⟨x2, rfl, x2a, x2b, hD, hS2⟩
   have hz2 : w1.heap.size ≤ w2.heap.size := qsz hD.size
   have hD2 : Drawn w w2 k := Drawn.trans qdh hD
   have HK0_2 := Lib.hid (hD.keep (j := w.heap.size) qkh (by omega))
   have HK1_2 := Lib.hid (hD.keep (j := w1.heap.size) qkh (by omega))
   clear hD c0 f0
   obtain ⟨c0, f0, z0_2⟩ := blk_at HK0_2.out
   obtain ⟨c1, f1, z1_2⟩ := blk_at HK1_2.out
   by_cases hp : 0 < x2
   · skip
     have hpb : decide (0 < x2) = true := by simpa using hp
     go_wp2
     refine bodyPost_ret (v := .agg #[.int .i64 f.d, .int .i64 0]) (by simp [results, Try.results199, go_sem, c0, z0_2]) rfl ⟨⟨f.d, 0⟩, rfl, qdh, qsh⟩
   · skip
     have hpb : decide (0 < x2) = false := by simpa using hp
     go_wp2
     refine bodyPost_ret (v := .agg #[.int .i64 f.d, .int .i64 f.t]) (by simp [results, Try.results199, go_sem, c0, z0_2]) rfl ⟨⟨f.d, f.t⟩, rfl, qdh, qsh⟩
 · skip
   have hqb : (x == 5) = false := by simpa using hq
   go_wp2
   refine bodyPost_ret (v := .agg #[.int .i64 f.d, .int .i64 f.t]) (by simp [results, Try.results199, go_sem, c0, z0_1]) rfl ⟨⟨f.d, f.t⟩, rfl, qdh, qsh⟩
set_option maxHeartbeats 2000000 in
theorem w_DrawPositionOf (c : Value) (bs : List Int) (w : World) (h : IsByts w c bs) (hB : ∀ b ∈ bs, 0 ≤ b ∧ b ≤ 255) (hl : bs.length ≤ 4096) :
 Calls Try.prog 144 #[c] w fun e w' => ∃ (x : Int) (f : Fig), e = .returned (.tuple #[.int .i64 x, .agg #[.int .i64 f.d, .int .i64 f.t]]) ∧ Later w w' := by
 go_enter Try.func144, Try.ntmps144
 go_wp2_with fail
 refine (w_l01From' c bs _ (h.later (qla)) hB hl).mono ?_
 rintro e w1 ⟨k, rfl, hk0, hL1, hS1⟩
 have hk0 : w.heap.size + 1 ≤ k := by simpa using hk0
 have hk := hS1.lt
 have hAc := byts_in h
 have hD1 : Drawn w w1 k := Drawn.later (by repeat (with_reducible first | exact grown_refl _ _ | refine Drawn.alloc ?_ _)) hL1
 have HK0_1 := Lib.hid (hL1.keep (k := w.heap.size) qkh)
 obtain ⟨c0, f0, z0_1⟩ := blk_at HK0_1.out
 have hz1 := hD1.size
 clear hL1
 go_wp2_with fail
 refine (w_l05DrawScale k c _ qsh).mono ?_
 rintro e w2 ⟨x, rfl, hD, hS2⟩
 have hz2 : w1.heap.size ≤ w2.heap.size := qsz hD.size
 have hD2 : Drawn w w2 k := Drawn.trans qdh hD
 have HK0_2 := Lib.hid (hD.keep (j := w.heap.size) qkh (by omega))
 clear hD c0 f0
 obtain ⟨c0, f0, z0_2⟩ := blk_at HK0_2.out
 go_wp2_with fail
 refine (w_l05DrawFigure k c x _ qsh).mono ?_
 rintro e w3 ⟨f, rfl, hD, hS3⟩
 have hz3 : w2.heap.size ≤ w3.heap.size := qsz hD.size
 have hD3 : Drawn w w3 k := Drawn.trans qdh hD
 have HK0_3 := Lib.hid (hD.keep (j := w.heap.size) qkh (by omega))
 clear hD c0 f0
 obtain ⟨c0, f0, z0_3⟩ := blk_at HK0_3.out
 go_wp2
 refine bodyPost_ret (v := .tuple #[.int .i64 x, .agg #[.int .i64 f.d, .int .i64 f.t]]) (by simp [results, Try.results144, go_sem, c0, z0_3]) rfl ⟨x, f, rfl, Later.drawn (k := k) (Later.refl w) (by omega) qdh⟩
theorem w_DrawPointOf (c : Value) (bs : List Int) (w : World) (h : IsByts w c bs) (hB : ∀ b ∈ bs, 0 ≤ b ∧ b ≤ 255) (hl : bs.length ≤ 4096) :
 Calls Try.prog 74 #[c] w fun e w' => ∃ (x : Int) (f : Fig), e = .returned (.tuple #[.int .i64 x, .agg #[.int .i64 f.d, .int .i64 f.t]]) ∧ Later w w' := by
 go_enter Try.func74, Try.ntmps74
 go_wp2_with fail
 refine (w_DrawPositionOf c bs _ (h.later (qla)) hB hl).mono ?_
 rintro e w1 ⟨x, f, rfl, hL⟩
 have K0 := kept1 hL
 obtain ⟨c0, f0, z0⟩ := blk_at K0
 clear K0
 go_wp2
 refine bodyPost_ret (v := .tuple #[.int .i64 x, .agg #[.int .i64 f.d, .int .i64 f.t]]) (by simp [results, Try.results74, go_sem, c0, z0]) rfl ⟨x, f, rfl, qla⟩
set_option maxHeartbeats 2000000 in
theorem w_DrawReadStock (c : Value) (bs : List Int) (w : World) (h : IsByts w c bs) (hB : ∀ b ∈ bs, 0 ≤ b ∧ b ≤ 255) (hl : bs.length ≤ 4096) :
 Calls Try.prog 68 #[c] w fun e w' => ∃ (n : Int) (u v : Value) (st sd : List Int) (s : Stg) (y : Int), e = .returned (.tuple #[.agg #[.int .i64 n, u, v], .agg #[.int .i64 s.sh, .int .i64 s.cu], .int .i64 y]) ∧ w'.ownsRow w.heap.size 2 1 u st.length (nums st) ∧ w'.ownsRow w.heap.size 2 1 v sd.length (nums sd) ∧ st.length ≤ 5 ∧ sd.length ≤ 5 ∧ Later w w' := by
 go_enter Try.func68, Try.ntmps68
 go_wp2_with fail
 refine (w_l01From' c bs _ (h.later (qla)) hB hl).mono ?_
 rintro e w1 ⟨k, rfl, hk0, hL1, hS1⟩
 have hk0 : w.heap.size + 2 ≤ k := by simpa using hk0
 have hk := hS1.lt
 have hAc := byts_in h
 have hD1 : Drawn w w1 k := Drawn.later (by repeat (with_reducible first | exact grown_refl _ _ | refine Drawn.alloc ?_ _)) hL1
 have HK0_1 := Lib.hid (hL1.keep (k := w.heap.size) qkh)
 have HK1_1 := Lib.hid (hL1.keep (k := w.heap.size + 1) qkh)
 obtain ⟨c0, f0, z0_1⟩ := blk_at HK0_1.out
 obtain ⟨c1, f1, z1_1⟩ := blk_at HK1_1.out
 have hz1 := hD1.size
 clear hL1
 go_wp2_with fail
 refine (w_l11Draw k c _ qsh).mono ?_
 rintro e w2 ⟨n, vu, vv, st, sd, rfl, hOu, hOv, hu5, hv5, hD, hS2⟩
 have hz2 : w1.heap.size ≤ w2.heap.size := qsz hD.size
 have hD2 : Drawn w w2 k := Drawn.trans qdh hD
 have HK0_2 := Lib.hid (hD.keep (j := w.heap.size) qkh (by omega))
 have HK1_2 := Lib.hid (hD.keep (j := w.heap.size + 1) qkh (by omega))
 clear hD c0 f0 c1 f1
 obtain ⟨c0, f0, z0_2⟩ := blk_at HK0_2.out
 obtain ⟨c1, f1, z1_2⟩ := blk_at HK1_2.out
 obtain ⟨au, capu, rfl⟩ := isSl_of hOu
 have HOu_2 := Lib.hid hOu
 clear hOu
 obtain ⟨av, capv, rfl⟩ := isSl_of hOv
 have HOv_2 := Lib.hid hOv
 clear hOv
 have hnu6 := ne_own (k := w2.heap.size) HOu_2.out (by omega)
 have hnv6 := ne_own (k := w2.heap.size) HOv_2.out (by omega)
 go_wp2_with fail
 refine (w_l11DrawSetting k c _ qsh).mono ?_
 rintro e w3 ⟨s, rfl, hD, hS3⟩
 have hz3 : w2.heap.size ≤ w3.heap.size := qsz hD.size
 have hD3 : Drawn w w3 k := Drawn.trans qdh hD
 have HK0_3 := Lib.hid (hD.keep (j := w.heap.size) qkh (by omega))
 have HK1_3 := Lib.hid (hD.keep (j := w.heap.size + 1) qkh (by omega))
 have HK6_3 := Lib.hid (hD.keep (j := w2.heap.size) qkh (by omega))
 have HOu_3 := Lib.hid (hD.owns (qoh HOu_2) (by omega))
 have HOv_3 := Lib.hid (hD.owns (qoh HOv_2) (by omega))
 clear hD c0 f0 c1 f1
 obtain ⟨c0, f0, z0_3⟩ := blk_at HK0_3.out
 obtain ⟨c1, f1, z1_3⟩ := blk_at HK1_3.out
 obtain ⟨c6, f6, z6_3⟩ := blk_at HK6_3.out
 have hnu7 := ne_own (k := w3.heap.size) HOu_3.out (by omega)
 have hnv7 := ne_own (k := w3.heap.size) HOv_3.out (by omega)
 go_wp2_with fail
 have hD0 : Drawn w (w3.alloc (.cells #[.int .i64 s.sh, .int .i64 s.cu] 66)) k := qdh
 have hS0 : Src (w3.alloc (.cells #[.int .i64 s.sh, .int .i64 s.cu] 66)) k c := qsh
 have Q6 : (w3.alloc (.cells #[.int .i64 s.sh, .int .i64 s.cu] 66)).heap[w2.heap.size]? = some (.cells #[.int .i64 n, .slice au st.length capu, .slice av sd.length capv] 64 (0, 0)) := qkh
 have Q7 : (w3.alloc (.cells #[.int .i64 s.sh, .int .i64 s.cu] 66)).heap[w3.heap.size]? = some (.cells #[.int .i64 s.sh, .int .i64 s.cu] 66 (0, 0)) := heap_alloc_new _ _
 have Q0 : (w3.alloc (.cells #[.int .i64 s.sh, .int .i64 s.cu] 66)).heap[w.heap.size]? = some (.cells #[.int .i64 0, .slice none 0 0, .slice none 0 0] 64 (0, 0)) := qkh
 have Q1 : (w3.alloc (.cells #[.int .i64 s.sh, .int .i64 s.cu] 66)).heap[w.heap.size + 1]? = some (.cells #[.int .i64 0, .int .i64 0] 66 (0, 0)) := qkh
 have Qu : (w3.alloc (.cells #[.int .i64 s.sh, .int .i64 s.cu] 66)).ownsRow w1.heap.size 2 1 (.slice au st.length capu) st.length (nums st) := (qoh HOu_3)
 have Qv : (w3.alloc (.cells #[.int .i64 s.sh, .int .i64 s.cu] 66)).ownsRow w1.heap.size 2 1 (.slice av sd.length capv) sd.length (nums sd) := (qoh HOv_3)
 clear c0 f0 c1 f1 c6 f6
 have hnu0 := ne_low (k := w.heap.size) Qu (by omega)
 have hnu1 := ne_low (k := w.heap.size + 1) Qu (by omega)
 have hnv0 := ne_low (k := w.heap.size) Qv (by omega)
 have hnv1 := ne_low (k := w.heap.size + 1) Qv (by omega)
 refine region_slots 19 [14, 15, 16, 17, 18, 4] (fun g ac wc => sl ac 2 = .pointer (some ⟨w.heap.size, 0, none⟩) ∧
  sl ac 3 = .pointer (some ⟨w.heap.size + 1, 0, none⟩) ∧
  sl ac 5 = .pointer (some ⟨k, 0, none⟩) ∧
  sl ac 6 = .pointer (some ⟨w2.heap.size, 0, none⟩) ∧
  sl ac 7 = .pointer (some ⟨w3.heap.size, 0, none⟩) ∧
  (g 0 = true → (sl ac 14) = .agg #[.int .i64 n, .slice au st.length capu, .slice av sd.length capv]) ∧
  (g 1 = true → (sl ac 15) = .agg #[.int .i64 s.sh, .int .i64 s.cu]) ∧
  (g 2 = true → (sl ac 16) = .pointer (some ⟨k, 0, none⟩)) ∧
  (g 3 = true → (sl ac 17) = .agg #[.int .i64 n, .slice au st.length capu, .slice av sd.length capv]) ∧
  (g 4 = true → ∃ y : Int, (sl ac 18) = .int .i64 y) ∧
  (g 7 = true → ∃ y : Int, (sl ac 4) = .int .i64 y) ∧
  Drawn w wc k ∧
  Src wc k c ∧
  wc.ownsRow w1.heap.size 2 1 (.slice au st.length capu) st.length (nums st) ∧
  wc.ownsRow w1.heap.size 2 1 (.slice av sd.length capv) sd.length (nums sd) ∧
  wc.heap[w2.heap.size]? = some (.cells #[.int .i64 n, .slice au st.length capu, .slice av sd.length capv] 64 (0, 0)) ∧
  wc.heap[w3.heap.size]? = some (.cells #[.int .i64 s.sh, .int .i64 s.cu] 66 (0, 0)) ∧
  (g 5 = false → wc.heap[w.heap.size]? = some (.cells #[.int .i64 0, .slice none 0 0, .slice none 0 0] 64 (0, 0))) ∧
  (g 5 = true → wc.heap[w.heap.size]? = some (.cells #[.int .i64 n, .slice au st.length capu, .slice av sd.length capv] 64 (0, 0))) ∧
  (g 6 = false → wc.heap[w.heap.size + 1]? = some (.cells #[.int .i64 0, .int .i64 0] 66 (0, 0))) ∧
  (g 6 = true → wc.heap[w.heap.size + 1]? = some (.cells #[.int .i64 s.sh, .int .i64 s.cu] 66 (0, 0))) ∧
  (g 4 = true → g 2 = true) ∧
  (g 4 = true → g 3 = true) ∧
  (g 5 = true → g 0 = true) ∧
  (g 6 = true → g 1 = true) ∧
  (g 7 = true → g 4 = true)) (by kernel_rfl) (by kernel_rfl) rfl (by kernel_rfl) ?_ ?_ ?_
 · exact ⟨rfl, rfl, rfl, rfl, rfl, nofun, nofun, nofun, nofun, nofun, nofun, hD0.drew, hS0.drew, owns_later Qu (Later.refl _).drew, owns_later Qv (Later.refl _).drew, Q6, Q7, fun _ => Q0, nofun, fun _ => Q1, nofun, nofun, nofun, nofun, nofun, nofun⟩
 · intro g ac wu hg ha hI
   obtain ⟨xi2, xi3, xi5, xi6, xi7, i0, i1, i2, i3, i4, i7, hD, hS, Ou, Ov, B6, B7, -, N0, -, N1, -, -, -, -, -⟩ := hI
   obtain e0 := i0 (hg 0 (by simp))
   obtain e1 := i1 (hg 1 (by simp))
   obtain e2 := i2 (hg 2 (by simp))
   obtain e3 := i3 (hg 3 (by simp))
   obtain ⟨yd4, e4⟩ := i4 (hg 4 (by simp))
   obtain ⟨yd7, e7⟩ := i7 (hg 7 (by simp))
   replace N0 := N0 (hg 5 (by simp))
   replace N1 := N1 (hg 6 (by simp))
   simp only [putAll, e0, e1, e2, e3, e4, e7] at ha
   simp only [Act.put, List.setIfInBounds_toArray, List.set_cons_succ, List.set_cons_zero] at ha
   rw [ha]
   clear xi2 xi3 xi5 xi6 xi7 i0 i1 i2 i3 i4 i7 e0 e1 e2 e3 e4 e7 hg ha
   have hc0 := (blk_at N0).1
   have hz0 := (blk_at N0).2.2
   have hc1 := (blk_at N1).1
   have hz1' := (blk_at N1).2.2
   have HDu := Lib.hid hD
   have HUu := Lib.hid Ou
   have HVu := Lib.hid Ov
   clear hD hS Ou Ov B6 B7 N0 N1
   go_wp2
   refine bodyPost_ret (v := .tuple #[.agg #[.int .i64 n, .slice au st.length capu, .slice av sd.length capv], .agg #[.int .i64 s.sh, .int .i64 s.cu], .int .i64 yd7]) (by simp [results, Try.results68, go_sem, hc0, hz0, hc1, hz1']) rfl ⟨n, _, _, st, sd, s, yd7, rfl, owns_base HUu.out (by omega), owns_base HVu.out (by omega), hu5, hv5, Later.drawn (k := k) (Later.refl w) (by omega) HDu.out⟩
 · refine .cons ?_ (.cons ?_ (.cons ?_ (.cons ?_ (.cons ?_ (.cons ?_ (.cons ?_ (.cons ?_ .nil)))))))
   · refine qst fun g ac wc hn hk hr HI K' hK => ?_
     obtain ⟨xi2, xi3, xi5, xi6, xi7, -, -, -, -, -, -, hD, hS, Ou, Ov, B6, B7, R0, N0, R1, N1, m4_2, m4_3, m5_0, m6_1, m7_4⟩ := HI.out
     simp [Region.binds] at hr
     have zi6 := sl_get xi6 (by omega)
     obtain ⟨cb, fb, zb⟩ := blk_at B6
     go_simp
     obtain ⟨-, -, -, -, -, i0, i1, i2, i3, i4, i7, -⟩ := HI.out
     exact hK.out _ _ ⟨qB xi2, qB xi3, qB xi5, qB xi6, qB xi7, qP, (fun h => by rw [put_ne (by decide)]; exact i1 h), (fun h => by rw [put_ne (by decide)]; exact i2 h), (fun h => by rw [put_ne (by decide)]; exact i3 h), (fun h => by rw [put_ne (by decide)]; exact i4 h), (fun h => by rw [put_ne (by decide)]; exact i7 h), hD, hS, Ou, Ov, B6, B7, (fun h => (R0 h)), (fun h => N0 h), (fun h => (R1 h)), (fun h => N1 h), m4_2, m4_3, (fun _ => rfl), m6_1, m7_4⟩
   · refine qst fun g ac wc hn hk hr HI K' hK => ?_
     obtain ⟨xi2, xi3, xi5, xi6, xi7, -, -, -, -, -, -, hD, hS, Ou, Ov, B6, B7, R0, N0, R1, N1, m4_2, m4_3, m5_0, m6_1, m7_4⟩ := HI.out
     simp [Region.binds] at hr
     have zi7 := sl_get xi7 (by omega)
     obtain ⟨cb, fb, zb⟩ := blk_at B7
     go_simp
     obtain ⟨-, -, -, -, -, i0, i1, i2, i3, i4, i7, -⟩ := HI.out
     exact hK.out _ _ ⟨qB xi2, qB xi3, qB xi5, qB xi6, qB xi7, (fun h => by rw [put_ne (by decide)]; exact i0 h), qP, (fun h => by rw [put_ne (by decide)]; exact i2 h), (fun h => by rw [put_ne (by decide)]; exact i3 h), (fun h => by rw [put_ne (by decide)]; exact i4 h), (fun h => by rw [put_ne (by decide)]; exact i7 h), hD, hS, Ou, Ov, B6, B7, (fun h => (R0 h)), (fun h => N0 h), (fun h => (R1 h)), (fun h => N1 h), m4_2, m4_3, m5_0, (fun _ => rfl), m7_4⟩
   · refine qst fun g ac wc hn hk hr HI K' hK => ?_
     obtain ⟨xi2, xi3, xi5, xi6, xi7, -, -, -, -, -, -, hD, hS, Ou, Ov, B6, B7, R0, N0, R1, N1, m4_2, m4_3, m5_0, m6_1, m7_4⟩ := HI.out
     simp [Region.binds] at hr
     have zi5 := sl_get xi5 (by omega)
     go_simp
     obtain ⟨-, -, -, -, -, i0, i1, i2, i3, i4, i7, -⟩ := HI.out
     exact hK.out _ _ ⟨qB xi2, qB xi3, qB xi5, qB xi6, qB xi7, (fun h => by rw [put_ne (by decide)]; exact i0 h), (fun h => by rw [put_ne (by decide)]; exact i1 h), qP, (fun h => by rw [put_ne (by decide)]; exact i3 h), (fun h => absurd (m4_2 h) (by rw [hk]; simp)), (fun h => by rw [put_ne (by decide)]; exact i7 h), hD, hS, Ou, Ov, B6, B7, (fun h => (R0 h)), (fun h => N0 h), (fun h => (R1 h)), (fun h => N1 h), (fun _ => rfl), m4_3, m5_0, m6_1, m7_4⟩
   · refine qst fun g ac wc hn hk hr HI K' hK => ?_
     obtain ⟨xi2, xi3, xi5, xi6, xi7, -, -, -, -, -, -, hD, hS, Ou, Ov, B6, B7, R0, N0, R1, N1, m4_2, m4_3, m5_0, m6_1, m7_4⟩ := HI.out
     simp [Region.binds] at hr
     have zi6 := sl_get xi6 (by omega)
     obtain ⟨cb, fb, zb⟩ := blk_at B6
     go_simp
     obtain ⟨-, -, -, -, -, i0, i1, i2, i3, i4, i7, -⟩ := HI.out
     exact hK.out _ _ ⟨qB xi2, qB xi3, qB xi5, qB xi6, qB xi7, (fun h => by rw [put_ne (by decide)]; exact i0 h), (fun h => by rw [put_ne (by decide)]; exact i1 h), (fun h => by rw [put_ne (by decide)]; exact i2 h), qP, (fun h => absurd (m4_3 h) (by rw [hk]; simp)), (fun h => by rw [put_ne (by decide)]; exact i7 h), hD, hS, Ou, Ov, B6, B7, (fun h => (R0 h)), (fun h => N0 h), (fun h => (R1 h)), (fun h => N1 h), m4_2, (fun _ => rfl), m5_0, m6_1, m7_4⟩
   · refine qst fun g ac wc hn hk hr HI K' hK => ?_
     obtain ⟨xi2, xi3, xi5, xi6, xi7, -, -, i2, i3, -, -, hD, hS, Ou, Ov, B6, B7, R0, N0, R1, N1, m4_2, m4_3, m5_0, m6_1, m7_4⟩ := HI.out
     simp [Region.binds] at hr
     have g2 : g 2 = true := (by simp [hr])
     obtain y2 := i2 g2
     have z2 := sl_get y2 (by omega)
     have g3 : g 3 = true := (by simp [hr])
     obtain y3 := i3 g3
     have z3 := sl_get y3 (by omega)
     clear i2 i3
     go_simp
     refine (w_l11DrawOn k c n _ _ st sd false _ hS (reads_of_owns Ou (by omega)) (reads_of_owns Ov (by omega)) (allIn_own Ou (by omega)) (allIn_own Ov (by omega))).mono ?_
     rintro e w4 ⟨y, rfl, hD4, hS4⟩
     obtain ⟨-, -, -, -, -, i0, i1, i2, i3, i4, i7, -⟩ := HI.out
     exact hK.out _ _ ⟨qB xi2, qB xi3, qB xi5, qB xi6, qB xi7, (fun h => by rw [put_ne (by decide)]; exact i0 h), (fun h => by rw [put_ne (by decide)]; exact i1 h), (fun h => by rw [put_ne (by decide)]; exact i2 h), (fun h => by rw [put_ne (by decide)]; exact i3 h), (fun _ => ⟨_, put_eq (by omega)⟩), (fun h => absurd (m7_4 h) (by rw [hk]; simp)), (hD.trans hD4), hS4, (hD4.owns Ou (by omega)), (hD4.owns Ov (by omega)), (hD4.keep B6 (by omega)), (hD4.keep B7 (by omega)), (fun h => (hD4.keep (R0 h) (by omega))), (fun h => (hD4.keep (N0 h) (by omega))), (fun h => (hD4.keep (R1 h) (by omega))), (fun h => (hD4.keep (N1 h) (by omega))), (fun _ => g2), (fun _ => g3), m5_0, m6_1, (fun _ => rfl)⟩
   · refine qst fun g ac wc hn hk hr HI K' hK => ?_
     obtain ⟨xi2, xi3, xi5, xi6, xi7, i0, -, -, -, -, -, hD, hS, Ou, Ov, B6, B7, R0, N0, R1, N1, m4_2, m4_3, m5_0, m6_1, m7_4⟩ := HI.out
     simp [Region.binds] at hr
     have g0 : g 0 = true := (by simp [hr])
     obtain y0 := i0 g0
     have z0 := sl_get y0 (by omega)
     have zi2 := sl_get xi2 (by omega)
     have hst := hk
     have hbb := blk_at (R0 hst)
     have cb := hbb.1
     have fb := hbb.2.1
     have zb := hbb.2.2
     clear hbb
     clear i0
     go_simp
     obtain ⟨-, -, -, -, -, i0, i1, i2, i3, i4, i7, -⟩ := HI.out
     exact hK.out undef _ ⟨xi2, xi3, xi5, xi6, xi7, (fun h => i0 h), (fun h => i1 h), (fun h => i2 h), (fun h => i3 h), (fun h => i4 h), (fun h => i7 h), (((hD.setCell (by omega) _ _).setCell (by omega) _ _).setCell (by omega) _ _), (((hS.setLow (hAc.mono fun b hb => by omega) (by omega) _ _).setLow (hAc.mono fun b hb => by omega) (by omega) _ _).setLow (hAc.mono fun b hb => by omega) (by omega) _ _), (owns_setNe (owns_setNe (owns_setNe Ou (by assumption) _ _) (by assumption) _ _) (by assumption) _ _), (owns_setNe (owns_setNe (owns_setNe Ov (by assumption) _ _) (by assumption) _ _) (by assumption) _ _), (other_set (other_set (other_set B6 (by omega) _) (by omega) _) (by omega) _), (other_set (other_set (other_set B7 (by omega) _) (by omega) _) (by omega) _), (fun h => absurd h (by simp)), (fun _ => st_2_3 (st_1_3 (st_0_3 (R0 hk) _) _) _), (fun h => (other_set (other_set (other_set (R1 h) (by omega) _) (by omega) _) (by omega) _)), (fun h => (other_set (other_set (other_set (N1 h) (by omega) _) (by omega) _) (by omega) _)), m4_2, m4_3, (fun _ => g0), m6_1, m7_4⟩
   · refine qst fun g ac wc hn hk hr HI K' hK => ?_
     obtain ⟨xi2, xi3, xi5, xi6, xi7, -, i1, -, -, -, -, hD, hS, Ou, Ov, B6, B7, R0, N0, R1, N1, m4_2, m4_3, m5_0, m6_1, m7_4⟩ := HI.out
     simp [Region.binds] at hr
     have g1 : g 1 = true := (by simp [hr])
     obtain y1 := i1 g1
     have z1 := sl_get y1 (by omega)
     have zi3 := sl_get xi3 (by omega)
     have hst := hk
     have hbb := blk_at (R1 hst)
     have cb := hbb.1
     have fb := hbb.2.1
     have zb := hbb.2.2
     clear hbb
     clear i1
     go_simp
     obtain ⟨-, -, -, -, -, i0, i1, i2, i3, i4, i7, -⟩ := HI.out
     exact hK.out undef _ ⟨xi2, xi3, xi5, xi6, xi7, (fun h => i0 h), (fun h => i1 h), (fun h => i2 h), (fun h => i3 h), (fun h => i4 h), (fun h => i7 h), ((hD.setCell (by omega) _ _).setCell (by omega) _ _), ((hS.setLow (hAc.mono fun b hb => by omega) (by omega) _ _).setLow (hAc.mono fun b hb => by omega) (by omega) _ _), (owns_setNe (owns_setNe Ou (by assumption) _ _) (by assumption) _ _), (owns_setNe (owns_setNe Ov (by assumption) _ _) (by assumption) _ _), (other_set (other_set B6 (by omega) _) (by omega) _), (other_set (other_set B7 (by omega) _) (by omega) _), (fun h => (other_set (other_set (R0 h) (by omega) _) (by omega) _)), (fun h => (other_set (other_set (N0 h) (by omega) _) (by omega) _)), (fun h => absurd h (by simp)), (fun _ => st_1_2 (st_0_2 (R1 hk) _) _), m4_2, m4_3, m5_0, (fun _ => g1), m7_4⟩
   · refine qst fun g ac wc hn hk hr HI K' hK => ?_
     obtain ⟨xi2, xi3, xi5, xi6, xi7, -, -, -, -, i4, -, hD, hS, Ou, Ov, B6, B7, R0, N0, R1, N1, m4_2, m4_3, m5_0, m6_1, m7_4⟩ := HI.out
     simp [Region.binds] at hr
     have g4 : g 4 = true := (by simp [hr])
     obtain ⟨y4, y4⟩ := i4 g4
     have z4 := sl_get y4 (by omega)
     clear i4
     go_simp
     obtain ⟨-, -, -, -, -, i0, i1, i2, i3, i4, i7, -⟩ := HI.out
     exact hK.out _ _ ⟨qB xi2, qB xi3, qB xi5, qB xi6, qB xi7, (fun h => by rw [put_ne (by decide)]; exact i0 h), (fun h => by rw [put_ne (by decide)]; exact i1 h), (fun h => by rw [put_ne (by decide)]; exact i2 h), (fun h => by rw [put_ne (by decide)]; exact i3 h), (fun h => by rw [put_ne (by decide)]; exact i4 h), (fun _ => ⟨_, put_eq (by omega)⟩), hD, hS, Ou, Ov, B6, B7, (fun h => (R0 h)), (fun h => N0 h), (fun h => (R1 h)), (fun h => N1 h), m4_2, m4_3, m5_0, m6_1, (fun _ => g4)⟩
set_option maxHeartbeats 2000000 in
theorem w_DrawReadSlide (c : Value) (bs : List Int) (w : World) (h : IsByts w c bs) (hB : ∀ b ∈ bs, 0 ≤ b ∧ b ≤ 255) (hl : bs.length ≤ 4096) :
 Calls Try.prog 71 #[c] w fun e w' => ∃ (n : Int) (u v : Value) (st sd : List Int) (s : Stg) (y : Int), e = .returned (.tuple #[.agg #[.int .i64 n, u, v], .agg #[.int .i64 s.sh, .int .i64 s.cu], .int .i64 y]) ∧ w'.ownsRow w.heap.size 2 1 u st.length (nums st) ∧ w'.ownsRow w.heap.size 2 1 v sd.length (nums sd) ∧ st.length ≤ 5 ∧ sd.length ≤ 5 ∧ Later w w' := by
 go_enter Try.func71, Try.ntmps71
 go_wp2_with fail
 refine (w_l01From' c bs _ (h.later (qla)) hB hl).mono ?_
 rintro e w1 ⟨k, rfl, hk0, hL1, hS1⟩
 have hk0 : w.heap.size + 2 ≤ k := by simpa using hk0
 have hk := hS1.lt
 have hAc := byts_in h
 have hD1 : Drawn w w1 k := Drawn.later (by repeat (with_reducible first | exact grown_refl _ _ | refine Drawn.alloc ?_ _)) hL1
 have HK0_1 := Lib.hid (hL1.keep (k := w.heap.size) qkh)
 have HK1_1 := Lib.hid (hL1.keep (k := w.heap.size + 1) qkh)
 obtain ⟨c0, f0, z0_1⟩ := blk_at HK0_1.out
 obtain ⟨c1, f1, z1_1⟩ := blk_at HK1_1.out
 have hz1 := hD1.size
 clear hL1
 go_wp2_with fail
 refine (w_l11Draw k c _ qsh).mono ?_
 rintro e w2 ⟨n, vu, vv, st, sd, rfl, hOu, hOv, hu5, hv5, hD, hS2⟩
 have hz2 : w1.heap.size ≤ w2.heap.size := qsz hD.size
 have hD2 : Drawn w w2 k := Drawn.trans qdh hD
 have HK0_2 := Lib.hid (hD.keep (j := w.heap.size) qkh (by omega))
 have HK1_2 := Lib.hid (hD.keep (j := w.heap.size + 1) qkh (by omega))
 clear hD c0 f0 c1 f1
 obtain ⟨c0, f0, z0_2⟩ := blk_at HK0_2.out
 obtain ⟨c1, f1, z1_2⟩ := blk_at HK1_2.out
 obtain ⟨au, capu, rfl⟩ := isSl_of hOu
 have HOu_2 := Lib.hid hOu
 clear hOu
 obtain ⟨av, capv, rfl⟩ := isSl_of hOv
 have HOv_2 := Lib.hid hOv
 clear hOv
 have hnu6 := ne_own (k := w2.heap.size) HOu_2.out (by omega)
 have hnv6 := ne_own (k := w2.heap.size) HOv_2.out (by omega)
 go_wp2_with fail
 refine (w_l11DrawSetting k c _ qsh).mono ?_
 rintro e w3 ⟨s, rfl, hD, hS3⟩
 have hz3 : w2.heap.size ≤ w3.heap.size := qsz hD.size
 have hD3 : Drawn w w3 k := Drawn.trans qdh hD
 have HK0_3 := Lib.hid (hD.keep (j := w.heap.size) qkh (by omega))
 have HK1_3 := Lib.hid (hD.keep (j := w.heap.size + 1) qkh (by omega))
 have HK6_3 := Lib.hid (hD.keep (j := w2.heap.size) qkh (by omega))
 have HOu_3 := Lib.hid (hD.owns (qoh HOu_2) (by omega))
 have HOv_3 := Lib.hid (hD.owns (qoh HOv_2) (by omega))
 clear hD c0 f0 c1 f1
 obtain ⟨c0, f0, z0_3⟩ := blk_at HK0_3.out
 obtain ⟨c1, f1, z1_3⟩ := blk_at HK1_3.out
 obtain ⟨c6, f6, z6_3⟩ := blk_at HK6_3.out
 have hnu7 := ne_own (k := w3.heap.size) HOu_3.out (by omega)
 have hnv7 := ne_own (k := w3.heap.size) HOv_3.out (by omega)
 go_wp2_with fail
 have hD0 : Drawn w (w3.alloc (.cells #[.int .i64 s.sh, .int .i64 s.cu] 66)) k := qdh
 have hS0 : Src (w3.alloc (.cells #[.int .i64 s.sh, .int .i64 s.cu] 66)) k c := qsh
 have Q6 : (w3.alloc (.cells #[.int .i64 s.sh, .int .i64 s.cu] 66)).heap[w2.heap.size]? = some (.cells #[.int .i64 n, .slice au st.length capu, .slice av sd.length capv] 64 (0, 0)) := qkh
 have Q7 : (w3.alloc (.cells #[.int .i64 s.sh, .int .i64 s.cu] 66)).heap[w3.heap.size]? = some (.cells #[.int .i64 s.sh, .int .i64 s.cu] 66 (0, 0)) := heap_alloc_new _ _
 have Q0 : (w3.alloc (.cells #[.int .i64 s.sh, .int .i64 s.cu] 66)).heap[w.heap.size]? = some (.cells #[.int .i64 0, .slice none 0 0, .slice none 0 0] 64 (0, 0)) := qkh
 have Q1 : (w3.alloc (.cells #[.int .i64 s.sh, .int .i64 s.cu] 66)).heap[w.heap.size + 1]? = some (.cells #[.int .i64 0, .int .i64 0] 66 (0, 0)) := qkh
 have Qu : (w3.alloc (.cells #[.int .i64 s.sh, .int .i64 s.cu] 66)).ownsRow w1.heap.size 2 1 (.slice au st.length capu) st.length (nums st) := (qoh HOu_3)
 have Qv : (w3.alloc (.cells #[.int .i64 s.sh, .int .i64 s.cu] 66)).ownsRow w1.heap.size 2 1 (.slice av sd.length capv) sd.length (nums sd) := (qoh HOv_3)
 clear c0 f0 c1 f1 c6 f6
 have hnu0 := ne_low (k := w.heap.size) Qu (by omega)
 have hnu1 := ne_low (k := w.heap.size + 1) Qu (by omega)
 have hnv0 := ne_low (k := w.heap.size) Qv (by omega)
 have hnv1 := ne_low (k := w.heap.size + 1) Qv (by omega)
 refine region_slots 19 [14, 15, 16, 17, 18, 4] (fun g ac wc => sl ac 2 = .pointer (some ⟨w.heap.size, 0, none⟩) ∧
  sl ac 3 = .pointer (some ⟨w.heap.size + 1, 0, none⟩) ∧
  sl ac 5 = .pointer (some ⟨k, 0, none⟩) ∧
  sl ac 6 = .pointer (some ⟨w2.heap.size, 0, none⟩) ∧
  sl ac 7 = .pointer (some ⟨w3.heap.size, 0, none⟩) ∧
  (g 0 = true → (sl ac 14) = .agg #[.int .i64 n, .slice au st.length capu, .slice av sd.length capv]) ∧
  (g 1 = true → (sl ac 15) = .agg #[.int .i64 s.sh, .int .i64 s.cu]) ∧
  (g 2 = true → (sl ac 16) = .pointer (some ⟨k, 0, none⟩)) ∧
  (g 3 = true → (sl ac 17) = .agg #[.int .i64 n, .slice au st.length capu, .slice av sd.length capv]) ∧
  (g 4 = true → ∃ y : Int, (sl ac 18) = .int .i64 y) ∧
  (g 7 = true → ∃ y : Int, (sl ac 4) = .int .i64 y) ∧
  Drawn w wc k ∧
  Src wc k c ∧
  wc.ownsRow w1.heap.size 2 1 (.slice au st.length capu) st.length (nums st) ∧
  wc.ownsRow w1.heap.size 2 1 (.slice av sd.length capv) sd.length (nums sd) ∧
  wc.heap[w2.heap.size]? = some (.cells #[.int .i64 n, .slice au st.length capu, .slice av sd.length capv] 64 (0, 0)) ∧
  wc.heap[w3.heap.size]? = some (.cells #[.int .i64 s.sh, .int .i64 s.cu] 66 (0, 0)) ∧
  (g 5 = false → wc.heap[w.heap.size]? = some (.cells #[.int .i64 0, .slice none 0 0, .slice none 0 0] 64 (0, 0))) ∧
  (g 5 = true → wc.heap[w.heap.size]? = some (.cells #[.int .i64 n, .slice au st.length capu, .slice av sd.length capv] 64 (0, 0))) ∧
  (g 6 = false → wc.heap[w.heap.size + 1]? = some (.cells #[.int .i64 0, .int .i64 0] 66 (0, 0))) ∧
  (g 6 = true → wc.heap[w.heap.size + 1]? = some (.cells #[.int .i64 s.sh, .int .i64 s.cu] 66 (0, 0))) ∧
  (g 4 = true → g 2 = true) ∧
  (g 4 = true → g 3 = true) ∧
  (g 5 = true → g 0 = true) ∧
  (g 6 = true → g 1 = true) ∧
  (g 7 = true → g 4 = true)) (by kernel_rfl) (by kernel_rfl) rfl (by kernel_rfl) ?_ ?_ ?_
 · exact ⟨rfl, rfl, rfl, rfl, rfl, nofun, nofun, nofun, nofun, nofun, nofun, hD0.drew, hS0.drew, owns_later Qu (Later.refl _).drew, owns_later Qv (Later.refl _).drew, Q6, Q7, fun _ => Q0, nofun, fun _ => Q1, nofun, nofun, nofun, nofun, nofun, nofun⟩
 · intro g ac wu hg ha hI
   obtain ⟨xi2, xi3, xi5, xi6, xi7, i0, i1, i2, i3, i4, i7, hD, hS, Ou, Ov, B6, B7, -, N0, -, N1, -, -, -, -, -⟩ := hI
   obtain e0 := i0 (hg 0 (by simp))
   obtain e1 := i1 (hg 1 (by simp))
   obtain e2 := i2 (hg 2 (by simp))
   obtain e3 := i3 (hg 3 (by simp))
   obtain ⟨yd4, e4⟩ := i4 (hg 4 (by simp))
   obtain ⟨yd7, e7⟩ := i7 (hg 7 (by simp))
   replace N0 := N0 (hg 5 (by simp))
   replace N1 := N1 (hg 6 (by simp))
   simp only [putAll, e0, e1, e2, e3, e4, e7] at ha
   simp only [Act.put, List.setIfInBounds_toArray, List.set_cons_succ, List.set_cons_zero] at ha
   rw [ha]
   clear xi2 xi3 xi5 xi6 xi7 i0 i1 i2 i3 i4 i7 e0 e1 e2 e3 e4 e7 hg ha
   have hc0 := (blk_at N0).1
   have hz0 := (blk_at N0).2.2
   have hc1 := (blk_at N1).1
   have hz1' := (blk_at N1).2.2
   have HDu := Lib.hid hD
   have HUu := Lib.hid Ou
   have HVu := Lib.hid Ov
   clear hD hS Ou Ov B6 B7 N0 N1
   go_wp2
   refine bodyPost_ret (v := .tuple #[.agg #[.int .i64 n, .slice au st.length capu, .slice av sd.length capv], .agg #[.int .i64 s.sh, .int .i64 s.cu], .int .i64 yd7]) (by simp [results, Try.results71, go_sem, hc0, hz0, hc1, hz1']) rfl ⟨n, _, _, st, sd, s, yd7, rfl, owns_base HUu.out (by omega), owns_base HVu.out (by omega), hu5, hv5, Later.drawn (k := k) (Later.refl w) (by omega) HDu.out⟩
 · refine .cons ?_ (.cons ?_ (.cons ?_ (.cons ?_ (.cons ?_ (.cons ?_ (.cons ?_ (.cons ?_ .nil)))))))
   · refine qst fun g ac wc hn hk hr HI K' hK => ?_
     obtain ⟨xi2, xi3, xi5, xi6, xi7, -, -, -, -, -, -, hD, hS, Ou, Ov, B6, B7, R0, N0, R1, N1, m4_2, m4_3, m5_0, m6_1, m7_4⟩ := HI.out
     simp [Region.binds] at hr
     have zi6 := sl_get xi6 (by omega)
     obtain ⟨cb, fb, zb⟩ := blk_at B6
     go_simp
     obtain ⟨-, -, -, -, -, i0, i1, i2, i3, i4, i7, -⟩ := HI.out
     exact hK.out _ _ ⟨qB xi2, qB xi3, qB xi5, qB xi6, qB xi7, qP, (fun h => by rw [put_ne (by decide)]; exact i1 h), (fun h => by rw [put_ne (by decide)]; exact i2 h), (fun h => by rw [put_ne (by decide)]; exact i3 h), (fun h => by rw [put_ne (by decide)]; exact i4 h), (fun h => by rw [put_ne (by decide)]; exact i7 h), hD, hS, Ou, Ov, B6, B7, (fun h => (R0 h)), (fun h => N0 h), (fun h => (R1 h)), (fun h => N1 h), m4_2, m4_3, (fun _ => rfl), m6_1, m7_4⟩
   · refine qst fun g ac wc hn hk hr HI K' hK => ?_
     obtain ⟨xi2, xi3, xi5, xi6, xi7, -, -, -, -, -, -, hD, hS, Ou, Ov, B6, B7, R0, N0, R1, N1, m4_2, m4_3, m5_0, m6_1, m7_4⟩ := HI.out
     simp [Region.binds] at hr
     have zi7 := sl_get xi7 (by omega)
     obtain ⟨cb, fb, zb⟩ := blk_at B7
     go_simp
     obtain ⟨-, -, -, -, -, i0, i1, i2, i3, i4, i7, -⟩ := HI.out
     exact hK.out _ _ ⟨qB xi2, qB xi3, qB xi5, qB xi6, qB xi7, (fun h => by rw [put_ne (by decide)]; exact i0 h), qP, (fun h => by rw [put_ne (by decide)]; exact i2 h), (fun h => by rw [put_ne (by decide)]; exact i3 h), (fun h => by rw [put_ne (by decide)]; exact i4 h), (fun h => by rw [put_ne (by decide)]; exact i7 h), hD, hS, Ou, Ov, B6, B7, (fun h => (R0 h)), (fun h => N0 h), (fun h => (R1 h)), (fun h => N1 h), m4_2, m4_3, m5_0, (fun _ => rfl), m7_4⟩
   · refine qst fun g ac wc hn hk hr HI K' hK => ?_
     obtain ⟨xi2, xi3, xi5, xi6, xi7, -, -, -, -, -, -, hD, hS, Ou, Ov, B6, B7, R0, N0, R1, N1, m4_2, m4_3, m5_0, m6_1, m7_4⟩ := HI.out
     simp [Region.binds] at hr
     have zi5 := sl_get xi5 (by omega)
     go_simp
     obtain ⟨-, -, -, -, -, i0, i1, i2, i3, i4, i7, -⟩ := HI.out
     exact hK.out _ _ ⟨qB xi2, qB xi3, qB xi5, qB xi6, qB xi7, (fun h => by rw [put_ne (by decide)]; exact i0 h), (fun h => by rw [put_ne (by decide)]; exact i1 h), qP, (fun h => by rw [put_ne (by decide)]; exact i3 h), (fun h => absurd (m4_2 h) (by rw [hk]; simp)), (fun h => by rw [put_ne (by decide)]; exact i7 h), hD, hS, Ou, Ov, B6, B7, (fun h => (R0 h)), (fun h => N0 h), (fun h => (R1 h)), (fun h => N1 h), (fun _ => rfl), m4_3, m5_0, m6_1, m7_4⟩
   · refine qst fun g ac wc hn hk hr HI K' hK => ?_
     obtain ⟨xi2, xi3, xi5, xi6, xi7, -, -, -, -, -, -, hD, hS, Ou, Ov, B6, B7, R0, N0, R1, N1, m4_2, m4_3, m5_0, m6_1, m7_4⟩ := HI.out
     simp [Region.binds] at hr
     have zi6 := sl_get xi6 (by omega)
     obtain ⟨cb, fb, zb⟩ := blk_at B6
     go_simp
     obtain ⟨-, -, -, -, -, i0, i1, i2, i3, i4, i7, -⟩ := HI.out
     exact hK.out _ _ ⟨qB xi2, qB xi3, qB xi5, qB xi6, qB xi7, (fun h => by rw [put_ne (by decide)]; exact i0 h), (fun h => by rw [put_ne (by decide)]; exact i1 h), (fun h => by rw [put_ne (by decide)]; exact i2 h), qP, (fun h => absurd (m4_3 h) (by rw [hk]; simp)), (fun h => by rw [put_ne (by decide)]; exact i7 h), hD, hS, Ou, Ov, B6, B7, (fun h => (R0 h)), (fun h => N0 h), (fun h => (R1 h)), (fun h => N1 h), m4_2, (fun _ => rfl), m5_0, m6_1, m7_4⟩
   · refine qst fun g ac wc hn hk hr HI K' hK => ?_
     obtain ⟨xi2, xi3, xi5, xi6, xi7, -, -, i2, i3, -, -, hD, hS, Ou, Ov, B6, B7, R0, N0, R1, N1, m4_2, m4_3, m5_0, m6_1, m7_4⟩ := HI.out
     simp [Region.binds] at hr
     have g2 : g 2 = true := (by simp [hr])
     obtain y2 := i2 g2
     have z2 := sl_get y2 (by omega)
     have g3 : g 3 = true := (by simp [hr])
     obtain y3 := i3 g3
     have z3 := sl_get y3 (by omega)
     clear i2 i3
     go_simp
     refine (w_l11DrawOn k c n _ _ st sd true _ hS (reads_of_owns Ou (by omega)) (reads_of_owns Ov (by omega)) (allIn_own Ou (by omega)) (allIn_own Ov (by omega))).mono ?_
     rintro e w4 ⟨y, rfl, hD4, hS4⟩
     obtain ⟨-, -, -, -, -, i0, i1, i2, i3, i4, i7, -⟩ := HI.out
     exact hK.out _ _ ⟨qB xi2, qB xi3, qB xi5, qB xi6, qB xi7, (fun h => by rw [put_ne (by decide)]; exact i0 h), (fun h => by rw [put_ne (by decide)]; exact i1 h), (fun h => by rw [put_ne (by decide)]; exact i2 h), (fun h => by rw [put_ne (by decide)]; exact i3 h), (fun _ => ⟨_, put_eq (by omega)⟩), (fun h => absurd (m7_4 h) (by rw [hk]; simp)), (hD.trans hD4), hS4, (hD4.owns Ou (by omega)), (hD4.owns Ov (by omega)), (hD4.keep B6 (by omega)), (hD4.keep B7 (by omega)), (fun h => (hD4.keep (R0 h) (by omega))), (fun h => (hD4.keep (N0 h) (by omega))), (fun h => (hD4.keep (R1 h) (by omega))), (fun h => (hD4.keep (N1 h) (by omega))), (fun _ => g2), (fun _ => g3), m5_0, m6_1, (fun _ => rfl)⟩
   · refine qst fun g ac wc hn hk hr HI K' hK => ?_
     obtain ⟨xi2, xi3, xi5, xi6, xi7, i0, -, -, -, -, -, hD, hS, Ou, Ov, B6, B7, R0, N0, R1, N1, m4_2, m4_3, m5_0, m6_1, m7_4⟩ := HI.out
     simp [Region.binds] at hr
     have g0 : g 0 = true := (by simp [hr])
     obtain y0 := i0 g0
     have z0 := sl_get y0 (by omega)
     have zi2 := sl_get xi2 (by omega)
     have hst := hk
     have hbb := blk_at (R0 hst)
     have cb := hbb.1
     have fb := hbb.2.1
     have zb := hbb.2.2
     clear hbb
     clear i0
     go_simp
     obtain ⟨-, -, -, -, -, i0, i1, i2, i3, i4, i7, -⟩ := HI.out
     exact hK.out undef _ ⟨xi2, xi3, xi5, xi6, xi7, (fun h => i0 h), (fun h => i1 h), (fun h => i2 h), (fun h => i3 h), (fun h => i4 h), (fun h => i7 h), (((hD.setCell (by omega) _ _).setCell (by omega) _ _).setCell (by omega) _ _), (((hS.setLow (hAc.mono fun b hb => by omega) (by omega) _ _).setLow (hAc.mono fun b hb => by omega) (by omega) _ _).setLow (hAc.mono fun b hb => by omega) (by omega) _ _), (owns_setNe (owns_setNe (owns_setNe Ou (by assumption) _ _) (by assumption) _ _) (by assumption) _ _), (owns_setNe (owns_setNe (owns_setNe Ov (by assumption) _ _) (by assumption) _ _) (by assumption) _ _), (other_set (other_set (other_set B6 (by omega) _) (by omega) _) (by omega) _), (other_set (other_set (other_set B7 (by omega) _) (by omega) _) (by omega) _), (fun h => absurd h (by simp)), (fun _ => st_2_3 (st_1_3 (st_0_3 (R0 hk) _) _) _), (fun h => (other_set (other_set (other_set (R1 h) (by omega) _) (by omega) _) (by omega) _)), (fun h => (other_set (other_set (other_set (N1 h) (by omega) _) (by omega) _) (by omega) _)), m4_2, m4_3, (fun _ => g0), m6_1, m7_4⟩
   · refine qst fun g ac wc hn hk hr HI K' hK => ?_
     obtain ⟨xi2, xi3, xi5, xi6, xi7, -, i1, -, -, -, -, hD, hS, Ou, Ov, B6, B7, R0, N0, R1, N1, m4_2, m4_3, m5_0, m6_1, m7_4⟩ := HI.out
     simp [Region.binds] at hr
     have g1 : g 1 = true := (by simp [hr])
     obtain y1 := i1 g1
     have z1 := sl_get y1 (by omega)
     have zi3 := sl_get xi3 (by omega)
     have hst := hk
     have hbb := blk_at (R1 hst)
     have cb := hbb.1
     have fb := hbb.2.1
     have zb := hbb.2.2
     clear hbb
     clear i1
     go_simp
     obtain ⟨-, -, -, -, -, i0, i1, i2, i3, i4, i7, -⟩ := HI.out
     exact hK.out undef _ ⟨xi2, xi3, xi5, xi6, xi7, (fun h => i0 h), (fun h => i1 h), (fun h => i2 h), (fun h => i3 h), (fun h => i4 h), (fun h => i7 h), ((hD.setCell (by omega) _ _).setCell (by omega) _ _), ((hS.setLow (hAc.mono fun b hb => by omega) (by omega) _ _).setLow (hAc.mono fun b hb => by omega) (by omega) _ _), (owns_setNe (owns_setNe Ou (by assumption) _ _) (by assumption) _ _), (owns_setNe (owns_setNe Ov (by assumption) _ _) (by assumption) _ _), (other_set (other_set B6 (by omega) _) (by omega) _), (other_set (other_set B7 (by omega) _) (by omega) _), (fun h => (other_set (other_set (R0 h) (by omega) _) (by omega) _)), (fun h => (other_set (other_set (N0 h) (by omega) _) (by omega) _)), (fun h => absurd h (by simp)), (fun _ => st_1_2 (st_0_2 (R1 hk) _) _), m4_2, m4_3, m5_0, (fun _ => g1), m7_4⟩
   · refine qst fun g ac wc hn hk hr HI K' hK => ?_
     obtain ⟨xi2, xi3, xi5, xi6, xi7, -, -, -, -, i4, -, hD, hS, Ou, Ov, B6, B7, R0, N0, R1, N1, m4_2, m4_3, m5_0, m6_1, m7_4⟩ := HI.out
     simp [Region.binds] at hr
     have g4 : g 4 = true := (by simp [hr])
     obtain ⟨y4, y4⟩ := i4 g4
     have z4 := sl_get y4 (by omega)
     clear i4
     go_simp
     obtain ⟨-, -, -, -, -, i0, i1, i2, i3, i4, i7, -⟩ := HI.out
     exact hK.out _ _ ⟨qB xi2, qB xi3, qB xi5, qB xi6, qB xi7, (fun h => by rw [put_ne (by decide)]; exact i0 h), (fun h => by rw [put_ne (by decide)]; exact i1 h), (fun h => by rw [put_ne (by decide)]; exact i2 h), (fun h => by rw [put_ne (by decide)]; exact i3 h), (fun h => by rw [put_ne (by decide)]; exact i4 h), (fun _ => ⟨_, put_eq (by omega)⟩), hD, hS, Ou, Ov, B6, B7, (fun h => (R0 h)), (fun h => N0 h), (fun h => (R1 h)), (fun h => N1 h), m4_2, m4_3, m5_0, m6_1, (fun _ => g4)⟩
set_option maxHeartbeats 2000000 in
theorem w_DrawSetSlide (c : Value) (bs : List Int) (w : World) (h : IsByts w c bs) (hB : ∀ b ∈ bs, 0 ≤ b ∧ b ≤ 255) (hl : bs.length ≤ 4096) :
 Calls Try.prog 65 #[c] w fun e w' => ∃ (n : Int) (u v : Value) (st sd : List Int) (s : Stg) (y : Int) (f : Fig), e = .returned (.tuple #[.agg #[.int .i64 n, u, v], .agg #[.int .i64 s.sh, .int .i64 s.cu], .int .i64 y, .agg #[.int .i64 f.d, .int .i64 f.t]]) ∧ w'.ownsRow w.heap.size 2 1 u st.length (nums st) ∧ w'.ownsRow w.heap.size 2 1 v sd.length (nums sd) ∧ st.length ≤ 5 ∧ sd.length ≤ 5 ∧ Later w w' := by
 go_enter Try.func65, Try.ntmps65
 go_wp2_with fail
 refine (w_l01From' c bs _ (h.later (qla)) hB hl).mono ?_
 rintro e w1 ⟨k, rfl, hk0, hL1, hS1⟩
 have hk0 : w.heap.size + 3 ≤ k := by simpa using hk0
 have hk := hS1.lt
 have hAc := byts_in h
 have hD1 : Drawn w w1 k := Drawn.later (by repeat (with_reducible first | exact grown_refl _ _ | refine Drawn.alloc ?_ _)) hL1
 have HK0_1 := Lib.hid (hL1.keep (k := w.heap.size) qkh)
 have HK1_1 := Lib.hid (hL1.keep (k := w.heap.size + 1) qkh)
 have HK2_1 := Lib.hid (hL1.keep (k := w.heap.size + 1 + 1) qkh)
 obtain ⟨c0, f0, z0_1⟩ := blk_at HK0_1.out
 obtain ⟨c1, f1, z1_1⟩ := blk_at HK1_1.out
 obtain ⟨c2, f2, z2_1⟩ := blk_at HK2_1.out
 have hz1 := hD1.size
 have hIB : IsByts w1 c bs := (h.later (qla)).later hL1
 clear hL1
 go_wp2_with fail
 refine (w_DrawReadSlide c bs _ (hIB.later (qla)) hB hl).mono ?_
 rintro e w2 ⟨n, vu, vv, st, sd, s, y, rfl, hOu, hOv, hu5, hv5, hL⟩
 have hz2 : w1.heap.size ≤ w2.heap.size := qsz hL.size
 have hD2 : Drawn w w2 k := Drawn.later qdh hL
 have hS2 : Src w2 k c := Src.later qsh hL
 have HK0_2 := Lib.hid (hL.keep (k := w.heap.size) qkh)
 have HK1_2 := Lib.hid (hL.keep (k := w.heap.size + 1) qkh)
 have HK2_2 := Lib.hid (hL.keep (k := w.heap.size + 1 + 1) qkh)
 clear hL c0 f0 c1 f1 c2 f2
 obtain ⟨c0, f0, z0_2⟩ := blk_at HK0_2.out
 obtain ⟨c1, f1, z1_2⟩ := blk_at HK1_2.out
 obtain ⟨c2, f2, z2_2⟩ := blk_at HK2_2.out
 obtain ⟨au, capu, rfl⟩ := isSl_of hOu
 have HOu_2 := Lib.hid (owns_base (base' := w1.heap.size) hOu (by first | omega | (simp; omega)))
 clear hOu
 obtain ⟨av, capv, rfl⟩ := isSl_of hOv
 have HOv_2 := Lib.hid (owns_base (base' := w1.heap.size) hOv (by first | omega | (simp; omega)))
 clear hOv
 have hnu6 := ne_own (k := w2.heap.size) HOu_2.out (by omega)
 have hnv6 := ne_own (k := w2.heap.size) HOv_2.out (by omega)
 have hnu7 := ne_own (k := w2.heap.size + 1) HOu_2.out (by omega)
 have hnv7 := ne_own (k := w2.heap.size + 1) HOv_2.out (by omega)
 go_wp2_with fail
 have hD0 : Drawn w ((w2.alloc (.cells #[.int .i64 n, .slice au st.length capu, .slice av sd.length capv] 64)).alloc (.cells #[.int .i64 s.sh, .int .i64 s.cu] 66)) k := qdh
 have hS0 : Src ((w2.alloc (.cells #[.int .i64 n, .slice au st.length capu, .slice av sd.length capv] 64)).alloc (.cells #[.int .i64 s.sh, .int .i64 s.cu] 66)) k c := qsh
 have Q6 : ((w2.alloc (.cells #[.int .i64 n, .slice au st.length capu, .slice av sd.length capv] 64)).alloc (.cells #[.int .i64 s.sh, .int .i64 s.cu] 66)).heap[w2.heap.size]? = some (.cells #[.int .i64 n, .slice au st.length capu, .slice av sd.length capv] 64 (0, 0)) := heap_alloc_old _ _ (heap_alloc_new _ _)
 have Q7 : ((w2.alloc (.cells #[.int .i64 n, .slice au st.length capu, .slice av sd.length capv] 64)).alloc (.cells #[.int .i64 s.sh, .int .i64 s.cu] 66)).heap[w2.heap.size + 1]? = some (.cells #[.int .i64 s.sh, .int .i64 s.cu] 66 (0, 0)) := heap_alloc_new' _ _ (by simp)
 have Q0 : ((w2.alloc (.cells #[.int .i64 n, .slice au st.length capu, .slice av sd.length capv] 64)).alloc (.cells #[.int .i64 s.sh, .int .i64 s.cu] 66)).heap[w.heap.size]? = some (.cells #[.int .i64 0, .slice none 0 0, .slice none 0 0] 64 (0, 0)) := qkh
 have Q1 : ((w2.alloc (.cells #[.int .i64 n, .slice au st.length capu, .slice av sd.length capv] 64)).alloc (.cells #[.int .i64 s.sh, .int .i64 s.cu] 66)).heap[w.heap.size + 1]? = some (.cells #[.int .i64 0, .int .i64 0] 66 (0, 0)) := qkh
 have Q2 : ((w2.alloc (.cells #[.int .i64 n, .slice au st.length capu, .slice av sd.length capv] 64)).alloc (.cells #[.int .i64 s.sh, .int .i64 s.cu] 66)).heap[w.heap.size + 1 + 1]? = some (.cells #[.int .i64 0, .int .i64 0] 41 (0, 0)) := qkh
 have Qu : ((w2.alloc (.cells #[.int .i64 n, .slice au st.length capu, .slice av sd.length capv] 64)).alloc (.cells #[.int .i64 s.sh, .int .i64 s.cu] 66)).ownsRow w1.heap.size 2 1 (.slice au st.length capu) st.length (nums st) := (qoh HOu_2)
 have Qv : ((w2.alloc (.cells #[.int .i64 n, .slice au st.length capu, .slice av sd.length capv] 64)).alloc (.cells #[.int .i64 s.sh, .int .i64 s.cu] 66)).ownsRow w1.heap.size 2 1 (.slice av sd.length capv) sd.length (nums sd) := (qoh HOv_2)
 clear c0 f0 c1 f1 c2 f2
 have hnu0 := ne_low (k := w.heap.size) Qu (by omega)
 have hnu1 := ne_low (k := w.heap.size + 1) Qu (by omega)
 have hnu2 := ne_low (k := w.heap.size + 1 + 1) Qu (by omega)
 have hnv0 := ne_low (k := w.heap.size) Qv (by omega)
 have hnv1 := ne_low (k := w.heap.size + 1) Qv (by omega)
 have hnv2 := ne_low (k := w.heap.size + 1 + 1) Qv (by omega)
 refine region_slots 23 [18, 19, 20, 21, 22, 4] (fun g ac wc => sl ac 2 = .pointer (some ⟨w.heap.size, 0, none⟩) ∧
  sl ac 3 = .pointer (some ⟨w.heap.size + 1, 0, none⟩) ∧
  sl ac 5 = .pointer (some ⟨w.heap.size + 1 + 1, 0, none⟩) ∧
  sl ac 6 = .pointer (some ⟨k, 0, none⟩) ∧
  sl ac 7 = .pointer (some ⟨w2.heap.size, 0, none⟩) ∧
  sl ac 8 = .pointer (some ⟨w2.heap.size + 1, 0, none⟩) ∧
  sl ac 9 = .int .i64 y ∧
  (g 0 = true → (sl ac 18) = .agg #[.int .i64 n, .slice au st.length capu, .slice av sd.length capv]) ∧
  (g 1 = true → (sl ac 19) = .agg #[.int .i64 s.sh, .int .i64 s.cu]) ∧
  (g 2 = true → (sl ac 20) = .int .i64 y) ∧
  (g 3 = true → (sl ac 21) = .pointer (some ⟨k, 0, none⟩)) ∧
  (g 4 = true → ∃ f : Fig, (sl ac 22) = .agg #[.int .i64 f.d, .int .i64 f.t]) ∧
  (g 7 = true → (sl ac 4) = .int .i64 y) ∧
  Drawn w wc k ∧
  Src wc k c ∧
  wc.ownsRow w1.heap.size 2 1 (.slice au st.length capu) st.length (nums st) ∧
  wc.ownsRow w1.heap.size 2 1 (.slice av sd.length capv) sd.length (nums sd) ∧
  wc.heap[w2.heap.size]? = some (.cells #[.int .i64 n, .slice au st.length capu, .slice av sd.length capv] 64 (0, 0)) ∧
  wc.heap[w2.heap.size + 1]? = some (.cells #[.int .i64 s.sh, .int .i64 s.cu] 66 (0, 0)) ∧
  (g 5 = false → wc.heap[w.heap.size]? = some (.cells #[.int .i64 0, .slice none 0 0, .slice none 0 0] 64 (0, 0))) ∧
  (g 5 = true → wc.heap[w.heap.size]? = some (.cells #[.int .i64 n, .slice au st.length capu, .slice av sd.length capv] 64 (0, 0))) ∧
  (g 6 = false → wc.heap[w.heap.size + 1]? = some (.cells #[.int .i64 0, .int .i64 0] 66 (0, 0))) ∧
  (g 6 = true → wc.heap[w.heap.size + 1]? = some (.cells #[.int .i64 s.sh, .int .i64 s.cu] 66 (0, 0))) ∧
  (g 8 = false → wc.heap[w.heap.size + 1 + 1]? = some (.cells #[.int .i64 0, .int .i64 0] 41 (0, 0))) ∧
  (g 8 = true → ∃ m : Fig, wc.heap[w.heap.size + 1 + 1]? = some (.cells #[.int .i64 m.d, .int .i64 m.t] 41 (0, 0))) ∧
  (g 4 = true → g 3 = true) ∧
  (g 5 = true → g 0 = true) ∧
  (g 6 = true → g 1 = true) ∧
  (g 7 = true → g 2 = true) ∧
  (g 8 = true → g 4 = true)) (by kernel_rfl) (by kernel_rfl) rfl (by kernel_rfl) ?_ ?_ ?_
 · exact ⟨rfl, rfl, rfl, rfl, rfl, rfl, rfl, nofun, nofun, nofun, nofun, nofun, nofun, hD0.drew, hS0.drew, owns_later Qu (Later.refl _).drew, owns_later Qv (Later.refl _).drew, Q6, Q7, fun _ => Q0, nofun, fun _ => Q1, nofun, fun _ => Q2, nofun, nofun, nofun, nofun, nofun, nofun⟩
 · intro g ac wu hg ha hI
   obtain ⟨xi2, xi3, xi5, xi6, xi7, xi8, xi9, i0, i1, i2, i3, i4, i7, hD, hS, Ou, Ov, B6, B7, -, N0, -, N1, -, N2, -, -, -, -, -⟩ := hI
   obtain e0 := i0 (hg 0 (by simp))
   obtain e1 := i1 (hg 1 (by simp))
   obtain e2 := i2 (hg 2 (by simp))
   obtain e3 := i3 (hg 3 (by simp))
   obtain ⟨fd4, e4⟩ := i4 (hg 4 (by simp))
   obtain e7 := i7 (hg 7 (by simp))
   replace N0 := N0 (hg 5 (by simp))
   replace N1 := N1 (hg 6 (by simp))
   replace N2 := N2 (hg 8 (by simp))
   obtain ⟨mf, N2⟩ := N2
   simp only [putAll, e0, e1, e2, e3, e4, e7] at ha
   simp only [Act.put, List.setIfInBounds_toArray, List.set_cons_succ, List.set_cons_zero] at ha
   rw [ha]
   clear xi2 xi3 xi5 xi6 xi7 xi8 xi9 i0 i1 i2 i3 i4 i7 e0 e1 e2 e3 e4 e7 hg ha
   have hc0 := (blk_at N0).1
   have hz0 := (blk_at N0).2.2
   have hc1 := (blk_at N1).1
   have hz1' := (blk_at N1).2.2
   have hc2 := (blk_at N2).1
   have hz2' := (blk_at N2).2.2
   have HDu := Lib.hid hD
   have HUu := Lib.hid Ou
   have HVu := Lib.hid Ov
   clear hD hS Ou Ov B6 B7 N0 N1 N2
   go_wp2
   refine bodyPost_ret (v := .tuple #[.agg #[.int .i64 n, .slice au st.length capu, .slice av sd.length capv], .agg #[.int .i64 s.sh, .int .i64 s.cu], .int .i64 y, .agg #[.int .i64 mf.d, .int .i64 mf.t]]) (by simp [results, Try.results65, go_sem, hc0, hz0, hc1, hz1', hc2, hz2']) rfl ⟨n, _, _, st, sd, s, y, mf, rfl, owns_base HUu.out (by omega), owns_base HVu.out (by omega), hu5, hv5, Later.drawn (k := k) (Later.refl w) (by omega) HDu.out⟩
 · refine .cons ?_ (.cons ?_ (.cons ?_ (.cons ?_ (.cons ?_ (.cons ?_ (.cons ?_ (.cons ?_ (.cons ?_ .nil))))))))
   · refine qst fun g ac wc hn hk hr HI K' hK => ?_
     obtain ⟨xi2, xi3, xi5, xi6, xi7, xi8, xi9, -, -, -, -, -, -, hD, hS, Ou, Ov, B6, B7, R0, N0, R1, N1, R2, N2, m4_3, m5_0, m6_1, m7_2, m8_4⟩ := HI.out
     simp [Region.binds] at hr
     have zi7 := sl_get xi7 (by omega)
     obtain ⟨cb, fb, zb⟩ := blk_at B6
     go_simp
     obtain ⟨-, -, -, -, -, -, -, i0, i1, i2, i3, i4, i7, -⟩ := HI.out
     exact hK.out _ _ ⟨qB xi2, qB xi3, qB xi5, qB xi6, qB xi7, qB xi8, qB xi9, qP, (fun h => by rw [put_ne (by decide)]; exact i1 h), (fun h => by rw [put_ne (by decide)]; exact i2 h), (fun h => by rw [put_ne (by decide)]; exact i3 h), (fun h => by rw [put_ne (by decide)]; exact i4 h), (fun h => by rw [put_ne (by decide)]; exact i7 h), hD, hS, Ou, Ov, B6, B7, (fun h => (R0 h)), (fun h => N0 h), (fun h => (R1 h)), (fun h => N1 h), (fun h => (R2 h)), (fun h => N2 h), m4_3, (fun _ => rfl), m6_1, m7_2, m8_4⟩
   · refine qst fun g ac wc hn hk hr HI K' hK => ?_
     obtain ⟨xi2, xi3, xi5, xi6, xi7, xi8, xi9, -, -, -, -, -, -, hD, hS, Ou, Ov, B6, B7, R0, N0, R1, N1, R2, N2, m4_3, m5_0, m6_1, m7_2, m8_4⟩ := HI.out
     simp [Region.binds] at hr
     have zi8 := sl_get xi8 (by omega)
     obtain ⟨cb, fb, zb⟩ := blk_at B7
     go_simp
     obtain ⟨-, -, -, -, -, -, -, i0, i1, i2, i3, i4, i7, -⟩ := HI.out
     exact hK.out _ _ ⟨qB xi2, qB xi3, qB xi5, qB xi6, qB xi7, qB xi8, qB xi9, (fun h => by rw [put_ne (by decide)]; exact i0 h), qP, (fun h => by rw [put_ne (by decide)]; exact i2 h), (fun h => by rw [put_ne (by decide)]; exact i3 h), (fun h => by rw [put_ne (by decide)]; exact i4 h), (fun h => by rw [put_ne (by decide)]; exact i7 h), hD, hS, Ou, Ov, B6, B7, (fun h => (R0 h)), (fun h => N0 h), (fun h => (R1 h)), (fun h => N1 h), (fun h => (R2 h)), (fun h => N2 h), m4_3, m5_0, (fun _ => rfl), m7_2, m8_4⟩
   · refine qst fun g ac wc hn hk hr HI K' hK => ?_
     obtain ⟨xi2, xi3, xi5, xi6, xi7, xi8, xi9, -, -, -, -, -, -, hD, hS, Ou, Ov, B6, B7, R0, N0, R1, N1, R2, N2, m4_3, m5_0, m6_1, m7_2, m8_4⟩ := HI.out
     simp [Region.binds] at hr
     have zi9 := sl_get xi9 (by omega)
     go_simp
     obtain ⟨-, -, -, -, -, -, -, i0, i1, i2, i3, i4, i7, -⟩ := HI.out
     exact hK.out _ _ ⟨qB xi2, qB xi3, qB xi5, qB xi6, qB xi7, qB xi8, qB xi9, (fun h => by rw [put_ne (by decide)]; exact i0 h), (fun h => by rw [put_ne (by decide)]; exact i1 h), qP, (fun h => by rw [put_ne (by decide)]; exact i3 h), (fun h => by rw [put_ne (by decide)]; exact i4 h), (fun h => absurd (m7_2 h) (by rw [hk]; simp)), hD, hS, Ou, Ov, B6, B7, (fun h => (R0 h)), (fun h => N0 h), (fun h => (R1 h)), (fun h => N1 h), (fun h => (R2 h)), (fun h => N2 h), m4_3, m5_0, m6_1, (fun _ => rfl), m8_4⟩
   · refine qst fun g ac wc hn hk hr HI K' hK => ?_
     obtain ⟨xi2, xi3, xi5, xi6, xi7, xi8, xi9, -, -, -, -, -, -, hD, hS, Ou, Ov, B6, B7, R0, N0, R1, N1, R2, N2, m4_3, m5_0, m6_1, m7_2, m8_4⟩ := HI.out
     simp [Region.binds] at hr
     have zi6 := sl_get xi6 (by omega)
     go_simp
     obtain ⟨-, -, -, -, -, -, -, i0, i1, i2, i3, i4, i7, -⟩ := HI.out
     exact hK.out _ _ ⟨qB xi2, qB xi3, qB xi5, qB xi6, qB xi7, qB xi8, qB xi9, (fun h => by rw [put_ne (by decide)]; exact i0 h), (fun h => by rw [put_ne (by decide)]; exact i1 h), (fun h => by rw [put_ne (by decide)]; exact i2 h), qP, (fun h => absurd (m4_3 h) (by rw [hk]; simp)), (fun h => by rw [put_ne (by decide)]; exact i7 h), hD, hS, Ou, Ov, B6, B7, (fun h => (R0 h)), (fun h => N0 h), (fun h => (R1 h)), (fun h => N1 h), (fun h => (R2 h)), (fun h => N2 h), (fun _ => rfl), m5_0, m6_1, m7_2, m8_4⟩
   · refine qst fun g ac wc hn hk hr HI K' hK => ?_
     obtain ⟨xi2, xi3, xi5, xi6, xi7, xi8, xi9, -, -, -, i3, -, -, hD, hS, Ou, Ov, B6, B7, R0, N0, R1, N1, R2, N2, m4_3, m5_0, m6_1, m7_2, m8_4⟩ := HI.out
     simp [Region.binds] at hr
     have g3 : g 3 = true := (by simp [hr])
     obtain y3 := i3 g3
     have z3 := sl_get y3 (by omega)
     clear i3
     go_simp
     refine (w_l02Draw k c _ hS).mono ?_
     rintro e w4 ⟨f, rfl, hD4, hS4⟩
     obtain ⟨-, -, -, -, -, -, -, i0, i1, i2, i3, i4, i7, -⟩ := HI.out
     exact hK.out _ _ ⟨qB xi2, qB xi3, qB xi5, qB xi6, qB xi7, qB xi8, qB xi9, (fun h => by rw [put_ne (by decide)]; exact i0 h), (fun h => by rw [put_ne (by decide)]; exact i1 h), (fun h => by rw [put_ne (by decide)]; exact i2 h), (fun h => by rw [put_ne (by decide)]; exact i3 h), (fun _ => ⟨_, put_eq (by omega)⟩), (fun h => by rw [put_ne (by decide)]; exact i7 h), (hD.trans hD4), hS4, (hD4.owns Ou (by omega)), (hD4.owns Ov (by omega)), (hD4.keep B6 (by omega)), (hD4.keep B7 (by omega)), (fun h => (hD4.keep (R0 h) (by omega))), (fun h => (hD4.keep (N0 h) (by omega))), (fun h => (hD4.keep (R1 h) (by omega))), (fun h => (hD4.keep (N1 h) (by omega))), (fun h => (hD4.keep (R2 h) (by omega))), (fun h => absurd (m8_4 h) (by rw [hk]; simp)), (fun _ => g3), m5_0, m6_1, m7_2, (fun _ => rfl)⟩
   · refine qst fun g ac wc hn hk hr HI K' hK => ?_
     obtain ⟨xi2, xi3, xi5, xi6, xi7, xi8, xi9, i0, -, -, -, -, -, hD, hS, Ou, Ov, B6, B7, R0, N0, R1, N1, R2, N2, m4_3, m5_0, m6_1, m7_2, m8_4⟩ := HI.out
     simp [Region.binds] at hr
     have g0 : g 0 = true := (by simp [hr])
     obtain y0 := i0 g0
     have z0 := sl_get y0 (by omega)
     have zi2 := sl_get xi2 (by omega)
     have hst := hk
     have hbb := blk_at (R0 hst)
     have cb := hbb.1
     have fb := hbb.2.1
     have zb := hbb.2.2
     clear hbb
     clear i0
     go_simp
     obtain ⟨-, -, -, -, -, -, -, i0, i1, i2, i3, i4, i7, -⟩ := HI.out
     exact hK.out undef _ ⟨xi2, xi3, xi5, xi6, xi7, xi8, xi9, (fun h => i0 h), (fun h => i1 h), (fun h => i2 h), (fun h => i3 h), (fun h => i4 h), (fun h => i7 h), (((hD.setCell (by omega) _ _).setCell (by omega) _ _).setCell (by omega) _ _), (((hS.setLow (hAc.mono fun b hb => by omega) (by omega) _ _).setLow (hAc.mono fun b hb => by omega) (by omega) _ _).setLow (hAc.mono fun b hb => by omega) (by omega) _ _), (owns_setNe (owns_setNe (owns_setNe Ou (by assumption) _ _) (by assumption) _ _) (by assumption) _ _), (owns_setNe (owns_setNe (owns_setNe Ov (by assumption) _ _) (by assumption) _ _) (by assumption) _ _), (other_set (other_set (other_set B6 (by omega) _) (by omega) _) (by omega) _), (other_set (other_set (other_set B7 (by omega) _) (by omega) _) (by omega) _), (fun h => absurd h (by simp)), (fun _ => st_2_3 (st_1_3 (st_0_3 (R0 hk) _) _) _), (fun h => (other_set (other_set (other_set (R1 h) (by omega) _) (by omega) _) (by omega) _)), (fun h => (other_set (other_set (other_set (N1 h) (by omega) _) (by omega) _) (by omega) _)), (fun h => (other_set (other_set (other_set (R2 h) (by omega) _) (by omega) _) (by omega) _)), (fun h => by obtain ⟨q0, qq⟩ := N2 h; exact ⟨q0, (other_set (other_set (other_set qq (by omega) _) (by omega) _) (by omega) _)⟩), m4_3, (fun _ => g0), m6_1, m7_2, m8_4⟩
   · refine qst fun g ac wc hn hk hr HI K' hK => ?_
     obtain ⟨xi2, xi3, xi5, xi6, xi7, xi8, xi9, -, i1, -, -, -, -, hD, hS, Ou, Ov, B6, B7, R0, N0, R1, N1, R2, N2, m4_3, m5_0, m6_1, m7_2, m8_4⟩ := HI.out
     simp [Region.binds] at hr
     have g1 : g 1 = true := (by simp [hr])
     obtain y1 := i1 g1
     have z1 := sl_get y1 (by omega)
     have zi3 := sl_get xi3 (by omega)
     have hst := hk
     have hbb := blk_at (R1 hst)
     have cb := hbb.1
     have fb := hbb.2.1
     have zb := hbb.2.2
     clear hbb
     clear i1
     go_simp
     obtain ⟨-, -, -, -, -, -, -, i0, i1, i2, i3, i4, i7, -⟩ := HI.out
     exact hK.out undef _ ⟨xi2, xi3, xi5, xi6, xi7, xi8, xi9, (fun h => i0 h), (fun h => i1 h), (fun h => i2 h), (fun h => i3 h), (fun h => i4 h), (fun h => i7 h), ((hD.setCell (by omega) _ _).setCell (by omega) _ _), ((hS.setLow (hAc.mono fun b hb => by omega) (by omega) _ _).setLow (hAc.mono fun b hb => by omega) (by omega) _ _), (owns_setNe (owns_setNe Ou (by assumption) _ _) (by assumption) _ _), (owns_setNe (owns_setNe Ov (by assumption) _ _) (by assumption) _ _), (other_set (other_set B6 (by omega) _) (by omega) _), (other_set (other_set B7 (by omega) _) (by omega) _), (fun h => (other_set (other_set (R0 h) (by omega) _) (by omega) _)), (fun h => (other_set (other_set (N0 h) (by omega) _) (by omega) _)), (fun h => absurd h (by simp)), (fun _ => st_1_2 (st_0_2 (R1 hk) _) _), (fun h => (other_set (other_set (R2 h) (by omega) _) (by omega) _)), (fun h => by obtain ⟨q0, qq⟩ := N2 h; exact ⟨q0, (other_set (other_set qq (by omega) _) (by omega) _)⟩), m4_3, m5_0, (fun _ => g1), m7_2, m8_4⟩
   · refine qst fun g ac wc hn hk hr HI K' hK => ?_
     obtain ⟨xi2, xi3, xi5, xi6, xi7, xi8, xi9, -, -, i2, -, -, -, hD, hS, Ou, Ov, B6, B7, R0, N0, R1, N1, R2, N2, m4_3, m5_0, m6_1, m7_2, m8_4⟩ := HI.out
     simp [Region.binds] at hr
     have g2 : g 2 = true := (by simp [hr])
     obtain y2 := i2 g2
     have z2 := sl_get y2 (by omega)
     clear i2
     go_simp
     obtain ⟨-, -, -, -, -, -, -, i0, i1, i2, i3, i4, i7, -⟩ := HI.out
     exact hK.out _ _ ⟨qB xi2, qB xi3, qB xi5, qB xi6, qB xi7, qB xi8, qB xi9, (fun h => by rw [put_ne (by decide)]; exact i0 h), (fun h => by rw [put_ne (by decide)]; exact i1 h), (fun h => by rw [put_ne (by decide)]; exact i2 h), (fun h => by rw [put_ne (by decide)]; exact i3 h), (fun h => by rw [put_ne (by decide)]; exact i4 h), qP, hD, hS, Ou, Ov, B6, B7, (fun h => (R0 h)), (fun h => N0 h), (fun h => (R1 h)), (fun h => N1 h), (fun h => (R2 h)), (fun h => N2 h), m4_3, m5_0, m6_1, (fun _ => g2), m8_4⟩
   · refine qst fun g ac wc hn hk hr HI K' hK => ?_
     obtain ⟨xi2, xi3, xi5, xi6, xi7, xi8, xi9, -, -, -, -, i4, -, hD, hS, Ou, Ov, B6, B7, R0, N0, R1, N1, R2, N2, m4_3, m5_0, m6_1, m7_2, m8_4⟩ := HI.out
     simp [Region.binds] at hr
     have g4 : g 4 = true := (by simp [hr])
     obtain ⟨f4, y4⟩ := i4 g4
     have z4 := sl_get y4 (by omega)
     have zi5 := sl_get xi5 (by omega)
     have hst := hk
     have hbb := blk_at (R2 hst)
     have cb := hbb.1
     have fb := hbb.2.1
     have zb := hbb.2.2
     clear hbb
     clear i4
     go_simp
     obtain ⟨-, -, -, -, -, -, -, i0, i1, i2, i3, i4, i7, -⟩ := HI.out
     exact hK.out undef _ ⟨xi2, xi3, xi5, xi6, xi7, xi8, xi9, (fun h => i0 h), (fun h => i1 h), (fun h => i2 h), (fun h => i3 h), (fun h => i4 h), (fun h => i7 h), ((hD.setCell (by omega) _ _).setCell (by omega) _ _), ((hS.setLow (hAc.mono fun b hb => by omega) (by omega) _ _).setLow (hAc.mono fun b hb => by omega) (by omega) _ _), (owns_setNe (owns_setNe Ou (by assumption) _ _) (by assumption) _ _), (owns_setNe (owns_setNe Ov (by assumption) _ _) (by assumption) _ _), (other_set (other_set B6 (by omega) _) (by omega) _), (other_set (other_set B7 (by omega) _) (by omega) _), (fun h => (other_set (other_set (R0 h) (by omega) _) (by omega) _)), (fun h => (other_set (other_set (N0 h) (by omega) _) (by omega) _)), (fun h => (other_set (other_set (R1 h) (by omega) _) (by omega) _)), (fun h => (other_set (other_set (N1 h) (by omega) _) (by omega) _)), (fun h => absurd h (by simp)), (fun _ => ⟨_, st_1_2 (st_0_2 (R2 hk) _) _⟩), m4_3, m5_0, m6_1, m7_2, (fun _ => g4)⟩
end Go.Proofs.Ytkoojngonldcbaa
