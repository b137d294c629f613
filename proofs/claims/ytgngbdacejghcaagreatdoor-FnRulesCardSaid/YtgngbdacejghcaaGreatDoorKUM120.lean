/- DERIVED. Walks: points on all scales; the draws of settings. -/
import Derived.Test.YtgngbdacejghcaaGreatDoorKUM119
import Derived.Test.YtgngbdacejghcaaGreatDoorKUM19
import Derived.Test.YtgngbdacejghcaaGreatDoorKUM108
import Derived.Test.YtgngbdacejghcaaGreatDoorKUM103
namespace Go.Proofs.YtgngbdacejghcaaGreatDoor
set_option linter.unusedVariables false
set_option linter.unusedSimpArgs false
open Go.RowKit
set_option maxRecDepth 100000
theorem w_implPosition5 (d t : Int) (h1 : 1000 ≤ d) (h2 : d ≤ 9999) (w : World) :
 Calls Tryz.prog 97 #[.int .i64 5, .agg #[.int .i64 d, .int .i64 t]] w fun e w' => e = .returned (.agg #[.int .i64 (posI 5 ⟨d, t⟩).lo, .int .i64 (posI 5 ⟨d, t⟩).hi]) ∧ Later w w' := by
 have wa : IntKind.i64.wrap (d - 1000) = d - 1000 := wrap_same (by omega) (by omega)
 have wb : IntKind.i64.wrap ((d - 1000) * 1048576) = (d - 1000) * 1048576 := wrap_same (by omega) (by omega)
 have HP := Lib.hid (show posI 5 ⟨d, t⟩ = ⟨(d - 1000) * 1048576 / 9000, cdiv ((d - 1000) * 1048576) 9000⟩ from rfl)
 go_enter Tryz.func97, Tryz.ntmps97
 go_wp2_with fail
 refine (w_down _ _ (by decide) (by decide) (by omega) (by omega) _).mono ?_
 rintro e w1 ⟨rfl, rfl⟩
 go_wp2_with fail
 refine (w_up _ _ (by decide) (by decide) (by omega) (by omega) _).mono ?_
 rintro e w2 ⟨rfl, rfl⟩
 go_wp2
 refine bodyPost_ret (v := .agg #[.int .i64 ((d - 1000) * 1048576 / 9000), .int .i64 (cdiv ((d - 1000) * 1048576) 9000)]) (by simp [results, Tryz.results97, go_sem]) rfl ⟨by rw [HP.out], qla⟩
theorem w_implPoint5 (d t : Int) (h1 : 1000 ≤ d) (h2 : d ≤ 9999) (w : World) :
 Calls Tryz.prog 49 #[.int .i64 5, .agg #[.int .i64 d, .int .i64 t]] w fun e w' => e = .returned (.int .i64 (ptF 5 ⟨d, t⟩)) ∧ Later w w' := by
 have hb := posI_bd (s := 5) (f := ⟨d, t⟩) h1 h2
 have HP := Lib.hid (show ptF 5 ⟨d, t⟩ = ((posI 5 ⟨d, t⟩).lo + (posI 5 ⟨d, t⟩).hi) / 2 from rfl)
 obtain ⟨X, hX⟩ : ∃ X, (posI 5 ⟨d, t⟩).lo = X := ⟨_, rfl⟩
 obtain ⟨Y, hY⟩ : ∃ Y, (posI 5 ⟨d, t⟩).hi = Y := ⟨_, rfl⟩
 rw [hX, hY] at hb HP
 obtain ⟨x1, x2, y1, y2⟩ := hb
 have HX := Lib.hid hX
 have HY := Lib.hid hY
 clear hX hY
 go_enter Tryz.func49, Tryz.ntmps49
 go_wp2_with fail
 refine (w_implPosition5 _ _ h1 h2 _).mono ?_
 rintro e w1 ⟨rfl, hL⟩
 rw [HX.out, HY.out]
 go_wp2_with fail
 refine (w_down _ _ (by decide) (by decide) (by omega) (by omega) _).mono ?_
 rintro e w2 ⟨rfl, rfl⟩
 go_wp2
 go_ret
 exact ⟨by rw [HP.out]; rfl, qla⟩
theorem w_implPointA (s d t : Int) (hs : 0 ≤ s) (hs2 : s ≤ 5) (h1 : 1000 ≤ d) (h2 : d ≤ 9999) (h3 : -100 ≤ t) (h4 : t ≤ 100) (w : World) :
 Calls Tryz.prog 49 #[.int .i64 s, .agg #[.int .i64 d, .int .i64 t]] w fun e w' => e = .returned (.int .i64 (ptF s ⟨d, t⟩)) ∧ Later w w' := by
 by_cases h : s = 5
 · subst h; exact w_implPoint5 d t h1 h2 w
 · exact w_implPoint s d t hs (by omega) h1 h2 h3 h4 w
def tzF (f : Fig) : Bool := f.t == 0
def csC (s : Int) (l : List Fig) : Int := if l.all isFig then (if isScale s then (if s = 5 then (if l.all tzF then 0 else 2) else 0) else 2) else 1
set_option maxHeartbeats 1000000 in
theorem w_checkShown (s : Int) (v : Value) (l : List Fig) (w : World) (h : IsFigs w v l) :
 Calls Tryz.prog 76 #[.int .i64 s, v] w fun e w' => e = .returned (.int .i64 (csC s l)) ∧ Later w w' := by
 have HV := Lib.hid h
 obtain ⟨hxl1, hn1, a1, cap1, rfl, hcap1, hmax1, hrow1⟩ := h
 have HR1 := Lib.hid hrow1
 clear hrow1 hxl1
 cases h1 : l.all isFig
 · have HF := Lib.hid (show csC s l = 1 from by unfold csC; rw [h1]; rfl)
   have H1 := Lib.hid h1
   clear h1
   go_enter Tryz.func76, Tryz.ntmps76
   go_wp2_with fail
   refine (w_areFigures _ _ _ HV.out).mono ?_
   rintro e w1 ⟨rfl, hL1⟩
   rw [H1.out]
   go_wp2
   go_ret
   exact ⟨by rw [HF.out]; rfl, hL1⟩
 cases h2 : isScale s
 · have HF := Lib.hid (show csC s l = 2 from by unfold csC; rw [h1, h2]; rfl)
   have H1 := Lib.hid h1
   have H2 := Lib.hid h2
   clear h1 h2
   go_enter Tryz.func76, Tryz.ntmps76
   go_wp2_with fail
   refine (w_areFigures _ _ _ HV.out).mono ?_
   rintro e w1 ⟨rfl, hL1⟩
   rw [H1.out]
   go_wp2_with fail
   refine (w_implIsScale _ _).mono ?_
   rintro e w0 ⟨rfl, rfl⟩
   rw [H2.out]
   go_wp2
   go_ret
   exact ⟨by rw [HF.out]; rfl, hL1⟩
 have HG := Lib.hid (show csC s l = if s = 5 then (if l.all tzF then 0 else 2) else 0 from by unfold csC; rw [h1, h2]; rfl)
 have H1 := Lib.hid h1
 have H2 := Lib.hid h2
 clear h1 h2
 go_enter Tryz.func76, Tryz.ntmps76
 go_wp2_with fail
 refine (w_areFigures _ _ _ HV.out).mono ?_
 rintro e w1 ⟨rfl, hL1⟩
 rw [H1.out]
 go_wp2_with fail
 refine (w_implIsScale _ _).mono ?_
 rintro e w0 ⟨rfl, rfl⟩
 rw [H2.out]
 go_wp2
 go_loopw [15] (fun i wr => ∃ k : Nat, k ≤ l.length ∧ i = .int .i64 k ∧ Later w wr ∧ Hid (s = 5 → (l.take k).all tzF = true)) (fun i _ => l.length - (intOf i).toNat)
 case atStart => exact ⟨0, Nat.zero_le _, rfl, hL1, by simp [Hid]⟩
 case round =>
  obtain ⟨k, hk, rfl, hL, HE⟩ := hrel
  by_cases hlt : k < l.length
  · obtain ⟨b1, off1, rfl, hr1⟩ := HR1.out (by omega)
    obtain ⟨t, ht1⟩ := get_ex (l := l) (k := k) (by omega)
    have HT1 := Lib.hid ht1
    obtain ⟨c1_0, c1_1⟩ := (hr1.later hL).fig ht1
    clear ht1
    by_cases h5 : s = 5
    · subst h5
      by_cases hz : t.t = 0
      · have hzb : (t.t != 0) = false := by simpa using hz
        have hn := all_snoc HT1.out (HE.out rfl) (show tzF t = true by simp [tzF, hz])
        have HN := Lib.hid hn
        clear hn hz
        go_wp2
        go_roundw
        case rel => exact ⟨k + 1, by omega, by go_num, qla, fun _ => HN.out⟩
        case measure => simp [intOf]; omega
      · have hzb : (t.t != 0) = true := by simpa using hz
        have hf := all_false (p := tzF) HT1.out (by simpa [tzF] using hz)
        have HF := Lib.hid (show csC 5 l = 2 from by rw [HG.out, if_pos rfl, hf]; rfl)
        clear hf hz
        go_wp2
        go_ret
        exact ⟨by rw [HF.out]; rfl, qla⟩
    · have hsb : (s == 5) = false := by simpa using h5
      go_wp2
      go_roundw
      case rel => exact ⟨k + 1, by omega, by go_num, qla, fun e => absurd e h5⟩
      case measure => simp [intOf]; omega
  · have HF := Lib.hid (show csC s l = 0 from by
     rw [HG.out]
     split
     · rename_i h5
       have := HE.out h5
       rw [take_eq_all (by omega)] at this
       rw [this]; rfl
     · rfl)
    go_wp2
    go_ret
    exact ⟨by rw [HF.out]; rfl, hL⟩
theorem csC_one (s : Int) (f : Fig) : csC s [f] = pcC s f := by
 unfold csC pcC tzF
 cases h1 : isFig f <;> cases h2 : isScale s <;> by_cases h5 : s = 5 <;> by_cases h0 : f.t = 0 <;> simp_all
theorem pcC_0 {s : Int} {f : Fig} (h : pcC s f = 0) : isFig f = true ∧ isScale s = true := by
 unfold pcC at h
 cases h1 : isFig f <;> cases h2 : isScale s <;> rw [h1, h2] at h <;> simp at h ⊢
set_option maxHeartbeats 1000000 in
theorem w_implPointOf (s d t : Int) (w : World) :
 Calls Tryz.prog 22 #[.int .i64 s, .agg #[.int .i64 d, .int .i64 t]] w fun e w' => e = .returned (.tuple #[.int .i64 (pcV s ⟨d, t⟩), .int .i64 (pcC s ⟨d, t⟩)]) ∧ Later w w' := by
 obtain ⟨k, hk⟩ : ∃ k, pcC s ⟨d, t⟩ = k := ⟨_, rfl⟩
 by_cases hk0 : k = 0
 rotate_left
 · have HF := Lib.hid (show pcV s ⟨d, t⟩ = 0 ∧ pcC s ⟨d, t⟩ = k from ⟨by unfold pcV; rw [hk, if_neg hk0], hk⟩)
   have HC := Lib.hid (show csC s [⟨d, t⟩] = k from by rw [csC_one]; exact hk)
   have hkb : (k != 0) = true := by simpa using hk0
   clear hk
   go_enter Tryz.func22, Tryz.ntmps22
   go_wp2_with fail
   refine (w_checkShown _ _ [⟨d, t⟩] _ (figs_lit [⟨d, t⟩] (heap_alloc_new' _ _ (by simp)) rfl (by simp))).mono ?_
   rintro e w1 ⟨rfl, hL1⟩
   rw [HC.out]
   have HLw1 := Lib.hid ((((Later.refl w).alloc _).alloc _).trans hL1)
   obtain ⟨K0, -⟩ := kept2 hL1
   have HK0_1 := Lib.hid K0
   clear K0 hL1
   obtain ⟨c0, f0, z0⟩ := blk_at HK0_1.out
   go_wp2
   go_ret2
   exact ⟨by rw [HF.out.1, HF.out.2]; rfl, by have hLw := HLw1.out; exact qla⟩
 subst hk0
 obtain ⟨g1, g2⟩ := pcC_0 hk
 obtain ⟨s1, s2⟩ := isScale_bd g2
 have hfb := isFig_true g1
 simp only at hfb
 obtain ⟨f1, f2, f3, f4⟩ := hfb
 obtain ⟨p, hp⟩ : ∃ y, ptF s ⟨d, t⟩ = y := ⟨_, rfl⟩
 have HF := Lib.hid (show pcV s ⟨d, t⟩ = p ∧ pcC s ⟨d, t⟩ = 0 from ⟨by unfold pcV; rw [hk, if_pos rfl, hp], hk⟩)
 have HP := Lib.hid hp
 have HC := Lib.hid (show csC s [⟨d, t⟩] = 0 from by rw [csC_one]; exact hk)
 clear hk hp g1 g2
 go_enter Tryz.func22, Tryz.ntmps22
 go_wp2_with fail
 refine (w_checkShown _ _ [⟨d, t⟩] _ (figs_lit [⟨d, t⟩] (heap_alloc_new' _ _ (by simp)) rfl (by simp))).mono ?_
 rintro e w1 ⟨rfl, hL1⟩
 rw [HC.out]
 have HLw1 := Lib.hid ((((Later.refl w).alloc _).alloc _).trans hL1)
 obtain ⟨K0, -⟩ := kept2 hL1
 have HK0_1 := Lib.hid K0
 clear K0 hL1
 obtain ⟨c0, f0, z0⟩ := blk_at HK0_1.out
 go_wp2_with fail
 refine (w_implPointA s d t s1 s2 f1 f2 (by omega) (by omega) _).mono ?_
 rintro e w2 ⟨rfl, hL2⟩
 rw [HP.out]
 clear c0 f0 z0
 have HLw2 := Lib.hid (HLw1.out.trans hL2)
 have HK0_2 := Lib.hid (hL2.keep HK0_1.out)
 clear hL2
 obtain ⟨c0, f0, z0⟩ := blk_at HK0_2.out
 go_wp2
 go_ret2
 exact ⟨by rw [HF.out.1, HF.out.2]; rfl, by have hLw := HLw2.out; exact qla⟩
end Go.Proofs.YtgngbdacejghcaaGreatDoor
