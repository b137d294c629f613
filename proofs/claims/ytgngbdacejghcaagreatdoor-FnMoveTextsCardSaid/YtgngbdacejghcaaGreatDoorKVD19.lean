/- DERIVED. Walks: figures read from text, the program's. -/
import Derived.Lib.IndexLaws
import Derived.Lib.CountLaws
import Derived.Lib.Replace
import Derived.Test.YtgngbdacejghcaaGreatDoorKVD18
import Derived.Test.YtgngbdacejghcaaGreatDoorKVD20
namespace Go.Proofs.YtgngbdacejghcaaGreatDoor
set_option linter.unusedVariables false
set_option linter.unusedSimpArgs false
open Go.RowKit
set_option maxRecDepth 100000
set_option linter.unusedVariables false
theorem dig_ne {x y : UInt8} (h : 48 ≤ x.toNat ∧ x.toNat ≤ 57) (hy : y.toNat < 48 ∨ 57 < y.toNat) : (x == y) = false := by
 rw [beq_eq_false_iff_ne]
 intro e
 subst e
 omega
theorem cut_fig {a b c d : UInt8} {tl : List UInt8} (h : ∀ x ∈ [a, b, c, d], 48 ≤ x.toNat ∧ x.toNat ≤ 57) : Lib.cut (a :: 46 :: b :: c :: d :: 101 :: tl) [101] = ([a, 46, b, c, d], tl, true) := by
 have n101 : (101 : UInt8).toNat = 101 := rfl
 have ha := dig_ne (y := 101) (h a (by simp)) (by omega)
 have hb := dig_ne (y := 101) (h b (by simp)) (by omega)
 have hc := dig_ne (y := 101) (h c (by simp)) (by omega)
 have hd := dig_ne (y := 101) (h d (by simp)) (by omega)
 have he : ((46 : UInt8) == 101) = false := by decide
 have hi : Lib.index (a :: 46 :: b :: c :: d :: 101 :: tl) [101] = 5 := by
  rw [Lib.index_one]
  simp [Lib.indexByte, ha, hb, hc, hd, he]
 unfold Lib.cut
 rw [hi]
 rfl
theorem rep_fig {a b c d : UInt8} (h : ∀ x ∈ [a, b, c, d], 48 ≤ x.toNat ∧ x.toNat ≤ 57) : Lib.replace [a, 46, b, c, d] [46] [] 1 = [a, b, c, d] := by
 have n46 : (46 : UInt8).toNat = 46 := rfl
 have ha := dig_ne (y := 46) (h a (by simp)) (by omega)
 have hi : Lib.index [a, 46, b, c, d] [46] = (1 : Nat) := by
  rw [Lib.index_one]
  simp [Lib.indexByte, ha]
 have hc : Lib.count [a, 46, b, c, d] [46] = 1 + _ := Lib.countB_hit ⟨#[a, 46, b, c, d]⟩ ⟨#[46]⟩ 1 (by show 1 ≤ 1; omega) hi
 have hk : Lib.replaceNum [a, 46, b, c, d] [46] 1 = 1 := by
  unfold Lib.replaceNum
  rw [if_neg (by omega)]
  rfl
 unfold Lib.replace
 rw [hk, if_neg (by decide), Lib.replaceK_hit _ _ 0 _ 1 hi]
 rfl
theorem rep_len (l : List UInt8) : (Lib.replace l [46] [] 1).length ≤ l.length := by
 have hk : Lib.replaceNum l [46] 1 ≤ 1 := by
  unfold Lib.replaceNum
  split <;> omega
 unfold Lib.replace
 split
 · omega
 · generalize Lib.replaceNum l [46] 1 = k at hk
   match k, hk with
   | 0, _ => simp [Lib.replaceK]
   | 1, _ =>
    unfold Lib.replaceK
    split
    · omega
    · simp [Lib.replaceK]
      omega
theorem cut_len (l : List UInt8) : (Lib.cut l [101]).1.length ≤ l.length ∧ (Lib.cut l [101]).2.1.length ≤ l.length := by
 unfold Lib.cut
 split
 · simp; omega
 · simp
def hdF (s : List UInt8) : List UInt8 := Lib.replace (Lib.cut s [101]).1 [46] [] 1
def tlF (s : List UInt8) : List UInt8 := (Lib.cut s [101]).2.1
theorem rd_impl {s : List UInt8} (h : (Lib.cut s [101]).2.2 = false ∨ numB (hdF s) = false ∨ numB (tlF s) = false ∨ isFig ⟨numV (hdF s), numV (tlF s)⟩ = false ∨ figT ⟨numV (hdF s), numV (tlF s)⟩ ≠ s) : rdF s = none := rdF_none fun f hf e => by
 obtain ⟨a, b, c, d, e1, e2, e3, e4⟩ := fig_shape hf
 obtain ⟨g1, g2, g3, g4⟩ := isFig_true hf
 rw [e4] at e
 have hcut := cut_fig (tl := Lib.itoa f.t) e3
 rw [e] at hcut
 have h1 : hdF s = Lib.itoa f.d := by unfold hdF; rw [hcut, rep_fig e3, e1]
 have h2 : tlF s = Lib.itoa f.t := by unfold tlF; rw [hcut]
 have n1 : numI (hdF s) = some f.d := numI_some.2 ⟨by omega, by omega, h1⟩
 have n2 : numI (tlF s) = some f.t := numI_some.2 ⟨by omega, by omega, h2⟩
 have v1 : numV (hdF s) = f.d := by simp [numV, n1]
 have v2 : numV (tlF s) = f.t := by simp [numV, n2]
 rcases h with h | h | h | h | h
 · rw [hcut] at h; cases h
 · simp [numB, n1] at h
 · simp [numB, n2] at h
 · rw [v1, v2] at h
   rw [show (⟨f.d, f.t⟩ : Fig) = f from rfl, hf] at h
   cases h
 · rw [v1, v2] at h
   exact h (by rw [show (⟨f.d, f.t⟩ : Fig) = f from rfl, e4, e])
set_option maxHeartbeats 2000000 in
theorem w_readFigure (s : List UInt8) (hs : s.length ≤ 1048576) (w : World) (he : Env w) :
 Calls Tryz.prog 132 #[sv s] w fun e w' => e = .returned (.tuple #[.agg #[.int .i64 (rfF s).d, .int .i64 (rfF s).t], .bool (rfB s)]) ∧ Later w w' := by
 have HE := Lib.hid he
 clear he
 obtain ⟨hl1, hl2⟩ := cut_len s
 have hl3 := rep_len (Lib.cut s [101]).1
 obtain ⟨H, hH⟩ : ∃ x, (Lib.cut s [101]).1 = x := ⟨_, rfl⟩
 obtain ⟨TL, hT⟩ : ∃ x, (Lib.cut s [101]).2.1 = x := ⟨_, rfl⟩
 obtain ⟨ok, hK⟩ : ∃ x, (Lib.cut s [101]).2.2 = x := ⟨_, rfl⟩
 obtain ⟨RP, hRP⟩ : ∃ x, Lib.replace H [46] [] 1 = x := ⟨_, rfl⟩
 rw [hH] at hl1 hl3
 rw [hT] at hl2
 rw [hRP] at hl3
 have EH := Lib.hid hH
 have ET := Lib.hid hT
 have EK := Lib.hid hK
 have ER := Lib.hid hRP
 have EHd := Lib.hid (show hdF s = RP from by unfold hdF; rw [hH, hRP])
 have ETl := Lib.hid (show tlF s = TL from by unfold tlF; rw [hT])
 have L1 : Hid (RP.length ≤ 1048576) := Lib.hid (by omega)
 have L2 : Hid (TL.length ≤ 1048576) := Lib.hid (by omega)
 have L3 : Hid (H.length ≤ 1048576) := Lib.hid (by omega)
 clear hH hT hK hRP hl1 hl2 hl3
 obtain ⟨h0, m, hm⟩ := HE.out.mx
 go_enter Tryz.func132, Tryz.ntmps132
 go_wp2_with fail
 refine (Tryz.strings_Cut ⟨s.toArray⟩ ⟨#[101]⟩ m _ (by show s.toArray.size < _; simp; omega) ((((Later.refl w).alloc _).cell (p := ⟨1, 0, none⟩) h0).trans hm)).mono ?_
 rintro e w1 ⟨rfl, nd, rfl⟩
 rw [show Lib.cut (ByteArray.mk s.toArray).data.toList (ByteArray.mk #[101]).data.toList = Lib.cut s [101] from rfl, EH.out, ET.out, EK.out]
 obtain ⟨w1, hw1⟩ : ∃ x, (w.alloc (.cells #[.int .i64 0, .int .i64 0] 30)).drewN nd = x := ⟨_, rfl⟩
 have HW1 : Later w w1 := by rw [← hw1]; exact ((Later.refl w).alloc _).drewN nd
 have K1 : w1.heap[w.heap.size]? = some (.cells #[.int .i64 0, .int .i64 0] 30 (0, 0)) := by rw [← hw1]; exact heap_alloc_new _ _
 rw [hw1]
 have hz1 := HW1.size
 clear hw1
 have hm1 := (HW1.cell (p := ⟨1, 0, none⟩) h0).trans hm
 go_wp2_with fail
 refine (Tryz.strings_Replace ⟨H.toArray⟩ ⟨#[46]⟩ ⟨#[]⟩ 1 m _ (by show H.toArray.size < _; have := L3.out; simp; omega) hm1 (by show 1 ≤ 1; omega) (by
  show H.toArray.size + _ * 0 ≤ _
  have := L3.out
  simp
  omega)).mono ?_
 rintro e w2 ⟨rfl, hL2⟩
 rw [show Lib.replace (ByteArray.mk H.toArray).data.toList (ByteArray.mk #[46]).data.toList (ByteArray.mk #[]).data.toList 1 = Lib.replace H [46] [] 1 from rfl, ER.out]
 have HW2 : Later w w2 := HW1.trans hL2
 have K2 := Later.keep (show Later w1 w2 from hL2) K1
 clear hL2 K1 hm1
 go_wp2_with fail
 refine (w_number RP L1.out _ (HE.out.later HW2)).mono ?_
 rintro e w3 ⟨rfl, hL3⟩
 obtain ⟨v1, hv1⟩ : ∃ x, numV RP = x := ⟨_, rfl⟩
 obtain ⟨b1, hb1⟩ : ∃ x, numB RP = x := ⟨_, rfl⟩
 rw [hv1, hb1]
 have EV1 := Lib.hid hv1
 have EB1 := Lib.hid hb1
 have HW3 := HW2.trans hL3
 have K3 := hL3.keep K2
 clear hL3 K2 hv1 hb1
 go_wp2_with fail
 refine (w_number TL L2.out _ (HE.out.later HW3)).mono ?_
 rintro e w4 ⟨rfl, hL4⟩
 obtain ⟨v2, hv2⟩ : ∃ x, numV TL = x := ⟨_, rfl⟩
 obtain ⟨b2, hb2⟩ : ∃ x, numB TL = x := ⟨_, rfl⟩
 rw [hv2, hb2]
 have EV2 := Lib.hid hv2
 have EB2 := Lib.hid hb2
 have HW4 := HW3.trans hL4
 have K4 := Lib.hid (hL4.keep K3)
 have hz4 := HW4.size
 clear hL4 K3 hv2 hb2 hm
 obtain ⟨c2, f2, z2⟩ := blk_at K4.out
 cases ok
 · have HRD := Lib.hid (rd_impl (s := s) (.inl EK.out))
   go_wp2
   refine bodyPost_ret (v := .tuple #[.agg #[.int .i64 0, .int .i64 0], .bool false]) (by simp [results, Tryz.results132, go_sem, c2, z2]) rfl ⟨?_, qla⟩
   rw [(rf_no HRD.out).1, (rf_no HRD.out).2.1]
 cases b1
 · have HRD := Lib.hid (rd_impl (s := s) (.inr (.inl (by rw [EHd.out]; exact EB1.out))))
   go_wp2
   refine bodyPost_ret (v := .tuple #[.agg #[.int .i64 0, .int .i64 0], .bool false]) (by simp [results, Tryz.results132, go_sem, c2, z2]) rfl ⟨?_, qla⟩
   rw [(rf_no HRD.out).1, (rf_no HRD.out).2.1]
 cases b2
 · have HRD := Lib.hid (rd_impl (s := s) (.inr (.inr (.inl (by rw [ETl.out]; exact EB2.out)))))
   go_wp2
   refine bodyPost_ret (v := .tuple #[.agg #[.int .i64 0, .int .i64 0], .bool false]) (by simp [results, Tryz.results132, go_sem, c2, z2]) rfl ⟨?_, qla⟩
   rw [(rf_no HRD.out).1, (rf_no HRD.out).2.1]
 cases hr : isFig ⟨v1, v2⟩
 all_goals
  have HR := Lib.hid hr
  clear hr
  go_wp2_with fail
  refine (w_implIsFigure v1 v2 _).mono ?_
  rintro e w5 ⟨rfl, hL5⟩
  rw [HR.out]
  have HW5 := (HW4.alloc _).trans hL5
  have hz5 := hL5.size
  simp only [World.size_alloc] at hz5
  have K5 := Lib.hid (hL5.keep (heap_alloc_old _ _ K4.out))
  have K7 := Lib.hid (hL5.keep (heap_alloc_new _ _))
  clear hL5 c2 f2 z2
  obtain ⟨c2, f2, z2⟩ := blk_at K5.out
  obtain ⟨c7, f7, z7⟩ := blk_at K7.out
 · have HRD := Lib.hid (rd_impl (s := s) (.inr (.inr (.inr (.inl (by rw [EHd.out, ETl.out, EV1.out, EV2.out]; exact HR.out))))))
   go_wp2
   refine bodyPost_ret (v := .tuple #[.agg #[.int .i64 0, .int .i64 0], .bool false]) (by simp [results, Tryz.results132, go_sem, c2, z2]) rfl ⟨?_, qla⟩
   rw [(rf_no HRD.out).1, (rf_no HRD.out).2.1]
 · obtain ⟨g1, g2, g3, g4⟩ := isFig_true HR.out
   simp only at g1 g2 g3 g4
   obtain ⟨F, hF⟩ : ∃ x, figT ⟨v1, v2⟩ = x := ⟨_, rfl⟩
   have EF := Lib.hid hF
   go_wp2_with fail
   refine (w_figureText ⟨v1, v2⟩ g1 g2 (by simp only; omega) (by simp only; omega) _ (HE.out.later HW5).tab).mono ?_
   rintro e w6 ⟨rfl, hL6⟩
   rw [EF.out]
   have HW6 := HW5.trans hL6
   have hz6 := hL6.size
   have K8 := Lib.hid (hL6.keep K5.out)
   have K9 := Lib.hid (hL6.keep K7.out)
   clear hL6 c2 f2 z2 c7 f7 z7 hF
   obtain ⟨c2, f2, z2⟩ := blk_at K8.out
   obtain ⟨c7, f7, z7⟩ := blk_at K9.out
   by_cases hq : F = s
   · have hqb : (F == s) = true := by simpa using hq
     have HRD := Lib.hid (show rdF s = some ⟨v1, v2⟩ from rdF_some HR.out (by rw [EF.out, hq]))
     clear hq
     go_wp2
     refine bodyPost_ret (v := .tuple #[.agg #[.int .i64 v1, .int .i64 v2], .bool true]) (by simp [results, Tryz.results132, go_sem, c2, z2]) rfl ⟨?_, qla⟩
     rw [(rf_yes HRD.out).1, (rf_yes HRD.out).2.1]
   · have hqb : (F == s) = false := by simpa using hq
     have HRD := Lib.hid (rd_impl (s := s) (.inr (.inr (.inr (.inr (by rw [EHd.out, ETl.out, EV1.out, EV2.out, EF.out]; exact hq))))))
     clear hq
     go_wp2
     refine bodyPost_ret (v := .tuple #[.agg #[.int .i64 0, .int .i64 0], .bool false]) (by simp [results, Tryz.results132, go_sem, c2, z2]) rfl ⟨?_, qla⟩
     rw [(rf_no HRD.out).1, (rf_no HRD.out).2.1]
end Go.Proofs.YtgngbdacejghcaaGreatDoor
