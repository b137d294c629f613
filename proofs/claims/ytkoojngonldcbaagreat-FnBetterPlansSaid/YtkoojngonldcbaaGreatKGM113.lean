/- DERIVED. Walks: the draws of rules with chains. -/
import Derived.Test.YtkoojngonldcbaaGreatKGM107
import Derived.Test.YtkoojngonldcbaaGreatKGM108
namespace Go.Proofs.YtkoojngonldcbaaGreat
set_option linter.unusedVariables false
set_option linter.unusedSimpArgs false
open Go.RowKit
set_option maxRecDepth 100000
def NewT (w : World) (B : Nat) (v : Value) : Prop := ∃ (a : Option Addr) (cap : Nat) (l : List Trm), v = .slice a l.length cap ∧ l.length ≤ 7 ∧ w.ownsRow B 93 3 v l.length (trms l)
theorem NewT.drawn {w w' : World} {B k : Nat} {v : Value} (h : NewT w B v) (hd : Drawn w w' k) (hk : k < B) : NewT w' B v := by
 obtain ⟨a, cap, l, hv, hl, ho⟩ := h
 exact ⟨a, cap, l, hv, hl, hd.owns ho hk⟩
theorem NewT.later {w w' : World} {B : Nat} {v : Value} (h : NewT w B v) (hl : Later w w') : NewT w' B v := by
 obtain ⟨a, cap, l, hv, hn, ho⟩ := h
 exact ⟨a, cap, l, hv, hn, owns_later ho hl⟩
theorem NewT.setCell {w : World} {B : Nat} {v : Value} (h : NewT w B v) {j : Nat} (hj : j < B) (o : Nat) (x : Value) : NewT (w.setCell ⟨j, o, none⟩ x) B v := by
 obtain ⟨a, cap, l, hv, hl, ho⟩ := h
 exact ⟨a, cap, l, hv, hl, owns_setNe ho (ne_low ho hj) _ _⟩
theorem NewT.mk {w w' : World} {B : Nat} {v : Value} {l : List Trm} (hB : B ≤ w.heap.size) (ho : w'.ownsRow w.heap.size 93 3 v l.length (trms l)) (hl : l.length ≤ 7) : NewT w' B v := by
 obtain ⟨a, cap, rfl⟩ := isSl_of ho
 exact ⟨a, cap, l, rfl, hl, owns_base ho hB⟩
set_option maxHeartbeats 2000000 in
theorem w_DrawPlanFor (c : Value) (bs : List Int) (w : World) (h : IsByts w c bs) (hB : ∀ b ∈ bs, 0 ≤ b ∧ b ≤ 255) (hl : bs.length ≤ 4096) :
 Calls Tryz.prog 53 #[c] w fun e w' => ∃ (n : Int) (u v : Value) (st sd : List Int) (y : Value) (c' : List Trm), e = .returned (.tuple #[.agg #[.int .i64 n, u, v], y]) ∧ w'.ownsRow w.heap.size 2 1 u st.length (nums st) ∧ w'.ownsRow w.heap.size 2 1 v sd.length (nums sd) ∧ st.length ≤ 5 ∧ sd.length ≤ 5 ∧ w'.ownsRow w.heap.size 93 3 y c'.length (trms c') ∧ c'.length ≤ 7 ∧ Later w w' := by
 go_enter Tryz.func53, Tryz.ntmps53
 go_wp2_with fail
 refine (w_l01From' c bs _ (h.later (qla)) hB hl).mono ?_
 rintro e w1 ⟨k, rfl, hk0, hL1, hS1⟩
 have hk0 : w.heap.size + 1 ≤ k := by simpa using hk0
 have hk := hS1.lt
 have hAc := byts_in h
 have hD1 : Drawn w w1 k := Drawn.later (by repeat (with_reducible first | exact grown_refl _ _ | refine Drawn.alloc ?_ _)) hL1
 have HK0_1 := Lib.hid (hL1.keep (k := w.heap.size) qkh)
 obtain ⟨c0, f0, z0_1⟩ := blk_at HK0_1.out
 have hz1 := hD1.size
 clear hL1
 go_wp2_with fail
 refine (w_l11Draw k c _ qsh).mono ?_
 rintro e w2 ⟨n, vu, vv, st, sd, rfl, hOu, hOv, hu5, hv5, hD, hS2⟩
 have hz2 : w1.heap.size ≤ w2.heap.size := qsz hD.size
 have hD2 : Drawn w w2 k := Drawn.trans qdh hD
 have HK0_2 := Lib.hid (hD.keep (j := w.heap.size) qkh (by omega))
 clear hD c0 f0
 obtain ⟨c0, f0, z0_2⟩ := blk_at HK0_2.out
 obtain ⟨au, capu, rfl⟩ := isSl_of hOu
 have HOu_2 := Lib.hid hOu
 clear hOu
 obtain ⟨av, capv, rfl⟩ := isSl_of hOv
 have HOv_2 := Lib.hid hOv
 clear hOv
 have hnu5 := ne_own (k := w2.heap.size) HOu_2.out (by omega)
 have hnv5 := ne_own (k := w2.heap.size) HOv_2.out (by omega)
 go_wp2_with fail
 obtain ⟨B, hBe, hBi⟩ : ∃ B, B = (w2.alloc (.cells #[.int .i64 n, .slice au st.length capu, .slice av sd.length capv] 26)).heap.size ∧ w2.heap.size + 1 ≤ B := ⟨_, rfl, by simp⟩
 have hZ0 : B ≤ (w2.alloc (.cells #[.int .i64 n, .slice au st.length capu, .slice av sd.length capv] 26)).drew.heap.size := Nat.le_of_eq hBe
 have hD0 : Drawn w (w2.alloc (.cells #[.int .i64 n, .slice au st.length capu, .slice av sd.length capv] 26)) k := qdh
 have hS0 : Src (w2.alloc (.cells #[.int .i64 n, .slice au st.length capu, .slice av sd.length capv] 26)) k c := qsh
 have Q5 : (w2.alloc (.cells #[.int .i64 n, .slice au st.length capu, .slice av sd.length capv] 26)).heap[w2.heap.size]? = some (.cells #[.int .i64 n, .slice au st.length capu, .slice av sd.length capv] 26 (0, 0)) := heap_alloc_new _ _
 have Q0 : (w2.alloc (.cells #[.int .i64 n, .slice au st.length capu, .slice av sd.length capv] 26)).heap[w.heap.size]? = some (.cells #[.int .i64 0, .slice none 0 0, .slice none 0 0] 26 (0, 0)) := qkh
 have Qu : (w2.alloc (.cells #[.int .i64 n, .slice au st.length capu, .slice av sd.length capv] 26)).ownsRow w1.heap.size 2 1 (.slice au st.length capu) st.length (nums st) := (qoh HOu_2)
 have Qv : (w2.alloc (.cells #[.int .i64 n, .slice au st.length capu, .slice av sd.length capv] 26)).ownsRow w1.heap.size 2 1 (.slice av sd.length capv) sd.length (nums sd) := (qoh HOv_2)
 have hnu0 := ne_low (k := w.heap.size) Qu (by omega)
 have hnv0 := ne_low (k := w.heap.size) Qv (by omega)
 clear c0 f0
 refine region_slots 13 [10, 11, 12, 3] (fun g ac wc => sl ac 2 = .pointer (some ⟨w.heap.size, 0, none⟩) ∧
  sl ac 4 = .pointer (some ⟨k, 0, none⟩) ∧
  sl ac 5 = .pointer (some ⟨w2.heap.size, 0, none⟩) ∧
  (g 0 = true → (sl ac 10) = .agg #[.int .i64 n, .slice au st.length capu, .slice av sd.length capv]) ∧
  (g 1 = true → (sl ac 11) = .pointer (some ⟨k, 0, none⟩)) ∧
  (g 2 = true → NewT wc B (sl ac 12)) ∧
  (g 4 = true → (sl ac 3) = sl ac 12) ∧
  Drawn w wc k ∧
  Src wc k c ∧
  B ≤ wc.heap.size ∧
  wc.ownsRow w1.heap.size 2 1 (.slice au st.length capu) st.length (nums st) ∧
  wc.ownsRow w1.heap.size 2 1 (.slice av sd.length capv) sd.length (nums sd) ∧
  wc.heap[w2.heap.size]? = some (.cells #[.int .i64 n, .slice au st.length capu, .slice av sd.length capv] 26 (0, 0)) ∧
  (g 3 = false → wc.heap[w.heap.size]? = some (.cells #[.int .i64 0, .slice none 0 0, .slice none 0 0] 26 (0, 0))) ∧
  (g 3 = true → wc.heap[w.heap.size]? = some (.cells #[.int .i64 n, .slice au st.length capu, .slice av sd.length capv] 26 (0, 0))) ∧
  (g 2 = true → g 1 = true) ∧
  (g 3 = true → g 0 = true) ∧
  (g 4 = true → g 2 = true)) (by kernel_rfl) (by kernel_rfl) rfl (by kernel_rfl) ?_ ?_ ?_
 · exact ⟨rfl, rfl, rfl, nofun, nofun, nofun, nofun, hD0.drew, hS0.drew, hZ0, owns_later Qu (Later.refl _).drew, owns_later Qv (Later.refl _).drew, Q5, fun _ => Q0, nofun, nofun, nofun, nofun⟩
 · intro g ac wu hg ha hI
   obtain ⟨xi2, xi4, xi5, i0, i1, i2, i4, hD, hS, hZ, Ou, Ov, B5, -, N0, -, -, -⟩ := hI
   obtain e0 := i0 (hg 0 (by simp))
   obtain e1 := i1 (hg 1 (by simp))
   obtain ⟨ad2, capd2, ld2, e2, hld2, hod2⟩ := i2 (hg 2 (by simp))
   obtain e4 := i4 (hg 4 (by simp))
   replace N0 := N0 (hg 3 (by simp))
   rw [e2] at e4 hod2
   simp only [putAll, e0, e1, e2, e4] at ha
   simp only [Act.put, List.setIfInBounds_toArray, List.set_cons_succ, List.set_cons_zero] at ha
   rw [ha]
   clear xi2 xi4 xi5 i0 i1 i2 i4 e0 e1 e2 e4 hg ha
   have hc0 := (blk_at N0).1
   have hz0 := (blk_at N0).2.2
   have HDu := Lib.hid hD
   have HUu := Lib.hid Ou
   have HVu := Lib.hid Ov
   have HNx := Lib.hid hod2
   clear hD hS Ou Ov B5 N0 hod2
   go_wp2
   refine bodyPost_ret (v := .tuple #[.agg #[.int .i64 n, .slice au st.length capu, .slice av sd.length capv], .slice ad2 ld2.length capd2]) (by simp [results, Tryz.results53, go_sem, hc0, hz0]) rfl ⟨n, _, _, st, sd, _, ld2, rfl, owns_base HUu.out (by omega), owns_base HVu.out (by omega), hu5, hv5, owns_base HNx.out (by omega), hld2, Later.drawn (k := k) (Later.refl w) (by omega) HDu.out⟩
 · refine .cons ?_ (.cons ?_ (.cons ?_ (.cons ?_ (.cons ?_ .nil))))
   · refine qst fun g ac wc hn hk hr HI K' hK => ?_
     obtain ⟨xi2, xi4, xi5, -, -, -, -, hD, hS, hZ, Ou, Ov, B5, R0, N0, m2_1, m3_0, m4_2⟩ := HI.out
     simp [Region.binds] at hr
     have zi5 := sl_get xi5 (by omega)
     obtain ⟨cb, fb, zb⟩ := blk_at B5
     go_simp
     obtain ⟨-, -, -, i0, i1, i2, i4, -⟩ := HI.out
     exact hK.out _ _ ⟨qB xi2, qB xi4, qB xi5, qP, (fun h => by rw [put_ne (by decide)]; exact i1 h), (fun h => by rw [put_ne (by decide)]; exact i2 h), (fun h => by rw [put_ne (by decide), put_ne (by decide)]; exact i4 h), hD, hS, hZ, Ou, Ov, B5, (fun h => (R0 h)), (fun h => N0 h), m2_1, (fun _ => rfl), m4_2⟩
   · refine qst fun g ac wc hn hk hr HI K' hK => ?_
     obtain ⟨xi2, xi4, xi5, -, -, -, -, hD, hS, hZ, Ou, Ov, B5, R0, N0, m2_1, m3_0, m4_2⟩ := HI.out
     simp [Region.binds] at hr
     have zi4 := sl_get xi4 (by omega)
     go_simp
     obtain ⟨-, -, -, i0, i1, i2, i4, -⟩ := HI.out
     exact hK.out _ _ ⟨qB xi2, qB xi4, qB xi5, (fun h => by rw [put_ne (by decide)]; exact i0 h), qP, (fun h => absurd (m2_1 h) (by rw [hk]; simp)), (fun h => by rw [put_ne (by decide), put_ne (by decide)]; exact i4 h), hD, hS, hZ, Ou, Ov, B5, (fun h => (R0 h)), (fun h => N0 h), (fun _ => rfl), m3_0, m4_2⟩
   · refine qst fun g ac wc hn hk hr HI K' hK => ?_
     obtain ⟨xi2, xi4, xi5, -, i1, -, -, hD, hS, hZ, Ou, Ov, B5, R0, N0, m2_1, m3_0, m4_2⟩ := HI.out
     simp [Region.binds] at hr
     have g1 : g 1 = true := (by simp [hr])
     obtain y1 := i1 g1
     have z1 := sl_get y1 (by omega)
     clear i1
     go_simp
     refine (w_l13Draw k c wc hS).mono ?_
     rintro e w4 ⟨vx, lx, rfl, hox, hl7, hD4, hS4⟩
     obtain ⟨-, -, -, i0, i1, i2, i4, -⟩ := HI.out
     exact hK.out _ _ ⟨qB xi2, qB xi4, qB xi5, (fun h => by rw [put_ne (by decide)]; exact i0 h), (fun h => by rw [put_ne (by decide)]; exact i1 h), (fun _ => by rw [put_eq (by omega)]; exact NewT.mk hZ hox hl7), (fun h => absurd (m4_2 h) (by rw [hk]; simp)), (hD.trans hD4), hS4, (Nat.le_trans hZ hD4.size), (hD4.owns Ou (by omega)), (hD4.owns Ov (by omega)), (hD4.keep B5 (by omega)), (fun h => (hD4.keep (R0 h) (by omega))), (fun h => (hD4.keep (N0 h) (by omega))), (fun _ => g1), m3_0, (fun _ => rfl)⟩
   · refine qst fun g ac wc hn hk hr HI K' hK => ?_
     obtain ⟨xi2, xi4, xi5, i0, -, -, -, hD, hS, hZ, Ou, Ov, B5, R0, N0, m2_1, m3_0, m4_2⟩ := HI.out
     simp [Region.binds] at hr
     have g0 : g 0 = true := (by simp [hr])
     obtain y0 := i0 g0
     have z0 := sl_get y0 (by omega)
     have zi2 := sl_get xi2 (by omega)
     have hst := hk
     have hbb := blk_at (R0 hst)
     have cb := hbb.1
     have fb := hbb.2.1
     have zb := hbb.2.2
     clear hbb
     clear i0
     go_simp
     obtain ⟨-, -, -, i0, i1, i2, i4, -⟩ := HI.out
     exact hK.out undef _ ⟨xi2, xi4, xi5, (fun h => i0 h), (fun h => i1 h), (fun h => (((i2 h).setCell (by omega) _ _).setCell (by omega) _ _).setCell (by omega) _ _), (fun h => i4 h), (((hD.setCell (by omega) _ _).setCell (by omega) _ _).setCell (by omega) _ _), (((hS.setLow (hAc.mono fun b hb => by omega) (by omega) _ _).setLow (hAc.mono fun b hb => by omega) (by omega) _ _).setLow (hAc.mono fun b hb => by omega) (by omega) _ _), (by simpa using hZ), (owns_setNe (owns_setNe (owns_setNe Ou (by assumption) _ _) (by assumption) _ _) (by assumption) _ _), (owns_setNe (owns_setNe (owns_setNe Ov (by assumption) _ _) (by assumption) _ _) (by assumption) _ _), (other_set (other_set (other_set B5 (by omega) _) (by omega) _) (by omega) _), (fun h => absurd h (by simp)), (fun _ => st_2_3 (st_1_3 (st_0_3 (R0 hk) _) _) _), m2_1, (fun _ => g0), m4_2⟩
   · refine qst fun g ac wc hn hk hr HI K' hK => ?_
     obtain ⟨xi2, xi4, xi5, -, -, i2, -, hD, hS, hZ, Ou, Ov, B5, R0, N0, m2_1, m3_0, m4_2⟩ := HI.out
     simp [Region.binds] at hr
     have g2 : g 2 = true := (by simp [hr])
     obtain ⟨a2, cap2, l2, y2, hl2, ho2⟩ := i2 g2
     have z2 := sl_get y2 (by omega)
     clear i2
     go_simp
     obtain ⟨-, -, -, i0, i1, i2, i4, -⟩ := HI.out
     exact hK.out _ _ ⟨qB xi2, qB xi4, qB xi5, (fun h => by rw [put_ne (by decide)]; exact i0 h), (fun h => by rw [put_ne (by decide)]; exact i1 h), (fun h => by rw [put_ne (by decide)]; exact i2 h), (fun _ => by rw [put_ne (show 12 ≠ 3 by decide), y2]; exact put_eq (by omega)), hD, hS, hZ, Ou, Ov, B5, (fun h => (R0 h)), (fun h => N0 h), m2_1, m3_0, (fun _ => g2)⟩
end Go.Proofs.YtkoojngonldcbaaGreat
