/- DERIVED. Walks: the draws of rules with chains. -/
import Derived.Test.YtkoojngonldcbaaGreatKPM103
import Derived.Test.YtkoojngonldcbaaGreatKPM108
import Derived.Test.YtkoojngonldcbaaGreatKPM109
import Derived.Test.YtkoojngonldcbaaGreatKPM60
namespace Go.Proofs.YtkoojngonldcbaaGreat
set_option linter.unusedVariables false
set_option linter.unusedSimpArgs false
open Go.RowKit
set_option maxRecDepth 100000
def NewT (w : World) (B : Nat) (v : Value) : Prop := ∃ (a : Option Addr) (cap : Nat) (l : List Trm), v = .slice a l.length cap ∧ l.length ≤ 7 ∧ w.ownsRow B 93 3 v l.length (trms l)
theorem NewT.drawn {w w' : World} {B k : Nat} {v : Value} (h : NewT w B v) (hd : Drawn w w' k) (hk : k < B) : NewT w' B v := by
 obtain ⟨a, cap, l, hv, hl, ho⟩ := h
 exact ⟨a, cap, l, hv, hl, hd.owns ho hk⟩
theorem NewT.later {w w' : World} {B : Nat} {v : Value} (h : NewT w B v) (hl : Later w w') : NewT w' B v := by
 obtain ⟨a, cap, l, hv, hn, ho⟩ := h
 exact ⟨a, cap, l, hv, hn, owns_later ho hl⟩
theorem NewT.setCell {w : World} {B : Nat} {v : Value} (h : NewT w B v) {j : Nat} (hj : j < B) (o : Nat) (x : Value) : NewT (w.setCell ⟨j, o, none⟩ x) B v := by
 obtain ⟨a, cap, l, hv, hl, ho⟩ := h
 exact ⟨a, cap, l, hv, hl, owns_setNe ho (ne_low ho hj) _ _⟩
theorem NewT.mk {w w' : World} {B : Nat} {v : Value} {l : List Trm} (hB : B ≤ w.heap.size) (ho : w'.ownsRow w.heap.size 93 3 v l.length (trms l)) (hl : l.length ≤ 7) : NewT w' B v := by
 obtain ⟨a, cap, rfl⟩ := isSl_of ho
 exact ⟨a, cap, l, rfl, hl, owns_base ho hB⟩
set_option maxHeartbeats 2000000 in
theorem w_DrawPlanFor (c : Value) (bs : List Int) (w : World) (h : IsByts w c bs) (hB : ∀ b ∈ bs, 0 ≤ b ∧ b ≤ 255) (hl : bs.length ≤ 4096) :
 Calls Tryz.prog 53 #[c] w fun e w' => ∃ (n : Int) (u v : Value) (st sd : List Int) (y : Value) (c' : List Trm), e = .returned (.tuple #[.agg #[.int .i64 n, u, v], y]) ∧ w'.ownsRow w.heap.size 2 1 u st.length (nums st) ∧ w'.ownsRow w.heap.size 2 1 v sd.length (nums sd) ∧ st.length ≤ 5 ∧ sd.length ≤ 5 ∧ w'.ownsRow w.heap.size 93 3 y c'.length (trms c') ∧ c'.length ≤ 7 ∧ Later w w' := by
 go_enter Tryz.func53, Tryz.ntmps53
 go_wp2_with fail
 refine (w_l01From' c bs _ (h.later (by (repeat (with_reducible first | exact Later.refl _ | refine qLa ?_ | refine qLd ?_ | refine qLe ?_ | refine qLs ?_ | refine qLt ?_ (by assumption))))) hB hl).mono ?_
 rintro e w1 ⟨k, rfl, hk0, hL1, hS1⟩
 have hk0 : w.heap.size + 1 ≤ k := by simpa using hk0
 have hk := hS1.lt
 have hAc := byts_in h
 have hD1 : Drawn w w1 k := Drawn.later (by repeat (with_reducible first | exact grown_refl _ _ | refine Drawn.alloc ?_ _)) hL1
 have HK0_1 := Lib.hid (hL1.keep (k := w.heap.size) (by repeat (with_reducible first | exact HK0_0.out | exact heap_alloc_new _ _ | (apply qK; first | rfl | (simp; done)) | apply qKo | apply qk0 | apply qk1 | apply qk2 | apply qk3 | apply qk4 | apply qk5 | apply qk6 | apply qk7 | apply qk8 | (apply qKs; case hne => omega))))
 obtain ⟨c0, f0, z0_1⟩ := blk_at HK0_1.out
 have hz1 := hD1.size
 clear hL1
 go_wp2_with fail
 refine (w_l11Draw k c _ (by repeat (with_reducible first | assumption | refine qSa ?_ | refine qSd ?_ | refine qSe ?_ | refine qSs ?_))).mono ?_
 rintro e w2 ⟨n, vu, vv, st, sd, rfl, hOu, hOv, hu5, hv5, hD, hS2⟩
 have hz2 : w1.heap.size ≤ w2.heap.size := Nat.le_trans (by first | (simp; done) | (simp; omega)) hD.size
 have hD2 : Drawn w w2 k := Drawn.trans (by repeat (with_reducible first | assumption | exact qDr | refine qDa ?_ | refine qDd ?_ | refine qDe ?_ | refine qDs ?_)) hD
 have HK0_2 := Lib.hid (hD.keep (j := w.heap.size) (by repeat (with_reducible first | exact HK0_1.out | exact heap_alloc_new _ _ | (apply qK; first | rfl | (simp; done)) | apply qKo | apply qk0 | apply qk1 | apply qk2 | apply qk3 | apply qk4 | apply qk5 | apply qk6 | apply qk7 | apply qk8 | (apply qKs; case hne => omega))) (by omega))
 clear hD c0 f0
 obtain ⟨c0, f0, z0_2⟩ := blk_at HK0_2.out
 obtain ⟨au, capu, rfl⟩ := isSl_of hOu
 have HOu_2 := Lib.hid hOu
 clear hOu
 obtain ⟨av, capv, rfl⟩ := isSl_of hOv
 have HOv_2 := Lib.hid hOv
 clear hOv
 have hnu5 := ne_own (k := w2.heap.size) HOu_2.out (by omega)
 have hnv5 := ne_own (k := w2.heap.size) HOv_2.out (by omega)
 go_wp2_with fail
 obtain ⟨B, hBe, hBi⟩ : ∃ B, B = (w2.alloc (.cells #[.int .i64 n, .slice au st.length capu, .slice av sd.length capv] 26)).heap.size ∧ w2.heap.size + 1 ≤ B := ⟨_, rfl, by simp⟩
 have hZ0 : B ≤ (w2.alloc (.cells #[.int .i64 n, .slice au st.length capu, .slice av sd.length capv] 26)).drew.heap.size := Nat.le_of_eq hBe
 have hD0 : Drawn w (w2.alloc (.cells #[.int .i64 n, .slice au st.length capu, .slice av sd.length capv] 26)) k := (by repeat (with_reducible first | assumption | exact qDr | refine qDa ?_ | refine qDd ?_ | refine qDe ?_ | refine qDs ?_))
 have hS0 : Src (w2.alloc (.cells #[.int .i64 n, .slice au st.length capu, .slice av sd.length capv] 26)) k c := (by repeat (with_reducible first | assumption | refine qSa ?_ | refine qSd ?_ | refine qSe ?_ | refine qSs ?_))
 have Q5 : (w2.alloc (.cells #[.int .i64 n, .slice au st.length capu, .slice av sd.length capv] 26)).heap[w2.heap.size]? = some (.cells #[.int .i64 n, .slice au st.length capu, .slice av sd.length capv] 26 (0, 0)) := heap_alloc_new _ _
 have Q0 : (w2.alloc (.cells #[.int .i64 n, .slice au st.length capu, .slice av sd.length capv] 26)).heap[w.heap.size]? = some (.cells #[.int .i64 0, .slice none 0 0, .slice none 0 0] 26 (0, 0)) := (by repeat (with_reducible first | exact HK0_2.out | exact heap_alloc_new _ _ | (apply qK; first | rfl | (simp; done)) | apply qKo | apply qk0 | apply qk1 | apply qk2 | apply qk3 | apply qk4 | apply qk5 | apply qk6 | apply qk7 | apply qk8 | (apply qKs; case hne => omega)))
 have Qu : (w2.alloc (.cells #[.int .i64 n, .slice au st.length capu, .slice av sd.length capv] 26)).ownsRow w1.heap.size 2 1 (.slice au st.length capu) st.length (nums st) := (by repeat (with_reducible first | exact HOu_2.out | apply qOa | (apply qOs; case hk => first | assumption | exact qOn HOu_2.out (by first | omega | (simp; omega)) | exact qOl HOu_2.out (by omega)) | apply qOd | apply qOe))
 have Qv : (w2.alloc (.cells #[.int .i64 n, .slice au st.length capu, .slice av sd.length capv] 26)).ownsRow w1.heap.size 2 1 (.slice av sd.length capv) sd.length (nums sd) := (by repeat (with_reducible first | exact HOv_2.out | apply qOa | (apply qOs; case hk => first | assumption | exact qOn HOv_2.out (by first | omega | (simp; omega)) | exact qOl HOv_2.out (by omega)) | apply qOd | apply qOe))
 have hnu0 := ne_low (k := w.heap.size) Qu (by omega)
 have hnv0 := ne_low (k := w.heap.size) Qv (by omega)
 clear c0 f0
 refine region_slots 13 [10, 11, 12, 3] (fun g ac wc => sl ac 2 = .pointer (some ⟨w.heap.size, 0, none⟩) ∧
  sl ac 4 = .pointer (some ⟨k, 0, none⟩) ∧
  sl ac 5 = .pointer (some ⟨w2.heap.size, 0, none⟩) ∧
  (g 0 = true → (sl ac 10) = .agg #[.int .i64 n, .slice au st.length capu, .slice av sd.length capv]) ∧
  (g 1 = true → (sl ac 11) = .pointer (some ⟨k, 0, none⟩)) ∧
  (g 2 = true → NewT wc B (sl ac 12)) ∧
  (g 4 = true → (sl ac 3) = sl ac 12) ∧
  Drawn w wc k ∧
  Src wc k c ∧
  B ≤ wc.heap.size ∧
  wc.ownsRow w1.heap.size 2 1 (.slice au st.length capu) st.length (nums st) ∧
  wc.ownsRow w1.heap.size 2 1 (.slice av sd.length capv) sd.length (nums sd) ∧
  wc.heap[w2.heap.size]? = some (.cells #[.int .i64 n, .slice au st.length capu, .slice av sd.length capv] 26 (0, 0)) ∧
  (g 3 = false → wc.heap[w.heap.size]? = some (.cells #[.int .i64 0, .slice none 0 0, .slice none 0 0] 26 (0, 0))) ∧
  (g 3 = true → wc.heap[w.heap.size]? = some (.cells #[.int .i64 n, .slice au st.length capu, .slice av sd.length capv] 26 (0, 0))) ∧
  (g 2 = true → g 1 = true) ∧
  (g 3 = true → g 0 = true) ∧
  (g 4 = true → g 2 = true)) (by kernel_rfl) (by kernel_rfl) rfl (by kernel_rfl) ?_ ?_ ?_
 · exact ⟨rfl, rfl, rfl, nofun, nofun, nofun, nofun, hD0.drew, hS0.drew, hZ0, owns_later Qu (Later.refl _).drew, owns_later Qv (Later.refl _).drew, Q5, fun _ => Q0, nofun, nofun, nofun, nofun⟩
 · intro g ac wu hg ha hI
   obtain ⟨xi2, xi4, xi5, i0, i1, i2, i4, hD, hS, hZ, Ou, Ov, B5, -, N0, -, -, -⟩ := hI
   obtain e0 := i0 (hg 0 (by simp))
   obtain e1 := i1 (hg 1 (by simp))
   obtain ⟨ad2, capd2, ld2, e2, hld2, hod2⟩ := i2 (hg 2 (by simp))
   obtain e4 := i4 (hg 4 (by simp))
   replace N0 := N0 (hg 3 (by simp))
   rw [e2] at e4 hod2
   simp only [putAll, e0, e1, e2, e4] at ha
   simp only [Act.put, List.setIfInBounds_toArray, List.set_cons_succ, List.set_cons_zero] at ha
   rw [ha]
   clear xi2 xi4 xi5 i0 i1 i2 i4 e0 e1 e2 e4 hg ha
   have hc0 := (blk_at N0).1
   have hz0 := (blk_at N0).2.2
   have HDu := Lib.hid hD
   have HUu := Lib.hid Ou
   have HVu := Lib.hid Ov
   have HNx := Lib.hid hod2
   clear hD hS Ou Ov B5 N0 hod2
   go_wp2
   refine bodyPost_ret (v := .tuple #[.agg #[.int .i64 n, .slice au st.length capu, .slice av sd.length capv], .slice ad2 ld2.length capd2]) (by simp [results, Tryz.results53, go_sem, hc0, hz0]) rfl ⟨n, _, _, st, sd, _, ld2, rfl, owns_base HUu.out (by omega), owns_base HVu.out (by omega), hu5, hv5, owns_base HNx.out (by omega), hld2, Later.drawn (k := k) (Later.refl w) (by omega) HDu.out⟩
 · refine .cons ?_ (.cons ?_ (.cons ?_ (.cons ?_ (.cons ?_ .nil))))
   · unfold SlotStep
     intro g ac wc hn hk hr hI K' hK
     have HI := Lib.hid hI
     obtain ⟨xi2, xi4, xi5, i0, i1, i2, i4, hD, hS, hZ, Ou, Ov, B5, R0, N0, m2_1, m3_0, m4_2⟩ := hI
     simp [Region.binds] at hr
     replace hK := Lib.hid hK
     have zi5 := sl_get xi5 (by omega)
     obtain ⟨cb, fb, zb⟩ := blk_at B5
     clear i0 i1 i2 i4
     go_simp
     obtain ⟨-, -, -, i0, i1, i2, i4, -⟩ := HI.out
     exact hK.out _ _ ⟨qB xi2, qB xi4, qB xi5, qP, (fun h => by rw [put_ne (by decide)]; exact i1 h), (fun h => by rw [put_ne (by decide)]; exact i2 h), (fun h => by rw [put_ne (by decide), put_ne (by decide)]; exact i4 h), hD, hS, hZ, Ou, Ov, B5, (fun h => (R0 h)), (fun h => N0 h), m2_1, (fun _ => rfl), m4_2⟩
   · unfold SlotStep
     intro g ac wc hn hk hr hI K' hK
     have HI := Lib.hid hI
     obtain ⟨xi2, xi4, xi5, i0, i1, i2, i4, hD, hS, hZ, Ou, Ov, B5, R0, N0, m2_1, m3_0, m4_2⟩ := hI
     simp [Region.binds] at hr
     replace hK := Lib.hid hK
     have zi4 := sl_get xi4 (by omega)
     clear i0 i1 i2 i4
     go_simp
     obtain ⟨-, -, -, i0, i1, i2, i4, -⟩ := HI.out
     exact hK.out _ _ ⟨qB xi2, qB xi4, qB xi5, (fun h => by rw [put_ne (by decide)]; exact i0 h), qP, (fun h => absurd (m2_1 h) (by rw [hk]; simp)), (fun h => by rw [put_ne (by decide), put_ne (by decide)]; exact i4 h), hD, hS, hZ, Ou, Ov, B5, (fun h => (R0 h)), (fun h => N0 h), (fun _ => rfl), m3_0, m4_2⟩
   · unfold SlotStep
     intro g ac wc hn hk hr hI K' hK
     have HI := Lib.hid hI
     obtain ⟨xi2, xi4, xi5, i0, i1, i2, i4, hD, hS, hZ, Ou, Ov, B5, R0, N0, m2_1, m3_0, m4_2⟩ := hI
     simp [Region.binds] at hr
     replace hK := Lib.hid hK
     have g1 : g 1 = true := (by have h := hr; first | exact h | (simp at h; done) | (repeat (first | exact h | exact h.1 | replace h := h.2)))
     obtain y1 := i1 g1
     have z1 := sl_get y1 (by omega)
     clear i0 i1 i2 i4
     go_simp
     refine (w_l13Draw k c wc hS).mono ?_
     rintro e w4 ⟨vx, lx, rfl, hox, hl7, hD4, hS4⟩
     obtain ⟨-, -, -, i0, i1, i2, i4, -⟩ := HI.out
     exact hK.out _ _ ⟨qB xi2, qB xi4, qB xi5, (fun h => by rw [put_ne (by decide)]; exact i0 h), (fun h => by rw [put_ne (by decide)]; exact i1 h), (fun _ => by rw [put_eq (by omega)]; exact NewT.mk hZ hox hl7), (fun h => absurd (m4_2 h) (by rw [hk]; simp)), (hD.trans hD4), hS4, (Nat.le_trans hZ hD4.size), (hD4.owns Ou (by omega)), (hD4.owns Ov (by omega)), (hD4.keep B5 (by omega)), (fun h => (hD4.keep (R0 h) (by omega))), (fun h => (hD4.keep (N0 h) (by omega))), (fun _ => g1), m3_0, (fun _ => rfl)⟩
   · unfold SlotStep
     intro g ac wc hn hk hr hI K' hK
     have HI := Lib.hid hI
     obtain ⟨xi2, xi4, xi5, i0, i1, i2, i4, hD, hS, hZ, Ou, Ov, B5, R0, N0, m2_1, m3_0, m4_2⟩ := hI
     simp [Region.binds] at hr
     replace hK := Lib.hid hK
     have g0 : g 0 = true := (by have h := hr; first | exact h | (simp at h; done) | (repeat (first | exact h | exact h.1 | replace h := h.2)))
     obtain y0 := i0 g0
     have z0 := sl_get y0 (by omega)
     have zi2 := sl_get xi2 (by omega)
     have hst := hk
     have hbb := blk_at (R0 hst)
     have cb := hbb.1
     have fb := hbb.2.1
     have zb := hbb.2.2
     clear hbb
     clear i0 i1 i2 i4
     go_simp
     obtain ⟨-, -, -, i0, i1, i2, i4, -⟩ := HI.out
     exact hK.out undef _ ⟨xi2, xi4, xi5, (fun h => i0 h), (fun h => i1 h), (fun h => (((i2 h).setCell (by omega) _ _).setCell (by omega) _ _).setCell (by omega) _ _), (fun h => i4 h), (((hD.setCell (by omega) _ _).setCell (by omega) _ _).setCell (by omega) _ _), (((hS.setLow (hAc.mono fun b hb => by omega) (by omega) _ _).setLow (hAc.mono fun b hb => by omega) (by omega) _ _).setLow (hAc.mono fun b hb => by omega) (by omega) _ _), (by simpa using hZ), (owns_setNe (owns_setNe (owns_setNe Ou (by assumption) _ _) (by assumption) _ _) (by assumption) _ _), (owns_setNe (owns_setNe (owns_setNe Ov (by assumption) _ _) (by assumption) _ _) (by assumption) _ _), (other_set (other_set (other_set B5 (by omega) _) (by omega) _) (by omega) _), (fun h => absurd h (by simp)), (fun _ => st_2_3 (st_1_3 (st_0_3 (R0 hk) _) _) _), m2_1, (fun _ => g0), m4_2⟩
   · unfold SlotStep
     intro g ac wc hn hk hr hI K' hK
     have HI := Lib.hid hI
     obtain ⟨xi2, xi4, xi5, i0, i1, i2, i4, hD, hS, hZ, Ou, Ov, B5, R0, N0, m2_1, m3_0, m4_2⟩ := hI
     simp [Region.binds] at hr
     replace hK := Lib.hid hK
     have g2 : g 2 = true := (by have h := hr; first | exact h | (simp at h; done) | (repeat (first | exact h | exact h.1 | replace h := h.2)))
     obtain ⟨a2, cap2, l2, y2, hl2, ho2⟩ := i2 g2
     have z2 := sl_get y2 (by omega)
     clear i0 i1 i2 i4
     go_simp
     obtain ⟨-, -, -, i0, i1, i2, i4, -⟩ := HI.out
     exact hK.out _ _ ⟨qB xi2, qB xi4, qB xi5, (fun h => by rw [put_ne (by decide)]; exact i0 h), (fun h => by rw [put_ne (by decide)]; exact i1 h), (fun h => by rw [put_ne (by decide)]; exact i2 h), (fun _ => by rw [put_ne (show 12 ≠ 3 by decide), y2]; exact put_eq (by omega)), hD, hS, hZ, Ou, Ov, B5, (fun h => (R0 h)), (fun h => N0 h), m2_1, m3_0, (fun _ => g2)⟩
theorem own_trms_take {w : World} {base n cap : Nat} {e : TypeId} {a : Option Addr} {l : List Trm} (ho : w.ownsRow base e 3 (.slice a n cap) n (trms l)) (hl : l.length = n) {k : Nat} (hk : k ≤ n) (h0 : 0 < k) : w.ownsRow base e 3 (.slice a k cap) (l.take k).length (trms (l.take k)) := by
 have h := own_take ho hk (fun e _ => absurd e (by omega))
 have e1 : (trms l).take (k * 3) = trms (l.take k) := flat_take Trm.cells 3 (fun _ => rfl) l k
 have e2 : (l.take k).length = k := by rw [List.length_take]; omega
 rw [e1] at h
 rw [e2]
 exact h
set_option maxHeartbeats 2000000 in
theorem w_DrawBestTerms (c : Value) (bs : List Int) (w : World) (h : IsByts w c bs) (hB : ∀ b ∈ bs, 0 ≤ b ∧ b ≤ 255) (hl : bs.length ≤ 4096) :
 Calls Tryz.prog 8 #[c] w fun e w' => ∃ (n : Int) (u v : Value) (st sd : List Int) (y : Value) (c' : List Trm), e = .returned (.tuple #[.agg #[.int .i64 n, u, v], y]) ∧ w'.ownsRow w.heap.size 2 1 u st.length (nums st) ∧ w'.ownsRow w.heap.size 2 1 v sd.length (nums sd) ∧ st.length ≤ 5 ∧ sd.length ≤ 5 ∧ w'.ownsRow w.heap.size 93 3 y c'.length (trms c') ∧ c'.length ≤ 7 ∧ Later w w' := by
 go_enter Tryz.func8, Tryz.ntmps8
 go_wp2_with fail
 refine (w_DrawPlanFor c bs _ (h.later (by (repeat (with_reducible first | exact Later.refl _ | refine qLa ?_ | refine qLd ?_ | refine qLe ?_ | refine qLs ?_ | refine qLt ?_ (by assumption))))) hB hl).mono ?_
 rintro e w1 ⟨n, vu, vv, st, sd, vy, l, rfl, hOu, hOv, hu5, hv5, hOy, hl7, hL⟩
 obtain ⟨au, capu, rfl⟩ := isSl_of hOu
 obtain ⟨av, capv, rfl⟩ := isSl_of hOv
 obtain ⟨ay, capy, rfl⟩ := isSl_of hOy
 have HOu_1 := Lib.hid (owns_base (base' := w.heap.size + 1) hOu (by simp))
 have HOv_1 := Lib.hid (owns_base (base' := w.heap.size + 1) hOv (by simp))
 have HOy_1 := Lib.hid (owns_base (base' := w.heap.size + 1) hOy (by simp))
 have hnu := ne_own (k := w1.heap.size) HOu_1.out (Nat.le_refl _)
 have hnv := ne_own (k := w1.heap.size) HOv_1.out (Nat.le_refl _)
 have hny := ne_own (k := w1.heap.size) HOy_1.out (Nat.le_refl _)
 have hcy : l.length ≤ capy := by
  rcases own_shape hOy with ⟨h1, _, _⟩ | ⟨_, _, h1, _, _, h3, _⟩
  · have e := (Value.slice.inj h1).2
    omega
  · cases h1
    exact h3
 have K0 := hL.keep (k := w.heap.size) (heap_alloc_new _ _)
 obtain ⟨c0, f0, z0⟩ := blk_at K0
 have hLw : Later w w1 := (Later.alloc (Later.refl w) _).trans hL
 have hz1 := hLw.size
 clear hOu hOv hOy K0 hL
 by_cases h5 : 5 < l.length
 · have HT := Lib.hid (own_trms_take HOy_1.out rfl (k := 5) (by omega) (by decide))
   have hny5 := ne_own (k := w1.heap.size) HT.out (Nat.le_refl _)
   have hle : ((5 : Int) ≤ (capy : Int)) = True := by simp; omega
   go_wp2_with fail
   go_region
   go_wp2
   refine bodyPost_ret (v := .tuple #[.agg #[.int .i64 n, .slice au st.length capu, .slice av sd.length capv], .slice ay 5 capy]) (by simp [results, Tryz.results8, go_sem, c0, z0]) rfl ⟨n, _, _, st, sd, _, l.take 5, rfl, owns_base (base := w.heap.size + 1) (by repeat (with_reducible first | exact HOu_1.out | apply qOa | (apply qOs; case hk => first | assumption | exact qOn HOu_1.out (by first | omega | (simp; omega)) | exact qOl HOu_1.out (by omega)) | apply qOd | apply qOe)) (by omega), owns_base (base := w.heap.size + 1) (by repeat (with_reducible first | exact HOv_1.out | apply qOa | (apply qOs; case hk => first | assumption | exact qOn HOv_1.out (by first | omega | (simp; omega)) | exact qOl HOv_1.out (by omega)) | apply qOd | apply qOe)) (by omega), hu5, hv5, owns_base (base := w.heap.size + 1) (by repeat (with_reducible first | exact HT.out | apply qOa | (apply qOs; case hk => first | assumption | exact qOn HT.out (by first | omega | (simp; omega)) | exact qOl HT.out (by omega)) | apply qOd | apply qOe)) (by omega), by rw [List.length_take]; omega, by (repeat (with_reducible first | exact Later.refl _ | refine qLa ?_ | refine qLd ?_ | refine qLe ?_ | refine qLs ?_ | refine qLt ?_ (by assumption)))⟩
 · go_wp2
   refine bodyPost_ret (v := .tuple #[.agg #[.int .i64 n, .slice au st.length capu, .slice av sd.length capv], .slice ay l.length capy]) (by simp [results, Tryz.results8, go_sem, c0, z0]) rfl ⟨n, _, _, st, sd, _, l, rfl, owns_base (base := w.heap.size + 1) (by repeat (with_reducible first | exact HOu_1.out | apply qOa | (apply qOs; case hk => first | assumption | exact qOn HOu_1.out (by first | omega | (simp; omega)) | exact qOl HOu_1.out (by omega)) | apply qOd | apply qOe)) (by omega), owns_base (base := w.heap.size + 1) (by repeat (with_reducible first | exact HOv_1.out | apply qOa | (apply qOs; case hk => first | assumption | exact qOn HOv_1.out (by first | omega | (simp; omega)) | exact qOl HOv_1.out (by omega)) | apply qOd | apply qOe)) (by omega), hu5, hv5, owns_base (base := w.heap.size + 1) (by repeat (with_reducible first | exact HOy_1.out | apply qOa | (apply qOs; case hk => first | assumption | exact qOn HOy_1.out (by first | omega | (simp; omega)) | exact qOl HOy_1.out (by omega)) | apply qOd | apply qOe)) (by omega), hl7, by (repeat (with_reducible first | exact Later.refl _ | refine qLa ?_ | refine qLd ?_ | refine qLe ?_ | refine qLs ?_ | refine qLt ?_ (by assumption)))⟩
theorem own_movs_take {w : World} {base n cap : Nat} {e : TypeId} {a : Option Addr} {l : List Mov} (ho : w.ownsRow base e 4 (.slice a n cap) n (movs l)) (hl : l.length = n) {k : Nat} (hk : k ≤ n) (h0 : a = none → cap = 0) : w.ownsRow base e 4 (.slice a k cap) (l.take k).length (movs (l.take k)) := by
 have h := own_take ho hk (fun _ => h0)
 have e1 : (movs l).take (k * 4) = movs (l.take k) := flat_take Mov.cells 4 (fun _ => rfl) l k
 have e2 : (l.take k).length = k := by rw [List.length_take]; omega
 rw [e1] at h
 rw [e2]
 exact h
theorem own_setMov1 {w : World} {base : Nat} {e : TypeId} {g n cap : Nat} {a b m : Mov} {r : List Mov} (ho : w.ownsRow base e 4 (.slice (some ⟨g, 0, none⟩) n cap) n (movs (a :: b :: r))) :
 ((((w.setCell ⟨g, 4, none⟩ (.int .i64 m.k)).setCell ⟨g, 5, none⟩ (.int .i64 m.s)).setCell ⟨g, 6, none⟩ (.int .i64 m.f.d)).setCell ⟨g, 7, none⟩ (.int .i64 m.f.t)).ownsRow base e 4 (.slice (some ⟨g, 0, none⟩) n cap) n (movs (a :: m :: r)) := by
 have h := (((((ho.stored 4 (.int .i64 m.k)).1.stored 5 (.int .i64 m.s)).1.stored 6 (.int .i64 m.f.d)).1.stored 7 (.int .i64 m.f.t)).1)
 have e : ((((movs (a :: b :: r)).set 4 (.int .i64 m.k)).set 5 (.int .i64 m.s)).set 6 (.int .i64 m.f.d)).set 7 (.int .i64 m.f.t) = movs (a :: m :: r) := by simp [movs, Mov.cells]
 rwa [e] at h
theorem own_leq {w : World} {base : Nat} {e : TypeId} {s : Nat} {v : Value} {n : Nat} {xs : List Value} (ho : w.ownsRow base e s v n xs) : ∀ j, v.ownBlock = some j → j < w.heap.size := fun j h => (ho.lt j h).2
theorem own_cap0 {w : World} {base : Nat} {e : TypeId} {s : Nat} {a : Option Addr} {n c : Nat} {xs : List Value} (ho : w.ownsRow base e s (.slice a n c) n xs) : (a = none → c = 0) ∧ n ≤ c := by
 rcases own_shape ho with ⟨h1, h2, _⟩ | ⟨_, _, h1, _, _, h3, _⟩
 · have e := (Value.slice.inj h1).2
   exact ⟨fun _ => e.2, by omega⟩
 · cases h1
   exact ⟨fun h => (by cases h), h3⟩
set_option maxHeartbeats 4000000 in
theorem w_DrawIsPlanFor (c : Value) (bs : List Int) (w : World) (h : IsByts w c bs) (hB : ∀ b ∈ bs, 0 ≤ b ∧ b ≤ 255) (hl : bs.length ≤ 4096) :
 Calls Tryz.prog 15 #[c] w fun e w' => ∃ (n : Int) (u v : Value) (st sd : List Int) (y : Value) (c' : List Trm) (z : Value) (l : List Mov), e = .returned (.tuple #[.agg #[.int .i64 n, u, v], y, z]) ∧ w'.ownsRow w.heap.size 2 1 u st.length (nums st) ∧ w'.ownsRow w.heap.size 2 1 v sd.length (nums sd) ∧ st.length ≤ 5 ∧ sd.length ≤ 5 ∧ w'.ownsRow w.heap.size 93 3 y c'.length (trms c') ∧ c'.length ≤ 7 ∧ w'.ownsRow w.heap.size 88 4 z l.length (movs l) ∧ l.length ≤ 18 ∧ Later w w' := by
 go_enter Tryz.func15, Tryz.ntmps15
 go_wp2_with fail
 refine (w_l01From' c bs _ (h.later (by (repeat (with_reducible first | exact Later.refl _ | refine qLa ?_ | refine qLd ?_ | refine qLe ?_ | refine qLs ?_ | refine qLt ?_ (by assumption))))) hB hl).mono ?_
 rintro e w1 ⟨k, rfl, hk0, hL1, hS1⟩
 have hk0 : w.heap.size + 1 ≤ k := by simpa using hk0
 have hk := hS1.lt
 have hAc := byts_in h
 have hD1 : Drawn w w1 k := Drawn.later (by repeat (with_reducible first | exact grown_refl _ _ | refine Drawn.alloc ?_ _)) hL1
 have HK0_1 := Lib.hid (hL1.keep (k := w.heap.size) (by repeat (with_reducible first | exact HK0_0.out | exact heap_alloc_new _ _ | (apply qK; first | rfl | (simp; done)) | apply qKo | apply qk0 | apply qk1 | apply qk2 | apply qk3 | apply qk4 | apply qk5 | apply qk6 | apply qk7 | apply qk8 | (apply qKs; case hne => omega))))
 obtain ⟨c0, f0, z0_1⟩ := blk_at HK0_1.out
 have hz1 := hD1.size
 have hIB : IsByts w1 c bs := (h.later (by (repeat (with_reducible first | exact Later.refl _ | refine qLa ?_ | refine qLd ?_ | refine qLe ?_ | refine qLs ?_ | refine qLt ?_ (by assumption))))).later hL1
 clear hL1
 go_wp2_with fail
 refine (w_DrawPlanFor c bs _ hIB hB hl).mono ?_
 rintro e w2 ⟨n, vu, vv, st, sd, vy, cc, rfl, hOu, hOv, hu5, hv5, hOy, hc7, hL⟩
 have hz2 : w1.heap.size ≤ w2.heap.size := Nat.le_trans (by first | (simp; done) | (simp; omega)) hL.size
 have hD2 : Drawn w w2 k := Drawn.later (by repeat (with_reducible first | assumption | exact qDr | refine qDa ?_ | refine qDd ?_ | refine qDe ?_ | refine qDs ?_)) hL
 have hS2 : Src w2 k c := Src.later (by repeat (with_reducible first | assumption | refine qSa ?_ | refine qSd ?_ | refine qSe ?_ | refine qSs ?_)) hL
 have HK0_2 := Lib.hid (hL.keep (k := w.heap.size) (by repeat (with_reducible first | exact HK0_1.out | exact heap_alloc_new _ _ | (apply qK; first | rfl | (simp; done)) | apply qKo | apply qk0 | apply qk1 | apply qk2 | apply qk3 | apply qk4 | apply qk5 | apply qk6 | apply qk7 | apply qk8 | (apply qKs; case hne => omega))))
 clear hL c0 f0
 obtain ⟨c0, f0, z0_2⟩ := blk_at HK0_2.out
 have hub := own_leq hOu
 obtain ⟨au, capu, rfl⟩ := isSl_of hOu
 have HOu_2 := Lib.hid hOu
 clear hOu
 have hvb := own_leq hOv
 obtain ⟨av, capv, rfl⟩ := isSl_of hOv
 have HOv_2 := Lib.hid hOv
 clear hOv
 have hyb := own_leq hOy
 obtain ⟨ay, capy, rfl⟩ := isSl_of hOy
 have HOy_2 := Lib.hid hOy
 clear hOy
 have hnu6 := ne_own (k := w2.heap.size) HOu_2.out (by omega)
 have hnv6 := ne_own (k := w2.heap.size) HOv_2.out (by omega)
 have hny6 := ne_own (k := w2.heap.size) HOy_2.out (by omega)
 go_wp2_with fail
 refine (w_specPlanFor n _ _ _ st sd cc _ (reads_of_owns (by repeat (with_reducible first | exact HOu_2.out | apply qOa | (apply qOs; case hk => first | assumption | exact qOn HOu_2.out (by first | omega | (simp; omega)) | exact qOl HOu_2.out (by omega)) | apply qOd | apply qOe)) (by omega)) (reads_of_owns (by repeat (with_reducible first | exact HOv_2.out | apply qOa | (apply qOs; case hk => first | assumption | exact qOn HOv_2.out (by first | omega | (simp; omega)) | exact qOl HOv_2.out (by omega)) | apply qOd | apply qOe)) (by omega)) (reads_of_owns (by repeat (with_reducible first | exact HOy_2.out | apply qOa | (apply qOs; case hk => first | assumption | exact qOn HOy_2.out (by first | omega | (simp; omega)) | exact qOl HOy_2.out (by omega)) | apply qOd | apply qOe)) (by omega))).mono ?_
 rintro e w3 ⟨al, ll, kl, rfl, hL, hOl⟩
 have hz3 : w2.heap.size ≤ w3.heap.size := Nat.le_trans (by first | (simp; done) | (simp; omega)) hL.size
 have hD3 : Drawn w w3 k := Drawn.later (by repeat (with_reducible first | assumption | exact qDr | refine qDa ?_ | refine qDd ?_ | refine qDe ?_ | refine qDs ?_)) hL
 have hS3 : Src w3 k c := Src.later (by repeat (with_reducible first | assumption | refine qSa ?_ | refine qSd ?_ | refine qSe ?_ | refine qSs ?_)) hL
 have HK0_3 := Lib.hid (hL.keep (k := w.heap.size) (by repeat (with_reducible first | exact HK0_2.out | exact heap_alloc_new _ _ | (apply qK; first | rfl | (simp; done)) | apply qKo | apply qk0 | apply qk1 | apply qk2 | apply qk3 | apply qk4 | apply qk5 | apply qk6 | apply qk7 | apply qk8 | (apply qKs; case hne => omega))))
 have HK6_3 := Lib.hid (hL.keep (k := w2.heap.size) (by repeat (with_reducible first | exact HK6_2.out | exact heap_alloc_new _ _ | (apply qK; first | rfl | (simp; done)) | apply qKo | apply qk0 | apply qk1 | apply qk2 | apply qk3 | apply qk4 | apply qk5 | apply qk6 | apply qk7 | apply qk8 | (apply qKs; case hne => omega))))
 have HOu_3 := Lib.hid (owns_later (by repeat (with_reducible first | exact HOu_2.out | apply qOa | (apply qOs; case hk => first | assumption | exact qOn HOu_2.out (by first | omega | (simp; omega)) | exact qOl HOu_2.out (by omega)) | apply qOd | apply qOe)) hL)
 have HOv_3 := Lib.hid (owns_later (by repeat (with_reducible first | exact HOv_2.out | apply qOa | (apply qOs; case hk => first | assumption | exact qOn HOv_2.out (by first | omega | (simp; omega)) | exact qOl HOv_2.out (by omega)) | apply qOd | apply qOe)) hL)
 have HOy_3 := Lib.hid (owns_later (by repeat (with_reducible first | exact HOy_2.out | apply qOa | (apply qOs; case hk => first | assumption | exact qOn HOy_2.out (by first | omega | (simp; omega)) | exact qOl HOy_2.out (by omega)) | apply qOd | apply qOe)) hL)
 clear hL c0 f0
 obtain ⟨c0, f0, z0_3⟩ := blk_at HK0_3.out
 obtain ⟨c6, f6, z6_3⟩ := blk_at HK6_3.out
 obtain ⟨pl, hpl⟩ : ∃ p, planFor ⟨n, st, sd⟩ cc = p := ⟨_, rfl⟩
 have hp17 : pl.length ≤ 17 := by have := planFor_len ⟨n, st, sd⟩ cc; rw [hpl] at this; exact this
 rw [hpl] at hOl
 clear hpl
 obtain ⟨al', capl, hq⟩ := isSl_of hOl
 cases hq
 obtain ⟨hcap0, hcapl⟩ := own_cap0 hOl
 have HOl_3 := Lib.hid (owns_base (base' := w2.heap.size + 1) hOl (by simp))
 clear hOl
 by_cases hcd : codePlan ⟨n, st, sd⟩ cc = 0
 rotate_left
 · skip
   have hcb : (codePlan ⟨n, st, sd⟩ cc == 0) = false := by simpa using hcd
   go_wp2
   refine bodyPost_ret (v := .tuple #[.agg #[.int .i64 n, .slice au st.length capu, .slice av sd.length capv], .slice ay cc.length capy, .slice al pl.length kl]) (by simp [results, Tryz.results15, go_sem, c0, z0_3]) rfl ⟨n, _, _, st, sd, _, cc, _, pl, rfl, owns_base (base := w1.heap.size) (by repeat (with_reducible first | exact HOu_3.out | apply qOa | (apply qOs; case hk => first | assumption | exact qOn HOu_3.out (by first | omega | (simp; omega)) | exact qOl HOu_3.out (by omega)) | apply qOd | apply qOe)) (by omega), owns_base (base := w1.heap.size) (by repeat (with_reducible first | exact HOv_3.out | apply qOa | (apply qOs; case hk => first | assumption | exact qOn HOv_3.out (by first | omega | (simp; omega)) | exact qOl HOv_3.out (by omega)) | apply qOd | apply qOe)) (by omega), hu5, hv5, owns_base (base := w1.heap.size) (by repeat (with_reducible first | exact HOy_3.out | apply qOa | (apply qOs; case hk => first | assumption | exact qOn HOy_3.out (by first | omega | (simp; omega)) | exact qOl HOy_3.out (by omega)) | apply qOd | apply qOe)) (by omega), hc7, owns_base (base := w2.heap.size + 1) (by repeat (with_reducible first | exact HOl_3.out | apply qOa | (apply qOs; case hk => first | assumption | exact qOn HOl_3.out (by first | omega | (simp; omega)) | exact qOl HOl_3.out (by omega)) | apply qOd | apply qOe)) (by omega), by first | omega | (simp; omega), Later.drawn (k := k) (Later.refl w) (by omega) (by repeat (with_reducible first | assumption | exact qDr | refine qDa ?_ | refine qDd ?_ | refine qDe ?_ | refine qDs ?_))⟩
 · skip
   rw [hcd]
   go_wp2_with fail
   refine (w_l01Next k c 5 _ (by repeat (with_reducible first | assumption | refine qSa ?_ | refine qSd ?_ | refine qSe ?_ | refine qSs ?_))).mono ?_
   rintro e w4 ⟨x4, rfl, x4a, x4b, hD, hS4⟩
   have hz4 : w3.heap.size ≤ w4.heap.size := Nat.le_trans (by first | (simp; done) | (simp; omega)) hD.size
   have hD4 : Drawn w w4 k := Drawn.trans (by repeat (with_reducible first | assumption | exact qDr | refine qDa ?_ | refine qDd ?_ | refine qDe ?_ | refine qDs ?_)) hD
   have HK0_4 := Lib.hid (hD.keep (j := w.heap.size) (by repeat (with_reducible first | exact HK0_3.out | exact heap_alloc_new _ _ | (apply qK; first | rfl | (simp; done)) | apply qKo | apply qk0 | apply qk1 | apply qk2 | apply qk3 | apply qk4 | apply qk5 | apply qk6 | apply qk7 | apply qk8 | (apply qKs; case hne => omega))) (by omega))
   have HK6_4 := Lib.hid (hD.keep (j := w2.heap.size) (by repeat (with_reducible first | exact HK6_3.out | exact heap_alloc_new _ _ | (apply qK; first | rfl | (simp; done)) | apply qKo | apply qk0 | apply qk1 | apply qk2 | apply qk3 | apply qk4 | apply qk5 | apply qk6 | apply qk7 | apply qk8 | (apply qKs; case hne => omega))) (by omega))
   have HOu_4 := Lib.hid (hD.owns (by repeat (with_reducible first | exact HOu_3.out | apply qOa | (apply qOs; case hk => first | assumption | exact qOn HOu_3.out (by first | omega | (simp; omega)) | exact qOl HOu_3.out (by omega)) | apply qOd | apply qOe)) (by omega))
   have HOv_4 := Lib.hid (hD.owns (by repeat (with_reducible first | exact HOv_3.out | apply qOa | (apply qOs; case hk => first | assumption | exact qOn HOv_3.out (by first | omega | (simp; omega)) | exact qOl HOv_3.out (by omega)) | apply qOd | apply qOe)) (by omega))
   have HOy_4 := Lib.hid (hD.owns (by repeat (with_reducible first | exact HOy_3.out | apply qOa | (apply qOs; case hk => first | assumption | exact qOn HOy_3.out (by first | omega | (simp; omega)) | exact qOl HOy_3.out (by omega)) | apply qOd | apply qOe)) (by omega))
   have HOl_4 := Lib.hid (hD.owns (by repeat (with_reducible first | exact HOl_3.out | apply qOa | (apply qOs; case hk => first | assumption | exact qOn HOl_3.out (by first | omega | (simp; omega)) | exact qOl HOl_3.out (by omega)) | apply qOd | apply qOe)) (by omega))
   clear hD c0 f0 c6 f6
   obtain ⟨c0, f0, z0_4⟩ := blk_at HK0_4.out
   obtain ⟨c6, f6, z6_4⟩ := blk_at HK6_4.out
   by_cases hq0 : x4 = 0
   · skip
     subst hq0
     go_wp2_with fail
     refine (w_l01Next k c (pl.length : Int) _ (by repeat (with_reducible first | assumption | refine qSa ?_ | refine qSd ?_ | refine qSe ?_ | refine qSs ?_))).mono ?_
     rintro e w5 ⟨x5, rfl, x5a, x5b, hD, hS5⟩
     have hz5 : w4.heap.size ≤ w5.heap.size := Nat.le_trans (by first | (simp; done) | (simp; omega)) hD.size
     have hD5 : Drawn w w5 k := Drawn.trans (by repeat (with_reducible first | assumption | exact qDr | refine qDa ?_ | refine qDd ?_ | refine qDe ?_ | refine qDs ?_)) hD
     have HK0_5 := Lib.hid (hD.keep (j := w.heap.size) (by repeat (with_reducible first | exact HK0_4.out | exact heap_alloc_new _ _ | (apply qK; first | rfl | (simp; done)) | apply qKo | apply qk0 | apply qk1 | apply qk2 | apply qk3 | apply qk4 | apply qk5 | apply qk6 | apply qk7 | apply qk8 | (apply qKs; case hne => omega))) (by omega))
     have HK6_5 := Lib.hid (hD.keep (j := w2.heap.size) (by repeat (with_reducible first | exact HK6_4.out | exact heap_alloc_new _ _ | (apply qK; first | rfl | (simp; done)) | apply qKo | apply qk0 | apply qk1 | apply qk2 | apply qk3 | apply qk4 | apply qk5 | apply qk6 | apply qk7 | apply qk8 | (apply qKs; case hne => omega))) (by omega))
     have HOu_5 := Lib.hid (hD.owns (by repeat (with_reducible first | exact HOu_4.out | apply qOa | (apply qOs; case hk => first | assumption | exact qOn HOu_4.out (by first | omega | (simp; omega)) | exact qOl HOu_4.out (by omega)) | apply qOd | apply qOe)) (by omega))
     have HOv_5 := Lib.hid (hD.owns (by repeat (with_reducible first | exact HOv_4.out | apply qOa | (apply qOs; case hk => first | assumption | exact qOn HOv_4.out (by first | omega | (simp; omega)) | exact qOl HOv_4.out (by omega)) | apply qOd | apply qOe)) (by omega))
     have HOy_5 := Lib.hid (hD.owns (by repeat (with_reducible first | exact HOy_4.out | apply qOa | (apply qOs; case hk => first | assumption | exact qOn HOy_4.out (by first | omega | (simp; omega)) | exact qOl HOy_4.out (by omega)) | apply qOd | apply qOe)) (by omega))
     have HOl_5 := Lib.hid (hD.owns (by repeat (with_reducible first | exact HOl_4.out | apply qOa | (apply qOs; case hk => first | assumption | exact qOn HOl_4.out (by first | omega | (simp; omega)) | exact qOl HOl_4.out (by omega)) | apply qOd | apply qOe)) (by omega))
     clear hD c0 f0 c6 f6
     obtain ⟨c0, f0, z0_5⟩ := blk_at HK0_5.out
     obtain ⟨c6, f6, z6_5⟩ := blk_at HK6_5.out
     obtain ⟨j, rfl⟩ : ∃ j : Nat, x5 = j := ⟨x5.toNat, by omega⟩
     have hjl : j ≤ pl.length := by omega
     have HT := Lib.hid (own_movs_take HOl_5.out rfl hjl hcap0)
     have hle : ((j : Int) ≤ (kl : Int)) = True := by simp; omega
     have hnl0 := ne_low (k := w.heap.size) HT.out (by omega)
     go_wp2
     refine bodyPost_ret (v := .tuple #[.agg #[.int .i64 n, .slice au st.length capu, .slice av sd.length capv], .slice ay cc.length capy, .slice al j kl]) (by simp [results, Tryz.results15, go_sem, c0, z0_5]) rfl ⟨n, _, _, st, sd, _, cc, _, (pl.take j), rfl, owns_base (base := w1.heap.size) (by repeat (with_reducible first | exact HOu_5.out | apply qOa | (apply qOs; case hk => first | assumption | exact qOn HOu_5.out (by first | omega | (simp; omega)) | exact qOl HOu_5.out (by omega)) | apply qOd | apply qOe)) (by omega), owns_base (base := w1.heap.size) (by repeat (with_reducible first | exact HOv_5.out | apply qOa | (apply qOs; case hk => first | assumption | exact qOn HOv_5.out (by first | omega | (simp; omega)) | exact qOl HOv_5.out (by omega)) | apply qOd | apply qOe)) (by omega), hu5, hv5, owns_base (base := w1.heap.size) (by repeat (with_reducible first | exact HOy_5.out | apply qOa | (apply qOs; case hk => first | assumption | exact qOn HOy_5.out (by first | omega | (simp; omega)) | exact qOl HOy_5.out (by omega)) | apply qOd | apply qOe)) (by omega), hc7, owns_base (base := w2.heap.size + 1) (by repeat (with_reducible first | exact HT.out | apply qOa | (apply qOs; case hk => first | assumption | exact qOn HT.out (by first | omega | (simp; omega)) | exact qOl HT.out (by omega)) | apply qOd | apply qOe)) (by omega), by first | omega | (simp; omega), Later.drawn (k := k) (Later.refl w) (by omega) (by repeat (with_reducible first | assumption | exact qDr | refine qDa ?_ | refine qDd ?_ | refine qDe ?_ | refine qDs ?_))⟩
   have hb0 : (x4 == 0) = false := by simpa using hq0
   by_cases hq1 : x4 = 1
   · skip
     subst hq1
     go_wp2_with fail
     refine (w_l12DrawMove k c n _ _ st sd _ (by repeat (with_reducible first | assumption | refine qSa ?_ | refine qSd ?_ | refine qSe ?_ | refine qSs ?_)) (reads_of_owns (by repeat (with_reducible first | exact HOu_4.out | apply qOa | (apply qOs; case hk => first | assumption | exact qOn HOu_4.out (by first | omega | (simp; omega)) | exact qOl HOu_4.out (by omega)) | apply qOd | apply qOe)) (by omega)) (reads_of_owns (by repeat (with_reducible first | exact HOv_4.out | apply qOa | (apply qOs; case hk => first | assumption | exact qOn HOv_4.out (by first | omega | (simp; omega)) | exact qOl HOv_4.out (by omega)) | apply qOd | apply qOe)) (by omega)) (allIn_own HOu_4.out (by omega)) (allIn_own HOv_4.out (by omega))).mono ?_
     rintro e w5 ⟨m, rfl, hD, hS5⟩
     have hz5 : w4.heap.size ≤ w5.heap.size := Nat.le_trans (by first | (simp; done) | (simp; omega)) hD.size
     have hD5 : Drawn w w5 k := Drawn.trans (by repeat (with_reducible first | assumption | exact qDr | refine qDa ?_ | refine qDd ?_ | refine qDe ?_ | refine qDs ?_)) hD
     have HK0_5 := Lib.hid (hD.keep (j := w.heap.size) (by repeat (with_reducible first | exact HK0_4.out | exact heap_alloc_new _ _ | (apply qK; first | rfl | (simp; done)) | apply qKo | apply qk0 | apply qk1 | apply qk2 | apply qk3 | apply qk4 | apply qk5 | apply qk6 | apply qk7 | apply qk8 | (apply qKs; case hne => omega))) (by omega))
     have HK6_5 := Lib.hid (hD.keep (j := w2.heap.size) (by repeat (with_reducible first | exact HK6_4.out | exact heap_alloc_new _ _ | (apply qK; first | rfl | (simp; done)) | apply qKo | apply qk0 | apply qk1 | apply qk2 | apply qk3 | apply qk4 | apply qk5 | apply qk6 | apply qk7 | apply qk8 | (apply qKs; case hne => omega))) (by omega))
     have HOu_5 := Lib.hid (hD.owns (by repeat (with_reducible first | exact HOu_4.out | apply qOa | (apply qOs; case hk => first | assumption | exact qOn HOu_4.out (by first | omega | (simp; omega)) | exact qOl HOu_4.out (by omega)) | apply qOd | apply qOe)) (by omega))
     have HOv_5 := Lib.hid (hD.owns (by repeat (with_reducible first | exact HOv_4.out | apply qOa | (apply qOs; case hk => first | assumption | exact qOn HOv_4.out (by first | omega | (simp; omega)) | exact qOl HOv_4.out (by omega)) | apply qOd | apply qOe)) (by omega))
     have HOy_5 := Lib.hid (hD.owns (by repeat (with_reducible first | exact HOy_4.out | apply qOa | (apply qOs; case hk => first | assumption | exact qOn HOy_4.out (by first | omega | (simp; omega)) | exact qOl HOy_4.out (by omega)) | apply qOd | apply qOe)) (by omega))
     have HOl_5 := Lib.hid (hD.owns (by repeat (with_reducible first | exact HOl_4.out | apply qOa | (apply qOs; case hk => first | assumption | exact qOn HOl_4.out (by first | omega | (simp; omega)) | exact qOl HOl_4.out (by omega)) | apply qOd | apply qOe)) (by omega))
     clear hD c0 f0 c6 f6
     obtain ⟨c0, f0, z0_5⟩ := blk_at HK0_5.out
     obtain ⟨c6, f6, z6_5⟩ := blk_at HK6_5.out
     have hzB : w2.heap.size + 1 ≤ w5.heap.size := by omega
     have hlt : ∀ j, j < w2.heap.size + 1 → (Value.slice al pl.length kl).ownBlock ≠ some j := fun j hj e => by have := (HOl_5.out.lt j e).1; omega
     go_wp2_with (at_builtin; refine app1_Move rfl (.tmp 37) (.tmp 41) rfl (w2.heap.size + 1) _ pl m rfl HOl_5.out (by simp [Act.eval, Array.getD]) (by omega) hzB ?_; intro v50 w50 ho50 hg50; clear c0 f0 c6 f6; have HK0_50 := Lib.hid (grown_keep hg50 HK0_5.out (hlt _ (by omega))); have HK6_50 := Lib.hid (grown_keep hg50 HK6_5.out (hlt _ (by omega))); obtain ⟨c0, f0, z0_50⟩ := blk_at HK0_50.out; obtain ⟨c6, f6, z6_50⟩ := blk_at HK6_50.out; obtain ⟨nn, hnn⟩ : ∃ n, (pl ++ [m]).length = n := ⟨_, rfl⟩; have HNN := Lib.hid hnn; rw [hnn] at ho50; clear hnn; obtain ⟨a50, c50, rfl⟩ := isSl_of ho50)
     have hz50 := hg50.size
     have HOu_50 := Lib.hid (rows_grown HOu_5.out hg50 fun j hj => hlt j (by have := hub j hj; omega))
     have HOv_50 := Lib.hid (rows_grown HOv_5.out hg50 fun j hj => hlt j (by have := hvb j hj; omega))
     have HOy_50 := Lib.hid (rows_grown HOy_5.out hg50 fun j hj => hlt j (by have := hyb j hj; omega))
     have hD50 := hD5.own (base := w2.heap.size + 1) (by omega) HOl_5.out hg50
     have HOl_50 := Lib.hid ho50
     have hN18 : nn ≤ 18 := by have := HNN.out; simp at this; omega
     refine bodyPost_ret (v := .tuple #[.agg #[.int .i64 n, .slice au st.length capu, .slice av sd.length capv], .slice ay cc.length capy, .slice a50 nn c50]) (by simp [results, Tryz.results15, go_sem, c0, z0_50]) rfl ⟨n, _, _, st, sd, _, cc, _, pl ++ [m], rfl, owns_base (base := w1.heap.size) (by repeat (with_reducible first | exact HOu_50.out | apply qOa | (apply qOs; case hk => first | assumption | exact qOn HOu_50.out (by first | omega | (simp; omega)) | exact qOl HOu_50.out (by omega)) | apply qOd | apply qOe)) (by omega), owns_base (base := w1.heap.size) (by repeat (with_reducible first | exact HOv_50.out | apply qOa | (apply qOs; case hk => first | assumption | exact qOn HOv_50.out (by first | omega | (simp; omega)) | exact qOl HOv_50.out (by omega)) | apply qOd | apply qOe)) (by omega), hu5, hv5, owns_base (base := w1.heap.size) (by repeat (with_reducible first | exact HOy_50.out | apply qOa | (apply qOs; case hk => first | assumption | exact qOn HOy_50.out (by first | omega | (simp; omega)) | exact qOl HOy_50.out (by omega)) | apply qOd | apply qOe)) (by omega), hc7, ?_, by rw [HNN.out]; exact hN18, Later.drawn (k := k) (Later.refl w) (by omega) (by repeat (with_reducible first | assumption | exact qDr | refine qDa ?_ | refine qDd ?_ | refine qDe ?_ | refine qDs ?_))⟩
     rw [HNN.out]
     exact owns_base (base := w2.heap.size + 1) (by repeat (with_reducible first | exact HOl_50.out | apply qOa | (apply qOs; case hk => first | assumption | exact qOn HOl_50.out (by first | omega | (simp; omega)) | exact qOl HOl_50.out (by omega)) | apply qOd | apply qOe)) (by omega)
   have hb1 : (x4 == 1) = false := by simpa using hq1
   by_cases hq2 : x4 = 2
   · skip
     subst hq2
     by_cases hl1 : 1 < pl.length
     rotate_left
     · skip
       go_wp2
       refine bodyPost_ret (v := .tuple #[.agg #[.int .i64 n, .slice au st.length capu, .slice av sd.length capv], .slice ay cc.length capy, .slice al pl.length kl]) (by simp [results, Tryz.results15, go_sem, c0, z0_4]) rfl ⟨n, _, _, st, sd, _, cc, _, pl, rfl, owns_base (base := w1.heap.size) (by repeat (with_reducible first | exact HOu_4.out | apply qOa | (apply qOs; case hk => first | assumption | exact qOn HOu_4.out (by first | omega | (simp; omega)) | exact qOl HOu_4.out (by omega)) | apply qOd | apply qOe)) (by omega), owns_base (base := w1.heap.size) (by repeat (with_reducible first | exact HOv_4.out | apply qOa | (apply qOs; case hk => first | assumption | exact qOn HOv_4.out (by first | omega | (simp; omega)) | exact qOl HOv_4.out (by omega)) | apply qOd | apply qOe)) (by omega), hu5, hv5, owns_base (base := w1.heap.size) (by repeat (with_reducible first | exact HOy_4.out | apply qOa | (apply qOs; case hk => first | assumption | exact qOn HOy_4.out (by first | omega | (simp; omega)) | exact qOl HOy_4.out (by omega)) | apply qOd | apply qOe)) (by omega), hc7, owns_base (base := w2.heap.size + 1) (by repeat (with_reducible first | exact HOl_4.out | apply qOa | (apply qOs; case hk => first | assumption | exact qOn HOl_4.out (by first | omega | (simp; omega)) | exact qOl HOl_4.out (by omega)) | apply qOd | apply qOe)) (by omega), by first | omega | (simp; omega), Later.drawn (k := k) (Later.refl w) (by omega) (by repeat (with_reducible first | assumption | exact qDr | refine qDa ?_ | refine qDd ?_ | refine qDe ?_ | refine qDs ?_))⟩
     · skip
       go_wp2_with fail
       refine (w_l12DrawMove k c n _ _ st sd _ (by repeat (with_reducible first | assumption | refine qSa ?_ | refine qSd ?_ | refine qSe ?_ | refine qSs ?_)) (reads_of_owns (by repeat (with_reducible first | exact HOu_4.out | apply qOa | (apply qOs; case hk => first | assumption | exact qOn HOu_4.out (by first | omega | (simp; omega)) | exact qOl HOu_4.out (by omega)) | apply qOd | apply qOe)) (by omega)) (reads_of_owns (by repeat (with_reducible first | exact HOv_4.out | apply qOa | (apply qOs; case hk => first | assumption | exact qOn HOv_4.out (by first | omega | (simp; omega)) | exact qOl HOv_4.out (by omega)) | apply qOd | apply qOe)) (by omega)) (allIn_own HOu_4.out (by omega)) (allIn_own HOv_4.out (by omega))).mono ?_
       rintro e w5 ⟨m, rfl, hD, hS5⟩
       have hz5 : w4.heap.size ≤ w5.heap.size := Nat.le_trans (by first | (simp; done) | (simp; omega)) hD.size
       have hD5 : Drawn w w5 k := Drawn.trans (by repeat (with_reducible first | assumption | exact qDr | refine qDa ?_ | refine qDd ?_ | refine qDe ?_ | refine qDs ?_)) hD
       have HK0_5 := Lib.hid (hD.keep (j := w.heap.size) (by repeat (with_reducible first | exact HK0_4.out | exact heap_alloc_new _ _ | (apply qK; first | rfl | (simp; done)) | apply qKo | apply qk0 | apply qk1 | apply qk2 | apply qk3 | apply qk4 | apply qk5 | apply qk6 | apply qk7 | apply qk8 | (apply qKs; case hne => omega))) (by omega))
       have HK6_5 := Lib.hid (hD.keep (j := w2.heap.size) (by repeat (with_reducible first | exact HK6_4.out | exact heap_alloc_new _ _ | (apply qK; first | rfl | (simp; done)) | apply qKo | apply qk0 | apply qk1 | apply qk2 | apply qk3 | apply qk4 | apply qk5 | apply qk6 | apply qk7 | apply qk8 | (apply qKs; case hne => omega))) (by omega))
       have HOu_5 := Lib.hid (hD.owns (by repeat (with_reducible first | exact HOu_4.out | apply qOa | (apply qOs; case hk => first | assumption | exact qOn HOu_4.out (by first | omega | (simp; omega)) | exact qOl HOu_4.out (by omega)) | apply qOd | apply qOe)) (by omega))
       have HOv_5 := Lib.hid (hD.owns (by repeat (with_reducible first | exact HOv_4.out | apply qOa | (apply qOs; case hk => first | assumption | exact qOn HOv_4.out (by first | omega | (simp; omega)) | exact qOl HOv_4.out (by omega)) | apply qOd | apply qOe)) (by omega))
       have HOy_5 := Lib.hid (hD.owns (by repeat (with_reducible first | exact HOy_4.out | apply qOa | (apply qOs; case hk => first | assumption | exact qOn HOy_4.out (by first | omega | (simp; omega)) | exact qOl HOy_4.out (by omega)) | apply qOd | apply qOe)) (by omega))
       have HOl_5 := Lib.hid (hD.owns (by repeat (with_reducible first | exact HOl_4.out | apply qOa | (apply qOs; case hk => first | assumption | exact qOn HOl_4.out (by first | omega | (simp; omega)) | exact qOl HOl_4.out (by omega)) | apply qOd | apply qOe)) (by omega))
       clear hD c0 f0 c6 f6
       obtain ⟨c0, f0, z0_5⟩ := blk_at HK0_5.out
       obtain ⟨c6, f6, z6_5⟩ := blk_at HK6_5.out
       rcases own_shape HOl_5.out with ⟨h1, _, _⟩ | ⟨gg, _, h1, hgb, hgs, _, _⟩
       · have e := (Value.slice.inj h1).2
         omega
       cases h1
       match pl, hl1, hp17, hcapl, HOl_5 with
       | [], hl1, _, _, _ => simp at hl1
       | [_], hl1, _, _, _ => simp at hl1
       | pa :: pb :: pr, hl1, hp17, hcapl, HOl =>
        obtain ⟨np, hnp⟩ : ∃ n, (pa :: pb :: pr).length = n := ⟨_, rfl⟩
        have HNP := Lib.hid hnp
        have HO := Lib.hid (show w5.ownsRow (w2.heap.size + 1) 88 4 (.slice (some ⟨gg, 0, none⟩) np kl) np (movs (pa :: pb :: pr)) from hnp ▸ HOl.out)
        rw [hnp] at hl1 hp17 hcapl ⊢
        clear hnp HOl
        have e4 := HO.out.cellAt 4 (by omega)
        have e5 := HO.out.cellAt 5 (by omega)
        have e6 := HO.out.cellAt 6 (by omega)
        have e7 := HO.out.cellAt 7 (by omega)
        simp [movs, Mov.cells] at e4 e5 e6 e7
        have fz := fun j => HO.out.frozenAt j
        have HS := Lib.hid (own_setMov1 (m := m) HO.out)
        have hnug : (Value.slice au st.length capu).ownBlock ≠ some gg := fun e => by have := hub _ e; omega
        have hnvg : (Value.slice av sd.length capv).ownBlock ≠ some gg := fun e => by have := hvb _ e; omega
        have hnyg : (Value.slice ay cc.length capy).ownBlock ≠ some gg := fun e => by have := hyb _ e; omega
        have hnl0 := ne_low (k := w.heap.size) HS.out (by omega)
        go_wp2
        refine bodyPost_ret (v := .tuple #[.agg #[.int .i64 n, .slice au st.length capu, .slice av sd.length capv], .slice ay cc.length capy, .slice (some ⟨gg, 0, none⟩) np kl]) (by simp [results, Tryz.results15, go_sem, c0, z0_5, show w.heap.size ≠ gg from by omega]) rfl ⟨n, _, _, st, sd, _, cc, _, pa :: m :: pr, rfl, owns_base (base := w1.heap.size) (by repeat (with_reducible first | exact HOu_5.out | apply qOa | (apply qOs; case hk => first | assumption | exact qOn HOu_5.out (by first | omega | (simp; omega)) | exact qOl HOu_5.out (by omega)) | apply qOd | apply qOe)) (by omega), owns_base (base := w1.heap.size) (by repeat (with_reducible first | exact HOv_5.out | apply qOa | (apply qOs; case hk => first | assumption | exact qOn HOv_5.out (by first | omega | (simp; omega)) | exact qOl HOv_5.out (by omega)) | apply qOd | apply qOe)) (by omega), hu5, hv5, owns_base (base := w1.heap.size) (by repeat (with_reducible first | exact HOy_5.out | apply qOa | (apply qOs; case hk => first | assumption | exact qOn HOy_5.out (by first | omega | (simp; omega)) | exact qOl HOy_5.out (by omega)) | apply qOd | apply qOe)) (by omega), hc7, ?_, ?_, Later.drawn (k := k) (Later.refl w) (by omega) (by repeat (with_reducible first | assumption | exact qDr | refine qDa ?_ | refine qDd ?_ | refine qDe ?_ | refine qDs ?_))⟩
        · rw [show (pa :: m :: pr).length = np from HNP.out]
          exact owns_base (base := w2.heap.size + 1) (by repeat (with_reducible first | exact HS.out | apply qOa | (apply qOs; case hk => first | assumption | exact qOn HS.out (by first | omega | (simp; omega)) | exact qOl HS.out (by omega)) | apply qOd | apply qOe)) (by omega)
        · rw [show (pa :: m :: pr).length = np from HNP.out]
          omega
   have hb2 : (x4 == 2) = false := by simpa using hq2
   go_wp2
   refine bodyPost_ret (v := .tuple #[.agg #[.int .i64 n, .slice au st.length capu, .slice av sd.length capv], .slice ay cc.length capy, .slice al pl.length kl]) (by simp [results, Tryz.results15, go_sem, c0, z0_4]) rfl ⟨n, _, _, st, sd, _, cc, _, pl, rfl, owns_base (base := w1.heap.size) (by repeat (with_reducible first | exact HOu_4.out | apply qOa | (apply qOs; case hk => first | assumption | exact qOn HOu_4.out (by first | omega | (simp; omega)) | exact qOl HOu_4.out (by omega)) | apply qOd | apply qOe)) (by omega), owns_base (base := w1.heap.size) (by repeat (with_reducible first | exact HOv_4.out | apply qOa | (apply qOs; case hk => first | assumption | exact qOn HOv_4.out (by first | omega | (simp; omega)) | exact qOl HOv_4.out (by omega)) | apply qOd | apply qOe)) (by omega), hu5, hv5, owns_base (base := w1.heap.size) (by repeat (with_reducible first | exact HOy_4.out | apply qOa | (apply qOs; case hk => first | assumption | exact qOn HOy_4.out (by first | omega | (simp; omega)) | exact qOl HOy_4.out (by omega)) | apply qOd | apply qOe)) (by omega), hc7, owns_base (base := w2.heap.size + 1) (by repeat (with_reducible first | exact HOl_4.out | apply qOa | (apply qOs; case hk => first | assumption | exact qOn HOl_4.out (by first | omega | (simp; omega)) | exact qOl HOl_4.out (by omega)) | apply qOd | apply qOe)) (by omega), by first | omega | (simp; omega), Later.drawn (k := k) (Later.refl w) (by omega) (by repeat (with_reducible first | assumption | exact qDr | refine qDa ?_ | refine qDd ?_ | refine qDe ?_ | refine qDs ?_))⟩
end Go.Proofs.YtkoojngonldcbaaGreat
