/- DERIVED. Walks: draws of chains with digits. -/
import Derived.Test.YtkoojngonldcbaaM103
import Derived.Test.YtkoojngonldcbaaM104
import Derived.Test.YtkoojngonldcbaaM24
namespace Go.Proofs.Ytkoojngonldcbaa
set_option linter.unusedVariables false
set_option linter.unusedSimpArgs false
open Go.RowKit
set_option maxRecDepth 100000

/-- A slice of n numbers of its own, in a block from B on. -/
def NewS (w : World) (B : Nat) (v : Value) (n : Nat) : Prop := ∃ (b : Nat) (xs : List Int), v = .slice (some ⟨b, 0, none⟩) n n ∧ B ≤ b ∧ xs.length = n ∧ IsNums w v xs
theorem NewS.keep {w w' : World} {B n : Nat} {v : Value} (h : NewS w B v n) (hz : w.heap.size ≤ w'.heap.size) (hb : ∀ b, B ≤ b → b < w.heap.size → w'.heap[b]? = w.heap[b]?) : NewS w' B v n := by
  obtain ⟨b, xs, rfl, hne, hl, hr⟩ := h
  refine ⟨b, xs, rfl, hne, hl, rd_keep hr hz ?_⟩
  intro b' off n' c' e h0
  cases e
  refine hb b hne ?_
  obtain ⟨_, _, a, cap, he, _, _, hrow⟩ := hr
  obtain ⟨b2, off2, rfl, hrw⟩ := hrow (by omega)
  cases he
  exact hrw.1
theorem NewS.drawn {w w' : World} {B n k : Nat} {v : Value} (h : NewS w B v n) (hd : Drawn w w' k) (hk : k < B) : NewS w' B v n :=
  h.keep hd.size fun b hb hlt => hd.block b hlt fun e => by cases e; omega
theorem NewS.later {w w' : World} {B n : Nat} {v : Value} (h : NewS w B v n) (hl : Later w w') : NewS w' B v n :=
  h.keep hl.size fun b _ hlt => hl.heap hlt
theorem NewS.setCell {w : World} {B n : Nat} {v : Value} (h : NewS w B v n) {j : Nat} (hj : j < B) (o : Nat) (x : Value) : NewS (w.setCell ⟨j, o, none⟩ x) B v n :=
  h.keep (by simp) fun b hb hlt => (grown_setCell (grown_refl w (some j)) o x).block b hlt (fun e => by cases e; omega)
theorem NewS.mk {w : World} {B : Nat} (hB : B ≤ w.heap.size) (xs : List Int) (hx : xs.length ≤ 1048576) : NewS (w.alloc (.cells (nums xs).toArray 2)) B (.slice (some ⟨w.heap.size, 0, none⟩) xs.length xs.length) xs.length :=
  ⟨w.heap.size, xs, rfl, hB, rfl, reads_new w xs hx⟩
theorem w_l01Pick' (k B : Nat) (c v : Value) (n : Nat) (w : World) (h : Src w k c) (hv : NewS w B v n) (hk : k < B) (h0 : 0 < n) :
    Calls Try.prog 96 #[.pointer (some ⟨k, 0, none⟩), v] w fun e w' => ∃ x : Int, e = .returned (.int .i64 x) ∧ Drawn w w' k ∧ Src w' k c := by
  obtain ⟨b, xs, rfl, hne, hl, hr⟩ := hv
  refine (w_l01Pick k c _ xs w h hr (by omega) ?_).mono fun e w' h => ?_
  · intro b' off n' c' e _
    cases e
    omega
  · obtain ⟨x, h1, _, h2, h3⟩ := h
    exact ⟨x, h1, h2, h3⟩

set_option maxHeartbeats 4000000 in
theorem w_DrawCheckDigits (c : Value) (bs : List Int) (w : World) (h : IsByts w c bs) (hB : ∀ b ∈ bs, 0 ≤ b ∧ b ≤ 255) (hl : bs.length ≤ 4096) :
    Calls Try.prog 38 #[c] w fun e w' => ∃ (v : Value) (l : List Trm) (f : Fig) (u : Int), e = .returned (.tuple #[v, .agg #[.int .i64 f.d, .int .i64 f.t], .int .i64 u]) ∧ w'.ownsRow w.heap.size 55 3 v l.length (trms l) ∧ l.length ≤ 7 ∧ Later w w' := by
  go_enter Try.func38, Try.ntmps38
  go_wp2_with fail
  refine (w_l01From' c bs _ (h.later (by (repeat (with_reducible first | exact Later.refl _ | refine Later.alloc ?_ _ | refine Later.drew ?_ | refine Later.drewN ?_ _ | refine Later.setCell ?_ (by simp; try omega) _ | refine Later.trans ?_ (by assumption))))) hB hl).mono ?_
  rintro e w1 ⟨k, rfl, hk0, hL1, hS1⟩
  have hk0 : w.heap.size + 1 ≤ k := by simpa using hk0
  have hk := hS1.lt
  have hAc := byts_in h
  have hD1 : Drawn w w1 k := Drawn.later (by repeat (with_reducible first | exact grown_refl _ _ | refine Drawn.alloc ?_ _)) hL1
  have HK0_1 := Lib.hid (hL1.keep (k := w.heap.size) (by repeat (with_reducible first | exact HK0_0.out | exact heap_alloc_new _ _ | apply heap_alloc_old | apply st_0_2 | apply st_1_2 | apply st_0_3 | apply st_1_3 | apply st_2_3 | apply st_0_4 | apply st_1_4 | apply st_2_4 | apply st_3_4 | (apply other_set; case hne => omega) | exact heap_alloc_new' _ _ (by first | rfl | (simp; done)))))
  obtain ⟨c0, f0, z0_1⟩ := blk_at HK0_1.out
  have hz1 := hD1.size
  clear hL1
  go_wp2_with fail
  refine (w_l13Draw k c _ (by repeat (with_reducible first | assumption | refine Src.alloc ?_ _ | refine Src.drew ?_ | refine Src.drewN ?_ _ | refine Src.setCell ?_ (by first | omega | (simp; omega)) _ _))).mono ?_
  rintro e w2 ⟨vr, l, rfl, hO, hl7, hD, hS2⟩
  have hz2 : w1.heap.size ≤ w2.heap.size := Nat.le_trans (by simp) hD.size
  have hD2 : Drawn w w2 k := Drawn.trans (by repeat (with_reducible first | assumption | exact grown_refl _ _ | refine Drawn.alloc ?_ _ | refine Drawn.drew ?_ | refine Drawn.drewN ?_ _ | refine Drawn.setCell ?_ (by first | omega | (simp; omega)) _ _)) hD
  have HK0_2 := Lib.hid (hD.keep (j := w.heap.size) (by repeat (with_reducible first | exact HK0_1.out | exact heap_alloc_new _ _ | apply heap_alloc_old | apply st_0_2 | apply st_1_2 | apply st_0_3 | apply st_1_3 | apply st_2_3 | apply st_0_4 | apply st_1_4 | apply st_2_4 | apply st_3_4 | (apply other_set; case hne => omega) | exact heap_alloc_new' _ _ (by first | rfl | (simp; done)))) (by omega))
  clear hD c0 f0
  obtain ⟨c0, f0, z0_2⟩ := blk_at HK0_2.out
  obtain ⟨ar, capr, rfl⟩ := isSl_of hO
  have HOr_2 := Lib.hid (owns_base (base' := w1.heap.size) hO (by first | omega | (have := hD2.size; have := hD1.size; simp at *; omega)))
  clear hO
  go_wp2_with fail
  refine (w_specChainFigure _ l _ (reads_of_owns (by repeat (with_reducible first | exact HOr_2.out | apply World.ownsRow.alloc | (apply owns_setNe; case hk => first | assumption | exact ne_own HOr_2.out (by first | omega | (simp; omega)) | exact ne_low HOr_2.out (by omega)) | (refine owns_later ?_ (Later.refl _).drew) | (refine owns_later ?_ ((Later.refl _).drewN _)))) (by omega))).mono ?_
  rintro e w3 ⟨rfl, hL⟩
  have hz3 : w2.heap.size ≤ w3.heap.size := Nat.le_trans (by simp) hL.size
  have hD3 : Drawn w w3 k := Drawn.later (by repeat (with_reducible first | assumption | exact grown_refl _ _ | refine Drawn.alloc ?_ _ | refine Drawn.drew ?_ | refine Drawn.drewN ?_ _ | refine Drawn.setCell ?_ (by first | omega | (simp; omega)) _ _)) hL
  have hS3 : Src w3 k c := Src.later (by repeat (with_reducible first | assumption | refine Src.alloc ?_ _ | refine Src.drew ?_ | refine Src.drewN ?_ _ | refine Src.setCell ?_ (by first | omega | (simp; omega)) _ _)) hL
  have HK0_3 := Lib.hid (hL.keep (k := w.heap.size) (by repeat (with_reducible first | exact HK0_2.out | exact heap_alloc_new _ _ | apply heap_alloc_old | apply st_0_2 | apply st_1_2 | apply st_0_3 | apply st_1_3 | apply st_2_3 | apply st_0_4 | apply st_1_4 | apply st_2_4 | apply st_3_4 | (apply other_set; case hne => omega) | exact heap_alloc_new' _ _ (by first | rfl | (simp; done)))))
  have HOr_3 := Lib.hid (owns_later (by repeat (with_reducible first | exact HOr_2.out | apply World.ownsRow.alloc | (apply owns_setNe; case hk => first | assumption | exact ne_own HOr_2.out (by first | omega | (simp; omega)) | exact ne_low HOr_2.out (by omega)) | (refine owns_later ?_ (Later.refl _).drew) | (refine owns_later ?_ ((Later.refl _).drewN _)))) hL)
  clear hL c0 f0
  obtain ⟨c0, f0, z0_3⟩ := blk_at HK0_3.out
  have hnr1 := ne_own (k := w3.heap.size) HOr_3.out (by omega)
  by_cases hc : chainFigC l = 0
  · skip
    go_wp2_with fail
    refine (w_l01Next k c 3 _ (by repeat (with_reducible first | assumption | refine Src.alloc ?_ _ | refine Src.drew ?_ | refine Src.drewN ?_ _ | refine Src.setCell ?_ (by first | omega | (simp; omega)) _ _))).mono ?_
    rintro e w4 ⟨x4, rfl, x4a, x4b, hD, hS4⟩
    have hz4 : w3.heap.size ≤ w4.heap.size := Nat.le_trans (by simp) hD.size
    have hD4 : Drawn w w4 k := Drawn.trans (by repeat (with_reducible first | assumption | exact grown_refl _ _ | refine Drawn.alloc ?_ _ | refine Drawn.drew ?_ | refine Drawn.drewN ?_ _ | refine Drawn.setCell ?_ (by first | omega | (simp; omega)) _ _)) hD
    have HK0_4 := Lib.hid (hD.keep (j := w.heap.size) (by repeat (with_reducible first | exact HK0_3.out | exact heap_alloc_new _ _ | apply heap_alloc_old | apply st_0_2 | apply st_1_2 | apply st_0_3 | apply st_1_3 | apply st_2_3 | apply st_0_4 | apply st_1_4 | apply st_2_4 | apply st_3_4 | (apply other_set; case hne => omega) | exact heap_alloc_new' _ _ (by first | rfl | (simp; done)))) (by omega))
    have HK1_4 := Lib.hid (hD.keep (j := w3.heap.size) (by repeat (with_reducible first | exact HK1_3.out | exact heap_alloc_new _ _ | apply heap_alloc_old | apply st_0_2 | apply st_1_2 | apply st_0_3 | apply st_1_3 | apply st_2_3 | apply st_0_4 | apply st_1_4 | apply st_2_4 | apply st_3_4 | (apply other_set; case hne => omega) | exact heap_alloc_new' _ _ (by first | rfl | (simp; done)))) (by omega))
    have HOr_4 := Lib.hid (hD.owns (by repeat (with_reducible first | exact HOr_3.out | apply World.ownsRow.alloc | (apply owns_setNe; case hk => first | assumption | exact ne_own HOr_3.out (by first | omega | (simp; omega)) | exact ne_low HOr_3.out (by omega)) | (refine owns_later ?_ (Later.refl _).drew) | (refine owns_later ?_ ((Later.refl _).drewN _)))) (by omega))
    clear hD c0 f0
    obtain ⟨c0, f0, z0_4⟩ := blk_at HK0_4.out
    obtain ⟨c1, f1, z1_4⟩ := blk_at HK1_4.out
    by_cases hq : x4 = 0
    · skip
      subst hq
      go_wp2_with fail
      refine (w_l02Draw k c _ (by repeat (with_reducible first | assumption | refine Src.alloc ?_ _ | refine Src.drew ?_ | refine Src.drewN ?_ _ | refine Src.setCell ?_ (by first | omega | (simp; omega)) _ _))).mono ?_
      rintro e w5 ⟨f, rfl, hD, hS5⟩
      have hz5 : w4.heap.size ≤ w5.heap.size := Nat.le_trans (by simp) hD.size
      have hD5 : Drawn w w5 k := Drawn.trans (by repeat (with_reducible first | assumption | exact grown_refl _ _ | refine Drawn.alloc ?_ _ | refine Drawn.drew ?_ | refine Drawn.drewN ?_ _ | refine Drawn.setCell ?_ (by first | omega | (simp; omega)) _ _)) hD
      have HK0_5 := Lib.hid (hD.keep (j := w.heap.size) (by repeat (with_reducible first | exact HK0_4.out | exact heap_alloc_new _ _ | apply heap_alloc_old | apply st_0_2 | apply st_1_2 | apply st_0_3 | apply st_1_3 | apply st_2_3 | apply st_0_4 | apply st_1_4 | apply st_2_4 | apply st_3_4 | (apply other_set; case hne => omega) | exact heap_alloc_new' _ _ (by first | rfl | (simp; done)))) (by omega))
      have HK1_5 := Lib.hid (hD.keep (j := w3.heap.size) (by repeat (with_reducible first | exact HK1_4.out | exact heap_alloc_new _ _ | apply heap_alloc_old | apply st_0_2 | apply st_1_2 | apply st_0_3 | apply st_1_3 | apply st_2_3 | apply st_0_4 | apply st_1_4 | apply st_2_4 | apply st_3_4 | (apply other_set; case hne => omega) | exact heap_alloc_new' _ _ (by first | rfl | (simp; done)))) (by omega))
      have HOr_5 := Lib.hid (hD.owns (by repeat (with_reducible first | exact HOr_4.out | apply World.ownsRow.alloc | (apply owns_setNe; case hk => first | assumption | exact ne_own HOr_4.out (by first | omega | (simp; omega)) | exact ne_low HOr_4.out (by omega)) | (refine owns_later ?_ (Later.refl _).drew) | (refine owns_later ?_ ((Later.refl _).drewN _)))) (by omega))
      clear hD c0 f0 c1 f1
      obtain ⟨c0, f0, z0_5⟩ := blk_at HK0_5.out
      obtain ⟨c1, f1, z1_5⟩ := blk_at HK1_5.out
      go_wp2_with fail
      obtain ⟨B, hBe, hBi⟩ : ∃ B, B = ((w5.setCell ⟨w3.heap.size, 0, none⟩ (.int .i64 f.d)).setCell ⟨w3.heap.size, 1, none⟩ (.int .i64 f.t)).heap.size ∧ w5.heap.size ≤ B := ⟨_, rfl, by simp⟩
      have hZ0 : B ≤ ((w5.setCell ⟨w3.heap.size, 0, none⟩ (.int .i64 f.d)).setCell ⟨w3.heap.size, 1, none⟩ (.int .i64 f.t)).drew.heap.size := Nat.le_of_eq hBe
      have hD0 : Drawn w ((w5.setCell ⟨w3.heap.size, 0, none⟩ (.int .i64 f.d)).setCell ⟨w3.heap.size, 1, none⟩ (.int .i64 f.t)) k := (by repeat (with_reducible first | assumption | exact grown_refl _ _ | refine Drawn.alloc ?_ _ | refine Drawn.drew ?_ | refine Drawn.drewN ?_ _ | refine Drawn.setCell ?_ (by first | omega | (simp; omega)) _ _))
      have hS0 : Src ((w5.setCell ⟨w3.heap.size, 0, none⟩ (.int .i64 f.d)).setCell ⟨w3.heap.size, 1, none⟩ (.int .i64 f.t)) k c := (by repeat (with_reducible first | assumption | refine Src.alloc ?_ _ | refine Src.drew ?_ | refine Src.drewN ?_ _ | refine Src.setCell ?_ (by first | omega | (simp; omega)) _ _))
      have Qr : ((w5.setCell ⟨w3.heap.size, 0, none⟩ (.int .i64 f.d)).setCell ⟨w3.heap.size, 1, none⟩ (.int .i64 f.t)).ownsRow w1.heap.size 55 3 (.slice ar l.length capr) l.length (trms l) := (by repeat (with_reducible first | exact HOr_5.out | apply World.ownsRow.alloc | (apply owns_setNe; case hk => first | assumption | exact ne_own HOr_5.out (by first | omega | (simp; omega)) | exact ne_low HOr_5.out (by omega)) | (refine owns_later ?_ (Later.refl _).drew) | (refine owns_later ?_ ((Later.refl _).drewN _))))
      have Q1 : ((w5.setCell ⟨w3.heap.size, 0, none⟩ (.int .i64 f.d)).setCell ⟨w3.heap.size, 1, none⟩ (.int .i64 f.t)).heap[w3.heap.size]? = some (.cells #[.int .i64 f.d, .int .i64 f.t] 41 (0, 0)) := (by repeat (with_reducible first | exact HK1_5.out | exact heap_alloc_new _ _ | apply heap_alloc_old | apply st_0_2 | apply st_1_2 | apply st_0_3 | apply st_1_3 | apply st_2_3 | apply st_0_4 | apply st_1_4 | apply st_2_4 | apply st_3_4 | (apply other_set; case hne => omega) | exact heap_alloc_new' _ _ (by first | rfl | (simp; done))))
      have Q0 : ((w5.setCell ⟨w3.heap.size, 0, none⟩ (.int .i64 f.d)).setCell ⟨w3.heap.size, 1, none⟩ (.int .i64 f.t)).heap[w.heap.size]? = some (.cells #[.int .i64 0, .int .i64 0] 41 (0, 0)) := (by repeat (with_reducible first | exact HK0_5.out | exact heap_alloc_new _ _ | apply heap_alloc_old | apply st_0_2 | apply st_1_2 | apply st_0_3 | apply st_1_3 | apply st_2_3 | apply st_0_4 | apply st_1_4 | apply st_2_4 | apply st_3_4 | (apply other_set; case hne => omega) | exact heap_alloc_new' _ _ (by first | rfl | (simp; done))))
      clear c0 f0 c1 f1
      have hne0 : (Value.slice ar l.length capr).ownBlock ≠ some w.heap.size := ne_low HOr_5.out (by omega)
      refine region_slots 34 [27, 28, 29, 30, 31, 32, 33, 2, 4] (fun g ac wc => sl ac 5 = .pointer (some ⟨k, 0, none⟩) ∧
          sl ac 6 = .slice ar l.length capr ∧
          sl ac 7 = .pointer (some ⟨w3.heap.size, 0, none⟩) ∧
          sl ac 3 = .pointer (some ⟨w.heap.size, 0, none⟩) ∧
          (g 0 = true → (sl ac 27) = .slice ar l.length capr) ∧
          (g 1 = true → (sl ac 28) = .agg #[.int .i64 f.d, .int .i64 f.t]) ∧
          (g 2 = true → (sl ac 29) = .pointer (some ⟨k, 0, none⟩)) ∧
          (g 3 = true → (sl ac 30) = .pointer (some ⟨k, 0, none⟩)) ∧
          (g 4 = true → ∃ x : Int, (sl ac 31) = .int .i64 x) ∧
          (g 5 = true → g 6 = false → NewS wc B (sl ac 32) 8) ∧
          (g 6 = true → ∃ x : Int, (sl ac 33) = .int .i64 x) ∧
          (g 7 = true → (sl ac 2) = .slice ar l.length capr) ∧
          (g 9 = true → ∃ x : Int, (sl ac 4) = .int .i64 x) ∧
          Drawn w wc k ∧
          Src wc k c ∧
          B ≤ wc.heap.size ∧
          wc.ownsRow w1.heap.size 55 3 (.slice ar l.length capr) l.length (trms l) ∧
          wc.heap[w3.heap.size]? = some (.cells #[.int .i64 f.d, .int .i64 f.t] 41 (0, 0)) ∧
          (g 8 = false → wc.heap[w.heap.size]? = some (.cells #[.int .i64 0, .int .i64 0] 41 (0, 0))) ∧
          (g 8 = true → wc.heap[w.heap.size]? = some (.cells #[.int .i64 f.d, .int .i64 f.t] 41 (0, 0))) ∧
          (g 4 = true → g 3 = true) ∧
          (g 5 = true → g 4 = true) ∧
          (g 6 = true → g 2 = true) ∧
          (g 6 = true → g 5 = true) ∧
          (g 7 = true → g 0 = true) ∧
          (g 8 = true → g 1 = true) ∧
          (g 9 = true → g 6 = true)) (by kernel_rfl) (by kernel_rfl) rfl (by kernel_rfl) ?_ ?_ ?_
      · exact ⟨rfl, rfl, rfl, rfl, nofun, nofun, nofun, nofun, nofun, nofun, nofun, nofun, nofun, hD0.drew, hS0.drew, hZ0, owns_later Qr (Later.refl _).drew, Q1, fun _ => Q0, nofun, nofun, nofun, nofun, nofun, nofun, nofun, nofun⟩
      · intro g ac wu hg ha hI
        obtain ⟨xi5, xi6, xi7, xi3, i0, i1, i2, i3, i4, i5, i6, i7, i9, hD, hS, hZ, Or, B1, -, N0, -, -, -, -, -, -, -⟩ := hI
        obtain e0 := i0 (hg 0 (by simp))
        obtain e1 := i1 (hg 1 (by simp))
        obtain e2 := i2 (hg 2 (by simp))
        obtain e3 := i3 (hg 3 (by simp))
        obtain ⟨xd4, e4⟩ := i4 (hg 4 (by simp))
        obtain ⟨v5, e5⟩ : ∃ v, sl ac 32 = v := ⟨_, rfl⟩
        obtain ⟨xd6, e6⟩ := i6 (hg 6 (by simp))
        obtain e7 := i7 (hg 7 (by simp))
        obtain ⟨xd9, e9⟩ := i9 (hg 9 (by simp))
        replace N0 := N0 (hg 8 (by simp))
        simp only [putAll, e0, e1, e2, e3, e4, e5, e6, e7, e9] at ha
        simp only [Act.put, List.setIfInBounds_toArray, List.set_cons_succ, List.set_cons_zero] at ha
        rw [ha]
        clear xi5 xi6 xi7 xi3 i0 i1 i2 i3 i4 i5 i6 i7 i9 e0 e1 e2 e3 e4 e5 e6 e7 e9 hg ha
        have hcb := (blk_at N0).1
        have hzb := (blk_at N0).2.2
        have HDu := Lib.hid hD
        have HOu := Lib.hid Or
        clear hD hS Or B1 N0
        go_wp2
        refine bodyPost_ret (v := .tuple #[.slice ar l.length capr, .agg #[.int .i64 f.d, .int .i64 f.t], .int .i64 xd9]) (by simp [results, Try.results38, go_sem, hcb, hzb]) rfl ⟨_, l, ⟨f.d, f.t⟩, xd9, rfl, owns_base HOu.out (by omega), hl7, (Later.refl w).drawn (by omega) HDu.out⟩
      · refine .cons ?_ (.cons ?_ (.cons ?_ (.cons ?_ (.cons ?_ (.cons ?_ (.cons ?_ (.cons ?_ (.cons ?_ (.cons ?_ .nil)))))))))
        · unfold SlotStep
          intro g ac wc hn hk hr hI K' hK
          obtain ⟨xi5, xi6, xi7, xi3, i0, i1, i2, i3, i4, i5, i6, i7, i9, hD, hS, hZ, Or, B1, R0, N0, m4_3, m5_4, m6_2, m6_5, m7_0, m8_1, m9_6⟩ := hI
          simp only [Region.binds] at hr
          simp at hr
          replace hK := Lib.hid hK
          have zi6 := sl_get xi6 (by omega)
          replace i0 := Lib.hid i0
          replace i1 := Lib.hid i1
          replace i2 := Lib.hid i2
          replace i3 := Lib.hid i3
          replace i4 := Lib.hid i4
          replace i5 := Lib.hid i5
          replace i6 := Lib.hid i6
          replace i7 := Lib.hid i7
          replace i9 := Lib.hid i9
          go_simp
          exact hK.out _ _ ⟨(keepB xi5 (by decide)), (keepB xi6 (by decide)), (keepB xi7 (by decide)), (keepB xi3 (by decide)), (fun _ => put_eq (by omega)), (fun h => by rw [put_ne (by decide)]; exact i1.out h), (fun h => by rw [put_ne (by decide)]; exact i2.out h), (fun h => by rw [put_ne (by decide)]; exact i3.out h), (fun h => by rw [put_ne (by decide)]; exact i4.out h), (fun h h2 => by rw [put_ne (by decide)]; exact i5.out h h2), (fun h => by rw [put_ne (by decide)]; exact i6.out h), (fun h => absurd (m7_0 h) (by rw [hk]; simp)), (fun h => by rw [put_ne (by decide)]; exact i9.out h), hD, hS, hZ, Or, B1, (fun h => (R0 h)), N0, m4_3, m5_4, m6_2, m6_5, (fun _ => rfl), m8_1, m9_6⟩
        · unfold SlotStep
          intro g ac wc hn hk hr hI K' hK
          obtain ⟨xi5, xi6, xi7, xi3, i0, i1, i2, i3, i4, i5, i6, i7, i9, hD, hS, hZ, Or, B1, R0, N0, m4_3, m5_4, m6_2, m6_5, m7_0, m8_1, m9_6⟩ := hI
          simp only [Region.binds] at hr
          simp at hr
          replace hK := Lib.hid hK
          have zi7 := sl_get xi7 (by omega)
          have hbb := blk_at B1
          have cb := hbb.1
          have fb := hbb.2.1
          have zb := hbb.2.2
          clear hbb
          replace i0 := Lib.hid i0
          replace i1 := Lib.hid i1
          replace i2 := Lib.hid i2
          replace i3 := Lib.hid i3
          replace i4 := Lib.hid i4
          replace i5 := Lib.hid i5
          replace i6 := Lib.hid i6
          replace i7 := Lib.hid i7
          replace i9 := Lib.hid i9
          go_simp
          exact hK.out _ _ ⟨(keepB xi5 (by decide)), (keepB xi6 (by decide)), (keepB xi7 (by decide)), (keepB xi3 (by decide)), (fun h => by rw [put_ne (by decide)]; exact i0.out h), (fun _ => put_eq (by omega)), (fun h => by rw [put_ne (by decide)]; exact i2.out h), (fun h => by rw [put_ne (by decide)]; exact i3.out h), (fun h => by rw [put_ne (by decide)]; exact i4.out h), (fun h h2 => by rw [put_ne (by decide)]; exact i5.out h h2), (fun h => by rw [put_ne (by decide)]; exact i6.out h), (fun h => by rw [put_ne (by decide)]; exact i7.out h), (fun h => by rw [put_ne (by decide)]; exact i9.out h), hD, hS, hZ, Or, B1, (fun h => (R0 h)), N0, m4_3, m5_4, m6_2, m6_5, m7_0, (fun _ => rfl), m9_6⟩
        · unfold SlotStep
          intro g ac wc hn hk hr hI K' hK
          obtain ⟨xi5, xi6, xi7, xi3, i0, i1, i2, i3, i4, i5, i6, i7, i9, hD, hS, hZ, Or, B1, R0, N0, m4_3, m5_4, m6_2, m6_5, m7_0, m8_1, m9_6⟩ := hI
          simp only [Region.binds] at hr
          simp at hr
          replace hK := Lib.hid hK
          have zi5 := sl_get xi5 (by omega)
          replace i0 := Lib.hid i0
          replace i1 := Lib.hid i1
          replace i2 := Lib.hid i2
          replace i3 := Lib.hid i3
          replace i4 := Lib.hid i4
          replace i5 := Lib.hid i5
          replace i6 := Lib.hid i6
          replace i7 := Lib.hid i7
          replace i9 := Lib.hid i9
          go_simp
          exact hK.out _ _ ⟨(keepB xi5 (by decide)), (keepB xi6 (by decide)), (keepB xi7 (by decide)), (keepB xi3 (by decide)), (fun h => by rw [put_ne (by decide)]; exact i0.out h), (fun h => by rw [put_ne (by decide)]; exact i1.out h), (fun _ => put_eq (by omega)), (fun h => by rw [put_ne (by decide)]; exact i3.out h), (fun h => by rw [put_ne (by decide)]; exact i4.out h), (fun h h2 => by rw [put_ne (by decide)]; exact i5.out h h2), (fun h => absurd (m6_2 h) (by rw [hk]; simp)), (fun h => by rw [put_ne (by decide)]; exact i7.out h), (fun h => by rw [put_ne (by decide)]; exact i9.out h), hD, hS, hZ, Or, B1, (fun h => (R0 h)), N0, m4_3, m5_4, (fun _ => rfl), m6_5, m7_0, m8_1, m9_6⟩
        · unfold SlotStep
          intro g ac wc hn hk hr hI K' hK
          obtain ⟨xi5, xi6, xi7, xi3, i0, i1, i2, i3, i4, i5, i6, i7, i9, hD, hS, hZ, Or, B1, R0, N0, m4_3, m5_4, m6_2, m6_5, m7_0, m8_1, m9_6⟩ := hI
          simp only [Region.binds] at hr
          simp at hr
          replace hK := Lib.hid hK
          have zi5 := sl_get xi5 (by omega)
          replace i0 := Lib.hid i0
          replace i1 := Lib.hid i1
          replace i2 := Lib.hid i2
          replace i3 := Lib.hid i3
          replace i4 := Lib.hid i4
          replace i5 := Lib.hid i5
          replace i6 := Lib.hid i6
          replace i7 := Lib.hid i7
          replace i9 := Lib.hid i9
          go_simp
          exact hK.out _ _ ⟨(keepB xi5 (by decide)), (keepB xi6 (by decide)), (keepB xi7 (by decide)), (keepB xi3 (by decide)), (fun h => by rw [put_ne (by decide)]; exact i0.out h), (fun h => by rw [put_ne (by decide)]; exact i1.out h), (fun h => by rw [put_ne (by decide)]; exact i2.out h), (fun _ => put_eq (by omega)), (fun h => absurd (m4_3 h) (by rw [hk]; simp)), (fun h h2 => absurd (m4_3 (m5_4 h)) (by rw [hk]; simp)), (fun h => by rw [put_ne (by decide)]; exact i6.out h), (fun h => by rw [put_ne (by decide)]; exact i7.out h), (fun h => by rw [put_ne (by decide)]; exact i9.out h), hD, hS, hZ, Or, B1, (fun h => (R0 h)), N0, (fun _ => rfl), m5_4, m6_2, m6_5, m7_0, m8_1, m9_6⟩
        · unfold SlotStep
          intro g ac wc hn hk hr hI K' hK
          obtain ⟨xi5, xi6, xi7, xi3, i0, i1, i2, i3, i4, i5, i6, i7, i9, hD, hS, hZ, Or, B1, R0, N0, m4_3, m5_4, m6_2, m6_5, m7_0, m8_1, m9_6⟩ := hI
          simp only [Region.binds] at hr
          simp at hr
          replace hK := Lib.hid hK
          have g3 : g 3 = true := (by have h := hr; first | exact h | (simp at h; done) | (repeat (first | exact h | exact h.1 | replace h := h.2)))
          obtain y3 := i3 g3
          have z3 := sl_get y3 (by omega)
          replace i0 := Lib.hid i0
          replace i1 := Lib.hid i1
          replace i2 := Lib.hid i2
          replace i3 := Lib.hid i3
          replace i4 := Lib.hid i4
          replace i5 := Lib.hid i5
          replace i6 := Lib.hid i6
          replace i7 := Lib.hid i7
          replace i9 := Lib.hid i9
          go_simp
          refine (w_l01Next k c 3000 wc hS).mono ?_
          rintro e w4 ⟨x, rfl, xa, xb, hD4, hS4⟩
          exact hK.out _ _ ⟨(keepB xi5 (by decide)), (keepB xi6 (by decide)), (keepB xi7 (by decide)), (keepB xi3 (by decide)), (fun h => by rw [put_ne (by decide)]; exact i0.out h), (fun h => by rw [put_ne (by decide)]; exact i1.out h), (fun h => by rw [put_ne (by decide)]; exact i2.out h), (fun h => by rw [put_ne (by decide)]; exact i3.out h), (fun _ => ⟨_, put_eq (by omega)⟩), (fun h h2 => absurd (m5_4 h) (by rw [hk]; simp)), (fun h => by rw [put_ne (by decide)]; exact i6.out h), (fun h => by rw [put_ne (by decide)]; exact i7.out h), (fun h => by rw [put_ne (by decide)]; exact i9.out h), (hD.trans hD4), hS4, (Nat.le_trans hZ hD4.size), (hD4.owns Or (by omega)), (hD4.keep B1 (by omega)), (fun h => (hD4.keep (R0 h) (by omega))), (fun h => (hD4.keep (N0 h) (by omega))), (fun _ => g3), (fun _ => rfl), m6_2, m6_5, m7_0, m8_1, m9_6⟩
        · unfold SlotStep
          intro g ac wc hn hk hr hI K' hK
          obtain ⟨xi5, xi6, xi7, xi3, i0, i1, i2, i3, i4, i5, i6, i7, i9, hD, hS, hZ, Or, B1, R0, N0, m4_3, m5_4, m6_2, m6_5, m7_0, m8_1, m9_6⟩ := hI
          simp only [Region.binds] at hr
          simp at hr
          replace hK := Lib.hid hK
          have g4 : g 4 = true := (by have h := hr; first | exact h | (simp at h; done) | (repeat (first | exact h | exact h.1 | replace h := h.2)))
          obtain ⟨x4, y4⟩ := i4 g4
          have z4 := sl_get y4 (by omega)
          replace i0 := Lib.hid i0
          replace i1 := Lib.hid i1
          replace i2 := Lib.hid i2
          replace i3 := Lib.hid i3
          replace i4 := Lib.hid i4
          replace i5 := Lib.hid i5
          replace i6 := Lib.hid i6
          replace i7 := Lib.hid i7
          replace i9 := Lib.hid i9
          go_simp
          have hL4 := (Later.refl wc).alloc (.cells (nums [0, 10, 100, 1000, x4, 1048576, 1048577, -1]).toArray 2)
          exact hK.out _ _ ⟨(keepB xi5 (by decide)), (keepB xi6 (by decide)), (keepB xi7 (by decide)), (keepB xi3 (by decide)), (fun h => by rw [put_ne (by decide)]; exact i0.out h), (fun h => by rw [put_ne (by decide)]; exact i1.out h), (fun h => by rw [put_ne (by decide)]; exact i2.out h), (fun h => by rw [put_ne (by decide)]; exact i3.out h), (fun h => by rw [put_ne (by decide)]; exact i4.out h), (fun _ _ => by rw [put_eq (by omega)]; exact NewS.mk hZ [0, 10, 100, 1000, x4, 1048576, 1048577, -1] (by simp)), (fun h => absurd (m6_5 h) (by rw [hk]; simp)), (fun h => by rw [put_ne (by decide)]; exact i7.out h), (fun h => by rw [put_ne (by decide)]; exact i9.out h), (hD.later hL4), (hS.later hL4), (Nat.le_trans hZ hL4.size), (owns_later Or hL4), (hL4.keep B1), (fun h => (hL4.keep (R0 h))), (fun h => (hL4.keep (N0 h))), m4_3, (fun _ => g4), m6_2, (fun _ => rfl), m7_0, m8_1, m9_6⟩
        · unfold SlotStep
          intro g ac wc hn hk hr hI K' hK
          obtain ⟨xi5, xi6, xi7, xi3, i0, i1, i2, i3, i4, i5, i6, i7, i9, hD, hS, hZ, Or, B1, R0, N0, m4_3, m5_4, m6_2, m6_5, m7_0, m8_1, m9_6⟩ := hI
          simp only [Region.binds] at hr
          simp at hr
          replace hK := Lib.hid hK
          have g2 : g 2 = true := (by have h := hr; first | exact h | (simp at h; done) | (repeat (first | exact h | exact h.1 | replace h := h.2)))
          obtain y2 := i2 g2
          have z2 := sl_get y2 (by omega)
          have g5 : g 5 = true := (by have h := hr; first | exact h | (simp at h; done) | (repeat (first | exact h | exact h.1 | replace h := h.2)))
          obtain ⟨b5, xs5, y5, hne5, hxl5, hrd5⟩ := i5 g5 hk
          have z5 := sl_get y5 (by omega)
          replace i0 := Lib.hid i0
          replace i1 := Lib.hid i1
          replace i2 := Lib.hid i2
          replace i3 := Lib.hid i3
          replace i4 := Lib.hid i4
          replace i5 := Lib.hid i5
          replace i6 := Lib.hid i6
          replace i7 := Lib.hid i7
          replace i9 := Lib.hid i9
          go_simp
          refine (w_l01Pick' k B c _ 8 wc hS ⟨b5, xs5, rfl, hne5, hxl5, y5 ▸ hrd5⟩ (by omega) (by omega)).mono ?_
          rintro e w4 ⟨x, rfl, hD4, hS4⟩
          exact hK.out _ _ ⟨(keepB xi5 (by decide)), (keepB xi6 (by decide)), (keepB xi7 (by decide)), (keepB xi3 (by decide)), (fun h => by rw [put_ne (by decide)]; exact i0.out h), (fun h => by rw [put_ne (by decide)]; exact i1.out h), (fun h => by rw [put_ne (by decide)]; exact i2.out h), (fun h => by rw [put_ne (by decide)]; exact i3.out h), (fun h => by rw [put_ne (by decide)]; exact i4.out h), (fun _ h => absurd h (by simp)), (fun _ => ⟨_, put_eq (by omega)⟩), (fun h => by rw [put_ne (by decide)]; exact i7.out h), (fun h => absurd (m9_6 h) (by rw [hk]; simp)), (hD.trans hD4), hS4, (Nat.le_trans hZ hD4.size), (hD4.owns Or (by omega)), (hD4.keep B1 (by omega)), (fun h => (hD4.keep (R0 h) (by omega))), (fun h => (hD4.keep (N0 h) (by omega))), m4_3, m5_4, (fun _ => g2), (fun _ => g5), m7_0, m8_1, (fun _ => rfl)⟩
        · unfold SlotStep
          intro g ac wc hn hk hr hI K' hK
          obtain ⟨xi5, xi6, xi7, xi3, i0, i1, i2, i3, i4, i5, i6, i7, i9, hD, hS, hZ, Or, B1, R0, N0, m4_3, m5_4, m6_2, m6_5, m7_0, m8_1, m9_6⟩ := hI
          simp only [Region.binds] at hr
          simp at hr
          replace hK := Lib.hid hK
          have g0 : g 0 = true := (by have h := hr; first | exact h | (simp at h; done) | (repeat (first | exact h | exact h.1 | replace h := h.2)))
          obtain y0 := i0 g0
          have z0 := sl_get y0 (by omega)
          replace i0 := Lib.hid i0
          replace i1 := Lib.hid i1
          replace i2 := Lib.hid i2
          replace i3 := Lib.hid i3
          replace i4 := Lib.hid i4
          replace i5 := Lib.hid i5
          replace i6 := Lib.hid i6
          replace i7 := Lib.hid i7
          replace i9 := Lib.hid i9
          go_simp
          exact hK.out _ _ ⟨(keepB xi5 (by decide)), (keepB xi6 (by decide)), (keepB xi7 (by decide)), (keepB xi3 (by decide)), (fun h => by rw [put_ne (by decide)]; exact i0.out h), (fun h => by rw [put_ne (by decide)]; exact i1.out h), (fun h => by rw [put_ne (by decide)]; exact i2.out h), (fun h => by rw [put_ne (by decide)]; exact i3.out h), (fun h => by rw [put_ne (by decide)]; exact i4.out h), (fun h h2 => by rw [put_ne (by decide)]; exact i5.out h h2), (fun h => by rw [put_ne (by decide)]; exact i6.out h), (fun _ => put_eq (by omega)), (fun h => by rw [put_ne (by decide)]; exact i9.out h), hD, hS, hZ, Or, B1, (fun h => (R0 h)), N0, m4_3, m5_4, m6_2, m6_5, (fun _ => g0), m8_1, m9_6⟩
        · unfold SlotStep
          intro g ac wc hn hk hr hI K' hK
          obtain ⟨xi5, xi6, xi7, xi3, i0, i1, i2, i3, i4, i5, i6, i7, i9, hD, hS, hZ, Or, B1, R0, N0, m4_3, m5_4, m6_2, m6_5, m7_0, m8_1, m9_6⟩ := hI
          simp only [Region.binds] at hr
          simp at hr
          replace hK := Lib.hid hK
          have g1 : g 1 = true := (by have h := hr; first | exact h | (simp at h; done) | (repeat (first | exact h | exact h.1 | replace h := h.2)))
          obtain y1 := i1 g1
          have z1 := sl_get y1 (by omega)
          have zi3 := sl_get xi3 (by omega)
          have hst := hk
          have hbb := blk_at (R0 hst)
          have cb := hbb.1
          have fb := hbb.2.1
          have zb := hbb.2.2
          clear hbb
          replace i0 := Lib.hid i0
          replace i1 := Lib.hid i1
          replace i2 := Lib.hid i2
          replace i3 := Lib.hid i3
          replace i4 := Lib.hid i4
          replace i5 := Lib.hid i5
          replace i6 := Lib.hid i6
          replace i7 := Lib.hid i7
          replace i9 := Lib.hid i9
          go_simp
          have hz0 := zb
          exact hK.out undef _ ⟨xi5, xi6, xi7, xi3, (fun h => i0.out h), (fun h => i1.out h), (fun h => i2.out h), (fun h => i3.out h), (fun h => i4.out h), (fun h h2 => ((i5.out h h2).setCell (by omega) _ _).setCell (by omega) _ _), (fun h => i6.out h), (fun h => i7.out h), (fun h => i9.out h), ((hD.setCell (by omega) _ _).setCell (by omega) _ _), ((hS.setLow (hAc.mono fun b hb => by omega) (by omega) _ _).setLow (hAc.mono fun b hb => by omega) (by omega) _ _), (by simpa using hZ), (owns_setNe (owns_setNe Or (by assumption) _ _) (by assumption) _ _), (other_set (other_set B1 (by omega) _) (by omega) _), (fun h => absurd h (by simp)), (fun _ => st_1_2 (st_0_2 (R0 hk) _) _), m4_3, m5_4, m6_2, m6_5, m7_0, (fun _ => g1), m9_6⟩
        · unfold SlotStep
          intro g ac wc hn hk hr hI K' hK
          obtain ⟨xi5, xi6, xi7, xi3, i0, i1, i2, i3, i4, i5, i6, i7, i9, hD, hS, hZ, Or, B1, R0, N0, m4_3, m5_4, m6_2, m6_5, m7_0, m8_1, m9_6⟩ := hI
          simp only [Region.binds] at hr
          simp at hr
          replace hK := Lib.hid hK
          have g6 : g 6 = true := (by have h := hr; first | exact h | (simp at h; done) | (repeat (first | exact h | exact h.1 | replace h := h.2)))
          obtain ⟨x6, y6⟩ := i6 g6
          have z6 := sl_get y6 (by omega)
          replace i0 := Lib.hid i0
          replace i1 := Lib.hid i1
          replace i2 := Lib.hid i2
          replace i3 := Lib.hid i3
          replace i4 := Lib.hid i4
          replace i5 := Lib.hid i5
          replace i6 := Lib.hid i6
          replace i7 := Lib.hid i7
          replace i9 := Lib.hid i9
          go_simp
          exact hK.out _ _ ⟨(keepB xi5 (by decide)), (keepB xi6 (by decide)), (keepB xi7 (by decide)), (keepB xi3 (by decide)), (fun h => by rw [put_ne (by decide)]; exact i0.out h), (fun h => by rw [put_ne (by decide)]; exact i1.out h), (fun h => by rw [put_ne (by decide)]; exact i2.out h), (fun h => by rw [put_ne (by decide)]; exact i3.out h), (fun h => by rw [put_ne (by decide)]; exact i4.out h), (fun _ h2 => absurd (show g 6 = false from h2) (by rw [g6]; simp)), (fun h => by rw [put_ne (by decide)]; exact i6.out h), (fun h => by rw [put_ne (by decide)]; exact i7.out h), (fun _ => ⟨_, put_eq (by omega)⟩), hD, hS, hZ, Or, B1, (fun h => (R0 h)), N0, m4_3, m5_4, m6_2, m6_5, m7_0, m8_1, (fun _ => g6)⟩
    · skip
      have hqb : (x4 == 0) = false := by simpa using hq
      go_wp2_with fail
      obtain ⟨B, hBe, hBi⟩ : ∃ B, B = (w4).heap.size ∧ w4.heap.size ≤ B := ⟨_, rfl, by simp⟩
      have hZ0 : B ≤ (w4).drew.heap.size := Nat.le_of_eq hBe
      have hD0 : Drawn w (w4) k := (by repeat (with_reducible first | assumption | exact grown_refl _ _ | refine Drawn.alloc ?_ _ | refine Drawn.drew ?_ | refine Drawn.drewN ?_ _ | refine Drawn.setCell ?_ (by first | omega | (simp; omega)) _ _))
      have hS0 : Src (w4) k c := (by repeat (with_reducible first | assumption | refine Src.alloc ?_ _ | refine Src.drew ?_ | refine Src.drewN ?_ _ | refine Src.setCell ?_ (by first | omega | (simp; omega)) _ _))
      have Qr : (w4).ownsRow w1.heap.size 55 3 (.slice ar l.length capr) l.length (trms l) := (by repeat (with_reducible first | exact HOr_4.out | apply World.ownsRow.alloc | (apply owns_setNe; case hk => first | assumption | exact ne_own HOr_4.out (by first | omega | (simp; omega)) | exact ne_low HOr_4.out (by omega)) | (refine owns_later ?_ (Later.refl _).drew) | (refine owns_later ?_ ((Later.refl _).drewN _))))
      have Q1 : (w4).heap[w3.heap.size]? = some (.cells #[.int .i64 (chainFig l).d, .int .i64 (chainFig l).t] 41 (0, 0)) := (by repeat (with_reducible first | exact HK1_4.out | exact heap_alloc_new _ _ | apply heap_alloc_old | apply st_0_2 | apply st_1_2 | apply st_0_3 | apply st_1_3 | apply st_2_3 | apply st_0_4 | apply st_1_4 | apply st_2_4 | apply st_3_4 | (apply other_set; case hne => omega) | exact heap_alloc_new' _ _ (by first | rfl | (simp; done))))
      have Q0 : (w4).heap[w.heap.size]? = some (.cells #[.int .i64 0, .int .i64 0] 41 (0, 0)) := (by repeat (with_reducible first | exact HK0_4.out | exact heap_alloc_new _ _ | apply heap_alloc_old | apply st_0_2 | apply st_1_2 | apply st_0_3 | apply st_1_3 | apply st_2_3 | apply st_0_4 | apply st_1_4 | apply st_2_4 | apply st_3_4 | (apply other_set; case hne => omega) | exact heap_alloc_new' _ _ (by first | rfl | (simp; done))))
      clear c0 f0 c1 f1
      have hne0 : (Value.slice ar l.length capr).ownBlock ≠ some w.heap.size := ne_low HOr_4.out (by omega)
      refine region_slots 34 [27, 28, 29, 30, 31, 32, 33, 2, 4] (fun g ac wc => sl ac 5 = .pointer (some ⟨k, 0, none⟩) ∧
          sl ac 6 = .slice ar l.length capr ∧
          sl ac 7 = .pointer (some ⟨w3.heap.size, 0, none⟩) ∧
          sl ac 3 = .pointer (some ⟨w.heap.size, 0, none⟩) ∧
          (g 0 = true → (sl ac 27) = .slice ar l.length capr) ∧
          (g 1 = true → (sl ac 28) = .agg #[.int .i64 (chainFig l).d, .int .i64 (chainFig l).t]) ∧
          (g 2 = true → (sl ac 29) = .pointer (some ⟨k, 0, none⟩)) ∧
          (g 3 = true → (sl ac 30) = .pointer (some ⟨k, 0, none⟩)) ∧
          (g 4 = true → ∃ x : Int, (sl ac 31) = .int .i64 x) ∧
          (g 5 = true → g 6 = false → NewS wc B (sl ac 32) 8) ∧
          (g 6 = true → ∃ x : Int, (sl ac 33) = .int .i64 x) ∧
          (g 7 = true → (sl ac 2) = .slice ar l.length capr) ∧
          (g 9 = true → ∃ x : Int, (sl ac 4) = .int .i64 x) ∧
          Drawn w wc k ∧
          Src wc k c ∧
          B ≤ wc.heap.size ∧
          wc.ownsRow w1.heap.size 55 3 (.slice ar l.length capr) l.length (trms l) ∧
          wc.heap[w3.heap.size]? = some (.cells #[.int .i64 (chainFig l).d, .int .i64 (chainFig l).t] 41 (0, 0)) ∧
          (g 8 = false → wc.heap[w.heap.size]? = some (.cells #[.int .i64 0, .int .i64 0] 41 (0, 0))) ∧
          (g 8 = true → wc.heap[w.heap.size]? = some (.cells #[.int .i64 (chainFig l).d, .int .i64 (chainFig l).t] 41 (0, 0))) ∧
          (g 4 = true → g 3 = true) ∧
          (g 5 = true → g 4 = true) ∧
          (g 6 = true → g 2 = true) ∧
          (g 6 = true → g 5 = true) ∧
          (g 7 = true → g 0 = true) ∧
          (g 8 = true → g 1 = true) ∧
          (g 9 = true → g 6 = true)) (by kernel_rfl) (by kernel_rfl) rfl (by kernel_rfl) ?_ ?_ ?_
      · exact ⟨rfl, rfl, rfl, rfl, nofun, nofun, nofun, nofun, nofun, nofun, nofun, nofun, nofun, hD0.drew, hS0.drew, hZ0, owns_later Qr (Later.refl _).drew, Q1, fun _ => Q0, nofun, nofun, nofun, nofun, nofun, nofun, nofun, nofun⟩
      · intro g ac wu hg ha hI
        obtain ⟨xi5, xi6, xi7, xi3, i0, i1, i2, i3, i4, i5, i6, i7, i9, hD, hS, hZ, Or, B1, -, N0, -, -, -, -, -, -, -⟩ := hI
        obtain e0 := i0 (hg 0 (by simp))
        obtain e1 := i1 (hg 1 (by simp))
        obtain e2 := i2 (hg 2 (by simp))
        obtain e3 := i3 (hg 3 (by simp))
        obtain ⟨xd4, e4⟩ := i4 (hg 4 (by simp))
        obtain ⟨v5, e5⟩ : ∃ v, sl ac 32 = v := ⟨_, rfl⟩
        obtain ⟨xd6, e6⟩ := i6 (hg 6 (by simp))
        obtain e7 := i7 (hg 7 (by simp))
        obtain ⟨xd9, e9⟩ := i9 (hg 9 (by simp))
        replace N0 := N0 (hg 8 (by simp))
        simp only [putAll, e0, e1, e2, e3, e4, e5, e6, e7, e9] at ha
        simp only [Act.put, List.setIfInBounds_toArray, List.set_cons_succ, List.set_cons_zero] at ha
        rw [ha]
        clear xi5 xi6 xi7 xi3 i0 i1 i2 i3 i4 i5 i6 i7 i9 e0 e1 e2 e3 e4 e5 e6 e7 e9 hg ha
        have hcb := (blk_at N0).1
        have hzb := (blk_at N0).2.2
        have HDu := Lib.hid hD
        have HOu := Lib.hid Or
        clear hD hS Or B1 N0
        go_wp2
        refine bodyPost_ret (v := .tuple #[.slice ar l.length capr, .agg #[.int .i64 (chainFig l).d, .int .i64 (chainFig l).t], .int .i64 xd9]) (by simp [results, Try.results38, go_sem, hcb, hzb]) rfl ⟨_, l, ⟨(chainFig l).d, (chainFig l).t⟩, xd9, rfl, owns_base HOu.out (by omega), hl7, (Later.refl w).drawn (by omega) HDu.out⟩
      · refine .cons ?_ (.cons ?_ (.cons ?_ (.cons ?_ (.cons ?_ (.cons ?_ (.cons ?_ (.cons ?_ (.cons ?_ (.cons ?_ .nil)))))))))
        · unfold SlotStep
          intro g ac wc hn hk hr hI K' hK
          obtain ⟨xi5, xi6, xi7, xi3, i0, i1, i2, i3, i4, i5, i6, i7, i9, hD, hS, hZ, Or, B1, R0, N0, m4_3, m5_4, m6_2, m6_5, m7_0, m8_1, m9_6⟩ := hI
          simp only [Region.binds] at hr
          simp at hr
          replace hK := Lib.hid hK
          have zi6 := sl_get xi6 (by omega)
          replace i0 := Lib.hid i0
          replace i1 := Lib.hid i1
          replace i2 := Lib.hid i2
          replace i3 := Lib.hid i3
          replace i4 := Lib.hid i4
          replace i5 := Lib.hid i5
          replace i6 := Lib.hid i6
          replace i7 := Lib.hid i7
          replace i9 := Lib.hid i9
          go_simp
          exact hK.out _ _ ⟨(keepB xi5 (by decide)), (keepB xi6 (by decide)), (keepB xi7 (by decide)), (keepB xi3 (by decide)), (fun _ => put_eq (by omega)), (fun h => by rw [put_ne (by decide)]; exact i1.out h), (fun h => by rw [put_ne (by decide)]; exact i2.out h), (fun h => by rw [put_ne (by decide)]; exact i3.out h), (fun h => by rw [put_ne (by decide)]; exact i4.out h), (fun h h2 => by rw [put_ne (by decide)]; exact i5.out h h2), (fun h => by rw [put_ne (by decide)]; exact i6.out h), (fun h => absurd (m7_0 h) (by rw [hk]; simp)), (fun h => by rw [put_ne (by decide)]; exact i9.out h), hD, hS, hZ, Or, B1, (fun h => (R0 h)), N0, m4_3, m5_4, m6_2, m6_5, (fun _ => rfl), m8_1, m9_6⟩
        · unfold SlotStep
          intro g ac wc hn hk hr hI K' hK
          obtain ⟨xi5, xi6, xi7, xi3, i0, i1, i2, i3, i4, i5, i6, i7, i9, hD, hS, hZ, Or, B1, R0, N0, m4_3, m5_4, m6_2, m6_5, m7_0, m8_1, m9_6⟩ := hI
          simp only [Region.binds] at hr
          simp at hr
          replace hK := Lib.hid hK
          have zi7 := sl_get xi7 (by omega)
          have hbb := blk_at B1
          have cb := hbb.1
          have fb := hbb.2.1
          have zb := hbb.2.2
          clear hbb
          replace i0 := Lib.hid i0
          replace i1 := Lib.hid i1
          replace i2 := Lib.hid i2
          replace i3 := Lib.hid i3
          replace i4 := Lib.hid i4
          replace i5 := Lib.hid i5
          replace i6 := Lib.hid i6
          replace i7 := Lib.hid i7
          replace i9 := Lib.hid i9
          go_simp
          exact hK.out _ _ ⟨(keepB xi5 (by decide)), (keepB xi6 (by decide)), (keepB xi7 (by decide)), (keepB xi3 (by decide)), (fun h => by rw [put_ne (by decide)]; exact i0.out h), (fun _ => put_eq (by omega)), (fun h => by rw [put_ne (by decide)]; exact i2.out h), (fun h => by rw [put_ne (by decide)]; exact i3.out h), (fun h => by rw [put_ne (by decide)]; exact i4.out h), (fun h h2 => by rw [put_ne (by decide)]; exact i5.out h h2), (fun h => by rw [put_ne (by decide)]; exact i6.out h), (fun h => by rw [put_ne (by decide)]; exact i7.out h), (fun h => by rw [put_ne (by decide)]; exact i9.out h), hD, hS, hZ, Or, B1, (fun h => (R0 h)), N0, m4_3, m5_4, m6_2, m6_5, m7_0, (fun _ => rfl), m9_6⟩
        · unfold SlotStep
          intro g ac wc hn hk hr hI K' hK
          obtain ⟨xi5, xi6, xi7, xi3, i0, i1, i2, i3, i4, i5, i6, i7, i9, hD, hS, hZ, Or, B1, R0, N0, m4_3, m5_4, m6_2, m6_5, m7_0, m8_1, m9_6⟩ := hI
          simp only [Region.binds] at hr
          simp at hr
          replace hK := Lib.hid hK
          have zi5 := sl_get xi5 (by omega)
          replace i0 := Lib.hid i0
          replace i1 := Lib.hid i1
          replace i2 := Lib.hid i2
          replace i3 := Lib.hid i3
          replace i4 := Lib.hid i4
          replace i5 := Lib.hid i5
          replace i6 := Lib.hid i6
          replace i7 := Lib.hid i7
          replace i9 := Lib.hid i9
          go_simp
          exact hK.out _ _ ⟨(keepB xi5 (by decide)), (keepB xi6 (by decide)), (keepB xi7 (by decide)), (keepB xi3 (by decide)), (fun h => by rw [put_ne (by decide)]; exact i0.out h), (fun h => by rw [put_ne (by decide)]; exact i1.out h), (fun _ => put_eq (by omega)), (fun h => by rw [put_ne (by decide)]; exact i3.out h), (fun h => by rw [put_ne (by decide)]; exact i4.out h), (fun h h2 => by rw [put_ne (by decide)]; exact i5.out h h2), (fun h => absurd (m6_2 h) (by rw [hk]; simp)), (fun h => by rw [put_ne (by decide)]; exact i7.out h), (fun h => by rw [put_ne (by decide)]; exact i9.out h), hD, hS, hZ, Or, B1, (fun h => (R0 h)), N0, m4_3, m5_4, (fun _ => rfl), m6_5, m7_0, m8_1, m9_6⟩
        · unfold SlotStep
          intro g ac wc hn hk hr hI K' hK
          obtain ⟨xi5, xi6, xi7, xi3, i0, i1, i2, i3, i4, i5, i6, i7, i9, hD, hS, hZ, Or, B1, R0, N0, m4_3, m5_4, m6_2, m6_5, m7_0, m8_1, m9_6⟩ := hI
          simp only [Region.binds] at hr
          simp at hr
          replace hK := Lib.hid hK
          have zi5 := sl_get xi5 (by omega)
          replace i0 := Lib.hid i0
          replace i1 := Lib.hid i1
          replace i2 := Lib.hid i2
          replace i3 := Lib.hid i3
          replace i4 := Lib.hid i4
          replace i5 := Lib.hid i5
          replace i6 := Lib.hid i6
          replace i7 := Lib.hid i7
          replace i9 := Lib.hid i9
          go_simp
          exact hK.out _ _ ⟨(keepB xi5 (by decide)), (keepB xi6 (by decide)), (keepB xi7 (by decide)), (keepB xi3 (by decide)), (fun h => by rw [put_ne (by decide)]; exact i0.out h), (fun h => by rw [put_ne (by decide)]; exact i1.out h), (fun h => by rw [put_ne (by decide)]; exact i2.out h), (fun _ => put_eq (by omega)), (fun h => absurd (m4_3 h) (by rw [hk]; simp)), (fun h h2 => absurd (m4_3 (m5_4 h)) (by rw [hk]; simp)), (fun h => by rw [put_ne (by decide)]; exact i6.out h), (fun h => by rw [put_ne (by decide)]; exact i7.out h), (fun h => by rw [put_ne (by decide)]; exact i9.out h), hD, hS, hZ, Or, B1, (fun h => (R0 h)), N0, (fun _ => rfl), m5_4, m6_2, m6_5, m7_0, m8_1, m9_6⟩
        · unfold SlotStep
          intro g ac wc hn hk hr hI K' hK
          obtain ⟨xi5, xi6, xi7, xi3, i0, i1, i2, i3, i4, i5, i6, i7, i9, hD, hS, hZ, Or, B1, R0, N0, m4_3, m5_4, m6_2, m6_5, m7_0, m8_1, m9_6⟩ := hI
          simp only [Region.binds] at hr
          simp at hr
          replace hK := Lib.hid hK
          have g3 : g 3 = true := (by have h := hr; first | exact h | (simp at h; done) | (repeat (first | exact h | exact h.1 | replace h := h.2)))
          obtain y3 := i3 g3
          have z3 := sl_get y3 (by omega)
          replace i0 := Lib.hid i0
          replace i1 := Lib.hid i1
          replace i2 := Lib.hid i2
          replace i3 := Lib.hid i3
          replace i4 := Lib.hid i4
          replace i5 := Lib.hid i5
          replace i6 := Lib.hid i6
          replace i7 := Lib.hid i7
          replace i9 := Lib.hid i9
          go_simp
          refine (w_l01Next k c 3000 wc hS).mono ?_
          rintro e w4 ⟨x, rfl, xa, xb, hD4, hS4⟩
          exact hK.out _ _ ⟨(keepB xi5 (by decide)), (keepB xi6 (by decide)), (keepB xi7 (by decide)), (keepB xi3 (by decide)), (fun h => by rw [put_ne (by decide)]; exact i0.out h), (fun h => by rw [put_ne (by decide)]; exact i1.out h), (fun h => by rw [put_ne (by decide)]; exact i2.out h), (fun h => by rw [put_ne (by decide)]; exact i3.out h), (fun _ => ⟨_, put_eq (by omega)⟩), (fun h h2 => absurd (m5_4 h) (by rw [hk]; simp)), (fun h => by rw [put_ne (by decide)]; exact i6.out h), (fun h => by rw [put_ne (by decide)]; exact i7.out h), (fun h => by rw [put_ne (by decide)]; exact i9.out h), (hD.trans hD4), hS4, (Nat.le_trans hZ hD4.size), (hD4.owns Or (by omega)), (hD4.keep B1 (by omega)), (fun h => (hD4.keep (R0 h) (by omega))), (fun h => (hD4.keep (N0 h) (by omega))), (fun _ => g3), (fun _ => rfl), m6_2, m6_5, m7_0, m8_1, m9_6⟩
        · unfold SlotStep
          intro g ac wc hn hk hr hI K' hK
          obtain ⟨xi5, xi6, xi7, xi3, i0, i1, i2, i3, i4, i5, i6, i7, i9, hD, hS, hZ, Or, B1, R0, N0, m4_3, m5_4, m6_2, m6_5, m7_0, m8_1, m9_6⟩ := hI
          simp only [Region.binds] at hr
          simp at hr
          replace hK := Lib.hid hK
          have g4 : g 4 = true := (by have h := hr; first | exact h | (simp at h; done) | (repeat (first | exact h | exact h.1 | replace h := h.2)))
          obtain ⟨x4, y4⟩ := i4 g4
          have z4 := sl_get y4 (by omega)
          replace i0 := Lib.hid i0
          replace i1 := Lib.hid i1
          replace i2 := Lib.hid i2
          replace i3 := Lib.hid i3
          replace i4 := Lib.hid i4
          replace i5 := Lib.hid i5
          replace i6 := Lib.hid i6
          replace i7 := Lib.hid i7
          replace i9 := Lib.hid i9
          go_simp
          have hL4 := (Later.refl wc).alloc (.cells (nums [0, 10, 100, 1000, x4, 1048576, 1048577, -1]).toArray 2)
          exact hK.out _ _ ⟨(keepB xi5 (by decide)), (keepB xi6 (by decide)), (keepB xi7 (by decide)), (keepB xi3 (by decide)), (fun h => by rw [put_ne (by decide)]; exact i0.out h), (fun h => by rw [put_ne (by decide)]; exact i1.out h), (fun h => by rw [put_ne (by decide)]; exact i2.out h), (fun h => by rw [put_ne (by decide)]; exact i3.out h), (fun h => by rw [put_ne (by decide)]; exact i4.out h), (fun _ _ => by rw [put_eq (by omega)]; exact NewS.mk hZ [0, 10, 100, 1000, x4, 1048576, 1048577, -1] (by simp)), (fun h => absurd (m6_5 h) (by rw [hk]; simp)), (fun h => by rw [put_ne (by decide)]; exact i7.out h), (fun h => by rw [put_ne (by decide)]; exact i9.out h), (hD.later hL4), (hS.later hL4), (Nat.le_trans hZ hL4.size), (owns_later Or hL4), (hL4.keep B1), (fun h => (hL4.keep (R0 h))), (fun h => (hL4.keep (N0 h))), m4_3, (fun _ => g4), m6_2, (fun _ => rfl), m7_0, m8_1, m9_6⟩
        · unfold SlotStep
          intro g ac wc hn hk hr hI K' hK
          obtain ⟨xi5, xi6, xi7, xi3, i0, i1, i2, i3, i4, i5, i6, i7, i9, hD, hS, hZ, Or, B1, R0, N0, m4_3, m5_4, m6_2, m6_5, m7_0, m8_1, m9_6⟩ := hI
          simp only [Region.binds] at hr
          simp at hr
          replace hK := Lib.hid hK
          have g2 : g 2 = true := (by have h := hr; first | exact h | (simp at h; done) | (repeat (first | exact h | exact h.1 | replace h := h.2)))
          obtain y2 := i2 g2
          have z2 := sl_get y2 (by omega)
          have g5 : g 5 = true := (by have h := hr; first | exact h | (simp at h; done) | (repeat (first | exact h | exact h.1 | replace h := h.2)))
          obtain ⟨b5, xs5, y5, hne5, hxl5, hrd5⟩ := i5 g5 hk
          have z5 := sl_get y5 (by omega)
          replace i0 := Lib.hid i0
          replace i1 := Lib.hid i1
          replace i2 := Lib.hid i2
          replace i3 := Lib.hid i3
          replace i4 := Lib.hid i4
          replace i5 := Lib.hid i5
          replace i6 := Lib.hid i6
          replace i7 := Lib.hid i7
          replace i9 := Lib.hid i9
          go_simp
          refine (w_l01Pick' k B c _ 8 wc hS ⟨b5, xs5, rfl, hne5, hxl5, y5 ▸ hrd5⟩ (by omega) (by omega)).mono ?_
          rintro e w4 ⟨x, rfl, hD4, hS4⟩
          exact hK.out _ _ ⟨(keepB xi5 (by decide)), (keepB xi6 (by decide)), (keepB xi7 (by decide)), (keepB xi3 (by decide)), (fun h => by rw [put_ne (by decide)]; exact i0.out h), (fun h => by rw [put_ne (by decide)]; exact i1.out h), (fun h => by rw [put_ne (by decide)]; exact i2.out h), (fun h => by rw [put_ne (by decide)]; exact i3.out h), (fun h => by rw [put_ne (by decide)]; exact i4.out h), (fun _ h => absurd h (by simp)), (fun _ => ⟨_, put_eq (by omega)⟩), (fun h => by rw [put_ne (by decide)]; exact i7.out h), (fun h => absurd (m9_6 h) (by rw [hk]; simp)), (hD.trans hD4), hS4, (Nat.le_trans hZ hD4.size), (hD4.owns Or (by omega)), (hD4.keep B1 (by omega)), (fun h => (hD4.keep (R0 h) (by omega))), (fun h => (hD4.keep (N0 h) (by omega))), m4_3, m5_4, (fun _ => g2), (fun _ => g5), m7_0, m8_1, (fun _ => rfl)⟩
        · unfold SlotStep
          intro g ac wc hn hk hr hI K' hK
          obtain ⟨xi5, xi6, xi7, xi3, i0, i1, i2, i3, i4, i5, i6, i7, i9, hD, hS, hZ, Or, B1, R0, N0, m4_3, m5_4, m6_2, m6_5, m7_0, m8_1, m9_6⟩ := hI
          simp only [Region.binds] at hr
          simp at hr
          replace hK := Lib.hid hK
          have g0 : g 0 = true := (by have h := hr; first | exact h | (simp at h; done) | (repeat (first | exact h | exact h.1 | replace h := h.2)))
          obtain y0 := i0 g0
          have z0 := sl_get y0 (by omega)
          replace i0 := Lib.hid i0
          replace i1 := Lib.hid i1
          replace i2 := Lib.hid i2
          replace i3 := Lib.hid i3
          replace i4 := Lib.hid i4
          replace i5 := Lib.hid i5
          replace i6 := Lib.hid i6
          replace i7 := Lib.hid i7
          replace i9 := Lib.hid i9
          go_simp
          exact hK.out _ _ ⟨(keepB xi5 (by decide)), (keepB xi6 (by decide)), (keepB xi7 (by decide)), (keepB xi3 (by decide)), (fun h => by rw [put_ne (by decide)]; exact i0.out h), (fun h => by rw [put_ne (by decide)]; exact i1.out h), (fun h => by rw [put_ne (by decide)]; exact i2.out h), (fun h => by rw [put_ne (by decide)]; exact i3.out h), (fun h => by rw [put_ne (by decide)]; exact i4.out h), (fun h h2 => by rw [put_ne (by decide)]; exact i5.out h h2), (fun h => by rw [put_ne (by decide)]; exact i6.out h), (fun _ => put_eq (by omega)), (fun h => by rw [put_ne (by decide)]; exact i9.out h), hD, hS, hZ, Or, B1, (fun h => (R0 h)), N0, m4_3, m5_4, m6_2, m6_5, (fun _ => g0), m8_1, m9_6⟩
        · unfold SlotStep
          intro g ac wc hn hk hr hI K' hK
          obtain ⟨xi5, xi6, xi7, xi3, i0, i1, i2, i3, i4, i5, i6, i7, i9, hD, hS, hZ, Or, B1, R0, N0, m4_3, m5_4, m6_2, m6_5, m7_0, m8_1, m9_6⟩ := hI
          simp only [Region.binds] at hr
          simp at hr
          replace hK := Lib.hid hK
          have g1 : g 1 = true := (by have h := hr; first | exact h | (simp at h; done) | (repeat (first | exact h | exact h.1 | replace h := h.2)))
          obtain y1 := i1 g1
          have z1 := sl_get y1 (by omega)
          have zi3 := sl_get xi3 (by omega)
          have hst := hk
          have hbb := blk_at (R0 hst)
          have cb := hbb.1
          have fb := hbb.2.1
          have zb := hbb.2.2
          clear hbb
          replace i0 := Lib.hid i0
          replace i1 := Lib.hid i1
          replace i2 := Lib.hid i2
          replace i3 := Lib.hid i3
          replace i4 := Lib.hid i4
          replace i5 := Lib.hid i5
          replace i6 := Lib.hid i6
          replace i7 := Lib.hid i7
          replace i9 := Lib.hid i9
          go_simp
          have hz0 := zb
          exact hK.out undef _ ⟨xi5, xi6, xi7, xi3, (fun h => i0.out h), (fun h => i1.out h), (fun h => i2.out h), (fun h => i3.out h), (fun h => i4.out h), (fun h h2 => ((i5.out h h2).setCell (by omega) _ _).setCell (by omega) _ _), (fun h => i6.out h), (fun h => i7.out h), (fun h => i9.out h), ((hD.setCell (by omega) _ _).setCell (by omega) _ _), ((hS.setLow (hAc.mono fun b hb => by omega) (by omega) _ _).setLow (hAc.mono fun b hb => by omega) (by omega) _ _), (by simpa using hZ), (owns_setNe (owns_setNe Or (by assumption) _ _) (by assumption) _ _), (other_set (other_set B1 (by omega) _) (by omega) _), (fun h => absurd h (by simp)), (fun _ => st_1_2 (st_0_2 (R0 hk) _) _), m4_3, m5_4, m6_2, m6_5, m7_0, (fun _ => g1), m9_6⟩
        · unfold SlotStep
          intro g ac wc hn hk hr hI K' hK
          obtain ⟨xi5, xi6, xi7, xi3, i0, i1, i2, i3, i4, i5, i6, i7, i9, hD, hS, hZ, Or, B1, R0, N0, m4_3, m5_4, m6_2, m6_5, m7_0, m8_1, m9_6⟩ := hI
          simp only [Region.binds] at hr
          simp at hr
          replace hK := Lib.hid hK
          have g6 : g 6 = true := (by have h := hr; first | exact h | (simp at h; done) | (repeat (first | exact h | exact h.1 | replace h := h.2)))
          obtain ⟨x6, y6⟩ := i6 g6
          have z6 := sl_get y6 (by omega)
          replace i0 := Lib.hid i0
          replace i1 := Lib.hid i1
          replace i2 := Lib.hid i2
          replace i3 := Lib.hid i3
          replace i4 := Lib.hid i4
          replace i5 := Lib.hid i5
          replace i6 := Lib.hid i6
          replace i7 := Lib.hid i7
          replace i9 := Lib.hid i9
          go_simp
          exact hK.out _ _ ⟨(keepB xi5 (by decide)), (keepB xi6 (by decide)), (keepB xi7 (by decide)), (keepB xi3 (by decide)), (fun h => by rw [put_ne (by decide)]; exact i0.out h), (fun h => by rw [put_ne (by decide)]; exact i1.out h), (fun h => by rw [put_ne (by decide)]; exact i2.out h), (fun h => by rw [put_ne (by decide)]; exact i3.out h), (fun h => by rw [put_ne (by decide)]; exact i4.out h), (fun _ h2 => absurd (show g 6 = false from h2) (by rw [g6]; simp)), (fun h => by rw [put_ne (by decide)]; exact i6.out h), (fun h => by rw [put_ne (by decide)]; exact i7.out h), (fun _ => ⟨_, put_eq (by omega)⟩), hD, hS, hZ, Or, B1, (fun h => (R0 h)), N0, m4_3, m5_4, m6_2, m6_5, m7_0, m8_1, (fun _ => g6)⟩
  · skip
    have hcb : (chainFigC l != 0) = true := by simpa using hc
    go_wp2_with fail
    refine (w_l02Draw k c _ (by repeat (with_reducible first | assumption | refine Src.alloc ?_ _ | refine Src.drew ?_ | refine Src.drewN ?_ _ | refine Src.setCell ?_ (by first | omega | (simp; omega)) _ _))).mono ?_
    rintro e w4 ⟨f, rfl, hD, hS4⟩
    have hz4 : w3.heap.size ≤ w4.heap.size := Nat.le_trans (by simp) hD.size
    have hD4 : Drawn w w4 k := Drawn.trans (by repeat (with_reducible first | assumption | exact grown_refl _ _ | refine Drawn.alloc ?_ _ | refine Drawn.drew ?_ | refine Drawn.drewN ?_ _ | refine Drawn.setCell ?_ (by first | omega | (simp; omega)) _ _)) hD
    have HK0_4 := Lib.hid (hD.keep (j := w.heap.size) (by repeat (with_reducible first | exact HK0_3.out | exact heap_alloc_new _ _ | apply heap_alloc_old | apply st_0_2 | apply st_1_2 | apply st_0_3 | apply st_1_3 | apply st_2_3 | apply st_0_4 | apply st_1_4 | apply st_2_4 | apply st_3_4 | (apply other_set; case hne => omega) | exact heap_alloc_new' _ _ (by first | rfl | (simp; done)))) (by omega))
    have HK1_4 := Lib.hid (hD.keep (j := w3.heap.size) (by repeat (with_reducible first | exact HK1_3.out | exact heap_alloc_new _ _ | apply heap_alloc_old | apply st_0_2 | apply st_1_2 | apply st_0_3 | apply st_1_3 | apply st_2_3 | apply st_0_4 | apply st_1_4 | apply st_2_4 | apply st_3_4 | (apply other_set; case hne => omega) | exact heap_alloc_new' _ _ (by first | rfl | (simp; done)))) (by omega))
    have HOr_4 := Lib.hid (hD.owns (by repeat (with_reducible first | exact HOr_3.out | apply World.ownsRow.alloc | (apply owns_setNe; case hk => first | assumption | exact ne_own HOr_3.out (by first | omega | (simp; omega)) | exact ne_low HOr_3.out (by omega)) | (refine owns_later ?_ (Later.refl _).drew) | (refine owns_later ?_ ((Later.refl _).drewN _)))) (by omega))
    clear hD c0 f0
    obtain ⟨c0, f0, z0_4⟩ := blk_at HK0_4.out
    obtain ⟨c1, f1, z1_4⟩ := blk_at HK1_4.out
    go_wp2_with fail
    obtain ⟨B, hBe, hBi⟩ : ∃ B, B = ((w4.setCell ⟨w3.heap.size, 0, none⟩ (.int .i64 f.d)).setCell ⟨w3.heap.size, 1, none⟩ (.int .i64 f.t)).heap.size ∧ w4.heap.size ≤ B := ⟨_, rfl, by simp⟩
    have hZ0 : B ≤ ((w4.setCell ⟨w3.heap.size, 0, none⟩ (.int .i64 f.d)).setCell ⟨w3.heap.size, 1, none⟩ (.int .i64 f.t)).drew.heap.size := Nat.le_of_eq hBe
    have hD0 : Drawn w ((w4.setCell ⟨w3.heap.size, 0, none⟩ (.int .i64 f.d)).setCell ⟨w3.heap.size, 1, none⟩ (.int .i64 f.t)) k := (by repeat (with_reducible first | assumption | exact grown_refl _ _ | refine Drawn.alloc ?_ _ | refine Drawn.drew ?_ | refine Drawn.drewN ?_ _ | refine Drawn.setCell ?_ (by first | omega | (simp; omega)) _ _))
    have hS0 : Src ((w4.setCell ⟨w3.heap.size, 0, none⟩ (.int .i64 f.d)).setCell ⟨w3.heap.size, 1, none⟩ (.int .i64 f.t)) k c := (by repeat (with_reducible first | assumption | refine Src.alloc ?_ _ | refine Src.drew ?_ | refine Src.drewN ?_ _ | refine Src.setCell ?_ (by first | omega | (simp; omega)) _ _))
    have Qr : ((w4.setCell ⟨w3.heap.size, 0, none⟩ (.int .i64 f.d)).setCell ⟨w3.heap.size, 1, none⟩ (.int .i64 f.t)).ownsRow w1.heap.size 55 3 (.slice ar l.length capr) l.length (trms l) := (by repeat (with_reducible first | exact HOr_4.out | apply World.ownsRow.alloc | (apply owns_setNe; case hk => first | assumption | exact ne_own HOr_4.out (by first | omega | (simp; omega)) | exact ne_low HOr_4.out (by omega)) | (refine owns_later ?_ (Later.refl _).drew) | (refine owns_later ?_ ((Later.refl _).drewN _))))
    have Q1 : ((w4.setCell ⟨w3.heap.size, 0, none⟩ (.int .i64 f.d)).setCell ⟨w3.heap.size, 1, none⟩ (.int .i64 f.t)).heap[w3.heap.size]? = some (.cells #[.int .i64 f.d, .int .i64 f.t] 41 (0, 0)) := (by repeat (with_reducible first | exact HK1_4.out | exact heap_alloc_new _ _ | apply heap_alloc_old | apply st_0_2 | apply st_1_2 | apply st_0_3 | apply st_1_3 | apply st_2_3 | apply st_0_4 | apply st_1_4 | apply st_2_4 | apply st_3_4 | (apply other_set; case hne => omega) | exact heap_alloc_new' _ _ (by first | rfl | (simp; done))))
    have Q0 : ((w4.setCell ⟨w3.heap.size, 0, none⟩ (.int .i64 f.d)).setCell ⟨w3.heap.size, 1, none⟩ (.int .i64 f.t)).heap[w.heap.size]? = some (.cells #[.int .i64 0, .int .i64 0] 41 (0, 0)) := (by repeat (with_reducible first | exact HK0_4.out | exact heap_alloc_new _ _ | apply heap_alloc_old | apply st_0_2 | apply st_1_2 | apply st_0_3 | apply st_1_3 | apply st_2_3 | apply st_0_4 | apply st_1_4 | apply st_2_4 | apply st_3_4 | (apply other_set; case hne => omega) | exact heap_alloc_new' _ _ (by first | rfl | (simp; done))))
    clear c0 f0 c1 f1
    have hne0 : (Value.slice ar l.length capr).ownBlock ≠ some w.heap.size := ne_low HOr_4.out (by omega)
    refine region_slots 34 [27, 28, 29, 30, 31, 32, 33, 2, 4] (fun g ac wc => sl ac 5 = .pointer (some ⟨k, 0, none⟩) ∧
        sl ac 6 = .slice ar l.length capr ∧
        sl ac 7 = .pointer (some ⟨w3.heap.size, 0, none⟩) ∧
        sl ac 3 = .pointer (some ⟨w.heap.size, 0, none⟩) ∧
        (g 0 = true → (sl ac 27) = .slice ar l.length capr) ∧
        (g 1 = true → (sl ac 28) = .agg #[.int .i64 f.d, .int .i64 f.t]) ∧
        (g 2 = true → (sl ac 29) = .pointer (some ⟨k, 0, none⟩)) ∧
        (g 3 = true → (sl ac 30) = .pointer (some ⟨k, 0, none⟩)) ∧
        (g 4 = true → ∃ x : Int, (sl ac 31) = .int .i64 x) ∧
        (g 5 = true → g 6 = false → NewS wc B (sl ac 32) 8) ∧
        (g 6 = true → ∃ x : Int, (sl ac 33) = .int .i64 x) ∧
        (g 7 = true → (sl ac 2) = .slice ar l.length capr) ∧
        (g 9 = true → ∃ x : Int, (sl ac 4) = .int .i64 x) ∧
        Drawn w wc k ∧
        Src wc k c ∧
        B ≤ wc.heap.size ∧
        wc.ownsRow w1.heap.size 55 3 (.slice ar l.length capr) l.length (trms l) ∧
        wc.heap[w3.heap.size]? = some (.cells #[.int .i64 f.d, .int .i64 f.t] 41 (0, 0)) ∧
        (g 8 = false → wc.heap[w.heap.size]? = some (.cells #[.int .i64 0, .int .i64 0] 41 (0, 0))) ∧
        (g 8 = true → wc.heap[w.heap.size]? = some (.cells #[.int .i64 f.d, .int .i64 f.t] 41 (0, 0))) ∧
        (g 4 = true → g 3 = true) ∧
        (g 5 = true → g 4 = true) ∧
        (g 6 = true → g 2 = true) ∧
        (g 6 = true → g 5 = true) ∧
        (g 7 = true → g 0 = true) ∧
        (g 8 = true → g 1 = true) ∧
        (g 9 = true → g 6 = true)) (by kernel_rfl) (by kernel_rfl) rfl (by kernel_rfl) ?_ ?_ ?_
    · exact ⟨rfl, rfl, rfl, rfl, nofun, nofun, nofun, nofun, nofun, nofun, nofun, nofun, nofun, hD0.drew, hS0.drew, hZ0, owns_later Qr (Later.refl _).drew, Q1, fun _ => Q0, nofun, nofun, nofun, nofun, nofun, nofun, nofun, nofun⟩
    · intro g ac wu hg ha hI
      obtain ⟨xi5, xi6, xi7, xi3, i0, i1, i2, i3, i4, i5, i6, i7, i9, hD, hS, hZ, Or, B1, -, N0, -, -, -, -, -, -, -⟩ := hI
      obtain e0 := i0 (hg 0 (by simp))
      obtain e1 := i1 (hg 1 (by simp))
      obtain e2 := i2 (hg 2 (by simp))
      obtain e3 := i3 (hg 3 (by simp))
      obtain ⟨xd4, e4⟩ := i4 (hg 4 (by simp))
      obtain ⟨v5, e5⟩ : ∃ v, sl ac 32 = v := ⟨_, rfl⟩
      obtain ⟨xd6, e6⟩ := i6 (hg 6 (by simp))
      obtain e7 := i7 (hg 7 (by simp))
      obtain ⟨xd9, e9⟩ := i9 (hg 9 (by simp))
      replace N0 := N0 (hg 8 (by simp))
      simp only [putAll, e0, e1, e2, e3, e4, e5, e6, e7, e9] at ha
      simp only [Act.put, List.setIfInBounds_toArray, List.set_cons_succ, List.set_cons_zero] at ha
      rw [ha]
      clear xi5 xi6 xi7 xi3 i0 i1 i2 i3 i4 i5 i6 i7 i9 e0 e1 e2 e3 e4 e5 e6 e7 e9 hg ha
      have hcb := (blk_at N0).1
      have hzb := (blk_at N0).2.2
      have HDu := Lib.hid hD
      have HOu := Lib.hid Or
      clear hD hS Or B1 N0
      go_wp2
      refine bodyPost_ret (v := .tuple #[.slice ar l.length capr, .agg #[.int .i64 f.d, .int .i64 f.t], .int .i64 xd9]) (by simp [results, Try.results38, go_sem, hcb, hzb]) rfl ⟨_, l, ⟨f.d, f.t⟩, xd9, rfl, owns_base HOu.out (by omega), hl7, (Later.refl w).drawn (by omega) HDu.out⟩
    · refine .cons ?_ (.cons ?_ (.cons ?_ (.cons ?_ (.cons ?_ (.cons ?_ (.cons ?_ (.cons ?_ (.cons ?_ (.cons ?_ .nil)))))))))
      · unfold SlotStep
        intro g ac wc hn hk hr hI K' hK
        obtain ⟨xi5, xi6, xi7, xi3, i0, i1, i2, i3, i4, i5, i6, i7, i9, hD, hS, hZ, Or, B1, R0, N0, m4_3, m5_4, m6_2, m6_5, m7_0, m8_1, m9_6⟩ := hI
        simp only [Region.binds] at hr
        simp at hr
        replace hK := Lib.hid hK
        have zi6 := sl_get xi6 (by omega)
        replace i0 := Lib.hid i0
        replace i1 := Lib.hid i1
        replace i2 := Lib.hid i2
        replace i3 := Lib.hid i3
        replace i4 := Lib.hid i4
        replace i5 := Lib.hid i5
        replace i6 := Lib.hid i6
        replace i7 := Lib.hid i7
        replace i9 := Lib.hid i9
        go_simp
        exact hK.out _ _ ⟨(keepB xi5 (by decide)), (keepB xi6 (by decide)), (keepB xi7 (by decide)), (keepB xi3 (by decide)), (fun _ => put_eq (by omega)), (fun h => by rw [put_ne (by decide)]; exact i1.out h), (fun h => by rw [put_ne (by decide)]; exact i2.out h), (fun h => by rw [put_ne (by decide)]; exact i3.out h), (fun h => by rw [put_ne (by decide)]; exact i4.out h), (fun h h2 => by rw [put_ne (by decide)]; exact i5.out h h2), (fun h => by rw [put_ne (by decide)]; exact i6.out h), (fun h => absurd (m7_0 h) (by rw [hk]; simp)), (fun h => by rw [put_ne (by decide)]; exact i9.out h), hD, hS, hZ, Or, B1, (fun h => (R0 h)), N0, m4_3, m5_4, m6_2, m6_5, (fun _ => rfl), m8_1, m9_6⟩
      · unfold SlotStep
        intro g ac wc hn hk hr hI K' hK
        obtain ⟨xi5, xi6, xi7, xi3, i0, i1, i2, i3, i4, i5, i6, i7, i9, hD, hS, hZ, Or, B1, R0, N0, m4_3, m5_4, m6_2, m6_5, m7_0, m8_1, m9_6⟩ := hI
        simp only [Region.binds] at hr
        simp at hr
        replace hK := Lib.hid hK
        have zi7 := sl_get xi7 (by omega)
        have hbb := blk_at B1
        have cb := hbb.1
        have fb := hbb.2.1
        have zb := hbb.2.2
        clear hbb
        replace i0 := Lib.hid i0
        replace i1 := Lib.hid i1
        replace i2 := Lib.hid i2
        replace i3 := Lib.hid i3
        replace i4 := Lib.hid i4
        replace i5 := Lib.hid i5
        replace i6 := Lib.hid i6
        replace i7 := Lib.hid i7
        replace i9 := Lib.hid i9
        go_simp
        exact hK.out _ _ ⟨(keepB xi5 (by decide)), (keepB xi6 (by decide)), (keepB xi7 (by decide)), (keepB xi3 (by decide)), (fun h => by rw [put_ne (by decide)]; exact i0.out h), (fun _ => put_eq (by omega)), (fun h => by rw [put_ne (by decide)]; exact i2.out h), (fun h => by rw [put_ne (by decide)]; exact i3.out h), (fun h => by rw [put_ne (by decide)]; exact i4.out h), (fun h h2 => by rw [put_ne (by decide)]; exact i5.out h h2), (fun h => by rw [put_ne (by decide)]; exact i6.out h), (fun h => by rw [put_ne (by decide)]; exact i7.out h), (fun h => by rw [put_ne (by decide)]; exact i9.out h), hD, hS, hZ, Or, B1, (fun h => (R0 h)), N0, m4_3, m5_4, m6_2, m6_5, m7_0, (fun _ => rfl), m9_6⟩
      · unfold SlotStep
        intro g ac wc hn hk hr hI K' hK
        obtain ⟨xi5, xi6, xi7, xi3, i0, i1, i2, i3, i4, i5, i6, i7, i9, hD, hS, hZ, Or, B1, R0, N0, m4_3, m5_4, m6_2, m6_5, m7_0, m8_1, m9_6⟩ := hI
        simp only [Region.binds] at hr
        simp at hr
        replace hK := Lib.hid hK
        have zi5 := sl_get xi5 (by omega)
        replace i0 := Lib.hid i0
        replace i1 := Lib.hid i1
        replace i2 := Lib.hid i2
        replace i3 := Lib.hid i3
        replace i4 := Lib.hid i4
        replace i5 := Lib.hid i5
        replace i6 := Lib.hid i6
        replace i7 := Lib.hid i7
        replace i9 := Lib.hid i9
        go_simp
        exact hK.out _ _ ⟨(keepB xi5 (by decide)), (keepB xi6 (by decide)), (keepB xi7 (by decide)), (keepB xi3 (by decide)), (fun h => by rw [put_ne (by decide)]; exact i0.out h), (fun h => by rw [put_ne (by decide)]; exact i1.out h), (fun _ => put_eq (by omega)), (fun h => by rw [put_ne (by decide)]; exact i3.out h), (fun h => by rw [put_ne (by decide)]; exact i4.out h), (fun h h2 => by rw [put_ne (by decide)]; exact i5.out h h2), (fun h => absurd (m6_2 h) (by rw [hk]; simp)), (fun h => by rw [put_ne (by decide)]; exact i7.out h), (fun h => by rw [put_ne (by decide)]; exact i9.out h), hD, hS, hZ, Or, B1, (fun h => (R0 h)), N0, m4_3, m5_4, (fun _ => rfl), m6_5, m7_0, m8_1, m9_6⟩
      · unfold SlotStep
        intro g ac wc hn hk hr hI K' hK
        obtain ⟨xi5, xi6, xi7, xi3, i0, i1, i2, i3, i4, i5, i6, i7, i9, hD, hS, hZ, Or, B1, R0, N0, m4_3, m5_4, m6_2, m6_5, m7_0, m8_1, m9_6⟩ := hI
        simp only [Region.binds] at hr
        simp at hr
        replace hK := Lib.hid hK
        have zi5 := sl_get xi5 (by omega)
        replace i0 := Lib.hid i0
        replace i1 := Lib.hid i1
        replace i2 := Lib.hid i2
        replace i3 := Lib.hid i3
        replace i4 := Lib.hid i4
        replace i5 := Lib.hid i5
        replace i6 := Lib.hid i6
        replace i7 := Lib.hid i7
        replace i9 := Lib.hid i9
        go_simp
        exact hK.out _ _ ⟨(keepB xi5 (by decide)), (keepB xi6 (by decide)), (keepB xi7 (by decide)), (keepB xi3 (by decide)), (fun h => by rw [put_ne (by decide)]; exact i0.out h), (fun h => by rw [put_ne (by decide)]; exact i1.out h), (fun h => by rw [put_ne (by decide)]; exact i2.out h), (fun _ => put_eq (by omega)), (fun h => absurd (m4_3 h) (by rw [hk]; simp)), (fun h h2 => absurd (m4_3 (m5_4 h)) (by rw [hk]; simp)), (fun h => by rw [put_ne (by decide)]; exact i6.out h), (fun h => by rw [put_ne (by decide)]; exact i7.out h), (fun h => by rw [put_ne (by decide)]; exact i9.out h), hD, hS, hZ, Or, B1, (fun h => (R0 h)), N0, (fun _ => rfl), m5_4, m6_2, m6_5, m7_0, m8_1, m9_6⟩
      · unfold SlotStep
        intro g ac wc hn hk hr hI K' hK
        obtain ⟨xi5, xi6, xi7, xi3, i0, i1, i2, i3, i4, i5, i6, i7, i9, hD, hS, hZ, Or, B1, R0, N0, m4_3, m5_4, m6_2, m6_5, m7_0, m8_1, m9_6⟩ := hI
        simp only [Region.binds] at hr
        simp at hr
        replace hK := Lib.hid hK
        have g3 : g 3 = true := (by have h := hr; first | exact h | (simp at h; done) | (repeat (first | exact h | exact h.1 | replace h := h.2)))
        obtain y3 := i3 g3
        have z3 := sl_get y3 (by omega)
        replace i0 := Lib.hid i0
        replace i1 := Lib.hid i1
        replace i2 := Lib.hid i2
        replace i3 := Lib.hid i3
        replace i4 := Lib.hid i4
        replace i5 := Lib.hid i5
        replace i6 := Lib.hid i6
        replace i7 := Lib.hid i7
        replace i9 := Lib.hid i9
        go_simp
        refine (w_l01Next k c 3000 wc hS).mono ?_
        rintro e w4 ⟨x, rfl, xa, xb, hD4, hS4⟩
        exact hK.out _ _ ⟨(keepB xi5 (by decide)), (keepB xi6 (by decide)), (keepB xi7 (by decide)), (keepB xi3 (by decide)), (fun h => by rw [put_ne (by decide)]; exact i0.out h), (fun h => by rw [put_ne (by decide)]; exact i1.out h), (fun h => by rw [put_ne (by decide)]; exact i2.out h), (fun h => by rw [put_ne (by decide)]; exact i3.out h), (fun _ => ⟨_, put_eq (by omega)⟩), (fun h h2 => absurd (m5_4 h) (by rw [hk]; simp)), (fun h => by rw [put_ne (by decide)]; exact i6.out h), (fun h => by rw [put_ne (by decide)]; exact i7.out h), (fun h => by rw [put_ne (by decide)]; exact i9.out h), (hD.trans hD4), hS4, (Nat.le_trans hZ hD4.size), (hD4.owns Or (by omega)), (hD4.keep B1 (by omega)), (fun h => (hD4.keep (R0 h) (by omega))), (fun h => (hD4.keep (N0 h) (by omega))), (fun _ => g3), (fun _ => rfl), m6_2, m6_5, m7_0, m8_1, m9_6⟩
      · unfold SlotStep
        intro g ac wc hn hk hr hI K' hK
        obtain ⟨xi5, xi6, xi7, xi3, i0, i1, i2, i3, i4, i5, i6, i7, i9, hD, hS, hZ, Or, B1, R0, N0, m4_3, m5_4, m6_2, m6_5, m7_0, m8_1, m9_6⟩ := hI
        simp only [Region.binds] at hr
        simp at hr
        replace hK := Lib.hid hK
        have g4 : g 4 = true := (by have h := hr; first | exact h | (simp at h; done) | (repeat (first | exact h | exact h.1 | replace h := h.2)))
        obtain ⟨x4, y4⟩ := i4 g4
        have z4 := sl_get y4 (by omega)
        replace i0 := Lib.hid i0
        replace i1 := Lib.hid i1
        replace i2 := Lib.hid i2
        replace i3 := Lib.hid i3
        replace i4 := Lib.hid i4
        replace i5 := Lib.hid i5
        replace i6 := Lib.hid i6
        replace i7 := Lib.hid i7
        replace i9 := Lib.hid i9
        go_simp
        have hL4 := (Later.refl wc).alloc (.cells (nums [0, 10, 100, 1000, x4, 1048576, 1048577, -1]).toArray 2)
        exact hK.out _ _ ⟨(keepB xi5 (by decide)), (keepB xi6 (by decide)), (keepB xi7 (by decide)), (keepB xi3 (by decide)), (fun h => by rw [put_ne (by decide)]; exact i0.out h), (fun h => by rw [put_ne (by decide)]; exact i1.out h), (fun h => by rw [put_ne (by decide)]; exact i2.out h), (fun h => by rw [put_ne (by decide)]; exact i3.out h), (fun h => by rw [put_ne (by decide)]; exact i4.out h), (fun _ _ => by rw [put_eq (by omega)]; exact NewS.mk hZ [0, 10, 100, 1000, x4, 1048576, 1048577, -1] (by simp)), (fun h => absurd (m6_5 h) (by rw [hk]; simp)), (fun h => by rw [put_ne (by decide)]; exact i7.out h), (fun h => by rw [put_ne (by decide)]; exact i9.out h), (hD.later hL4), (hS.later hL4), (Nat.le_trans hZ hL4.size), (owns_later Or hL4), (hL4.keep B1), (fun h => (hL4.keep (R0 h))), (fun h => (hL4.keep (N0 h))), m4_3, (fun _ => g4), m6_2, (fun _ => rfl), m7_0, m8_1, m9_6⟩
      · unfold SlotStep
        intro g ac wc hn hk hr hI K' hK
        obtain ⟨xi5, xi6, xi7, xi3, i0, i1, i2, i3, i4, i5, i6, i7, i9, hD, hS, hZ, Or, B1, R0, N0, m4_3, m5_4, m6_2, m6_5, m7_0, m8_1, m9_6⟩ := hI
        simp only [Region.binds] at hr
        simp at hr
        replace hK := Lib.hid hK
        have g2 : g 2 = true := (by have h := hr; first | exact h | (simp at h; done) | (repeat (first | exact h | exact h.1 | replace h := h.2)))
        obtain y2 := i2 g2
        have z2 := sl_get y2 (by omega)
        have g5 : g 5 = true := (by have h := hr; first | exact h | (simp at h; done) | (repeat (first | exact h | exact h.1 | replace h := h.2)))
        obtain ⟨b5, xs5, y5, hne5, hxl5, hrd5⟩ := i5 g5 hk
        have z5 := sl_get y5 (by omega)
        replace i0 := Lib.hid i0
        replace i1 := Lib.hid i1
        replace i2 := Lib.hid i2
        replace i3 := Lib.hid i3
        replace i4 := Lib.hid i4
        replace i5 := Lib.hid i5
        replace i6 := Lib.hid i6
        replace i7 := Lib.hid i7
        replace i9 := Lib.hid i9
        go_simp
        refine (w_l01Pick' k B c _ 8 wc hS ⟨b5, xs5, rfl, hne5, hxl5, y5 ▸ hrd5⟩ (by omega) (by omega)).mono ?_
        rintro e w4 ⟨x, rfl, hD4, hS4⟩
        exact hK.out _ _ ⟨(keepB xi5 (by decide)), (keepB xi6 (by decide)), (keepB xi7 (by decide)), (keepB xi3 (by decide)), (fun h => by rw [put_ne (by decide)]; exact i0.out h), (fun h => by rw [put_ne (by decide)]; exact i1.out h), (fun h => by rw [put_ne (by decide)]; exact i2.out h), (fun h => by rw [put_ne (by decide)]; exact i3.out h), (fun h => by rw [put_ne (by decide)]; exact i4.out h), (fun _ h => absurd h (by simp)), (fun _ => ⟨_, put_eq (by omega)⟩), (fun h => by rw [put_ne (by decide)]; exact i7.out h), (fun h => absurd (m9_6 h) (by rw [hk]; simp)), (hD.trans hD4), hS4, (Nat.le_trans hZ hD4.size), (hD4.owns Or (by omega)), (hD4.keep B1 (by omega)), (fun h => (hD4.keep (R0 h) (by omega))), (fun h => (hD4.keep (N0 h) (by omega))), m4_3, m5_4, (fun _ => g2), (fun _ => g5), m7_0, m8_1, (fun _ => rfl)⟩
      · unfold SlotStep
        intro g ac wc hn hk hr hI K' hK
        obtain ⟨xi5, xi6, xi7, xi3, i0, i1, i2, i3, i4, i5, i6, i7, i9, hD, hS, hZ, Or, B1, R0, N0, m4_3, m5_4, m6_2, m6_5, m7_0, m8_1, m9_6⟩ := hI
        simp only [Region.binds] at hr
        simp at hr
        replace hK := Lib.hid hK
        have g0 : g 0 = true := (by have h := hr; first | exact h | (simp at h; done) | (repeat (first | exact h | exact h.1 | replace h := h.2)))
        obtain y0 := i0 g0
        have z0 := sl_get y0 (by omega)
        replace i0 := Lib.hid i0
        replace i1 := Lib.hid i1
        replace i2 := Lib.hid i2
        replace i3 := Lib.hid i3
        replace i4 := Lib.hid i4
        replace i5 := Lib.hid i5
        replace i6 := Lib.hid i6
        replace i7 := Lib.hid i7
        replace i9 := Lib.hid i9
        go_simp
        exact hK.out _ _ ⟨(keepB xi5 (by decide)), (keepB xi6 (by decide)), (keepB xi7 (by decide)), (keepB xi3 (by decide)), (fun h => by rw [put_ne (by decide)]; exact i0.out h), (fun h => by rw [put_ne (by decide)]; exact i1.out h), (fun h => by rw [put_ne (by decide)]; exact i2.out h), (fun h => by rw [put_ne (by decide)]; exact i3.out h), (fun h => by rw [put_ne (by decide)]; exact i4.out h), (fun h h2 => by rw [put_ne (by decide)]; exact i5.out h h2), (fun h => by rw [put_ne (by decide)]; exact i6.out h), (fun _ => put_eq (by omega)), (fun h => by rw [put_ne (by decide)]; exact i9.out h), hD, hS, hZ, Or, B1, (fun h => (R0 h)), N0, m4_3, m5_4, m6_2, m6_5, (fun _ => g0), m8_1, m9_6⟩
      · unfold SlotStep
        intro g ac wc hn hk hr hI K' hK
        obtain ⟨xi5, xi6, xi7, xi3, i0, i1, i2, i3, i4, i5, i6, i7, i9, hD, hS, hZ, Or, B1, R0, N0, m4_3, m5_4, m6_2, m6_5, m7_0, m8_1, m9_6⟩ := hI
        simp only [Region.binds] at hr
        simp at hr
        replace hK := Lib.hid hK
        have g1 : g 1 = true := (by have h := hr; first | exact h | (simp at h; done) | (repeat (first | exact h | exact h.1 | replace h := h.2)))
        obtain y1 := i1 g1
        have z1 := sl_get y1 (by omega)
        have zi3 := sl_get xi3 (by omega)
        have hst := hk
        have hbb := blk_at (R0 hst)
        have cb := hbb.1
        have fb := hbb.2.1
        have zb := hbb.2.2
        clear hbb
        replace i0 := Lib.hid i0
        replace i1 := Lib.hid i1
        replace i2 := Lib.hid i2
        replace i3 := Lib.hid i3
        replace i4 := Lib.hid i4
        replace i5 := Lib.hid i5
        replace i6 := Lib.hid i6
        replace i7 := Lib.hid i7
        replace i9 := Lib.hid i9
        go_simp
        have hz0 := zb
        exact hK.out undef _ ⟨xi5, xi6, xi7, xi3, (fun h => i0.out h), (fun h => i1.out h), (fun h => i2.out h), (fun h => i3.out h), (fun h => i4.out h), (fun h h2 => ((i5.out h h2).setCell (by omega) _ _).setCell (by omega) _ _), (fun h => i6.out h), (fun h => i7.out h), (fun h => i9.out h), ((hD.setCell (by omega) _ _).setCell (by omega) _ _), ((hS.setLow (hAc.mono fun b hb => by omega) (by omega) _ _).setLow (hAc.mono fun b hb => by omega) (by omega) _ _), (by simpa using hZ), (owns_setNe (owns_setNe Or (by assumption) _ _) (by assumption) _ _), (other_set (other_set B1 (by omega) _) (by omega) _), (fun h => absurd h (by simp)), (fun _ => st_1_2 (st_0_2 (R0 hk) _) _), m4_3, m5_4, m6_2, m6_5, m7_0, (fun _ => g1), m9_6⟩
      · unfold SlotStep
        intro g ac wc hn hk hr hI K' hK
        obtain ⟨xi5, xi6, xi7, xi3, i0, i1, i2, i3, i4, i5, i6, i7, i9, hD, hS, hZ, Or, B1, R0, N0, m4_3, m5_4, m6_2, m6_5, m7_0, m8_1, m9_6⟩ := hI
        simp only [Region.binds] at hr
        simp at hr
        replace hK := Lib.hid hK
        have g6 : g 6 = true := (by have h := hr; first | exact h | (simp at h; done) | (repeat (first | exact h | exact h.1 | replace h := h.2)))
        obtain ⟨x6, y6⟩ := i6 g6
        have z6 := sl_get y6 (by omega)
        replace i0 := Lib.hid i0
        replace i1 := Lib.hid i1
        replace i2 := Lib.hid i2
        replace i3 := Lib.hid i3
        replace i4 := Lib.hid i4
        replace i5 := Lib.hid i5
        replace i6 := Lib.hid i6
        replace i7 := Lib.hid i7
        replace i9 := Lib.hid i9
        go_simp
        exact hK.out _ _ ⟨(keepB xi5 (by decide)), (keepB xi6 (by decide)), (keepB xi7 (by decide)), (keepB xi3 (by decide)), (fun h => by rw [put_ne (by decide)]; exact i0.out h), (fun h => by rw [put_ne (by decide)]; exact i1.out h), (fun h => by rw [put_ne (by decide)]; exact i2.out h), (fun h => by rw [put_ne (by decide)]; exact i3.out h), (fun h => by rw [put_ne (by decide)]; exact i4.out h), (fun _ h2 => absurd (show g 6 = false from h2) (by rw [g6]; simp)), (fun h => by rw [put_ne (by decide)]; exact i6.out h), (fun h => by rw [put_ne (by decide)]; exact i7.out h), (fun _ => ⟨_, put_eq (by omega)⟩), hD, hS, hZ, Or, B1, (fun h => (R0 h)), N0, m4_3, m5_4, m6_2, m6_5, m7_0, m8_1, (fun _ => g6)⟩

end Go.Proofs.Ytkoojngonldcbaa
