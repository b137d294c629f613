/- DERIVED. Walks: the draws of moves. -/
import Derived.Test.YtkoojngonldcbaaM103
import Derived.Test.YtkoojngonldcbaaM110
namespace Go.Proofs.Ytkoojngonldcbaa
set_option linter.unusedVariables false
set_option linter.unusedSimpArgs false
open Go.RowKit
set_option maxRecDepth 100000

set_option maxHeartbeats 2000000 in
theorem w_DrawRunMoves (c : Value) (bs : List Int) (w : World) (h : IsByts w c bs) (hB : ∀ b ∈ bs, 0 ≤ b ∧ b ≤ 255) (hl : bs.length ≤ 4096) :
    Calls Try.prog 52 #[c] w fun e w' => ∃ (n : Int) (u v : Value) (st sd : List Int) (s : Stg) (l : List Mov) (z : Value), e = .returned (.tuple #[.agg #[.int .i64 n, u, v], .agg #[.int .i64 s.sh, .int .i64 s.cu], z]) ∧ w'.ownsRow w.heap.size 2 1 u st.length (nums st) ∧ w'.ownsRow w.heap.size 2 1 v sd.length (nums sd) ∧ st.length ≤ 5 ∧ sd.length ≤ 5 ∧ w'.ownsRow w.heap.size 74 4 z l.length (movs l) ∧ l.length ≤ 31 ∧ Later w w' := by
  go_enter Try.func52, Try.ntmps52
  go_wp2_with fail
  refine (w_l01From' c bs _ (h.later (by (repeat (with_reducible first | exact Later.refl _ | refine Later.alloc ?_ _ | refine Later.drew ?_ | refine Later.drewN ?_ _ | refine Later.setCell ?_ (by simp; try omega) _ | refine Later.trans ?_ (by assumption))))) hB hl).mono ?_
  rintro e w1 ⟨k, rfl, hk0, hL1, hS1⟩
  have hk0 : w.heap.size + 2 ≤ k := by simpa using hk0
  have hk := hS1.lt
  have hAc := byts_in h
  have hD1 : Drawn w w1 k := Drawn.later (by repeat (with_reducible first | exact grown_refl _ _ | refine Drawn.alloc ?_ _)) hL1
  have HK0_1 := Lib.hid (hL1.keep (k := w.heap.size) (by repeat (with_reducible first | exact HK0_0.out | exact heap_alloc_new _ _ | (apply heap_alloc_new'; first | rfl | (simp; done)) | apply heap_alloc_old | apply st_0_2 | apply st_1_2 | apply st_0_3 | apply st_1_3 | apply st_2_3 | apply st_0_4 | apply st_1_4 | apply st_2_4 | apply st_3_4 | (apply other_set; case hne => omega) | exact heap_alloc_new' _ _ (by first | rfl | (simp; done)))))
  have HK1_1 := Lib.hid (hL1.keep (k := w.heap.size + 1) (by repeat (with_reducible first | exact HK1_0.out | exact heap_alloc_new _ _ | (apply heap_alloc_new'; first | rfl | (simp; done)) | apply heap_alloc_old | apply st_0_2 | apply st_1_2 | apply st_0_3 | apply st_1_3 | apply st_2_3 | apply st_0_4 | apply st_1_4 | apply st_2_4 | apply st_3_4 | (apply other_set; case hne => omega) | exact heap_alloc_new' _ _ (by first | rfl | (simp; done)))))
  obtain ⟨c0, f0, z0_1⟩ := blk_at HK0_1.out
  obtain ⟨c1, f1, z1_1⟩ := blk_at HK1_1.out
  have hz1 := hD1.size
  clear hL1
  go_wp2_with fail
  refine (w_l12Draw k c _ (by repeat (with_reducible first | assumption | refine Src.alloc ?_ _ | refine Src.drew ?_ | refine Src.drewN ?_ _ | refine Src.setCell ?_ (by first | omega | (simp; omega)) _ _))).mono ?_
  rintro e w2 ⟨n, vu, vv, st, sd, s, l, vz, rfl, hOu, hOv, hu5, hv5, hOz, hz31, hD, hS2⟩
  have hz2 : w1.heap.size ≤ w2.heap.size := Nat.le_trans (by first | (simp; done) | (simp; omega)) hD.size
  have hD2 : Drawn w w2 k := Drawn.trans (by repeat (with_reducible first | assumption | exact grown_refl _ _ | refine Drawn.alloc ?_ _ | refine Drawn.drew ?_ | refine Drawn.drewN ?_ _ | refine Drawn.setCell ?_ (by first | omega | (simp; omega)) _ _)) hD
  have HK0_2 := Lib.hid (hD.keep (j := w.heap.size) (by repeat (with_reducible first | exact HK0_1.out | exact heap_alloc_new _ _ | (apply heap_alloc_new'; first | rfl | (simp; done)) | apply heap_alloc_old | apply st_0_2 | apply st_1_2 | apply st_0_3 | apply st_1_3 | apply st_2_3 | apply st_0_4 | apply st_1_4 | apply st_2_4 | apply st_3_4 | (apply other_set; case hne => omega) | exact heap_alloc_new' _ _ (by first | rfl | (simp; done)))) (by omega))
  have HK1_2 := Lib.hid (hD.keep (j := w.heap.size + 1) (by repeat (with_reducible first | exact HK1_1.out | exact heap_alloc_new _ _ | (apply heap_alloc_new'; first | rfl | (simp; done)) | apply heap_alloc_old | apply st_0_2 | apply st_1_2 | apply st_0_3 | apply st_1_3 | apply st_2_3 | apply st_0_4 | apply st_1_4 | apply st_2_4 | apply st_3_4 | (apply other_set; case hne => omega) | exact heap_alloc_new' _ _ (by first | rfl | (simp; done)))) (by omega))
  clear hD c0 f0 c1 f1
  obtain ⟨c0, f0, z0_2⟩ := blk_at HK0_2.out
  obtain ⟨c1, f1, z1_2⟩ := blk_at HK1_2.out
  obtain ⟨au, capu, rfl⟩ := isSl_of hOu
  have HOu_2 := Lib.hid hOu
  clear hOu
  obtain ⟨av, capv, rfl⟩ := isSl_of hOv
  have HOv_2 := Lib.hid hOv
  clear hOv
  obtain ⟨az, capz, rfl⟩ := isSl_of hOz
  have HOz_2 := Lib.hid hOz
  clear hOz
  go_wp2
  refine bodyPost_ret (v := .tuple #[.agg #[.int .i64 n, .slice au st.length capu, .slice av sd.length capv], .agg #[.int .i64 s.sh, .int .i64 s.cu], .slice az l.length capz]) (by simp [results, Try.results52, go_sem, c0, z0_2, c1, z1_2]) rfl ⟨n, _, _, st, sd, s, l, _, rfl, owns_base (base := w1.heap.size) (by repeat (with_reducible first | exact HOu_2.out | apply World.ownsRow.alloc | (apply owns_setNe; case hk => first | assumption | exact ne_own HOu_2.out (by first | omega | (simp; omega)) | exact ne_low HOu_2.out (by omega)) | (refine owns_later ?_ (Later.refl _).drew) | (refine owns_later ?_ ((Later.refl _).drewN _)))) (by omega), owns_base (base := w1.heap.size) (by repeat (with_reducible first | exact HOv_2.out | apply World.ownsRow.alloc | (apply owns_setNe; case hk => first | assumption | exact ne_own HOv_2.out (by first | omega | (simp; omega)) | exact ne_low HOv_2.out (by omega)) | (refine owns_later ?_ (Later.refl _).drew) | (refine owns_later ?_ ((Later.refl _).drewN _)))) (by omega), hu5, hv5, owns_base (base := w1.heap.size) (by repeat (with_reducible first | exact HOz_2.out | apply World.ownsRow.alloc | (apply owns_setNe; case hk => first | assumption | exact ne_own HOz_2.out (by first | omega | (simp; omega)) | exact ne_low HOz_2.out (by omega)) | (refine owns_later ?_ (Later.refl _).drew) | (refine owns_later ?_ ((Later.refl _).drewN _)))) (by omega), hz31, Later.drawn (k := k) (Later.refl w) (by omega) (by repeat (with_reducible first | assumption | exact grown_refl _ _ | refine Drawn.alloc ?_ _ | refine Drawn.drew ?_ | refine Drawn.drewN ?_ _ | refine Drawn.setCell ?_ (by first | omega | (simp; omega)) _ _))⟩

set_option maxHeartbeats 2000000 in
theorem w_DrawApplyMove (c : Value) (bs : List Int) (w : World) (h : IsByts w c bs) (hB : ∀ b ∈ bs, 0 ≤ b ∧ b ≤ 255) (hl : bs.length ≤ 4096) :
    Calls Try.prog 57 #[c] w fun e w' => ∃ (n : Int) (u v : Value) (st sd : List Int) (s : Stg) (m : Mov), e = .returned (.tuple #[.agg #[.int .i64 n, u, v], .agg #[.int .i64 s.sh, .int .i64 s.cu], .agg #[.int .i64 m.k, .int .i64 m.s, .int .i64 m.f.d, .int .i64 m.f.t]]) ∧ w'.ownsRow w.heap.size 2 1 u st.length (nums st) ∧ w'.ownsRow w.heap.size 2 1 v sd.length (nums sd) ∧ st.length ≤ 5 ∧ sd.length ≤ 5 ∧ Later w w' := by
  go_enter Try.func57, Try.ntmps57
  go_wp2_with fail
  refine (w_l01From' c bs _ (h.later (by (repeat (with_reducible first | exact Later.refl _ | refine Later.alloc ?_ _ | refine Later.drew ?_ | refine Later.drewN ?_ _ | refine Later.setCell ?_ (by simp; try omega) _ | refine Later.trans ?_ (by assumption))))) hB hl).mono ?_
  rintro e w1 ⟨k, rfl, hk0, hL1, hS1⟩
  have hk0 : w.heap.size + 3 ≤ k := by simpa using hk0
  have hk := hS1.lt
  have hAc := byts_in h
  have hD1 : Drawn w w1 k := Drawn.later (by repeat (with_reducible first | exact grown_refl _ _ | refine Drawn.alloc ?_ _)) hL1
  have HK0_1 := Lib.hid (hL1.keep (k := w.heap.size) (by repeat (with_reducible first | exact HK0_0.out | exact heap_alloc_new _ _ | (apply heap_alloc_new'; first | rfl | (simp; done)) | apply heap_alloc_old | apply st_0_2 | apply st_1_2 | apply st_0_3 | apply st_1_3 | apply st_2_3 | apply st_0_4 | apply st_1_4 | apply st_2_4 | apply st_3_4 | (apply other_set; case hne => omega) | exact heap_alloc_new' _ _ (by first | rfl | (simp; done)))))
  have HK1_1 := Lib.hid (hL1.keep (k := w.heap.size + 1) (by repeat (with_reducible first | exact HK1_0.out | exact heap_alloc_new _ _ | (apply heap_alloc_new'; first | rfl | (simp; done)) | apply heap_alloc_old | apply st_0_2 | apply st_1_2 | apply st_0_3 | apply st_1_3 | apply st_2_3 | apply st_0_4 | apply st_1_4 | apply st_2_4 | apply st_3_4 | (apply other_set; case hne => omega) | exact heap_alloc_new' _ _ (by first | rfl | (simp; done)))))
  have HK2_1 := Lib.hid (hL1.keep (k := w.heap.size + 1 + 1) (by repeat (with_reducible first | exact HK2_0.out | exact heap_alloc_new _ _ | (apply heap_alloc_new'; first | rfl | (simp; done)) | apply heap_alloc_old | apply st_0_2 | apply st_1_2 | apply st_0_3 | apply st_1_3 | apply st_2_3 | apply st_0_4 | apply st_1_4 | apply st_2_4 | apply st_3_4 | (apply other_set; case hne => omega) | exact heap_alloc_new' _ _ (by first | rfl | (simp; done)))))
  obtain ⟨c0, f0, z0_1⟩ := blk_at HK0_1.out
  obtain ⟨c1, f1, z1_1⟩ := blk_at HK1_1.out
  obtain ⟨c2, f2, z2_1⟩ := blk_at HK2_1.out
  have hz1 := hD1.size
  clear hL1
  go_wp2_with fail
  refine (w_l11Draw k c _ (by repeat (with_reducible first | assumption | refine Src.alloc ?_ _ | refine Src.drew ?_ | refine Src.drewN ?_ _ | refine Src.setCell ?_ (by first | omega | (simp; omega)) _ _))).mono ?_
  rintro e w2 ⟨n, vu, vv, st, sd, rfl, hOu, hOv, hu5, hv5, hD, hS2⟩
  have hz2 : w1.heap.size ≤ w2.heap.size := Nat.le_trans (by first | (simp; done) | (simp; omega)) hD.size
  have hD2 : Drawn w w2 k := Drawn.trans (by repeat (with_reducible first | assumption | exact grown_refl _ _ | refine Drawn.alloc ?_ _ | refine Drawn.drew ?_ | refine Drawn.drewN ?_ _ | refine Drawn.setCell ?_ (by first | omega | (simp; omega)) _ _)) hD
  have HK0_2 := Lib.hid (hD.keep (j := w.heap.size) (by repeat (with_reducible first | exact HK0_1.out | exact heap_alloc_new _ _ | (apply heap_alloc_new'; first | rfl | (simp; done)) | apply heap_alloc_old | apply st_0_2 | apply st_1_2 | apply st_0_3 | apply st_1_3 | apply st_2_3 | apply st_0_4 | apply st_1_4 | apply st_2_4 | apply st_3_4 | (apply other_set; case hne => omega) | exact heap_alloc_new' _ _ (by first | rfl | (simp; done)))) (by omega))
  have HK1_2 := Lib.hid (hD.keep (j := w.heap.size + 1) (by repeat (with_reducible first | exact HK1_1.out | exact heap_alloc_new _ _ | (apply heap_alloc_new'; first | rfl | (simp; done)) | apply heap_alloc_old | apply st_0_2 | apply st_1_2 | apply st_0_3 | apply st_1_3 | apply st_2_3 | apply st_0_4 | apply st_1_4 | apply st_2_4 | apply st_3_4 | (apply other_set; case hne => omega) | exact heap_alloc_new' _ _ (by first | rfl | (simp; done)))) (by omega))
  have HK2_2 := Lib.hid (hD.keep (j := w.heap.size + 1 + 1) (by repeat (with_reducible first | exact HK2_1.out | exact heap_alloc_new _ _ | (apply heap_alloc_new'; first | rfl | (simp; done)) | apply heap_alloc_old | apply st_0_2 | apply st_1_2 | apply st_0_3 | apply st_1_3 | apply st_2_3 | apply st_0_4 | apply st_1_4 | apply st_2_4 | apply st_3_4 | (apply other_set; case hne => omega) | exact heap_alloc_new' _ _ (by first | rfl | (simp; done)))) (by omega))
  clear hD c0 f0 c1 f1 c2 f2
  obtain ⟨c0, f0, z0_2⟩ := blk_at HK0_2.out
  obtain ⟨c1, f1, z1_2⟩ := blk_at HK1_2.out
  obtain ⟨c2, f2, z2_2⟩ := blk_at HK2_2.out
  obtain ⟨au, capu, rfl⟩ := isSl_of hOu
  have HOu_2 := Lib.hid hOu
  clear hOu
  obtain ⟨av, capv, rfl⟩ := isSl_of hOv
  have HOv_2 := Lib.hid hOv
  clear hOv
  have hnu6 := ne_own (k := w2.heap.size) HOu_2.out (by omega)
  have hnv6 := ne_own (k := w2.heap.size) HOv_2.out (by omega)
  go_wp2_with fail
  refine (w_l11DrawSetting k c _ (by repeat (with_reducible first | assumption | refine Src.alloc ?_ _ | refine Src.drew ?_ | refine Src.drewN ?_ _ | refine Src.setCell ?_ (by first | omega | (simp; omega)) _ _))).mono ?_
  rintro e w3 ⟨s, rfl, hD, hS3⟩
  have hz3 : w2.heap.size ≤ w3.heap.size := Nat.le_trans (by first | (simp; done) | (simp; omega)) hD.size
  have hD3 : Drawn w w3 k := Drawn.trans (by repeat (with_reducible first | assumption | exact grown_refl _ _ | refine Drawn.alloc ?_ _ | refine Drawn.drew ?_ | refine Drawn.drewN ?_ _ | refine Drawn.setCell ?_ (by first | omega | (simp; omega)) _ _)) hD
  have HK0_3 := Lib.hid (hD.keep (j := w.heap.size) (by repeat (with_reducible first | exact HK0_2.out | exact heap_alloc_new _ _ | (apply heap_alloc_new'; first | rfl | (simp; done)) | apply heap_alloc_old | apply st_0_2 | apply st_1_2 | apply st_0_3 | apply st_1_3 | apply st_2_3 | apply st_0_4 | apply st_1_4 | apply st_2_4 | apply st_3_4 | (apply other_set; case hne => omega) | exact heap_alloc_new' _ _ (by first | rfl | (simp; done)))) (by omega))
  have HK1_3 := Lib.hid (hD.keep (j := w.heap.size + 1) (by repeat (with_reducible first | exact HK1_2.out | exact heap_alloc_new _ _ | (apply heap_alloc_new'; first | rfl | (simp; done)) | apply heap_alloc_old | apply st_0_2 | apply st_1_2 | apply st_0_3 | apply st_1_3 | apply st_2_3 | apply st_0_4 | apply st_1_4 | apply st_2_4 | apply st_3_4 | (apply other_set; case hne => omega) | exact heap_alloc_new' _ _ (by first | rfl | (simp; done)))) (by omega))
  have HK2_3 := Lib.hid (hD.keep (j := w.heap.size + 1 + 1) (by repeat (with_reducible first | exact HK2_2.out | exact heap_alloc_new _ _ | (apply heap_alloc_new'; first | rfl | (simp; done)) | apply heap_alloc_old | apply st_0_2 | apply st_1_2 | apply st_0_3 | apply st_1_3 | apply st_2_3 | apply st_0_4 | apply st_1_4 | apply st_2_4 | apply st_3_4 | (apply other_set; case hne => omega) | exact heap_alloc_new' _ _ (by first | rfl | (simp; done)))) (by omega))
  have HK6_3 := Lib.hid (hD.keep (j := w2.heap.size) (by repeat (with_reducible first | exact HK6_2.out | exact heap_alloc_new _ _ | (apply heap_alloc_new'; first | rfl | (simp; done)) | apply heap_alloc_old | apply st_0_2 | apply st_1_2 | apply st_0_3 | apply st_1_3 | apply st_2_3 | apply st_0_4 | apply st_1_4 | apply st_2_4 | apply st_3_4 | (apply other_set; case hne => omega) | exact heap_alloc_new' _ _ (by first | rfl | (simp; done)))) (by omega))
  have HOu_3 := Lib.hid (hD.owns (by repeat (with_reducible first | exact HOu_2.out | apply World.ownsRow.alloc | (apply owns_setNe; case hk => first | assumption | exact ne_own HOu_2.out (by first | omega | (simp; omega)) | exact ne_low HOu_2.out (by omega)) | (refine owns_later ?_ (Later.refl _).drew) | (refine owns_later ?_ ((Later.refl _).drewN _)))) (by omega))
  have HOv_3 := Lib.hid (hD.owns (by repeat (with_reducible first | exact HOv_2.out | apply World.ownsRow.alloc | (apply owns_setNe; case hk => first | assumption | exact ne_own HOv_2.out (by first | omega | (simp; omega)) | exact ne_low HOv_2.out (by omega)) | (refine owns_later ?_ (Later.refl _).drew) | (refine owns_later ?_ ((Later.refl _).drewN _)))) (by omega))
  clear hD c0 f0 c1 f1 c2 f2
  obtain ⟨c0, f0, z0_3⟩ := blk_at HK0_3.out
  obtain ⟨c1, f1, z1_3⟩ := blk_at HK1_3.out
  obtain ⟨c2, f2, z2_3⟩ := blk_at HK2_3.out
  obtain ⟨c6, f6, z6_3⟩ := blk_at HK6_3.out
  have hnu7 := ne_own (k := w3.heap.size) HOu_3.out (by omega)
  have hnv7 := ne_own (k := w3.heap.size) HOv_3.out (by omega)
  go_wp2_with fail
  have hD0 : Drawn w (w3.alloc (.cells #[.int .i64 s.sh, .int .i64 s.cu] 66)) k := (by repeat (with_reducible first | assumption | exact grown_refl _ _ | refine Drawn.alloc ?_ _ | refine Drawn.drew ?_ | refine Drawn.drewN ?_ _ | refine Drawn.setCell ?_ (by first | omega | (simp; omega)) _ _))
  have hS0 : Src (w3.alloc (.cells #[.int .i64 s.sh, .int .i64 s.cu] 66)) k c := (by repeat (with_reducible first | assumption | refine Src.alloc ?_ _ | refine Src.drew ?_ | refine Src.drewN ?_ _ | refine Src.setCell ?_ (by first | omega | (simp; omega)) _ _))
  have Q6 : (w3.alloc (.cells #[.int .i64 s.sh, .int .i64 s.cu] 66)).heap[w2.heap.size]? = some (.cells #[.int .i64 n, .slice au st.length capu, .slice av sd.length capv] 64 (0, 0)) := (by repeat (with_reducible first | exact HK6_3.out | exact heap_alloc_new _ _ | (apply heap_alloc_new'; first | rfl | (simp; done)) | apply heap_alloc_old | apply st_0_2 | apply st_1_2 | apply st_0_3 | apply st_1_3 | apply st_2_3 | apply st_0_4 | apply st_1_4 | apply st_2_4 | apply st_3_4 | (apply other_set; case hne => omega) | exact heap_alloc_new' _ _ (by first | rfl | (simp; done))))
  have Q7 : (w3.alloc (.cells #[.int .i64 s.sh, .int .i64 s.cu] 66)).heap[w3.heap.size]? = some (.cells #[.int .i64 s.sh, .int .i64 s.cu] 66 (0, 0)) := heap_alloc_new _ _
  have Q0 : (w3.alloc (.cells #[.int .i64 s.sh, .int .i64 s.cu] 66)).heap[w.heap.size]? = some (.cells #[.int .i64 0, .slice none 0 0, .slice none 0 0] 64 (0, 0)) := (by repeat (with_reducible first | exact HK0_3.out | exact heap_alloc_new _ _ | (apply heap_alloc_new'; first | rfl | (simp; done)) | apply heap_alloc_old | apply st_0_2 | apply st_1_2 | apply st_0_3 | apply st_1_3 | apply st_2_3 | apply st_0_4 | apply st_1_4 | apply st_2_4 | apply st_3_4 | (apply other_set; case hne => omega) | exact heap_alloc_new' _ _ (by first | rfl | (simp; done))))
  have Q1 : (w3.alloc (.cells #[.int .i64 s.sh, .int .i64 s.cu] 66)).heap[w.heap.size + 1]? = some (.cells #[.int .i64 0, .int .i64 0] 66 (0, 0)) := (by repeat (with_reducible first | exact HK1_3.out | exact heap_alloc_new _ _ | (apply heap_alloc_new'; first | rfl | (simp; done)) | apply heap_alloc_old | apply st_0_2 | apply st_1_2 | apply st_0_3 | apply st_1_3 | apply st_2_3 | apply st_0_4 | apply st_1_4 | apply st_2_4 | apply st_3_4 | (apply other_set; case hne => omega) | exact heap_alloc_new' _ _ (by first | rfl | (simp; done))))
  have Q2 : (w3.alloc (.cells #[.int .i64 s.sh, .int .i64 s.cu] 66)).heap[w.heap.size + 1 + 1]? = some (.cells #[.int .i64 0, .int .i64 0, .int .i64 0, .int .i64 0] 74 (0, 0)) := (by repeat (with_reducible first | exact HK2_3.out | exact heap_alloc_new _ _ | (apply heap_alloc_new'; first | rfl | (simp; done)) | apply heap_alloc_old | apply st_0_2 | apply st_1_2 | apply st_0_3 | apply st_1_3 | apply st_2_3 | apply st_0_4 | apply st_1_4 | apply st_2_4 | apply st_3_4 | (apply other_set; case hne => omega) | exact heap_alloc_new' _ _ (by first | rfl | (simp; done))))
  have Qu : (w3.alloc (.cells #[.int .i64 s.sh, .int .i64 s.cu] 66)).ownsRow w1.heap.size 2 1 (.slice au st.length capu) st.length (nums st) := (by repeat (with_reducible first | exact HOu_3.out | apply World.ownsRow.alloc | (apply owns_setNe; case hk => first | assumption | exact ne_own HOu_3.out (by first | omega | (simp; omega)) | exact ne_low HOu_3.out (by omega)) | (refine owns_later ?_ (Later.refl _).drew) | (refine owns_later ?_ ((Later.refl _).drewN _))))
  have Qv : (w3.alloc (.cells #[.int .i64 s.sh, .int .i64 s.cu] 66)).ownsRow w1.heap.size 2 1 (.slice av sd.length capv) sd.length (nums sd) := (by repeat (with_reducible first | exact HOv_3.out | apply World.ownsRow.alloc | (apply owns_setNe; case hk => first | assumption | exact ne_own HOv_3.out (by first | omega | (simp; omega)) | exact ne_low HOv_3.out (by omega)) | (refine owns_later ?_ (Later.refl _).drew) | (refine owns_later ?_ ((Later.refl _).drewN _))))
  clear c0 f0 c1 f1 c2 f2 c6 f6
  have hnu0 := ne_low (k := w.heap.size) Qu (by omega)
  have hnu1 := ne_low (k := w.heap.size + 1) Qu (by omega)
  have hnu2 := ne_low (k := w.heap.size + 1 + 1) Qu (by omega)
  have hnv0 := ne_low (k := w.heap.size) Qv (by omega)
  have hnv1 := ne_low (k := w.heap.size + 1) Qv (by omega)
  have hnv2 := ne_low (k := w.heap.size + 1 + 1) Qv (by omega)
  refine region_slots 19 [14, 15, 16, 17, 18] (fun g ac wc => sl ac 2 = .pointer (some ⟨w.heap.size, 0, none⟩) ∧
      sl ac 3 = .pointer (some ⟨w.heap.size + 1, 0, none⟩) ∧
      sl ac 4 = .pointer (some ⟨w.heap.size + 1 + 1, 0, none⟩) ∧
      sl ac 5 = .pointer (some ⟨k, 0, none⟩) ∧
      sl ac 6 = .pointer (some ⟨w2.heap.size, 0, none⟩) ∧
      sl ac 7 = .pointer (some ⟨w3.heap.size, 0, none⟩) ∧
      (g 0 = true → (sl ac 14) = .agg #[.int .i64 n, .slice au st.length capu, .slice av sd.length capv]) ∧
      (g 1 = true → (sl ac 15) = .agg #[.int .i64 s.sh, .int .i64 s.cu]) ∧
      (g 2 = true → (sl ac 16) = .pointer (some ⟨k, 0, none⟩)) ∧
      (g 3 = true → (sl ac 17) = .agg #[.int .i64 n, .slice au st.length capu, .slice av sd.length capv]) ∧
      (g 4 = true → ∃ m : Mov, (sl ac 18) = .agg #[.int .i64 m.k, .int .i64 m.s, .int .i64 m.f.d, .int .i64 m.f.t]) ∧
      Drawn w wc k ∧
      Src wc k c ∧
      wc.ownsRow w1.heap.size 2 1 (.slice au st.length capu) st.length (nums st) ∧
      wc.ownsRow w1.heap.size 2 1 (.slice av sd.length capv) sd.length (nums sd) ∧
      wc.heap[w2.heap.size]? = some (.cells #[.int .i64 n, .slice au st.length capu, .slice av sd.length capv] 64 (0, 0)) ∧
      wc.heap[w3.heap.size]? = some (.cells #[.int .i64 s.sh, .int .i64 s.cu] 66 (0, 0)) ∧
      (g 5 = false → wc.heap[w.heap.size]? = some (.cells #[.int .i64 0, .slice none 0 0, .slice none 0 0] 64 (0, 0))) ∧
      (g 5 = true → wc.heap[w.heap.size]? = some (.cells #[.int .i64 n, .slice au st.length capu, .slice av sd.length capv] 64 (0, 0))) ∧
      (g 6 = false → wc.heap[w.heap.size + 1]? = some (.cells #[.int .i64 0, .int .i64 0] 66 (0, 0))) ∧
      (g 6 = true → wc.heap[w.heap.size + 1]? = some (.cells #[.int .i64 s.sh, .int .i64 s.cu] 66 (0, 0))) ∧
      (g 7 = false → wc.heap[w.heap.size + 1 + 1]? = some (.cells #[.int .i64 0, .int .i64 0, .int .i64 0, .int .i64 0] 74 (0, 0))) ∧
      (g 7 = true → ∃ m : Mov, wc.heap[w.heap.size + 1 + 1]? = some (.cells #[.int .i64 m.k, .int .i64 m.s, .int .i64 m.f.d, .int .i64 m.f.t] 74 (0, 0))) ∧
      (g 4 = true → g 2 = true) ∧
      (g 4 = true → g 3 = true) ∧
      (g 5 = true → g 0 = true) ∧
      (g 6 = true → g 1 = true) ∧
      (g 7 = true → g 4 = true)) (by kernel_rfl) (by kernel_rfl) rfl (by kernel_rfl) ?_ ?_ ?_
  · exact ⟨rfl, rfl, rfl, rfl, rfl, rfl, nofun, nofun, nofun, nofun, nofun, hD0.drew, hS0.drew, owns_later Qu (Later.refl _).drew, owns_later Qv (Later.refl _).drew, Q6, Q7, fun _ => Q0, nofun, fun _ => Q1, nofun, fun _ => Q2, nofun, nofun, nofun, nofun, nofun, nofun⟩
  · intro g ac wu hg ha hI
    obtain ⟨xi2, xi3, xi4, xi5, xi6, xi7, i0, i1, i2, i3, i4, hD, hS, Ou, Ov, B6, B7, -, N0, -, N1, -, N2, -, -, -, -, -⟩ := hI
    obtain e0 := i0 (hg 0 (by simp))
    obtain e1 := i1 (hg 1 (by simp))
    obtain e2 := i2 (hg 2 (by simp))
    obtain e3 := i3 (hg 3 (by simp))
    obtain ⟨md4, e4⟩ := i4 (hg 4 (by simp))
    replace N0 := N0 (hg 5 (by simp))
    replace N1 := N1 (hg 6 (by simp))
    replace N2 := N2 (hg 7 (by simp))
    obtain ⟨mf, N2⟩ := N2
    simp only [putAll, e0, e1, e2, e3, e4] at ha
    simp only [Act.put, List.setIfInBounds_toArray, List.set_cons_succ, List.set_cons_zero] at ha
    rw [ha]
    clear xi2 xi3 xi4 xi5 xi6 xi7 i0 i1 i2 i3 i4 e0 e1 e2 e3 e4 hg ha
    have hc0 := (blk_at N0).1
    have hz0 := (blk_at N0).2.2
    have hc1 := (blk_at N1).1
    have hz1' := (blk_at N1).2.2
    have hc2 := (blk_at N2).1
    have hz2' := (blk_at N2).2.2
    have HDu := Lib.hid hD
    have HUu := Lib.hid Ou
    have HVu := Lib.hid Ov
    clear hD hS Ou Ov B6 B7 N0 N1 N2
    go_wp2
    refine bodyPost_ret (v := .tuple #[.agg #[.int .i64 n, .slice au st.length capu, .slice av sd.length capv], .agg #[.int .i64 s.sh, .int .i64 s.cu], .agg #[.int .i64 mf.k, .int .i64 mf.s, .int .i64 mf.f.d, .int .i64 mf.f.t]]) (by simp [results, Try.results57, go_sem, hc0, hz0, hc1, hz1', hc2, hz2']) rfl ⟨n, _, _, st, sd, s, mf, rfl, owns_base HUu.out (by omega), owns_base HVu.out (by omega), hu5, hv5, (Later.refl w).drawn (by omega) HDu.out⟩
  · refine .cons ?_ (.cons ?_ (.cons ?_ (.cons ?_ (.cons ?_ (.cons ?_ (.cons ?_ (.cons ?_ .nil)))))))
    · unfold SlotStep
      intro g ac wc hn hk hr hI K' hK
      obtain ⟨xi2, xi3, xi4, xi5, xi6, xi7, i0, i1, i2, i3, i4, hD, hS, Ou, Ov, B6, B7, R0, N0, R1, N1, R2, N2, m4_2, m4_3, m5_0, m6_1, m7_4⟩ := hI
      simp only [Region.binds] at hr
      simp at hr
      replace hK := Lib.hid hK
      have zi6 := sl_get xi6 (by omega)
      have hbb := blk_at B6
      have cb := hbb.1
      have fb := hbb.2.1
      have zb := hbb.2.2
      clear hbb
      replace i0 := Lib.hid i0
      replace i1 := Lib.hid i1
      replace i2 := Lib.hid i2
      replace i3 := Lib.hid i3
      replace i4 := Lib.hid i4
      go_simp
      exact hK.out _ _ ⟨(keepB xi2 (by decide)), (keepB xi3 (by decide)), (keepB xi4 (by decide)), (keepB xi5 (by decide)), (keepB xi6 (by decide)), (keepB xi7 (by decide)), (fun _ => put_eq (by omega)), (fun h => by rw [put_ne (by decide)]; exact i1.out h), (fun h => by rw [put_ne (by decide)]; exact i2.out h), (fun h => by rw [put_ne (by decide)]; exact i3.out h), (fun h => by rw [put_ne (by decide)]; exact i4.out h), hD, hS, Ou, Ov, B6, B7, (fun h => (R0 h)), (fun h => N0 h), (fun h => (R1 h)), (fun h => N1 h), (fun h => (R2 h)), (fun h => N2 h), m4_2, m4_3, (fun _ => rfl), m6_1, m7_4⟩
    · unfold SlotStep
      intro g ac wc hn hk hr hI K' hK
      obtain ⟨xi2, xi3, xi4, xi5, xi6, xi7, i0, i1, i2, i3, i4, hD, hS, Ou, Ov, B6, B7, R0, N0, R1, N1, R2, N2, m4_2, m4_3, m5_0, m6_1, m7_4⟩ := hI
      simp only [Region.binds] at hr
      simp at hr
      replace hK := Lib.hid hK
      have zi7 := sl_get xi7 (by omega)
      have hbb := blk_at B7
      have cb := hbb.1
      have fb := hbb.2.1
      have zb := hbb.2.2
      clear hbb
      replace i0 := Lib.hid i0
      replace i1 := Lib.hid i1
      replace i2 := Lib.hid i2
      replace i3 := Lib.hid i3
      replace i4 := Lib.hid i4
      go_simp
      exact hK.out _ _ ⟨(keepB xi2 (by decide)), (keepB xi3 (by decide)), (keepB xi4 (by decide)), (keepB xi5 (by decide)), (keepB xi6 (by decide)), (keepB xi7 (by decide)), (fun h => by rw [put_ne (by decide)]; exact i0.out h), (fun _ => put_eq (by omega)), (fun h => by rw [put_ne (by decide)]; exact i2.out h), (fun h => by rw [put_ne (by decide)]; exact i3.out h), (fun h => by rw [put_ne (by decide)]; exact i4.out h), hD, hS, Ou, Ov, B6, B7, (fun h => (R0 h)), (fun h => N0 h), (fun h => (R1 h)), (fun h => N1 h), (fun h => (R2 h)), (fun h => N2 h), m4_2, m4_3, m5_0, (fun _ => rfl), m7_4⟩
    · unfold SlotStep
      intro g ac wc hn hk hr hI K' hK
      obtain ⟨xi2, xi3, xi4, xi5, xi6, xi7, i0, i1, i2, i3, i4, hD, hS, Ou, Ov, B6, B7, R0, N0, R1, N1, R2, N2, m4_2, m4_3, m5_0, m6_1, m7_4⟩ := hI
      simp only [Region.binds] at hr
      simp at hr
      replace hK := Lib.hid hK
      have zi5 := sl_get xi5 (by omega)
      replace i0 := Lib.hid i0
      replace i1 := Lib.hid i1
      replace i2 := Lib.hid i2
      replace i3 := Lib.hid i3
      replace i4 := Lib.hid i4
      go_simp
      exact hK.out _ _ ⟨(keepB xi2 (by decide)), (keepB xi3 (by decide)), (keepB xi4 (by decide)), (keepB xi5 (by decide)), (keepB xi6 (by decide)), (keepB xi7 (by decide)), (fun h => by rw [put_ne (by decide)]; exact i0.out h), (fun h => by rw [put_ne (by decide)]; exact i1.out h), (fun _ => put_eq (by omega)), (fun h => by rw [put_ne (by decide)]; exact i3.out h), (fun h => absurd (m4_2 h) (by rw [hk]; simp)), hD, hS, Ou, Ov, B6, B7, (fun h => (R0 h)), (fun h => N0 h), (fun h => (R1 h)), (fun h => N1 h), (fun h => (R2 h)), (fun h => N2 h), (fun _ => rfl), m4_3, m5_0, m6_1, m7_4⟩
    · unfold SlotStep
      intro g ac wc hn hk hr hI K' hK
      obtain ⟨xi2, xi3, xi4, xi5, xi6, xi7, i0, i1, i2, i3, i4, hD, hS, Ou, Ov, B6, B7, R0, N0, R1, N1, R2, N2, m4_2, m4_3, m5_0, m6_1, m7_4⟩ := hI
      simp only [Region.binds] at hr
      simp at hr
      replace hK := Lib.hid hK
      have zi6 := sl_get xi6 (by omega)
      have hbb := blk_at B6
      have cb := hbb.1
      have fb := hbb.2.1
      have zb := hbb.2.2
      clear hbb
      replace i0 := Lib.hid i0
      replace i1 := Lib.hid i1
      replace i2 := Lib.hid i2
      replace i3 := Lib.hid i3
      replace i4 := Lib.hid i4
      go_simp
      exact hK.out _ _ ⟨(keepB xi2 (by decide)), (keepB xi3 (by decide)), (keepB xi4 (by decide)), (keepB xi5 (by decide)), (keepB xi6 (by decide)), (keepB xi7 (by decide)), (fun h => by rw [put_ne (by decide)]; exact i0.out h), (fun h => by rw [put_ne (by decide)]; exact i1.out h), (fun h => by rw [put_ne (by decide)]; exact i2.out h), (fun _ => put_eq (by omega)), (fun h => absurd (m4_3 h) (by rw [hk]; simp)), hD, hS, Ou, Ov, B6, B7, (fun h => (R0 h)), (fun h => N0 h), (fun h => (R1 h)), (fun h => N1 h), (fun h => (R2 h)), (fun h => N2 h), m4_2, (fun _ => rfl), m5_0, m6_1, m7_4⟩
    · unfold SlotStep
      intro g ac wc hn hk hr hI K' hK
      obtain ⟨xi2, xi3, xi4, xi5, xi6, xi7, i0, i1, i2, i3, i4, hD, hS, Ou, Ov, B6, B7, R0, N0, R1, N1, R2, N2, m4_2, m4_3, m5_0, m6_1, m7_4⟩ := hI
      simp only [Region.binds] at hr
      simp at hr
      replace hK := Lib.hid hK
      have g2 : g 2 = true := (by have h := hr; first | exact h | (simp at h; done) | (repeat (first | exact h | exact h.1 | replace h := h.2)))
      obtain y2 := i2 g2
      have z2 := sl_get y2 (by omega)
      have g3 : g 3 = true := (by have h := hr; first | exact h | (simp at h; done) | (repeat (first | exact h | exact h.1 | replace h := h.2)))
      obtain y3 := i3 g3
      have z3 := sl_get y3 (by omega)
      replace i0 := Lib.hid i0
      replace i1 := Lib.hid i1
      replace i2 := Lib.hid i2
      replace i3 := Lib.hid i3
      replace i4 := Lib.hid i4
      go_simp
      refine (w_l12DrawMove k c n _ _ st sd _ hS (reads_of_owns Ou (by omega)) (reads_of_owns Ov (by omega)) (allIn_own Ou (by omega)) (allIn_own Ov (by omega))).mono ?_
      rintro e w4 ⟨x, rfl, hD4, hS4⟩
      exact hK.out _ _ ⟨(keepB xi2 (by decide)), (keepB xi3 (by decide)), (keepB xi4 (by decide)), (keepB xi5 (by decide)), (keepB xi6 (by decide)), (keepB xi7 (by decide)), (fun h => by rw [put_ne (by decide)]; exact i0.out h), (fun h => by rw [put_ne (by decide)]; exact i1.out h), (fun h => by rw [put_ne (by decide)]; exact i2.out h), (fun h => by rw [put_ne (by decide)]; exact i3.out h), (fun _ => ⟨_, put_eq (by omega)⟩), (hD.trans hD4), hS4, (hD4.owns Ou (by omega)), (hD4.owns Ov (by omega)), (hD4.keep B6 (by omega)), (hD4.keep B7 (by omega)), (fun h => (hD4.keep (R0 h) (by omega))), (fun h => (hD4.keep (N0 h) (by omega))), (fun h => (hD4.keep (R1 h) (by omega))), (fun h => (hD4.keep (N1 h) (by omega))), (fun h => (hD4.keep (R2 h) (by omega))), (fun h => absurd (m7_4 h) (by rw [hk]; simp)), (fun _ => g2), (fun _ => g3), m5_0, m6_1, (fun _ => rfl)⟩
    · unfold SlotStep
      intro g ac wc hn hk hr hI K' hK
      obtain ⟨xi2, xi3, xi4, xi5, xi6, xi7, i0, i1, i2, i3, i4, hD, hS, Ou, Ov, B6, B7, R0, N0, R1, N1, R2, N2, m4_2, m4_3, m5_0, m6_1, m7_4⟩ := hI
      simp only [Region.binds] at hr
      simp at hr
      replace hK := Lib.hid hK
      have g0 : g 0 = true := (by have h := hr; first | exact h | (simp at h; done) | (repeat (first | exact h | exact h.1 | replace h := h.2)))
      obtain y0 := i0 g0
      have z0 := sl_get y0 (by omega)
      have zi2 := sl_get xi2 (by omega)
      have hst := hk
      have hbb := blk_at (R0 hst)
      have cb := hbb.1
      have fb := hbb.2.1
      have zb := hbb.2.2
      clear hbb
      replace i0 := Lib.hid i0
      replace i1 := Lib.hid i1
      replace i2 := Lib.hid i2
      replace i3 := Lib.hid i3
      replace i4 := Lib.hid i4
      go_simp
      exact hK.out undef _ ⟨xi2, xi3, xi4, xi5, xi6, xi7, (fun h => i0.out h), (fun h => i1.out h), (fun h => i2.out h), (fun h => i3.out h), (fun h => i4.out h), (((hD.setCell (by omega) _ _).setCell (by omega) _ _).setCell (by omega) _ _), (((hS.setLow (hAc.mono fun b hb => by omega) (by omega) _ _).setLow (hAc.mono fun b hb => by omega) (by omega) _ _).setLow (hAc.mono fun b hb => by omega) (by omega) _ _), (owns_setNe (owns_setNe (owns_setNe Ou (by assumption) _ _) (by assumption) _ _) (by assumption) _ _), (owns_setNe (owns_setNe (owns_setNe Ov (by assumption) _ _) (by assumption) _ _) (by assumption) _ _), (other_set (other_set (other_set B6 (by omega) _) (by omega) _) (by omega) _), (other_set (other_set (other_set B7 (by omega) _) (by omega) _) (by omega) _), (fun h => absurd h (by simp)), (fun _ => st_2_3 (st_1_3 (st_0_3 (R0 hk) _) _) _), (fun h => (other_set (other_set (other_set (R1 h) (by omega) _) (by omega) _) (by omega) _)), (fun h => (other_set (other_set (other_set (N1 h) (by omega) _) (by omega) _) (by omega) _)), (fun h => (other_set (other_set (other_set (R2 h) (by omega) _) (by omega) _) (by omega) _)), (fun h => by obtain ⟨q0, qq⟩ := N2 h; exact ⟨q0, (other_set (other_set (other_set qq (by omega) _) (by omega) _) (by omega) _)⟩), m4_2, m4_3, (fun _ => g0), m6_1, m7_4⟩
    · unfold SlotStep
      intro g ac wc hn hk hr hI K' hK
      obtain ⟨xi2, xi3, xi4, xi5, xi6, xi7, i0, i1, i2, i3, i4, hD, hS, Ou, Ov, B6, B7, R0, N0, R1, N1, R2, N2, m4_2, m4_3, m5_0, m6_1, m7_4⟩ := hI
      simp only [Region.binds] at hr
      simp at hr
      replace hK := Lib.hid hK
      have g1 : g 1 = true := (by have h := hr; first | exact h | (simp at h; done) | (repeat (first | exact h | exact h.1 | replace h := h.2)))
      obtain y1 := i1 g1
      have z1 := sl_get y1 (by omega)
      have zi3 := sl_get xi3 (by omega)
      have hst := hk
      have hbb := blk_at (R1 hst)
      have cb := hbb.1
      have fb := hbb.2.1
      have zb := hbb.2.2
      clear hbb
      replace i0 := Lib.hid i0
      replace i1 := Lib.hid i1
      replace i2 := Lib.hid i2
      replace i3 := Lib.hid i3
      replace i4 := Lib.hid i4
      go_simp
      exact hK.out undef _ ⟨xi2, xi3, xi4, xi5, xi6, xi7, (fun h => i0.out h), (fun h => i1.out h), (fun h => i2.out h), (fun h => i3.out h), (fun h => i4.out h), ((hD.setCell (by omega) _ _).setCell (by omega) _ _), ((hS.setLow (hAc.mono fun b hb => by omega) (by omega) _ _).setLow (hAc.mono fun b hb => by omega) (by omega) _ _), (owns_setNe (owns_setNe Ou (by assumption) _ _) (by assumption) _ _), (owns_setNe (owns_setNe Ov (by assumption) _ _) (by assumption) _ _), (other_set (other_set B6 (by omega) _) (by omega) _), (other_set (other_set B7 (by omega) _) (by omega) _), (fun h => (other_set (other_set (R0 h) (by omega) _) (by omega) _)), (fun h => (other_set (other_set (N0 h) (by omega) _) (by omega) _)), (fun h => absurd h (by simp)), (fun _ => st_1_2 (st_0_2 (R1 hk) _) _), (fun h => (other_set (other_set (R2 h) (by omega) _) (by omega) _)), (fun h => by obtain ⟨q0, qq⟩ := N2 h; exact ⟨q0, (other_set (other_set qq (by omega) _) (by omega) _)⟩), m4_2, m4_3, m5_0, (fun _ => g1), m7_4⟩
    · unfold SlotStep
      intro g ac wc hn hk hr hI K' hK
      obtain ⟨xi2, xi3, xi4, xi5, xi6, xi7, i0, i1, i2, i3, i4, hD, hS, Ou, Ov, B6, B7, R0, N0, R1, N1, R2, N2, m4_2, m4_3, m5_0, m6_1, m7_4⟩ := hI
      simp only [Region.binds] at hr
      simp at hr
      replace hK := Lib.hid hK
      have g4 : g 4 = true := (by have h := hr; first | exact h | (simp at h; done) | (repeat (first | exact h | exact h.1 | replace h := h.2)))
      obtain ⟨m4, y4⟩ := i4 g4
      have z4 := sl_get y4 (by omega)
      have zi4 := sl_get xi4 (by omega)
      have hst := hk
      have hbb := blk_at (R2 hst)
      have cb := hbb.1
      have fb := hbb.2.1
      have zb := hbb.2.2
      clear hbb
      replace i0 := Lib.hid i0
      replace i1 := Lib.hid i1
      replace i2 := Lib.hid i2
      replace i3 := Lib.hid i3
      replace i4 := Lib.hid i4
      go_simp
      exact hK.out undef _ ⟨xi2, xi3, xi4, xi5, xi6, xi7, (fun h => i0.out h), (fun h => i1.out h), (fun h => i2.out h), (fun h => i3.out h), (fun h => i4.out h), ((((hD.setCell (by omega) _ _).setCell (by omega) _ _).setCell (by omega) _ _).setCell (by omega) _ _), ((((hS.setLow (hAc.mono fun b hb => by omega) (by omega) _ _).setLow (hAc.mono fun b hb => by omega) (by omega) _ _).setLow (hAc.mono fun b hb => by omega) (by omega) _ _).setLow (hAc.mono fun b hb => by omega) (by omega) _ _), (owns_setNe (owns_setNe (owns_setNe (owns_setNe Ou (by assumption) _ _) (by assumption) _ _) (by assumption) _ _) (by assumption) _ _), (owns_setNe (owns_setNe (owns_setNe (owns_setNe Ov (by assumption) _ _) (by assumption) _ _) (by assumption) _ _) (by assumption) _ _), (other_set (other_set (other_set (other_set B6 (by omega) _) (by omega) _) (by omega) _) (by omega) _), (other_set (other_set (other_set (other_set B7 (by omega) _) (by omega) _) (by omega) _) (by omega) _), (fun h => (other_set (other_set (other_set (other_set (R0 h) (by omega) _) (by omega) _) (by omega) _) (by omega) _)), (fun h => (other_set (other_set (other_set (other_set (N0 h) (by omega) _) (by omega) _) (by omega) _) (by omega) _)), (fun h => (other_set (other_set (other_set (other_set (R1 h) (by omega) _) (by omega) _) (by omega) _) (by omega) _)), (fun h => (other_set (other_set (other_set (other_set (N1 h) (by omega) _) (by omega) _) (by omega) _) (by omega) _)), (fun h => absurd h (by simp)), (fun _ => ⟨_, st_3_4 (st_2_4 (st_1_4 (st_0_4 (R2 hk) _) _) _) _⟩), m4_2, m4_3, m5_0, m6_1, (fun _ => g4)⟩

end Go.Proofs.Ytkoojngonldcbaa
