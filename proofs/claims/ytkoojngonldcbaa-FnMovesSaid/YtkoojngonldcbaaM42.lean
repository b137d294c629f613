/- DERIVED. Walks: one move. -/
import Derived.Test.YtkoojngonldcbaaM40
import Derived.Test.YtkoojngonldcbaaBA
namespace Go.Proofs.Ytkoojngonldcbaa
set_option linter.unusedVariables false
set_option linter.unusedSimpArgs false
open Go.RowKit
set_option maxRecDepth 100000

theorem code1_no {r : Rul} {s : Stg} {m : Mov} (h : (isRule r && isStg s && isMove m) = false) : codeRun r s [m] = 1 := by
  unfold codeRun codeMoves
  split
  · rename_i hq
    rw [hq] at h
    simp only [Bool.true_and] at h
    simp [h]
  · rfl
theorem code1_yes {r : Rul} {s : Stg} {m : Mov} (h : isRule r = true) (h' : isStg s = true) (hm : isMove m = true) : codeRun r s [m] = 0 := by
  unfold codeRun codeMoves
  simp [h, h', hm]
theorem run1_go {r : Rul} {s : Stg} {m : Mov} (h : mvOk r s m = true) : runSt r s [m] = [mvS r s m] := by
  rw [runSt_go h]; rfl
theorem mv1_go {r : Rul} {s : Stg} {m : Mov} (h0 : codeRun r s [m] = 0) (h : mvOk r s m = true) : runMv r s [m] = mvS r s m := by
  rw [runMv_done h0 (run1_go h) rfl]; rfl
theorem c1_go {r : Rul} {s : Stg} {m : Mov} (h0 : codeRun r s [m] = 0) (h : mvOk r s m = true) : runC r s [m] = 0 := runC_done h0 (run1_go h) rfl
theorem mv1_stop {r : Rul} {s : Stg} {m : Mov} (h0 : codeRun r s [m] = 0) (h : mvOk r s m = false) : runMv r s [m] = ⟨0, 0⟩ := runMv_stop h0 (runSt_stop h) (by simp)
theorem c1_stop {r : Rul} {s : Stg} {m : Mov} (h0 : codeRun r s [m] = 0) (h : mvOk r s m = false) : runC r s [m] = 5 := runC_stop h0 (runSt_stop h) (by simp)

theorem reads_mov1 (w : World) (k s d t : Int) (T : TypeId) {q : Nat} (hq : q = w.heap.size) : IsMovs (w.alloc (.cells #[.int .i64 k, .int .i64 s, .int .i64 d, .int .i64 t] T)) (.slice (some ⟨q, 0, none⟩) 1 1) [⟨k, s, ⟨d, t⟩⟩] := by
  subst hq
  have h := World.ownsRow_lit (base := 0) (e := T) (size := 4) w #[.int .i64 k, .int .i64 s, .int .i64 d, .int .i64 t] 1 (Nat.zero_le _) (by decide) rfl
  have r := reads_of_owns h (by decide)
  exact r

set_option maxHeartbeats 1000000 in
theorem w_implApplyMove (n : Int) (u v : Value) (st sl : List Int) (a b k s d t : Int) (w : World) (h : IsNums w u st) (h' : IsNums w v sl) :
    Calls Try.prog 58 #[.agg #[.int .i64 n, u, v], .agg #[.int .i64 a, .int .i64 b], .agg #[.int .i64 k, .int .i64 s, .int .i64 d, .int .i64 t]] w fun e w' => e = .returned (.tuple #[.agg #[.int .i64 (runMv ⟨n, st, sl⟩ ⟨a, b⟩ [⟨k, s, ⟨d, t⟩⟩]).sh, .int .i64 (runMv ⟨n, st, sl⟩ ⟨a, b⟩ [⟨k, s, ⟨d, t⟩⟩]).cu], .int .i64 (runC ⟨n, st, sl⟩ ⟨a, b⟩ [⟨k, s, ⟨d, t⟩⟩])]) ∧ Later w w' := by
  have H := Lib.hid h
  have H' := Lib.hid h'
  obtain ⟨_, _, au, capu, rfl, _, _, _⟩ := h
  obtain ⟨_, _, av, capv, rfl, _, _, _⟩ := h'
  cases h1 : isRule ⟨n, st, sl⟩
  · have hc := code1_no (m := ⟨k, s, ⟨d, t⟩⟩) (show (isRule ⟨n, st, sl⟩ && isStg ⟨a, b⟩ && isMove ⟨k, s, ⟨d, t⟩⟩) = false by rw [h1]; rfl)
    have HF := Lib.hid (runMv_no hc (by decide))
    have HG := Lib.hid (runC_no hc (by decide))
    have H1 := Lib.hid h1
    clear h1 hc
    go_enter Try.func58, Try.ntmps58
    go_wp2_with fail
    refine (w_implIsRule _ _ _ _ _ _ (H.out.later ((((Later.refl _).alloc _).alloc _).alloc _ |>.alloc _)) (H'.out.later ((((Later.refl _).alloc _).alloc _).alloc _ |>.alloc _))).mono ?_
    rintro e w1 ⟨rfl, hL⟩
    rw [H1.out]
    have hk := (kept4 hL).2.2.2
    obtain ⟨c3, f3, z3⟩ := blk_at hk
    clear hk
    go_wp2
    refine bodyPost_ret (v := .tuple #[.agg #[.int .i64 0, .int .i64 0], .int .i64 1]) (by simp [results, Try.results58, go_sem, c3, z3]) rfl ⟨by rw [HF.out, HG.out], by (repeat (with_reducible first | exact Later.refl _ | refine Later.alloc ?_ _ | refine Later.drew ?_ | refine Later.drewN ?_ _ | refine Later.setCell ?_ (by simp; try omega) _ | refine Later.trans ?_ (by assumption)))⟩
  cases h2 : isStg ⟨a, b⟩
  · have hc := code1_no (m := ⟨k, s, ⟨d, t⟩⟩) (show (isRule ⟨n, st, sl⟩ && isStg ⟨a, b⟩ && isMove ⟨k, s, ⟨d, t⟩⟩) = false by rw [h1, h2]; rfl)
    have HF := Lib.hid (runMv_no hc (by decide))
    have HG := Lib.hid (runC_no hc (by decide))
    have H1 := Lib.hid h1
    have H2 := Lib.hid h2
    clear h1 h2 hc
    go_enter Try.func58, Try.ntmps58
    go_wp2_with fail
    refine (w_implIsRule _ _ _ _ _ _ (H.out.later ((((Later.refl _).alloc _).alloc _).alloc _ |>.alloc _)) (H'.out.later ((((Later.refl _).alloc _).alloc _).alloc _ |>.alloc _))).mono ?_
    rintro e w1 ⟨rfl, hL⟩
    rw [H1.out]
    have hk1 := (kept4 hL).2.1
    have hk := (kept4 hL).2.2.2
    obtain ⟨c1, f1, z1⟩ := blk_at hk1
    have HK := Lib.hid hk
    clear hk hk1
    go_wp2_with fail
    refine (w_implIsSetting _ _ _).mono ?_
    rintro e w2 ⟨rfl, hL2⟩
    rw [H2.out]
    have hk := hL2.keep HK.out
    obtain ⟨c3, f3, z3⟩ := blk_at hk
    clear hk c1 f1 z1
    go_wp2
    refine bodyPost_ret (v := .tuple #[.agg #[.int .i64 0, .int .i64 0], .int .i64 1]) (by simp [results, Try.results58, go_sem, c3, z3]) rfl ⟨by rw [HF.out, HG.out], by (repeat (with_reducible first | exact Later.refl _ | refine Later.alloc ?_ _ | refine Later.drew ?_ | refine Later.drewN ?_ _ | refine Later.setCell ?_ (by simp; try omega) _ | refine Later.trans ?_ (by assumption)))⟩
  cases h3 : isMove ⟨k, s, ⟨d, t⟩⟩
  · have hc := code1_no (m := ⟨k, s, ⟨d, t⟩⟩) (show (isRule ⟨n, st, sl⟩ && isStg ⟨a, b⟩ && isMove ⟨k, s, ⟨d, t⟩⟩) = false by rw [h1, h2, h3]; rfl)
    have HF := Lib.hid (runMv_no hc (by decide))
    have HG := Lib.hid (runC_no hc (by decide))
    have H1 := Lib.hid h1
    have H2 := Lib.hid h2
    have H3 := Lib.hid h3
    clear h1 h2 h3 hc
    go_enter Try.func58, Try.ntmps58
    go_wp2_with fail
    refine (w_implIsRule _ _ _ _ _ _ (H.out.later ((((Later.refl _).alloc _).alloc _).alloc _ |>.alloc _)) (H'.out.later ((((Later.refl _).alloc _).alloc _).alloc _ |>.alloc _))).mono ?_
    rintro e w1 ⟨rfl, hL⟩
    rw [H1.out]
    have hk1 := (kept4 hL).2.1
    have HK2 := Lib.hid (kept4 hL).2.2.1
    have HK := Lib.hid (kept4 hL).2.2.2
    obtain ⟨c1, f1, z1⟩ := blk_at hk1
    clear hk1
    go_wp2_with fail
    refine (w_implIsSetting _ _ _).mono ?_
    rintro e w2 ⟨rfl, hL2⟩
    rw [H2.out]
    have hk := hL2.keep HK2.out
    obtain ⟨c2, f2, z2⟩ := blk_at hk
    clear hk c1 f1 z1
    go_wp2_with fail
    refine (w_implIsMove _ _ _ _ _).mono ?_
    rintro e w3 ⟨rfl, hL3⟩
    rw [H3.out]
    have hk := hL3.keep (hL2.keep HK.out)
    obtain ⟨c3, f3, z3⟩ := blk_at hk
    clear hk c2 f2 z2
    go_wp2
    refine bodyPost_ret (v := .tuple #[.agg #[.int .i64 0, .int .i64 0], .int .i64 1]) (by simp [results, Try.results58, go_sem, c3, z3]) rfl ⟨by rw [HF.out, HG.out], by (repeat (with_reducible first | exact Later.refl _ | refine Later.alloc ?_ _ | refine Later.drew ?_ | refine Later.drewN ?_ _ | refine Later.setCell ?_ (by simp; try omega) _ | refine Later.trans ?_ (by assumption)))⟩
  have hc := code1_yes h1 h2 h3
  obtain ⟨NS, hNS⟩ : ∃ x, mvS ⟨n, st, sl⟩ ⟨a, b⟩ ⟨k, s, ⟨d, t⟩⟩ = x := ⟨_, rfl⟩
  have HNS := Lib.hid hNS
  cases h4 : mvOk ⟨n, st, sl⟩ ⟨a, b⟩ ⟨k, s, ⟨d, t⟩⟩
  · have HF := Lib.hid (mv1_stop hc h4)
    have HG := Lib.hid (c1_stop hc h4)
    have H1 := Lib.hid h1
    have H2 := Lib.hid h2
    have H3 := Lib.hid h3
    have H4 := Lib.hid h4
    clear h1 h2 h3 h4 hc hNS
    go_enter Try.func58, Try.ntmps58
    go_wp2_with fail
    refine (w_implIsRule _ _ _ _ _ _ (H.out.later ((((Later.refl _).alloc _).alloc _).alloc _ |>.alloc _)) (H'.out.later ((((Later.refl _).alloc _).alloc _).alloc _ |>.alloc _))).mono ?_
    rintro e w1 ⟨rfl, hL⟩
    rw [H1.out]
    have HK0 := Lib.hid (kept4 hL).1
    have HK1 := Lib.hid (kept4 hL).2.1
    have HK2 := Lib.hid (kept4 hL).2.2.1
    have HK := Lib.hid (kept4 hL).2.2.2
    have HL := Lib.hid (show Later w w1 from by (repeat (with_reducible first | exact Later.refl _ | refine Later.alloc ?_ _ | refine Later.drew ?_ | refine Later.drewN ?_ _ | refine Later.setCell ?_ (by simp; try omega) _ | refine Later.trans ?_ (by assumption))))
    obtain ⟨c1, f1, z1⟩ := blk_at HK1.out
    go_wp2_with fail
    refine (w_implIsSetting _ _ _).mono ?_
    rintro e w2 ⟨rfl, hL2⟩
    rw [H2.out]
    have hk := hL2.keep HK2.out
    obtain ⟨c2, f2, z2⟩ := blk_at hk
    clear hk c1 f1 z1
    go_wp2_with fail
    refine (w_implIsMove _ _ _ _ _).mono ?_
    rintro e w3 ⟨rfl, hL3⟩
    rw [H3.out]
    have hL23 := hL2.trans hL3
    have HL3 := Lib.hid (HL.out.trans hL23)
    have HK0 := Lib.hid (hL23.keep HK0.out)
    have HK1 := Lib.hid (hL23.keep HK1.out)
    have HK2 := Lib.hid (hL23.keep HK2.out)
    have HK := Lib.hid (hL23.keep HK.out)
    obtain ⟨d0, g0, y0⟩ := blk_at HK0.out
    obtain ⟨d1, g1, y1⟩ := blk_at HK1.out
    obtain ⟨d2, g2, y2⟩ := blk_at HK2.out
    clear c2 f2 z2
    go_wp2_with fail
    refine (w_implMoved _ _ _ _ _ _ _ ⟨k, s, ⟨d, t⟩⟩ _ (H.out.later HL3.out) (H'.out.later HL3.out) H2.out H3.out).mono ?_
    rintro e w4 ⟨rfl, hL4⟩
    rw [HNS.out, H4.out]
    have HKr := hL4.keep HK.out
    obtain ⟨c3, f3, z3⟩ := blk_at HKr
    have HLw := HL3.out.trans hL4
    clear HKr d0 g0 y0 d1 g1 y1 d2 g2 y2
    go_wp2
    refine bodyPost_ret (v := .tuple #[.agg #[.int .i64 0, .int .i64 0], .int .i64 5]) (by simp [results, Try.results58, go_sem, c3, z3]) rfl ⟨by rw [HF.out, HG.out], by (repeat (with_reducible first | exact Later.refl _ | refine Later.alloc ?_ _ | refine Later.drew ?_ | refine Later.drewN ?_ _ | refine Later.setCell ?_ (by simp; try omega) _ | refine Later.trans ?_ (by assumption)))⟩
  · have HF := Lib.hid ((mv1_go hc h4).trans hNS)
    have HG := Lib.hid (c1_go hc h4)
    have H1 := Lib.hid h1
    have H2 := Lib.hid h2
    have H3 := Lib.hid h3
    have H4 := Lib.hid h4
    clear h1 h2 h3 h4 hc hNS
    go_enter Try.func58, Try.ntmps58
    go_wp2_with fail
    refine (w_implIsRule _ _ _ _ _ _ (H.out.later ((((Later.refl _).alloc _).alloc _).alloc _ |>.alloc _)) (H'.out.later ((((Later.refl _).alloc _).alloc _).alloc _ |>.alloc _))).mono ?_
    rintro e w1 ⟨rfl, hL⟩
    rw [H1.out]
    have HK0 := Lib.hid (kept4 hL).1
    have HK1 := Lib.hid (kept4 hL).2.1
    have HK2 := Lib.hid (kept4 hL).2.2.1
    have HK := Lib.hid (kept4 hL).2.2.2
    have HL := Lib.hid (show Later w w1 from by (repeat (with_reducible first | exact Later.refl _ | refine Later.alloc ?_ _ | refine Later.drew ?_ | refine Later.drewN ?_ _ | refine Later.setCell ?_ (by simp; try omega) _ | refine Later.trans ?_ (by assumption))))
    obtain ⟨c1, f1, z1⟩ := blk_at HK1.out
    go_wp2_with fail
    refine (w_implIsSetting _ _ _).mono ?_
    rintro e w2 ⟨rfl, hL2⟩
    rw [H2.out]
    have hk := hL2.keep HK2.out
    obtain ⟨c2, f2, z2⟩ := blk_at hk
    clear hk c1 f1 z1
    go_wp2_with fail
    refine (w_implIsMove _ _ _ _ _).mono ?_
    rintro e w3 ⟨rfl, hL3⟩
    rw [H3.out]
    have hL23 := hL2.trans hL3
    have HL3 := Lib.hid (HL.out.trans hL23)
    have HK0 := Lib.hid (hL23.keep HK0.out)
    have HK1 := Lib.hid (hL23.keep HK1.out)
    have HK2 := Lib.hid (hL23.keep HK2.out)
    have HK := Lib.hid (hL23.keep HK.out)
    obtain ⟨d0, g0, y0⟩ := blk_at HK0.out
    obtain ⟨d1, g1, y1⟩ := blk_at HK1.out
    obtain ⟨d2, g2, y2⟩ := blk_at HK2.out
    clear c2 f2 z2
    go_wp2_with fail
    refine (w_implMoved _ _ _ _ _ _ _ ⟨k, s, ⟨d, t⟩⟩ _ (H.out.later HL3.out) (H'.out.later HL3.out) H2.out H3.out).mono ?_
    rintro e w4 ⟨rfl, hL4⟩
    rw [HNS.out, H4.out]
    have HKr := hL4.keep HK.out
    obtain ⟨c3, f3, z3⟩ := blk_at HKr
    have HLw := HL3.out.trans hL4
    clear HKr d0 g0 y0 d1 g1 y1 d2 g2 y2
    go_wp2
    refine bodyPost_ret (v := .tuple #[.agg #[.int .i64 NS.sh, .int .i64 NS.cu], .int .i64 0]) (by simp [results, Try.results58, go_sem, c3, z3]) rfl ⟨by rw [HF.out, HG.out], by (repeat (with_reducible first | exact Later.refl _ | refine Later.alloc ?_ _ | refine Later.drew ?_ | refine Later.drewN ?_ _ | refine Later.setCell ?_ (by simp; try omega) _ | refine Later.trans ?_ (by assumption)))⟩

set_option maxHeartbeats 1000000 in
theorem w_specApplyMove (n : Int) (u v : Value) (st sl : List Int) (a b k s d t : Int) (w : World) (h : IsNums w u st) (h' : IsNums w v sl) :
    Calls Try.prog 59 #[.agg #[.int .i64 n, u, v], .agg #[.int .i64 a, .int .i64 b], .agg #[.int .i64 k, .int .i64 s, .int .i64 d, .int .i64 t]] w fun e w' => e = .returned (.tuple #[.agg #[.int .i64 (runMv ⟨n, st, sl⟩ ⟨a, b⟩ [⟨k, s, ⟨d, t⟩⟩]).sh, .int .i64 (runMv ⟨n, st, sl⟩ ⟨a, b⟩ [⟨k, s, ⟨d, t⟩⟩]).cu], .int .i64 (runC ⟨n, st, sl⟩ ⟨a, b⟩ [⟨k, s, ⟨d, t⟩⟩])]) ∧ Later w w' := by
  have H := Lib.hid h
  have H' := Lib.hid h'
  obtain ⟨_, _, au, capu, rfl, _, _, _⟩ := h
  obtain ⟨_, _, av, capv, rfl, _, _, _⟩ := h'
  obtain ⟨X, hX⟩ : ∃ X, runMv ⟨n, st, sl⟩ ⟨a, b⟩ [⟨k, s, ⟨d, t⟩⟩] = X := ⟨_, rfl⟩
  obtain ⟨Y, hY⟩ : ∃ Y, runC ⟨n, st, sl⟩ ⟨a, b⟩ [⟨k, s, ⟨d, t⟩⟩] = Y := ⟨_, rfl⟩
  rw [hX, hY]
  have HX := Lib.hid hX
  have HY := Lib.hid hY
  clear hX hY
  go_enter Try.func59, Try.ntmps59
  go_wp2_with fail
  refine (w_specRunMoves _ _ _ _ _ _ _ _ [⟨k, s, ⟨d, t⟩⟩] _ (H.out.later (by (repeat (with_reducible first | exact Later.refl _ | refine Later.alloc ?_ _ | refine Later.drew ?_ | refine Later.drewN ?_ _ | refine Later.setCell ?_ (by simp; try omega) _ | refine Later.trans ?_ (by assumption))))) (H'.out.later (by (repeat (with_reducible first | exact Later.refl _ | refine Later.alloc ?_ _ | refine Later.drew ?_ | refine Later.drewN ?_ _ | refine Later.setCell ?_ (by simp; try omega) _ | refine Later.trans ?_ (by assumption))))) (reads_mov1 _ _ _ _ _ _ (by simp))).mono ?_
  rintro e w1 ⟨rfl, hL⟩
  rw [HX.out, HY.out]
  have HK := Lib.hid (kept5 hL).2.2.2.1
  obtain ⟨c3, f3, z3⟩ := blk_at HK.out
  go_wp2
  refine bodyPost_ret (v := .tuple #[.agg #[.int .i64 X.sh, .int .i64 X.cu], .int .i64 Y]) (by simp [results, Try.results59, go_sem, c3, z3]) rfl ⟨rfl, by (repeat (with_reducible first | exact Later.refl _ | refine Later.alloc ?_ _ | refine Later.drew ?_ | refine Later.drewN ?_ _ | refine Later.setCell ?_ (by simp; try omega) _ | refine Later.trans ?_ (by assumption)))⟩

end Go.Proofs.Ytkoojngonldcbaa
