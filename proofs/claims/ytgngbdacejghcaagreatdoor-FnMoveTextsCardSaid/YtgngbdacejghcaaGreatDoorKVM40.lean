/- DERIVED. Walks: moves that are run; one move. -/
import Derived.Test.YtgngbdacejghcaaGreatDoorKVM39
namespace Go.Proofs.YtgngbdacejghcaaGreatDoor
set_option linter.unusedVariables false
set_option linter.unusedSimpArgs false
open Go.RowKit
set_option maxRecDepth 100000
theorem runMv_no {r : Rul} {s : Stg} {l : List Mov} {c : Int} (h : codeRun r s l = c) (hc : c ≠ 0) : runMv r s l = ⟨0, 0⟩ := by
 unfold runMv; rw [h, if_neg hc]
theorem runC_no {r : Rul} {s : Stg} {l : List Mov} {c : Int} (h : codeRun r s l = c) (hc : c ≠ 0) : runC r s l = c := by
 unfold runC; rw [h, if_neg hc]
theorem runMv_done {r : Rul} {s : Stg} {l : List Mov} {L : List Stg} (h0 : codeRun r s l = 0) (h : runSt r s l = L) (hd : L.length = l.length) : runMv r s l = lastSt s L := by
 unfold runMv; rw [h0, if_pos rfl, allDone_yes h hd, h]; rfl
theorem runC_done {r : Rul} {s : Stg} {l : List Mov} {L : List Stg} (h0 : codeRun r s l = 0) (h : runSt r s l = L) (hd : L.length = l.length) : runC r s l = 0 := by
 unfold runC; rw [h0, if_pos rfl, allDone_yes h hd]; rfl
theorem runMv_stop {r : Rul} {s : Stg} {l : List Mov} {L : List Stg} (h0 : codeRun r s l = 0) (h : runSt r s l = L) (hd : L.length < l.length) : runMv r s l = ⟨0, 0⟩ := by
 unfold runMv; rw [h0, if_pos rfl, allDone_no h hd]; rfl
theorem runC_stop {r : Rul} {s : Stg} {l : List Mov} {L : List Stg} (h0 : codeRun r s l = 0) (h : runSt r s l = L) (hd : L.length < l.length) : runC r s l = 5 := by
 unfold runC; rw [h0, if_pos rfl, allDone_no h hd]; rfl
theorem lastSt_get : ∀ (s : Stg) (L : List Stg), 0 < L.length → L[L.length - 1]? = some (lastSt s L)
 | _, [], h => absurd h (Nat.lt_irrefl _)
 | s, [x], _ => rfl
 | s, x :: y :: l, _ => by
  have := lastSt_get x (y :: l) (by simp)
  rw [lastSt, ← this]
  rfl
set_option maxHeartbeats 1000000 in
theorem w_implRunMoves (n : Int) (u v : Value) (st sl : List Int) (a b : Int) (z : Value) (l : List Mov) (w : World) (h : IsNums w u st) (h' : IsNums w v sl) (hl : IsMovs w z l) :
 Calls Tryz.prog 39 #[.agg #[.int .i64 n, u, v], .agg #[.int .i64 a, .int .i64 b], z] w fun e w' => e = .returned (.tuple #[.agg #[.int .i64 (runMv ⟨n, st, sl⟩ ⟨a, b⟩ l).sh, .int .i64 (runMv ⟨n, st, sl⟩ ⟨a, b⟩ l).cu], .int .i64 (runC ⟨n, st, sl⟩ ⟨a, b⟩ l)]) ∧ Later w w' := by
 have H := Lib.hid h
 have H' := Lib.hid h'
 have HZ := Lib.hid hl
 obtain ⟨_, _, au, capu, rfl, _, _, _⟩ := h
 obtain ⟨_, _, av, capv, rfl, _, _, _⟩ := h'
 obtain ⟨_, _, az, capz, rfl, _, _, _⟩ := hl
 rcases codeRun_cases ⟨n, st, sl⟩ ⟨a, b⟩ l with hc | hc | hc
 rotate_left
 · have HF := Lib.hid (runMv_no hc (by decide))
   have HG := Lib.hid (runC_no hc (by decide))
   have HC := Lib.hid hc
   clear hc
   go_enter Tryz.func39, Tryz.ntmps39
   go_wp2_with fail
   refine (w_checkMoves _ _ _ _ _ _ _ _ _ _ (H.out.later ((((Later.refl _).alloc _).alloc _).alloc _)) (H'.out.later ((((Later.refl _).alloc _).alloc _).alloc _)) (HZ.out.later ((((Later.refl _).alloc _).alloc _).alloc _))).mono ?_
   rintro e w1 ⟨rfl, hL⟩
   rw [HC.out]
   obtain ⟨⟨c0, f0, z0⟩, ⟨c1, f1, z1⟩, ⟨c2, f2, z2⟩⟩ := blk3 hL
   go_wp2
   refine bodyPost_ret (v := .tuple #[.agg #[.int .i64 0, .int .i64 0], .int .i64 1]) (by simp [results, Tryz.results39, go_sem, c2, z2]) rfl ⟨by rw [HF.out, HG.out], qla⟩
 · have HF := Lib.hid (runMv_no hc (by decide))
   have HG := Lib.hid (runC_no hc (by decide))
   have HC := Lib.hid hc
   clear hc
   go_enter Tryz.func39, Tryz.ntmps39
   go_wp2_with fail
   refine (w_checkMoves _ _ _ _ _ _ _ _ _ _ (H.out.later ((((Later.refl _).alloc _).alloc _).alloc _)) (H'.out.later ((((Later.refl _).alloc _).alloc _).alloc _)) (HZ.out.later ((((Later.refl _).alloc _).alloc _).alloc _))).mono ?_
   rintro e w1 ⟨rfl, hL⟩
   rw [HC.out]
   obtain ⟨⟨c0, f0, z0⟩, ⟨c1, f1, z1⟩, ⟨c2, f2, z2⟩⟩ := blk3 hL
   go_wp2
   refine bodyPost_ret (v := .tuple #[.agg #[.int .i64 0, .int .i64 0], .int .i64 3]) (by simp [results, Tryz.results39, go_sem, c2, z2]) rfl ⟨by rw [HF.out, HG.out], qla⟩
 obtain ⟨L, hLd⟩ : ∃ L, runSt ⟨n, st, sl⟩ ⟨a, b⟩ l = L := ⟨_, rfl⟩
 have hle : L.length ≤ l.length := hLd ▸ runSt_len _ _ _
 have h30 := (codeMoves_0 (codeRun_0 hc).2.2).2
 have HS := Lib.hid (codeRun_0 hc).2.1
 have HA := Lib.hid (codeMoves_0 (codeRun_0 hc).2.2).1
 have HC := Lib.hid hc
 have HLd := Lib.hid hLd
 by_cases hd : L.length = l.length
 rotate_left
 · have hlt : L.length < l.length := by omega
   have HF := Lib.hid (runMv_stop hc hLd hlt)
   have HG := Lib.hid (runC_stop hc hLd hlt)
   clear hc hLd
   go_enter Tryz.func39, Tryz.ntmps39
   go_wp2_with fail
   refine (w_checkMoves _ _ _ _ _ _ _ _ _ _ (H.out.later ((((Later.refl _).alloc _).alloc _).alloc _)) (H'.out.later ((((Later.refl _).alloc _).alloc _).alloc _)) (HZ.out.later ((((Later.refl _).alloc _).alloc _).alloc _))).mono ?_
   rintro e w1 ⟨rfl, hL⟩
   rw [HC.out]
   obtain ⟨⟨c0, f0, z0⟩, ⟨c1, f1, z1⟩, ⟨c2, f2, z2⟩⟩ := blk3 hL
   go_wp2_with fail
   refine (w_settings _ _ _ _ _ _ _ _ _ _ ((H.out.later ((((Later.refl _).alloc _).alloc _).alloc _)).later hL) ((H'.out.later ((((Later.refl _).alloc _).alloc _).alloc _)).later hL) HS.out ((HZ.out.later ((((Later.refl _).alloc _).alloc _).alloc _)).later hL) HA.out h30).mono ?_
   rintro e w2 ⟨v2, rfl, hL2, ho2⟩
   rw [HLd.out] at ho2
   obtain ⟨_, _, a2, cap2, rfl, _, _, _⟩ := reads_of_owns ho2 (by omega)
   clear c0 f0 z0 c1 f1 z1 c2 f2 z2
   obtain ⟨⟨c0, f0, z0⟩, ⟨c1, f1, z1⟩, ⟨c2, f2, z2⟩⟩ := blk3 (hL.trans hL2)
   go_wp2
   refine bodyPost_ret (v := .tuple #[.agg #[.int .i64 0, .int .i64 0], .int .i64 5]) (by simp [results, Tryz.results39, go_sem, c2, z2]) rfl ⟨by rw [HF.out, HG.out], qla⟩
 by_cases h0 : L.length = 0
 · have hL0 : L = [] := List.eq_nil_of_length_eq_zero h0
   subst hL0
   have HF := Lib.hid (runMv_done hc hLd hd)
   have HG := Lib.hid (runC_done hc hLd hd)
   have hl0 : l = [] := List.eq_nil_of_length_eq_zero hd.symm
   clear hc hLd
   subst hl0
   clear hd hle h0 h30
   have h30 : ([] : List Mov).length ≤ 30 := by decide
   go_enter Tryz.func39, Tryz.ntmps39
   go_wp2_with fail
   refine (w_checkMoves _ _ _ _ _ _ _ _ _ _ (H.out.later ((((Later.refl _).alloc _).alloc _).alloc _)) (H'.out.later ((((Later.refl _).alloc _).alloc _).alloc _)) (HZ.out.later ((((Later.refl _).alloc _).alloc _).alloc _))).mono ?_
   rintro e w1 ⟨rfl, hL⟩
   rw [HC.out]
   obtain ⟨⟨c0, f0, z0⟩, ⟨c1, f1, z1⟩, ⟨c2, f2, z2⟩⟩ := blk3 hL
   go_wp2_with fail
   refine (w_settings _ _ _ _ _ _ _ _ _ _ ((H.out.later ((((Later.refl _).alloc _).alloc _).alloc _)).later hL) ((H'.out.later ((((Later.refl _).alloc _).alloc _).alloc _)).later hL) HS.out ((HZ.out.later ((((Later.refl _).alloc _).alloc _).alloc _)).later hL) HA.out h30).mono ?_
   rintro e w2 ⟨v2, rfl, hL2, ho2⟩
   rw [HLd.out] at ho2
   obtain ⟨_, _, a2, cap2, rfl, _, _, _⟩ := reads_of_owns ho2 (by simp)
   clear c0 f0 z0 c1 f1 z1 c2 f2 z2
   obtain ⟨⟨c0, f0, z0⟩, ⟨c1, f1, z1⟩, ⟨c2, f2, z2⟩⟩ := blk3 (hL.trans hL2)
   go_wp2
   refine bodyPost_ret (v := .tuple #[.agg #[.int .i64 a, .int .i64 b], .int .i64 0]) (by simp [results, Tryz.results39, go_sem, c2, z2]) rfl ⟨by rw [HF.out, HG.out]; rfl, qla⟩
 · obtain ⟨X, hX⟩ : ∃ X, lastSt ⟨a, b⟩ L = X := ⟨_, rfl⟩
   have HX := Lib.hid (show L[l.length - 1]? = some X from by rw [← hd, ← hX]; exact lastSt_get _ _ (by omega))
   have HF := Lib.hid ((runMv_done hc hLd hd).trans hX)
   have HG := Lib.hid (runC_done hc hLd hd)
   clear hc hLd hX
   go_enter Tryz.func39, Tryz.ntmps39
   go_wp2_with fail
   refine (w_checkMoves _ _ _ _ _ _ _ _ _ _ (H.out.later ((((Later.refl _).alloc _).alloc _).alloc _)) (H'.out.later ((((Later.refl _).alloc _).alloc _).alloc _)) (HZ.out.later ((((Later.refl _).alloc _).alloc _).alloc _))).mono ?_
   rintro e w1 ⟨rfl, hL⟩
   rw [HC.out]
   obtain ⟨⟨c0, f0, z0⟩, ⟨c1, f1, z1⟩, ⟨c2, f2, z2⟩⟩ := blk3 hL
   go_wp2_with fail
   refine (w_settings _ _ _ _ _ _ _ _ _ _ ((H.out.later ((((Later.refl _).alloc _).alloc _).alloc _)).later hL) ((H'.out.later ((((Later.refl _).alloc _).alloc _).alloc _)).later hL) HS.out ((HZ.out.later ((((Later.refl _).alloc _).alloc _).alloc _)).later hL) HA.out h30).mono ?_
   rintro e w2 ⟨v2, rfl, hL2, ho2⟩
   rw [HLd.out] at ho2
   obtain ⟨_, _, a2, cap2, rfl, _, _, hr2⟩ := reads_of_owns ho2 (by omega)
   obtain ⟨b2, off2, rfl, hrow⟩ := hr2 (by omega)
   obtain ⟨x1, x2⟩ := hrow.stg HX.out
   have hbr := hrow.1
   clear c0 f0 z0 c1 f1 z1 c2 f2 z2
   obtain ⟨⟨c0, f0, z0⟩, ⟨c1, f1, z1⟩, ⟨c2, f2, z2⟩⟩ := blk3 (hL.trans hL2)
   have wD : IntKind.i64.wrap ((l.length : Int) - 1) = (l.length : Int) - 1 := wrap_same (by omega) (by omega)
   have hlt1 : l.length - 1 < l.length := by omega
   go_wp2
   refine bodyPost_ret (v := .tuple #[.agg #[.int .i64 X.sh, .int .i64 X.cu], .int .i64 0]) (by simp [results, Tryz.results39, go_sem, c2, z2]) rfl ⟨by rw [HF.out, HG.out], qla⟩
end Go.Proofs.YtgngbdacejghcaaGreatDoor
