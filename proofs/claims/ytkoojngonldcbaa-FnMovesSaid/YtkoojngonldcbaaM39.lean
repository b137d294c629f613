/- DERIVED. Walks: the first move that is not possible. -/
import Derived.Test.YtkoojngonldcbaaM38
namespace Go.Proofs.Ytkoojngonldcbaa
set_option linter.unusedVariables false
set_option linter.unusedSimpArgs false
open Go.RowKit
set_option maxRecDepth 100000

theorem codeRun_cases (r : Rul) (s : Stg) (l : List Mov) : codeRun r s l = 0 ∨ codeRun r s l = 1 ∨ codeRun r s l = 3 := by
  unfold codeRun codeMoves
  split
  · split
    · split
      · exact .inl rfl
      · exact .inr (.inr rfl)
    · exact .inr (.inl rfl)
  · exact .inr (.inl rfl)
theorem firstI_no {r : Rul} {s : Stg} {l : List Mov} {c : Int} (h : codeRun r s l = c) (hc : c ≠ 0) : firstI r s l = 0 := by
  unfold firstI; rw [h, if_neg hc]
theorem firstC_no {r : Rul} {s : Stg} {l : List Mov} {c : Int} (h : codeRun r s l = c) (hc : c ≠ 0) : firstC r s l = c := by
  unfold firstC; rw [h, if_neg hc]
theorem allDone_yes {r : Rul} {s : Stg} {l : List Mov} {L : List Stg} (h : runSt r s l = L) (hd : L.length = l.length) : allDone r s l = true := by
  unfold allDone; rw [h, hd]; simp
theorem allDone_no {r : Rul} {s : Stg} {l : List Mov} {L : List Stg} (h : runSt r s l = L) (hd : L.length < l.length) : allDone r s l = false := by
  unfold allDone; rw [h]; simp; omega
theorem firstI_done {r : Rul} {s : Stg} {l : List Mov} {L : List Stg} (h0 : codeRun r s l = 0) (h : runSt r s l = L) (hd : L.length = l.length) : firstI r s l = 0 := by
  unfold firstI; rw [h0, if_pos rfl, allDone_yes h hd]; rfl
theorem firstC_done {r : Rul} {s : Stg} {l : List Mov} {L : List Stg} (h0 : codeRun r s l = 0) (h : runSt r s l = L) (hd : L.length = l.length) : firstC r s l = 4 := by
  unfold firstC; rw [h0, if_pos rfl, allDone_yes h hd]; rfl
theorem firstI_stop {r : Rul} {s : Stg} {l : List Mov} {L : List Stg} (h0 : codeRun r s l = 0) (h : runSt r s l = L) (hd : L.length < l.length) : firstI r s l = L.length := by
  unfold firstI; rw [h0, if_pos rfl, allDone_no h hd, h]; rfl
theorem firstC_stop {r : Rul} {s : Stg} {l : List Mov} {L : List Stg} (h0 : codeRun r s l = 0) (h : runSt r s l = L) (hd : L.length < l.length) : firstC r s l = 0 := by
  unfold firstC; rw [h0, if_pos rfl, allDone_no h hd]; rfl

set_option maxHeartbeats 1000000 in
theorem w_implFirst (n : Int) (u v z : Value) (st sl : List Int) (a b : Int) (l : List Mov) (w : World) (h : IsNums w u st) (h' : IsNums w v sl) (hl : IsMovs w z l) :
    Calls Try.prog 55 #[.agg #[.int .i64 n, u, v], .agg #[.int .i64 a, .int .i64 b], z] w fun e w' => e = .returned (.tuple #[.int .i64 (firstI ⟨n, st, sl⟩ ⟨a, b⟩ l), .int .i64 (firstC ⟨n, st, sl⟩ ⟨a, b⟩ l)]) ∧ Later w w' := by
  have H := Lib.hid h
  have H' := Lib.hid h'
  have HZ := Lib.hid hl
  obtain ⟨_, _, au, capu, rfl, _, _, _⟩ := h
  obtain ⟨_, _, av, capv, rfl, _, _, _⟩ := h'
  obtain ⟨_, _, az, capz, rfl, _, _, _⟩ := hl
  rcases codeRun_cases ⟨n, st, sl⟩ ⟨a, b⟩ l with hc | hc | hc
  rotate_left
  · have HF := Lib.hid (firstI_no hc (by decide))
    have HG := Lib.hid (firstC_no hc (by decide))
    have HC := Lib.hid hc
    clear hc
    go_enter Try.func55, Try.ntmps55
    go_wp2_with fail
    refine (w_checkMoves _ _ _ _ _ _ _ _ _ _ (H.out.later (((Later.refl _).alloc _).alloc _)) (H'.out.later (((Later.refl _).alloc _).alloc _)) (HZ.out.later (((Later.refl _).alloc _).alloc _))).mono ?_
    rintro e w1 ⟨rfl, hL⟩
    rw [HC.out]
    go_wp2
    refine bodyPost_ret (v := .tuple #[.int .i64 0, .int .i64 1]) (by simp [results, Try.results55, go_sem]) rfl ⟨by rw [HF.out, HG.out], by (repeat (with_reducible first | exact Later.refl _ | refine Later.alloc ?_ _ | refine Later.drew ?_ | refine Later.drewN ?_ _ | refine Later.setCell ?_ (by simp; try omega) _ | refine Later.trans ?_ (by assumption)))⟩
  · have HF := Lib.hid (firstI_no hc (by decide))
    have HG := Lib.hid (firstC_no hc (by decide))
    have HC := Lib.hid hc
    clear hc
    go_enter Try.func55, Try.ntmps55
    go_wp2_with fail
    refine (w_checkMoves _ _ _ _ _ _ _ _ _ _ (H.out.later (((Later.refl _).alloc _).alloc _)) (H'.out.later (((Later.refl _).alloc _).alloc _)) (HZ.out.later (((Later.refl _).alloc _).alloc _))).mono ?_
    rintro e w1 ⟨rfl, hL⟩
    rw [HC.out]
    go_wp2
    refine bodyPost_ret (v := .tuple #[.int .i64 0, .int .i64 3]) (by simp [results, Try.results55, go_sem]) rfl ⟨by rw [HF.out, HG.out], by (repeat (with_reducible first | exact Later.refl _ | refine Later.alloc ?_ _ | refine Later.drew ?_ | refine Later.drewN ?_ _ | refine Later.setCell ?_ (by simp; try omega) _ | refine Later.trans ?_ (by assumption)))⟩
  obtain ⟨L, hLd⟩ : ∃ L, runSt ⟨n, st, sl⟩ ⟨a, b⟩ l = L := ⟨_, rfl⟩
  have hle : L.length ≤ l.length := hLd ▸ runSt_len _ _ _
  have h30 := (codeMoves_0 (codeRun_0 hc).2.2).2
  have HS := Lib.hid (codeRun_0 hc).2.1
  have HA := Lib.hid (codeMoves_0 (codeRun_0 hc).2.2).1
  have HC := Lib.hid hc
  have HLd := Lib.hid hLd
  by_cases hd : L.length = l.length
  · have HF := Lib.hid (firstI_done hc hLd hd)
    have HG := Lib.hid (firstC_done hc hLd hd)
    clear hc hLd
    go_enter Try.func55, Try.ntmps55
    go_wp2_with fail
    refine (w_checkMoves _ _ _ _ _ _ _ _ _ _ (H.out.later (((Later.refl _).alloc _).alloc _)) (H'.out.later (((Later.refl _).alloc _).alloc _)) (HZ.out.later (((Later.refl _).alloc _).alloc _))).mono ?_
    rintro e w1 ⟨rfl, hL⟩
    rw [HC.out]
    obtain ⟨⟨c0, f0, z0⟩, ⟨c1, f1, z1⟩⟩ := blk2 hL
    go_wp2_with fail
    refine (w_settings _ _ _ _ _ _ _ _ _ _ ((H.out.later (((Later.refl _).alloc _).alloc _)).later hL) ((H'.out.later (((Later.refl _).alloc _).alloc _)).later hL) HS.out ((HZ.out.later (((Later.refl _).alloc _).alloc _)).later hL) HA.out h30).mono ?_
    rintro e w2 ⟨v2, rfl, hL2, ho2⟩
    rw [HLd.out, hd] at ho2
    obtain ⟨_, _, a2, cap2, rfl, _, _, _⟩ := reads_of_owns ho2 (by omega)
    clear ho2
    go_wp2
    refine bodyPost_ret (v := .tuple #[.int .i64 0, .int .i64 4]) (by simp [results, Try.results55, go_sem]) rfl ⟨by rw [HF.out, HG.out], by (repeat (with_reducible first | exact Later.refl _ | refine Later.alloc ?_ _ | refine Later.drew ?_ | refine Later.drewN ?_ _ | refine Later.setCell ?_ (by simp; try omega) _ | refine Later.trans ?_ (by assumption)))⟩
  · have hlt : L.length < l.length := by omega
    have HF := Lib.hid (firstI_stop hc hLd hlt)
    have HG := Lib.hid (firstC_stop hc hLd hlt)
    clear hc hLd
    go_enter Try.func55, Try.ntmps55
    go_wp2_with fail
    refine (w_checkMoves _ _ _ _ _ _ _ _ _ _ (H.out.later (((Later.refl _).alloc _).alloc _)) (H'.out.later (((Later.refl _).alloc _).alloc _)) (HZ.out.later (((Later.refl _).alloc _).alloc _))).mono ?_
    rintro e w1 ⟨rfl, hL⟩
    rw [HC.out]
    obtain ⟨⟨c0, f0, z0⟩, ⟨c1, f1, z1⟩⟩ := blk2 hL
    go_wp2_with fail
    refine (w_settings _ _ _ _ _ _ _ _ _ _ ((H.out.later (((Later.refl _).alloc _).alloc _)).later hL) ((H'.out.later (((Later.refl _).alloc _).alloc _)).later hL) HS.out ((HZ.out.later (((Later.refl _).alloc _).alloc _)).later hL) HA.out h30).mono ?_
    rintro e w2 ⟨v2, rfl, hL2, ho2⟩
    rw [HLd.out] at ho2
    obtain ⟨_, _, a2, cap2, rfl, _, _, _⟩ := reads_of_owns ho2 (by omega)
    clear ho2
    go_wp2
    refine bodyPost_ret (v := .tuple #[.int .i64 L.length, .int .i64 0]) (by simp [results, Try.results55, go_sem]) rfl ⟨by rw [HF.out, HG.out], by (repeat (with_reducible first | exact Later.refl _ | refine Later.alloc ?_ _ | refine Later.drew ?_ | refine Later.drewN ?_ _ | refine Later.setCell ?_ (by simp; try omega) _ | refine Later.trans ?_ (by assumption)))⟩

set_option maxHeartbeats 1000000 in
theorem w_specFirst (n : Int) (u v z : Value) (st sl : List Int) (a b : Int) (l : List Mov) (w : World) (h : IsNums w u st) (h' : IsNums w v sl) (hl : IsMovs w z l) :
    Calls Try.prog 56 #[.agg #[.int .i64 n, u, v], .agg #[.int .i64 a, .int .i64 b], z] w fun e w' => e = .returned (.tuple #[.int .i64 (firstI ⟨n, st, sl⟩ ⟨a, b⟩ l), .int .i64 (firstC ⟨n, st, sl⟩ ⟨a, b⟩ l)]) ∧ Later w w' := by
  have H := Lib.hid h
  have H' := Lib.hid h'
  have HZ := Lib.hid hl
  obtain ⟨_, _, au, capu, rfl, _, _, _⟩ := h
  obtain ⟨_, _, av, capv, rfl, _, _, _⟩ := h'
  obtain ⟨_, _, az, capz, rfl, _, _, _⟩ := hl
  rcases codeRun_cases ⟨n, st, sl⟩ ⟨a, b⟩ l with hc | hc | hc
  rotate_left
  · have HF := Lib.hid (firstI_no hc (by decide))
    have HG := Lib.hid (firstC_no hc (by decide))
    have HC := Lib.hid hc
    clear hc
    go_enter Try.func56, Try.ntmps56
    go_wp2_with fail
    refine (w_l12Start _ _ _ _ _ _ _ _ _ _ (H.out.later (((Later.refl _).alloc _).alloc _)) (H'.out.later (((Later.refl _).alloc _).alloc _)) (HZ.out.later (((Later.refl _).alloc _).alloc _))).mono ?_
    rintro e w1 ⟨rfl, hL⟩
    rw [HC.out]
    go_wp2
    refine bodyPost_ret (v := .tuple #[.int .i64 0, .int .i64 1]) (by simp [results, Try.results56, go_sem]) rfl ⟨by rw [HF.out, HG.out], by (repeat (with_reducible first | exact Later.refl _ | refine Later.alloc ?_ _ | refine Later.drew ?_ | refine Later.drewN ?_ _ | refine Later.setCell ?_ (by simp; try omega) _ | refine Later.trans ?_ (by assumption)))⟩
  · have HF := Lib.hid (firstI_no hc (by decide))
    have HG := Lib.hid (firstC_no hc (by decide))
    have HC := Lib.hid hc
    clear hc
    go_enter Try.func56, Try.ntmps56
    go_wp2_with fail
    refine (w_l12Start _ _ _ _ _ _ _ _ _ _ (H.out.later (((Later.refl _).alloc _).alloc _)) (H'.out.later (((Later.refl _).alloc _).alloc _)) (HZ.out.later (((Later.refl _).alloc _).alloc _))).mono ?_
    rintro e w1 ⟨rfl, hL⟩
    rw [HC.out]
    go_wp2
    refine bodyPost_ret (v := .tuple #[.int .i64 0, .int .i64 3]) (by simp [results, Try.results56, go_sem]) rfl ⟨by rw [HF.out, HG.out], by (repeat (with_reducible first | exact Later.refl _ | refine Later.alloc ?_ _ | refine Later.drew ?_ | refine Later.drewN ?_ _ | refine Later.setCell ?_ (by simp; try omega) _ | refine Later.trans ?_ (by assumption)))⟩
  obtain ⟨L, hLd⟩ : ∃ L, runSt ⟨n, st, sl⟩ ⟨a, b⟩ l = L := ⟨_, rfl⟩
  have hle : L.length ≤ l.length := hLd ▸ runSt_len _ _ _
  have h30 := (codeMoves_0 (codeRun_0 hc).2.2).2
  have HS := Lib.hid (codeRun_0 hc).2.1
  have HA := Lib.hid (codeMoves_0 (codeRun_0 hc).2.2).1
  have HC := Lib.hid hc
  obtain ⟨X, hX⟩ : ∃ X, lastSt ⟨a, b⟩ (runSt ⟨n, st, sl⟩ ⟨a, b⟩ l) = X := ⟨_, rfl⟩
  have HX := Lib.hid hX
  by_cases hd : L.length = l.length
  · have HF := Lib.hid (firstI_done hc hLd hd)
    have HG := Lib.hid (firstC_done hc hLd hd)
    have HT := Lib.hid (stopI_done hLd hd)
    clear hc hLd hX
    go_enter Try.func56, Try.ntmps56
    go_wp2_with fail
    refine (w_l12Start _ _ _ _ _ _ _ _ _ _ (H.out.later (((Later.refl _).alloc _).alloc _)) (H'.out.later (((Later.refl _).alloc _).alloc _)) (HZ.out.later (((Later.refl _).alloc _).alloc _))).mono ?_
    rintro e w1 ⟨rfl, hL⟩
    rw [HC.out]
    obtain ⟨⟨c0, f0, z0⟩, ⟨c1, f1, z1⟩⟩ := blk2 hL
    go_wp2_with fail
    refine (w_l12Run _ _ _ _ _ _ _ _ _ _ ((H.out.later (((Later.refl _).alloc _).alloc _)).later hL) ((H'.out.later (((Later.refl _).alloc _).alloc _)).later hL) HS.out ((HZ.out.later (((Later.refl _).alloc _).alloc _)).later hL) HA.out h30).mono ?_
    rintro e w2 ⟨rfl, hL2⟩
    rw [HX.out, HT.out]
    go_wp2
    refine bodyPost_ret (v := .tuple #[.int .i64 0, .int .i64 4]) (by simp [results, Try.results56, go_sem]) rfl ⟨by rw [HF.out, HG.out], by (repeat (with_reducible first | exact Later.refl _ | refine Later.alloc ?_ _ | refine Later.drew ?_ | refine Later.drewN ?_ _ | refine Later.setCell ?_ (by simp; try omega) _ | refine Later.trans ?_ (by assumption)))⟩
  · have hlt : L.length < l.length := by omega
    have HF := Lib.hid (firstI_stop hc hLd hlt)
    have HG := Lib.hid (firstC_stop hc hLd hlt)
    have HT := Lib.hid (stopI_stop hLd hlt)
    clear hc hLd hX
    go_enter Try.func56, Try.ntmps56
    go_wp2_with fail
    refine (w_l12Start _ _ _ _ _ _ _ _ _ _ (H.out.later (((Later.refl _).alloc _).alloc _)) (H'.out.later (((Later.refl _).alloc _).alloc _)) (HZ.out.later (((Later.refl _).alloc _).alloc _))).mono ?_
    rintro e w1 ⟨rfl, hL⟩
    rw [HC.out]
    obtain ⟨⟨c0, f0, z0⟩, ⟨c1, f1, z1⟩⟩ := blk2 hL
    go_wp2_with fail
    refine (w_l12Run _ _ _ _ _ _ _ _ _ _ ((H.out.later (((Later.refl _).alloc _).alloc _)).later hL) ((H'.out.later (((Later.refl _).alloc _).alloc _)).later hL) HS.out ((HZ.out.later (((Later.refl _).alloc _).alloc _)).later hL) HA.out h30).mono ?_
    rintro e w2 ⟨rfl, hL2⟩
    rw [HX.out, HT.out]
    go_wp2
    refine bodyPost_ret (v := .tuple #[.int .i64 L.length, .int .i64 0]) (by simp [results, Try.results56, go_sem]) rfl ⟨by rw [HF.out, HG.out], by (repeat (with_reducible first | exact Later.refl _ | refine Later.alloc ?_ _ | refine Later.drew ?_ | refine Later.drewN ?_ _ | refine Later.setCell ?_ (by simp; try omega) _ | refine Later.trans ?_ (by assumption)))⟩

theorem w_implFirstImpossible (n : Int) (u v : Value) (st sl : List Int) (a b : Int) (z : Value) (l : List Mov) (w : World) (h : IsNums w u st) (h' : IsNums w v sl) (hl : IsMovs w z l) :
    Calls Try.prog 55 #[.agg #[.int .i64 n, u, v], .agg #[.int .i64 a, .int .i64 b], z] w fun e w' => e = .returned (.tuple #[.int .i64 (firstI ⟨n, st, sl⟩ ⟨a, b⟩ l), .int .i64 (firstC ⟨n, st, sl⟩ ⟨a, b⟩ l)]) ∧ Later w w' := w_implFirst n u v z st sl a b l w h h' hl

theorem w_specFirstImpossible (n : Int) (u v : Value) (st sl : List Int) (a b : Int) (z : Value) (l : List Mov) (w : World) (h : IsNums w u st) (h' : IsNums w v sl) (hl : IsMovs w z l) :
    Calls Try.prog 56 #[.agg #[.int .i64 n, u, v], .agg #[.int .i64 a, .int .i64 b], z] w fun e w' => e = .returned (.tuple #[.int .i64 (firstI ⟨n, st, sl⟩ ⟨a, b⟩ l), .int .i64 (firstC ⟨n, st, sl⟩ ⟨a, b⟩ l)]) ∧ Later w w' := w_specFirst n u v z st sl a b l w h h' hl

end Go.Proofs.Ytkoojngonldcbaa
