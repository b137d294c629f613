/- DERIVED. Walks: how far slide and cursor go. -/
import Derived.Test.YtgngbdacejghcaaGreatDoorKVM40
import Derived.Test.YtgngbdacejghcaaGreatDoorKVBA
namespace Go.Proofs.YtgngbdacejghcaaGreatDoor
set_option linter.unusedVariables false
set_option linter.unusedSimpArgs false
open Go.RowKit
set_option maxRecDepth 100000
theorem isStg_bds {s : Stg} (h : isStg s = true) : -1048576 ≤ s.sh ∧ s.sh ≤ 1048576 ∧ 0 ≤ s.cu ∧ s.cu ≤ 1048576 := by
 unfold isStg at h
 simp [inR] at h
 omega
def Trv (s : Stg) (L : List Stg) (A B : Int) (S : Stg) : Prop := trav s L = (A, B) ∧ lastSt s L = S ∧ isStg S = true ∧ 0 ≤ A ∧ A ≤ L.length * 2097152 ∧ 0 ≤ B ∧ B ≤ L.length * 2097152
theorem Trv.zero {s : Stg} (h : isStg s = true) : Trv s [] 0 0 s := ⟨rfl, rfl, h, by omega, by simp, by omega, by simp⟩
theorem Trv.go {s : Stg} {L : List Stg} {A B : Int} {S : Stg} {x : Stg} (h : Trv s L A B S) (hx : isStg x = true) : Trv s (L ++ [x]) (A + max (x.sh - S.sh) (S.sh - x.sh)) (B + max (x.cu - S.cu) (S.cu - x.cu)) x := by
 obtain ⟨h1, h2, h3, h4, h5, h6, h7⟩ := h
 have b1 := isStg_bds h3
 have b2 := isStg_bds hx
 refine ⟨by rw [trav_snoc, h1, h2], lastSt_snoc _ _ _, hx, by omega, ?_, by omega, ?_⟩
 · simp only [List.length_append, List.length_cons, List.length_nil]; omega
 · simp only [List.length_append, List.length_cons, List.length_nil]; omega
theorem take_snoc {α : Type} {L : List α} {k : Nat} {x : α} (h : L[k]? = some x) : L.take (k + 1) = L.take k ++ [x] := by
 rw [List.take_add_one, h]; rfl
theorem travS_no {r : Rul} {s : Stg} {l : List Mov} {c : Int} (h : codeRun r s l = c) (hc : c ≠ 0) : travS r s l = 0 := by
 unfold travS; rw [h, if_neg hc]
theorem travK_no {r : Rul} {s : Stg} {l : List Mov} {c : Int} (h : codeRun r s l = c) (hc : c ≠ 0) : travK r s l = 0 := by
 unfold travK; rw [h, if_neg hc]
theorem travS_stop {r : Rul} {s : Stg} {l : List Mov} {L : List Stg} (h0 : codeRun r s l = 0) (h : runSt r s l = L) (hd : L.length < l.length) : travS r s l = 0 := by
 unfold travS; rw [h0, if_pos rfl, allDone_no h hd]; rfl
theorem travK_stop {r : Rul} {s : Stg} {l : List Mov} {L : List Stg} (h0 : codeRun r s l = 0) (h : runSt r s l = L) (hd : L.length < l.length) : travK r s l = 0 := by
 unfold travK; rw [h0, if_pos rfl, allDone_no h hd]; rfl
theorem travS_done {r : Rul} {s : Stg} {l : List Mov} {L : List Stg} {A B : Int} {S : Stg} (h0 : codeRun r s l = 0) (h : runSt r s l = L) (hd : L.length = l.length) (ht : Trv s L A B S) : travS r s l = A := by
 unfold travS; rw [h0, if_pos rfl, allDone_yes h hd, h, ht.1]; rfl
theorem travK_done {r : Rul} {s : Stg} {l : List Mov} {L : List Stg} {A B : Int} {S : Stg} (h0 : codeRun r s l = 0) (h : runSt r s l = L) (hd : L.length = l.length) (ht : Trv s L A B S) : travK r s l = B := by
 unfold travK; rw [h0, if_pos rfl, allDone_yes h hd, h, ht.1]; rfl
theorem w_l01Abs (x y : Int) (h1 : -4194304 ≤ x - y) (h2 : x - y ≤ 4194304) (w : World) :
 Calls Tryz.prog 91 #[.int .i64 (x - y)] w fun e w' => e = .returned (.int .i64 (max (x - y) (y - x))) ∧ w = w' := by
 have wD : IntKind.i64.wrap (-(x - y)) = -(x - y) := wrap_same (by omega) (by omega)
 have HE := Lib.hid (show max (x - y) (-(x - y)) = max (x - y) (y - x) by omega)
 go_enter Tryz.func91, Tryz.ntmps91
 go_wp2
 all_goals
  go_ret
  exact ⟨congrArg (fun t => Ending.returned (.int .i64 t)) (show _ = max (x - y) (y - x) from by omega), rfl⟩
set_option maxHeartbeats 2000000 in
theorem w_implTravelOf (n : Int) (u v : Value) (st sl : List Int) (a b : Int) (z : Value) (l : List Mov) (w : World) (h : IsNums w u st) (h' : IsNums w v sl) (hl : IsMovs w z l) :
 Calls Tryz.prog 31 #[.agg #[.int .i64 n, u, v], .agg #[.int .i64 a, .int .i64 b], z] w fun e w' => e = .returned (.tuple #[.int .i64 (travS ⟨n, st, sl⟩ ⟨a, b⟩ l), .int .i64 (travK ⟨n, st, sl⟩ ⟨a, b⟩ l), .int .i64 (runC ⟨n, st, sl⟩ ⟨a, b⟩ l)]) ∧ Later w w' := by
 have H := Lib.hid h
 have H' := Lib.hid h'
 have HZ := Lib.hid hl
 obtain ⟨_, _, au, capu, rfl, _, _, _⟩ := h
 obtain ⟨_, _, av, capv, rfl, _, _, _⟩ := h'
 obtain ⟨_, _, az, capz, rfl, _, _, _⟩ := hl
 rcases codeRun_cases ⟨n, st, sl⟩ ⟨a, b⟩ l with hc | hc | hc
 rotate_left
 · have HF := Lib.hid (travS_no hc (by decide))
   have HK := Lib.hid (travK_no hc (by decide))
   have HG := Lib.hid (runC_no hc (by decide))
   have HC := Lib.hid hc
   clear hc
   go_enter Tryz.func31, Tryz.ntmps31
   go_wp2_with fail
   refine (w_checkMoves _ _ _ _ _ _ _ _ _ _ (H.out.later (((Later.refl _).alloc _).alloc _)) (H'.out.later (((Later.refl _).alloc _).alloc _)) (HZ.out.later (((Later.refl _).alloc _).alloc _))).mono ?_
   rintro e w1 ⟨rfl, hL⟩
   rw [HC.out]
   go_wp2
   refine bodyPost_ret (v := .tuple #[.int .i64 0, .int .i64 0, .int .i64 1]) (by simp [results, Tryz.results31, go_sem]) rfl ⟨by rw [HF.out, HK.out, HG.out], qla⟩
 · have HF := Lib.hid (travS_no hc (by decide))
   have HK := Lib.hid (travK_no hc (by decide))
   have HG := Lib.hid (runC_no hc (by decide))
   have HC := Lib.hid hc
   clear hc
   go_enter Tryz.func31, Tryz.ntmps31
   go_wp2_with fail
   refine (w_checkMoves _ _ _ _ _ _ _ _ _ _ (H.out.later (((Later.refl _).alloc _).alloc _)) (H'.out.later (((Later.refl _).alloc _).alloc _)) (HZ.out.later (((Later.refl _).alloc _).alloc _))).mono ?_
   rintro e w1 ⟨rfl, hL⟩
   rw [HC.out]
   go_wp2
   refine bodyPost_ret (v := .tuple #[.int .i64 0, .int .i64 0, .int .i64 3]) (by simp [results, Tryz.results31, go_sem]) rfl ⟨by rw [HF.out, HK.out, HG.out], qla⟩
 obtain ⟨L, hLd⟩ : ∃ L, runSt ⟨n, st, sl⟩ ⟨a, b⟩ l = L := ⟨_, rfl⟩
 have hle : L.length ≤ l.length := hLd ▸ runSt_len _ _ _
 have HSt := Lib.hid (show ∀ x ∈ L, isStg x = true from hLd ▸ runSt_stg _ _ _)
 have h30 := (codeMoves_0 (codeRun_0 hc).2.2).2
 have HS := Lib.hid (codeRun_0 hc).2.1
 have HA := Lib.hid (codeMoves_0 (codeRun_0 hc).2.2).1
 have HC := Lib.hid hc
 have HLd := Lib.hid hLd
 by_cases hd : L.length = l.length
 rotate_left
 · have hlt : L.length < l.length := by omega
   have HF := Lib.hid (travS_stop hc hLd hlt)
   have HK := Lib.hid (travK_stop hc hLd hlt)
   have HG := Lib.hid (runC_stop hc hLd hlt)
   clear hc hLd
   go_enter Tryz.func31, Tryz.ntmps31
   go_wp2_with fail
   refine (w_checkMoves _ _ _ _ _ _ _ _ _ _ (H.out.later (((Later.refl _).alloc _).alloc _)) (H'.out.later (((Later.refl _).alloc _).alloc _)) (HZ.out.later (((Later.refl _).alloc _).alloc _))).mono ?_
   rintro e w1 ⟨rfl, hL⟩
   rw [HC.out]
   obtain ⟨⟨c0, f0, z0⟩, ⟨c1, f1, z1⟩⟩ := blk2 hL
   go_wp2_with fail
   refine (w_settings _ _ _ _ _ _ _ _ _ _ ((H.out.later (((Later.refl _).alloc _).alloc _)).later hL) ((H'.out.later (((Later.refl _).alloc _).alloc _)).later hL) HS.out ((HZ.out.later (((Later.refl _).alloc _).alloc _)).later hL) HA.out h30).mono ?_
   rintro e w2 ⟨v2, rfl, hL2, ho2⟩
   rw [HLd.out] at ho2
   obtain ⟨_, _, a2, cap2, rfl, _, _, _⟩ := reads_of_owns ho2 (by omega)
   clear ho2
   go_wp2
   refine bodyPost_ret (v := .tuple #[.int .i64 0, .int .i64 0, .int .i64 5]) (by simp [results, Tryz.results31, go_sem]) rfl ⟨by rw [HF.out, HK.out, HG.out], qla⟩
 · have HFS := Lib.hid (fun A B S => travS_done (A := A) (B := B) (S := S) hc hLd hd)
   have HFK := Lib.hid (fun A B S => travK_done (A := A) (B := B) (S := S) hc hLd hd)
   have HG := Lib.hid (runC_done hc hLd hd)
   have hnl : ¬ L.length < l.length := by omega
   have HD := Lib.hid hd
   clear hc hLd hd
   go_enter Tryz.func31, Tryz.ntmps31
   go_wp2_with fail
   refine (w_checkMoves _ _ _ _ _ _ _ _ _ _ (H.out.later (((Later.refl _).alloc _).alloc _)) (H'.out.later (((Later.refl _).alloc _).alloc _)) (HZ.out.later (((Later.refl _).alloc _).alloc _))).mono ?_
   rintro e w1 ⟨rfl, hL⟩
   rw [HC.out]
   obtain ⟨⟨c0, f0, z0⟩, ⟨c1, f1, z1⟩⟩ := blk2 hL
   go_wp2_with fail
   refine (w_settings _ _ _ _ _ _ _ _ _ _ ((H.out.later (((Later.refl _).alloc _).alloc _)).later hL) ((H'.out.later (((Later.refl _).alloc _).alloc _)).later hL) HS.out ((HZ.out.later (((Later.refl _).alloc _).alloc _)).later hL) HA.out h30).mono ?_
   rintro e w2 ⟨v2, rfl, hL2, ho2⟩
   rw [HLd.out] at ho2
   have HRd := Lib.hid (reads_of_owns ho2 (by omega))
   obtain ⟨_, _, a2, cap2, rfl, _, _, hr2⟩ := reads_of_owns ho2 (by omega)
   have HR2 := Lib.hid hr2
   have HK1 := Lib.hid (hL2.keep (kept2 hL).2)
   have HLw := Lib.hid (show Later w w2 from qla)
   have hsz := (Array.getElem?_eq_some_iff.1 HK1.out).1
   have hbs : w1.heap.size ≤ w2.heap.size := hL2.size
   have hb1 := hL.size
   simp only [World.size_alloc] at hb1
   have HO2 := Lib.hid ho2
   clear ho2 hr2 c0 f0 z0 c1 f1 z1
   go_wp2
   go_loopw [11, 12, 33] (fun A B i wr => ∃ k : Nat, k ≤ L.length ∧ i = .int .i64 k ∧ Later w wr ∧ wr.ownsRow w1.heap.size 28 2 (.slice a2 L.length cap2) L.length (stgs L) ∧ ∃ A' B' : Int, ∃ S : Stg, A = .int .i64 A' ∧ B = .int .i64 B' ∧ wr.heap[w.heap.size + 1]? = some (.cells #[.int .i64 S.sh, .int .i64 S.cu] 28 (0, 0)) ∧ Hid (Trv ⟨a, b⟩ (L.take k) A' B' S)) (fun _ _ i _ => L.length - (intOf i).toNat)
   case atStart => exact ⟨0, Nat.zero_le _, rfl, HLw.out, HO2.out, 0, 0, ⟨a, b⟩, rfl, rfl, HK1.out, (show Trv ⟨a, b⟩ (L.take 0) 0 0 ⟨a, b⟩ from Trv.zero HS.out)⟩
   case round =>
    obtain ⟨k, hk, rfl, hL3, hown, A, B, S, rfl, rfl, hB1, HT⟩ := hrel
    have HB1 := Lib.hid hB1
    have HOw := Lib.hid hown
    obtain ⟨c1, f1, z1⟩ := blk_at hB1
    have hAB : 0 ≤ A ∧ A ≤ 62914560 ∧ 0 ≤ B ∧ B ≤ 62914560 := by
     have := HT.out.2.2.2
     have hk2 : (L.take k).length ≤ 30 := by rw [List.length_take]; omega
     omega
    have bS := isStg_bds HT.out.2.2.1
    have hb3 := (Array.getElem?_eq_some_iff.1 hB1).1
    by_cases hlt : k < L.length
    rotate_left
    · have HQ := HT.out
      rw [take_eq_all (by omega)] at HQ
      have HF := Lib.hid (HFS.out _ _ _ HQ)
      have HK := Lib.hid (HFK.out _ _ _ HQ)
      clear HQ hB1 hown
      go_wp2
      refine bodyPost_ret (v := .tuple #[.int .i64 A, .int .i64 B, .int .i64 0]) (by simp [results, Tryz.results31, go_sem]) rfl ⟨by rw [HF.out, HK.out, HG.out], qla⟩
    obtain ⟨x, hx⟩ := get_ex (l := L) (k := k) hlt
    have HX := Lib.hid hx
    have HXS := Lib.hid (HSt.out x (List.mem_of_getElem? hx))
    have bX := isStg_bds HXS.out
    obtain ⟨_, _, a3, cap3, e3, _, _, hr3⟩ := reads_of_owns hown (by omega)
    obtain ⟨rfl, rfl⟩ : a3 = a2 ∧ cap3 = cap2 := by simp at e3; exact ⟨e3.1.symm, e3.2.symm⟩
    obtain ⟨b2, off2, rfl, hrow⟩ := hr3 (by omega)
    obtain ⟨x1, x2⟩ := hrow.stg hx
    have hbr := hrow.1
    have wA : IntKind.i64.wrap (A + max (x.sh - S.sh) (S.sh - x.sh)) = A + max (x.sh - S.sh) (S.sh - x.sh) := wrap_same (by omega) (by omega)
    have wB : IntKind.i64.wrap (B + max (x.cu - S.cu) (S.cu - x.cu)) = B + max (x.cu - S.cu) (S.cu - x.cu) := wrap_same (by omega) (by omega)
    clear hx hB1 hown e3
    go_wp2_with fail
    refine (w_distance _ _ (by omega) (by omega) (by omega) (by omega) _).mono ?_
    rintro e w' ⟨rfl, rfl⟩
    go_wp2_with fail
    refine (w_distance _ _ (by omega) (by omega) (by omega) (by omega) _).mono ?_
    rintro e w' ⟨rfl, rfl⟩
    go_wp2
    go_roundw
    case rel => exact ⟨k + 1, by omega, by go_num, qla, (owns_set (owns_set HOw.out (by omega) _ _) (by omega) _ _).alloc _, _, _, x, rfl, rfl, heap_alloc_old _ _ (two_set HB1.out _ _), by rw [take_snoc HX.out]; exact HT.out.go HXS.out⟩
    case measure => simp [intOf]; omega
end Go.Proofs.YtgngbdacejghcaaGreatDoor
