/- DERIVED. Walks: the code of a rule, a setting and moves. -/
import Derived.Test.YtgngbdacejghcaaGreatDoorKVM37
namespace Go.Proofs.YtgngbdacejghcaaGreatDoor
set_option linter.unusedVariables false
set_option linter.unusedSimpArgs false
open Go.RowKit
set_option maxRecDepth 100000
theorem codeRun_no {r : Rul} {s : Stg} {l : List Mov} (h : (isRule r && isStg s) = false) : codeRun r s l = 1 := by
 unfold codeRun; rw [h]; rfl
theorem codeRun_yes {r : Rul} {s : Stg} {l : List Mov} (h : isRule r = true) (h' : isStg s = true) : codeRun r s l = codeMoves l := by
 unfold codeRun; rw [h, h']; rfl
set_option maxHeartbeats 1000000 in
theorem w_checkMoves (n : Int) (u v z : Value) (st sl : List Int) (a b : Int) (l : List Mov) (w : World) (h : IsNums w u st) (h' : IsNums w v sl) (hl : IsMovs w z l) :
 Calls Tryz.prog 86 #[.agg #[.int .i64 n, u, v], .agg #[.int .i64 a, .int .i64 b], z] w fun e w' => e = .returned (.int .i64 (codeRun ⟨n, st, sl⟩ ⟨a, b⟩ l)) ∧ Later w w' := by
 have H := Lib.hid h
 have H' := Lib.hid h'
 have HZ := Lib.hid hl
 obtain ⟨_, _, au, capu, rfl, _, _, _⟩ := h
 obtain ⟨_, _, av, capv, rfl, _, _, _⟩ := h'
 obtain ⟨_, _, az, capz, rfl, _, _, _⟩ := hl
 cases h1 : isRule ⟨n, st, sl⟩
 · have HF := Lib.hid (codeRun_no (l := l) (show (isRule ⟨n, st, sl⟩ && isStg ⟨a, b⟩) = false by rw [h1]; rfl))
   have H1 := Lib.hid h1
   clear h1
   go_enter Tryz.func86, Tryz.ntmps86
   go_wp2_with fail
   refine (w_implIsRule _ _ _ _ _ _ (H.out.later (((Later.refl _).alloc _).alloc _)) (H'.out.later (((Later.refl _).alloc _).alloc _))).mono ?_
   rintro e w1 ⟨rfl, hL⟩
   rw [H1.out]
   go_wp2
   go_ret
   exact ⟨by rw [HF.out]; rfl, qla⟩
 cases h2 : isStg ⟨a, b⟩
 · have HF := Lib.hid (codeRun_no (l := l) (show (isRule ⟨n, st, sl⟩ && isStg ⟨a, b⟩) = false by rw [h1, h2]; rfl))
   have H1 := Lib.hid h1
   have H2 := Lib.hid h2
   clear h1 h2
   go_enter Tryz.func86, Tryz.ntmps86
   go_wp2_with fail
   refine (w_implIsRule _ _ _ _ _ _ (H.out.later (((Later.refl _).alloc _).alloc _)) (H'.out.later (((Later.refl _).alloc _).alloc _))).mono ?_
   rintro e w1 ⟨rfl, hL⟩
   rw [H1.out]
   obtain ⟨⟨c0, f0, z0⟩, ⟨c1, f1, z1⟩⟩ := blk2 hL
   go_wp2_with fail
   refine (w_implIsSetting _ _ _).mono ?_
   rintro e w2 ⟨rfl, hL2⟩
   rw [H2.out]
   go_wp2
   go_ret
   exact ⟨by rw [HF.out]; rfl, qla⟩
 have HF0 := Lib.hid (codeRun_yes (l := l) h1 h2)
 cases h3 : l.all isMove
 · have HF := Lib.hid (show codeMoves l = 1 by unfold codeMoves; rw [h3]; rfl)
   have H1 := Lib.hid h1
   have H2 := Lib.hid h2
   have H3 := Lib.hid h3
   clear h1 h2 h3
   go_enter Tryz.func86, Tryz.ntmps86
   go_wp2_with fail
   refine (w_implIsRule _ _ _ _ _ _ (H.out.later (((Later.refl _).alloc _).alloc _)) (H'.out.later (((Later.refl _).alloc _).alloc _))).mono ?_
   rintro e w1 ⟨rfl, hL⟩
   rw [H1.out]
   obtain ⟨⟨c0, f0, z0⟩, ⟨c1, f1, z1⟩⟩ := blk2 hL
   go_wp2_with fail
   refine (w_implIsSetting _ _ _).mono ?_
   rintro e w2 ⟨rfl, hL2⟩
   rw [H2.out]
   go_wp2_with fail
   refine (w_allMoves _ _ _ (((HZ.out.later (((Later.refl _).alloc _).alloc _)).later hL).later hL2)).mono ?_
   rintro e w3 ⟨rfl, hL3⟩
   rw [H3.out]
   go_wp2
   go_ret
   exact ⟨by rw [HF0.out, HF.out]; rfl, qla⟩
 by_cases h4 : l.length ≤ 30
 all_goals
  have HF := Lib.hid (show codeMoves l = if l.length ≤ 30 then 0 else 3 by unfold codeMoves; rw [h3]; rfl)
  have H1 := Lib.hid h1
  have H2 := Lib.hid h2
  have H3 := Lib.hid h3
  have H4 := Lib.hid h4
  clear h1 h2 h3
  go_enter Tryz.func86, Tryz.ntmps86
  go_wp2_with fail
  refine (w_implIsRule _ _ _ _ _ _ (H.out.later (((Later.refl _).alloc _).alloc _)) (H'.out.later (((Later.refl _).alloc _).alloc _))).mono ?_
  rintro e w1 ⟨rfl, hL⟩
  rw [H1.out]
  obtain ⟨⟨c0, f0, z0⟩, ⟨c1, f1, z1⟩⟩ := blk2 hL
  go_wp2_with fail
  refine (w_implIsSetting _ _ _).mono ?_
  rintro e w2 ⟨rfl, hL2⟩
  rw [H2.out]
  go_wp2_with fail
  refine (w_allMoves _ _ _ (((HZ.out.later (((Later.refl _).alloc _).alloc _)).later hL).later hL2)).mono ?_
  rintro e w3 ⟨rfl, hL3⟩
  rw [H3.out]
  go_wp2
  go_ret
  exact ⟨by rw [HF0.out, HF.out]; simp only [H4.out, if_true, if_false]; rfl, qla⟩
set_option maxHeartbeats 1000000 in
theorem w_l12Start (n : Int) (u v z : Value) (st sl : List Int) (a b : Int) (l : List Mov) (w : World) (h : IsNums w u st) (h' : IsNums w v sl) (hl : IsMovs w z l) :
 Calls Tryz.prog 89 #[.agg #[.int .i64 n, u, v], .agg #[.int .i64 a, .int .i64 b], z] w fun e w' => e = .returned (.int .i64 (codeRun ⟨n, st, sl⟩ ⟨a, b⟩ l)) ∧ Later w w' := by
 have H := Lib.hid h
 have H' := Lib.hid h'
 have HZ := Lib.hid hl
 obtain ⟨_, _, au, capu, rfl, _, _, _⟩ := h
 obtain ⟨_, _, av, capv, rfl, _, _, _⟩ := h'
 obtain ⟨_, _, az, capz, rfl, _, _, _⟩ := hl
 cases h1 : isRule ⟨n, st, sl⟩
 · have HF := Lib.hid (codeRun_no (l := l) (show (isRule ⟨n, st, sl⟩ && isStg ⟨a, b⟩) = false by rw [h1]; rfl))
   have H1 := Lib.hid h1
   clear h1
   go_enter Tryz.func89, Tryz.ntmps89
   go_wp2_with fail
   refine (w_specIsRule _ _ _ _ _ _ (H.out.later (((Later.refl _).alloc _).alloc _)) (H'.out.later (((Later.refl _).alloc _).alloc _))).mono ?_
   rintro e w1 ⟨rfl, hL⟩
   rw [H1.out]
   go_wp2
   go_ret
   exact ⟨by rw [HF.out]; rfl, qla⟩
 cases h2 : isStg ⟨a, b⟩
 · have HF := Lib.hid (codeRun_no (l := l) (show (isRule ⟨n, st, sl⟩ && isStg ⟨a, b⟩) = false by rw [h1, h2]; rfl))
   have H1 := Lib.hid h1
   have H2 := Lib.hid h2
   clear h1 h2
   go_enter Tryz.func89, Tryz.ntmps89
   go_wp2_with fail
   refine (w_specIsRule _ _ _ _ _ _ (H.out.later (((Later.refl _).alloc _).alloc _)) (H'.out.later (((Later.refl _).alloc _).alloc _))).mono ?_
   rintro e w1 ⟨rfl, hL⟩
   rw [H1.out]
   obtain ⟨⟨c0, f0, z0⟩, ⟨c1, f1, z1⟩⟩ := blk2 hL
   go_wp2_with fail
   refine (w_specIsSetting _ _ _).mono ?_
   rintro e w2 ⟨rfl, hL2⟩
   rw [H2.out]
   go_wp2
   go_ret
   exact ⟨by rw [HF.out]; rfl, qla⟩
 have HF0 := Lib.hid (codeRun_yes (l := l) h1 h2)
 have H1 := Lib.hid h1
 have H2 := Lib.hid h2
 clear h1 h2
 go_enter Tryz.func89, Tryz.ntmps89
 go_wp2_with fail
 refine (w_specIsRule _ _ _ _ _ _ (H.out.later (((Later.refl _).alloc _).alloc _)) (H'.out.later (((Later.refl _).alloc _).alloc _))).mono ?_
 rintro e w1 ⟨rfl, hL⟩
 rw [H1.out]
 obtain ⟨⟨c0, f0, z0⟩, ⟨c1, f1, z1⟩⟩ := blk2 hL
 go_wp2_with fail
 refine (w_specIsSetting _ _ _).mono ?_
 rintro e w2 ⟨rfl, hL2⟩
 rw [H2.out]
 go_wp2_with fail
 refine (w_specL12Code _ _ _ (((HZ.out.later (((Later.refl _).alloc _).alloc _)).later hL).later hL2)).mono ?_
 rintro e w3 ⟨rfl, hL3⟩
 go_wp2
 go_ret
 exact ⟨by rw [HF0.out]; rfl, qla⟩
end Go.Proofs.YtgngbdacejghcaaGreatDoor
namespace Go.Proofs.YtgngbdacejghcaaGreatDoor
set_option linter.unusedVariables false
set_option linter.unusedSimpArgs false
open Go.RowKit
set_option maxRecDepth 100000
theorem codeRun_cases (r : Rul) (s : Stg) (l : List Mov) : codeRun r s l = 0 ∨ codeRun r s l = 1 ∨ codeRun r s l = 3 := by
 unfold codeRun codeMoves
 split
 · split
   · split
     · exact .inl rfl
     · exact .inr (.inr rfl)
   · exact .inr (.inl rfl)
 · exact .inr (.inl rfl)
theorem allDone_yes {r : Rul} {s : Stg} {l : List Mov} {L : List Stg} (h : runSt r s l = L) (hd : L.length = l.length) : allDone r s l = true := by
 unfold allDone; rw [h, hd]; simp
theorem allDone_no {r : Rul} {s : Stg} {l : List Mov} {L : List Stg} (h : runSt r s l = L) (hd : L.length < l.length) : allDone r s l = false := by
 unfold allDone; rw [h]; simp; omega
end Go.Proofs.YtgngbdacejghcaaGreatDoor
