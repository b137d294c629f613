/- DERIVED. Walks: the code of a rule, a setting and moves. -/
import Derived.Test.YtkoojngonldcbaaGreatKPM37
namespace Go.Proofs.YtkoojngonldcbaaGreat
set_option linter.unusedVariables false
set_option linter.unusedSimpArgs false
open Go.RowKit
set_option maxRecDepth 100000
theorem codeRun_no {r : Rul} {s : Stg} {l : List Mov} (h : (isRule r && isStg s) = false) : codeRun r s l = 1 := by
 unfold codeRun; rw [h]; rfl
theorem codeRun_yes {r : Rul} {s : Stg} {l : List Mov} (h : isRule r = true) (h' : isStg s = true) : codeRun r s l = codeMoves l := by
 unfold codeRun; rw [h, h']; rfl
set_option maxHeartbeats 1000000 in
theorem w_checkMoves (n : Int) (u v z : Value) (st sl : List Int) (a b : Int) (l : List Mov) (w : World) (h : IsNums w u st) (h' : IsNums w v sl) (hl : IsMovs w z l) :
 Calls Tryz.prog 122 #[.agg #[.int .i64 n, u, v], .agg #[.int .i64 a, .int .i64 b], z] w fun e w' => e = .returned (.int .i64 (codeRun ⟨n, st, sl⟩ ⟨a, b⟩ l)) ∧ Later w w' := by
 have H := Lib.hid h
 have H' := Lib.hid h'
 have HZ := Lib.hid hl
 obtain ⟨_, _, au, capu, rfl, _, _, _⟩ := h
 obtain ⟨_, _, av, capv, rfl, _, _, _⟩ := h'
 obtain ⟨_, _, az, capz, rfl, _, _, _⟩ := hl
 cases h1 : isRule ⟨n, st, sl⟩
 · have HF := Lib.hid (codeRun_no (l := l) (show (isRule ⟨n, st, sl⟩ && isStg ⟨a, b⟩) = false by rw [h1]; rfl))
   have H1 := Lib.hid h1
   clear h1
   go_enter Tryz.func122, Tryz.ntmps122
   go_wp2_with fail
   refine (w_implIsRule _ _ _ _ _ _ (H.out.later (((Later.refl _).alloc _).alloc _)) (H'.out.later (((Later.refl _).alloc _).alloc _))).mono ?_
   rintro e w1 ⟨rfl, hL⟩
   rw [H1.out]
   go_wp2
   go_ret
   exact ⟨by rw [HF.out]; rfl, by (repeat (with_reducible first | exact Later.refl _ | refine qLa ?_ | refine qLd ?_ | refine qLe ?_ | refine qLs ?_ | refine qLt ?_ (by assumption)))⟩
 cases h2 : isStg ⟨a, b⟩
 · have HF := Lib.hid (codeRun_no (l := l) (show (isRule ⟨n, st, sl⟩ && isStg ⟨a, b⟩) = false by rw [h1, h2]; rfl))
   have H1 := Lib.hid h1
   have H2 := Lib.hid h2
   clear h1 h2
   go_enter Tryz.func122, Tryz.ntmps122
   go_wp2_with fail
   refine (w_implIsRule _ _ _ _ _ _ (H.out.later (((Later.refl _).alloc _).alloc _)) (H'.out.later (((Later.refl _).alloc _).alloc _))).mono ?_
   rintro e w1 ⟨rfl, hL⟩
   rw [H1.out]
   obtain ⟨⟨c0, f0, z0⟩, ⟨c1, f1, z1⟩⟩ := blk2 hL
   go_wp2_with fail
   refine (w_implIsSetting _ _ _).mono ?_
   rintro e w2 ⟨rfl, hL2⟩
   rw [H2.out]
   go_wp2
   go_ret
   exact ⟨by rw [HF.out]; rfl, by (repeat (with_reducible first | exact Later.refl _ | refine qLa ?_ | refine qLd ?_ | refine qLe ?_ | refine qLs ?_ | refine qLt ?_ (by assumption)))⟩
 have HF0 := Lib.hid (codeRun_yes (l := l) h1 h2)
 cases h3 : l.all isMove
 · have HF := Lib.hid (show codeMoves l = 1 by unfold codeMoves; rw [h3]; rfl)
   have H1 := Lib.hid h1
   have H2 := Lib.hid h2
   have H3 := Lib.hid h3
   clear h1 h2 h3
   go_enter Tryz.func122, Tryz.ntmps122
   go_wp2_with fail
   refine (w_implIsRule _ _ _ _ _ _ (H.out.later (((Later.refl _).alloc _).alloc _)) (H'.out.later (((Later.refl _).alloc _).alloc _))).mono ?_
   rintro e w1 ⟨rfl, hL⟩
   rw [H1.out]
   obtain ⟨⟨c0, f0, z0⟩, ⟨c1, f1, z1⟩⟩ := blk2 hL
   go_wp2_with fail
   refine (w_implIsSetting _ _ _).mono ?_
   rintro e w2 ⟨rfl, hL2⟩
   rw [H2.out]
   go_wp2_with fail
   refine (w_allMoves _ _ _ (((HZ.out.later (((Later.refl _).alloc _).alloc _)).later hL).later hL2)).mono ?_
   rintro e w3 ⟨rfl, hL3⟩
   rw [H3.out]
   go_wp2
   go_ret
   exact ⟨by rw [HF0.out, HF.out]; rfl, by (repeat (with_reducible first | exact Later.refl _ | refine qLa ?_ | refine qLd ?_ | refine qLe ?_ | refine qLs ?_ | refine qLt ?_ (by assumption)))⟩
 by_cases h4 : l.length ≤ 30
 all_goals
  have HF := Lib.hid (show codeMoves l = if l.length ≤ 30 then 0 else 3 by unfold codeMoves; rw [h3]; rfl)
  have H1 := Lib.hid h1
  have H2 := Lib.hid h2
  have H3 := Lib.hid h3
  have H4 := Lib.hid h4
  clear h1 h2 h3
  go_enter Tryz.func122, Tryz.ntmps122
  go_wp2_with fail
  refine (w_implIsRule _ _ _ _ _ _ (H.out.later (((Later.refl _).alloc _).alloc _)) (H'.out.later (((Later.refl _).alloc _).alloc _))).mono ?_
  rintro e w1 ⟨rfl, hL⟩
  rw [H1.out]
  obtain ⟨⟨c0, f0, z0⟩, ⟨c1, f1, z1⟩⟩ := blk2 hL
  go_wp2_with fail
  refine (w_implIsSetting _ _ _).mono ?_
  rintro e w2 ⟨rfl, hL2⟩
  rw [H2.out]
  go_wp2_with fail
  refine (w_allMoves _ _ _ (((HZ.out.later (((Later.refl _).alloc _).alloc _)).later hL).later hL2)).mono ?_
  rintro e w3 ⟨rfl, hL3⟩
  rw [H3.out]
  go_wp2
  go_ret
  exact ⟨by rw [HF0.out, HF.out]; simp only [H4.out, if_true, if_false]; rfl, by (repeat (with_reducible first | exact Later.refl _ | refine qLa ?_ | refine qLd ?_ | refine qLe ?_ | refine qLs ?_ | refine qLt ?_ (by assumption)))⟩
end Go.Proofs.YtkoojngonldcbaaGreat
