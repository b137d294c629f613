/- DERIVED. Walks: how far slide and cursor go. -/
import Derived.Test.YtldojpelnghplaaGreatM40
import Derived.Test.YtldojpelnghplaaGreatBA
namespace Go.Proofs.YtldojpelnghplaaGreat
set_option linter.unusedVariables false
set_option linter.unusedSimpArgs false
open Go.RowKit
set_option maxRecDepth 100000

theorem isStg_bds {s : Stg} (h : isStg s = true) : -1048576 ≤ s.sh ∧ s.sh ≤ 1048576 ∧ 0 ≤ s.cu ∧ s.cu ≤ 1048576 := by
  unfold isStg at h
  simp [inR] at h
  omega
/-- How far it went after k settings of L. -/
def Trv (s : Stg) (L : List Stg) (A B : Int) (S : Stg) : Prop := trav s L = (A, B) ∧ lastSt s L = S ∧ isStg S = true ∧ 0 ≤ A ∧ A ≤ L.length * 2097152 ∧ 0 ≤ B ∧ B ≤ L.length * 2097152
theorem Trv.zero {s : Stg} (h : isStg s = true) : Trv s [] 0 0 s := ⟨rfl, rfl, h, by omega, by simp, by omega, by simp⟩
theorem Trv.go {s : Stg} {L : List Stg} {A B : Int} {S : Stg} {x : Stg} (h : Trv s L A B S) (hx : isStg x = true) : Trv s (L ++ [x]) (A + max (x.sh - S.sh) (S.sh - x.sh)) (B + max (x.cu - S.cu) (S.cu - x.cu)) x := by
  obtain ⟨h1, h2, h3, h4, h5, h6, h7⟩ := h
  have b1 := isStg_bds h3
  have b2 := isStg_bds hx
  refine ⟨by rw [trav_snoc, h1, h2], lastSt_snoc _ _ _, hx, by omega, ?_, by omega, ?_⟩
  · simp only [List.length_append, List.length_cons, List.length_nil]; omega
  · simp only [List.length_append, List.length_cons, List.length_nil]; omega
theorem take_snoc {α : Type} {L : List α} {k : Nat} {x : α} (h : L[k]? = some x) : L.take (k + 1) = L.take k ++ [x] := by
  rw [List.take_add_one, h]; rfl
theorem travS_no {r : Rul} {s : Stg} {l : List Mov} {c : Int} (h : codeRun r s l = c) (hc : c ≠ 0) : travS r s l = 0 := by
  unfold travS; rw [h, if_neg hc]
theorem travK_no {r : Rul} {s : Stg} {l : List Mov} {c : Int} (h : codeRun r s l = c) (hc : c ≠ 0) : travK r s l = 0 := by
  unfold travK; rw [h, if_neg hc]
theorem travS_stop {r : Rul} {s : Stg} {l : List Mov} {L : List Stg} (h0 : codeRun r s l = 0) (h : runSt r s l = L) (hd : L.length < l.length) : travS r s l = 0 := by
  unfold travS; rw [h0, if_pos rfl, allDone_no h hd]; rfl
theorem travK_stop {r : Rul} {s : Stg} {l : List Mov} {L : List Stg} (h0 : codeRun r s l = 0) (h : runSt r s l = L) (hd : L.length < l.length) : travK r s l = 0 := by
  unfold travK; rw [h0, if_pos rfl, allDone_no h hd]; rfl
theorem travS_done {r : Rul} {s : Stg} {l : List Mov} {L : List Stg} {A B : Int} {S : Stg} (h0 : codeRun r s l = 0) (h : runSt r s l = L) (hd : L.length = l.length) (ht : Trv s L A B S) : travS r s l = A := by
  unfold travS; rw [h0, if_pos rfl, allDone_yes h hd, h, ht.1]; rfl
theorem travK_done {r : Rul} {s : Stg} {l : List Mov} {L : List Stg} {A B : Int} {S : Stg} (h0 : codeRun r s l = 0) (h : runSt r s l = L) (hd : L.length = l.length) (ht : Trv s L A B S) : travK r s l = B := by
  unfold travK; rw [h0, if_pos rfl, allDone_yes h hd, h, ht.1]; rfl

theorem w_l01Abs (x y : Int) (h1 : -4194304 ≤ x - y) (h2 : x - y ≤ 4194304) (w : World) :
    Calls Tryz.prog 148 #[.int .i64 (x - y)] w fun e w' => e = .returned (.int .i64 (max (x - y) (y - x))) ∧ w = w' := by
  have wD : IntKind.i64.wrap (-(x - y)) = -(x - y) := wrap_same (by omega) (by omega)
  have HE := Lib.hid (show max (x - y) (-(x - y)) = max (x - y) (y - x) by omega)
  go_enter Tryz.func148, Tryz.ntmps148
  go_wp2
  all_goals
    go_ret
    exact ⟨congrArg (fun t => Ending.returned (.int .i64 t)) (show _ = max (x - y) (y - x) from by omega), rfl⟩

end Go.Proofs.YtldojpelnghplaaGreat
