/- DERIVED. Walks: PlaceTransfer. -/
import Derived.Test.YtkoojngonldcbaaGreatKBM30a
import Derived.Test.YtkoojngonldcbaaGreatKBPA
import Derived.Test.YtkoojngonldcbaaGreatKBBA
namespace Go.Proofs.YtkoojngonldcbaaGreat
set_option linter.unusedVariables false
set_option linter.unusedSimpArgs false
open Go.RowKit
set_option maxRecDepth 100000
theorem figs_lit {w : World} {k : Nat} {T : TypeId} {c : Array Value} (l : List Fig) (h : w.heap[k]? = some (.cells c T (0, 0))) (hc : c.toList = figs l) (hn : l.length ≤ 1048576) : IsFigs w (.slice (some ⟨k, 0, none⟩) l.length l.length) l := by
 refine ⟨figs_len l, hn, _, _, rfl, Nat.le_refl _, by omega, fun _ => ⟨k, 0, rfl, (Array.getElem?_eq_some_iff.1 h).1, fun j u hj => ?_⟩⟩
 rw [← hc] at hj
 rw [Nat.zero_add, (blk_at h).1]
 simpa using hj
end Go.Proofs.YtkoojngonldcbaaGreat
namespace Go.Proofs.YtkoojngonldcbaaGreat
set_option linter.unusedVariables false
set_option linter.unusedSimpArgs false
open Go.RowKit
set_option maxRecDepth 100000
theorem w_l02Two (a b c d : Int) (w : World) :
 Calls Tryz.prog 196 #[.agg #[.int .i64 a, .int .i64 b], .agg #[.int .i64 c, .int .i64 d]] w fun e w' => e = .returned (.bool (isFig ⟨a, b⟩ && isFig ⟨c, d⟩)) ∧ Later w w' := by
 cases h1 : isFig ⟨a, b⟩ <;> cases h2 : isFig ⟨c, d⟩
 all_goals
  have H1 := Lib.hid h1
  have H2 := Lib.hid h2
  clear h1 h2
  go_enter Tryz.func196, Tryz.ntmps196
  go_wp2_with fail
  refine (w_specIsFigure _ _ _).mono ?_
  rintro e w1 ⟨rfl, hL⟩
  rw [H1.out]
  obtain ⟨⟨c0, f0, z0⟩, ⟨c1, f1, z1⟩⟩ := blk2 hL
  go_wp2_with (go_at_call 103; refine (w_specIsFigure _ _ _).mono ?_; rintro e w2 ⟨rfl, hL2⟩; rw [H2.out])
  go_ret
  exact ⟨rfl, qla⟩
end Go.Proofs.YtkoojngonldcbaaGreat
