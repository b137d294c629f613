/- DERIVED. Walks: joined chains. -/
import Derived.Test.YtfhppnmbmdpjeaaM3
import Derived.Test.YtfhppnmbmdpjeaaBA
namespace Go.Proofs.Ytfhppnmbmdpjeaa
set_option linter.unusedVariables false
set_option linter.unusedSimpArgs false
open Go.RowKit
set_option maxRecDepth 100000

theorem w_cloneTrm (v : Value) (ts : List Trm) (w : World) (h : IsTrms w v ts) (h0 : 0 < ts.length) :
    Calls Try.prog 181 #[v] w fun e w' => ∃ v', e = .returned v' ∧ Later w w' ∧ w'.ownsRow w.heap.size 101 3 v' ts.length (trms ts) := by
  obtain ⟨hxl1, hn1, a1, cap1, rfl, hcap1, hmax1, hrow1⟩ := h
  have HR1 := Lib.hid hrow1
  clear hrow1 hxl1
  obtain ⟨b, off, rfl, hr⟩ := HR1.out h0
  clear HR1
  have HR := Lib.hid hr
  clear hr
  have hnil := fun (wx : World) => Lib.run_eql_slice_nil (P := Try.prog) (w := wx) 47
  go_enter Try.func181, Try.ntmps181
  go_wp2_with (at_builtin; refine appC_Term rfl (.tmp 5) (.tmp 6) rfl w.heap.size ts rfl b off _ _ rfl rfl HR.out hn1 (Nat.le_refl _) ?_; intro v' w1 ho1 hL1)
  go_ret
  exact ⟨_, rfl, hL1, ho1⟩

end Go.Proofs.Ytfhppnmbmdpjeaa
