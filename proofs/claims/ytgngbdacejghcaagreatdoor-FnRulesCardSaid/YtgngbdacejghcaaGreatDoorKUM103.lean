/- DERIVED. Walks: the draws of chains. -/
import Derived.Test.YtgngbdacejghcaaGreatDoorKUM101
namespace Go.Proofs.YtgngbdacejghcaaGreatDoor
set_option linter.unusedVariables false
set_option linter.unusedSimpArgs false
open Go.RowKit
set_option maxRecDepth 100000
theorem w_l01From' (c : Value) (bs : List Int) (w : World) (h : IsByts w c bs) (hB : ∀ b ∈ bs, 0 ≤ b ∧ b ≤ 255) (hl : bs.length ≤ 4096) :
 Calls Tryz.prog 40 #[c] w fun e w' => ∃ k, e = .returned (.pointer (some ⟨k, 0, none⟩)) ∧ w.heap.size ≤ k ∧ Later w w' ∧ Src w' k c :=
 (w_l01From c bs w h hB hl).mono fun e w' h => ⟨_, h.1, Nat.le_refl _, h.2.1, h.2.2⟩
theorem w_big (a : Option Addr) (n cap : Nat) (hn : n ≤ 9223372036854775807) (w : World) :
 Calls Tryz.prog 5 #[.slice a n cap] w fun e w' => e = .returned (.bool (decide ((4096 : Int) < (n : Int)))) ∧ w = w' := by
 go_enter Tryz.func5, Tryz.ntmps5
 go_wp2
 go_ret
 exact ⟨rfl, rfl⟩
end Go.Proofs.YtgngbdacejghcaaGreatDoor
