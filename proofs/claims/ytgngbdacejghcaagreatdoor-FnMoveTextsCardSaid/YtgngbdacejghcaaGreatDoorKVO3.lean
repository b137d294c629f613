/- DERIVED. What bytes read as, that came in to a law. -/
import Derived.Test.YtgngbdacejghcaaGreatDoorKVO1
import Derived.Test.YtgngbdacejghcaaGreatDoorKVM100
namespace Go.Proofs.YtgngbdacejghcaaGreatDoor
set_option linter.unusedVariables false
set_option linter.unusedSimpArgs false
open Go.RowKit Go.ChangeShapes Go.WideShapes Go.ChangeAt Go.Deep
set_option maxRecDepth 100000
section
variable {H : Type} {enc : TypeId × Value → H} {W : World}
theorem o_bytes {a : Option Addr} {len cap : Nat} {d : DataW H} {p : List MemPlace} (h : DataW.Trod enc Tryz.prog W 0 (fun _ => true) true 22 (.slice a len cap) d p) :
 ∃ l : List Int, Raw W (.slice a len cap) l.length 1 (byts l) ∧ ∀ b ∈ l, 0 ≤ b ∧ b ≤ 255 := by
 obtain ⟨l, hl⟩ := raw_of (fun x : { y : Int // 0 ≤ y ∧ y ≤ 255 } => [Value.int .u8 x.1]) 1 (fun _ => rfl) (by decide) Tryz.underlying22 (by kernel_rfl) (fun _ _ _ h => by
  obtain ⟨n, rfl, _, hw⟩ := DataW.trod_int Tryz.underlying5 h
  have hw' : (decide (IntKind.u8.min ≤ n) && decide (n ≤ IntKind.u8.max)) = true := hw
  rw [show IntKind.u8.min = 0 from by decide, show IntKind.u8.max = 255 from by decide, Bool.and_eq_true, decide_eq_true_eq, decide_eq_true_eq] at hw'
  exact ⟨⟨n, hw'⟩, rfl⟩) h
 refine ⟨l.map (·.1), ?_, ?_⟩
 · rw [List.length_map]
   rwa [show l.flatMap (fun x : { y : Int // 0 ≤ y ∧ y ≤ 255 } => [Value.int .u8 x.1]) = byts (l.map (·.1)) from by simp [byts, List.map_eq_flatMap, List.flatMap_map]] at hl
 · intro b hb
   obtain ⟨x, _, rfl⟩ := List.mem_map.1 hb
   exact x.2
end
end Go.Proofs.YtgngbdacejghcaaGreatDoor
