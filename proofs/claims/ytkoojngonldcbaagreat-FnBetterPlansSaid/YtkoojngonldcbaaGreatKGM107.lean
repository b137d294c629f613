/- DERIVED. Walks: the draws of chains. -/
import Derived.Test.YtkoojngonldcbaaGreatKGM102
import Derived.Test.YtkoojngonldcbaaGreatKGM101
import Derived.Test.YtkoojngonldcbaaGreatKGM33
namespace Go.Proofs.YtkoojngonldcbaaGreat
set_option linter.unusedVariables false
set_option linter.unusedSimpArgs false
open Go.RowKit
set_option maxRecDepth 100000
theorem w_l01From' (c : Value) (bs : List Int) (w : World) (h : IsByts w c bs) (hB : ∀ b ∈ bs, 0 ≤ b ∧ b ≤ 255) (hl : bs.length ≤ 4096) :
 Calls Tryz.prog 61 #[c] w fun e w' => ∃ k, e = .returned (.pointer (some ⟨k, 0, none⟩)) ∧ w.heap.size ≤ k ∧ Later w w' ∧ Src w' k c :=
 (w_l01From c bs w h hB hl).mono fun e w' h => ⟨_, h.1, Nat.le_refl _, h.2.1, h.2.2⟩
theorem w_big (a : Option Addr) (n cap : Nat) (hn : n ≤ 9223372036854775807) (w : World) :
 Calls Tryz.prog 7 #[.slice a n cap] w fun e w' => e = .returned (.bool (decide ((4096 : Int) < (n : Int)))) ∧ w = w' := by
 go_enter Tryz.func7, Tryz.ntmps7
 go_wp2
 go_ret
 exact ⟨rfl, rfl⟩
end Go.Proofs.YtkoojngonldcbaaGreat
namespace Go.Proofs.YtkoojngonldcbaaGreat
set_option linter.unusedVariables false
set_option linter.unusedSimpArgs false
open Go.RowKit
set_option maxRecDepth 100000
set_option maxHeartbeats 1000000 in
theorem w_l05DrawScale (k : Nat) (c : Value) (w : World) (h : Src w k c) :
 Calls Tryz.prog 170 #[.pointer (some ⟨k, 0, none⟩)] w fun e w' => ∃ x : Int, e = .returned (.int .i64 x) ∧ Drawn w w' k ∧ Src w' k c := by
 have hk := h.lt
 go_enter Tryz.func170, Tryz.ntmps170
 go_wp2_with fail
 refine (w_l01Next k c 6 _ qsh).mono ?_
 rintro e w1 ⟨x1, rfl, x1a, x1b, hD, hS1⟩
 have hz1 : w.heap.size ≤ w1.heap.size := qsz hD.size
 have hD1 : Drawn w w1 k := Drawn.trans qdh hD
 clear hD
 go_wp2_with fail
 refine (w_l01Next k c 30 _ qsh).mono ?_
 rintro e w2 ⟨x2, rfl, x2a, x2b, hD, hS2⟩
 have hz2 : w1.heap.size ≤ w2.heap.size := qsz hD.size
 have hD2 : Drawn w w2 k := Drawn.trans qdh hD
 clear hD
 go_wp2_with fail
 refine (w_l01Next k c 30 _ qsh).mono ?_
 rintro e w3 ⟨x3, rfl, x3a, x3b, hD, hS3⟩
 have hz3 : w2.heap.size ≤ w3.heap.size := qsz hD.size
 have hD3 : Drawn w w3 k := Drawn.trans qdh hD
 clear hD
 go_wp2
 go_ret
 exact ⟨x1 + x2 / 29 - x3 / 29, rfl, qdh, qsh⟩
set_option maxHeartbeats 1000000 in
theorem w_l05DrawLength (k : Nat) (c : Value) (w : World) (h : Src w k c) :
 Calls Tryz.prog 169 #[.pointer (some ⟨k, 0, none⟩)] w fun e w' => ∃ x : Int, e = .returned (.int .i64 x) ∧ Drawn w w' k ∧ Src w' k c := by
 have hk := h.lt
 go_enter Tryz.func169, Tryz.ntmps169
 go_wp2_with fail
 refine (w_l01Next k c 30000 _ qsh).mono ?_
 rintro e w1 ⟨x1, rfl, x1a, x1b, hD, hS1⟩
 have hz1 : w.heap.size ≤ w1.heap.size := qsz hD.size
 have hD1 : Drawn w w1 k := Drawn.trans qdh hD
 clear hD
 go_wp2_with fail
 refine (w_l01Pick k c _ [25000, 12500, 1 + x1, 25000, 1, 100000, 100001, 0] _ qsh (reads_new' _ _ [25000, 12500, 1 + x1, 25000, 1, 100000, 100001, 0] (by simp) (by first | rfl | (simp; done))) (by simp) (allIn_new (by omega))).mono ?_
 rintro e w2 ⟨x2, rfl, x2m, hD, hS2⟩
 have hz2 : w1.heap.size ≤ w2.heap.size := qsz hD.size
 have hD2 : Drawn w w2 k := Drawn.trans qdh hD
 clear hD
 go_wp2
 go_ret
 exact ⟨x2, rfl, qdh, qsh⟩
set_option maxHeartbeats 2000000 in
theorem w_l11DrawScales (k : Nat) (c : Value) (w : World) (h : Src w k c) :
 Calls Tryz.prog 168 #[.pointer (some ⟨k, 0, none⟩)] w fun e w' => ∃ (v : Value) (l : List Int), e = .returned v ∧ w'.ownsRow w.heap.size 2 1 v l.length (nums l) ∧ l.length ≤ 5 ∧ Drawn w w' k ∧ Src w' k c := by
 have hk := h.lt
 go_enter Tryz.func168, Tryz.ntmps168
 go_wp2
 go_loopw [3, 4] (fun v i wr => ∃ (l : List Int) (m : Nat), i = .int .i64 (m : Nat) ∧ 1 ≤ m ∧ m ≤ 5 ∧ wr.ownsRow w.heap.size 2 1 v l.length (nums l) ∧ l.length ≤ m ∧ Drawn w wr k ∧ Src wr k c) (fun _ i _ => 5 - (intOf i).toNat)
 case atStart =>
  refine ⟨[0], 1, rfl, Nat.le_refl _, by decide, ⟨rfl, .inr ⟨w.heap.size, 1, #[.int .i64 0], rfl, Nat.le_refl _, heap_alloc_new _ _, by decide, by decide, rfl, rfl⟩⟩, by simp, qdh, qsh⟩
 case round =>
  obtain ⟨l, m, rfl, hm1, hm5, hO, hlm, hDr, hSr⟩ := hrel
  have HO := Lib.hid hO
  clear hO
  by_cases hlt : m < 5
  · go_wp2_with fail
    refine (w_l01Next k c 2 _ hSr).mono ?_
    rintro e w1 ⟨x1, rfl, x1a, x1b, hD, hS1⟩
    have HO1 := Lib.hid (hD.owns HO.out (by omega))
    have hD1 := hDr.trans hD
    have hz1 := hD1.size
    clear hD
    by_cases hq : x1 = 0
    · subst hq
      go_wp2_with (at_builtin; refine app1_Int64 rfl (.tmp 13) (.tmp 15) rfl w.heap.size _ l (m : Int) rfl HO1.out (by simp [Act.eval, Array.getD]) (by omega) hz1 ?_; intro v5 w5 ho5 hg5)
      go_roundw
      case rel => exact ⟨l ++ [(m : Int)], m + 1, by go_num, by omega, by omega, ho5, by simp; omega, hD1.own (Nat.le_refl _) HO1.out hg5, hS1.own (base := w.heap.size) (by omega) HO1.out hg5⟩
      case measure => simp [intOf]; omega
    · have hqb : (x1 == 0) = false := by simpa using hq
      go_wp2
      go_roundw
      case rel => exact ⟨l, m + 1, by go_num, by omega, by omega, HO1.out, by omega, hD1, hS1⟩
      case measure => simp [intOf]; omega
  · obtain ⟨av, cv, rfl⟩ := isSl_of HO.out
    go_wp2
    go_ret
    exact ⟨_, l, rfl, HO.out, by omega, hDr, hSr⟩
end Go.Proofs.YtkoojngonldcbaaGreat
