/- DERIVED. Walks: the draws of chains. -/
import Derived.Test.YtkoojngonldcbaaGreatKBM102
import Derived.Test.YtkoojngonldcbaaGreatKBM101
import Derived.Test.YtkoojngonldcbaaGreatKBM33
namespace Go.Proofs.YtkoojngonldcbaaGreat
set_option linter.unusedVariables false
set_option linter.unusedSimpArgs false
open Go.RowKit
set_option maxRecDepth 100000
theorem w_l01From' (c : Value) (bs : List Int) (w : World) (h : IsByts w c bs) (hB : ∀ b ∈ bs, 0 ≤ b ∧ b ≤ 255) (hl : bs.length ≤ 4096) :
 Calls Tryz.prog 61 #[c] w fun e w' => ∃ k, e = .returned (.pointer (some ⟨k, 0, none⟩)) ∧ w.heap.size ≤ k ∧ Later w w' ∧ Src w' k c :=
 (w_l01From c bs w h hB hl).mono fun e w' h => ⟨_, h.1, Nat.le_refl _, h.2.1, h.2.2⟩
theorem w_big (a : Option Addr) (n cap : Nat) (hn : n ≤ 9223372036854775807) (w : World) :
 Calls Tryz.prog 7 #[.slice a n cap] w fun e w' => e = .returned (.bool (decide ((4096 : Int) < (n : Int)))) ∧ w = w' := by
 go_enter Tryz.func7, Tryz.ntmps7
 go_wp2
 go_ret
 exact ⟨rfl, rfl⟩
end Go.Proofs.YtkoojngonldcbaaGreat
namespace Go.Proofs.YtkoojngonldcbaaGreat
set_option linter.unusedVariables false
set_option linter.unusedSimpArgs false
open Go.RowKit
set_option maxRecDepth 100000
set_option maxHeartbeats 2000000 in
theorem w_l13DrawLarge (c : Value) (bs : List Int) (w : World) (h : IsByts w c bs) (hB : ∀ b ∈ bs, 0 ≤ b ∧ b ≤ 255) (hl : bs.length ≤ 4096) :
 Calls Tryz.prog 99 #[c] w fun e w' => ∃ (v : Value) (l : List Trm), e = .returned v ∧ w'.ownsRow w.heap.size 93 3 v l.length (trms l) ∧ l.length ≤ 7 ∧ Later w w' := by
 go_enter Tryz.func99, Tryz.ntmps99
 go_wp2_with fail
 refine (w_l01From' c bs _ h hB hl).mono ?_
 rintro e w1 ⟨k, rfl, hk0, hL1, hS1⟩
 have hk := hS1.lt
 have hD1 : Drawn w w1 k := Drawn.later (by repeat (with_reducible first | exact grown_refl _ _ | refine Drawn.alloc ?_ _)) hL1
 have hz1 := hD1.size
 clear hL1
 go_wp2_with fail
 refine (w_l13Draw k c _ qsh).mono ?_
 rintro e w2 ⟨vr, l, rfl, hO, hl7, hD, hS2⟩
 have hz2 : w1.heap.size ≤ w2.heap.size := Nat.le_trans (by simp) hD.size
 have hD2 : Drawn w w2 k := Drawn.trans qdh hD
 clear hD
 obtain ⟨ar, capr, rfl⟩ := isSl_of hO
 have HOr_2 := Lib.hid (owns_base (base' := w1.heap.size) hO (by first | omega | (have := hD2.size; have := hD1.size; simp at *; omega)))
 clear hO
 go_wp2_with fail
 refine (w_l01Next k c 8 _ qsh).mono ?_
 rintro e w3 ⟨x3, rfl, x3a, x3b, hD, hS3⟩
 have hz3 : w2.heap.size ≤ w3.heap.size := Nat.le_trans (by simp) hD.size
 have hD3 : Drawn w w3 k := Drawn.trans qdh hD
 have HOr_3 := Lib.hid (hD.owns (qoh HOr_2) (by omega))
 clear hD
 by_cases hq : x3 = 0
 rotate_left
 · have hqb : (x3 == 0) = false := by simpa using hq
   go_wp2
   go_ret
   exact ⟨_, l, rfl, owns_base HOr_3.out (by omega), hl7, (Later.refl w).drawn hk0 hD3⟩
 · subst hq
   obtain ⟨n, hn⟩ : ∃ n, l.length = n := ⟨_, rfl⟩
   have HN := Lib.hid hn
   rw [hn] at HOr_3 hl7 ⊢
   clear hn HOr_2
   go_wp2
   go_loopw [5] (fun i wr => ∃ (j : Nat) (m : List Trm), i = .int .i64 (j : Nat) ∧ m.length = n ∧ j ≤ n ∧ wr.ownsRow w1.heap.size 93 3 (.slice ar n capr) n (trms m) ∧ Drawn w wr k ∧ Src wr k c) (fun i _ => n - (intOf i).toNat)
   case atStart => exact ⟨0, l, rfl, HN.out, Nat.zero_le _, HOr_3.out, hD3, hS3⟩
   case round =>
    obtain ⟨j, m, rfl, hm, hj, hO, hDr, hSr⟩ := hrel
    have HM := Lib.hid hm
    have HO := Lib.hid hO
    have hzr := hDr.size
    clear hm hO HOr_3
    by_cases hlt : j < n
    · rcases own_shape HO.out with ⟨_, hq, _⟩ | ⟨g, cap, hs, hg0, hg1, _, _⟩
      · omega
      cases hs
      obtain ⟨t, ht⟩ := get_ex (l := m) (k := j) (by have := HM.out; omega)
      obtain ⟨e0, e1, e2⟩ := own_trm HO.out ht
      have HT := Lib.hid ht
      clear ht
      cases hdv : t.dv
      · rw [hdv] at e2
        go_wp2_with fail
        refine (w_l01Next k c 12 _ hSr).mono ?_
        rintro e w4 ⟨x4, rfl, x4a, x4b, hD, hS4⟩
        have HO4 := Lib.hid (hD.owns HO.out (by omega))
        have hD4 := hDr.trans hD
        clear hD e0 e1 e2
        obtain ⟨e0, e1, e2⟩ := own_trm HO4.out HT.out
        have fz := fun j => HO4.out.frozenAt j
        have HS := Lib.hid (own_setTens HO4.out HT.out (12 + x4))
        have hg4 : g < w4.heap.size := by rcases own_shape HO4.out with ⟨h1, _⟩ | ⟨_, _, h1, _, h2, _⟩ <;> cases h1; exact h2
        go_wp2
        go_roundw
        case rel => exact ⟨j + 1, m.set j ⟨⟨t.f.d, 12 + x4⟩, t.dv⟩, by go_num, by rw [List.length_set]; exact HM.out, by omega, HS.out, hD4.setCell (by omega) _ _, hS4.setCell (by omega) _ _⟩
        case measure => simp [intOf]; omega
      · rw [hdv] at e2
        go_wp2
        go_roundw
        case rel => exact ⟨j + 1, m, by go_num, HM.out, by omega, HO.out, hDr, hSr⟩
        case measure => simp [intOf]; omega
    · go_wp2
      go_ret
      exact ⟨_, m, rfl, by rw [HM.out]; exact owns_base HO.out (by omega), by rw [HM.out]; exact hl7, (Later.refl w).drawn hk0 hDr⟩
end Go.Proofs.YtkoojngonldcbaaGreat
namespace Go.Proofs.YtkoojngonldcbaaGreat
set_option linter.unusedVariables false
set_option linter.unusedSimpArgs false
open Go.RowKit
set_option maxRecDepth 100000
set_option maxHeartbeats 1000000 in
theorem w_l05DrawScale (k : Nat) (c : Value) (w : World) (h : Src w k c) :
 Calls Tryz.prog 170 #[.pointer (some ⟨k, 0, none⟩)] w fun e w' => ∃ x : Int, e = .returned (.int .i64 x) ∧ Drawn w w' k ∧ Src w' k c := by
 have hk := h.lt
 go_enter Tryz.func170, Tryz.ntmps170
 go_wp2_with fail
 refine (w_l01Next k c 6 _ qsh).mono ?_
 rintro e w1 ⟨x1, rfl, x1a, x1b, hD, hS1⟩
 have hz1 : w.heap.size ≤ w1.heap.size := qsz hD.size
 have hD1 : Drawn w w1 k := Drawn.trans qdh hD
 clear hD
 go_wp2_with fail
 refine (w_l01Next k c 30 _ qsh).mono ?_
 rintro e w2 ⟨x2, rfl, x2a, x2b, hD, hS2⟩
 have hz2 : w1.heap.size ≤ w2.heap.size := qsz hD.size
 have hD2 : Drawn w w2 k := Drawn.trans qdh hD
 clear hD
 go_wp2_with fail
 refine (w_l01Next k c 30 _ qsh).mono ?_
 rintro e w3 ⟨x3, rfl, x3a, x3b, hD, hS3⟩
 have hz3 : w2.heap.size ≤ w3.heap.size := qsz hD.size
 have hD3 : Drawn w w3 k := Drawn.trans qdh hD
 clear hD
 go_wp2
 go_ret
 exact ⟨x1 + x2 / 29 - x3 / 29, rfl, qdh, qsh⟩
set_option maxHeartbeats 1000000 in
theorem w_l05DrawLength (k : Nat) (c : Value) (w : World) (h : Src w k c) :
 Calls Tryz.prog 169 #[.pointer (some ⟨k, 0, none⟩)] w fun e w' => ∃ x : Int, e = .returned (.int .i64 x) ∧ Drawn w w' k ∧ Src w' k c := by
 have hk := h.lt
 go_enter Tryz.func169, Tryz.ntmps169
 go_wp2_with fail
 refine (w_l01Next k c 30000 _ qsh).mono ?_
 rintro e w1 ⟨x1, rfl, x1a, x1b, hD, hS1⟩
 have hz1 : w.heap.size ≤ w1.heap.size := qsz hD.size
 have hD1 : Drawn w w1 k := Drawn.trans qdh hD
 clear hD
 go_wp2_with fail
 refine (w_l01Pick k c _ [25000, 12500, 1 + x1, 25000, 1, 100000, 100001, 0] _ qsh (reads_new' _ _ [25000, 12500, 1 + x1, 25000, 1, 100000, 100001, 0] (by simp) (by first | rfl | (simp; done))) (by simp) (allIn_new (by omega))).mono ?_
 rintro e w2 ⟨x2, rfl, x2m, hD, hS2⟩
 have hz2 : w1.heap.size ≤ w2.heap.size := qsz hD.size
 have hD2 : Drawn w w2 k := Drawn.trans qdh hD
 clear hD
 go_wp2
 go_ret
 exact ⟨x2, rfl, qdh, qsh⟩
set_option maxHeartbeats 2000000 in
theorem w_l11DrawScales (k : Nat) (c : Value) (w : World) (h : Src w k c) :
 Calls Tryz.prog 168 #[.pointer (some ⟨k, 0, none⟩)] w fun e w' => ∃ (v : Value) (l : List Int), e = .returned v ∧ w'.ownsRow w.heap.size 2 1 v l.length (nums l) ∧ l.length ≤ 5 ∧ Drawn w w' k ∧ Src w' k c := by
 have hk := h.lt
 go_enter Tryz.func168, Tryz.ntmps168
 go_wp2
 go_loopw [3, 4] (fun v i wr => ∃ (l : List Int) (m : Nat), i = .int .i64 (m : Nat) ∧ 1 ≤ m ∧ m ≤ 5 ∧ wr.ownsRow w.heap.size 2 1 v l.length (nums l) ∧ l.length ≤ m ∧ Drawn w wr k ∧ Src wr k c) (fun _ i _ => 5 - (intOf i).toNat)
 case atStart =>
  refine ⟨[0], 1, rfl, Nat.le_refl _, by decide, ⟨rfl, .inr ⟨w.heap.size, 1, #[.int .i64 0], rfl, Nat.le_refl _, heap_alloc_new _ _, by decide, by decide, rfl, rfl⟩⟩, by simp, qdh, qsh⟩
 case round =>
  obtain ⟨l, m, rfl, hm1, hm5, hO, hlm, hDr, hSr⟩ := hrel
  have HO := Lib.hid hO
  clear hO
  by_cases hlt : m < 5
  · go_wp2_with fail
    refine (w_l01Next k c 2 _ hSr).mono ?_
    rintro e w1 ⟨x1, rfl, x1a, x1b, hD, hS1⟩
    have HO1 := Lib.hid (hD.owns HO.out (by omega))
    have hD1 := hDr.trans hD
    have hz1 := hD1.size
    clear hD
    by_cases hq : x1 = 0
    · subst hq
      go_wp2_with (at_builtin; refine app1_Int64 rfl (.tmp 13) (.tmp 15) rfl w.heap.size _ l (m : Int) rfl HO1.out (by simp [Act.eval, Array.getD]) (by omega) hz1 ?_; intro v5 w5 ho5 hg5)
      go_roundw
      case rel => exact ⟨l ++ [(m : Int)], m + 1, by go_num, by omega, by omega, ho5, by simp; omega, hD1.own (Nat.le_refl _) HO1.out hg5, hS1.own (base := w.heap.size) (by omega) HO1.out hg5⟩
      case measure => simp [intOf]; omega
    · have hqb : (x1 == 0) = false := by simpa using hq
      go_wp2
      go_roundw
      case rel => exact ⟨l, m + 1, by go_num, by omega, by omega, HO1.out, by omega, hD1, hS1⟩
      case measure => simp [intOf]; omega
  · obtain ⟨av, cv, rfl⟩ := isSl_of HO.out
    go_wp2
    go_ret
    exact ⟨_, l, rfl, HO.out, by omega, hDr, hSr⟩
end Go.Proofs.YtkoojngonldcbaaGreat
