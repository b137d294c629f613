/- DERIVED. Walks: draws of chains, some with large values. -/
import Derived.Test.YtkoojngonldcbaaM103
namespace Go.Proofs.Ytkoojngonldcbaa
set_option linter.unusedVariables false
set_option linter.unusedSimpArgs false
open Go.RowKit
set_option maxRecDepth 100000

set_option maxHeartbeats 2000000 in
theorem w_l13DrawLarge (c : Value) (bs : List Int) (w : World) (h : IsByts w c bs) (hB : ∀ b ∈ bs, 0 ≤ b ∧ b ≤ 255) (hl : bs.length ≤ 4096) :
    Calls Try.prog 91 #[c] w fun e w' => ∃ (v : Value) (l : List Trm), e = .returned v ∧ w'.ownsRow w.heap.size 55 3 v l.length (trms l) ∧ l.length ≤ 7 ∧ Later w w' := by
  go_enter Try.func91, Try.ntmps91
  go_wp2_with fail
  refine (w_l01From' c bs _ h hB hl).mono ?_
  rintro e w1 ⟨k, rfl, hk0, hL1, hS1⟩
  have hk := hS1.lt
  have hD1 : Drawn w w1 k := Drawn.later (by repeat (with_reducible first | exact grown_refl _ _ | refine Drawn.alloc ?_ _)) hL1
  have hz1 := hD1.size
  clear hL1
  go_wp2_with fail
  refine (w_l13Draw k c _ (by repeat (with_reducible first | assumption | refine Src.alloc ?_ _ | refine Src.drew ?_ | refine Src.drewN ?_ _ | refine Src.setCell ?_ (by first | omega | (simp; omega)) _ _))).mono ?_
  rintro e w2 ⟨vr, l, rfl, hO, hl7, hD, hS2⟩
  have hz2 : w1.heap.size ≤ w2.heap.size := Nat.le_trans (by simp) hD.size
  have hD2 : Drawn w w2 k := Drawn.trans (by repeat (with_reducible first | assumption | exact grown_refl _ _ | refine Drawn.alloc ?_ _ | refine Drawn.drew ?_ | refine Drawn.drewN ?_ _ | refine Drawn.setCell ?_ (by first | omega | (simp; omega)) _ _)) hD
  clear hD
  obtain ⟨ar, capr, rfl⟩ := isSl_of hO
  have HOr_2 := Lib.hid (owns_base (base' := w1.heap.size) hO (by first | omega | (have := hD2.size; have := hD1.size; simp at *; omega)))
  clear hO
  go_wp2_with fail
  refine (w_l01Next k c 8 _ (by repeat (with_reducible first | assumption | refine Src.alloc ?_ _ | refine Src.drew ?_ | refine Src.drewN ?_ _ | refine Src.setCell ?_ (by first | omega | (simp; omega)) _ _))).mono ?_
  rintro e w3 ⟨x3, rfl, x3a, x3b, hD, hS3⟩
  have hz3 : w2.heap.size ≤ w3.heap.size := Nat.le_trans (by simp) hD.size
  have hD3 : Drawn w w3 k := Drawn.trans (by repeat (with_reducible first | assumption | exact grown_refl _ _ | refine Drawn.alloc ?_ _ | refine Drawn.drew ?_ | refine Drawn.drewN ?_ _ | refine Drawn.setCell ?_ (by first | omega | (simp; omega)) _ _)) hD
  have HOr_3 := Lib.hid (hD.owns (by repeat (with_reducible first | exact HOr_2.out | apply World.ownsRow.alloc | (apply owns_setNe; case hk => first | assumption | exact ne_own HOr_2.out (by first | omega | (simp; omega)) | exact ne_low HOr_2.out (by omega)) | (refine owns_later ?_ (Later.refl _).drew) | (refine owns_later ?_ ((Later.refl _).drewN _)))) (by omega))
  clear hD
  by_cases hq : x3 = 0
  rotate_left
  · have hqb : (x3 == 0) = false := by simpa using hq
    go_wp2
    go_ret
    exact ⟨_, l, rfl, owns_base HOr_3.out (by omega), hl7, (Later.refl w).drawn hk0 hD3⟩
  · subst hq
    obtain ⟨n, hn⟩ : ∃ n, l.length = n := ⟨_, rfl⟩
    have HN := Lib.hid hn
    rw [hn] at HOr_3 hl7 ⊢
    clear hn HOr_2
    go_wp2
    go_loopw [5] (fun i wr => ∃ (j : Nat) (m : List Trm), i = .int .i64 (j : Nat) ∧ m.length = n ∧ j ≤ n ∧ wr.ownsRow w1.heap.size 55 3 (.slice ar n capr) n (trms m) ∧ Drawn w wr k ∧ Src wr k c) (fun i _ => n - (intOf i).toNat)
    case atStart => exact ⟨0, l, rfl, HN.out, Nat.zero_le _, HOr_3.out, hD3, hS3⟩
    case round =>
      obtain ⟨j, m, rfl, hm, hj, hO, hDr, hSr⟩ := hrel
      have HM := Lib.hid hm
      have HO := Lib.hid hO
      have hzr := hDr.size
      clear hm hO HOr_3
      by_cases hlt : j < n
      · rcases own_shape HO.out with ⟨_, hq, _⟩ | ⟨g, cap, hs, hg0, hg1, _, _⟩
        · omega
        cases hs
        obtain ⟨t, ht⟩ := get_ex (l := m) (k := j) (by have := HM.out; omega)
        obtain ⟨e0, e1, e2⟩ := own_trm HO.out ht
        have HT := Lib.hid ht
        clear ht
        cases hdv : t.dv
        · rw [hdv] at e2
          go_wp2_with fail
          refine (w_l01Next k c 12 _ hSr).mono ?_
          rintro e w4 ⟨x4, rfl, x4a, x4b, hD, hS4⟩
          have HO4 := Lib.hid (hD.owns HO.out (by omega))
          have hD4 := hDr.trans hD
          clear hD e0 e1 e2
          obtain ⟨e0, e1, e2⟩ := own_trm HO4.out HT.out
          have fz := fun j => HO4.out.frozenAt j
          have HS := Lib.hid (own_setTens HO4.out HT.out (12 + x4))
          have hg4 : g < w4.heap.size := by rcases own_shape HO4.out with ⟨h1, _⟩ | ⟨_, _, h1, _, h2, _⟩ <;> cases h1; exact h2
          go_wp2
          go_roundw
          case rel => exact ⟨j + 1, m.set j ⟨⟨t.f.d, 12 + x4⟩, t.dv⟩, by go_num, by rw [List.length_set]; exact HM.out, by omega, HS.out, hD4.setCell (by omega) _ _, hS4.setCell (by omega) _ _⟩
          case measure => simp [intOf]; omega
        · rw [hdv] at e2
          go_wp2
          go_roundw
          case rel => exact ⟨j + 1, m, by go_num, HM.out, by omega, HO.out, hDr, hSr⟩
          case measure => simp [intOf]; omega
      · go_wp2
        go_ret
        exact ⟨_, m, rfl, by rw [HM.out]; exact owns_base HO.out (by omega), by rw [HM.out]; exact hl7, (Later.refl w).drawn hk0 hDr⟩


theorem w_DrawTensOf (c : Value) (bs : List Int) (w : World) (h : IsByts w c bs) (hB : ∀ b ∈ bs, 0 ≤ b ∧ b ≤ 255) (hl : bs.length ≤ 4096) :
    Calls Try.prog 21 #[c] w fun e w' => ∃ (v : Value) (l : List Trm), e = .returned v ∧ w'.ownsRow w.heap.size 55 3 v l.length (trms l) ∧ l.length ≤ 7 ∧ Later w w' := by
  go_enter Try.func21, Try.ntmps21
  go_wp2_with fail
  refine (w_l13DrawLarge c bs _ h hB hl).mono ?_
  rintro e w1 ⟨v, l, rfl, hO, h7, hL⟩
  obtain ⟨av, cv, rfl⟩ := isSl_of hO
  have HO := Lib.hid hO
  clear hO
  go_wp2
  go_ret
  exact ⟨_, l, rfl, HO.out, h7, hL⟩

theorem w_DrawRoughChain (c : Value) (bs : List Int) (w : World) (h : IsByts w c bs) (hB : ∀ b ∈ bs, 0 ≤ b ∧ b ≤ 255) (hl : bs.length ≤ 4096) :
    Calls Try.prog 33 #[c] w fun e w' => ∃ (v : Value) (l : List Trm), e = .returned v ∧ w'.ownsRow w.heap.size 55 3 v l.length (trms l) ∧ l.length ≤ 7 ∧ Later w w' := by
  go_enter Try.func33, Try.ntmps33
  go_wp2_with fail
  refine (w_l13DrawLarge c bs _ h hB hl).mono ?_
  rintro e w1 ⟨v, l, rfl, hO, h7, hL⟩
  obtain ⟨av, cv, rfl⟩ := isSl_of hO
  have HO := Lib.hid hO
  clear hO
  go_wp2
  go_ret
  exact ⟨_, l, rfl, HO.out, h7, hL⟩

theorem w_DrawChainSpan (c : Value) (bs : List Int) (w : World) (h : IsByts w c bs) (hB : ∀ b ∈ bs, 0 ≤ b ∧ b ≤ 255) (hl : bs.length ≤ 4096) :
    Calls Try.prog 42 #[c] w fun e w' => ∃ (v : Value) (l : List Trm), e = .returned v ∧ w'.ownsRow w.heap.size 55 3 v l.length (trms l) ∧ l.length ≤ 7 ∧ Later w w' := by
  go_enter Try.func42, Try.ntmps42
  go_wp2_with fail
  refine (w_l13DrawLarge c bs _ h hB hl).mono ?_
  rintro e w1 ⟨v, l, rfl, hO, h7, hL⟩
  obtain ⟨av, cv, rfl⟩ := isSl_of hO
  have HO := Lib.hid hO
  clear hO
  go_wp2
  go_ret
  exact ⟨_, l, rfl, HO.out, h7, hL⟩

end Go.Proofs.Ytkoojngonldcbaa
