/- DERIVED. Walks: draws of chains with digits, and of two chains. -/
import Derived.Test.YtkoojngonldcbaaM104
namespace Go.Proofs.Ytkoojngonldcbaa
set_option linter.unusedVariables false
set_option linter.unusedSimpArgs false
open Go.RowKit
set_option maxRecDepth 100000

theorem own_trms_take' {w : World} {base n cap : Nat} {e : TypeId} {a : Option Addr} {l : List Trm} (ho : w.ownsRow base e 3 (.slice a n cap) n (trms l)) (hl : l.length = n) {k : Nat} (hk : k ≤ n) (h0 : 0 < k) : w.ownsRow base e 3 (.slice a k cap) (l.take k).length (trms (l.take k)) := by
  have h := own_take ho hk (fun e _ => absurd e (by omega))
  have e1 : (trms l).take (k * 3) = trms (l.take k) := flat_take Trm.cells 3 (fun _ => rfl) l k
  have e2 : (l.take k).length = k := by rw [List.length_take]; omega
  rw [e1] at h
  rw [e2]
  exact h

set_option maxHeartbeats 2000000 in
theorem w_DrawPlaceDigits (c : Value) (bs : List Int) (w : World) (h : IsByts w c bs) (hB : ∀ b ∈ bs, 0 ≤ b ∧ b ≤ 255) (hl : bs.length ≤ 4096) :
    Calls Try.prog 28 #[c] w fun e w' => ∃ (v : Value) (l : List Trm) (g : Int), e = .returned (.tuple #[v, .int .i64 g]) ∧ w'.ownsRow w.heap.size 55 3 v l.length (trms l) ∧ l.length ≤ 7 ∧ Later w w' := by
  go_enter Try.func28, Try.ntmps28
  go_wp2_with fail
  refine (w_l01From' c bs _ h hB hl).mono ?_
  rintro e w1 ⟨k, rfl, hk0, hL1, hS1⟩
  have hk := hS1.lt
  have hD1 : Drawn w w1 k := Drawn.later (by repeat (with_reducible first | exact grown_refl _ _ | refine Drawn.alloc ?_ _)) hL1
  have hz1 := hD1.size
  have hIB : IsByts w1 c bs := h.later hL1
  clear hL1
  go_wp2_with fail
  refine (w_l13DrawLarge c bs _ (hIB.later (by (repeat (with_reducible first | exact Later.refl _ | refine Later.alloc ?_ _ | refine Later.drew ?_ | refine Later.drewN ?_ _ | refine Later.setCell ?_ (by simp; try omega) _ | refine Later.trans ?_ (by assumption))))) hB hl).mono ?_
  rintro e w2 ⟨vr, l, rfl, hO, hl7, hL⟩
  have hz2 : w1.heap.size ≤ w2.heap.size := Nat.le_trans (by first | (simp; done) | (simp; omega)) hL.size
  have hD2 : Drawn w w2 k := Drawn.later (by repeat (with_reducible first | assumption | exact grown_refl _ _ | refine Drawn.alloc ?_ _ | refine Drawn.drew ?_ | refine Drawn.drewN ?_ _ | refine Drawn.setCell ?_ (by first | omega | (simp; omega)) _ _)) hL
  have hS2 : Src w2 k c := Src.later (by repeat (with_reducible first | assumption | refine Src.alloc ?_ _ | refine Src.drew ?_ | refine Src.drewN ?_ _ | refine Src.setCell ?_ (by first | omega | (simp; omega)) _ _)) hL
  clear hL
  obtain ⟨ar, capr, rfl⟩ := isSl_of hO
  have HOr_2 := Lib.hid (owns_base (base' := w1.heap.size) hO (by first | omega | (simp; omega)))
  clear hO
  go_wp2_with fail
  refine (w_l01Next k c 9000 _ (by repeat (with_reducible first | assumption | refine Src.alloc ?_ _ | refine Src.drew ?_ | refine Src.drewN ?_ _ | refine Src.setCell ?_ (by first | omega | (simp; omega)) _ _))).mono ?_
  rintro e w3 ⟨x3, rfl, x3a, x3b, hD, hS3⟩
  have hz3 : w2.heap.size ≤ w3.heap.size := Nat.le_trans (by first | (simp; done) | (simp; omega)) hD.size
  have hD3 : Drawn w w3 k := Drawn.trans (by repeat (with_reducible first | assumption | exact grown_refl _ _ | refine Drawn.alloc ?_ _ | refine Drawn.drew ?_ | refine Drawn.drewN ?_ _ | refine Drawn.setCell ?_ (by first | omega | (simp; omega)) _ _)) hD
  have HOr_3 := Lib.hid (hD.owns (by repeat (with_reducible first | exact HOr_2.out | apply World.ownsRow.alloc | (apply owns_setNe; case hk => first | assumption | exact ne_own HOr_2.out (by first | omega | (simp; omega)) | exact ne_low HOr_2.out (by omega)) | (refine owns_later ?_ (Later.refl _).drew) | (refine owns_later ?_ ((Later.refl _).drewN _)))) (by omega))
  clear hD
  go_wp2_with fail
  refine (w_l01Next k c 9000 _ (by repeat (with_reducible first | assumption | refine Src.alloc ?_ _ | refine Src.drew ?_ | refine Src.drewN ?_ _ | refine Src.setCell ?_ (by first | omega | (simp; omega)) _ _))).mono ?_
  rintro e w4 ⟨x4, rfl, x4a, x4b, hD, hS4⟩
  have hz4 : w3.heap.size ≤ w4.heap.size := Nat.le_trans (by first | (simp; done) | (simp; omega)) hD.size
  have hD4 : Drawn w w4 k := Drawn.trans (by repeat (with_reducible first | assumption | exact grown_refl _ _ | refine Drawn.alloc ?_ _ | refine Drawn.drew ?_ | refine Drawn.drewN ?_ _ | refine Drawn.setCell ?_ (by first | omega | (simp; omega)) _ _)) hD
  have HOr_4 := Lib.hid (hD.owns (by repeat (with_reducible first | exact HOr_3.out | apply World.ownsRow.alloc | (apply owns_setNe; case hk => first | assumption | exact ne_own HOr_3.out (by first | omega | (simp; omega)) | exact ne_low HOr_3.out (by omega)) | (refine owns_later ?_ (Later.refl _).drew) | (refine owns_later ?_ ((Later.refl _).drewN _)))) (by omega))
  clear hD
  go_wp2_with fail
  refine (w_l01Pick k c _ [1000 + x3, 1000 + x4, 1000, 9999, 999, 10000] _ (by repeat (with_reducible first | assumption | refine Src.alloc ?_ _ | refine Src.drew ?_ | refine Src.drewN ?_ _ | refine Src.setCell ?_ (by first | omega | (simp; omega)) _ _)) (reads_new' _ _ [1000 + x3, 1000 + x4, 1000, 9999, 999, 10000] (by simp) (by first | rfl | (simp; done))) (by simp) (allIn_new (by omega))).mono ?_
  rintro e w5 ⟨x5, rfl, x5m, hD, hS5⟩
  have hz5 : w4.heap.size ≤ w5.heap.size := Nat.le_trans (by first | (simp; done) | (simp; omega)) hD.size
  have hD5 : Drawn w w5 k := Drawn.trans (by repeat (with_reducible first | assumption | exact grown_refl _ _ | refine Drawn.alloc ?_ _ | refine Drawn.drew ?_ | refine Drawn.drewN ?_ _ | refine Drawn.setCell ?_ (by first | omega | (simp; omega)) _ _)) hD
  have HOr_5 := Lib.hid (hD.owns (by repeat (with_reducible first | exact HOr_4.out | apply World.ownsRow.alloc | (apply owns_setNe; case hk => first | assumption | exact ne_own HOr_4.out (by first | omega | (simp; omega)) | exact ne_low HOr_4.out (by omega)) | (refine owns_later ?_ (Later.refl _).drew) | (refine owns_later ?_ ((Later.refl _).drewN _)))) (by omega))
  clear hD
  go_wp2
  go_ret2
  exact ⟨_, l, x5, rfl, owns_base HOr_5.out (by omega), hl7, (Later.refl w).drawn hk0 (by repeat (with_reducible first | assumption | exact grown_refl _ _ | refine Drawn.alloc ?_ _ | refine Drawn.drew ?_ | refine Drawn.drewN ?_ _ | refine Drawn.setCell ?_ (by first | omega | (simp; omega)) _ _))⟩

set_option maxHeartbeats 2000000 in
theorem w_DrawJoinChains (c : Value) (bs : List Int) (w : World) (h : IsByts w c bs) (hB : ∀ b ∈ bs, 0 ≤ b ∧ b ≤ 255) (hl : bs.length ≤ 4096) :
    Calls Try.prog 46 #[c] w fun e w' => ∃ (v : Value) (l : List Trm) (v' : Value) (m : List Trm) (dv : Bool), e = .returned (.tuple #[v, v', .bool dv]) ∧ w'.ownsRow w.heap.size 55 3 v l.length (trms l) ∧ l.length ≤ 7 ∧ w'.ownsRow w.heap.size 55 3 v' m.length (trms m) ∧ m.length ≤ 7 ∧ Later w w' := by
  go_enter Try.func46, Try.ntmps46
  go_wp2_with fail
  refine (w_l01From' c bs _ h hB hl).mono ?_
  rintro e w1 ⟨k, rfl, hk0, hL1, hS1⟩
  have hk := hS1.lt
  have hD1 : Drawn w w1 k := Drawn.later (by repeat (with_reducible first | exact grown_refl _ _ | refine Drawn.alloc ?_ _)) hL1
  have hz1 := hD1.size
  clear hL1
  go_wp2_with fail
  refine (w_l13Draw k c _ (by repeat (with_reducible first | assumption | refine Src.alloc ?_ _ | refine Src.drew ?_ | refine Src.drewN ?_ _ | refine Src.setCell ?_ (by first | omega | (simp; omega)) _ _))).mono ?_
  rintro e w2 ⟨vr, l, rfl, hO, hl7, hD, hS2⟩
  have hz2 : w1.heap.size ≤ w2.heap.size := Nat.le_trans (by first | (simp; done) | (simp; omega)) hD.size
  have hD2 : Drawn w w2 k := Drawn.trans (by repeat (with_reducible first | assumption | exact grown_refl _ _ | refine Drawn.alloc ?_ _ | refine Drawn.drew ?_ | refine Drawn.drewN ?_ _ | refine Drawn.setCell ?_ (by first | omega | (simp; omega)) _ _)) hD
  clear hD
  obtain ⟨ar, capr, rfl⟩ := isSl_of hO
  have HOr_2 := Lib.hid (owns_base (base' := w1.heap.size) hO (by first | omega | (have := hD2.size; have := hD1.size; simp at *; omega)))
  clear hO
  go_wp2_with fail
  refine (w_l13Draw k c _ (by repeat (with_reducible first | assumption | refine Src.alloc ?_ _ | refine Src.drew ?_ | refine Src.drewN ?_ _ | refine Src.setCell ?_ (by first | omega | (simp; omega)) _ _))).mono ?_
  rintro e w3 ⟨vu, m, rfl, hO, hm7, hD, hS3⟩
  have hz3 : w2.heap.size ≤ w3.heap.size := Nat.le_trans (by first | (simp; done) | (simp; omega)) hD.size
  have hD3 : Drawn w w3 k := Drawn.trans (by repeat (with_reducible first | assumption | exact grown_refl _ _ | refine Drawn.alloc ?_ _ | refine Drawn.drew ?_ | refine Drawn.drewN ?_ _ | refine Drawn.setCell ?_ (by first | omega | (simp; omega)) _ _)) hD
  have HOr_3 := Lib.hid (hD.owns (by repeat (with_reducible first | exact HOr_2.out | apply World.ownsRow.alloc | (apply owns_setNe; case hk => first | assumption | exact ne_own HOr_2.out (by first | omega | (simp; omega)) | exact ne_low HOr_2.out (by omega)) | (refine owns_later ?_ (Later.refl _).drew) | (refine owns_later ?_ ((Later.refl _).drewN _)))) (by omega))
  clear hD
  obtain ⟨au, capu, rfl⟩ := isSl_of hO
  have HOu_3 := Lib.hid (owns_base (base' := w1.heap.size) hO (by first | omega | (have := hD3.size; have := hD1.size; simp at *; omega)))
  clear hO
  have hcu : m.length ≤ capu := by
    rcases own_shape HOu_3.out with ⟨h1, _, _⟩ | ⟨_, _, h1, _, _, h3, _⟩
    · have e := (Value.slice.inj h1).2
      omega
    · cases h1
      exact h3
  by_cases h2 : 2 < m.length
  · skip
    have h2i : decide ((2 : Int) < (m.length : Int)) = true := by simp; omega
    go_wp2_with fail
    refine (w_l01Next k c 2 _ (by repeat (with_reducible first | assumption | refine Src.alloc ?_ _ | refine Src.drew ?_ | refine Src.drewN ?_ _ | refine Src.setCell ?_ (by first | omega | (simp; omega)) _ _))).mono ?_
    rintro e w4 ⟨x4, rfl, x4a, x4b, hD, hS4⟩
    have hz4 : w3.heap.size ≤ w4.heap.size := Nat.le_trans (by first | (simp; done) | (simp; omega)) hD.size
    have hD4 : Drawn w w4 k := Drawn.trans (by repeat (with_reducible first | assumption | exact grown_refl _ _ | refine Drawn.alloc ?_ _ | refine Drawn.drew ?_ | refine Drawn.drewN ?_ _ | refine Drawn.setCell ?_ (by first | omega | (simp; omega)) _ _)) hD
    have HOr_4 := Lib.hid (hD.owns (by repeat (with_reducible first | exact HOr_3.out | apply World.ownsRow.alloc | (apply owns_setNe; case hk => first | assumption | exact ne_own HOr_3.out (by first | omega | (simp; omega)) | exact ne_low HOr_3.out (by omega)) | (refine owns_later ?_ (Later.refl _).drew) | (refine owns_later ?_ ((Later.refl _).drewN _)))) (by omega))
    have HOu_4 := Lib.hid (hD.owns (by repeat (with_reducible first | exact HOu_3.out | apply World.ownsRow.alloc | (apply owns_setNe; case hk => first | assumption | exact ne_own HOu_3.out (by first | omega | (simp; omega)) | exact ne_low HOu_3.out (by omega)) | (refine owns_later ?_ (Later.refl _).drew) | (refine owns_later ?_ ((Later.refl _).drewN _)))) (by omega))
    clear hD
    by_cases hq : x4 = 0
    · skip
      subst hq
      have HT := Lib.hid (own_trms_take' HOu_4.out rfl (k := 2) (by omega) (by decide))
      have hle : ((2 : Int) ≤ (capu : Int)) = True := by simp; omega
      have HOt_4 := HT
      go_wp2_with fail
      refine (w_l01Next k c 2 _ (by repeat (with_reducible first | assumption | refine Src.alloc ?_ _ | refine Src.drew ?_ | refine Src.drewN ?_ _ | refine Src.setCell ?_ (by first | omega | (simp; omega)) _ _))).mono ?_
      rintro e w5 ⟨x5, rfl, x5a, x5b, hD, hS5⟩
      have hz5 : w4.heap.size ≤ w5.heap.size := Nat.le_trans (by first | (simp; done) | (simp; omega)) hD.size
      have hD5 : Drawn w w5 k := Drawn.trans (by repeat (with_reducible first | assumption | exact grown_refl _ _ | refine Drawn.alloc ?_ _ | refine Drawn.drew ?_ | refine Drawn.drewN ?_ _ | refine Drawn.setCell ?_ (by first | omega | (simp; omega)) _ _)) hD
      have HOr_5 := Lib.hid (hD.owns (by repeat (with_reducible first | exact HOr_4.out | apply World.ownsRow.alloc | (apply owns_setNe; case hk => first | assumption | exact ne_own HOr_4.out (by first | omega | (simp; omega)) | exact ne_low HOr_4.out (by omega)) | (refine owns_later ?_ (Later.refl _).drew) | (refine owns_later ?_ ((Later.refl _).drewN _)))) (by omega))
      have HOt_5 := Lib.hid (hD.owns (by repeat (with_reducible first | exact HOt_4.out | apply World.ownsRow.alloc | (apply owns_setNe; case hk => first | assumption | exact ne_own HOt_4.out (by first | omega | (simp; omega)) | exact ne_low HOt_4.out (by omega)) | (refine owns_later ?_ (Later.refl _).drew) | (refine owns_later ?_ ((Later.refl _).drewN _)))) (by omega))
      clear hD
      go_wp2
      go_ret3
      exact ⟨_, l, _, m.take 2, (x5 == 0), rfl, owns_base HOr_5.out (by omega), hl7, owns_base HOt_5.out (by omega), (by rw [List.length_take]; omega), (Later.refl w).drawn hk0 (by repeat (with_reducible first | assumption | exact grown_refl _ _ | refine Drawn.alloc ?_ _ | refine Drawn.drew ?_ | refine Drawn.drewN ?_ _ | refine Drawn.setCell ?_ (by first | omega | (simp; omega)) _ _))⟩
    · skip
      have hqb : (x4 == 0) = false := by simpa using hq
      go_wp2_with fail
      refine (w_l01Next k c 2 _ (by repeat (with_reducible first | assumption | refine Src.alloc ?_ _ | refine Src.drew ?_ | refine Src.drewN ?_ _ | refine Src.setCell ?_ (by first | omega | (simp; omega)) _ _))).mono ?_
      rintro e w5 ⟨x5, rfl, x5a, x5b, hD, hS5⟩
      have hz5 : w4.heap.size ≤ w5.heap.size := Nat.le_trans (by first | (simp; done) | (simp; omega)) hD.size
      have hD5 : Drawn w w5 k := Drawn.trans (by repeat (with_reducible first | assumption | exact grown_refl _ _ | refine Drawn.alloc ?_ _ | refine Drawn.drew ?_ | refine Drawn.drewN ?_ _ | refine Drawn.setCell ?_ (by first | omega | (simp; omega)) _ _)) hD
      have HOr_5 := Lib.hid (hD.owns (by repeat (with_reducible first | exact HOr_4.out | apply World.ownsRow.alloc | (apply owns_setNe; case hk => first | assumption | exact ne_own HOr_4.out (by first | omega | (simp; omega)) | exact ne_low HOr_4.out (by omega)) | (refine owns_later ?_ (Later.refl _).drew) | (refine owns_later ?_ ((Later.refl _).drewN _)))) (by omega))
      have HOu_5 := Lib.hid (hD.owns (by repeat (with_reducible first | exact HOu_4.out | apply World.ownsRow.alloc | (apply owns_setNe; case hk => first | assumption | exact ne_own HOu_4.out (by first | omega | (simp; omega)) | exact ne_low HOu_4.out (by omega)) | (refine owns_later ?_ (Later.refl _).drew) | (refine owns_later ?_ ((Later.refl _).drewN _)))) (by omega))
      clear hD
      go_wp2
      go_ret3
      exact ⟨_, l, _, m, (x5 == 0), rfl, owns_base HOr_5.out (by omega), hl7, owns_base HOu_5.out (by omega), hm7, (Later.refl w).drawn hk0 (by repeat (with_reducible first | assumption | exact grown_refl _ _ | refine Drawn.alloc ?_ _ | refine Drawn.drew ?_ | refine Drawn.drewN ?_ _ | refine Drawn.setCell ?_ (by first | omega | (simp; omega)) _ _))⟩
  · skip
    have h2i : decide ((2 : Int) < (m.length : Int)) = false := by simp; omega
    go_wp2_with fail
    refine (w_l01Next k c 2 _ (by repeat (with_reducible first | assumption | refine Src.alloc ?_ _ | refine Src.drew ?_ | refine Src.drewN ?_ _ | refine Src.setCell ?_ (by first | omega | (simp; omega)) _ _))).mono ?_
    rintro e w4 ⟨x4, rfl, x4a, x4b, hD, hS4⟩
    have hz4 : w3.heap.size ≤ w4.heap.size := Nat.le_trans (by first | (simp; done) | (simp; omega)) hD.size
    have hD4 : Drawn w w4 k := Drawn.trans (by repeat (with_reducible first | assumption | exact grown_refl _ _ | refine Drawn.alloc ?_ _ | refine Drawn.drew ?_ | refine Drawn.drewN ?_ _ | refine Drawn.setCell ?_ (by first | omega | (simp; omega)) _ _)) hD
    have HOr_4 := Lib.hid (hD.owns (by repeat (with_reducible first | exact HOr_3.out | apply World.ownsRow.alloc | (apply owns_setNe; case hk => first | assumption | exact ne_own HOr_3.out (by first | omega | (simp; omega)) | exact ne_low HOr_3.out (by omega)) | (refine owns_later ?_ (Later.refl _).drew) | (refine owns_later ?_ ((Later.refl _).drewN _)))) (by omega))
    have HOu_4 := Lib.hid (hD.owns (by repeat (with_reducible first | exact HOu_3.out | apply World.ownsRow.alloc | (apply owns_setNe; case hk => first | assumption | exact ne_own HOu_3.out (by first | omega | (simp; omega)) | exact ne_low HOu_3.out (by omega)) | (refine owns_later ?_ (Later.refl _).drew) | (refine owns_later ?_ ((Later.refl _).drewN _)))) (by omega))
    clear hD
    go_wp2
    go_ret3
    exact ⟨_, l, _, m, (x4 == 0), rfl, owns_base HOr_4.out (by omega), hl7, owns_base HOu_4.out (by omega), hm7, (Later.refl w).drawn hk0 (by repeat (with_reducible first | assumption | exact grown_refl _ _ | refine Drawn.alloc ?_ _ | refine Drawn.drew ?_ | refine Drawn.drewN ?_ _ | refine Drawn.setCell ?_ (by first | omega | (simp; omega)) _ _))⟩

end Go.Proofs.Ytkoojngonldcbaa
