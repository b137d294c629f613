/- DERIVED. Walks: a drawn text of a chain. -/
import Derived.Test.YtgngbdacejghcaaDoorD4
import Derived.Test.YtgngbdacejghcaaDoorD34
import Derived.Test.YtgngbdacejghcaaDoorM103
namespace Go.Proofs.YtgngbdacejghcaaDoor
set_option linter.unusedVariables false
set_option linter.unusedSimpArgs false
open Go.RowKit
set_option maxRecDepth 100000
set_option linter.unusedVariables false

theorem chR_lenR : ∀ {l : List Trm}, (∀ t ∈ l, okTrm t = true) → (chR l).length ≤ 43 * l.length
  | [], _ => by simp [chR]
  | t :: r, h => by
    have ih := chR_lenR (l := r) (fun u hu => h u (List.mem_cons_of_mem _ hu))
    obtain ⟨f1, f2, f3, f4⟩ := isFig_true (h t (by simp))
    have := figT_len (f := t.f) (by omega) (by omega) (by omega) (by omega)
    simp [chR]
    omega
theorem chT_lenR {l : List Trm} (h : isChain l = true) : (chT l).length ≤ 300 := by
  obtain ⟨h1, h2, h3, h4⟩ := isChain_true h
  cases l with
  | nil => simp [chT]
  | cons t r =>
    have ih := chR_lenR (l := r) (fun u hu => h4 u (List.mem_cons_of_mem _ hu))
    obtain ⟨f1, f2, f3, f4⟩ := isFig_true (h4 t (by simp))
    have := figT_len (f := t.f) (by omega) (by omega) (by omega) (by omega)
    simp [chT] at h2 ⊢
    omega

set_option maxHeartbeats 4000000 in
theorem w_DrawReadChain (c : Value) (bs : List Int) (w : World) (h : IsByts w c bs) (hB : ∀ b ∈ bs, 0 ≤ b ∧ b ≤ 255) (hl : bs.length ≤ 4096) :
    Calls Tryd.prog 34 #[c] w fun e w' => ∃ t : List UInt8, e = .returned (sv t) ∧ t.length ≤ 400 ∧ Later w w' := by
  go_enter Tryd.func34, Tryd.ntmps34
  go_wp2_with fail
  refine (w_l01From' c bs _ h hB hl).mono ?_
  rintro e w1 ⟨k, rfl, hk0, hL1, hS1⟩
  have hk := hS1.lt
  have hD1 : Drawn w w1 k := Drawn.later (by repeat (with_reducible first | exact grown_refl _ _ | refine Drawn.alloc ?_ _)) hL1
  have hz1 := hD1.size
  clear hL1
  go_wp2_with fail
  refine (w_l13Valid k c _ (by repeat (with_reducible first | assumption | refine Src.alloc ?_ _ | refine Src.drew ?_ | refine Src.drewN ?_ _ | refine Src.setCell ?_ (by first | omega | (simp; omega)) _ _))).mono ?_
  rintro e w2 ⟨vr, l, rfl, hO, hic, hl5, hD, hS2⟩
  have hz2 : w1.heap.size ≤ w2.heap.size := Nat.le_trans (by first | (simp; done) | (simp; omega)) hD.size
  have hD2 : Drawn w w2 k := Drawn.trans (by repeat (with_reducible first | assumption | exact grown_refl _ _ | refine Drawn.alloc ?_ _ | refine Drawn.drew ?_ | refine Drawn.drewN ?_ _ | refine Drawn.setCell ?_ (by first | omega | (simp; omega)) _ _)) hD
  clear hD
  have HIC := Lib.hid hic
  clear hic
  have HOr_2 := Lib.hid (owns_base (base' := w1.heap.size) hO (by omega))
  clear hO
  go_wp2_with fail
  refine (w_l13Text _ l _ (reads_of_owns (by repeat (with_reducible first | exact HOr_2.out | apply World.ownsRow.alloc | (apply owns_setNe; case hk => first | assumption | exact ne_own HOr_2.out (by first | omega | (simp; omega)) | exact ne_low HOr_2.out (by omega)) | (refine owns_later ?_ (Later.refl _).drew) | (refine owns_later ?_ ((Later.refl _).drewN _)))) (by omega)) HIC.out).mono ?_
  rintro e w3 ⟨rfl, hL⟩
  have hz3 : w2.heap.size ≤ w3.heap.size := Nat.le_trans (by first | (simp; done) | (simp; omega)) hL.size
  have hD3 : Drawn w w3 k := Drawn.later (by repeat (with_reducible first | assumption | exact grown_refl _ _ | refine Drawn.alloc ?_ _ | refine Drawn.drew ?_ | refine Drawn.drewN ?_ _ | refine Drawn.setCell ?_ (by first | omega | (simp; omega)) _ _)) hL
  have hS3 : Src w3 k c := Src.later (by repeat (with_reducible first | assumption | refine Src.alloc ?_ _ | refine Src.drew ?_ | refine Src.drewN ?_ _ | refine Src.setCell ?_ (by first | omega | (simp; omega)) _ _)) hL
  have HOr_3 := Lib.hid (owns_later (by repeat (with_reducible first | exact HOr_2.out | apply World.ownsRow.alloc | (apply owns_setNe; case hk => first | assumption | exact ne_own HOr_2.out (by first | omega | (simp; omega)) | exact ne_low HOr_2.out (by omega)) | (refine owns_later ?_ (Later.refl _).drew) | (refine owns_later ?_ ((Later.refl _).drewN _)))) hL)
  clear hL
  obtain ⟨t, hT⟩ : ∃ t, chT l = t := ⟨_, rfl⟩
  have ht := chT_lenR HIC.out
  rw [hT] at ht ⊢
  clear hT
  go_wp2_with fail
  refine (w_l01Next k c 3 _ (by repeat (with_reducible first | assumption | refine Src.alloc ?_ _ | refine Src.drew ?_ | refine Src.drewN ?_ _ | refine Src.setCell ?_ (by first | omega | (simp; omega)) _ _))).mono ?_
  rintro e w4 ⟨x4, rfl, x4a, x4b, hD, hS4⟩
  have hz4 : w3.heap.size ≤ w4.heap.size := Nat.le_trans (by first | (simp; done) | (simp; omega)) hD.size
  have hD4 : Drawn w w4 k := Drawn.trans (by repeat (with_reducible first | assumption | exact grown_refl _ _ | refine Drawn.alloc ?_ _ | refine Drawn.drew ?_ | refine Drawn.drewN ?_ _ | refine Drawn.setCell ?_ (by first | omega | (simp; omega)) _ _)) hD
  have HOr_4 := Lib.hid (hD.owns (by repeat (with_reducible first | exact HOr_3.out | apply World.ownsRow.alloc | (apply owns_setNe; case hk => first | assumption | exact ne_own HOr_3.out (by first | omega | (simp; omega)) | exact ne_low HOr_3.out (by omega)) | (refine owns_later ?_ (Later.refl _).drew) | (refine owns_later ?_ ((Later.refl _).drewN _)))) (by omega))
  clear hD
  by_cases hq : x4 = 0
  · skip
    subst hq
    go_wp2_with fail
    refine (w_l01Damage k c t (by omega) _ (by repeat (with_reducible first | assumption | refine Src.alloc ?_ _ | refine Src.drew ?_ | refine Src.drewN ?_ _ | refine Src.setCell ?_ (by first | omega | (simp; omega)) _ _))).mono ?_
    rintro e w5 ⟨tt, rfl, htl, hD, hS5⟩
    have hz5 : w4.heap.size ≤ w5.heap.size := Nat.le_trans (by first | (simp; done) | (simp; omega)) hD.size
    have hD5 : Drawn w w5 k := Drawn.trans (by repeat (with_reducible first | assumption | exact grown_refl _ _ | refine Drawn.alloc ?_ _ | refine Drawn.drew ?_ | refine Drawn.drewN ?_ _ | refine Drawn.setCell ?_ (by first | omega | (simp; omega)) _ _)) hD
    have HOr_5 := Lib.hid (hD.owns (by repeat (with_reducible first | exact HOr_4.out | apply World.ownsRow.alloc | (apply owns_setNe; case hk => first | assumption | exact ne_own HOr_4.out (by first | omega | (simp; omega)) | exact ne_low HOr_4.out (by omega)) | (refine owns_later ?_ (Later.refl _).drew) | (refine owns_later ?_ ((Later.refl _).drewN _)))) (by omega))
    clear hD
    go_wp2
    go_ret
    exact ⟨tt, rfl, by omega, (Later.refl w).drawn hk0 (by repeat (with_reducible first | assumption | exact grown_refl _ _ | refine Drawn.alloc ?_ _ | refine Drawn.drew ?_ | refine Drawn.drewN ?_ _ | refine Drawn.setCell ?_ (by first | omega | (simp; omega)) _ _))⟩
  · skip
    have hqb : (x4 == 0) = false := by simpa using hq
    go_wp2
    go_ret
    exact ⟨t, rfl, by omega, (Later.refl w).drawn hk0 (by repeat (with_reducible first | assumption | exact grown_refl _ _ | refine Drawn.alloc ?_ _ | refine Drawn.drew ?_ | refine Drawn.drewN ?_ _ | refine Drawn.setCell ?_ (by first | omega | (simp; omega)) _ _))⟩

end Go.Proofs.YtgngbdacejghcaaDoor
