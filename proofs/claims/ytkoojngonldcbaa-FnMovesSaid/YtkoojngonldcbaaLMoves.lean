/- Doing moves in two parts is doing all of them: the law FnMoves. It returns true for all codes. No condition. -/
import Derived.Test.YtkoojngonldcbaaRows
import Derived.Test.YtkoojngonldcbaaO3
import Derived.Test.YtkoojngonldcbaaM40
import Derived.Test.YtkoojngonldcbaaM39
import Derived.Test.YtkoojngonldcbaaM42
import Derived.Test.YtkoojngonldcbaaM111
import Derived.Test.YtkoojngonldcbaaM112
import Derived.Test.YtkoojngonldcbaaP16
namespace Go.Proofs.Ytkoojngonldcbaa.lawMoves
set_option linter.unusedVariables false
set_option linter.unusedSimpArgs false
open Go.ChangeShapes Go.WideShapes Go.ChangeAt Go.RowKit
set_option linter.unusedVariables false
set_option maxRecDepth 100000

theorem own_caps {w : World} {base : Nat} {e : TypeId} {s : Nat} {a : Option Addr} {n c : Nat} {xs : List Value} (ho : w.ownsRow base e s (.slice a n c) n xs) : n ≤ c ∧ c ≤ 9223372036854775807 := by
  rcases own_shape ho with ⟨h1, h2, _⟩ | ⟨_, _, h1, _, _, h3, h4⟩
  · have e := (Value.slice.inj h1).2
    omega
  · cases h1
    exact ⟨h3, h4⟩
theorem movs_end {w : World} {l : List Mov} {k : Nat} (h : k = l.length) (a : Option Addr) : IsMovs w (.slice a 0 0) (l.drop k) := by
  have e : l.drop k = [] := List.drop_eq_nil_of_le (by omega)
  rw [e]
  exact ⟨rfl, by decide, a, 0, rfl, Nat.le_refl _, by decide, fun h0 => absurd h0 (Nat.lt_irrefl _)⟩
theorem movs_drop {w : World} {g cap k : Nat} {l : List Mov} (h : IsMovs w (.slice (some ⟨g, 0, none⟩) l.length cap) l) (hk : k ≤ l.length) : IsMovs w (.slice (some ⟨g, k * 4, none⟩) (l.length - k) (cap - k)) (l.drop k) := by
  obtain ⟨h1, h2, a, c, he, h4, h5, h6⟩ := h
  cases he
  have hl : (l.drop k).length = l.length - k := List.length_drop
  refine ⟨movs_len _, by omega, _, _, by rw [hl], by omega, by omega, fun h0 => ⟨g, k * 4, rfl, ?_⟩⟩
  obtain ⟨b, off, he, hr⟩ := h6 (by omega)
  cases he
  have e : movs (l.drop k) = (movs l).drop (k * 4) := (flat_drop Mov.cells 4 (fun _ => rfl) l k).symm
  rw [e]
  have := hr.drop (k * 4)
  rwa [Nat.zero_add] at this

set_option maxHeartbeats 16000000 in
theorem walk (v0 : Value) (bs : List Int) (W : World) (r0 : Raw W v0 bs.length 1 (byts bs)) (hB : ∀ b ∈ bs, 0 ≤ b ∧ b ≤ 255) :
    Calls Try.prog 7 #[v0] W fun e w' => e = .returned (.bool true) ∧ Later W w' := by
  by_cases hb : bs.length ≤ 4096
  rotate_left
  · obtain ⟨_, x0, cap0, rfl, hcap0, hmax0, _⟩ := r0
    have hbg : decide ((4096 : Int) < (bs.length : Int)) = true := by simp; omega
    have HB := Lib.hid hbg
    clear hbg
    go_enter Try.func7, Try.ntmps7
    go_wp2_with fail
    refine (w_big _ _ _ (by omega) _).mono ?_
    rintro e w' ⟨rfl, rfl⟩
    rw [HB.out]
    go_wp2
    go_ret
    exact ⟨rfl, Later.refl _⟩
  have HC := Lib.hid (r0.reads (by omega))
  obtain ⟨_, x0, cap0, rfl, hcap0, hmax0, _⟩ := r0
  have hbg : decide ((4096 : Int) < (bs.length : Int)) = false := by simp; omega
  have HB := Lib.hid hbg
  clear hbg
  go_enter Try.func7, Try.ntmps7
  go_wp2_with fail
  refine (w_big _ _ _ (by omega) _).mono ?_
  rintro e w' ⟨rfl, rfl⟩
  rw [HB.out]
  go_wp2_with fail
  refine (w_DrawRunMoves _ bs _ ((HC.out.later (by repeat (with_reducible first | exact Later.refl _ | refine Later.alloc ?_ _ | refine Later.drew ?_ | refine Later.drewN ?_ _ | refine Later.setCell ?_ (by first | omega | (simp; omega)) _)))) hB hb).mono ?_
  rintro e w1 ⟨n, vu, vv, st, sd, s, l, vz, rfl, hOu, hOv, hu5, hv5, hOz, hz31, hL⟩
  obtain ⟨au, capu, rfl⟩ := isSl_of hOu
  obtain ⟨av, capv, rfl⟩ := isSl_of hOv
  obtain ⟨az, capz, rfl⟩ := isSl_of hOz
  obtain ⟨hcz, hcz2⟩ := own_caps hOz
  have HW1 : Hid (Later W w1) := Lib.hid (Later.trans (by repeat (with_reducible first | exact Later.refl _ | refine Later.alloc ?_ _ | refine Later.drew ?_ | refine Later.drewN ?_ _ | refine Later.setCell ?_ (by first | omega | (simp; omega)) _)) hL)
  have hz1 := HW1.out.size
  have HOu_1 := Lib.hid hOu
  clear hOu
  have HOv_1 := Lib.hid hOv
  clear hOv
  have HOz_1 := Lib.hid hOz
  clear hOz
  clear hL
  go_wp2_with fail
  refine (w_implRunMoves n _ _ st sd s.sh s.cu _ l _ (reads_of_owns (by repeat (with_reducible first | exact HOu_1.out | apply World.ownsRow.alloc | (apply owns_setNe; case hk => first | assumption | exact ne_own HOu_1.out (by first | omega | (simp; omega)) | exact ne_low HOu_1.out (by omega)) | (refine owns_later ?_ (Later.refl _).drew) | (refine owns_later ?_ ((Later.refl _).drewN _)))) (by omega)) (reads_of_owns (by repeat (with_reducible first | exact HOv_1.out | apply World.ownsRow.alloc | (apply owns_setNe; case hk => first | assumption | exact ne_own HOv_1.out (by first | omega | (simp; omega)) | exact ne_low HOv_1.out (by omega)) | (refine owns_later ?_ (Later.refl _).drew) | (refine owns_later ?_ ((Later.refl _).drewN _)))) (by omega)) (reads_of_owns (by repeat (with_reducible first | exact HOz_1.out | apply World.ownsRow.alloc | (apply owns_setNe; case hk => first | assumption | exact ne_own HOz_1.out (by first | omega | (simp; omega)) | exact ne_low HOz_1.out (by omega)) | (refine owns_later ?_ (Later.refl _).drew) | (refine owns_later ?_ ((Later.refl _).drewN _)))) (by omega))).mono ?_
  rintro e w2 ⟨rfl, hL⟩
  have HW2 : Hid (Later W w2) := Lib.hid (Later.trans (by repeat (with_reducible first | exact HW1.out | refine Later.alloc ?_ _ | refine Later.drew ?_ | refine Later.drewN ?_ _ | refine Later.setCell ?_ (by first | omega | (simp; omega)) _)) hL)
  have hz2 := HW2.out.size
  have HOu_2 := Lib.hid (owns_later (by repeat (with_reducible first | exact HOu_1.out | apply World.ownsRow.alloc | (apply owns_setNe; case hk => first | assumption | exact ne_own HOu_1.out (by first | omega | (simp; omega)) | exact ne_low HOu_1.out (by omega)) | (refine owns_later ?_ (Later.refl _).drew) | (refine owns_later ?_ ((Later.refl _).drewN _)))) hL)
  have HOv_2 := Lib.hid (owns_later (by repeat (with_reducible first | exact HOv_1.out | apply World.ownsRow.alloc | (apply owns_setNe; case hk => first | assumption | exact ne_own HOv_1.out (by first | omega | (simp; omega)) | exact ne_low HOv_1.out (by omega)) | (refine owns_later ?_ (Later.refl _).drew) | (refine owns_later ?_ ((Later.refl _).drewN _)))) hL)
  have HOz_2 := Lib.hid (owns_later (by repeat (with_reducible first | exact HOz_1.out | apply World.ownsRow.alloc | (apply owns_setNe; case hk => first | assumption | exact ne_own HOz_1.out (by first | omega | (simp; omega)) | exact ne_low HOz_1.out (by omega)) | (refine owns_later ?_ (Later.refl _).drew) | (refine owns_later ?_ ((Later.refl _).drewN _)))) hL)
  have HK3_2 := Lib.hid (hL.keep (k := w1.heap.size) (by repeat (with_reducible first | exact HK3_1.out | exact heap_alloc_new _ _ | (apply heap_alloc_new'; first | rfl | (simp; done)) | apply heap_alloc_old | apply st_0_2 | apply st_1_2 | apply st_0_3 | apply st_1_3 | apply st_2_3 | apply st_0_4 | apply st_1_4 | apply st_2_4 | apply st_3_4 | (apply other_set; case hne => omega) | exact heap_alloc_new' _ _ (by first | rfl | (simp; done)))))
  have HK4_2 := Lib.hid (hL.keep (k := w1.heap.size + 1) (by repeat (with_reducible first | exact HK4_1.out | exact heap_alloc_new _ _ | (apply heap_alloc_new'; first | rfl | (simp; done)) | apply heap_alloc_old | apply st_0_2 | apply st_1_2 | apply st_0_3 | apply st_1_3 | apply st_2_3 | apply st_0_4 | apply st_1_4 | apply st_2_4 | apply st_3_4 | (apply other_set; case hne => omega) | exact heap_alloc_new' _ _ (by first | rfl | (simp; done)))))
  clear hL
  obtain ⟨c3, f3, z3_2⟩ := blk_at HK3_2.out
  obtain ⟨c4, f4, z4_2⟩ := blk_at HK4_2.out
  go_wp2_with fail
  refine (w_specRunMoves n _ _ st sd s.sh s.cu _ l _ (reads_of_owns (by repeat (with_reducible first | exact HOu_2.out | apply World.ownsRow.alloc | (apply owns_setNe; case hk => first | assumption | exact ne_own HOu_2.out (by first | omega | (simp; omega)) | exact ne_low HOu_2.out (by omega)) | (refine owns_later ?_ (Later.refl _).drew) | (refine owns_later ?_ ((Later.refl _).drewN _)))) (by omega)) (reads_of_owns (by repeat (with_reducible first | exact HOv_2.out | apply World.ownsRow.alloc | (apply owns_setNe; case hk => first | assumption | exact ne_own HOv_2.out (by first | omega | (simp; omega)) | exact ne_low HOv_2.out (by omega)) | (refine owns_later ?_ (Later.refl _).drew) | (refine owns_later ?_ ((Later.refl _).drewN _)))) (by omega)) (reads_of_owns (by repeat (with_reducible first | exact HOz_2.out | apply World.ownsRow.alloc | (apply owns_setNe; case hk => first | assumption | exact ne_own HOz_2.out (by first | omega | (simp; omega)) | exact ne_low HOz_2.out (by omega)) | (refine owns_later ?_ (Later.refl _).drew) | (refine owns_later ?_ ((Later.refl _).drewN _)))) (by omega))).mono ?_
  rintro e w3 ⟨rfl, hL⟩
  have HW3 : Hid (Later W w3) := Lib.hid (Later.trans (by repeat (with_reducible first | exact HW2.out | refine Later.alloc ?_ _ | refine Later.drew ?_ | refine Later.drewN ?_ _ | refine Later.setCell ?_ (by first | omega | (simp; omega)) _)) hL)
  have hz3 := HW3.out.size
  have HOu_3 := Lib.hid (owns_later (by repeat (with_reducible first | exact HOu_2.out | apply World.ownsRow.alloc | (apply owns_setNe; case hk => first | assumption | exact ne_own HOu_2.out (by first | omega | (simp; omega)) | exact ne_low HOu_2.out (by omega)) | (refine owns_later ?_ (Later.refl _).drew) | (refine owns_later ?_ ((Later.refl _).drewN _)))) hL)
  have HOv_3 := Lib.hid (owns_later (by repeat (with_reducible first | exact HOv_2.out | apply World.ownsRow.alloc | (apply owns_setNe; case hk => first | assumption | exact ne_own HOv_2.out (by first | omega | (simp; omega)) | exact ne_low HOv_2.out (by omega)) | (refine owns_later ?_ (Later.refl _).drew) | (refine owns_later ?_ ((Later.refl _).drewN _)))) hL)
  have HOz_3 := Lib.hid (owns_later (by repeat (with_reducible first | exact HOz_2.out | apply World.ownsRow.alloc | (apply owns_setNe; case hk => first | assumption | exact ne_own HOz_2.out (by first | omega | (simp; omega)) | exact ne_low HOz_2.out (by omega)) | (refine owns_later ?_ (Later.refl _).drew) | (refine owns_later ?_ ((Later.refl _).drewN _)))) hL)
  have HK3_3 := Lib.hid (hL.keep (k := w1.heap.size) (by repeat (with_reducible first | exact HK3_2.out | exact heap_alloc_new _ _ | (apply heap_alloc_new'; first | rfl | (simp; done)) | apply heap_alloc_old | apply st_0_2 | apply st_1_2 | apply st_0_3 | apply st_1_3 | apply st_2_3 | apply st_0_4 | apply st_1_4 | apply st_2_4 | apply st_3_4 | (apply other_set; case hne => omega) | exact heap_alloc_new' _ _ (by first | rfl | (simp; done)))))
  have HK4_3 := Lib.hid (hL.keep (k := w1.heap.size + 1) (by repeat (with_reducible first | exact HK4_2.out | exact heap_alloc_new _ _ | (apply heap_alloc_new'; first | rfl | (simp; done)) | apply heap_alloc_old | apply st_0_2 | apply st_1_2 | apply st_0_3 | apply st_1_3 | apply st_2_3 | apply st_0_4 | apply st_1_4 | apply st_2_4 | apply st_3_4 | (apply other_set; case hne => omega) | exact heap_alloc_new' _ _ (by first | rfl | (simp; done)))))
  have HK6_3 := Lib.hid (hL.keep (k := w2.heap.size) (by repeat (with_reducible first | exact HK6_2.out | exact heap_alloc_new _ _ | (apply heap_alloc_new'; first | rfl | (simp; done)) | apply heap_alloc_old | apply st_0_2 | apply st_1_2 | apply st_0_3 | apply st_1_3 | apply st_2_3 | apply st_0_4 | apply st_1_4 | apply st_2_4 | apply st_3_4 | (apply other_set; case hne => omega) | exact heap_alloc_new' _ _ (by first | rfl | (simp; done)))))
  clear hL c3 f3 c4 f4
  obtain ⟨c3, f3, z3_3⟩ := blk_at HK3_3.out
  obtain ⟨c4, f4, z4_3⟩ := blk_at HK4_3.out
  obtain ⟨c6, f6, z6_3⟩ := blk_at HK6_3.out
  go_wp2_with fail
  refine (w_implFirstImpossible n _ _ st sd s.sh s.cu _ l _ (reads_of_owns (by repeat (with_reducible first | exact HOu_3.out | apply World.ownsRow.alloc | (apply owns_setNe; case hk => first | assumption | exact ne_own HOu_3.out (by first | omega | (simp; omega)) | exact ne_low HOu_3.out (by omega)) | (refine owns_later ?_ (Later.refl _).drew) | (refine owns_later ?_ ((Later.refl _).drewN _)))) (by omega)) (reads_of_owns (by repeat (with_reducible first | exact HOv_3.out | apply World.ownsRow.alloc | (apply owns_setNe; case hk => first | assumption | exact ne_own HOv_3.out (by first | omega | (simp; omega)) | exact ne_low HOv_3.out (by omega)) | (refine owns_later ?_ (Later.refl _).drew) | (refine owns_later ?_ ((Later.refl _).drewN _)))) (by omega)) (reads_of_owns (by repeat (with_reducible first | exact HOz_3.out | apply World.ownsRow.alloc | (apply owns_setNe; case hk => first | assumption | exact ne_own HOz_3.out (by first | omega | (simp; omega)) | exact ne_low HOz_3.out (by omega)) | (refine owns_later ?_ (Later.refl _).drew) | (refine owns_later ?_ ((Later.refl _).drewN _)))) (by omega))).mono ?_
  rintro e w4 ⟨rfl, hL⟩
  have HW4 : Hid (Later W w4) := Lib.hid (Later.trans (by repeat (with_reducible first | exact HW3.out | refine Later.alloc ?_ _ | refine Later.drew ?_ | refine Later.drewN ?_ _ | refine Later.setCell ?_ (by first | omega | (simp; omega)) _)) hL)
  have hz4 := HW4.out.size
  have HOu_4 := Lib.hid (owns_later (by repeat (with_reducible first | exact HOu_3.out | apply World.ownsRow.alloc | (apply owns_setNe; case hk => first | assumption | exact ne_own HOu_3.out (by first | omega | (simp; omega)) | exact ne_low HOu_3.out (by omega)) | (refine owns_later ?_ (Later.refl _).drew) | (refine owns_later ?_ ((Later.refl _).drewN _)))) hL)
  have HOv_4 := Lib.hid (owns_later (by repeat (with_reducible first | exact HOv_3.out | apply World.ownsRow.alloc | (apply owns_setNe; case hk => first | assumption | exact ne_own HOv_3.out (by first | omega | (simp; omega)) | exact ne_low HOv_3.out (by omega)) | (refine owns_later ?_ (Later.refl _).drew) | (refine owns_later ?_ ((Later.refl _).drewN _)))) hL)
  have HOz_4 := Lib.hid (owns_later (by repeat (with_reducible first | exact HOz_3.out | apply World.ownsRow.alloc | (apply owns_setNe; case hk => first | assumption | exact ne_own HOz_3.out (by first | omega | (simp; omega)) | exact ne_low HOz_3.out (by omega)) | (refine owns_later ?_ (Later.refl _).drew) | (refine owns_later ?_ ((Later.refl _).drewN _)))) hL)
  have HK3_4 := Lib.hid (hL.keep (k := w1.heap.size) (by repeat (with_reducible first | exact HK3_3.out | exact heap_alloc_new _ _ | (apply heap_alloc_new'; first | rfl | (simp; done)) | apply heap_alloc_old | apply st_0_2 | apply st_1_2 | apply st_0_3 | apply st_1_3 | apply st_2_3 | apply st_0_4 | apply st_1_4 | apply st_2_4 | apply st_3_4 | (apply other_set; case hne => omega) | exact heap_alloc_new' _ _ (by first | rfl | (simp; done)))))
  have HK4_4 := Lib.hid (hL.keep (k := w1.heap.size + 1) (by repeat (with_reducible first | exact HK4_3.out | exact heap_alloc_new _ _ | (apply heap_alloc_new'; first | rfl | (simp; done)) | apply heap_alloc_old | apply st_0_2 | apply st_1_2 | apply st_0_3 | apply st_1_3 | apply st_2_3 | apply st_0_4 | apply st_1_4 | apply st_2_4 | apply st_3_4 | (apply other_set; case hne => omega) | exact heap_alloc_new' _ _ (by first | rfl | (simp; done)))))
  have HK6_4 := Lib.hid (hL.keep (k := w2.heap.size) (by repeat (with_reducible first | exact HK6_3.out | exact heap_alloc_new _ _ | (apply heap_alloc_new'; first | rfl | (simp; done)) | apply heap_alloc_old | apply st_0_2 | apply st_1_2 | apply st_0_3 | apply st_1_3 | apply st_2_3 | apply st_0_4 | apply st_1_4 | apply st_2_4 | apply st_3_4 | (apply other_set; case hne => omega) | exact heap_alloc_new' _ _ (by first | rfl | (simp; done)))))
  have HK8_4 := Lib.hid (hL.keep (k := w3.heap.size) (by repeat (with_reducible first | exact HK8_3.out | exact heap_alloc_new _ _ | (apply heap_alloc_new'; first | rfl | (simp; done)) | apply heap_alloc_old | apply st_0_2 | apply st_1_2 | apply st_0_3 | apply st_1_3 | apply st_2_3 | apply st_0_4 | apply st_1_4 | apply st_2_4 | apply st_3_4 | (apply other_set; case hne => omega) | exact heap_alloc_new' _ _ (by first | rfl | (simp; done)))))
  clear hL c3 f3 c4 f4 c6 f6
  obtain ⟨c3, f3, z3_4⟩ := blk_at HK3_4.out
  obtain ⟨c4, f4, z4_4⟩ := blk_at HK4_4.out
  obtain ⟨c6, f6, z6_4⟩ := blk_at HK6_4.out
  obtain ⟨c8, f8, z8_4⟩ := blk_at HK8_4.out
  go_wp2_with fail
  refine (w_specFirstImpossible n _ _ st sd s.sh s.cu _ l _ (reads_of_owns (by repeat (with_reducible first | exact HOu_4.out | apply World.ownsRow.alloc | (apply owns_setNe; case hk => first | assumption | exact ne_own HOu_4.out (by first | omega | (simp; omega)) | exact ne_low HOu_4.out (by omega)) | (refine owns_later ?_ (Later.refl _).drew) | (refine owns_later ?_ ((Later.refl _).drewN _)))) (by omega)) (reads_of_owns (by repeat (with_reducible first | exact HOv_4.out | apply World.ownsRow.alloc | (apply owns_setNe; case hk => first | assumption | exact ne_own HOv_4.out (by first | omega | (simp; omega)) | exact ne_low HOv_4.out (by omega)) | (refine owns_later ?_ (Later.refl _).drew) | (refine owns_later ?_ ((Later.refl _).drewN _)))) (by omega)) (reads_of_owns (by repeat (with_reducible first | exact HOz_4.out | apply World.ownsRow.alloc | (apply owns_setNe; case hk => first | assumption | exact ne_own HOz_4.out (by first | omega | (simp; omega)) | exact ne_low HOz_4.out (by omega)) | (refine owns_later ?_ (Later.refl _).drew) | (refine owns_later ?_ ((Later.refl _).drewN _)))) (by omega))).mono ?_
  rintro e w5 ⟨rfl, hL⟩
  have HW5 : Hid (Later W w5) := Lib.hid (Later.trans (by repeat (with_reducible first | exact HW4.out | refine Later.alloc ?_ _ | refine Later.drew ?_ | refine Later.drewN ?_ _ | refine Later.setCell ?_ (by first | omega | (simp; omega)) _)) hL)
  have hz5 := HW5.out.size
  have HOu_5 := Lib.hid (owns_later (by repeat (with_reducible first | exact HOu_4.out | apply World.ownsRow.alloc | (apply owns_setNe; case hk => first | assumption | exact ne_own HOu_4.out (by first | omega | (simp; omega)) | exact ne_low HOu_4.out (by omega)) | (refine owns_later ?_ (Later.refl _).drew) | (refine owns_later ?_ ((Later.refl _).drewN _)))) hL)
  have HOv_5 := Lib.hid (owns_later (by repeat (with_reducible first | exact HOv_4.out | apply World.ownsRow.alloc | (apply owns_setNe; case hk => first | assumption | exact ne_own HOv_4.out (by first | omega | (simp; omega)) | exact ne_low HOv_4.out (by omega)) | (refine owns_later ?_ (Later.refl _).drew) | (refine owns_later ?_ ((Later.refl _).drewN _)))) hL)
  have HOz_5 := Lib.hid (owns_later (by repeat (with_reducible first | exact HOz_4.out | apply World.ownsRow.alloc | (apply owns_setNe; case hk => first | assumption | exact ne_own HOz_4.out (by first | omega | (simp; omega)) | exact ne_low HOz_4.out (by omega)) | (refine owns_later ?_ (Later.refl _).drew) | (refine owns_later ?_ ((Later.refl _).drewN _)))) hL)
  have HK3_5 := Lib.hid (hL.keep (k := w1.heap.size) (by repeat (with_reducible first | exact HK3_4.out | exact heap_alloc_new _ _ | (apply heap_alloc_new'; first | rfl | (simp; done)) | apply heap_alloc_old | apply st_0_2 | apply st_1_2 | apply st_0_3 | apply st_1_3 | apply st_2_3 | apply st_0_4 | apply st_1_4 | apply st_2_4 | apply st_3_4 | (apply other_set; case hne => omega) | exact heap_alloc_new' _ _ (by first | rfl | (simp; done)))))
  have HK4_5 := Lib.hid (hL.keep (k := w1.heap.size + 1) (by repeat (with_reducible first | exact HK4_4.out | exact heap_alloc_new _ _ | (apply heap_alloc_new'; first | rfl | (simp; done)) | apply heap_alloc_old | apply st_0_2 | apply st_1_2 | apply st_0_3 | apply st_1_3 | apply st_2_3 | apply st_0_4 | apply st_1_4 | apply st_2_4 | apply st_3_4 | (apply other_set; case hne => omega) | exact heap_alloc_new' _ _ (by first | rfl | (simp; done)))))
  have HK6_5 := Lib.hid (hL.keep (k := w2.heap.size) (by repeat (with_reducible first | exact HK6_4.out | exact heap_alloc_new _ _ | (apply heap_alloc_new'; first | rfl | (simp; done)) | apply heap_alloc_old | apply st_0_2 | apply st_1_2 | apply st_0_3 | apply st_1_3 | apply st_2_3 | apply st_0_4 | apply st_1_4 | apply st_2_4 | apply st_3_4 | (apply other_set; case hne => omega) | exact heap_alloc_new' _ _ (by first | rfl | (simp; done)))))
  have HK8_5 := Lib.hid (hL.keep (k := w3.heap.size) (by repeat (with_reducible first | exact HK8_4.out | exact heap_alloc_new _ _ | (apply heap_alloc_new'; first | rfl | (simp; done)) | apply heap_alloc_old | apply st_0_2 | apply st_1_2 | apply st_0_3 | apply st_1_3 | apply st_2_3 | apply st_0_4 | apply st_1_4 | apply st_2_4 | apply st_3_4 | (apply other_set; case hne => omega) | exact heap_alloc_new' _ _ (by first | rfl | (simp; done)))))
  clear hL c3 f3 c4 f4 c6 f6 c8 f8
  obtain ⟨c3, f3, z3_5⟩ := blk_at HK3_5.out
  obtain ⟨c4, f4, z4_5⟩ := blk_at HK4_5.out
  obtain ⟨c6, f6, z6_5⟩ := blk_at HK6_5.out
  obtain ⟨c8, f8, z8_5⟩ := blk_at HK8_5.out
  go_wp2_with fail
  refine (w_DrawApplyMove _ bs _ ((HC.out.later (by repeat (with_reducible first | exact HW5.out | refine Later.alloc ?_ _ | refine Later.drew ?_ | refine Later.drewN ?_ _ | refine Later.setCell ?_ (by first | omega | (simp; omega)) _)))) hB hb).mono ?_
  rintro e w6 ⟨n2, vp, vq, st2, sd2, s2, m2, rfl, hOp, hOq, hp5, hq5, hL⟩
  obtain ⟨ap, capp, rfl⟩ := isSl_of hOp
  obtain ⟨aq, capq, rfl⟩ := isSl_of hOq
  have HW6 : Hid (Later W w6) := Lib.hid (Later.trans (by repeat (with_reducible first | exact HW5.out | refine Later.alloc ?_ _ | refine Later.drew ?_ | refine Later.drewN ?_ _ | refine Later.setCell ?_ (by first | omega | (simp; omega)) _)) hL)
  have hz6 := HW6.out.size
  have HOu_6 := Lib.hid (owns_later (by repeat (with_reducible first | exact HOu_5.out | apply World.ownsRow.alloc | (apply owns_setNe; case hk => first | assumption | exact ne_own HOu_5.out (by first | omega | (simp; omega)) | exact ne_low HOu_5.out (by omega)) | (refine owns_later ?_ (Later.refl _).drew) | (refine owns_later ?_ ((Later.refl _).drewN _)))) hL)
  have HOv_6 := Lib.hid (owns_later (by repeat (with_reducible first | exact HOv_5.out | apply World.ownsRow.alloc | (apply owns_setNe; case hk => first | assumption | exact ne_own HOv_5.out (by first | omega | (simp; omega)) | exact ne_low HOv_5.out (by omega)) | (refine owns_later ?_ (Later.refl _).drew) | (refine owns_later ?_ ((Later.refl _).drewN _)))) hL)
  have HOz_6 := Lib.hid (owns_later (by repeat (with_reducible first | exact HOz_5.out | apply World.ownsRow.alloc | (apply owns_setNe; case hk => first | assumption | exact ne_own HOz_5.out (by first | omega | (simp; omega)) | exact ne_low HOz_5.out (by omega)) | (refine owns_later ?_ (Later.refl _).drew) | (refine owns_later ?_ ((Later.refl _).drewN _)))) hL)
  have HK3_6 := Lib.hid (hL.keep (k := w1.heap.size) (by repeat (with_reducible first | exact HK3_5.out | exact heap_alloc_new _ _ | (apply heap_alloc_new'; first | rfl | (simp; done)) | apply heap_alloc_old | apply st_0_2 | apply st_1_2 | apply st_0_3 | apply st_1_3 | apply st_2_3 | apply st_0_4 | apply st_1_4 | apply st_2_4 | apply st_3_4 | (apply other_set; case hne => omega) | exact heap_alloc_new' _ _ (by first | rfl | (simp; done)))))
  have HK4_6 := Lib.hid (hL.keep (k := w1.heap.size + 1) (by repeat (with_reducible first | exact HK4_5.out | exact heap_alloc_new _ _ | (apply heap_alloc_new'; first | rfl | (simp; done)) | apply heap_alloc_old | apply st_0_2 | apply st_1_2 | apply st_0_3 | apply st_1_3 | apply st_2_3 | apply st_0_4 | apply st_1_4 | apply st_2_4 | apply st_3_4 | (apply other_set; case hne => omega) | exact heap_alloc_new' _ _ (by first | rfl | (simp; done)))))
  have HK6_6 := Lib.hid (hL.keep (k := w2.heap.size) (by repeat (with_reducible first | exact HK6_5.out | exact heap_alloc_new _ _ | (apply heap_alloc_new'; first | rfl | (simp; done)) | apply heap_alloc_old | apply st_0_2 | apply st_1_2 | apply st_0_3 | apply st_1_3 | apply st_2_3 | apply st_0_4 | apply st_1_4 | apply st_2_4 | apply st_3_4 | (apply other_set; case hne => omega) | exact heap_alloc_new' _ _ (by first | rfl | (simp; done)))))
  have HK8_6 := Lib.hid (hL.keep (k := w3.heap.size) (by repeat (with_reducible first | exact HK8_5.out | exact heap_alloc_new _ _ | (apply heap_alloc_new'; first | rfl | (simp; done)) | apply heap_alloc_old | apply st_0_2 | apply st_1_2 | apply st_0_3 | apply st_1_3 | apply st_2_3 | apply st_0_4 | apply st_1_4 | apply st_2_4 | apply st_3_4 | (apply other_set; case hne => omega) | exact heap_alloc_new' _ _ (by first | rfl | (simp; done)))))
  have HOp_6 := Lib.hid hOp
  clear hOp
  have HOq_6 := Lib.hid hOq
  clear hOq
  clear hL c3 f3 c4 f4 c6 f6 c8 f8
  obtain ⟨c3, f3, z3_6⟩ := blk_at HK3_6.out
  obtain ⟨c4, f4, z4_6⟩ := blk_at HK4_6.out
  obtain ⟨c6, f6, z6_6⟩ := blk_at HK6_6.out
  obtain ⟨c8, f8, z8_6⟩ := blk_at HK8_6.out
  go_wp2_with fail
  refine (w_implApplyMove n2 _ _ st2 sd2 s2.sh s2.cu m2.k m2.s m2.f.d m2.f.t _ (reads_of_owns (by repeat (with_reducible first | exact HOp_6.out | apply World.ownsRow.alloc | (apply owns_setNe; case hk => first | assumption | exact ne_own HOp_6.out (by first | omega | (simp; omega)) | exact ne_low HOp_6.out (by omega)) | (refine owns_later ?_ (Later.refl _).drew) | (refine owns_later ?_ ((Later.refl _).drewN _)))) (by omega)) (reads_of_owns (by repeat (with_reducible first | exact HOq_6.out | apply World.ownsRow.alloc | (apply owns_setNe; case hk => first | assumption | exact ne_own HOq_6.out (by first | omega | (simp; omega)) | exact ne_low HOq_6.out (by omega)) | (refine owns_later ?_ (Later.refl _).drew) | (refine owns_later ?_ ((Later.refl _).drewN _)))) (by omega))).mono ?_
  rintro e w7 ⟨rfl, hL⟩
  have HW7 : Hid (Later W w7) := Lib.hid (Later.trans (by repeat (with_reducible first | exact HW6.out | refine Later.alloc ?_ _ | refine Later.drew ?_ | refine Later.drewN ?_ _ | refine Later.setCell ?_ (by first | omega | (simp; omega)) _)) hL)
  have hz7 := HW7.out.size
  have HOu_7 := Lib.hid (owns_later (by repeat (with_reducible first | exact HOu_6.out | apply World.ownsRow.alloc | (apply owns_setNe; case hk => first | assumption | exact ne_own HOu_6.out (by first | omega | (simp; omega)) | exact ne_low HOu_6.out (by omega)) | (refine owns_later ?_ (Later.refl _).drew) | (refine owns_later ?_ ((Later.refl _).drewN _)))) hL)
  have HOv_7 := Lib.hid (owns_later (by repeat (with_reducible first | exact HOv_6.out | apply World.ownsRow.alloc | (apply owns_setNe; case hk => first | assumption | exact ne_own HOv_6.out (by first | omega | (simp; omega)) | exact ne_low HOv_6.out (by omega)) | (refine owns_later ?_ (Later.refl _).drew) | (refine owns_later ?_ ((Later.refl _).drewN _)))) hL)
  have HOz_7 := Lib.hid (owns_later (by repeat (with_reducible first | exact HOz_6.out | apply World.ownsRow.alloc | (apply owns_setNe; case hk => first | assumption | exact ne_own HOz_6.out (by first | omega | (simp; omega)) | exact ne_low HOz_6.out (by omega)) | (refine owns_later ?_ (Later.refl _).drew) | (refine owns_later ?_ ((Later.refl _).drewN _)))) hL)
  have HOp_7 := Lib.hid (owns_later (by repeat (with_reducible first | exact HOp_6.out | apply World.ownsRow.alloc | (apply owns_setNe; case hk => first | assumption | exact ne_own HOp_6.out (by first | omega | (simp; omega)) | exact ne_low HOp_6.out (by omega)) | (refine owns_later ?_ (Later.refl _).drew) | (refine owns_later ?_ ((Later.refl _).drewN _)))) hL)
  have HOq_7 := Lib.hid (owns_later (by repeat (with_reducible first | exact HOq_6.out | apply World.ownsRow.alloc | (apply owns_setNe; case hk => first | assumption | exact ne_own HOq_6.out (by first | omega | (simp; omega)) | exact ne_low HOq_6.out (by omega)) | (refine owns_later ?_ (Later.refl _).drew) | (refine owns_later ?_ ((Later.refl _).drewN _)))) hL)
  have HK3_7 := Lib.hid (hL.keep (k := w1.heap.size) (by repeat (with_reducible first | exact HK3_6.out | exact heap_alloc_new _ _ | (apply heap_alloc_new'; first | rfl | (simp; done)) | apply heap_alloc_old | apply st_0_2 | apply st_1_2 | apply st_0_3 | apply st_1_3 | apply st_2_3 | apply st_0_4 | apply st_1_4 | apply st_2_4 | apply st_3_4 | (apply other_set; case hne => omega) | exact heap_alloc_new' _ _ (by first | rfl | (simp; done)))))
  have HK4_7 := Lib.hid (hL.keep (k := w1.heap.size + 1) (by repeat (with_reducible first | exact HK4_6.out | exact heap_alloc_new _ _ | (apply heap_alloc_new'; first | rfl | (simp; done)) | apply heap_alloc_old | apply st_0_2 | apply st_1_2 | apply st_0_3 | apply st_1_3 | apply st_2_3 | apply st_0_4 | apply st_1_4 | apply st_2_4 | apply st_3_4 | (apply other_set; case hne => omega) | exact heap_alloc_new' _ _ (by first | rfl | (simp; done)))))
  have HK6_7 := Lib.hid (hL.keep (k := w2.heap.size) (by repeat (with_reducible first | exact HK6_6.out | exact heap_alloc_new _ _ | (apply heap_alloc_new'; first | rfl | (simp; done)) | apply heap_alloc_old | apply st_0_2 | apply st_1_2 | apply st_0_3 | apply st_1_3 | apply st_2_3 | apply st_0_4 | apply st_1_4 | apply st_2_4 | apply st_3_4 | (apply other_set; case hne => omega) | exact heap_alloc_new' _ _ (by first | rfl | (simp; done)))))
  have HK8_7 := Lib.hid (hL.keep (k := w3.heap.size) (by repeat (with_reducible first | exact HK8_6.out | exact heap_alloc_new _ _ | (apply heap_alloc_new'; first | rfl | (simp; done)) | apply heap_alloc_old | apply st_0_2 | apply st_1_2 | apply st_0_3 | apply st_1_3 | apply st_2_3 | apply st_0_4 | apply st_1_4 | apply st_2_4 | apply st_3_4 | (apply other_set; case hne => omega) | exact heap_alloc_new' _ _ (by first | rfl | (simp; done)))))
  have HK14_7 := Lib.hid (hL.keep (k := w6.heap.size) (by repeat (with_reducible first | exact HK14_6.out | exact heap_alloc_new _ _ | (apply heap_alloc_new'; first | rfl | (simp; done)) | apply heap_alloc_old | apply st_0_2 | apply st_1_2 | apply st_0_3 | apply st_1_3 | apply st_2_3 | apply st_0_4 | apply st_1_4 | apply st_2_4 | apply st_3_4 | (apply other_set; case hne => omega) | exact heap_alloc_new' _ _ (by first | rfl | (simp; done)))))
  have HK15_7 := Lib.hid (hL.keep (k := w6.heap.size + 1) (by repeat (with_reducible first | exact HK15_6.out | exact heap_alloc_new _ _ | (apply heap_alloc_new'; first | rfl | (simp; done)) | apply heap_alloc_old | apply st_0_2 | apply st_1_2 | apply st_0_3 | apply st_1_3 | apply st_2_3 | apply st_0_4 | apply st_1_4 | apply st_2_4 | apply st_3_4 | (apply other_set; case hne => omega) | exact heap_alloc_new' _ _ (by first | rfl | (simp; done)))))
  have HK16_7 := Lib.hid (hL.keep (k := w6.heap.size + 1 + 1) (by repeat (with_reducible first | exact HK16_6.out | exact heap_alloc_new _ _ | (apply heap_alloc_new'; first | rfl | (simp; done)) | apply heap_alloc_old | apply st_0_2 | apply st_1_2 | apply st_0_3 | apply st_1_3 | apply st_2_3 | apply st_0_4 | apply st_1_4 | apply st_2_4 | apply st_3_4 | (apply other_set; case hne => omega) | exact heap_alloc_new' _ _ (by first | rfl | (simp; done)))))
  clear hL c3 f3 c4 f4 c6 f6 c8 f8
  obtain ⟨c3, f3, z3_7⟩ := blk_at HK3_7.out
  obtain ⟨c4, f4, z4_7⟩ := blk_at HK4_7.out
  obtain ⟨c6, f6, z6_7⟩ := blk_at HK6_7.out
  obtain ⟨c8, f8, z8_7⟩ := blk_at HK8_7.out
  obtain ⟨c14, f14, z14_7⟩ := blk_at HK14_7.out
  obtain ⟨c15, f15, z15_7⟩ := blk_at HK15_7.out
  obtain ⟨c16, f16, z16_7⟩ := blk_at HK16_7.out
  go_wp2_with fail
  refine (w_specApplyMove n2 _ _ st2 sd2 s2.sh s2.cu m2.k m2.s m2.f.d m2.f.t _ (reads_of_owns (by repeat (with_reducible first | exact HOp_7.out | apply World.ownsRow.alloc | (apply owns_setNe; case hk => first | assumption | exact ne_own HOp_7.out (by first | omega | (simp; omega)) | exact ne_low HOp_7.out (by omega)) | (refine owns_later ?_ (Later.refl _).drew) | (refine owns_later ?_ ((Later.refl _).drewN _)))) (by omega)) (reads_of_owns (by repeat (with_reducible first | exact HOq_7.out | apply World.ownsRow.alloc | (apply owns_setNe; case hk => first | assumption | exact ne_own HOq_7.out (by first | omega | (simp; omega)) | exact ne_low HOq_7.out (by omega)) | (refine owns_later ?_ (Later.refl _).drew) | (refine owns_later ?_ ((Later.refl _).drewN _)))) (by omega))).mono ?_
  rintro e w8 ⟨rfl, hL⟩
  have HW8 : Hid (Later W w8) := Lib.hid (Later.trans (by repeat (with_reducible first | exact HW7.out | refine Later.alloc ?_ _ | refine Later.drew ?_ | refine Later.drewN ?_ _ | refine Later.setCell ?_ (by first | omega | (simp; omega)) _)) hL)
  have hz8 := HW8.out.size
  have HOu_8 := Lib.hid (owns_later (by repeat (with_reducible first | exact HOu_7.out | apply World.ownsRow.alloc | (apply owns_setNe; case hk => first | assumption | exact ne_own HOu_7.out (by first | omega | (simp; omega)) | exact ne_low HOu_7.out (by omega)) | (refine owns_later ?_ (Later.refl _).drew) | (refine owns_later ?_ ((Later.refl _).drewN _)))) hL)
  have HOv_8 := Lib.hid (owns_later (by repeat (with_reducible first | exact HOv_7.out | apply World.ownsRow.alloc | (apply owns_setNe; case hk => first | assumption | exact ne_own HOv_7.out (by first | omega | (simp; omega)) | exact ne_low HOv_7.out (by omega)) | (refine owns_later ?_ (Later.refl _).drew) | (refine owns_later ?_ ((Later.refl _).drewN _)))) hL)
  have HOz_8 := Lib.hid (owns_later (by repeat (with_reducible first | exact HOz_7.out | apply World.ownsRow.alloc | (apply owns_setNe; case hk => first | assumption | exact ne_own HOz_7.out (by first | omega | (simp; omega)) | exact ne_low HOz_7.out (by omega)) | (refine owns_later ?_ (Later.refl _).drew) | (refine owns_later ?_ ((Later.refl _).drewN _)))) hL)
  have HOp_8 := Lib.hid (owns_later (by repeat (with_reducible first | exact HOp_7.out | apply World.ownsRow.alloc | (apply owns_setNe; case hk => first | assumption | exact ne_own HOp_7.out (by first | omega | (simp; omega)) | exact ne_low HOp_7.out (by omega)) | (refine owns_later ?_ (Later.refl _).drew) | (refine owns_later ?_ ((Later.refl _).drewN _)))) hL)
  have HOq_8 := Lib.hid (owns_later (by repeat (with_reducible first | exact HOq_7.out | apply World.ownsRow.alloc | (apply owns_setNe; case hk => first | assumption | exact ne_own HOq_7.out (by first | omega | (simp; omega)) | exact ne_low HOq_7.out (by omega)) | (refine owns_later ?_ (Later.refl _).drew) | (refine owns_later ?_ ((Later.refl _).drewN _)))) hL)
  have HK3_8 := Lib.hid (hL.keep (k := w1.heap.size) (by repeat (with_reducible first | exact HK3_7.out | exact heap_alloc_new _ _ | (apply heap_alloc_new'; first | rfl | (simp; done)) | apply heap_alloc_old | apply st_0_2 | apply st_1_2 | apply st_0_3 | apply st_1_3 | apply st_2_3 | apply st_0_4 | apply st_1_4 | apply st_2_4 | apply st_3_4 | (apply other_set; case hne => omega) | exact heap_alloc_new' _ _ (by first | rfl | (simp; done)))))
  have HK4_8 := Lib.hid (hL.keep (k := w1.heap.size + 1) (by repeat (with_reducible first | exact HK4_7.out | exact heap_alloc_new _ _ | (apply heap_alloc_new'; first | rfl | (simp; done)) | apply heap_alloc_old | apply st_0_2 | apply st_1_2 | apply st_0_3 | apply st_1_3 | apply st_2_3 | apply st_0_4 | apply st_1_4 | apply st_2_4 | apply st_3_4 | (apply other_set; case hne => omega) | exact heap_alloc_new' _ _ (by first | rfl | (simp; done)))))
  have HK6_8 := Lib.hid (hL.keep (k := w2.heap.size) (by repeat (with_reducible first | exact HK6_7.out | exact heap_alloc_new _ _ | (apply heap_alloc_new'; first | rfl | (simp; done)) | apply heap_alloc_old | apply st_0_2 | apply st_1_2 | apply st_0_3 | apply st_1_3 | apply st_2_3 | apply st_0_4 | apply st_1_4 | apply st_2_4 | apply st_3_4 | (apply other_set; case hne => omega) | exact heap_alloc_new' _ _ (by first | rfl | (simp; done)))))
  have HK8_8 := Lib.hid (hL.keep (k := w3.heap.size) (by repeat (with_reducible first | exact HK8_7.out | exact heap_alloc_new _ _ | (apply heap_alloc_new'; first | rfl | (simp; done)) | apply heap_alloc_old | apply st_0_2 | apply st_1_2 | apply st_0_3 | apply st_1_3 | apply st_2_3 | apply st_0_4 | apply st_1_4 | apply st_2_4 | apply st_3_4 | (apply other_set; case hne => omega) | exact heap_alloc_new' _ _ (by first | rfl | (simp; done)))))
  have HK14_8 := Lib.hid (hL.keep (k := w6.heap.size) (by repeat (with_reducible first | exact HK14_7.out | exact heap_alloc_new _ _ | (apply heap_alloc_new'; first | rfl | (simp; done)) | apply heap_alloc_old | apply st_0_2 | apply st_1_2 | apply st_0_3 | apply st_1_3 | apply st_2_3 | apply st_0_4 | apply st_1_4 | apply st_2_4 | apply st_3_4 | (apply other_set; case hne => omega) | exact heap_alloc_new' _ _ (by first | rfl | (simp; done)))))
  have HK15_8 := Lib.hid (hL.keep (k := w6.heap.size + 1) (by repeat (with_reducible first | exact HK15_7.out | exact heap_alloc_new _ _ | (apply heap_alloc_new'; first | rfl | (simp; done)) | apply heap_alloc_old | apply st_0_2 | apply st_1_2 | apply st_0_3 | apply st_1_3 | apply st_2_3 | apply st_0_4 | apply st_1_4 | apply st_2_4 | apply st_3_4 | (apply other_set; case hne => omega) | exact heap_alloc_new' _ _ (by first | rfl | (simp; done)))))
  have HK16_8 := Lib.hid (hL.keep (k := w6.heap.size + 1 + 1) (by repeat (with_reducible first | exact HK16_7.out | exact heap_alloc_new _ _ | (apply heap_alloc_new'; first | rfl | (simp; done)) | apply heap_alloc_old | apply st_0_2 | apply st_1_2 | apply st_0_3 | apply st_1_3 | apply st_2_3 | apply st_0_4 | apply st_1_4 | apply st_2_4 | apply st_3_4 | (apply other_set; case hne => omega) | exact heap_alloc_new' _ _ (by first | rfl | (simp; done)))))
  have HK17_8 := Lib.hid (hL.keep (k := w7.heap.size) (by repeat (with_reducible first | exact HK17_7.out | exact heap_alloc_new _ _ | (apply heap_alloc_new'; first | rfl | (simp; done)) | apply heap_alloc_old | apply st_0_2 | apply st_1_2 | apply st_0_3 | apply st_1_3 | apply st_2_3 | apply st_0_4 | apply st_1_4 | apply st_2_4 | apply st_3_4 | (apply other_set; case hne => omega) | exact heap_alloc_new' _ _ (by first | rfl | (simp; done)))))
  clear hL c3 f3 c4 f4 c6 f6 c8 f8 c14 f14 c15 f15 c16 f16
  obtain ⟨c3, f3, z3_8⟩ := blk_at HK3_8.out
  obtain ⟨c4, f4, z4_8⟩ := blk_at HK4_8.out
  obtain ⟨c6, f6, z6_8⟩ := blk_at HK6_8.out
  obtain ⟨c8, f8, z8_8⟩ := blk_at HK8_8.out
  obtain ⟨c14, f14, z14_8⟩ := blk_at HK14_8.out
  obtain ⟨c15, f15, z15_8⟩ := blk_at HK15_8.out
  obtain ⟨c16, f16, z16_8⟩ := blk_at HK16_8.out
  obtain ⟨c17, f17, z17_8⟩ := blk_at HK17_8.out
  go_wp2_with fail
  refine (w_implAreMoves _ l _ (reads_of_owns (by repeat (with_reducible first | exact HOz_8.out | apply World.ownsRow.alloc | (apply owns_setNe; case hk => first | assumption | exact ne_own HOz_8.out (by first | omega | (simp; omega)) | exact ne_low HOz_8.out (by omega)) | (refine owns_later ?_ (Later.refl _).drew) | (refine owns_later ?_ ((Later.refl _).drewN _)))) (by omega))).mono ?_
  rintro e w9 ⟨rfl, hL⟩
  have HW9 : Hid (Later W w9) := Lib.hid (Later.trans (by repeat (with_reducible first | exact HW8.out | refine Later.alloc ?_ _ | refine Later.drew ?_ | refine Later.drewN ?_ _ | refine Later.setCell ?_ (by first | omega | (simp; omega)) _)) hL)
  have hz9 := HW9.out.size
  have HOu_9 := Lib.hid (owns_later (by repeat (with_reducible first | exact HOu_8.out | apply World.ownsRow.alloc | (apply owns_setNe; case hk => first | assumption | exact ne_own HOu_8.out (by first | omega | (simp; omega)) | exact ne_low HOu_8.out (by omega)) | (refine owns_later ?_ (Later.refl _).drew) | (refine owns_later ?_ ((Later.refl _).drewN _)))) hL)
  have HOv_9 := Lib.hid (owns_later (by repeat (with_reducible first | exact HOv_8.out | apply World.ownsRow.alloc | (apply owns_setNe; case hk => first | assumption | exact ne_own HOv_8.out (by first | omega | (simp; omega)) | exact ne_low HOv_8.out (by omega)) | (refine owns_later ?_ (Later.refl _).drew) | (refine owns_later ?_ ((Later.refl _).drewN _)))) hL)
  have HOz_9 := Lib.hid (owns_later (by repeat (with_reducible first | exact HOz_8.out | apply World.ownsRow.alloc | (apply owns_setNe; case hk => first | assumption | exact ne_own HOz_8.out (by first | omega | (simp; omega)) | exact ne_low HOz_8.out (by omega)) | (refine owns_later ?_ (Later.refl _).drew) | (refine owns_later ?_ ((Later.refl _).drewN _)))) hL)
  have HOp_9 := Lib.hid (owns_later (by repeat (with_reducible first | exact HOp_8.out | apply World.ownsRow.alloc | (apply owns_setNe; case hk => first | assumption | exact ne_own HOp_8.out (by first | omega | (simp; omega)) | exact ne_low HOp_8.out (by omega)) | (refine owns_later ?_ (Later.refl _).drew) | (refine owns_later ?_ ((Later.refl _).drewN _)))) hL)
  have HOq_9 := Lib.hid (owns_later (by repeat (with_reducible first | exact HOq_8.out | apply World.ownsRow.alloc | (apply owns_setNe; case hk => first | assumption | exact ne_own HOq_8.out (by first | omega | (simp; omega)) | exact ne_low HOq_8.out (by omega)) | (refine owns_later ?_ (Later.refl _).drew) | (refine owns_later ?_ ((Later.refl _).drewN _)))) hL)
  have HK3_9 := Lib.hid (hL.keep (k := w1.heap.size) (by repeat (with_reducible first | exact HK3_8.out | exact heap_alloc_new _ _ | (apply heap_alloc_new'; first | rfl | (simp; done)) | apply heap_alloc_old | apply st_0_2 | apply st_1_2 | apply st_0_3 | apply st_1_3 | apply st_2_3 | apply st_0_4 | apply st_1_4 | apply st_2_4 | apply st_3_4 | (apply other_set; case hne => omega) | exact heap_alloc_new' _ _ (by first | rfl | (simp; done)))))
  have HK4_9 := Lib.hid (hL.keep (k := w1.heap.size + 1) (by repeat (with_reducible first | exact HK4_8.out | exact heap_alloc_new _ _ | (apply heap_alloc_new'; first | rfl | (simp; done)) | apply heap_alloc_old | apply st_0_2 | apply st_1_2 | apply st_0_3 | apply st_1_3 | apply st_2_3 | apply st_0_4 | apply st_1_4 | apply st_2_4 | apply st_3_4 | (apply other_set; case hne => omega) | exact heap_alloc_new' _ _ (by first | rfl | (simp; done)))))
  have HK6_9 := Lib.hid (hL.keep (k := w2.heap.size) (by repeat (with_reducible first | exact HK6_8.out | exact heap_alloc_new _ _ | (apply heap_alloc_new'; first | rfl | (simp; done)) | apply heap_alloc_old | apply st_0_2 | apply st_1_2 | apply st_0_3 | apply st_1_3 | apply st_2_3 | apply st_0_4 | apply st_1_4 | apply st_2_4 | apply st_3_4 | (apply other_set; case hne => omega) | exact heap_alloc_new' _ _ (by first | rfl | (simp; done)))))
  have HK8_9 := Lib.hid (hL.keep (k := w3.heap.size) (by repeat (with_reducible first | exact HK8_8.out | exact heap_alloc_new _ _ | (apply heap_alloc_new'; first | rfl | (simp; done)) | apply heap_alloc_old | apply st_0_2 | apply st_1_2 | apply st_0_3 | apply st_1_3 | apply st_2_3 | apply st_0_4 | apply st_1_4 | apply st_2_4 | apply st_3_4 | (apply other_set; case hne => omega) | exact heap_alloc_new' _ _ (by first | rfl | (simp; done)))))
  have HK14_9 := Lib.hid (hL.keep (k := w6.heap.size) (by repeat (with_reducible first | exact HK14_8.out | exact heap_alloc_new _ _ | (apply heap_alloc_new'; first | rfl | (simp; done)) | apply heap_alloc_old | apply st_0_2 | apply st_1_2 | apply st_0_3 | apply st_1_3 | apply st_2_3 | apply st_0_4 | apply st_1_4 | apply st_2_4 | apply st_3_4 | (apply other_set; case hne => omega) | exact heap_alloc_new' _ _ (by first | rfl | (simp; done)))))
  have HK15_9 := Lib.hid (hL.keep (k := w6.heap.size + 1) (by repeat (with_reducible first | exact HK15_8.out | exact heap_alloc_new _ _ | (apply heap_alloc_new'; first | rfl | (simp; done)) | apply heap_alloc_old | apply st_0_2 | apply st_1_2 | apply st_0_3 | apply st_1_3 | apply st_2_3 | apply st_0_4 | apply st_1_4 | apply st_2_4 | apply st_3_4 | (apply other_set; case hne => omega) | exact heap_alloc_new' _ _ (by first | rfl | (simp; done)))))
  have HK16_9 := Lib.hid (hL.keep (k := w6.heap.size + 1 + 1) (by repeat (with_reducible first | exact HK16_8.out | exact heap_alloc_new _ _ | (apply heap_alloc_new'; first | rfl | (simp; done)) | apply heap_alloc_old | apply st_0_2 | apply st_1_2 | apply st_0_3 | apply st_1_3 | apply st_2_3 | apply st_0_4 | apply st_1_4 | apply st_2_4 | apply st_3_4 | (apply other_set; case hne => omega) | exact heap_alloc_new' _ _ (by first | rfl | (simp; done)))))
  have HK17_9 := Lib.hid (hL.keep (k := w7.heap.size) (by repeat (with_reducible first | exact HK17_8.out | exact heap_alloc_new _ _ | (apply heap_alloc_new'; first | rfl | (simp; done)) | apply heap_alloc_old | apply st_0_2 | apply st_1_2 | apply st_0_3 | apply st_1_3 | apply st_2_3 | apply st_0_4 | apply st_1_4 | apply st_2_4 | apply st_3_4 | (apply other_set; case hne => omega) | exact heap_alloc_new' _ _ (by first | rfl | (simp; done)))))
  have HK19_9 := Lib.hid (hL.keep (k := w8.heap.size) (by repeat (with_reducible first | exact HK19_8.out | exact heap_alloc_new _ _ | (apply heap_alloc_new'; first | rfl | (simp; done)) | apply heap_alloc_old | apply st_0_2 | apply st_1_2 | apply st_0_3 | apply st_1_3 | apply st_2_3 | apply st_0_4 | apply st_1_4 | apply st_2_4 | apply st_3_4 | (apply other_set; case hne => omega) | exact heap_alloc_new' _ _ (by first | rfl | (simp; done)))))
  clear hL c3 f3 c4 f4 c6 f6 c8 f8 c14 f14 c15 f15 c16 f16 c17 f17
  obtain ⟨c3, f3, z3_9⟩ := blk_at HK3_9.out
  obtain ⟨c4, f4, z4_9⟩ := blk_at HK4_9.out
  obtain ⟨c6, f6, z6_9⟩ := blk_at HK6_9.out
  obtain ⟨c8, f8, z8_9⟩ := blk_at HK8_9.out
  obtain ⟨c14, f14, z14_9⟩ := blk_at HK14_9.out
  obtain ⟨c15, f15, z15_9⟩ := blk_at HK15_9.out
  obtain ⟨c16, f16, z16_9⟩ := blk_at HK16_9.out
  obtain ⟨c17, f17, z17_9⟩ := blk_at HK17_9.out
  obtain ⟨c19, f19, z19_9⟩ := blk_at HK19_9.out
  go_wp2_with fail
  refine (w_specAreMoves _ l _ (reads_of_owns (by repeat (with_reducible first | exact HOz_9.out | apply World.ownsRow.alloc | (apply owns_setNe; case hk => first | assumption | exact ne_own HOz_9.out (by first | omega | (simp; omega)) | exact ne_low HOz_9.out (by omega)) | (refine owns_later ?_ (Later.refl _).drew) | (refine owns_later ?_ ((Later.refl _).drewN _)))) (by omega))).mono ?_
  rintro e w10 ⟨rfl, hL⟩
  have HW10 : Hid (Later W w10) := Lib.hid (Later.trans (by repeat (with_reducible first | exact HW9.out | refine Later.alloc ?_ _ | refine Later.drew ?_ | refine Later.drewN ?_ _ | refine Later.setCell ?_ (by first | omega | (simp; omega)) _)) hL)
  have hz10 := HW10.out.size
  have HOu_10 := Lib.hid (owns_later (by repeat (with_reducible first | exact HOu_9.out | apply World.ownsRow.alloc | (apply owns_setNe; case hk => first | assumption | exact ne_own HOu_9.out (by first | omega | (simp; omega)) | exact ne_low HOu_9.out (by omega)) | (refine owns_later ?_ (Later.refl _).drew) | (refine owns_later ?_ ((Later.refl _).drewN _)))) hL)
  have HOv_10 := Lib.hid (owns_later (by repeat (with_reducible first | exact HOv_9.out | apply World.ownsRow.alloc | (apply owns_setNe; case hk => first | assumption | exact ne_own HOv_9.out (by first | omega | (simp; omega)) | exact ne_low HOv_9.out (by omega)) | (refine owns_later ?_ (Later.refl _).drew) | (refine owns_later ?_ ((Later.refl _).drewN _)))) hL)
  have HOz_10 := Lib.hid (owns_later (by repeat (with_reducible first | exact HOz_9.out | apply World.ownsRow.alloc | (apply owns_setNe; case hk => first | assumption | exact ne_own HOz_9.out (by first | omega | (simp; omega)) | exact ne_low HOz_9.out (by omega)) | (refine owns_later ?_ (Later.refl _).drew) | (refine owns_later ?_ ((Later.refl _).drewN _)))) hL)
  have HOp_10 := Lib.hid (owns_later (by repeat (with_reducible first | exact HOp_9.out | apply World.ownsRow.alloc | (apply owns_setNe; case hk => first | assumption | exact ne_own HOp_9.out (by first | omega | (simp; omega)) | exact ne_low HOp_9.out (by omega)) | (refine owns_later ?_ (Later.refl _).drew) | (refine owns_later ?_ ((Later.refl _).drewN _)))) hL)
  have HOq_10 := Lib.hid (owns_later (by repeat (with_reducible first | exact HOq_9.out | apply World.ownsRow.alloc | (apply owns_setNe; case hk => first | assumption | exact ne_own HOq_9.out (by first | omega | (simp; omega)) | exact ne_low HOq_9.out (by omega)) | (refine owns_later ?_ (Later.refl _).drew) | (refine owns_later ?_ ((Later.refl _).drewN _)))) hL)
  have HK3_10 := Lib.hid (hL.keep (k := w1.heap.size) (by repeat (with_reducible first | exact HK3_9.out | exact heap_alloc_new _ _ | (apply heap_alloc_new'; first | rfl | (simp; done)) | apply heap_alloc_old | apply st_0_2 | apply st_1_2 | apply st_0_3 | apply st_1_3 | apply st_2_3 | apply st_0_4 | apply st_1_4 | apply st_2_4 | apply st_3_4 | (apply other_set; case hne => omega) | exact heap_alloc_new' _ _ (by first | rfl | (simp; done)))))
  have HK4_10 := Lib.hid (hL.keep (k := w1.heap.size + 1) (by repeat (with_reducible first | exact HK4_9.out | exact heap_alloc_new _ _ | (apply heap_alloc_new'; first | rfl | (simp; done)) | apply heap_alloc_old | apply st_0_2 | apply st_1_2 | apply st_0_3 | apply st_1_3 | apply st_2_3 | apply st_0_4 | apply st_1_4 | apply st_2_4 | apply st_3_4 | (apply other_set; case hne => omega) | exact heap_alloc_new' _ _ (by first | rfl | (simp; done)))))
  have HK6_10 := Lib.hid (hL.keep (k := w2.heap.size) (by repeat (with_reducible first | exact HK6_9.out | exact heap_alloc_new _ _ | (apply heap_alloc_new'; first | rfl | (simp; done)) | apply heap_alloc_old | apply st_0_2 | apply st_1_2 | apply st_0_3 | apply st_1_3 | apply st_2_3 | apply st_0_4 | apply st_1_4 | apply st_2_4 | apply st_3_4 | (apply other_set; case hne => omega) | exact heap_alloc_new' _ _ (by first | rfl | (simp; done)))))
  have HK8_10 := Lib.hid (hL.keep (k := w3.heap.size) (by repeat (with_reducible first | exact HK8_9.out | exact heap_alloc_new _ _ | (apply heap_alloc_new'; first | rfl | (simp; done)) | apply heap_alloc_old | apply st_0_2 | apply st_1_2 | apply st_0_3 | apply st_1_3 | apply st_2_3 | apply st_0_4 | apply st_1_4 | apply st_2_4 | apply st_3_4 | (apply other_set; case hne => omega) | exact heap_alloc_new' _ _ (by first | rfl | (simp; done)))))
  have HK14_10 := Lib.hid (hL.keep (k := w6.heap.size) (by repeat (with_reducible first | exact HK14_9.out | exact heap_alloc_new _ _ | (apply heap_alloc_new'; first | rfl | (simp; done)) | apply heap_alloc_old | apply st_0_2 | apply st_1_2 | apply st_0_3 | apply st_1_3 | apply st_2_3 | apply st_0_4 | apply st_1_4 | apply st_2_4 | apply st_3_4 | (apply other_set; case hne => omega) | exact heap_alloc_new' _ _ (by first | rfl | (simp; done)))))
  have HK15_10 := Lib.hid (hL.keep (k := w6.heap.size + 1) (by repeat (with_reducible first | exact HK15_9.out | exact heap_alloc_new _ _ | (apply heap_alloc_new'; first | rfl | (simp; done)) | apply heap_alloc_old | apply st_0_2 | apply st_1_2 | apply st_0_3 | apply st_1_3 | apply st_2_3 | apply st_0_4 | apply st_1_4 | apply st_2_4 | apply st_3_4 | (apply other_set; case hne => omega) | exact heap_alloc_new' _ _ (by first | rfl | (simp; done)))))
  have HK16_10 := Lib.hid (hL.keep (k := w6.heap.size + 1 + 1) (by repeat (with_reducible first | exact HK16_9.out | exact heap_alloc_new _ _ | (apply heap_alloc_new'; first | rfl | (simp; done)) | apply heap_alloc_old | apply st_0_2 | apply st_1_2 | apply st_0_3 | apply st_1_3 | apply st_2_3 | apply st_0_4 | apply st_1_4 | apply st_2_4 | apply st_3_4 | (apply other_set; case hne => omega) | exact heap_alloc_new' _ _ (by first | rfl | (simp; done)))))
  have HK17_10 := Lib.hid (hL.keep (k := w7.heap.size) (by repeat (with_reducible first | exact HK17_9.out | exact heap_alloc_new _ _ | (apply heap_alloc_new'; first | rfl | (simp; done)) | apply heap_alloc_old | apply st_0_2 | apply st_1_2 | apply st_0_3 | apply st_1_3 | apply st_2_3 | apply st_0_4 | apply st_1_4 | apply st_2_4 | apply st_3_4 | (apply other_set; case hne => omega) | exact heap_alloc_new' _ _ (by first | rfl | (simp; done)))))
  have HK19_10 := Lib.hid (hL.keep (k := w8.heap.size) (by repeat (with_reducible first | exact HK19_9.out | exact heap_alloc_new _ _ | (apply heap_alloc_new'; first | rfl | (simp; done)) | apply heap_alloc_old | apply st_0_2 | apply st_1_2 | apply st_0_3 | apply st_1_3 | apply st_2_3 | apply st_0_4 | apply st_1_4 | apply st_2_4 | apply st_3_4 | (apply other_set; case hne => omega) | exact heap_alloc_new' _ _ (by first | rfl | (simp; done)))))
  clear hL c3 f3 c4 f4 c6 f6 c8 f8 c14 f14 c15 f15 c16 f16 c17 f17 c19 f19
  obtain ⟨c3, f3, z3_10⟩ := blk_at HK3_10.out
  obtain ⟨c4, f4, z4_10⟩ := blk_at HK4_10.out
  obtain ⟨c6, f6, z6_10⟩ := blk_at HK6_10.out
  obtain ⟨c8, f8, z8_10⟩ := blk_at HK8_10.out
  obtain ⟨c14, f14, z14_10⟩ := blk_at HK14_10.out
  obtain ⟨c15, f15, z15_10⟩ := blk_at HK15_10.out
  obtain ⟨c16, f16, z16_10⟩ := blk_at HK16_10.out
  obtain ⟨c17, f17, z17_10⟩ := blk_at HK17_10.out
  obtain ⟨c19, f19, z19_10⟩ := blk_at HK19_10.out
  clear HOp_10
  clear HOq_10
  clear HK8_10 c8 f8
  clear HK14_10 c14 f14
  clear HK15_10 c15 f15
  clear HK16_10 c16 f16
  clear HK17_10 c17 f17
  clear HK19_10 c19 f19
  by_cases hbad : runC ⟨n, st, sd⟩ ⟨s.sh, s.cu⟩ l = 5
  · skip
    obtain ⟨hf, p, hp, hpl, hr0, hr5⟩ := run_stops hbad
    rw [hbad, hp, hf]
    have HR0 := Lib.hid hr0
    have HR5 := Lib.hid hr5
    clear hr0 hr5 hp hf hbad
    go_wp2_with fail
    have hL0 := HW10.out
    have hSB := HW10.out.size
    have K3 := HK3_10.out
    have K4 := HK4_10.out
    have K6 := HK6_10.out
    have Qu := HOu_10.out
    have Qv := HOv_10.out
    have Qz := HOz_10.out
    clear c3 f3 c4 f4 c6 f6
    have NBu := own_le Qu
    have NBv := own_le Qv
    have NBz := own_le Qz
    refine region_slots 200 [124, 125, 126, 127, 128, 129, 123, 130, 131, 21, 22] (fun g ac wc => sl ac 3 = .pointer (some ⟨w1.heap.size, 0, none⟩) ∧
      sl ac 4 = .pointer (some ⟨w1.heap.size + 1, 0, none⟩) ∧
      sl ac 5 = .slice az l.length capz ∧
      sl ac 12 = .int .i64 (p : Nat) ∧
      (g 0 = true → sl ac 124 = .agg #[.int .i64 n, .slice au st.length capu, .slice av sd.length capv]) ∧
      (g 1 = true → sl ac 125 = .agg #[.int .i64 s.sh, .int .i64 s.cu]) ∧
      (g 2 = true → sl ac 126 = .slice az l.length capz) ∧
      (g 3 = true → sl ac 127 = .int .i64 (p : Nat)) ∧
      (g 4 = true → sl ac 128 = .slice az p capz) ∧
      (g 5 = true → sl ac 129 = .tuple #[.agg #[.int .i64 (runMv ⟨n, st, sd⟩ ⟨s.sh, s.cu⟩ (l.take p)).sh, .int .i64 (runMv ⟨n, st, sd⟩ ⟨s.sh, s.cu⟩ (l.take p)).cu], .int .i64 0]) ∧
      (g 6 = true → sl ac 123 = .tuple #[.agg #[.int .i64 (runMv ⟨n, st, sd⟩ ⟨s.sh, s.cu⟩ (l.take p)).sh, .int .i64 (runMv ⟨n, st, sd⟩ ⟨s.sh, s.cu⟩ (l.take p)).cu], .int .i64 0]) ∧
      (g 7 = true → sl ac 130 = .agg #[.int .i64 (runMv ⟨n, st, sd⟩ ⟨s.sh, s.cu⟩ (l.take p)).sh, .int .i64 (runMv ⟨n, st, sd⟩ ⟨s.sh, s.cu⟩ (l.take p)).cu]) ∧
      (g 8 = true → sl ac 131 = .int .i64 0) ∧
      (g 11 = true → sl ac 22 = .int .i64 0) ∧
      Later W wc ∧
      (g 9 = true → ∃ k, sl ac 21 = .pointer (some ⟨k, 0, none⟩) ∧ w10.heap.size ≤ k ∧ ∃ q9_0 q9_1, wc.heap[k]? = some (.cells #[q9_0, q9_1] 66 (0, 0)) ∧ (g 10 = true → q9_0 = .int .i64 (runMv ⟨n, st, sd⟩ ⟨s.sh, s.cu⟩ (l.take p)).sh ∧ q9_1 = .int .i64 (runMv ⟨n, st, sd⟩ ⟨s.sh, s.cu⟩ (l.take p)).cu)) ∧
      wc.ownsRow W.heap.size 2 1 (.slice au st.length capu) (st.length) (nums st) ∧
      wc.ownsRow W.heap.size 2 1 (.slice av sd.length capv) (sd.length) (nums sd) ∧
      wc.ownsRow W.heap.size 74 4 (.slice az l.length capz) (l.length) (movs l) ∧
      (g 10 = true → g 9 = true) ∧
      w10.heap.size ≤ wc.heap.size ∧
      wc.heap[w1.heap.size]? = some (.cells #[.int .i64 n, .slice au st.length capu, .slice av sd.length capv] 64 (0, 0)) ∧
      wc.heap[w1.heap.size + 1]? = some (.cells #[.int .i64 s.sh, .int .i64 s.cu] 66 (0, 0)) ∧
      wc.heap[w2.heap.size]? = some (.cells #[.int .i64 (runMv ⟨n, st, sd⟩ ⟨s.sh, s.cu⟩ l).sh, .int .i64 (runMv ⟨n, st, sd⟩ ⟨s.sh, s.cu⟩ l).cu] 66 (0, 0))) (by kernel_rfl) (by kernel_rfl) rfl (by kernel_rfl) ?_ ?_ ?_
    · exact ⟨rfl, rfl, rfl, rfl, nofun, nofun, nofun, nofun, nofun, nofun, nofun, nofun, nofun, nofun, hL0.drew, nofun, owns_later Qu (Later.refl _).drew, owns_later Qv (Later.refl _).drew, owns_later Qz (Later.refl _).drew, nofun, Nat.le_refl _, K3, K4, K6⟩
    · intro g ac wu hg ha hI
      obtain ⟨x3, x4, x5, x12, i0, i1, i2, i3, i4, i5, i6, i7, i8, i11, hL, n9, Qu, Qv, Qz, -, hS, B3, B4, B6⟩ := hI
      have a0 := i0 (hg 0 (by simp))
      have a1 := i1 (hg 1 (by simp))
      have a2 := i2 (hg 2 (by simp))
      have a3 := i3 (hg 3 (by simp))
      have a4 := i4 (hg 4 (by simp))
      have a5 := i5 (hg 5 (by simp))
      have a6 := i6 (hg 6 (by simp))
      have a7 := i7 (hg 7 (by simp))
      have a8 := i8 (hg 8 (by simp))
      have a11 := i11 (hg 11 (by simp))
      obtain ⟨kr9, e9, br9, q9_0, q9_1, Kr9, g9⟩ := n9 (hg 9 (by simp))
      have g9 := g9 (hg 10 (by simp))
      rw [g9.1, g9.2] at Kr9
      clear g9
      simp only [putAll, a0, a1, a2, a3, a4, a5, a6, a7, a8, a11, e9] at ha
      simp only [Act.put, List.setIfInBounds_toArray, List.set_cons_succ, List.set_cons_zero] at ha
      rw [ha]
      clear x3 x4 x5 x12 i0 i1 i2 i3 i4 i5 i6 i7 i8 i11 a0 a1 a2 a3 a4 a5 a6 a7 a8 a11 e9 n9 hg ha
      have HW110 := Lib.hid hL
      have hz110 := hL.size
      have HK3_110 := Lib.hid B3
      have HK4_110 := Lib.hid B4
      have HK6_110 := Lib.hid B6
      have HOu_110 := Lib.hid Qu
      have HOv_110 := Lib.hid Qv
      have HOz_110 := Lib.hid Qz
      have HKNr_110 := Lib.hid Kr9
      have hzwu := hS
      clear hL hS B3 B4 B6 Kr9 hL0 K3 K4 K6 Qu Qv Qz
      obtain ⟨c3, f3, z3_110⟩ := blk_at HK3_110.out
      obtain ⟨c4, f4, z4_110⟩ := blk_at HK4_110.out
      obtain ⟨c6, f6, z6_110⟩ := blk_at HK6_110.out
      obtain ⟨cNr, fNr, zNr_110⟩ := blk_at HKNr_110.out
      go_wp2_with fail
      have hL0 := HW110.out
      have hSB := HW110.out.size
      have K3 := HK3_110.out
      have K4 := HK4_110.out
      have K6 := HK6_110.out
      have KNr := HKNr_110.out
      have Qu := HOu_110.out
      have Qv := HOv_110.out
      have Qz := HOz_110.out
      clear c3 f3 c4 f4 c6 f6 cNr fNr
      have NBu := own_le Qu
      have NBv := own_le Qv
      have NBz := own_le Qz
      refine region_slots 200 [133, 134, 135, 136, 137, 138, 139, 132, 140, 141, 23, 24] (fun g ac wc => sl ac 3 = .pointer (some ⟨w1.heap.size, 0, none⟩) ∧
        sl ac 4 = .pointer (some ⟨w1.heap.size + 1, 0, none⟩) ∧
        sl ac 5 = .slice az l.length capz ∧
        sl ac 12 = .int .i64 (p : Nat) ∧
        (g 0 = true → sl ac 133 = .agg #[.int .i64 n, .slice au st.length capu, .slice av sd.length capv]) ∧
        (g 1 = true → sl ac 134 = .agg #[.int .i64 s.sh, .int .i64 s.cu]) ∧
        (g 2 = true → sl ac 135 = .slice az l.length capz) ∧
        (g 3 = true → sl ac 136 = .int .i64 (p : Nat)) ∧
        (g 4 = true → sl ac 137 = .int .i64 ((p : Int) + 1)) ∧
        (g 5 = true → sl ac 138 = .slice az (p + 1) capz) ∧
        (g 6 = true → sl ac 139 = .tuple #[.agg #[.int .i64 (runMv ⟨n, st, sd⟩ ⟨s.sh, s.cu⟩ (l.take (p + 1))).sh, .int .i64 (runMv ⟨n, st, sd⟩ ⟨s.sh, s.cu⟩ (l.take (p + 1))).cu], .int .i64 5]) ∧
        (g 7 = true → sl ac 132 = .tuple #[.agg #[.int .i64 (runMv ⟨n, st, sd⟩ ⟨s.sh, s.cu⟩ (l.take (p + 1))).sh, .int .i64 (runMv ⟨n, st, sd⟩ ⟨s.sh, s.cu⟩ (l.take (p + 1))).cu], .int .i64 5]) ∧
        (g 8 = true → sl ac 140 = .agg #[.int .i64 (runMv ⟨n, st, sd⟩ ⟨s.sh, s.cu⟩ (l.take (p + 1))).sh, .int .i64 (runMv ⟨n, st, sd⟩ ⟨s.sh, s.cu⟩ (l.take (p + 1))).cu]) ∧
        (g 9 = true → sl ac 141 = .int .i64 5) ∧
        (g 12 = true → sl ac 24 = .int .i64 5) ∧
        Later W wc ∧
        (g 10 = true → ∃ k, sl ac 23 = .pointer (some ⟨k, 0, none⟩) ∧ wu.heap.size ≤ k ∧ ∃ q10_0 q10_1, wc.heap[k]? = some (.cells #[q10_0, q10_1] 66 (0, 0)) ∧ (g 11 = true → q10_0 = .int .i64 (runMv ⟨n, st, sd⟩ ⟨s.sh, s.cu⟩ (l.take (p + 1))).sh ∧ q10_1 = .int .i64 (runMv ⟨n, st, sd⟩ ⟨s.sh, s.cu⟩ (l.take (p + 1))).cu)) ∧
        wc.ownsRow W.heap.size 2 1 (.slice au st.length capu) (st.length) (nums st) ∧
        wc.ownsRow W.heap.size 2 1 (.slice av sd.length capv) (sd.length) (nums sd) ∧
        wc.ownsRow W.heap.size 74 4 (.slice az l.length capz) (l.length) (movs l) ∧
        (g 11 = true → g 10 = true) ∧
        wu.heap.size ≤ wc.heap.size ∧
        wc.heap[w1.heap.size]? = some (.cells #[.int .i64 n, .slice au st.length capu, .slice av sd.length capv] 64 (0, 0)) ∧
        wc.heap[w1.heap.size + 1]? = some (.cells #[.int .i64 s.sh, .int .i64 s.cu] 66 (0, 0)) ∧
        wc.heap[w2.heap.size]? = some (.cells #[.int .i64 (runMv ⟨n, st, sd⟩ ⟨s.sh, s.cu⟩ l).sh, .int .i64 (runMv ⟨n, st, sd⟩ ⟨s.sh, s.cu⟩ l).cu] 66 (0, 0)) ∧
        wc.heap[kr9]? = some (.cells #[.int .i64 (runMv ⟨n, st, sd⟩ ⟨s.sh, s.cu⟩ (l.take p)).sh, .int .i64 (runMv ⟨n, st, sd⟩ ⟨s.sh, s.cu⟩ (l.take p)).cu] 66 (0, 0))) (by kernel_rfl) (by kernel_rfl) rfl (by kernel_rfl) ?_ ?_ ?_
      · exact ⟨rfl, rfl, rfl, rfl, nofun, nofun, nofun, nofun, nofun, nofun, nofun, nofun, nofun, nofun, nofun, hL0.drew, nofun, owns_later Qu (Later.refl _).drew, owns_later Qv (Later.refl _).drew, owns_later Qz (Later.refl _).drew, nofun, Nat.le_refl _, K3, K4, K6, KNr⟩
      · intro g ac us hg ha hI
        obtain ⟨x3, x4, x5, x12, i0, i1, i2, i3, i4, i5, i6, i7, i8, i9, i12, hL, n10, Qu, Qv, Qz, -, hS, B3, B4, B6, BNr⟩ := hI
        have a0 := i0 (hg 0 (by simp))
        have a1 := i1 (hg 1 (by simp))
        have a2 := i2 (hg 2 (by simp))
        have a3 := i3 (hg 3 (by simp))
        have a4 := i4 (hg 4 (by simp))
        have a5 := i5 (hg 5 (by simp))
        have a6 := i6 (hg 6 (by simp))
        have a7 := i7 (hg 7 (by simp))
        have a8 := i8 (hg 8 (by simp))
        have a9 := i9 (hg 9 (by simp))
        have a12 := i12 (hg 12 (by simp))
        obtain ⟨ks10, e10, bs10, q10_0, q10_1, Ks10, g10⟩ := n10 (hg 10 (by simp))
        have g10 := g10 (hg 11 (by simp))
        rw [g10.1, g10.2] at Ks10
        clear g10
        simp only [putAll, a0, a1, a2, a3, a4, a5, a6, a7, a8, a9, a12, e10] at ha
        simp only [Act.put, List.setIfInBounds_toArray, List.set_cons_succ, List.set_cons_zero] at ha
        rw [ha]
        clear x3 x4 x5 x12 i0 i1 i2 i3 i4 i5 i6 i7 i8 i9 i12 a0 a1 a2 a3 a4 a5 a6 a7 a8 a9 a12 e10 n10 hg ha
        have HW210 := Lib.hid hL
        have hz210 := hL.size
        have HK3_210 := Lib.hid B3
        have HK4_210 := Lib.hid B4
        have HK6_210 := Lib.hid B6
        have HKNr_210 := Lib.hid BNr
        have HOu_210 := Lib.hid Qu
        have HOv_210 := Lib.hid Qv
        have HOz_210 := Lib.hid Qz
        have HKNs_210 := Lib.hid Ks10
        have hzus := hS
        clear hL hS B3 B4 B6 BNr Ks10 hL0 K3 K4 K6 KNr Qu Qv Qz
        obtain ⟨c3, f3, z3_210⟩ := blk_at HK3_210.out
        obtain ⟨c4, f4, z4_210⟩ := blk_at HK4_210.out
        obtain ⟨c6, f6, z6_210⟩ := blk_at HK6_210.out
        obtain ⟨cNr, fNr, zNr_210⟩ := blk_at HKNr_210.out
        obtain ⟨cNs, fNs, zNs_210⟩ := blk_at HKNs_210.out
        go_wp2
        go_ret
        exact ⟨rfl, (by repeat (with_reducible first | exact HW210.out | refine Later.alloc ?_ _ | refine Later.drew ?_ | refine Later.drewN ?_ _ | refine Later.setCell ?_ (by first | omega | (simp; omega)) _))⟩
      · refine .cons ?_ (.cons ?_ (.cons ?_ (.cons ?_ (.cons ?_ (.cons ?_ (.cons ?_ (.cons ?_ (.cons ?_ (.cons ?_ (.cons ?_ (.cons ?_ (.cons ?_ .nil))))))))))))
        · unfold SlotStep
          intro g ac wc hn hk hr hI K' hK
          obtain ⟨x3, x4, x5, x12, i0, i1, i2, i3, i4, i5, i6, i7, i8, i9, i12, hL, n10, Qu, Qv, Qz, m11_10, hS, B3, B4, B6, BNr⟩ := hI
          simp only [Region.binds] at hr
          simp at hr
          replace hK := Lib.hid hK
          replace i0 := Lib.hid i0
          replace i1 := Lib.hid i1
          replace i2 := Lib.hid i2
          replace i3 := Lib.hid i3
          replace i4 := Lib.hid i4
          replace i5 := Lib.hid i5
          replace i6 := Lib.hid i6
          replace i7 := Lib.hid i7
          replace i8 := Lib.hid i8
          replace i9 := Lib.hid i9
          replace i12 := Lib.hid i12
          replace n10 := Lib.hid n10
          replace Qu := Lib.hid Qu
          replace Qv := Lib.hid Qv
          replace Qz := Lib.hid Qz
          have hbb := blk_at B3
          have cb := hbb.1
          have fb := hbb.2.1
          have zb := hbb.2.2
          clear hbb
          go_simp
          exact hK.out _ _ ⟨(keepB x3 (by decide)), (keepB x4 (by decide)), (keepB x5 (by decide)), (keepB x12 (by decide)), (fun _ => put_eq (by omega)), (keepF i1.out (by decide)), (keepF i2.out (by decide)), (keepF i3.out (by decide)), (keepF i4.out (by decide)), (keepF i5.out (by decide)), (keepF i6.out (by decide)), (keepF i7.out (by decide)), (keepF i8.out (by decide)), (keepF i9.out (by decide)), (keepF i12.out (by decide)), hL, (fun h => by obtain ⟨k, e1, e2, q10_0, q10_1, e3, e4⟩ := n10.out h; exact ⟨k, (put_ne (by decide)).trans e1, e2, q10_0, q10_1, e3, e4⟩), Qu.out, Qv.out, Qz.out, m11_10, hS, B3, B4, B6, BNr⟩
        · unfold SlotStep
          intro g ac wc hn hk hr hI K' hK
          obtain ⟨x3, x4, x5, x12, i0, i1, i2, i3, i4, i5, i6, i7, i8, i9, i12, hL, n10, Qu, Qv, Qz, m11_10, hS, B3, B4, B6, BNr⟩ := hI
          simp only [Region.binds] at hr
          simp at hr
          replace hK := Lib.hid hK
          replace i0 := Lib.hid i0
          replace i1 := Lib.hid i1
          replace i2 := Lib.hid i2
          replace i3 := Lib.hid i3
          replace i4 := Lib.hid i4
          replace i5 := Lib.hid i5
          replace i6 := Lib.hid i6
          replace i7 := Lib.hid i7
          replace i8 := Lib.hid i8
          replace i9 := Lib.hid i9
          replace i12 := Lib.hid i12
          replace n10 := Lib.hid n10
          replace Qu := Lib.hid Qu
          replace Qv := Lib.hid Qv
          replace Qz := Lib.hid Qz
          have hbb := blk_at B4
          have cb := hbb.1
          have fb := hbb.2.1
          have zb := hbb.2.2
          clear hbb
          go_simp
          exact hK.out _ _ ⟨(keepB x3 (by decide)), (keepB x4 (by decide)), (keepB x5 (by decide)), (keepB x12 (by decide)), (keepF i0.out (by decide)), (fun _ => put_eq (by omega)), (keepF i2.out (by decide)), (keepF i3.out (by decide)), (keepF i4.out (by decide)), (keepF i5.out (by decide)), (keepF i6.out (by decide)), (keepF i7.out (by decide)), (keepF i8.out (by decide)), (keepF i9.out (by decide)), (keepF i12.out (by decide)), hL, (fun h => by obtain ⟨k, e1, e2, q10_0, q10_1, e3, e4⟩ := n10.out h; exact ⟨k, (put_ne (by decide)).trans e1, e2, q10_0, q10_1, e3, e4⟩), Qu.out, Qv.out, Qz.out, m11_10, hS, B3, B4, B6, BNr⟩
        · unfold SlotStep
          intro g ac wc hn hk hr hI K' hK
          obtain ⟨x3, x4, x5, x12, i0, i1, i2, i3, i4, i5, i6, i7, i8, i9, i12, hL, n10, Qu, Qv, Qz, m11_10, hS, B3, B4, B6, BNr⟩ := hI
          simp only [Region.binds] at hr
          simp at hr
          replace hK := Lib.hid hK
          replace i0 := Lib.hid i0
          replace i1 := Lib.hid i1
          replace i2 := Lib.hid i2
          replace i3 := Lib.hid i3
          replace i4 := Lib.hid i4
          replace i5 := Lib.hid i5
          replace i6 := Lib.hid i6
          replace i7 := Lib.hid i7
          replace i8 := Lib.hid i8
          replace i9 := Lib.hid i9
          replace i12 := Lib.hid i12
          replace n10 := Lib.hid n10
          replace Qu := Lib.hid Qu
          replace Qv := Lib.hid Qv
          replace Qz := Lib.hid Qz
          go_simp
          exact hK.out _ _ ⟨(keepB x3 (by decide)), (keepB x4 (by decide)), (keepB x5 (by decide)), (keepB x12 (by decide)), (keepF i0.out (by decide)), (keepF i1.out (by decide)), (fun _ => put_eq (by omega)), (keepF i3.out (by decide)), (keepF i4.out (by decide)), (keepF i5.out (by decide)), (keepF i6.out (by decide)), (keepF i7.out (by decide)), (keepF i8.out (by decide)), (keepF i9.out (by decide)), (keepF i12.out (by decide)), hL, (fun h => by obtain ⟨k, e1, e2, q10_0, q10_1, e3, e4⟩ := n10.out h; exact ⟨k, (put_ne (by decide)).trans e1, e2, q10_0, q10_1, e3, e4⟩), Qu.out, Qv.out, Qz.out, m11_10, hS, B3, B4, B6, BNr⟩
        · unfold SlotStep
          intro g ac wc hn hk hr hI K' hK
          obtain ⟨x3, x4, x5, x12, i0, i1, i2, i3, i4, i5, i6, i7, i8, i9, i12, hL, n10, Qu, Qv, Qz, m11_10, hS, B3, B4, B6, BNr⟩ := hI
          simp only [Region.binds] at hr
          simp at hr
          replace hK := Lib.hid hK
          replace i0 := Lib.hid i0
          replace i1 := Lib.hid i1
          replace i2 := Lib.hid i2
          replace i3 := Lib.hid i3
          replace i4 := Lib.hid i4
          replace i5 := Lib.hid i5
          replace i6 := Lib.hid i6
          replace i7 := Lib.hid i7
          replace i8 := Lib.hid i8
          replace i9 := Lib.hid i9
          replace i12 := Lib.hid i12
          replace n10 := Lib.hid n10
          replace Qu := Lib.hid Qu
          replace Qv := Lib.hid Qv
          replace Qz := Lib.hid Qz
          go_simp
          exact hK.out _ _ ⟨(keepB x3 (by decide)), (keepB x4 (by decide)), (keepB x5 (by decide)), (keepB x12 (by decide)), (keepF i0.out (by decide)), (keepF i1.out (by decide)), (keepF i2.out (by decide)), (fun _ => put_eq (by omega)), (keepF i4.out (by decide)), (keepF i5.out (by decide)), (keepF i6.out (by decide)), (keepF i7.out (by decide)), (keepF i8.out (by decide)), (keepF i9.out (by decide)), (keepF i12.out (by decide)), hL, (fun h => by obtain ⟨k, e1, e2, q10_0, q10_1, e3, e4⟩ := n10.out h; exact ⟨k, (put_ne (by decide)).trans e1, e2, q10_0, q10_1, e3, e4⟩), Qu.out, Qv.out, Qz.out, m11_10, hS, B3, B4, B6, BNr⟩
        · unfold SlotStep
          intro g ac wc hn hk hr hI K' hK
          obtain ⟨x3, x4, x5, x12, i0, i1, i2, i3, i4, i5, i6, i7, i8, i9, i12, hL, n10, Qu, Qv, Qz, m11_10, hS, B3, B4, B6, BNr⟩ := hI
          simp only [Region.binds] at hr
          simp at hr
          replace hK := Lib.hid hK
          have y3 := i3 (by first | exact hr | exact hr.1 | exact hr.2 | exact hr.2.1 | exact hr.2.2 | exact hr.2.2.1 | exact hr.2.2.2 | simp [hr])
          have z3 := sl_get y3 (by omega)
          replace i0 := Lib.hid i0
          replace i1 := Lib.hid i1
          replace i2 := Lib.hid i2
          replace i3 := Lib.hid i3
          replace i4 := Lib.hid i4
          replace i5 := Lib.hid i5
          replace i6 := Lib.hid i6
          replace i7 := Lib.hid i7
          replace i8 := Lib.hid i8
          replace i9 := Lib.hid i9
          replace i12 := Lib.hid i12
          replace n10 := Lib.hid n10
          replace Qu := Lib.hid Qu
          replace Qv := Lib.hid Qv
          replace Qz := Lib.hid Qz
          have wD : IntKind.i64.wrap ((p : Int) + 1) = (p : Int) + 1 := wrap_same (by omega) (by omega)
          go_simp
          exact hK.out _ _ ⟨(keepB x3 (by decide)), (keepB x4 (by decide)), (keepB x5 (by decide)), (keepB x12 (by decide)), (keepF i0.out (by decide)), (keepF i1.out (by decide)), (keepF i2.out (by decide)), (keepF i3.out (by decide)), (fun _ => put_eq (by omega)), (keepF i5.out (by decide)), (keepF i6.out (by decide)), (keepF i7.out (by decide)), (keepF i8.out (by decide)), (keepF i9.out (by decide)), (keepF i12.out (by decide)), hL, (fun h => by obtain ⟨k, e1, e2, q10_0, q10_1, e3, e4⟩ := n10.out h; exact ⟨k, (put_ne (by decide)).trans e1, e2, q10_0, q10_1, e3, e4⟩), Qu.out, Qv.out, Qz.out, m11_10, hS, B3, B4, B6, BNr⟩
        · unfold SlotStep
          intro g ac wc hn hk hr hI K' hK
          obtain ⟨x3, x4, x5, x12, i0, i1, i2, i3, i4, i5, i6, i7, i8, i9, i12, hL, n10, Qu, Qv, Qz, m11_10, hS, B3, B4, B6, BNr⟩ := hI
          simp only [Region.binds] at hr
          simp at hr
          replace hK := Lib.hid hK
          have y2 := i2 (by first | exact hr | exact hr.1 | exact hr.2 | exact hr.2.1 | exact hr.2.2 | exact hr.2.2.1 | exact hr.2.2.2 | simp [hr])
          have y4 := i4 (by first | exact hr | exact hr.1 | exact hr.2 | exact hr.2.1 | exact hr.2.2 | exact hr.2.2.1 | exact hr.2.2.2 | simp [hr])
          have z2 := sl_get y2 (by omega)
          have z4 := sl_get y4 (by omega)
          replace i0 := Lib.hid i0
          replace i1 := Lib.hid i1
          replace i2 := Lib.hid i2
          replace i3 := Lib.hid i3
          replace i4 := Lib.hid i4
          replace i5 := Lib.hid i5
          replace i6 := Lib.hid i6
          replace i7 := Lib.hid i7
          replace i8 := Lib.hid i8
          replace i9 := Lib.hid i9
          replace i12 := Lib.hid i12
          replace n10 := Lib.hid n10
          replace Qu := Lib.hid Qu
          replace Qv := Lib.hid Qv
          replace Qz := Lib.hid Qz
          have htn : ((p : Int) + 1).toNat = p + 1 := by omega
          have hle : (0 ≤ (p : Int) + 1) = True := by simp; omega
          have hle2 : ((p : Int) + 1 ≤ (capz : Int)) = True := by simp; omega
          go_simp
          exact hK.out _ _ ⟨(keepB x3 (by decide)), (keepB x4 (by decide)), (keepB x5 (by decide)), (keepB x12 (by decide)), (keepF i0.out (by decide)), (keepF i1.out (by decide)), (keepF i2.out (by decide)), (keepF i3.out (by decide)), (keepF i4.out (by decide)), (fun _ => put_eq (by omega)), (keepF i6.out (by decide)), (keepF i7.out (by decide)), (keepF i8.out (by decide)), (keepF i9.out (by decide)), (keepF i12.out (by decide)), hL, (fun h => by obtain ⟨k, e1, e2, q10_0, q10_1, e3, e4⟩ := n10.out h; exact ⟨k, (put_ne (by decide)).trans e1, e2, q10_0, q10_1, e3, e4⟩), Qu.out, Qv.out, Qz.out, m11_10, hS, B3, B4, B6, BNr⟩
        · unfold SlotStep
          intro g ac wc hn hk hr hI K' hK
          obtain ⟨x3, x4, x5, x12, i0, i1, i2, i3, i4, i5, i6, i7, i8, i9, i12, hL, n10, Qu, Qv, Qz, m11_10, hS, B3, B4, B6, BNr⟩ := hI
          simp only [Region.binds] at hr
          simp at hr
          replace hK := Lib.hid hK
          have y0 := i0 (by first | exact hr | exact hr.1 | exact hr.2 | exact hr.2.1 | exact hr.2.2 | exact hr.2.2.1 | exact hr.2.2.2 | simp [hr])
          have y1 := i1 (by first | exact hr | exact hr.1 | exact hr.2 | exact hr.2.1 | exact hr.2.2 | exact hr.2.2.1 | exact hr.2.2.2 | simp [hr])
          have y5 := i5 (by first | exact hr | exact hr.1 | exact hr.2 | exact hr.2.1 | exact hr.2.2 | exact hr.2.2.1 | exact hr.2.2.2 | simp [hr])
          have z0 := sl_get y0 (by omega)
          have z1 := sl_get y1 (by omega)
          have z5 := sl_get y5 (by omega)
          replace i0 := Lib.hid i0
          replace i1 := Lib.hid i1
          replace i2 := Lib.hid i2
          replace i3 := Lib.hid i3
          replace i4 := Lib.hid i4
          replace i5 := Lib.hid i5
          replace i6 := Lib.hid i6
          replace i7 := Lib.hid i7
          replace i8 := Lib.hid i8
          replace i9 := Lib.hid i9
          replace i12 := Lib.hid i12
          replace n10 := Lib.hid n10
          replace Qu := Lib.hid Qu
          replace Qv := Lib.hid Qv
          replace Qz := Lib.hid Qz
          go_simp
          refine (w_implRunMoves n _ _ st sd s.sh s.cu _ (l.take (p + 1)) wc (reads_of_owns Qu.out (by omega)) (reads_of_owns Qv.out (by omega)) (IsMovs.take (reads_of_owns Qz.out (by omega)) (by omega))).mono ?_
          rintro e w4 ⟨rfl, hL4⟩
          rw [HR5.out]
          exact hK.out _ _ ⟨(keepB x3 (by decide)), (keepB x4 (by decide)), (keepB x5 (by decide)), (keepB x12 (by decide)), (keepF i0.out (by decide)), (keepF i1.out (by decide)), (keepF i2.out (by decide)), (keepF i3.out (by decide)), (keepF i4.out (by decide)), (keepF i5.out (by decide)), (fun _ => put_eq (by omega)), (keepF i7.out (by decide)), (keepF i8.out (by decide)), (keepF i9.out (by decide)), (keepF i12.out (by decide)), hL.trans hL4, (fun h => by obtain ⟨k, e1, e2, q10_0, q10_1, e3, e4⟩ := n10.out h; exact ⟨k, (put_ne (by decide)).trans e1, e2, q10_0, q10_1, hL4.keep e3, e4⟩), (owns_later Qu.out hL4), (owns_later Qv.out hL4), (owns_later Qz.out hL4), m11_10, Nat.le_trans hS hL4.size, (hL4.keep B3), (hL4.keep B4), (hL4.keep B6), (hL4.keep BNr)⟩
        · unfold SlotStep
          intro g ac wc hn hk hr hI K' hK
          obtain ⟨x3, x4, x5, x12, i0, i1, i2, i3, i4, i5, i6, i7, i8, i9, i12, hL, n10, Qu, Qv, Qz, m11_10, hS, B3, B4, B6, BNr⟩ := hI
          simp only [Region.binds] at hr
          simp at hr
          replace hK := Lib.hid hK
          have y6 := i6 (by first | exact hr | exact hr.1 | exact hr.2 | exact hr.2.1 | exact hr.2.2 | exact hr.2.2.1 | exact hr.2.2.2 | simp [hr])
          have z6 := sl_get y6 (by omega)
          replace i0 := Lib.hid i0
          replace i1 := Lib.hid i1
          replace i2 := Lib.hid i2
          replace i3 := Lib.hid i3
          replace i4 := Lib.hid i4
          replace i5 := Lib.hid i5
          replace i6 := Lib.hid i6
          replace i7 := Lib.hid i7
          replace i8 := Lib.hid i8
          replace i9 := Lib.hid i9
          replace i12 := Lib.hid i12
          replace n10 := Lib.hid n10
          replace Qu := Lib.hid Qu
          replace Qv := Lib.hid Qv
          replace Qz := Lib.hid Qz
          go_simp
          exact hK.out _ _ ⟨(keepB x3 (by decide)), (keepB x4 (by decide)), (keepB x5 (by decide)), (keepB x12 (by decide)), (keepF i0.out (by decide)), (keepF i1.out (by decide)), (keepF i2.out (by decide)), (keepF i3.out (by decide)), (keepF i4.out (by decide)), (keepF i5.out (by decide)), (keepF i6.out (by decide)), (fun _ => put_eq (by omega)), (keepF i8.out (by decide)), (keepF i9.out (by decide)), (keepF i12.out (by decide)), hL, (fun h => by obtain ⟨k, e1, e2, q10_0, q10_1, e3, e4⟩ := n10.out h; exact ⟨k, (put_ne (by decide)).trans e1, e2, q10_0, q10_1, e3, e4⟩), Qu.out, Qv.out, Qz.out, m11_10, hS, B3, B4, B6, BNr⟩
        · unfold SlotStep
          intro g ac wc hn hk hr hI K' hK
          obtain ⟨x3, x4, x5, x12, i0, i1, i2, i3, i4, i5, i6, i7, i8, i9, i12, hL, n10, Qu, Qv, Qz, m11_10, hS, B3, B4, B6, BNr⟩ := hI
          simp only [Region.binds] at hr
          simp at hr
          replace hK := Lib.hid hK
          have y7 := i7 (by first | exact hr | exact hr.1 | exact hr.2 | exact hr.2.1 | exact hr.2.2 | exact hr.2.2.1 | exact hr.2.2.2 | simp [hr])
          have z7 := sl_get y7 (by omega)
          replace i0 := Lib.hid i0
          replace i1 := Lib.hid i1
          replace i2 := Lib.hid i2
          replace i3 := Lib.hid i3
          replace i4 := Lib.hid i4
          replace i5 := Lib.hid i5
          replace i6 := Lib.hid i6
          replace i7 := Lib.hid i7
          replace i8 := Lib.hid i8
          replace i9 := Lib.hid i9
          replace i12 := Lib.hid i12
          replace n10 := Lib.hid n10
          replace Qu := Lib.hid Qu
          replace Qv := Lib.hid Qv
          replace Qz := Lib.hid Qz
          go_simp
          exact hK.out _ _ ⟨(keepB x3 (by decide)), (keepB x4 (by decide)), (keepB x5 (by decide)), (keepB x12 (by decide)), (keepF i0.out (by decide)), (keepF i1.out (by decide)), (keepF i2.out (by decide)), (keepF i3.out (by decide)), (keepF i4.out (by decide)), (keepF i5.out (by decide)), (keepF i6.out (by decide)), (keepF i7.out (by decide)), (fun _ => put_eq (by omega)), (keepF i9.out (by decide)), (keepF i12.out (by decide)), hL, (fun h => by obtain ⟨k, e1, e2, q10_0, q10_1, e3, e4⟩ := n10.out h; exact ⟨k, (put_ne (by decide)).trans e1, e2, q10_0, q10_1, e3, e4⟩), Qu.out, Qv.out, Qz.out, m11_10, hS, B3, B4, B6, BNr⟩
        · unfold SlotStep
          intro g ac wc hn hk hr hI K' hK
          obtain ⟨x3, x4, x5, x12, i0, i1, i2, i3, i4, i5, i6, i7, i8, i9, i12, hL, n10, Qu, Qv, Qz, m11_10, hS, B3, B4, B6, BNr⟩ := hI
          simp only [Region.binds] at hr
          simp at hr
          replace hK := Lib.hid hK
          have y7 := i7 (by first | exact hr | exact hr.1 | exact hr.2 | exact hr.2.1 | exact hr.2.2 | exact hr.2.2.1 | exact hr.2.2.2 | simp [hr])
          have z7 := sl_get y7 (by omega)
          replace i0 := Lib.hid i0
          replace i1 := Lib.hid i1
          replace i2 := Lib.hid i2
          replace i3 := Lib.hid i3
          replace i4 := Lib.hid i4
          replace i5 := Lib.hid i5
          replace i6 := Lib.hid i6
          replace i7 := Lib.hid i7
          replace i8 := Lib.hid i8
          replace i9 := Lib.hid i9
          replace i12 := Lib.hid i12
          replace n10 := Lib.hid n10
          replace Qu := Lib.hid Qu
          replace Qv := Lib.hid Qv
          replace Qz := Lib.hid Qz
          go_simp
          exact hK.out _ _ ⟨(keepB x3 (by decide)), (keepB x4 (by decide)), (keepB x5 (by decide)), (keepB x12 (by decide)), (keepF i0.out (by decide)), (keepF i1.out (by decide)), (keepF i2.out (by decide)), (keepF i3.out (by decide)), (keepF i4.out (by decide)), (keepF i5.out (by decide)), (keepF i6.out (by decide)), (keepF i7.out (by decide)), (keepF i8.out (by decide)), (fun _ => put_eq (by omega)), (keepF i12.out (by decide)), hL, (fun h => by obtain ⟨k, e1, e2, q10_0, q10_1, e3, e4⟩ := n10.out h; exact ⟨k, (put_ne (by decide)).trans e1, e2, q10_0, q10_1, e3, e4⟩), Qu.out, Qv.out, Qz.out, m11_10, hS, B3, B4, B6, BNr⟩
        · unfold SlotStep
          intro g ac wc hn hk hr hI K' hK
          obtain ⟨x3, x4, x5, x12, i0, i1, i2, i3, i4, i5, i6, i7, i8, i9, i12, hL, n10, Qu, Qv, Qz, m11_10, hS, B3, B4, B6, BNr⟩ := hI
          simp only [Region.binds] at hr
          simp at hr
          replace hK := Lib.hid hK
          replace i0 := Lib.hid i0
          replace i1 := Lib.hid i1
          replace i2 := Lib.hid i2
          replace i3 := Lib.hid i3
          replace i4 := Lib.hid i4
          replace i5 := Lib.hid i5
          replace i6 := Lib.hid i6
          replace i7 := Lib.hid i7
          replace i8 := Lib.hid i8
          replace i9 := Lib.hid i9
          replace i12 := Lib.hid i12
          replace n10 := Lib.hid n10
          replace Qu := Lib.hid Qu
          replace Qv := Lib.hid Qv
          replace Qz := Lib.hid Qz
          go_simp
          have hL4 := (Later.refl wc).alloc (.cells #[.int .i64 0, .int .i64 0] 66)
          exact hK.out _ _ ⟨(keepB x3 (by decide)), (keepB x4 (by decide)), (keepB x5 (by decide)), (keepB x12 (by decide)), (keepF i0.out (by decide)), (keepF i1.out (by decide)), (keepF i2.out (by decide)), (keepF i3.out (by decide)), (keepF i4.out (by decide)), (keepF i5.out (by decide)), (keepF i6.out (by decide)), (keepF i7.out (by decide)), (keepF i8.out (by decide)), (keepF i9.out (by decide)), (keepF i12.out (by decide)), hL.alloc _, (fun _ => ⟨_, put_eq (by omega), hS, _, _, heap_alloc_new _ _, fun h => absurd (m11_10 h) (by rw [hk]; simp)⟩), (owns_later Qu.out hL4), (owns_later Qv.out hL4), (owns_later Qz.out hL4), (fun _ => rfl), (by simp; omega), (hL4.keep B3), (hL4.keep B4), (hL4.keep B6), (hL4.keep BNr)⟩
        · unfold SlotStep
          intro g ac wc hn hk hr hI K' hK
          obtain ⟨x3, x4, x5, x12, i0, i1, i2, i3, i4, i5, i6, i7, i8, i9, i12, hL, n10, Qu, Qv, Qz, m11_10, hS, B3, B4, B6, BNr⟩ := hI
          simp only [Region.binds] at hr
          simp at hr
          replace hK := Lib.hid hK
          have y8 := i8 (by first | exact hr | exact hr.1 | exact hr.2 | exact hr.2.1 | exact hr.2.2 | exact hr.2.2.1 | exact hr.2.2.2 | simp [hr])
          have gm10 : g 10 = true := by first | exact m11_10 (by simp [hr]) | exact hr | exact hr.1 | exact hr.2 | exact hr.2.1 | simp [hr]
          replace i0 := Lib.hid i0
          replace i1 := Lib.hid i1
          replace i2 := Lib.hid i2
          replace i3 := Lib.hid i3
          replace i4 := Lib.hid i4
          replace i5 := Lib.hid i5
          replace i6 := Lib.hid i6
          replace i7 := Lib.hid i7
          replace i8 := Lib.hid i8
          replace i9 := Lib.hid i9
          replace i12 := Lib.hid i12
          replace n10 := Lib.hid n10
          replace Qu := Lib.hid Qu
          replace Qv := Lib.hid Qv
          replace Qz := Lib.hid Qz
          obtain ⟨k, e1, e2, q10_0, q10_1, e3, -⟩ := n10.out gm10
          have c0 := (blk_at e3).1
          have f0 := (blk_at e3).2.1
          have z0 := (blk_at e3).2.2
          have ze := sl_get e1 (by omega)
          have z8 := sl_get y8 (by omega)
          go_simp
          exact hK.out undef _ ⟨x3, x4, x5, x12, i0.out, i1.out, i2.out, i3.out, i4.out, i5.out, i6.out, i7.out, i8.out, i9.out, i12.out, ((hL.setCell (show W.heap.size ≤ k by omega) _).setCell (show W.heap.size ≤ k by omega) _), (fun _ => ⟨k, e1, e2, _, _, two_set e3 _ _, fun _ => ⟨rfl, rfl⟩⟩), (owns_setNe (owns_setNe Qu.out (fun e => by have := NBu _ e; omega) _ _) (fun e => by have := NBu _ e; omega) _ _), (owns_setNe (owns_setNe Qv.out (fun e => by have := NBv _ e; omega) _ _) (fun e => by have := NBv _ e; omega) _ _), (owns_setNe (owns_setNe Qz.out (fun e => by have := NBz _ e; omega) _ _) (fun e => by have := NBz _ e; omega) _ _), (fun _ => gm10), (by simp; omega), (other_set (other_set B3 (by omega) _) (by omega) _), (other_set (other_set B4 (by omega) _) (by omega) _), (other_set (other_set B6 (by omega) _) (by omega) _), (other_set (other_set BNr (by omega) _) (by omega) _)⟩
        · unfold SlotStep
          intro g ac wc hn hk hr hI K' hK
          obtain ⟨x3, x4, x5, x12, i0, i1, i2, i3, i4, i5, i6, i7, i8, i9, i12, hL, n10, Qu, Qv, Qz, m11_10, hS, B3, B4, B6, BNr⟩ := hI
          simp only [Region.binds] at hr
          simp at hr
          replace hK := Lib.hid hK
          have y9 := i9 (by first | exact hr | exact hr.1 | exact hr.2 | exact hr.2.1 | exact hr.2.2 | exact hr.2.2.1 | exact hr.2.2.2 | simp [hr])
          have z9 := sl_get y9 (by omega)
          replace i0 := Lib.hid i0
          replace i1 := Lib.hid i1
          replace i2 := Lib.hid i2
          replace i3 := Lib.hid i3
          replace i4 := Lib.hid i4
          replace i5 := Lib.hid i5
          replace i6 := Lib.hid i6
          replace i7 := Lib.hid i7
          replace i8 := Lib.hid i8
          replace i9 := Lib.hid i9
          replace i12 := Lib.hid i12
          replace n10 := Lib.hid n10
          replace Qu := Lib.hid Qu
          replace Qv := Lib.hid Qv
          replace Qz := Lib.hid Qz
          go_simp
          exact hK.out _ _ ⟨(keepB x3 (by decide)), (keepB x4 (by decide)), (keepB x5 (by decide)), (keepB x12 (by decide)), (keepF i0.out (by decide)), (keepF i1.out (by decide)), (keepF i2.out (by decide)), (keepF i3.out (by decide)), (keepF i4.out (by decide)), (keepF i5.out (by decide)), (keepF i6.out (by decide)), (keepF i7.out (by decide)), (keepF i8.out (by decide)), (keepF i9.out (by decide)), (fun _ => put_eq (by omega)), hL, (fun h => by obtain ⟨k, e1, e2, q10_0, q10_1, e3, e4⟩ := n10.out h; exact ⟨k, (put_ne (by decide)).trans e1, e2, q10_0, q10_1, e3, e4⟩), Qu.out, Qv.out, Qz.out, m11_10, hS, B3, B4, B6, BNr⟩
    · refine .cons ?_ (.cons ?_ (.cons ?_ (.cons ?_ (.cons ?_ (.cons ?_ (.cons ?_ (.cons ?_ (.cons ?_ (.cons ?_ (.cons ?_ (.cons ?_ .nil)))))))))))
      · unfold SlotStep
        intro g ac wc hn hk hr hI K' hK
        obtain ⟨x3, x4, x5, x12, i0, i1, i2, i3, i4, i5, i6, i7, i8, i11, hL, n9, Qu, Qv, Qz, m10_9, hS, B3, B4, B6⟩ := hI
        simp only [Region.binds] at hr
        simp at hr
        replace hK := Lib.hid hK
        replace i0 := Lib.hid i0
        replace i1 := Lib.hid i1
        replace i2 := Lib.hid i2
        replace i3 := Lib.hid i3
        replace i4 := Lib.hid i4
        replace i5 := Lib.hid i5
        replace i6 := Lib.hid i6
        replace i7 := Lib.hid i7
        replace i8 := Lib.hid i8
        replace i11 := Lib.hid i11
        replace n9 := Lib.hid n9
        replace Qu := Lib.hid Qu
        replace Qv := Lib.hid Qv
        replace Qz := Lib.hid Qz
        have hbb := blk_at B3
        have cb := hbb.1
        have fb := hbb.2.1
        have zb := hbb.2.2
        clear hbb
        go_simp
        exact hK.out _ _ ⟨(keepB x3 (by decide)), (keepB x4 (by decide)), (keepB x5 (by decide)), (keepB x12 (by decide)), (fun _ => put_eq (by omega)), (keepF i1.out (by decide)), (keepF i2.out (by decide)), (keepF i3.out (by decide)), (keepF i4.out (by decide)), (keepF i5.out (by decide)), (keepF i6.out (by decide)), (keepF i7.out (by decide)), (keepF i8.out (by decide)), (keepF i11.out (by decide)), hL, (fun h => by obtain ⟨k, e1, e2, q9_0, q9_1, e3, e4⟩ := n9.out h; exact ⟨k, (put_ne (by decide)).trans e1, e2, q9_0, q9_1, e3, e4⟩), Qu.out, Qv.out, Qz.out, m10_9, hS, B3, B4, B6⟩
      · unfold SlotStep
        intro g ac wc hn hk hr hI K' hK
        obtain ⟨x3, x4, x5, x12, i0, i1, i2, i3, i4, i5, i6, i7, i8, i11, hL, n9, Qu, Qv, Qz, m10_9, hS, B3, B4, B6⟩ := hI
        simp only [Region.binds] at hr
        simp at hr
        replace hK := Lib.hid hK
        replace i0 := Lib.hid i0
        replace i1 := Lib.hid i1
        replace i2 := Lib.hid i2
        replace i3 := Lib.hid i3
        replace i4 := Lib.hid i4
        replace i5 := Lib.hid i5
        replace i6 := Lib.hid i6
        replace i7 := Lib.hid i7
        replace i8 := Lib.hid i8
        replace i11 := Lib.hid i11
        replace n9 := Lib.hid n9
        replace Qu := Lib.hid Qu
        replace Qv := Lib.hid Qv
        replace Qz := Lib.hid Qz
        have hbb := blk_at B4
        have cb := hbb.1
        have fb := hbb.2.1
        have zb := hbb.2.2
        clear hbb
        go_simp
        exact hK.out _ _ ⟨(keepB x3 (by decide)), (keepB x4 (by decide)), (keepB x5 (by decide)), (keepB x12 (by decide)), (keepF i0.out (by decide)), (fun _ => put_eq (by omega)), (keepF i2.out (by decide)), (keepF i3.out (by decide)), (keepF i4.out (by decide)), (keepF i5.out (by decide)), (keepF i6.out (by decide)), (keepF i7.out (by decide)), (keepF i8.out (by decide)), (keepF i11.out (by decide)), hL, (fun h => by obtain ⟨k, e1, e2, q9_0, q9_1, e3, e4⟩ := n9.out h; exact ⟨k, (put_ne (by decide)).trans e1, e2, q9_0, q9_1, e3, e4⟩), Qu.out, Qv.out, Qz.out, m10_9, hS, B3, B4, B6⟩
      · unfold SlotStep
        intro g ac wc hn hk hr hI K' hK
        obtain ⟨x3, x4, x5, x12, i0, i1, i2, i3, i4, i5, i6, i7, i8, i11, hL, n9, Qu, Qv, Qz, m10_9, hS, B3, B4, B6⟩ := hI
        simp only [Region.binds] at hr
        simp at hr
        replace hK := Lib.hid hK
        replace i0 := Lib.hid i0
        replace i1 := Lib.hid i1
        replace i2 := Lib.hid i2
        replace i3 := Lib.hid i3
        replace i4 := Lib.hid i4
        replace i5 := Lib.hid i5
        replace i6 := Lib.hid i6
        replace i7 := Lib.hid i7
        replace i8 := Lib.hid i8
        replace i11 := Lib.hid i11
        replace n9 := Lib.hid n9
        replace Qu := Lib.hid Qu
        replace Qv := Lib.hid Qv
        replace Qz := Lib.hid Qz
        go_simp
        exact hK.out _ _ ⟨(keepB x3 (by decide)), (keepB x4 (by decide)), (keepB x5 (by decide)), (keepB x12 (by decide)), (keepF i0.out (by decide)), (keepF i1.out (by decide)), (fun _ => put_eq (by omega)), (keepF i3.out (by decide)), (keepF i4.out (by decide)), (keepF i5.out (by decide)), (keepF i6.out (by decide)), (keepF i7.out (by decide)), (keepF i8.out (by decide)), (keepF i11.out (by decide)), hL, (fun h => by obtain ⟨k, e1, e2, q9_0, q9_1, e3, e4⟩ := n9.out h; exact ⟨k, (put_ne (by decide)).trans e1, e2, q9_0, q9_1, e3, e4⟩), Qu.out, Qv.out, Qz.out, m10_9, hS, B3, B4, B6⟩
      · unfold SlotStep
        intro g ac wc hn hk hr hI K' hK
        obtain ⟨x3, x4, x5, x12, i0, i1, i2, i3, i4, i5, i6, i7, i8, i11, hL, n9, Qu, Qv, Qz, m10_9, hS, B3, B4, B6⟩ := hI
        simp only [Region.binds] at hr
        simp at hr
        replace hK := Lib.hid hK
        replace i0 := Lib.hid i0
        replace i1 := Lib.hid i1
        replace i2 := Lib.hid i2
        replace i3 := Lib.hid i3
        replace i4 := Lib.hid i4
        replace i5 := Lib.hid i5
        replace i6 := Lib.hid i6
        replace i7 := Lib.hid i7
        replace i8 := Lib.hid i8
        replace i11 := Lib.hid i11
        replace n9 := Lib.hid n9
        replace Qu := Lib.hid Qu
        replace Qv := Lib.hid Qv
        replace Qz := Lib.hid Qz
        go_simp
        exact hK.out _ _ ⟨(keepB x3 (by decide)), (keepB x4 (by decide)), (keepB x5 (by decide)), (keepB x12 (by decide)), (keepF i0.out (by decide)), (keepF i1.out (by decide)), (keepF i2.out (by decide)), (fun _ => put_eq (by omega)), (keepF i4.out (by decide)), (keepF i5.out (by decide)), (keepF i6.out (by decide)), (keepF i7.out (by decide)), (keepF i8.out (by decide)), (keepF i11.out (by decide)), hL, (fun h => by obtain ⟨k, e1, e2, q9_0, q9_1, e3, e4⟩ := n9.out h; exact ⟨k, (put_ne (by decide)).trans e1, e2, q9_0, q9_1, e3, e4⟩), Qu.out, Qv.out, Qz.out, m10_9, hS, B3, B4, B6⟩
      · unfold SlotStep
        intro g ac wc hn hk hr hI K' hK
        obtain ⟨x3, x4, x5, x12, i0, i1, i2, i3, i4, i5, i6, i7, i8, i11, hL, n9, Qu, Qv, Qz, m10_9, hS, B3, B4, B6⟩ := hI
        simp only [Region.binds] at hr
        simp at hr
        replace hK := Lib.hid hK
        have y2 := i2 (by first | exact hr | exact hr.1 | exact hr.2 | exact hr.2.1 | exact hr.2.2 | exact hr.2.2.1 | exact hr.2.2.2 | simp [hr])
        have y3 := i3 (by first | exact hr | exact hr.1 | exact hr.2 | exact hr.2.1 | exact hr.2.2 | exact hr.2.2.1 | exact hr.2.2.2 | simp [hr])
        have z2 := sl_get y2 (by omega)
        have z3 := sl_get y3 (by omega)
        replace i0 := Lib.hid i0
        replace i1 := Lib.hid i1
        replace i2 := Lib.hid i2
        replace i3 := Lib.hid i3
        replace i4 := Lib.hid i4
        replace i5 := Lib.hid i5
        replace i6 := Lib.hid i6
        replace i7 := Lib.hid i7
        replace i8 := Lib.hid i8
        replace i11 := Lib.hid i11
        replace n9 := Lib.hid n9
        replace Qu := Lib.hid Qu
        replace Qv := Lib.hid Qv
        replace Qz := Lib.hid Qz
        have hle2 : ((p : Int) ≤ (capz : Int)) = True := by simp; omega
        go_simp
        exact hK.out _ _ ⟨(keepB x3 (by decide)), (keepB x4 (by decide)), (keepB x5 (by decide)), (keepB x12 (by decide)), (keepF i0.out (by decide)), (keepF i1.out (by decide)), (keepF i2.out (by decide)), (keepF i3.out (by decide)), (fun _ => put_eq (by omega)), (keepF i5.out (by decide)), (keepF i6.out (by decide)), (keepF i7.out (by decide)), (keepF i8.out (by decide)), (keepF i11.out (by decide)), hL, (fun h => by obtain ⟨k, e1, e2, q9_0, q9_1, e3, e4⟩ := n9.out h; exact ⟨k, (put_ne (by decide)).trans e1, e2, q9_0, q9_1, e3, e4⟩), Qu.out, Qv.out, Qz.out, m10_9, hS, B3, B4, B6⟩
      · unfold SlotStep
        intro g ac wc hn hk hr hI K' hK
        obtain ⟨x3, x4, x5, x12, i0, i1, i2, i3, i4, i5, i6, i7, i8, i11, hL, n9, Qu, Qv, Qz, m10_9, hS, B3, B4, B6⟩ := hI
        simp only [Region.binds] at hr
        simp at hr
        replace hK := Lib.hid hK
        have y0 := i0 (by first | exact hr | exact hr.1 | exact hr.2 | exact hr.2.1 | exact hr.2.2 | exact hr.2.2.1 | exact hr.2.2.2 | simp [hr])
        have y1 := i1 (by first | exact hr | exact hr.1 | exact hr.2 | exact hr.2.1 | exact hr.2.2 | exact hr.2.2.1 | exact hr.2.2.2 | simp [hr])
        have y4 := i4 (by first | exact hr | exact hr.1 | exact hr.2 | exact hr.2.1 | exact hr.2.2 | exact hr.2.2.1 | exact hr.2.2.2 | simp [hr])
        have z0 := sl_get y0 (by omega)
        have z1 := sl_get y1 (by omega)
        have z4 := sl_get y4 (by omega)
        replace i0 := Lib.hid i0
        replace i1 := Lib.hid i1
        replace i2 := Lib.hid i2
        replace i3 := Lib.hid i3
        replace i4 := Lib.hid i4
        replace i5 := Lib.hid i5
        replace i6 := Lib.hid i6
        replace i7 := Lib.hid i7
        replace i8 := Lib.hid i8
        replace i11 := Lib.hid i11
        replace n9 := Lib.hid n9
        replace Qu := Lib.hid Qu
        replace Qv := Lib.hid Qv
        replace Qz := Lib.hid Qz
        go_simp
        refine (w_implRunMoves n _ _ st sd s.sh s.cu _ (l.take p) wc (reads_of_owns Qu.out (by omega)) (reads_of_owns Qv.out (by omega)) (IsMovs.take (reads_of_owns Qz.out (by omega)) (by omega))).mono ?_
        rintro e w4 ⟨rfl, hL4⟩
        rw [HR0.out]
        exact hK.out _ _ ⟨(keepB x3 (by decide)), (keepB x4 (by decide)), (keepB x5 (by decide)), (keepB x12 (by decide)), (keepF i0.out (by decide)), (keepF i1.out (by decide)), (keepF i2.out (by decide)), (keepF i3.out (by decide)), (keepF i4.out (by decide)), (fun _ => put_eq (by omega)), (keepF i6.out (by decide)), (keepF i7.out (by decide)), (keepF i8.out (by decide)), (keepF i11.out (by decide)), hL.trans hL4, (fun h => by obtain ⟨k, e1, e2, q9_0, q9_1, e3, e4⟩ := n9.out h; exact ⟨k, (put_ne (by decide)).trans e1, e2, q9_0, q9_1, hL4.keep e3, e4⟩), (owns_later Qu.out hL4), (owns_later Qv.out hL4), (owns_later Qz.out hL4), m10_9, Nat.le_trans hS hL4.size, (hL4.keep B3), (hL4.keep B4), (hL4.keep B6)⟩
      · unfold SlotStep
        intro g ac wc hn hk hr hI K' hK
        obtain ⟨x3, x4, x5, x12, i0, i1, i2, i3, i4, i5, i6, i7, i8, i11, hL, n9, Qu, Qv, Qz, m10_9, hS, B3, B4, B6⟩ := hI
        simp only [Region.binds] at hr
        simp at hr
        replace hK := Lib.hid hK
        have y5 := i5 (by first | exact hr | exact hr.1 | exact hr.2 | exact hr.2.1 | exact hr.2.2 | exact hr.2.2.1 | exact hr.2.2.2 | simp [hr])
        have z5 := sl_get y5 (by omega)
        replace i0 := Lib.hid i0
        replace i1 := Lib.hid i1
        replace i2 := Lib.hid i2
        replace i3 := Lib.hid i3
        replace i4 := Lib.hid i4
        replace i5 := Lib.hid i5
        replace i6 := Lib.hid i6
        replace i7 := Lib.hid i7
        replace i8 := Lib.hid i8
        replace i11 := Lib.hid i11
        replace n9 := Lib.hid n9
        replace Qu := Lib.hid Qu
        replace Qv := Lib.hid Qv
        replace Qz := Lib.hid Qz
        go_simp
        exact hK.out _ _ ⟨(keepB x3 (by decide)), (keepB x4 (by decide)), (keepB x5 (by decide)), (keepB x12 (by decide)), (keepF i0.out (by decide)), (keepF i1.out (by decide)), (keepF i2.out (by decide)), (keepF i3.out (by decide)), (keepF i4.out (by decide)), (keepF i5.out (by decide)), (fun _ => put_eq (by omega)), (keepF i7.out (by decide)), (keepF i8.out (by decide)), (keepF i11.out (by decide)), hL, (fun h => by obtain ⟨k, e1, e2, q9_0, q9_1, e3, e4⟩ := n9.out h; exact ⟨k, (put_ne (by decide)).trans e1, e2, q9_0, q9_1, e3, e4⟩), Qu.out, Qv.out, Qz.out, m10_9, hS, B3, B4, B6⟩
      · unfold SlotStep
        intro g ac wc hn hk hr hI K' hK
        obtain ⟨x3, x4, x5, x12, i0, i1, i2, i3, i4, i5, i6, i7, i8, i11, hL, n9, Qu, Qv, Qz, m10_9, hS, B3, B4, B6⟩ := hI
        simp only [Region.binds] at hr
        simp at hr
        replace hK := Lib.hid hK
        have y6 := i6 (by first | exact hr | exact hr.1 | exact hr.2 | exact hr.2.1 | exact hr.2.2 | exact hr.2.2.1 | exact hr.2.2.2 | simp [hr])
        have z6 := sl_get y6 (by omega)
        replace i0 := Lib.hid i0
        replace i1 := Lib.hid i1
        replace i2 := Lib.hid i2
        replace i3 := Lib.hid i3
        replace i4 := Lib.hid i4
        replace i5 := Lib.hid i5
        replace i6 := Lib.hid i6
        replace i7 := Lib.hid i7
        replace i8 := Lib.hid i8
        replace i11 := Lib.hid i11
        replace n9 := Lib.hid n9
        replace Qu := Lib.hid Qu
        replace Qv := Lib.hid Qv
        replace Qz := Lib.hid Qz
        go_simp
        exact hK.out _ _ ⟨(keepB x3 (by decide)), (keepB x4 (by decide)), (keepB x5 (by decide)), (keepB x12 (by decide)), (keepF i0.out (by decide)), (keepF i1.out (by decide)), (keepF i2.out (by decide)), (keepF i3.out (by decide)), (keepF i4.out (by decide)), (keepF i5.out (by decide)), (keepF i6.out (by decide)), (fun _ => put_eq (by omega)), (keepF i8.out (by decide)), (keepF i11.out (by decide)), hL, (fun h => by obtain ⟨k, e1, e2, q9_0, q9_1, e3, e4⟩ := n9.out h; exact ⟨k, (put_ne (by decide)).trans e1, e2, q9_0, q9_1, e3, e4⟩), Qu.out, Qv.out, Qz.out, m10_9, hS, B3, B4, B6⟩
      · unfold SlotStep
        intro g ac wc hn hk hr hI K' hK
        obtain ⟨x3, x4, x5, x12, i0, i1, i2, i3, i4, i5, i6, i7, i8, i11, hL, n9, Qu, Qv, Qz, m10_9, hS, B3, B4, B6⟩ := hI
        simp only [Region.binds] at hr
        simp at hr
        replace hK := Lib.hid hK
        have y6 := i6 (by first | exact hr | exact hr.1 | exact hr.2 | exact hr.2.1 | exact hr.2.2 | exact hr.2.2.1 | exact hr.2.2.2 | simp [hr])
        have z6 := sl_get y6 (by omega)
        replace i0 := Lib.hid i0
        replace i1 := Lib.hid i1
        replace i2 := Lib.hid i2
        replace i3 := Lib.hid i3
        replace i4 := Lib.hid i4
        replace i5 := Lib.hid i5
        replace i6 := Lib.hid i6
        replace i7 := Lib.hid i7
        replace i8 := Lib.hid i8
        replace i11 := Lib.hid i11
        replace n9 := Lib.hid n9
        replace Qu := Lib.hid Qu
        replace Qv := Lib.hid Qv
        replace Qz := Lib.hid Qz
        go_simp
        exact hK.out _ _ ⟨(keepB x3 (by decide)), (keepB x4 (by decide)), (keepB x5 (by decide)), (keepB x12 (by decide)), (keepF i0.out (by decide)), (keepF i1.out (by decide)), (keepF i2.out (by decide)), (keepF i3.out (by decide)), (keepF i4.out (by decide)), (keepF i5.out (by decide)), (keepF i6.out (by decide)), (keepF i7.out (by decide)), (fun _ => put_eq (by omega)), (keepF i11.out (by decide)), hL, (fun h => by obtain ⟨k, e1, e2, q9_0, q9_1, e3, e4⟩ := n9.out h; exact ⟨k, (put_ne (by decide)).trans e1, e2, q9_0, q9_1, e3, e4⟩), Qu.out, Qv.out, Qz.out, m10_9, hS, B3, B4, B6⟩
      · unfold SlotStep
        intro g ac wc hn hk hr hI K' hK
        obtain ⟨x3, x4, x5, x12, i0, i1, i2, i3, i4, i5, i6, i7, i8, i11, hL, n9, Qu, Qv, Qz, m10_9, hS, B3, B4, B6⟩ := hI
        simp only [Region.binds] at hr
        simp at hr
        replace hK := Lib.hid hK
        replace i0 := Lib.hid i0
        replace i1 := Lib.hid i1
        replace i2 := Lib.hid i2
        replace i3 := Lib.hid i3
        replace i4 := Lib.hid i4
        replace i5 := Lib.hid i5
        replace i6 := Lib.hid i6
        replace i7 := Lib.hid i7
        replace i8 := Lib.hid i8
        replace i11 := Lib.hid i11
        replace n9 := Lib.hid n9
        replace Qu := Lib.hid Qu
        replace Qv := Lib.hid Qv
        replace Qz := Lib.hid Qz
        go_simp
        have hL4 := (Later.refl wc).alloc (.cells #[.int .i64 0, .int .i64 0] 66)
        exact hK.out _ _ ⟨(keepB x3 (by decide)), (keepB x4 (by decide)), (keepB x5 (by decide)), (keepB x12 (by decide)), (keepF i0.out (by decide)), (keepF i1.out (by decide)), (keepF i2.out (by decide)), (keepF i3.out (by decide)), (keepF i4.out (by decide)), (keepF i5.out (by decide)), (keepF i6.out (by decide)), (keepF i7.out (by decide)), (keepF i8.out (by decide)), (keepF i11.out (by decide)), hL.alloc _, (fun _ => ⟨_, put_eq (by omega), hS, _, _, heap_alloc_new _ _, fun h => absurd (m10_9 h) (by rw [hk]; simp)⟩), (owns_later Qu.out hL4), (owns_later Qv.out hL4), (owns_later Qz.out hL4), (fun _ => rfl), (by simp; omega), (hL4.keep B3), (hL4.keep B4), (hL4.keep B6)⟩
      · unfold SlotStep
        intro g ac wc hn hk hr hI K' hK
        obtain ⟨x3, x4, x5, x12, i0, i1, i2, i3, i4, i5, i6, i7, i8, i11, hL, n9, Qu, Qv, Qz, m10_9, hS, B3, B4, B6⟩ := hI
        simp only [Region.binds] at hr
        simp at hr
        replace hK := Lib.hid hK
        have y7 := i7 (by first | exact hr | exact hr.1 | exact hr.2 | exact hr.2.1 | exact hr.2.2 | exact hr.2.2.1 | exact hr.2.2.2 | simp [hr])
        have gm9 : g 9 = true := by first | exact m10_9 (by simp [hr]) | exact hr | exact hr.1 | exact hr.2 | exact hr.2.1 | simp [hr]
        replace i0 := Lib.hid i0
        replace i1 := Lib.hid i1
        replace i2 := Lib.hid i2
        replace i3 := Lib.hid i3
        replace i4 := Lib.hid i4
        replace i5 := Lib.hid i5
        replace i6 := Lib.hid i6
        replace i7 := Lib.hid i7
        replace i8 := Lib.hid i8
        replace i11 := Lib.hid i11
        replace n9 := Lib.hid n9
        replace Qu := Lib.hid Qu
        replace Qv := Lib.hid Qv
        replace Qz := Lib.hid Qz
        obtain ⟨k, e1, e2, q9_0, q9_1, e3, -⟩ := n9.out gm9
        have c0 := (blk_at e3).1
        have f0 := (blk_at e3).2.1
        have z0 := (blk_at e3).2.2
        have ze := sl_get e1 (by omega)
        have z7 := sl_get y7 (by omega)
        go_simp
        exact hK.out undef _ ⟨x3, x4, x5, x12, i0.out, i1.out, i2.out, i3.out, i4.out, i5.out, i6.out, i7.out, i8.out, i11.out, ((hL.setCell (show W.heap.size ≤ k by omega) _).setCell (show W.heap.size ≤ k by omega) _), (fun _ => ⟨k, e1, e2, _, _, two_set e3 _ _, fun _ => ⟨rfl, rfl⟩⟩), (owns_setNe (owns_setNe Qu.out (fun e => by have := NBu _ e; omega) _ _) (fun e => by have := NBu _ e; omega) _ _), (owns_setNe (owns_setNe Qv.out (fun e => by have := NBv _ e; omega) _ _) (fun e => by have := NBv _ e; omega) _ _), (owns_setNe (owns_setNe Qz.out (fun e => by have := NBz _ e; omega) _ _) (fun e => by have := NBz _ e; omega) _ _), (fun _ => gm9), (by simp; omega), (other_set (other_set B3 (by omega) _) (by omega) _), (other_set (other_set B4 (by omega) _) (by omega) _), (other_set (other_set B6 (by omega) _) (by omega) _)⟩
      · unfold SlotStep
        intro g ac wc hn hk hr hI K' hK
        obtain ⟨x3, x4, x5, x12, i0, i1, i2, i3, i4, i5, i6, i7, i8, i11, hL, n9, Qu, Qv, Qz, m10_9, hS, B3, B4, B6⟩ := hI
        simp only [Region.binds] at hr
        simp at hr
        replace hK := Lib.hid hK
        have y8 := i8 (by first | exact hr | exact hr.1 | exact hr.2 | exact hr.2.1 | exact hr.2.2 | exact hr.2.2.1 | exact hr.2.2.2 | simp [hr])
        have z8 := sl_get y8 (by omega)
        replace i0 := Lib.hid i0
        replace i1 := Lib.hid i1
        replace i2 := Lib.hid i2
        replace i3 := Lib.hid i3
        replace i4 := Lib.hid i4
        replace i5 := Lib.hid i5
        replace i6 := Lib.hid i6
        replace i7 := Lib.hid i7
        replace i8 := Lib.hid i8
        replace i11 := Lib.hid i11
        replace n9 := Lib.hid n9
        replace Qu := Lib.hid Qu
        replace Qv := Lib.hid Qv
        replace Qz := Lib.hid Qz
        go_simp
        exact hK.out _ _ ⟨(keepB x3 (by decide)), (keepB x4 (by decide)), (keepB x5 (by decide)), (keepB x12 (by decide)), (keepF i0.out (by decide)), (keepF i1.out (by decide)), (keepF i2.out (by decide)), (keepF i3.out (by decide)), (keepF i4.out (by decide)), (keepF i5.out (by decide)), (keepF i6.out (by decide)), (keepF i7.out (by decide)), (keepF i8.out (by decide)), (fun _ => put_eq (by omega)), hL, (fun h => by obtain ⟨k, e1, e2, q9_0, q9_1, e3, e4⟩ := n9.out h; exact ⟨k, (put_ne (by decide)).trans e1, e2, q9_0, q9_1, e3, e4⟩), Qu.out, Qv.out, Qz.out, m10_9, hS, B3, B4, B6⟩
  · skip
    have hb5 : (runC ⟨n, st, sd⟩ ⟨s.sh, s.cu⟩ l == 5) = false := by simpa using hbad
    by_cases hzero : runC ⟨n, st, sd⟩ ⟨s.sh, s.cu⟩ l = 0
    · skip
      have h4 := (run_parts hzero 0 (Nat.zero_le _)).1
      rw [hzero, h4]
      have HZERO := Lib.hid hzero
      clear hzero h4
      go_wp2_with fail
      refine (w_roll _ bs 1201 _ (HC.out.later (by repeat (with_reducible first | exact HW10.out | refine Later.alloc ?_ _ | refine Later.drew ?_ | refine Later.drewN ?_ _ | refine Later.setCell ?_ (by first | omega | (simp; omega)) _))) hB hb).mono ?_
      rintro e w11 ⟨rfl, hL, hDi⟩
      have HW11 : Hid (Later W w11) := Lib.hid (Later.trans (by repeat (with_reducible first | exact HW10.out | refine Later.alloc ?_ _ | refine Later.drew ?_ | refine Later.drewN ?_ _ | refine Later.setCell ?_ (by first | omega | (simp; omega)) _)) hL)
      have hz11 := HW11.out.size
      have HOu_11 := Lib.hid (owns_later (by repeat (with_reducible first | exact HOu_10.out | apply World.ownsRow.alloc | (apply owns_setNe; case hk => first | assumption | exact ne_own HOu_10.out (by first | omega | (simp; omega)) | exact ne_low HOu_10.out (by omega)) | (refine owns_later ?_ (Later.refl _).drew) | (refine owns_later ?_ ((Later.refl _).drewN _)))) hL)
      have HOv_11 := Lib.hid (owns_later (by repeat (with_reducible first | exact HOv_10.out | apply World.ownsRow.alloc | (apply owns_setNe; case hk => first | assumption | exact ne_own HOv_10.out (by first | omega | (simp; omega)) | exact ne_low HOv_10.out (by omega)) | (refine owns_later ?_ (Later.refl _).drew) | (refine owns_later ?_ ((Later.refl _).drewN _)))) hL)
      have HOz_11 := Lib.hid (owns_later (by repeat (with_reducible first | exact HOz_10.out | apply World.ownsRow.alloc | (apply owns_setNe; case hk => first | assumption | exact ne_own HOz_10.out (by first | omega | (simp; omega)) | exact ne_low HOz_10.out (by omega)) | (refine owns_later ?_ (Later.refl _).drew) | (refine owns_later ?_ ((Later.refl _).drewN _)))) hL)
      have HK3_11 := Lib.hid (hL.keep (k := w1.heap.size) (by repeat (with_reducible first | exact HK3_10.out | exact heap_alloc_new _ _ | (apply heap_alloc_new'; first | rfl | (simp; done)) | apply heap_alloc_old | apply st_0_2 | apply st_1_2 | apply st_0_3 | apply st_1_3 | apply st_2_3 | apply st_0_4 | apply st_1_4 | apply st_2_4 | apply st_3_4 | (apply other_set; case hne => omega) | exact heap_alloc_new' _ _ (by first | rfl | (simp; done)))))
      have HK4_11 := Lib.hid (hL.keep (k := w1.heap.size + 1) (by repeat (with_reducible first | exact HK4_10.out | exact heap_alloc_new _ _ | (apply heap_alloc_new'; first | rfl | (simp; done)) | apply heap_alloc_old | apply st_0_2 | apply st_1_2 | apply st_0_3 | apply st_1_3 | apply st_2_3 | apply st_0_4 | apply st_1_4 | apply st_2_4 | apply st_3_4 | (apply other_set; case hne => omega) | exact heap_alloc_new' _ _ (by first | rfl | (simp; done)))))
      have HK6_11 := Lib.hid (hL.keep (k := w2.heap.size) (by repeat (with_reducible first | exact HK6_10.out | exact heap_alloc_new _ _ | (apply heap_alloc_new'; first | rfl | (simp; done)) | apply heap_alloc_old | apply st_0_2 | apply st_1_2 | apply st_0_3 | apply st_1_3 | apply st_2_3 | apply st_0_4 | apply st_1_4 | apply st_2_4 | apply st_3_4 | (apply other_set; case hne => omega) | exact heap_alloc_new' _ _ (by first | rfl | (simp; done)))))
      clear hL c3 f3 c4 f4 c6 f6
      obtain ⟨c3, f3, z3_11⟩ := blk_at HK3_11.out
      obtain ⟨c4, f4, z4_11⟩ := blk_at HK4_11.out
      obtain ⟨c6, f6, z6_11⟩ := blk_at HK6_11.out
      go_wp2_with fail
      refine (w_below _ _ ((l.length : Int) + 1) _ hDi (by omega) (by omega)).mono ?_
      rintro e w12 ⟨x, rfl, x0, x1, hD⟩
      have HW12 : Hid (Later W w12) := Lib.hid (Later.drawn (k := w10.heap.size) HW11.out hz10 hD)
      have hz12 := HW12.out.size
      have HOu_12 := Lib.hid (rows_grown HOu_11.out hD (fun j hj e => by have h := (HOu_10.out.lt _ hj).2; cases e; omega))
      have HOv_12 := Lib.hid (rows_grown HOv_11.out hD (fun j hj e => by have h := (HOv_10.out.lt _ hj).2; cases e; omega))
      have HOz_12 := Lib.hid (rows_grown HOz_11.out hD (fun j hj e => by have h := (HOz_10.out.lt _ hj).2; cases e; omega))
      have HK3_12 := Lib.hid (hD.keep (j := w1.heap.size) HK3_11.out (by omega))
      have HK4_12 := Lib.hid (hD.keep (j := w1.heap.size + 1) HK4_11.out (by omega))
      have HK6_12 := Lib.hid (hD.keep (j := w2.heap.size) HK6_11.out (by omega))
      clear hD hDi c3 f3 c4 f4 c6 f6
      obtain ⟨c3, f3, z3_12⟩ := blk_at HK3_12.out
      obtain ⟨c4, f4, z4_12⟩ := blk_at HK4_12.out
      obtain ⟨c6, f6, z6_12⟩ := blk_at HK6_12.out
      obtain ⟨ct, rfl⟩ : ∃ ct : Nat, x = ct := ⟨x.toNat, by omega⟩
      have hkl : ct ≤ l.length := by omega
      obtain ⟨-, hr1, hr2, hr3, hstg⟩ := run_parts HZERO.out ct hkl
      have HR1 := Lib.hid hr1
      have HR2 := Lib.hid (show runC ⟨n, st, sd⟩ ⟨(runMv ⟨n, st, sd⟩ ⟨s.sh, s.cu⟩ (l.take ct)).sh, (runMv ⟨n, st, sd⟩ ⟨s.sh, s.cu⟩ (l.take ct)).cu⟩ (l.drop ct) = 0 from hr2)
      have HR3 := Lib.hid (show runMv ⟨n, st, sd⟩ ⟨(runMv ⟨n, st, sd⟩ ⟨s.sh, s.cu⟩ (l.take ct)).sh, (runMv ⟨n, st, sd⟩ ⟨s.sh, s.cu⟩ (l.take ct)).cu⟩ (l.drop ct) = runMv ⟨n, st, sd⟩ ⟨s.sh, s.cu⟩ l from hr3)
      have HSTG := Lib.hid (show isStg ⟨(runMv ⟨n, st, sd⟩ ⟨s.sh, s.cu⟩ l).sh, (runMv ⟨n, st, sd⟩ ⟨s.sh, s.cu⟩ l).cu⟩ = true from hstg)
      clear hr1 hr2 hr3 hstg x0 x1
      go_wp2_with fail
      have hL0 := HW12.out
      have hSB := HW12.out.size
      have K3 := HK3_12.out
      have K4 := HK4_12.out
      have K6 := HK6_12.out
      have Qu := HOu_12.out
      have Qv := HOv_12.out
      have Qz := HOz_12.out
      clear c3 f3 c4 f4 c6 f6
      have NBu := own_le Qu
      have NBv := own_le Qv
      have NBz := own_le Qz
      refine region_slots 200 [164, 165, 166, 167, 168, 169, 163, 170, 171, 26, 27] (fun g ac wc => sl ac 3 = .pointer (some ⟨w1.heap.size, 0, none⟩) ∧
        sl ac 4 = .pointer (some ⟨w1.heap.size + 1, 0, none⟩) ∧
        sl ac 5 = .slice az l.length capz ∧
        sl ac 25 = .int .i64 (ct : Nat) ∧
        (g 0 = true → sl ac 164 = .agg #[.int .i64 n, .slice au st.length capu, .slice av sd.length capv]) ∧
        (g 1 = true → sl ac 165 = .agg #[.int .i64 s.sh, .int .i64 s.cu]) ∧
        (g 2 = true → sl ac 166 = .slice az l.length capz) ∧
        (g 3 = true → sl ac 167 = .int .i64 (ct : Nat)) ∧
        (g 4 = true → sl ac 168 = .slice az ct capz) ∧
        (g 5 = true → sl ac 169 = .tuple #[.agg #[.int .i64 (runMv ⟨n, st, sd⟩ ⟨s.sh, s.cu⟩ (l.take ct)).sh, .int .i64 (runMv ⟨n, st, sd⟩ ⟨s.sh, s.cu⟩ (l.take ct)).cu], .int .i64 0]) ∧
        (g 6 = true → sl ac 163 = .tuple #[.agg #[.int .i64 (runMv ⟨n, st, sd⟩ ⟨s.sh, s.cu⟩ (l.take ct)).sh, .int .i64 (runMv ⟨n, st, sd⟩ ⟨s.sh, s.cu⟩ (l.take ct)).cu], .int .i64 0]) ∧
        (g 7 = true → sl ac 170 = .agg #[.int .i64 (runMv ⟨n, st, sd⟩ ⟨s.sh, s.cu⟩ (l.take ct)).sh, .int .i64 (runMv ⟨n, st, sd⟩ ⟨s.sh, s.cu⟩ (l.take ct)).cu]) ∧
        (g 8 = true → sl ac 171 = .int .i64 0) ∧
        (g 11 = true → sl ac 27 = .int .i64 0) ∧
        Later W wc ∧
        (g 9 = true → ∃ k, sl ac 26 = .pointer (some ⟨k, 0, none⟩) ∧ w12.heap.size ≤ k ∧ ∃ q9_0 q9_1, wc.heap[k]? = some (.cells #[q9_0, q9_1] 66 (0, 0)) ∧ (g 10 = true → q9_0 = .int .i64 (runMv ⟨n, st, sd⟩ ⟨s.sh, s.cu⟩ (l.take ct)).sh ∧ q9_1 = .int .i64 (runMv ⟨n, st, sd⟩ ⟨s.sh, s.cu⟩ (l.take ct)).cu)) ∧
        wc.ownsRow W.heap.size 2 1 (.slice au st.length capu) (st.length) (nums st) ∧
        wc.ownsRow W.heap.size 2 1 (.slice av sd.length capv) (sd.length) (nums sd) ∧
        wc.ownsRow W.heap.size 74 4 (.slice az l.length capz) (l.length) (movs l) ∧
        (g 10 = true → g 9 = true) ∧
        w12.heap.size ≤ wc.heap.size ∧
        wc.heap[w1.heap.size]? = some (.cells #[.int .i64 n, .slice au st.length capu, .slice av sd.length capv] 64 (0, 0)) ∧
        wc.heap[w1.heap.size + 1]? = some (.cells #[.int .i64 s.sh, .int .i64 s.cu] 66 (0, 0)) ∧
        wc.heap[w2.heap.size]? = some (.cells #[.int .i64 (runMv ⟨n, st, sd⟩ ⟨s.sh, s.cu⟩ l).sh, .int .i64 (runMv ⟨n, st, sd⟩ ⟨s.sh, s.cu⟩ l).cu] 66 (0, 0))) (by kernel_rfl) (by kernel_rfl) rfl (by kernel_rfl) ?_ ?_ ?_
      · exact ⟨rfl, rfl, rfl, rfl, nofun, nofun, nofun, nofun, nofun, nofun, nofun, nofun, nofun, nofun, hL0.drew, nofun, owns_later Qu (Later.refl _).drew, owns_later Qv (Later.refl _).drew, owns_later Qz (Later.refl _).drew, nofun, Nat.le_refl _, K3, K4, K6⟩
      · intro g ac wu hg ha hI
        obtain ⟨x3, x4, x5, x25, i0, i1, i2, i3, i4, i5, i6, i7, i8, i11, hL, n9, Qu, Qv, Qz, -, hS, B3, B4, B6⟩ := hI
        have a0 := i0 (hg 0 (by simp))
        have a1 := i1 (hg 1 (by simp))
        have a2 := i2 (hg 2 (by simp))
        have a3 := i3 (hg 3 (by simp))
        have a4 := i4 (hg 4 (by simp))
        have a5 := i5 (hg 5 (by simp))
        have a6 := i6 (hg 6 (by simp))
        have a7 := i7 (hg 7 (by simp))
        have a8 := i8 (hg 8 (by simp))
        have a11 := i11 (hg 11 (by simp))
        obtain ⟨kr9, e9, br9, q9_0, q9_1, Kr9, g9⟩ := n9 (hg 9 (by simp))
        have g9 := g9 (hg 10 (by simp))
        rw [g9.1, g9.2] at Kr9
        clear g9
        simp only [putAll, a0, a1, a2, a3, a4, a5, a6, a7, a8, a11, e9] at ha
        simp only [Act.put, List.setIfInBounds_toArray, List.set_cons_succ, List.set_cons_zero] at ha
        rw [ha]
        clear x3 x4 x5 x25 i0 i1 i2 i3 i4 i5 i6 i7 i8 i11 a0 a1 a2 a3 a4 a5 a6 a7 a8 a11 e9 n9 hg ha
        have HW112 := Lib.hid hL
        have hz112 := hL.size
        have HK3_112 := Lib.hid B3
        have HK4_112 := Lib.hid B4
        have HK6_112 := Lib.hid B6
        have HOu_112 := Lib.hid Qu
        have HOv_112 := Lib.hid Qv
        have HOz_112 := Lib.hid Qz
        have HKNr_112 := Lib.hid Kr9
        have hzwu := hS
        clear hL hS B3 B4 B6 Kr9 hL0 K3 K4 K6 Qu Qv Qz
        obtain ⟨c3, f3, z3_112⟩ := blk_at HK3_112.out
        obtain ⟨c4, f4, z4_112⟩ := blk_at HK4_112.out
        obtain ⟨c6, f6, z6_112⟩ := blk_at HK6_112.out
        obtain ⟨cNr, fNr, zNr_112⟩ := blk_at HKNr_112.out
        by_cases hkc : ct = capz
        · skip
          have HKN := Lib.hid (show ct = l.length by omega)
          subst hkc
          go_wp2_with fail
          have hL0 := HW112.out
          have hSB := HW112.out.size
          have K3 := HK3_112.out
          have K4 := HK4_112.out
          have K6 := HK6_112.out
          have KNr := HKNr_112.out
          have Qu := HOu_112.out
          have Qv := HOv_112.out
          have Qz := HOz_112.out
          clear c3 f3 c4 f4 c6 f6 cNr fNr
          have NBu := own_le Qu
          have NBv := own_le Qv
          have NBz := own_le Qz
          refine region_slots 200 [173, 174, 175, 176, 177, 178, 172, 179, 180, 28, 29] (fun g ac wc => sl ac 3 = .pointer (some ⟨w1.heap.size, 0, none⟩) ∧
            sl ac 26 = .pointer (some ⟨kr9, 0, none⟩) ∧
            sl ac 5 = .slice az l.length ct ∧
            sl ac 25 = .int .i64 (ct : Nat) ∧
            (g 0 = true → sl ac 173 = .agg #[.int .i64 n, .slice au st.length capu, .slice av sd.length capv]) ∧
            (g 1 = true → sl ac 174 = .agg #[.int .i64 (runMv ⟨n, st, sd⟩ ⟨s.sh, s.cu⟩ (l.take ct)).sh, .int .i64 (runMv ⟨n, st, sd⟩ ⟨s.sh, s.cu⟩ (l.take ct)).cu]) ∧
            (g 2 = true → sl ac 175 = .slice az l.length ct) ∧
            (g 3 = true → sl ac 176 = .int .i64 (ct : Nat)) ∧
            (g 4 = true → sl ac 177 = .slice az 0 0) ∧
            (g 5 = true → sl ac 178 = .tuple #[.agg #[.int .i64 (runMv ⟨n, st, sd⟩ ⟨s.sh, s.cu⟩ l).sh, .int .i64 (runMv ⟨n, st, sd⟩ ⟨s.sh, s.cu⟩ l).cu], .int .i64 0]) ∧
            (g 6 = true → sl ac 172 = .tuple #[.agg #[.int .i64 (runMv ⟨n, st, sd⟩ ⟨s.sh, s.cu⟩ l).sh, .int .i64 (runMv ⟨n, st, sd⟩ ⟨s.sh, s.cu⟩ l).cu], .int .i64 0]) ∧
            (g 7 = true → sl ac 179 = .agg #[.int .i64 (runMv ⟨n, st, sd⟩ ⟨s.sh, s.cu⟩ l).sh, .int .i64 (runMv ⟨n, st, sd⟩ ⟨s.sh, s.cu⟩ l).cu]) ∧
            (g 8 = true → sl ac 180 = .int .i64 0) ∧
            (g 11 = true → sl ac 29 = .int .i64 0) ∧
            Later W wc ∧
            (g 9 = true → ∃ k, sl ac 28 = .pointer (some ⟨k, 0, none⟩) ∧ wu.heap.size ≤ k ∧ ∃ q9_0 q9_1, wc.heap[k]? = some (.cells #[q9_0, q9_1] 66 (0, 0)) ∧ (g 10 = true → q9_0 = .int .i64 (runMv ⟨n, st, sd⟩ ⟨s.sh, s.cu⟩ l).sh ∧ q9_1 = .int .i64 (runMv ⟨n, st, sd⟩ ⟨s.sh, s.cu⟩ l).cu)) ∧
            wc.ownsRow W.heap.size 2 1 (.slice au st.length capu) (st.length) (nums st) ∧
            wc.ownsRow W.heap.size 2 1 (.slice av sd.length capv) (sd.length) (nums sd) ∧
            wc.ownsRow W.heap.size 74 4 (.slice az l.length ct) (l.length) (movs l) ∧
            (g 10 = true → g 9 = true) ∧
            wu.heap.size ≤ wc.heap.size ∧
            wc.heap[w1.heap.size]? = some (.cells #[.int .i64 n, .slice au st.length capu, .slice av sd.length capv] 64 (0, 0)) ∧
            wc.heap[w1.heap.size + 1]? = some (.cells #[.int .i64 s.sh, .int .i64 s.cu] 66 (0, 0)) ∧
            wc.heap[w2.heap.size]? = some (.cells #[.int .i64 (runMv ⟨n, st, sd⟩ ⟨s.sh, s.cu⟩ l).sh, .int .i64 (runMv ⟨n, st, sd⟩ ⟨s.sh, s.cu⟩ l).cu] 66 (0, 0)) ∧
            wc.heap[kr9]? = some (.cells #[.int .i64 (runMv ⟨n, st, sd⟩ ⟨s.sh, s.cu⟩ (l.take ct)).sh, .int .i64 (runMv ⟨n, st, sd⟩ ⟨s.sh, s.cu⟩ (l.take ct)).cu] 66 (0, 0))) (by kernel_rfl) (by kernel_rfl) rfl (by kernel_rfl) ?_ ?_ ?_
          · exact ⟨rfl, rfl, rfl, rfl, nofun, nofun, nofun, nofun, nofun, nofun, nofun, nofun, nofun, nofun, hL0.drew, nofun, owns_later Qu (Later.refl _).drew, owns_later Qv (Later.refl _).drew, owns_later Qz (Later.refl _).drew, nofun, Nat.le_refl _, K3, K4, K6, KNr⟩
          · intro g ac us hg ha hI
            obtain ⟨x3, x26, x5, x25, i0, i1, i2, i3, i4, i5, i6, i7, i8, i11, hL, n9, Qu, Qv, Qz, -, hS, B3, B4, B6, BNr⟩ := hI
            have a0 := i0 (hg 0 (by simp))
            have a1 := i1 (hg 1 (by simp))
            have a2 := i2 (hg 2 (by simp))
            have a3 := i3 (hg 3 (by simp))
            have a4 := i4 (hg 4 (by simp))
            have a5 := i5 (hg 5 (by simp))
            have a6 := i6 (hg 6 (by simp))
            have a7 := i7 (hg 7 (by simp))
            have a8 := i8 (hg 8 (by simp))
            have a11 := i11 (hg 11 (by simp))
            obtain ⟨ks9, e9, bs9, q9_0, q9_1, Ks9, g9⟩ := n9 (hg 9 (by simp))
            have g9 := g9 (hg 10 (by simp))
            rw [g9.1, g9.2] at Ks9
            clear g9
            simp only [putAll, a0, a1, a2, a3, a4, a5, a6, a7, a8, a11, e9] at ha
            simp only [Act.put, List.setIfInBounds_toArray, List.set_cons_succ, List.set_cons_zero] at ha
            rw [ha]
            clear x3 x26 x5 x25 i0 i1 i2 i3 i4 i5 i6 i7 i8 i11 a0 a1 a2 a3 a4 a5 a6 a7 a8 a11 e9 n9 hg ha
            have HW212 := Lib.hid hL
            have hz212 := hL.size
            have HK3_212 := Lib.hid B3
            have HK4_212 := Lib.hid B4
            have HK6_212 := Lib.hid B6
            have HKNr_212 := Lib.hid BNr
            have HOu_212 := Lib.hid Qu
            have HOv_212 := Lib.hid Qv
            have HOz_212 := Lib.hid Qz
            have HKNs_212 := Lib.hid Ks9
            have hzus := hS
            clear hL hS B3 B4 B6 BNr Ks9 hL0 K3 K4 K6 KNr Qu Qv Qz
            obtain ⟨c3, f3, z3_212⟩ := blk_at HK3_212.out
            obtain ⟨c4, f4, z4_212⟩ := blk_at HK4_212.out
            obtain ⟨c6, f6, z6_212⟩ := blk_at HK6_212.out
            obtain ⟨cNr, fNr, zNr_212⟩ := blk_at HKNr_212.out
            obtain ⟨cNs, fNs, zNs_212⟩ := blk_at HKNs_212.out
            go_wp2_with fail
            refine (w_implIsSetting _ _ _).mono ?_
            rintro e w213 ⟨rfl, hL⟩
            have HW213 : Hid (Later W w213) := Lib.hid (Later.trans (by repeat (with_reducible first | exact HW212.out | refine Later.alloc ?_ _ | refine Later.drew ?_ | refine Later.drewN ?_ _ | refine Later.setCell ?_ (by first | omega | (simp; omega)) _)) hL)
            have hz213 := HW213.out.size
            have HOu_213 := Lib.hid (owns_later (by repeat (with_reducible first | exact HOu_212.out | apply World.ownsRow.alloc | (apply owns_setNe; case hk => first | assumption | exact ne_own HOu_212.out (by first | omega | (simp; omega)) | exact ne_low HOu_212.out (by omega)) | (refine owns_later ?_ (Later.refl _).drew) | (refine owns_later ?_ ((Later.refl _).drewN _)))) hL)
            have HOv_213 := Lib.hid (owns_later (by repeat (with_reducible first | exact HOv_212.out | apply World.ownsRow.alloc | (apply owns_setNe; case hk => first | assumption | exact ne_own HOv_212.out (by first | omega | (simp; omega)) | exact ne_low HOv_212.out (by omega)) | (refine owns_later ?_ (Later.refl _).drew) | (refine owns_later ?_ ((Later.refl _).drewN _)))) hL)
            have HOz_213 := Lib.hid (owns_later (by repeat (with_reducible first | exact HOz_212.out | apply World.ownsRow.alloc | (apply owns_setNe; case hk => first | assumption | exact ne_own HOz_212.out (by first | omega | (simp; omega)) | exact ne_low HOz_212.out (by omega)) | (refine owns_later ?_ (Later.refl _).drew) | (refine owns_later ?_ ((Later.refl _).drewN _)))) hL)
            have HK3_213 := Lib.hid (hL.keep (k := w1.heap.size) (by repeat (with_reducible first | exact HK3_212.out | exact heap_alloc_new _ _ | (apply heap_alloc_new'; first | rfl | (simp; done)) | apply heap_alloc_old | apply st_0_2 | apply st_1_2 | apply st_0_3 | apply st_1_3 | apply st_2_3 | apply st_0_4 | apply st_1_4 | apply st_2_4 | apply st_3_4 | (apply other_set; case hne => omega) | exact heap_alloc_new' _ _ (by first | rfl | (simp; done)))))
            have HK4_213 := Lib.hid (hL.keep (k := w1.heap.size + 1) (by repeat (with_reducible first | exact HK4_212.out | exact heap_alloc_new _ _ | (apply heap_alloc_new'; first | rfl | (simp; done)) | apply heap_alloc_old | apply st_0_2 | apply st_1_2 | apply st_0_3 | apply st_1_3 | apply st_2_3 | apply st_0_4 | apply st_1_4 | apply st_2_4 | apply st_3_4 | (apply other_set; case hne => omega) | exact heap_alloc_new' _ _ (by first | rfl | (simp; done)))))
            have HK6_213 := Lib.hid (hL.keep (k := w2.heap.size) (by repeat (with_reducible first | exact HK6_212.out | exact heap_alloc_new _ _ | (apply heap_alloc_new'; first | rfl | (simp; done)) | apply heap_alloc_old | apply st_0_2 | apply st_1_2 | apply st_0_3 | apply st_1_3 | apply st_2_3 | apply st_0_4 | apply st_1_4 | apply st_2_4 | apply st_3_4 | (apply other_set; case hne => omega) | exact heap_alloc_new' _ _ (by first | rfl | (simp; done)))))
            have HKNr_213 := Lib.hid (hL.keep (k := kr9) (by repeat (with_reducible first | exact HKNr_212.out | exact heap_alloc_new _ _ | (apply heap_alloc_new'; first | rfl | (simp; done)) | apply heap_alloc_old | apply st_0_2 | apply st_1_2 | apply st_0_3 | apply st_1_3 | apply st_2_3 | apply st_0_4 | apply st_1_4 | apply st_2_4 | apply st_3_4 | (apply other_set; case hne => omega) | exact heap_alloc_new' _ _ (by first | rfl | (simp; done)))))
            have HKNs_213 := Lib.hid (hL.keep (k := ks9) (by repeat (with_reducible first | exact HKNs_212.out | exact heap_alloc_new _ _ | (apply heap_alloc_new'; first | rfl | (simp; done)) | apply heap_alloc_old | apply st_0_2 | apply st_1_2 | apply st_0_3 | apply st_1_3 | apply st_2_3 | apply st_0_4 | apply st_1_4 | apply st_2_4 | apply st_3_4 | (apply other_set; case hne => omega) | exact heap_alloc_new' _ _ (by first | rfl | (simp; done)))))
            clear hL c3 f3 c4 f4 c6 f6 cNr fNr cNs fNs
            obtain ⟨c3, f3, z3_213⟩ := blk_at HK3_213.out
            obtain ⟨c4, f4, z4_213⟩ := blk_at HK4_213.out
            obtain ⟨c6, f6, z6_213⟩ := blk_at HK6_213.out
            obtain ⟨cNr, fNr, zNr_213⟩ := blk_at HKNr_213.out
            obtain ⟨cNs, fNs, zNs_213⟩ := blk_at HKNs_213.out
            rw [HSTG.out]
            go_wp2
            go_ret
            exact ⟨rfl, (by repeat (with_reducible first | exact HW213.out | refine Later.alloc ?_ _ | refine Later.drew ?_ | refine Later.drewN ?_ _ | refine Later.setCell ?_ (by first | omega | (simp; omega)) _))⟩
          · refine .cons ?_ (.cons ?_ (.cons ?_ (.cons ?_ (.cons ?_ (.cons ?_ (.cons ?_ (.cons ?_ (.cons ?_ (.cons ?_ (.cons ?_ (.cons ?_ .nil)))))))))))
            · unfold SlotStep
              intro g ac wc hn hk hr hI K' hK
              obtain ⟨x3, x26, x5, x25, i0, i1, i2, i3, i4, i5, i6, i7, i8, i11, hL, n9, Qu, Qv, Qz, m10_9, hS, B3, B4, B6, BNr⟩ := hI
              simp only [Region.binds] at hr
              simp at hr
              replace hK := Lib.hid hK
              replace i0 := Lib.hid i0
              replace i1 := Lib.hid i1
              replace i2 := Lib.hid i2
              replace i3 := Lib.hid i3
              replace i4 := Lib.hid i4
              replace i5 := Lib.hid i5
              replace i6 := Lib.hid i6
              replace i7 := Lib.hid i7
              replace i8 := Lib.hid i8
              replace i11 := Lib.hid i11
              replace n9 := Lib.hid n9
              replace Qu := Lib.hid Qu
              replace Qv := Lib.hid Qv
              replace Qz := Lib.hid Qz
              have hbb := blk_at B3
              have cb := hbb.1
              have fb := hbb.2.1
              have zb := hbb.2.2
              clear hbb
              go_simp
              exact hK.out _ _ ⟨(keepB x3 (by decide)), (keepB x26 (by decide)), (keepB x5 (by decide)), (keepB x25 (by decide)), (fun _ => put_eq (by omega)), (keepF i1.out (by decide)), (keepF i2.out (by decide)), (keepF i3.out (by decide)), (keepF i4.out (by decide)), (keepF i5.out (by decide)), (keepF i6.out (by decide)), (keepF i7.out (by decide)), (keepF i8.out (by decide)), (keepF i11.out (by decide)), hL, (fun h => by obtain ⟨k, e1, e2, q9_0, q9_1, e3, e4⟩ := n9.out h; exact ⟨k, (put_ne (by decide)).trans e1, e2, q9_0, q9_1, e3, e4⟩), Qu.out, Qv.out, Qz.out, m10_9, hS, B3, B4, B6, BNr⟩
            · unfold SlotStep
              intro g ac wc hn hk hr hI K' hK
              obtain ⟨x3, x26, x5, x25, i0, i1, i2, i3, i4, i5, i6, i7, i8, i11, hL, n9, Qu, Qv, Qz, m10_9, hS, B3, B4, B6, BNr⟩ := hI
              simp only [Region.binds] at hr
              simp at hr
              replace hK := Lib.hid hK
              replace i0 := Lib.hid i0
              replace i1 := Lib.hid i1
              replace i2 := Lib.hid i2
              replace i3 := Lib.hid i3
              replace i4 := Lib.hid i4
              replace i5 := Lib.hid i5
              replace i6 := Lib.hid i6
              replace i7 := Lib.hid i7
              replace i8 := Lib.hid i8
              replace i11 := Lib.hid i11
              replace n9 := Lib.hid n9
              replace Qu := Lib.hid Qu
              replace Qv := Lib.hid Qv
              replace Qz := Lib.hid Qz
              have hbb := blk_at BNr
              have cb := hbb.1
              have fb := hbb.2.1
              have zb := hbb.2.2
              clear hbb
              go_simp
              exact hK.out _ _ ⟨(keepB x3 (by decide)), (keepB x26 (by decide)), (keepB x5 (by decide)), (keepB x25 (by decide)), (keepF i0.out (by decide)), (fun _ => put_eq (by omega)), (keepF i2.out (by decide)), (keepF i3.out (by decide)), (keepF i4.out (by decide)), (keepF i5.out (by decide)), (keepF i6.out (by decide)), (keepF i7.out (by decide)), (keepF i8.out (by decide)), (keepF i11.out (by decide)), hL, (fun h => by obtain ⟨k, e1, e2, q9_0, q9_1, e3, e4⟩ := n9.out h; exact ⟨k, (put_ne (by decide)).trans e1, e2, q9_0, q9_1, e3, e4⟩), Qu.out, Qv.out, Qz.out, m10_9, hS, B3, B4, B6, BNr⟩
            · unfold SlotStep
              intro g ac wc hn hk hr hI K' hK
              obtain ⟨x3, x26, x5, x25, i0, i1, i2, i3, i4, i5, i6, i7, i8, i11, hL, n9, Qu, Qv, Qz, m10_9, hS, B3, B4, B6, BNr⟩ := hI
              simp only [Region.binds] at hr
              simp at hr
              replace hK := Lib.hid hK
              replace i0 := Lib.hid i0
              replace i1 := Lib.hid i1
              replace i2 := Lib.hid i2
              replace i3 := Lib.hid i3
              replace i4 := Lib.hid i4
              replace i5 := Lib.hid i5
              replace i6 := Lib.hid i6
              replace i7 := Lib.hid i7
              replace i8 := Lib.hid i8
              replace i11 := Lib.hid i11
              replace n9 := Lib.hid n9
              replace Qu := Lib.hid Qu
              replace Qv := Lib.hid Qv
              replace Qz := Lib.hid Qz
              go_simp
              exact hK.out _ _ ⟨(keepB x3 (by decide)), (keepB x26 (by decide)), (keepB x5 (by decide)), (keepB x25 (by decide)), (keepF i0.out (by decide)), (keepF i1.out (by decide)), (fun _ => put_eq (by omega)), (keepF i3.out (by decide)), (keepF i4.out (by decide)), (keepF i5.out (by decide)), (keepF i6.out (by decide)), (keepF i7.out (by decide)), (keepF i8.out (by decide)), (keepF i11.out (by decide)), hL, (fun h => by obtain ⟨k, e1, e2, q9_0, q9_1, e3, e4⟩ := n9.out h; exact ⟨k, (put_ne (by decide)).trans e1, e2, q9_0, q9_1, e3, e4⟩), Qu.out, Qv.out, Qz.out, m10_9, hS, B3, B4, B6, BNr⟩
            · unfold SlotStep
              intro g ac wc hn hk hr hI K' hK
              obtain ⟨x3, x26, x5, x25, i0, i1, i2, i3, i4, i5, i6, i7, i8, i11, hL, n9, Qu, Qv, Qz, m10_9, hS, B3, B4, B6, BNr⟩ := hI
              simp only [Region.binds] at hr
              simp at hr
              replace hK := Lib.hid hK
              replace i0 := Lib.hid i0
              replace i1 := Lib.hid i1
              replace i2 := Lib.hid i2
              replace i3 := Lib.hid i3
              replace i4 := Lib.hid i4
              replace i5 := Lib.hid i5
              replace i6 := Lib.hid i6
              replace i7 := Lib.hid i7
              replace i8 := Lib.hid i8
              replace i11 := Lib.hid i11
              replace n9 := Lib.hid n9
              replace Qu := Lib.hid Qu
              replace Qv := Lib.hid Qv
              replace Qz := Lib.hid Qz
              go_simp
              exact hK.out _ _ ⟨(keepB x3 (by decide)), (keepB x26 (by decide)), (keepB x5 (by decide)), (keepB x25 (by decide)), (keepF i0.out (by decide)), (keepF i1.out (by decide)), (keepF i2.out (by decide)), (fun _ => put_eq (by omega)), (keepF i4.out (by decide)), (keepF i5.out (by decide)), (keepF i6.out (by decide)), (keepF i7.out (by decide)), (keepF i8.out (by decide)), (keepF i11.out (by decide)), hL, (fun h => by obtain ⟨k, e1, e2, q9_0, q9_1, e3, e4⟩ := n9.out h; exact ⟨k, (put_ne (by decide)).trans e1, e2, q9_0, q9_1, e3, e4⟩), Qu.out, Qv.out, Qz.out, m10_9, hS, B3, B4, B6, BNr⟩
            · unfold SlotStep
              intro g ac wc hn hk hr hI K' hK
              obtain ⟨x3, x26, x5, x25, i0, i1, i2, i3, i4, i5, i6, i7, i8, i11, hL, n9, Qu, Qv, Qz, m10_9, hS, B3, B4, B6, BNr⟩ := hI
              simp only [Region.binds] at hr
              simp at hr
              replace hK := Lib.hid hK
              have y2 := i2 (by first | exact hr | exact hr.1 | exact hr.2 | exact hr.2.1 | exact hr.2.2 | exact hr.2.2.1 | exact hr.2.2.2 | simp [hr])
              have y3 := i3 (by first | exact hr | exact hr.1 | exact hr.2 | exact hr.2.1 | exact hr.2.2 | exact hr.2.2.1 | exact hr.2.2.2 | simp [hr])
              have z2 := sl_get y2 (by omega)
              have z3 := sl_get y3 (by omega)
              replace i0 := Lib.hid i0
              replace i1 := Lib.hid i1
              replace i2 := Lib.hid i2
              replace i3 := Lib.hid i3
              replace i4 := Lib.hid i4
              replace i5 := Lib.hid i5
              replace i6 := Lib.hid i6
              replace i7 := Lib.hid i7
              replace i8 := Lib.hid i8
              replace i11 := Lib.hid i11
              replace n9 := Lib.hid n9
              replace Qu := Lib.hid Qu
              replace Qv := Lib.hid Qv
              replace Qz := Lib.hid Qz
              have hkn2 : l.length - ct = 0 := by have h := HKN.out; omega
              have hle2 : ((ct : Int) ≤ (l.length : Int)) = True := by simp; have h := HKN.out; omega
              go_simp
              exact hK.out _ _ ⟨(keepB x3 (by decide)), (keepB x26 (by decide)), (keepB x5 (by decide)), (keepB x25 (by decide)), (keepF i0.out (by decide)), (keepF i1.out (by decide)), (keepF i2.out (by decide)), (keepF i3.out (by decide)), (fun _ => put_eq (by omega)), (keepF i5.out (by decide)), (keepF i6.out (by decide)), (keepF i7.out (by decide)), (keepF i8.out (by decide)), (keepF i11.out (by decide)), hL, (fun h => by obtain ⟨k, e1, e2, q9_0, q9_1, e3, e4⟩ := n9.out h; exact ⟨k, (put_ne (by decide)).trans e1, e2, q9_0, q9_1, e3, e4⟩), Qu.out, Qv.out, Qz.out, m10_9, hS, B3, B4, B6, BNr⟩
            · unfold SlotStep
              intro g ac wc hn hk hr hI K' hK
              obtain ⟨x3, x26, x5, x25, i0, i1, i2, i3, i4, i5, i6, i7, i8, i11, hL, n9, Qu, Qv, Qz, m10_9, hS, B3, B4, B6, BNr⟩ := hI
              simp only [Region.binds] at hr
              simp at hr
              replace hK := Lib.hid hK
              have y0 := i0 (by first | exact hr | exact hr.1 | exact hr.2 | exact hr.2.1 | exact hr.2.2 | exact hr.2.2.1 | exact hr.2.2.2 | simp [hr])
              have y1 := i1 (by first | exact hr | exact hr.1 | exact hr.2 | exact hr.2.1 | exact hr.2.2 | exact hr.2.2.1 | exact hr.2.2.2 | simp [hr])
              have y4 := i4 (by first | exact hr | exact hr.1 | exact hr.2 | exact hr.2.1 | exact hr.2.2 | exact hr.2.2.1 | exact hr.2.2.2 | simp [hr])
              have z0 := sl_get y0 (by omega)
              have z1 := sl_get y1 (by omega)
              have z4 := sl_get y4 (by omega)
              replace i0 := Lib.hid i0
              replace i1 := Lib.hid i1
              replace i2 := Lib.hid i2
              replace i3 := Lib.hid i3
              replace i4 := Lib.hid i4
              replace i5 := Lib.hid i5
              replace i6 := Lib.hid i6
              replace i7 := Lib.hid i7
              replace i8 := Lib.hid i8
              replace i11 := Lib.hid i11
              replace n9 := Lib.hid n9
              replace Qu := Lib.hid Qu
              replace Qv := Lib.hid Qv
              replace Qz := Lib.hid Qz
              go_simp
              refine (w_implRunMoves n _ _ st sd (runMv ⟨n, st, sd⟩ ⟨s.sh, s.cu⟩ (l.take ct)).sh (runMv ⟨n, st, sd⟩ ⟨s.sh, s.cu⟩ (l.take ct)).cu _ (l.drop ct) wc (reads_of_owns Qu.out (by omega)) (reads_of_owns Qv.out (by omega)) (movs_end HKN.out az)).mono ?_
              rintro e w4 ⟨rfl, hL4⟩
              rw [HR2.out, HR3.out]
              exact hK.out _ _ ⟨(keepB x3 (by decide)), (keepB x26 (by decide)), (keepB x5 (by decide)), (keepB x25 (by decide)), (keepF i0.out (by decide)), (keepF i1.out (by decide)), (keepF i2.out (by decide)), (keepF i3.out (by decide)), (keepF i4.out (by decide)), (fun _ => put_eq (by omega)), (keepF i6.out (by decide)), (keepF i7.out (by decide)), (keepF i8.out (by decide)), (keepF i11.out (by decide)), hL.trans hL4, (fun h => by obtain ⟨k, e1, e2, q9_0, q9_1, e3, e4⟩ := n9.out h; exact ⟨k, (put_ne (by decide)).trans e1, e2, q9_0, q9_1, hL4.keep e3, e4⟩), (owns_later Qu.out hL4), (owns_later Qv.out hL4), (owns_later Qz.out hL4), m10_9, Nat.le_trans hS hL4.size, (hL4.keep B3), (hL4.keep B4), (hL4.keep B6), (hL4.keep BNr)⟩
            · unfold SlotStep
              intro g ac wc hn hk hr hI K' hK
              obtain ⟨x3, x26, x5, x25, i0, i1, i2, i3, i4, i5, i6, i7, i8, i11, hL, n9, Qu, Qv, Qz, m10_9, hS, B3, B4, B6, BNr⟩ := hI
              simp only [Region.binds] at hr
              simp at hr
              replace hK := Lib.hid hK
              have y5 := i5 (by first | exact hr | exact hr.1 | exact hr.2 | exact hr.2.1 | exact hr.2.2 | exact hr.2.2.1 | exact hr.2.2.2 | simp [hr])
              have z5 := sl_get y5 (by omega)
              replace i0 := Lib.hid i0
              replace i1 := Lib.hid i1
              replace i2 := Lib.hid i2
              replace i3 := Lib.hid i3
              replace i4 := Lib.hid i4
              replace i5 := Lib.hid i5
              replace i6 := Lib.hid i6
              replace i7 := Lib.hid i7
              replace i8 := Lib.hid i8
              replace i11 := Lib.hid i11
              replace n9 := Lib.hid n9
              replace Qu := Lib.hid Qu
              replace Qv := Lib.hid Qv
              replace Qz := Lib.hid Qz
              go_simp
              exact hK.out _ _ ⟨(keepB x3 (by decide)), (keepB x26 (by decide)), (keepB x5 (by decide)), (keepB x25 (by decide)), (keepF i0.out (by decide)), (keepF i1.out (by decide)), (keepF i2.out (by decide)), (keepF i3.out (by decide)), (keepF i4.out (by decide)), (keepF i5.out (by decide)), (fun _ => put_eq (by omega)), (keepF i7.out (by decide)), (keepF i8.out (by decide)), (keepF i11.out (by decide)), hL, (fun h => by obtain ⟨k, e1, e2, q9_0, q9_1, e3, e4⟩ := n9.out h; exact ⟨k, (put_ne (by decide)).trans e1, e2, q9_0, q9_1, e3, e4⟩), Qu.out, Qv.out, Qz.out, m10_9, hS, B3, B4, B6, BNr⟩
            · unfold SlotStep
              intro g ac wc hn hk hr hI K' hK
              obtain ⟨x3, x26, x5, x25, i0, i1, i2, i3, i4, i5, i6, i7, i8, i11, hL, n9, Qu, Qv, Qz, m10_9, hS, B3, B4, B6, BNr⟩ := hI
              simp only [Region.binds] at hr
              simp at hr
              replace hK := Lib.hid hK
              have y6 := i6 (by first | exact hr | exact hr.1 | exact hr.2 | exact hr.2.1 | exact hr.2.2 | exact hr.2.2.1 | exact hr.2.2.2 | simp [hr])
              have z6 := sl_get y6 (by omega)
              replace i0 := Lib.hid i0
              replace i1 := Lib.hid i1
              replace i2 := Lib.hid i2
              replace i3 := Lib.hid i3
              replace i4 := Lib.hid i4
              replace i5 := Lib.hid i5
              replace i6 := Lib.hid i6
              replace i7 := Lib.hid i7
              replace i8 := Lib.hid i8
              replace i11 := Lib.hid i11
              replace n9 := Lib.hid n9
              replace Qu := Lib.hid Qu
              replace Qv := Lib.hid Qv
              replace Qz := Lib.hid Qz
              go_simp
              exact hK.out _ _ ⟨(keepB x3 (by decide)), (keepB x26 (by decide)), (keepB x5 (by decide)), (keepB x25 (by decide)), (keepF i0.out (by decide)), (keepF i1.out (by decide)), (keepF i2.out (by decide)), (keepF i3.out (by decide)), (keepF i4.out (by decide)), (keepF i5.out (by decide)), (keepF i6.out (by decide)), (fun _ => put_eq (by omega)), (keepF i8.out (by decide)), (keepF i11.out (by decide)), hL, (fun h => by obtain ⟨k, e1, e2, q9_0, q9_1, e3, e4⟩ := n9.out h; exact ⟨k, (put_ne (by decide)).trans e1, e2, q9_0, q9_1, e3, e4⟩), Qu.out, Qv.out, Qz.out, m10_9, hS, B3, B4, B6, BNr⟩
            · unfold SlotStep
              intro g ac wc hn hk hr hI K' hK
              obtain ⟨x3, x26, x5, x25, i0, i1, i2, i3, i4, i5, i6, i7, i8, i11, hL, n9, Qu, Qv, Qz, m10_9, hS, B3, B4, B6, BNr⟩ := hI
              simp only [Region.binds] at hr
              simp at hr
              replace hK := Lib.hid hK
              have y6 := i6 (by first | exact hr | exact hr.1 | exact hr.2 | exact hr.2.1 | exact hr.2.2 | exact hr.2.2.1 | exact hr.2.2.2 | simp [hr])
              have z6 := sl_get y6 (by omega)
              replace i0 := Lib.hid i0
              replace i1 := Lib.hid i1
              replace i2 := Lib.hid i2
              replace i3 := Lib.hid i3
              replace i4 := Lib.hid i4
              replace i5 := Lib.hid i5
              replace i6 := Lib.hid i6
              replace i7 := Lib.hid i7
              replace i8 := Lib.hid i8
              replace i11 := Lib.hid i11
              replace n9 := Lib.hid n9
              replace Qu := Lib.hid Qu
              replace Qv := Lib.hid Qv
              replace Qz := Lib.hid Qz
              go_simp
              exact hK.out _ _ ⟨(keepB x3 (by decide)), (keepB x26 (by decide)), (keepB x5 (by decide)), (keepB x25 (by decide)), (keepF i0.out (by decide)), (keepF i1.out (by decide)), (keepF i2.out (by decide)), (keepF i3.out (by decide)), (keepF i4.out (by decide)), (keepF i5.out (by decide)), (keepF i6.out (by decide)), (keepF i7.out (by decide)), (fun _ => put_eq (by omega)), (keepF i11.out (by decide)), hL, (fun h => by obtain ⟨k, e1, e2, q9_0, q9_1, e3, e4⟩ := n9.out h; exact ⟨k, (put_ne (by decide)).trans e1, e2, q9_0, q9_1, e3, e4⟩), Qu.out, Qv.out, Qz.out, m10_9, hS, B3, B4, B6, BNr⟩
            · unfold SlotStep
              intro g ac wc hn hk hr hI K' hK
              obtain ⟨x3, x26, x5, x25, i0, i1, i2, i3, i4, i5, i6, i7, i8, i11, hL, n9, Qu, Qv, Qz, m10_9, hS, B3, B4, B6, BNr⟩ := hI
              simp only [Region.binds] at hr
              simp at hr
              replace hK := Lib.hid hK
              replace i0 := Lib.hid i0
              replace i1 := Lib.hid i1
              replace i2 := Lib.hid i2
              replace i3 := Lib.hid i3
              replace i4 := Lib.hid i4
              replace i5 := Lib.hid i5
              replace i6 := Lib.hid i6
              replace i7 := Lib.hid i7
              replace i8 := Lib.hid i8
              replace i11 := Lib.hid i11
              replace n9 := Lib.hid n9
              replace Qu := Lib.hid Qu
              replace Qv := Lib.hid Qv
              replace Qz := Lib.hid Qz
              go_simp
              have hL4 := (Later.refl wc).alloc (.cells #[.int .i64 0, .int .i64 0] 66)
              exact hK.out _ _ ⟨(keepB x3 (by decide)), (keepB x26 (by decide)), (keepB x5 (by decide)), (keepB x25 (by decide)), (keepF i0.out (by decide)), (keepF i1.out (by decide)), (keepF i2.out (by decide)), (keepF i3.out (by decide)), (keepF i4.out (by decide)), (keepF i5.out (by decide)), (keepF i6.out (by decide)), (keepF i7.out (by decide)), (keepF i8.out (by decide)), (keepF i11.out (by decide)), hL.alloc _, (fun _ => ⟨_, put_eq (by omega), hS, _, _, heap_alloc_new _ _, fun h => absurd (m10_9 h) (by rw [hk]; simp)⟩), (owns_later Qu.out hL4), (owns_later Qv.out hL4), (owns_later Qz.out hL4), (fun _ => rfl), (by simp; omega), (hL4.keep B3), (hL4.keep B4), (hL4.keep B6), (hL4.keep BNr)⟩
            · unfold SlotStep
              intro g ac wc hn hk hr hI K' hK
              obtain ⟨x3, x26, x5, x25, i0, i1, i2, i3, i4, i5, i6, i7, i8, i11, hL, n9, Qu, Qv, Qz, m10_9, hS, B3, B4, B6, BNr⟩ := hI
              simp only [Region.binds] at hr
              simp at hr
              replace hK := Lib.hid hK
              have y7 := i7 (by first | exact hr | exact hr.1 | exact hr.2 | exact hr.2.1 | exact hr.2.2 | exact hr.2.2.1 | exact hr.2.2.2 | simp [hr])
              have gm9 : g 9 = true := by first | exact m10_9 (by simp [hr]) | exact hr | exact hr.1 | exact hr.2 | exact hr.2.1 | simp [hr]
              replace i0 := Lib.hid i0
              replace i1 := Lib.hid i1
              replace i2 := Lib.hid i2
              replace i3 := Lib.hid i3
              replace i4 := Lib.hid i4
              replace i5 := Lib.hid i5
              replace i6 := Lib.hid i6
              replace i7 := Lib.hid i7
              replace i8 := Lib.hid i8
              replace i11 := Lib.hid i11
              replace n9 := Lib.hid n9
              replace Qu := Lib.hid Qu
              replace Qv := Lib.hid Qv
              replace Qz := Lib.hid Qz
              obtain ⟨k, e1, e2, q9_0, q9_1, e3, -⟩ := n9.out gm9
              have c0 := (blk_at e3).1
              have f0 := (blk_at e3).2.1
              have z0 := (blk_at e3).2.2
              have ze := sl_get e1 (by omega)
              have z7 := sl_get y7 (by omega)
              go_simp
              exact hK.out undef _ ⟨x3, x26, x5, x25, i0.out, i1.out, i2.out, i3.out, i4.out, i5.out, i6.out, i7.out, i8.out, i11.out, ((hL.setCell (show W.heap.size ≤ k by omega) _).setCell (show W.heap.size ≤ k by omega) _), (fun _ => ⟨k, e1, e2, _, _, two_set e3 _ _, fun _ => ⟨rfl, rfl⟩⟩), (owns_setNe (owns_setNe Qu.out (fun e => by have := NBu _ e; omega) _ _) (fun e => by have := NBu _ e; omega) _ _), (owns_setNe (owns_setNe Qv.out (fun e => by have := NBv _ e; omega) _ _) (fun e => by have := NBv _ e; omega) _ _), (owns_setNe (owns_setNe Qz.out (fun e => by have := NBz _ e; omega) _ _) (fun e => by have := NBz _ e; omega) _ _), (fun _ => gm9), (by simp; omega), (other_set (other_set B3 (by omega) _) (by omega) _), (other_set (other_set B4 (by omega) _) (by omega) _), (other_set (other_set B6 (by omega) _) (by omega) _), (other_set (other_set BNr (by omega) _) (by omega) _)⟩
            · unfold SlotStep
              intro g ac wc hn hk hr hI K' hK
              obtain ⟨x3, x26, x5, x25, i0, i1, i2, i3, i4, i5, i6, i7, i8, i11, hL, n9, Qu, Qv, Qz, m10_9, hS, B3, B4, B6, BNr⟩ := hI
              simp only [Region.binds] at hr
              simp at hr
              replace hK := Lib.hid hK
              have y8 := i8 (by first | exact hr | exact hr.1 | exact hr.2 | exact hr.2.1 | exact hr.2.2 | exact hr.2.2.1 | exact hr.2.2.2 | simp [hr])
              have z8 := sl_get y8 (by omega)
              replace i0 := Lib.hid i0
              replace i1 := Lib.hid i1
              replace i2 := Lib.hid i2
              replace i3 := Lib.hid i3
              replace i4 := Lib.hid i4
              replace i5 := Lib.hid i5
              replace i6 := Lib.hid i6
              replace i7 := Lib.hid i7
              replace i8 := Lib.hid i8
              replace i11 := Lib.hid i11
              replace n9 := Lib.hid n9
              replace Qu := Lib.hid Qu
              replace Qv := Lib.hid Qv
              replace Qz := Lib.hid Qz
              go_simp
              exact hK.out _ _ ⟨(keepB x3 (by decide)), (keepB x26 (by decide)), (keepB x5 (by decide)), (keepB x25 (by decide)), (keepF i0.out (by decide)), (keepF i1.out (by decide)), (keepF i2.out (by decide)), (keepF i3.out (by decide)), (keepF i4.out (by decide)), (keepF i5.out (by decide)), (keepF i6.out (by decide)), (keepF i7.out (by decide)), (keepF i8.out (by decide)), (fun _ => put_eq (by omega)), hL, (fun h => by obtain ⟨k, e1, e2, q9_0, q9_1, e3, e4⟩ := n9.out h; exact ⟨k, (put_ne (by decide)).trans e1, e2, q9_0, q9_1, e3, e4⟩), Qu.out, Qv.out, Qz.out, m10_9, hS, B3, B4, B6, BNr⟩
        · skip
          rcases own_shape HOz_112.out with ⟨hq, _, _⟩ | ⟨gz, _, hs, _, _, _, _⟩
          · have e := (Value.slice.inj hq).2
            omega
          cases hs
          have hkc3 : ¬ capz = ct := fun e => hkc e.symm
          go_wp2_with fail
          have hL0 := HW112.out
          have hSB := HW112.out.size
          have K3 := HK3_112.out
          have K4 := HK4_112.out
          have K6 := HK6_112.out
          have KNr := HKNr_112.out
          have Qu := HOu_112.out
          have Qv := HOv_112.out
          have Qz := HOz_112.out
          clear c3 f3 c4 f4 c6 f6 cNr fNr
          have NBu := own_le Qu
          have NBv := own_le Qv
          have NBz := own_le Qz
          refine region_slots 200 [173, 174, 175, 176, 177, 178, 172, 179, 180, 28, 29] (fun g ac wc => sl ac 3 = .pointer (some ⟨w1.heap.size, 0, none⟩) ∧
            sl ac 26 = .pointer (some ⟨kr9, 0, none⟩) ∧
            sl ac 5 = .slice (some ⟨gz, 0, none⟩) l.length capz ∧
            sl ac 25 = .int .i64 (ct : Nat) ∧
            (g 0 = true → sl ac 173 = .agg #[.int .i64 n, .slice au st.length capu, .slice av sd.length capv]) ∧
            (g 1 = true → sl ac 174 = .agg #[.int .i64 (runMv ⟨n, st, sd⟩ ⟨s.sh, s.cu⟩ (l.take ct)).sh, .int .i64 (runMv ⟨n, st, sd⟩ ⟨s.sh, s.cu⟩ (l.take ct)).cu]) ∧
            (g 2 = true → sl ac 175 = .slice (some ⟨gz, 0, none⟩) l.length capz) ∧
            (g 3 = true → sl ac 176 = .int .i64 (ct : Nat)) ∧
            (g 4 = true → sl ac 177 = .slice (some ⟨gz, ct * 4, none⟩) (l.length - ct) (capz - ct)) ∧
            (g 5 = true → sl ac 178 = .tuple #[.agg #[.int .i64 (runMv ⟨n, st, sd⟩ ⟨s.sh, s.cu⟩ l).sh, .int .i64 (runMv ⟨n, st, sd⟩ ⟨s.sh, s.cu⟩ l).cu], .int .i64 0]) ∧
            (g 6 = true → sl ac 172 = .tuple #[.agg #[.int .i64 (runMv ⟨n, st, sd⟩ ⟨s.sh, s.cu⟩ l).sh, .int .i64 (runMv ⟨n, st, sd⟩ ⟨s.sh, s.cu⟩ l).cu], .int .i64 0]) ∧
            (g 7 = true → sl ac 179 = .agg #[.int .i64 (runMv ⟨n, st, sd⟩ ⟨s.sh, s.cu⟩ l).sh, .int .i64 (runMv ⟨n, st, sd⟩ ⟨s.sh, s.cu⟩ l).cu]) ∧
            (g 8 = true → sl ac 180 = .int .i64 0) ∧
            (g 11 = true → sl ac 29 = .int .i64 0) ∧
            Later W wc ∧
            (g 9 = true → ∃ k, sl ac 28 = .pointer (some ⟨k, 0, none⟩) ∧ wu.heap.size ≤ k ∧ ∃ q9_0 q9_1, wc.heap[k]? = some (.cells #[q9_0, q9_1] 66 (0, 0)) ∧ (g 10 = true → q9_0 = .int .i64 (runMv ⟨n, st, sd⟩ ⟨s.sh, s.cu⟩ l).sh ∧ q9_1 = .int .i64 (runMv ⟨n, st, sd⟩ ⟨s.sh, s.cu⟩ l).cu)) ∧
            wc.ownsRow W.heap.size 2 1 (.slice au st.length capu) (st.length) (nums st) ∧
            wc.ownsRow W.heap.size 2 1 (.slice av sd.length capv) (sd.length) (nums sd) ∧
            wc.ownsRow W.heap.size 74 4 (.slice (some ⟨gz, 0, none⟩) l.length capz) (l.length) (movs l) ∧
            (g 10 = true → g 9 = true) ∧
            wu.heap.size ≤ wc.heap.size ∧
            wc.heap[w1.heap.size]? = some (.cells #[.int .i64 n, .slice au st.length capu, .slice av sd.length capv] 64 (0, 0)) ∧
            wc.heap[w1.heap.size + 1]? = some (.cells #[.int .i64 s.sh, .int .i64 s.cu] 66 (0, 0)) ∧
            wc.heap[w2.heap.size]? = some (.cells #[.int .i64 (runMv ⟨n, st, sd⟩ ⟨s.sh, s.cu⟩ l).sh, .int .i64 (runMv ⟨n, st, sd⟩ ⟨s.sh, s.cu⟩ l).cu] 66 (0, 0)) ∧
            wc.heap[kr9]? = some (.cells #[.int .i64 (runMv ⟨n, st, sd⟩ ⟨s.sh, s.cu⟩ (l.take ct)).sh, .int .i64 (runMv ⟨n, st, sd⟩ ⟨s.sh, s.cu⟩ (l.take ct)).cu] 66 (0, 0))) (by kernel_rfl) (by kernel_rfl) rfl (by kernel_rfl) ?_ ?_ ?_
          · exact ⟨rfl, rfl, rfl, rfl, nofun, nofun, nofun, nofun, nofun, nofun, nofun, nofun, nofun, nofun, hL0.drew, nofun, owns_later Qu (Later.refl _).drew, owns_later Qv (Later.refl _).drew, owns_later Qz (Later.refl _).drew, nofun, Nat.le_refl _, K3, K4, K6, KNr⟩
          · intro g ac us hg ha hI
            obtain ⟨x3, x26, x5, x25, i0, i1, i2, i3, i4, i5, i6, i7, i8, i11, hL, n9, Qu, Qv, Qz, -, hS, B3, B4, B6, BNr⟩ := hI
            have a0 := i0 (hg 0 (by simp))
            have a1 := i1 (hg 1 (by simp))
            have a2 := i2 (hg 2 (by simp))
            have a3 := i3 (hg 3 (by simp))
            have a4 := i4 (hg 4 (by simp))
            have a5 := i5 (hg 5 (by simp))
            have a6 := i6 (hg 6 (by simp))
            have a7 := i7 (hg 7 (by simp))
            have a8 := i8 (hg 8 (by simp))
            have a11 := i11 (hg 11 (by simp))
            obtain ⟨ks9, e9, bs9, q9_0, q9_1, Ks9, g9⟩ := n9 (hg 9 (by simp))
            have g9 := g9 (hg 10 (by simp))
            rw [g9.1, g9.2] at Ks9
            clear g9
            simp only [putAll, a0, a1, a2, a3, a4, a5, a6, a7, a8, a11, e9] at ha
            simp only [Act.put, List.setIfInBounds_toArray, List.set_cons_succ, List.set_cons_zero] at ha
            rw [ha]
            clear x3 x26 x5 x25 i0 i1 i2 i3 i4 i5 i6 i7 i8 i11 a0 a1 a2 a3 a4 a5 a6 a7 a8 a11 e9 n9 hg ha
            have HW212 := Lib.hid hL
            have hz212 := hL.size
            have HK3_212 := Lib.hid B3
            have HK4_212 := Lib.hid B4
            have HK6_212 := Lib.hid B6
            have HKNr_212 := Lib.hid BNr
            have HOu_212 := Lib.hid Qu
            have HOv_212 := Lib.hid Qv
            have HOz_212 := Lib.hid Qz
            have HKNs_212 := Lib.hid Ks9
            have hzus := hS
            clear hL hS B3 B4 B6 BNr Ks9 hL0 K3 K4 K6 KNr Qu Qv Qz
            obtain ⟨c3, f3, z3_212⟩ := blk_at HK3_212.out
            obtain ⟨c4, f4, z4_212⟩ := blk_at HK4_212.out
            obtain ⟨c6, f6, z6_212⟩ := blk_at HK6_212.out
            obtain ⟨cNr, fNr, zNr_212⟩ := blk_at HKNr_212.out
            obtain ⟨cNs, fNs, zNs_212⟩ := blk_at HKNs_212.out
            go_wp2_with fail
            refine (w_implIsSetting _ _ _).mono ?_
            rintro e w213 ⟨rfl, hL⟩
            have HW213 : Hid (Later W w213) := Lib.hid (Later.trans (by repeat (with_reducible first | exact HW212.out | refine Later.alloc ?_ _ | refine Later.drew ?_ | refine Later.drewN ?_ _ | refine Later.setCell ?_ (by first | omega | (simp; omega)) _)) hL)
            have hz213 := HW213.out.size
            have HOu_213 := Lib.hid (owns_later (by repeat (with_reducible first | exact HOu_212.out | apply World.ownsRow.alloc | (apply owns_setNe; case hk => first | assumption | exact ne_own HOu_212.out (by first | omega | (simp; omega)) | exact ne_low HOu_212.out (by omega)) | (refine owns_later ?_ (Later.refl _).drew) | (refine owns_later ?_ ((Later.refl _).drewN _)))) hL)
            have HOv_213 := Lib.hid (owns_later (by repeat (with_reducible first | exact HOv_212.out | apply World.ownsRow.alloc | (apply owns_setNe; case hk => first | assumption | exact ne_own HOv_212.out (by first | omega | (simp; omega)) | exact ne_low HOv_212.out (by omega)) | (refine owns_later ?_ (Later.refl _).drew) | (refine owns_later ?_ ((Later.refl _).drewN _)))) hL)
            have HOz_213 := Lib.hid (owns_later (by repeat (with_reducible first | exact HOz_212.out | apply World.ownsRow.alloc | (apply owns_setNe; case hk => first | assumption | exact ne_own HOz_212.out (by first | omega | (simp; omega)) | exact ne_low HOz_212.out (by omega)) | (refine owns_later ?_ (Later.refl _).drew) | (refine owns_later ?_ ((Later.refl _).drewN _)))) hL)
            have HK3_213 := Lib.hid (hL.keep (k := w1.heap.size) (by repeat (with_reducible first | exact HK3_212.out | exact heap_alloc_new _ _ | (apply heap_alloc_new'; first | rfl | (simp; done)) | apply heap_alloc_old | apply st_0_2 | apply st_1_2 | apply st_0_3 | apply st_1_3 | apply st_2_3 | apply st_0_4 | apply st_1_4 | apply st_2_4 | apply st_3_4 | (apply other_set; case hne => omega) | exact heap_alloc_new' _ _ (by first | rfl | (simp; done)))))
            have HK4_213 := Lib.hid (hL.keep (k := w1.heap.size + 1) (by repeat (with_reducible first | exact HK4_212.out | exact heap_alloc_new _ _ | (apply heap_alloc_new'; first | rfl | (simp; done)) | apply heap_alloc_old | apply st_0_2 | apply st_1_2 | apply st_0_3 | apply st_1_3 | apply st_2_3 | apply st_0_4 | apply st_1_4 | apply st_2_4 | apply st_3_4 | (apply other_set; case hne => omega) | exact heap_alloc_new' _ _ (by first | rfl | (simp; done)))))
            have HK6_213 := Lib.hid (hL.keep (k := w2.heap.size) (by repeat (with_reducible first | exact HK6_212.out | exact heap_alloc_new _ _ | (apply heap_alloc_new'; first | rfl | (simp; done)) | apply heap_alloc_old | apply st_0_2 | apply st_1_2 | apply st_0_3 | apply st_1_3 | apply st_2_3 | apply st_0_4 | apply st_1_4 | apply st_2_4 | apply st_3_4 | (apply other_set; case hne => omega) | exact heap_alloc_new' _ _ (by first | rfl | (simp; done)))))
            have HKNr_213 := Lib.hid (hL.keep (k := kr9) (by repeat (with_reducible first | exact HKNr_212.out | exact heap_alloc_new _ _ | (apply heap_alloc_new'; first | rfl | (simp; done)) | apply heap_alloc_old | apply st_0_2 | apply st_1_2 | apply st_0_3 | apply st_1_3 | apply st_2_3 | apply st_0_4 | apply st_1_4 | apply st_2_4 | apply st_3_4 | (apply other_set; case hne => omega) | exact heap_alloc_new' _ _ (by first | rfl | (simp; done)))))
            have HKNs_213 := Lib.hid (hL.keep (k := ks9) (by repeat (with_reducible first | exact HKNs_212.out | exact heap_alloc_new _ _ | (apply heap_alloc_new'; first | rfl | (simp; done)) | apply heap_alloc_old | apply st_0_2 | apply st_1_2 | apply st_0_3 | apply st_1_3 | apply st_2_3 | apply st_0_4 | apply st_1_4 | apply st_2_4 | apply st_3_4 | (apply other_set; case hne => omega) | exact heap_alloc_new' _ _ (by first | rfl | (simp; done)))))
            clear hL c3 f3 c4 f4 c6 f6 cNr fNr cNs fNs
            obtain ⟨c3, f3, z3_213⟩ := blk_at HK3_213.out
            obtain ⟨c4, f4, z4_213⟩ := blk_at HK4_213.out
            obtain ⟨c6, f6, z6_213⟩ := blk_at HK6_213.out
            obtain ⟨cNr, fNr, zNr_213⟩ := blk_at HKNr_213.out
            obtain ⟨cNs, fNs, zNs_213⟩ := blk_at HKNs_213.out
            rw [HSTG.out]
            go_wp2
            go_ret
            exact ⟨rfl, (by repeat (with_reducible first | exact HW213.out | refine Later.alloc ?_ _ | refine Later.drew ?_ | refine Later.drewN ?_ _ | refine Later.setCell ?_ (by first | omega | (simp; omega)) _))⟩
          · refine .cons ?_ (.cons ?_ (.cons ?_ (.cons ?_ (.cons ?_ (.cons ?_ (.cons ?_ (.cons ?_ (.cons ?_ (.cons ?_ (.cons ?_ (.cons ?_ .nil)))))))))))
            · unfold SlotStep
              intro g ac wc hn hk hr hI K' hK
              obtain ⟨x3, x26, x5, x25, i0, i1, i2, i3, i4, i5, i6, i7, i8, i11, hL, n9, Qu, Qv, Qz, m10_9, hS, B3, B4, B6, BNr⟩ := hI
              simp only [Region.binds] at hr
              simp at hr
              replace hK := Lib.hid hK
              replace i0 := Lib.hid i0
              replace i1 := Lib.hid i1
              replace i2 := Lib.hid i2
              replace i3 := Lib.hid i3
              replace i4 := Lib.hid i4
              replace i5 := Lib.hid i5
              replace i6 := Lib.hid i6
              replace i7 := Lib.hid i7
              replace i8 := Lib.hid i8
              replace i11 := Lib.hid i11
              replace n9 := Lib.hid n9
              replace Qu := Lib.hid Qu
              replace Qv := Lib.hid Qv
              replace Qz := Lib.hid Qz
              have hbb := blk_at B3
              have cb := hbb.1
              have fb := hbb.2.1
              have zb := hbb.2.2
              clear hbb
              go_simp
              exact hK.out _ _ ⟨(keepB x3 (by decide)), (keepB x26 (by decide)), (keepB x5 (by decide)), (keepB x25 (by decide)), (fun _ => put_eq (by omega)), (keepF i1.out (by decide)), (keepF i2.out (by decide)), (keepF i3.out (by decide)), (keepF i4.out (by decide)), (keepF i5.out (by decide)), (keepF i6.out (by decide)), (keepF i7.out (by decide)), (keepF i8.out (by decide)), (keepF i11.out (by decide)), hL, (fun h => by obtain ⟨k, e1, e2, q9_0, q9_1, e3, e4⟩ := n9.out h; exact ⟨k, (put_ne (by decide)).trans e1, e2, q9_0, q9_1, e3, e4⟩), Qu.out, Qv.out, Qz.out, m10_9, hS, B3, B4, B6, BNr⟩
            · unfold SlotStep
              intro g ac wc hn hk hr hI K' hK
              obtain ⟨x3, x26, x5, x25, i0, i1, i2, i3, i4, i5, i6, i7, i8, i11, hL, n9, Qu, Qv, Qz, m10_9, hS, B3, B4, B6, BNr⟩ := hI
              simp only [Region.binds] at hr
              simp at hr
              replace hK := Lib.hid hK
              replace i0 := Lib.hid i0
              replace i1 := Lib.hid i1
              replace i2 := Lib.hid i2
              replace i3 := Lib.hid i3
              replace i4 := Lib.hid i4
              replace i5 := Lib.hid i5
              replace i6 := Lib.hid i6
              replace i7 := Lib.hid i7
              replace i8 := Lib.hid i8
              replace i11 := Lib.hid i11
              replace n9 := Lib.hid n9
              replace Qu := Lib.hid Qu
              replace Qv := Lib.hid Qv
              replace Qz := Lib.hid Qz
              have hbb := blk_at BNr
              have cb := hbb.1
              have fb := hbb.2.1
              have zb := hbb.2.2
              clear hbb
              go_simp
              exact hK.out _ _ ⟨(keepB x3 (by decide)), (keepB x26 (by decide)), (keepB x5 (by decide)), (keepB x25 (by decide)), (keepF i0.out (by decide)), (fun _ => put_eq (by omega)), (keepF i2.out (by decide)), (keepF i3.out (by decide)), (keepF i4.out (by decide)), (keepF i5.out (by decide)), (keepF i6.out (by decide)), (keepF i7.out (by decide)), (keepF i8.out (by decide)), (keepF i11.out (by decide)), hL, (fun h => by obtain ⟨k, e1, e2, q9_0, q9_1, e3, e4⟩ := n9.out h; exact ⟨k, (put_ne (by decide)).trans e1, e2, q9_0, q9_1, e3, e4⟩), Qu.out, Qv.out, Qz.out, m10_9, hS, B3, B4, B6, BNr⟩
            · unfold SlotStep
              intro g ac wc hn hk hr hI K' hK
              obtain ⟨x3, x26, x5, x25, i0, i1, i2, i3, i4, i5, i6, i7, i8, i11, hL, n9, Qu, Qv, Qz, m10_9, hS, B3, B4, B6, BNr⟩ := hI
              simp only [Region.binds] at hr
              simp at hr
              replace hK := Lib.hid hK
              replace i0 := Lib.hid i0
              replace i1 := Lib.hid i1
              replace i2 := Lib.hid i2
              replace i3 := Lib.hid i3
              replace i4 := Lib.hid i4
              replace i5 := Lib.hid i5
              replace i6 := Lib.hid i6
              replace i7 := Lib.hid i7
              replace i8 := Lib.hid i8
              replace i11 := Lib.hid i11
              replace n9 := Lib.hid n9
              replace Qu := Lib.hid Qu
              replace Qv := Lib.hid Qv
              replace Qz := Lib.hid Qz
              go_simp
              exact hK.out _ _ ⟨(keepB x3 (by decide)), (keepB x26 (by decide)), (keepB x5 (by decide)), (keepB x25 (by decide)), (keepF i0.out (by decide)), (keepF i1.out (by decide)), (fun _ => put_eq (by omega)), (keepF i3.out (by decide)), (keepF i4.out (by decide)), (keepF i5.out (by decide)), (keepF i6.out (by decide)), (keepF i7.out (by decide)), (keepF i8.out (by decide)), (keepF i11.out (by decide)), hL, (fun h => by obtain ⟨k, e1, e2, q9_0, q9_1, e3, e4⟩ := n9.out h; exact ⟨k, (put_ne (by decide)).trans e1, e2, q9_0, q9_1, e3, e4⟩), Qu.out, Qv.out, Qz.out, m10_9, hS, B3, B4, B6, BNr⟩
            · unfold SlotStep
              intro g ac wc hn hk hr hI K' hK
              obtain ⟨x3, x26, x5, x25, i0, i1, i2, i3, i4, i5, i6, i7, i8, i11, hL, n9, Qu, Qv, Qz, m10_9, hS, B3, B4, B6, BNr⟩ := hI
              simp only [Region.binds] at hr
              simp at hr
              replace hK := Lib.hid hK
              replace i0 := Lib.hid i0
              replace i1 := Lib.hid i1
              replace i2 := Lib.hid i2
              replace i3 := Lib.hid i3
              replace i4 := Lib.hid i4
              replace i5 := Lib.hid i5
              replace i6 := Lib.hid i6
              replace i7 := Lib.hid i7
              replace i8 := Lib.hid i8
              replace i11 := Lib.hid i11
              replace n9 := Lib.hid n9
              replace Qu := Lib.hid Qu
              replace Qv := Lib.hid Qv
              replace Qz := Lib.hid Qz
              go_simp
              exact hK.out _ _ ⟨(keepB x3 (by decide)), (keepB x26 (by decide)), (keepB x5 (by decide)), (keepB x25 (by decide)), (keepF i0.out (by decide)), (keepF i1.out (by decide)), (keepF i2.out (by decide)), (fun _ => put_eq (by omega)), (keepF i4.out (by decide)), (keepF i5.out (by decide)), (keepF i6.out (by decide)), (keepF i7.out (by decide)), (keepF i8.out (by decide)), (keepF i11.out (by decide)), hL, (fun h => by obtain ⟨k, e1, e2, q9_0, q9_1, e3, e4⟩ := n9.out h; exact ⟨k, (put_ne (by decide)).trans e1, e2, q9_0, q9_1, e3, e4⟩), Qu.out, Qv.out, Qz.out, m10_9, hS, B3, B4, B6, BNr⟩
            · unfold SlotStep
              intro g ac wc hn hk hr hI K' hK
              obtain ⟨x3, x26, x5, x25, i0, i1, i2, i3, i4, i5, i6, i7, i8, i11, hL, n9, Qu, Qv, Qz, m10_9, hS, B3, B4, B6, BNr⟩ := hI
              simp only [Region.binds] at hr
              simp at hr
              replace hK := Lib.hid hK
              have y2 := i2 (by first | exact hr | exact hr.1 | exact hr.2 | exact hr.2.1 | exact hr.2.2 | exact hr.2.2.1 | exact hr.2.2.2 | simp [hr])
              have y3 := i3 (by first | exact hr | exact hr.1 | exact hr.2 | exact hr.2.1 | exact hr.2.2 | exact hr.2.2.1 | exact hr.2.2.2 | simp [hr])
              have z2 := sl_get y2 (by omega)
              have z3 := sl_get y3 (by omega)
              replace i0 := Lib.hid i0
              replace i1 := Lib.hid i1
              replace i2 := Lib.hid i2
              replace i3 := Lib.hid i3
              replace i4 := Lib.hid i4
              replace i5 := Lib.hid i5
              replace i6 := Lib.hid i6
              replace i7 := Lib.hid i7
              replace i8 := Lib.hid i8
              replace i11 := Lib.hid i11
              replace n9 := Lib.hid n9
              replace Qu := Lib.hid Qu
              replace Qv := Lib.hid Qv
              replace Qz := Lib.hid Qz
              have hle2 : ((ct : Int) ≤ (l.length : Int)) = True := by simp; omega
              go_simp
              exact hK.out _ _ ⟨(keepB x3 (by decide)), (keepB x26 (by decide)), (keepB x5 (by decide)), (keepB x25 (by decide)), (keepF i0.out (by decide)), (keepF i1.out (by decide)), (keepF i2.out (by decide)), (keepF i3.out (by decide)), (fun _ => put_eq (by omega)), (keepF i5.out (by decide)), (keepF i6.out (by decide)), (keepF i7.out (by decide)), (keepF i8.out (by decide)), (keepF i11.out (by decide)), hL, (fun h => by obtain ⟨k, e1, e2, q9_0, q9_1, e3, e4⟩ := n9.out h; exact ⟨k, (put_ne (by decide)).trans e1, e2, q9_0, q9_1, e3, e4⟩), Qu.out, Qv.out, Qz.out, m10_9, hS, B3, B4, B6, BNr⟩
            · unfold SlotStep
              intro g ac wc hn hk hr hI K' hK
              obtain ⟨x3, x26, x5, x25, i0, i1, i2, i3, i4, i5, i6, i7, i8, i11, hL, n9, Qu, Qv, Qz, m10_9, hS, B3, B4, B6, BNr⟩ := hI
              simp only [Region.binds] at hr
              simp at hr
              replace hK := Lib.hid hK
              have y0 := i0 (by first | exact hr | exact hr.1 | exact hr.2 | exact hr.2.1 | exact hr.2.2 | exact hr.2.2.1 | exact hr.2.2.2 | simp [hr])
              have y1 := i1 (by first | exact hr | exact hr.1 | exact hr.2 | exact hr.2.1 | exact hr.2.2 | exact hr.2.2.1 | exact hr.2.2.2 | simp [hr])
              have y4 := i4 (by first | exact hr | exact hr.1 | exact hr.2 | exact hr.2.1 | exact hr.2.2 | exact hr.2.2.1 | exact hr.2.2.2 | simp [hr])
              have z0 := sl_get y0 (by omega)
              have z1 := sl_get y1 (by omega)
              have z4 := sl_get y4 (by omega)
              replace i0 := Lib.hid i0
              replace i1 := Lib.hid i1
              replace i2 := Lib.hid i2
              replace i3 := Lib.hid i3
              replace i4 := Lib.hid i4
              replace i5 := Lib.hid i5
              replace i6 := Lib.hid i6
              replace i7 := Lib.hid i7
              replace i8 := Lib.hid i8
              replace i11 := Lib.hid i11
              replace n9 := Lib.hid n9
              replace Qu := Lib.hid Qu
              replace Qv := Lib.hid Qv
              replace Qz := Lib.hid Qz
              go_simp
              refine (w_implRunMoves n _ _ st sd (runMv ⟨n, st, sd⟩ ⟨s.sh, s.cu⟩ (l.take ct)).sh (runMv ⟨n, st, sd⟩ ⟨s.sh, s.cu⟩ (l.take ct)).cu _ (l.drop ct) wc (reads_of_owns Qu.out (by omega)) (reads_of_owns Qv.out (by omega)) (movs_drop (reads_of_owns Qz.out (by omega)) hkl)).mono ?_
              rintro e w4 ⟨rfl, hL4⟩
              rw [HR2.out, HR3.out]
              exact hK.out _ _ ⟨(keepB x3 (by decide)), (keepB x26 (by decide)), (keepB x5 (by decide)), (keepB x25 (by decide)), (keepF i0.out (by decide)), (keepF i1.out (by decide)), (keepF i2.out (by decide)), (keepF i3.out (by decide)), (keepF i4.out (by decide)), (fun _ => put_eq (by omega)), (keepF i6.out (by decide)), (keepF i7.out (by decide)), (keepF i8.out (by decide)), (keepF i11.out (by decide)), hL.trans hL4, (fun h => by obtain ⟨k, e1, e2, q9_0, q9_1, e3, e4⟩ := n9.out h; exact ⟨k, (put_ne (by decide)).trans e1, e2, q9_0, q9_1, hL4.keep e3, e4⟩), (owns_later Qu.out hL4), (owns_later Qv.out hL4), (owns_later Qz.out hL4), m10_9, Nat.le_trans hS hL4.size, (hL4.keep B3), (hL4.keep B4), (hL4.keep B6), (hL4.keep BNr)⟩
            · unfold SlotStep
              intro g ac wc hn hk hr hI K' hK
              obtain ⟨x3, x26, x5, x25, i0, i1, i2, i3, i4, i5, i6, i7, i8, i11, hL, n9, Qu, Qv, Qz, m10_9, hS, B3, B4, B6, BNr⟩ := hI
              simp only [Region.binds] at hr
              simp at hr
              replace hK := Lib.hid hK
              have y5 := i5 (by first | exact hr | exact hr.1 | exact hr.2 | exact hr.2.1 | exact hr.2.2 | exact hr.2.2.1 | exact hr.2.2.2 | simp [hr])
              have z5 := sl_get y5 (by omega)
              replace i0 := Lib.hid i0
              replace i1 := Lib.hid i1
              replace i2 := Lib.hid i2
              replace i3 := Lib.hid i3
              replace i4 := Lib.hid i4
              replace i5 := Lib.hid i5
              replace i6 := Lib.hid i6
              replace i7 := Lib.hid i7
              replace i8 := Lib.hid i8
              replace i11 := Lib.hid i11
              replace n9 := Lib.hid n9
              replace Qu := Lib.hid Qu
              replace Qv := Lib.hid Qv
              replace Qz := Lib.hid Qz
              go_simp
              exact hK.out _ _ ⟨(keepB x3 (by decide)), (keepB x26 (by decide)), (keepB x5 (by decide)), (keepB x25 (by decide)), (keepF i0.out (by decide)), (keepF i1.out (by decide)), (keepF i2.out (by decide)), (keepF i3.out (by decide)), (keepF i4.out (by decide)), (keepF i5.out (by decide)), (fun _ => put_eq (by omega)), (keepF i7.out (by decide)), (keepF i8.out (by decide)), (keepF i11.out (by decide)), hL, (fun h => by obtain ⟨k, e1, e2, q9_0, q9_1, e3, e4⟩ := n9.out h; exact ⟨k, (put_ne (by decide)).trans e1, e2, q9_0, q9_1, e3, e4⟩), Qu.out, Qv.out, Qz.out, m10_9, hS, B3, B4, B6, BNr⟩
            · unfold SlotStep
              intro g ac wc hn hk hr hI K' hK
              obtain ⟨x3, x26, x5, x25, i0, i1, i2, i3, i4, i5, i6, i7, i8, i11, hL, n9, Qu, Qv, Qz, m10_9, hS, B3, B4, B6, BNr⟩ := hI
              simp only [Region.binds] at hr
              simp at hr
              replace hK := Lib.hid hK
              have y6 := i6 (by first | exact hr | exact hr.1 | exact hr.2 | exact hr.2.1 | exact hr.2.2 | exact hr.2.2.1 | exact hr.2.2.2 | simp [hr])
              have z6 := sl_get y6 (by omega)
              replace i0 := Lib.hid i0
              replace i1 := Lib.hid i1
              replace i2 := Lib.hid i2
              replace i3 := Lib.hid i3
              replace i4 := Lib.hid i4
              replace i5 := Lib.hid i5
              replace i6 := Lib.hid i6
              replace i7 := Lib.hid i7
              replace i8 := Lib.hid i8
              replace i11 := Lib.hid i11
              replace n9 := Lib.hid n9
              replace Qu := Lib.hid Qu
              replace Qv := Lib.hid Qv
              replace Qz := Lib.hid Qz
              go_simp
              exact hK.out _ _ ⟨(keepB x3 (by decide)), (keepB x26 (by decide)), (keepB x5 (by decide)), (keepB x25 (by decide)), (keepF i0.out (by decide)), (keepF i1.out (by decide)), (keepF i2.out (by decide)), (keepF i3.out (by decide)), (keepF i4.out (by decide)), (keepF i5.out (by decide)), (keepF i6.out (by decide)), (fun _ => put_eq (by omega)), (keepF i8.out (by decide)), (keepF i11.out (by decide)), hL, (fun h => by obtain ⟨k, e1, e2, q9_0, q9_1, e3, e4⟩ := n9.out h; exact ⟨k, (put_ne (by decide)).trans e1, e2, q9_0, q9_1, e3, e4⟩), Qu.out, Qv.out, Qz.out, m10_9, hS, B3, B4, B6, BNr⟩
            · unfold SlotStep
              intro g ac wc hn hk hr hI K' hK
              obtain ⟨x3, x26, x5, x25, i0, i1, i2, i3, i4, i5, i6, i7, i8, i11, hL, n9, Qu, Qv, Qz, m10_9, hS, B3, B4, B6, BNr⟩ := hI
              simp only [Region.binds] at hr
              simp at hr
              replace hK := Lib.hid hK
              have y6 := i6 (by first | exact hr | exact hr.1 | exact hr.2 | exact hr.2.1 | exact hr.2.2 | exact hr.2.2.1 | exact hr.2.2.2 | simp [hr])
              have z6 := sl_get y6 (by omega)
              replace i0 := Lib.hid i0
              replace i1 := Lib.hid i1
              replace i2 := Lib.hid i2
              replace i3 := Lib.hid i3
              replace i4 := Lib.hid i4
              replace i5 := Lib.hid i5
              replace i6 := Lib.hid i6
              replace i7 := Lib.hid i7
              replace i8 := Lib.hid i8
              replace i11 := Lib.hid i11
              replace n9 := Lib.hid n9
              replace Qu := Lib.hid Qu
              replace Qv := Lib.hid Qv
              replace Qz := Lib.hid Qz
              go_simp
              exact hK.out _ _ ⟨(keepB x3 (by decide)), (keepB x26 (by decide)), (keepB x5 (by decide)), (keepB x25 (by decide)), (keepF i0.out (by decide)), (keepF i1.out (by decide)), (keepF i2.out (by decide)), (keepF i3.out (by decide)), (keepF i4.out (by decide)), (keepF i5.out (by decide)), (keepF i6.out (by decide)), (keepF i7.out (by decide)), (fun _ => put_eq (by omega)), (keepF i11.out (by decide)), hL, (fun h => by obtain ⟨k, e1, e2, q9_0, q9_1, e3, e4⟩ := n9.out h; exact ⟨k, (put_ne (by decide)).trans e1, e2, q9_0, q9_1, e3, e4⟩), Qu.out, Qv.out, Qz.out, m10_9, hS, B3, B4, B6, BNr⟩
            · unfold SlotStep
              intro g ac wc hn hk hr hI K' hK
              obtain ⟨x3, x26, x5, x25, i0, i1, i2, i3, i4, i5, i6, i7, i8, i11, hL, n9, Qu, Qv, Qz, m10_9, hS, B3, B4, B6, BNr⟩ := hI
              simp only [Region.binds] at hr
              simp at hr
              replace hK := Lib.hid hK
              replace i0 := Lib.hid i0
              replace i1 := Lib.hid i1
              replace i2 := Lib.hid i2
              replace i3 := Lib.hid i3
              replace i4 := Lib.hid i4
              replace i5 := Lib.hid i5
              replace i6 := Lib.hid i6
              replace i7 := Lib.hid i7
              replace i8 := Lib.hid i8
              replace i11 := Lib.hid i11
              replace n9 := Lib.hid n9
              replace Qu := Lib.hid Qu
              replace Qv := Lib.hid Qv
              replace Qz := Lib.hid Qz
              go_simp
              have hL4 := (Later.refl wc).alloc (.cells #[.int .i64 0, .int .i64 0] 66)
              exact hK.out _ _ ⟨(keepB x3 (by decide)), (keepB x26 (by decide)), (keepB x5 (by decide)), (keepB x25 (by decide)), (keepF i0.out (by decide)), (keepF i1.out (by decide)), (keepF i2.out (by decide)), (keepF i3.out (by decide)), (keepF i4.out (by decide)), (keepF i5.out (by decide)), (keepF i6.out (by decide)), (keepF i7.out (by decide)), (keepF i8.out (by decide)), (keepF i11.out (by decide)), hL.alloc _, (fun _ => ⟨_, put_eq (by omega), hS, _, _, heap_alloc_new _ _, fun h => absurd (m10_9 h) (by rw [hk]; simp)⟩), (owns_later Qu.out hL4), (owns_later Qv.out hL4), (owns_later Qz.out hL4), (fun _ => rfl), (by simp; omega), (hL4.keep B3), (hL4.keep B4), (hL4.keep B6), (hL4.keep BNr)⟩
            · unfold SlotStep
              intro g ac wc hn hk hr hI K' hK
              obtain ⟨x3, x26, x5, x25, i0, i1, i2, i3, i4, i5, i6, i7, i8, i11, hL, n9, Qu, Qv, Qz, m10_9, hS, B3, B4, B6, BNr⟩ := hI
              simp only [Region.binds] at hr
              simp at hr
              replace hK := Lib.hid hK
              have y7 := i7 (by first | exact hr | exact hr.1 | exact hr.2 | exact hr.2.1 | exact hr.2.2 | exact hr.2.2.1 | exact hr.2.2.2 | simp [hr])
              have gm9 : g 9 = true := by first | exact m10_9 (by simp [hr]) | exact hr | exact hr.1 | exact hr.2 | exact hr.2.1 | simp [hr]
              replace i0 := Lib.hid i0
              replace i1 := Lib.hid i1
              replace i2 := Lib.hid i2
              replace i3 := Lib.hid i3
              replace i4 := Lib.hid i4
              replace i5 := Lib.hid i5
              replace i6 := Lib.hid i6
              replace i7 := Lib.hid i7
              replace i8 := Lib.hid i8
              replace i11 := Lib.hid i11
              replace n9 := Lib.hid n9
              replace Qu := Lib.hid Qu
              replace Qv := Lib.hid Qv
              replace Qz := Lib.hid Qz
              obtain ⟨k, e1, e2, q9_0, q9_1, e3, -⟩ := n9.out gm9
              have c0 := (blk_at e3).1
              have f0 := (blk_at e3).2.1
              have z0 := (blk_at e3).2.2
              have ze := sl_get e1 (by omega)
              have z7 := sl_get y7 (by omega)
              go_simp
              exact hK.out undef _ ⟨x3, x26, x5, x25, i0.out, i1.out, i2.out, i3.out, i4.out, i5.out, i6.out, i7.out, i8.out, i11.out, ((hL.setCell (show W.heap.size ≤ k by omega) _).setCell (show W.heap.size ≤ k by omega) _), (fun _ => ⟨k, e1, e2, _, _, two_set e3 _ _, fun _ => ⟨rfl, rfl⟩⟩), (owns_setNe (owns_setNe Qu.out (fun e => by have := NBu _ e; omega) _ _) (fun e => by have := NBu _ e; omega) _ _), (owns_setNe (owns_setNe Qv.out (fun e => by have := NBv _ e; omega) _ _) (fun e => by have := NBv _ e; omega) _ _), (owns_setNe (owns_setNe Qz.out (fun e => by have := NBz _ e; omega) _ _) (fun e => by have := NBz _ e; omega) _ _), (fun _ => gm9), (by simp; omega), (other_set (other_set B3 (by omega) _) (by omega) _), (other_set (other_set B4 (by omega) _) (by omega) _), (other_set (other_set B6 (by omega) _) (by omega) _), (other_set (other_set BNr (by omega) _) (by omega) _)⟩
            · unfold SlotStep
              intro g ac wc hn hk hr hI K' hK
              obtain ⟨x3, x26, x5, x25, i0, i1, i2, i3, i4, i5, i6, i7, i8, i11, hL, n9, Qu, Qv, Qz, m10_9, hS, B3, B4, B6, BNr⟩ := hI
              simp only [Region.binds] at hr
              simp at hr
              replace hK := Lib.hid hK
              have y8 := i8 (by first | exact hr | exact hr.1 | exact hr.2 | exact hr.2.1 | exact hr.2.2 | exact hr.2.2.1 | exact hr.2.2.2 | simp [hr])
              have z8 := sl_get y8 (by omega)
              replace i0 := Lib.hid i0
              replace i1 := Lib.hid i1
              replace i2 := Lib.hid i2
              replace i3 := Lib.hid i3
              replace i4 := Lib.hid i4
              replace i5 := Lib.hid i5
              replace i6 := Lib.hid i6
              replace i7 := Lib.hid i7
              replace i8 := Lib.hid i8
              replace i11 := Lib.hid i11
              replace n9 := Lib.hid n9
              replace Qu := Lib.hid Qu
              replace Qv := Lib.hid Qv
              replace Qz := Lib.hid Qz
              go_simp
              exact hK.out _ _ ⟨(keepB x3 (by decide)), (keepB x26 (by decide)), (keepB x5 (by decide)), (keepB x25 (by decide)), (keepF i0.out (by decide)), (keepF i1.out (by decide)), (keepF i2.out (by decide)), (keepF i3.out (by decide)), (keepF i4.out (by decide)), (keepF i5.out (by decide)), (keepF i6.out (by decide)), (keepF i7.out (by decide)), (keepF i8.out (by decide)), (fun _ => put_eq (by omega)), hL, (fun h => by obtain ⟨k, e1, e2, q9_0, q9_1, e3, e4⟩ := n9.out h; exact ⟨k, (put_ne (by decide)).trans e1, e2, q9_0, q9_1, e3, e4⟩), Qu.out, Qv.out, Qz.out, m10_9, hS, B3, B4, B6, BNr⟩
      · refine .cons ?_ (.cons ?_ (.cons ?_ (.cons ?_ (.cons ?_ (.cons ?_ (.cons ?_ (.cons ?_ (.cons ?_ (.cons ?_ (.cons ?_ (.cons ?_ .nil)))))))))))
        · unfold SlotStep
          intro g ac wc hn hk hr hI K' hK
          obtain ⟨x3, x4, x5, x25, i0, i1, i2, i3, i4, i5, i6, i7, i8, i11, hL, n9, Qu, Qv, Qz, m10_9, hS, B3, B4, B6⟩ := hI
          simp only [Region.binds] at hr
          simp at hr
          replace hK := Lib.hid hK
          replace i0 := Lib.hid i0
          replace i1 := Lib.hid i1
          replace i2 := Lib.hid i2
          replace i3 := Lib.hid i3
          replace i4 := Lib.hid i4
          replace i5 := Lib.hid i5
          replace i6 := Lib.hid i6
          replace i7 := Lib.hid i7
          replace i8 := Lib.hid i8
          replace i11 := Lib.hid i11
          replace n9 := Lib.hid n9
          replace Qu := Lib.hid Qu
          replace Qv := Lib.hid Qv
          replace Qz := Lib.hid Qz
          have hbb := blk_at B3
          have cb := hbb.1
          have fb := hbb.2.1
          have zb := hbb.2.2
          clear hbb
          go_simp
          exact hK.out _ _ ⟨(keepB x3 (by decide)), (keepB x4 (by decide)), (keepB x5 (by decide)), (keepB x25 (by decide)), (fun _ => put_eq (by omega)), (keepF i1.out (by decide)), (keepF i2.out (by decide)), (keepF i3.out (by decide)), (keepF i4.out (by decide)), (keepF i5.out (by decide)), (keepF i6.out (by decide)), (keepF i7.out (by decide)), (keepF i8.out (by decide)), (keepF i11.out (by decide)), hL, (fun h => by obtain ⟨k, e1, e2, q9_0, q9_1, e3, e4⟩ := n9.out h; exact ⟨k, (put_ne (by decide)).trans e1, e2, q9_0, q9_1, e3, e4⟩), Qu.out, Qv.out, Qz.out, m10_9, hS, B3, B4, B6⟩
        · unfold SlotStep
          intro g ac wc hn hk hr hI K' hK
          obtain ⟨x3, x4, x5, x25, i0, i1, i2, i3, i4, i5, i6, i7, i8, i11, hL, n9, Qu, Qv, Qz, m10_9, hS, B3, B4, B6⟩ := hI
          simp only [Region.binds] at hr
          simp at hr
          replace hK := Lib.hid hK
          replace i0 := Lib.hid i0
          replace i1 := Lib.hid i1
          replace i2 := Lib.hid i2
          replace i3 := Lib.hid i3
          replace i4 := Lib.hid i4
          replace i5 := Lib.hid i5
          replace i6 := Lib.hid i6
          replace i7 := Lib.hid i7
          replace i8 := Lib.hid i8
          replace i11 := Lib.hid i11
          replace n9 := Lib.hid n9
          replace Qu := Lib.hid Qu
          replace Qv := Lib.hid Qv
          replace Qz := Lib.hid Qz
          have hbb := blk_at B4
          have cb := hbb.1
          have fb := hbb.2.1
          have zb := hbb.2.2
          clear hbb
          go_simp
          exact hK.out _ _ ⟨(keepB x3 (by decide)), (keepB x4 (by decide)), (keepB x5 (by decide)), (keepB x25 (by decide)), (keepF i0.out (by decide)), (fun _ => put_eq (by omega)), (keepF i2.out (by decide)), (keepF i3.out (by decide)), (keepF i4.out (by decide)), (keepF i5.out (by decide)), (keepF i6.out (by decide)), (keepF i7.out (by decide)), (keepF i8.out (by decide)), (keepF i11.out (by decide)), hL, (fun h => by obtain ⟨k, e1, e2, q9_0, q9_1, e3, e4⟩ := n9.out h; exact ⟨k, (put_ne (by decide)).trans e1, e2, q9_0, q9_1, e3, e4⟩), Qu.out, Qv.out, Qz.out, m10_9, hS, B3, B4, B6⟩
        · unfold SlotStep
          intro g ac wc hn hk hr hI K' hK
          obtain ⟨x3, x4, x5, x25, i0, i1, i2, i3, i4, i5, i6, i7, i8, i11, hL, n9, Qu, Qv, Qz, m10_9, hS, B3, B4, B6⟩ := hI
          simp only [Region.binds] at hr
          simp at hr
          replace hK := Lib.hid hK
          replace i0 := Lib.hid i0
          replace i1 := Lib.hid i1
          replace i2 := Lib.hid i2
          replace i3 := Lib.hid i3
          replace i4 := Lib.hid i4
          replace i5 := Lib.hid i5
          replace i6 := Lib.hid i6
          replace i7 := Lib.hid i7
          replace i8 := Lib.hid i8
          replace i11 := Lib.hid i11
          replace n9 := Lib.hid n9
          replace Qu := Lib.hid Qu
          replace Qv := Lib.hid Qv
          replace Qz := Lib.hid Qz
          go_simp
          exact hK.out _ _ ⟨(keepB x3 (by decide)), (keepB x4 (by decide)), (keepB x5 (by decide)), (keepB x25 (by decide)), (keepF i0.out (by decide)), (keepF i1.out (by decide)), (fun _ => put_eq (by omega)), (keepF i3.out (by decide)), (keepF i4.out (by decide)), (keepF i5.out (by decide)), (keepF i6.out (by decide)), (keepF i7.out (by decide)), (keepF i8.out (by decide)), (keepF i11.out (by decide)), hL, (fun h => by obtain ⟨k, e1, e2, q9_0, q9_1, e3, e4⟩ := n9.out h; exact ⟨k, (put_ne (by decide)).trans e1, e2, q9_0, q9_1, e3, e4⟩), Qu.out, Qv.out, Qz.out, m10_9, hS, B3, B4, B6⟩
        · unfold SlotStep
          intro g ac wc hn hk hr hI K' hK
          obtain ⟨x3, x4, x5, x25, i0, i1, i2, i3, i4, i5, i6, i7, i8, i11, hL, n9, Qu, Qv, Qz, m10_9, hS, B3, B4, B6⟩ := hI
          simp only [Region.binds] at hr
          simp at hr
          replace hK := Lib.hid hK
          replace i0 := Lib.hid i0
          replace i1 := Lib.hid i1
          replace i2 := Lib.hid i2
          replace i3 := Lib.hid i3
          replace i4 := Lib.hid i4
          replace i5 := Lib.hid i5
          replace i6 := Lib.hid i6
          replace i7 := Lib.hid i7
          replace i8 := Lib.hid i8
          replace i11 := Lib.hid i11
          replace n9 := Lib.hid n9
          replace Qu := Lib.hid Qu
          replace Qv := Lib.hid Qv
          replace Qz := Lib.hid Qz
          go_simp
          exact hK.out _ _ ⟨(keepB x3 (by decide)), (keepB x4 (by decide)), (keepB x5 (by decide)), (keepB x25 (by decide)), (keepF i0.out (by decide)), (keepF i1.out (by decide)), (keepF i2.out (by decide)), (fun _ => put_eq (by omega)), (keepF i4.out (by decide)), (keepF i5.out (by decide)), (keepF i6.out (by decide)), (keepF i7.out (by decide)), (keepF i8.out (by decide)), (keepF i11.out (by decide)), hL, (fun h => by obtain ⟨k, e1, e2, q9_0, q9_1, e3, e4⟩ := n9.out h; exact ⟨k, (put_ne (by decide)).trans e1, e2, q9_0, q9_1, e3, e4⟩), Qu.out, Qv.out, Qz.out, m10_9, hS, B3, B4, B6⟩
        · unfold SlotStep
          intro g ac wc hn hk hr hI K' hK
          obtain ⟨x3, x4, x5, x25, i0, i1, i2, i3, i4, i5, i6, i7, i8, i11, hL, n9, Qu, Qv, Qz, m10_9, hS, B3, B4, B6⟩ := hI
          simp only [Region.binds] at hr
          simp at hr
          replace hK := Lib.hid hK
          have y2 := i2 (by first | exact hr | exact hr.1 | exact hr.2 | exact hr.2.1 | exact hr.2.2 | exact hr.2.2.1 | exact hr.2.2.2 | simp [hr])
          have y3 := i3 (by first | exact hr | exact hr.1 | exact hr.2 | exact hr.2.1 | exact hr.2.2 | exact hr.2.2.1 | exact hr.2.2.2 | simp [hr])
          have z2 := sl_get y2 (by omega)
          have z3 := sl_get y3 (by omega)
          replace i0 := Lib.hid i0
          replace i1 := Lib.hid i1
          replace i2 := Lib.hid i2
          replace i3 := Lib.hid i3
          replace i4 := Lib.hid i4
          replace i5 := Lib.hid i5
          replace i6 := Lib.hid i6
          replace i7 := Lib.hid i7
          replace i8 := Lib.hid i8
          replace i11 := Lib.hid i11
          replace n9 := Lib.hid n9
          replace Qu := Lib.hid Qu
          replace Qv := Lib.hid Qv
          replace Qz := Lib.hid Qz
          have hle2 : ((ct : Int) ≤ (capz : Int)) = True := by simp; omega
          go_simp
          exact hK.out _ _ ⟨(keepB x3 (by decide)), (keepB x4 (by decide)), (keepB x5 (by decide)), (keepB x25 (by decide)), (keepF i0.out (by decide)), (keepF i1.out (by decide)), (keepF i2.out (by decide)), (keepF i3.out (by decide)), (fun _ => put_eq (by omega)), (keepF i5.out (by decide)), (keepF i6.out (by decide)), (keepF i7.out (by decide)), (keepF i8.out (by decide)), (keepF i11.out (by decide)), hL, (fun h => by obtain ⟨k, e1, e2, q9_0, q9_1, e3, e4⟩ := n9.out h; exact ⟨k, (put_ne (by decide)).trans e1, e2, q9_0, q9_1, e3, e4⟩), Qu.out, Qv.out, Qz.out, m10_9, hS, B3, B4, B6⟩
        · unfold SlotStep
          intro g ac wc hn hk hr hI K' hK
          obtain ⟨x3, x4, x5, x25, i0, i1, i2, i3, i4, i5, i6, i7, i8, i11, hL, n9, Qu, Qv, Qz, m10_9, hS, B3, B4, B6⟩ := hI
          simp only [Region.binds] at hr
          simp at hr
          replace hK := Lib.hid hK
          have y0 := i0 (by first | exact hr | exact hr.1 | exact hr.2 | exact hr.2.1 | exact hr.2.2 | exact hr.2.2.1 | exact hr.2.2.2 | simp [hr])
          have y1 := i1 (by first | exact hr | exact hr.1 | exact hr.2 | exact hr.2.1 | exact hr.2.2 | exact hr.2.2.1 | exact hr.2.2.2 | simp [hr])
          have y4 := i4 (by first | exact hr | exact hr.1 | exact hr.2 | exact hr.2.1 | exact hr.2.2 | exact hr.2.2.1 | exact hr.2.2.2 | simp [hr])
          have z0 := sl_get y0 (by omega)
          have z1 := sl_get y1 (by omega)
          have z4 := sl_get y4 (by omega)
          replace i0 := Lib.hid i0
          replace i1 := Lib.hid i1
          replace i2 := Lib.hid i2
          replace i3 := Lib.hid i3
          replace i4 := Lib.hid i4
          replace i5 := Lib.hid i5
          replace i6 := Lib.hid i6
          replace i7 := Lib.hid i7
          replace i8 := Lib.hid i8
          replace i11 := Lib.hid i11
          replace n9 := Lib.hid n9
          replace Qu := Lib.hid Qu
          replace Qv := Lib.hid Qv
          replace Qz := Lib.hid Qz
          go_simp
          refine (w_implRunMoves n _ _ st sd s.sh s.cu _ (l.take ct) wc (reads_of_owns Qu.out (by omega)) (reads_of_owns Qv.out (by omega)) (IsMovs.take (reads_of_owns Qz.out (by omega)) (by omega))).mono ?_
          rintro e w4 ⟨rfl, hL4⟩
          rw [HR1.out]
          exact hK.out _ _ ⟨(keepB x3 (by decide)), (keepB x4 (by decide)), (keepB x5 (by decide)), (keepB x25 (by decide)), (keepF i0.out (by decide)), (keepF i1.out (by decide)), (keepF i2.out (by decide)), (keepF i3.out (by decide)), (keepF i4.out (by decide)), (fun _ => put_eq (by omega)), (keepF i6.out (by decide)), (keepF i7.out (by decide)), (keepF i8.out (by decide)), (keepF i11.out (by decide)), hL.trans hL4, (fun h => by obtain ⟨k, e1, e2, q9_0, q9_1, e3, e4⟩ := n9.out h; exact ⟨k, (put_ne (by decide)).trans e1, e2, q9_0, q9_1, hL4.keep e3, e4⟩), (owns_later Qu.out hL4), (owns_later Qv.out hL4), (owns_later Qz.out hL4), m10_9, Nat.le_trans hS hL4.size, (hL4.keep B3), (hL4.keep B4), (hL4.keep B6)⟩
        · unfold SlotStep
          intro g ac wc hn hk hr hI K' hK
          obtain ⟨x3, x4, x5, x25, i0, i1, i2, i3, i4, i5, i6, i7, i8, i11, hL, n9, Qu, Qv, Qz, m10_9, hS, B3, B4, B6⟩ := hI
          simp only [Region.binds] at hr
          simp at hr
          replace hK := Lib.hid hK
          have y5 := i5 (by first | exact hr | exact hr.1 | exact hr.2 | exact hr.2.1 | exact hr.2.2 | exact hr.2.2.1 | exact hr.2.2.2 | simp [hr])
          have z5 := sl_get y5 (by omega)
          replace i0 := Lib.hid i0
          replace i1 := Lib.hid i1
          replace i2 := Lib.hid i2
          replace i3 := Lib.hid i3
          replace i4 := Lib.hid i4
          replace i5 := Lib.hid i5
          replace i6 := Lib.hid i6
          replace i7 := Lib.hid i7
          replace i8 := Lib.hid i8
          replace i11 := Lib.hid i11
          replace n9 := Lib.hid n9
          replace Qu := Lib.hid Qu
          replace Qv := Lib.hid Qv
          replace Qz := Lib.hid Qz
          go_simp
          exact hK.out _ _ ⟨(keepB x3 (by decide)), (keepB x4 (by decide)), (keepB x5 (by decide)), (keepB x25 (by decide)), (keepF i0.out (by decide)), (keepF i1.out (by decide)), (keepF i2.out (by decide)), (keepF i3.out (by decide)), (keepF i4.out (by decide)), (keepF i5.out (by decide)), (fun _ => put_eq (by omega)), (keepF i7.out (by decide)), (keepF i8.out (by decide)), (keepF i11.out (by decide)), hL, (fun h => by obtain ⟨k, e1, e2, q9_0, q9_1, e3, e4⟩ := n9.out h; exact ⟨k, (put_ne (by decide)).trans e1, e2, q9_0, q9_1, e3, e4⟩), Qu.out, Qv.out, Qz.out, m10_9, hS, B3, B4, B6⟩
        · unfold SlotStep
          intro g ac wc hn hk hr hI K' hK
          obtain ⟨x3, x4, x5, x25, i0, i1, i2, i3, i4, i5, i6, i7, i8, i11, hL, n9, Qu, Qv, Qz, m10_9, hS, B3, B4, B6⟩ := hI
          simp only [Region.binds] at hr
          simp at hr
          replace hK := Lib.hid hK
          have y6 := i6 (by first | exact hr | exact hr.1 | exact hr.2 | exact hr.2.1 | exact hr.2.2 | exact hr.2.2.1 | exact hr.2.2.2 | simp [hr])
          have z6 := sl_get y6 (by omega)
          replace i0 := Lib.hid i0
          replace i1 := Lib.hid i1
          replace i2 := Lib.hid i2
          replace i3 := Lib.hid i3
          replace i4 := Lib.hid i4
          replace i5 := Lib.hid i5
          replace i6 := Lib.hid i6
          replace i7 := Lib.hid i7
          replace i8 := Lib.hid i8
          replace i11 := Lib.hid i11
          replace n9 := Lib.hid n9
          replace Qu := Lib.hid Qu
          replace Qv := Lib.hid Qv
          replace Qz := Lib.hid Qz
          go_simp
          exact hK.out _ _ ⟨(keepB x3 (by decide)), (keepB x4 (by decide)), (keepB x5 (by decide)), (keepB x25 (by decide)), (keepF i0.out (by decide)), (keepF i1.out (by decide)), (keepF i2.out (by decide)), (keepF i3.out (by decide)), (keepF i4.out (by decide)), (keepF i5.out (by decide)), (keepF i6.out (by decide)), (fun _ => put_eq (by omega)), (keepF i8.out (by decide)), (keepF i11.out (by decide)), hL, (fun h => by obtain ⟨k, e1, e2, q9_0, q9_1, e3, e4⟩ := n9.out h; exact ⟨k, (put_ne (by decide)).trans e1, e2, q9_0, q9_1, e3, e4⟩), Qu.out, Qv.out, Qz.out, m10_9, hS, B3, B4, B6⟩
        · unfold SlotStep
          intro g ac wc hn hk hr hI K' hK
          obtain ⟨x3, x4, x5, x25, i0, i1, i2, i3, i4, i5, i6, i7, i8, i11, hL, n9, Qu, Qv, Qz, m10_9, hS, B3, B4, B6⟩ := hI
          simp only [Region.binds] at hr
          simp at hr
          replace hK := Lib.hid hK
          have y6 := i6 (by first | exact hr | exact hr.1 | exact hr.2 | exact hr.2.1 | exact hr.2.2 | exact hr.2.2.1 | exact hr.2.2.2 | simp [hr])
          have z6 := sl_get y6 (by omega)
          replace i0 := Lib.hid i0
          replace i1 := Lib.hid i1
          replace i2 := Lib.hid i2
          replace i3 := Lib.hid i3
          replace i4 := Lib.hid i4
          replace i5 := Lib.hid i5
          replace i6 := Lib.hid i6
          replace i7 := Lib.hid i7
          replace i8 := Lib.hid i8
          replace i11 := Lib.hid i11
          replace n9 := Lib.hid n9
          replace Qu := Lib.hid Qu
          replace Qv := Lib.hid Qv
          replace Qz := Lib.hid Qz
          go_simp
          exact hK.out _ _ ⟨(keepB x3 (by decide)), (keepB x4 (by decide)), (keepB x5 (by decide)), (keepB x25 (by decide)), (keepF i0.out (by decide)), (keepF i1.out (by decide)), (keepF i2.out (by decide)), (keepF i3.out (by decide)), (keepF i4.out (by decide)), (keepF i5.out (by decide)), (keepF i6.out (by decide)), (keepF i7.out (by decide)), (fun _ => put_eq (by omega)), (keepF i11.out (by decide)), hL, (fun h => by obtain ⟨k, e1, e2, q9_0, q9_1, e3, e4⟩ := n9.out h; exact ⟨k, (put_ne (by decide)).trans e1, e2, q9_0, q9_1, e3, e4⟩), Qu.out, Qv.out, Qz.out, m10_9, hS, B3, B4, B6⟩
        · unfold SlotStep
          intro g ac wc hn hk hr hI K' hK
          obtain ⟨x3, x4, x5, x25, i0, i1, i2, i3, i4, i5, i6, i7, i8, i11, hL, n9, Qu, Qv, Qz, m10_9, hS, B3, B4, B6⟩ := hI
          simp only [Region.binds] at hr
          simp at hr
          replace hK := Lib.hid hK
          replace i0 := Lib.hid i0
          replace i1 := Lib.hid i1
          replace i2 := Lib.hid i2
          replace i3 := Lib.hid i3
          replace i4 := Lib.hid i4
          replace i5 := Lib.hid i5
          replace i6 := Lib.hid i6
          replace i7 := Lib.hid i7
          replace i8 := Lib.hid i8
          replace i11 := Lib.hid i11
          replace n9 := Lib.hid n9
          replace Qu := Lib.hid Qu
          replace Qv := Lib.hid Qv
          replace Qz := Lib.hid Qz
          go_simp
          have hL4 := (Later.refl wc).alloc (.cells #[.int .i64 0, .int .i64 0] 66)
          exact hK.out _ _ ⟨(keepB x3 (by decide)), (keepB x4 (by decide)), (keepB x5 (by decide)), (keepB x25 (by decide)), (keepF i0.out (by decide)), (keepF i1.out (by decide)), (keepF i2.out (by decide)), (keepF i3.out (by decide)), (keepF i4.out (by decide)), (keepF i5.out (by decide)), (keepF i6.out (by decide)), (keepF i7.out (by decide)), (keepF i8.out (by decide)), (keepF i11.out (by decide)), hL.alloc _, (fun _ => ⟨_, put_eq (by omega), hS, _, _, heap_alloc_new _ _, fun h => absurd (m10_9 h) (by rw [hk]; simp)⟩), (owns_later Qu.out hL4), (owns_later Qv.out hL4), (owns_later Qz.out hL4), (fun _ => rfl), (by simp; omega), (hL4.keep B3), (hL4.keep B4), (hL4.keep B6)⟩
        · unfold SlotStep
          intro g ac wc hn hk hr hI K' hK
          obtain ⟨x3, x4, x5, x25, i0, i1, i2, i3, i4, i5, i6, i7, i8, i11, hL, n9, Qu, Qv, Qz, m10_9, hS, B3, B4, B6⟩ := hI
          simp only [Region.binds] at hr
          simp at hr
          replace hK := Lib.hid hK
          have y7 := i7 (by first | exact hr | exact hr.1 | exact hr.2 | exact hr.2.1 | exact hr.2.2 | exact hr.2.2.1 | exact hr.2.2.2 | simp [hr])
          have gm9 : g 9 = true := by first | exact m10_9 (by simp [hr]) | exact hr | exact hr.1 | exact hr.2 | exact hr.2.1 | simp [hr]
          replace i0 := Lib.hid i0
          replace i1 := Lib.hid i1
          replace i2 := Lib.hid i2
          replace i3 := Lib.hid i3
          replace i4 := Lib.hid i4
          replace i5 := Lib.hid i5
          replace i6 := Lib.hid i6
          replace i7 := Lib.hid i7
          replace i8 := Lib.hid i8
          replace i11 := Lib.hid i11
          replace n9 := Lib.hid n9
          replace Qu := Lib.hid Qu
          replace Qv := Lib.hid Qv
          replace Qz := Lib.hid Qz
          obtain ⟨k, e1, e2, q9_0, q9_1, e3, -⟩ := n9.out gm9
          have c0 := (blk_at e3).1
          have f0 := (blk_at e3).2.1
          have z0 := (blk_at e3).2.2
          have ze := sl_get e1 (by omega)
          have z7 := sl_get y7 (by omega)
          go_simp
          exact hK.out undef _ ⟨x3, x4, x5, x25, i0.out, i1.out, i2.out, i3.out, i4.out, i5.out, i6.out, i7.out, i8.out, i11.out, ((hL.setCell (show W.heap.size ≤ k by omega) _).setCell (show W.heap.size ≤ k by omega) _), (fun _ => ⟨k, e1, e2, _, _, two_set e3 _ _, fun _ => ⟨rfl, rfl⟩⟩), (owns_setNe (owns_setNe Qu.out (fun e => by have := NBu _ e; omega) _ _) (fun e => by have := NBu _ e; omega) _ _), (owns_setNe (owns_setNe Qv.out (fun e => by have := NBv _ e; omega) _ _) (fun e => by have := NBv _ e; omega) _ _), (owns_setNe (owns_setNe Qz.out (fun e => by have := NBz _ e; omega) _ _) (fun e => by have := NBz _ e; omega) _ _), (fun _ => gm9), (by simp; omega), (other_set (other_set B3 (by omega) _) (by omega) _), (other_set (other_set B4 (by omega) _) (by omega) _), (other_set (other_set B6 (by omega) _) (by omega) _)⟩
        · unfold SlotStep
          intro g ac wc hn hk hr hI K' hK
          obtain ⟨x3, x4, x5, x25, i0, i1, i2, i3, i4, i5, i6, i7, i8, i11, hL, n9, Qu, Qv, Qz, m10_9, hS, B3, B4, B6⟩ := hI
          simp only [Region.binds] at hr
          simp at hr
          replace hK := Lib.hid hK
          have y8 := i8 (by first | exact hr | exact hr.1 | exact hr.2 | exact hr.2.1 | exact hr.2.2 | exact hr.2.2.1 | exact hr.2.2.2 | simp [hr])
          have z8 := sl_get y8 (by omega)
          replace i0 := Lib.hid i0
          replace i1 := Lib.hid i1
          replace i2 := Lib.hid i2
          replace i3 := Lib.hid i3
          replace i4 := Lib.hid i4
          replace i5 := Lib.hid i5
          replace i6 := Lib.hid i6
          replace i7 := Lib.hid i7
          replace i8 := Lib.hid i8
          replace i11 := Lib.hid i11
          replace n9 := Lib.hid n9
          replace Qu := Lib.hid Qu
          replace Qv := Lib.hid Qv
          replace Qz := Lib.hid Qz
          go_simp
          exact hK.out _ _ ⟨(keepB x3 (by decide)), (keepB x4 (by decide)), (keepB x5 (by decide)), (keepB x25 (by decide)), (keepF i0.out (by decide)), (keepF i1.out (by decide)), (keepF i2.out (by decide)), (keepF i3.out (by decide)), (keepF i4.out (by decide)), (keepF i5.out (by decide)), (keepF i6.out (by decide)), (keepF i7.out (by decide)), (keepF i8.out (by decide)), (fun _ => put_eq (by omega)), hL, (fun h => by obtain ⟨k, e1, e2, q9_0, q9_1, e3, e4⟩ := n9.out h; exact ⟨k, (put_ne (by decide)).trans e1, e2, q9_0, q9_1, e3, e4⟩), Qu.out, Qv.out, Qz.out, m10_9, hS, B3, B4, B6⟩
    · skip
      have hb0 : (runC ⟨n, st, sd⟩ ⟨s.sh, s.cu⟩ l != 0) = true := by simpa using hzero
      rw [runC_codes ⟨n, st, sd⟩ ⟨s.sh, s.cu⟩ l hzero hbad]
      go_wp2
      go_ret
      exact ⟨rfl, (by repeat (with_reducible first | exact HW10.out | refine Later.alloc ?_ _ | refine Later.drew ?_ | refine Later.drewN ?_ _ | refine Later.setCell ?_ (by first | omega | (simp; omega)) _))⟩

theorem lifted (os : Os) (started : os.Started) (H : Type) (enc : TypeId × Value → H) :
    ReturnsInHanded {} Try.checked os 7 .any (Rows.fnMovesSpec.pre6 enc Try.prog Try.f7 Rows.fnMovesRow.domain false) (Rows.fnMovesSpec.post enc Try.prog Try.f7 false true false false) := by
  refine returnsInHanded_of_change (C := Try.checked) o_own started (by kernel_rfl) Try.func7
    (ChangeSpec.witness6 (enc := enc) (C := Try.checked) false ⟨#[], #[.slice none 0 0], []⟩ 8 (by kernel_rfl) (by kernel_rfl) (by kernel_rfl) (by kernel_rfl)) ?_
  intro W base args ds gs before hval0 hW hcnd _
  have hval : ∀ (j : Nat) t v, Try.f7.params[j]? = some t → args[j]? = some v → Value.okWide Try.prog W .any base t v := hval0
  have hW' := hW
  obtain ⟨p, q, hA0, hV, rfl, hfz, hnd⟩ := hW
  have hA : DataW.TrodAll enc Try.prog W 0 (fun _ => true) true Try.f7.params.toList args.toList ds p := hA0
  rw [Try.params7] at hA hval
  obtain ⟨v0, vs0, d0, ds0, p0, q0, hargs, rfl, rfl, h0, r0⟩ := trodAll_cons hA
  obtain ⟨rfl, rfl, rfl⟩ := trodAll_nil r0
  obtain rfl : args = #[v0] := by cases args; simp_all
  obtain ⟨rfl, rfl⟩ := trodVars_none hV
  obtain ⟨a0, len0, cap0, rfl⟩ := okWide_slice Try.underlying22 (hval 0 22 v0 rfl rfl)
  have k0 := h0
  have lt0 : ∀ x ∈ p0, x.block < W.heap.size := by obtain ⟨m, hm⟩ := k0; exact DataW.trod_lt m _ _ _ hm
  obtain ⟨l0, w0, hB0⟩ := o_bytes h0
  clear hA0 hval0
  refine (walk _ l0 W w0 hB0).mono fun e W' ⟨he, bel⟩ => ?_
  subst he
  exact ⟨_, rfl, _, _, _, [], _, [], hW', trodAll_mk1 (shut_bool Try.underlying4 _), (trodAll_cons_mk (Below.trod o_laidOut (by kernel_rfl) (of_decide_eq_true (by kernel_rfl)) k0 bel lt0) trodAll_mk0), rfl, bel.frame _, fun h => by cases h⟩

theorem over : Rows.fnMovesRow.holds Try.pinned (OpenSpec.ofChange Rows.fnMovesSpec) :=
  OpenClaim.holds_of_wide 7 Try.f7 rfl rfl rfl rfl rfl rfl rfl ⟨rfl, rfl, rfl, rfl, rfl⟩ rfl rfl rfl rfl rfl (by kernel_rfl) Try.func7 (by kernel_rfl)
    (of_decide_eq_true (by kernel_rfl)) (by unfold Func.isWrapper; first | (rw [if_pos (by decide +kernel)]; kernel_rfl) | (rw [if_neg (by decide +kernel)]; exact ⟨rfl, rfl⟩))
    (fun os started H enc _ => lifted os started H enc)

theorem proved : Rows.FnMovesSaid := over
#print axioms proved
end Go.Proofs.Ytkoojngonldcbaa.lawMoves
