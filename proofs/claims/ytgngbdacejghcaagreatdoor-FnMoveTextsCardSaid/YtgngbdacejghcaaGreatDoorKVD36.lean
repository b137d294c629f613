/- DERIVED. Walks: drawn lists of moves, and a drawn text of one. -/
import Derived.Test.YtgngbdacejghcaaGreatDoorKVD34
import Derived.Test.YtgngbdacejghcaaGreatDoorKVM10
import Derived.Test.YtgngbdacejghcaaGreatDoorKVM110
namespace Go.Proofs.YtgngbdacejghcaaGreatDoor
set_option linter.unusedVariables false
set_option linter.unusedSimpArgs false
open Go.RowKit
set_option maxRecDepth 100000
set_option linter.unusedVariables false
theorem mtT_lenR (l : List Mov) : (mtT l).length ≤ 1500 := by
 unfold mtT
 split
 · rename_i h
   have h1 := mvs_len h l.length (Nat.le_refl _)
   rw [List.take_of_length_le (Nat.le_refl _)] at h1
   have := (codeMoves_ok h).2
   omega
 · simp
set_option maxHeartbeats 2000000 in
theorem w_DrawAreMoves (c : Value) (bs : List Int) (w : World) (h : IsByts w c bs) (hB : ∀ b ∈ bs, 0 ≤ b ∧ b ≤ 255) (hl : bs.length ≤ 4096) :
 Calls Tryz.prog 77 #[c] w fun e w' => ∃ (v : Value) (l : List Mov), e = .returned v ∧ w'.ownsRow w.heap.size 107 4 v l.length (movs l) ∧ l.length ≤ 31 ∧ Later w w' := by
 go_enter Tryz.func77, Tryz.ntmps77
 go_wp2_with fail
 refine (w_l01From' c bs _ h hB hl).mono ?_
 rintro e w1 ⟨k, rfl, hk0, hL1, hS1⟩
 have hk := hS1.lt
 have hD1 : Drawn w w1 k := Drawn.later (by repeat (with_reducible first | exact grown_refl _ _ | refine Drawn.alloc ?_ _)) hL1
 have hz1 := hD1.size
 clear hL1
 go_wp2_with fail
 refine (w_l12Draw k c _ qsh).mono ?_
 rintro e w2 ⟨n, vu, vv, st, sd, s, l, vz, rfl, hOu, hOv, hu5, hv5, hOz, hz31, hD, hS2⟩
 have hz2 : w1.heap.size ≤ w2.heap.size := qsz hD.size
 have hD2 : Drawn w w2 k := Drawn.trans qdh hD
 clear hD
 obtain ⟨au, capu, rfl⟩ := isSl_of hOu
 obtain ⟨av, capv, rfl⟩ := isSl_of hOv
 obtain ⟨az, capz, rfl⟩ := isSl_of hOz
 clear hOu
 clear hOv
 have HOz_2 := Lib.hid (owns_base (base' := w1.heap.size) hOz (by omega))
 clear hOz
 go_wp2
 go_ret
 exact ⟨.slice az l.length capz, l, rfl, owns_base (base := w1.heap.size) (qoh HOz_2) (by omega), hz31, (Later.refl w).drawn hk0 qdh⟩
theorem w_DrawCountSettings (c : Value) (bs : List Int) (w : World) (h : IsByts w c bs) (hB : ∀ b ∈ bs, 0 ≤ b ∧ b ≤ 255) (hl : bs.length ≤ 4096) :
 Calls Tryz.prog 33 #[c] w fun e w' => ∃ (v : Value) (l : List Mov), e = .returned v ∧ w'.ownsRow w.heap.size 107 4 v l.length (movs l) ∧ l.length ≤ 31 ∧ Later w w' := by
 go_enter Tryz.func33, Tryz.ntmps33
 go_wp2_with fail
 refine (w_DrawAreMoves c bs _ h hB hl).mono ?_
 rintro e w1 ⟨v, l, rfl, ho, h31, hL⟩
 go_wp2
 go_ret
 exact ⟨_, l, rfl, ho, h31, hL⟩
theorem w_DrawMovesText (c : Value) (bs : List Int) (w : World) (h : IsByts w c bs) (hB : ∀ b ∈ bs, 0 ≤ b ∧ b ≤ 255) (hl : bs.length ≤ 4096) :
 Calls Tryz.prog 24 #[c] w fun e w' => ∃ (v : Value) (l : List Mov), e = .returned v ∧ w'.ownsRow w.heap.size 107 4 v l.length (movs l) ∧ l.length ≤ 31 ∧ Later w w' := by
 go_enter Tryz.func24, Tryz.ntmps24
 go_wp2_with fail
 refine (w_DrawAreMoves c bs _ h hB hl).mono ?_
 rintro e w1 ⟨v, l, rfl, ho, h31, hL⟩
 go_wp2
 go_ret
 exact ⟨_, l, rfl, ho, h31, hL⟩
set_option maxHeartbeats 4000000 in
theorem w_DrawReadMoves (c : Value) (bs : List Int) (w : World) (h : IsByts w c bs) (hB : ∀ b ∈ bs, 0 ≤ b ∧ b ≤ 255) (hl : bs.length ≤ 4096) :
 Calls Tryz.prog 27 #[c] w fun e w' => ∃ t : List UInt8, e = .returned (sv t) ∧ t.length ≤ 1600 ∧ Later w w' := by
 go_enter Tryz.func27, Tryz.ntmps27
 go_wp2_with fail
 refine (w_l01From' c bs _ h hB hl).mono ?_
 rintro e w1 ⟨k, rfl, hk0, hL1, hS1⟩
 have hk := hS1.lt
 have hD1 : Drawn w w1 k := Drawn.later (by repeat (with_reducible first | exact grown_refl _ _ | refine Drawn.alloc ?_ _)) hL1
 have hz1 := hD1.size
 clear hL1
 go_wp2_with fail
 refine (w_l12Draw k c _ qsh).mono ?_
 rintro e w2 ⟨n, vu, vv, st, sd, s, l, vz, rfl, hOu, hOv, hu5, hv5, hOz, hz31, hD, hS2⟩
 have hz2 : w1.heap.size ≤ w2.heap.size := qsz hD.size
 have hD2 : Drawn w w2 k := Drawn.trans qdh hD
 clear hD
 obtain ⟨au, capu, rfl⟩ := isSl_of hOu
 obtain ⟨av, capv, rfl⟩ := isSl_of hOv
 obtain ⟨az, capz, rfl⟩ := isSl_of hOz
 clear hOu
 clear hOv
 have HOz_2 := Lib.hid (owns_base (base' := w1.heap.size) hOz (by omega))
 clear hOz
 have hnz4 := ne_own (k := w2.heap.size) HOz_2.out (by omega)
 have hnz5 := ne_own (k := w2.heap.size + 1) HOz_2.out (by omega)
 go_wp2_with fail
 refine (w_specMovesText _ l _ (reads_of_owns (qoh HOz_2) (by omega))).mono ?_
 rintro e w3 ⟨rfl, hL⟩
 have hz3 : w2.heap.size ≤ w3.heap.size := qsz hL.size
 have hD3 : Drawn w w3 k := Drawn.later qdh hL
 have hS3 : Src w3 k c := Src.later qsh hL
 have HK4_3 := Lib.hid (hL.keep (k := w2.heap.size) qkh)
 have HK5_3 := Lib.hid (hL.keep (k := w2.heap.size + 1) qkh)
 have HOz_3 := Lib.hid (owns_later (qoh HOz_2) hL)
 clear hL
 obtain ⟨c4, f4, z4_3⟩ := blk_at HK4_3.out
 obtain ⟨c5, f5, z5_3⟩ := blk_at HK5_3.out
 obtain ⟨t, hT⟩ : ∃ t, mtT l = t := ⟨_, rfl⟩
 obtain ⟨ct, hCT⟩ : ∃ q, codeMoves l = q := ⟨_, rfl⟩
 have ht := mtT_lenR l
 rw [hT] at ht ⊢
 rw [hCT]
 clear hT hCT
 go_wp2_with fail
 refine (w_l01Next k c 3 _ qsh).mono ?_
 rintro e w4 ⟨x4, rfl, x4a, x4b, hD, hS4⟩
 have hz4 : w3.heap.size ≤ w4.heap.size := qsz hD.size
 have hD4 : Drawn w w4 k := Drawn.trans qdh hD
 have HK4_4 := Lib.hid (hD.keep (j := w2.heap.size) qkh (by omega))
 have HK5_4 := Lib.hid (hD.keep (j := w2.heap.size + 1) qkh (by omega))
 have HOz_4 := Lib.hid (hD.owns (qoh HOz_3) (by omega))
 clear hD c4 f4 c5 f5
 obtain ⟨c4, f4, z4_4⟩ := blk_at HK4_4.out
 obtain ⟨c5, f5, z5_4⟩ := blk_at HK5_4.out
 by_cases hq : x4 = 0
 · skip
   subst hq
   go_wp2_with fail
   refine (w_l01Damage k c t (by omega) _ qsh).mono ?_
   rintro e w5 ⟨tt, rfl, htl, hD, hS5⟩
   have hz5 : w4.heap.size ≤ w5.heap.size := qsz hD.size
   have hD5 : Drawn w w5 k := Drawn.trans qdh hD
   have HK4_5 := Lib.hid (hD.keep (j := w2.heap.size) qkh (by omega))
   have HK5_5 := Lib.hid (hD.keep (j := w2.heap.size + 1) qkh (by omega))
   have HOz_5 := Lib.hid (hD.owns (qoh HOz_4) (by omega))
   clear hD c4 f4 c5 f5
   obtain ⟨c4, f4, z4_5⟩ := blk_at HK4_5.out
   obtain ⟨c5, f5, z5_5⟩ := blk_at HK5_5.out
   go_wp2
   go_ret
   exact ⟨tt, rfl, by omega, (Later.refl w).drawn hk0 qdh⟩
 · skip
   have hqb : (x4 == 0) = false := by simpa using hq
   go_wp2
   go_ret
   exact ⟨t, rfl, by omega, (Later.refl w).drawn hk0 qdh⟩
end Go.Proofs.YtgngbdacejghcaaGreatDoor
