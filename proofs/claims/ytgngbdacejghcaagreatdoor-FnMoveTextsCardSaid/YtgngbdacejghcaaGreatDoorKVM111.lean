/- DERIVED. Walks: the draws of moves. -/
import Derived.Test.YtgngbdacejghcaaGreatDoorKVM10
import Derived.Test.YtgngbdacejghcaaGreatDoorKVM110
namespace Go.Proofs.YtgngbdacejghcaaGreatDoor
set_option linter.unusedVariables false
set_option linter.unusedSimpArgs false
open Go.RowKit
set_option maxRecDepth 100000
set_option maxHeartbeats 2000000 in
theorem w_DrawTravelOf (c : Value) (bs : List Int) (w : World) (h : IsByts w c bs) (hB : ∀ b ∈ bs, 0 ≤ b ∧ b ≤ 255) (hl : bs.length ≤ 4096) :
 Calls Tryz.prog 30 #[c] w fun e w' => ∃ (n : Int) (u v : Value) (st sd : List Int) (s : Stg) (l : List Mov) (z : Value), e = .returned (.tuple #[.agg #[.int .i64 n, u, v], .agg #[.int .i64 s.sh, .int .i64 s.cu], z]) ∧ w'.ownsRow w.heap.size 2 1 u st.length (nums st) ∧ w'.ownsRow w.heap.size 2 1 v sd.length (nums sd) ∧ st.length ≤ 5 ∧ sd.length ≤ 5 ∧ w'.ownsRow w.heap.size 107 4 z l.length (movs l) ∧ l.length ≤ 31 ∧ Later w w' := by
 go_enter Tryz.func30, Tryz.ntmps30
 go_wp2_with fail
 refine (w_l01From' c bs _ (h.later (qla)) hB hl).mono ?_
 rintro e w1 ⟨k, rfl, hk0, hL1, hS1⟩
 have hk0 : w.heap.size + 2 ≤ k := by simpa using hk0
 have hk := hS1.lt
 have hAc := byts_in h
 have hD1 : Drawn w w1 k := Drawn.later (by repeat (with_reducible first | exact grown_refl _ _ | refine Drawn.alloc ?_ _)) hL1
 have HK0_1 := Lib.hid (hL1.keep (k := w.heap.size) qkh)
 have HK1_1 := Lib.hid (hL1.keep (k := w.heap.size + 1) qkh)
 obtain ⟨c0, f0, z0_1⟩ := blk_at HK0_1.out
 obtain ⟨c1, f1, z1_1⟩ := blk_at HK1_1.out
 have hz1 := hD1.size
 clear hL1
 go_wp2_with fail
 refine (w_l12Draw k c _ qsh).mono ?_
 rintro e w2 ⟨n, vu, vv, st, sd, s, l, vz, rfl, hOu, hOv, hu5, hv5, hOz, hz31, hD, hS2⟩
 have hz2 : w1.heap.size ≤ w2.heap.size := qsz hD.size
 have hD2 : Drawn w w2 k := Drawn.trans qdh hD
 have HK0_2 := Lib.hid (hD.keep (j := w.heap.size) qkh (by omega))
 have HK1_2 := Lib.hid (hD.keep (j := w.heap.size + 1) qkh (by omega))
 clear hD c0 f0 c1 f1
 obtain ⟨c0, f0, z0_2⟩ := blk_at HK0_2.out
 obtain ⟨c1, f1, z1_2⟩ := blk_at HK1_2.out
 obtain ⟨au, capu, rfl⟩ := isSl_of hOu
 have HOu_2 := Lib.hid hOu
 clear hOu
 obtain ⟨av, capv, rfl⟩ := isSl_of hOv
 have HOv_2 := Lib.hid hOv
 clear hOv
 obtain ⟨az, capz, rfl⟩ := isSl_of hOz
 have HOz_2 := Lib.hid hOz
 clear hOz
 go_wp2
 refine bodyPost_ret (v := .tuple #[.agg #[.int .i64 n, .slice au st.length capu, .slice av sd.length capv], .agg #[.int .i64 s.sh, .int .i64 s.cu], .slice az l.length capz]) (by simp [results, Tryz.results30, go_sem, c0, z0_2, c1, z1_2]) rfl ⟨n, _, _, st, sd, s, l, _, rfl, owns_base (base := w1.heap.size) (qoh HOu_2) (by omega), owns_base (base := w1.heap.size) (qoh HOv_2) (by omega), hu5, hv5, owns_base (base := w1.heap.size) (qoh HOz_2) (by omega), hz31, Later.drawn (k := k) (Later.refl w) (by omega) qdh⟩
end Go.Proofs.YtgngbdacejghcaaGreatDoor
