/- DERIVED. Walks: drawn rules and settings. -/
import Derived.Test.YtgngbdacejghcaaGreatDoorKVM101
import Derived.Test.YtgngbdacejghcaaGreatDoorKVM33
namespace Go.Proofs.YtgngbdacejghcaaGreatDoor
set_option linter.unusedVariables false
set_option linter.unusedSimpArgs false
open Go.RowKit
set_option maxRecDepth 100000
set_option maxHeartbeats 1000000 in
theorem w_l05DrawScale (k : Nat) (c : Value) (w : World) (h : Src w k c) :
 Calls Tryz.prog 68 #[.pointer (some ⟨k, 0, none⟩)] w fun e w' => ∃ x : Int, e = .returned (.int .i64 x) ∧ Drawn w w' k ∧ Src w' k c := by
 have hk := h.lt
 go_enter Tryz.func68, Tryz.ntmps68
 go_wp2_with fail
 refine (w_l01Next k c 6 _ qsh).mono ?_
 rintro e w1 ⟨x1, rfl, x1a, x1b, hD, hS1⟩
 have hz1 : w.heap.size ≤ w1.heap.size := qsz hD.size
 have hD1 : Drawn w w1 k := Drawn.trans qdh hD
 clear hD
 go_wp2_with fail
 refine (w_l01Next k c 30 _ qsh).mono ?_
 rintro e w2 ⟨x2, rfl, x2a, x2b, hD, hS2⟩
 have hz2 : w1.heap.size ≤ w2.heap.size := qsz hD.size
 have hD2 : Drawn w w2 k := Drawn.trans qdh hD
 clear hD
 go_wp2_with fail
 refine (w_l01Next k c 30 _ qsh).mono ?_
 rintro e w3 ⟨x3, rfl, x3a, x3b, hD, hS3⟩
 have hz3 : w2.heap.size ≤ w3.heap.size := qsz hD.size
 have hD3 : Drawn w w3 k := Drawn.trans qdh hD
 clear hD
 go_wp2
 go_ret
 exact ⟨x1 + x2 / 29 - x3 / 29, rfl, qdh, qsh⟩
set_option maxHeartbeats 1000000 in
theorem w_l05DrawLength (k : Nat) (c : Value) (w : World) (h : Src w k c) :
 Calls Tryz.prog 94 #[.pointer (some ⟨k, 0, none⟩)] w fun e w' => ∃ x : Int, e = .returned (.int .i64 x) ∧ Drawn w w' k ∧ Src w' k c := by
 have hk := h.lt
 go_enter Tryz.func94, Tryz.ntmps94
 go_wp2_with fail
 refine (w_l01Next k c 30000 _ qsh).mono ?_
 rintro e w1 ⟨x1, rfl, x1a, x1b, hD, hS1⟩
 have hz1 : w.heap.size ≤ w1.heap.size := qsz hD.size
 have hD1 : Drawn w w1 k := Drawn.trans qdh hD
 clear hD
 go_wp2_with fail
 refine (w_l01Pick k c _ [25000, 12500, 1 + x1, 25000, 1, 100000, 100001, 0] _ qsh (reads_new' _ _ [25000, 12500, 1 + x1, 25000, 1, 100000, 100001, 0] (by simp) (by first | rfl | (simp; done))) (by simp) (allIn_new (by omega))).mono ?_
 rintro e w2 ⟨x2, rfl, x2m, hD, hS2⟩
 have hz2 : w1.heap.size ≤ w2.heap.size := qsz hD.size
 have hD2 : Drawn w w2 k := Drawn.trans qdh hD
 clear hD
 go_wp2
 go_ret
 exact ⟨x2, rfl, qdh, qsh⟩
set_option maxHeartbeats 2000000 in
theorem w_l11DrawScales (k : Nat) (c : Value) (w : World) (h : Src w k c) :
 Calls Tryz.prog 60 #[.pointer (some ⟨k, 0, none⟩)] w fun e w' => ∃ (v : Value) (l : List Int), e = .returned v ∧ w'.ownsRow w.heap.size 2 1 v l.length (nums l) ∧ l.length ≤ 5 ∧ Drawn w w' k ∧ Src w' k c := by
 have hk := h.lt
 go_enter Tryz.func60, Tryz.ntmps60
 go_wp2
 go_loopw [3, 4] (fun v i wr => ∃ (l : List Int) (m : Nat), i = .int .i64 (m : Nat) ∧ 1 ≤ m ∧ m ≤ 5 ∧ wr.ownsRow w.heap.size 2 1 v l.length (nums l) ∧ l.length ≤ m ∧ Drawn w wr k ∧ Src wr k c) (fun _ i _ => 5 - (intOf i).toNat)
 case atStart =>
  refine ⟨[0], 1, rfl, Nat.le_refl _, by decide, ⟨rfl, .inr ⟨w.heap.size, 1, #[.int .i64 0], rfl, Nat.le_refl _, heap_alloc_new _ _, by decide, by decide, rfl, rfl⟩⟩, by simp, qdh, qsh⟩
 case round =>
  obtain ⟨l, m, rfl, hm1, hm5, hO, hlm, hDr, hSr⟩ := hrel
  have HO := Lib.hid hO
  clear hO
  by_cases hlt : m < 5
  · go_wp2_with fail
    refine (w_l01Next k c 2 _ hSr).mono ?_
    rintro e w1 ⟨x1, rfl, x1a, x1b, hD, hS1⟩
    have HO1 := Lib.hid (hD.owns HO.out (by omega))
    have hD1 := hDr.trans hD
    have hz1 := hD1.size
    clear hD
    by_cases hq : x1 = 0
    · subst hq
      go_wp2_with (at_builtin; refine app1_Int64 rfl (.tmp 13) (.tmp 15) rfl w.heap.size _ l (m : Int) rfl HO1.out (by simp [Act.eval, Array.getD]) (by omega) hz1 ?_; intro v5 w5 ho5 hg5)
      go_roundw
      case rel => exact ⟨l ++ [(m : Int)], m + 1, by go_num, by omega, by omega, ho5, by simp; omega, hD1.own (Nat.le_refl _) HO1.out hg5, hS1.own (base := w.heap.size) (by omega) HO1.out hg5⟩
      case measure => simp [intOf]; omega
    · have hqb : (x1 == 0) = false := by simpa using hq
      go_wp2
      go_roundw
      case rel => exact ⟨l, m + 1, by go_num, by omega, by omega, HO1.out, by omega, hD1, hS1⟩
      case measure => simp [intOf]; omega
  · obtain ⟨av, cv, rfl⟩ := isSl_of HO.out
    go_wp2
    go_ret
    exact ⟨_, l, rfl, HO.out, by omega, hDr, hSr⟩
set_option maxHeartbeats 2000000 in
theorem w_l11DrawSetting (k : Nat) (c : Value) (w : World) (h : Src w k c) :
 Calls Tryz.prog 42 #[.pointer (some ⟨k, 0, none⟩)] w fun e w' => ∃ f : Stg, e = .returned (.agg #[.int .i64 f.sh, .int .i64 f.cu]) ∧ Drawn w w' k ∧ Src w' k c := by
 have hk := h.lt
 go_enter Tryz.func42, Tryz.ntmps42
 go_wp2_with fail
 refine (w_l01Next k c 2097153 _ qsh).mono ?_
 rintro e w1 ⟨x1, rfl, x1a, x1b, hD, hS1⟩
 have hz1 : w.heap.size ≤ w1.heap.size := qsz hD.size
 have hD1 : Drawn w w1 k := Drawn.trans qdh hD
 have HK0_1 := Lib.hid (hD.keep (j := w.heap.size) qkh (by omega))
 clear hD
 obtain ⟨c0, f0, z0_1⟩ := blk_at HK0_1.out
 go_wp2_with fail
 refine (w_l01Next k c 1048577 _ qsh).mono ?_
 rintro e w2 ⟨x2, rfl, x2a, x2b, hD, hS2⟩
 have hz2 : w1.heap.size ≤ w2.heap.size := qsz hD.size
 have hD2 : Drawn w w2 k := Drawn.trans qdh hD
 have HK0_2 := Lib.hid (hD.keep (j := w.heap.size) qkh (by omega))
 clear hD c0 f0
 obtain ⟨c0, f0, z0_2⟩ := blk_at HK0_2.out
 go_wp2_with fail
 refine (w_l01Next k c 12 _ qsh).mono ?_
 rintro e w3 ⟨x3, rfl, x3a, x3b, hD, hS3⟩
 have hz3 : w2.heap.size ≤ w3.heap.size := qsz hD.size
 have hD3 : Drawn w w3 k := Drawn.trans qdh hD
 have HK0_3 := Lib.hid (hD.keep (j := w.heap.size) qkh (by omega))
 have HK1_3 := Lib.hid (hD.keep (j := w2.heap.size) qkh (by omega))
 clear hD c0 f0
 obtain ⟨c0, f0, z0_3⟩ := blk_at HK0_3.out
 obtain ⟨c1, f1, z1_3⟩ := blk_at HK1_3.out
 by_cases hq0 : x3 = 0
 · skip
   subst hq0
   go_wp2_with fail
   refine (w_l01Pick k c _ [0, 1048576, -1048576, 1048577, -1048577] _ qsh (reads_new' _ _ [0, 1048576, -1048576, 1048577, -1048577] (by simp) (by first | rfl | (simp; done))) (by simp) (allIn_new (by omega))).mono ?_
   rintro e w4 ⟨x4, rfl, x4m, hD, hS4⟩
   have hz4 : w3.heap.size ≤ w4.heap.size := qsz hD.size
   have hD4 : Drawn w w4 k := Drawn.trans qdh hD
   have HK0_4 := Lib.hid (hD.keep (j := w.heap.size) qkh (by omega))
   have HK1_4 := Lib.hid (hD.keep (j := w2.heap.size) qkh (by omega))
   clear hD c0 f0 c1 f1
   obtain ⟨c0, f0, z0_4⟩ := blk_at HK0_4.out
   obtain ⟨c1, f1, z1_4⟩ := blk_at HK1_4.out
   go_wp2
   refine bodyPost_ret (v := .agg #[.int .i64 x4, .int .i64 x2]) (by simp [results, Tryz.results42, go_sem, c0, z0_4]) rfl ⟨⟨x4, x2⟩, rfl, qdh, qsh⟩
 have hb0 : (x3 == 0) = false := by simpa using hq0
 by_cases hq1 : x3 = 1
 · skip
   subst hq1
   go_wp2_with fail
   refine (w_l01Pick k c _ [0, 1048576, 1048577, -1] _ qsh (reads_new' _ _ [0, 1048576, 1048577, -1] (by simp) (by first | rfl | (simp; done))) (by simp) (allIn_new (by omega))).mono ?_
   rintro e w4 ⟨x4, rfl, x4m, hD, hS4⟩
   have hz4 : w3.heap.size ≤ w4.heap.size := qsz hD.size
   have hD4 : Drawn w w4 k := Drawn.trans qdh hD
   have HK0_4 := Lib.hid (hD.keep (j := w.heap.size) qkh (by omega))
   have HK1_4 := Lib.hid (hD.keep (j := w2.heap.size) qkh (by omega))
   clear hD c0 f0 c1 f1
   obtain ⟨c0, f0, z0_4⟩ := blk_at HK0_4.out
   obtain ⟨c1, f1, z1_4⟩ := blk_at HK1_4.out
   go_wp2
   refine bodyPost_ret (v := .agg #[.int .i64 (x1 - 1048576), .int .i64 x4]) (by simp [results, Tryz.results42, go_sem, c0, z0_4]) rfl ⟨⟨x1 - 1048576, x4⟩, rfl, qdh, qsh⟩
 have hb1 : (x3 == 1) = false := by simpa using hq1
 by_cases hq2 : x3 = 2
 · skip
   subst hq2
   go_wp2_with fail
   refine (w_l01Next k c 200001 _ qsh).mono ?_
   rintro e w4 ⟨x4, rfl, x4a, x4b, hD, hS4⟩
   have hz4 : w3.heap.size ≤ w4.heap.size := qsz hD.size
   have hD4 : Drawn w w4 k := Drawn.trans qdh hD
   have HK0_4 := Lib.hid (hD.keep (j := w.heap.size) qkh (by omega))
   have HK1_4 := Lib.hid (hD.keep (j := w2.heap.size) qkh (by omega))
   clear hD c0 f0 c1 f1
   obtain ⟨c0, f0, z0_4⟩ := blk_at HK0_4.out
   obtain ⟨c1, f1, z1_4⟩ := blk_at HK1_4.out
   go_wp2
   refine bodyPost_ret (v := .agg #[.int .i64 (x4 - 100000), .int .i64 x2]) (by simp [results, Tryz.results42, go_sem, c0, z0_4]) rfl ⟨⟨x4 - 100000, x2⟩, rfl, qdh, qsh⟩
 have hb2 : (x3 == 2) = false := by simpa using hq2
 by_cases hq3 : x3 = 3
 · skip
   subst hq3
   go_wp2_with fail
   refine (w_l01Next k c 200001 _ qsh).mono ?_
   rintro e w4 ⟨x4, rfl, x4a, x4b, hD, hS4⟩
   have hz4 : w3.heap.size ≤ w4.heap.size := qsz hD.size
   have hD4 : Drawn w w4 k := Drawn.trans qdh hD
   have HK0_4 := Lib.hid (hD.keep (j := w.heap.size) qkh (by omega))
   have HK1_4 := Lib.hid (hD.keep (j := w2.heap.size) qkh (by omega))
   clear hD c0 f0 c1 f1
   obtain ⟨c0, f0, z0_4⟩ := blk_at HK0_4.out
   obtain ⟨c1, f1, z1_4⟩ := blk_at HK1_4.out
   go_wp2
   refine bodyPost_ret (v := .agg #[.int .i64 (x4 - 100000), .int .i64 x2]) (by simp [results, Tryz.results42, go_sem, c0, z0_4]) rfl ⟨⟨x4 - 100000, x2⟩, rfl, qdh, qsh⟩
 have hb3 : (x3 == 3) = false := by simpa using hq3
 by_cases hq4 : x3 = 4
 · skip
   subst hq4
   go_wp2_with fail
   refine (w_l01Next k c 200001 _ qsh).mono ?_
   rintro e w4 ⟨x4, rfl, x4a, x4b, hD, hS4⟩
   have hz4 : w3.heap.size ≤ w4.heap.size := qsz hD.size
   have hD4 : Drawn w w4 k := Drawn.trans qdh hD
   have HK0_4 := Lib.hid (hD.keep (j := w.heap.size) qkh (by omega))
   have HK1_4 := Lib.hid (hD.keep (j := w2.heap.size) qkh (by omega))
   clear hD c0 f0 c1 f1
   obtain ⟨c0, f0, z0_4⟩ := blk_at HK0_4.out
   obtain ⟨c1, f1, z1_4⟩ := blk_at HK1_4.out
   go_wp2
   refine bodyPost_ret (v := .agg #[.int .i64 (x4 - 100000), .int .i64 x2]) (by simp [results, Tryz.results42, go_sem, c0, z0_4]) rfl ⟨⟨x4 - 100000, x2⟩, rfl, qdh, qsh⟩
 have hb4 : (x3 == 4) = false := by simpa using hq4
 go_wp2
 refine bodyPost_ret (v := .agg #[.int .i64 (x1 - 1048576), .int .i64 x2]) (by simp [results, Tryz.results42, go_sem, c0, z0_3]) rfl ⟨⟨x1 - 1048576, x2⟩, rfl, qdh, qsh⟩
end Go.Proofs.YtgngbdacejghcaaGreatDoor
