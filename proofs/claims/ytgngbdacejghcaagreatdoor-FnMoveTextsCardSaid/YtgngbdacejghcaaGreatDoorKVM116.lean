/- DERIVED. Walks: the dice of the laws. -/
import Derived.Test.YtgngbdacejghcaaGreatDoorKVM101
import Derived.Test.YtgngbdacejghcaaGreatDoorKVM100
namespace Go.Proofs.YtgngbdacejghcaaGreatDoor
set_option linter.unusedVariables false
set_option linter.unusedSimpArgs false
open Go.RowKit
set_option maxRecDepth 100000
def Dice (w : World) (k : Nat) (c : Value) : Prop := ∃ (bs : List Int) (t : Nat) (h : Int), w.heap[k]? = some (.cells #[c, .int .i64 t, .int .u64 h] 121 (0, 0)) ∧ IsByts w c bs ∧ AllIn c (fun b => b < k) ∧ (∀ b ∈ bs, 0 ≤ b ∧ b ≤ 255) ∧ t ≤ bs.length ∧ bs.length ≤ 4096
set_option maxHeartbeats 1000000 in
theorem w_roll (c : Value) (bs : List Int) (s : Int) (w : World) (h : IsByts w c bs) (hB : ∀ b ∈ bs, 0 ≤ b ∧ b ≤ 255) (hl : bs.length ≤ 4096) :
 Calls Tryz.prog 37 #[c, .int .u64 s] w fun e w' => e = .returned (.pointer (some ⟨w.heap.size, 0, none⟩)) ∧ Later w w' ∧ Dice w' w.heap.size c := by
 have HR := Lib.hid h
 have HB := Lib.hid hB
 have HA := Lib.hid (byts_in h)
 obtain ⟨hxl, hnn, a, cap, rfl, hcap, hmax, hrow⟩ := h
 have HRow := Lib.hid hrow
 clear hxl hrow hB
 go_enter Tryz.func37, Tryz.ntmps37
 go_wp2
 go_loopw [6] (fun i wr => ∃ (k : Nat) (g : Int), k ≤ bs.length ∧ i = .int .i64 (k : Nat) ∧ Later w wr ∧ wr.heap[w.heap.size]? = some (.cells #[.slice a bs.length cap, .int .i64 0, .int .u64 g] 121 (0, 0))) (fun i _ => bs.length - (intOf i).toNat)
 case atStart =>
  exact ⟨0, _, Nat.zero_le _, rfl, qla, blk_new w _ _⟩
 case round =>
  obtain ⟨k, g, hk, rfl, hL, hK⟩ := hrel
  obtain ⟨c0, f0, z0⟩ := blk_at hK
  have HK := Lib.hid hK
  have HLr := Lib.hid hL
  by_cases hlt : k < bs.length
  · obtain ⟨b, off, rfl, hrw⟩ := HRow.out (by omega)
    obtain ⟨x, hx⟩ := get_ex (l := bs) (k := k) hlt
    have hxb := HB.out x (List.mem_of_getElem? hx)
    have e1 := (hrw.later hL).byt hx
    have hbr := (hrw.later hL).1
    clear hx hL hK
    go_wp2_with fail
    go_still_tail 15, (by kernel_rfl)
    go_wp2
    go_roundw
    case rel =>
     refine ⟨k + 1, _, by omega, by go_num, by have hL := HLr.out; exact qla, set_2of3 HK.out _⟩
    case measure => simp [intOf]; omega
  · clear hL hK
    go_wp2
    go_ret
    exact ⟨rfl, HLr.out, bs, 0, _, HK.out, HR.out.later HLr.out, HA.out, HB.out, Nat.zero_le _, hl⟩
theorem dice_bd (x : Int) : ∃ y : Int, 0 ≤ y ∧ y ≤ 16777215 ∧ wrap64 (bits BinOp.and IntKind.u64 (IntKind.u64.wrap x / 8589934592) 16777215) = y := by
 have hw : 0 ≤ IntKind.u64.wrap x ∧ IntKind.u64.wrap x < 18446744073709551616 := by
  have e : IntKind.u64.wrap x = x % 18446744073709551616 := by simp [IntKind.wrap, IntKind.bits, IntKind.signed]
  rw [e]
  exact ⟨Int.emod_nonneg _ (by decide), Int.emod_lt_of_pos _ (by decide)⟩
 generalize IntKind.u64.wrap x = z at hw
 have h := bits_and_u64_nat (z / 8589934592).toNat 16777215 (by omega) (by omega)
 rw [Int.toNat_of_nonneg (by omega)] at h
 have hb : (z / 8589934592).toNat &&& 16777215 ≤ 16777215 := Nat.and_le_right
 refine ⟨_, ?_, ?_, rfl⟩
 · rw [show ((16777215 : Nat) : Int) = 16777215 from rfl] at h
   rw [h]; unfold wrap64; omega
 · rw [show ((16777215 : Nat) : Int) = 16777215 from rfl] at h
   rw [h]; unfold wrap64; omega
set_option maxHeartbeats 1000000 in
theorem w_below (k : Nat) (c : Value) (n : Int) (w : World) (h : Dice w k c) (hn : 1 ≤ n) (hn2 : n ≤ 1000000) :
 Calls Tryz.prog 38 #[.pointer (some ⟨k, 0, none⟩), .int .i64 n] w fun e w' => ∃ x : Int, e = .returned (.int .i64 x) ∧ 0 ≤ x ∧ x < n ∧ Drawn w w' k := by
 obtain ⟨bs, t, g, hb, hR, hA, hB, ht, hl⟩ := h
 have HBk := Lib.hid hb
 obtain ⟨c0, f0, z0⟩ := blk_at hb
 clear hb
 have HB := Lib.hid hB
 have HR := Lib.hid hR
 have HA := Lib.hid hA
 obtain ⟨hxl, hnn, a, cap, rfl, hcap, hmax, hrow⟩ := hR
 have HRow := Lib.hid hrow
 clear hxl hrow hB hA
 go_enter Tryz.func38, Tryz.ntmps38
 go_wp2_with fail
 obtain ⟨y, hy0, hy1, hye⟩ := dice_bd (IntKind.u64.wrap (g * 6364136223846793005) + 1442695040888963407)
 rw [hye]
 clear hye c0 f0
 generalize IntKind.u64.wrap (IntKind.u64.wrap (g * 6364136223846793005) + 1442695040888963407) = g1
 have K1 := set_2of3 HBk.out (.int .u64 g1)
 have G1 : Drawn w (w.setCell ⟨k, 2, none⟩ (.int .u64 g1)) k := grown_setCell (grown_refl w (some k)) 2 _
 generalize w.setCell ⟨k, 2, none⟩ (.int .u64 g1) = w1 at K1 G1 ⊢
 obtain ⟨c1, f1, z1⟩ := blk_at K1
 have HG1 := Lib.hid G1
 clear K1 G1
 by_cases hlt : t < bs.length
 rotate_left
 · go_quiet (fail)
   go_wp2
   go_ret
   have hm : 0 ≤ y % n ∧ y % n < n := ⟨Int.emod_nonneg _ (by omega), Int.emod_lt_of_pos _ (by omega)⟩
   exact ⟨_, rfl, hm.1, hm.2, HG1.out.later ((Later.refl w1).drewN nq)⟩
 obtain ⟨b, off, rfl, hrw⟩ := HRow.out (by omega)
 have hbk : b < k := HA.out b off _ _ rfl (by omega)
 obtain ⟨x, hx⟩ := get_ex (l := bs) (k := t) hlt
 have hxb := HB.out x (List.mem_of_getElem? hx)
 have r1 : RowAt w1 b off (byts bs) := hrw.keep HG1.out.size (HG1.out.block b hrw.1 (fun e => by cases e; omega))
 have e1 := r1.byt hx
 have hbr := r1.1
 clear hrw r1 hx
 go_quiet (fail)
 go_wp2_with fail
 go_quiet (fail)
 go_wp2
 go_ret
 have hm : 0 ≤ (y + x) % n ∧ (y + x) % n < n := ⟨Int.emod_nonneg _ (by omega), Int.emod_lt_of_pos _ (by omega)⟩
 exact ⟨_, rfl, hm.1, hm.2, grown_setCell (HG1.out.later ((Later.refl w1).drewN _)) 1 _⟩
end Go.Proofs.YtgngbdacejghcaaGreatDoor
namespace Go.Proofs.YtgngbdacejghcaaGreatDoor
set_option linter.unusedVariables false
set_option linter.unusedSimpArgs false
open Go.RowKit
set_option maxRecDepth 100000
set_option maxHeartbeats 1000000 in
theorem w_likeMovesY (v v' : Value) (ts : List Mov) (w : World) (h : IsMovs w v ts) (h' : IsMovs w v' ts) :
 Calls Tryz.prog 36 #[v, v'] w fun e w' => e = .returned (.bool true) ∧ Later w w' := by
 obtain ⟨hxl, hn, a, cap, rfl, hcap, hmax, hrow⟩ := h
 obtain ⟨hxl', hn', a', cap', rfl, hcap', hmax', hrow'⟩ := h'
 clear hxl hxl' hn'
 obtain ⟨n, hnn⟩ : ∃ n, ts.length = n := ⟨_, rfl⟩
 rw [hnn] at hn hcap hrow hcap' hrow' ⊢
 have HN := Lib.hid hnn
 have HR := Lib.hid hrow
 have HR' := Lib.hid hrow'
 clear hnn hrow hrow'
 go_enter Tryz.func36, Tryz.ntmps36
 go_wp2
 go_loopw [5] (fun i wr => ∃ k : Nat, k ≤ n ∧ i = .int .i64 k ∧ Later w wr) (fun i _ => n - (intOf i).toNat)
 case atStart => exact ⟨0, Nat.zero_le _, rfl, Later.refl _⟩
 case round =>
  obtain ⟨k, hk, rfl, hL⟩ := hrel
  by_cases hlt : k < n
  · obtain ⟨b, off, rfl, hr⟩ := HR.out (by omega)
    obtain ⟨b', off', rfl, hr'⟩ := HR'.out (by omega)
    obtain ⟨t, ht⟩ := get_ex (l := ts) (k := k) (by have := HN.out; omega)
    have HT := Lib.hid ht
    obtain ⟨c1_0, c1_1, c1_2, c1_3⟩ := (hr.later hL).mov ht
    obtain ⟨d0, d1, d2, d3⟩ := (hr'.later hL).mov ht
    have hz1 := (hr.later hL).1
    have hz2 := (hr'.later hL).1
    clear ht
    go_wp2_with fail
    go_quiet (fail)
    go_wp2
    go_roundw
    case rel => exact ⟨k + 1, by omega, by go_num, qla⟩
    case measure => simp [intOf]; omega
  · go_wp2
    go_ret
    exact ⟨rfl, hL⟩
end Go.Proofs.YtgngbdacejghcaaGreatDoor
