/- DERIVED. Walks: moves that are run. -/
import Derived.Test.YtgngbdacejghcaaGreatDoorKVM36
import Derived.Test.YtgngbdacejghcaaGreatDoorKVBA
import Derived.Test.YtgngbdacejghcaaGreatDoorKVPA
namespace Go.Proofs.YtgngbdacejghcaaGreatDoor
set_option linter.unusedVariables false
set_option linter.unusedSimpArgs false
open Go.RowKit
set_option maxRecDepth 100000
theorem owns_set {w : World} {base : Nat} {e : TypeId} {s : Nat} {v : Value} {n : Nat} {xs : List Value} (ho : w.ownsRow base e s v n xs) {k : Nat} (hk : k < base) (j : Nat) (x : Value) : (w.setCell ⟨k, j, none⟩ x).ownsRow base e s v n xs :=
 ho.kept (row := some k) (grown_setCell (grown_refl w (some k)) j x) (by
  cases h : v.ownBlock with
  | none => exact .inl rfl
  | some q =>
   refine .inr ?_
   have := (ho.lt q h).1
   simp
   omega)
theorem own_empty' {w : World} {base k : Nat} (hb : base ≤ w.heap.size) (hk : k = w.heap.size) (E : TypeId) (s : Nat) : (w.alloc (.cells #[] E)).ownsRow base E s (.slice (some ⟨k, 0, none⟩) 0 0) 0 [] := hk ▸ own_empty hb E s
theorem grown_keep {a b : World} {row : Option Nat} (h : a.grownBy b row) {k : Nat} {x : Obj} (hk : a.heap[k]? = some x) (hne : row ≠ some k) : b.heap[k]? = some x :=
 (h.block k (Array.getElem?_eq_some_iff.1 hk).1 (fun e => hne e.symm)).trans hk
theorem own_ne {w : World} {base : Nat} {e : TypeId} {s : Nat} {v : Value} {n : Nat} {xs : List Value} (ho : w.ownsRow base e s v n xs) {k : Nat} (hk : k < base ∨ w.heap.size ≤ k) : v.ownBlock ≠ some k := by
 intro h
 have := ho.lt k h
 omega
theorem w_implMoved (n : Int) (u v : Value) (st sd : List Int) (a b : Int) (m : Mov) (w : World) (h : IsNums w u st) (h' : IsNums w v sd) (hs : isStg ⟨a, b⟩ = true) (hm : isMove m = true) :
 Calls Tryz.prog 135 #[.agg #[.int .i64 n, u, v], .agg #[.int .i64 a, .int .i64 b], .agg #[.int .i64 m.k, .int .i64 m.s, .int .i64 m.f.d, .int .i64 m.f.t]] w fun e w' => e = .returned (.tuple #[.agg #[.int .i64 (mvS ⟨n, st, sd⟩ ⟨a, b⟩ m).sh, .int .i64 (mvS ⟨n, st, sd⟩ ⟨a, b⟩ m).cu], .bool (mvOk ⟨n, st, sd⟩ ⟨a, b⟩ m)]) ∧ Later w w' := by
 obtain ⟨k, s, ⟨d, t⟩⟩ := m
 rcases isMove_cases hm with ⟨k1, k2, h3, h4⟩ | ⟨k1, k2, h3, h4⟩
 · simp only at k1 k2 h3 h4
   have hb := isScaleN_bd h3
   rcases (show k = 0 ∨ k = 1 ∨ k = 2 by omega) with rfl | rfl | rfl
   · exact w_implMv0 n u v st sd a b s d t w h h' hs hb.1 hb.2 h4
   · exact w_implMv1 n u v st sd a b s d t w h h' hs hb.1 hb.2 h4
   · exact w_implMv2 n u v st sd a b s d t w h h' hs hb.1 hb.2 h4
 · simp only at k1 k2 h3 h4
   simp only [Fig.mk.injEq] at h4
   obtain ⟨rfl, rfl⟩ := h4
   subst h3
   rcases (show k = 3 ∨ k = 4 ∨ k = 5 ∨ k = 6 by omega) with rfl | rfl | rfl | rfl
   · exact w_implMv3 n u v st sd a b w h h' hs
   · exact w_implMv4 n u v st sd a b w h h' hs
   · exact w_implMv5 n u v st sd a b w h h' hs
   · exact w_implMv6 n u v st sd a b w h h' hs
theorem w_specMoved (n : Int) (u v : Value) (st sd : List Int) (a b : Int) (m : Mov) (w : World) (h : IsNums w u st) (h' : IsNums w v sd) (hs : isStg ⟨a, b⟩ = true) (hm : isMove m = true) :
 Calls Tryz.prog 90 #[.agg #[.int .i64 n, u, v], .agg #[.int .i64 a, .int .i64 b], .agg #[.int .i64 m.k, .int .i64 m.s, .int .i64 m.f.d, .int .i64 m.f.t]] w fun e w' => e = .returned (.tuple #[.agg #[.int .i64 (mvS ⟨n, st, sd⟩ ⟨a, b⟩ m).sh, .int .i64 (mvS ⟨n, st, sd⟩ ⟨a, b⟩ m).cu], .bool (mvOk ⟨n, st, sd⟩ ⟨a, b⟩ m)]) ∧ Later w w' := by
 obtain ⟨k, s, ⟨d, t⟩⟩ := m
 rcases isMove_cases hm with ⟨k1, k2, h3, h4⟩ | ⟨k1, k2, h3, h4⟩
 · simp only at k1 k2 h3 h4
   have hb := isScaleN_bd h3
   rcases (show k = 0 ∨ k = 1 ∨ k = 2 by omega) with rfl | rfl | rfl
   · exact w_specMv0 n u v st sd a b s d t w h h' hs hb.1 hb.2 h4
   · exact w_specMv1 n u v st sd a b s d t w h h' hs hb.1 hb.2 h4
   · exact w_specMv2 n u v st sd a b s d t w h h' hs hb.1 hb.2 h4
 · simp only at k1 k2 h3 h4
   simp only [Fig.mk.injEq] at h4
   obtain ⟨rfl, rfl⟩ := h4
   subst h3
   rcases (show k = 3 ∨ k = 4 ∨ k = 5 ∨ k = 6 by omega) with rfl | rfl | rfl | rfl
   · exact w_specMv3 n u v st sd a b w h h' hs
   · exact w_specMv4 n u v st sd a b w h h' hs
   · exact w_specMv5 n u v st sd a b w h h' hs
   · exact w_specMv6 n u v st sd a b w h h' hs
set_option maxHeartbeats 2000000 in
theorem w_settings (n : Int) (u v z : Value) (st sd : List Int) (a b : Int) (l : List Mov) (w : World) (h : IsNums w u st) (h' : IsNums w v sd) (hs : isStg ⟨a, b⟩ = true) (hl : IsMovs w z l) (ha : l.all isMove = true) (h30 : l.length ≤ 30) :
 Calls Tryz.prog 87 #[.agg #[.int .i64 n, u, v], .agg #[.int .i64 a, .int .i64 b], z] w fun e w' => ∃ v', e = .returned v' ∧ Later w w' ∧ w'.ownsRow w.heap.size 28 2 v' (runSt ⟨n, st, sd⟩ ⟨a, b⟩ l).length (stgs (runSt ⟨n, st, sd⟩ ⟨a, b⟩ l)) := by
 have H := Lib.hid h
 have H' := Lib.hid h'
 have HA := Lib.hid ha
 have HR0 := Lib.hid (Ran.zero (r := ⟨n, st, sd⟩) (l := l) hs)
 obtain ⟨_, _, au, capu, rfl, _, _, _⟩ := h
 obtain ⟨_, _, av, capv, rfl, _, _, _⟩ := h'
 obtain ⟨hxl3, hn3, a3, cap3, rfl, hcap3, hmax3, hrow3⟩ := hl
 have HR3 := Lib.hid hrow3
 clear hrow3 hxl3
 clear ha hs
 go_enter Tryz.func87, Tryz.ntmps87
 go_wp2
 go_loopw [7, 15] (fun q i wr => ∃ k : Nat, k ≤ l.length ∧ i = .int .i64 k ∧ Later w wr ∧ w.heap.size + 1 < wr.heap.size ∧ wr.heap[w.heap.size]? = some (.cells #[.int .i64 n, .slice au st.length capu, .slice av sd.length capv] 26 (0, 0)) ∧ ∃ L : List Stg, ∃ S : Stg, wr.heap[w.heap.size + 1]? = some (.cells #[.int .i64 S.sh, .int .i64 S.cu] 28 (0, 0)) ∧ wr.ownsRow (w.heap.size + 2) 28 2 q L.length (stgs L) ∧ Hid (Ran ⟨n, st, sd⟩ ⟨a, b⟩ l k L S)) (fun _ i _ => l.length - (intOf i).toNat)
 case atStart => exact ⟨0, Nat.zero_le _, rfl, qla, by simp, heap_alloc_old _ _ (heap_alloc_old _ _ (heap_alloc_new _ _)), [], ⟨a, b⟩, heap_alloc_old _ _ (heap_alloc_new' _ _ (World.size_alloc ..).symm), own_empty' (by simp) (by simp) _ _, HR0.out⟩
 case round =>
  obtain ⟨k, hk, rfl, hL2, hsz, hB0, L, S, hB1, hown, HRan⟩ := hrel
  have HOwn := Lib.hid hown
  have HB0 := Lib.hid hB0
  have HB1 := Lib.hid hB1
  have HLen := Lib.hid HRan.out.1
  by_cases hlt : k < l.length
  rotate_left
  · have HR := Lib.hid (HRan.out.done (by omega))
    clear hB0 hB1 hown
    go_wp2
    go_ret
    exact ⟨_, rfl, hL2, by rw [HR.out]; exact owns_base HOwn.out (by omega)⟩
  obtain ⟨b3, off3, rfl, hr3⟩ := HR3.out (by omega)
  obtain ⟨m, hmm⟩ := get_ex (l := l) (k := k) (by omega)
  have HT3 := Lib.hid hmm
  obtain ⟨r1, r2, r3, r4⟩ := (hr3.later hL2).mov hmm
  have hbr := (hr3.later hL2).1
  have HMV := Lib.hid (all_get HA.out hmm)
  obtain ⟨c0, f0, z0⟩ := blk_at hB0
  obtain ⟨c1, f1, z1⟩ := blk_at hB1
  obtain ⟨NS, hNS⟩ : ∃ x, mvS ⟨n, st, sd⟩ S m = x := ⟨_, rfl⟩
  obtain ⟨NO, hNO⟩ : ∃ x, mvOk ⟨n, st, sd⟩ S m = x := ⟨_, rfl⟩
  have HNS := Lib.hid hNS
  have HNO := Lib.hid hNO
  clear hmm hNS hNO hB0 hB1 hown
  cases NO
  · have HR := Lib.hid (HRan.out.stop HT3.out HNO.out)
    go_wp2_with fail
    refine (w_implMoved _ _ _ _ _ _ _ m _ (H.out.later (hL2.alloc _)) (H'.out.later (hL2.alloc _)) HRan.out.2.2.2 HMV.out).mono ?_
    rintro e w2 ⟨rfl, hL3⟩
    rw [show mvS ⟨n, st, sd⟩ ⟨S.sh, S.cu⟩ m = NS from HNS.out, show mvOk ⟨n, st, sd⟩ ⟨S.sh, S.cu⟩ m = false from HNO.out]
    go_wp2
    go_ret
    exact ⟨_, rfl, qla, by rw [HR.out]; exact owns_base ((owns_later (HOwn.out.alloc _) hL3).alloc _) (by omega)⟩
  · have HR := Lib.hid (HRan.out.go HT3.out HNO.out)
    go_wp2_with fail
    refine (w_implMoved _ _ _ _ _ _ _ m _ (H.out.later (hL2.alloc _)) (H'.out.later (hL2.alloc _)) HRan.out.2.2.2 HMV.out).mono ?_
    rintro e w2 ⟨rfl, hL3⟩
    rw [show mvS ⟨n, st, sd⟩ ⟨S.sh, S.cu⟩ m = NS from HNS.out, show mvOk ⟨n, st, sd⟩ ⟨S.sh, S.cu⟩ m = true from HNO.out]
    have hown2 := (owns_later (HOwn.out.alloc (.cells #[.int .i64 m.k, .int .i64 m.s, .int .i64 m.f.d, .int .i64 m.f.t] 107)) hL3).alloc (.cells #[.int .i64 NS.sh, .int .i64 NS.cu] 28)
    have hLz : Later w (w2.alloc (.cells #[.int .i64 NS.sh, .int .i64 NS.cu] 28)) := qla
    have hsz3 := hL3.size
    simp only [World.size_alloc] at hsz3
    have hbz : w.heap.size + 2 ≤ (w2.alloc (.cells #[.int .i64 NS.sh, .int .i64 NS.cu] 28)).heap.size := by simp; omega
    have hq0 := Lib.hid (heap_alloc_old _ (.cells #[.int .i64 NS.sh, .int .i64 NS.cu] 28) (hL3.keep (heap_alloc_old _ _ HB0.out)))
    have hq1 := Lib.hid (heap_alloc_old _ (.cells #[.int .i64 NS.sh, .int .i64 NS.cu] 28) (hL3.keep (heap_alloc_old _ _ HB1.out)))
    have hq2 := Lib.hid (heap_alloc_new w2 (.cells #[.int .i64 NS.sh, .int .i64 NS.cu] 28))
    clear c0 f0 z0 c1 f1 z1 r1 r2 r3 r4 hbr
    go_wp2_with (at_builtin; refine app1_Setting rfl (.tmp 28) (.tmp 30) rfl (w.heap.size + 2) _ L NS rfl hown2 (by simp [Act.eval, Array.getD]) ?_ hbz ?_; (· rw [HLen.out]; omega); intro v1 w4 ho4 hg4; have hk1 := grown_keep hg4 hq1.out (own_ne HOwn.out (.inl (by omega))); have hk2 := grown_keep hg4 hq2.out (own_ne HOwn.out (.inr (by omega))); have hk0 := grown_keep hg4 hq0.out (own_ne HOwn.out (.inl (by omega))); have d1 := (blk_at hk1).1; have e1 := (blk_at hk1).2.1; have g1 := (blk_at hk1).2.2; have d2 := (blk_at hk2).1; have e2 := (blk_at hk2).2.1; have g2 := (blk_at hk2).2.2; have HK0 := Lib.hid hk0; have HK1 := Lib.hid hk1; have HO4 := Lib.hid ho4; have HL4 := Lib.hid (hLz.own (show w.heap.size ≤ w.heap.size + 2 by omega) hown2 hg4); have hsz4 := hg4.size; clear hk0 hk1 hk2 ho4 hg4)
    have hL4 := HL4.out
    go_roundw
    case rel => exact ⟨k + 1, by omega, by go_num, qla, by simp at hsz4 ⊢; omega, other_set (other_set HK0.out (by omega) _) (by omega) _, L ++ [NS], NS, two_set HK1.out _ _, owns_set (owns_set HO4.out (by omega) _ _) (by omega) _ _, by rw [← HNS.out]; exact HR.out⟩
    case measure => simp [intOf]; omega
end Go.Proofs.YtgngbdacejghcaaGreatDoor
