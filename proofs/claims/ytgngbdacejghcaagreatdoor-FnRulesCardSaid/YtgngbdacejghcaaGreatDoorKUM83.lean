/- DERIVED. Walks: readings, the program's. -/
import Derived.Laws.EntriesVeiled
import Derived.Test.YtgngbdacejghcaaGreatDoorKUM81
namespace Go.Proofs.YtgngbdacejghcaaGreatDoor
set_option linter.unusedVariables false
set_option linter.unusedSimpArgs false
open Go.RowKit
set_option maxRecDepth 100000
theorem BestAt.later {w w' : World} {kL kB : Nat} {s t : Int} {o : Option Int} (h : BestAt w kL kB s t o) (hL : Later w w') : BestAt w' kL kB s t o := ⟨hL.keep h.1, hL.keep h.2⟩
theorem Later.ex {S : Nat → Prop} {a b c : World} (h : Later a b) (h' : Ex S b c) (hS : ∀ j, S j → a.heap.size ≤ j) : Later a c := Below.trans h (h'.below h.size hS)
theorem Ex.cell {S : Nat → Prop} {w w' : World} (h : Ex S w w') {p : Addr} (hp : p.block < w.heap.size) (hS : ¬ S p.block) : w'.cell? p = w.cell? p :=
 World.cell?_of_block (w := w) (h.block p.block hp hS)
theorem RowAt.ex {S : Nat → Prop} {w w' : World} {b off : Nat} {xs : List Value} (h : RowAt w b off xs) (hX : Ex S w w') (hS : ¬ S b) : RowAt w' b off xs :=
 ⟨Nat.lt_of_lt_of_le h.1 hX.size, fun j u hu => (hX.cell (p := ⟨b, off + j, none⟩) h.1 hS).trans (h.2 j u hu)⟩
theorem SegAt.ex {S : Nat → Prop} {w w' : World} {kS kF kG kN : Nat} {s A B tn : Int} {b off cap : Nat} (h : SegAt w kS kF kG kN s A B tn b off cap) (hX : Ex S w w') (h1 : ¬ S kS) (h2 : ¬ S kF) (h3 : ¬ S kG) (h4 : ¬ S kN) (h5 : ¬ S b) : SegAt w' kS kF kG kN s A B tn b off cap :=
 ⟨hX.keep h.sc h1, hX.keep h.fg h2, hX.keep h.rw.sg h3, h.rw.row.ex hX h5, hX.keep h.rw.tn h4⟩
theorem readF_eqI {s t n : Int} (h : IsNear s t 0 (9000 * decN s) n) : readF s t = atF n := by unfold readF; rw [nearN_eq h]
def sgN (s : Int) : Nat := if s = 4 then 2 else 1
def sgP (s : Int) : Nat → Int
 | 0 => 0
 | 1 => if s = 4 then 2143 else 9000
 | _ => 9000
theorem sgN_bd (s : Int) : 1 ≤ sgN s ∧ sgN s ≤ 2 := by unfold sgN; split <;> omega
theorem sgP_end (s : Int) : sgP s (sgN s) = 9000 := by
 unfold sgN
 by_cases h : s = 4
 · rw [if_pos h]; rfl
 · rw [if_neg h]; show (if s = 4 then (2143 : Int) else 9000) = 9000; rw [if_neg h]
theorem sgP_step {s : Int} {y : Nat} (h : y < sgN s) : 0 ≤ sgP s y ∧ sgP s y < sgP s (y + 1) ∧ sgP s (y + 1) ≤ 9000 ∧ (s = 4 → sgP s (y + 1) ≤ 2143 ∨ 2143 ≤ sgP s y) := by
 unfold sgN at h
 by_cases h4 : s = 4
 · rw [if_pos h4] at h
   have e1 : sgP s 1 = 2143 := if_pos h4
   have e2 : sgP s 2 = 9000 := rfl
   have e0 : sgP s 0 = 0 := rfl
   rcases (show y = 0 ∨ y = 1 by omega) with rfl | rfl
   · rw [e0, e1]; omega
   · rw [e1, e2]; omega
 · rw [if_neg h4] at h
   obtain rfl : y = 0 := by omega
   have e1 : sgP s 1 = 9000 := if_neg h4
   have e0 : sgP s 0 = 0 := rfl
   rw [e0, e1]; omega
theorem seg_of {s X : Int} {y : Nat} (h : y < sgN s) (x0 : 0 ≤ X) (x1 : X < decN s) : IsSeg s (9000 * X + sgP s y) (9000 * X + sgP s (y + 1)) := by
 obtain ⟨a, b, c, d⟩ := sgP_step h
 refine ⟨by omega, by omega, by omega, fun h4 => ?_⟩
 have hd : decN s = 1 := by rw [h4]; rfl
 have := d h4
 omega
theorem at_of {s X i : Int} {y : Nat} (h : y < sgN s) (i0 : 0 ≤ i) (i1 : i < sgP s (y + 1) - sgP s y) : atF (9000 * X + sgP s y + i) = ⟨1000 + sgP s y + i, X⟩ := by
 obtain ⟨a, b, c, d⟩ := sgP_step h
 rw [show 9000 * X + sgP s y + i = 9000 * X + (sgP s y + i) by omega, atF_of (by omega) (by omega)]
 congr 1
 omega
def SegsAt (w : World) (s : Int) (kq : Nat) (kr : Nat → Nat) : Prop := kq < w.heap.size ∧ ∀ y, y < sgN s → w.cell? ⟨kq, y, none⟩ = some (.slice (some ⟨kr y, 0, none⟩) 2 2) ∧ RowAt w (kr y) 0 (nums [1000 + sgP s y, 999 + sgP s (y + 1)])
theorem SegsAt.ex {S : Nat → Prop} {w w' : World} {s : Int} {kq : Nat} {kr : Nat → Nat} (h : SegsAt w s kq kr) (hX : Ex S w w') (h1 : ¬ S kq) (h2 : ∀ y, y < sgN s → ¬ S (kr y)) : SegsAt w' s kq kr :=
 ⟨Nat.lt_of_lt_of_le h.1 hX.size, fun y hy => ⟨(hX.cell (p := ⟨kq, y, none⟩) h.1 h1).trans (h.2 y hy).1, (h.2 y hy).2.ex hX (h2 y hy)⟩⟩
theorem row_blk {w : World} {k : Nat} {a b : Int} {T : TypeId} (h : w.heap[k]? = some (.cells #[.int .i64 a, .int .i64 b] T (0, 0))) : RowAt w k 0 (nums [a, b]) := by
 refine ⟨(Array.getElem?_eq_some_iff.1 h).1, fun j u hu => ?_⟩
 have hc := (blk_at h).1
 rcases (show j = 0 ∨ j = 1 ∨ 2 ≤ j by omega) with rfl | rfl | hj
 · simp [nums] at hu
   subst hu
   simp [hc]
 · simp [nums] at hu
   subst hu
   simp [hc]
 · rw [List.getElem?_eq_none (by simp [nums]; omega)] at hu
   cases hu
theorem w_segments (s : Int) (w : World) :
 Calls Tryz.prog 116 #[.int .i64 s] w fun e w' => ∃ (kq : Nat) (kr : Nat → Nat), e = .returned (.slice (some ⟨kq, 0, none⟩) (sgN s) (sgN s)) ∧ SegsAt w' s kq kr ∧ w.heap.size ≤ kq ∧ (∀ y, y < sgN s → w.heap.size ≤ kr y) ∧ Later w w' := by
 by_cases h : s = 4
 · subst h
   go_enter Tryz.func116, Tryz.ntmps116
   go_wp2
   go_ret
   refine ⟨w.heap.size + 1 + 1, fun y => w.heap.size + y, rfl, ⟨by simp, fun y hy => ?_⟩, by omega, fun y hy => by show w.heap.size ≤ w.heap.size + y; omega, qla⟩
   have hy2 : y < 2 := hy
   rcases (show y = 0 ∨ y = 1 by omega) with rfl | rfl
   · exact ⟨by simp [(blk_at (heap_alloc_new' (k := w.heap.size + 1 + 1) ((w.alloc (.cells #[.int .i64 1000, .int .i64 3142] 2)).alloc (.cells #[.int .i64 3143, .int .i64 9999] 2)) (.cells #[.slice (some ⟨w.heap.size, 0, none⟩) 2 2, .slice (some ⟨w.heap.size + 1, 0, none⟩) 2 2] 24) (by simp))).1], row_blk (heap_alloc_old _ _ (heap_alloc_old _ _ (heap_alloc_new _ _)))⟩
   · exact ⟨by simp [(blk_at (heap_alloc_new' (k := w.heap.size + 1 + 1) ((w.alloc (.cells #[.int .i64 1000, .int .i64 3142] 2)).alloc (.cells #[.int .i64 3143, .int .i64 9999] 2)) (.cells #[.slice (some ⟨w.heap.size, 0, none⟩) 2 2, .slice (some ⟨w.heap.size + 1, 0, none⟩) 2 2] 24) (by simp))).1], row_blk (heap_alloc_old _ _ (heap_alloc_new' (k := w.heap.size + 1) _ _ (by simp)))⟩
 · have b4 : (s == 4) = false := by simp [h]
   have hn : sgN s = 1 := if_neg h
   have hp : sgP s 1 = 9000 := if_neg h
   have HN := Lib.hid hn
   have HP := Lib.hid hp
   clear hn hp h
   go_enter Tryz.func116, Tryz.ntmps116
   go_wp2
   go_ret
   refine ⟨w.heap.size + 1, fun _ => w.heap.size, by rw [HN.out]; rfl, ⟨by simp, fun y hy => ?_⟩, by omega, fun y hy => Nat.le_refl _, qla⟩
   rw [HN.out] at hy
   obtain rfl : y = 0 := by omega
   refine ⟨by simp [(blk_at (heap_alloc_new' (k := w.heap.size + 1) (w.alloc (.cells #[.int .i64 1000, .int .i64 9999] 2)) (.cells #[.slice (some ⟨w.heap.size, 0, none⟩) 2 2] 24) (by simp))).1], ?_⟩
   rw [HP.out]
   exact row_blk (heap_alloc_old _ _ (heap_alloc_new _ _))
theorem w_decadesOf (s : Int) (s1 : 0 ≤ s) (s2 : s ≤ 4) (w : World) : Calls Tryz.prog 115 #[.int .i64 s] w fun e w' => e = .returned (.int .i64 (decN s)) ∧ Later w w' := by
 rcases (show s = 0 ∨ s = 1 ∨ s = 2 ∨ s = 3 ∨ s = 4 by omega) with rfl | rfl | rfl | rfl | rfl
 all_goals
  go_enter Tryz.func115, Tryz.ntmps115
  go_wp2
  go_ret
  exact ⟨rfl, qla⟩
theorem w_readFirstAt (s t A B tn a sz I : Int) (kZ kS kF kG kN b off cap : Nat) {w : World} (h : SegAt w kS kF kG kN s A B tn b off cap) (hZ : w.heap[kZ]? = some (.cells #[.int .i64 sz] 3 (0, 0)))
 (s1 : 0 ≤ s) (s2 : s ≤ 4) (z1 : 0 ≤ sz) (z2 : sz ≤ 100000) (a1 : 1000 ≤ A) (a2 : A + sz ≤ 10000) (f1 : -30 ≤ tn) (f2 : tn ≤ 30) (hat : ∀ i, 0 ≤ i → i < sz → atF (a + i) = ⟨A + i, tn⟩)
 (hs : IsSeg s a (a + sz)) (hI : IsCut s t a (a + sz) (a + I)) :
 Calls Tryz.prog 118 #[.int .i64 t, .pointer (some ⟨kZ, 0, none⟩), .pointer (some ⟨kS, 0, none⟩), .pointer (some ⟨kF, 0, none⟩)] w fun e w' => e = .returned (.int .i64 I) ∧ Later w w' := by
 refine (w_readFirst s t A B tn a sz kZ kS kF kG kN b off cap h hZ s1 s2 z1 z2 a1 a2 f1 f2 hat).mono ?_
 rintro e w1 ⟨J, rfl, j1, j2, hJ, hL⟩
 have := cut_unique (by omega) hs hJ hI
 exact ⟨by rw [show J = I by omega], hL⟩
theorem cut_prev {s a b h : Int} (h5 : s ≠ 5) (hs : IsSeg s a b) (h1 : a < h) (h2 : h ≤ b) : IsCut s (P s (h - 1)) a b (h - 1) := by
 refine ⟨by omega, by omega, .inr ?_, ?_⟩
 · unfold reach; split <;> omega
 · by_cases he : h - 1 = a
   · exact .inl he
   · right
     have hl := P_lt h5 hs (i := h - 1 - 1) (j := h - 1) (by omega) (by omega) (by omega)
     unfold lessP at hl
     unfold reach
     split at hl
     · rw [if_pos ‹_›]; omega
     · rw [if_neg ‹_›]; omega
theorem w_tryF (s t n : Int) (o : Option Int) (d f : Int) (kS kT kL kB : Nat) (w : World) (s1 : 0 ≤ s) (s2 : s ≤ 4) (n0 : 0 ≤ n) (n1 : n < 9000 * decN s) (t1 : -4000000 ≤ t) (t2 : t ≤ 4000000)
 (hS : w.heap[kS]? = some (.cells #[.int .i64 s] 2 (0, 0))) (hT : w.heap[kT]? = some (.cells #[.int .i64 t] 2 (0, 0))) (hB : BestAt w kL kB s t o) (hb : ∀ b, o = some b → 0 ≤ b ∧ b < 9000 * decN s) (hne : kL ≠ kB) (hF : atF n = ⟨d, f⟩) :
 Calls Tryz.prog 113 #[.agg #[.int .i64 d, .int .i64 f], .pointer (some ⟨kS, 0, none⟩), .pointer (some ⟨kT, 0, none⟩), .pointer (some ⟨kL, 0, none⟩), .pointer (some ⟨kB, 0, none⟩)] w fun e w' => e = .returned (.tuple #[]) ∧ BestAt w' kL kB s t (upd s t o n) ∧ Ex (Two kL kB) w w' := by
 have h := w_try s t n o kS kT kL kB w s1 s2 n0 n1 t1 t2 hS hT hB hb hne
 rw [hF] at h
 exact h
theorem InvO.bd {s t x : Int} {o : Option Int} (h : InvO s t x o) (hx : x ≤ 9000 * decN s) : ∀ b, o = some b → 0 ≤ b ∧ b < 9000 * decN s := by
 intro b hb
 subst hb
 have h1 := h.1
 have h2 := h.2.1
 exact ⟨h1, by omega⟩
theorem upd_bd {s t n N : Int} {o : Option Int} (ho : ∀ b, o = some b → 0 ≤ b ∧ b < N) (n0 : 0 ≤ n) (n1 : n < N) : ∀ b, upd s t o n = some b → 0 ≤ b ∧ b < N := by
 intro b hb
 obtain ⟨x, hx, _, x2, _⟩ := upd_some s t o n
 rw [hx] at hb
 cases hb
 rcases x2 with rfl | x2
 · exact ⟨n0, n1⟩
 · exact ho _ x2
set_option maxHeartbeats 8000000 in
theorem w_readAt (s t : Int) (w : World) (s1 : 0 ≤ s) (s2 : s ≤ 4) (t1 : -4000000 ≤ t) (t2 : t ≤ 4000000) :
 Calls Tryz.prog 74 #[.int .i64 s, .int .i64 t] w fun e w' => e = .returned (.agg #[.int .i64 (readF s t).d, .int .i64 (readF s t).t]) ∧ Later w w' := by
 have hdn := decN_bd s
 obtain ⟨dn1, dn2⟩ := hdn
 have hsn := sgN_bd s
 obtain ⟨sn1, sn2⟩ := hsn
 go_enter Tryz.func74, Tryz.ntmps74
 go_wp2_with fail
 refine (w_decadesOf s s1 s2 _).mono ?_
 rintro e w1 ⟨rfl, hL1⟩
 obtain ⟨K0, K1, K2, K3, K4⟩ := kept5 hL1
 have hz1 := hL1.size
 simp only [World.size_alloc] at hz1
 have HLw1 := Lib.hid (show Later w w1 from qla)
 have HK0 := Lib.hid K0
 have HK1 := Lib.hid K1
 have HK2 := Lib.hid K2
 have HB1 := Lib.hid (show BestAt w1 (w.heap.size + 1 + 1 + 1 + 1) (w.heap.size + 1 + 1 + 1) s t none from ⟨K4, K3⟩)
 clear K0 K1 K2 K3 K4 hL1
 go_wp2
 go_loopw [19] (fun x wr => ∃ X : Int, x = .int .i64 X ∧ 0 ≤ X ∧ X ≤ decN s ∧ Ex (Two (w.heap.size + 1 + 1 + 1 + 1) (w.heap.size + 1 + 1 + 1)) w1 wr ∧ ∃ o, Hid (InvO s t (9000 * X) o) ∧ Hid (BestAt wr (w.heap.size + 1 + 1 + 1 + 1) (w.heap.size + 1 + 1 + 1) s t o)) (fun x _ => (decN s - intOf x).toNat)
 case atStart => exact ⟨0, rfl, by omega, by omega, Ex.refl _ _, none, rfl, HB1.out⟩
 case round =>
  obtain ⟨X, rfl, x0, x1, hX1, o, HI, HB⟩ := hrel
  have HX1 := Lib.hid hX1
  have hzr := hX1.size
  by_cases hx : X < decN s
  · have KS := hX1.keep HK0.out (by rintro (h | h) <;> omega)
    obtain ⟨c0, f0, z0⟩ := blk_at KS
    clear hX1 KS
    go_wp2_with fail
    refine (w_segments s _).mono ?_
    rintro e w2 ⟨kq, kf, rfl, hSg, hq, hkf, hL2⟩
    have hz2 := hL2.size
    simp only [World.size_alloc] at hz2 hq hkf
    obtain ⟨kN, hkN⟩ : ∃ x, wr.heap.size = x := ⟨_, rfl⟩
    have HKN := Lib.hid (show w2.heap[kN]? = some (.cells #[.int .i64 X] 2 (0, 0)) from hkN ▸ hL2.keep (heap_alloc_new wr (.cells #[.int .i64 X] 2)))
    have HX2 := Lib.hid (HX1.out.later (((Later.refl _).alloc _).trans hL2))
    have HLw2 := Lib.hid (Later.ex HLw1.out HX2.out (fun j h => by rcases h with h | h <;> omega))
    have HB2 := Lib.hid (HB.out.later (((Later.refl _).alloc _).trans hL2))
    have HSg := Lib.hid hSg
    have HKr := Lib.hid hkf
    clear hSg hkf hL2 c0 f0 z0
    go_wp2
    go_loopw [25] (fun y wy => ∃ Y : Nat, y = .int .i64 (Y : Int) ∧ Y ≤ sgN s ∧ Ex (Two (w.heap.size + 1 + 1 + 1 + 1) (w.heap.size + 1 + 1 + 1)) w2 wy ∧ ∃ o, Hid (InvO s t (9000 * X + sgP s Y) o) ∧ Hid (BestAt wy (w.heap.size + 1 + 1 + 1 + 1) (w.heap.size + 1 + 1 + 1) s t o)) (fun y _ => sgN s - (intOf y).toNat)
    case atStart => exact ⟨0, rfl, by omega, Ex.refl _ _, o, by rw [show sgP s 0 = 0 from rfl, Int.add_zero]; exact HI.out, HB2.out⟩
    case round =>
     obtain ⟨Y, rfl, y1, hXy, o, HI, HB⟩ := hrel
     by_cases hy : Y < sgN s
     · have hst := sgP_step hy
       have hSeg := seg_of hy x0 hx
       have hAt := fun i => at_of (s := s) (X := X) (i := i) hy
       have hkr := HKr.out Y hy
       have hc27 := (HSg.out.ex hXy (by rintro (h | h) <;> omega) (fun y hy => by have := HKr.out y hy; rintro (h | h) <;> omega)).2 Y hy
       obtain ⟨kr, hkrE⟩ : ∃ x, kf Y = x := ⟨_, rfl⟩
       rw [hkrE] at hc27 hkr
       obtain ⟨c27, hrow⟩ := hc27
       clear hkrE
       have KN := hXy.keep HKN.out (by rintro (h | h) <;> omega)
       have hXt := HX2.out.trans hXy
       have KS := hXt.keep HK0.out (by rintro (h | h) <;> omega)
       have KT := hXt.keep HK1.out (by rintro (h | h) <;> omega)
       have hzy := hXy.size
       have HXy := Lib.hid hXy
       obtain ⟨A, hA⟩ : ∃ x, 1000 + sgP s Y = x := ⟨_, rfl⟩
       obtain ⟨B, hB⟩ : ∃ x, 999 + sgP s (Y + 1) = x := ⟨_, rfl⟩
       obtain ⟨sz, hsz⟩ : ∃ x, B - A + 1 = x := ⟨_, rfl⟩
       obtain ⟨a, ha⟩ : ∃ x, 9000 * X + sgP s Y = x := ⟨_, rfl⟩
       have hb : 9000 * X + sgP s (Y + 1) = a + sz := by omega
       have hsz2 : sgP s (Y + 1) - sgP s Y = sz := by omega
       rw [hsz2] at hAt
       rw [ha, hA] at hAt
       rw [ha, hb] at hSeg
       rw [hA, hB] at hrow
       have HIa := Lib.hid (ha ▸ HI.out)
       have HEnd := Lib.hid hb
       have HSeg := Lib.hid hSeg
       have HAt := Lib.hid hAt
       have a1 : 1000 ≤ A := by omega
       have a2 : B ≤ 9999 := by omega
       have a3 : A ≤ B := by omega
       have z1 : 1 ≤ sz := by omega
       have aw1 : a + sz ≤ 9000 * decN s := hSeg.2.2.1
       have aw0 : 0 ≤ a := hSeg.1
       clear hst hSeg hA hB ha hb hsz2 hAt hXy hXt HI
       go_wp2_with fail
       refine wp_name ?_
       intro z hz
       have hLz : Later wr z := by rw [hz]; exact ((Later.refl _).alloc _).alloc _
       obtain ⟨kG, hkG⟩ : ∃ x, wr.heap.size = x := ⟨_, rfl⟩
       obtain ⟨kF, hkF⟩ : ∃ x, kG + 1 = x := ⟨_, rfl⟩
       rw [hkG] at hz ⊢
       rw [hkF]
       have KG : z.heap[kG]? = some (.cells #[.slice (some ⟨kr, 0, none⟩) 2 2] 24 (0, 0)) := by rw [hz]; exact heap_alloc_old _ _ (heap_alloc_new' _ _ hkG.symm)
       have KF : z.heap[kF]? = some (.cells #[.func (.func 117) #[] #[.pointer (some ⟨kG, 0, none⟩), .pointer (some ⟨kN, 0, none⟩)]] 142 (0, 0)) := by rw [hz]; exact heap_alloc_new' _ _ (by simp; omega)
       have hSegz : SegAt z w.heap.size kF kG kN s A B X kr 0 2 := ⟨hLz.keep KS, KF, KG, hrow.later hLz, hLz.keep KN⟩
       have HSg0 := Lib.hid hSegz
       have HKTz := Lib.hid (hLz.keep KT)
       have HBz := Lib.hid (HB.out.later hLz)
       have HXz := Lib.hid (HXy.out.later hLz)
       have HRw := Lib.hid (hrow.later hLz)
       have hzz := hLz.size
       rw [hkG] at hzz
       have g1 : wr.heap.size ≤ kG := by omega
       have g2 : wr.heap.size < kF := by omega
       have g3 := (Array.getElem?_eq_some_iff.1 KG).1
       have g4 := (Array.getElem?_eq_some_iff.1 KF).1
       clear hz hkF hkG KS KT KN c27 hrow
       refine region_slots 67 [30, 31, 32, 33, 34, 35, 36, 37, 12] (fun g ac wc => sl ac 10 = .pointer (some ⟨kG, 0, none⟩) ∧
        (g 0 = true → sl ac 30 = .slice (some ⟨kr, 0, none⟩) 2 2) ∧
        (g 1 = true → sl ac 31 = .pointer (some ⟨kr, 1, none⟩)) ∧
        (g 2 = true → sl ac 32 = .int .i64 B) ∧
        (g 3 = true → sl ac 33 = .slice (some ⟨kr, 0, none⟩) 2 2) ∧
        (g 4 = true → sl ac 34 = .pointer (some ⟨kr, 0, none⟩)) ∧
        (g 5 = true → sl ac 35 = .int .i64 A) ∧
        (g 6 = true → sl ac 36 = .int .i64 (B - A)) ∧
        (g 7 = true → sl ac 37 = .int .i64 sz) ∧
        Later z wc ∧
        (g 8 = true → ∃ k, sl ac 12 = .pointer (some ⟨k, 0, none⟩) ∧ z.heap.size ≤ k ∧ ∃ p8_0, wc.heap[k]? = some (.cells #[p8_0] 3 (0, 0)) ∧ (g 9 = true → p8_0 = .int .i64 sz)) ∧
        (g 9 = true → g 8 = true) ∧
        z.heap.size ≤ wc.heap.size ∧
        wc.heap[kG]? = some (.cells #[.slice (some ⟨kr, 0, none⟩) 2 2] 24 (0, 0))) (by kernel_rfl) (by kernel_rfl) rfl (by kernel_rfl) ?_ ?_ ?_
       · exact ⟨rfl, nofun, nofun, nofun, nofun, nofun, nofun, nofun, nofun, (Later.refl _).drew, nofun, nofun, Nat.le_refl _, KG⟩
       · intro g ac wc hg ha hI
         obtain ⟨x10, i0, i1, i2, i3, i4, i5, i6, i7, hL, i8, -, hS, BG⟩ := hI
         obtain ⟨k8, e8, b8, p8_0, K8, g8⟩ := i8 (hg 8 (by simp))
         have g8 := g8 (hg 9 (by simp))
         rw [g8] at K8
         have a0 := i0 (hg 0 (by simp))
         have a1 := i1 (hg 1 (by simp))
         have a2 := i2 (hg 2 (by simp))
         have a3 := i3 (hg 3 (by simp))
         have a4 := i4 (hg 4 (by simp))
         have a5 := i5 (hg 5 (by simp))
         have a6 := i6 (hg 6 (by simp))
         have a7 := i7 (hg 7 (by simp))
         simp only [putAll, a0, a1, a2, a3, a4, a5, a6, a7, e8] at ha
         simp only [Act.put, List.setIfInBounds_toArray, List.set_cons_succ, List.set_cons_zero] at ha
         rw [ha]
         clear x10 i0 i1 i2 i3 i4 i5 i6 i7 i8 a0 a1 a2 a3 a4 a5 a6 a7 e8 g8 hg ha
         have HZ := Lib.hid (show wc.heap[k8]? = some (.cells #[.int .i64 sz] 3 (0, 0)) from K8)
         have HSgc := Lib.hid (HSg0.out.later hL)
         have HKTc := Lib.hid (hL.keep HKTz.out)
         have HBc := Lib.hid (HBz.out.later hL)
         have HXc := Lib.hid (HXz.out.later hL)
         have hzc := hL.size
         clear K8 BG hL hS HSg0 HKTz HBz HXz HRw hLz
         obtain ⟨cT, fT, zT⟩ := blk_at HKTc.out
         go_wp2_with fail
         refine (w_readFirst s t A B X a sz k8 _ kF kG kN kr 0 2 HSgc.out HZ.out s1 s2 (by omega) (by omega) a1 (by omega) (by omega) (by omega) HAt.out).mono ?_
         rintro e w4 ⟨I, rfl, i1, i2, hc, hL4⟩
         have HInv := Lib.hid (tries_inv (by omega) HSeg.out (by omega) hc HIa.out)
         have HSg4 := Lib.hid (HSgc.out.later hL4)
         have HZ4 := Lib.hid (hL4.keep HZ.out)
         have HKT4 := Lib.hid (hL4.keep HKTc.out)
         have HB4 := Lib.hid (HBc.out.later hL4)
         have HX4 := Lib.hid (HXc.out.later hL4)
         have hz4 := hL4.size
         clear HSgc HZ HKTc HBc HXc cT fT zT hc hL4
         obtain ⟨cZ, fZ, zZ⟩ := blk_at HZ4.out
         by_cases hI : I < sz
         · obtain ⟨cF, fF, zF⟩ := blk_at HSg4.out.fg
           go_wp2_with fail
           refine (w_readFig I A B X kG kN kr 0 2 HSg4.out.rw (by omega) (by omega) (by omega) (by omega)).mono ?_
           rintro e w5 ⟨rfl, hL5⟩
           have HSg5 := Lib.hid (HSg4.out.later hL5)
           have HZ5 := Lib.hid (hL5.keep HZ4.out)
           have HKT5 := Lib.hid (hL5.keep HKT4.out)
           have HB5 := Lib.hid (HB4.out.later hL5)
           have HX5 := Lib.hid (HX4.out.later hL5)
           have hz5 := hL5.size
           clear HSg4 HZ4 HKT4 HB4 HX4 cZ fZ zZ cF fF zF hL5
           go_wp2_with fail
           refine (w_tryF s t (a + I) o (A + I) X w.heap.size (w.heap.size + 1) (w.heap.size + 1 + 1 + 1 + 1) (w.heap.size + 1 + 1 + 1) _ s1 s2 (by omega) (by omega) t1 t2 HSg5.out.sc HKT5.out HB5.out (HIa.out.bd (by omega)) (by omega) (HAt.out I i1 hI)).mono ?_
           rintro e w6 ⟨rfl, hB6, hX56⟩
           have hX6 := HX5.out.trans hX56
           have HX26 := Lib.hid hX6
           have hz6 := hX56.size
           have HSg := Lib.hid (HSg5.out.ex hX56 (by rintro (h | h) <;> omega) (by rintro (h | h) <;> omega) (by rintro (h | h) <;> omega) (by rintro (h | h) <;> omega) (by rintro (h | h) <;> omega))
           have KZ6 := hX56.keep HZ5.out (by rintro (h | h) <;> omega)
           have KT6 := hX56.keep HKT5.out (by rintro (h | h) <;> omega)
           clear HSg5 HZ5 HKT5 HB5 HX5 hX56
           by_cases h0 : 0 < I
           · have HTr := Lib.hid (show tries s t a (a + sz) (a + I) o = upd s t (upd s t o (a + I)) (a + I - 1) from by unfold tries; rw [if_pos (by omega), if_pos (by omega)])
             obtain ⟨o1, ho1⟩ : ∃ x, (upd s t o (a + I)) = x := ⟨_, rfl⟩
             rw [ho1] at hB6
             have HBo := Lib.hid hB6
             have HOb := Lib.hid (ho1 ▸ (upd_bd (N := 9000 * decN s) (HIa.out.bd (by omega)) (by omega) (by omega) : ∀ b, upd s t o (a + I) = some b → _))
             have HO1 := Lib.hid ho1
             have HA1 := Lib.hid (show atF (a + I - 1) = ⟨A + (I - 1), X⟩ from by
              have := HAt.out (I - 1) (by omega) (by omega)
              rwa [show a + (I - 1) = a + I - 1 by omega] at this)
             obtain ⟨PP, hPP⟩ : ∃ x, P s (a + I - 1) = x := ⟨_, rfl⟩
             have HPP := Lib.hid (show ptF s ⟨A + (I - 1), X⟩ = PP from by rw [← HA1.out]; exact hPP)
             have HC2 := Lib.hid (show IsCut s PP a (a + sz) (a + (I - 1)) from by
              have := cut_prev (s := s) (a := a) (b := a + sz) (h := a + I) (by omega) HSeg.out (by omega) (by omega)
              rw [show a + I - 1 = a + (I - 1) by omega] at this hPP
              rw [← hPP]
              exact this)
             have HKs := Lib.hid HSg.out.sc
             have HKt := Lib.hid KT6
             have HKz := Lib.hid KZ6
             have hL0 := Later.ex HLw2.out hX6 (fun j h => by rcases h with h | h <;> omega)
             have hSB := hL0.size
             have KS := HSg.out.sc
             have KF := HSg.out.fg
             have HX6 := Lib.hid hX6
             clear hB6 ho1 hPP KT6 KZ6 hX6
             go_wp2_with fail
             refine region_slots 67 [52, 53, 54, 55, 56, 57, 58, 59, 60, 61, 62, 63] (fun g ac wc => sl ac 7 = .func (.func 113) #[] #[.pointer (some ⟨w.heap.size, 0, none⟩), .pointer (some ⟨w.heap.size + 1, 0, none⟩), .pointer (some ⟨w.heap.size + 1 + 1 + 1 + 1, 0, none⟩), .pointer (some ⟨w.heap.size + 1 + 1 + 1, 0, none⟩)] ∧
              sl ac 11 = .pointer (some ⟨kF, 0, none⟩) ∧
              sl ac 13 = .func (.func 118) #[] #[.pointer (some ⟨k8, 0, none⟩), .pointer (some ⟨w.heap.size, 0, none⟩), .pointer (some ⟨kF, 0, none⟩)] ∧
              sl ac 2 = .pointer (some ⟨w.heap.size, 0, none⟩) ∧
              sl ac 14 = .int .i64 I ∧
              (g 0 = true → sl ac 52 = .func (.func 113) #[] #[.pointer (some ⟨w.heap.size, 0, none⟩), .pointer (some ⟨w.heap.size + 1, 0, none⟩), .pointer (some ⟨w.heap.size + 1 + 1 + 1 + 1, 0, none⟩), .pointer (some ⟨w.heap.size + 1 + 1 + 1, 0, none⟩)]) ∧
              (g 1 = true → sl ac 53 = .func (.func 117) #[] #[.pointer (some ⟨kG, 0, none⟩), .pointer (some ⟨kN, 0, none⟩)]) ∧
              (g 2 = true → sl ac 54 = .func (.func 118) #[] #[.pointer (some ⟨k8, 0, none⟩), .pointer (some ⟨w.heap.size, 0, none⟩), .pointer (some ⟨kF, 0, none⟩)]) ∧
              (g 3 = true → sl ac 55 = .int .i64 s) ∧
              (g 4 = true → sl ac 56 = .func (.func 117) #[] #[.pointer (some ⟨kG, 0, none⟩), .pointer (some ⟨kN, 0, none⟩)]) ∧
              (g 5 = true → sl ac 57 = .int .i64 I) ∧
              (g 6 = true → sl ac 58 = .int .i64 (I - 1)) ∧
              (g 7 = true → sl ac 59 = .agg #[.int .i64 (A + (I - 1)), .int .i64 X]) ∧
              (g 8 = true → sl ac 60 = .int .i64 PP) ∧
              (g 9 = true → sl ac 61 = .int .i64 (I - 1)) ∧
              (g 10 = true → sl ac 62 = .agg #[.int .i64 (A + (I - 1)), .int .i64 X]) ∧
              (g 11 = true → sl ac 63 = .tuple #[]) ∧
              Later w wc ∧
              w6.heap.size ≤ wc.heap.size ∧
              wc.heap[kF]? = some (.cells #[.func (.func 117) #[] #[.pointer (some ⟨kG, 0, none⟩), .pointer (some ⟨kN, 0, none⟩)]] 142 (0, 0)) ∧
              wc.heap[w.heap.size]? = some (.cells #[.int .i64 s] 2 (0, 0)) ∧
              (g 11 = true → g 10 = true) ∧
              (g 10 = true → g 9 = true) ∧
              (g 9 = true → g 8 = true) ∧
              (g 8 = true → g 7 = true) ∧
              (g 11 = false → Later w6 wc) ∧
              (g 11 = true → Ex (Two (w.heap.size + 1 + 1 + 1 + 1) (w.heap.size + 1 + 1 + 1)) w6 wc ∧ BestAt wc (w.heap.size + 1 + 1 + 1 + 1) (w.heap.size + 1 + 1 + 1) s t (upd s t o1 (a + I - 1)))) (by kernel_rfl) (by kernel_rfl) rfl (by kernel_rfl) ?_ ?_ ?_
             · exact ⟨rfl, rfl, rfl, rfl, rfl, nofun, nofun, nofun, nofun, nofun, nofun, nofun, nofun, nofun, nofun, nofun, nofun, hL0.drew, Nat.le_refl _, KF, KS, nofun, nofun, nofun, nofun, fun _ => (Later.refl _).drew, nofun⟩
             · intro g ac wc hg ha hI
               obtain ⟨x7, x11, x13, x2, x14, i0, i1, i2, i3, i4, i5, i6, i7, i8, i9, i10, i11, hL, hS, BF, BS, -, -, -, -, -, E1⟩ := hI
               replace E1 := E1 (hg 11 (by simp))
               have a0 := i0 (hg 0 (by simp))
               have a1 := i1 (hg 1 (by simp))
               have a2 := i2 (hg 2 (by simp))
               have a3 := i3 (hg 3 (by simp))
               have a4 := i4 (hg 4 (by simp))
               have a5 := i5 (hg 5 (by simp))
               have a6 := i6 (hg 6 (by simp))
               have a7 := i7 (hg 7 (by simp))
               have a8 := i8 (hg 8 (by simp))
               have a9 := i9 (hg 9 (by simp))
               have a10 := i10 (hg 10 (by simp))
               have a11 := i11 (hg 11 (by simp))
               simp only [putAll, a0, a1, a2, a3, a4, a5, a6, a7, a8, a9, a10, a11] at ha
               simp only [Act.put, List.setIfInBounds_toArray, List.set_cons_succ, List.set_cons_zero] at ha
               rw [ha]
               clear x7 x11 x13 x2 x14 i0 i1 i2 i3 i4 i5 i6 i7 i8 i9 i10 i11 a0 a1 a2 a3 a4 a5 a6 a7 a8 a9 a10 a11 hg ha
               have HE := Lib.hid E1
               clear hL hS BF BS E1
               go_wp2
               go_roundw
               case rel => exact ⟨Y + 1, by go_num, by omega, HX26.out.trans HE.out.1, upd s t o1 (a + I - 1), by rw [HEnd.out, ← HO1.out]; exact HTr.out ▸ HInv.out, HE.out.2⟩
               case measure => simp [intOf]; omega
             · refine .cons ?_ (.cons ?_ (.cons ?_ (.cons ?_ (.cons ?_ (.cons ?_ (.cons ?_ (.cons ?_ (.cons ?_ (.cons ?_ (.cons ?_ (.cons ?_ .nil)))))))))))
               · refine qst fun g ac wc hn hk hr HI K' hK => ?_
                 obtain ⟨x7, x11, x13, x2, x14, -, -, -, -, -, -, -, -, -, -, -, -, hL, hS, BF, BS, d11_10, d10_9, d9_8, d8_7, E0, E1⟩ := HI.out
                 simp [Region.binds] at hr
                 go_simp
                 obtain ⟨-, -, -, -, -, i0, i1, i2, i3, i4, i5, i6, i7, i8, i9, i10, i11, -⟩ := HI.out
                 exact hK.out _ _ ⟨qB x7, qB x11, qB x13, qB x2, qB x14, qP, qF i1, qF i2, qF i3, qF i4, qF i5, qF i6, qF i7, qF i8, qF i9, qF i10, qF i11, hL, hS, BF, BS, d11_10, d10_9, d9_8, d8_7, E0, E1⟩
               · refine qst fun g ac wc hn hk hr HI K' hK => ?_
                 obtain ⟨x7, x11, x13, x2, x14, -, -, -, -, -, -, -, -, -, -, -, -, hL, hS, BF, BS, d11_10, d10_9, d9_8, d8_7, E0, E1⟩ := HI.out
                 simp [Region.binds] at hr
                 obtain ⟨c0, f0, z0⟩ := blk_at BF
                 go_simp
                 obtain ⟨-, -, -, -, -, i0, i1, i2, i3, i4, i5, i6, i7, i8, i9, i10, i11, -⟩ := HI.out
                 exact hK.out _ _ ⟨qB x7, qB x11, qB x13, qB x2, qB x14, qF i0, qP, qF i2, qF i3, qF i4, qF i5, qF i6, qF i7, qF i8, qF i9, qF i10, qF i11, hL, hS, BF, BS, d11_10, d10_9, d9_8, d8_7, E0, E1⟩
               · refine qst fun g ac wc hn hk hr HI K' hK => ?_
                 obtain ⟨x7, x11, x13, x2, x14, -, -, -, -, -, -, -, -, -, -, -, -, hL, hS, BF, BS, d11_10, d10_9, d9_8, d8_7, E0, E1⟩ := HI.out
                 simp [Region.binds] at hr
                 go_simp
                 obtain ⟨-, -, -, -, -, i0, i1, i2, i3, i4, i5, i6, i7, i8, i9, i10, i11, -⟩ := HI.out
                 exact hK.out _ _ ⟨qB x7, qB x11, qB x13, qB x2, qB x14, qF i0, qF i1, qP, qF i3, qF i4, qF i5, qF i6, qF i7, qF i8, qF i9, qF i10, qF i11, hL, hS, BF, BS, d11_10, d10_9, d9_8, d8_7, E0, E1⟩
               · refine qst fun g ac wc hn hk hr HI K' hK => ?_
                 obtain ⟨x7, x11, x13, x2, x14, -, -, -, -, -, -, -, -, -, -, -, -, hL, hS, BF, BS, d11_10, d10_9, d9_8, d8_7, E0, E1⟩ := HI.out
                 simp [Region.binds] at hr
                 obtain ⟨c0, f0, z0⟩ := blk_at BS
                 go_simp
                 obtain ⟨-, -, -, -, -, i0, i1, i2, i3, i4, i5, i6, i7, i8, i9, i10, i11, -⟩ := HI.out
                 exact hK.out _ _ ⟨qB x7, qB x11, qB x13, qB x2, qB x14, qF i0, qF i1, qF i2, qP, qF i4, qF i5, qF i6, qF i7, qF i8, qF i9, qF i10, qF i11, hL, hS, BF, BS, d11_10, d10_9, d9_8, d8_7, E0, E1⟩
               · refine qst fun g ac wc hn hk hr HI K' hK => ?_
                 obtain ⟨x7, x11, x13, x2, x14, -, -, -, -, -, -, -, -, -, -, -, -, hL, hS, BF, BS, d11_10, d10_9, d9_8, d8_7, E0, E1⟩ := HI.out
                 simp [Region.binds] at hr
                 obtain ⟨c0, f0, z0⟩ := blk_at BF
                 go_simp
                 obtain ⟨-, -, -, -, -, i0, i1, i2, i3, i4, i5, i6, i7, i8, i9, i10, i11, -⟩ := HI.out
                 exact hK.out _ _ ⟨qB x7, qB x11, qB x13, qB x2, qB x14, qF i0, qF i1, qF i2, qF i3, qP, qF i5, qF i6, qF i7, qF i8, qF i9, qF i10, qF i11, hL, hS, BF, BS, d11_10, d10_9, d9_8, d8_7, E0, E1⟩
               · refine qst fun g ac wc hn hk hr HI K' hK => ?_
                 obtain ⟨x7, x11, x13, x2, x14, -, -, -, -, -, -, -, -, -, -, -, -, hL, hS, BF, BS, d11_10, d10_9, d9_8, d8_7, E0, E1⟩ := HI.out
                 simp [Region.binds] at hr
                 go_simp
                 obtain ⟨-, -, -, -, -, i0, i1, i2, i3, i4, i5, i6, i7, i8, i9, i10, i11, -⟩ := HI.out
                 exact hK.out _ _ ⟨qB x7, qB x11, qB x13, qB x2, qB x14, qF i0, qF i1, qF i2, qF i3, qF i4, qP, qF i6, qF i7, qF i8, qF i9, qF i10, qF i11, hL, hS, BF, BS, d11_10, d10_9, d9_8, d8_7, E0, E1⟩
               · refine qst fun g ac wc hn hk hr HI K' hK => ?_
                 obtain ⟨x7, x11, x13, x2, x14, -, -, -, -, -, i5, -, -, -, -, -, -, hL, hS, BF, BS, d11_10, d10_9, d9_8, d8_7, E0, E1⟩ := HI.out
                 simp [Region.binds] at hr
                 have y5 := i5 (by simp [hr])
                 clear i5
                 have wD : IntKind.i64.wrap (I - 1) = I - 1 := wrap_same (by omega) (by omega)
                 go_simp
                 obtain ⟨-, -, -, -, -, i0, i1, i2, i3, i4, i5, i6, i7, i8, i9, i10, i11, -⟩ := HI.out
                 exact hK.out _ _ ⟨qB x7, qB x11, qB x13, qB x2, qB x14, qF i0, qF i1, qF i2, qF i3, qF i4, qF i5, qP, qF i7, qF i8, qF i9, qF i10, qF i11, hL, hS, BF, BS, d11_10, d10_9, d9_8, d8_7, E0, E1⟩
               · refine qst fun g ac wc hn hk hr HI K' hK => ?_
                 obtain ⟨x7, x11, x13, x2, x14, -, -, -, -, i4, -, i6, -, -, -, -, -, hL, hS, BF, BS, d11_10, d10_9, d9_8, d8_7, E0, E1⟩ := HI.out
                 simp [Region.binds] at hr
                 have y4 := i4 (by simp [hr])
                 have y6 := i6 (by simp [hr])
                 clear i4 i6
                 have hst : g 11 = false := by
                  cases hq : g 11 with
                  | false => rfl
                  | true =>
                   have hh := (d8_7 (d9_8 (d10_9 (d11_10 hq))))
                   rw [hk] at hh
                   cases hh
                 have hold := E0 hst
                 go_simp
                 refine (w_readFig (I - 1) A B X kG kN kr 0 2 (HSg.out.rw.later hold) (by omega) (by omega) (by omega) (by omega)).mono ?_
                 rintro e w4 ⟨rfl, hL4⟩
                 obtain ⟨-, -, -, -, -, i0, i1, i2, i3, i4, i5, i6, i7, i8, i9, i10, i11, -⟩ := HI.out
                 exact hK.out _ _ ⟨qB x7, qB x11, qB x13, qB x2, qB x14, qF i0, qF i1, qF i2, qF i3, qF i4, qF i5, qF i6, qP, qF i8, qF i9, qF i10, qF i11, hL.trans hL4, Nat.le_trans hS hL4.size, hL4.keep BF, hL4.keep BS, d11_10, d10_9, d9_8, (fun _ => rfl), (fun h => (E0 h).trans (hL4)), (fun h => ⟨(E1 h).1.later (hL4), (E1 h).2.later (hL4)⟩)⟩
               · refine qst fun g ac wc hn hk hr HI K' hK => ?_
                 obtain ⟨x7, x11, x13, x2, x14, -, -, -, i3, -, -, -, i7, -, -, -, -, hL, hS, BF, BS, d11_10, d10_9, d9_8, d8_7, E0, E1⟩ := HI.out
                 simp [Region.binds] at hr
                 have y3 := i3 (by simp [hr])
                 have y7 := i7 (by simp [hr])
                 clear i3 i7
                 have hst : g 11 = false := by
                  cases hq : g 11 with
                  | false => rfl
                  | true =>
                   have hh := (d9_8 (d10_9 (d11_10 hq)))
                   rw [hk] at hh
                   cases hh
                 have hold := E0 hst
                 go_simp
                 refine (w_implPoint s _ _ s1 s2 (by omega) (by omega) (by omega) (by omega) _).mono ?_
                 rintro e w4 ⟨rfl, hL4⟩
                 rw [HPP.out]
                 obtain ⟨-, -, -, -, -, i0, i1, i2, i3, i4, i5, i6, i7, i8, i9, i10, i11, -⟩ := HI.out
                 exact hK.out _ _ ⟨qB x7, qB x11, qB x13, qB x2, qB x14, qF i0, qF i1, qF i2, qF i3, qF i4, qF i5, qF i6, qF i7, qP, qF i9, qF i10, qF i11, hL.trans hL4, Nat.le_trans hS hL4.size, hL4.keep BF, hL4.keep BS, d11_10, d10_9, (fun _ => rfl), (fun _ => by simp [hr]), (fun h => (E0 h).trans (hL4)), (fun h => ⟨(E1 h).1.later (hL4), (E1 h).2.later (hL4)⟩)⟩
               · refine qst fun g ac wc hn hk hr HI K' hK => ?_
                 obtain ⟨x7, x11, x13, x2, x14, -, -, i2, -, -, -, -, -, i8, -, -, -, hL, hS, BF, BS, d11_10, d10_9, d9_8, d8_7, E0, E1⟩ := HI.out
                 simp [Region.binds] at hr
                 have y2 := i2 (by simp [hr])
                 have y8 := i8 (by simp [hr])
                 clear i2 i8
                 have hst : g 11 = false := by
                  cases hq : g 11 with
                  | false => rfl
                  | true =>
                   have hh := (d10_9 (d11_10 hq))
                   rw [hk] at hh
                   cases hh
                 have hold := E0 hst
                 go_simp
                 refine (w_readFirstAt s PP A B X a sz (I - 1) k8 _ kF kG kN kr 0 2 (HSg.out.later hold) (hold.keep HKz.out) s1 s2 (by omega) (by omega) (by omega) (by omega) (by omega) (by omega) HAt.out HSeg.out HC2.out).mono ?_
                 rintro e w4 ⟨rfl, hL4⟩
                 obtain ⟨-, -, -, -, -, i0, i1, i2, i3, i4, i5, i6, i7, i8, i9, i10, i11, -⟩ := HI.out
                 exact hK.out _ _ ⟨qB x7, qB x11, qB x13, qB x2, qB x14, qF i0, qF i1, qF i2, qF i3, qF i4, qF i5, qF i6, qF i7, qF i8, qP, qF i10, qF i11, hL.trans hL4, Nat.le_trans hS hL4.size, hL4.keep BF, hL4.keep BS, d11_10, (fun _ => rfl), (fun _ => by simp [hr]), d8_7, (fun h => (E0 h).trans (hL4)), (fun h => ⟨(E1 h).1.later (hL4), (E1 h).2.later (hL4)⟩)⟩
               · refine qst fun g ac wc hn hk hr HI K' hK => ?_
                 obtain ⟨x7, x11, x13, x2, x14, -, i1, -, -, -, -, -, -, -, i9, -, -, hL, hS, BF, BS, d11_10, d10_9, d9_8, d8_7, E0, E1⟩ := HI.out
                 simp [Region.binds] at hr
                 have y1 := i1 (by simp [hr])
                 have y9 := i9 (by simp [hr])
                 clear i1 i9
                 have hst : g 11 = false := by
                  cases hq : g 11 with
                  | false => rfl
                  | true =>
                   have hh := (d11_10 hq)
                   rw [hk] at hh
                   cases hh
                 have hold := E0 hst
                 go_simp
                 refine (w_readFig (I - 1) A B X kG kN kr 0 2 (HSg.out.rw.later hold) (by omega) (by omega) (by omega) (by omega)).mono ?_
                 rintro e w4 ⟨rfl, hL4⟩
                 obtain ⟨-, -, -, -, -, i0, i1, i2, i3, i4, i5, i6, i7, i8, i9, i10, i11, -⟩ := HI.out
                 exact hK.out _ _ ⟨qB x7, qB x11, qB x13, qB x2, qB x14, qF i0, qF i1, qF i2, qF i3, qF i4, qF i5, qF i6, qF i7, qF i8, qF i9, qP, qF i11, hL.trans hL4, Nat.le_trans hS hL4.size, hL4.keep BF, hL4.keep BS, (fun _ => rfl), (fun _ => by simp [hr]), d9_8, d8_7, (fun h => (E0 h).trans (hL4)), (fun h => ⟨(E1 h).1.later (hL4), (E1 h).2.later (hL4)⟩)⟩
               · refine qst fun g ac wc hn hk hr HI K' hK => ?_
                 obtain ⟨x7, x11, x13, x2, x14, i0, -, -, -, -, -, -, -, -, -, i10, -, hL, hS, BF, BS, d11_10, d10_9, d9_8, d8_7, E0, E1⟩ := HI.out
                 simp [Region.binds] at hr
                 have y0 := i0 (by simp [hr])
                 have y10 := i10 (by simp [hr])
                 clear i0 i10
                 have hold := E0 hk
                 go_simp
                 refine (w_tryF s t (a + I - 1) o1 (A + (I - 1)) X _ _ _ _ wc s1 s2 (by omega) (by omega) (by omega) (by omega) (hold.keep HKs.out) (hold.keep HKt.out) (HBo.out.later hold) HOb.out (by omega) HA1.out).mono ?_
                 rintro e w4 ⟨rfl, hB4, hX4⟩
                 obtain ⟨-, -, -, -, -, i0, i1, i2, i3, i4, i5, i6, i7, i8, i9, i10, i11, -⟩ := HI.out
                 exact hK.out _ _ ⟨qB x7, qB x11, qB x13, qB x2, qB x14, qF i0, qF i1, qF i2, qF i3, qF i4, qF i5, qF i6, qF i7, qF i8, qF i9, qF i10, qP, (hL.ex hX4 (fun j h => by rcases h with h | h <;> omega)), Nat.le_trans hS hX4.size, hX4.keep BF (by rintro (h | h) <;> omega), hX4.keep BS (by rintro (h | h) <;> omega), (fun _ => by simp [hr]), d10_9, d9_8, d8_7, (fun h => absurd h (by simp)), (fun _ => ⟨(Ex.of hold).trans hX4, hB4⟩)⟩
           · have HTr := Lib.hid (show tries s t a (a + sz) (a + I) o = upd s t o (a + I) from by unfold tries; rw [if_neg (by omega), if_pos (by omega)])
             have HB6 := Lib.hid hB6
             clear hB6 hX6 KZ6 KT6
             go_wp2
             go_roundw
             case rel => exact ⟨Y + 1, by go_num, by omega, HX26.out, upd s t o (a + I), by rw [HEnd.out]; exact HTr.out ▸ HInv.out, HB6.out⟩
             case measure => simp [intOf]; omega
         · have HTr := Lib.hid (show tries s t a (a + sz) (a + I) o = upd s t o (a + I - 1) from by unfold tries; rw [if_pos (by omega), if_neg (by omega)])
           obtain ⟨w6, hw6⟩ : ∃ x, w4 = x := ⟨_, rfl⟩
           have hB6 : BestAt w6 (w.heap.size + 1 + 1 + 1 + 1) (w.heap.size + 1 + 1 + 1) s t o := hw6 ▸ HB4.out
           have hX6 : Ex (Two (w.heap.size + 1 + 1 + 1 + 1) (w.heap.size + 1 + 1 + 1)) w2 w6 := hw6 ▸ HX4.out
           have HX26 := Lib.hid hX6
           have HSg := Lib.hid (show SegAt w6 w.heap.size kF kG kN s A B X kr 0 2 from hw6 ▸ HSg4.out)
           have KZ6 := hw6 ▸ HZ4.out
           have KT6 := hw6 ▸ HKT4.out
           rw [hw6] at hz4
           rw [hw6] at cZ fZ zZ
           rw [hw6]
           clear hw6 HSg4 HZ4 HKT4 HB4 HX4
           obtain ⟨o1, ho1⟩ : ∃ x, (o) = x := ⟨_, rfl⟩
           rw [ho1] at hB6
           have HBo := Lib.hid hB6
           have HOb := Lib.hid (ho1 ▸ (HIa.out.bd (by omega) : ∀ b, o = some b → _))
           have HO1 := Lib.hid ho1
           have HA1 := Lib.hid (show atF (a + I - 1) = ⟨A + (I - 1), X⟩ from by
            have := HAt.out (I - 1) (by omega) (by omega)
            rwa [show a + (I - 1) = a + I - 1 by omega] at this)
           obtain ⟨PP, hPP⟩ : ∃ x, P s (a + I - 1) = x := ⟨_, rfl⟩
           have HPP := Lib.hid (show ptF s ⟨A + (I - 1), X⟩ = PP from by rw [← HA1.out]; exact hPP)
           have HC2 := Lib.hid (show IsCut s PP a (a + sz) (a + (I - 1)) from by
            have := cut_prev (s := s) (a := a) (b := a + sz) (h := a + I) (by omega) HSeg.out (by omega) (by omega)
            rw [show a + I - 1 = a + (I - 1) by omega] at this hPP
            rw [← hPP]
            exact this)
           have HKs := Lib.hid HSg.out.sc
           have HKt := Lib.hid KT6
           have HKz := Lib.hid KZ6
           have hL0 := Later.ex HLw2.out hX6 (fun j h => by rcases h with h | h <;> omega)
           have hSB := hL0.size
           have KS := HSg.out.sc
           have KF := HSg.out.fg
           have HX6 := Lib.hid hX6
           clear hB6 ho1 hPP KT6 KZ6 hX6
           go_wp2_with fail
           refine region_slots 67 [52, 53, 54, 55, 56, 57, 58, 59, 60, 61, 62, 63] (fun g ac wc => sl ac 7 = .func (.func 113) #[] #[.pointer (some ⟨w.heap.size, 0, none⟩), .pointer (some ⟨w.heap.size + 1, 0, none⟩), .pointer (some ⟨w.heap.size + 1 + 1 + 1 + 1, 0, none⟩), .pointer (some ⟨w.heap.size + 1 + 1 + 1, 0, none⟩)] ∧
            sl ac 11 = .pointer (some ⟨kF, 0, none⟩) ∧
            sl ac 13 = .func (.func 118) #[] #[.pointer (some ⟨k8, 0, none⟩), .pointer (some ⟨w.heap.size, 0, none⟩), .pointer (some ⟨kF, 0, none⟩)] ∧
            sl ac 2 = .pointer (some ⟨w.heap.size, 0, none⟩) ∧
            sl ac 14 = .int .i64 I ∧
            (g 0 = true → sl ac 52 = .func (.func 113) #[] #[.pointer (some ⟨w.heap.size, 0, none⟩), .pointer (some ⟨w.heap.size + 1, 0, none⟩), .pointer (some ⟨w.heap.size + 1 + 1 + 1 + 1, 0, none⟩), .pointer (some ⟨w.heap.size + 1 + 1 + 1, 0, none⟩)]) ∧
            (g 1 = true → sl ac 53 = .func (.func 117) #[] #[.pointer (some ⟨kG, 0, none⟩), .pointer (some ⟨kN, 0, none⟩)]) ∧
            (g 2 = true → sl ac 54 = .func (.func 118) #[] #[.pointer (some ⟨k8, 0, none⟩), .pointer (some ⟨w.heap.size, 0, none⟩), .pointer (some ⟨kF, 0, none⟩)]) ∧
            (g 3 = true → sl ac 55 = .int .i64 s) ∧
            (g 4 = true → sl ac 56 = .func (.func 117) #[] #[.pointer (some ⟨kG, 0, none⟩), .pointer (some ⟨kN, 0, none⟩)]) ∧
            (g 5 = true → sl ac 57 = .int .i64 I) ∧
            (g 6 = true → sl ac 58 = .int .i64 (I - 1)) ∧
            (g 7 = true → sl ac 59 = .agg #[.int .i64 (A + (I - 1)), .int .i64 X]) ∧
            (g 8 = true → sl ac 60 = .int .i64 PP) ∧
            (g 9 = true → sl ac 61 = .int .i64 (I - 1)) ∧
            (g 10 = true → sl ac 62 = .agg #[.int .i64 (A + (I - 1)), .int .i64 X]) ∧
            (g 11 = true → sl ac 63 = .tuple #[]) ∧
            Later w wc ∧
            w6.heap.size ≤ wc.heap.size ∧
            wc.heap[kF]? = some (.cells #[.func (.func 117) #[] #[.pointer (some ⟨kG, 0, none⟩), .pointer (some ⟨kN, 0, none⟩)]] 142 (0, 0)) ∧
            wc.heap[w.heap.size]? = some (.cells #[.int .i64 s] 2 (0, 0)) ∧
            (g 11 = true → g 10 = true) ∧
            (g 10 = true → g 9 = true) ∧
            (g 9 = true → g 8 = true) ∧
            (g 8 = true → g 7 = true) ∧
            (g 11 = false → Later w6 wc) ∧
            (g 11 = true → Ex (Two (w.heap.size + 1 + 1 + 1 + 1) (w.heap.size + 1 + 1 + 1)) w6 wc ∧ BestAt wc (w.heap.size + 1 + 1 + 1 + 1) (w.heap.size + 1 + 1 + 1) s t (upd s t o1 (a + I - 1)))) (by kernel_rfl) (by kernel_rfl) rfl (by kernel_rfl) ?_ ?_ ?_
           · exact ⟨rfl, rfl, rfl, rfl, rfl, nofun, nofun, nofun, nofun, nofun, nofun, nofun, nofun, nofun, nofun, nofun, nofun, hL0.drew, Nat.le_refl _, KF, KS, nofun, nofun, nofun, nofun, fun _ => (Later.refl _).drew, nofun⟩
           · intro g ac wc hg ha hI
             obtain ⟨x7, x11, x13, x2, x14, i0, i1, i2, i3, i4, i5, i6, i7, i8, i9, i10, i11, hL, hS, BF, BS, -, -, -, -, -, E1⟩ := hI
             replace E1 := E1 (hg 11 (by simp))
             have a0 := i0 (hg 0 (by simp))
             have a1 := i1 (hg 1 (by simp))
             have a2 := i2 (hg 2 (by simp))
             have a3 := i3 (hg 3 (by simp))
             have a4 := i4 (hg 4 (by simp))
             have a5 := i5 (hg 5 (by simp))
             have a6 := i6 (hg 6 (by simp))
             have a7 := i7 (hg 7 (by simp))
             have a8 := i8 (hg 8 (by simp))
             have a9 := i9 (hg 9 (by simp))
             have a10 := i10 (hg 10 (by simp))
             have a11 := i11 (hg 11 (by simp))
             simp only [putAll, a0, a1, a2, a3, a4, a5, a6, a7, a8, a9, a10, a11] at ha
             simp only [Act.put, List.setIfInBounds_toArray, List.set_cons_succ, List.set_cons_zero] at ha
             rw [ha]
             clear x7 x11 x13 x2 x14 i0 i1 i2 i3 i4 i5 i6 i7 i8 i9 i10 i11 a0 a1 a2 a3 a4 a5 a6 a7 a8 a9 a10 a11 hg ha
             have HE := Lib.hid E1
             clear hL hS BF BS E1
             go_wp2
             go_roundw
             case rel => exact ⟨Y + 1, by go_num, by omega, HX26.out.trans HE.out.1, upd s t o1 (a + I - 1), by rw [HEnd.out, ← HO1.out]; exact HTr.out ▸ HInv.out, HE.out.2⟩
             case measure => simp [intOf]; omega
           · refine .cons ?_ (.cons ?_ (.cons ?_ (.cons ?_ (.cons ?_ (.cons ?_ (.cons ?_ (.cons ?_ (.cons ?_ (.cons ?_ (.cons ?_ (.cons ?_ .nil)))))))))))
             · refine qst fun g ac wc hn hk hr HI K' hK => ?_
               obtain ⟨x7, x11, x13, x2, x14, -, -, -, -, -, -, -, -, -, -, -, -, hL, hS, BF, BS, d11_10, d10_9, d9_8, d8_7, E0, E1⟩ := HI.out
               simp [Region.binds] at hr
               go_simp
               obtain ⟨-, -, -, -, -, i0, i1, i2, i3, i4, i5, i6, i7, i8, i9, i10, i11, -⟩ := HI.out
               exact hK.out _ _ ⟨qB x7, qB x11, qB x13, qB x2, qB x14, qP, qF i1, qF i2, qF i3, qF i4, qF i5, qF i6, qF i7, qF i8, qF i9, qF i10, qF i11, hL, hS, BF, BS, d11_10, d10_9, d9_8, d8_7, E0, E1⟩
             · refine qst fun g ac wc hn hk hr HI K' hK => ?_
               obtain ⟨x7, x11, x13, x2, x14, -, -, -, -, -, -, -, -, -, -, -, -, hL, hS, BF, BS, d11_10, d10_9, d9_8, d8_7, E0, E1⟩ := HI.out
               simp [Region.binds] at hr
               obtain ⟨c0, f0, z0⟩ := blk_at BF
               go_simp
               obtain ⟨-, -, -, -, -, i0, i1, i2, i3, i4, i5, i6, i7, i8, i9, i10, i11, -⟩ := HI.out
               exact hK.out _ _ ⟨qB x7, qB x11, qB x13, qB x2, qB x14, qF i0, qP, qF i2, qF i3, qF i4, qF i5, qF i6, qF i7, qF i8, qF i9, qF i10, qF i11, hL, hS, BF, BS, d11_10, d10_9, d9_8, d8_7, E0, E1⟩
             · refine qst fun g ac wc hn hk hr HI K' hK => ?_
               obtain ⟨x7, x11, x13, x2, x14, -, -, -, -, -, -, -, -, -, -, -, -, hL, hS, BF, BS, d11_10, d10_9, d9_8, d8_7, E0, E1⟩ := HI.out
               simp [Region.binds] at hr
               go_simp
               obtain ⟨-, -, -, -, -, i0, i1, i2, i3, i4, i5, i6, i7, i8, i9, i10, i11, -⟩ := HI.out
               exact hK.out _ _ ⟨qB x7, qB x11, qB x13, qB x2, qB x14, qF i0, qF i1, qP, qF i3, qF i4, qF i5, qF i6, qF i7, qF i8, qF i9, qF i10, qF i11, hL, hS, BF, BS, d11_10, d10_9, d9_8, d8_7, E0, E1⟩
             · refine qst fun g ac wc hn hk hr HI K' hK => ?_
               obtain ⟨x7, x11, x13, x2, x14, -, -, -, -, -, -, -, -, -, -, -, -, hL, hS, BF, BS, d11_10, d10_9, d9_8, d8_7, E0, E1⟩ := HI.out
               simp [Region.binds] at hr
               obtain ⟨c0, f0, z0⟩ := blk_at BS
               go_simp
               obtain ⟨-, -, -, -, -, i0, i1, i2, i3, i4, i5, i6, i7, i8, i9, i10, i11, -⟩ := HI.out
               exact hK.out _ _ ⟨qB x7, qB x11, qB x13, qB x2, qB x14, qF i0, qF i1, qF i2, qP, qF i4, qF i5, qF i6, qF i7, qF i8, qF i9, qF i10, qF i11, hL, hS, BF, BS, d11_10, d10_9, d9_8, d8_7, E0, E1⟩
             · refine qst fun g ac wc hn hk hr HI K' hK => ?_
               obtain ⟨x7, x11, x13, x2, x14, -, -, -, -, -, -, -, -, -, -, -, -, hL, hS, BF, BS, d11_10, d10_9, d9_8, d8_7, E0, E1⟩ := HI.out
               simp [Region.binds] at hr
               obtain ⟨c0, f0, z0⟩ := blk_at BF
               go_simp
               obtain ⟨-, -, -, -, -, i0, i1, i2, i3, i4, i5, i6, i7, i8, i9, i10, i11, -⟩ := HI.out
               exact hK.out _ _ ⟨qB x7, qB x11, qB x13, qB x2, qB x14, qF i0, qF i1, qF i2, qF i3, qP, qF i5, qF i6, qF i7, qF i8, qF i9, qF i10, qF i11, hL, hS, BF, BS, d11_10, d10_9, d9_8, d8_7, E0, E1⟩
             · refine qst fun g ac wc hn hk hr HI K' hK => ?_
               obtain ⟨x7, x11, x13, x2, x14, -, -, -, -, -, -, -, -, -, -, -, -, hL, hS, BF, BS, d11_10, d10_9, d9_8, d8_7, E0, E1⟩ := HI.out
               simp [Region.binds] at hr
               go_simp
               obtain ⟨-, -, -, -, -, i0, i1, i2, i3, i4, i5, i6, i7, i8, i9, i10, i11, -⟩ := HI.out
               exact hK.out _ _ ⟨qB x7, qB x11, qB x13, qB x2, qB x14, qF i0, qF i1, qF i2, qF i3, qF i4, qP, qF i6, qF i7, qF i8, qF i9, qF i10, qF i11, hL, hS, BF, BS, d11_10, d10_9, d9_8, d8_7, E0, E1⟩
             · refine qst fun g ac wc hn hk hr HI K' hK => ?_
               obtain ⟨x7, x11, x13, x2, x14, -, -, -, -, -, i5, -, -, -, -, -, -, hL, hS, BF, BS, d11_10, d10_9, d9_8, d8_7, E0, E1⟩ := HI.out
               simp [Region.binds] at hr
               have y5 := i5 (by simp [hr])
               clear i5
               have wD : IntKind.i64.wrap (I - 1) = I - 1 := wrap_same (by omega) (by omega)
               go_simp
               obtain ⟨-, -, -, -, -, i0, i1, i2, i3, i4, i5, i6, i7, i8, i9, i10, i11, -⟩ := HI.out
               exact hK.out _ _ ⟨qB x7, qB x11, qB x13, qB x2, qB x14, qF i0, qF i1, qF i2, qF i3, qF i4, qF i5, qP, qF i7, qF i8, qF i9, qF i10, qF i11, hL, hS, BF, BS, d11_10, d10_9, d9_8, d8_7, E0, E1⟩
             · refine qst fun g ac wc hn hk hr HI K' hK => ?_
               obtain ⟨x7, x11, x13, x2, x14, -, -, -, -, i4, -, i6, -, -, -, -, -, hL, hS, BF, BS, d11_10, d10_9, d9_8, d8_7, E0, E1⟩ := HI.out
               simp [Region.binds] at hr
               have y4 := i4 (by simp [hr])
               have y6 := i6 (by simp [hr])
               clear i4 i6
               have hst : g 11 = false := by
                cases hq : g 11 with
                | false => rfl
                | true =>
                 have hh := (d8_7 (d9_8 (d10_9 (d11_10 hq))))
                 rw [hk] at hh
                 cases hh
               have hold := E0 hst
               go_simp
               refine (w_readFig (I - 1) A B X kG kN kr 0 2 (HSg.out.rw.later hold) (by omega) (by omega) (by omega) (by omega)).mono ?_
               rintro e w4 ⟨rfl, hL4⟩
               obtain ⟨-, -, -, -, -, i0, i1, i2, i3, i4, i5, i6, i7, i8, i9, i10, i11, -⟩ := HI.out
               exact hK.out _ _ ⟨qB x7, qB x11, qB x13, qB x2, qB x14, qF i0, qF i1, qF i2, qF i3, qF i4, qF i5, qF i6, qP, qF i8, qF i9, qF i10, qF i11, hL.trans hL4, Nat.le_trans hS hL4.size, hL4.keep BF, hL4.keep BS, d11_10, d10_9, d9_8, (fun _ => rfl), (fun h => (E0 h).trans (hL4)), (fun h => ⟨(E1 h).1.later (hL4), (E1 h).2.later (hL4)⟩)⟩
             · refine qst fun g ac wc hn hk hr HI K' hK => ?_
               obtain ⟨x7, x11, x13, x2, x14, -, -, -, i3, -, -, -, i7, -, -, -, -, hL, hS, BF, BS, d11_10, d10_9, d9_8, d8_7, E0, E1⟩ := HI.out
               simp [Region.binds] at hr
               have y3 := i3 (by simp [hr])
               have y7 := i7 (by simp [hr])
               clear i3 i7
               have hst : g 11 = false := by
                cases hq : g 11 with
                | false => rfl
                | true =>
                 have hh := (d9_8 (d10_9 (d11_10 hq)))
                 rw [hk] at hh
                 cases hh
               have hold := E0 hst
               go_simp
               refine (w_implPoint s _ _ s1 s2 (by omega) (by omega) (by omega) (by omega) _).mono ?_
               rintro e w4 ⟨rfl, hL4⟩
               rw [HPP.out]
               obtain ⟨-, -, -, -, -, i0, i1, i2, i3, i4, i5, i6, i7, i8, i9, i10, i11, -⟩ := HI.out
               exact hK.out _ _ ⟨qB x7, qB x11, qB x13, qB x2, qB x14, qF i0, qF i1, qF i2, qF i3, qF i4, qF i5, qF i6, qF i7, qP, qF i9, qF i10, qF i11, hL.trans hL4, Nat.le_trans hS hL4.size, hL4.keep BF, hL4.keep BS, d11_10, d10_9, (fun _ => rfl), (fun _ => by simp [hr]), (fun h => (E0 h).trans (hL4)), (fun h => ⟨(E1 h).1.later (hL4), (E1 h).2.later (hL4)⟩)⟩
             · refine qst fun g ac wc hn hk hr HI K' hK => ?_
               obtain ⟨x7, x11, x13, x2, x14, -, -, i2, -, -, -, -, -, i8, -, -, -, hL, hS, BF, BS, d11_10, d10_9, d9_8, d8_7, E0, E1⟩ := HI.out
               simp [Region.binds] at hr
               have y2 := i2 (by simp [hr])
               have y8 := i8 (by simp [hr])
               clear i2 i8
               have hst : g 11 = false := by
                cases hq : g 11 with
                | false => rfl
                | true =>
                 have hh := (d10_9 (d11_10 hq))
                 rw [hk] at hh
                 cases hh
               have hold := E0 hst
               go_simp
               refine (w_readFirstAt s PP A B X a sz (I - 1) k8 _ kF kG kN kr 0 2 (HSg.out.later hold) (hold.keep HKz.out) s1 s2 (by omega) (by omega) (by omega) (by omega) (by omega) (by omega) HAt.out HSeg.out HC2.out).mono ?_
               rintro e w4 ⟨rfl, hL4⟩
               obtain ⟨-, -, -, -, -, i0, i1, i2, i3, i4, i5, i6, i7, i8, i9, i10, i11, -⟩ := HI.out
               exact hK.out _ _ ⟨qB x7, qB x11, qB x13, qB x2, qB x14, qF i0, qF i1, qF i2, qF i3, qF i4, qF i5, qF i6, qF i7, qF i8, qP, qF i10, qF i11, hL.trans hL4, Nat.le_trans hS hL4.size, hL4.keep BF, hL4.keep BS, d11_10, (fun _ => rfl), (fun _ => by simp [hr]), d8_7, (fun h => (E0 h).trans (hL4)), (fun h => ⟨(E1 h).1.later (hL4), (E1 h).2.later (hL4)⟩)⟩
             · refine qst fun g ac wc hn hk hr HI K' hK => ?_
               obtain ⟨x7, x11, x13, x2, x14, -, i1, -, -, -, -, -, -, -, i9, -, -, hL, hS, BF, BS, d11_10, d10_9, d9_8, d8_7, E0, E1⟩ := HI.out
               simp [Region.binds] at hr
               have y1 := i1 (by simp [hr])
               have y9 := i9 (by simp [hr])
               clear i1 i9
               have hst : g 11 = false := by
                cases hq : g 11 with
                | false => rfl
                | true =>
                 have hh := (d11_10 hq)
                 rw [hk] at hh
                 cases hh
               have hold := E0 hst
               go_simp
               refine (w_readFig (I - 1) A B X kG kN kr 0 2 (HSg.out.rw.later hold) (by omega) (by omega) (by omega) (by omega)).mono ?_
               rintro e w4 ⟨rfl, hL4⟩
               obtain ⟨-, -, -, -, -, i0, i1, i2, i3, i4, i5, i6, i7, i8, i9, i10, i11, -⟩ := HI.out
               exact hK.out _ _ ⟨qB x7, qB x11, qB x13, qB x2, qB x14, qF i0, qF i1, qF i2, qF i3, qF i4, qF i5, qF i6, qF i7, qF i8, qF i9, qP, qF i11, hL.trans hL4, Nat.le_trans hS hL4.size, hL4.keep BF, hL4.keep BS, (fun _ => rfl), (fun _ => by simp [hr]), d9_8, d8_7, (fun h => (E0 h).trans (hL4)), (fun h => ⟨(E1 h).1.later (hL4), (E1 h).2.later (hL4)⟩)⟩
             · refine qst fun g ac wc hn hk hr HI K' hK => ?_
               obtain ⟨x7, x11, x13, x2, x14, i0, -, -, -, -, -, -, -, -, -, i10, -, hL, hS, BF, BS, d11_10, d10_9, d9_8, d8_7, E0, E1⟩ := HI.out
               simp [Region.binds] at hr
               have y0 := i0 (by simp [hr])
               have y10 := i10 (by simp [hr])
               clear i0 i10
               have hold := E0 hk
               go_simp
               refine (w_tryF s t (a + I - 1) o1 (A + (I - 1)) X _ _ _ _ wc s1 s2 (by omega) (by omega) (by omega) (by omega) (hold.keep HKs.out) (hold.keep HKt.out) (HBo.out.later hold) HOb.out (by omega) HA1.out).mono ?_
               rintro e w4 ⟨rfl, hB4, hX4⟩
               obtain ⟨-, -, -, -, -, i0, i1, i2, i3, i4, i5, i6, i7, i8, i9, i10, i11, -⟩ := HI.out
               exact hK.out _ _ ⟨qB x7, qB x11, qB x13, qB x2, qB x14, qF i0, qF i1, qF i2, qF i3, qF i4, qF i5, qF i6, qF i7, qF i8, qF i9, qF i10, qP, (hL.ex hX4 (fun j h => by rcases h with h | h <;> omega)), Nat.le_trans hS hX4.size, hX4.keep BF (by rintro (h | h) <;> omega), hX4.keep BS (by rintro (h | h) <;> omega), (fun _ => by simp [hr]), d10_9, d9_8, d8_7, (fun h => absurd h (by simp)), (fun _ => ⟨(Ex.of hold).trans hX4, hB4⟩)⟩
       · refine .cons ?_ (.cons ?_ (.cons ?_ (.cons ?_ (.cons ?_ (.cons ?_ (.cons ?_ (.cons ?_ (.cons ?_ (.cons ?_ .nil)))))))))
         · refine qst fun g ac wc hn hk hr HI K' hK => ?_
           obtain ⟨x10, -, -, -, -, -, -, -, -, hL, i8, q8, hS, BG⟩ := HI.out
           simp [Region.binds] at hr
           obtain ⟨c0, f0, z0⟩ := blk_at BG
           go_simp
           obtain ⟨-, i0, i1, i2, i3, i4, i5, i6, i7, -⟩ := HI.out
           exact hK.out _ _ ⟨qB x10, qP, qF i1, qF i2, qF i3, qF i4, qF i5, qF i6, qF i7, hL, (fun j => by obtain ⟨k, e1, e2, p8_0, e3, e4⟩ := i8 j; exact ⟨k, (put_ne (by decide)).trans e1, e2, p8_0, e3, e4⟩), q8, hS, BG⟩
         · refine qst fun g ac wc hn hk hr HI K' hK => ?_
           obtain ⟨x10, i0, -, -, -, -, -, -, -, hL, i8, q8, hS, BG⟩ := HI.out
           simp [Region.binds] at hr
           have y0 := i0 (by simp [hr])
           clear i0
           go_simp
           obtain ⟨-, i0, i1, i2, i3, i4, i5, i6, i7, -⟩ := HI.out
           exact hK.out _ _ ⟨qB x10, qF i0, qP, qF i2, qF i3, qF i4, qF i5, qF i6, qF i7, hL, (fun j => by obtain ⟨k, e1, e2, p8_0, e3, e4⟩ := i8 j; exact ⟨k, (put_ne (by decide)).trans e1, e2, p8_0, e3, e4⟩), q8, hS, BG⟩
         · refine qst fun g ac wc hn hk hr HI K' hK => ?_
           obtain ⟨x10, -, i1, -, -, -, -, -, -, hL, i8, q8, hS, BG⟩ := HI.out
           simp [Region.binds] at hr
           have y1 := i1 (by simp [hr])
           clear i1
           have cq := (HRw.out.later hL).num (k := 1) rfl
           simp only [Nat.zero_add] at cq
           go_simp
           obtain ⟨-, i0, i1, i2, i3, i4, i5, i6, i7, -⟩ := HI.out
           exact hK.out _ _ ⟨qB x10, qF i0, qF i1, qP, qF i3, qF i4, qF i5, qF i6, qF i7, hL, (fun j => by obtain ⟨k, e1, e2, p8_0, e3, e4⟩ := i8 j; exact ⟨k, (put_ne (by decide)).trans e1, e2, p8_0, e3, e4⟩), q8, hS, BG⟩
         · refine qst fun g ac wc hn hk hr HI K' hK => ?_
           obtain ⟨x10, -, -, -, -, -, -, -, -, hL, i8, q8, hS, BG⟩ := HI.out
           simp [Region.binds] at hr
           obtain ⟨c0, f0, z0⟩ := blk_at BG
           go_simp
           obtain ⟨-, i0, i1, i2, i3, i4, i5, i6, i7, -⟩ := HI.out
           exact hK.out _ _ ⟨qB x10, qF i0, qF i1, qF i2, qP, qF i4, qF i5, qF i6, qF i7, hL, (fun j => by obtain ⟨k, e1, e2, p8_0, e3, e4⟩ := i8 j; exact ⟨k, (put_ne (by decide)).trans e1, e2, p8_0, e3, e4⟩), q8, hS, BG⟩
         · refine qst fun g ac wc hn hk hr HI K' hK => ?_
           obtain ⟨x10, -, -, -, i3, -, -, -, -, hL, i8, q8, hS, BG⟩ := HI.out
           simp [Region.binds] at hr
           have y3 := i3 (by simp [hr])
           clear i3
           go_simp
           obtain ⟨-, i0, i1, i2, i3, i4, i5, i6, i7, -⟩ := HI.out
           exact hK.out _ _ ⟨qB x10, qF i0, qF i1, qF i2, qF i3, qP, qF i5, qF i6, qF i7, hL, (fun j => by obtain ⟨k, e1, e2, p8_0, e3, e4⟩ := i8 j; exact ⟨k, (put_ne (by decide)).trans e1, e2, p8_0, e3, e4⟩), q8, hS, BG⟩
         · refine qst fun g ac wc hn hk hr HI K' hK => ?_
           obtain ⟨x10, -, -, -, -, i4, -, -, -, hL, i8, q8, hS, BG⟩ := HI.out
           simp [Region.binds] at hr
           have y4 := i4 (by simp [hr])
           clear i4
           have cq := (HRw.out.later hL).num (k := 0) rfl
           simp only [Nat.add_zero] at cq
           go_simp
           obtain ⟨-, i0, i1, i2, i3, i4, i5, i6, i7, -⟩ := HI.out
           exact hK.out _ _ ⟨qB x10, qF i0, qF i1, qF i2, qF i3, qF i4, qP, qF i6, qF i7, hL, (fun j => by obtain ⟨k, e1, e2, p8_0, e3, e4⟩ := i8 j; exact ⟨k, (put_ne (by decide)).trans e1, e2, p8_0, e3, e4⟩), q8, hS, BG⟩
         · refine qst fun g ac wc hn hk hr HI K' hK => ?_
           obtain ⟨x10, -, -, i2, -, -, i5, -, -, hL, i8, q8, hS, BG⟩ := HI.out
           simp [Region.binds] at hr
           have y2 := i2 (by simp [hr])
           have y5 := i5 (by simp [hr])
           clear i2 i5
           have wD : IntKind.i64.wrap (B - A) = B - A := wrap_same (by omega) (by omega)
           go_simp
           obtain ⟨-, i0, i1, i2, i3, i4, i5, i6, i7, -⟩ := HI.out
           exact hK.out _ _ ⟨qB x10, qF i0, qF i1, qF i2, qF i3, qF i4, qF i5, qP, qF i7, hL, (fun j => by obtain ⟨k, e1, e2, p8_0, e3, e4⟩ := i8 j; exact ⟨k, (put_ne (by decide)).trans e1, e2, p8_0, e3, e4⟩), q8, hS, BG⟩
         · refine qst fun g ac wc hn hk hr HI K' hK => ?_
           obtain ⟨x10, -, -, -, -, -, -, i6, -, hL, i8, q8, hS, BG⟩ := HI.out
           simp [Region.binds] at hr
           have y6 := i6 (by simp [hr])
           clear i6
           have wD : IntKind.i64.wrap (B - A + 1) = B - A + 1 := wrap_same (by omega) (by omega)
           have wE : IntKind.i64.wrap sz = sz := wrap_same (by omega) (by omega)
           go_simp
           obtain ⟨-, i0, i1, i2, i3, i4, i5, i6, i7, -⟩ := HI.out
           exact hK.out _ _ ⟨qB x10, qF i0, qF i1, qF i2, qF i3, qF i4, qF i5, qF i6, qP, hL, (fun j => by obtain ⟨k, e1, e2, p8_0, e3, e4⟩ := i8 j; exact ⟨k, (put_ne (by decide)).trans e1, e2, p8_0, e3, e4⟩), q8, hS, BG⟩
         · refine qst fun g ac wc hn hk hr HI K' hK => ?_
           obtain ⟨x10, -, -, -, -, -, -, -, -, hL, i8, q8, hS, BG⟩ := HI.out
           simp [Region.binds] at hr
           go_simp
           obtain ⟨-, i0, i1, i2, i3, i4, i5, i6, i7, -⟩ := HI.out
           refine hK.out _ _ ⟨qB x10, qF i0, qF i1, qF i2, qF i3, qF i4, qF i5, qF i6, qF i7, hL.alloc _, (fun _ => ⟨_, put_eq (by omega), hS, _, heap_alloc_new _ _, fun j6 => absurd ((q8 j6).symm.trans hk) (by simp)⟩), fun _ => rfl, (by simp; omega), heap_alloc_old _ _ BG⟩
         · refine qst fun g ac wc hn hk hr HI K' hK => ?_
           obtain ⟨x10, -, -, -, -, -, -, -, i7, hL, i8, q8, hS, BG⟩ := HI.out
           simp [Region.binds] at hr
           have y7 := i7 (by simp [hr])
           clear i7
           have hda : g 8 = true := by simp [hr]
           obtain ⟨k, e1, e2, p8_0, e3, -⟩ := i8 hda
           obtain ⟨c0, f0, z0⟩ := blk_at e3
           go_simp
           obtain ⟨-, i0, i1, i2, i3, i4, i5, i6, i7, -⟩ := HI.out
           exact hK.out undef _ ⟨x10, i0, i1, i2, i3, i4, i5, i6, i7, (hL.setCell e2 _), (fun _ => ⟨k, e1, e2, _, one_set e3 _, fun _ => rfl⟩), (fun _ => hda), (by simp; omega), (other_set BG (by omega) _)⟩
     · have HEnd := Lib.hid (show sgP s Y = 9000 from by rw [show Y = sgN s by omega]; exact sgP_end s)
       have HXn := Lib.hid (HX2.out.trans hXy)
       clear hXy
       go_wp2
       go_roundw
       case rel => exact ⟨X + 1, rfl, by omega, by omega, HXn.out, o, by have hh := HI.out; rw [HEnd.out] at hh; rw [show 9000 * (X + 1) = 9000 * X + 9000 by omega]; exact hh, HB.out⟩
       case measure => simp [intOf]; omega
  · have hXd : X = decN s := by omega
    subst hXd
    have hLw := Later.ex HLw1.out hX1 (fun j h => by rcases h with h | h <;> omega)
    have KR := hX1.keep HK2.out (by rintro (h | h) <;> omega)
    have hBB := HB.out.2
    cases o with
    | none => have : 9000 * decN s = 0 := HI.out; omega
    | some n =>
     have HN := Lib.hid (readF_eqI HI.out)
     simp only at hBB
     have HL := Lib.hid hLw
     obtain ⟨c0, f0, z0⟩ := blk_at KR
     obtain ⟨c1, f1, z1⟩ := blk_at hBB
     clear hX1 KR hBB hLw
     go_wp2
     refine bodyPost_ret (v := .agg #[.int .i64 (atF n).d, .int .i64 (atF n).t]) (by simp [results, Tryz.results74, go_sem, c0, z0]) rfl ⟨by rw [HN.out], (HL.out.setCell (by simp; omega) _).setCell (by simp; omega) _⟩
end Go.Proofs.YtgngbdacejghcaaGreatDoor
