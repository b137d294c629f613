/- DERIVED. Walks: the draw of ordered terms. -/
import Derived.Test.YtkoojngonldcbaaGreatKRM89
import Derived.Test.YtkoojngonldcbaaGreatKRM107
import Derived.Test.YtkoojngonldcbaaGreatKRM108
namespace Go.Proofs.YtkoojngonldcbaaGreat
set_option linter.unusedVariables false
set_option linter.unusedSimpArgs false
open Go.RowKit
set_option maxRecDepth 100000
def lenOf : Value → Nat
 | .slice _ n _ => n
 | _ => 0
theorem lenOf_slice (a : Option Addr) (n c : Nat) : lenOf (.slice a n c) = n := rfl
def Apart (u v : Value) : Prop := ∀ j, u.ownBlock = some j → v.ownBlock ≠ some j
theorem nums_get {l : List Int} {i : Nat} {x : Int} (h : l[i]? = some x) : (nums l)[i]? = some (.int .i64 x) := by simp [nums, h]
theorem own_num {w : World} {base g n cap i : Nat} {e : TypeId} {l : List Int} {x : Int} (ho : w.ownsRow base e 1 (.slice (some ⟨g, 0, none⟩) n cap) n (nums l)) (h : l[i]? = some x) : w.cell? ⟨g, i, none⟩ = some (.int .i64 x) := by
 have h1 := row_add ho i _ (nums_get h)
 have ha : (Addr.add ⟨g, 0, none⟩ i) = ⟨g, i, none⟩ := by
  unfold Addr.add
  split
  · rename_i hz; subst hz; rfl
  · simp
 rwa [ha] at h1
theorem row_at_drop {w : World} {base g cap : Nat} {e : TypeId} {l : List Int} (ho : w.ownsRow base e 1 (.slice (some ⟨g, 0, none⟩) l.length cap) l.length (nums l)) (i : Nat) (hg : g < w.heap.size) : RowAt w g i (nums (l.drop i)) := by
 refine ⟨hg, fun j u hj => ?_⟩
 have e1 : nums (l.drop i) = (nums l).drop i := by simp [nums, List.map_drop]
 rw [e1, List.getElem?_drop] at hj
 have h1 := row_add ho (i + j) u hj
 have ha : (Addr.add ⟨g, 0, none⟩ (i + j)) = ⟨g, i + j, none⟩ := by
  unfold Addr.add
  split
  · rename_i hz; rw [hz]
  · simp
 rwa [ha] at h1
theorem own_blk {w : World} {base g n cap : Nat} {e : TypeId} {xs : List Value} (ho : w.ownsRow base e 1 (.slice (some ⟨g, 0, none⟩) n cap) n xs) (h0 : 0 < n) : ∃ cur, w.heap[g]? = some (.cells cur e (0, 0)) := by
 obtain ⟨hl, h⟩ := ho
 rcases h with ⟨hv, _⟩ | ⟨g', cap', cur, hv, hb, hh, _⟩
 · cases hv
 cases hv
 exact ⟨cur, hh⟩
theorem own_put {w : World} {base g n cap : Nat} {e : TypeId} {l : List Int} (ho : w.ownsRow base e 1 (.slice (some ⟨g, 0, none⟩) n cap) n (nums l)) (h0 : 0 < n) (x : Int) : (w.setCell ⟨g, 0, none⟩ (.int .i64 x)).ownsRow base e 1 (.slice (some ⟨g, 0, none⟩) n cap) n (nums (l.set 0 x)) := by
 obtain ⟨hl, h⟩ := ho
 rcases h with ⟨hv, _⟩ | ⟨g', cap', cur, hv, hb, hh, hc, hm, hs, ht⟩
 · cases hv
 cases hv
 refine ⟨by simpa [nums] using hl, .inr ⟨g, cap, cur.setIfInBounds 0 (.int .i64 x), rfl, hb, heap_setCell_same w g 0 cur e _ hh, hc, hm, by simpa using hs, ?_⟩⟩
 rw [Array.toList_setIfInBounds, List.take_set, ht]
 simp [nums]
set_option maxHeartbeats 8000000 in
theorem w_DrawOrderTerms (c : Value) (bs : List Int) (w : World) (h : IsByts w c bs) (hB : ∀ b ∈ bs, 0 ≤ b ∧ b ≤ 255) (hl : bs.length ≤ 4096) :
 Calls Tryz.prog 28 #[c] w fun e w' => ∃ (v : Value) (l : List Trm) (y : Value) (os : List Int), e = .returned (.tuple #[v, y]) ∧ w'.ownsRow w.heap.size 93 3 v l.length (trms l) ∧ l.length ≤ 7 ∧ w'.ownsRow w.heap.size 2 1 y os.length (nums os) ∧ os.length ≤ 8 ∧ Later w w' := by
 go_enter Tryz.func28, Tryz.ntmps28
 go_wp2_with fail
 refine (w_l01From' c bs _ h hB hl).mono ?_
 rintro e w1 ⟨k, rfl, hk0, hL1, hS1⟩
 have hk := hS1.lt
 have hD1 : Drawn w w1 k := Drawn.later (by repeat (with_reducible first | exact grown_refl _ _ | refine Drawn.alloc ?_ _)) hL1
 have hz1 := hD1.size
 clear hL1
 go_wp2_with fail
 refine (w_l13Draw k c _ qsh).mono ?_
 rintro e w2 ⟨vr, l, rfl, hO, hl7, hD, hS2⟩
 have hz2 : w1.heap.size ≤ w2.heap.size := qsz hD.size
 have hD2 : Drawn w w2 k := Drawn.trans qdh hD
 clear hD
 obtain ⟨ar, capr, rfl⟩ := isSl_of hO
 have HOr_2 := Lib.hid (owns_base (base' := w1.heap.size) hO (by first | omega | (have := hD2.size; have := hD1.size; simp at *; omega)))
 clear hO
 have hrlt : ∀ j, (Value.slice ar l.length capr).ownBlock = some j → j < w2.heap.size := fun j hj => (HOr_2.out.lt _ hj).2
 have HRL := Lib.hid hrlt
 clear hrlt
 go_wp2
 go_loopw [6, 7] (fun v i wr => ∃ (L : List Int) (m : Nat), i = .int .i64 (m : Nat) ∧ m ≤ l.length ∧ L.length = m ∧ wr.ownsRow w2.heap.size 2 1 v L.length (nums L) ∧ wr.ownsRow w1.heap.size 93 3 (.slice ar l.length capr) l.length (trms l) ∧ w2.heap.size ≤ wr.heap.size ∧ Drawn w wr k ∧ Src wr k c) (fun _ i _ => l.length - (intOf i).toNat)
 case atStart => exact ⟨[], 0, rfl, by omega, rfl, own_empty (Nat.le_refl _) _ _, (qoh HOr_2), by simp, qdh, qsh⟩
 case round =>
  obtain ⟨L, m, rfl, hm, hLm, hO, hR, hz, hDr, hSr⟩ := hrel
  have HL := Lib.hid hO
  have HR := Lib.hid hR
  have hkw : k < w2.heap.size := by omega
  clear hO hR
  by_cases hlt : m < l.length
  · go_wp2_with (at_builtin; refine app1_Int64 rfl (.tmp 21) (.tmp 23) rfl w2.heap.size _ L (m : Int) rfl HL.out (by simp [Act.eval, Array.getD]) (by omega) hz ?_; intro v5 w5 ho5 hg5)
    go_roundw
    case rel => exact ⟨L ++ [(m : Int)], m + 1, by go_num, by omega, by simp; omega, ho5, rows_grown HR.out hg5 (fun j hj e => by have h1 := HRL.out j hj; have h2 := (HL.out.lt _ e).1; omega), Nat.le_trans hz hg5.size, hDr.own (by omega) HL.out hg5, hSr.own (base := w2.heap.size) hkw HL.out hg5⟩
    case measure => simp [intOf]; omega
  · obtain ⟨aL, cL, rfl⟩ := isSl_of HL.out
    have hLl : L.length ≤ l.length := by omega
    have hO0 : (wr.alloc (.cells #[] 2)).ownsRow w2.heap.size 2 1 (.slice (some ⟨wr.heap.size, 0, none⟩) 0 0) 0 (nums []) := own_empty hz _ _
    have HO0 := Lib.hid hO0
    have hAp : Apart (.slice (some ⟨wr.heap.size, 0, none⟩) 0 0) (.slice aL L.length cL) := fun j hj e => by
     have h1 := (HL.out.lt _ e).2
     simp [Value.ownBlock] at hj
     omega
    have HAp := Lib.hid hAp
    clear hO0 hAp
    go_wp2
    go_loopw [6, 8] (fun v u wx => ∃ (L O : List Int), wx.ownsRow w2.heap.size 2 1 v L.length (nums L) ∧ wx.ownsRow w2.heap.size 2 1 u O.length (nums O) ∧ Apart u v ∧ L.length + O.length ≤ 7 ∧ wx.ownsRow w1.heap.size 93 3 (.slice ar l.length capr) l.length (trms l) ∧ w2.heap.size ≤ wx.heap.size ∧ Drawn w wx k ∧ Src wx k c) (fun v _ _ => lenOf v)
    case atStart => exact ⟨L, [], (qoh HL), HO0.out, HAp.out, by simp; omega, (qoh HR), by simp; omega, qdh, qsh⟩
    case round =>
     clear HL HR HO0 HAp
     obtain ⟨L, O, hL, hO, hAp, h7, hR, hz, hDr, hSr⟩ := hrel
     have HL := Lib.hid hL
     have HO := Lib.hid hO
     have HR := Lib.hid hR
     have HAp := Lib.hid hAp
     clear hL hO hR hAp
     by_cases hne : 0 < L.length
     · rcases own_shape HL.out with ⟨_, h0, _⟩ | ⟨gL, cL, hv, hgL, hgL2, hcL, hcL2⟩
       · omega
       cases hv
       obtain ⟨aO, cO, rfl⟩ := isSl_of HO.out
       have hneb : decide ((0 : Int) < (L.length : Int)) = true := by simp; omega
       go_wp2_with fail
       refine (w_l01Next k c (L.length : Int) _ qsh).mono ?_
       rintro e w3 ⟨x, rfl, xa, xb, hD, hS3⟩
       obtain ⟨i, rfl⟩ : ∃ i : Nat, x = i := ⟨x.toNat, by omega⟩
       have hi : i < L.length := by omega
       obtain ⟨y, hy⟩ := get_ex (l := L) (k := i) hi
       have hz3 := Nat.le_trans hz hD.size
       have hD3 := hDr.trans hD
       have HL3 := Lib.hid (hD.owns HL.out (by omega))
       have HO3 := Lib.hid (hD.owns HO.out (by omega))
       have HR3 := Lib.hid (hD.owns HR.out (by omega))
       have e1 := own_num HL3.out hy
       have hgL3 : gL < w3.heap.size := Nat.lt_of_lt_of_le hgL2 hD.size
       clear hD hy
       go_wp2_with (at_builtin; refine app1_Int64 rfl (.tmp 33) (.tmp 38) rfl w2.heap.size _ O y rfl HO3.out (by simp [Act.eval, Array.getD]) (by omega) hz3 ?_; intro v5 w5 ho5 hg5)
       have hz5 := Nat.le_trans hz3 hg5.size
       have hD5 := hD3.own (by omega) HO3.out hg5
       have hS5 := hS3.own (base := w2.heap.size) (by omega) HO3.out hg5
       have HL5 := Lib.hid (rows_grown HL3.out hg5 (fun j hj e => HAp.out j e hj))
       have HR5 := Lib.hid (rows_grown HR3.out hg5 (fun j hj e => by have h1 := HRL.out j hj; have h2 := (HO3.out.lt _ e).1; omega))
       have HO5 := Lib.hid ho5
       have hgL5 : gL < w5.heap.size := Nat.lt_of_lt_of_le hgL3 hg5.size
       obtain ⟨a5, c5, rfl⟩ := isSl_of ho5
       clear ho5 hg5 e1 HL3 HO3 HR3 HL HO HR
       have htn : ((i : Int) + 1).toNat = i + 1 := by omega
       have hle : (0 ≤ (i : Int) + 1) = True := by simp; omega
       by_cases hc : i + 1 = cL
       · skip
         have hL0 := Later.refl w5
         have hSB : w5.heap.size ≤ w5.heap.size := Nat.le_refl _
         go_wp2_with fail
         refine region_slots 68 [40, 41, 42, 43, 44, 45, 46, 47, 48, 6] (fun g ac wc => (g 9 = false → sl ac 6 = .slice (some ⟨gL, 0, none⟩) L.length cL) ∧
          sl ac 9 = .int .i64 (i : Nat) ∧
          (g 0 = true → sl ac 40 = .slice (some ⟨gL, 0, none⟩) L.length cL) ∧
          (g 1 = true → sl ac 41 = .int .i64 (i : Nat)) ∧
          (g 2 = true → sl ac 42 = .slice (some ⟨gL, 0, none⟩) i cL) ∧
          (g 4 = true → sl ac 44 = .slice (some ⟨gL, 0, none⟩) L.length cL) ∧
          (g 5 = true → sl ac 45 = .int .i64 (i : Nat)) ∧
          (g 6 = true → sl ac 46 = .int .i64 ((i : Int) + 1)) ∧
          (g 7 = true → sl ac 47 = .slice (some ⟨gL, 0, none⟩) 0 0) ∧
          (g 9 = true → sl ac 6 = sl ac 48) ∧
          Later w5 wc ∧
          (g 3 = true → (IsSl (sl ac 43) ((L.take i).length) ∧ sl ac 43 = sl ac 43) ∧ (g 8 = false → wc.ownsRow w5.heap.size 2 1 (sl ac 43) ((L.take i).length) (nums (L.take i)))) ∧
          (g 8 = true → (IsSl (sl ac 48) ((L.length - 1))) ∧ wc.ownsRow w5.heap.size 2 1 (sl ac 48) ((L.length - 1)) (nums (L.take i ++ ([] : List Int)))) ∧
          (g 8 = true → g 3 = true) ∧
          (g 9 = true → g 8 = true) ∧
          (g 2 = true → g 0 = true) ∧
          (g 3 = true → g 2 = true) ∧
          (g 7 = true → g 4 = true) ∧
          (g 8 = true → g 7 = true) ∧
          w5.heap.size ≤ wc.heap.size) (by kernel_rfl) (by kernel_rfl) rfl (by kernel_rfl) ?_ ?_ ?_
         · exact ⟨fun _ => rfl, rfl, nofun, nofun, nofun, nofun, nofun, nofun, nofun, nofun, hL0.drew, nofun, nofun, nofun, nofun, nofun, nofun, nofun, nofun, Nat.le_refl _⟩
         · intro g ac wu hg ha hI
           obtain ⟨x6, x9, i0, i1, i2, i4, i5, i6, i7, i9, hL, p3, p8, -, -, -, -, -, -, hS⟩ := hI
           obtain ⟨⟨⟨ar3, capr3, f3⟩, e3⟩, -⟩ := p3 (hg 3 (by simp))
           clear e3
           have e3 := f3
           obtain ⟨⟨ar8, capr8, e8⟩, HO8⟩ := p8 (hg 8 (by simp))
           rw [e8] at HO8
           have a0 := i0 (hg 0 (by simp))
           have a1 := i1 (hg 1 (by simp))
           have a2 := i2 (hg 2 (by simp))
           have a4 := i4 (hg 4 (by simp))
           have a5 := i5 (hg 5 (by simp))
           have a6 := i6 (hg 6 (by simp))
           have a7 := i7 (hg 7 (by simp))
           have a9 := i9 (hg 9 (by simp))
           rw [e8] at a9
           simp only [putAll, e3, e8, a0, a1, a2, a4, a5, a6, a7, a9] at ha
           simp only [Act.put, List.setIfInBounds_toArray, List.set_cons_succ, List.set_cons_zero] at ha
           rw [ha]
           clear x6 x9 i0 i1 i2 i4 i5 i6 i7 i9 a0 a1 a2 a4 a5 a6 a7 a9 p3 p8 e3 e8 f3 hg ha
           have hS5u := hS5.later hL
           have hD5u := hD5.later hL
           have HR6 := Lib.hid (owns_later HR5.out hL)
           have HO6 := Lib.hid (owns_later HO5.out hL)
           have hz6 := Nat.le_trans hz5 hL.size
           have hlen8 : (L.take i ++ ([] : List Int)).length = L.length - 1 := by simp; omega
           rw [← hlen8] at HO8 ⊢
           go_wp2
           go_roundw
           case rel => exact ⟨(L.take i ++ ([] : List Int)), O ++ [y], owns_base HO8 (by omega), HO6.out, (fun j hj e => by have h1 := (HO5.out.lt _ hj).2; have h2 := (HO8.lt _ e).1; omega), by simp; omega, HR6.out, hz6, hD5u, hS5u⟩
           case measure => simp only [lenOf_slice]; simp; omega
         · refine .cons ?_ (.cons ?_ (.cons ?_ (.cons ?_ (.cons ?_ (.cons ?_ (.cons ?_ (.cons ?_ (.cons ?_ (.cons ?_ .nil)))))))))
           · refine qst fun g ac wc hn hk hr HI K' hK => ?_
             obtain ⟨x6, x9, i0, i1, i2, i4, i5, i6, i7, i9, hL, p3, p8, m8_3, m9_8, m2_0, m3_2, m7_4, m8_7, hS⟩ := HI.out
             simp [Region.binds] at hr
             clear i0 i1 i2 i4 i5 i6 i7 i9 p3 p8
             have hst : g 9 = false := by
              cases hq : g 9 with
              | false => rfl
              | true => have hh := m2_0 (m3_2 (m8_3 (m9_8 hq))); rw [hk] at hh; cases hh
             have y6 := x6 hst
             go_simp
             obtain ⟨-, -, i0, i1, i2, i4, i5, i6, i7, i9, -, p3, p8, -⟩ := HI.out
             exact hK.out _ _ ⟨(fun h => (keepB (x6 h) (by decide))), qB x9, qP, qF i1, (fun h => absurd (m2_0 h) (by rw [hk]; simp)), qF i4, qF i5, qF i6, qF i7, (fun h => by rw [put_ne (show 6 ≠ 40 by decide), put_ne (show 48 ≠ 40 by decide)]; exact i9 h), hL, (fun h => by obtain ⟨⟨hs, hv⟩, ho⟩ := p3 h; exact ⟨⟨by rw [put_ne (show 43 ≠ 40 by decide)]; exact hs, rfl⟩, fun ht => by have ho := ho ht; exact (by rw [put_ne (show 43 ≠ 40 by decide)]; exact ho)⟩), (fun h => by obtain ⟨hs, ho⟩ := p8 h; exact ⟨(by rw [put_ne (show 48 ≠ 40 by decide)]; exact hs), (by rw [put_ne (show 48 ≠ 40 by decide)]; exact ho)⟩), m8_3, m9_8, (fun _ => rfl), m3_2, m7_4, m8_7, hS⟩
           · refine qst fun g ac wc hn hk hr HI K' hK => ?_
             obtain ⟨x6, x9, i0, i1, i2, i4, i5, i6, i7, i9, hL, p3, p8, m8_3, m9_8, m2_0, m3_2, m7_4, m8_7, hS⟩ := HI.out
             simp [Region.binds] at hr
             clear i0 i1 i2 i4 i5 i6 i7 i9 p3 p8
             go_simp
             obtain ⟨-, -, i0, i1, i2, i4, i5, i6, i7, i9, -, p3, p8, -⟩ := HI.out
             exact hK.out _ _ ⟨(fun h => (keepB (x6 h) (by decide))), qB x9, qF i0, qP, qF i2, qF i4, qF i5, qF i6, qF i7, (fun h => by rw [put_ne (show 6 ≠ 41 by decide), put_ne (show 48 ≠ 41 by decide)]; exact i9 h), hL, (fun h => by obtain ⟨⟨hs, hv⟩, ho⟩ := p3 h; exact ⟨⟨by rw [put_ne (show 43 ≠ 41 by decide)]; exact hs, rfl⟩, fun ht => by have ho := ho ht; exact (by rw [put_ne (show 43 ≠ 41 by decide)]; exact ho)⟩), (fun h => by obtain ⟨hs, ho⟩ := p8 h; exact ⟨(by rw [put_ne (show 48 ≠ 41 by decide)]; exact hs), (by rw [put_ne (show 48 ≠ 41 by decide)]; exact ho)⟩), m8_3, m9_8, m2_0, m3_2, m7_4, m8_7, hS⟩
           · refine qst fun g ac wc hn hk hr HI K' hK => ?_
             obtain ⟨x6, x9, i0, i1, i2, i4, i5, i6, i7, i9, hL, p3, p8, m8_3, m9_8, m2_0, m3_2, m7_4, m8_7, hS⟩ := HI.out
             simp [Region.binds] at hr
             have y0 := i0 (by simp [hr])
             have y1 := i1 (by simp [hr])
             have gm0 : g 0 = true := by first | exact m2_0 (by simp [hr]) | exact hr | exact hr.1 | exact hr.2 | exact hr.2.1 | simp [hr]
             have z0 := sl_get y0 (by omega)
             have z1 := sl_get y1 (by omega)
             clear i0 i1 i2 i4 i5 i6 i7 i9 p3 p8
             have hle2 : ((i : Int) ≤ (cL : Int)) = True := by simp; omega
             go_simp
             obtain ⟨-, -, i0, i1, i2, i4, i5, i6, i7, i9, -, p3, p8, -⟩ := HI.out
             exact hK.out _ _ ⟨(fun h => (keepB (x6 h) (by decide))), qB x9, qF i0, qF i1, qP, qF i4, qF i5, qF i6, qF i7, (fun h => by rw [put_ne (show 6 ≠ 42 by decide), put_ne (show 48 ≠ 42 by decide)]; exact i9 h), hL, (fun h => by obtain ⟨⟨hs, hv⟩, ho⟩ := p3 h; exact ⟨⟨by rw [put_ne (show 43 ≠ 42 by decide)]; exact hs, rfl⟩, fun ht => by have ho := ho ht; exact (by rw [put_ne (show 43 ≠ 42 by decide)]; exact ho)⟩), (fun h => by obtain ⟨hs, ho⟩ := p8 h; exact ⟨(by rw [put_ne (show 48 ≠ 42 by decide)]; exact hs), (by rw [put_ne (show 48 ≠ 42 by decide)]; exact ho)⟩), m8_3, m9_8, (fun _ => gm0), (fun _ => rfl), m7_4, m8_7, hS⟩
           · refine qst fun g ac wc hn hk hr HI K' hK => ?_
             obtain ⟨x6, x9, i0, i1, i2, i4, i5, i6, i7, i9, hL, p3, p8, m8_3, m9_8, m2_0, m3_2, m7_4, m8_7, hS⟩ := HI.out
             simp [Region.binds] at hr
             have y2 := i2 (by simp [hr])
             have gm2 : g 2 = true := by first | exact m3_2 (by simp [hr]) | exact hr | exact hr.1 | exact hr.2 | exact hr.2.1 | simp [hr]
             clear i0 i1 i2 i4 i5 i6 i7 i9 p3 p8
             go_simp
             refine (w_l01OwnS ⟨gL, 0, none⟩ i cL (L.take i) _ (IsNums.take (reads_of_owns (owns_later HL5.out hL) (by omega)) (by omega))).mono ?_
             rintro e w4 ⟨a4, l4, c4, rfl, hL4, ho4⟩
             obtain ⟨a5, c5, e5⟩ := isSl_of ho4
             simp only [Value.slice.injEq] at e5
             obtain ⟨rfl, rfl, rfl⟩ := e5
             obtain ⟨-, -, i0, i1, i2, i4, i5, i6, i7, i9, -, p3, p8, -⟩ := HI.out
             exact hK.out _ _ ⟨(fun h => (keepB (x6 h) (by decide))), qB x9, qF i0, qF i1, qF i2, qF i4, qF i5, qF i6, qF i7, (fun h => by rw [put_ne (show 6 ≠ 43 by decide), put_ne (show 48 ≠ 43 by decide)]; exact i9 h), hL.trans hL4, (fun _ => ⟨⟨by rw [put_eq (by omega)]; exact ⟨_, _, rfl⟩, rfl⟩, fun _ => by rw [put_eq (by omega)]; exact owns_base ho4 hS⟩), (fun h => by obtain ⟨hs, ho⟩ := p8 h; exact ⟨(by rw [put_ne (show 48 ≠ 43 by decide)]; exact hs), (by rw [put_ne (show 48 ≠ 43 by decide)]; exact (owns_later ho hL4))⟩), (fun _ => rfl), m9_8, m2_0, (fun _ => gm2), m7_4, m8_7, Nat.le_trans hS hL4.size⟩
           · refine qst fun g ac wc hn hk hr HI K' hK => ?_
             obtain ⟨x6, x9, i0, i1, i2, i4, i5, i6, i7, i9, hL, p3, p8, m8_3, m9_8, m2_0, m3_2, m7_4, m8_7, hS⟩ := HI.out
             simp [Region.binds] at hr
             clear i0 i1 i2 i4 i5 i6 i7 i9 p3 p8
             have hst : g 9 = false := by
              cases hq : g 9 with
              | false => rfl
              | true => have hh := m7_4 (m8_7 (m9_8 hq)); rw [hk] at hh; cases hh
             have y6 := x6 hst
             go_simp
             obtain ⟨-, -, i0, i1, i2, i4, i5, i6, i7, i9, -, p3, p8, -⟩ := HI.out
             exact hK.out _ _ ⟨(fun h => (keepB (x6 h) (by decide))), qB x9, qF i0, qF i1, qF i2, qP, qF i5, qF i6, (fun h => absurd (m7_4 h) (by rw [hk]; simp)), (fun h => by rw [put_ne (show 6 ≠ 44 by decide), put_ne (show 48 ≠ 44 by decide)]; exact i9 h), hL, (fun h => by obtain ⟨⟨hs, hv⟩, ho⟩ := p3 h; exact ⟨⟨by rw [put_ne (show 43 ≠ 44 by decide)]; exact hs, rfl⟩, fun ht => by have ho := ho ht; exact (by rw [put_ne (show 43 ≠ 44 by decide)]; exact ho)⟩), (fun h => by obtain ⟨hs, ho⟩ := p8 h; exact ⟨(by rw [put_ne (show 48 ≠ 44 by decide)]; exact hs), (by rw [put_ne (show 48 ≠ 44 by decide)]; exact ho)⟩), m8_3, m9_8, m2_0, m3_2, (fun _ => rfl), m8_7, hS⟩
           · refine qst fun g ac wc hn hk hr HI K' hK => ?_
             obtain ⟨x6, x9, i0, i1, i2, i4, i5, i6, i7, i9, hL, p3, p8, m8_3, m9_8, m2_0, m3_2, m7_4, m8_7, hS⟩ := HI.out
             simp [Region.binds] at hr
             clear i0 i1 i2 i4 i5 i6 i7 i9 p3 p8
             go_simp
             obtain ⟨-, -, i0, i1, i2, i4, i5, i6, i7, i9, -, p3, p8, -⟩ := HI.out
             exact hK.out _ _ ⟨(fun h => (keepB (x6 h) (by decide))), qB x9, qF i0, qF i1, qF i2, qF i4, qP, qF i6, qF i7, (fun h => by rw [put_ne (show 6 ≠ 45 by decide), put_ne (show 48 ≠ 45 by decide)]; exact i9 h), hL, (fun h => by obtain ⟨⟨hs, hv⟩, ho⟩ := p3 h; exact ⟨⟨by rw [put_ne (show 43 ≠ 45 by decide)]; exact hs, rfl⟩, fun ht => by have ho := ho ht; exact (by rw [put_ne (show 43 ≠ 45 by decide)]; exact ho)⟩), (fun h => by obtain ⟨hs, ho⟩ := p8 h; exact ⟨(by rw [put_ne (show 48 ≠ 45 by decide)]; exact hs), (by rw [put_ne (show 48 ≠ 45 by decide)]; exact ho)⟩), m8_3, m9_8, m2_0, m3_2, m7_4, m8_7, hS⟩
           · refine qst fun g ac wc hn hk hr HI K' hK => ?_
             obtain ⟨x6, x9, i0, i1, i2, i4, i5, i6, i7, i9, hL, p3, p8, m8_3, m9_8, m2_0, m3_2, m7_4, m8_7, hS⟩ := HI.out
             simp [Region.binds] at hr
             have y5 := i5 (by simp [hr])
             have z5 := sl_get y5 (by omega)
             clear i0 i1 i2 i4 i5 i6 i7 i9 p3 p8
             have wD : IntKind.i64.wrap ((i : Int) + 1) = (i : Int) + 1 := wrap_same (by omega) (by omega)
             go_simp
             obtain ⟨-, -, i0, i1, i2, i4, i5, i6, i7, i9, -, p3, p8, -⟩ := HI.out
             exact hK.out _ _ ⟨(fun h => (keepB (x6 h) (by decide))), qB x9, qF i0, qF i1, qF i2, qF i4, qF i5, qP, qF i7, (fun h => by rw [put_ne (show 6 ≠ 46 by decide), put_ne (show 48 ≠ 46 by decide)]; exact i9 h), hL, (fun h => by obtain ⟨⟨hs, hv⟩, ho⟩ := p3 h; exact ⟨⟨by rw [put_ne (show 43 ≠ 46 by decide)]; exact hs, rfl⟩, fun ht => by have ho := ho ht; exact (by rw [put_ne (show 43 ≠ 46 by decide)]; exact ho)⟩), (fun h => by obtain ⟨hs, ho⟩ := p8 h; exact ⟨(by rw [put_ne (show 48 ≠ 46 by decide)]; exact hs), (by rw [put_ne (show 48 ≠ 46 by decide)]; exact ho)⟩), m8_3, m9_8, m2_0, m3_2, m7_4, m8_7, hS⟩
           · refine qst fun g ac wc hn hk hr HI K' hK => ?_
             obtain ⟨x6, x9, i0, i1, i2, i4, i5, i6, i7, i9, hL, p3, p8, m8_3, m9_8, m2_0, m3_2, m7_4, m8_7, hS⟩ := HI.out
             simp [Region.binds] at hr
             have y4 := i4 (by simp [hr])
             have y6 := i6 (by simp [hr])
             have gm4 : g 4 = true := by first | exact m7_4 (by simp [hr]) | exact hr | exact hr.1 | exact hr.2 | exact hr.2.1 | simp [hr]
             have z4 := sl_get y4 (by omega)
             have z6 := sl_get y6 (by omega)
             clear i0 i1 i2 i4 i5 i6 i7 i9 p3 p8
             have htn : ((i : Int) + 1).toNat = i + 1 := by omega
             have hle : (0 ≤ (i : Int) + 1) = True := by simp; omega
             have hle2 : ((i : Int) + 1 ≤ (L.length : Int)) = True := by simp; omega
             have hc2 : (cL = i + 1) = True := by simp; omega
             go_simp
             obtain ⟨-, -, i0, i1, i2, i4, i5, i6, i7, i9, -, p3, p8, -⟩ := HI.out
             exact hK.out _ _ ⟨(fun h => (keepB (x6 h) (by decide))), qB x9, qF i0, qF i1, qF i2, qF i4, qF i5, qF i6, qP, (fun h => by rw [put_ne (show 6 ≠ 47 by decide), put_ne (show 48 ≠ 47 by decide)]; exact i9 h), hL, (fun h => by obtain ⟨⟨hs, hv⟩, ho⟩ := p3 h; exact ⟨⟨by rw [put_ne (show 43 ≠ 47 by decide)]; exact hs, rfl⟩, fun ht => by have ho := ho ht; exact (by rw [put_ne (show 43 ≠ 47 by decide)]; exact ho)⟩), (fun h => by obtain ⟨hs, ho⟩ := p8 h; exact ⟨(by rw [put_ne (show 48 ≠ 47 by decide)]; exact hs), (by rw [put_ne (show 48 ≠ 47 by decide)]; exact ho)⟩), m8_3, m9_8, m2_0, m3_2, (fun _ => gm4), (fun _ => rfl), hS⟩
           · refine qst fun g ac wc hn hk hr HI K' hK => ?_
             obtain ⟨x6, x9, i0, i1, i2, i4, i5, i6, i7, i9, hL, p3, p8, m8_3, m9_8, m2_0, m3_2, m7_4, m8_7, hS⟩ := HI.out
             simp [Region.binds] at hr
             replace i0 := Lib.hid i0
             replace i1 := Lib.hid i1
             replace i2 := Lib.hid i2
             replace i4 := Lib.hid i4
             replace i5 := Lib.hid i5
             replace i6 := Lib.hid i6
             replace i7 := Lib.hid i7
             replace i9 := Lib.hid i9
             replace p3 := Lib.hid p3
             replace p8 := Lib.hid p8
             have gm7 : g 7 = true := (by simp [hr])
             have gA : g 3 = true := (by simp [hr])
             obtain ⟨hsA, hoA⟩ := p3.out gA
             have hoA := hoA hk
             have y7 := i7.out (by simp [hr])
             refine wpA_Int64 (.tmp 43) (.tmp 47) rfl w5.heap.size (sl ac 43) (L.take i) rfl hoA ⟨gL, 0, none⟩ 0 0 ([] : List Int) y7 (by simp) ((show RowAt wc gL 0 (nums []) from ⟨by have := hL.size; omega, fun j u hj => by simp [nums] at hj⟩)).add (by rw [List.length_take]; omega) hS ?_
             intro v4 w4 ho4 hg4 hat4
             have hlen8 : (L.take i ++ ([] : List Int)).length = L.length - 1 := by simp; omega
             rw [hlen8] at ho4
             have hL4 : Below w5.heap.size wc w4 := Below.grown (Below.refl _ _) hg4 hS (fun k e => (hoA.lt k e).1)
             exact hK.out _ _ ⟨(fun h => (keepB (x6 h) (by decide))), qB x9, qF i0.out, qF i1.out, qF i2.out, qF i4.out, qF i5.out, qF i6.out, qF i7.out, (fun h => absurd (m9_8 h) (by rw [hk]; simp)), Below.trans hL (hL4.mono hSB), (fun h => by obtain ⟨⟨hs, hv⟩, ho⟩ := p3.out h; exact ⟨⟨by rw [put_ne (show 43 ≠ 48 by decide)]; exact hs, rfl⟩, fun h => absurd h (by simp)⟩), (fun _ => ⟨by rw [put_eq (by omega)]; exact isSl_of ho4, by rw [put_eq (by omega)]; exact ho4⟩), (fun _ => gA), (fun _ => rfl), m2_0, m3_2, m7_4, (fun _ => gm7), Nat.le_trans hS hL4.size⟩
           · refine qst fun g ac wc hn hk hr HI K' hK => ?_
             obtain ⟨x6, x9, i0, i1, i2, i4, i5, i6, i7, i9, hL, p3, p8, m8_3, m9_8, m2_0, m3_2, m7_4, m8_7, hS⟩ := HI.out
             simp [Region.binds] at hr
             have gm8 : g 8 = true := by first | exact m9_8 (by simp [hr]) | exact hr | exact hr.1 | exact hr.2 | exact hr.2.1 | simp [hr]
             obtain ⟨⟨aa8, cc8, y8⟩, -⟩ := p8 (by simp [hr])
             have z8 := sl_get y8 (by omega)
             clear i0 i1 i2 i4 i5 i6 i7 i9 p3 p8
             go_simp
             obtain ⟨-, -, i0, i1, i2, i4, i5, i6, i7, i9, -, p3, p8, -⟩ := HI.out
             exact hK.out _ _ ⟨(fun h => absurd h (by simp)), qB x9, qF i0, qF i1, qF i2, qF i4, qF i5, qF i6, qF i7, (fun _ => by rw [put_ne (show 48 ≠ 6 by decide), y8]; exact put_eq (a := ac) (i := 6) (by omega)), hL, (fun h => by obtain ⟨⟨hs, hv⟩, ho⟩ := p3 h; exact ⟨⟨by rw [put_ne (show 43 ≠ 6 by decide)]; exact hs, rfl⟩, fun ht => by have ho := ho ht; exact (by rw [put_ne (show 43 ≠ 6 by decide)]; exact ho)⟩), (fun h => by obtain ⟨hs, ho⟩ := p8 h; exact ⟨(by rw [put_ne (show 48 ≠ 6 by decide)]; exact hs), (by rw [put_ne (show 48 ≠ 6 by decide)]; exact ho)⟩), m8_3, (fun _ => gm8), m2_0, m3_2, m7_4, m8_7, hS⟩
       · skip
         have hL0 := Later.refl w5
         have hSB : w5.heap.size ≤ w5.heap.size := Nat.le_refl _
         go_wp2_with fail
         refine region_slots 68 [40, 41, 42, 43, 44, 45, 46, 47, 48, 6] (fun g ac wc => (g 9 = false → sl ac 6 = .slice (some ⟨gL, 0, none⟩) L.length cL) ∧
          sl ac 9 = .int .i64 (i : Nat) ∧
          (g 0 = true → sl ac 40 = .slice (some ⟨gL, 0, none⟩) L.length cL) ∧
          (g 1 = true → sl ac 41 = .int .i64 (i : Nat)) ∧
          (g 2 = true → sl ac 42 = .slice (some ⟨gL, 0, none⟩) i cL) ∧
          (g 4 = true → sl ac 44 = .slice (some ⟨gL, 0, none⟩) L.length cL) ∧
          (g 5 = true → sl ac 45 = .int .i64 (i : Nat)) ∧
          (g 6 = true → sl ac 46 = .int .i64 ((i : Int) + 1)) ∧
          (g 7 = true → sl ac 47 = .slice (some ⟨gL, i + 1, none⟩) (L.length - (i + 1)) (cL - (i + 1))) ∧
          (g 9 = true → sl ac 6 = sl ac 48) ∧
          Later w5 wc ∧
          (g 3 = true → (IsSl (sl ac 43) ((L.take i).length) ∧ sl ac 43 = sl ac 43) ∧ (g 8 = false → wc.ownsRow w5.heap.size 2 1 (sl ac 43) ((L.take i).length) (nums (L.take i)))) ∧
          (g 8 = true → (IsSl (sl ac 48) ((L.length - 1))) ∧ wc.ownsRow w5.heap.size 2 1 (sl ac 48) ((L.length - 1)) (nums (L.take i ++ (L.drop (i + 1))))) ∧
          (g 8 = true → g 3 = true) ∧
          (g 9 = true → g 8 = true) ∧
          (g 2 = true → g 0 = true) ∧
          (g 3 = true → g 2 = true) ∧
          (g 7 = true → g 4 = true) ∧
          (g 8 = true → g 7 = true) ∧
          w5.heap.size ≤ wc.heap.size) (by kernel_rfl) (by kernel_rfl) rfl (by kernel_rfl) ?_ ?_ ?_
         · exact ⟨fun _ => rfl, rfl, nofun, nofun, nofun, nofun, nofun, nofun, nofun, nofun, hL0.drew, nofun, nofun, nofun, nofun, nofun, nofun, nofun, nofun, Nat.le_refl _⟩
         · intro g ac wu hg ha hI
           obtain ⟨x6, x9, i0, i1, i2, i4, i5, i6, i7, i9, hL, p3, p8, -, -, -, -, -, -, hS⟩ := hI
           obtain ⟨⟨⟨ar3, capr3, f3⟩, e3⟩, -⟩ := p3 (hg 3 (by simp))
           clear e3
           have e3 := f3
           obtain ⟨⟨ar8, capr8, e8⟩, HO8⟩ := p8 (hg 8 (by simp))
           rw [e8] at HO8
           have a0 := i0 (hg 0 (by simp))
           have a1 := i1 (hg 1 (by simp))
           have a2 := i2 (hg 2 (by simp))
           have a4 := i4 (hg 4 (by simp))
           have a5 := i5 (hg 5 (by simp))
           have a6 := i6 (hg 6 (by simp))
           have a7 := i7 (hg 7 (by simp))
           have a9 := i9 (hg 9 (by simp))
           rw [e8] at a9
           simp only [putAll, e3, e8, a0, a1, a2, a4, a5, a6, a7, a9] at ha
           simp only [Act.put, List.setIfInBounds_toArray, List.set_cons_succ, List.set_cons_zero] at ha
           rw [ha]
           clear x6 x9 i0 i1 i2 i4 i5 i6 i7 i9 a0 a1 a2 a4 a5 a6 a7 a9 p3 p8 e3 e8 f3 hg ha
           have hS5u := hS5.later hL
           have hD5u := hD5.later hL
           have HR6 := Lib.hid (owns_later HR5.out hL)
           have HO6 := Lib.hid (owns_later HO5.out hL)
           have hz6 := Nat.le_trans hz5 hL.size
           have hlen8 : (L.take i ++ (L.drop (i + 1))).length = L.length - 1 := by simp; omega
           rw [← hlen8] at HO8 ⊢
           go_wp2
           go_roundw
           case rel => exact ⟨(L.take i ++ (L.drop (i + 1))), O ++ [y], owns_base HO8 (by omega), HO6.out, (fun j hj e => by have h1 := (HO5.out.lt _ hj).2; have h2 := (HO8.lt _ e).1; omega), by simp; omega, HR6.out, hz6, hD5u, hS5u⟩
           case measure => simp only [lenOf_slice]; simp; omega
         · refine .cons ?_ (.cons ?_ (.cons ?_ (.cons ?_ (.cons ?_ (.cons ?_ (.cons ?_ (.cons ?_ (.cons ?_ (.cons ?_ .nil)))))))))
           · refine qst fun g ac wc hn hk hr HI K' hK => ?_
             obtain ⟨x6, x9, i0, i1, i2, i4, i5, i6, i7, i9, hL, p3, p8, m8_3, m9_8, m2_0, m3_2, m7_4, m8_7, hS⟩ := HI.out
             simp [Region.binds] at hr
             clear i0 i1 i2 i4 i5 i6 i7 i9 p3 p8
             have hst : g 9 = false := by
              cases hq : g 9 with
              | false => rfl
              | true => have hh := m2_0 (m3_2 (m8_3 (m9_8 hq))); rw [hk] at hh; cases hh
             have y6 := x6 hst
             go_simp
             obtain ⟨-, -, i0, i1, i2, i4, i5, i6, i7, i9, -, p3, p8, -⟩ := HI.out
             exact hK.out _ _ ⟨(fun h => (keepB (x6 h) (by decide))), qB x9, qP, qF i1, (fun h => absurd (m2_0 h) (by rw [hk]; simp)), qF i4, qF i5, qF i6, qF i7, (fun h => by rw [put_ne (show 6 ≠ 40 by decide), put_ne (show 48 ≠ 40 by decide)]; exact i9 h), hL, (fun h => by obtain ⟨⟨hs, hv⟩, ho⟩ := p3 h; exact ⟨⟨by rw [put_ne (show 43 ≠ 40 by decide)]; exact hs, rfl⟩, fun ht => by have ho := ho ht; exact (by rw [put_ne (show 43 ≠ 40 by decide)]; exact ho)⟩), (fun h => by obtain ⟨hs, ho⟩ := p8 h; exact ⟨(by rw [put_ne (show 48 ≠ 40 by decide)]; exact hs), (by rw [put_ne (show 48 ≠ 40 by decide)]; exact ho)⟩), m8_3, m9_8, (fun _ => rfl), m3_2, m7_4, m8_7, hS⟩
           · refine qst fun g ac wc hn hk hr HI K' hK => ?_
             obtain ⟨x6, x9, i0, i1, i2, i4, i5, i6, i7, i9, hL, p3, p8, m8_3, m9_8, m2_0, m3_2, m7_4, m8_7, hS⟩ := HI.out
             simp [Region.binds] at hr
             clear i0 i1 i2 i4 i5 i6 i7 i9 p3 p8
             go_simp
             obtain ⟨-, -, i0, i1, i2, i4, i5, i6, i7, i9, -, p3, p8, -⟩ := HI.out
             exact hK.out _ _ ⟨(fun h => (keepB (x6 h) (by decide))), qB x9, qF i0, qP, qF i2, qF i4, qF i5, qF i6, qF i7, (fun h => by rw [put_ne (show 6 ≠ 41 by decide), put_ne (show 48 ≠ 41 by decide)]; exact i9 h), hL, (fun h => by obtain ⟨⟨hs, hv⟩, ho⟩ := p3 h; exact ⟨⟨by rw [put_ne (show 43 ≠ 41 by decide)]; exact hs, rfl⟩, fun ht => by have ho := ho ht; exact (by rw [put_ne (show 43 ≠ 41 by decide)]; exact ho)⟩), (fun h => by obtain ⟨hs, ho⟩ := p8 h; exact ⟨(by rw [put_ne (show 48 ≠ 41 by decide)]; exact hs), (by rw [put_ne (show 48 ≠ 41 by decide)]; exact ho)⟩), m8_3, m9_8, m2_0, m3_2, m7_4, m8_7, hS⟩
           · refine qst fun g ac wc hn hk hr HI K' hK => ?_
             obtain ⟨x6, x9, i0, i1, i2, i4, i5, i6, i7, i9, hL, p3, p8, m8_3, m9_8, m2_0, m3_2, m7_4, m8_7, hS⟩ := HI.out
             simp [Region.binds] at hr
             have y0 := i0 (by simp [hr])
             have y1 := i1 (by simp [hr])
             have gm0 : g 0 = true := by first | exact m2_0 (by simp [hr]) | exact hr | exact hr.1 | exact hr.2 | exact hr.2.1 | simp [hr]
             have z0 := sl_get y0 (by omega)
             have z1 := sl_get y1 (by omega)
             clear i0 i1 i2 i4 i5 i6 i7 i9 p3 p8
             have hle2 : ((i : Int) ≤ (cL : Int)) = True := by simp; omega
             go_simp
             obtain ⟨-, -, i0, i1, i2, i4, i5, i6, i7, i9, -, p3, p8, -⟩ := HI.out
             exact hK.out _ _ ⟨(fun h => (keepB (x6 h) (by decide))), qB x9, qF i0, qF i1, qP, qF i4, qF i5, qF i6, qF i7, (fun h => by rw [put_ne (show 6 ≠ 42 by decide), put_ne (show 48 ≠ 42 by decide)]; exact i9 h), hL, (fun h => by obtain ⟨⟨hs, hv⟩, ho⟩ := p3 h; exact ⟨⟨by rw [put_ne (show 43 ≠ 42 by decide)]; exact hs, rfl⟩, fun ht => by have ho := ho ht; exact (by rw [put_ne (show 43 ≠ 42 by decide)]; exact ho)⟩), (fun h => by obtain ⟨hs, ho⟩ := p8 h; exact ⟨(by rw [put_ne (show 48 ≠ 42 by decide)]; exact hs), (by rw [put_ne (show 48 ≠ 42 by decide)]; exact ho)⟩), m8_3, m9_8, (fun _ => gm0), (fun _ => rfl), m7_4, m8_7, hS⟩
           · refine qst fun g ac wc hn hk hr HI K' hK => ?_
             obtain ⟨x6, x9, i0, i1, i2, i4, i5, i6, i7, i9, hL, p3, p8, m8_3, m9_8, m2_0, m3_2, m7_4, m8_7, hS⟩ := HI.out
             simp [Region.binds] at hr
             have y2 := i2 (by simp [hr])
             have gm2 : g 2 = true := by first | exact m3_2 (by simp [hr]) | exact hr | exact hr.1 | exact hr.2 | exact hr.2.1 | simp [hr]
             clear i0 i1 i2 i4 i5 i6 i7 i9 p3 p8
             go_simp
             refine (w_l01OwnS ⟨gL, 0, none⟩ i cL (L.take i) _ (IsNums.take (reads_of_owns (owns_later HL5.out hL) (by omega)) (by omega))).mono ?_
             rintro e w4 ⟨a4, l4, c4, rfl, hL4, ho4⟩
             obtain ⟨a5, c5, e5⟩ := isSl_of ho4
             simp only [Value.slice.injEq] at e5
             obtain ⟨rfl, rfl, rfl⟩ := e5
             obtain ⟨-, -, i0, i1, i2, i4, i5, i6, i7, i9, -, p3, p8, -⟩ := HI.out
             exact hK.out _ _ ⟨(fun h => (keepB (x6 h) (by decide))), qB x9, qF i0, qF i1, qF i2, qF i4, qF i5, qF i6, qF i7, (fun h => by rw [put_ne (show 6 ≠ 43 by decide), put_ne (show 48 ≠ 43 by decide)]; exact i9 h), hL.trans hL4, (fun _ => ⟨⟨by rw [put_eq (by omega)]; exact ⟨_, _, rfl⟩, rfl⟩, fun _ => by rw [put_eq (by omega)]; exact owns_base ho4 hS⟩), (fun h => by obtain ⟨hs, ho⟩ := p8 h; exact ⟨(by rw [put_ne (show 48 ≠ 43 by decide)]; exact hs), (by rw [put_ne (show 48 ≠ 43 by decide)]; exact (owns_later ho hL4))⟩), (fun _ => rfl), m9_8, m2_0, (fun _ => gm2), m7_4, m8_7, Nat.le_trans hS hL4.size⟩
           · refine qst fun g ac wc hn hk hr HI K' hK => ?_
             obtain ⟨x6, x9, i0, i1, i2, i4, i5, i6, i7, i9, hL, p3, p8, m8_3, m9_8, m2_0, m3_2, m7_4, m8_7, hS⟩ := HI.out
             simp [Region.binds] at hr
             clear i0 i1 i2 i4 i5 i6 i7 i9 p3 p8
             have hst : g 9 = false := by
              cases hq : g 9 with
              | false => rfl
              | true => have hh := m7_4 (m8_7 (m9_8 hq)); rw [hk] at hh; cases hh
             have y6 := x6 hst
             go_simp
             obtain ⟨-, -, i0, i1, i2, i4, i5, i6, i7, i9, -, p3, p8, -⟩ := HI.out
             exact hK.out _ _ ⟨(fun h => (keepB (x6 h) (by decide))), qB x9, qF i0, qF i1, qF i2, qP, qF i5, qF i6, (fun h => absurd (m7_4 h) (by rw [hk]; simp)), (fun h => by rw [put_ne (show 6 ≠ 44 by decide), put_ne (show 48 ≠ 44 by decide)]; exact i9 h), hL, (fun h => by obtain ⟨⟨hs, hv⟩, ho⟩ := p3 h; exact ⟨⟨by rw [put_ne (show 43 ≠ 44 by decide)]; exact hs, rfl⟩, fun ht => by have ho := ho ht; exact (by rw [put_ne (show 43 ≠ 44 by decide)]; exact ho)⟩), (fun h => by obtain ⟨hs, ho⟩ := p8 h; exact ⟨(by rw [put_ne (show 48 ≠ 44 by decide)]; exact hs), (by rw [put_ne (show 48 ≠ 44 by decide)]; exact ho)⟩), m8_3, m9_8, m2_0, m3_2, (fun _ => rfl), m8_7, hS⟩
           · refine qst fun g ac wc hn hk hr HI K' hK => ?_
             obtain ⟨x6, x9, i0, i1, i2, i4, i5, i6, i7, i9, hL, p3, p8, m8_3, m9_8, m2_0, m3_2, m7_4, m8_7, hS⟩ := HI.out
             simp [Region.binds] at hr
             clear i0 i1 i2 i4 i5 i6 i7 i9 p3 p8
             go_simp
             obtain ⟨-, -, i0, i1, i2, i4, i5, i6, i7, i9, -, p3, p8, -⟩ := HI.out
             exact hK.out _ _ ⟨(fun h => (keepB (x6 h) (by decide))), qB x9, qF i0, qF i1, qF i2, qF i4, qP, qF i6, qF i7, (fun h => by rw [put_ne (show 6 ≠ 45 by decide), put_ne (show 48 ≠ 45 by decide)]; exact i9 h), hL, (fun h => by obtain ⟨⟨hs, hv⟩, ho⟩ := p3 h; exact ⟨⟨by rw [put_ne (show 43 ≠ 45 by decide)]; exact hs, rfl⟩, fun ht => by have ho := ho ht; exact (by rw [put_ne (show 43 ≠ 45 by decide)]; exact ho)⟩), (fun h => by obtain ⟨hs, ho⟩ := p8 h; exact ⟨(by rw [put_ne (show 48 ≠ 45 by decide)]; exact hs), (by rw [put_ne (show 48 ≠ 45 by decide)]; exact ho)⟩), m8_3, m9_8, m2_0, m3_2, m7_4, m8_7, hS⟩
           · refine qst fun g ac wc hn hk hr HI K' hK => ?_
             obtain ⟨x6, x9, i0, i1, i2, i4, i5, i6, i7, i9, hL, p3, p8, m8_3, m9_8, m2_0, m3_2, m7_4, m8_7, hS⟩ := HI.out
             simp [Region.binds] at hr
             have y5 := i5 (by simp [hr])
             have z5 := sl_get y5 (by omega)
             clear i0 i1 i2 i4 i5 i6 i7 i9 p3 p8
             have wD : IntKind.i64.wrap ((i : Int) + 1) = (i : Int) + 1 := wrap_same (by omega) (by omega)
             go_simp
             obtain ⟨-, -, i0, i1, i2, i4, i5, i6, i7, i9, -, p3, p8, -⟩ := HI.out
             exact hK.out _ _ ⟨(fun h => (keepB (x6 h) (by decide))), qB x9, qF i0, qF i1, qF i2, qF i4, qF i5, qP, qF i7, (fun h => by rw [put_ne (show 6 ≠ 46 by decide), put_ne (show 48 ≠ 46 by decide)]; exact i9 h), hL, (fun h => by obtain ⟨⟨hs, hv⟩, ho⟩ := p3 h; exact ⟨⟨by rw [put_ne (show 43 ≠ 46 by decide)]; exact hs, rfl⟩, fun ht => by have ho := ho ht; exact (by rw [put_ne (show 43 ≠ 46 by decide)]; exact ho)⟩), (fun h => by obtain ⟨hs, ho⟩ := p8 h; exact ⟨(by rw [put_ne (show 48 ≠ 46 by decide)]; exact hs), (by rw [put_ne (show 48 ≠ 46 by decide)]; exact ho)⟩), m8_3, m9_8, m2_0, m3_2, m7_4, m8_7, hS⟩
           · refine qst fun g ac wc hn hk hr HI K' hK => ?_
             obtain ⟨x6, x9, i0, i1, i2, i4, i5, i6, i7, i9, hL, p3, p8, m8_3, m9_8, m2_0, m3_2, m7_4, m8_7, hS⟩ := HI.out
             simp [Region.binds] at hr
             have y4 := i4 (by simp [hr])
             have y6 := i6 (by simp [hr])
             have gm4 : g 4 = true := by first | exact m7_4 (by simp [hr]) | exact hr | exact hr.1 | exact hr.2 | exact hr.2.1 | simp [hr]
             have z4 := sl_get y4 (by omega)
             have z6 := sl_get y6 (by omega)
             clear i0 i1 i2 i4 i5 i6 i7 i9 p3 p8
             have htn : ((i : Int) + 1).toNat = i + 1 := by omega
             have hle : (0 ≤ (i : Int) + 1) = True := by simp; omega
             have hle2 : ((i : Int) + 1 ≤ (L.length : Int)) = True := by simp; omega
             have hc2 : (cL = i + 1) = False := by simp; omega
             go_simp
             obtain ⟨-, -, i0, i1, i2, i4, i5, i6, i7, i9, -, p3, p8, -⟩ := HI.out
             exact hK.out _ _ ⟨(fun h => (keepB (x6 h) (by decide))), qB x9, qF i0, qF i1, qF i2, qF i4, qF i5, qF i6, qP, (fun h => by rw [put_ne (show 6 ≠ 47 by decide), put_ne (show 48 ≠ 47 by decide)]; exact i9 h), hL, (fun h => by obtain ⟨⟨hs, hv⟩, ho⟩ := p3 h; exact ⟨⟨by rw [put_ne (show 43 ≠ 47 by decide)]; exact hs, rfl⟩, fun ht => by have ho := ho ht; exact (by rw [put_ne (show 43 ≠ 47 by decide)]; exact ho)⟩), (fun h => by obtain ⟨hs, ho⟩ := p8 h; exact ⟨(by rw [put_ne (show 48 ≠ 47 by decide)]; exact hs), (by rw [put_ne (show 48 ≠ 47 by decide)]; exact ho)⟩), m8_3, m9_8, m2_0, m3_2, (fun _ => gm4), (fun _ => rfl), hS⟩
           · refine qst fun g ac wc hn hk hr HI K' hK => ?_
             obtain ⟨x6, x9, i0, i1, i2, i4, i5, i6, i7, i9, hL, p3, p8, m8_3, m9_8, m2_0, m3_2, m7_4, m8_7, hS⟩ := HI.out
             simp [Region.binds] at hr
             replace i0 := Lib.hid i0
             replace i1 := Lib.hid i1
             replace i2 := Lib.hid i2
             replace i4 := Lib.hid i4
             replace i5 := Lib.hid i5
             replace i6 := Lib.hid i6
             replace i7 := Lib.hid i7
             replace i9 := Lib.hid i9
             replace p3 := Lib.hid p3
             replace p8 := Lib.hid p8
             have gm7 : g 7 = true := (by simp [hr])
             have gA : g 3 = true := (by simp [hr])
             obtain ⟨hsA, hoA⟩ := p3.out gA
             have hoA := hoA hk
             have y7 := i7.out (by simp [hr])
             refine wpA_Int64 (.tmp 43) (.tmp 47) rfl w5.heap.size (sl ac 43) (L.take i) rfl hoA ⟨gL, i + 1, none⟩ (L.length - (i + 1)) (cL - (i + 1)) (L.drop (i + 1)) y7 (by simp) ((row_at_drop (owns_later HL5.out hL) (i + 1) (by have := hL.size; omega))).add (by rw [List.length_take]; omega) hS ?_
             intro v4 w4 ho4 hg4 hat4
             have hlen8 : (L.take i ++ (L.drop (i + 1))).length = L.length - 1 := by simp; omega
             rw [hlen8] at ho4
             have hL4 : Below w5.heap.size wc w4 := Below.grown (Below.refl _ _) hg4 hS (fun k e => (hoA.lt k e).1)
             exact hK.out _ _ ⟨(fun h => (keepB (x6 h) (by decide))), qB x9, qF i0.out, qF i1.out, qF i2.out, qF i4.out, qF i5.out, qF i6.out, qF i7.out, (fun h => absurd (m9_8 h) (by rw [hk]; simp)), Below.trans hL (hL4.mono hSB), (fun h => by obtain ⟨⟨hs, hv⟩, ho⟩ := p3.out h; exact ⟨⟨by rw [put_ne (show 43 ≠ 48 by decide)]; exact hs, rfl⟩, fun h => absurd h (by simp)⟩), (fun _ => ⟨by rw [put_eq (by omega)]; exact isSl_of ho4, by rw [put_eq (by omega)]; exact ho4⟩), (fun _ => gA), (fun _ => rfl), m2_0, m3_2, m7_4, (fun _ => gm7), Nat.le_trans hS hL4.size⟩
           · refine qst fun g ac wc hn hk hr HI K' hK => ?_
             obtain ⟨x6, x9, i0, i1, i2, i4, i5, i6, i7, i9, hL, p3, p8, m8_3, m9_8, m2_0, m3_2, m7_4, m8_7, hS⟩ := HI.out
             simp [Region.binds] at hr
             have gm8 : g 8 = true := by first | exact m9_8 (by simp [hr]) | exact hr | exact hr.1 | exact hr.2 | exact hr.2.1 | simp [hr]
             obtain ⟨⟨aa8, cc8, y8⟩, -⟩ := p8 (by simp [hr])
             have z8 := sl_get y8 (by omega)
             clear i0 i1 i2 i4 i5 i6 i7 i9 p3 p8
             go_simp
             obtain ⟨-, -, i0, i1, i2, i4, i5, i6, i7, i9, -, p3, p8, -⟩ := HI.out
             exact hK.out _ _ ⟨(fun h => absurd h (by simp)), qB x9, qF i0, qF i1, qF i2, qF i4, qF i5, qF i6, qF i7, (fun _ => by rw [put_ne (show 48 ≠ 6 by decide), y8]; exact put_eq (a := ac) (i := 6) (by omega)), hL, (fun h => by obtain ⟨⟨hs, hv⟩, ho⟩ := p3 h; exact ⟨⟨by rw [put_ne (show 43 ≠ 6 by decide)]; exact hs, rfl⟩, fun ht => by have ho := ho ht; exact (by rw [put_ne (show 43 ≠ 6 by decide)]; exact ho)⟩), (fun h => by obtain ⟨hs, ho⟩ := p8 h; exact ⟨(by rw [put_ne (show 48 ≠ 6 by decide)]; exact hs), (by rw [put_ne (show 48 ≠ 6 by decide)]; exact ho)⟩), m8_3, (fun _ => gm8), m2_0, m3_2, m7_4, m8_7, hS⟩
     · have hneb : decide ((0 : Int) < (L.length : Int)) = false := decide_eq_false (by omega)
       obtain ⟨aL, cL, rfl⟩ := isSl_of HL.out
       obtain ⟨aO, cO, rfl⟩ := isSl_of HO.out
       go_wp2_with fail
       refine (w_l01Next k c 16 _ qsh).mono ?_
       rintro e w3 ⟨x, rfl, xa, xb, hD, hS3⟩
       have hD3 := hDr.trans hD
       have hz3 := Nat.le_trans hz hD.size
       have HO3 := Lib.hid (hD.owns HO.out (by omega))
       have HR3 := Lib.hid (hD.owns HR.out (by omega))
       clear hD HL HO HR HAp
       by_cases hq0 : x = 0
       · subst hq0
         go_wp2_with (at_builtin; refine app1_Int64 rfl (.tmp 53) (.tmp 54) rfl w2.heap.size _ O 0 rfl HO3.out (by simp [Act.eval, Array.getD]) (by omega) hz3 ?_; intro v5 w5 ho5 hg5)
         have HR5 := Lib.hid (rows_grown HR3.out hg5 (fun j hj e => by have h1 := HRL.out j hj; have h2 := (HO3.out.lt _ e).1; omega))
         have hD5 := hD3.own (by omega) HO3.out hg5
         have HO5 := Lib.hid ho5
         obtain ⟨a5, c5, rfl⟩ := isSl_of ho5
         clear ho5 hg5
         go_wp2
         go_ret2
         exact ⟨_, l, _, O ++ [0], rfl, owns_base HR5.out (by omega), hl7, owns_base HO5.out (by omega), by simp; omega, Later.drawn (k := k) (Later.refl w) hk0 hD5⟩
       have hqb : (x == 0) = false := by simpa using hq0
       by_cases hq1 : x = 1
       · subst hq1
         by_cases hO0 : 0 < O.length
         · have hOb : decide ((0 : Int) < (O.length : Int)) = true := by simp; omega
           rcases own_shape HO3.out with ⟨_, h0, _⟩ | ⟨gO, cO, hv, hgO, hgO2, hcO, hcO2⟩
           · omega
           cases hv
           go_wp2_with fail
           refine (w_l01Pick k c _ [-1, 0, 6] _ qsh (reads_new' _ _ [-1, 0, 6] (by simp) (by first | rfl | (simp; done))) (by simp) (allIn_new (by omega))).mono ?_
           rintro e w4 ⟨p, rfl, -, hD, hS4⟩
           have hD4 := (show Drawn w _ k from qdh).trans hD
           have HO4 := Lib.hid (hD.owns (qoh HO3) (by omega))
           have HR4 := Lib.hid (hD.owns (qoh HR3) (by omega))
           have hz4 : w3.heap.size ≤ w4.heap.size := Nat.le_trans (by simp) hD.size
           obtain ⟨y, hy⟩ := get_ex (l := O) (k := 0) hO0
           have hcell := own_num HO4.out hy
           clear hy
           have hrne : (Value.slice ar l.length capr).ownBlock ≠ some gO := fun e => by have h1 := HRL.out gO e; omega
           have HOn := Lib.hid (own_put HO4.out hO0 p)
           clear hD
           obtain ⟨cur4, hblk4⟩ := own_blk HO4.out hO0
           have hfr4 := (blk_at hblk4).2.1
           go_wp2
           go_ret2
           exact ⟨_, l, _, O.set 0 p, rfl, owns_base (owns_setNe HR4.out hrne _ _) (by omega), hl7, by simpa using owns_base HOn.out (by omega), by simp; omega, Later.drawn (k := k) (Later.refl w) hk0 (hD4.setCell (by omega) _ _)⟩
         · have hOb : decide ((0 : Int) < (O.length : Int)) = false := decide_eq_false (by omega)
           go_wp2
           go_ret2
           exact ⟨_, l, _, O, rfl, owns_base HR3.out (by omega), hl7, owns_base HO3.out (by omega), by omega, Later.drawn (k := k) (Later.refl w) hk0 hD3⟩
       have hqb1 : (x == 1) = false := by simpa using hq1
       go_wp2
       go_ret2
       exact ⟨_, l, _, O, rfl, owns_base HR3.out (by omega), hl7, owns_base HO3.out (by omega), by omega, Later.drawn (k := k) (Later.refl w) hk0 hD3⟩
end Go.Proofs.YtkoojngonldcbaaGreat
