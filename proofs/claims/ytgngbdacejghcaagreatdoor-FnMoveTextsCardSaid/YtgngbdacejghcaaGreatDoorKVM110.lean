/- DERIVED. Walks: drawn lists of moves. -/
import Derived.Test.YtgngbdacejghcaaGreatDoorKVM109
import Derived.Test.YtgngbdacejghcaaGreatDoorKVM37
import Derived.Test.YtgngbdacejghcaaGreatDoorKVM7
namespace Go.Proofs.YtgngbdacejghcaaGreatDoor
set_option linter.unusedVariables false
set_option linter.unusedSimpArgs false
open Go.RowKit
set_option maxRecDepth 100000
theorem app1at_Move {ops : Array Oper} {rest : List Oper} {o : Oper} {a : Act} {w : World} {Q : Exit → Act → World → Prop} (hgd : o.guard = none) (s x' : Operand)
 (ho : o.op = .call { callee := .builtin .append, args := #[s, x'], argTypes := #[52, 52] })
 (base : Nat) (v : Value) (l : List Mov) (x : Mov) (hs : a.eval s = v) (hown : w.ownsRow base 107 4 v l.length (movs l))
 (hx : a.eval x' = .slice (some ⟨w.heap.size, 0, none⟩) 1 1) (hlen : l.length + 1 ≤ 1048576) (hbase : base ≤ w.heap.size)
 (h : ∀ v' w', w'.ownsRow base 107 4 v' (l ++ [x]).length (movs (l ++ [x])) → w.grownBy w' v.ownBlock → (∀ j, v'.ownBlock = some j → v.ownBlock = some j ∨ w.heap.size ≤ j) → wpList Tryz.prog ops Q rest (a.put o.dst v') w') :
 wpList Tryz.prog ops Q (o :: rest) a (w.alloc (.cells #[.int .i64 x.k, .int .i64 x.s, .int .i64 x.f.d, .int .i64 x.f.t] 107)) := by
 obtain ⟨i0, hi, hz0, hz1, hz2⟩ := info_parts ia_Move
 have hnews : ∀ j u, (movs [x])[j]? = some u → (w.alloc (.cells #[.int .i64 x.k, .int .i64 x.s, .int .i64 x.f.d, .int .i64 x.f.t] 107)).cell? ((⟨w.heap.size, 0, none⟩ : Addr).add j) = some u := by
  intro j u hj
  have hb : (w.alloc (.cells #[.int .i64 x.k, .int .i64 x.s, .int .i64 x.f.d, .int .i64 x.f.t] 107)).heap[w.heap.size]? = some (.cells #[.int .i64 x.k, .int .i64 x.s, .int .i64 x.f.d, .int .i64 x.f.t] 107 (0, 0)) := heap_alloc_new _ _
  have ha : (Addr.add ⟨w.heap.size, 0, none⟩ j) = ⟨w.heap.size, j, none⟩ := by
   unfold Addr.add
   split
   · rename_i hz; subst hz; rfl
   · simp
  rw [ha]
  simp only [World.cell?, hb]
  simpa [movs, Mov.cells] using hj
 refine wpList_append_own_at (P := Tryz.prog) (w := w.alloc (.cells #[.int .i64 x.k, .int .i64 x.s, .int .i64 x.f.d, .int .i64 x.f.t] 107)) hgd s x' 52 ho base 107 i0 _ 4 32 Tryz.underlying52 hi hz0 hz1 hz2 rfl (by decide) v l.length (movs l) hs (hown.alloc _) ⟨w.heap.size, 0, none⟩ 1 1 (movs [x]) hx (by rw [movs_len]; rfl) hnews (oneCell_movs _) (by unfold maxLen; omega) (by omega) (Nat.le_trans hbase (by simp)) ?_
 intro v' w' ho' hg _ hat
 refine h v' w' ?_ (grown_alloc hg) (fun j hj => ?_)
 · rw [List.length_append, show movs (l ++ [x]) = movs l ++ movs [x] from by simp [movs]]
   exact ho'
 · rcases hat with hat | hat
   · exact .inl (hat.symm.trans hj)
   · rw [hat] at hj
     have := Option.some.inj hj
     simp at this
     exact .inr (by omega)
theorem app1at_Move' {ops : Array Oper} {rest : List Oper} {o : Oper} {a : Act} {w : World} {Q : Exit → Act → World → Prop} (b : Nat) (hb : b = w.heap.size) (hgd : o.guard = none) (s x' : Operand)
 (ho : o.op = .call { callee := .builtin .append, args := #[s, x'], argTypes := #[52, 52] })
 (base : Nat) (v : Value) (l : List Mov) (x : Mov) (hs : a.eval s = v) (hown : w.ownsRow base 107 4 v l.length (movs l))
 (hx : a.eval x' = .slice (some ⟨b, 0, none⟩) 1 1) (hlen : l.length + 1 ≤ 1048576) (hbase : base ≤ w.heap.size)
 (h : ∀ v' w', w'.ownsRow base 107 4 v' (l ++ [x]).length (movs (l ++ [x])) → w.grownBy w' v.ownBlock → (∀ j, v'.ownBlock = some j → v.ownBlock = some j ∨ w.heap.size ≤ j) → wpList Tryz.prog ops Q rest (a.put o.dst v') w') :
 wpList Tryz.prog ops Q (o :: rest) a (w.alloc (.cells #[.int .i64 x.k, .int .i64 x.s, .int .i64 x.f.d, .int .i64 x.f.t] 107)) := by
 subst hb
 exact app1at_Move hgd s x' ho base v l x hs hown hx hlen hbase h
theorem own_le {w : World} {base : Nat} {e : TypeId} {s : Nat} {v : Value} {n : Nat} {xs : List Value} (ho : w.ownsRow base e s v n xs) : ∀ j, v.ownBlock = some j → j < w.heap.size := fun j h => (ho.lt j h).2
def slN' : Value → Nat
 | .slice _ n _ => n
 | _ => 0
theorem slN'_own {w : World} {base : Nat} {e : TypeId} {s : Nat} {v : Value} {n : Nat} {xs : List Value} (ho : w.ownsRow base e s v n xs) : slN' v = n := by
 obtain ⟨a, c, rfl⟩ := isSl_of ho
 rfl
set_option maxHeartbeats 4000000 in
theorem w_l12Draw (k : Nat) (c : Value) (w : World) (h : Src w k c) :
 Calls Tryz.prog 83 #[.pointer (some ⟨k, 0, none⟩)] w fun e w' => ∃ (n : Int) (u v : Value) (st sd : List Int) (s : Stg) (l : List Mov) (z : Value), e = .returned (.tuple #[.agg #[.int .i64 n, u, v], .agg #[.int .i64 s.sh, .int .i64 s.cu], z]) ∧ w'.ownsRow w.heap.size 2 1 u st.length (nums st) ∧ w'.ownsRow w.heap.size 2 1 v sd.length (nums sd) ∧ st.length ≤ 5 ∧ sd.length ≤ 5 ∧ w'.ownsRow w.heap.size 107 4 z l.length (movs l) ∧ l.length ≤ 31 ∧ Drawn w w' k ∧ Src w' k c := by
 have hk := h.lt
 go_enter Tryz.func83, Tryz.ntmps83
 go_wp2_with fail
 refine (w_l11Draw k c _ qsh).mono ?_
 rintro e w1 ⟨n, vu, vv, st, sd, rfl, hOu, hOv, hu5, hv5, hD, hS1⟩
 have hz1 : w.heap.size ≤ w1.heap.size := qsz hD.size
 have hD1 : Drawn w w1 k := Drawn.trans qdh hD
 have HK0_1 := Lib.hid (hD.keep (j := w.heap.size) qkh (by omega))
 have HK1_1 := Lib.hid (hD.keep (j := w.heap.size + 1) qkh (by omega))
 clear hD
 obtain ⟨c0, f0, z0_1⟩ := blk_at HK0_1.out
 obtain ⟨c1, f1, z1_1⟩ := blk_at HK1_1.out
 obtain ⟨au, capu, rfl⟩ := isSl_of hOu
 obtain ⟨av, capv, rfl⟩ := isSl_of hOv
 have HOu_1 := Lib.hid (owns_base (base' := w.heap.size + 2) hOu (by simp))
 have HOv_1 := Lib.hid (owns_base (base' := w.heap.size + 2) hOv (by simp))
 have hub := own_le hOu
 have hvb := own_le hOv
 clear hOu hOv
 have hnu5 := ne_own (k := w1.heap.size) HOu_1.out (by omega)
 have hnv5 := ne_own (k := w1.heap.size) HOv_1.out (by omega)
 go_wp2_with fail
 refine (w_l11DrawSetting k c _ qsh).mono ?_
 rintro e w2 ⟨s0, rfl, hD, hS2⟩
 have hz2 : w1.heap.size ≤ w2.heap.size := qsz hD.size
 have hD2 : Drawn w w2 k := Drawn.trans qdh hD
 have HK0_2 := Lib.hid (hD.keep (j := w.heap.size) qkh (by omega))
 have HK1_2 := Lib.hid (hD.keep (j := w.heap.size + 1) qkh (by omega))
 have HK5_2 := Lib.hid (hD.keep (j := w1.heap.size) qkh (by omega))
 have HOu_2 := Lib.hid (hD.owns (qoh HOu_1) (by omega))
 have HOv_2 := Lib.hid (hD.owns (qoh HOv_1) (by omega))
 clear hD c0 f0 c1 f1
 obtain ⟨c0, f0, z0_2⟩ := blk_at HK0_2.out
 obtain ⟨c1, f1, z1_2⟩ := blk_at HK1_2.out
 obtain ⟨c5, f5, z5_2⟩ := blk_at HK5_2.out
 have hnu6 := ne_own (k := w2.heap.size) HOu_2.out (by omega)
 have hnv6 := ne_own (k := w2.heap.size) HOv_2.out (by omega)
 have hzW := hD2.size
 have hnu8 := ne_own (k := w2.heap.size + 1 + 1) HOu_2.out (by omega)
 have hnv8 := ne_own (k := w2.heap.size + 1 + 1) HOv_2.out (by omega)
 go_wp2_with fail
 refine (w_l01Next k c 9 _ qsh).mono ?_
 rintro e w3 ⟨x3, rfl, x3a, x3b, hD, hS3⟩
 have hz3 : w2.heap.size ≤ w3.heap.size := qsz hD.size
 have HOz_3 := Lib.hid (hD.owns (base := w2.heap.size + 1) (e := 107) (s := 4) (v := .slice (some ⟨w2.heap.size + 1, 0, none⟩) 0 0) (n := 0) (xs := movs []) ((own_empty' (by simp) (by simp) _ _).alloc _) (by omega))
 have hD3 : Drawn w w3 k := Drawn.trans qdh hD
 have HK0_3 := Lib.hid (hD.keep (j := w.heap.size) qkh (by omega))
 have HK1_3 := Lib.hid (hD.keep (j := w.heap.size + 1) qkh (by omega))
 have HK5_3 := Lib.hid (hD.keep (j := w1.heap.size) qkh (by omega))
 have HK6_3 := Lib.hid (hD.keep (j := w2.heap.size) qkh (by omega))
 have HK8_3 := Lib.hid (hD.keep (j := w2.heap.size + 1 + 1) qkh (by omega))
 have HOu_3 := Lib.hid (hD.owns (qoh HOu_2) (by omega))
 have HOv_3 := Lib.hid (hD.owns (qoh HOv_2) (by omega))
 clear hD c0 f0 c1 f1 c5 f5
 obtain ⟨c0, f0, z0_3⟩ := blk_at HK0_3.out
 obtain ⟨c1, f1, z1_3⟩ := blk_at HK1_3.out
 obtain ⟨c5, f5, z5_3⟩ := blk_at HK5_3.out
 obtain ⟨c6, f6, z6_3⟩ := blk_at HK6_3.out
 obtain ⟨c8, f8, z8_3⟩ := blk_at HK8_3.out
 obtain ⟨n0, rfl⟩ : ∃ n : Nat, x3 = n := ⟨x3.toNat, by omega⟩
 have hn8 : n0 ≤ 8 := by omega
 clear x3a x3b c0 f0 c1 f1 c5 f5 c6 f6 c8 f8
 go_wp2
 go_loopw [7, 9] (fun v i wr => ∃ (l : List Mov) (m : Nat) (s : Stg), i = .int .i64 (m : Nat) ∧ wr.ownsRow (w2.heap.size + 1) 107 4 v l.length (movs l) ∧ l.length + m ≤ 8 ∧ Hid (wr.heap[w.heap.size]? = some (.cells #[.int .i64 0, .slice none 0 0, .slice none 0 0] 26 (0, 0))) ∧ Hid (wr.heap[w.heap.size + 1]? = some (.cells #[.int .i64 0, .int .i64 0] 28 (0, 0))) ∧ Hid (wr.heap[w1.heap.size]? = some (.cells #[.int .i64 n, .slice au st.length capu, .slice av sd.length capv] 26 (0, 0))) ∧ Hid (wr.heap[w2.heap.size]? = some (.cells #[.int .i64 s0.sh, .int .i64 s0.cu] 28 (0, 0))) ∧ Hid (wr.heap[w2.heap.size + 1 + 1]? = some (.cells #[.int .i64 s.sh, .int .i64 s.cu] 28 (0, 0))) ∧ Hid (wr.ownsRow (w.heap.size + 2) 2 1 (.slice au st.length capu) st.length (nums st)) ∧ Hid (wr.ownsRow (w.heap.size + 2) 2 1 (.slice av sd.length capv) sd.length (nums sd)) ∧ Hid (v.ownBlock ≠ some (w2.heap.size + 1 + 1)) ∧ w2.heap.size + 2 < wr.heap.size ∧ Drawn w wr k ∧ Src wr k c) (fun _ i _ => (intOf i).toNat)
 case atStart => exact ⟨[], n0, s0, rfl, HOz_3.out, by simp; omega, HK0_3, HK1_3, HK5_3, HK6_3, HK8_3, HOu_3, HOv_3, Lib.hid (by simp [Value.ownBlock]), z8_3, hD3, hS3⟩
 case round =>
  obtain ⟨l, m, s, rfl, hO, hlm, HK0_10, HK1_10, HK5_10, HK6_10, HK8_10, HOu_10, HOv_10, HNE, hzr, hDr, hSr⟩ := hrel
  have HOz_10 := Lib.hid hO
  have hzrw := hDr.size
  clear hO HK0_3 HK1_3 HK5_3 HK6_3 HK8_3 HOu_3 HOv_3 HOz_3
  by_cases hm : 0 < m
  · skip
    obtain ⟨c0, f0, z0_10⟩ := blk_at HK0_10.out
    obtain ⟨c1, f1, z1_10⟩ := blk_at HK1_10.out
    obtain ⟨c5, f5, z5_10⟩ := blk_at HK5_10.out
    obtain ⟨c6, f6, z6_10⟩ := blk_at HK6_10.out
    obtain ⟨c8, f8, z8_10⟩ := blk_at HK8_10.out
    go_wp2_with fail
    refine (w_l12DrawMove k c n _ _ st sd _ qsh (reads_of_owns (qoh HOu_10) (by omega)) (reads_of_owns (qoh HOv_10) (by omega)) (allIn_own HOu_10.out (by omega)) (allIn_own HOv_10.out (by omega))).mono ?_
    rintro e w11 ⟨mv, rfl, hD, hS11⟩
    have hz11 : wr.heap.size ≤ w11.heap.size := qsz hD.size
    have hD11 : Drawn w w11 k := Drawn.trans qdh hD
    have HK0_11 := Lib.hid (hD.keep (j := w.heap.size) qkh (by omega))
    have HK1_11 := Lib.hid (hD.keep (j := w.heap.size + 1) qkh (by omega))
    have HK5_11 := Lib.hid (hD.keep (j := w1.heap.size) qkh (by omega))
    have HK6_11 := Lib.hid (hD.keep (j := w2.heap.size) qkh (by omega))
    have HK8_11 := Lib.hid (hD.keep (j := w2.heap.size + 1 + 1) qkh (by omega))
    have HOu_11 := Lib.hid (hD.owns (qoh HOu_10) (by omega))
    have HOv_11 := Lib.hid (hD.owns (qoh HOv_10) (by omega))
    have HOz_11 := Lib.hid (hD.owns (qoh HOz_10) (by omega))
    clear hD c0 f0 c1 f1 c5 f5 c6 f6 c8 f8
    obtain ⟨c0, f0, z0_11⟩ := blk_at HK0_11.out
    obtain ⟨c1, f1, z1_11⟩ := blk_at HK1_11.out
    obtain ⟨c5, f5, z5_11⟩ := blk_at HK5_11.out
    obtain ⟨c6, f6, z6_11⟩ := blk_at HK6_11.out
    obtain ⟨c8, f8, z8_11⟩ := blk_at HK8_11.out
    have hnu10 := ne_own (k := w11.heap.size) HOu_11.out (by omega)
    have hnv10 := ne_own (k := w11.heap.size) HOv_11.out (by omega)
    have hnz10 := ne_own (k := w11.heap.size) HOz_11.out (by omega)
    cases hRb : isRule ⟨n, st, sd⟩
    · skip
      have HRb := Lib.hid hRb
      clear hRb
      go_wp2_with fail
      refine (w_specIsRule n _ _ st sd _ (reads_of_owns (qoh HOu_11) (by omega)) (reads_of_owns (qoh HOv_11) (by omega))).mono ?_
      rintro e w12 ⟨rfl, hL⟩
      rw [HRb.out]
      have hz12 : w11.heap.size ≤ w12.heap.size := qsz hL.size
      have hD12 : Drawn w w12 k := Drawn.later qdh hL
      have hS12 : Src w12 k c := Src.later qsh hL
      have HK0_12 := Lib.hid (hL.keep (k := w.heap.size) qkh)
      have HK1_12 := Lib.hid (hL.keep (k := w.heap.size + 1) qkh)
      have HK5_12 := Lib.hid (hL.keep (k := w1.heap.size) qkh)
      have HK6_12 := Lib.hid (hL.keep (k := w2.heap.size) qkh)
      have HK8_12 := Lib.hid (hL.keep (k := w2.heap.size + 1 + 1) qkh)
      have HK10_12 := Lib.hid (hL.keep (k := w11.heap.size) qkh)
      have HOu_12 := Lib.hid (owns_later (qoh HOu_11) hL)
      have HOv_12 := Lib.hid (owns_later (qoh HOv_11) hL)
      have HOz_12 := Lib.hid (owns_later (qoh HOz_11) hL)
      clear hL c0 f0 c1 f1 c5 f5 c6 f6 c8 f8
      obtain ⟨c0, f0, z0_12⟩ := blk_at HK0_12.out
      obtain ⟨c1, f1, z1_12⟩ := blk_at HK1_12.out
      obtain ⟨c5, f5, z5_12⟩ := blk_at HK5_12.out
      obtain ⟨c6, f6, z6_12⟩ := blk_at HK6_12.out
      obtain ⟨c8, f8, z8_12⟩ := blk_at HK8_12.out
      obtain ⟨c10, f10, z10_12⟩ := blk_at HK10_12.out
      have hzA : w12.heap.size = w12.heap.size := by first | rfl | (simp; done)
      have hzc : w2.heap.size + 1 ≤ w12.heap.size := by omega
      have AO := Lib.hid (show (w12).ownsRow (w2.heap.size + 1) 107 4 u7 l.length (movs l) from (qoh HOz_12))
      have AU := Lib.hid (show (w12).ownsRow (w.heap.size + 2) 2 1 (.slice au st.length capu) st.length (nums st) from (qoh HOu_12))
      have AV := Lib.hid (show (w12).ownsRow (w.heap.size + 2) 2 1 (.slice av sd.length capv) sd.length (nums sd) from (qoh HOv_12))
      have AK0 := Lib.hid (show (w12).heap[w.heap.size]? = some (.cells #[.int .i64 0, .slice none 0 0, .slice none 0 0] 26 (0, 0)) from qkh)
      have AK1 := Lib.hid (show (w12).heap[w.heap.size + 1]? = some (.cells #[.int .i64 0, .int .i64 0] 28 (0, 0)) from qkh)
      have AK5 := Lib.hid (show (w12).heap[w1.heap.size]? = some (.cells #[.int .i64 n, .slice au st.length capu, .slice av sd.length capv] 26 (0, 0)) from qkh)
      have AK6 := Lib.hid (show (w12).heap[w2.heap.size]? = some (.cells #[.int .i64 s0.sh, .int .i64 s0.cu] 28 (0, 0)) from qkh)
      have AK8 := Lib.hid (show (w12).heap[w2.heap.size + 1 + 1]? = some (.cells #[.int .i64 (s).sh, .int .i64 (s).cu] 28 (0, 0)) from qkh)
      have AD : Drawn w (w12) k := qdh
      have AS : Src (w12) k c := qsh
      go_wp2_with (at_builtin; refine app1at_Move (w := w12) rfl (.tmp 54) (.tmp 56) rfl (w2.heap.size + 1) _ l ⟨mv.k, mv.s, ⟨mv.f.d, mv.f.t⟩⟩ rfl AO.out (by simp [Act.eval, Array.getD]) (by omega) (by omega) ?_; intro v5 w50 ho5 hg5 hat5)
      have hne5 : ∀ j, j < w2.heap.size + 1 → u7.ownBlock ≠ some j := fun j hj e => by have := (AO.out.lt j e).1; omega
      have hgz := hg5.size
      go_roundw
      case rel => exact ⟨l ++ [⟨mv.k, mv.s, ⟨mv.f.d, mv.f.t⟩⟩], m - 1, s, by go_num, ho5, by simp; omega, Lib.hid (grown_keep hg5 AK0.out (hne5 _ (by omega))), Lib.hid (grown_keep hg5 AK1.out (hne5 _ (by omega))), Lib.hid (grown_keep hg5 AK5.out (hne5 _ (by omega))), Lib.hid (grown_keep hg5 AK6.out (hne5 _ (by omega))), Lib.hid (grown_keep hg5 AK8.out HNE.out), Lib.hid (rows_grown AU.out hg5 fun j hj => hne5 j (by have := hub j hj; omega)), Lib.hid (rows_grown AV.out hg5 fun j hj => hne5 j (by have := hvb j hj; omega)), Lib.hid (fun e => by rcases hat5 _ e with h1 | h1; exact HNE.out h1; omega), by omega, AD.own (base := w2.heap.size + 1) (by omega) AO.out hg5, AS.own (base := w2.heap.size + 1) (by omega) AO.out hg5⟩
      case measure => simp [intOf]; omega
    · skip
      have HRb := Lib.hid hRb
      clear hRb
      go_wp2_with fail
      refine (w_specIsRule n _ _ st sd _ (reads_of_owns (qoh HOu_11) (by omega)) (reads_of_owns (qoh HOv_11) (by omega))).mono ?_
      rintro e w12 ⟨rfl, hL⟩
      rw [HRb.out]
      have hz12 : w11.heap.size ≤ w12.heap.size := qsz hL.size
      have hD12 : Drawn w w12 k := Drawn.later qdh hL
      have hS12 : Src w12 k c := Src.later qsh hL
      have HK0_12 := Lib.hid (hL.keep (k := w.heap.size) qkh)
      have HK1_12 := Lib.hid (hL.keep (k := w.heap.size + 1) qkh)
      have HK5_12 := Lib.hid (hL.keep (k := w1.heap.size) qkh)
      have HK6_12 := Lib.hid (hL.keep (k := w2.heap.size) qkh)
      have HK8_12 := Lib.hid (hL.keep (k := w2.heap.size + 1 + 1) qkh)
      have HK10_12 := Lib.hid (hL.keep (k := w11.heap.size) qkh)
      have HOu_12 := Lib.hid (owns_later (qoh HOu_11) hL)
      have HOv_12 := Lib.hid (owns_later (qoh HOv_11) hL)
      have HOz_12 := Lib.hid (owns_later (qoh HOz_11) hL)
      clear hL c0 f0 c1 f1 c5 f5 c6 f6 c8 f8
      obtain ⟨c0, f0, z0_12⟩ := blk_at HK0_12.out
      obtain ⟨c1, f1, z1_12⟩ := blk_at HK1_12.out
      obtain ⟨c5, f5, z5_12⟩ := blk_at HK5_12.out
      obtain ⟨c6, f6, z6_12⟩ := blk_at HK6_12.out
      obtain ⟨c8, f8, z8_12⟩ := blk_at HK8_12.out
      obtain ⟨c10, f10, z10_12⟩ := blk_at HK10_12.out
      cases hSb : isStg ⟨s.sh, s.cu⟩
      · skip
        have HSb := Lib.hid hSb
        clear hSb
        go_wp2_with fail
        refine (w_specIsSetting s.sh s.cu _).mono ?_
        rintro e w13 ⟨rfl, hL⟩
        rw [HSb.out]
        have hz13 : w12.heap.size ≤ w13.heap.size := qsz hL.size
        have hD13 : Drawn w w13 k := Drawn.later qdh hL
        have hS13 : Src w13 k c := Src.later qsh hL
        have HK0_13 := Lib.hid (hL.keep (k := w.heap.size) qkh)
        have HK1_13 := Lib.hid (hL.keep (k := w.heap.size + 1) qkh)
        have HK5_13 := Lib.hid (hL.keep (k := w1.heap.size) qkh)
        have HK6_13 := Lib.hid (hL.keep (k := w2.heap.size) qkh)
        have HK8_13 := Lib.hid (hL.keep (k := w2.heap.size + 1 + 1) qkh)
        have HK10_13 := Lib.hid (hL.keep (k := w11.heap.size) qkh)
        have HOu_13 := Lib.hid (owns_later (qoh HOu_12) hL)
        have HOv_13 := Lib.hid (owns_later (qoh HOv_12) hL)
        have HOz_13 := Lib.hid (owns_later (qoh HOz_12) hL)
        clear hL c0 f0 c1 f1 c5 f5 c6 f6 c8 f8 c10 f10
        obtain ⟨c0, f0, z0_13⟩ := blk_at HK0_13.out
        obtain ⟨c1, f1, z1_13⟩ := blk_at HK1_13.out
        obtain ⟨c5, f5, z5_13⟩ := blk_at HK5_13.out
        obtain ⟨c6, f6, z6_13⟩ := blk_at HK6_13.out
        obtain ⟨c8, f8, z8_13⟩ := blk_at HK8_13.out
        obtain ⟨c10, f10, z10_13⟩ := blk_at HK10_13.out
        have hzA : w13.heap.size = w13.heap.size := by first | rfl | (simp; done)
        have hzc : w2.heap.size + 1 ≤ w13.heap.size := by omega
        have AO := Lib.hid (show (w13).ownsRow (w2.heap.size + 1) 107 4 u7 l.length (movs l) from (qoh HOz_13))
        have AU := Lib.hid (show (w13).ownsRow (w.heap.size + 2) 2 1 (.slice au st.length capu) st.length (nums st) from (qoh HOu_13))
        have AV := Lib.hid (show (w13).ownsRow (w.heap.size + 2) 2 1 (.slice av sd.length capv) sd.length (nums sd) from (qoh HOv_13))
        have AK0 := Lib.hid (show (w13).heap[w.heap.size]? = some (.cells #[.int .i64 0, .slice none 0 0, .slice none 0 0] 26 (0, 0)) from qkh)
        have AK1 := Lib.hid (show (w13).heap[w.heap.size + 1]? = some (.cells #[.int .i64 0, .int .i64 0] 28 (0, 0)) from qkh)
        have AK5 := Lib.hid (show (w13).heap[w1.heap.size]? = some (.cells #[.int .i64 n, .slice au st.length capu, .slice av sd.length capv] 26 (0, 0)) from qkh)
        have AK6 := Lib.hid (show (w13).heap[w2.heap.size]? = some (.cells #[.int .i64 s0.sh, .int .i64 s0.cu] 28 (0, 0)) from qkh)
        have AK8 := Lib.hid (show (w13).heap[w2.heap.size + 1 + 1]? = some (.cells #[.int .i64 (s).sh, .int .i64 (s).cu] 28 (0, 0)) from qkh)
        have AD : Drawn w (w13) k := qdh
        have AS : Src (w13) k c := qsh
        go_wp2_with (at_builtin; refine app1at_Move (w := w13) rfl (.tmp 54) (.tmp 56) rfl (w2.heap.size + 1) _ l ⟨mv.k, mv.s, ⟨mv.f.d, mv.f.t⟩⟩ rfl AO.out (by simp [Act.eval, Array.getD]) (by omega) (by omega) ?_; intro v5 w50 ho5 hg5 hat5)
        have hne5 : ∀ j, j < w2.heap.size + 1 → u7.ownBlock ≠ some j := fun j hj e => by have := (AO.out.lt j e).1; omega
        have hgz := hg5.size
        go_roundw
        case rel => exact ⟨l ++ [⟨mv.k, mv.s, ⟨mv.f.d, mv.f.t⟩⟩], m - 1, s, by go_num, ho5, by simp; omega, Lib.hid (grown_keep hg5 AK0.out (hne5 _ (by omega))), Lib.hid (grown_keep hg5 AK1.out (hne5 _ (by omega))), Lib.hid (grown_keep hg5 AK5.out (hne5 _ (by omega))), Lib.hid (grown_keep hg5 AK6.out (hne5 _ (by omega))), Lib.hid (grown_keep hg5 AK8.out HNE.out), Lib.hid (rows_grown AU.out hg5 fun j hj => hne5 j (by have := hub j hj; omega)), Lib.hid (rows_grown AV.out hg5 fun j hj => hne5 j (by have := hvb j hj; omega)), Lib.hid (fun e => by rcases hat5 _ e with h1 | h1; exact HNE.out h1; omega), by omega, AD.own (base := w2.heap.size + 1) (by omega) AO.out hg5, AS.own (base := w2.heap.size + 1) (by omega) AO.out hg5⟩
        case measure => simp [intOf]; omega
      · skip
        have HSb := Lib.hid hSb
        clear hSb
        go_wp2_with fail
        refine (w_specIsSetting s.sh s.cu _).mono ?_
        rintro e w13 ⟨rfl, hL⟩
        rw [HSb.out]
        have hz13 : w12.heap.size ≤ w13.heap.size := qsz hL.size
        have hD13 : Drawn w w13 k := Drawn.later qdh hL
        have hS13 : Src w13 k c := Src.later qsh hL
        have HK0_13 := Lib.hid (hL.keep (k := w.heap.size) qkh)
        have HK1_13 := Lib.hid (hL.keep (k := w.heap.size + 1) qkh)
        have HK5_13 := Lib.hid (hL.keep (k := w1.heap.size) qkh)
        have HK6_13 := Lib.hid (hL.keep (k := w2.heap.size) qkh)
        have HK8_13 := Lib.hid (hL.keep (k := w2.heap.size + 1 + 1) qkh)
        have HK10_13 := Lib.hid (hL.keep (k := w11.heap.size) qkh)
        have HOu_13 := Lib.hid (owns_later (qoh HOu_12) hL)
        have HOv_13 := Lib.hid (owns_later (qoh HOv_12) hL)
        have HOz_13 := Lib.hid (owns_later (qoh HOz_12) hL)
        clear hL c0 f0 c1 f1 c5 f5 c6 f6 c8 f8 c10 f10
        obtain ⟨c0, f0, z0_13⟩ := blk_at HK0_13.out
        obtain ⟨c1, f1, z1_13⟩ := blk_at HK1_13.out
        obtain ⟨c5, f5, z5_13⟩ := blk_at HK5_13.out
        obtain ⟨c6, f6, z6_13⟩ := blk_at HK6_13.out
        obtain ⟨c8, f8, z8_13⟩ := blk_at HK8_13.out
        obtain ⟨c10, f10, z10_13⟩ := blk_at HK10_13.out
        cases hMb : isMove ⟨mv.k, mv.s, ⟨mv.f.d, mv.f.t⟩⟩
        · skip
          have HMb := Lib.hid hMb
          clear hMb
          go_wp2_with fail
          refine (w_specL12Is mv.k mv.s mv.f.d mv.f.t _).mono ?_
          rintro e w14 ⟨rfl, hL⟩
          rw [HMb.out]
          have hz14 : w13.heap.size ≤ w14.heap.size := qsz hL.size
          have hD14 : Drawn w w14 k := Drawn.later qdh hL
          have hS14 : Src w14 k c := Src.later qsh hL
          have HK0_14 := Lib.hid (hL.keep (k := w.heap.size) qkh)
          have HK1_14 := Lib.hid (hL.keep (k := w.heap.size + 1) qkh)
          have HK5_14 := Lib.hid (hL.keep (k := w1.heap.size) qkh)
          have HK6_14 := Lib.hid (hL.keep (k := w2.heap.size) qkh)
          have HK8_14 := Lib.hid (hL.keep (k := w2.heap.size + 1 + 1) qkh)
          have HK10_14 := Lib.hid (hL.keep (k := w11.heap.size) qkh)
          have HOu_14 := Lib.hid (owns_later (qoh HOu_13) hL)
          have HOv_14 := Lib.hid (owns_later (qoh HOv_13) hL)
          have HOz_14 := Lib.hid (owns_later (qoh HOz_13) hL)
          clear hL c0 f0 c1 f1 c5 f5 c6 f6 c8 f8 c10 f10
          obtain ⟨c0, f0, z0_14⟩ := blk_at HK0_14.out
          obtain ⟨c1, f1, z1_14⟩ := blk_at HK1_14.out
          obtain ⟨c5, f5, z5_14⟩ := blk_at HK5_14.out
          obtain ⟨c6, f6, z6_14⟩ := blk_at HK6_14.out
          obtain ⟨c8, f8, z8_14⟩ := blk_at HK8_14.out
          obtain ⟨c10, f10, z10_14⟩ := blk_at HK10_14.out
          have hzA : w14.heap.size = w14.heap.size := by first | rfl | (simp; done)
          have hzc : w2.heap.size + 1 ≤ w14.heap.size := by omega
          have AO := Lib.hid (show (w14).ownsRow (w2.heap.size + 1) 107 4 u7 l.length (movs l) from (qoh HOz_14))
          have AU := Lib.hid (show (w14).ownsRow (w.heap.size + 2) 2 1 (.slice au st.length capu) st.length (nums st) from (qoh HOu_14))
          have AV := Lib.hid (show (w14).ownsRow (w.heap.size + 2) 2 1 (.slice av sd.length capv) sd.length (nums sd) from (qoh HOv_14))
          have AK0 := Lib.hid (show (w14).heap[w.heap.size]? = some (.cells #[.int .i64 0, .slice none 0 0, .slice none 0 0] 26 (0, 0)) from qkh)
          have AK1 := Lib.hid (show (w14).heap[w.heap.size + 1]? = some (.cells #[.int .i64 0, .int .i64 0] 28 (0, 0)) from qkh)
          have AK5 := Lib.hid (show (w14).heap[w1.heap.size]? = some (.cells #[.int .i64 n, .slice au st.length capu, .slice av sd.length capv] 26 (0, 0)) from qkh)
          have AK6 := Lib.hid (show (w14).heap[w2.heap.size]? = some (.cells #[.int .i64 s0.sh, .int .i64 s0.cu] 28 (0, 0)) from qkh)
          have AK8 := Lib.hid (show (w14).heap[w2.heap.size + 1 + 1]? = some (.cells #[.int .i64 (s).sh, .int .i64 (s).cu] 28 (0, 0)) from qkh)
          have AD : Drawn w (w14) k := qdh
          have AS : Src (w14) k c := qsh
          go_wp2_with (at_builtin; refine app1at_Move (w := w14) rfl (.tmp 54) (.tmp 56) rfl (w2.heap.size + 1) _ l ⟨mv.k, mv.s, ⟨mv.f.d, mv.f.t⟩⟩ rfl AO.out (by simp [Act.eval, Array.getD]) (by omega) (by omega) ?_; intro v5 w50 ho5 hg5 hat5)
          have hne5 : ∀ j, j < w2.heap.size + 1 → u7.ownBlock ≠ some j := fun j hj e => by have := (AO.out.lt j e).1; omega
          have hgz := hg5.size
          go_roundw
          case rel => exact ⟨l ++ [⟨mv.k, mv.s, ⟨mv.f.d, mv.f.t⟩⟩], m - 1, s, by go_num, ho5, by simp; omega, Lib.hid (grown_keep hg5 AK0.out (hne5 _ (by omega))), Lib.hid (grown_keep hg5 AK1.out (hne5 _ (by omega))), Lib.hid (grown_keep hg5 AK5.out (hne5 _ (by omega))), Lib.hid (grown_keep hg5 AK6.out (hne5 _ (by omega))), Lib.hid (grown_keep hg5 AK8.out HNE.out), Lib.hid (rows_grown AU.out hg5 fun j hj => hne5 j (by have := hub j hj; omega)), Lib.hid (rows_grown AV.out hg5 fun j hj => hne5 j (by have := hvb j hj; omega)), Lib.hid (fun e => by rcases hat5 _ e with h1 | h1; exact HNE.out h1; omega), by omega, AD.own (base := w2.heap.size + 1) (by omega) AO.out hg5, AS.own (base := w2.heap.size + 1) (by omega) AO.out hg5⟩
          case measure => simp [intOf]; omega
        · skip
          have HMb := Lib.hid hMb
          clear hMb
          go_wp2_with fail
          refine (w_specL12Is mv.k mv.s mv.f.d mv.f.t _).mono ?_
          rintro e w14 ⟨rfl, hL⟩
          rw [HMb.out]
          have hz14 : w13.heap.size ≤ w14.heap.size := qsz hL.size
          have hD14 : Drawn w w14 k := Drawn.later qdh hL
          have hS14 : Src w14 k c := Src.later qsh hL
          have HK0_14 := Lib.hid (hL.keep (k := w.heap.size) qkh)
          have HK1_14 := Lib.hid (hL.keep (k := w.heap.size + 1) qkh)
          have HK5_14 := Lib.hid (hL.keep (k := w1.heap.size) qkh)
          have HK6_14 := Lib.hid (hL.keep (k := w2.heap.size) qkh)
          have HK8_14 := Lib.hid (hL.keep (k := w2.heap.size + 1 + 1) qkh)
          have HK10_14 := Lib.hid (hL.keep (k := w11.heap.size) qkh)
          have HOu_14 := Lib.hid (owns_later (qoh HOu_13) hL)
          have HOv_14 := Lib.hid (owns_later (qoh HOv_13) hL)
          have HOz_14 := Lib.hid (owns_later (qoh HOz_13) hL)
          clear hL c0 f0 c1 f1 c5 f5 c6 f6 c8 f8 c10 f10
          obtain ⟨c0, f0, z0_14⟩ := blk_at HK0_14.out
          obtain ⟨c1, f1, z1_14⟩ := blk_at HK1_14.out
          obtain ⟨c5, f5, z5_14⟩ := blk_at HK5_14.out
          obtain ⟨c6, f6, z6_14⟩ := blk_at HK6_14.out
          obtain ⟨c8, f8, z8_14⟩ := blk_at HK8_14.out
          obtain ⟨c10, f10, z10_14⟩ := blk_at HK10_14.out
          cases hok : mvOk ⟨n, st, sd⟩ ⟨s.sh, s.cu⟩ ⟨mv.k, mv.s, ⟨mv.f.d, mv.f.t⟩⟩
          · skip
            have HOK := Lib.hid hok
            clear hok
            go_wp2_with fail
            refine (w_specMoved n _ _ st sd s.sh s.cu ⟨mv.k, mv.s, ⟨mv.f.d, mv.f.t⟩⟩ _ (reads_of_owns (qoh HOu_14) (by omega)) (reads_of_owns (qoh HOv_14) (by omega)) HSb.out HMb.out).mono ?_
            rintro e w15 ⟨rfl, hL⟩
            rw [HOK.out]
            have hz15 : w14.heap.size ≤ w15.heap.size := qsz hL.size
            have hD15 : Drawn w w15 k := Drawn.later qdh hL
            have hS15 : Src w15 k c := Src.later qsh hL
            have HK0_15 := Lib.hid (hL.keep (k := w.heap.size) qkh)
            have HK1_15 := Lib.hid (hL.keep (k := w.heap.size + 1) qkh)
            have HK5_15 := Lib.hid (hL.keep (k := w1.heap.size) qkh)
            have HK6_15 := Lib.hid (hL.keep (k := w2.heap.size) qkh)
            have HK8_15 := Lib.hid (hL.keep (k := w2.heap.size + 1 + 1) qkh)
            have HK10_15 := Lib.hid (hL.keep (k := w11.heap.size) qkh)
            have HOu_15 := Lib.hid (owns_later (qoh HOu_14) hL)
            have HOv_15 := Lib.hid (owns_later (qoh HOv_14) hL)
            have HOz_15 := Lib.hid (owns_later (qoh HOz_14) hL)
            clear hL c0 f0 c1 f1 c5 f5 c6 f6 c8 f8 c10 f10
            obtain ⟨c0, f0, z0_15⟩ := blk_at HK0_15.out
            obtain ⟨c1, f1, z1_15⟩ := blk_at HK1_15.out
            obtain ⟨c5, f5, z5_15⟩ := blk_at HK5_15.out
            obtain ⟨c6, f6, z6_15⟩ := blk_at HK6_15.out
            obtain ⟨c8, f8, z8_15⟩ := blk_at HK8_15.out
            obtain ⟨c10, f10, z10_15⟩ := blk_at HK10_15.out
            have hnu11 := ne_own (k := w15.heap.size) HOu_15.out (by omega)
            have hnv11 := ne_own (k := w15.heap.size) HOv_15.out (by omega)
            have hnz11 := ne_own (k := w15.heap.size) HOz_15.out (by omega)
            go_wp2_with fail
            refine (w_l01Next k c 6 _ qsh).mono ?_
            rintro e w16 ⟨y, rfl, ya, yb, hD, hS16⟩
            have hz16 : w15.heap.size ≤ w16.heap.size := qsz hD.size
            have hD16 : Drawn w w16 k := Drawn.trans qdh hD
            have HK0_16 := Lib.hid (hD.keep (j := w.heap.size) qkh (by omega))
            have HK1_16 := Lib.hid (hD.keep (j := w.heap.size + 1) qkh (by omega))
            have HK5_16 := Lib.hid (hD.keep (j := w1.heap.size) qkh (by omega))
            have HK6_16 := Lib.hid (hD.keep (j := w2.heap.size) qkh (by omega))
            have HK8_16 := Lib.hid (hD.keep (j := w2.heap.size + 1 + 1) qkh (by omega))
            have HK10_16 := Lib.hid (hD.keep (j := w11.heap.size) qkh (by omega))
            have HK11_16 := Lib.hid (hD.keep (j := w15.heap.size) qkh (by omega))
            have HOu_16 := Lib.hid (hD.owns (qoh HOu_15) (by omega))
            have HOv_16 := Lib.hid (hD.owns (qoh HOv_15) (by omega))
            have HOz_16 := Lib.hid (hD.owns (qoh HOz_15) (by omega))
            clear hD c0 f0 c1 f1 c5 f5 c6 f6 c8 f8 c10 f10
            obtain ⟨c0, f0, z0_16⟩ := blk_at HK0_16.out
            obtain ⟨c1, f1, z1_16⟩ := blk_at HK1_16.out
            obtain ⟨c5, f5, z5_16⟩ := blk_at HK5_16.out
            obtain ⟨c6, f6, z6_16⟩ := blk_at HK6_16.out
            obtain ⟨c8, f8, z8_16⟩ := blk_at HK8_16.out
            obtain ⟨c10, f10, z10_16⟩ := blk_at HK10_16.out
            obtain ⟨c11, f11, z11_16⟩ := blk_at HK11_16.out
            by_cases hy : 0 < y
            · skip
              have hgt : decide (y > 0) = true := by simpa using hy
              go_wp2
              go_roundw
              case rel => exact ⟨l, m - 1, s, by go_num, HOz_16.out, by omega, HK0_16, HK1_16, HK5_16, HK6_16, HK8_16, HOu_16, HOv_16, HNE, by omega, hD16, hS16⟩
              case measure => simp [intOf]; omega
            · skip
              obtain rfl : y = 0 := by omega
              have hzA : w16.heap.size = w16.heap.size := by first | rfl | (simp; done)
              have hzc : w2.heap.size + 1 ≤ w16.heap.size := by omega
              have AO := Lib.hid (show (w16).ownsRow (w2.heap.size + 1) 107 4 u7 l.length (movs l) from (qoh HOz_16))
              have AU := Lib.hid (show (w16).ownsRow (w.heap.size + 2) 2 1 (.slice au st.length capu) st.length (nums st) from (qoh HOu_16))
              have AV := Lib.hid (show (w16).ownsRow (w.heap.size + 2) 2 1 (.slice av sd.length capv) sd.length (nums sd) from (qoh HOv_16))
              have AK0 := Lib.hid (show (w16).heap[w.heap.size]? = some (.cells #[.int .i64 0, .slice none 0 0, .slice none 0 0] 26 (0, 0)) from qkh)
              have AK1 := Lib.hid (show (w16).heap[w.heap.size + 1]? = some (.cells #[.int .i64 0, .int .i64 0] 28 (0, 0)) from qkh)
              have AK5 := Lib.hid (show (w16).heap[w1.heap.size]? = some (.cells #[.int .i64 n, .slice au st.length capu, .slice av sd.length capv] 26 (0, 0)) from qkh)
              have AK6 := Lib.hid (show (w16).heap[w2.heap.size]? = some (.cells #[.int .i64 s0.sh, .int .i64 s0.cu] 28 (0, 0)) from qkh)
              have AK8 := Lib.hid (show (w16).heap[w2.heap.size + 1 + 1]? = some (.cells #[.int .i64 (s).sh, .int .i64 (s).cu] 28 (0, 0)) from qkh)
              have AD : Drawn w (w16) k := qdh
              have AS : Src (w16) k c := qsh
              go_wp2_with (at_builtin; refine app1at_Move (w := w16) rfl (.tmp 54) (.tmp 56) rfl (w2.heap.size + 1) _ l ⟨mv.k, mv.s, ⟨mv.f.d, mv.f.t⟩⟩ rfl AO.out (by simp [Act.eval, Array.getD]) (by omega) (by omega) ?_; intro v5 w50 ho5 hg5 hat5)
              have hne5 : ∀ j, j < w2.heap.size + 1 → u7.ownBlock ≠ some j := fun j hj e => by have := (AO.out.lt j e).1; omega
              have hgz := hg5.size
              go_roundw
              case rel => exact ⟨l ++ [⟨mv.k, mv.s, ⟨mv.f.d, mv.f.t⟩⟩], m - 1, s, by go_num, ho5, by simp; omega, Lib.hid (grown_keep hg5 AK0.out (hne5 _ (by omega))), Lib.hid (grown_keep hg5 AK1.out (hne5 _ (by omega))), Lib.hid (grown_keep hg5 AK5.out (hne5 _ (by omega))), Lib.hid (grown_keep hg5 AK6.out (hne5 _ (by omega))), Lib.hid (grown_keep hg5 AK8.out HNE.out), Lib.hid (rows_grown AU.out hg5 fun j hj => hne5 j (by have := hub j hj; omega)), Lib.hid (rows_grown AV.out hg5 fun j hj => hne5 j (by have := hvb j hj; omega)), Lib.hid (fun e => by rcases hat5 _ e with h1 | h1; exact HNE.out h1; omega), by omega, AD.own (base := w2.heap.size + 1) (by omega) AO.out hg5, AS.own (base := w2.heap.size + 1) (by omega) AO.out hg5⟩
              case measure => simp [intOf]; omega
          · skip
            have HOK := Lib.hid hok
            clear hok
            go_wp2_with fail
            refine (w_specMoved n _ _ st sd s.sh s.cu ⟨mv.k, mv.s, ⟨mv.f.d, mv.f.t⟩⟩ _ (reads_of_owns (qoh HOu_14) (by omega)) (reads_of_owns (qoh HOv_14) (by omega)) HSb.out HMb.out).mono ?_
            rintro e w15 ⟨rfl, hL⟩
            rw [HOK.out]
            have hz15 : w14.heap.size ≤ w15.heap.size := qsz hL.size
            have hD15 : Drawn w w15 k := Drawn.later qdh hL
            have hS15 : Src w15 k c := Src.later qsh hL
            have HK0_15 := Lib.hid (hL.keep (k := w.heap.size) qkh)
            have HK1_15 := Lib.hid (hL.keep (k := w.heap.size + 1) qkh)
            have HK5_15 := Lib.hid (hL.keep (k := w1.heap.size) qkh)
            have HK6_15 := Lib.hid (hL.keep (k := w2.heap.size) qkh)
            have HK8_15 := Lib.hid (hL.keep (k := w2.heap.size + 1 + 1) qkh)
            have HK10_15 := Lib.hid (hL.keep (k := w11.heap.size) qkh)
            have HOu_15 := Lib.hid (owns_later (qoh HOu_14) hL)
            have HOv_15 := Lib.hid (owns_later (qoh HOv_14) hL)
            have HOz_15 := Lib.hid (owns_later (qoh HOz_14) hL)
            clear hL c0 f0 c1 f1 c5 f5 c6 f6 c8 f8 c10 f10
            obtain ⟨c0, f0, z0_15⟩ := blk_at HK0_15.out
            obtain ⟨c1, f1, z1_15⟩ := blk_at HK1_15.out
            obtain ⟨c5, f5, z5_15⟩ := blk_at HK5_15.out
            obtain ⟨c6, f6, z6_15⟩ := blk_at HK6_15.out
            obtain ⟨c8, f8, z8_15⟩ := blk_at HK8_15.out
            obtain ⟨c10, f10, z10_15⟩ := blk_at HK10_15.out
            have hnu11 := ne_own (k := w15.heap.size) HOu_15.out (by omega)
            have hnv11 := ne_own (k := w15.heap.size) HOv_15.out (by omega)
            have hnz11 := ne_own (k := w15.heap.size) HOz_15.out (by omega)
            have hzA : w15.heap.size + 1 = (((w15.setCell ⟨w2.heap.size + 1 + 1, 0, none⟩ (.int .i64 (mvS ⟨n, st, sd⟩ ⟨s.sh, s.cu⟩ ⟨mv.k, mv.s, ⟨mv.f.d, mv.f.t⟩⟩).sh)).setCell ⟨w2.heap.size + 1 + 1, 1, none⟩ (.int .i64 (mvS ⟨n, st, sd⟩ ⟨s.sh, s.cu⟩ ⟨mv.k, mv.s, ⟨mv.f.d, mv.f.t⟩⟩).cu)).alloc (.cells #[.int .i64 (mvS ⟨n, st, sd⟩ ⟨s.sh, s.cu⟩ ⟨mv.k, mv.s, ⟨mv.f.d, mv.f.t⟩⟩).sh, .int .i64 (mvS ⟨n, st, sd⟩ ⟨s.sh, s.cu⟩ ⟨mv.k, mv.s, ⟨mv.f.d, mv.f.t⟩⟩).cu] 28)).heap.size := by first | rfl | (simp; done)
            have hzc : w2.heap.size + 1 ≤ (((w15.setCell ⟨w2.heap.size + 1 + 1, 0, none⟩ (.int .i64 (mvS ⟨n, st, sd⟩ ⟨s.sh, s.cu⟩ ⟨mv.k, mv.s, ⟨mv.f.d, mv.f.t⟩⟩).sh)).setCell ⟨w2.heap.size + 1 + 1, 1, none⟩ (.int .i64 (mvS ⟨n, st, sd⟩ ⟨s.sh, s.cu⟩ ⟨mv.k, mv.s, ⟨mv.f.d, mv.f.t⟩⟩).cu)).alloc (.cells #[.int .i64 (mvS ⟨n, st, sd⟩ ⟨s.sh, s.cu⟩ ⟨mv.k, mv.s, ⟨mv.f.d, mv.f.t⟩⟩).sh, .int .i64 (mvS ⟨n, st, sd⟩ ⟨s.sh, s.cu⟩ ⟨mv.k, mv.s, ⟨mv.f.d, mv.f.t⟩⟩).cu] 28)).heap.size := by omega
            have hne8 := HNE.out
            have hnu8 : (Value.slice au st.length capu).ownBlock ≠ some (w2.heap.size + 1 + 1) := fun e => by have := hub _ e; omega
            have hnv8 : (Value.slice av sd.length capv).ownBlock ≠ some (w2.heap.size + 1 + 1) := fun e => by have := hvb _ e; omega
            have AO := Lib.hid (show ((((w15.setCell ⟨w2.heap.size + 1 + 1, 0, none⟩ (.int .i64 (mvS ⟨n, st, sd⟩ ⟨s.sh, s.cu⟩ ⟨mv.k, mv.s, ⟨mv.f.d, mv.f.t⟩⟩).sh)).setCell ⟨w2.heap.size + 1 + 1, 1, none⟩ (.int .i64 (mvS ⟨n, st, sd⟩ ⟨s.sh, s.cu⟩ ⟨mv.k, mv.s, ⟨mv.f.d, mv.f.t⟩⟩).cu)).alloc (.cells #[.int .i64 (mvS ⟨n, st, sd⟩ ⟨s.sh, s.cu⟩ ⟨mv.k, mv.s, ⟨mv.f.d, mv.f.t⟩⟩).sh, .int .i64 (mvS ⟨n, st, sd⟩ ⟨s.sh, s.cu⟩ ⟨mv.k, mv.s, ⟨mv.f.d, mv.f.t⟩⟩).cu] 28))).ownsRow (w2.heap.size + 1) 107 4 u7 l.length (movs l) from (qoh HOz_15))
            have AU := Lib.hid (show ((((w15.setCell ⟨w2.heap.size + 1 + 1, 0, none⟩ (.int .i64 (mvS ⟨n, st, sd⟩ ⟨s.sh, s.cu⟩ ⟨mv.k, mv.s, ⟨mv.f.d, mv.f.t⟩⟩).sh)).setCell ⟨w2.heap.size + 1 + 1, 1, none⟩ (.int .i64 (mvS ⟨n, st, sd⟩ ⟨s.sh, s.cu⟩ ⟨mv.k, mv.s, ⟨mv.f.d, mv.f.t⟩⟩).cu)).alloc (.cells #[.int .i64 (mvS ⟨n, st, sd⟩ ⟨s.sh, s.cu⟩ ⟨mv.k, mv.s, ⟨mv.f.d, mv.f.t⟩⟩).sh, .int .i64 (mvS ⟨n, st, sd⟩ ⟨s.sh, s.cu⟩ ⟨mv.k, mv.s, ⟨mv.f.d, mv.f.t⟩⟩).cu] 28))).ownsRow (w.heap.size + 2) 2 1 (.slice au st.length capu) st.length (nums st) from (qoh HOu_15))
            have AV := Lib.hid (show ((((w15.setCell ⟨w2.heap.size + 1 + 1, 0, none⟩ (.int .i64 (mvS ⟨n, st, sd⟩ ⟨s.sh, s.cu⟩ ⟨mv.k, mv.s, ⟨mv.f.d, mv.f.t⟩⟩).sh)).setCell ⟨w2.heap.size + 1 + 1, 1, none⟩ (.int .i64 (mvS ⟨n, st, sd⟩ ⟨s.sh, s.cu⟩ ⟨mv.k, mv.s, ⟨mv.f.d, mv.f.t⟩⟩).cu)).alloc (.cells #[.int .i64 (mvS ⟨n, st, sd⟩ ⟨s.sh, s.cu⟩ ⟨mv.k, mv.s, ⟨mv.f.d, mv.f.t⟩⟩).sh, .int .i64 (mvS ⟨n, st, sd⟩ ⟨s.sh, s.cu⟩ ⟨mv.k, mv.s, ⟨mv.f.d, mv.f.t⟩⟩).cu] 28))).ownsRow (w.heap.size + 2) 2 1 (.slice av sd.length capv) sd.length (nums sd) from (qoh HOv_15))
            have AK0 := Lib.hid (show ((((w15.setCell ⟨w2.heap.size + 1 + 1, 0, none⟩ (.int .i64 (mvS ⟨n, st, sd⟩ ⟨s.sh, s.cu⟩ ⟨mv.k, mv.s, ⟨mv.f.d, mv.f.t⟩⟩).sh)).setCell ⟨w2.heap.size + 1 + 1, 1, none⟩ (.int .i64 (mvS ⟨n, st, sd⟩ ⟨s.sh, s.cu⟩ ⟨mv.k, mv.s, ⟨mv.f.d, mv.f.t⟩⟩).cu)).alloc (.cells #[.int .i64 (mvS ⟨n, st, sd⟩ ⟨s.sh, s.cu⟩ ⟨mv.k, mv.s, ⟨mv.f.d, mv.f.t⟩⟩).sh, .int .i64 (mvS ⟨n, st, sd⟩ ⟨s.sh, s.cu⟩ ⟨mv.k, mv.s, ⟨mv.f.d, mv.f.t⟩⟩).cu] 28))).heap[w.heap.size]? = some (.cells #[.int .i64 0, .slice none 0 0, .slice none 0 0] 26 (0, 0)) from qkh)
            have AK1 := Lib.hid (show ((((w15.setCell ⟨w2.heap.size + 1 + 1, 0, none⟩ (.int .i64 (mvS ⟨n, st, sd⟩ ⟨s.sh, s.cu⟩ ⟨mv.k, mv.s, ⟨mv.f.d, mv.f.t⟩⟩).sh)).setCell ⟨w2.heap.size + 1 + 1, 1, none⟩ (.int .i64 (mvS ⟨n, st, sd⟩ ⟨s.sh, s.cu⟩ ⟨mv.k, mv.s, ⟨mv.f.d, mv.f.t⟩⟩).cu)).alloc (.cells #[.int .i64 (mvS ⟨n, st, sd⟩ ⟨s.sh, s.cu⟩ ⟨mv.k, mv.s, ⟨mv.f.d, mv.f.t⟩⟩).sh, .int .i64 (mvS ⟨n, st, sd⟩ ⟨s.sh, s.cu⟩ ⟨mv.k, mv.s, ⟨mv.f.d, mv.f.t⟩⟩).cu] 28))).heap[w.heap.size + 1]? = some (.cells #[.int .i64 0, .int .i64 0] 28 (0, 0)) from qkh)
            have AK5 := Lib.hid (show ((((w15.setCell ⟨w2.heap.size + 1 + 1, 0, none⟩ (.int .i64 (mvS ⟨n, st, sd⟩ ⟨s.sh, s.cu⟩ ⟨mv.k, mv.s, ⟨mv.f.d, mv.f.t⟩⟩).sh)).setCell ⟨w2.heap.size + 1 + 1, 1, none⟩ (.int .i64 (mvS ⟨n, st, sd⟩ ⟨s.sh, s.cu⟩ ⟨mv.k, mv.s, ⟨mv.f.d, mv.f.t⟩⟩).cu)).alloc (.cells #[.int .i64 (mvS ⟨n, st, sd⟩ ⟨s.sh, s.cu⟩ ⟨mv.k, mv.s, ⟨mv.f.d, mv.f.t⟩⟩).sh, .int .i64 (mvS ⟨n, st, sd⟩ ⟨s.sh, s.cu⟩ ⟨mv.k, mv.s, ⟨mv.f.d, mv.f.t⟩⟩).cu] 28))).heap[w1.heap.size]? = some (.cells #[.int .i64 n, .slice au st.length capu, .slice av sd.length capv] 26 (0, 0)) from qkh)
            have AK6 := Lib.hid (show ((((w15.setCell ⟨w2.heap.size + 1 + 1, 0, none⟩ (.int .i64 (mvS ⟨n, st, sd⟩ ⟨s.sh, s.cu⟩ ⟨mv.k, mv.s, ⟨mv.f.d, mv.f.t⟩⟩).sh)).setCell ⟨w2.heap.size + 1 + 1, 1, none⟩ (.int .i64 (mvS ⟨n, st, sd⟩ ⟨s.sh, s.cu⟩ ⟨mv.k, mv.s, ⟨mv.f.d, mv.f.t⟩⟩).cu)).alloc (.cells #[.int .i64 (mvS ⟨n, st, sd⟩ ⟨s.sh, s.cu⟩ ⟨mv.k, mv.s, ⟨mv.f.d, mv.f.t⟩⟩).sh, .int .i64 (mvS ⟨n, st, sd⟩ ⟨s.sh, s.cu⟩ ⟨mv.k, mv.s, ⟨mv.f.d, mv.f.t⟩⟩).cu] 28))).heap[w2.heap.size]? = some (.cells #[.int .i64 s0.sh, .int .i64 s0.cu] 28 (0, 0)) from qkh)
            have AK8 := Lib.hid (show ((((w15.setCell ⟨w2.heap.size + 1 + 1, 0, none⟩ (.int .i64 (mvS ⟨n, st, sd⟩ ⟨s.sh, s.cu⟩ ⟨mv.k, mv.s, ⟨mv.f.d, mv.f.t⟩⟩).sh)).setCell ⟨w2.heap.size + 1 + 1, 1, none⟩ (.int .i64 (mvS ⟨n, st, sd⟩ ⟨s.sh, s.cu⟩ ⟨mv.k, mv.s, ⟨mv.f.d, mv.f.t⟩⟩).cu)).alloc (.cells #[.int .i64 (mvS ⟨n, st, sd⟩ ⟨s.sh, s.cu⟩ ⟨mv.k, mv.s, ⟨mv.f.d, mv.f.t⟩⟩).sh, .int .i64 (mvS ⟨n, st, sd⟩ ⟨s.sh, s.cu⟩ ⟨mv.k, mv.s, ⟨mv.f.d, mv.f.t⟩⟩).cu] 28))).heap[w2.heap.size + 1 + 1]? = some (.cells #[.int .i64 ((mvS ⟨n, st, sd⟩ ⟨s.sh, s.cu⟩ ⟨mv.k, mv.s, ⟨mv.f.d, mv.f.t⟩⟩)).sh, .int .i64 ((mvS ⟨n, st, sd⟩ ⟨s.sh, s.cu⟩ ⟨mv.k, mv.s, ⟨mv.f.d, mv.f.t⟩⟩)).cu] 28 (0, 0)) from qkh)
            have AD : Drawn w ((((w15.setCell ⟨w2.heap.size + 1 + 1, 0, none⟩ (.int .i64 (mvS ⟨n, st, sd⟩ ⟨s.sh, s.cu⟩ ⟨mv.k, mv.s, ⟨mv.f.d, mv.f.t⟩⟩).sh)).setCell ⟨w2.heap.size + 1 + 1, 1, none⟩ (.int .i64 (mvS ⟨n, st, sd⟩ ⟨s.sh, s.cu⟩ ⟨mv.k, mv.s, ⟨mv.f.d, mv.f.t⟩⟩).cu)).alloc (.cells #[.int .i64 (mvS ⟨n, st, sd⟩ ⟨s.sh, s.cu⟩ ⟨mv.k, mv.s, ⟨mv.f.d, mv.f.t⟩⟩).sh, .int .i64 (mvS ⟨n, st, sd⟩ ⟨s.sh, s.cu⟩ ⟨mv.k, mv.s, ⟨mv.f.d, mv.f.t⟩⟩).cu] 28))) k := qdh
            have AS : Src ((((w15.setCell ⟨w2.heap.size + 1 + 1, 0, none⟩ (.int .i64 (mvS ⟨n, st, sd⟩ ⟨s.sh, s.cu⟩ ⟨mv.k, mv.s, ⟨mv.f.d, mv.f.t⟩⟩).sh)).setCell ⟨w2.heap.size + 1 + 1, 1, none⟩ (.int .i64 (mvS ⟨n, st, sd⟩ ⟨s.sh, s.cu⟩ ⟨mv.k, mv.s, ⟨mv.f.d, mv.f.t⟩⟩).cu)).alloc (.cells #[.int .i64 (mvS ⟨n, st, sd⟩ ⟨s.sh, s.cu⟩ ⟨mv.k, mv.s, ⟨mv.f.d, mv.f.t⟩⟩).sh, .int .i64 (mvS ⟨n, st, sd⟩ ⟨s.sh, s.cu⟩ ⟨mv.k, mv.s, ⟨mv.f.d, mv.f.t⟩⟩).cu] 28))) k c := qsh
            have HzA := Lib.hid hzA
            have hbB := Lib.hid (show w2.heap.size + 1 ≤ (((w15.setCell ⟨w2.heap.size + 1 + 1, 0, none⟩ (.int .i64 (mvS ⟨n, st, sd⟩ ⟨s.sh, s.cu⟩ ⟨mv.k, mv.s, ⟨mv.f.d, mv.f.t⟩⟩).sh)).setCell ⟨w2.heap.size + 1 + 1, 1, none⟩ (.int .i64 (mvS ⟨n, st, sd⟩ ⟨s.sh, s.cu⟩ ⟨mv.k, mv.s, ⟨mv.f.d, mv.f.t⟩⟩).cu)).alloc (.cells #[.int .i64 (mvS ⟨n, st, sd⟩ ⟨s.sh, s.cu⟩ ⟨mv.k, mv.s, ⟨mv.f.d, mv.f.t⟩⟩).sh, .int .i64 (mvS ⟨n, st, sd⟩ ⟨s.sh, s.cu⟩ ⟨mv.k, mv.s, ⟨mv.f.d, mv.f.t⟩⟩).cu] 28)).heap.size by omega)
            clear hzA hzc
            go_wp2_with (at_builtin; refine app1at_Move' (w := (((w15.setCell ⟨w2.heap.size + 1 + 1, 0, none⟩ (.int .i64 (mvS ⟨n, st, sd⟩ ⟨s.sh, s.cu⟩ ⟨mv.k, mv.s, ⟨mv.f.d, mv.f.t⟩⟩).sh)).setCell ⟨w2.heap.size + 1 + 1, 1, none⟩ (.int .i64 (mvS ⟨n, st, sd⟩ ⟨s.sh, s.cu⟩ ⟨mv.k, mv.s, ⟨mv.f.d, mv.f.t⟩⟩).cu)).alloc (.cells #[.int .i64 (mvS ⟨n, st, sd⟩ ⟨s.sh, s.cu⟩ ⟨mv.k, mv.s, ⟨mv.f.d, mv.f.t⟩⟩).sh, .int .i64 (mvS ⟨n, st, sd⟩ ⟨s.sh, s.cu⟩ ⟨mv.k, mv.s, ⟨mv.f.d, mv.f.t⟩⟩).cu] 28))) (w15.heap.size + 1) HzA.out rfl (.tmp 54) (.tmp 56) rfl (w2.heap.size + 1) _ l ⟨mv.k, mv.s, ⟨mv.f.d, mv.f.t⟩⟩ rfl AO.out (by simp [Act.eval, Array.getD]) (by omega) hbB.out ?_; intro v5 w50 ho5 hg5 hat5)
            have hzA := HzA.out
            have hne5 : ∀ j, j < w2.heap.size + 1 → u7.ownBlock ≠ some j := fun j hj e => by have := (AO.out.lt j e).1; omega
            have hgz := hg5.size
            go_roundw
            case rel => exact ⟨l ++ [⟨mv.k, mv.s, ⟨mv.f.d, mv.f.t⟩⟩], m - 1, (mvS ⟨n, st, sd⟩ ⟨s.sh, s.cu⟩ ⟨mv.k, mv.s, ⟨mv.f.d, mv.f.t⟩⟩), by go_num, ho5, by simp; omega, Lib.hid (grown_keep hg5 AK0.out (hne5 _ (by omega))), Lib.hid (grown_keep hg5 AK1.out (hne5 _ (by omega))), Lib.hid (grown_keep hg5 AK5.out (hne5 _ (by omega))), Lib.hid (grown_keep hg5 AK6.out (hne5 _ (by omega))), Lib.hid (grown_keep hg5 AK8.out HNE.out), Lib.hid (rows_grown AU.out hg5 fun j hj => hne5 j (by have := hub j hj; omega)), Lib.hid (rows_grown AV.out hg5 fun j hj => hne5 j (by have := hvb j hj; omega)), Lib.hid (fun e => by rcases hat5 _ e with h1 | h1; exact HNE.out h1; omega), by omega, AD.own (base := w2.heap.size + 1) (by omega) AO.out hg5, AS.own (base := w2.heap.size + 1) (by omega) AO.out hg5⟩
            case measure => simp [intOf]; omega
  · skip
    obtain ⟨c0, f0, z0_10⟩ := blk_at HK0_10.out
    obtain ⟨c1, f1, z1_10⟩ := blk_at HK1_10.out
    obtain ⟨c5, f5, z5_10⟩ := blk_at HK5_10.out
    obtain ⟨c6, f6, z6_10⟩ := blk_at HK6_10.out
    obtain ⟨c8, f8, z8_10⟩ := blk_at HK8_10.out
    clear c8 f8
    obtain rfl : m = 0 := by omega
    obtain ⟨az, capz, rfl⟩ := isSl_of HOz_10.out
    go_wp2_with fail
    refine (w_l01Next k c 40 _ qsh).mono ?_
    rintro e w11 ⟨y, rfl, ya, yb, hD, hS11⟩
    have hz11 : wr.heap.size ≤ w11.heap.size := qsz hD.size
    have hD11 : Drawn w w11 k := Drawn.trans qdh hD
    have HK0_11 := Lib.hid (hD.keep (j := w.heap.size) qkh (by omega))
    have HK1_11 := Lib.hid (hD.keep (j := w.heap.size + 1) qkh (by omega))
    have HK5_11 := Lib.hid (hD.keep (j := w1.heap.size) qkh (by omega))
    have HK6_11 := Lib.hid (hD.keep (j := w2.heap.size) qkh (by omega))
    have HOu_11 := Lib.hid (hD.owns (qoh HOu_10) (by omega))
    have HOv_11 := Lib.hid (hD.owns (qoh HOv_10) (by omega))
    have HOz_11 := Lib.hid (hD.owns (qoh HOz_10) (by omega))
    clear hD c0 f0 c1 f1 c5 f5 c6 f6
    obtain ⟨c0, f0, z0_11⟩ := blk_at HK0_11.out
    obtain ⟨c1, f1, z1_11⟩ := blk_at HK1_11.out
    obtain ⟨c5, f5, z5_11⟩ := blk_at HK5_11.out
    obtain ⟨c6, f6, z6_11⟩ := blk_at HK6_11.out
    by_cases hy : y = 0
    rotate_left
    · skip
      have hyb : (y == 0) = false := by simpa using hy
      go_wp2_with fail
      have hD0 := hD11
      have hS0 := hS11
      have Q0 := HK0_11.out
      have Q1 := HK1_11.out
      have Q5 := HK5_11.out
      have Q6 := HK6_11.out
      have Qu := HOu_11.out
      have Qv := HOv_11.out
      have Qz := HOz_11.out
      have nu0 := ne_low (k := w.heap.size) Qu (by omega)
      have nu1 := ne_low (k := w.heap.size + 1) Qu (by omega)
      have nv0 := ne_low (k := w.heap.size) Qv (by omega)
      have nv1 := ne_low (k := w.heap.size + 1) Qv (by omega)
      have nz0 := ne_low (k := w.heap.size) Qz (by omega)
      have nz1 := ne_low (k := w.heap.size + 1) Qz (by omega)
      clear c0 f0 c1 f1 c5 f5 c6 f6
      refine region_slots 75 [72, 73, 74, 4] (fun g ac wc => sl ac 2 = .pointer (some ⟨w.heap.size, 0, none⟩) ∧
       sl ac 3 = .pointer (some ⟨w.heap.size + 1, 0, none⟩) ∧
       sl ac 5 = .pointer (some ⟨w1.heap.size, 0, none⟩) ∧
       sl ac 6 = .pointer (some ⟨w2.heap.size, 0, none⟩) ∧
       sl ac 7 = .slice az l.length capz ∧
       (g 0 = true → (sl ac 72) = .agg #[.int .i64 n, .slice au st.length capu, .slice av sd.length capv]) ∧
       (g 1 = true → (sl ac 73) = .agg #[.int .i64 s0.sh, .int .i64 s0.cu]) ∧
       (g 2 = true → (sl ac 74) = .slice az l.length capz) ∧
       (g 5 = true → (sl ac 4) = .slice az l.length capz) ∧
       Drawn w wc k ∧
       Src wc k c ∧
       wc.ownsRow (w.heap.size + 2) 2 1 (.slice au st.length capu) st.length (nums st) ∧
       wc.ownsRow (w.heap.size + 2) 2 1 (.slice av sd.length capv) sd.length (nums sd) ∧
       wc.ownsRow (w2.heap.size + 1) 107 4 (.slice az l.length capz) l.length (movs l) ∧
       wc.heap[w1.heap.size]? = some (.cells #[.int .i64 n, .slice au st.length capu, .slice av sd.length capv] 26 (0, 0)) ∧
       wc.heap[w2.heap.size]? = some (.cells #[.int .i64 s0.sh, .int .i64 s0.cu] 28 (0, 0)) ∧
       (g 3 = false → wc.heap[w.heap.size]? = some (.cells #[.int .i64 0, .slice none 0 0, .slice none 0 0] 26 (0, 0))) ∧
       (g 3 = true → wc.heap[w.heap.size]? = some (.cells #[.int .i64 n, .slice au st.length capu, .slice av sd.length capv] 26 (0, 0))) ∧
       (g 4 = false → wc.heap[w.heap.size + 1]? = some (.cells #[.int .i64 0, .int .i64 0] 28 (0, 0))) ∧
       (g 4 = true → wc.heap[w.heap.size + 1]? = some (.cells #[.int .i64 s0.sh, .int .i64 s0.cu] 28 (0, 0))) ∧
       (g 3 = true → g 0 = true) ∧
       (g 4 = true → g 1 = true) ∧
       (g 5 = true → g 2 = true)) (by kernel_rfl) (by kernel_rfl) rfl (by kernel_rfl) ?_ ?_ ?_
      · exact ⟨rfl, rfl, rfl, rfl, rfl, nofun, nofun, nofun, nofun, hD0.drew, hS0.drew, owns_later Qu (Later.refl _).drew, owns_later Qv (Later.refl _).drew, owns_later Qz (Later.refl _).drew, Q5, Q6, fun _ => Q0, nofun, fun _ => Q1, nofun, nofun, nofun, nofun⟩
      · intro g ac wu hg ha hI
        obtain ⟨xi2, xi3, xi5, xi6, xi7, i0, i1, i2, i5, hD, hS, Ou, Ov, Oz, B5, B6, -, N0, -, N1, -, -, -⟩ := hI
        obtain e0 := i0 (hg 0 (by simp))
        obtain e1 := i1 (hg 1 (by simp))
        obtain e2 := i2 (hg 2 (by simp))
        obtain e5 := i5 (hg 5 (by simp))
        replace N0 := N0 (hg 3 (by simp))
        replace N1 := N1 (hg 4 (by simp))
        simp only [putAll, e0, e1, e2, e5] at ha
        simp only [Act.put, List.setIfInBounds_toArray, List.set_cons_succ, List.set_cons_zero] at ha
        rw [ha]
        clear xi2 xi3 xi5 xi6 xi7 i0 i1 i2 i5 e0 e1 e2 e5 hg ha
        have hc0 := (blk_at N0).1
        have hz0 := (blk_at N0).2.2
        have hc1 := (blk_at N1).1
        have hz1' := (blk_at N1).2.2
        have HDu := Lib.hid hD
        have HSu := Lib.hid hS
        have HUu := Lib.hid Ou
        have HVu := Lib.hid Ov
        have HZu := Lib.hid Oz
        clear hD hS Ou Ov Oz B5 B6 N0 N1
        go_wp2
        refine bodyPost_ret (v := .tuple #[.agg #[.int .i64 n, .slice au st.length capu, .slice av sd.length capv], .agg #[.int .i64 s0.sh, .int .i64 s0.cu], .slice az l.length capz]) (by simp [results, Tryz.results83, go_sem, hc0, hz0, hc1, hz1']) rfl ⟨n, _, _, st, sd, s0, l, _, rfl, owns_base HUu.out (by omega), owns_base HVu.out (by omega), by omega, by omega, owns_base HZu.out (by omega), by omega, HDu.out, HSu.out⟩
      · refine .cons ?_ (.cons ?_ (.cons ?_ (.cons ?_ (.cons ?_ (.cons ?_ .nil)))))
        · refine qst fun g ac wc hn hk hr HI K' hK => ?_
          obtain ⟨xi2, xi3, xi5, xi6, xi7, -, -, -, -, hD, hS, Ou, Ov, Oz, B5, B6, R0, N0, R1, N1, m3_0, m4_1, m5_2⟩ := HI.out
          simp [Region.binds] at hr
          have zi5 := sl_get xi5 (by omega)
          obtain ⟨cb, fb, zb⟩ := blk_at B5
          go_simp
          obtain ⟨-, -, -, -, -, i0, i1, i2, i5, -⟩ := HI.out
          exact hK.out _ _ ⟨qB xi2, qB xi3, qB xi5, qB xi6, qB xi7, qP, (fun h => by rw [put_ne (by decide)]; exact i1 h), (fun h => by rw [put_ne (by decide)]; exact i2 h), (fun h => by rw [put_ne (by decide)]; exact i5 h), hD, hS, Ou, Ov, Oz, B5, B6, (fun h => (R0 h)), (fun h => N0 h), (fun h => (R1 h)), (fun h => N1 h), (fun _ => rfl), m4_1, m5_2⟩
        · refine qst fun g ac wc hn hk hr HI K' hK => ?_
          obtain ⟨xi2, xi3, xi5, xi6, xi7, -, -, -, -, hD, hS, Ou, Ov, Oz, B5, B6, R0, N0, R1, N1, m3_0, m4_1, m5_2⟩ := HI.out
          simp [Region.binds] at hr
          have zi6 := sl_get xi6 (by omega)
          obtain ⟨cb, fb, zb⟩ := blk_at B6
          go_simp
          obtain ⟨-, -, -, -, -, i0, i1, i2, i5, -⟩ := HI.out
          exact hK.out _ _ ⟨qB xi2, qB xi3, qB xi5, qB xi6, qB xi7, (fun h => by rw [put_ne (by decide)]; exact i0 h), qP, (fun h => by rw [put_ne (by decide)]; exact i2 h), (fun h => by rw [put_ne (by decide)]; exact i5 h), hD, hS, Ou, Ov, Oz, B5, B6, (fun h => (R0 h)), (fun h => N0 h), (fun h => (R1 h)), (fun h => N1 h), m3_0, (fun _ => rfl), m5_2⟩
        · refine qst fun g ac wc hn hk hr HI K' hK => ?_
          obtain ⟨xi2, xi3, xi5, xi6, xi7, -, -, -, -, hD, hS, Ou, Ov, Oz, B5, B6, R0, N0, R1, N1, m3_0, m4_1, m5_2⟩ := HI.out
          simp [Region.binds] at hr
          have zi7 := sl_get xi7 (by omega)
          go_simp
          obtain ⟨-, -, -, -, -, i0, i1, i2, i5, -⟩ := HI.out
          exact hK.out _ _ ⟨qB xi2, qB xi3, qB xi5, qB xi6, qB xi7, (fun h => by rw [put_ne (by decide)]; exact i0 h), (fun h => by rw [put_ne (by decide)]; exact i1 h), qP, (fun h => absurd (m5_2 h) (by rw [hk]; simp)), hD, hS, Ou, Ov, Oz, B5, B6, (fun h => (R0 h)), (fun h => N0 h), (fun h => (R1 h)), (fun h => N1 h), m3_0, m4_1, (fun _ => rfl)⟩
        · refine qst fun g ac wc hn hk hr HI K' hK => ?_
          obtain ⟨xi2, xi3, xi5, xi6, xi7, i0, -, -, -, hD, hS, Ou, Ov, Oz, B5, B6, R0, N0, R1, N1, m3_0, m4_1, m5_2⟩ := HI.out
          simp [Region.binds] at hr
          have g0 : g 0 = true := (by simp [hr])
          obtain y0 := i0 g0
          have z0 := sl_get y0 (by omega)
          have zi2 := sl_get xi2 (by omega)
          have hst := hk
          have hbb := blk_at (R0 hst)
          have cb := hbb.1
          have fb := hbb.2.1
          have zb := hbb.2.2
          clear hbb
          clear i0
          go_simp
          obtain ⟨-, -, -, -, -, i0, i1, i2, i5, -⟩ := HI.out
          exact hK.out undef _ ⟨xi2, xi3, xi5, xi6, xi7, (fun h => i0 h), (fun h => i1 h), (fun h => i2 h), (fun h => i5 h), (((hD.setCell (by omega) _ _).setCell (by omega) _ _).setCell (by omega) _ _), (((hS.setCell (by omega) _ _).setCell (by omega) _ _).setCell (by omega) _ _), (owns_setNe (owns_setNe (owns_setNe Ou (by assumption) _ _) (by assumption) _ _) (by assumption) _ _), (owns_setNe (owns_setNe (owns_setNe Ov (by assumption) _ _) (by assumption) _ _) (by assumption) _ _), (owns_setNe (owns_setNe (owns_setNe Oz (by assumption) _ _) (by assumption) _ _) (by assumption) _ _), (other_set (other_set (other_set B5 (by omega) _) (by omega) _) (by omega) _), (other_set (other_set (other_set B6 (by omega) _) (by omega) _) (by omega) _), (fun h => absurd h (by simp)), (fun _ => st_2_3 (st_1_3 (st_0_3 (R0 hk) _) _) _), (fun h => (other_set (other_set (other_set (R1 h) (by omega) _) (by omega) _) (by omega) _)), (fun h => (other_set (other_set (other_set (N1 h) (by omega) _) (by omega) _) (by omega) _)), (fun _ => g0), m4_1, m5_2⟩
        · refine qst fun g ac wc hn hk hr HI K' hK => ?_
          obtain ⟨xi2, xi3, xi5, xi6, xi7, -, i1, -, -, hD, hS, Ou, Ov, Oz, B5, B6, R0, N0, R1, N1, m3_0, m4_1, m5_2⟩ := HI.out
          simp [Region.binds] at hr
          have g1 : g 1 = true := (by simp [hr])
          obtain y1 := i1 g1
          have z1 := sl_get y1 (by omega)
          have zi3 := sl_get xi3 (by omega)
          have hst := hk
          have hbb := blk_at (R1 hst)
          have cb := hbb.1
          have fb := hbb.2.1
          have zb := hbb.2.2
          clear hbb
          clear i1
          go_simp
          obtain ⟨-, -, -, -, -, i0, i1, i2, i5, -⟩ := HI.out
          exact hK.out undef _ ⟨xi2, xi3, xi5, xi6, xi7, (fun h => i0 h), (fun h => i1 h), (fun h => i2 h), (fun h => i5 h), ((hD.setCell (by omega) _ _).setCell (by omega) _ _), ((hS.setCell (by omega) _ _).setCell (by omega) _ _), (owns_setNe (owns_setNe Ou (by assumption) _ _) (by assumption) _ _), (owns_setNe (owns_setNe Ov (by assumption) _ _) (by assumption) _ _), (owns_setNe (owns_setNe Oz (by assumption) _ _) (by assumption) _ _), (other_set (other_set B5 (by omega) _) (by omega) _), (other_set (other_set B6 (by omega) _) (by omega) _), (fun h => (other_set (other_set (R0 h) (by omega) _) (by omega) _)), (fun h => (other_set (other_set (N0 h) (by omega) _) (by omega) _)), (fun h => absurd h (by simp)), (fun _ => st_1_2 (st_0_2 (R1 hk) _) _), m3_0, (fun _ => g1), m5_2⟩
        · refine qst fun g ac wc hn hk hr HI K' hK => ?_
          obtain ⟨xi2, xi3, xi5, xi6, xi7, -, -, i2, -, hD, hS, Ou, Ov, Oz, B5, B6, R0, N0, R1, N1, m3_0, m4_1, m5_2⟩ := HI.out
          simp [Region.binds] at hr
          have g2 : g 2 = true := (by simp [hr])
          obtain y2 := i2 g2
          have z2 := sl_get y2 (by omega)
          clear i2
          go_simp
          obtain ⟨-, -, -, -, -, i0, i1, i2, i5, -⟩ := HI.out
          exact hK.out _ _ ⟨qB xi2, qB xi3, qB xi5, qB xi6, qB xi7, (fun h => by rw [put_ne (by decide)]; exact i0 h), (fun h => by rw [put_ne (by decide)]; exact i1 h), (fun h => by rw [put_ne (by decide)]; exact i2 h), qP, hD, hS, Ou, Ov, Oz, B5, B6, (fun h => (R0 h)), (fun h => N0 h), (fun h => (R1 h)), (fun h => N1 h), m3_0, m4_1, (fun _ => g2)⟩
    · subst hy
      have HZL : Hid (l.length ≤ 31) := Lib.hid (by omega)
      clear c0 f0 c1 f1 c5 f5 c6 f6
      go_wp2
      go_loopw [7] (fun v wr => ∃ l : List Mov, wr.ownsRow (w2.heap.size + 1) 107 4 v l.length (movs l) ∧ l.length ≤ 31 ∧ Hid (wr.heap[w.heap.size]? = some (.cells #[.int .i64 0, .slice none 0 0, .slice none 0 0] 26 (0, 0))) ∧ Hid (wr.heap[w.heap.size + 1]? = some (.cells #[.int .i64 0, .int .i64 0] 28 (0, 0))) ∧ Hid (wr.heap[w1.heap.size]? = some (.cells #[.int .i64 n, .slice au st.length capu, .slice av sd.length capv] 26 (0, 0))) ∧ Hid (wr.heap[w2.heap.size]? = some (.cells #[.int .i64 s0.sh, .int .i64 s0.cu] 28 (0, 0))) ∧ Hid (wr.ownsRow (w.heap.size + 2) 2 1 (.slice au st.length capu) st.length (nums st)) ∧ Hid (wr.ownsRow (w.heap.size + 2) 2 1 (.slice av sd.length capv) sd.length (nums sd)) ∧ w2.heap.size + 2 < wr.heap.size ∧ Drawn w wr k ∧ Src wr k c) (fun v _ => 31 - slN' v)
      case atStart => exact ⟨l, HOz_11.out, HZL.out, HK0_11, HK1_11, HK5_11, HK6_11, HOu_11, HOv_11, by omega, hD11, hS11⟩
      case round =>
       obtain ⟨l', hO, hl31, HK0_10, HK1_10, HK5_10, HK6_10, HOu_10, HOv_10, hzr', hDr', hSr'⟩ := hrel
       have hsl := slN'_own hO
       have HSL := Lib.hid hsl
       have HOz_10 := Lib.hid hO
       obtain ⟨ay, capy, rfl⟩ := isSl_of hO
       have hzrw' := hDr'.size
       clear hO hsl
       obtain ⟨c0, f0, z0_10⟩ := blk_at HK0_10.out
       obtain ⟨c1, f1, z1_10⟩ := blk_at HK1_10.out
       obtain ⟨c5, f5, z5_10⟩ := blk_at HK5_10.out
       obtain ⟨c6, f6, z6_10⟩ := blk_at HK6_10.out
       go_wp2_with fail
       refine (w_l01Next k c 2 _ qsh).mono ?_
       rintro e w11 ⟨y2, rfl, y2a, y2b, hD, hS11⟩
       have HZ11 := Lib.hid (show w2.heap.size + 2 < w11.heap.size from Nat.lt_of_lt_of_le hzr' hD.size)
       have hD11 : Drawn w w11 k := Drawn.trans qdh hD
       have HK0_11 := Lib.hid (hD.keep (j := w.heap.size) qkh (by omega))
       have HK1_11 := Lib.hid (hD.keep (j := w.heap.size + 1) qkh (by omega))
       have HK5_11 := Lib.hid (hD.keep (j := w1.heap.size) qkh (by omega))
       have HK6_11 := Lib.hid (hD.keep (j := w2.heap.size) qkh (by omega))
       have HOu_11 := Lib.hid (hD.owns (qoh HOu_10) (by omega))
       have HOv_11 := Lib.hid (hD.owns (qoh HOv_10) (by omega))
       have HOz_11 := Lib.hid (hD.owns (qoh HOz_10) (by omega))
       clear hD c0 f0 c1 f1 c5 f5 c6 f6
       obtain ⟨c0, f0, z0_11⟩ := blk_at HK0_11.out
       obtain ⟨c1, f1, z1_11⟩ := blk_at HK1_11.out
       obtain ⟨c5, f5, z5_11⟩ := blk_at HK5_11.out
       obtain ⟨c6, f6, z6_11⟩ := blk_at HK6_11.out
       by_cases hlt : (l'.length : Int) < 30 + y2
       · have hgz0 := hD11.size
         have hzz : w2.heap.size + 2 < w11.heap.size := by have h1 := HZ11.out; omega
         clear c0 f0 c1 f1 c5 f5 c6 f6
         go_wp2_with (at_builtin; refine app1at_Move (w := w11) rfl (.tmp 67) (.tmp 70) rfl (w2.heap.size + 1) _ l' ⟨0, 0, ⟨2000, 0⟩⟩ rfl HOz_11.out (by simp [Act.eval, Array.getD]) (by omega) (by omega) ?_; intro v5 w50 ho5 hg5 hat5)
         have hne5 : ∀ j, j < w2.heap.size + 1 → (Value.slice ay l'.length capy).ownBlock ≠ some j := fun j hj e => by have := (HOz_11.out.lt j e).1; omega
         have hgz := hg5.size
         go_roundw
         case rel => exact ⟨l' ++ [⟨0, 0, ⟨2000, 0⟩⟩], ho5, by simp; omega, Lib.hid (grown_keep hg5 HK0_11.out (hne5 _ (by omega))), Lib.hid (grown_keep hg5 HK1_11.out (hne5 _ (by omega))), Lib.hid (grown_keep hg5 HK5_11.out (hne5 _ (by omega))), Lib.hid (grown_keep hg5 HK6_11.out (hne5 _ (by omega))), Lib.hid (rows_grown HOu_11.out hg5 fun j hj => hne5 j (by have := hub j hj; omega)), Lib.hid (rows_grown HOv_11.out hg5 fun j hj => hne5 j (by have := hvb j hj; omega)), by omega, hD11.own (base := w2.heap.size + 1) (by omega) HOz_11.out hg5, hS11.own (base := w2.heap.size + 1) (by omega) HOz_11.out hg5⟩
         case measure =>
          have h1 := slN'_own ho5
          have h2 := HSL.out
          rw [List.length_append, List.length_cons, List.length_nil] at h1
          omega
       · skip
         go_wp2_with fail
         have hD0 := hD11
         have hS0 := hS11
         have Q0 := HK0_11.out
         have Q1 := HK1_11.out
         have Q5 := HK5_11.out
         have Q6 := HK6_11.out
         have Qu := HOu_11.out
         have Qv := HOv_11.out
         have Qz := HOz_11.out
         have nu0 := ne_low (k := w.heap.size) Qu (by omega)
         have nu1 := ne_low (k := w.heap.size + 1) Qu (by omega)
         have nv0 := ne_low (k := w.heap.size) Qv (by omega)
         have nv1 := ne_low (k := w.heap.size + 1) Qv (by omega)
         have nz0 := ne_low (k := w.heap.size) Qz (by omega)
         have nz1 := ne_low (k := w.heap.size + 1) Qz (by omega)
         clear c0 f0 c1 f1 c5 f5 c6 f6
         refine region_slots 75 [72, 73, 74, 4] (fun g ac wc => sl ac 2 = .pointer (some ⟨w.heap.size, 0, none⟩) ∧
          sl ac 3 = .pointer (some ⟨w.heap.size + 1, 0, none⟩) ∧
          sl ac 5 = .pointer (some ⟨w1.heap.size, 0, none⟩) ∧
          sl ac 6 = .pointer (some ⟨w2.heap.size, 0, none⟩) ∧
          sl ac 7 = .slice ay l'.length capy ∧
          (g 0 = true → (sl ac 72) = .agg #[.int .i64 n, .slice au st.length capu, .slice av sd.length capv]) ∧
          (g 1 = true → (sl ac 73) = .agg #[.int .i64 s0.sh, .int .i64 s0.cu]) ∧
          (g 2 = true → (sl ac 74) = .slice ay l'.length capy) ∧
          (g 5 = true → (sl ac 4) = .slice ay l'.length capy) ∧
          Drawn w wc k ∧
          Src wc k c ∧
          wc.ownsRow (w.heap.size + 2) 2 1 (.slice au st.length capu) st.length (nums st) ∧
          wc.ownsRow (w.heap.size + 2) 2 1 (.slice av sd.length capv) sd.length (nums sd) ∧
          wc.ownsRow (w2.heap.size + 1) 107 4 (.slice ay l'.length capy) l'.length (movs l') ∧
          wc.heap[w1.heap.size]? = some (.cells #[.int .i64 n, .slice au st.length capu, .slice av sd.length capv] 26 (0, 0)) ∧
          wc.heap[w2.heap.size]? = some (.cells #[.int .i64 s0.sh, .int .i64 s0.cu] 28 (0, 0)) ∧
          (g 3 = false → wc.heap[w.heap.size]? = some (.cells #[.int .i64 0, .slice none 0 0, .slice none 0 0] 26 (0, 0))) ∧
          (g 3 = true → wc.heap[w.heap.size]? = some (.cells #[.int .i64 n, .slice au st.length capu, .slice av sd.length capv] 26 (0, 0))) ∧
          (g 4 = false → wc.heap[w.heap.size + 1]? = some (.cells #[.int .i64 0, .int .i64 0] 28 (0, 0))) ∧
          (g 4 = true → wc.heap[w.heap.size + 1]? = some (.cells #[.int .i64 s0.sh, .int .i64 s0.cu] 28 (0, 0))) ∧
          (g 3 = true → g 0 = true) ∧
          (g 4 = true → g 1 = true) ∧
          (g 5 = true → g 2 = true)) (by kernel_rfl) (by kernel_rfl) rfl (by kernel_rfl) ?_ ?_ ?_
         · exact ⟨rfl, rfl, rfl, rfl, rfl, nofun, nofun, nofun, nofun, hD0.drew, hS0.drew, owns_later Qu (Later.refl _).drew, owns_later Qv (Later.refl _).drew, owns_later Qz (Later.refl _).drew, Q5, Q6, fun _ => Q0, nofun, fun _ => Q1, nofun, nofun, nofun, nofun⟩
         · intro g ac wu hg ha hI
           obtain ⟨xi2, xi3, xi5, xi6, xi7, i0, i1, i2, i5, hD, hS, Ou, Ov, Oz, B5, B6, -, N0, -, N1, -, -, -⟩ := hI
           obtain e0 := i0 (hg 0 (by simp))
           obtain e1 := i1 (hg 1 (by simp))
           obtain e2 := i2 (hg 2 (by simp))
           obtain e5 := i5 (hg 5 (by simp))
           replace N0 := N0 (hg 3 (by simp))
           replace N1 := N1 (hg 4 (by simp))
           simp only [putAll, e0, e1, e2, e5] at ha
           simp only [Act.put, List.setIfInBounds_toArray, List.set_cons_succ, List.set_cons_zero] at ha
           rw [ha]
           clear xi2 xi3 xi5 xi6 xi7 i0 i1 i2 i5 e0 e1 e2 e5 hg ha
           have hc0 := (blk_at N0).1
           have hz0 := (blk_at N0).2.2
           have hc1 := (blk_at N1).1
           have hz1' := (blk_at N1).2.2
           have HDu := Lib.hid hD
           have HSu := Lib.hid hS
           have HUu := Lib.hid Ou
           have HVu := Lib.hid Ov
           have HZu := Lib.hid Oz
           clear hD hS Ou Ov Oz B5 B6 N0 N1
           go_wp2
           refine bodyPost_ret (v := .tuple #[.agg #[.int .i64 n, .slice au st.length capu, .slice av sd.length capv], .agg #[.int .i64 s0.sh, .int .i64 s0.cu], .slice ay l'.length capy]) (by simp [results, Tryz.results83, go_sem, hc0, hz0, hc1, hz1']) rfl ⟨n, _, _, st, sd, s0, l', _, rfl, owns_base HUu.out (by omega), owns_base HVu.out (by omega), by omega, by omega, owns_base HZu.out (by omega), by omega, HDu.out, HSu.out⟩
         · refine .cons ?_ (.cons ?_ (.cons ?_ (.cons ?_ (.cons ?_ (.cons ?_ .nil)))))
           · refine qst fun g ac wc hn hk hr HI K' hK => ?_
             obtain ⟨xi2, xi3, xi5, xi6, xi7, -, -, -, -, hD, hS, Ou, Ov, Oz, B5, B6, R0, N0, R1, N1, m3_0, m4_1, m5_2⟩ := HI.out
             simp [Region.binds] at hr
             have zi5 := sl_get xi5 (by omega)
             obtain ⟨cb, fb, zb⟩ := blk_at B5
             go_simp
             obtain ⟨-, -, -, -, -, i0, i1, i2, i5, -⟩ := HI.out
             exact hK.out _ _ ⟨qB xi2, qB xi3, qB xi5, qB xi6, qB xi7, qP, (fun h => by rw [put_ne (by decide)]; exact i1 h), (fun h => by rw [put_ne (by decide)]; exact i2 h), (fun h => by rw [put_ne (by decide)]; exact i5 h), hD, hS, Ou, Ov, Oz, B5, B6, (fun h => (R0 h)), (fun h => N0 h), (fun h => (R1 h)), (fun h => N1 h), (fun _ => rfl), m4_1, m5_2⟩
           · refine qst fun g ac wc hn hk hr HI K' hK => ?_
             obtain ⟨xi2, xi3, xi5, xi6, xi7, -, -, -, -, hD, hS, Ou, Ov, Oz, B5, B6, R0, N0, R1, N1, m3_0, m4_1, m5_2⟩ := HI.out
             simp [Region.binds] at hr
             have zi6 := sl_get xi6 (by omega)
             obtain ⟨cb, fb, zb⟩ := blk_at B6
             go_simp
             obtain ⟨-, -, -, -, -, i0, i1, i2, i5, -⟩ := HI.out
             exact hK.out _ _ ⟨qB xi2, qB xi3, qB xi5, qB xi6, qB xi7, (fun h => by rw [put_ne (by decide)]; exact i0 h), qP, (fun h => by rw [put_ne (by decide)]; exact i2 h), (fun h => by rw [put_ne (by decide)]; exact i5 h), hD, hS, Ou, Ov, Oz, B5, B6, (fun h => (R0 h)), (fun h => N0 h), (fun h => (R1 h)), (fun h => N1 h), m3_0, (fun _ => rfl), m5_2⟩
           · refine qst fun g ac wc hn hk hr HI K' hK => ?_
             obtain ⟨xi2, xi3, xi5, xi6, xi7, -, -, -, -, hD, hS, Ou, Ov, Oz, B5, B6, R0, N0, R1, N1, m3_0, m4_1, m5_2⟩ := HI.out
             simp [Region.binds] at hr
             have zi7 := sl_get xi7 (by omega)
             go_simp
             obtain ⟨-, -, -, -, -, i0, i1, i2, i5, -⟩ := HI.out
             exact hK.out _ _ ⟨qB xi2, qB xi3, qB xi5, qB xi6, qB xi7, (fun h => by rw [put_ne (by decide)]; exact i0 h), (fun h => by rw [put_ne (by decide)]; exact i1 h), qP, (fun h => absurd (m5_2 h) (by rw [hk]; simp)), hD, hS, Ou, Ov, Oz, B5, B6, (fun h => (R0 h)), (fun h => N0 h), (fun h => (R1 h)), (fun h => N1 h), m3_0, m4_1, (fun _ => rfl)⟩
           · refine qst fun g ac wc hn hk hr HI K' hK => ?_
             obtain ⟨xi2, xi3, xi5, xi6, xi7, i0, -, -, -, hD, hS, Ou, Ov, Oz, B5, B6, R0, N0, R1, N1, m3_0, m4_1, m5_2⟩ := HI.out
             simp [Region.binds] at hr
             have g0 : g 0 = true := (by simp [hr])
             obtain y0 := i0 g0
             have z0 := sl_get y0 (by omega)
             have zi2 := sl_get xi2 (by omega)
             have hst := hk
             have hbb := blk_at (R0 hst)
             have cb := hbb.1
             have fb := hbb.2.1
             have zb := hbb.2.2
             clear hbb
             clear i0
             go_simp
             obtain ⟨-, -, -, -, -, i0, i1, i2, i5, -⟩ := HI.out
             exact hK.out undef _ ⟨xi2, xi3, xi5, xi6, xi7, (fun h => i0 h), (fun h => i1 h), (fun h => i2 h), (fun h => i5 h), (((hD.setCell (by omega) _ _).setCell (by omega) _ _).setCell (by omega) _ _), (((hS.setCell (by omega) _ _).setCell (by omega) _ _).setCell (by omega) _ _), (owns_setNe (owns_setNe (owns_setNe Ou (by assumption) _ _) (by assumption) _ _) (by assumption) _ _), (owns_setNe (owns_setNe (owns_setNe Ov (by assumption) _ _) (by assumption) _ _) (by assumption) _ _), (owns_setNe (owns_setNe (owns_setNe Oz (by assumption) _ _) (by assumption) _ _) (by assumption) _ _), (other_set (other_set (other_set B5 (by omega) _) (by omega) _) (by omega) _), (other_set (other_set (other_set B6 (by omega) _) (by omega) _) (by omega) _), (fun h => absurd h (by simp)), (fun _ => st_2_3 (st_1_3 (st_0_3 (R0 hk) _) _) _), (fun h => (other_set (other_set (other_set (R1 h) (by omega) _) (by omega) _) (by omega) _)), (fun h => (other_set (other_set (other_set (N1 h) (by omega) _) (by omega) _) (by omega) _)), (fun _ => g0), m4_1, m5_2⟩
           · refine qst fun g ac wc hn hk hr HI K' hK => ?_
             obtain ⟨xi2, xi3, xi5, xi6, xi7, -, i1, -, -, hD, hS, Ou, Ov, Oz, B5, B6, R0, N0, R1, N1, m3_0, m4_1, m5_2⟩ := HI.out
             simp [Region.binds] at hr
             have g1 : g 1 = true := (by simp [hr])
             obtain y1 := i1 g1
             have z1 := sl_get y1 (by omega)
             have zi3 := sl_get xi3 (by omega)
             have hst := hk
             have hbb := blk_at (R1 hst)
             have cb := hbb.1
             have fb := hbb.2.1
             have zb := hbb.2.2
             clear hbb
             clear i1
             go_simp
             obtain ⟨-, -, -, -, -, i0, i1, i2, i5, -⟩ := HI.out
             exact hK.out undef _ ⟨xi2, xi3, xi5, xi6, xi7, (fun h => i0 h), (fun h => i1 h), (fun h => i2 h), (fun h => i5 h), ((hD.setCell (by omega) _ _).setCell (by omega) _ _), ((hS.setCell (by omega) _ _).setCell (by omega) _ _), (owns_setNe (owns_setNe Ou (by assumption) _ _) (by assumption) _ _), (owns_setNe (owns_setNe Ov (by assumption) _ _) (by assumption) _ _), (owns_setNe (owns_setNe Oz (by assumption) _ _) (by assumption) _ _), (other_set (other_set B5 (by omega) _) (by omega) _), (other_set (other_set B6 (by omega) _) (by omega) _), (fun h => (other_set (other_set (R0 h) (by omega) _) (by omega) _)), (fun h => (other_set (other_set (N0 h) (by omega) _) (by omega) _)), (fun h => absurd h (by simp)), (fun _ => st_1_2 (st_0_2 (R1 hk) _) _), m3_0, (fun _ => g1), m5_2⟩
           · refine qst fun g ac wc hn hk hr HI K' hK => ?_
             obtain ⟨xi2, xi3, xi5, xi6, xi7, -, -, i2, -, hD, hS, Ou, Ov, Oz, B5, B6, R0, N0, R1, N1, m3_0, m4_1, m5_2⟩ := HI.out
             simp [Region.binds] at hr
             have g2 : g 2 = true := (by simp [hr])
             obtain y2 := i2 g2
             have z2 := sl_get y2 (by omega)
             clear i2
             go_simp
             obtain ⟨-, -, -, -, -, i0, i1, i2, i5, -⟩ := HI.out
             exact hK.out _ _ ⟨qB xi2, qB xi3, qB xi5, qB xi6, qB xi7, (fun h => by rw [put_ne (by decide)]; exact i0 h), (fun h => by rw [put_ne (by decide)]; exact i1 h), (fun h => by rw [put_ne (by decide)]; exact i2 h), qP, hD, hS, Ou, Ov, Oz, B5, B6, (fun h => (R0 h)), (fun h => N0 h), (fun h => (R1 h)), (fun h => N1 h), m3_0, m4_1, (fun _ => g2)⟩
end Go.Proofs.YtgngbdacejghcaaGreatDoor
