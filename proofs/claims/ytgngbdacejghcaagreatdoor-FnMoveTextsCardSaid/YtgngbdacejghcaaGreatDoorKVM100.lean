/- DERIVED. Walks: where drawn numbers come from. -/
import Derived.Test.YtgngbdacejghcaaGreatDoorKVBA
namespace Go.Proofs.YtgngbdacejghcaaGreatDoor
set_option linter.unusedVariables false
set_option linter.unusedSimpArgs false
open Go.RowKit
set_option maxRecDepth 100000
def byts (l : List Int) : List Value := l.map (Value.int .u8)
def AllIn (v : Value) (P : Nat → Prop) : Prop := ∀ b off n c, v = .slice (some ⟨b, off, none⟩) n c → 0 < n → P b
theorem AllIn.mono {v : Value} {P Q : Nat → Prop} (h : AllIn v P) (hq : ∀ b, P b → Q b) : AllIn v Q := fun b off n c e h0 => hq b (h b off n c e h0)
abbrev IsByts (w : World) (v : Value) (bs : List Int) : Prop := Reads w v bs.length 1 (byts bs)
theorem rd_keep {w w' : World} {v : Value} {n sz : Nat} {xs : List Value} (h : Reads w v n sz xs) (hz : w.heap.size ≤ w'.heap.size) (hr : AllIn v fun b => w'.heap[b]? = w.heap[b]?) : Reads w' v n sz xs := by
 obtain ⟨h1, h2, a, cap, rfl, h4, h5, h6⟩ := h
 refine ⟨h1, h2, a, cap, rfl, h4, h5, fun h0 => ?_⟩
 obtain ⟨b, off, rfl, hb, hc⟩ := h6 h0
 refine ⟨b, off, rfl, Nat.lt_of_lt_of_le hb hz, fun j u hj => ?_⟩
 rw [World.cell?_of_block (w := w) (hr b off _ _ rfl h0)]
 exact hc j u hj
def Src (w : World) (k : Nat) (c : Value) : Prop := ∃ (bs : List Int) (t : Nat) (seed : Int), w.heap[k]? = some (.cells #[c, .int .i64 t, .int .i64 seed] 124 (0, 0)) ∧ IsByts w c bs ∧ AllIn c (fun b => b < k) ∧ (∀ b ∈ bs, 0 ≤ b ∧ b ≤ 255) ∧ t ≤ bs.length ∧ bs.length ≤ 4096 ∧ 0 ≤ seed ∧ seed < 2147483647
theorem Src.lt {w : World} {k : Nat} {c : Value} (h : Src w k c) : k < w.heap.size := by
 obtain ⟨bs, t, seed, hb, _⟩ := h
 exact (Array.getElem?_eq_some_iff.1 hb).1
theorem Src.keep {w w' : World} {k : Nat} {c : Value} (h : Src w k c) (hz : w.heap.size ≤ w'.heap.size) (hr : ∀ b, b ≤ k → w'.heap[b]? = w.heap[b]?) : Src w' k c := by
 obtain ⟨bs, t, seed, hb, h1, h2, h3⟩ := h
 exact ⟨bs, t, seed, (hr k (Nat.le_refl _)).trans hb, rd_keep h1 hz (h2.mono fun b hb => hr b (Nat.le_of_lt hb)), h2, h3⟩
theorem Src.later {w w' : World} {k : Nat} {c : Value} (h : Src w k c) (hl : Later w w') : Src w' k c :=
 h.keep hl.size fun b hb => hl.heap (Nat.lt_of_le_of_lt hb h.lt)
theorem Src.own {w w' : World} {k : Nat} {c : Value} (h : Src w k c) {base : Nat} (hk : k < base) {e : TypeId} {s : Nat} {v : Value} {n : Nat} {xs : List Value} (ho : w.ownsRow base e s v n xs) (hg : w.grownBy w' v.ownBlock) : Src w' k c :=
 h.keep hg.size fun b hb => hg.block b (Nat.lt_of_le_of_lt hb h.lt) fun e => by have := (ho.lt b e.symm).1; omega
theorem Src.setCell {w : World} {k : Nat} {c : Value} (h : Src w k c) {j : Nat} (hj : k < j) (o : Nat) (x : Value) : Src (w.setCell ⟨j, o, none⟩ x) k c :=
 h.keep (by simp) fun b hb => by
  have := (grown_setCell (grown_refl w (some j)) o x).block b (Nat.lt_of_le_of_lt hb h.lt) (fun e => by cases e; omega)
  exact this
abbrev Drawn (w w' : World) (k : Nat) : Prop := w.grownBy w' (some k)
theorem Drawn.later {a b c : World} {k : Nat} (h : Drawn a b k) (hl : Later b c) : Drawn a c k := grown_later h hl
theorem Drawn.own {a w w' : World} {k : Nat} (h : Drawn a w k) {base : Nat} (hbase : a.heap.size ≤ base) {e : TypeId} {s : Nat} {v : Value} {n : Nat} {xs : List Value} (ho : w.ownsRow base e s v n xs) (hg : w.grownBy w' v.ownBlock) : Drawn a w' k :=
 ⟨hg.os.trans h.os, hg.tape.trans h.tape, hg.output.trans h.output, Nat.le_trans h.size hg.size, fun j hj hne => (hg.block j (Nat.lt_of_lt_of_le hj h.size) fun e => by have := (ho.lt j e.symm).1; omega).trans (h.block j hj hne)⟩
theorem Drawn.setCell {a w : World} {k : Nat} (h : Drawn a w k) {j : Nat} (hj : a.heap.size ≤ j) (o : Nat) (x : Value) : Drawn a (w.setCell ⟨j, o, none⟩ x) k :=
 ⟨h.os, h.tape, h.output, by simpa using h.size, fun i hi hne => by
  have := (grown_setCell (grown_refl w (some j)) o x).block i (Nat.lt_of_lt_of_le hi h.size) (fun e => by cases e; omega)
  exact this.trans (h.block i hi hne)⟩
theorem Drawn.keep {a w : World} {k : Nat} (h : Drawn a w k) {j : Nat} {x : Obj} (hx : a.heap[j]? = some x) (hne : j ≠ k) : w.heap[j]? = some x :=
 (h.block j (Array.getElem?_eq_some_iff.1 hx).1 (fun e => hne (Option.some.inj e))).trans hx
theorem Drawn.owns {a w : World} {k : Nat} (h : Drawn a w k) {base : Nat} {e : TypeId} {s : Nat} {v : Value} {n : Nat} {xs : List Value} (ho : a.ownsRow base e s v n xs) (hk : k < base) : w.ownsRow base e s v n xs :=
 rows_grown ho h fun j hj e => by have := (ho.lt j hj).1; cases e; omega
theorem Later.drawn {a w w' : World} {k : Nat} (h : Later a w) (hk : a.heap.size ≤ k) (hd : Drawn w w' k) : Later a w' :=
 Below.grown h hd h.size fun j hj => by cases hj; exact hk
theorem Drawn.trans {a b c : World} {k : Nat} (h : Drawn a b k) (g : Drawn b c k) : Drawn a c k := grown_trans h g
theorem ne_own {w : World} {base : Nat} {e : TypeId} {s : Nat} {v : Value} {n : Nat} {xs : List Value} (ho : w.ownsRow base e s v n xs) {k : Nat} (h : w.heap.size ≤ k) : v.ownBlock ≠ some k :=
 fun e => by have := (ho.lt k e).2; omega
theorem ne_low {w : World} {base : Nat} {e : TypeId} {s : Nat} {v : Value} {n : Nat} {xs : List Value} (ho : w.ownsRow base e s v n xs) {k : Nat} (h : k < base) : v.ownBlock ≠ some k :=
 fun e => by have := (ho.lt k e).1; omega
theorem rem_bd' {x n : Int} (hx : 0 ≤ x) (hn : 1 < n) : 0 ≤ x % n ∧ x % n < n := ⟨Int.emod_nonneg _ (by omega), Int.emod_lt_of_pos _ (by omega)⟩
theorem set_2of3 {w : World} {k : Nat} {x y z : Value} {T : TypeId} (h : w.heap[k]? = some (.cells #[x, y, z] T (0, 0))) (a : Value) :
 (w.setCell ⟨k, 2, none⟩ a).heap[k]? = some (.cells #[x, y, a] T (0, 0)) := by
 rw [heap_setCell_same w k 2 _ T a h]
 rfl
theorem set_1of3 {w : World} {k : Nat} {x y z : Value} {T : TypeId} (h : w.heap[k]? = some (.cells #[x, y, z] T (0, 0))) (a : Value) :
 (w.setCell ⟨k, 1, none⟩ a).heap[k]? = some (.cells #[x, a, z] T (0, 0)) := by
 rw [heap_setCell_same w k 1 _ T a h]
 rfl
theorem RowAt.byt {w : World} {b off k : Nat} {l : List Int} (h : RowAt w b off (byts l)) {x : Int} (hx : l[k]? = some x) : w.cell? ⟨b, off + k, none⟩ = some (.int .u8 x) :=
 h.2 k _ (by simp [byts, hx])
theorem RowAt.keep {w w' : World} {b off : Nat} {xs : List Value} (h : RowAt w b off xs) (hz : w.heap.size ≤ w'.heap.size) (hb : w'.heap[b]? = w.heap[b]?) : RowAt w' b off xs :=
 ⟨Nat.lt_of_lt_of_le h.1 hz, fun j u hj => by rw [World.cell?_of_block (w := w) hb]; exact h.2 j u hj⟩
theorem src_step {w w1 : World} {k : Nat} {c : Value} {bs : List Int} {t : Nat} {s1 : Int} (hz : k < w.heap.size) (G : Drawn w w1 k) (hR : IsByts w c bs) (hA : AllIn c fun b => b < k) (hB : ∀ b ∈ bs, 0 ≤ b ∧ b ≤ 255) (ht : t < bs.length) (hl : bs.length ≤ 4096) (hs : 0 ≤ s1 ∧ s1 < 2147483647)
 (K : w1.heap[k]? = some (.cells #[c, .int .i64 t, .int .i64 s1] 124 (0, 0))) (m m' : Nat) :
 Drawn w (((w1.drewN m).setCell ⟨k, 1, none⟩ (.int .i64 ((t : Int) + 1))).drewN m') k ∧ Src (((w1.drewN m).setCell ⟨k, 1, none⟩ (.int .i64 ((t : Int) + 1))).drewN m') k c := by
 have G2 : Drawn w ((w1.drewN m).setCell ⟨k, 1, none⟩ (.int .i64 ((t : Int) + 1))) k := grown_setCell (G.later ((Later.refl w1).drewN m)) 1 _
 have K2 := set_1of3 (w := w1.drewN m) (K) (.int .i64 ((t : Int) + 1))
 have hL := (Later.refl ((w1.drewN m).setCell ⟨k, 1, none⟩ (.int .i64 ((t : Int) + 1)))).drewN m'
 refine ⟨G2.later hL, Src.later ⟨bs, t + 1, s1, K2, rd_keep hR G2.size (hA.mono fun b hb => G2.block b ?_ (fun e => by cases e; omega)), hA, hB, ht, hl, hs⟩ hL⟩
 omega
set_option maxHeartbeats 2000000 in
theorem w_l01Next (k : Nat) (c : Value) (n : Int) (w : World) (h : Src w k c) :
 Calls Tryz.prog 43 #[.pointer (some ⟨k, 0, none⟩), .int .i64 n] w fun e w' => ∃ x : Int, e = .returned (.int .i64 x) ∧ 0 ≤ x ∧ (x < n ∨ x = 0) ∧ Drawn w w' k ∧ Src w' k c := by
 by_cases hn : n ≤ 1
 · go_enter Tryz.func43, Tryz.ntmps43
   go_wp2
   go_ret
   exact ⟨0, rfl, by omega, .inr rfl, grown_refl _ _, h⟩
 obtain ⟨bs, t, seed, hb, hR, hA, hB, ht, hl, hs1, hs2⟩ := h
 have HBk := Lib.hid hb
 obtain ⟨c0, f0, z0⟩ := blk_at hb
 clear hb
 have HB := Lib.hid hB
 have HR := Lib.hid hR
 have HA := Lib.hid hA
 obtain ⟨hxl, hnn, a, cap, rfl, hcap, hmax, hrow⟩ := hR
 have HRow := Lib.hid hrow
 clear hxl hrow hB hA
 go_enter Tryz.func43, Tryz.ntmps43
 go_wp2_with fail
 clear c0 f0
 generalize hs3 : (seed * 48271 + 29) % 2147483647 = s1
 have hs4 : 0 ≤ s1 ∧ s1 < 2147483647 := by omega
 clear hs3
 have K1 := set_2of3 HBk.out (.int .i64 s1)
 have G1 : Drawn w (w.setCell ⟨k, 2, none⟩ (.int .i64 s1)) k := grown_setCell (grown_refl w (some k)) 2 _
 generalize w.setCell ⟨k, 2, none⟩ (.int .i64 s1) = w1 at K1 G1 ⊢
 obtain ⟨c1, f1, z1⟩ := blk_at K1
 have HK1 := Lib.hid K1
 have HG1 := Lib.hid G1
 clear K1 G1
 by_cases hlt : t < bs.length
 rotate_left
 · go_quiet (fail)
   go_wp2
   go_ret
   have hm := rem_bd' (x := s1 / 31) (n := n) (by omega) (by omega)
   have hLd := (Later.refl w1).drewN nq
   exact ⟨_, rfl, hm.1, .inl hm.2, HG1.out.later hLd, Src.later ⟨bs, t, s1, HK1.out, rd_keep HR.out HG1.out.size (HA.out.mono fun b hb => HG1.out.block b (by omega) (fun e => by cases e; omega)), HA.out, HB.out, ht, hl, hs4.1, hs4.2⟩ hLd⟩
 obtain ⟨b, off, rfl, hrw⟩ := HRow.out (by omega)
 have hbk : b < k := HA.out b off _ _ rfl (by omega)
 obtain ⟨x, hx⟩ := get_ex (l := bs) (k := t) hlt
 have hxb := HB.out x (List.mem_of_getElem? hx)
 have r1 : RowAt w1 b off (byts bs) := hrw.keep HG1.out.size (HG1.out.block b hrw.1 (fun e => by cases e; omega))
 have e1 := r1.byt hx
 have hbr := r1.1
 clear hrw r1 hx
 by_cases hn2 : n ≤ 256
 rotate_left
 · go_quiet (fail)
   go_wp2_with fail
   go_quiet (fail)
   go_wp2
   go_ret
   have hm := rem_bd' (x := s1 / 31 + x) (n := n) (by omega) (by omega)
   obtain ⟨hd, hs⟩ := src_step z0 HG1.out HR.out HA.out HB.out hlt hl hs4 HK1.out _ 0
   exact ⟨_, rfl, hm.1, .inl hm.2, hd, hs⟩
 by_cases hp : (t + 1) % 2 = 0
 rotate_left
 · go_quiet (fail)
   go_wp2_with fail
   go_quiet (fail)
   go_wp2
   go_ret
   have hm := rem_bd' (x := s1 / 31 + x) (n := n) (by omega) (by omega)
   obtain ⟨hd, hs⟩ := src_step z0 HG1.out HR.out HA.out HB.out hlt hl hs4 HK1.out _ 0
   exact ⟨_, rfl, hm.1, .inl hm.2, hd, hs⟩
 · go_quiet (fail)
   go_wp2_with fail
   go_quiet (fail)
   go_wp2_with fail
   go_quiet (fail)
   go_wp2
   go_ret
   have hm := rem_bd' (x := x) (n := n) (by omega) (by omega)
   obtain ⟨hd, hs⟩ := src_step z0 HG1.out HR.out HA.out HB.out hlt hl hs4 HK1.out _ _
   exact ⟨_, rfl, hm.1, .inl hm.2, hd, hs⟩
theorem blk_new (w : World) (c : Array Value) (T : TypeId) : (w.alloc (.cells c T)).heap[w.heap.size]? = some (.cells c T (0, 0)) := heap_alloc_new _ _
theorem byts_in {w : World} {c : Value} {bs : List Int} (h : IsByts w c bs) : AllIn c fun b => b < w.heap.size := by
 intro b off n cap e h0
 obtain ⟨_, _, a, cap', rfl, _, _, hrow⟩ := h
 cases e
 obtain ⟨b', off', he, hr⟩ := hrow h0
 cases he
 exact hr.1
set_option maxHeartbeats 2000000 in
theorem w_l01From (c : Value) (bs : List Int) (w : World) (h : IsByts w c bs) (hB : ∀ b ∈ bs, 0 ≤ b ∧ b ≤ 255) (hl : bs.length ≤ 4096) :
 Calls Tryz.prog 40 #[c] w fun e w' => e = .returned (.pointer (some ⟨w.heap.size, 0, none⟩)) ∧ Later w w' ∧ Src w' w.heap.size c := by
 have HR := Lib.hid h
 have HB := Lib.hid hB
 have HA := Lib.hid (byts_in h)
 obtain ⟨hxl, hnn, a, cap, rfl, hcap, hmax, hrow⟩ := h
 have HRow := Lib.hid hrow
 clear hxl hrow hB
 go_enter Tryz.func40, Tryz.ntmps40
 go_wp2
 go_loopw [4] (fun i wr => ∃ (k : Nat) (seed : Int), k ≤ bs.length ∧ i = .int .i64 (k : Nat) ∧ Later w wr ∧ wr.heap[w.heap.size]? = some (.cells #[.slice a bs.length cap, .int .i64 0, .int .i64 seed] 124 (0, 0)) ∧ 0 ≤ seed ∧ seed < 2147483647) (fun i _ => bs.length - (intOf i).toNat)
 case atStart =>
  exact ⟨0, 17021, Nat.zero_le _, rfl, qla, blk_new w _ _, by omega, by omega⟩
 case round =>
  obtain ⟨k, seed, hk, rfl, hL, hK, hs1, hs2⟩ := hrel
  obtain ⟨c0, f0, z0⟩ := blk_at hK
  have HK := Lib.hid hK
  have HLr := Lib.hid hL
  by_cases hlt : k < bs.length
  · by_cases h64 : k < 64
    · obtain ⟨b, off, rfl, hrw⟩ := HRow.out (by omega)
      obtain ⟨x, hx⟩ := get_ex (l := bs) (k := k) hlt
      have hxb := HB.out x (List.mem_of_getElem? hx)
      have e1 := (hrw.later hL).byt hx
      have hbr := (hrw.later hL).1
      clear hx hL hK
      go_wp2_with fail
      go_still_tail 15, (by kernel_rfl)
      go_wp2
      go_roundw
      case rel =>
       refine ⟨k + 1, (seed * 73 + x) % 2147483647, by omega, by go_num, by have hL := HLr.out; exact qla, set_2of3 HK.out _, by omega, by omega⟩
      case measure => simp [intOf]; omega
    · clear hL hK
      go_wp2
      go_ret
      exact ⟨rfl, HLr.out, bs, 0, seed, HK.out, HR.out.later HLr.out, HA.out, HB.out, Nat.zero_le _, hl, hs1, hs2⟩
  · clear hL hK
    go_wp2
    go_ret
    exact ⟨rfl, HLr.out, bs, 0, seed, HK.out, HR.out.later HLr.out, HA.out, HB.out, Nat.zero_le _, hl, hs1, hs2⟩
theorem reads_new (w : World) (l : List Int) (hl : l.length ≤ 1048576) : IsNums (w.alloc (.cells (nums l).toArray 2)) (.slice (some ⟨w.heap.size, 0, none⟩) l.length l.length) l := by
 refine ⟨nums_len l, hl, _, _, rfl, Nat.le_refl _, by omega, fun _ => ⟨w.heap.size, 0, rfl, by simp, fun j u hj => ?_⟩⟩
 have hb : (w.alloc (.cells (nums l).toArray 2)).heap[w.heap.size]? = some (.cells (nums l).toArray 2 (0, 0)) := heap_alloc_new _ _
 simp only [World.cell?, hb]
 simpa using hj
set_option maxHeartbeats 2000000 in
theorem w_l01Pick (k : Nat) (c v : Value) (xs : List Int) (w : World) (h : Src w k c) (hx : IsNums w v xs) (h0 : 0 < xs.length) (hv : AllIn v fun b => b ≠ k) :
 Calls Tryz.prog 93 #[.pointer (some ⟨k, 0, none⟩), v] w fun e w' => ∃ x : Int, e = .returned (.int .i64 x) ∧ x ∈ xs ∧ Drawn w w' k ∧ Src w' k c := by
 have H := Lib.hid h
 obtain ⟨n, hnn⟩ : ∃ n, xs.length = n := ⟨_, rfl⟩
 have HN := Lib.hid hnn
 rw [hnn] at h0
 have HX := Lib.hid hx
 unfold IsNums at hx
 rw [hnn] at hx
 obtain ⟨hxl, hn, a, cap, rfl, hcap, hmax, hrow⟩ := hx
 obtain ⟨b, off, rfl, hr⟩ := hrow h0
 have hbk : b ≠ k := hv b off _ _ rfl h0
 have HR := Lib.hid hr
 clear hxl hrow hr hv hnn h
 go_enter Tryz.func93, Tryz.ntmps93
 go_wp2_with fail
 refine (w_l01Next k c n w H.out).mono ?_
 rintro e w1 ⟨x, rfl, hx0, hx1, hD, hS⟩
 have hx2 : x < n := by omega
 obtain ⟨j, rfl⟩ : ∃ j : Nat, x = j := ⟨x.toNat, by omega⟩
 obtain ⟨y, hy⟩ := get_ex (l := xs) (k := j) (by have := HN.out; omega)
 have hr1 : RowAt w1 b off (nums xs) := HR.out.keep hD.size (hD.block b HR.out.1 (fun e => by cases e; omega))
 have e1 := hr1.num hy
 have hbr := hr1.1
 have HY := Lib.hid (List.mem_of_getElem? hy)
 have HD := Lib.hid hD
 have HS := Lib.hid hS
 clear hy hr1 hD hS
 go_wp2
 go_ret
 exact ⟨y, rfl, HY.out, HD.out, HS.out⟩
end Go.Proofs.YtgngbdacejghcaaGreatDoor
