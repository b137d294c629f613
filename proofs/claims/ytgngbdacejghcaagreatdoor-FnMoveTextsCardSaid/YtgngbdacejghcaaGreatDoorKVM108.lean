/- DERIVED. Walks: drawn rules, moves. -/
import Derived.Test.YtgngbdacejghcaaGreatDoorKVM107
import Derived.Test.YtgngbdacejghcaaGreatDoorKVM35
namespace Go.Proofs.YtgngbdacejghcaaGreatDoor
set_option linter.unusedVariables false
set_option linter.unusedSimpArgs false
open Go.RowKit
set_option maxRecDepth 100000
theorem Reads.drawn {w w' : World} {k : Nat} {v : Value} {n sz : Nat} {xs : List Value} (h : Reads w v n sz xs) (ha : AllIn v fun b => b ≠ k) (hd : Drawn w w' k) : Reads w' v n sz xs := by
 refine rd_keep h hd.size fun b off m c e h0 => hd.block b ?_ fun e' => ha b off m c e h0 (Option.some.inj e')
 obtain ⟨_, _, a, cap, he, _, _, hrow⟩ := h
 subst e
 cases he
 obtain ⟨b', off', he, hr⟩ := hrow h0
 cases he
 exact hr.1
theorem sl_of_reads {w : World} {v : Value} {n sz : Nat} {xs : List Value} (h : Reads w v n sz xs) : ∃ a c, v = .slice a n c ∧ n ≤ c ∧ c ≤ 9223372036854775807 := by
 obtain ⟨_, _, a, c, h1, h2, h3, _⟩ := h
 exact ⟨a, c, h1, h2, h3⟩
theorem allIn_own {w : World} {base : Nat} {e : TypeId} {s : Nat} {v : Value} {n : Nat} {xs : List Value} (ho : w.ownsRow base e s v n xs) {k : Nat} (hk : k < base) : AllIn v fun b => b ≠ k := by
 intro b off m c he _
 rcases own_shape ho with ⟨rfl, _, _⟩ | ⟨g, cap, rfl, hg, _⟩
 · cases he
 · cases he; omega
theorem own_nums {w : World} {base : Nat} (hb : base ≤ w.heap.size) (l : List Int) (hl : l.length ≤ 9223372036854775807) : (w.alloc (.cells (nums l).toArray 2)).ownsRow base 2 1 (.slice (some ⟨w.heap.size, 0, none⟩) l.length l.length) l.length (nums l) :=
 ⟨nums_len l, .inr ⟨w.heap.size, l.length, (nums l).toArray, rfl, hb, heap_alloc_new _ _, Nat.le_refl _, hl, by simp [nums], by simp [nums, List.take_of_length_le]⟩⟩
set_option maxHeartbeats 2000000 in
theorem w_l11DrawOn (k : Nat) (c : Value) (n : Int) (u v : Value) (st sd : List Int) (b : Bool) (w : World) (h : Src w k c) (hu : IsNums w u st) (hv : IsNums w v sd) (ha : AllIn u fun b => b ≠ k) (ha' : AllIn v fun b => b ≠ k) :
 Calls Tryz.prog 44 #[.pointer (some ⟨k, 0, none⟩), .agg #[.int .i64 n, u, v], .bool b] w fun e w' => ∃ x : Int, e = .returned (.int .i64 x) ∧ Drawn w w' k ∧ Src w' k c := by
 have hk := h.lt
 obtain ⟨au, capu, rfl, hcu, hmu⟩ := sl_of_reads hu
 obtain ⟨av, capv, rfl, hcv, hmv⟩ := sl_of_reads hv
 have HU := Lib.hid hu
 have HV := Lib.hid hv
 have HAU := Lib.hid ha
 have HAV := Lib.hid ha'
 clear hu hv ha ha'
 cases b
 · skip
   go_enter Tryz.func44, Tryz.ntmps44
   go_wp2_with fail
   refine (w_l11On_st n _ _ st sd _ (HU.out.later ((Later.refl w).alloc _)) (HV.out.later ((Later.refl w).alloc _))).mono ?_
   rintro e w1 ⟨rfl, hL⟩
   have hz1 : w.heap.size ≤ w1.heap.size := qsz hL.size
   have hD1 : Drawn w w1 k := Drawn.later qdh hL
   have hS1 : Src w1 k c := Src.later qsh hL
   have HK4_1 := Lib.hid (hL.keep (k := w.heap.size) qkh)
   clear hL
   obtain ⟨c4, f4, z4_1⟩ := blk_at HK4_1.out
   by_cases h0 : st.length = 0
   · skip
     have h0b : ((st.length : Int) == 0) = true := by simp [h0]
     go_wp2_with fail
     refine (w_l05DrawScale k c _ qsh).mono ?_
     rintro e w2 ⟨y, rfl, hD, hS2⟩
     have hz2 : w1.heap.size ≤ w2.heap.size := qsz hD.size
     have hD2 : Drawn w w2 k := Drawn.trans qdh hD
     have HK4_2 := Lib.hid (hD.keep (j := w.heap.size) qkh (by omega))
     clear hD c4 f4
     obtain ⟨c4, f4, z4_2⟩ := blk_at HK4_2.out
     go_wp2
     go_ret
     exact ⟨y, rfl, qdh, qsh⟩
   have h0b : ((st.length : Int) == 0) = false := by simpa using h0
   go_wp2_with fail
   refine (w_l01Next k c 12 _ qsh).mono ?_
   rintro e w2 ⟨x2, rfl, x2a, x2b, hD, hS2⟩
   have hz2 : w1.heap.size ≤ w2.heap.size := qsz hD.size
   have hD2 : Drawn w w2 k := Drawn.trans qdh hD
   have HK4_2 := Lib.hid (hD.keep (j := w.heap.size) qkh (by omega))
   clear hD c4 f4
   obtain ⟨c4, f4, z4_2⟩ := blk_at HK4_2.out
   by_cases hq : x2 = 0
   · skip
     subst hq
     go_wp2_with fail
     refine (w_l05DrawScale k c _ qsh).mono ?_
     rintro e w3 ⟨y, rfl, hD, hS3⟩
     have hz3 : w2.heap.size ≤ w3.heap.size := qsz hD.size
     have hD3 : Drawn w w3 k := Drawn.trans qdh hD
     have HK4_3 := Lib.hid (hD.keep (j := w.heap.size) qkh (by omega))
     clear hD c4 f4
     obtain ⟨c4, f4, z4_3⟩ := blk_at HK4_3.out
     go_wp2
     go_ret
     exact ⟨y, rfl, qdh, qsh⟩
   have hqb : (x2 == 0) = false := by simpa using hq
   go_wp2_with fail
   refine (w_l01Next k c st.length _ qsh).mono ?_
   rintro e w3 ⟨x3, rfl, x3a, x3b, hD, hS3⟩
   have hz3 : w2.heap.size ≤ w3.heap.size := qsz hD.size
   have hD3 : Drawn w w3 k := Drawn.trans qdh hD
   have HK4_3 := Lib.hid (hD.keep (j := w.heap.size) qkh (by omega))
   clear hD c4 f4
   obtain ⟨c4, f4, z4_3⟩ := blk_at HK4_3.out
   obtain ⟨j, rfl⟩ : ∃ j : Nat, x3 = j := ⟨x3.toNat, by omega⟩
   have hj : j < st.length := by omega
   obtain ⟨y, hy⟩ := get_ex (l := st) (k := j) hj
   have hR := HU.out.drawn HAU.out hD3
   obtain ⟨_, _, _, _, hsl, _, _, hrow⟩ := hR
   cases hsl
   obtain ⟨bb, off, hab, hr⟩ := hrow (by omega)
   subst hab
   have e1 := hr.num hy
   have hbr := hr.1
   clear hrow hr hy
   go_wp2
   go_ret
   exact ⟨y, rfl, qdh, qsh⟩
 · skip
   go_enter Tryz.func44, Tryz.ntmps44
   go_wp2_with fail
   refine (w_l11On_sl n _ _ st sd _ (HU.out.later ((Later.refl w).alloc _)) (HV.out.later ((Later.refl w).alloc _))).mono ?_
   rintro e w1 ⟨rfl, hL⟩
   have hz1 : w.heap.size ≤ w1.heap.size := qsz hL.size
   have hD1 : Drawn w w1 k := Drawn.later qdh hL
   have hS1 : Src w1 k c := Src.later qsh hL
   have HK4_1 := Lib.hid (hL.keep (k := w.heap.size) qkh)
   clear hL
   obtain ⟨c4, f4, z4_1⟩ := blk_at HK4_1.out
   by_cases h0 : sd.length = 0
   · skip
     have h0b : ((sd.length : Int) == 0) = true := by simp [h0]
     go_wp2_with fail
     refine (w_l05DrawScale k c _ qsh).mono ?_
     rintro e w2 ⟨y, rfl, hD, hS2⟩
     have hz2 : w1.heap.size ≤ w2.heap.size := qsz hD.size
     have hD2 : Drawn w w2 k := Drawn.trans qdh hD
     have HK4_2 := Lib.hid (hD.keep (j := w.heap.size) qkh (by omega))
     clear hD c4 f4
     obtain ⟨c4, f4, z4_2⟩ := blk_at HK4_2.out
     go_wp2
     go_ret
     exact ⟨y, rfl, qdh, qsh⟩
   have h0b : ((sd.length : Int) == 0) = false := by simpa using h0
   go_wp2_with fail
   refine (w_l01Next k c 12 _ qsh).mono ?_
   rintro e w2 ⟨x2, rfl, x2a, x2b, hD, hS2⟩
   have hz2 : w1.heap.size ≤ w2.heap.size := qsz hD.size
   have hD2 : Drawn w w2 k := Drawn.trans qdh hD
   have HK4_2 := Lib.hid (hD.keep (j := w.heap.size) qkh (by omega))
   clear hD c4 f4
   obtain ⟨c4, f4, z4_2⟩ := blk_at HK4_2.out
   by_cases hq : x2 = 0
   · skip
     subst hq
     go_wp2_with fail
     refine (w_l05DrawScale k c _ qsh).mono ?_
     rintro e w3 ⟨y, rfl, hD, hS3⟩
     have hz3 : w2.heap.size ≤ w3.heap.size := qsz hD.size
     have hD3 : Drawn w w3 k := Drawn.trans qdh hD
     have HK4_3 := Lib.hid (hD.keep (j := w.heap.size) qkh (by omega))
     clear hD c4 f4
     obtain ⟨c4, f4, z4_3⟩ := blk_at HK4_3.out
     go_wp2
     go_ret
     exact ⟨y, rfl, qdh, qsh⟩
   have hqb : (x2 == 0) = false := by simpa using hq
   go_wp2_with fail
   refine (w_l01Next k c sd.length _ qsh).mono ?_
   rintro e w3 ⟨x3, rfl, x3a, x3b, hD, hS3⟩
   have hz3 : w2.heap.size ≤ w3.heap.size := qsz hD.size
   have hD3 : Drawn w w3 k := Drawn.trans qdh hD
   have HK4_3 := Lib.hid (hD.keep (j := w.heap.size) qkh (by omega))
   clear hD c4 f4
   obtain ⟨c4, f4, z4_3⟩ := blk_at HK4_3.out
   obtain ⟨j, rfl⟩ : ∃ j : Nat, x3 = j := ⟨x3.toNat, by omega⟩
   have hj : j < sd.length := by omega
   obtain ⟨y, hy⟩ := get_ex (l := sd) (k := j) hj
   have hR := HV.out.drawn HAV.out hD3
   obtain ⟨_, _, _, _, hsl, _, _, hrow⟩ := hR
   cases hsl
   obtain ⟨bb, off, hab, hr⟩ := hrow (by omega)
   subst hab
   have e1 := hr.num hy
   have hbr := hr.1
   clear hrow hr hy
   go_wp2
   go_ret
   exact ⟨y, rfl, qdh, qsh⟩
def NewR (w : World) (B : Nat) (v : Value) (n : Nat) : Prop := ∃ (b : Nat) (xs : List Int), v = .slice (some ⟨b, 0, none⟩) n n ∧ B ≤ b ∧ xs.length = n ∧ w.ownsRow B 2 1 v n (nums xs)
theorem NewR.drawn {w w' : World} {B n k : Nat} {v : Value} (h : NewR w B v n) (hd : Drawn w w' k) (hk : k < B) : NewR w' B v n := by
 obtain ⟨b, xs, hv, hb, hl, ho⟩ := h
 exact ⟨b, xs, hv, hb, hl, hd.owns ho hk⟩
theorem NewR.later {w w' : World} {B n : Nat} {v : Value} (h : NewR w B v n) (hl : Later w w') : NewR w' B v n := by
 obtain ⟨b, xs, hv, hb, hl', ho⟩ := h
 exact ⟨b, xs, hv, hb, hl', owns_later ho hl⟩
theorem NewR.setCell {w : World} {B n : Nat} {v : Value} (h : NewR w B v n) {j : Nat} (hj : j < B) (o : Nat) (x : Value) : NewR (w.setCell ⟨j, o, none⟩ x) B v n := by
 obtain ⟨b, xs, hv, hb, hl, ho⟩ := h
 exact ⟨b, xs, hv, hb, hl, owns_setNe ho (ne_low ho hj) _ _⟩
theorem NewR.mk {w : World} {B : Nat} (hB : B ≤ w.heap.size) (xs : List Int) (hx : xs.length ≤ 1048576) : NewR (w.alloc (.cells (nums xs).toArray 2)) B (.slice (some ⟨w.heap.size, 0, none⟩) xs.length xs.length) xs.length :=
 ⟨w.heap.size, xs, rfl, hB, rfl, own_nums hB xs (by omega)⟩
set_option maxHeartbeats 4000000 in
theorem w_l11Draw (k : Nat) (c : Value) (w : World) (h : Src w k c) :
 Calls Tryz.prog 41 #[.pointer (some ⟨k, 0, none⟩)] w fun e w' => ∃ (n : Int) (u v : Value) (st sd : List Int), e = .returned (.agg #[.int .i64 n, u, v]) ∧ w'.ownsRow w.heap.size 2 1 u st.length (nums st) ∧ w'.ownsRow w.heap.size 2 1 v sd.length (nums sd) ∧ st.length ≤ 5 ∧ sd.length ≤ 5 ∧ Drawn w w' k ∧ Src w' k c := by
 have hk := h.lt
 go_enter Tryz.func41, Tryz.ntmps41
 go_wp2_with fail
 refine (w_l01Next k c 40000 _ qsh).mono ?_
 rintro e w1 ⟨x1, rfl, x1a, x1b, hD, hS1⟩
 have hz1 : w.heap.size ≤ w1.heap.size := qsz hD.size
 have hD1 : Drawn w w1 k := Drawn.trans qdh hD
 have HK0_1 := Lib.hid (hD.keep (j := w.heap.size) qkh (by omega))
 clear hD
 obtain ⟨c0, f0, z0_1⟩ := blk_at HK0_1.out
 go_wp2_with fail
 refine (w_l01Pick k c _ [25000, 12500, 1000 + x1] _ qsh (reads_new' _ _ [25000, 12500, 1000 + x1] (by simp) (by first | rfl | (simp; done))) (by simp) (allIn_new (by omega))).mono ?_
 rintro e w2 ⟨x2, rfl, x2m, hD, hS2⟩
 have hz2 : w1.heap.size ≤ w2.heap.size := qsz hD.size
 have hD2 : Drawn w w2 k := Drawn.trans qdh hD
 have HK0_2 := Lib.hid (hD.keep (j := w.heap.size) qkh (by omega))
 clear hD c0 f0
 obtain ⟨c0, f0, z0_2⟩ := blk_at HK0_2.out
 go_wp2_with fail
 refine (w_l11DrawScales k c _ qsh).mono ?_
 rintro e w3 ⟨vu, st, rfl, hO, hu5, hD, hS3⟩
 have hz3 : w2.heap.size ≤ w3.heap.size := qsz hD.size
 have hD3 : Drawn w w3 k := Drawn.trans qdh hD
 have HK0_3 := Lib.hid (hD.keep (j := w.heap.size) qkh (by omega))
 clear hD c0 f0
 obtain ⟨c0, f0, z0_3⟩ := blk_at HK0_3.out
 obtain ⟨au, capu, rfl⟩ := isSl_of hO
 have HOu_3 := Lib.hid (owns_base (base' := w1.heap.size) hO (by first | omega | (simp; omega)))
 clear hO
 go_wp2_with fail
 refine (w_l11DrawScales k c _ qsh).mono ?_
 rintro e w4 ⟨vv, sd, rfl, hO, hv5, hD, hS4⟩
 have hz4 : w3.heap.size ≤ w4.heap.size := qsz hD.size
 have hD4 : Drawn w w4 k := Drawn.trans qdh hD
 have HK0_4 := Lib.hid (hD.keep (j := w.heap.size) qkh (by omega))
 have HOu_4 := Lib.hid (hD.owns (qoh HOu_3) (by omega))
 clear hD c0 f0
 obtain ⟨c0, f0, z0_4⟩ := blk_at HK0_4.out
 obtain ⟨av, capv, rfl⟩ := isSl_of hO
 have HOv_4 := Lib.hid (owns_base (base' := w1.heap.size) hO (by first | omega | (simp; omega)))
 clear hO
 have hDz := hD4.size
 have hnu3 := ne_own (k := w4.heap.size) HOu_4.out (by omega)
 have hnv3 := ne_own (k := w4.heap.size) HOv_4.out (by omega)
 go_wp2_with fail
 refine (w_l01Next k c 20 _ qsh).mono ?_
 rintro e w5 ⟨x5, rfl, x5a, x5b, hD, hS5⟩
 have hz5 : w4.heap.size ≤ w5.heap.size := qsz hD.size
 have hD5 : Drawn w w5 k := Drawn.trans qdh hD
 have HK0_5 := Lib.hid (hD.keep (j := w.heap.size) qkh (by omega))
 have HK3_5 := Lib.hid (hD.keep (j := w4.heap.size) qkh (by omega))
 have HOu_5 := Lib.hid (hD.owns (qoh HOu_4) (by omega))
 have HOv_5 := Lib.hid (hD.owns (qoh HOv_4) (by omega))
 clear hD c0 f0
 obtain ⟨c0, f0, z0_5⟩ := blk_at HK0_5.out
 obtain ⟨c3, f3, z3_5⟩ := blk_at HK3_5.out
 by_cases hq0 : x5 = 0
 · skip
   subst hq0
   go_wp2_with fail
   refine (w_l05DrawLength k c _ qsh).mono ?_
   rintro e w6 ⟨y, rfl, hD, hS6⟩
   have hz6 : w5.heap.size ≤ w6.heap.size := qsz hD.size
   have hD6 : Drawn w w6 k := Drawn.trans qdh hD
   have HK0_6 := Lib.hid (hD.keep (j := w.heap.size) qkh (by omega))
   have HK3_6 := Lib.hid (hD.keep (j := w4.heap.size) qkh (by omega))
   have HOu_6 := Lib.hid (hD.owns (qoh HOu_5) (by omega))
   have HOv_6 := Lib.hid (hD.owns (qoh HOv_5) (by omega))
   clear hD c0 f0 c3 f3
   obtain ⟨c0, f0, z0_6⟩ := blk_at HK0_6.out
   obtain ⟨c3, f3, z3_6⟩ := blk_at HK3_6.out
   go_wp2
   refine bodyPost_ret (v := .agg #[.int .i64 y, .slice au st.length capu, .slice av sd.length capv]) (by simp [results, Tryz.results41, go_sem, c0, z0_6]) rfl ⟨y, .slice au st.length capu, .slice av sd.length capv, st, sd, rfl, owns_base (base := w1.heap.size) (qoh HOu_6) (by omega), owns_base (base := w1.heap.size) (qoh HOv_6) (by omega), by first | omega | (simp; done) | (simp; omega), by first | omega | (simp; done) | (simp; omega), qdh, qsh⟩
 have hb0 : (x5 == 0) = false := by simpa using hq0
 by_cases hq1 : x5 = 1
 · skip
   subst hq1
   go_wp2_with fail
   obtain ⟨B, hBe⟩ : ∃ B, B = w5.heap.size := ⟨_, rfl⟩
   have hZ0 : B ≤ w5.drew.heap.size := Nat.le_of_eq hBe
   have hD0 : Drawn w w5 k := hD5
   have hS0 : Src w5 k c := hS5
   have Qu := HOu_5.out
   have Qv := HOv_5.out
   have Q3 := HK3_5.out
   have Q0 := HK0_5.out
   have hnu0 := ne_low (k := w.heap.size) HOu_5.out (by omega)
   have hnv0 := ne_low (k := w.heap.size) HOv_5.out (by omega)
   clear c0 f0 c3 f3
   refine region_slots 42 [24, 25, 26, 27, 28, 29, 30, 31, 32, 33] (fun g ac wc => sl ac 0 = .pointer (some ⟨k, 0, none⟩) ∧
    sl ac 3 = .pointer (some ⟨w4.heap.size, 0, none⟩) ∧
    sl ac 2 = .pointer (some ⟨w.heap.size, 0, none⟩) ∧
    (g 0 = true → (sl ac 24) = .pointer (some ⟨w4.heap.size, 0, none⟩)) ∧
    (g 1 = true → (sl ac 25) = .int .i64 x2) ∧
    (g 2 = true → (sl ac 26) = .pointer (some ⟨k, 0, none⟩)) ∧
    (g 3 = true → ∃ x : Int, (sl ac 27) = .int .i64 x) ∧
    (g 4 = true → (sl ac 28) = .pointer (some ⟨k, 0, none⟩)) ∧
    (g 5 = true → ∃ x : Int, (sl ac 29) = .int .i64 x) ∧
    (g 6 = true → NewR wc B (sl ac 30) 2) ∧
    (g 7 = true → (sl ac 31) = .pointer (some ⟨w4.heap.size, 2, none⟩)) ∧
    (g 8 = true → (sl ac 32) = .slice av sd.length capv) ∧
    (g 9 = true → (sl ac 33) = .agg #[.int .i64 x2, sl ac 30, .slice av sd.length capv]) ∧
    Drawn w wc k ∧
    Src wc k c ∧
    B ≤ wc.heap.size ∧
    wc.ownsRow w1.heap.size 2 1 (.slice au st.length capu) st.length (nums st) ∧
    wc.ownsRow w1.heap.size 2 1 (.slice av sd.length capv) sd.length (nums sd) ∧
    wc.heap[w4.heap.size]? = some (.cells #[.int .i64 x2, .slice au st.length capu, .slice av sd.length capv] 26 (0, 0)) ∧
    (g 10 = false → wc.heap[w.heap.size]? = some (.cells #[.int .i64 0, .slice none 0 0, .slice none 0 0] 26 (0, 0))) ∧
    (g 10 = true → wc.heap[w.heap.size]? = some (.cells #[.int .i64 x2, sl ac 30, .slice av sd.length capv] 26 (0, 0))) ∧
    (g 1 = true → g 0 = true) ∧
    (g 3 = true → g 2 = true) ∧
    (g 5 = true → g 4 = true) ∧
    (g 6 = true → g 3 = true) ∧
    (g 6 = true → g 5 = true) ∧
    (g 8 = true → g 7 = true) ∧
    (g 9 = true → g 1 = true) ∧
    (g 9 = true → g 6 = true) ∧
    (g 9 = true → g 8 = true) ∧
    (g 10 = true → g 6 = true) ∧
    (g 10 = true → g 9 = true)) (by kernel_rfl) (by kernel_rfl) rfl (by kernel_rfl) ?_ ?_ ?_
   · exact ⟨rfl, rfl, rfl, nofun, nofun, nofun, nofun, nofun, nofun, nofun, nofun, nofun, nofun, hD0.drew, hS0.drew, hZ0, owns_later Qu (Later.refl _).drew, owns_later Qv (Later.refl _).drew, Q3, fun _ => Q0, nofun, nofun, nofun, nofun, nofun, nofun, nofun, nofun, nofun, nofun, nofun, nofun⟩
   · intro g ac wu hg ha hI
     obtain ⟨xi0, xi3, xi2, i0, i1, i2, i3, i4, i5, i6, i7, i8, i9, hD, hS, hZ, Ou, Ov, B3, -, N0, -, -, -, -, -, -, -, -, -, -, -⟩ := hI
     obtain e0 := i0 (hg 0 (by simp))
     obtain e1 := i1 (hg 1 (by simp))
     obtain e2 := i2 (hg 2 (by simp))
     obtain ⟨pd3, e3⟩ := i3 (hg 3 (by simp))
     obtain e4 := i4 (hg 4 (by simp))
     obtain ⟨pd5, e5⟩ := i5 (hg 5 (by simp))
     obtain ⟨bd6, xsd6, e6, hned6, hxld6, hrdd6⟩ := i6 (hg 6 (by simp))
     obtain e7 := i7 (hg 7 (by simp))
     obtain e8 := i8 (hg 8 (by simp))
     obtain e9 := i9 (hg 9 (by simp))
     replace N0 := N0 (hg 10 (by simp))
     rw [e6] at e9 N0 hrdd6
     simp only [putAll, e0, e1, e2, e3, e4, e5, e6, e7, e8, e9] at ha
     simp only [Act.put, List.setIfInBounds_toArray, List.set_cons_succ, List.set_cons_zero] at ha
     rw [ha]
     clear xi0 xi3 xi2 i0 i1 i2 i3 i4 i5 i6 i7 i8 i9 e0 e1 e2 e3 e4 e5 e6 e7 e8 e9 hg ha
     have hcb := (blk_at N0).1
     have hzb := (blk_at N0).2.2
     have HDu := Lib.hid hD
     have HSu := Lib.hid hS
     have HOv := Lib.hid Ov
     have HNw := Lib.hid hrdd6
     clear hD hS Ou Ov B3 N0 hrdd6
     go_wp2
     refine bodyPost_ret (v := .agg #[.int .i64 x2, .slice (some ⟨bd6, 0, none⟩) 2 2, .slice av sd.length capv]) (by simp [results, Tryz.results41, go_sem, hcb, hzb]) rfl ⟨x2, _, _, xsd6, sd, rfl, ?_, owns_base HOv.out (by omega), by omega, by omega, HDu.out, HSu.out⟩
     rw [hxld6]
     exact owns_base HNw.out (by omega)
   · refine .cons ?_ (.cons ?_ (.cons ?_ (.cons ?_ (.cons ?_ (.cons ?_ (.cons ?_ (.cons ?_ (.cons ?_ (.cons ?_ (.cons ?_ .nil))))))))))
     · refine qst fun g ac wc hn hk hr HI K' hK => ?_
       obtain ⟨xi0, xi3, xi2, -, -, -, -, -, -, -, -, -, -, hD, hS, hZ, Ou, Ov, B3, R0, N0, m1_0, m3_2, m5_4, m6_3, m6_5, m8_7, m9_1, m9_6, m9_8, m10_6, m10_9⟩ := HI.out
       simp [Region.binds] at hr
       have zi3 := sl_get xi3 (by omega)
       go_simp
       obtain ⟨-, -, -, i0, i1, i2, i3, i4, i5, i6, i7, i8, i9, -⟩ := HI.out
       exact hK.out _ _ ⟨qB xi0, qB xi3, qB xi2, qP, (fun h => absurd (m1_0 h) (by rw [hk]; simp)), (fun h => by rw [put_ne (by decide)]; exact i2 h), (fun h => by rw [put_ne (by decide)]; exact i3 h), (fun h => by rw [put_ne (by decide)]; exact i4 h), (fun h => by rw [put_ne (by decide)]; exact i5 h), (fun h => by rw [put_ne (by decide)]; exact i6 h), (fun h => by rw [put_ne (by decide)]; exact i7 h), (fun h => by rw [put_ne (by decide)]; exact i8 h), (fun h => by rw [put_ne (by decide), put_ne (by decide)]; exact i9 h), hD, hS, hZ, Ou, Ov, B3, (fun h => (R0 h)), (fun h => by rw [put_ne (by decide)]; exact N0 h), (fun _ => rfl), m3_2, m5_4, m6_3, m6_5, m8_7, m9_1, m9_6, m9_8, m10_6, m10_9⟩
     · refine qst fun g ac wc hn hk hr HI K' hK => ?_
       obtain ⟨xi0, xi3, xi2, i0, -, -, -, -, -, -, -, -, -, hD, hS, hZ, Ou, Ov, B3, R0, N0, m1_0, m3_2, m5_4, m6_3, m6_5, m8_7, m9_1, m9_6, m9_8, m10_6, m10_9⟩ := HI.out
       simp [Region.binds] at hr
       have g0 : g 0 = true := (by simp [hr])
       obtain y0 := i0 g0
       have z0 := sl_get y0 (by omega)
       obtain ⟨cb, fb, zb⟩ := blk_at B3
       clear i0
       go_simp
       obtain ⟨-, -, -, i0, i1, i2, i3, i4, i5, i6, i7, i8, i9, -⟩ := HI.out
       exact hK.out _ _ ⟨qB xi0, qB xi3, qB xi2, (fun h => by rw [put_ne (by decide)]; exact i0 h), qP, (fun h => by rw [put_ne (by decide)]; exact i2 h), (fun h => by rw [put_ne (by decide)]; exact i3 h), (fun h => by rw [put_ne (by decide)]; exact i4 h), (fun h => by rw [put_ne (by decide)]; exact i5 h), (fun h => by rw [put_ne (by decide)]; exact i6 h), (fun h => by rw [put_ne (by decide)]; exact i7 h), (fun h => by rw [put_ne (by decide)]; exact i8 h), (fun h => absurd (m9_1 h) (by rw [hk]; simp)), hD, hS, hZ, Ou, Ov, B3, (fun h => (R0 h)), (fun h => by rw [put_ne (by decide)]; exact N0 h), (fun _ => g0), m3_2, m5_4, m6_3, m6_5, m8_7, (fun _ => rfl), m9_6, m9_8, m10_6, m10_9⟩
     · refine qst fun g ac wc hn hk hr HI K' hK => ?_
       obtain ⟨xi0, xi3, xi2, -, -, -, -, -, -, -, -, -, -, hD, hS, hZ, Ou, Ov, B3, R0, N0, m1_0, m3_2, m5_4, m6_3, m6_5, m8_7, m9_1, m9_6, m9_8, m10_6, m10_9⟩ := HI.out
       simp [Region.binds] at hr
       have zi0 := sl_get xi0 (by omega)
       go_simp
       obtain ⟨-, -, -, i0, i1, i2, i3, i4, i5, i6, i7, i8, i9, -⟩ := HI.out
       exact hK.out _ _ ⟨qB xi0, qB xi3, qB xi2, (fun h => by rw [put_ne (by decide)]; exact i0 h), (fun h => by rw [put_ne (by decide)]; exact i1 h), qP, (fun h => absurd (m3_2 h) (by rw [hk]; simp)), (fun h => by rw [put_ne (by decide)]; exact i4 h), (fun h => by rw [put_ne (by decide)]; exact i5 h), (fun h => absurd (m3_2 (m6_3 h)) (by rw [hk]; simp)), (fun h => by rw [put_ne (by decide)]; exact i7 h), (fun h => by rw [put_ne (by decide)]; exact i8 h), (fun h => by rw [put_ne (by decide), put_ne (by decide)]; exact i9 h), hD, hS, hZ, Ou, Ov, B3, (fun h => (R0 h)), (fun h => by rw [put_ne (by decide)]; exact N0 h), m1_0, (fun _ => rfl), m5_4, m6_3, m6_5, m8_7, m9_1, m9_6, m9_8, m10_6, m10_9⟩
     · refine qst fun g ac wc hn hk hr HI K' hK => ?_
       obtain ⟨xi0, xi3, xi2, -, -, i2, -, -, -, -, -, -, -, hD, hS, hZ, Ou, Ov, B3, R0, N0, m1_0, m3_2, m5_4, m6_3, m6_5, m8_7, m9_1, m9_6, m9_8, m10_6, m10_9⟩ := HI.out
       simp [Region.binds] at hr
       have g2 : g 2 = true := (by simp [hr])
       obtain y2 := i2 g2
       have z2 := sl_get y2 (by omega)
       clear i2
       go_simp
       refine (w_l05DrawScale k c wc hS).mono ?_
       rintro e w4 ⟨x, rfl, hD4, hS4⟩
       obtain ⟨-, -, -, i0, i1, i2, i3, i4, i5, i6, i7, i8, i9, -⟩ := HI.out
       exact hK.out _ _ ⟨qB xi0, qB xi3, qB xi2, (fun h => by rw [put_ne (by decide)]; exact i0 h), (fun h => by rw [put_ne (by decide)]; exact i1 h), (fun h => by rw [put_ne (by decide)]; exact i2 h), (fun _ => ⟨_, put_eq (by omega)⟩), (fun h => by rw [put_ne (by decide)]; exact i4 h), (fun h => by rw [put_ne (by decide)]; exact i5 h), (fun h => absurd (m6_3 h) (by rw [hk]; simp)), (fun h => by rw [put_ne (by decide)]; exact i7 h), (fun h => by rw [put_ne (by decide)]; exact i8 h), (fun h => by rw [put_ne (by decide), put_ne (by decide)]; exact i9 h), (hD.trans hD4), hS4, (Nat.le_trans hZ hD4.size), (hD4.owns Ou (by omega)), (hD4.owns Ov (by omega)), (hD4.keep B3 (by omega)), (fun h => (hD4.keep (R0 h) (by omega))), (fun h => absurd (m6_3 (m10_6 h)) (by rw [hk]; simp)), m1_0, (fun _ => g2), m5_4, (fun _ => rfl), m6_5, m8_7, m9_1, m9_6, m9_8, m10_6, m10_9⟩
     · refine qst fun g ac wc hn hk hr HI K' hK => ?_
       obtain ⟨xi0, xi3, xi2, -, -, -, -, -, -, -, -, -, -, hD, hS, hZ, Ou, Ov, B3, R0, N0, m1_0, m3_2, m5_4, m6_3, m6_5, m8_7, m9_1, m9_6, m9_8, m10_6, m10_9⟩ := HI.out
       simp [Region.binds] at hr
       have zi0 := sl_get xi0 (by omega)
       go_simp
       obtain ⟨-, -, -, i0, i1, i2, i3, i4, i5, i6, i7, i8, i9, -⟩ := HI.out
       exact hK.out _ _ ⟨qB xi0, qB xi3, qB xi2, (fun h => by rw [put_ne (by decide)]; exact i0 h), (fun h => by rw [put_ne (by decide)]; exact i1 h), (fun h => by rw [put_ne (by decide)]; exact i2 h), (fun h => by rw [put_ne (by decide)]; exact i3 h), qP, (fun h => absurd (m5_4 h) (by rw [hk]; simp)), (fun h => absurd (m5_4 (m6_5 h)) (by rw [hk]; simp)), (fun h => by rw [put_ne (by decide)]; exact i7 h), (fun h => by rw [put_ne (by decide)]; exact i8 h), (fun h => by rw [put_ne (by decide), put_ne (by decide)]; exact i9 h), hD, hS, hZ, Ou, Ov, B3, (fun h => (R0 h)), (fun h => by rw [put_ne (by decide)]; exact N0 h), m1_0, m3_2, (fun _ => rfl), m6_3, m6_5, m8_7, m9_1, m9_6, m9_8, m10_6, m10_9⟩
     · refine qst fun g ac wc hn hk hr HI K' hK => ?_
       obtain ⟨xi0, xi3, xi2, -, -, -, -, i4, -, -, -, -, -, hD, hS, hZ, Ou, Ov, B3, R0, N0, m1_0, m3_2, m5_4, m6_3, m6_5, m8_7, m9_1, m9_6, m9_8, m10_6, m10_9⟩ := HI.out
       simp [Region.binds] at hr
       have g4 : g 4 = true := (by simp [hr])
       obtain y4 := i4 g4
       have z4 := sl_get y4 (by omega)
       clear i4
       go_simp
       refine (w_l05DrawScale k c wc hS).mono ?_
       rintro e w4 ⟨x, rfl, hD4, hS4⟩
       obtain ⟨-, -, -, i0, i1, i2, i3, i4, i5, i6, i7, i8, i9, -⟩ := HI.out
       exact hK.out _ _ ⟨qB xi0, qB xi3, qB xi2, (fun h => by rw [put_ne (by decide)]; exact i0 h), (fun h => by rw [put_ne (by decide)]; exact i1 h), (fun h => by rw [put_ne (by decide)]; exact i2 h), (fun h => by rw [put_ne (by decide)]; exact i3 h), (fun h => by rw [put_ne (by decide)]; exact i4 h), (fun _ => ⟨_, put_eq (by omega)⟩), (fun h => absurd (m6_5 h) (by rw [hk]; simp)), (fun h => by rw [put_ne (by decide)]; exact i7 h), (fun h => by rw [put_ne (by decide)]; exact i8 h), (fun h => by rw [put_ne (by decide), put_ne (by decide)]; exact i9 h), (hD.trans hD4), hS4, (Nat.le_trans hZ hD4.size), (hD4.owns Ou (by omega)), (hD4.owns Ov (by omega)), (hD4.keep B3 (by omega)), (fun h => (hD4.keep (R0 h) (by omega))), (fun h => absurd (m6_5 (m10_6 h)) (by rw [hk]; simp)), m1_0, m3_2, (fun _ => g4), m6_3, (fun _ => rfl), m8_7, m9_1, m9_6, m9_8, m10_6, m10_9⟩
     · refine qst fun g ac wc hn hk hr HI K' hK => ?_
       obtain ⟨xi0, xi3, xi2, -, -, -, i3, -, i5, -, -, -, -, hD, hS, hZ, Ou, Ov, B3, R0, N0, m1_0, m3_2, m5_4, m6_3, m6_5, m8_7, m9_1, m9_6, m9_8, m10_6, m10_9⟩ := HI.out
       simp [Region.binds] at hr
       have g3 : g 3 = true := (by simp [hr])
       obtain ⟨p3, y3⟩ := i3 g3
       have z3 := sl_get y3 (by omega)
       have g5 : g 5 = true := (by simp [hr])
       obtain ⟨p5, y5⟩ := i5 g5
       have z5 := sl_get y5 (by omega)
       clear i3 i5
       go_simp
       have hL4 := (Later.refl wc).alloc (.cells (nums [p3, p5]).toArray 2)
       obtain ⟨-, -, -, i0, i1, i2, i3, i4, i5, i6, i7, i8, i9, -⟩ := HI.out
       exact hK.out _ _ ⟨qB xi0, qB xi3, qB xi2, (fun h => by rw [put_ne (by decide)]; exact i0 h), (fun h => by rw [put_ne (by decide)]; exact i1 h), (fun h => by rw [put_ne (by decide)]; exact i2 h), (fun h => by rw [put_ne (by decide)]; exact i3 h), (fun h => by rw [put_ne (by decide)]; exact i4 h), (fun h => by rw [put_ne (by decide)]; exact i5 h), (fun _ => by rw [put_eq (by omega)]; exact NewR.mk hZ [p3, p5] (by simp)), (fun h => by rw [put_ne (by decide)]; exact i7 h), (fun h => by rw [put_ne (by decide)]; exact i8 h), (fun h => absurd (m9_6 h) (by rw [hk]; simp)), (hD.later hL4), (hS.later hL4), (Nat.le_trans hZ hL4.size), (owns_later Ou hL4), (owns_later Ov hL4), (hL4.keep B3), (fun h => (hL4.keep (R0 h))), (fun h => absurd (m10_6 h) (by rw [hk]; simp)), m1_0, m3_2, m5_4, (fun _ => g3), (fun _ => g5), m8_7, m9_1, (fun _ => rfl), m9_8, (fun _ => rfl), m10_9⟩
     · refine qst fun g ac wc hn hk hr HI K' hK => ?_
       obtain ⟨xi0, xi3, xi2, -, -, -, -, -, -, -, -, -, -, hD, hS, hZ, Ou, Ov, B3, R0, N0, m1_0, m3_2, m5_4, m6_3, m6_5, m8_7, m9_1, m9_6, m9_8, m10_6, m10_9⟩ := HI.out
       simp [Region.binds] at hr
       have zi3 := sl_get xi3 (by omega)
       go_simp
       obtain ⟨-, -, -, i0, i1, i2, i3, i4, i5, i6, i7, i8, i9, -⟩ := HI.out
       exact hK.out _ _ ⟨qB xi0, qB xi3, qB xi2, (fun h => by rw [put_ne (by decide)]; exact i0 h), (fun h => by rw [put_ne (by decide)]; exact i1 h), (fun h => by rw [put_ne (by decide)]; exact i2 h), (fun h => by rw [put_ne (by decide)]; exact i3 h), (fun h => by rw [put_ne (by decide)]; exact i4 h), (fun h => by rw [put_ne (by decide)]; exact i5 h), (fun h => by rw [put_ne (by decide)]; exact i6 h), qP, (fun h => absurd (m8_7 h) (by rw [hk]; simp)), (fun h => by rw [put_ne (by decide), put_ne (by decide)]; exact i9 h), hD, hS, hZ, Ou, Ov, B3, (fun h => (R0 h)), (fun h => by rw [put_ne (by decide)]; exact N0 h), m1_0, m3_2, m5_4, m6_3, m6_5, (fun _ => rfl), m9_1, m9_6, m9_8, m10_6, m10_9⟩
     · refine qst fun g ac wc hn hk hr HI K' hK => ?_
       obtain ⟨xi0, xi3, xi2, -, -, -, -, -, -, -, i7, -, -, hD, hS, hZ, Ou, Ov, B3, R0, N0, m1_0, m3_2, m5_4, m6_3, m6_5, m8_7, m9_1, m9_6, m9_8, m10_6, m10_9⟩ := HI.out
       simp [Region.binds] at hr
       have g7 : g 7 = true := (by simp [hr])
       obtain y7 := i7 g7
       have z7 := sl_get y7 (by omega)
       obtain ⟨cb, fb, zb⟩ := blk_at B3
       clear i7
       go_simp
       obtain ⟨-, -, -, i0, i1, i2, i3, i4, i5, i6, i7, i8, i9, -⟩ := HI.out
       exact hK.out _ _ ⟨qB xi0, qB xi3, qB xi2, (fun h => by rw [put_ne (by decide)]; exact i0 h), (fun h => by rw [put_ne (by decide)]; exact i1 h), (fun h => by rw [put_ne (by decide)]; exact i2 h), (fun h => by rw [put_ne (by decide)]; exact i3 h), (fun h => by rw [put_ne (by decide)]; exact i4 h), (fun h => by rw [put_ne (by decide)]; exact i5 h), (fun h => by rw [put_ne (by decide)]; exact i6 h), (fun h => by rw [put_ne (by decide)]; exact i7 h), qP, (fun h => absurd (m9_8 h) (by rw [hk]; simp)), hD, hS, hZ, Ou, Ov, B3, (fun h => (R0 h)), (fun h => by rw [put_ne (by decide)]; exact N0 h), m1_0, m3_2, m5_4, m6_3, m6_5, (fun _ => g7), m9_1, m9_6, (fun _ => rfl), m10_6, m10_9⟩
     · refine qst fun g ac wc hn hk hr HI K' hK => ?_
       obtain ⟨xi0, xi3, xi2, -, i1, -, -, -, -, i6, -, i8, -, hD, hS, hZ, Ou, Ov, B3, R0, N0, m1_0, m3_2, m5_4, m6_3, m6_5, m8_7, m9_1, m9_6, m9_8, m10_6, m10_9⟩ := HI.out
       simp [Region.binds] at hr
       have g1 : g 1 = true := (by simp [hr])
       obtain y1 := i1 g1
       have z1 := sl_get y1 (by omega)
       have g6 : g 6 = true := (by simp [hr])
       obtain ⟨b6, xs6, y6, hne6, hxl6, hrd6⟩ := i6 g6
       have z6 := sl_get y6 (by omega)
       have g8 : g 8 = true := (by simp [hr])
       obtain y8 := i8 g8
       have z8 := sl_get y8 (by omega)
       clear i1 i6 i8
       go_simp
       obtain ⟨-, -, -, i0, i1, i2, i3, i4, i5, i6, i7, i8, i9, -⟩ := HI.out
       exact hK.out _ _ ⟨qB xi0, qB xi3, qB xi2, (fun h => by rw [put_ne (by decide)]; exact i0 h), (fun h => by rw [put_ne (by decide)]; exact i1 h), (fun h => by rw [put_ne (by decide)]; exact i2 h), (fun h => by rw [put_ne (by decide)]; exact i3 h), (fun h => by rw [put_ne (by decide)]; exact i4 h), (fun h => by rw [put_ne (by decide)]; exact i5 h), (fun h => by rw [put_ne (by decide)]; exact i6 h), (fun h => by rw [put_ne (by decide)]; exact i7 h), (fun h => by rw [put_ne (by decide)]; exact i8 h), (fun _ => by rw [put_ne (show 30 ≠ 33 by decide), y6]; exact put_eq (by omega)), hD, hS, hZ, Ou, Ov, B3, (fun h => (R0 h)), (fun h => by rw [put_ne (by decide)]; exact N0 h), m1_0, m3_2, m5_4, m6_3, m6_5, m8_7, (fun _ => g1), (fun _ => g6), (fun _ => g8), m10_6, (fun _ => rfl)⟩
     · refine qst fun g ac wc hn hk hr HI K' hK => ?_
       obtain ⟨xi0, xi3, xi2, -, -, -, -, -, -, i6, -, -, i9, hD, hS, hZ, Ou, Ov, B3, R0, N0, m1_0, m3_2, m5_4, m6_3, m6_5, m8_7, m9_1, m9_6, m9_8, m10_6, m10_9⟩ := HI.out
       simp [Region.binds] at hr
       have g9 : g 9 = true := (by simp [hr])
       obtain y9 := i9 g9
       have z9 := sl_get y9 (by omega)
       have g6 : g 6 = true := (by simp [hr])
       obtain ⟨b6, xs6, y6, hne6, hxl6, hrd6⟩ := i6 g6
       have z6 := sl_get y6 (by omega)
       have zi2 := sl_get xi2 (by omega)
       have hst := hk
       have hbb := blk_at (R0 hst)
       have cb := hbb.1
       have fb := hbb.2.1
       have zb := hbb.2.2
       clear hbb
       rw [y6] at y9 z9
       clear i6 i9
       go_simp
       obtain ⟨-, -, -, i0, i1, i2, i3, i4, i5, i6, i7, i8, i9, -⟩ := HI.out
       exact hK.out undef _ ⟨xi0, xi3, xi2, (fun h => i0 h), (fun h => i1 h), (fun h => i2 h), (fun h => i3 h), (fun h => i4 h), (fun h => i5 h), (fun h => (((i6 h).setCell (by omega) _ _).setCell (by omega) _ _).setCell (by omega) _ _), (fun h => i7 h), (fun h => i8 h), (fun h => i9 h), (((hD.setCell (by omega) _ _).setCell (by omega) _ _).setCell (by omega) _ _), (((hS.setCell (by omega) _ _).setCell (by omega) _ _).setCell (by omega) _ _), (by simpa using hZ), (owns_setNe (owns_setNe (owns_setNe Ou (by assumption) _ _) (by assumption) _ _) (by assumption) _ _), (owns_setNe (owns_setNe (owns_setNe Ov (by assumption) _ _) (by assumption) _ _) (by assumption) _ _), (other_set (other_set (other_set B3 (by omega) _) (by omega) _) (by omega) _), (fun h => absurd h (by simp)), (fun _ => (st_2_3 (st_1_3 (st_0_3 (R0 hk) _) _) _).trans (by rw [← y6]; rfl)), m1_0, m3_2, m5_4, m6_3, m6_5, m8_7, m9_1, m9_6, m9_8, (fun _ => g6), (fun _ => g9)⟩
 have hb1 : (x5 == 1) = false := by simpa using hq1
 by_cases hq2 : x5 = 2
 · skip
   subst hq2
   go_wp2
   refine bodyPost_ret (v := .agg #[.int .i64 x2, .slice au st.length capu, .slice none 0 0]) (by simp [results, Tryz.results41, go_sem, c0, z0_5]) rfl ⟨x2, .slice au st.length capu, .slice none 0 0, st, [], rfl, owns_base (base := w1.heap.size) (qoh HOu_5) (by omega), World.ownsRow_nil _ _ _ _, by first | omega | (simp; done) | (simp; omega), by first | omega | (simp; done) | (simp; omega), qdh, qsh⟩
 have hb2 : (x5 == 2) = false := by simpa using hq2
 go_wp2
 refine bodyPost_ret (v := .agg #[.int .i64 x2, .slice au st.length capu, .slice av sd.length capv]) (by simp [results, Tryz.results41, go_sem, c0, z0_5]) rfl ⟨x2, .slice au st.length capu, .slice av sd.length capv, st, sd, rfl, owns_base (base := w1.heap.size) (qoh HOu_5) (by omega), owns_base (base := w1.heap.size) (qoh HOv_5) (by omega), by first | omega | (simp; done) | (simp; omega), by first | omega | (simp; done) | (simp; omega), qdh, qsh⟩
end Go.Proofs.YtgngbdacejghcaaGreatDoor
