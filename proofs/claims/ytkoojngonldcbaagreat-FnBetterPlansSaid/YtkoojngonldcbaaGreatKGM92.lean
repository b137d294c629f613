/- DERIVED. Walks: the best order, the program's. -/
import Derived.Laws.EntriesVeiled
import Derived.Test.YtkoojngonldcbaaGreatKGM93
import Derived.Test.YtkoojngonldcbaaGreatKGM96
namespace Go.Proofs.YtkoojngonldcbaaGreat
set_option linter.unusedVariables false
set_option linter.unusedSimpArgs false
open Go.RowKit
set_option maxRecDepth 100000
structure EnvO (w : World) (kC kA kE kK kL kB kR kF : Nat) (n : Int) (au av ac : Option Addr) (capu capv capc : Nat) (st sd : List Int) (c : List Trm) (ea eb ec : Int) : Prop where
 cC : w.heap[kC]? = some (.cells #[.slice ac c.length capc] 27 (0, 0))
 cA : w.heap[kA]? = some (.cells #[.func (.func 111) #[] #[.pointer (some ⟨kK, 0, none⟩), .pointer (some ⟨kL, 0, none⟩), .pointer (some ⟨kB, 0, none⟩)]] 122 (0, 0))
 cE : w.heap[kE]? = some (.cells #[.func (.func 173) #[] #[.pointer (some ⟨kC, 0, none⟩), .pointer (some ⟨kA, 0, none⟩), .pointer (some ⟨kE, 0, none⟩)]] 122 (0, 0))
 cK : w.heap[kK]? = some (.cells #[.func (.func 90) #[] #[.pointer (some ⟨kR, 0, none⟩), .pointer (some ⟨kF, 0, none⟩)]] 81 (0, 0))
 cR : w.heap[kR]? = some (.cells #[.int .i64 n, .slice au st.length capu, .slice av sd.length capv] 26 (0, 0))
 cF : w.heap[kF]? = some (.cells #[.int .i64 ea, .int .i64 eb, .int .i64 ec] 60 (0, 0))
theorem EnvO.later {w w' : World} {kC kA kE kK kL kB kR kF : Nat} {n : Int} {au av ac : Option Addr} {capu capv capc : Nat} {st sd : List Int} {c : List Trm} {ea eb ec : Int} (h : EnvO w kC kA kE kK kL kB kR kF n au av ac capu capv capc st sd c ea eb ec) (hL : Later w w') : EnvO w' kC kA kE kK kL kB kR kF n au av ac capu capv capc st sd c ea eb ec :=
 ⟨hL.keep h.cC, hL.keep h.cA, hL.keep h.cE, hL.keep h.cK, hL.keep h.cR, hL.keep h.cF⟩
theorem EnvO.ex {S : Nat → Prop} {w w' : World} {kC kA kE kK kL kB kR kF : Nat} {n : Int} {au av ac : Option Addr} {capu capv capc : Nat} {st sd : List Int} {c : List Trm} {ea eb ec : Int} (h : EnvO w kC kA kE kK kL kB kR kF n au av ac capu capv capc st sd c ea eb ec) (hX : Ex S w w') (h1 : ¬ S kC) (h2 : ¬ S kA) (h3 : ¬ S kE) (h4 : ¬ S kK) (h5 : ¬ S kR) (h6 : ¬ S kF) : EnvO w' kC kA kE kK kL kB kR kF n au av ac capu capv capc st sd c ea eb ec :=
 ⟨hX.keep h.cC h1, hX.keep h.cA h2, hX.keep h.cE h3, hX.keep h.cK h4, hX.keep h.cR h5, hX.keep h.cF h6⟩
set_option maxHeartbeats 1000000 in
theorem w_costB (n : Int) (au av at' : Option Addr) (capu capv capt : Nat) (st sd : List Int) (c L : List Trm) (ea eb ec : Int) (o : List Int) (kR kF lt : Nat) (w0 w : World) (hlt : lt = L.length) (hL : orderedL c o = L) (h : IsNums w0 (.slice au st.length capu) st) (h' : IsNums w0 (.slice av sd.length capv) sd) (hL0 : Later w0 w) (ht : IsTrms w (.slice at' lt capt) L)
 (hR : w.heap[kR]? = some (.cells #[.int .i64 n, .slice au st.length capu, .slice av sd.length capv] 26 (0, 0))) (hF : w.heap[kF]? = some (.cells #[.int .i64 ea, .int .i64 eb, .int .i64 ec] 60 (0, 0))) (hC : hasI st 0 = true ∧ hasI sd 0 = true) (hc : isChain L = true) (he : isErs ⟨ea, eb, ec⟩ = true) (h1 : 1 ≤ n) (h2 : n ≤ 100000) :
 Calls Tryz.prog 90 #[.slice at' lt capt, .pointer (some ⟨kR, 0, none⟩), .pointer (some ⟨kF, 0, none⟩)] w fun e w' => e = .returned (.int .i64 (costU n c ⟨ea, eb, ec⟩ o)) ∧ Later w w' := by
 subst hlt
 have H := Lib.hid (h.later hL0)
 have H' := Lib.hid (h'.later hL0)
 have HT := Lib.hid ht
 have HC := Lib.hid hC
 have HCh := Lib.hid hc
 have HE := Lib.hid he
 have hM0 := unP_bd (c := L) he h1 (planL_len (r := ⟨n, st, sd⟩) hC hc)
 have HF := Lib.hid (show costU n c ⟨ea, eb, ec⟩ o = unP n L ⟨ea, eb, ec⟩ from by unfold costU; rw [hL]; omega)
 obtain ⟨c0, f0, z0⟩ := blk_at hR
 obtain ⟨c1, f1, z1⟩ := blk_at hF
 clear h h' ht hC hc hL hR hF hM0 he
 go_enter Tryz.func90, Tryz.ntmps90
 go_wp2_with fail
 refine (w_planUnits0 _ _ _ _ _ _ _ _ _ _ _ H.out H'.out HT.out HC.out HCh.out HE.out h1 h2).mono ?_
 rintro e w1 ⟨rfl, hL1⟩
 go_wp2
 go_ret
 exact ⟨by rw [HF.out]; rfl, qla⟩
set_option maxHeartbeats 2000000 in
theorem w_leastCb (n : Int) (au av ac : Option Addr) (capu capv capc : Nat) (st sd : List Int) (c : List Trm) (ea eb ec : Int) (kC kA kE kK kL kB kR kF : Nat) (w0 : World) (h : IsNums w0 (.slice au st.length capu) st) (h' : IsNums w0 (.slice av sd.length capv) sd) (hy : IsTrms w0 (.slice ac c.length capc) c) (hC : hasI st 0 = true ∧ hasI sd 0 = true) (hc : isChain c = true) (he : isErs ⟨ea, eb, ec⟩ = true) (h1 : 1 ≤ n) (h2 : n ≤ 100000) (base0 base : Nat) (hb0 : base0 ≤ base) (hk : w0.heap.size ≤ kL ∧ w0.heap.size ≤ kB ∧ kL < base ∧ kB < base ∧ kL ≠ kB)
 (o : List Int) (ao at' : Option Addr) (lo capo capt : Nat) (w : World) (ST : List Int × Int) (hlo : lo = o.length) (hl : o.length = c.length) (hg : GoodO c o) (hL0 : Later w0 w) (hE : EnvO w kC kA kE kK kL kB kR kF n au av ac capu capv capc st sd c ea eb ec) (hB : BestSt w kL kB base0 ST) (ho : w.ownsRow base 2 1 (.slice ao lo capo) lo (nums o)) (ht : w.ownsRow base 93 3 (.slice at' lo capt) lo (trms (orderedL c o))) :
 Calls Tryz.prog 111 #[.slice ao lo capo, .slice at' lo capt, .pointer (some ⟨kK, 0, none⟩), .pointer (some ⟨kL, 0, none⟩), .pointer (some ⟨kB, 0, none⟩)] w fun e w' => e = .returned (.tuple #[]) ∧ BestSt w' kL kB base0 (updO (costU n c ⟨ea, eb, ec⟩) ST o) ∧ Ex (Two kL kB) w w' := by
 have h6 := (isChain_true hc).2.1
 have hc1 := (isChain_true hc).1
 obtain ⟨k1, k2, k3, k4, k5⟩ := hk
 have hLl := orderedL_len c o
 obtain ⟨L, hLd⟩ : ∃ x, orderedL c o = x := ⟨_, rfl⟩
 have hch := hg.chain hc (by omega) (by omega)
 rw [hLd] at hLl ht hch
 have HT := Lib.hid (isTrms_of (reads_of_owns ht (by omega)) (by omega))
 have HO := Lib.hid ho
 have HCst := Lib.hid (fun (w' : World) (hl' : Later w w') (ht' : IsTrms w' (.slice at' lo capt) L) => w_costB n au av at' capu capv capt st sd c L ea eb ec o kR kF lo w0 w' (by omega) hLd h h' (hL0.trans hl') ht' (hl'.keep hE.cR) (hl'.keep hE.cF) hC hch he h1 h2)
 have hnn := costU_nn n c ⟨ea, eb, ec⟩ o
 obtain ⟨X, hX⟩ : ∃ x, (costU n c ⟨ea, eb, ec⟩) o = x := ⟨_, rfl⟩
 rw [hX] at hnn
 have HX := Lib.hid hX
 obtain ⟨hBL, aB, lB, qB, hBB, hBO⟩ := hB
 have HBL := Lib.hid hBL
 have HBB := Lib.hid hBB
 have HBO := Lib.hid hBO
 obtain ⟨BL, BX⟩ := ST
 obtain ⟨c0, f0, z0⟩ := blk_at hE.cK
 subst hlo
 clear h h' hy hC hc hg hE ho ht hLd hch hX hBL hBB hBO hl hLl he
 go_enter Tryz.func111, Tryz.ntmps111
 go_wp2_with fail
 refine (HCst.out _ (Later.refl _) HT.out).mono ?_
 rintro e w1 ⟨rfl, hL1⟩
 rw [HX.out]
 have KL := hL1.keep HBL.out
 have KB := hL1.keep HBB.out
 have HL1 := Lib.hid hL1
 have HO1 := Lib.hid (owns_later HO.out hL1)
 have HBO1 := Lib.hid (owns_later HBO.out hL1)
 have HKL := Lib.hid KL
 have HKB := Lib.hid KB
 clear c0 f0 z0 hL1
 obtain ⟨cL, fL, zL⟩ := blk_at KL
 obtain ⟨cB, fB, zB⟩ := blk_at KB
 clear KL KB
 by_cases hm : BX < 0
 · have HF := Lib.hid (show updO (costU n c ⟨ea, eb, ec⟩) (BL, BX) o = (o, X) from by unfold updO; rw [if_pos (.inl hm), HX.out])
   go_wp2
   first
    | refine bodyPost_ret (results_none rfl _ _ _) rfl ?_
    | go_end0
   refine ⟨rfl, ?_, ((Ex.of HL1.out).trans (Ex.setCell _ _ _ _ (.inr rfl))).trans (Ex.setCell _ _ _ _ (.inl rfl))⟩
   rw [HF.out]
   exact ⟨one_set (other_set HKL.out k5 _) _, ao, _, capo, other_set (one_set HKB.out _) (Ne.symm k5) _, owns_base (owns_set (owns_set HO1.out k4 _ _) k3 _ _) hb0⟩
 · by_cases hm2 : X < BX
   · have HF := Lib.hid (show updO (costU n c ⟨ea, eb, ec⟩) (BL, BX) o = (o, X) from by unfold updO; rw [HX.out, if_pos (.inr hm2)])
     go_wp2
     first
      | refine bodyPost_ret (results_none rfl _ _ _) rfl ?_
      | go_end0
     refine ⟨rfl, ?_, ((Ex.of HL1.out).trans (Ex.setCell _ _ _ _ (.inr rfl))).trans (Ex.setCell _ _ _ _ (.inl rfl))⟩
     rw [HF.out]
     exact ⟨one_set (other_set HKL.out k5 _) _, ao, _, capo, other_set (one_set HKB.out _) (Ne.symm k5) _, owns_base (owns_set (owns_set HO1.out k4 _ _) k3 _ _) hb0⟩
   · have HF := Lib.hid (show updO (costU n c ⟨ea, eb, ec⟩) (BL, BX) o = (BL, BX) from by unfold updO; rw [HX.out, if_neg (by rintro (e | e) <;> simp only at e <;> omega)])
     go_wp2
     first
      | refine bodyPost_ret (results_none rfl _ _ _) rfl ?_
      | go_end0
     refine ⟨rfl, ?_, Ex.of HL1.out⟩
     rw [HF.out]
     exact ⟨HKL.out, aB, lB, qB, HKB.out, HBO1.out⟩
set_option maxHeartbeats 4000000 in
theorem w_extend (n : Int) (au av ac : Option Addr) (capu capv capc : Nat) (st sd : List Int) (c : List Trm) (ea eb ec : Int) (kC kA kE kK kL kB kR kF : Nat) (w0 : World) (h : IsNums w0 (.slice au st.length capu) st) (h' : IsNums w0 (.slice av sd.length capv) sd) (hy : IsTrms w0 (.slice ac c.length capc) c) (hC : hasI st 0 = true ∧ hasI sd 0 = true) (hc : isChain c = true) (he : isErs ⟨ea, eb, ec⟩ = true) (h1 : 1 ≤ n) (h2 : n ≤ 100000) (base0 base : Nat) (hb0 : base0 ≤ base) (hk : w0.heap.size ≤ kL ∧ w0.heap.size ≤ kB ∧ kL < base ∧ kB < base ∧ kL ≠ kB)
 (hq : ¬ Two kL kB kC ∧ ¬ Two kL kB kA ∧ ¬ Two kL kB kE ∧ ¬ Two kL kB kK ∧ ¬ Two kL kB kR ∧ ¬ Two kL kB kF) :
 ∀ (m : Nat) (o : List Int) (ao at' : Option Addr) (lo capo capt : Nat) (w : World) (ST : List Int × Int), lo = o.length → o.length + m = c.length → GoodO c o → Later w0 w → EnvO w kC kA kE kK kL kB kR kF n au av ac capu capv capc st sd c ea eb ec → BestSt w kL kB base0 ST → w.ownsRow base 2 1 (.slice ao lo capo) lo (nums o) → w.ownsRow base 93 3 (.slice at' lo capt) lo (trms (orderedL c o)) → (o = [] → ao = none ∧ capo = 0 ∧ at' = none ∧ capt = 0) → base ≤ w.heap.size →
 Calls Tryz.prog 173 #[.slice ao lo capo, .slice at' lo capt, .pointer (some ⟨kC, 0, none⟩), .pointer (some ⟨kA, 0, none⟩), .pointer (some ⟨kE, 0, none⟩)] w fun e w' => e = .returned (.tuple #[]) ∧ BestSt w' kL kB base0 ((lvs c m o).foldl (updO (costU n c ⟨ea, eb, ec⟩)) ST) ∧ Ex (Two kL kB) w w' := by
 intro m
 induction m with
 | zero =>
  intro o ao at' lo capo capt w ST hlo hl hg hL0 hE hB ho ht hn hb
  have HCb := Lib.hid (fun (w' : World) (hl' : Later w w') => w_leastCb n au av ac capu capv capc st sd c ea eb ec kC kA kE kK kL kB kR kF w0 h h' hy hC hc he h1 h2 base0 base hb0 hk o ao at' lo capo capt w' ST hlo (by omega) hg (hL0.trans hl') (hE.later hl') (hB.later hl') (owns_later ho hl') (owns_later ht hl'))
  have hq1 : ((o.length : Int) == (c.length : Int)) = true := by simp; omega
  obtain ⟨c0, f0, z0⟩ := blk_at hE.cC
  obtain ⟨c1, f1, z1⟩ := blk_at hE.cA
  subst hlo
  clear h h' hy hC hc hg hE hB ho ht hn hl he
  go_enter Tryz.func173, Tryz.ntmps173
  go_wp2_with fail
  refine (HCb.out _ (Later.refl _)).mono ?_
  rintro e w1 ⟨rfl, hB1, hX1⟩
  have HB1 := Lib.hid hB1
  have HX1 := Lib.hid hX1
  clear hB1 hX1 c0 f0 z0 c1 f1 z1
  go_wp2
  first
   | refine bodyPost_ret (results_none rfl _ _ _) rfl ?_
   | go_end0
  exact ⟨rfl, HB1.out, HX1.out⟩
 | succ m ih =>
  intro o ao at' lo capo capt w ST hlo hl hg hL0 hE hB ho ht hn hb
  subst hlo
  have h6 := (isChain_true hc).2.1
  have HIH := Lib.hid (fun o ao at' lo capo capt w ST a1 a2 a3 a4 a5 a6 a7 a8 a9 a10 => ih o ao at' lo capo capt w ST a1 a2 a3 a4 a5 a6 a7 a8 a9 a10)
  obtain ⟨k1, k2, k3, k4, k5⟩ := hk
  obtain ⟨q1, q2, q3, q4, q5, q6⟩ := hq
  have HLn := Lib.hid hl
  have hO6 : o.length ≤ 6 := by omega
  have hne : ((o.length : Int) == (c.length : Int)) = false := by rw [beq_eq_false_iff_ne]; omega
  have HLw0 := Lib.hid hL0
  have HE := Lib.hid hE
  have HG := Lib.hid hg
  have HO := Lib.hid ho
  have HTo := Lib.hid ht
  have HNo := Lib.hid (show o = [] → ao = none ∧ capo = 0 from fun e => ⟨(hn e).1, (hn e).2.1⟩)
  have HNt := Lib.hid (show orderedL c o = [] → at' = none ∧ capt = 0 from fun e => (hn (by have := congrArg List.length e; rw [orderedL_len] at this; exact List.eq_nil_of_length_eq_zero this)).2.2)
  have HBw := Lib.hid hB
  have HYr := Lib.hid hy
  have hyy := hy
  obtain ⟨hz1, hz2, a0, cap0, hz3, hz4, hz5, hz6⟩ := hyy
  simp only [Value.slice.injEq] at hz3
  obtain ⟨rfl, -, rfl⟩ := hz3
  have HR1 := Lib.hid hz6
  obtain ⟨c0, f0, z0⟩ := blk_at hE.cC
  clear ih h h' hy hC hg ho ht hn hl hE hB hL0 hz6 hz1 he
  go_enter Tryz.func173, Tryz.ntmps173
  go_wp2
  clear c0 f0 z0
  go_loopw [20] (fun x wr => ∃ k : Nat, x = .int .i64 (k : Int) ∧ k ≤ c.length ∧ Ex (Two kL kB) w wr ∧ Hid (BestSt wr kL kB base0 ((partO c m o k).foldl (updO (costU n c ⟨ea, eb, ec⟩)) ST))) (fun x _ => c.length - (intOf x).toNat)
  case atStart => exact ⟨0, rfl, Nat.zero_le _, Ex.refl _ _, HBw.out⟩
  case round =>
   obtain ⟨k, rfl, hk, hX, HB⟩ := hrel
   have HX := Lib.hid hX
   have hLr := Later.ex' HLw0.out hX (fun j h => by rcases h with h | h <;> omega)
   have HLr := Lib.hid hLr
   have HEr := Lib.hid (HE.out.ex hX q1 q2 q3 q4 q5 q6)
   have HOr0 := Lib.hid (owns_ex HO.out hX (fun j h => by rcases h with h | h <;> omega))
   have HTr0 := Lib.hid (owns_ex HTo.out hX (fun j h => by rcases h with h | h <;> omega))
   have hsz := hX.size
   clear hX
   by_cases hlt : k < c.length
   rotate_left
   · have HF := Lib.hid (show (lvs c (m + 1) o).foldl (updO (costU n c ⟨ea, eb, ec⟩)) ST = (partO c m o k).foldl (updO (costU n c ⟨ea, eb, ec⟩)) ST from by rw [lvs_succ, show k = c.length by omega])
     clear hLr
     go_wp2
     first
      | refine bodyPost_ret (results_none rfl _ _ _) rfl ?_
      | go_end0
     exact ⟨rfl, by rw [HF.out]; exact HB.out, HX.out⟩
   · obtain ⟨b1, off1, rfl, hr1⟩ := HR1.out (by omega)
     obtain ⟨⟨⟨td, tt⟩, tdv⟩, ht⟩ := get_ex (l := c) (k := k) hlt
     have HT1 := Lib.hid ht
     have hgd := getD_of ht
     have HGd := Lib.hid hgd
     obtain ⟨c1_0, c1_1, c1_2⟩ := (hr1.later hLr).trm ht
     simp only at c1_0 c1_1 c1_2
     have hbr := (hr1.later hLr).1
     clear ht
     have hsk : skipO c o k = (hasI o ((k : Nat) : Int) || (o.isEmpty && tdv)) := by unfold skipO; rw [hgd]
     clear hgd hLr
     have HOr := Lib.hid (reads_of_owns HOr0.out (by omega))
     have HTr := Lib.hid (reads_of_owns HTr0.out (by omega))
     cases hh : hasI o ((k : Nat) : Int)
     rotate_left
     · have HH := Lib.hid hh
       have HN := Lib.hid (foldl_skip (cost := (costU n c ⟨ea, eb, ec⟩)) (n := m) ST (show skipO c o k = true from by rw [hsk, hh]; rfl))
       clear hh hsk
       go_wp2_with fail
       refine (w_containsInt _ _ _ _ (HOr.out.later ((Later.refl _).alloc _))).mono ?_
       rintro e w1 ⟨rfl, rfl⟩
       rw [HH.out]
       go_wp2
       go_roundw
       case rel => exact ⟨k + 1, rfl, by omega, HX.out.later ((Later.refl _).alloc _), by rw [Hid, HN.out]; exact HB.out.later ((Later.refl _).alloc _)⟩
       case measure => simp [intOf]; omega
     by_cases he : o = [] ∧ tdv = true
     · have HH := Lib.hid hh
       have HN := Lib.hid (foldl_skip (cost := (costU n c ⟨ea, eb, ec⟩)) (n := m) ST (show skipO c o k = true from by rw [hsk, hh, he.1, he.2]; rfl))
       have hl0 : o.length = 0 := by rw [he.1]; rfl
       have hdv := he.2
       subst hdv
       have hb0 : ((o.length : Int) == 0) = true := by simp [hl0]
       clear hh hsk he hl0
       go_wp2_with fail
       refine (w_containsInt _ _ _ _ (HOr.out.later ((Later.refl _).alloc _))).mono ?_
       rintro e w1 ⟨rfl, rfl⟩
       rw [HH.out]
       go_wp2
       go_roundw
       case rel => exact ⟨k + 1, rfl, by omega, HX.out.later ((Later.refl _).alloc _), by rw [Hid, HN.out]; exact HB.out.later ((Later.refl _).alloc _)⟩
       case measure => simp [intOf]; omega
     have hs : skipO c o k = false := by
      rw [hsk, hh, Bool.false_or]
      cases o with
      | nil => cases hd : tdv with
       | false => rfl
       | true => exact absurd ⟨rfl, hd⟩ he
      | cons x o => rfl
     have HGn := Lib.hid (HG.out.snoc hlt hs)
     have HOs := Lib.hid (show orderedL c (o ++ [((k : Nat) : Int)]) = orderedL c o ++ [⟨⟨td, tt⟩, tdv⟩] from by rw [orderedL_snoc, Int.toNat_natCast, HGd.out])
     obtain ⟨SX, hSX⟩ : ∃ x, (partO c m o k).foldl (updO (costU n c ⟨ea, eb, ec⟩)) ST = x := ⟨_, rfl⟩
     have HN := Lib.hid ((foldl_go (cost := (costU n c ⟨ea, eb, ec⟩)) (n := m) ST hs).trans (by rw [hSX]))
     have HBx := Lib.hid (show BestSt wr kL kB base0 SX from hSX ▸ HB.out)
     have HH := Lib.hid hh
     clear hh hsk hs hSX HB
     rcases (show (o.length = 0 ∧ tdv = false) ∨ ¬ o.length = 0 from by
      by_cases h0 : o.length = 0
      · left
        refine ⟨h0, ?_⟩
        cases hd : tdv with
        | false => rfl
        | true => exact absurd ⟨List.eq_nil_of_length_eq_zero h0, hd⟩ he
      · exact .inr h0) with ⟨hl0, hdv⟩ | hl0
     · clear he
       have hb0 : ((o.length : Int) == 0) = true := by simp [hl0]
       subst hdv
       clear hl0
       go_wp2_with fail
       refine (w_containsInt _ _ _ _ (HOr.out.later ((Later.refl _).alloc _))).mono ?_
       rintro e w1 ⟨rfl, rfl⟩
       rw [HH.out]
       go_wp2_with fail
       refine wp_name ?_
       intro z hz
       have hLz : Later wr z := by rw [hz]; exact (Later.refl _).alloc _
       have Kt : z.heap[wr.heap.size]? = some (.cells #[.int .i64 td, .int .i64 tt, .bool false] 93 (0, 0)) := by rw [hz]; exact heap_alloc_new _ _
       obtain ⟨kt, hkt⟩ : ∃ x, wr.heap.size = x := ⟨_, rfl⟩
       rw [hkt] at Kt ⊢
       have HLz0 := Lib.hid (HLr.out.trans hLz)
       have HEz := Lib.hid (HEr.out.later hLz)
       have HBz := Lib.hid (HBx.out.later hLz)
       have HXz := Lib.hid (HX.out.later hLz)
       have HOr := Lib.hid (HOr.out.later hLz)
       have HTr := Lib.hid (HTr.out.later hLz)
       have KE := HEz.out.cE
       have lt0 := (Array.getElem?_eq_some_iff.1 KE).1
       have lt1 := (Array.getElem?_eq_some_iff.1 Kt).1
       have hL0 := HLz0.out
       have hSB := hL0.size
       have hbz : base ≤ z.heap.size := by have := hLz.size; omega
       have HBs := Lib.hid hbz
       have ktb : base ≤ kt := by omega
       obtain ⟨ST0, hST0⟩ : ∃ x, ST = x := ⟨_, rfl⟩
       clear hz hLz hkt c1_0 c1_1 c1_2 hbr
       refine region_slots 50 [37, 38, 39, 40, 41, 42, 43, 44, 45, 46, 47, 48] (fun g ac wc => sl ac 0 = .slice ao o.length capo ∧
        sl ac 1 = .slice at' o.length capt ∧
        sl ac 4 = .pointer (some ⟨kE, 0, none⟩) ∧
        sl ac 7 = .int .i64 ((k : Nat) : Int) ∧
        sl ac 8 = .pointer (some ⟨kt, 0, none⟩) ∧
        (g 0 = true → sl ac 37 = .func (.func 173) #[] #[.pointer (some ⟨kC, 0, none⟩), .pointer (some ⟨kA, 0, none⟩), .pointer (some ⟨kE, 0, none⟩)]) ∧
        (g 1 = true → sl ac 38 = .slice ao o.length capo) ∧
        (g 3 = true → sl ac 40 = .int .i64 ((k : Nat) : Int)) ∧
        (g 6 = true → sl ac 43 = .slice at' o.length capt) ∧
        (g 8 = true → sl ac 45 = .agg #[.int .i64 td, .int .i64 tt, .bool false]) ∧
        (g 11 = true → sl ac 48 = .tuple #[]) ∧
        Later w0 wc ∧
        (g 2 = true → (IsSl (sl ac 39) (o.length) ∧ sl ac 39 = sl ac 39) ∧ (g 5 = false → wc.ownsRow z.heap.size 2 1 (sl ac 39) (o.length) (nums o))) ∧
        (g 4 = true → (∃ k, sl ac 41 = .slice (some ⟨k, 0, none⟩) 1 1) ∧ (g 5 = false → wc.ownsRow z.heap.size 2 1 (sl ac 41) (1) (nums [((k : Nat) : Int)]))) ∧
        (g 5 = true → (IsSl (sl ac 42) (o.length + 1)) ∧ (g 11 = false → wc.ownsRow z.heap.size 2 1 (sl ac 42) (o.length + 1) (nums (o ++ [((k : Nat) : Int)])))) ∧
        (g 7 = true → (IsSl (sl ac 44) (o.length) ∧ sl ac 44 = sl ac 44) ∧ (g 10 = false → wc.ownsRow z.heap.size 93 3 (sl ac 44) (o.length) (trms (orderedL c o)))) ∧
        (g 9 = true → (∃ k, sl ac 46 = .slice (some ⟨k, 0, none⟩) 1 1) ∧ (g 10 = false → wc.ownsRow z.heap.size 93 3 (sl ac 46) (1) (trms [(⟨⟨td, tt⟩, false⟩ : Trm)]))) ∧
        (g 10 = true → (IsSl (sl ac 47) (o.length + 1)) ∧ (g 11 = false → wc.ownsRow z.heap.size 93 3 (sl ac 47) (o.length + 1) (trms (orderedL c o ++ [(⟨⟨td, tt⟩, false⟩ : Trm)])))) ∧
        (g 2 = true → g 4 = true → g 5 = false → g 5 = false → ∀ q, (sl ac 39).ownBlock = some q → (sl ac 41).ownBlock ≠ some q) ∧
        (g 2 = true → g 7 = true → g 5 = false → g 10 = false → ∀ q, (sl ac 39).ownBlock = some q → (sl ac 44).ownBlock ≠ some q) ∧
        (g 2 = true → g 9 = true → g 5 = false → g 10 = false → ∀ q, (sl ac 39).ownBlock = some q → (sl ac 46).ownBlock ≠ some q) ∧
        (g 2 = true → g 10 = true → g 5 = false → g 11 = false → ∀ q, (sl ac 39).ownBlock = some q → (sl ac 47).ownBlock ≠ some q) ∧
        (g 4 = true → g 7 = true → g 5 = false → g 10 = false → ∀ q, (sl ac 41).ownBlock = some q → (sl ac 44).ownBlock ≠ some q) ∧
        (g 4 = true → g 9 = true → g 5 = false → g 10 = false → ∀ q, (sl ac 41).ownBlock = some q → (sl ac 46).ownBlock ≠ some q) ∧
        (g 4 = true → g 10 = true → g 5 = false → g 11 = false → ∀ q, (sl ac 41).ownBlock = some q → (sl ac 47).ownBlock ≠ some q) ∧
        (g 5 = true → g 7 = true → g 11 = false → g 10 = false → ∀ q, (sl ac 42).ownBlock = some q → (sl ac 44).ownBlock ≠ some q) ∧
        (g 5 = true → g 9 = true → g 11 = false → g 10 = false → ∀ q, (sl ac 42).ownBlock = some q → (sl ac 46).ownBlock ≠ some q) ∧
        (g 5 = true → g 10 = true → g 11 = false → g 11 = false → ∀ q, (sl ac 42).ownBlock = some q → (sl ac 47).ownBlock ≠ some q) ∧
        (g 7 = true → g 9 = true → g 10 = false → g 10 = false → ∀ q, (sl ac 44).ownBlock = some q → (sl ac 46).ownBlock ≠ some q) ∧
        (g 5 = true → g 2 = true) ∧
        (g 5 = true → g 4 = true) ∧
        (g 10 = true → g 7 = true) ∧
        (g 10 = true → g 9 = true) ∧
        (g 11 = true → g 5 = true) ∧
        (g 11 = true → g 10 = true) ∧
        z.heap.size ≤ wc.heap.size ∧
        wc.heap[kE]? = some (.cells #[.func (.func 173) #[] #[.pointer (some ⟨kC, 0, none⟩), .pointer (some ⟨kA, 0, none⟩), .pointer (some ⟨kE, 0, none⟩)]] 122 (0, 0)) ∧
        wc.heap[kt]? = some (.cells #[.int .i64 td, .int .i64 tt, .bool false] 93 (0, 0)) ∧
        (g 11 = false → Later z wc) ∧
        (g 11 = true → BestSt wc kL kB base0 ((lvs c m (o ++ [((k : Nat) : Int)])).foldl (updO (costU n c ⟨ea, eb, ec⟩)) SX) ∧ Ex (Two kL kB) z wc)) (by kernel_rfl) (by kernel_rfl) rfl (by kernel_rfl) ?_ ?_ ?_
       · exact ⟨rfl, rfl, rfl, rfl, rfl, nofun, nofun, nofun, nofun, nofun, nofun, hL0.drew, nofun, nofun, nofun, nofun, nofun, nofun, nofun, nofun, nofun, nofun, nofun, nofun, nofun, nofun, nofun, nofun, nofun, nofun, nofun, nofun, nofun, nofun, nofun, Nat.le_refl _, KE, Kt, fun _ => (Later.refl _).drew, nofun⟩
       · intro g ac wu hg ha hI
         obtain ⟨x0, x1, x4, x7, x8, i0, i1, i3, i6, i8, i11, hL, p2, p4, p5, p7, p9, p10, -, -, -, -, -, -, -, -, -, -, -, -, -, -, -, -, -, hS, BE, Bt, -, E1⟩ := hI
         replace E1 := E1 (hg 11 (by simp))
         obtain ⟨⟨⟨ar2, capr2, f2⟩, e2⟩, -⟩ := p2 (hg 2 (by simp))
         clear e2
         have e2 := f2
         obtain ⟨⟨kr4, e4⟩, -⟩ := p4 (hg 4 (by simp))
         obtain ⟨⟨ar5, capr5, e5⟩, -⟩ := p5 (hg 5 (by simp))
         obtain ⟨⟨⟨ar7, capr7, f7⟩, e7⟩, -⟩ := p7 (hg 7 (by simp))
         clear e7
         have e7 := f7
         obtain ⟨⟨kr9, e9⟩, -⟩ := p9 (hg 9 (by simp))
         obtain ⟨⟨ar10, capr10, e10⟩, -⟩ := p10 (hg 10 (by simp))
         have a0 := i0 (hg 0 (by simp))
         have a1 := i1 (hg 1 (by simp))
         have a3 := i3 (hg 3 (by simp))
         have a6 := i6 (hg 6 (by simp))
         have a8 := i8 (hg 8 (by simp))
         have a11 := i11 (hg 11 (by simp))
         simp only [putAll, e2, e4, e5, e7, e9, e10, a0, a1, a3, a6, a8, a11] at ha
         simp only [Act.put, List.setIfInBounds_toArray, List.set_cons_succ, List.set_cons_zero] at ha
         rw [ha]
         clear x0 x1 x4 x7 x8 i0 i1 i3 i6 i8 i11 a0 a1 a3 a6 a8 a11 p2 p4 p5 p7 p9 p10 e2 e4 e5 e7 e9 e10 f2 f7 hg ha
         have HE1 := Lib.hid E1
         have HXn := Lib.hid (HXz.out.trans E1.2)
         clear hL hS BE Bt E1
         go_wp2
         go_roundw
         case rel => exact ⟨k + 1, rfl, by omega, HXn.out, by rw [Hid, HN.out]; exact HE1.out.1⟩
         case measure => simp [intOf]; omega
       · refine .cons ?_ (.cons ?_ (.cons ?_ (.cons ?_ (.cons ?_ (.cons ?_ (.cons ?_ (.cons ?_ (.cons ?_ (.cons ?_ (.cons ?_ (.cons ?_ .nil)))))))))))
         · refine qst fun g ac wc hn hk hr HI K' hK => ?_
           obtain ⟨x0, x1, x4, x7, x8, i0, i1, i3, i6, i8, i11, hL, p2, p4, p5, p7, p9, p10, d2_4, d2_7, d2_9, d2_10, d4_7, d4_9, d4_10, d5_7, d5_9, d5_10, d7_9, m5_2, m5_4, m10_7, m10_9, m11_5, m11_10, hS, BE, Bt, E0, E1⟩ := HI.out
           simp [Region.binds] at hr
           clear i0 i1 i3 i6 i8 i11 d2_4 d2_7 d2_9 d2_10 d4_7 d4_9 d4_10 d5_7 d5_9 d5_10 d7_9 p2 p4 p5 p7 p9 p10
           obtain ⟨c0, f0, z0⟩ := blk_at BE
           go_simp
           obtain ⟨-, -, -, -, -, i0, i1, i3, i6, i8, i11, -, p2, p4, p5, p7, p9, p10, d2_4, d2_7, d2_9, d2_10, d4_7, d4_9, d4_10, d5_7, d5_9, d5_10, d7_9, -⟩ := HI.out
           exact hK.out _ _ ⟨qB x0, qB x1, qB x4, qB x7, qB x8, qP, qF i1, qF i3, qF i6, qF i8, qF i11, hL, (fun h => by obtain ⟨⟨hs, hv⟩, ho⟩ := p2 h; exact ⟨⟨by rw [put_ne (show 39 ≠ 37 by decide)]; exact hs, rfl⟩, fun ht => by have ho := ho ht; exact (by rw [put_ne (show 39 ≠ 37 by decide)]; exact ho)⟩), (fun h => by obtain ⟨hs, ho⟩ := p4 h; exact ⟨(by rw [put_ne (show 41 ≠ 37 by decide)]; exact hs), fun ht => by have ho := ho ht; exact (by rw [put_ne (show 41 ≠ 37 by decide)]; exact ho)⟩), (fun h => by obtain ⟨hs, ho⟩ := p5 h; exact ⟨(by rw [put_ne (show 42 ≠ 37 by decide)]; exact hs), fun ht => by have ho := ho ht; exact (by rw [put_ne (show 42 ≠ 37 by decide)]; exact ho)⟩), (fun h => by obtain ⟨⟨hs, hv⟩, ho⟩ := p7 h; exact ⟨⟨by rw [put_ne (show 44 ≠ 37 by decide)]; exact hs, rfl⟩, fun ht => by have ho := ho ht; exact (by rw [put_ne (show 44 ≠ 37 by decide)]; exact ho)⟩), (fun h => by obtain ⟨hs, ho⟩ := p9 h; exact ⟨(by rw [put_ne (show 46 ≠ 37 by decide)]; exact hs), fun ht => by have ho := ho ht; exact (by rw [put_ne (show 46 ≠ 37 by decide)]; exact ho)⟩), (fun h => by obtain ⟨hs, ho⟩ := p10 h; exact ⟨(by rw [put_ne (show 47 ≠ 37 by decide)]; exact hs), fun ht => by have ho := ho ht; exact (by rw [put_ne (show 47 ≠ 37 by decide)]; exact ho)⟩), (fun h h' ht ht' => by rw [put_ne (show 39 ≠ 37 by decide), put_ne (show 41 ≠ 37 by decide)]; exact d2_4 h h' ht ht' ), (fun h h' ht ht' => by rw [put_ne (show 39 ≠ 37 by decide), put_ne (show 44 ≠ 37 by decide)]; exact d2_7 h h' ht ht' ), (fun h h' ht ht' => by rw [put_ne (show 39 ≠ 37 by decide), put_ne (show 46 ≠ 37 by decide)]; exact d2_9 h h' ht ht' ), (fun h h' ht ht' => by rw [put_ne (show 39 ≠ 37 by decide), put_ne (show 47 ≠ 37 by decide)]; exact d2_10 h h' ht ht' ), (fun h h' ht ht' => by rw [put_ne (show 41 ≠ 37 by decide), put_ne (show 44 ≠ 37 by decide)]; exact d4_7 h h' ht ht' ), (fun h h' ht ht' => by rw [put_ne (show 41 ≠ 37 by decide), put_ne (show 46 ≠ 37 by decide)]; exact d4_9 h h' ht ht' ), (fun h h' ht ht' => by rw [put_ne (show 41 ≠ 37 by decide), put_ne (show 47 ≠ 37 by decide)]; exact d4_10 h h' ht ht' ), (fun h h' ht ht' => by rw [put_ne (show 42 ≠ 37 by decide), put_ne (show 44 ≠ 37 by decide)]; exact d5_7 h h' ht ht' ), (fun h h' ht ht' => by rw [put_ne (show 42 ≠ 37 by decide), put_ne (show 46 ≠ 37 by decide)]; exact d5_9 h h' ht ht' ), (fun h h' ht ht' => by rw [put_ne (show 42 ≠ 37 by decide), put_ne (show 47 ≠ 37 by decide)]; exact d5_10 h h' ht ht' ), (fun h h' ht ht' => by rw [put_ne (show 44 ≠ 37 by decide), put_ne (show 46 ≠ 37 by decide)]; exact d7_9 h h' ht ht' ), m5_2, m5_4, m10_7, m10_9, m11_5, m11_10, hS, BE, Bt, E0, E1⟩
         · refine qst fun g ac wc hn hk hr HI K' hK => ?_
           obtain ⟨x0, x1, x4, x7, x8, i0, i1, i3, i6, i8, i11, hL, p2, p4, p5, p7, p9, p10, d2_4, d2_7, d2_9, d2_10, d4_7, d4_9, d4_10, d5_7, d5_9, d5_10, d7_9, m5_2, m5_4, m10_7, m10_9, m11_5, m11_10, hS, BE, Bt, E0, E1⟩ := HI.out
           simp [Region.binds] at hr
           clear i0 i1 i3 i6 i8 i11 d2_4 d2_7 d2_9 d2_10 d4_7 d4_9 d4_10 d5_7 d5_9 d5_10 d7_9 p2 p4 p5 p7 p9 p10
           go_simp
           obtain ⟨-, -, -, -, -, i0, i1, i3, i6, i8, i11, -, p2, p4, p5, p7, p9, p10, d2_4, d2_7, d2_9, d2_10, d4_7, d4_9, d4_10, d5_7, d5_9, d5_10, d7_9, -⟩ := HI.out
           exact hK.out _ _ ⟨qB x0, qB x1, qB x4, qB x7, qB x8, qF i0, qP, qF i3, qF i6, qF i8, qF i11, hL, (fun h => by obtain ⟨⟨hs, hv⟩, ho⟩ := p2 h; exact ⟨⟨by rw [put_ne (show 39 ≠ 38 by decide)]; exact hs, rfl⟩, fun ht => by have ho := ho ht; exact (by rw [put_ne (show 39 ≠ 38 by decide)]; exact ho)⟩), (fun h => by obtain ⟨hs, ho⟩ := p4 h; exact ⟨(by rw [put_ne (show 41 ≠ 38 by decide)]; exact hs), fun ht => by have ho := ho ht; exact (by rw [put_ne (show 41 ≠ 38 by decide)]; exact ho)⟩), (fun h => by obtain ⟨hs, ho⟩ := p5 h; exact ⟨(by rw [put_ne (show 42 ≠ 38 by decide)]; exact hs), fun ht => by have ho := ho ht; exact (by rw [put_ne (show 42 ≠ 38 by decide)]; exact ho)⟩), (fun h => by obtain ⟨⟨hs, hv⟩, ho⟩ := p7 h; exact ⟨⟨by rw [put_ne (show 44 ≠ 38 by decide)]; exact hs, rfl⟩, fun ht => by have ho := ho ht; exact (by rw [put_ne (show 44 ≠ 38 by decide)]; exact ho)⟩), (fun h => by obtain ⟨hs, ho⟩ := p9 h; exact ⟨(by rw [put_ne (show 46 ≠ 38 by decide)]; exact hs), fun ht => by have ho := ho ht; exact (by rw [put_ne (show 46 ≠ 38 by decide)]; exact ho)⟩), (fun h => by obtain ⟨hs, ho⟩ := p10 h; exact ⟨(by rw [put_ne (show 47 ≠ 38 by decide)]; exact hs), fun ht => by have ho := ho ht; exact (by rw [put_ne (show 47 ≠ 38 by decide)]; exact ho)⟩), (fun h h' ht ht' => by rw [put_ne (show 39 ≠ 38 by decide), put_ne (show 41 ≠ 38 by decide)]; exact d2_4 h h' ht ht' ), (fun h h' ht ht' => by rw [put_ne (show 39 ≠ 38 by decide), put_ne (show 44 ≠ 38 by decide)]; exact d2_7 h h' ht ht' ), (fun h h' ht ht' => by rw [put_ne (show 39 ≠ 38 by decide), put_ne (show 46 ≠ 38 by decide)]; exact d2_9 h h' ht ht' ), (fun h h' ht ht' => by rw [put_ne (show 39 ≠ 38 by decide), put_ne (show 47 ≠ 38 by decide)]; exact d2_10 h h' ht ht' ), (fun h h' ht ht' => by rw [put_ne (show 41 ≠ 38 by decide), put_ne (show 44 ≠ 38 by decide)]; exact d4_7 h h' ht ht' ), (fun h h' ht ht' => by rw [put_ne (show 41 ≠ 38 by decide), put_ne (show 46 ≠ 38 by decide)]; exact d4_9 h h' ht ht' ), (fun h h' ht ht' => by rw [put_ne (show 41 ≠ 38 by decide), put_ne (show 47 ≠ 38 by decide)]; exact d4_10 h h' ht ht' ), (fun h h' ht ht' => by rw [put_ne (show 42 ≠ 38 by decide), put_ne (show 44 ≠ 38 by decide)]; exact d5_7 h h' ht ht' ), (fun h h' ht ht' => by rw [put_ne (show 42 ≠ 38 by decide), put_ne (show 46 ≠ 38 by decide)]; exact d5_9 h h' ht ht' ), (fun h h' ht ht' => by rw [put_ne (show 42 ≠ 38 by decide), put_ne (show 47 ≠ 38 by decide)]; exact d5_10 h h' ht ht' ), (fun h h' ht ht' => by rw [put_ne (show 44 ≠ 38 by decide), put_ne (show 46 ≠ 38 by decide)]; exact d7_9 h h' ht ht' ), m5_2, m5_4, m10_7, m10_9, m11_5, m11_10, hS, BE, Bt, E0, E1⟩
         · refine qst fun g ac wc hn hk hr HI K' hK => ?_
           obtain ⟨x0, x1, x4, x7, x8, i0, i1, i3, i6, i8, i11, hL, p2, p4, p5, p7, p9, p10, d2_4, d2_7, d2_9, d2_10, d4_7, d4_9, d4_10, d5_7, d5_9, d5_10, d7_9, m5_2, m5_4, m10_7, m10_9, m11_5, m11_10, hS, BE, Bt, E0, E1⟩ := HI.out
           simp [Region.binds] at hr
           have y1 := i1 (by simp [hr])
           have hst : g 11 = false := by
            cases hq : g 11 with
            | false => rfl
            | true =>
             have hh := m5_2 (m11_5 hq)
             rw [hk] at hh
             cases hh
           have hold := E0 hst
           clear i0 i1 i3 i6 i8 i11 d2_4 d2_7 d2_9 d2_10 d4_7 d4_9 d4_10 d5_7 d5_9 d5_10 d7_9 p2 p4 p5 p7 p9 p10
           go_simp
           refine (w_cloneIntS ao o.length capo o _ (HOr.out.later hold) HNo.out).mono ?_
           rintro e w4 ⟨a4, l4, c4, rfl, hL4, ho4⟩
           obtain ⟨a5, c5, e5⟩ := isSl_of ho4
           simp only [Value.slice.injEq] at e5
           obtain ⟨rfl, rfl, rfl⟩ := e5
           obtain ⟨-, -, -, -, -, i0, i1, i3, i6, i8, i11, -, p2, p4, p5, p7, p9, p10, d2_4, d2_7, d2_9, d2_10, d4_7, d4_9, d4_10, d5_7, d5_9, d5_10, d7_9, -⟩ := HI.out
           exact hK.out _ _ ⟨qB x0, qB x1, qB x4, qB x7, qB x8, qF i0, qF i1, qF i3, qF i6, qF i8, qF i11, hL.trans hL4, (fun _ => ⟨⟨by rw [put_eq (by omega)]; exact ⟨_, _, rfl⟩, rfl⟩, fun _ => by rw [put_eq (by omega)]; exact owns_base ho4 hS⟩), (fun h => by obtain ⟨hs, ho⟩ := p4 h; exact ⟨(by rw [put_ne (show 41 ≠ 39 by decide)]; exact hs), fun ht => by have ho := ho ht; exact (by rw [put_ne (show 41 ≠ 39 by decide)]; exact (owns_later ho hL4))⟩), (fun h => by obtain ⟨hs, ho⟩ := p5 h; exact ⟨(by rw [put_ne (show 42 ≠ 39 by decide)]; exact hs), fun ht => by have ho := ho ht; exact (by rw [put_ne (show 42 ≠ 39 by decide)]; exact (owns_later ho hL4))⟩), (fun h => by obtain ⟨⟨hs, hv⟩, ho⟩ := p7 h; exact ⟨⟨by rw [put_ne (show 44 ≠ 39 by decide)]; exact hs, rfl⟩, fun ht => by have ho := ho ht; exact (by rw [put_ne (show 44 ≠ 39 by decide)]; exact (owns_later ho hL4))⟩), (fun h => by obtain ⟨hs, ho⟩ := p9 h; exact ⟨(by rw [put_ne (show 46 ≠ 39 by decide)]; exact hs), fun ht => by have ho := ho ht; exact (by rw [put_ne (show 46 ≠ 39 by decide)]; exact (owns_later ho hL4))⟩), (fun h => by obtain ⟨hs, ho⟩ := p10 h; exact ⟨(by rw [put_ne (show 47 ≠ 39 by decide)]; exact hs), fun ht => by have ho := ho ht; exact (by rw [put_ne (show 47 ≠ 39 by decide)]; exact (owns_later ho hL4))⟩), (fun h h' ht ht' q hq => by rw [put_eq (by omega)] at hq; rw [put_ne (show 41 ≠ 39 by decide)]; have ho := (p4 h').2 ht'; intro e; have h8 := ho.lt q e; have h9 := (ho4.lt q hq).1; omega), (fun h h' ht ht' q hq => by rw [put_eq (by omega)] at hq; rw [put_ne (show 44 ≠ 39 by decide)]; have ho := (p7 h').2 ht'; intro e; have h8 := ho.lt q e; have h9 := (ho4.lt q hq).1; omega), (fun h h' ht ht' q hq => by rw [put_eq (by omega)] at hq; rw [put_ne (show 46 ≠ 39 by decide)]; have ho := (p9 h').2 ht'; intro e; have h8 := ho.lt q e; have h9 := (ho4.lt q hq).1; omega), (fun h h' ht ht' q hq => by rw [put_eq (by omega)] at hq; rw [put_ne (show 47 ≠ 39 by decide)]; have ho := (p10 h').2 ht'; intro e; have h8 := ho.lt q e; have h9 := (ho4.lt q hq).1; omega), (fun h h' ht ht' => by rw [put_ne (show 41 ≠ 39 by decide), put_ne (show 44 ≠ 39 by decide)]; exact d4_7 h h' ht ht' ), (fun h h' ht ht' => by rw [put_ne (show 41 ≠ 39 by decide), put_ne (show 46 ≠ 39 by decide)]; exact d4_9 h h' ht ht' ), (fun h h' ht ht' => by rw [put_ne (show 41 ≠ 39 by decide), put_ne (show 47 ≠ 39 by decide)]; exact d4_10 h h' ht ht' ), (fun h h' ht ht' => by rw [put_ne (show 42 ≠ 39 by decide), put_ne (show 44 ≠ 39 by decide)]; exact d5_7 h h' ht ht' ), (fun h h' ht ht' => by rw [put_ne (show 42 ≠ 39 by decide), put_ne (show 46 ≠ 39 by decide)]; exact d5_9 h h' ht ht' ), (fun h h' ht ht' => by rw [put_ne (show 42 ≠ 39 by decide), put_ne (show 47 ≠ 39 by decide)]; exact d5_10 h h' ht ht' ), (fun h h' ht ht' => by rw [put_ne (show 44 ≠ 39 by decide), put_ne (show 46 ≠ 39 by decide)]; exact d7_9 h h' ht ht' ), (fun _ => rfl), m5_4, m10_7, m10_9, m11_5, m11_10, Nat.le_trans hS hL4.size, (hL4.keep BE), (hL4.keep Bt), (fun h => (E0 h).trans hL4), (fun h => ⟨(E1 h).1.later hL4, (E1 h).2.later hL4⟩)⟩
         · refine qst fun g ac wc hn hk hr HI K' hK => ?_
           obtain ⟨x0, x1, x4, x7, x8, i0, i1, i3, i6, i8, i11, hL, p2, p4, p5, p7, p9, p10, d2_4, d2_7, d2_9, d2_10, d4_7, d4_9, d4_10, d5_7, d5_9, d5_10, d7_9, m5_2, m5_4, m10_7, m10_9, m11_5, m11_10, hS, BE, Bt, E0, E1⟩ := HI.out
           simp [Region.binds] at hr
           clear i0 i1 i3 i6 i8 i11 d2_4 d2_7 d2_9 d2_10 d4_7 d4_9 d4_10 d5_7 d5_9 d5_10 d7_9 p2 p4 p5 p7 p9 p10
           go_simp
           obtain ⟨-, -, -, -, -, i0, i1, i3, i6, i8, i11, -, p2, p4, p5, p7, p9, p10, d2_4, d2_7, d2_9, d2_10, d4_7, d4_9, d4_10, d5_7, d5_9, d5_10, d7_9, -⟩ := HI.out
           exact hK.out _ _ ⟨qB x0, qB x1, qB x4, qB x7, qB x8, qF i0, qF i1, qP, qF i6, qF i8, qF i11, hL, (fun h => by obtain ⟨⟨hs, hv⟩, ho⟩ := p2 h; exact ⟨⟨by rw [put_ne (show 39 ≠ 40 by decide)]; exact hs, rfl⟩, fun ht => by have ho := ho ht; exact (by rw [put_ne (show 39 ≠ 40 by decide)]; exact ho)⟩), (fun h => by obtain ⟨hs, ho⟩ := p4 h; exact ⟨(by rw [put_ne (show 41 ≠ 40 by decide)]; exact hs), fun ht => by have ho := ho ht; exact (by rw [put_ne (show 41 ≠ 40 by decide)]; exact ho)⟩), (fun h => by obtain ⟨hs, ho⟩ := p5 h; exact ⟨(by rw [put_ne (show 42 ≠ 40 by decide)]; exact hs), fun ht => by have ho := ho ht; exact (by rw [put_ne (show 42 ≠ 40 by decide)]; exact ho)⟩), (fun h => by obtain ⟨⟨hs, hv⟩, ho⟩ := p7 h; exact ⟨⟨by rw [put_ne (show 44 ≠ 40 by decide)]; exact hs, rfl⟩, fun ht => by have ho := ho ht; exact (by rw [put_ne (show 44 ≠ 40 by decide)]; exact ho)⟩), (fun h => by obtain ⟨hs, ho⟩ := p9 h; exact ⟨(by rw [put_ne (show 46 ≠ 40 by decide)]; exact hs), fun ht => by have ho := ho ht; exact (by rw [put_ne (show 46 ≠ 40 by decide)]; exact ho)⟩), (fun h => by obtain ⟨hs, ho⟩ := p10 h; exact ⟨(by rw [put_ne (show 47 ≠ 40 by decide)]; exact hs), fun ht => by have ho := ho ht; exact (by rw [put_ne (show 47 ≠ 40 by decide)]; exact ho)⟩), (fun h h' ht ht' => by rw [put_ne (show 39 ≠ 40 by decide), put_ne (show 41 ≠ 40 by decide)]; exact d2_4 h h' ht ht' ), (fun h h' ht ht' => by rw [put_ne (show 39 ≠ 40 by decide), put_ne (show 44 ≠ 40 by decide)]; exact d2_7 h h' ht ht' ), (fun h h' ht ht' => by rw [put_ne (show 39 ≠ 40 by decide), put_ne (show 46 ≠ 40 by decide)]; exact d2_9 h h' ht ht' ), (fun h h' ht ht' => by rw [put_ne (show 39 ≠ 40 by decide), put_ne (show 47 ≠ 40 by decide)]; exact d2_10 h h' ht ht' ), (fun h h' ht ht' => by rw [put_ne (show 41 ≠ 40 by decide), put_ne (show 44 ≠ 40 by decide)]; exact d4_7 h h' ht ht' ), (fun h h' ht ht' => by rw [put_ne (show 41 ≠ 40 by decide), put_ne (show 46 ≠ 40 by decide)]; exact d4_9 h h' ht ht' ), (fun h h' ht ht' => by rw [put_ne (show 41 ≠ 40 by decide), put_ne (show 47 ≠ 40 by decide)]; exact d4_10 h h' ht ht' ), (fun h h' ht ht' => by rw [put_ne (show 42 ≠ 40 by decide), put_ne (show 44 ≠ 40 by decide)]; exact d5_7 h h' ht ht' ), (fun h h' ht ht' => by rw [put_ne (show 42 ≠ 40 by decide), put_ne (show 46 ≠ 40 by decide)]; exact d5_9 h h' ht ht' ), (fun h h' ht ht' => by rw [put_ne (show 42 ≠ 40 by decide), put_ne (show 47 ≠ 40 by decide)]; exact d5_10 h h' ht ht' ), (fun h h' ht ht' => by rw [put_ne (show 44 ≠ 40 by decide), put_ne (show 46 ≠ 40 by decide)]; exact d7_9 h h' ht ht' ), m5_2, m5_4, m10_7, m10_9, m11_5, m11_10, hS, BE, Bt, E0, E1⟩
         · refine qst fun g ac wc hn hk hr HI K' hK => ?_
           obtain ⟨x0, x1, x4, x7, x8, i0, i1, i3, i6, i8, i11, hL, p2, p4, p5, p7, p9, p10, d2_4, d2_7, d2_9, d2_10, d4_7, d4_9, d4_10, d5_7, d5_9, d5_10, d7_9, m5_2, m5_4, m10_7, m10_9, m11_5, m11_10, hS, BE, Bt, E0, E1⟩ := HI.out
           simp [Region.binds] at hr
           have y3 := i3 (by simp [hr])
           have z3 := sl_get y3 (by omega)
           clear i0 i1 i3 i6 i8 i11 d2_4 d2_7 d2_9 d2_10 d4_7 d4_9 d4_10 d5_7 d5_9 d5_10 d7_9 p2 p4 p5 p7 p9 p10
           go_simp
           have hL4 := (Later.refl wc).alloc (.cells #[.int .i64 ((k : Nat) : Int)] 2)
           obtain ⟨-, -, -, -, -, i0, i1, i3, i6, i8, i11, -, p2, p4, p5, p7, p9, p10, d2_4, d2_7, d2_9, d2_10, d4_7, d4_9, d4_10, d5_7, d5_9, d5_10, d7_9, -⟩ := HI.out
           exact hK.out _ _ ⟨qB x0, qB x1, qB x4, qB x7, qB x8, qF i0, qF i1, qF i3, qF i6, qF i8, qF i11, hL.alloc _, (fun h => by obtain ⟨⟨hs, hv⟩, ho⟩ := p2 h; exact ⟨⟨by rw [put_ne (show 39 ≠ 41 by decide)]; exact hs, rfl⟩, fun ht => by have ho := ho ht; exact (by rw [put_ne (show 39 ≠ 41 by decide)]; exact (owns_later ho hL4))⟩), (fun _ => ⟨⟨wc.heap.size, put_eq (by omega)⟩, fun _ => by rw [put_eq (by omega)]; exact World.ownsRow_lit wc #[.int .i64 ((k : Nat) : Int)] 1 hS (by decide) (by simp)⟩), (fun h => by obtain ⟨hs, ho⟩ := p5 h; exact ⟨(by rw [put_ne (show 42 ≠ 41 by decide)]; exact hs), fun ht => by have ho := ho ht; exact (by rw [put_ne (show 42 ≠ 41 by decide)]; exact (owns_later ho hL4))⟩), (fun h => by obtain ⟨⟨hs, hv⟩, ho⟩ := p7 h; exact ⟨⟨by rw [put_ne (show 44 ≠ 41 by decide)]; exact hs, rfl⟩, fun ht => by have ho := ho ht; exact (by rw [put_ne (show 44 ≠ 41 by decide)]; exact (owns_later ho hL4))⟩), (fun h => by obtain ⟨hs, ho⟩ := p9 h; exact ⟨(by rw [put_ne (show 46 ≠ 41 by decide)]; exact hs), fun ht => by have ho := ho ht; exact (by rw [put_ne (show 46 ≠ 41 by decide)]; exact (owns_later ho hL4))⟩), (fun h => by obtain ⟨hs, ho⟩ := p10 h; exact ⟨(by rw [put_ne (show 47 ≠ 41 by decide)]; exact hs), fun ht => by have ho := ho ht; exact (by rw [put_ne (show 47 ≠ 41 by decide)]; exact (owns_later ho hL4))⟩), (fun h h' ht ht' q hq => by rw [put_ne (show 39 ≠ 41 by decide)] at hq; rw [put_eq (by omega)]; have ho := (p2 h).2 ht; have := ho.lt q hq; simp [Value.ownBlock]; omega), (fun h h' ht ht' => by rw [put_ne (show 39 ≠ 41 by decide), put_ne (show 44 ≠ 41 by decide)]; exact d2_7 h h' ht ht' ), (fun h h' ht ht' => by rw [put_ne (show 39 ≠ 41 by decide), put_ne (show 46 ≠ 41 by decide)]; exact d2_9 h h' ht ht' ), (fun h h' ht ht' => by rw [put_ne (show 39 ≠ 41 by decide), put_ne (show 47 ≠ 41 by decide)]; exact d2_10 h h' ht ht' ), (fun h h' ht ht' q hq => by rw [put_eq (by omega)] at hq; rw [put_ne (show 44 ≠ 41 by decide)]; have ho := (p7 h').2 ht'; intro e; have := ho.lt q e; simp [Value.ownBlock] at hq; omega), (fun h h' ht ht' q hq => by rw [put_eq (by omega)] at hq; rw [put_ne (show 46 ≠ 41 by decide)]; have ho := (p9 h').2 ht'; intro e; have := ho.lt q e; simp [Value.ownBlock] at hq; omega), (fun h h' ht ht' q hq => by rw [put_eq (by omega)] at hq; rw [put_ne (show 47 ≠ 41 by decide)]; have ho := (p10 h').2 ht'; intro e; have := ho.lt q e; simp [Value.ownBlock] at hq; omega), (fun h h' ht ht' => by rw [put_ne (show 42 ≠ 41 by decide), put_ne (show 44 ≠ 41 by decide)]; exact d5_7 h h' ht ht' ), (fun h h' ht ht' => by rw [put_ne (show 42 ≠ 41 by decide), put_ne (show 46 ≠ 41 by decide)]; exact d5_9 h h' ht ht' ), (fun h h' ht ht' => by rw [put_ne (show 42 ≠ 41 by decide), put_ne (show 47 ≠ 41 by decide)]; exact d5_10 h h' ht ht' ), (fun h h' ht ht' => by rw [put_ne (show 44 ≠ 41 by decide), put_ne (show 46 ≠ 41 by decide)]; exact d7_9 h h' ht ht' ), m5_2, (fun _ => rfl), m10_7, m10_9, m11_5, m11_10, (by simp; omega), (hL4.keep BE), (hL4.keep Bt), (fun h => (E0 h).trans hL4), (fun h => ⟨(E1 h).1.later hL4, (E1 h).2.later hL4⟩)⟩
         · refine qst fun g ac wc hn hk hr HI K' hK => ?_
           obtain ⟨x0, x1, x4, x7, x8, i0, i1, i3, i6, i8, i11, hL, p2, p4, p5, p7, p9, p10, d2_4, d2_7, d2_9, d2_10, d4_7, d4_9, d4_10, d5_7, d5_9, d5_10, d7_9, m5_2, m5_4, m10_7, m10_9, m11_5, m11_10, hS, BE, Bt, E0, E1⟩ := HI.out
           simp [Region.binds] at hr
           replace i0 := Lib.hid i0
           replace i1 := Lib.hid i1
           replace i3 := Lib.hid i3
           replace i6 := Lib.hid i6
           replace i8 := Lib.hid i8
           replace i11 := Lib.hid i11
           replace d2_4 := Lib.hid d2_4
           replace d2_7 := Lib.hid d2_7
           replace d2_9 := Lib.hid d2_9
           replace d2_10 := Lib.hid d2_10
           replace d4_7 := Lib.hid d4_7
           replace d4_9 := Lib.hid d4_9
           replace d4_10 := Lib.hid d4_10
           replace d5_7 := Lib.hid d5_7
           replace d5_9 := Lib.hid d5_9
           replace d5_10 := Lib.hid d5_10
           replace d7_9 := Lib.hid d7_9
           replace p2 := Lib.hid p2
           replace p4 := Lib.hid p4
           replace p5 := Lib.hid p5
           replace p7 := Lib.hid p7
           replace p9 := Lib.hid p9
           replace p10 := Lib.hid p10
           have gA : g 2 = true := (by simp [hr])
           obtain ⟨hsA, hoA⟩ := p2.out gA
           have hoA := hoA hk
           have gX : g 4 = true := (by simp [hr])
           obtain ⟨⟨kx, ex⟩, hoX⟩ := p4.out gX
           have hoX := hoX hk
           rw [ex] at hoX
           refine wpA_Int64 (.tmp 39) (.tmp 41) rfl z.heap.size (sl ac 39) o rfl hoA ⟨kx, 0, none⟩ 1 1 [((k : Nat) : Int)] ex rfl (row_add hoX) (by simp; omega) hS ?_
           intro v4 w4 ho4 hg4 hat4
           rw [show (o ++ [((k : Nat) : Int)]).length = o.length + 1 from by simp [orderedL_len]] at ho4
           have hL4 : Below z.heap.size wc w4 := Below.grown (Below.refl _ _) hg4 hS (fun k e => (hoA.lt k e).1)
           exact hK.out _ _ ⟨qB x0, qB x1, qB x4, qB x7, qB x8, qF i0.out, qF i1.out, qF i3.out, qF i6.out, qF i8.out, (fun h => absurd (m11_5 h) (by rw [hk]; simp)), Below.trans hL (hL4.mono hSB), (fun h => by obtain ⟨⟨hs, hv⟩, ho⟩ := p2.out h; exact ⟨⟨by rw [put_ne (show 39 ≠ 42 by decide)]; exact hs, rfl⟩, fun h => absurd h (by simp)⟩), (fun h => by obtain ⟨hs, ho⟩ := p4.out h; exact ⟨(by rw [put_ne (show 41 ≠ 42 by decide)]; exact hs), fun h => absurd h (by simp)⟩), (fun _ => ⟨by rw [put_eq (by omega)]; exact isSl_of ho4, fun _ => by rw [put_eq (by omega)]; exact ho4⟩), (fun h => by obtain ⟨⟨hs, hv⟩, ho⟩ := p7.out h; exact ⟨⟨by rw [put_ne (show 44 ≠ 42 by decide)]; exact hs, rfl⟩, fun ht => by have ho := ho ht; have NE7 : ∀ k, (sl ac 44).ownBlock = some k → (sl ac 39).ownBlock ≠ some k := fun k e1 e2 => d2_7.out gA h hk ht k e2 e1; exact (by rw [put_ne (show 44 ≠ 42 by decide)]; exact (rows_grown ho hg4 NE7))⟩), (fun h => by obtain ⟨hs, ho⟩ := p9.out h; exact ⟨(by rw [put_ne (show 46 ≠ 42 by decide)]; exact hs), fun ht => by have ho := ho ht; have NE9 : ∀ k, (sl ac 46).ownBlock = some k → (sl ac 39).ownBlock ≠ some k := fun k e1 e2 => d2_9.out gA h hk ht k e2 e1; exact (by rw [put_ne (show 46 ≠ 42 by decide)]; exact (rows_grown ho hg4 NE9))⟩), (fun h => by obtain ⟨hs, ho⟩ := p10.out h; exact ⟨(by rw [put_ne (show 47 ≠ 42 by decide)]; exact hs), fun ht => by have ho := ho ht; have NE10 : ∀ k, (sl ac 47).ownBlock = some k → (sl ac 39).ownBlock ≠ some k := fun k e1 e2 => d2_10.out gA h hk ht k e2 e1; exact (by rw [put_ne (show 47 ≠ 42 by decide)]; exact (rows_grown ho hg4 NE10))⟩), (fun h h' ht => absurd ht (by simp)), (fun h h' ht => absurd ht (by simp)), (fun h h' ht => absurd ht (by simp)), (fun h h' ht => absurd ht (by simp)), (fun h h' ht => absurd ht (by simp)), (fun h h' ht => absurd ht (by simp)), (fun h h' ht => absurd ht (by simp)), (fun h h' ht ht' q hq => by rw [put_eq (by omega)] at hq; rw [put_ne (show 44 ≠ 42 by decide)]; have ho := (p7.out h').2 ht'; intro e; rcases hat4 q hq with e2 | e2; (· exact d2_7.out gA h' hk ht' q e2 e); (· have := ho.lt q e; omega)), (fun h h' ht ht' q hq => by rw [put_eq (by omega)] at hq; rw [put_ne (show 46 ≠ 42 by decide)]; have ho := (p9.out h').2 ht'; intro e; rcases hat4 q hq with e2 | e2; (· exact d2_9.out gA h' hk ht' q e2 e); (· have := ho.lt q e; omega)), (fun h h' ht ht' q hq => by rw [put_eq (by omega)] at hq; rw [put_ne (show 47 ≠ 42 by decide)]; have ho := (p10.out h').2 ht'; intro e; rcases hat4 q hq with e2 | e2; (· exact d2_10.out gA h' hk ht' q e2 e); (· have := ho.lt q e; omega)), (fun h h' ht ht' => by rw [put_ne (show 44 ≠ 42 by decide), put_ne (show 46 ≠ 42 by decide)]; exact d7_9.out h h' ht ht' ), (fun _ => gA), (fun _ => gX), m10_7, m10_9, (fun _ => rfl), m11_10, Nat.le_trans hS hL4.size, ((hL4.block _ (by omega)).trans BE), ((hL4.block _ (by omega)).trans Bt), (fun h => Below.trans (E0 h) hL4), (fun h => absurd (m11_5 h) (by rw [hk]; simp))⟩
         · refine qst fun g ac wc hn hk hr HI K' hK => ?_
           obtain ⟨x0, x1, x4, x7, x8, i0, i1, i3, i6, i8, i11, hL, p2, p4, p5, p7, p9, p10, d2_4, d2_7, d2_9, d2_10, d4_7, d4_9, d4_10, d5_7, d5_9, d5_10, d7_9, m5_2, m5_4, m10_7, m10_9, m11_5, m11_10, hS, BE, Bt, E0, E1⟩ := HI.out
           simp [Region.binds] at hr
           clear i0 i1 i3 i6 i8 i11 d2_4 d2_7 d2_9 d2_10 d4_7 d4_9 d4_10 d5_7 d5_9 d5_10 d7_9 p2 p4 p5 p7 p9 p10
           go_simp
           obtain ⟨-, -, -, -, -, i0, i1, i3, i6, i8, i11, -, p2, p4, p5, p7, p9, p10, d2_4, d2_7, d2_9, d2_10, d4_7, d4_9, d4_10, d5_7, d5_9, d5_10, d7_9, -⟩ := HI.out
           exact hK.out _ _ ⟨qB x0, qB x1, qB x4, qB x7, qB x8, qF i0, qF i1, qF i3, qP, qF i8, qF i11, hL, (fun h => by obtain ⟨⟨hs, hv⟩, ho⟩ := p2 h; exact ⟨⟨by rw [put_ne (show 39 ≠ 43 by decide)]; exact hs, rfl⟩, fun ht => by have ho := ho ht; exact (by rw [put_ne (show 39 ≠ 43 by decide)]; exact ho)⟩), (fun h => by obtain ⟨hs, ho⟩ := p4 h; exact ⟨(by rw [put_ne (show 41 ≠ 43 by decide)]; exact hs), fun ht => by have ho := ho ht; exact (by rw [put_ne (show 41 ≠ 43 by decide)]; exact ho)⟩), (fun h => by obtain ⟨hs, ho⟩ := p5 h; exact ⟨(by rw [put_ne (show 42 ≠ 43 by decide)]; exact hs), fun ht => by have ho := ho ht; exact (by rw [put_ne (show 42 ≠ 43 by decide)]; exact ho)⟩), (fun h => by obtain ⟨⟨hs, hv⟩, ho⟩ := p7 h; exact ⟨⟨by rw [put_ne (show 44 ≠ 43 by decide)]; exact hs, rfl⟩, fun ht => by have ho := ho ht; exact (by rw [put_ne (show 44 ≠ 43 by decide)]; exact ho)⟩), (fun h => by obtain ⟨hs, ho⟩ := p9 h; exact ⟨(by rw [put_ne (show 46 ≠ 43 by decide)]; exact hs), fun ht => by have ho := ho ht; exact (by rw [put_ne (show 46 ≠ 43 by decide)]; exact ho)⟩), (fun h => by obtain ⟨hs, ho⟩ := p10 h; exact ⟨(by rw [put_ne (show 47 ≠ 43 by decide)]; exact hs), fun ht => by have ho := ho ht; exact (by rw [put_ne (show 47 ≠ 43 by decide)]; exact ho)⟩), (fun h h' ht ht' => by rw [put_ne (show 39 ≠ 43 by decide), put_ne (show 41 ≠ 43 by decide)]; exact d2_4 h h' ht ht' ), (fun h h' ht ht' => by rw [put_ne (show 39 ≠ 43 by decide), put_ne (show 44 ≠ 43 by decide)]; exact d2_7 h h' ht ht' ), (fun h h' ht ht' => by rw [put_ne (show 39 ≠ 43 by decide), put_ne (show 46 ≠ 43 by decide)]; exact d2_9 h h' ht ht' ), (fun h h' ht ht' => by rw [put_ne (show 39 ≠ 43 by decide), put_ne (show 47 ≠ 43 by decide)]; exact d2_10 h h' ht ht' ), (fun h h' ht ht' => by rw [put_ne (show 41 ≠ 43 by decide), put_ne (show 44 ≠ 43 by decide)]; exact d4_7 h h' ht ht' ), (fun h h' ht ht' => by rw [put_ne (show 41 ≠ 43 by decide), put_ne (show 46 ≠ 43 by decide)]; exact d4_9 h h' ht ht' ), (fun h h' ht ht' => by rw [put_ne (show 41 ≠ 43 by decide), put_ne (show 47 ≠ 43 by decide)]; exact d4_10 h h' ht ht' ), (fun h h' ht ht' => by rw [put_ne (show 42 ≠ 43 by decide), put_ne (show 44 ≠ 43 by decide)]; exact d5_7 h h' ht ht' ), (fun h h' ht ht' => by rw [put_ne (show 42 ≠ 43 by decide), put_ne (show 46 ≠ 43 by decide)]; exact d5_9 h h' ht ht' ), (fun h h' ht ht' => by rw [put_ne (show 42 ≠ 43 by decide), put_ne (show 47 ≠ 43 by decide)]; exact d5_10 h h' ht ht' ), (fun h h' ht ht' => by rw [put_ne (show 44 ≠ 43 by decide), put_ne (show 46 ≠ 43 by decide)]; exact d7_9 h h' ht ht' ), m5_2, m5_4, m10_7, m10_9, m11_5, m11_10, hS, BE, Bt, E0, E1⟩
         · refine qst fun g ac wc hn hk hr HI K' hK => ?_
           obtain ⟨x0, x1, x4, x7, x8, i0, i1, i3, i6, i8, i11, hL, p2, p4, p5, p7, p9, p10, d2_4, d2_7, d2_9, d2_10, d4_7, d4_9, d4_10, d5_7, d5_9, d5_10, d7_9, m5_2, m5_4, m10_7, m10_9, m11_5, m11_10, hS, BE, Bt, E0, E1⟩ := HI.out
           simp [Region.binds] at hr
           have y6 := i6 (by simp [hr])
           have hst : g 11 = false := by
            cases hq : g 11 with
            | false => rfl
            | true =>
             have hh := m10_7 (m11_10 hq)
             rw [hk] at hh
             cases hh
           have hold := E0 hst
           clear i0 i1 i3 i6 i8 i11 d2_4 d2_7 d2_9 d2_10 d4_7 d4_9 d4_10 d5_7 d5_9 d5_10 d7_9 p2 p4 p5 p7 p9 p10
           go_simp
           refine (w_cloneTrmS' at' o.length capt (orderedL c o) _ (orderedL_len c o).symm (HTr.out.later hold) HNt.out).mono ?_
           rintro e w4 ⟨a4, l4, c4, rfl, hL4, ho4⟩
           obtain ⟨a5, c5, e5⟩ := isSl_of ho4
           simp only [Value.slice.injEq] at e5
           obtain ⟨rfl, rfl, rfl⟩ := e5
           obtain ⟨-, -, -, -, -, i0, i1, i3, i6, i8, i11, -, p2, p4, p5, p7, p9, p10, d2_4, d2_7, d2_9, d2_10, d4_7, d4_9, d4_10, d5_7, d5_9, d5_10, d7_9, -⟩ := HI.out
           exact hK.out _ _ ⟨qB x0, qB x1, qB x4, qB x7, qB x8, qF i0, qF i1, qF i3, qF i6, qF i8, qF i11, hL.trans hL4, (fun h => by obtain ⟨⟨hs, hv⟩, ho⟩ := p2 h; exact ⟨⟨by rw [put_ne (show 39 ≠ 44 by decide)]; exact hs, rfl⟩, fun ht => by have ho := ho ht; exact (by rw [put_ne (show 39 ≠ 44 by decide)]; exact (owns_later ho hL4))⟩), (fun h => by obtain ⟨hs, ho⟩ := p4 h; exact ⟨(by rw [put_ne (show 41 ≠ 44 by decide)]; exact hs), fun ht => by have ho := ho ht; exact (by rw [put_ne (show 41 ≠ 44 by decide)]; exact (owns_later ho hL4))⟩), (fun h => by obtain ⟨hs, ho⟩ := p5 h; exact ⟨(by rw [put_ne (show 42 ≠ 44 by decide)]; exact hs), fun ht => by have ho := ho ht; exact (by rw [put_ne (show 42 ≠ 44 by decide)]; exact (owns_later ho hL4))⟩), (fun _ => ⟨⟨by rw [put_eq (by omega)]; exact ⟨_, _, rfl⟩, rfl⟩, fun _ => by rw [put_eq (by omega)]; exact owns_base ho4 hS⟩), (fun h => by obtain ⟨hs, ho⟩ := p9 h; exact ⟨(by rw [put_ne (show 46 ≠ 44 by decide)]; exact hs), fun ht => by have ho := ho ht; exact (by rw [put_ne (show 46 ≠ 44 by decide)]; exact (owns_later ho hL4))⟩), (fun h => by obtain ⟨hs, ho⟩ := p10 h; exact ⟨(by rw [put_ne (show 47 ≠ 44 by decide)]; exact hs), fun ht => by have ho := ho ht; exact (by rw [put_ne (show 47 ≠ 44 by decide)]; exact (owns_later ho hL4))⟩), (fun h h' ht ht' => by rw [put_ne (show 39 ≠ 44 by decide), put_ne (show 41 ≠ 44 by decide)]; exact d2_4 h h' ht ht' ), (fun h h' ht ht' q hq => by rw [put_ne (show 39 ≠ 44 by decide)] at hq; rw [put_eq (by omega)]; have ho := (p2 h).2 ht; have h8 := ho.lt q hq; intro e; have h9 := (ho4.lt q e).1; omega), (fun h h' ht ht' => by rw [put_ne (show 39 ≠ 44 by decide), put_ne (show 46 ≠ 44 by decide)]; exact d2_9 h h' ht ht' ), (fun h h' ht ht' => by rw [put_ne (show 39 ≠ 44 by decide), put_ne (show 47 ≠ 44 by decide)]; exact d2_10 h h' ht ht' ), (fun h h' ht ht' q hq => by rw [put_ne (show 41 ≠ 44 by decide)] at hq; rw [put_eq (by omega)]; have ho := (p4 h).2 ht; have h8 := ho.lt q hq; intro e; have h9 := (ho4.lt q e).1; omega), (fun h h' ht ht' => by rw [put_ne (show 41 ≠ 44 by decide), put_ne (show 46 ≠ 44 by decide)]; exact d4_9 h h' ht ht' ), (fun h h' ht ht' => by rw [put_ne (show 41 ≠ 44 by decide), put_ne (show 47 ≠ 44 by decide)]; exact d4_10 h h' ht ht' ), (fun h h' ht ht' q hq => by rw [put_ne (show 42 ≠ 44 by decide)] at hq; rw [put_eq (by omega)]; have ho := (p5 h).2 ht; have h8 := ho.lt q hq; intro e; have h9 := (ho4.lt q e).1; omega), (fun h h' ht ht' => by rw [put_ne (show 42 ≠ 44 by decide), put_ne (show 46 ≠ 44 by decide)]; exact d5_9 h h' ht ht' ), (fun h h' ht ht' => by rw [put_ne (show 42 ≠ 44 by decide), put_ne (show 47 ≠ 44 by decide)]; exact d5_10 h h' ht ht' ), (fun h h' ht ht' q hq => by rw [put_eq (by omega)] at hq; rw [put_ne (show 46 ≠ 44 by decide)]; have ho := (p9 h').2 ht'; intro e; have h8 := ho.lt q e; have h9 := (ho4.lt q hq).1; omega), m5_2, m5_4, (fun _ => rfl), m10_9, m11_5, m11_10, Nat.le_trans hS hL4.size, (hL4.keep BE), (hL4.keep Bt), (fun h => (E0 h).trans hL4), (fun h => ⟨(E1 h).1.later hL4, (E1 h).2.later hL4⟩)⟩
         · refine qst fun g ac wc hn hk hr HI K' hK => ?_
           obtain ⟨x0, x1, x4, x7, x8, i0, i1, i3, i6, i8, i11, hL, p2, p4, p5, p7, p9, p10, d2_4, d2_7, d2_9, d2_10, d4_7, d4_9, d4_10, d5_7, d5_9, d5_10, d7_9, m5_2, m5_4, m10_7, m10_9, m11_5, m11_10, hS, BE, Bt, E0, E1⟩ := HI.out
           simp [Region.binds] at hr
           clear i0 i1 i3 i6 i8 i11 d2_4 d2_7 d2_9 d2_10 d4_7 d4_9 d4_10 d5_7 d5_9 d5_10 d7_9 p2 p4 p5 p7 p9 p10
           obtain ⟨c0, f0, z0⟩ := blk_at Bt
           go_simp
           obtain ⟨-, -, -, -, -, i0, i1, i3, i6, i8, i11, -, p2, p4, p5, p7, p9, p10, d2_4, d2_7, d2_9, d2_10, d4_7, d4_9, d4_10, d5_7, d5_9, d5_10, d7_9, -⟩ := HI.out
           exact hK.out _ _ ⟨qB x0, qB x1, qB x4, qB x7, qB x8, qF i0, qF i1, qF i3, qF i6, qP, qF i11, hL, (fun h => by obtain ⟨⟨hs, hv⟩, ho⟩ := p2 h; exact ⟨⟨by rw [put_ne (show 39 ≠ 45 by decide)]; exact hs, rfl⟩, fun ht => by have ho := ho ht; exact (by rw [put_ne (show 39 ≠ 45 by decide)]; exact ho)⟩), (fun h => by obtain ⟨hs, ho⟩ := p4 h; exact ⟨(by rw [put_ne (show 41 ≠ 45 by decide)]; exact hs), fun ht => by have ho := ho ht; exact (by rw [put_ne (show 41 ≠ 45 by decide)]; exact ho)⟩), (fun h => by obtain ⟨hs, ho⟩ := p5 h; exact ⟨(by rw [put_ne (show 42 ≠ 45 by decide)]; exact hs), fun ht => by have ho := ho ht; exact (by rw [put_ne (show 42 ≠ 45 by decide)]; exact ho)⟩), (fun h => by obtain ⟨⟨hs, hv⟩, ho⟩ := p7 h; exact ⟨⟨by rw [put_ne (show 44 ≠ 45 by decide)]; exact hs, rfl⟩, fun ht => by have ho := ho ht; exact (by rw [put_ne (show 44 ≠ 45 by decide)]; exact ho)⟩), (fun h => by obtain ⟨hs, ho⟩ := p9 h; exact ⟨(by rw [put_ne (show 46 ≠ 45 by decide)]; exact hs), fun ht => by have ho := ho ht; exact (by rw [put_ne (show 46 ≠ 45 by decide)]; exact ho)⟩), (fun h => by obtain ⟨hs, ho⟩ := p10 h; exact ⟨(by rw [put_ne (show 47 ≠ 45 by decide)]; exact hs), fun ht => by have ho := ho ht; exact (by rw [put_ne (show 47 ≠ 45 by decide)]; exact ho)⟩), (fun h h' ht ht' => by rw [put_ne (show 39 ≠ 45 by decide), put_ne (show 41 ≠ 45 by decide)]; exact d2_4 h h' ht ht' ), (fun h h' ht ht' => by rw [put_ne (show 39 ≠ 45 by decide), put_ne (show 44 ≠ 45 by decide)]; exact d2_7 h h' ht ht' ), (fun h h' ht ht' => by rw [put_ne (show 39 ≠ 45 by decide), put_ne (show 46 ≠ 45 by decide)]; exact d2_9 h h' ht ht' ), (fun h h' ht ht' => by rw [put_ne (show 39 ≠ 45 by decide), put_ne (show 47 ≠ 45 by decide)]; exact d2_10 h h' ht ht' ), (fun h h' ht ht' => by rw [put_ne (show 41 ≠ 45 by decide), put_ne (show 44 ≠ 45 by decide)]; exact d4_7 h h' ht ht' ), (fun h h' ht ht' => by rw [put_ne (show 41 ≠ 45 by decide), put_ne (show 46 ≠ 45 by decide)]; exact d4_9 h h' ht ht' ), (fun h h' ht ht' => by rw [put_ne (show 41 ≠ 45 by decide), put_ne (show 47 ≠ 45 by decide)]; exact d4_10 h h' ht ht' ), (fun h h' ht ht' => by rw [put_ne (show 42 ≠ 45 by decide), put_ne (show 44 ≠ 45 by decide)]; exact d5_7 h h' ht ht' ), (fun h h' ht ht' => by rw [put_ne (show 42 ≠ 45 by decide), put_ne (show 46 ≠ 45 by decide)]; exact d5_9 h h' ht ht' ), (fun h h' ht ht' => by rw [put_ne (show 42 ≠ 45 by decide), put_ne (show 47 ≠ 45 by decide)]; exact d5_10 h h' ht ht' ), (fun h h' ht ht' => by rw [put_ne (show 44 ≠ 45 by decide), put_ne (show 46 ≠ 45 by decide)]; exact d7_9 h h' ht ht' ), m5_2, m5_4, m10_7, m10_9, m11_5, m11_10, hS, BE, Bt, E0, E1⟩
         · refine qst fun g ac wc hn hk hr HI K' hK => ?_
           obtain ⟨x0, x1, x4, x7, x8, i0, i1, i3, i6, i8, i11, hL, p2, p4, p5, p7, p9, p10, d2_4, d2_7, d2_9, d2_10, d4_7, d4_9, d4_10, d5_7, d5_9, d5_10, d7_9, m5_2, m5_4, m10_7, m10_9, m11_5, m11_10, hS, BE, Bt, E0, E1⟩ := HI.out
           simp [Region.binds] at hr
           have y8 := i8 (by simp [hr])
           have z8 := sl_get y8 (by omega)
           clear i0 i1 i3 i6 i8 i11 d2_4 d2_7 d2_9 d2_10 d4_7 d4_9 d4_10 d5_7 d5_9 d5_10 d7_9 p2 p4 p5 p7 p9 p10
           go_simp
           have hL4 := (Later.refl wc).alloc (.cells #[.int .i64 td, .int .i64 tt, .bool false] 93)
           obtain ⟨-, -, -, -, -, i0, i1, i3, i6, i8, i11, -, p2, p4, p5, p7, p9, p10, d2_4, d2_7, d2_9, d2_10, d4_7, d4_9, d4_10, d5_7, d5_9, d5_10, d7_9, -⟩ := HI.out
           exact hK.out _ _ ⟨qB x0, qB x1, qB x4, qB x7, qB x8, qF i0, qF i1, qF i3, qF i6, qF i8, qF i11, hL.alloc _, (fun h => by obtain ⟨⟨hs, hv⟩, ho⟩ := p2 h; exact ⟨⟨by rw [put_ne (show 39 ≠ 46 by decide)]; exact hs, rfl⟩, fun ht => by have ho := ho ht; exact (by rw [put_ne (show 39 ≠ 46 by decide)]; exact (owns_later ho hL4))⟩), (fun h => by obtain ⟨hs, ho⟩ := p4 h; exact ⟨(by rw [put_ne (show 41 ≠ 46 by decide)]; exact hs), fun ht => by have ho := ho ht; exact (by rw [put_ne (show 41 ≠ 46 by decide)]; exact (owns_later ho hL4))⟩), (fun h => by obtain ⟨hs, ho⟩ := p5 h; exact ⟨(by rw [put_ne (show 42 ≠ 46 by decide)]; exact hs), fun ht => by have ho := ho ht; exact (by rw [put_ne (show 42 ≠ 46 by decide)]; exact (owns_later ho hL4))⟩), (fun h => by obtain ⟨⟨hs, hv⟩, ho⟩ := p7 h; exact ⟨⟨by rw [put_ne (show 44 ≠ 46 by decide)]; exact hs, rfl⟩, fun ht => by have ho := ho ht; exact (by rw [put_ne (show 44 ≠ 46 by decide)]; exact (owns_later ho hL4))⟩), (fun _ => ⟨⟨wc.heap.size, put_eq (by omega)⟩, fun _ => by rw [put_eq (by omega)]; exact World.ownsRow_lit wc #[.int .i64 td, .int .i64 tt, .bool false] 1 hS (by decide) (by simp)⟩), (fun h => by obtain ⟨hs, ho⟩ := p10 h; exact ⟨(by rw [put_ne (show 47 ≠ 46 by decide)]; exact hs), fun ht => by have ho := ho ht; exact (by rw [put_ne (show 47 ≠ 46 by decide)]; exact (owns_later ho hL4))⟩), (fun h h' ht ht' => by rw [put_ne (show 39 ≠ 46 by decide), put_ne (show 41 ≠ 46 by decide)]; exact d2_4 h h' ht ht' ), (fun h h' ht ht' => by rw [put_ne (show 39 ≠ 46 by decide), put_ne (show 44 ≠ 46 by decide)]; exact d2_7 h h' ht ht' ), (fun h h' ht ht' q hq => by rw [put_ne (show 39 ≠ 46 by decide)] at hq; rw [put_eq (by omega)]; have ho := (p2 h).2 ht; have := ho.lt q hq; simp [Value.ownBlock]; omega), (fun h h' ht ht' => by rw [put_ne (show 39 ≠ 46 by decide), put_ne (show 47 ≠ 46 by decide)]; exact d2_10 h h' ht ht' ), (fun h h' ht ht' => by rw [put_ne (show 41 ≠ 46 by decide), put_ne (show 44 ≠ 46 by decide)]; exact d4_7 h h' ht ht' ), (fun h h' ht ht' q hq => by rw [put_ne (show 41 ≠ 46 by decide)] at hq; rw [put_eq (by omega)]; have ho := (p4 h).2 ht; have := ho.lt q hq; simp [Value.ownBlock]; omega), (fun h h' ht ht' => by rw [put_ne (show 41 ≠ 46 by decide), put_ne (show 47 ≠ 46 by decide)]; exact d4_10 h h' ht ht' ), (fun h h' ht ht' => by rw [put_ne (show 42 ≠ 46 by decide), put_ne (show 44 ≠ 46 by decide)]; exact d5_7 h h' ht ht' ), (fun h h' ht ht' q hq => by rw [put_ne (show 42 ≠ 46 by decide)] at hq; rw [put_eq (by omega)]; have ho := (p5 h).2 ht; have := ho.lt q hq; simp [Value.ownBlock]; omega), (fun h h' ht ht' => by rw [put_ne (show 42 ≠ 46 by decide), put_ne (show 47 ≠ 46 by decide)]; exact d5_10 h h' ht ht' ), (fun h h' ht ht' q hq => by rw [put_ne (show 44 ≠ 46 by decide)] at hq; rw [put_eq (by omega)]; have ho := (p7 h).2 ht; have := ho.lt q hq; simp [Value.ownBlock]; omega), m5_2, m5_4, m10_7, (fun _ => rfl), m11_5, m11_10, (by simp; omega), (hL4.keep BE), (hL4.keep Bt), (fun h => (E0 h).trans hL4), (fun h => ⟨(E1 h).1.later hL4, (E1 h).2.later hL4⟩)⟩
         · refine qst fun g ac wc hn hk hr HI K' hK => ?_
           obtain ⟨x0, x1, x4, x7, x8, i0, i1, i3, i6, i8, i11, hL, p2, p4, p5, p7, p9, p10, d2_4, d2_7, d2_9, d2_10, d4_7, d4_9, d4_10, d5_7, d5_9, d5_10, d7_9, m5_2, m5_4, m10_7, m10_9, m11_5, m11_10, hS, BE, Bt, E0, E1⟩ := HI.out
           simp [Region.binds] at hr
           replace i0 := Lib.hid i0
           replace i1 := Lib.hid i1
           replace i3 := Lib.hid i3
           replace i6 := Lib.hid i6
           replace i8 := Lib.hid i8
           replace i11 := Lib.hid i11
           replace d2_4 := Lib.hid d2_4
           replace d2_7 := Lib.hid d2_7
           replace d2_9 := Lib.hid d2_9
           replace d2_10 := Lib.hid d2_10
           replace d4_7 := Lib.hid d4_7
           replace d4_9 := Lib.hid d4_9
           replace d4_10 := Lib.hid d4_10
           replace d5_7 := Lib.hid d5_7
           replace d5_9 := Lib.hid d5_9
           replace d5_10 := Lib.hid d5_10
           replace d7_9 := Lib.hid d7_9
           replace p2 := Lib.hid p2
           replace p4 := Lib.hid p4
           replace p5 := Lib.hid p5
           replace p7 := Lib.hid p7
           replace p9 := Lib.hid p9
           replace p10 := Lib.hid p10
           have gA : g 7 = true := (by simp [hr])
           obtain ⟨hsA, hoA⟩ := p7.out gA
           have hoA := hoA hk
           have gX : g 9 = true := (by simp [hr])
           obtain ⟨⟨kx, ex⟩, hoX⟩ := p9.out gX
           have hoX := hoX hk
           rw [ex] at hoX
           refine wpA_Term (.tmp 44) (.tmp 46) rfl z.heap.size (sl ac 44) (orderedL c o) rfl (own_len hoA (orderedL_len c o).symm) ⟨kx, 0, none⟩ 1 1 [(⟨⟨td, tt⟩, false⟩ : Trm)] ex rfl (row_add hoX) (by rw [orderedL_len]; simp; omega) hS ?_
           intro v4 w4 ho4 hg4 hat4
           rw [show (orderedL c o ++ [(⟨⟨td, tt⟩, false⟩ : Trm)]).length = o.length + 1 from by simp [orderedL_len]] at ho4
           have hL4 : Below z.heap.size wc w4 := Below.grown (Below.refl _ _) hg4 hS (fun k e => (hoA.lt k e).1)
           exact hK.out _ _ ⟨qB x0, qB x1, qB x4, qB x7, qB x8, qF i0.out, qF i1.out, qF i3.out, qF i6.out, qF i8.out, (fun h => absurd (m11_10 h) (by rw [hk]; simp)), Below.trans hL (hL4.mono hSB), (fun h => by obtain ⟨⟨hs, hv⟩, ho⟩ := p2.out h; exact ⟨⟨by rw [put_ne (show 39 ≠ 47 by decide)]; exact hs, rfl⟩, fun ht => by have ho := ho ht; have NE2 : ∀ k, (sl ac 39).ownBlock = some k → (sl ac 44).ownBlock ≠ some k := fun k e1 e2 => d2_7.out h gA ht hk k e1 e2; exact (by rw [put_ne (show 39 ≠ 47 by decide)]; exact (rows_grown ho hg4 NE2))⟩), (fun h => by obtain ⟨hs, ho⟩ := p4.out h; exact ⟨(by rw [put_ne (show 41 ≠ 47 by decide)]; exact hs), fun ht => by have ho := ho ht; have NE4 : ∀ k, (sl ac 41).ownBlock = some k → (sl ac 44).ownBlock ≠ some k := fun k e1 e2 => d4_7.out h gA ht hk k e1 e2; exact (by rw [put_ne (show 41 ≠ 47 by decide)]; exact (rows_grown ho hg4 NE4))⟩), (fun h => by obtain ⟨hs, ho⟩ := p5.out h; exact ⟨(by rw [put_ne (show 42 ≠ 47 by decide)]; exact hs), fun ht => by have ho := ho ht; have NE5 : ∀ k, (sl ac 42).ownBlock = some k → (sl ac 44).ownBlock ≠ some k := fun k e1 e2 => d5_7.out h gA ht hk k e1 e2; exact (by rw [put_ne (show 42 ≠ 47 by decide)]; exact (rows_grown ho hg4 NE5))⟩), (fun h => by obtain ⟨⟨hs, hv⟩, ho⟩ := p7.out h; exact ⟨⟨by rw [put_ne (show 44 ≠ 47 by decide)]; exact hs, rfl⟩, fun h => absurd h (by simp)⟩), (fun h => by obtain ⟨hs, ho⟩ := p9.out h; exact ⟨(by rw [put_ne (show 46 ≠ 47 by decide)]; exact hs), fun h => absurd h (by simp)⟩), (fun _ => ⟨by rw [put_eq (by omega)]; exact isSl_of ho4, fun _ => by rw [put_eq (by omega)]; exact ho4⟩), (fun h h' ht ht' => by rw [put_ne (show 39 ≠ 47 by decide), put_ne (show 41 ≠ 47 by decide)]; exact d2_4.out h h' ht ht' ), (fun h h' ht ht' => absurd ht' (by simp)), (fun h h' ht ht' => absurd ht' (by simp)), (fun h h' ht ht' q hq => by rw [put_ne (show 39 ≠ 47 by decide)] at hq; rw [put_eq (by omega)]; have ho := (p2.out h).2 ht; intro e0; have e := hq; rcases hat4 q e0 with e2 | e2; (· exact d2_7.out h gA ht hk q e e2); (· have := ho.lt q e; omega)), (fun h h' ht ht' => absurd ht' (by simp)), (fun h h' ht ht' => absurd ht' (by simp)), (fun h h' ht ht' q hq => by rw [put_ne (show 41 ≠ 47 by decide)] at hq; rw [put_eq (by omega)]; have ho := (p4.out h).2 ht; intro e0; have e := hq; rcases hat4 q e0 with e2 | e2; (· exact d4_7.out h gA ht hk q e e2); (· have := ho.lt q e; omega)), (fun h h' ht ht' => absurd ht' (by simp)), (fun h h' ht ht' => absurd ht' (by simp)), (fun h h' ht ht' q hq => by rw [put_ne (show 42 ≠ 47 by decide)] at hq; rw [put_eq (by omega)]; have ho := (p5.out h).2 ht; intro e0; have e := hq; rcases hat4 q e0 with e2 | e2; (· exact d5_7.out h gA ht hk q e e2); (· have := ho.lt q e; omega)), (fun h h' ht => absurd ht (by simp)), m5_2, m5_4, (fun _ => gA), (fun _ => gX), m11_5, (fun _ => rfl), Nat.le_trans hS hL4.size, ((hL4.block _ (by omega)).trans BE), ((hL4.block _ (by omega)).trans Bt), (fun h => Below.trans (E0 h) hL4), (fun h => absurd (m11_10 h) (by rw [hk]; simp))⟩
         · refine qst fun g ac wc hn hk hr HI K' hK => ?_
           obtain ⟨x0, x1, x4, x7, x8, i0, i1, i3, i6, i8, i11, hL, p2, p4, p5, p7, p9, p10, d2_4, d2_7, d2_9, d2_10, d4_7, d4_9, d4_10, d5_7, d5_9, d5_10, d7_9, m5_2, m5_4, m10_7, m10_9, m11_5, m11_10, hS, BE, Bt, E0, E1⟩ := HI.out
           simp [Region.binds] at hr
           have y0 := i0 (by simp [hr])
           have gm5 : g 5 = true := by first | exact m11_5 (by simp [hr]) | exact hr | exact hr.1 | exact hr.2 | exact hr.2.1 | simp [hr]
           have gm10 : g 10 = true := by first | exact m11_10 (by simp [hr]) | exact hr | exact hr.1 | exact hr.2 | exact hr.2.1 | simp [hr]
           obtain ⟨⟨aa5, cc5, y5⟩, ho5⟩ := p5 (by simp [hr])
           have ho5 := ho5 hk
           rw [y5] at ho5
           have z5 := sl_get y5 (by omega)
           obtain ⟨⟨aa10, cc10, y10⟩, ho10⟩ := p10 (by simp [hr])
           have ho10 := ho10 hk
           rw [y10] at ho10
           have z10 := sl_get y10 (by omega)
           have hold := E0 hk
           clear i0 i1 i3 i6 i8 i11 d2_4 d2_7 d2_9 d2_10 d4_7 d4_9 d4_10 d5_7 d5_9 d5_10 d7_9 p2 p4 p5 p7 p9 p10
           go_simp
           refine (HIH.out (o ++ [((k : Nat) : Int)]) aa5 aa10 (o.length + 1) cc5 cc10 wc SX (by simp) (by have := HLn.out; rw [List.length_append]; simp; omega) HGn.out (HLz0.out.trans hold) (HEz.out.later hold) (HBz.out.later hold) (owns_base ho5 HBs.out) (by rw [HOs.out]; exact owns_base ho10 HBs.out) (fun h => absurd h (by simp)) (Nat.le_trans HBs.out hS)).mono ?_
           rintro e w4 ⟨rfl, hB4, hX4⟩
           obtain ⟨-, -, -, -, -, i0, i1, i3, i6, i8, i11, -, p2, p4, p5, p7, p9, p10, d2_4, d2_7, d2_9, d2_10, d4_7, d4_9, d4_10, d5_7, d5_9, d5_10, d7_9, -⟩ := HI.out
           exact hK.out _ _ ⟨qB x0, qB x1, qB x4, qB x7, qB x8, qF i0, qF i1, qF i3, qF i6, qF i8, qP, (hL.ex' hX4 (fun j h => by rcases h with h | h <;> omega)), (fun h => by obtain ⟨⟨hs, hv⟩, ho⟩ := p2 h; exact ⟨⟨by rw [put_ne (show 39 ≠ 48 by decide)]; exact hs, rfl⟩, fun ht => absurd gm5 (by rw [show g 5 = false from ht]; simp)⟩), (fun h => by obtain ⟨hs, ho⟩ := p4 h; exact ⟨(by rw [put_ne (show 41 ≠ 48 by decide)]; exact hs), fun ht => absurd gm5 (by rw [show g 5 = false from ht]; simp)⟩), (fun h => by obtain ⟨hs, ho⟩ := p5 h; exact ⟨(by rw [put_ne (show 42 ≠ 48 by decide)]; exact hs), fun h => absurd h (by simp)⟩), (fun h => by obtain ⟨⟨hs, hv⟩, ho⟩ := p7 h; exact ⟨⟨by rw [put_ne (show 44 ≠ 48 by decide)]; exact hs, rfl⟩, fun ht => absurd gm10 (by rw [show g 10 = false from ht]; simp)⟩), (fun h => by obtain ⟨hs, ho⟩ := p9 h; exact ⟨(by rw [put_ne (show 46 ≠ 48 by decide)]; exact hs), fun ht => absurd gm10 (by rw [show g 10 = false from ht]; simp)⟩), (fun h => by obtain ⟨hs, ho⟩ := p10 h; exact ⟨(by rw [put_ne (show 47 ≠ 48 by decide)]; exact hs), fun h => absurd h (by simp)⟩), (fun h h' ht ht' => by rw [put_ne (show 39 ≠ 48 by decide), put_ne (show 41 ≠ 48 by decide)]; exact d2_4 h h' ht ht' ), (fun h h' ht ht' => by rw [put_ne (show 39 ≠ 48 by decide), put_ne (show 44 ≠ 48 by decide)]; exact d2_7 h h' ht ht' ), (fun h h' ht ht' => by rw [put_ne (show 39 ≠ 48 by decide), put_ne (show 46 ≠ 48 by decide)]; exact d2_9 h h' ht ht' ), (fun h h' ht ht' => absurd ht' (by simp)), (fun h h' ht ht' => by rw [put_ne (show 41 ≠ 48 by decide), put_ne (show 44 ≠ 48 by decide)]; exact d4_7 h h' ht ht' ), (fun h h' ht ht' => by rw [put_ne (show 41 ≠ 48 by decide), put_ne (show 46 ≠ 48 by decide)]; exact d4_9 h h' ht ht' ), (fun h h' ht ht' => absurd ht' (by simp)), (fun h h' ht => absurd ht (by simp)), (fun h h' ht => absurd ht (by simp)), (fun h h' ht => absurd ht (by simp)), (fun h h' ht ht' => by rw [put_ne (show 44 ≠ 48 by decide), put_ne (show 46 ≠ 48 by decide)]; exact d7_9 h h' ht ht' ), m5_2, m5_4, m10_7, m10_9, (fun _ => gm5), (fun _ => gm10), Nat.le_trans hS hX4.size, (hX4.keep BE q3), (hX4.keep Bt (by rintro (h | h) <;> omega)), (fun h => absurd h (by simp)), (fun _ => ⟨hB4, (Ex.of hold).trans hX4⟩)⟩
     · clear he
       have hb0 : ((o.length : Int) == 0) = false := by rw [beq_eq_false_iff_ne]; omega
       clear hl0
       go_wp2_with fail
       refine (w_containsInt _ _ _ _ (HOr.out.later ((Later.refl _).alloc _))).mono ?_
       rintro e w1 ⟨rfl, rfl⟩
       rw [HH.out]
       go_wp2_with fail
       refine wp_name ?_
       intro z hz
       have hLz : Later wr z := by rw [hz]; exact (Later.refl _).alloc _
       have Kt : z.heap[wr.heap.size]? = some (.cells #[.int .i64 td, .int .i64 tt, .bool tdv] 93 (0, 0)) := by rw [hz]; exact heap_alloc_new _ _
       obtain ⟨kt, hkt⟩ : ∃ x, wr.heap.size = x := ⟨_, rfl⟩
       rw [hkt] at Kt ⊢
       have HLz0 := Lib.hid (HLr.out.trans hLz)
       have HEz := Lib.hid (HEr.out.later hLz)
       have HBz := Lib.hid (HBx.out.later hLz)
       have HXz := Lib.hid (HX.out.later hLz)
       have HOr := Lib.hid (HOr.out.later hLz)
       have HTr := Lib.hid (HTr.out.later hLz)
       have KE := HEz.out.cE
       have lt0 := (Array.getElem?_eq_some_iff.1 KE).1
       have lt1 := (Array.getElem?_eq_some_iff.1 Kt).1
       have hL0 := HLz0.out
       have hSB := hL0.size
       have hbz : base ≤ z.heap.size := by have := hLz.size; omega
       have HBs := Lib.hid hbz
       have ktb : base ≤ kt := by omega
       obtain ⟨ST0, hST0⟩ : ∃ x, ST = x := ⟨_, rfl⟩
       clear hz hLz hkt c1_0 c1_1 c1_2 hbr
       refine region_slots 50 [37, 38, 39, 40, 41, 42, 43, 44, 45, 46, 47, 48] (fun g ac wc => sl ac 0 = .slice ao o.length capo ∧
        sl ac 1 = .slice at' o.length capt ∧
        sl ac 4 = .pointer (some ⟨kE, 0, none⟩) ∧
        sl ac 7 = .int .i64 ((k : Nat) : Int) ∧
        sl ac 8 = .pointer (some ⟨kt, 0, none⟩) ∧
        (g 0 = true → sl ac 37 = .func (.func 173) #[] #[.pointer (some ⟨kC, 0, none⟩), .pointer (some ⟨kA, 0, none⟩), .pointer (some ⟨kE, 0, none⟩)]) ∧
        (g 1 = true → sl ac 38 = .slice ao o.length capo) ∧
        (g 3 = true → sl ac 40 = .int .i64 ((k : Nat) : Int)) ∧
        (g 6 = true → sl ac 43 = .slice at' o.length capt) ∧
        (g 8 = true → sl ac 45 = .agg #[.int .i64 td, .int .i64 tt, .bool tdv]) ∧
        (g 11 = true → sl ac 48 = .tuple #[]) ∧
        Later w0 wc ∧
        (g 2 = true → (IsSl (sl ac 39) (o.length) ∧ sl ac 39 = sl ac 39) ∧ (g 5 = false → wc.ownsRow z.heap.size 2 1 (sl ac 39) (o.length) (nums o))) ∧
        (g 4 = true → (∃ k, sl ac 41 = .slice (some ⟨k, 0, none⟩) 1 1) ∧ (g 5 = false → wc.ownsRow z.heap.size 2 1 (sl ac 41) (1) (nums [((k : Nat) : Int)]))) ∧
        (g 5 = true → (IsSl (sl ac 42) (o.length + 1)) ∧ (g 11 = false → wc.ownsRow z.heap.size 2 1 (sl ac 42) (o.length + 1) (nums (o ++ [((k : Nat) : Int)])))) ∧
        (g 7 = true → (IsSl (sl ac 44) (o.length) ∧ sl ac 44 = sl ac 44) ∧ (g 10 = false → wc.ownsRow z.heap.size 93 3 (sl ac 44) (o.length) (trms (orderedL c o)))) ∧
        (g 9 = true → (∃ k, sl ac 46 = .slice (some ⟨k, 0, none⟩) 1 1) ∧ (g 10 = false → wc.ownsRow z.heap.size 93 3 (sl ac 46) (1) (trms [(⟨⟨td, tt⟩, tdv⟩ : Trm)]))) ∧
        (g 10 = true → (IsSl (sl ac 47) (o.length + 1)) ∧ (g 11 = false → wc.ownsRow z.heap.size 93 3 (sl ac 47) (o.length + 1) (trms (orderedL c o ++ [(⟨⟨td, tt⟩, tdv⟩ : Trm)])))) ∧
        (g 2 = true → g 4 = true → g 5 = false → g 5 = false → ∀ q, (sl ac 39).ownBlock = some q → (sl ac 41).ownBlock ≠ some q) ∧
        (g 2 = true → g 7 = true → g 5 = false → g 10 = false → ∀ q, (sl ac 39).ownBlock = some q → (sl ac 44).ownBlock ≠ some q) ∧
        (g 2 = true → g 9 = true → g 5 = false → g 10 = false → ∀ q, (sl ac 39).ownBlock = some q → (sl ac 46).ownBlock ≠ some q) ∧
        (g 2 = true → g 10 = true → g 5 = false → g 11 = false → ∀ q, (sl ac 39).ownBlock = some q → (sl ac 47).ownBlock ≠ some q) ∧
        (g 4 = true → g 7 = true → g 5 = false → g 10 = false → ∀ q, (sl ac 41).ownBlock = some q → (sl ac 44).ownBlock ≠ some q) ∧
        (g 4 = true → g 9 = true → g 5 = false → g 10 = false → ∀ q, (sl ac 41).ownBlock = some q → (sl ac 46).ownBlock ≠ some q) ∧
        (g 4 = true → g 10 = true → g 5 = false → g 11 = false → ∀ q, (sl ac 41).ownBlock = some q → (sl ac 47).ownBlock ≠ some q) ∧
        (g 5 = true → g 7 = true → g 11 = false → g 10 = false → ∀ q, (sl ac 42).ownBlock = some q → (sl ac 44).ownBlock ≠ some q) ∧
        (g 5 = true → g 9 = true → g 11 = false → g 10 = false → ∀ q, (sl ac 42).ownBlock = some q → (sl ac 46).ownBlock ≠ some q) ∧
        (g 5 = true → g 10 = true → g 11 = false → g 11 = false → ∀ q, (sl ac 42).ownBlock = some q → (sl ac 47).ownBlock ≠ some q) ∧
        (g 7 = true → g 9 = true → g 10 = false → g 10 = false → ∀ q, (sl ac 44).ownBlock = some q → (sl ac 46).ownBlock ≠ some q) ∧
        (g 5 = true → g 2 = true) ∧
        (g 5 = true → g 4 = true) ∧
        (g 10 = true → g 7 = true) ∧
        (g 10 = true → g 9 = true) ∧
        (g 11 = true → g 5 = true) ∧
        (g 11 = true → g 10 = true) ∧
        z.heap.size ≤ wc.heap.size ∧
        wc.heap[kE]? = some (.cells #[.func (.func 173) #[] #[.pointer (some ⟨kC, 0, none⟩), .pointer (some ⟨kA, 0, none⟩), .pointer (some ⟨kE, 0, none⟩)]] 122 (0, 0)) ∧
        wc.heap[kt]? = some (.cells #[.int .i64 td, .int .i64 tt, .bool tdv] 93 (0, 0)) ∧
        (g 11 = false → Later z wc) ∧
        (g 11 = true → BestSt wc kL kB base0 ((lvs c m (o ++ [((k : Nat) : Int)])).foldl (updO (costU n c ⟨ea, eb, ec⟩)) SX) ∧ Ex (Two kL kB) z wc)) (by kernel_rfl) (by kernel_rfl) rfl (by kernel_rfl) ?_ ?_ ?_
       · exact ⟨rfl, rfl, rfl, rfl, rfl, nofun, nofun, nofun, nofun, nofun, nofun, hL0.drew, nofun, nofun, nofun, nofun, nofun, nofun, nofun, nofun, nofun, nofun, nofun, nofun, nofun, nofun, nofun, nofun, nofun, nofun, nofun, nofun, nofun, nofun, nofun, Nat.le_refl _, KE, Kt, fun _ => (Later.refl _).drew, nofun⟩
       · intro g ac wu hg ha hI
         obtain ⟨x0, x1, x4, x7, x8, i0, i1, i3, i6, i8, i11, hL, p2, p4, p5, p7, p9, p10, -, -, -, -, -, -, -, -, -, -, -, -, -, -, -, -, -, hS, BE, Bt, -, E1⟩ := hI
         replace E1 := E1 (hg 11 (by simp))
         obtain ⟨⟨⟨ar2, capr2, f2⟩, e2⟩, -⟩ := p2 (hg 2 (by simp))
         clear e2
         have e2 := f2
         obtain ⟨⟨kr4, e4⟩, -⟩ := p4 (hg 4 (by simp))
         obtain ⟨⟨ar5, capr5, e5⟩, -⟩ := p5 (hg 5 (by simp))
         obtain ⟨⟨⟨ar7, capr7, f7⟩, e7⟩, -⟩ := p7 (hg 7 (by simp))
         clear e7
         have e7 := f7
         obtain ⟨⟨kr9, e9⟩, -⟩ := p9 (hg 9 (by simp))
         obtain ⟨⟨ar10, capr10, e10⟩, -⟩ := p10 (hg 10 (by simp))
         have a0 := i0 (hg 0 (by simp))
         have a1 := i1 (hg 1 (by simp))
         have a3 := i3 (hg 3 (by simp))
         have a6 := i6 (hg 6 (by simp))
         have a8 := i8 (hg 8 (by simp))
         have a11 := i11 (hg 11 (by simp))
         simp only [putAll, e2, e4, e5, e7, e9, e10, a0, a1, a3, a6, a8, a11] at ha
         simp only [Act.put, List.setIfInBounds_toArray, List.set_cons_succ, List.set_cons_zero] at ha
         rw [ha]
         clear x0 x1 x4 x7 x8 i0 i1 i3 i6 i8 i11 a0 a1 a3 a6 a8 a11 p2 p4 p5 p7 p9 p10 e2 e4 e5 e7 e9 e10 f2 f7 hg ha
         have HE1 := Lib.hid E1
         have HXn := Lib.hid (HXz.out.trans E1.2)
         clear hL hS BE Bt E1
         go_wp2
         go_roundw
         case rel => exact ⟨k + 1, rfl, by omega, HXn.out, by rw [Hid, HN.out]; exact HE1.out.1⟩
         case measure => simp [intOf]; omega
       · refine .cons ?_ (.cons ?_ (.cons ?_ (.cons ?_ (.cons ?_ (.cons ?_ (.cons ?_ (.cons ?_ (.cons ?_ (.cons ?_ (.cons ?_ (.cons ?_ .nil)))))))))))
         · refine qst fun g ac wc hn hk hr HI K' hK => ?_
           obtain ⟨x0, x1, x4, x7, x8, i0, i1, i3, i6, i8, i11, hL, p2, p4, p5, p7, p9, p10, d2_4, d2_7, d2_9, d2_10, d4_7, d4_9, d4_10, d5_7, d5_9, d5_10, d7_9, m5_2, m5_4, m10_7, m10_9, m11_5, m11_10, hS, BE, Bt, E0, E1⟩ := HI.out
           simp [Region.binds] at hr
           clear i0 i1 i3 i6 i8 i11 d2_4 d2_7 d2_9 d2_10 d4_7 d4_9 d4_10 d5_7 d5_9 d5_10 d7_9 p2 p4 p5 p7 p9 p10
           obtain ⟨c0, f0, z0⟩ := blk_at BE
           go_simp
           obtain ⟨-, -, -, -, -, i0, i1, i3, i6, i8, i11, -, p2, p4, p5, p7, p9, p10, d2_4, d2_7, d2_9, d2_10, d4_7, d4_9, d4_10, d5_7, d5_9, d5_10, d7_9, -⟩ := HI.out
           exact hK.out _ _ ⟨qB x0, qB x1, qB x4, qB x7, qB x8, qP, qF i1, qF i3, qF i6, qF i8, qF i11, hL, (fun h => by obtain ⟨⟨hs, hv⟩, ho⟩ := p2 h; exact ⟨⟨by rw [put_ne (show 39 ≠ 37 by decide)]; exact hs, rfl⟩, fun ht => by have ho := ho ht; exact (by rw [put_ne (show 39 ≠ 37 by decide)]; exact ho)⟩), (fun h => by obtain ⟨hs, ho⟩ := p4 h; exact ⟨(by rw [put_ne (show 41 ≠ 37 by decide)]; exact hs), fun ht => by have ho := ho ht; exact (by rw [put_ne (show 41 ≠ 37 by decide)]; exact ho)⟩), (fun h => by obtain ⟨hs, ho⟩ := p5 h; exact ⟨(by rw [put_ne (show 42 ≠ 37 by decide)]; exact hs), fun ht => by have ho := ho ht; exact (by rw [put_ne (show 42 ≠ 37 by decide)]; exact ho)⟩), (fun h => by obtain ⟨⟨hs, hv⟩, ho⟩ := p7 h; exact ⟨⟨by rw [put_ne (show 44 ≠ 37 by decide)]; exact hs, rfl⟩, fun ht => by have ho := ho ht; exact (by rw [put_ne (show 44 ≠ 37 by decide)]; exact ho)⟩), (fun h => by obtain ⟨hs, ho⟩ := p9 h; exact ⟨(by rw [put_ne (show 46 ≠ 37 by decide)]; exact hs), fun ht => by have ho := ho ht; exact (by rw [put_ne (show 46 ≠ 37 by decide)]; exact ho)⟩), (fun h => by obtain ⟨hs, ho⟩ := p10 h; exact ⟨(by rw [put_ne (show 47 ≠ 37 by decide)]; exact hs), fun ht => by have ho := ho ht; exact (by rw [put_ne (show 47 ≠ 37 by decide)]; exact ho)⟩), (fun h h' ht ht' => by rw [put_ne (show 39 ≠ 37 by decide), put_ne (show 41 ≠ 37 by decide)]; exact d2_4 h h' ht ht' ), (fun h h' ht ht' => by rw [put_ne (show 39 ≠ 37 by decide), put_ne (show 44 ≠ 37 by decide)]; exact d2_7 h h' ht ht' ), (fun h h' ht ht' => by rw [put_ne (show 39 ≠ 37 by decide), put_ne (show 46 ≠ 37 by decide)]; exact d2_9 h h' ht ht' ), (fun h h' ht ht' => by rw [put_ne (show 39 ≠ 37 by decide), put_ne (show 47 ≠ 37 by decide)]; exact d2_10 h h' ht ht' ), (fun h h' ht ht' => by rw [put_ne (show 41 ≠ 37 by decide), put_ne (show 44 ≠ 37 by decide)]; exact d4_7 h h' ht ht' ), (fun h h' ht ht' => by rw [put_ne (show 41 ≠ 37 by decide), put_ne (show 46 ≠ 37 by decide)]; exact d4_9 h h' ht ht' ), (fun h h' ht ht' => by rw [put_ne (show 41 ≠ 37 by decide), put_ne (show 47 ≠ 37 by decide)]; exact d4_10 h h' ht ht' ), (fun h h' ht ht' => by rw [put_ne (show 42 ≠ 37 by decide), put_ne (show 44 ≠ 37 by decide)]; exact d5_7 h h' ht ht' ), (fun h h' ht ht' => by rw [put_ne (show 42 ≠ 37 by decide), put_ne (show 46 ≠ 37 by decide)]; exact d5_9 h h' ht ht' ), (fun h h' ht ht' => by rw [put_ne (show 42 ≠ 37 by decide), put_ne (show 47 ≠ 37 by decide)]; exact d5_10 h h' ht ht' ), (fun h h' ht ht' => by rw [put_ne (show 44 ≠ 37 by decide), put_ne (show 46 ≠ 37 by decide)]; exact d7_9 h h' ht ht' ), m5_2, m5_4, m10_7, m10_9, m11_5, m11_10, hS, BE, Bt, E0, E1⟩
         · refine qst fun g ac wc hn hk hr HI K' hK => ?_
           obtain ⟨x0, x1, x4, x7, x8, i0, i1, i3, i6, i8, i11, hL, p2, p4, p5, p7, p9, p10, d2_4, d2_7, d2_9, d2_10, d4_7, d4_9, d4_10, d5_7, d5_9, d5_10, d7_9, m5_2, m5_4, m10_7, m10_9, m11_5, m11_10, hS, BE, Bt, E0, E1⟩ := HI.out
           simp [Region.binds] at hr
           clear i0 i1 i3 i6 i8 i11 d2_4 d2_7 d2_9 d2_10 d4_7 d4_9 d4_10 d5_7 d5_9 d5_10 d7_9 p2 p4 p5 p7 p9 p10
           go_simp
           obtain ⟨-, -, -, -, -, i0, i1, i3, i6, i8, i11, -, p2, p4, p5, p7, p9, p10, d2_4, d2_7, d2_9, d2_10, d4_7, d4_9, d4_10, d5_7, d5_9, d5_10, d7_9, -⟩ := HI.out
           exact hK.out _ _ ⟨qB x0, qB x1, qB x4, qB x7, qB x8, qF i0, qP, qF i3, qF i6, qF i8, qF i11, hL, (fun h => by obtain ⟨⟨hs, hv⟩, ho⟩ := p2 h; exact ⟨⟨by rw [put_ne (show 39 ≠ 38 by decide)]; exact hs, rfl⟩, fun ht => by have ho := ho ht; exact (by rw [put_ne (show 39 ≠ 38 by decide)]; exact ho)⟩), (fun h => by obtain ⟨hs, ho⟩ := p4 h; exact ⟨(by rw [put_ne (show 41 ≠ 38 by decide)]; exact hs), fun ht => by have ho := ho ht; exact (by rw [put_ne (show 41 ≠ 38 by decide)]; exact ho)⟩), (fun h => by obtain ⟨hs, ho⟩ := p5 h; exact ⟨(by rw [put_ne (show 42 ≠ 38 by decide)]; exact hs), fun ht => by have ho := ho ht; exact (by rw [put_ne (show 42 ≠ 38 by decide)]; exact ho)⟩), (fun h => by obtain ⟨⟨hs, hv⟩, ho⟩ := p7 h; exact ⟨⟨by rw [put_ne (show 44 ≠ 38 by decide)]; exact hs, rfl⟩, fun ht => by have ho := ho ht; exact (by rw [put_ne (show 44 ≠ 38 by decide)]; exact ho)⟩), (fun h => by obtain ⟨hs, ho⟩ := p9 h; exact ⟨(by rw [put_ne (show 46 ≠ 38 by decide)]; exact hs), fun ht => by have ho := ho ht; exact (by rw [put_ne (show 46 ≠ 38 by decide)]; exact ho)⟩), (fun h => by obtain ⟨hs, ho⟩ := p10 h; exact ⟨(by rw [put_ne (show 47 ≠ 38 by decide)]; exact hs), fun ht => by have ho := ho ht; exact (by rw [put_ne (show 47 ≠ 38 by decide)]; exact ho)⟩), (fun h h' ht ht' => by rw [put_ne (show 39 ≠ 38 by decide), put_ne (show 41 ≠ 38 by decide)]; exact d2_4 h h' ht ht' ), (fun h h' ht ht' => by rw [put_ne (show 39 ≠ 38 by decide), put_ne (show 44 ≠ 38 by decide)]; exact d2_7 h h' ht ht' ), (fun h h' ht ht' => by rw [put_ne (show 39 ≠ 38 by decide), put_ne (show 46 ≠ 38 by decide)]; exact d2_9 h h' ht ht' ), (fun h h' ht ht' => by rw [put_ne (show 39 ≠ 38 by decide), put_ne (show 47 ≠ 38 by decide)]; exact d2_10 h h' ht ht' ), (fun h h' ht ht' => by rw [put_ne (show 41 ≠ 38 by decide), put_ne (show 44 ≠ 38 by decide)]; exact d4_7 h h' ht ht' ), (fun h h' ht ht' => by rw [put_ne (show 41 ≠ 38 by decide), put_ne (show 46 ≠ 38 by decide)]; exact d4_9 h h' ht ht' ), (fun h h' ht ht' => by rw [put_ne (show 41 ≠ 38 by decide), put_ne (show 47 ≠ 38 by decide)]; exact d4_10 h h' ht ht' ), (fun h h' ht ht' => by rw [put_ne (show 42 ≠ 38 by decide), put_ne (show 44 ≠ 38 by decide)]; exact d5_7 h h' ht ht' ), (fun h h' ht ht' => by rw [put_ne (show 42 ≠ 38 by decide), put_ne (show 46 ≠ 38 by decide)]; exact d5_9 h h' ht ht' ), (fun h h' ht ht' => by rw [put_ne (show 42 ≠ 38 by decide), put_ne (show 47 ≠ 38 by decide)]; exact d5_10 h h' ht ht' ), (fun h h' ht ht' => by rw [put_ne (show 44 ≠ 38 by decide), put_ne (show 46 ≠ 38 by decide)]; exact d7_9 h h' ht ht' ), m5_2, m5_4, m10_7, m10_9, m11_5, m11_10, hS, BE, Bt, E0, E1⟩
         · refine qst fun g ac wc hn hk hr HI K' hK => ?_
           obtain ⟨x0, x1, x4, x7, x8, i0, i1, i3, i6, i8, i11, hL, p2, p4, p5, p7, p9, p10, d2_4, d2_7, d2_9, d2_10, d4_7, d4_9, d4_10, d5_7, d5_9, d5_10, d7_9, m5_2, m5_4, m10_7, m10_9, m11_5, m11_10, hS, BE, Bt, E0, E1⟩ := HI.out
           simp [Region.binds] at hr
           have y1 := i1 (by simp [hr])
           have hst : g 11 = false := by
            cases hq : g 11 with
            | false => rfl
            | true =>
             have hh := m5_2 (m11_5 hq)
             rw [hk] at hh
             cases hh
           have hold := E0 hst
           clear i0 i1 i3 i6 i8 i11 d2_4 d2_7 d2_9 d2_10 d4_7 d4_9 d4_10 d5_7 d5_9 d5_10 d7_9 p2 p4 p5 p7 p9 p10
           go_simp
           refine (w_cloneIntS ao o.length capo o _ (HOr.out.later hold) HNo.out).mono ?_
           rintro e w4 ⟨a4, l4, c4, rfl, hL4, ho4⟩
           obtain ⟨a5, c5, e5⟩ := isSl_of ho4
           simp only [Value.slice.injEq] at e5
           obtain ⟨rfl, rfl, rfl⟩ := e5
           obtain ⟨-, -, -, -, -, i0, i1, i3, i6, i8, i11, -, p2, p4, p5, p7, p9, p10, d2_4, d2_7, d2_9, d2_10, d4_7, d4_9, d4_10, d5_7, d5_9, d5_10, d7_9, -⟩ := HI.out
           exact hK.out _ _ ⟨qB x0, qB x1, qB x4, qB x7, qB x8, qF i0, qF i1, qF i3, qF i6, qF i8, qF i11, hL.trans hL4, (fun _ => ⟨⟨by rw [put_eq (by omega)]; exact ⟨_, _, rfl⟩, rfl⟩, fun _ => by rw [put_eq (by omega)]; exact owns_base ho4 hS⟩), (fun h => by obtain ⟨hs, ho⟩ := p4 h; exact ⟨(by rw [put_ne (show 41 ≠ 39 by decide)]; exact hs), fun ht => by have ho := ho ht; exact (by rw [put_ne (show 41 ≠ 39 by decide)]; exact (owns_later ho hL4))⟩), (fun h => by obtain ⟨hs, ho⟩ := p5 h; exact ⟨(by rw [put_ne (show 42 ≠ 39 by decide)]; exact hs), fun ht => by have ho := ho ht; exact (by rw [put_ne (show 42 ≠ 39 by decide)]; exact (owns_later ho hL4))⟩), (fun h => by obtain ⟨⟨hs, hv⟩, ho⟩ := p7 h; exact ⟨⟨by rw [put_ne (show 44 ≠ 39 by decide)]; exact hs, rfl⟩, fun ht => by have ho := ho ht; exact (by rw [put_ne (show 44 ≠ 39 by decide)]; exact (owns_later ho hL4))⟩), (fun h => by obtain ⟨hs, ho⟩ := p9 h; exact ⟨(by rw [put_ne (show 46 ≠ 39 by decide)]; exact hs), fun ht => by have ho := ho ht; exact (by rw [put_ne (show 46 ≠ 39 by decide)]; exact (owns_later ho hL4))⟩), (fun h => by obtain ⟨hs, ho⟩ := p10 h; exact ⟨(by rw [put_ne (show 47 ≠ 39 by decide)]; exact hs), fun ht => by have ho := ho ht; exact (by rw [put_ne (show 47 ≠ 39 by decide)]; exact (owns_later ho hL4))⟩), (fun h h' ht ht' q hq => by rw [put_eq (by omega)] at hq; rw [put_ne (show 41 ≠ 39 by decide)]; have ho := (p4 h').2 ht'; intro e; have h8 := ho.lt q e; have h9 := (ho4.lt q hq).1; omega), (fun h h' ht ht' q hq => by rw [put_eq (by omega)] at hq; rw [put_ne (show 44 ≠ 39 by decide)]; have ho := (p7 h').2 ht'; intro e; have h8 := ho.lt q e; have h9 := (ho4.lt q hq).1; omega), (fun h h' ht ht' q hq => by rw [put_eq (by omega)] at hq; rw [put_ne (show 46 ≠ 39 by decide)]; have ho := (p9 h').2 ht'; intro e; have h8 := ho.lt q e; have h9 := (ho4.lt q hq).1; omega), (fun h h' ht ht' q hq => by rw [put_eq (by omega)] at hq; rw [put_ne (show 47 ≠ 39 by decide)]; have ho := (p10 h').2 ht'; intro e; have h8 := ho.lt q e; have h9 := (ho4.lt q hq).1; omega), (fun h h' ht ht' => by rw [put_ne (show 41 ≠ 39 by decide), put_ne (show 44 ≠ 39 by decide)]; exact d4_7 h h' ht ht' ), (fun h h' ht ht' => by rw [put_ne (show 41 ≠ 39 by decide), put_ne (show 46 ≠ 39 by decide)]; exact d4_9 h h' ht ht' ), (fun h h' ht ht' => by rw [put_ne (show 41 ≠ 39 by decide), put_ne (show 47 ≠ 39 by decide)]; exact d4_10 h h' ht ht' ), (fun h h' ht ht' => by rw [put_ne (show 42 ≠ 39 by decide), put_ne (show 44 ≠ 39 by decide)]; exact d5_7 h h' ht ht' ), (fun h h' ht ht' => by rw [put_ne (show 42 ≠ 39 by decide), put_ne (show 46 ≠ 39 by decide)]; exact d5_9 h h' ht ht' ), (fun h h' ht ht' => by rw [put_ne (show 42 ≠ 39 by decide), put_ne (show 47 ≠ 39 by decide)]; exact d5_10 h h' ht ht' ), (fun h h' ht ht' => by rw [put_ne (show 44 ≠ 39 by decide), put_ne (show 46 ≠ 39 by decide)]; exact d7_9 h h' ht ht' ), (fun _ => rfl), m5_4, m10_7, m10_9, m11_5, m11_10, Nat.le_trans hS hL4.size, (hL4.keep BE), (hL4.keep Bt), (fun h => (E0 h).trans hL4), (fun h => ⟨(E1 h).1.later hL4, (E1 h).2.later hL4⟩)⟩
         · refine qst fun g ac wc hn hk hr HI K' hK => ?_
           obtain ⟨x0, x1, x4, x7, x8, i0, i1, i3, i6, i8, i11, hL, p2, p4, p5, p7, p9, p10, d2_4, d2_7, d2_9, d2_10, d4_7, d4_9, d4_10, d5_7, d5_9, d5_10, d7_9, m5_2, m5_4, m10_7, m10_9, m11_5, m11_10, hS, BE, Bt, E0, E1⟩ := HI.out
           simp [Region.binds] at hr
           clear i0 i1 i3 i6 i8 i11 d2_4 d2_7 d2_9 d2_10 d4_7 d4_9 d4_10 d5_7 d5_9 d5_10 d7_9 p2 p4 p5 p7 p9 p10
           go_simp
           obtain ⟨-, -, -, -, -, i0, i1, i3, i6, i8, i11, -, p2, p4, p5, p7, p9, p10, d2_4, d2_7, d2_9, d2_10, d4_7, d4_9, d4_10, d5_7, d5_9, d5_10, d7_9, -⟩ := HI.out
           exact hK.out _ _ ⟨qB x0, qB x1, qB x4, qB x7, qB x8, qF i0, qF i1, qP, qF i6, qF i8, qF i11, hL, (fun h => by obtain ⟨⟨hs, hv⟩, ho⟩ := p2 h; exact ⟨⟨by rw [put_ne (show 39 ≠ 40 by decide)]; exact hs, rfl⟩, fun ht => by have ho := ho ht; exact (by rw [put_ne (show 39 ≠ 40 by decide)]; exact ho)⟩), (fun h => by obtain ⟨hs, ho⟩ := p4 h; exact ⟨(by rw [put_ne (show 41 ≠ 40 by decide)]; exact hs), fun ht => by have ho := ho ht; exact (by rw [put_ne (show 41 ≠ 40 by decide)]; exact ho)⟩), (fun h => by obtain ⟨hs, ho⟩ := p5 h; exact ⟨(by rw [put_ne (show 42 ≠ 40 by decide)]; exact hs), fun ht => by have ho := ho ht; exact (by rw [put_ne (show 42 ≠ 40 by decide)]; exact ho)⟩), (fun h => by obtain ⟨⟨hs, hv⟩, ho⟩ := p7 h; exact ⟨⟨by rw [put_ne (show 44 ≠ 40 by decide)]; exact hs, rfl⟩, fun ht => by have ho := ho ht; exact (by rw [put_ne (show 44 ≠ 40 by decide)]; exact ho)⟩), (fun h => by obtain ⟨hs, ho⟩ := p9 h; exact ⟨(by rw [put_ne (show 46 ≠ 40 by decide)]; exact hs), fun ht => by have ho := ho ht; exact (by rw [put_ne (show 46 ≠ 40 by decide)]; exact ho)⟩), (fun h => by obtain ⟨hs, ho⟩ := p10 h; exact ⟨(by rw [put_ne (show 47 ≠ 40 by decide)]; exact hs), fun ht => by have ho := ho ht; exact (by rw [put_ne (show 47 ≠ 40 by decide)]; exact ho)⟩), (fun h h' ht ht' => by rw [put_ne (show 39 ≠ 40 by decide), put_ne (show 41 ≠ 40 by decide)]; exact d2_4 h h' ht ht' ), (fun h h' ht ht' => by rw [put_ne (show 39 ≠ 40 by decide), put_ne (show 44 ≠ 40 by decide)]; exact d2_7 h h' ht ht' ), (fun h h' ht ht' => by rw [put_ne (show 39 ≠ 40 by decide), put_ne (show 46 ≠ 40 by decide)]; exact d2_9 h h' ht ht' ), (fun h h' ht ht' => by rw [put_ne (show 39 ≠ 40 by decide), put_ne (show 47 ≠ 40 by decide)]; exact d2_10 h h' ht ht' ), (fun h h' ht ht' => by rw [put_ne (show 41 ≠ 40 by decide), put_ne (show 44 ≠ 40 by decide)]; exact d4_7 h h' ht ht' ), (fun h h' ht ht' => by rw [put_ne (show 41 ≠ 40 by decide), put_ne (show 46 ≠ 40 by decide)]; exact d4_9 h h' ht ht' ), (fun h h' ht ht' => by rw [put_ne (show 41 ≠ 40 by decide), put_ne (show 47 ≠ 40 by decide)]; exact d4_10 h h' ht ht' ), (fun h h' ht ht' => by rw [put_ne (show 42 ≠ 40 by decide), put_ne (show 44 ≠ 40 by decide)]; exact d5_7 h h' ht ht' ), (fun h h' ht ht' => by rw [put_ne (show 42 ≠ 40 by decide), put_ne (show 46 ≠ 40 by decide)]; exact d5_9 h h' ht ht' ), (fun h h' ht ht' => by rw [put_ne (show 42 ≠ 40 by decide), put_ne (show 47 ≠ 40 by decide)]; exact d5_10 h h' ht ht' ), (fun h h' ht ht' => by rw [put_ne (show 44 ≠ 40 by decide), put_ne (show 46 ≠ 40 by decide)]; exact d7_9 h h' ht ht' ), m5_2, m5_4, m10_7, m10_9, m11_5, m11_10, hS, BE, Bt, E0, E1⟩
         · refine qst fun g ac wc hn hk hr HI K' hK => ?_
           obtain ⟨x0, x1, x4, x7, x8, i0, i1, i3, i6, i8, i11, hL, p2, p4, p5, p7, p9, p10, d2_4, d2_7, d2_9, d2_10, d4_7, d4_9, d4_10, d5_7, d5_9, d5_10, d7_9, m5_2, m5_4, m10_7, m10_9, m11_5, m11_10, hS, BE, Bt, E0, E1⟩ := HI.out
           simp [Region.binds] at hr
           have y3 := i3 (by simp [hr])
           have z3 := sl_get y3 (by omega)
           clear i0 i1 i3 i6 i8 i11 d2_4 d2_7 d2_9 d2_10 d4_7 d4_9 d4_10 d5_7 d5_9 d5_10 d7_9 p2 p4 p5 p7 p9 p10
           go_simp
           have hL4 := (Later.refl wc).alloc (.cells #[.int .i64 ((k : Nat) : Int)] 2)
           obtain ⟨-, -, -, -, -, i0, i1, i3, i6, i8, i11, -, p2, p4, p5, p7, p9, p10, d2_4, d2_7, d2_9, d2_10, d4_7, d4_9, d4_10, d5_7, d5_9, d5_10, d7_9, -⟩ := HI.out
           exact hK.out _ _ ⟨qB x0, qB x1, qB x4, qB x7, qB x8, qF i0, qF i1, qF i3, qF i6, qF i8, qF i11, hL.alloc _, (fun h => by obtain ⟨⟨hs, hv⟩, ho⟩ := p2 h; exact ⟨⟨by rw [put_ne (show 39 ≠ 41 by decide)]; exact hs, rfl⟩, fun ht => by have ho := ho ht; exact (by rw [put_ne (show 39 ≠ 41 by decide)]; exact (owns_later ho hL4))⟩), (fun _ => ⟨⟨wc.heap.size, put_eq (by omega)⟩, fun _ => by rw [put_eq (by omega)]; exact World.ownsRow_lit wc #[.int .i64 ((k : Nat) : Int)] 1 hS (by decide) (by simp)⟩), (fun h => by obtain ⟨hs, ho⟩ := p5 h; exact ⟨(by rw [put_ne (show 42 ≠ 41 by decide)]; exact hs), fun ht => by have ho := ho ht; exact (by rw [put_ne (show 42 ≠ 41 by decide)]; exact (owns_later ho hL4))⟩), (fun h => by obtain ⟨⟨hs, hv⟩, ho⟩ := p7 h; exact ⟨⟨by rw [put_ne (show 44 ≠ 41 by decide)]; exact hs, rfl⟩, fun ht => by have ho := ho ht; exact (by rw [put_ne (show 44 ≠ 41 by decide)]; exact (owns_later ho hL4))⟩), (fun h => by obtain ⟨hs, ho⟩ := p9 h; exact ⟨(by rw [put_ne (show 46 ≠ 41 by decide)]; exact hs), fun ht => by have ho := ho ht; exact (by rw [put_ne (show 46 ≠ 41 by decide)]; exact (owns_later ho hL4))⟩), (fun h => by obtain ⟨hs, ho⟩ := p10 h; exact ⟨(by rw [put_ne (show 47 ≠ 41 by decide)]; exact hs), fun ht => by have ho := ho ht; exact (by rw [put_ne (show 47 ≠ 41 by decide)]; exact (owns_later ho hL4))⟩), (fun h h' ht ht' q hq => by rw [put_ne (show 39 ≠ 41 by decide)] at hq; rw [put_eq (by omega)]; have ho := (p2 h).2 ht; have := ho.lt q hq; simp [Value.ownBlock]; omega), (fun h h' ht ht' => by rw [put_ne (show 39 ≠ 41 by decide), put_ne (show 44 ≠ 41 by decide)]; exact d2_7 h h' ht ht' ), (fun h h' ht ht' => by rw [put_ne (show 39 ≠ 41 by decide), put_ne (show 46 ≠ 41 by decide)]; exact d2_9 h h' ht ht' ), (fun h h' ht ht' => by rw [put_ne (show 39 ≠ 41 by decide), put_ne (show 47 ≠ 41 by decide)]; exact d2_10 h h' ht ht' ), (fun h h' ht ht' q hq => by rw [put_eq (by omega)] at hq; rw [put_ne (show 44 ≠ 41 by decide)]; have ho := (p7 h').2 ht'; intro e; have := ho.lt q e; simp [Value.ownBlock] at hq; omega), (fun h h' ht ht' q hq => by rw [put_eq (by omega)] at hq; rw [put_ne (show 46 ≠ 41 by decide)]; have ho := (p9 h').2 ht'; intro e; have := ho.lt q e; simp [Value.ownBlock] at hq; omega), (fun h h' ht ht' q hq => by rw [put_eq (by omega)] at hq; rw [put_ne (show 47 ≠ 41 by decide)]; have ho := (p10 h').2 ht'; intro e; have := ho.lt q e; simp [Value.ownBlock] at hq; omega), (fun h h' ht ht' => by rw [put_ne (show 42 ≠ 41 by decide), put_ne (show 44 ≠ 41 by decide)]; exact d5_7 h h' ht ht' ), (fun h h' ht ht' => by rw [put_ne (show 42 ≠ 41 by decide), put_ne (show 46 ≠ 41 by decide)]; exact d5_9 h h' ht ht' ), (fun h h' ht ht' => by rw [put_ne (show 42 ≠ 41 by decide), put_ne (show 47 ≠ 41 by decide)]; exact d5_10 h h' ht ht' ), (fun h h' ht ht' => by rw [put_ne (show 44 ≠ 41 by decide), put_ne (show 46 ≠ 41 by decide)]; exact d7_9 h h' ht ht' ), m5_2, (fun _ => rfl), m10_7, m10_9, m11_5, m11_10, (by simp; omega), (hL4.keep BE), (hL4.keep Bt), (fun h => (E0 h).trans hL4), (fun h => ⟨(E1 h).1.later hL4, (E1 h).2.later hL4⟩)⟩
         · refine qst fun g ac wc hn hk hr HI K' hK => ?_
           obtain ⟨x0, x1, x4, x7, x8, i0, i1, i3, i6, i8, i11, hL, p2, p4, p5, p7, p9, p10, d2_4, d2_7, d2_9, d2_10, d4_7, d4_9, d4_10, d5_7, d5_9, d5_10, d7_9, m5_2, m5_4, m10_7, m10_9, m11_5, m11_10, hS, BE, Bt, E0, E1⟩ := HI.out
           simp [Region.binds] at hr
           replace i0 := Lib.hid i0
           replace i1 := Lib.hid i1
           replace i3 := Lib.hid i3
           replace i6 := Lib.hid i6
           replace i8 := Lib.hid i8
           replace i11 := Lib.hid i11
           replace d2_4 := Lib.hid d2_4
           replace d2_7 := Lib.hid d2_7
           replace d2_9 := Lib.hid d2_9
           replace d2_10 := Lib.hid d2_10
           replace d4_7 := Lib.hid d4_7
           replace d4_9 := Lib.hid d4_9
           replace d4_10 := Lib.hid d4_10
           replace d5_7 := Lib.hid d5_7
           replace d5_9 := Lib.hid d5_9
           replace d5_10 := Lib.hid d5_10
           replace d7_9 := Lib.hid d7_9
           replace p2 := Lib.hid p2
           replace p4 := Lib.hid p4
           replace p5 := Lib.hid p5
           replace p7 := Lib.hid p7
           replace p9 := Lib.hid p9
           replace p10 := Lib.hid p10
           have gA : g 2 = true := (by simp [hr])
           obtain ⟨hsA, hoA⟩ := p2.out gA
           have hoA := hoA hk
           have gX : g 4 = true := (by simp [hr])
           obtain ⟨⟨kx, ex⟩, hoX⟩ := p4.out gX
           have hoX := hoX hk
           rw [ex] at hoX
           refine wpA_Int64 (.tmp 39) (.tmp 41) rfl z.heap.size (sl ac 39) o rfl hoA ⟨kx, 0, none⟩ 1 1 [((k : Nat) : Int)] ex rfl (row_add hoX) (by simp; omega) hS ?_
           intro v4 w4 ho4 hg4 hat4
           rw [show (o ++ [((k : Nat) : Int)]).length = o.length + 1 from by simp [orderedL_len]] at ho4
           have hL4 : Below z.heap.size wc w4 := Below.grown (Below.refl _ _) hg4 hS (fun k e => (hoA.lt k e).1)
           exact hK.out _ _ ⟨qB x0, qB x1, qB x4, qB x7, qB x8, qF i0.out, qF i1.out, qF i3.out, qF i6.out, qF i8.out, (fun h => absurd (m11_5 h) (by rw [hk]; simp)), Below.trans hL (hL4.mono hSB), (fun h => by obtain ⟨⟨hs, hv⟩, ho⟩ := p2.out h; exact ⟨⟨by rw [put_ne (show 39 ≠ 42 by decide)]; exact hs, rfl⟩, fun h => absurd h (by simp)⟩), (fun h => by obtain ⟨hs, ho⟩ := p4.out h; exact ⟨(by rw [put_ne (show 41 ≠ 42 by decide)]; exact hs), fun h => absurd h (by simp)⟩), (fun _ => ⟨by rw [put_eq (by omega)]; exact isSl_of ho4, fun _ => by rw [put_eq (by omega)]; exact ho4⟩), (fun h => by obtain ⟨⟨hs, hv⟩, ho⟩ := p7.out h; exact ⟨⟨by rw [put_ne (show 44 ≠ 42 by decide)]; exact hs, rfl⟩, fun ht => by have ho := ho ht; have NE7 : ∀ k, (sl ac 44).ownBlock = some k → (sl ac 39).ownBlock ≠ some k := fun k e1 e2 => d2_7.out gA h hk ht k e2 e1; exact (by rw [put_ne (show 44 ≠ 42 by decide)]; exact (rows_grown ho hg4 NE7))⟩), (fun h => by obtain ⟨hs, ho⟩ := p9.out h; exact ⟨(by rw [put_ne (show 46 ≠ 42 by decide)]; exact hs), fun ht => by have ho := ho ht; have NE9 : ∀ k, (sl ac 46).ownBlock = some k → (sl ac 39).ownBlock ≠ some k := fun k e1 e2 => d2_9.out gA h hk ht k e2 e1; exact (by rw [put_ne (show 46 ≠ 42 by decide)]; exact (rows_grown ho hg4 NE9))⟩), (fun h => by obtain ⟨hs, ho⟩ := p10.out h; exact ⟨(by rw [put_ne (show 47 ≠ 42 by decide)]; exact hs), fun ht => by have ho := ho ht; have NE10 : ∀ k, (sl ac 47).ownBlock = some k → (sl ac 39).ownBlock ≠ some k := fun k e1 e2 => d2_10.out gA h hk ht k e2 e1; exact (by rw [put_ne (show 47 ≠ 42 by decide)]; exact (rows_grown ho hg4 NE10))⟩), (fun h h' ht => absurd ht (by simp)), (fun h h' ht => absurd ht (by simp)), (fun h h' ht => absurd ht (by simp)), (fun h h' ht => absurd ht (by simp)), (fun h h' ht => absurd ht (by simp)), (fun h h' ht => absurd ht (by simp)), (fun h h' ht => absurd ht (by simp)), (fun h h' ht ht' q hq => by rw [put_eq (by omega)] at hq; rw [put_ne (show 44 ≠ 42 by decide)]; have ho := (p7.out h').2 ht'; intro e; rcases hat4 q hq with e2 | e2; (· exact d2_7.out gA h' hk ht' q e2 e); (· have := ho.lt q e; omega)), (fun h h' ht ht' q hq => by rw [put_eq (by omega)] at hq; rw [put_ne (show 46 ≠ 42 by decide)]; have ho := (p9.out h').2 ht'; intro e; rcases hat4 q hq with e2 | e2; (· exact d2_9.out gA h' hk ht' q e2 e); (· have := ho.lt q e; omega)), (fun h h' ht ht' q hq => by rw [put_eq (by omega)] at hq; rw [put_ne (show 47 ≠ 42 by decide)]; have ho := (p10.out h').2 ht'; intro e; rcases hat4 q hq with e2 | e2; (· exact d2_10.out gA h' hk ht' q e2 e); (· have := ho.lt q e; omega)), (fun h h' ht ht' => by rw [put_ne (show 44 ≠ 42 by decide), put_ne (show 46 ≠ 42 by decide)]; exact d7_9.out h h' ht ht' ), (fun _ => gA), (fun _ => gX), m10_7, m10_9, (fun _ => rfl), m11_10, Nat.le_trans hS hL4.size, ((hL4.block _ (by omega)).trans BE), ((hL4.block _ (by omega)).trans Bt), (fun h => Below.trans (E0 h) hL4), (fun h => absurd (m11_5 h) (by rw [hk]; simp))⟩
         · refine qst fun g ac wc hn hk hr HI K' hK => ?_
           obtain ⟨x0, x1, x4, x7, x8, i0, i1, i3, i6, i8, i11, hL, p2, p4, p5, p7, p9, p10, d2_4, d2_7, d2_9, d2_10, d4_7, d4_9, d4_10, d5_7, d5_9, d5_10, d7_9, m5_2, m5_4, m10_7, m10_9, m11_5, m11_10, hS, BE, Bt, E0, E1⟩ := HI.out
           simp [Region.binds] at hr
           clear i0 i1 i3 i6 i8 i11 d2_4 d2_7 d2_9 d2_10 d4_7 d4_9 d4_10 d5_7 d5_9 d5_10 d7_9 p2 p4 p5 p7 p9 p10
           go_simp
           obtain ⟨-, -, -, -, -, i0, i1, i3, i6, i8, i11, -, p2, p4, p5, p7, p9, p10, d2_4, d2_7, d2_9, d2_10, d4_7, d4_9, d4_10, d5_7, d5_9, d5_10, d7_9, -⟩ := HI.out
           exact hK.out _ _ ⟨qB x0, qB x1, qB x4, qB x7, qB x8, qF i0, qF i1, qF i3, qP, qF i8, qF i11, hL, (fun h => by obtain ⟨⟨hs, hv⟩, ho⟩ := p2 h; exact ⟨⟨by rw [put_ne (show 39 ≠ 43 by decide)]; exact hs, rfl⟩, fun ht => by have ho := ho ht; exact (by rw [put_ne (show 39 ≠ 43 by decide)]; exact ho)⟩), (fun h => by obtain ⟨hs, ho⟩ := p4 h; exact ⟨(by rw [put_ne (show 41 ≠ 43 by decide)]; exact hs), fun ht => by have ho := ho ht; exact (by rw [put_ne (show 41 ≠ 43 by decide)]; exact ho)⟩), (fun h => by obtain ⟨hs, ho⟩ := p5 h; exact ⟨(by rw [put_ne (show 42 ≠ 43 by decide)]; exact hs), fun ht => by have ho := ho ht; exact (by rw [put_ne (show 42 ≠ 43 by decide)]; exact ho)⟩), (fun h => by obtain ⟨⟨hs, hv⟩, ho⟩ := p7 h; exact ⟨⟨by rw [put_ne (show 44 ≠ 43 by decide)]; exact hs, rfl⟩, fun ht => by have ho := ho ht; exact (by rw [put_ne (show 44 ≠ 43 by decide)]; exact ho)⟩), (fun h => by obtain ⟨hs, ho⟩ := p9 h; exact ⟨(by rw [put_ne (show 46 ≠ 43 by decide)]; exact hs), fun ht => by have ho := ho ht; exact (by rw [put_ne (show 46 ≠ 43 by decide)]; exact ho)⟩), (fun h => by obtain ⟨hs, ho⟩ := p10 h; exact ⟨(by rw [put_ne (show 47 ≠ 43 by decide)]; exact hs), fun ht => by have ho := ho ht; exact (by rw [put_ne (show 47 ≠ 43 by decide)]; exact ho)⟩), (fun h h' ht ht' => by rw [put_ne (show 39 ≠ 43 by decide), put_ne (show 41 ≠ 43 by decide)]; exact d2_4 h h' ht ht' ), (fun h h' ht ht' => by rw [put_ne (show 39 ≠ 43 by decide), put_ne (show 44 ≠ 43 by decide)]; exact d2_7 h h' ht ht' ), (fun h h' ht ht' => by rw [put_ne (show 39 ≠ 43 by decide), put_ne (show 46 ≠ 43 by decide)]; exact d2_9 h h' ht ht' ), (fun h h' ht ht' => by rw [put_ne (show 39 ≠ 43 by decide), put_ne (show 47 ≠ 43 by decide)]; exact d2_10 h h' ht ht' ), (fun h h' ht ht' => by rw [put_ne (show 41 ≠ 43 by decide), put_ne (show 44 ≠ 43 by decide)]; exact d4_7 h h' ht ht' ), (fun h h' ht ht' => by rw [put_ne (show 41 ≠ 43 by decide), put_ne (show 46 ≠ 43 by decide)]; exact d4_9 h h' ht ht' ), (fun h h' ht ht' => by rw [put_ne (show 41 ≠ 43 by decide), put_ne (show 47 ≠ 43 by decide)]; exact d4_10 h h' ht ht' ), (fun h h' ht ht' => by rw [put_ne (show 42 ≠ 43 by decide), put_ne (show 44 ≠ 43 by decide)]; exact d5_7 h h' ht ht' ), (fun h h' ht ht' => by rw [put_ne (show 42 ≠ 43 by decide), put_ne (show 46 ≠ 43 by decide)]; exact d5_9 h h' ht ht' ), (fun h h' ht ht' => by rw [put_ne (show 42 ≠ 43 by decide), put_ne (show 47 ≠ 43 by decide)]; exact d5_10 h h' ht ht' ), (fun h h' ht ht' => by rw [put_ne (show 44 ≠ 43 by decide), put_ne (show 46 ≠ 43 by decide)]; exact d7_9 h h' ht ht' ), m5_2, m5_4, m10_7, m10_9, m11_5, m11_10, hS, BE, Bt, E0, E1⟩
         · refine qst fun g ac wc hn hk hr HI K' hK => ?_
           obtain ⟨x0, x1, x4, x7, x8, i0, i1, i3, i6, i8, i11, hL, p2, p4, p5, p7, p9, p10, d2_4, d2_7, d2_9, d2_10, d4_7, d4_9, d4_10, d5_7, d5_9, d5_10, d7_9, m5_2, m5_4, m10_7, m10_9, m11_5, m11_10, hS, BE, Bt, E0, E1⟩ := HI.out
           simp [Region.binds] at hr
           have y6 := i6 (by simp [hr])
           have hst : g 11 = false := by
            cases hq : g 11 with
            | false => rfl
            | true =>
             have hh := m10_7 (m11_10 hq)
             rw [hk] at hh
             cases hh
           have hold := E0 hst
           clear i0 i1 i3 i6 i8 i11 d2_4 d2_7 d2_9 d2_10 d4_7 d4_9 d4_10 d5_7 d5_9 d5_10 d7_9 p2 p4 p5 p7 p9 p10
           go_simp
           refine (w_cloneTrmS' at' o.length capt (orderedL c o) _ (orderedL_len c o).symm (HTr.out.later hold) HNt.out).mono ?_
           rintro e w4 ⟨a4, l4, c4, rfl, hL4, ho4⟩
           obtain ⟨a5, c5, e5⟩ := isSl_of ho4
           simp only [Value.slice.injEq] at e5
           obtain ⟨rfl, rfl, rfl⟩ := e5
           obtain ⟨-, -, -, -, -, i0, i1, i3, i6, i8, i11, -, p2, p4, p5, p7, p9, p10, d2_4, d2_7, d2_9, d2_10, d4_7, d4_9, d4_10, d5_7, d5_9, d5_10, d7_9, -⟩ := HI.out
           exact hK.out _ _ ⟨qB x0, qB x1, qB x4, qB x7, qB x8, qF i0, qF i1, qF i3, qF i6, qF i8, qF i11, hL.trans hL4, (fun h => by obtain ⟨⟨hs, hv⟩, ho⟩ := p2 h; exact ⟨⟨by rw [put_ne (show 39 ≠ 44 by decide)]; exact hs, rfl⟩, fun ht => by have ho := ho ht; exact (by rw [put_ne (show 39 ≠ 44 by decide)]; exact (owns_later ho hL4))⟩), (fun h => by obtain ⟨hs, ho⟩ := p4 h; exact ⟨(by rw [put_ne (show 41 ≠ 44 by decide)]; exact hs), fun ht => by have ho := ho ht; exact (by rw [put_ne (show 41 ≠ 44 by decide)]; exact (owns_later ho hL4))⟩), (fun h => by obtain ⟨hs, ho⟩ := p5 h; exact ⟨(by rw [put_ne (show 42 ≠ 44 by decide)]; exact hs), fun ht => by have ho := ho ht; exact (by rw [put_ne (show 42 ≠ 44 by decide)]; exact (owns_later ho hL4))⟩), (fun _ => ⟨⟨by rw [put_eq (by omega)]; exact ⟨_, _, rfl⟩, rfl⟩, fun _ => by rw [put_eq (by omega)]; exact owns_base ho4 hS⟩), (fun h => by obtain ⟨hs, ho⟩ := p9 h; exact ⟨(by rw [put_ne (show 46 ≠ 44 by decide)]; exact hs), fun ht => by have ho := ho ht; exact (by rw [put_ne (show 46 ≠ 44 by decide)]; exact (owns_later ho hL4))⟩), (fun h => by obtain ⟨hs, ho⟩ := p10 h; exact ⟨(by rw [put_ne (show 47 ≠ 44 by decide)]; exact hs), fun ht => by have ho := ho ht; exact (by rw [put_ne (show 47 ≠ 44 by decide)]; exact (owns_later ho hL4))⟩), (fun h h' ht ht' => by rw [put_ne (show 39 ≠ 44 by decide), put_ne (show 41 ≠ 44 by decide)]; exact d2_4 h h' ht ht' ), (fun h h' ht ht' q hq => by rw [put_ne (show 39 ≠ 44 by decide)] at hq; rw [put_eq (by omega)]; have ho := (p2 h).2 ht; have h8 := ho.lt q hq; intro e; have h9 := (ho4.lt q e).1; omega), (fun h h' ht ht' => by rw [put_ne (show 39 ≠ 44 by decide), put_ne (show 46 ≠ 44 by decide)]; exact d2_9 h h' ht ht' ), (fun h h' ht ht' => by rw [put_ne (show 39 ≠ 44 by decide), put_ne (show 47 ≠ 44 by decide)]; exact d2_10 h h' ht ht' ), (fun h h' ht ht' q hq => by rw [put_ne (show 41 ≠ 44 by decide)] at hq; rw [put_eq (by omega)]; have ho := (p4 h).2 ht; have h8 := ho.lt q hq; intro e; have h9 := (ho4.lt q e).1; omega), (fun h h' ht ht' => by rw [put_ne (show 41 ≠ 44 by decide), put_ne (show 46 ≠ 44 by decide)]; exact d4_9 h h' ht ht' ), (fun h h' ht ht' => by rw [put_ne (show 41 ≠ 44 by decide), put_ne (show 47 ≠ 44 by decide)]; exact d4_10 h h' ht ht' ), (fun h h' ht ht' q hq => by rw [put_ne (show 42 ≠ 44 by decide)] at hq; rw [put_eq (by omega)]; have ho := (p5 h).2 ht; have h8 := ho.lt q hq; intro e; have h9 := (ho4.lt q e).1; omega), (fun h h' ht ht' => by rw [put_ne (show 42 ≠ 44 by decide), put_ne (show 46 ≠ 44 by decide)]; exact d5_9 h h' ht ht' ), (fun h h' ht ht' => by rw [put_ne (show 42 ≠ 44 by decide), put_ne (show 47 ≠ 44 by decide)]; exact d5_10 h h' ht ht' ), (fun h h' ht ht' q hq => by rw [put_eq (by omega)] at hq; rw [put_ne (show 46 ≠ 44 by decide)]; have ho := (p9 h').2 ht'; intro e; have h8 := ho.lt q e; have h9 := (ho4.lt q hq).1; omega), m5_2, m5_4, (fun _ => rfl), m10_9, m11_5, m11_10, Nat.le_trans hS hL4.size, (hL4.keep BE), (hL4.keep Bt), (fun h => (E0 h).trans hL4), (fun h => ⟨(E1 h).1.later hL4, (E1 h).2.later hL4⟩)⟩
         · refine qst fun g ac wc hn hk hr HI K' hK => ?_
           obtain ⟨x0, x1, x4, x7, x8, i0, i1, i3, i6, i8, i11, hL, p2, p4, p5, p7, p9, p10, d2_4, d2_7, d2_9, d2_10, d4_7, d4_9, d4_10, d5_7, d5_9, d5_10, d7_9, m5_2, m5_4, m10_7, m10_9, m11_5, m11_10, hS, BE, Bt, E0, E1⟩ := HI.out
           simp [Region.binds] at hr
           clear i0 i1 i3 i6 i8 i11 d2_4 d2_7 d2_9 d2_10 d4_7 d4_9 d4_10 d5_7 d5_9 d5_10 d7_9 p2 p4 p5 p7 p9 p10
           obtain ⟨c0, f0, z0⟩ := blk_at Bt
           go_simp
           obtain ⟨-, -, -, -, -, i0, i1, i3, i6, i8, i11, -, p2, p4, p5, p7, p9, p10, d2_4, d2_7, d2_9, d2_10, d4_7, d4_9, d4_10, d5_7, d5_9, d5_10, d7_9, -⟩ := HI.out
           exact hK.out _ _ ⟨qB x0, qB x1, qB x4, qB x7, qB x8, qF i0, qF i1, qF i3, qF i6, qP, qF i11, hL, (fun h => by obtain ⟨⟨hs, hv⟩, ho⟩ := p2 h; exact ⟨⟨by rw [put_ne (show 39 ≠ 45 by decide)]; exact hs, rfl⟩, fun ht => by have ho := ho ht; exact (by rw [put_ne (show 39 ≠ 45 by decide)]; exact ho)⟩), (fun h => by obtain ⟨hs, ho⟩ := p4 h; exact ⟨(by rw [put_ne (show 41 ≠ 45 by decide)]; exact hs), fun ht => by have ho := ho ht; exact (by rw [put_ne (show 41 ≠ 45 by decide)]; exact ho)⟩), (fun h => by obtain ⟨hs, ho⟩ := p5 h; exact ⟨(by rw [put_ne (show 42 ≠ 45 by decide)]; exact hs), fun ht => by have ho := ho ht; exact (by rw [put_ne (show 42 ≠ 45 by decide)]; exact ho)⟩), (fun h => by obtain ⟨⟨hs, hv⟩, ho⟩ := p7 h; exact ⟨⟨by rw [put_ne (show 44 ≠ 45 by decide)]; exact hs, rfl⟩, fun ht => by have ho := ho ht; exact (by rw [put_ne (show 44 ≠ 45 by decide)]; exact ho)⟩), (fun h => by obtain ⟨hs, ho⟩ := p9 h; exact ⟨(by rw [put_ne (show 46 ≠ 45 by decide)]; exact hs), fun ht => by have ho := ho ht; exact (by rw [put_ne (show 46 ≠ 45 by decide)]; exact ho)⟩), (fun h => by obtain ⟨hs, ho⟩ := p10 h; exact ⟨(by rw [put_ne (show 47 ≠ 45 by decide)]; exact hs), fun ht => by have ho := ho ht; exact (by rw [put_ne (show 47 ≠ 45 by decide)]; exact ho)⟩), (fun h h' ht ht' => by rw [put_ne (show 39 ≠ 45 by decide), put_ne (show 41 ≠ 45 by decide)]; exact d2_4 h h' ht ht' ), (fun h h' ht ht' => by rw [put_ne (show 39 ≠ 45 by decide), put_ne (show 44 ≠ 45 by decide)]; exact d2_7 h h' ht ht' ), (fun h h' ht ht' => by rw [put_ne (show 39 ≠ 45 by decide), put_ne (show 46 ≠ 45 by decide)]; exact d2_9 h h' ht ht' ), (fun h h' ht ht' => by rw [put_ne (show 39 ≠ 45 by decide), put_ne (show 47 ≠ 45 by decide)]; exact d2_10 h h' ht ht' ), (fun h h' ht ht' => by rw [put_ne (show 41 ≠ 45 by decide), put_ne (show 44 ≠ 45 by decide)]; exact d4_7 h h' ht ht' ), (fun h h' ht ht' => by rw [put_ne (show 41 ≠ 45 by decide), put_ne (show 46 ≠ 45 by decide)]; exact d4_9 h h' ht ht' ), (fun h h' ht ht' => by rw [put_ne (show 41 ≠ 45 by decide), put_ne (show 47 ≠ 45 by decide)]; exact d4_10 h h' ht ht' ), (fun h h' ht ht' => by rw [put_ne (show 42 ≠ 45 by decide), put_ne (show 44 ≠ 45 by decide)]; exact d5_7 h h' ht ht' ), (fun h h' ht ht' => by rw [put_ne (show 42 ≠ 45 by decide), put_ne (show 46 ≠ 45 by decide)]; exact d5_9 h h' ht ht' ), (fun h h' ht ht' => by rw [put_ne (show 42 ≠ 45 by decide), put_ne (show 47 ≠ 45 by decide)]; exact d5_10 h h' ht ht' ), (fun h h' ht ht' => by rw [put_ne (show 44 ≠ 45 by decide), put_ne (show 46 ≠ 45 by decide)]; exact d7_9 h h' ht ht' ), m5_2, m5_4, m10_7, m10_9, m11_5, m11_10, hS, BE, Bt, E0, E1⟩
         · refine qst fun g ac wc hn hk hr HI K' hK => ?_
           obtain ⟨x0, x1, x4, x7, x8, i0, i1, i3, i6, i8, i11, hL, p2, p4, p5, p7, p9, p10, d2_4, d2_7, d2_9, d2_10, d4_7, d4_9, d4_10, d5_7, d5_9, d5_10, d7_9, m5_2, m5_4, m10_7, m10_9, m11_5, m11_10, hS, BE, Bt, E0, E1⟩ := HI.out
           simp [Region.binds] at hr
           have y8 := i8 (by simp [hr])
           have z8 := sl_get y8 (by omega)
           clear i0 i1 i3 i6 i8 i11 d2_4 d2_7 d2_9 d2_10 d4_7 d4_9 d4_10 d5_7 d5_9 d5_10 d7_9 p2 p4 p5 p7 p9 p10
           go_simp
           have hL4 := (Later.refl wc).alloc (.cells #[.int .i64 td, .int .i64 tt, .bool tdv] 93)
           obtain ⟨-, -, -, -, -, i0, i1, i3, i6, i8, i11, -, p2, p4, p5, p7, p9, p10, d2_4, d2_7, d2_9, d2_10, d4_7, d4_9, d4_10, d5_7, d5_9, d5_10, d7_9, -⟩ := HI.out
           exact hK.out _ _ ⟨qB x0, qB x1, qB x4, qB x7, qB x8, qF i0, qF i1, qF i3, qF i6, qF i8, qF i11, hL.alloc _, (fun h => by obtain ⟨⟨hs, hv⟩, ho⟩ := p2 h; exact ⟨⟨by rw [put_ne (show 39 ≠ 46 by decide)]; exact hs, rfl⟩, fun ht => by have ho := ho ht; exact (by rw [put_ne (show 39 ≠ 46 by decide)]; exact (owns_later ho hL4))⟩), (fun h => by obtain ⟨hs, ho⟩ := p4 h; exact ⟨(by rw [put_ne (show 41 ≠ 46 by decide)]; exact hs), fun ht => by have ho := ho ht; exact (by rw [put_ne (show 41 ≠ 46 by decide)]; exact (owns_later ho hL4))⟩), (fun h => by obtain ⟨hs, ho⟩ := p5 h; exact ⟨(by rw [put_ne (show 42 ≠ 46 by decide)]; exact hs), fun ht => by have ho := ho ht; exact (by rw [put_ne (show 42 ≠ 46 by decide)]; exact (owns_later ho hL4))⟩), (fun h => by obtain ⟨⟨hs, hv⟩, ho⟩ := p7 h; exact ⟨⟨by rw [put_ne (show 44 ≠ 46 by decide)]; exact hs, rfl⟩, fun ht => by have ho := ho ht; exact (by rw [put_ne (show 44 ≠ 46 by decide)]; exact (owns_later ho hL4))⟩), (fun _ => ⟨⟨wc.heap.size, put_eq (by omega)⟩, fun _ => by rw [put_eq (by omega)]; exact World.ownsRow_lit wc #[.int .i64 td, .int .i64 tt, .bool tdv] 1 hS (by decide) (by simp)⟩), (fun h => by obtain ⟨hs, ho⟩ := p10 h; exact ⟨(by rw [put_ne (show 47 ≠ 46 by decide)]; exact hs), fun ht => by have ho := ho ht; exact (by rw [put_ne (show 47 ≠ 46 by decide)]; exact (owns_later ho hL4))⟩), (fun h h' ht ht' => by rw [put_ne (show 39 ≠ 46 by decide), put_ne (show 41 ≠ 46 by decide)]; exact d2_4 h h' ht ht' ), (fun h h' ht ht' => by rw [put_ne (show 39 ≠ 46 by decide), put_ne (show 44 ≠ 46 by decide)]; exact d2_7 h h' ht ht' ), (fun h h' ht ht' q hq => by rw [put_ne (show 39 ≠ 46 by decide)] at hq; rw [put_eq (by omega)]; have ho := (p2 h).2 ht; have := ho.lt q hq; simp [Value.ownBlock]; omega), (fun h h' ht ht' => by rw [put_ne (show 39 ≠ 46 by decide), put_ne (show 47 ≠ 46 by decide)]; exact d2_10 h h' ht ht' ), (fun h h' ht ht' => by rw [put_ne (show 41 ≠ 46 by decide), put_ne (show 44 ≠ 46 by decide)]; exact d4_7 h h' ht ht' ), (fun h h' ht ht' q hq => by rw [put_ne (show 41 ≠ 46 by decide)] at hq; rw [put_eq (by omega)]; have ho := (p4 h).2 ht; have := ho.lt q hq; simp [Value.ownBlock]; omega), (fun h h' ht ht' => by rw [put_ne (show 41 ≠ 46 by decide), put_ne (show 47 ≠ 46 by decide)]; exact d4_10 h h' ht ht' ), (fun h h' ht ht' => by rw [put_ne (show 42 ≠ 46 by decide), put_ne (show 44 ≠ 46 by decide)]; exact d5_7 h h' ht ht' ), (fun h h' ht ht' q hq => by rw [put_ne (show 42 ≠ 46 by decide)] at hq; rw [put_eq (by omega)]; have ho := (p5 h).2 ht; have := ho.lt q hq; simp [Value.ownBlock]; omega), (fun h h' ht ht' => by rw [put_ne (show 42 ≠ 46 by decide), put_ne (show 47 ≠ 46 by decide)]; exact d5_10 h h' ht ht' ), (fun h h' ht ht' q hq => by rw [put_ne (show 44 ≠ 46 by decide)] at hq; rw [put_eq (by omega)]; have ho := (p7 h).2 ht; have := ho.lt q hq; simp [Value.ownBlock]; omega), m5_2, m5_4, m10_7, (fun _ => rfl), m11_5, m11_10, (by simp; omega), (hL4.keep BE), (hL4.keep Bt), (fun h => (E0 h).trans hL4), (fun h => ⟨(E1 h).1.later hL4, (E1 h).2.later hL4⟩)⟩
         · refine qst fun g ac wc hn hk hr HI K' hK => ?_
           obtain ⟨x0, x1, x4, x7, x8, i0, i1, i3, i6, i8, i11, hL, p2, p4, p5, p7, p9, p10, d2_4, d2_7, d2_9, d2_10, d4_7, d4_9, d4_10, d5_7, d5_9, d5_10, d7_9, m5_2, m5_4, m10_7, m10_9, m11_5, m11_10, hS, BE, Bt, E0, E1⟩ := HI.out
           simp [Region.binds] at hr
           replace i0 := Lib.hid i0
           replace i1 := Lib.hid i1
           replace i3 := Lib.hid i3
           replace i6 := Lib.hid i6
           replace i8 := Lib.hid i8
           replace i11 := Lib.hid i11
           replace d2_4 := Lib.hid d2_4
           replace d2_7 := Lib.hid d2_7
           replace d2_9 := Lib.hid d2_9
           replace d2_10 := Lib.hid d2_10
           replace d4_7 := Lib.hid d4_7
           replace d4_9 := Lib.hid d4_9
           replace d4_10 := Lib.hid d4_10
           replace d5_7 := Lib.hid d5_7
           replace d5_9 := Lib.hid d5_9
           replace d5_10 := Lib.hid d5_10
           replace d7_9 := Lib.hid d7_9
           replace p2 := Lib.hid p2
           replace p4 := Lib.hid p4
           replace p5 := Lib.hid p5
           replace p7 := Lib.hid p7
           replace p9 := Lib.hid p9
           replace p10 := Lib.hid p10
           have gA : g 7 = true := (by simp [hr])
           obtain ⟨hsA, hoA⟩ := p7.out gA
           have hoA := hoA hk
           have gX : g 9 = true := (by simp [hr])
           obtain ⟨⟨kx, ex⟩, hoX⟩ := p9.out gX
           have hoX := hoX hk
           rw [ex] at hoX
           refine wpA_Term (.tmp 44) (.tmp 46) rfl z.heap.size (sl ac 44) (orderedL c o) rfl (own_len hoA (orderedL_len c o).symm) ⟨kx, 0, none⟩ 1 1 [(⟨⟨td, tt⟩, tdv⟩ : Trm)] ex rfl (row_add hoX) (by rw [orderedL_len]; simp; omega) hS ?_
           intro v4 w4 ho4 hg4 hat4
           rw [show (orderedL c o ++ [(⟨⟨td, tt⟩, tdv⟩ : Trm)]).length = o.length + 1 from by simp [orderedL_len]] at ho4
           have hL4 : Below z.heap.size wc w4 := Below.grown (Below.refl _ _) hg4 hS (fun k e => (hoA.lt k e).1)
           exact hK.out _ _ ⟨qB x0, qB x1, qB x4, qB x7, qB x8, qF i0.out, qF i1.out, qF i3.out, qF i6.out, qF i8.out, (fun h => absurd (m11_10 h) (by rw [hk]; simp)), Below.trans hL (hL4.mono hSB), (fun h => by obtain ⟨⟨hs, hv⟩, ho⟩ := p2.out h; exact ⟨⟨by rw [put_ne (show 39 ≠ 47 by decide)]; exact hs, rfl⟩, fun ht => by have ho := ho ht; have NE2 : ∀ k, (sl ac 39).ownBlock = some k → (sl ac 44).ownBlock ≠ some k := fun k e1 e2 => d2_7.out h gA ht hk k e1 e2; exact (by rw [put_ne (show 39 ≠ 47 by decide)]; exact (rows_grown ho hg4 NE2))⟩), (fun h => by obtain ⟨hs, ho⟩ := p4.out h; exact ⟨(by rw [put_ne (show 41 ≠ 47 by decide)]; exact hs), fun ht => by have ho := ho ht; have NE4 : ∀ k, (sl ac 41).ownBlock = some k → (sl ac 44).ownBlock ≠ some k := fun k e1 e2 => d4_7.out h gA ht hk k e1 e2; exact (by rw [put_ne (show 41 ≠ 47 by decide)]; exact (rows_grown ho hg4 NE4))⟩), (fun h => by obtain ⟨hs, ho⟩ := p5.out h; exact ⟨(by rw [put_ne (show 42 ≠ 47 by decide)]; exact hs), fun ht => by have ho := ho ht; have NE5 : ∀ k, (sl ac 42).ownBlock = some k → (sl ac 44).ownBlock ≠ some k := fun k e1 e2 => d5_7.out h gA ht hk k e1 e2; exact (by rw [put_ne (show 42 ≠ 47 by decide)]; exact (rows_grown ho hg4 NE5))⟩), (fun h => by obtain ⟨⟨hs, hv⟩, ho⟩ := p7.out h; exact ⟨⟨by rw [put_ne (show 44 ≠ 47 by decide)]; exact hs, rfl⟩, fun h => absurd h (by simp)⟩), (fun h => by obtain ⟨hs, ho⟩ := p9.out h; exact ⟨(by rw [put_ne (show 46 ≠ 47 by decide)]; exact hs), fun h => absurd h (by simp)⟩), (fun _ => ⟨by rw [put_eq (by omega)]; exact isSl_of ho4, fun _ => by rw [put_eq (by omega)]; exact ho4⟩), (fun h h' ht ht' => by rw [put_ne (show 39 ≠ 47 by decide), put_ne (show 41 ≠ 47 by decide)]; exact d2_4.out h h' ht ht' ), (fun h h' ht ht' => absurd ht' (by simp)), (fun h h' ht ht' => absurd ht' (by simp)), (fun h h' ht ht' q hq => by rw [put_ne (show 39 ≠ 47 by decide)] at hq; rw [put_eq (by omega)]; have ho := (p2.out h).2 ht; intro e0; have e := hq; rcases hat4 q e0 with e2 | e2; (· exact d2_7.out h gA ht hk q e e2); (· have := ho.lt q e; omega)), (fun h h' ht ht' => absurd ht' (by simp)), (fun h h' ht ht' => absurd ht' (by simp)), (fun h h' ht ht' q hq => by rw [put_ne (show 41 ≠ 47 by decide)] at hq; rw [put_eq (by omega)]; have ho := (p4.out h).2 ht; intro e0; have e := hq; rcases hat4 q e0 with e2 | e2; (· exact d4_7.out h gA ht hk q e e2); (· have := ho.lt q e; omega)), (fun h h' ht ht' => absurd ht' (by simp)), (fun h h' ht ht' => absurd ht' (by simp)), (fun h h' ht ht' q hq => by rw [put_ne (show 42 ≠ 47 by decide)] at hq; rw [put_eq (by omega)]; have ho := (p5.out h).2 ht; intro e0; have e := hq; rcases hat4 q e0 with e2 | e2; (· exact d5_7.out h gA ht hk q e e2); (· have := ho.lt q e; omega)), (fun h h' ht => absurd ht (by simp)), m5_2, m5_4, (fun _ => gA), (fun _ => gX), m11_5, (fun _ => rfl), Nat.le_trans hS hL4.size, ((hL4.block _ (by omega)).trans BE), ((hL4.block _ (by omega)).trans Bt), (fun h => Below.trans (E0 h) hL4), (fun h => absurd (m11_10 h) (by rw [hk]; simp))⟩
         · refine qst fun g ac wc hn hk hr HI K' hK => ?_
           obtain ⟨x0, x1, x4, x7, x8, i0, i1, i3, i6, i8, i11, hL, p2, p4, p5, p7, p9, p10, d2_4, d2_7, d2_9, d2_10, d4_7, d4_9, d4_10, d5_7, d5_9, d5_10, d7_9, m5_2, m5_4, m10_7, m10_9, m11_5, m11_10, hS, BE, Bt, E0, E1⟩ := HI.out
           simp [Region.binds] at hr
           have y0 := i0 (by simp [hr])
           have gm5 : g 5 = true := by first | exact m11_5 (by simp [hr]) | exact hr | exact hr.1 | exact hr.2 | exact hr.2.1 | simp [hr]
           have gm10 : g 10 = true := by first | exact m11_10 (by simp [hr]) | exact hr | exact hr.1 | exact hr.2 | exact hr.2.1 | simp [hr]
           obtain ⟨⟨aa5, cc5, y5⟩, ho5⟩ := p5 (by simp [hr])
           have ho5 := ho5 hk
           rw [y5] at ho5
           have z5 := sl_get y5 (by omega)
           obtain ⟨⟨aa10, cc10, y10⟩, ho10⟩ := p10 (by simp [hr])
           have ho10 := ho10 hk
           rw [y10] at ho10
           have z10 := sl_get y10 (by omega)
           have hold := E0 hk
           clear i0 i1 i3 i6 i8 i11 d2_4 d2_7 d2_9 d2_10 d4_7 d4_9 d4_10 d5_7 d5_9 d5_10 d7_9 p2 p4 p5 p7 p9 p10
           go_simp
           refine (HIH.out (o ++ [((k : Nat) : Int)]) aa5 aa10 (o.length + 1) cc5 cc10 wc SX (by simp) (by have := HLn.out; rw [List.length_append]; simp; omega) HGn.out (HLz0.out.trans hold) (HEz.out.later hold) (HBz.out.later hold) (owns_base ho5 HBs.out) (by rw [HOs.out]; exact owns_base ho10 HBs.out) (fun h => absurd h (by simp)) (Nat.le_trans HBs.out hS)).mono ?_
           rintro e w4 ⟨rfl, hB4, hX4⟩
           obtain ⟨-, -, -, -, -, i0, i1, i3, i6, i8, i11, -, p2, p4, p5, p7, p9, p10, d2_4, d2_7, d2_9, d2_10, d4_7, d4_9, d4_10, d5_7, d5_9, d5_10, d7_9, -⟩ := HI.out
           exact hK.out _ _ ⟨qB x0, qB x1, qB x4, qB x7, qB x8, qF i0, qF i1, qF i3, qF i6, qF i8, qP, (hL.ex' hX4 (fun j h => by rcases h with h | h <;> omega)), (fun h => by obtain ⟨⟨hs, hv⟩, ho⟩ := p2 h; exact ⟨⟨by rw [put_ne (show 39 ≠ 48 by decide)]; exact hs, rfl⟩, fun ht => absurd gm5 (by rw [show g 5 = false from ht]; simp)⟩), (fun h => by obtain ⟨hs, ho⟩ := p4 h; exact ⟨(by rw [put_ne (show 41 ≠ 48 by decide)]; exact hs), fun ht => absurd gm5 (by rw [show g 5 = false from ht]; simp)⟩), (fun h => by obtain ⟨hs, ho⟩ := p5 h; exact ⟨(by rw [put_ne (show 42 ≠ 48 by decide)]; exact hs), fun h => absurd h (by simp)⟩), (fun h => by obtain ⟨⟨hs, hv⟩, ho⟩ := p7 h; exact ⟨⟨by rw [put_ne (show 44 ≠ 48 by decide)]; exact hs, rfl⟩, fun ht => absurd gm10 (by rw [show g 10 = false from ht]; simp)⟩), (fun h => by obtain ⟨hs, ho⟩ := p9 h; exact ⟨(by rw [put_ne (show 46 ≠ 48 by decide)]; exact hs), fun ht => absurd gm10 (by rw [show g 10 = false from ht]; simp)⟩), (fun h => by obtain ⟨hs, ho⟩ := p10 h; exact ⟨(by rw [put_ne (show 47 ≠ 48 by decide)]; exact hs), fun h => absurd h (by simp)⟩), (fun h h' ht ht' => by rw [put_ne (show 39 ≠ 48 by decide), put_ne (show 41 ≠ 48 by decide)]; exact d2_4 h h' ht ht' ), (fun h h' ht ht' => by rw [put_ne (show 39 ≠ 48 by decide), put_ne (show 44 ≠ 48 by decide)]; exact d2_7 h h' ht ht' ), (fun h h' ht ht' => by rw [put_ne (show 39 ≠ 48 by decide), put_ne (show 46 ≠ 48 by decide)]; exact d2_9 h h' ht ht' ), (fun h h' ht ht' => absurd ht' (by simp)), (fun h h' ht ht' => by rw [put_ne (show 41 ≠ 48 by decide), put_ne (show 44 ≠ 48 by decide)]; exact d4_7 h h' ht ht' ), (fun h h' ht ht' => by rw [put_ne (show 41 ≠ 48 by decide), put_ne (show 46 ≠ 48 by decide)]; exact d4_9 h h' ht ht' ), (fun h h' ht ht' => absurd ht' (by simp)), (fun h h' ht => absurd ht (by simp)), (fun h h' ht => absurd ht (by simp)), (fun h h' ht => absurd ht (by simp)), (fun h h' ht ht' => by rw [put_ne (show 44 ≠ 48 by decide), put_ne (show 46 ≠ 48 by decide)]; exact d7_9 h h' ht ht' ), m5_2, m5_4, m10_7, m10_9, (fun _ => gm5), (fun _ => gm10), Nat.le_trans hS hX4.size, (hX4.keep BE q3), (hX4.keep Bt (by rintro (h | h) <;> omega)), (fun h => absurd h (by simp)), (fun _ => ⟨hB4, (Ex.of hold).trans hX4⟩)⟩
end Go.Proofs.YtkoojngonldcbaaGreat
