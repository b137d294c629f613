/- DERIVED. Walks: terms in an order. -/
import Derived.Test.YtkoojngonldcbaaGreatKGM3
import Derived.Test.YtkoojngonldcbaaGreatKGBA
namespace Go.Proofs.YtkoojngonldcbaaGreat
set_option linter.unusedVariables false
set_option linter.unusedSimpArgs false
open Go.RowKit
set_option maxRecDepth 100000
theorem w_l01Has (v : Value) (l : List Int) (x : Int) (w : World) (h : IsNums w v l) :
 Calls Tryz.prog 83 #[v, .int .i64 x] w fun e w' => e = .returned (.bool (hasI l x)) ∧ w = w' := by
 obtain ⟨hxl1, hn1, a1, cap1, rfl, hcap1, hmax1, hrow1⟩ := h
 have HR1 := Lib.hid hrow1
 clear hrow1 hxl1
 go_enter Tryz.func83, Tryz.ntmps83
 go_wp2
 go_loop [5] (fun i => ∃ k : Nat, k ≤ l.length ∧ i = .int .i64 k ∧ Hid ((l.take k).any (fun y => y == x) = false)) (fun i => l.length - (intOf i).toNat)
 case atStart => exact ⟨0, Nat.zero_le _, rfl, by simp [Hid]⟩
 case round =>
  obtain ⟨k, hk, rfl, HE⟩ := hrel
  have hL := Later.refl w
  by_cases hlt : k < l.length
  · obtain ⟨b1, off1, rfl, hr1⟩ := HR1.out (by omega)
    obtain ⟨y, ht1⟩ := get_ex (l := l) (k := k) (by omega)
    have HT1 := Lib.hid ht1
    have c1_0 := (hr1.later hL).num ht1
    clear ht1
    cases hq : (y == x)
    · have HQ := Lib.hid hq
      go_wp2
      go_round
      case rel => exact ⟨k + 1, by omega, by go_num, any_snoc HT1.out HE.out HQ.out⟩
      case measure => simp [intOf]; omega
    · have hf : hasI l x = true := any_true (p := fun y => y == x) HT1.out hq
      have HF := Lib.hid hf
      clear hf
      go_wp2
      go_ret
      exact ⟨by rw [HF.out]; rfl, rfl⟩
  · have hf : hasI l x = false := any_false_end (by omega) HE.out
    have HF := Lib.hid hf
    clear hf
    go_wp2
    go_ret
    exact ⟨by rw [HF.out]; rfl, rfl⟩
theorem w_indexInt (v : Value) (l : List Int) (x : Int) (w : World) (h : IsNums w v l) :
 Calls Tryz.prog 130 #[v, .int .i64 x] w fun e w' => (∃ r : Int, e = .returned (.int .i64 r) ∧ decide (0 ≤ r) = hasI l x) ∧ w = w' := by
 obtain ⟨hxl1, hn1, a1, cap1, rfl, hcap1, hmax1, hrow1⟩ := h
 have HR1 := Lib.hid hrow1
 clear hrow1 hxl1
 go_enter Tryz.func130, Tryz.ntmps130
 go_wp2
 go_loop [5, 8] (fun _ i => ∃ k : Nat, k ≤ l.length ∧ i = .int .i64 k ∧ Hid ((l.take k).any (fun y => y == x) = false)) (fun _ i => l.length - (intOf i).toNat)
 case atStart => exact ⟨0, Nat.zero_le _, rfl, by simp [Hid]⟩
 case round =>
  obtain ⟨k, hk, rfl, HE⟩ := hrel
  have hL := Later.refl w
  by_cases hlt : k < l.length
  · obtain ⟨b1, off1, rfl, hr1⟩ := HR1.out (by omega)
    obtain ⟨y, ht1⟩ := get_ex (l := l) (k := k) (by omega)
    have HT1 := Lib.hid ht1
    have c1_0 := (hr1.later hL).num ht1
    clear ht1
    cases hq : (x == y)
    · have HQ := Lib.hid hq
      go_wp2
      go_round
      case rel => exact ⟨k + 1, by omega, by go_num, any_snoc HT1.out HE.out (by have := HQ.out; simp at this ⊢; omega)⟩
      case measure => simp [intOf]; omega
    · have hf : hasI l x = true := any_true (p := fun y => y == x) HT1.out (by simp at hq ⊢; omega)
      have HF := Lib.hid hf
      clear hf
      go_wp2
      go_ret
      exact ⟨⟨_, rfl, by rw [HF.out]; simp⟩, rfl⟩
  · have hf : hasI l x = false := any_false_end (by omega) HE.out
    have HF := Lib.hid hf
    clear hf
    go_wp2
    go_ret
    exact ⟨⟨_, rfl, by rw [HF.out]; simp⟩, rfl⟩
theorem w_containsInt (v : Value) (l : List Int) (x : Int) (w : World) (h : IsNums w v l) :
 Calls Tryz.prog 73 #[v, .int .i64 x] w fun e w' => e = .returned (.bool (hasI l x)) ∧ w = w' := by
 go_enter Tryz.func73, Tryz.ntmps73
 go_wp2_with (go_at_call 130; refine (w_indexInt _ _ _ _ h).mono ?_; rintro e w1 ⟨⟨r, rfl, hr⟩, rfl⟩)
 go_ret
 exact ⟨by simp_all, rfl⟩
theorem w_l14Ordered (v u : Value) (c : List Trm) (os : List Int) (w : World) (h : IsTrms w v c) (h' : IsNums w u os) (hr : ∀ k ∈ os, 0 ≤ k ∧ k < c.length) :
 Calls Tryz.prog 84 #[v, u] w fun e w' => ∃ v', e = .returned v' ∧ Later w w' ∧ w'.ownsRow w.heap.size 93 3 v' (orderedL c os).length (trms (orderedL c os)) := by
 have HO := Lib.hid hr
 clear hr
 obtain ⟨hxl1, hn1, a1, cap1, rfl, hcap1, hmax1, hrow1⟩ := h
 have HR1 := Lib.hid hrow1
 clear hrow1 hxl1
 obtain ⟨hxl2, hn2, a2, cap2, rfl, hcap2, hmax2, hrow2⟩ := h'
 have HR2 := Lib.hid hrow2
 clear hrow2 hxl2
 go_enter Tryz.func84, Tryz.ntmps84
 go_wp2
 go_loopw [5, 6] (fun r i wr => ∃ k : Nat, k ≤ os.length ∧ i = .int .i64 k ∧ Later w wr ∧ wr.ownsRow w.heap.size 93 3 r (orderedL c (os.take k)).length (trms (orderedL c (os.take k)))) (fun _ i _ => os.length - (intOf i).toNat)
 case atStart => exact ⟨0, Nat.zero_le _, rfl, qla, own_empty (Nat.le_refl _) _ _⟩
 case round =>
  obtain ⟨k, hk, rfl, hL, hown⟩ := hrel
  have hJ := orderedL_len c (os.take k)
  rw [List.length_take, Nat.min_eq_left hk] at hJ
  have HJ := Lib.hid hJ
  clear hJ
  by_cases hlt : k < os.length
  · obtain ⟨b2, off2, rfl, hr2⟩ := HR2.out (by omega)
    obtain ⟨y, ht2⟩ := get_ex (l := os) (k := k) (by omega)
    have HT2 := Lib.hid ht2
    have c2_0 := (hr2.later hL).num ht2
    clear ht2
    have hy := HO.out y (List.mem_of_getElem? HT2.out)
    obtain ⟨i, rfl⟩ := Int.eq_ofNat_of_zero_le hy.1
    have hi : i < c.length := by omega
    clear hy
    obtain ⟨b1, off1, rfl, hr1⟩ := HR1.out (by omega)
    obtain ⟨t, ht⟩ := get_ex hi
    have HT1 := Lib.hid ht
    obtain ⟨c1_0, c1_1, c1_2⟩ := (hr1.later hL).trm ht
    clear ht
    go_wp2_with (at_builtin; refine app1_Term rfl (.tmp 14) (.tmp 22) rfl w.heap.size _ _ t rfl hown rfl ?_ hL.size ?_; (· rw [HJ.out]; omega); intro v1 w4 ho4 hg4)
    go_roundw
    case rel => exact ⟨k + 1, by omega, by go_num, hL.own (Nat.le_refl _) hown hg4, by rw [take_snoc' HT2.out, orderedL_snoc, Int.toNat_natCast, getD_of HT1.out]; exact ho4⟩
    case measure => simp [intOf]; omega
  · have hown' : wr.ownsRow w.heap.size 93 3 u5 (orderedL c os).length (trms (orderedL c os)) := by
     rw [take_eq_all (by omega)] at hown
     exact hown
    clear hown
    go_wp2
    go_ret
    exact ⟨_, rfl, hL, hown'⟩
set_option maxHeartbeats 1000000 in
theorem w_implOrderTerms (v u : Value) (c : List Trm) (os : List Int) (w : World) (h : IsTrms w v c) (h' : IsNums w u os) :
 Calls Tryz.prog 20 #[v, u] w fun e w' => ∃ v', e = .returned (.tuple #[v', .int .i64 (orderTerms c os).2]) ∧ Later w w' ∧ w'.ownsRow w.heap.size 93 3 v' (orderTerms c os).1.length (trms (orderTerms c os).1) := by
 cases hc : isChain c
 · have hf : orderTerms c os = ([], 1) := by simp [orderTerms, hc]
   have HC := Lib.hid hc
   clear hc
   rw [hf]
   go_enter Tryz.func20, Tryz.ntmps20
   go_wp2_with fail
   refine (w_implIsChain _ _ _ h).mono ?_
   rintro e w1 ⟨rfl, hL⟩
   rw [HC.out]
   go_wp2
   go_ret2
   exact ⟨_, rfl, qla, World.ownsRow_nil _ _ _ _⟩
 have hlc := isChain_true hc
 obtain ⟨hc1, hc6, _, _⟩ := hlc
 have hf : orderTerms c os = if ordOk c.length os then (if os.length = c.length then (if isChain (orderedL c os) then (orderedL c os, 0) else ([], 5)) else ([], 2)) else ([], 2) := by simp only [orderTerms, hc, if_true]
 have HF := Lib.hid hf
 have HC := Lib.hid hc
 clear hf hc
 have H := Lib.hid h
 have H' := Lib.hid h'
 obtain ⟨hxl1, hn1, a1, cap1, rfl, hcap1, hmax1, hrow1⟩ := h
 have HR1 := Lib.hid hrow1
 clear hrow1 hxl1
 obtain ⟨hxl2, hn2, a2, cap2, rfl, hcap2, hmax2, hrow2⟩ := h'
 have HR2 := Lib.hid hrow2
 clear hrow2 hxl2
 go_enter Tryz.func20, Tryz.ntmps20
 go_wp2_with fail
 refine (w_implIsChain _ _ _ H.out).mono ?_
 rintro e w1 ⟨rfl, hL1⟩
 rw [HC.out]
 have hz1 := hL1.size
 go_wp2_with fail
 go_loopw [4, 5, 6, 7, 8, 15] (fun p q r _ _ i wr => ∃ k : Nat, k ≤ os.length ∧ i = .int .i64 k ∧ p = .slice none 0 0 ∧ q = .int .i64 0 ∧ Later w wr ∧ Hid (∀ j, j < k → okAt c.length os j = true) ∧ wr.ownsRow w.heap.size 93 3 r (orderedL c (os.take k)).length (trms (orderedL c (os.take k)))) (fun _ _ _ _ _ i _ => os.length - (intOf i).toNat)
 case atStart => exact ⟨0, Nat.zero_le _, rfl, rfl, rfl, qla, fun j hj => absurd hj (Nat.not_lt_zero _), own_empty hz1 _ _⟩
 case round =>
  obtain ⟨k, hk, rfl, rfl, rfl, hL, HO, hown⟩ := hrel
  have hJ := orderedL_len c (os.take k)
  rw [List.length_take, Nat.min_eq_left hk] at hJ
  have HJ := Lib.hid hJ
  clear hJ
  by_cases hlt : k < os.length
  · have HT := Lib.hid (H'.out.later hL)
    obtain ⟨b2, off2, rfl, hr2⟩ := HR2.out (by omega)
    obtain ⟨x, ht2⟩ := get_ex (l := os) (k := k) (by omega)
    have HT2 := Lib.hid ht2
    have c2_0 := (hr2.later hL).num ht2
    clear ht2
    have hok := okAt_get (n := c.length) HT2.out
    cases ha : inR x 0 (c.length - 1)
    · rw [ha, Bool.false_and] at hok
      have hf : orderTerms c os = ([], 2) := by rw [HF.out, ordOk_false hlt hok]; rfl
      have HF2 := Lib.hid hf
      have HA := Lib.hid ha
      clear hf hok ha hown
      go_wp2_with fail
      refine (w_within _ _ _ _).mono ?_
      rintro e w2 ⟨rfl, rfl⟩
      rw [HA.out]
      go_wp2
      go_ret2
      exact ⟨_, by rw [HF2.out]; rfl, qla, by rw [HF2.out]; exact World.ownsRow_nil _ _ _ _⟩
    · rw [ha, Bool.true_and] at hok
      have hx := inR_true ha
      have HA := Lib.hid ha
      obtain ⟨i, rfl⟩ := Int.eq_ofNat_of_zero_le hx.1
      have hi : i < c.length := by omega
      cases hh : hasI (os.take k) i
      · rw [hh] at hok
        have HK := Lib.hid hok
        have HH := Lib.hid hh
        obtain ⟨b1, off1, rfl, hr1⟩ := HR1.out (by omega)
        obtain ⟨t, ht⟩ := get_ex hi
        have HT1 := Lib.hid ht
        obtain ⟨c1_0, c1_1, c1_2⟩ := (hr1.later hL).trm ht
        clear hok ha hh hx ht
        go_wp2_with fail
        refine (w_within _ _ _ _).mono ?_
        rintro e w2 ⟨rfl, rfl⟩
        rw [HA.out]
        go_wp2_with fail
        refine (w_containsInt _ (os.take k) _ _ (IsNums.take HT.out hk)).mono ?_
        rintro e w2 ⟨rfl, rfl⟩
        rw [HH.out]
        go_wp2_with (at_builtin; refine app1_Term rfl (.tmp 33) (.tmp 38) rfl w.heap.size _ _ t rfl hown rfl ?_ hL.size ?_; (· rw [HJ.out]; omega); intro v1 w4 ho4 hg4)
        go_roundw
        case rel => exact ⟨k + 1, by omega, by go_num, rfl, rfl, hL.own (Nat.le_refl _) hown hg4, fun j hj => by
         by_cases hjk : j = k
         · subst hjk; exact HK.out
         · exact HO.out j (by omega), by rw [take_snoc' HT2.out, orderedL_snoc, Int.toNat_natCast, getD_of HT1.out]; exact ho4⟩
        case measure => simp [intOf]; omega
      · rw [hh] at hok
        have hf : orderTerms c os = ([], 2) := by rw [HF.out, ordOk_false hlt hok]; rfl
        have HF2 := Lib.hid hf
        have HH := Lib.hid hh
        clear hf hok ha hh hx hown
        go_wp2_with fail
        refine (w_within _ _ _ _).mono ?_
        rintro e w2 ⟨rfl, rfl⟩
        rw [HA.out]
        go_wp2_with fail
        refine (w_containsInt _ (os.take k) _ _ (IsNums.take HT.out hk)).mono ?_
        rintro e w2 ⟨rfl, rfl⟩
        rw [HH.out]
        go_wp2
        go_ret2
        exact ⟨_, by rw [HF2.out]; rfl, qla, by rw [HF2.out]; exact World.ownsRow_nil _ _ _ _⟩
  · have hall : ordOk c.length os = true := ordOk_true fun j hj => HO.out j (by omega)
    have hf := HF.out
    rw [hall, if_pos rfl] at hf
    have hown' : wr.ownsRow w.heap.size 93 3 u6 os.length (trms (orderedL c os)) := by
     rw [take_eq_all (by omega), orderedL_len] at hown
     exact hown
    clear hown hall
    by_cases hlen : os.length = c.length
    · rw [if_pos hlen] at hf
      have HLen := Lib.hid hlen
      have hne : ((os.length : Int) != (c.length : Int)) = false := by simp; omega
      have hl6 : os.length ≤ 6 := by omega
      rcases own_shape hown' with ⟨_, hz, _⟩ | ⟨g, cap, rfl, hgb, hg, hcap, hmax⟩
      · omega
      have R5 := isTrms_of (reads_of_owns hown' (by omega)) (orderedL_len c os)
      have HO5 := Lib.hid hown'
      cases hq : isChain (orderedL c os)
      · rw [hq, if_neg (by decide)] at hf
        have HF2 := Lib.hid hf
        have HQ := Lib.hid hq
        clear hf hq hlen hown'
        go_wp2_with fail
        refine (w_implIsChain _ _ _ R5).mono ?_
        rintro e w3 ⟨rfl, hL3⟩
        rw [HQ.out]
        go_wp2
        go_ret2
        exact ⟨_, by rw [HF2.out]; rfl, qla, by rw [HF2.out]; exact World.ownsRow_nil _ _ _ _⟩
      · rw [hq, if_pos rfl] at hf
        have HF2 := Lib.hid hf
        have HQ := Lib.hid hq
        clear hf hq hlen hown'
        go_wp2_with fail
        refine (w_implIsChain _ _ _ R5).mono ?_
        rintro e w3 ⟨rfl, hL3⟩
        rw [HQ.out]
        go_wp2
        go_ret2
        exact ⟨_, by rw [HF2.out]; rfl, qla, by rw [HF2.out, orderedL_len]; exact owns_later HO5.out hL3⟩
    · rw [if_neg hlen] at hf
      have HF2 := Lib.hid hf
      have hne : ((os.length : Int) != (c.length : Int)) = true := by simp; omega
      have hsh : ∃ a cp, u6 = .slice a os.length cp := by
       rcases own_shape hown' with ⟨h1, h2, _⟩ | ⟨g, cap, h1, _⟩
       · exact ⟨none, 0, by rw [h1, h2]⟩
       · exact ⟨_, _, h1⟩
      obtain ⟨a6, cp6, rfl⟩ := hsh
      clear hf hown'
      go_wp2
      go_ret2
      exact ⟨_, by rw [HF2.out]; rfl, qla, by rw [HF2.out]; exact World.ownsRow_nil _ _ _ _⟩
end Go.Proofs.YtkoojngonldcbaaGreat
