/- DERIVED. Walks: rules read from text. -/
import Derived.Test.YtgngbdacejghcaaGreatDoorKUD13
import Derived.Test.YtgngbdacejghcaaGreatDoorKUM33
namespace Go.Proofs.YtgngbdacejghcaaGreatDoor
set_option linter.unusedVariables false
set_option linter.unusedSimpArgs false
open Go.RowKit
set_option maxRecDepth 100000
set_option linter.unusedVariables false
theorem spl_sum (b : UInt8) : ∀ l : List UInt8, ((spl b l).map List.length).sum + (spl b l).length = l.length + 1
 | [] => by simp [spl]
 | c :: r => by
  have ih := spl_sum b r
  unfold spl
  split
  · simp; omega
  · split
    · rename_i h t he
      rw [he] at ih
      simp at ih ⊢
      omega
    · rename_i he
      rw [he] at ih
      simp at ih
theorem spl3_len {b : UInt8} {s x y z : List UInt8} (h : spl b s = [x, y, z]) : x.length + y.length + z.length + 2 = s.length := by
 have := spl_sum b s
 rw [h] at this
 simp at this
 omega
def rdRule (s : List UInt8) : Option Rul := match spl 32 s with
 | [a, b, c] => if (numB a && isRule ⟨numV a, (spl 44 b).map scZ, (spl 44 c).map scZ⟩) = true then some ⟨numV a, (spl 44 b).map scZ, (spl 44 c).map scZ⟩ else none
 | _ => none
def rrR (s : List UInt8) : Rul := (rdRule s).getD ⟨0, [], []⟩
def rrC (s : List UInt8) : Int := if (rdRule s).isSome then 0 else 6
theorem rd_no {s : List UInt8} (h : (spl 32 s).length ≠ 3) : rdRule s = none := by
 unfold rdRule
 split
 · rename_i he
   rw [he] at h
   exact absurd rfl h
 · rfl
theorem rd_3 {s a b c : List UInt8} (h : spl 32 s = [a, b, c]) : rdRule s = if (numB a && isRule ⟨numV a, (spl 44 b).map scZ, (spl 44 c).map scZ⟩) = true then some ⟨numV a, (spl 44 b).map scZ, (spl 44 c).map scZ⟩ else none := by
 unfold rdRule
 rw [h]
theorem rr_none {s : List UInt8} (h : rdRule s = none) : rrR s = ⟨0, [], []⟩ ∧ rrC s = 6 := by simp [rrR, rrC, h]
theorem rr_some {s : List UInt8} {r : Rul} (h : rdRule s = some r) : rrR s = r ∧ rrC s = 0 := by simp [rrR, rrC, h]
theorem len_3 {α : Type} {l : List α} (h : l.length = 3) : ∃ a b c, l = [a, b, c] := by
 match l, h with
 | [a, b, c], _ => exact ⟨a, b, c, rfl⟩
theorem areSc_all {l : List Int} (h : areSc l = true) : ∀ x ∈ l, isScaleN x = true := by
 intro x hx
 obtain ⟨i, hi⟩ := List.getElem?_of_mem hx
 have hlt := (List.getElem?_eq_some_iff.1 hi).1
 unfold areSc at h
 rw [Bool.and_eq_true] at h
 have := List.all_eq_true.1 h.1 i (List.mem_range.2 hlt)
 rw [okSc_get hi, Bool.and_eq_true] at this
 exact this.1
theorem okNs_of {s : List UInt8} (h : areSc ((spl 44 s).map scZ) = true) : okNs s = true := by
 unfold okNs
 rw [List.all_eq_true]
 intro x hx
 have h1 := areSc_all h (scZ x) (List.mem_map_of_mem hx)
 unfold okW
 cases hs : scI x with
 | some k => rfl
 | none =>
  have : scZ x = -1 := by unfold scZ; rw [hs]
  rw [this] at h1
  exact absurd h1 (by decide)
theorem rule_parts {n : Int} {a b : List Int} (h : isRule ⟨n, a, b⟩ = true) : 1 ≤ n ∧ n ≤ 100000 ∧ areSc a = true ∧ areSc b = true := by
 unfold isRule at h
 rw [Bool.and_eq_true, Bool.and_eq_true] at h
 have := inR_true h.1.1
 exact ⟨this.1, this.2, h.1.2, h.2⟩
theorem rd_spec {s a b c : List UInt8} {n : Nat} (h : spl 32 s = [a, b, c]) (hn : ∀ m, valN a = some m → n = m) (ho : valN a ≠ none) (h1 : okNs b = true) (h2 : okNs c = true) (hr : isRule ⟨(n : Int), (spl 44 b).map scZ, (spl 44 c).map scZ⟩ = true) : rdRule s = some ⟨(n : Int), (spl 44 b).map scZ, (spl 44 c).map scZ⟩ := by
 cases hv : valN a with
 | none => exact absurd hv ho
 | some m =>
  have e := hn m hv
  subst e
  have hb := rule_parts hr
  have hi := valN_numI hv (by omega)
  have e1 : numV a = (n : Int) := by simp [numV, hi]
  have e2 : numB a = true := by simp [numB, hi]
  rw [rd_3 h, e1, e2, hr]
  rfl
theorem rd_fail {s a b c : List UInt8} (h : spl 32 s = [a, b, c]) (hf : valN a = none ∨ okNs b = false ∨ okNs c = false) : rdRule s = none := by
 rw [rd_3 h]
 by_cases hr : isRule ⟨numV a, (spl 44 b).map scZ, (spl 44 c).map scZ⟩ = true
 · obtain ⟨p1, p2, p3, p4⟩ := rule_parts hr
   rcases hf with hf | hf | hf
   · cases hb : numB a with
     | false => simp
     | true =>
      unfold numB at hb
      cases hi : numI a with
      | none => rw [hi] at hb; cases hb
      | some v =>
       have e : numV a = v := by simp [numV, hi]
       rw [e] at p1 p2
       have := numI_valN hi (by omega) (by omega)
       rw [hf] at this
       cases this
   · rw [okNs_of p3] at hf; cases hf
   · rw [okNs_of p4] at hf; cases hf
 · rw [if_neg (fun e => by rw [Bool.and_eq_true] at e; exact hr e.2)]
theorem rd_bad {s a b c : List UInt8} {n : Nat} (h : spl 32 s = [a, b, c]) (hn : ∀ m, valN a = some m → n = m) (ho : valN a ≠ none) (hr : isRule ⟨(n : Int), (spl 44 b).map scZ, (spl 44 c).map scZ⟩ = false) : rdRule s = none := by
 cases hv : valN a with
 | none => exact absurd hv ho
 | some m =>
  have e := hn m hv
  subst e
  by_cases hbig : (n : Int) ≤ 9223372036854775807
  · have hi := valN_numI hv (by omega)
    have e1 : numV a = (n : Int) := by simp [numV, hi]
    rw [rd_3 h, e1, hr]
    simp
  · obtain ⟨h1, h2⟩ := valN_some.1 hv
    have h3 := valD_digits (n + 1) n (by omega)
    have h4 : valN a = some n := hv
    unfold valN at h4
    split at h4
    · rename_i hc
      have := valD_lt a 13 (by rw [List.take_of_length_le hc.2.1]; exact hc.2.2.1)
      rw [List.take_of_length_le hc.2.1, h2, h3] at this
      have h13 : (10 : Nat) ^ 13 = 10000000000000 := by decide
      omega
    · cases h4
def RdOut (s : List UInt8) (w : World) (e : Ending) (w' : World) : Prop := ∃ x y c1 c2, e = .returned (.tuple #[.agg #[.int .i64 (rrR s).len, .slice x (rrR s).st.length c1, .slice y (rrR s).sl.length c2], .int .i64 (rrC s)]) ∧ Later w w' ∧
 w'.ownsRow w.heap.size 2 1 (.slice x (rrR s).st.length c1) (rrR s).st.length (nums (rrR s).st) ∧ w'.ownsRow w.heap.size 2 1 (.slice y (rrR s).sl.length c2) (rrR s).sl.length (nums (rrR s).sl) ∧
 ((Value.slice y (rrR s).sl.length c2).ownBlock = none ∨ (Value.slice y (rrR s).sl.length c2).ownBlock ≠ (Value.slice x (rrR s).st.length c1).ownBlock)
theorem ap_flip {a b : Option Nat} (h : a = none ∨ a ≠ b) : b = none ∨ b ≠ a := by
 cases b with
 | none => exact .inl rfl
 | some k =>
  right
  intro e
  rcases h with h | h
  · rw [h] at e; cases e
  · exact h e.symm
theorem rd_zero {s : List UInt8} {w w' : World} (h : rdRule s = none) (hL : Later w w') : RdOut s w (.returned (.tuple #[.agg #[.int .i64 0, .slice none 0 0, .slice none 0 0], .int .i64 6])) w' := by
 obtain ⟨e1, e2⟩ := rr_none h
 unfold RdOut
 rw [e1, e2]
 exact ⟨none, none, 0, 0, rfl, hL, World.ownsRow_nil _ _ _ _, World.ownsRow_nil _ _ _ _, .inl rfl⟩
theorem rd_full {s : List UInt8} {w w' : World} {n : Int} {st sl : List Int} {x y : Option Addr} {n1 n2 c1 c2 : Nat} (h : rdRule s = some ⟨n, st, sl⟩) (hL : Later w w') (h1 : w'.ownsRow w.heap.size 2 1 (.slice x n1 c1) st.length (nums st)) (h2 : w'.ownsRow w.heap.size 2 1 (.slice y n2 c2) sl.length (nums sl))
 (hap : (Value.slice y n2 c2).ownBlock = none ∨ (Value.slice y n2 c2).ownBlock ≠ (Value.slice x n1 c1).ownBlock) :
 RdOut s w (.returned (.tuple #[.agg #[.int .i64 n, .slice x n1 c1, .slice y n2 c2], .int .i64 0])) w' := by
 obtain ⟨e1, e2⟩ := rr_some h
 obtain ⟨_, _, q1⟩ := isSl_of h1
 obtain ⟨_, _, q2⟩ := isSl_of h2
 simp only [Value.slice.injEq] at q1 q2
 obtain ⟨-, rfl, -⟩ := q1
 obtain ⟨-, rfl, -⟩ := q2
 unfold RdOut
 rw [e1, e2]
 exact ⟨x, y, c1, c2, rfl, hL, h1, h2, hap⟩
set_option maxHeartbeats 2000000 in
theorem w_specReadRule (s : List UInt8) (hs : s.length ≤ 1048576) (w : World) :
 Calls Tryz.prog 14 #[sv s] w fun e w' => RdOut s w e w' := by
 obtain ⟨P, hP⟩ : ∃ P, spl 32 s = P := ⟨_, rfl⟩
 have hl := spl_len 32 s
 rw [hP] at hl
 have HP := Lib.hid hP
 clear hP
 go_enter Tryz.func14, Tryz.ntmps14
 go_wp2_with fail
 refine (w_l01Split 32 32 rfl s (by omega) _).mono ?_
 rintro e w1 ⟨⟨v, rfl, ho⟩, hL1⟩
 rw [HP.out] at ho
 have HK2 := Lib.hid (hL1.keep (heap_alloc_new _ _))
 have hz1 := hL1.size
 simp only [World.size_alloc] at hz1
 have HW1 := ((Later.refl w).alloc _).trans hL1
 clear hL1
 have HO := Lib.hid ho
 obtain ⟨aP, cP, rfl⟩ := isSl_of ho
 rcases own_shape ho with ⟨_, h0, _⟩ | ⟨g, cap, hv, hg1, hg2, hg3, hg4⟩
 · omega
 cases hv
 clear ho
 obtain ⟨c2, f2, z2⟩ := blk_at HK2.out
 by_cases h3 : P.length = 3
 rotate_left
 · have hb : ((P.length : Int) != 3) = true := by simp; omega
   have HRD := Lib.hid (rd_no (s := s) (by rw [HP.out]; exact h3))
   go_wp2
   refine bodyPost_ret (v := .tuple #[.agg #[.int .i64 0, .slice none 0 0, .slice none 0 0], .int .i64 6]) (by simp [results, Tryz.results14, go_sem, c2, z2]) rfl ?_
   exact rd_zero HRD.out (qla)
 obtain ⟨a, b, c, rfl⟩ := len_3 h3
 have hl3 := spl3_len HP.out
 have cA := row_add HO.out 0 _ (show (strs [a, b, c])[0]? = some (sv a) from rfl)
 have cB := row_add HO.out 1 _ (show (strs [a, b, c])[1]? = some (sv b) from rfl)
 have cC := row_add HO.out 2 _ (show (strs [a, b, c])[2]? = some (sv c) from rfl)
 rw [addr0] at cA cB cC
 have CA := Lib.hid cA
 have CB := Lib.hid cB
 have CC := Lib.hid cC
 clear cB cC h3
 go_wp2_with fail
 refine (w_l01Value a (by omega) _).mono ?_
 rintro e w2 ⟨⟨n, hn, hnv, rfl⟩, hL2⟩
 have HNV := Lib.hid hnv
 obtain ⟨va, hva⟩ : ∃ x, (valN a).isSome = x := ⟨_, rfl⟩
 rw [hva]
 have HVA := Lib.hid hva
 have HK3 := Lib.hid (hL2.keep HK2.out)
 have HO2 := Lib.hid (owns_later HO.out hL2)
 have cB := row_add HO2.out 1 _ (show (strs [a, b, c])[1]? = some (sv b) from rfl)
 rw [addr0] at cB
 have HW2 := HW1.trans hL2
 have hz2 := hL2.size
 clear hL2 c2 f2 z2 cA hva hnv
 go_wp2_with fail
 refine (w_l11ReadNames b (by omega) _).mono ?_
 rintro e w3 ⟨ab, nb, cb, rfl, hL3, hob⟩
 obtain ⟨ob, hob2⟩ : ∃ x, okNs b = x := ⟨_, rfl⟩
 rw [hob2]
 have HOKB := Lib.hid hob2
 have HB3 := Lib.hid hob
 have HK4 := Lib.hid (hL3.keep HK3.out)
 have HO3 := Lib.hid (owns_later HO2.out hL3)
 have cC := row_add HO3.out 2 _ (show (strs [a, b, c])[2]? = some (sv c) from rfl)
 rw [addr0] at cC
 have HW3 := HW2.trans hL3
 have hz3 := hL3.size
 clear hL3 cB hob hob2
 go_wp2_with fail
 refine (w_l11ReadNames c (by omega) _).mono ?_
 rintro e w4 ⟨ac, nc, cc, rfl, hL4, hoc⟩
 obtain ⟨oc, hoc2⟩ : ∃ x, okNs c = x := ⟨_, rfl⟩
 rw [hoc2]
 have HOKC := Lib.hid hoc2
 have HC4 := Lib.hid hoc
 have AP := Lib.hid (own_apart' HB3.out hoc (Nat.le_refl _))
 have HB4 := Lib.hid (owns_later HB3.out hL4)
 have HK5 := Lib.hid (hL4.keep HK4.out)
 have HW4 := HW3.trans hL4
 have hz4 := hL4.size
 clear hL4 cC hoc hoc2
 obtain ⟨c2, f2, z2⟩ := blk_at HK5.out
 cases va
 · have HRD := Lib.hid (rd_fail HP.out (.inl (by have := HVA.out; cases h : valN a with | none => rfl | some m => rw [h] at this; cases this)))
   go_wp2
   refine bodyPost_ret (v := .tuple #[.agg #[.int .i64 0, .slice none 0 0, .slice none 0 0], .int .i64 6]) (by simp [results, Tryz.results14, go_sem, c2, z2]) rfl ?_
   exact rd_zero HRD.out (qla)
 cases ob
 · have HRD := Lib.hid (rd_fail HP.out (.inr (.inl HOKB.out)))
   go_wp2
   refine bodyPost_ret (v := .tuple #[.agg #[.int .i64 0, .slice none 0 0, .slice none 0 0], .int .i64 6]) (by simp [results, Tryz.results14, go_sem, c2, z2]) rfl ?_
   exact rd_zero HRD.out (qla)
 cases oc
 · have HRD := Lib.hid (rd_fail HP.out (.inr (.inr HOKC.out)))
   go_wp2
   refine bodyPost_ret (v := .tuple #[.agg #[.int .i64 0, .slice none 0 0, .slice none 0 0], .int .i64 6]) (by simp [results, Tryz.results14, go_sem, c2, z2]) rfl ?_
   exact rd_zero HRD.out (qla)
 have HVN := Lib.hid (show valN a ≠ none from fun h => by have := HVA.out; rw [h] at this; cases this)
 have eb : resN b = (spl 44 b).map scZ := by unfold resN; rw [if_pos HOKB.out]
 have ec : resN c = (spl 44 c).map scZ := by unfold resN; rw [if_pos HOKC.out]
 have HBm := HB4.out
 have HCm := HC4.out
 rw [eb] at HBm
 rw [ec] at HCm
 obtain ⟨_, _, qb⟩ := isSl_of HBm
 obtain ⟨_, _, qc⟩ := isSl_of HCm
 simp only [Value.slice.injEq] at qb qc
 obtain ⟨-, rfl, -⟩ := qb
 obtain ⟨-, rfl, -⟩ := qc
 have hlb := spl_len 44 b
 have hlc := spl_len 44 c
 obtain ⟨LB, hLB⟩ : ∃ X, (spl 44 b).map scZ = X := ⟨_, rfl⟩
 obtain ⟨LC, hLC⟩ : ∃ X, (spl 44 c).map scZ = X := ⟨_, rfl⟩
 have nb1 : LB.length ≤ 1048576 := by rw [← hLB]; simp; omega
 have nc1 : LC.length ≤ 1048576 := by rw [← hLC]; simp; omega
 rw [hLB] at HBm
 rw [hLC] at HCm
 have HLB := Lib.hid hLB
 have HLC := Lib.hid hLC
 have HB5 := Lib.hid HBm
 have HC5 := Lib.hid HCm
 have ebn : ((spl 44 b).map scZ).length = LB.length := by rw [hLB]
 have ecn : ((spl 44 c).map scZ).length = LC.length := by rw [hLC]
 rw [ebn, ecn]
 try rw [ebn] at AP
 try rw [ecn] at AP
 clear HBm HCm eb ec hLB hLC HB4 HC4 HB3 ebn ecn
 cases hr : isRule ⟨(n : Int), LB, LC⟩
 all_goals
  have HR := Lib.hid hr
  clear hr
  go_wp2_with fail
  refine (w_specIsRule (n : Int) _ _ LB LC _ (reads_of_owns ((HB5.out).alloc _) nb1) (reads_of_owns ((HC5.out).alloc _) nc1)).mono ?_
  rintro e w5 ⟨rfl, hL5⟩
  rw [HR.out]
  have hL5a := hL5
  have HK6 := Lib.hid (hL5.keep (heap_alloc_old _ _ HK5.out))
  have HK7 := Lib.hid (hL5.keep (heap_alloc_new _ _))
  have HB6 := Lib.hid (owns_later ((HB5.out).alloc _) hL5)
  have HC6 := Lib.hid (owns_later ((HC5.out).alloc _) hL5)
  have HW5 := (HW4.alloc _).trans hL5
  have hz5 := hL5.size
  simp only [World.size_alloc] at hz5
  clear hL5 hL5a c2 f2 z2
  obtain ⟨c2, f2, z2⟩ := blk_at HK6.out
  obtain ⟨c7, f7, z7⟩ := blk_at HK7.out
 · have HRD := Lib.hid (rd_bad HP.out HNV.out HVN.out (by rw [HLB.out, HLC.out]; exact HR.out))
   go_wp2
   refine bodyPost_ret (v := .tuple #[.agg #[.int .i64 0, .slice none 0 0, .slice none 0 0], .int .i64 6]) (by simp [results, Tryz.results14, go_sem, c2, z2]) rfl ?_
   exact rd_zero HRD.out (qla)
 · have HRD := Lib.hid (rd_spec HP.out HNV.out HVN.out HOKB.out HOKC.out (by rw [HLB.out, HLC.out]; exact HR.out))
   go_wp2
   refine bodyPost_ret (v := .tuple #[.agg #[.int .i64 (n : Int), .slice ab LB.length cb, .slice ac LC.length cc], .int .i64 0]) (by simp [results, Tryz.results14, go_sem, c2, z2]) rfl ?_
   refine rd_full (n1 := LB.length) (n2 := LC.length) (by rw [HRD.out, HLB.out, HLC.out]) (qla) (owns_base (base := w2.heap.size) ?_ (by omega)) (owns_base (base := w3.heap.size) ?_ (by omega)) ?_
   · exact owns_setNe (owns_setNe (owns_setNe HB6.out (fun e => by have := (HB6.out.lt _ e).1; omega) _ _) (fun e => by have := (HB6.out.lt _ e).1; omega) _ _) (fun e => by have := (HB6.out.lt _ e).1; omega) _ _
   · exact owns_setNe (owns_setNe (owns_setNe HC6.out (fun e => by have := (HC6.out.lt _ e).1; omega) _ _) (fun e => by have := (HC6.out.lt _ e).1; omega) _ _) (fun e => by have := (HC6.out.lt _ e).1; omega) _ _
   · exact ap_flip AP.out
end Go.Proofs.YtgngbdacejghcaaGreatDoor
