/- DERIVED. Walks: sorted terms. -/
import Derived.Test.YtkoojngonldcbaaM6
import Derived.Test.YtkoojngonldcbaaBA
namespace Go.Proofs.Ytkoojngonldcbaa
set_option linter.unusedVariables false
set_option linter.unusedSimpArgs false
open Go.RowKit
set_option maxRecDepth 100000

theorem weave_nil : ∀ ds : List Trm, weave ds [] = ds
  | [] => by rw [weave]
  | d :: ds => by rw [weave, weave]
theorem weave_step : ∀ ds ms : List Trm, weave ds ms = ds.take 1 ++ ms.take 1 ++ weave (ds.drop 1) (ms.drop 1)
  | [], ms => by
    rw [weave]
    cases ms with
    | nil => simp [weave]
    | cons m ms => simp [weave]
  | d :: ds, [] => by rw [weave_nil]; simp [weave_nil]
  | d :: ds, m :: ms => by rw [weave, weave]; simp
def dvs (l : List Trm) : List Trm := l.filter fun x => x.dv
def mls (l : List Trm) : List Trm := l.filter fun x => !x.dv
theorem dvs_snoc_y {l : List Trm} {k : Nat} {t : Trm} (h : l[k]? = some t) (hd : t.dv = true) : dvs (l.take (k + 1)) = dvs (l.take k) ++ [t] ∧ mls (l.take (k + 1)) = mls (l.take k) := by
  rw [take_snoc' h]; simp [dvs, mls, hd]
theorem dvs_snoc_n {l : List Trm} {k : Nat} {t : Trm} (h : l[k]? = some t) (hd : t.dv = false) : dvs (l.take (k + 1)) = dvs (l.take k) ∧ mls (l.take (k + 1)) = mls (l.take k) ++ [t] := by
  rw [take_snoc' h]; simp [dvs, mls, hd]
theorem dvs_len (l : List Trm) : (dvs l).length ≤ l.length := List.length_filter_le _ _
theorem mls_len (l : List Trm) : (mls l).length ≤ l.length := List.length_filter_le _ _
theorem sortL_eq {l : List Trm} {t : Trm} (h : l[0]? = some t) : sortL l = t :: weave (dvs (l.drop 1)) (mls (l.drop 1)) := by
  cases l with
  | nil => simp at h
  | cons x l => simp at h; subst h; rfl

theorem weave_at (D M : List Trm) (k : Nat) : weave (D.drop k) (M.drop k) = D[k]?.toList ++ M[k]?.toList ++ weave (D.drop (k + 1)) (M.drop (k + 1)) := by
  rw [weave_step, List.take_one, List.take_one, List.head?_drop, List.head?_drop, List.drop_drop, List.drop_drop]

/-- Two rows lie apart. -/
def Apart (v u : Value) : Prop := ∀ j, v.ownBlock = some j → u.ownBlock ≠ some j
theorem Apart.symm {v u : Value} (h : Apart v u) : Apart u v := fun j a b => h j b a
/-- out = append(out, x), x just laid in a block of its own; the new slice lies in the old one's row or in a new block. -/
theorem app1at_Term {ops : Array Oper} {rest : List Oper} {o : Oper} {a : Act} {w : World} {Q : Exit → Act → World → Prop} (hgd : o.guard = none) (s x' : Operand)
    (ho : o.op = .call { callee := .builtin .append, args := #[s, x'], argTypes := #[24, 24] })
    (base : Nat) (v : Value) (l : List Trm) (x : Trm) (hs : a.eval s = v) (hown : w.ownsRow base 55 3 v l.length (trms l))
    (hx : a.eval x' = .slice (some ⟨w.heap.size, 0, none⟩) 1 1) (hlen : l.length + 1 ≤ 1048576) (hbase : base ≤ w.heap.size)
    (h : ∀ v' w', w'.ownsRow base 55 3 v' (l ++ [x]).length (trms (l ++ [x])) → w.grownBy w' v.ownBlock → (∀ j, v'.ownBlock = some j → v.ownBlock = some j ∨ w.heap.size ≤ j) → wpList Try.prog ops Q rest (a.put o.dst v') w') :
    wpList Try.prog ops Q (o :: rest) a (w.alloc (.cells #[.int .i64 x.f.d, .int .i64 x.f.t, .bool x.dv] 55)) := by
  obtain ⟨i0, hi, hz0, hz1, hz2⟩ := info_parts ia_Term
  have hnews : ∀ j u, (trms [x])[j]? = some u → (w.alloc (.cells #[.int .i64 x.f.d, .int .i64 x.f.t, .bool x.dv] 55)).cell? ((⟨w.heap.size, 0, none⟩ : Addr).add j) = some u := by
    intro j u hj
    have hb : (w.alloc (.cells #[.int .i64 x.f.d, .int .i64 x.f.t, .bool x.dv] 55)).heap[w.heap.size]? = some (.cells #[.int .i64 x.f.d, .int .i64 x.f.t, .bool x.dv] 55 (0, 0)) := heap_alloc_new _ _
    have ha : (Addr.add ⟨w.heap.size, 0, none⟩ j) = ⟨w.heap.size, j, none⟩ := by
      unfold Addr.add
      split
      · rename_i hz; subst hz; rfl
      · simp
    rw [ha]
    simp only [World.cell?, hb]
    simpa [trms, Trm.cells] using hj
  refine wpList_append_own_at (P := Try.prog) (w := w.alloc (.cells #[.int .i64 x.f.d, .int .i64 x.f.t, .bool x.dv] 55)) hgd s x' 24 ho base 55 i0 _ 3 24 Try.underlying24 hi hz0 hz1 hz2 rfl (by decide) v l.length (trms l) hs (hown.alloc _) ⟨w.heap.size, 0, none⟩ 1 1 (trms [x]) hx (by rw [trms_len]; rfl) hnews (oneCell_trms _) (by unfold maxLen; omega) (by omega) (Nat.le_trans hbase (by simp)) ?_
  intro v' w' ho' hg _ hat
  refine h v' w' ?_ (grown_alloc hg) (fun j hj => ?_)
  · rw [List.length_append, show trms (l ++ [x]) = trms l ++ trms [x] from by simp [trms]]
    exact ho'
  · rcases hat with hat | hat
    · exact .inl (hat.symm.trans hj)
    · rw [hat] at hj
      have := Option.some.inj hj
      simp at this
      exact .inr (by omega)
theorem apart_grown {w : World} {base' : Nat} {e' : TypeId} {s' : Nat} {v v' u : Value} {n' : Nat} {xs' : List Value} (hat : ∀ j, v'.ownBlock = some j → v.ownBlock = some j ∨ w.heap.size ≤ j) (h : Apart v u) (hu : w.ownsRow base' e' s' u n' xs') : Apart v' u := by
  intro j hj hu'
  rcases hat j hj with h1 | h1
  · exact h j h1 hu'
  · have := (hu.lt j hu').2
    omega

set_option maxHeartbeats 2000000 in
theorem w_specSortTerms (v : Value) (l : List Trm) (w : World) (h : IsTrms w v l) :
    Calls Try.prog 15 #[v] w fun e w' => ∃ v', e = .returned (.tuple #[v', .int .i64 (sortTerms l).2]) ∧ Later w w' ∧ w'.ownsRow w.heap.size 55 3 v' (sortTerms l).1.length (trms (sortTerms l).1) := by
  cases hc : isChain l
  · have hf : sortTerms l = ([], 1) := by simp [sortTerms, hc]
    have HC := Lib.hid hc
    clear hc
    rw [hf]
    go_enter Try.func15, Try.ntmps15
    go_wp2_with fail
    refine (w_specIsChain _ _ _ h).mono ?_
    rintro e w1 ⟨rfl, hL⟩
    rw [HC.out]
    go_wp2
    go_ret2
    exact ⟨_, rfl, by (repeat (with_reducible first | exact Later.refl _ | refine Later.alloc ?_ _ | refine Later.drew ?_ | refine Later.drewN ?_ _ | refine Later.setCell ?_ (by simp; try omega) _ | refine Later.trans ?_ (by assumption))), World.ownsRow_nil _ _ _ _⟩
  have h6 := (isChain_true hc).2.1
  have h1 := (isChain_true hc).1
  obtain ⟨t0, ht0⟩ := get_ex (l := l) (k := 0) (by omega)
  have hf : sortTerms l = (t0 :: weave (dvs (l.drop 1)) (mls (l.drop 1)), 0) := by simp only [sortTerms, hc, if_true]; rw [sortL_eq ht0]
  have HF := Lib.hid hf
  have HC := Lib.hid hc
  have HT0 := Lib.hid ht0
  have H := Lib.hid h
  clear hc hf ht0
  obtain ⟨hxl1, hn1, a1, cap1, rfl, hcap1, hmax1, hrow1⟩ := h
  have HR1 := Lib.hid hrow1
  clear hrow1 hxl1
  obtain ⟨b1, off1, rfl, hr1⟩ := HR1.out (by omega)
  clear HR1
  have HRw := Lib.hid hr1
  clear hr1
  go_enter Try.func15, Try.ntmps15
  go_wp2_with fail
  refine (w_specIsChain _ _ _ H.out).mono ?_
  rintro e w1 ⟨rfl, hL⟩
  rw [HC.out]
  have HL1 := Lib.hid hL
  have hz1 := hL.size
  clear hL
  go_wp2
  go_loopw [4, 5, 6] (fun d m i wr => ∃ k : Nat, k ≤ l.length - 1 ∧ i = .int .i64 ((k + 1 : Nat) : Int) ∧ Later w wr ∧ wr.ownsRow w.heap.size 55 3 d (dvs ((l.drop 1).take k)).length (trms (dvs ((l.drop 1).take k))) ∧ wr.ownsRow w.heap.size 55 3 m (mls ((l.drop 1).take k)).length (trms (mls ((l.drop 1).take k))) ∧ Hid (Apart d m)) (fun d m i _ => l.length - (intOf i).toNat)
  case atStart =>
    refine ⟨0, Nat.zero_le _, rfl, (HL1.out.alloc _).alloc _, ?_, ?_, ?_⟩
    · have h := (own_empty (w := w1) (base := w.heap.size) hz1 55 3).alloc (.cells #[] 55)
      simpa [dvs, trms] using h
    · have h := own_empty (w := w1.alloc (.cells #[] 55)) (base := w.heap.size) (by simp; omega) 55 3
      simpa [mls, trms] using h
    · intro j a b
      simp [Value.ownBlock] at a b
      omega
  case round =>
    obtain ⟨k, hk, rfl, hL, hD, hM, HA⟩ := hrel
    have hdl := dvs_len ((l.drop 1).take k)
    have hml := mls_len ((l.drop 1).take k)
    rw [List.length_take, List.length_drop] at hdl hml
    by_cases hlt : k + 1 < l.length
    · obtain ⟨t, ht⟩ := get_ex (l := l) (k := k + 1) hlt
      have htd : (l.drop 1)[k]? = some t := by rw [List.getElem?_drop, Nat.add_comm]; exact ht
      have HT := Lib.hid htd
      obtain ⟨c1_0, c1_1, c1_2⟩ := (HRw.out.later hL).trm ht
      have hbr := (HRw.out.later hL).1
      clear ht
      cases hdv : t.dv
      · have hs := dvs_snoc_n htd hdv
        have HS := Lib.hid hs
        have HD := Lib.hid hD
        have HM := Lib.hid hM
        have HLr := Lib.hid hL
        have hml2 : (mls ((l.drop 1).take k)).length + 1 ≤ 1048576 := by omega
        have hz := hL.size
        rw [hdv] at c1_2
        have ht2 : t = ⟨⟨t.f.d, t.f.t⟩, false⟩ := by cases t with | mk f d => cases f; simp at hdv; subst hdv; rfl
        have HT2 := Lib.hid ht2
        clear hs htd hD hM hL hdl hml ht2
        go_wp2_with (at_builtin; refine app1at_Term rfl (.tmp 32) (.tmp 37) rfl w.heap.size _ (mls ((l.drop 1).take k)) ⟨⟨t.f.d, t.f.t⟩, false⟩ rfl HM.out (by simp [Act.eval, Array.getD]) hml2 hz ?_; intro v1 w4 ho4 hg4 hat4)
        go_roundw
        case rel =>
          refine ⟨k + 1, by omega, by go_num, ?_, ?_, ?_, ?_⟩
          · exact HLr.out.own (Nat.le_refl _) HM.out hg4
          · rw [HS.out.1]
            exact rows_grown HD.out hg4 HA.out
          · rw [HS.out.2, HT2.out]
            exact ho4
          · exact (apart_grown hat4 HA.out.symm HD.out).symm
        case measure => simp [intOf]; omega
      · have hs := dvs_snoc_y htd hdv
        have HS := Lib.hid hs
        have HD := Lib.hid hD
        have HM := Lib.hid hM
        have HLr := Lib.hid hL
        have hml2 : (dvs ((l.drop 1).take k)).length + 1 ≤ 1048576 := by omega
        have hz := hL.size
        rw [hdv] at c1_2
        have ht2 : t = ⟨⟨t.f.d, t.f.t⟩, true⟩ := by cases t with | mk f d => cases f; simp at hdv; subst hdv; rfl
        have HT2 := Lib.hid ht2
        clear hs htd hD hM hL hdl hml ht2
        go_wp2_with (at_builtin; refine app1at_Term rfl (.tmp 25) (.tmp 30) rfl w.heap.size _ (dvs ((l.drop 1).take k)) ⟨⟨t.f.d, t.f.t⟩, true⟩ rfl HD.out (by simp [Act.eval, Array.getD]) hml2 hz ?_; intro v1 w4 ho4 hg4 hat4)
        go_roundw
        case rel =>
          refine ⟨k + 1, by omega, by go_num, ?_, ?_, ?_, ?_⟩
          · exact HLr.out.own (Nat.le_refl _) HD.out hg4
          · rw [HS.out.1, HT2.out]
            exact ho4
          · rw [HS.out.2]
            exact rows_grown HM.out hg4 HA.out.symm
          · exact apart_grown hat4 HA.out HM.out
        case measure => simp [intOf]; omega
    · have hke : k + 1 = l.length := by omega
      have htk : (l.drop 1).take k = l.drop 1 := List.take_of_length_le (by rw [List.length_drop]; omega)
      rw [htk] at hD hM hdl hml
      obtain ⟨D, hDd⟩ : ∃ D, D = dvs (l.drop 1) := ⟨_, rfl⟩
      obtain ⟨M, hMd⟩ : ∃ M, M = mls (l.drop 1) := ⟨_, rfl⟩
      rw [← hDd] at hD hdl
      rw [← hMd] at hM hml
      have hf := HF.out
      rw [← hDd, ← hMd] at hf
      have HF2 := Lib.hid hf
      have hdl : D.length < l.length := by omega
      have hml : M.length < l.length := by omega
      clear hf HF htk hDd hMd hke hk
      generalize k + 1 = q at hlt ⊢
      obtain ⟨ad, cpd, rfl⟩ := isSl_of hD
      obtain ⟨am, cpm, rfl⟩ := isSl_of hM
      obtain ⟨c1_0, c1_1, c1_2⟩ := (HRw.out.later hL).trm HT0.out
      simp only [Nat.zero_mul, Nat.add_zero] at c1_0 c1_1 c1_2
      have hbr := (HRw.out.later hL).1
      have hz := hL.size
      have HD := Lib.hid hD
      have HM := Lib.hid hM
      have HLr := Lib.hid hL
      clear hD hM hL
      go_wp2
      go_loopw [7, 8] (fun o i wr => ∃ (k : Nat) (os : List Trm), k ≤ l.length ∧ i = .int .i64 (k : Nat) ∧ Later w wr ∧ wr.ownsRow w.heap.size 55 3 o os.length (trms os) ∧ wr.ownsRow w.heap.size 55 3 (.slice ad D.length cpd) D.length (trms D) ∧ wr.ownsRow w.heap.size 55 3 (.slice am M.length cpm) M.length (trms M) ∧ Hid (Apart o (.slice ad D.length cpd)) ∧ Hid (Apart o (.slice am M.length cpm)) ∧ os ++ weave (D.drop k) (M.drop k) = t0 :: weave D M ∧ os.length ≤ 1 + 2 * k) (fun _ i _ => l.length - (intOf i).toNat)
      case atStart =>
        have hO0 : (wr.alloc (.cells #[.int .i64 t0.f.d, .int .i64 t0.f.t, .bool t0.dv] 55)).ownsRow w.heap.size 55 3 (.slice (some ⟨wr.heap.size, 0, none⟩) 1 1) 1 (trms [t0]) := ⟨rfl, .inr ⟨wr.heap.size, 1, #[.int .i64 t0.f.d, .int .i64 t0.f.t, .bool t0.dv], rfl, hz, heap_alloc_new _ _, by decide, by decide, rfl, rfl⟩⟩
        refine ⟨0, [t0], Nat.zero_le _, rfl, HLr.out.alloc _, hO0, HD.out.alloc _, HM.out.alloc _, ?_, ?_, rfl, by simp⟩
        · intro j a b
          simp [Value.ownBlock] at a
          have := (HD.out.lt j b).2
          omega
        · intro j a b
          simp [Value.ownBlock] at a
          have := (HM.out.lt j b).2
          omega
      case round =>
        obtain ⟨k, os, hk, rfl, hL, hO, hD, hM, HAD, HAM, hE, hol⟩ := hrel
        clear HD HM HLr
        by_cases hlt : k < l.length
        · by_cases hd : k < D.length
          · by_cases hm : k < M.length
            · have HD := Lib.hid hD
              have HM := Lib.hid hM
              have HLr := Lib.hid hL
              have hz := hL.size
              have HO := Lib.hid hO
              have HE := Lib.hid hE
              have hol2 : os.length + 1 ≤ 1048576 := by omega
              obtain ⟨td, htd⟩ := get_ex (l := D) (k := k) hd
              have HTd := Lib.hid htd
              obtain ⟨tm, htm⟩ := get_ex (l := M) (k := k) hm
              have HTm := Lib.hid htm
              rcases own_shape hD with ⟨_, hq, _⟩ | ⟨gd, cpd, hsd, _, hgd, _, _⟩
              · omega
              cases hsd
              obtain ⟨d0, d1, d2⟩ := own_trm hD htd
              rcases own_shape hM with ⟨_, hq, _⟩ | ⟨gm, cpm, hsm, _, hgm, _, _⟩
              · omega
              cases hsm
              clear hD hM hL hO hE htd htm
              go_wp2_with (at_builtin; first | (refine app1at_Term rfl (.tmp 53) (.tmp 58) rfl w.heap.size _ os td rfl HO.out (by simp [Act.eval, Array.getD]) hol2 hz ?_; intro v1 w4 ho4 hg4 hat4; have HL4 := Lib.hid (HLr.out.own (Nat.le_refl _) HO.out hg4); have hz4 := HL4.out.size; have hD4 := rows_grown HD.out hg4 HAD.out.symm; have hM4 := rows_grown HM.out hg4 HAM.out.symm; have hA4 := apart_grown hat4 HAD.out HD.out; have hB4 := apart_grown hat4 HAM.out HM.out; have HA4 := Lib.hid hA4; have HB4 := Lib.hid hB4; have HD4 := Lib.hid hD4; obtain ⟨m0, m1, m2⟩ := own_trm hM4 HTm.out; have hgm4 := (own_shape hM4); have hgm4 : gm < w4.heap.size := (by rcases hgm4 with ⟨hq, _, _⟩ | ⟨_, _, hq, _, hq2, _⟩ <;> cases hq; exact hq2); have HM4 := Lib.hid hM4; have HO4 := Lib.hid ho4; have hol3 : (os ++ [td]).length + 1 ≤ 1048576 := (by rw [List.length_append, List.length_cons, List.length_nil]; omega); clear hD4 hM4 hA4 hB4 ho4) | (refine app1at_Term rfl (.tmp 64) (.tmp 69) rfl w.heap.size _ (os ++ [td]) tm rfl HO4.out (by simp [Act.eval, Array.getD]) hol3 hz4 ?_; intro v2 w5 ho5 hg5 hat5))
              go_roundw
              case rel =>
                refine ⟨k + 1, (os ++ [td] ++ [tm]), by omega, by go_num, HL4.out.own (Nat.le_refl _) HO4.out hg5, ho5, rows_grown HD4.out hg5 HA4.out.symm, rows_grown HM4.out hg5 HB4.out.symm, apart_grown hat5 HA4.out HD4.out, apart_grown hat5 HB4.out HM4.out, ?_, ?_⟩
                · rw [← HE.out, weave_at D M k, HTd.out, HTm.out]; simp
                · first | omega | (simp only [List.length_append, List.length_cons, List.length_nil]; omega)
              case measure => simp [intOf]; omega
            · have HD := Lib.hid hD
              have HM := Lib.hid hM
              have HLr := Lib.hid hL
              have hz := hL.size
              have HO := Lib.hid hO
              have HE := Lib.hid hE
              have hol2 : os.length + 1 ≤ 1048576 := by omega
              obtain ⟨td, htd⟩ := get_ex (l := D) (k := k) hd
              have HTd := Lib.hid htd
              have hnm : M[k]? = none := List.getElem?_eq_none (by omega)
              have HTm := Lib.hid hnm
              rcases own_shape hD with ⟨_, hq, _⟩ | ⟨gd, cpd, hsd, _, hgd, _, _⟩
              · omega
              cases hsd
              obtain ⟨d0, d1, d2⟩ := own_trm hD htd
              clear hD hM hL hO hE hnm htd
              go_wp2_with (at_builtin; refine app1at_Term rfl (.tmp 53) (.tmp 58) rfl w.heap.size _ os td rfl HO.out (by simp [Act.eval, Array.getD]) hol2 hz ?_; intro v1 w4 ho4 hg4 hat4; have HL4 := Lib.hid (HLr.out.own (Nat.le_refl _) HO.out hg4); have hz4 := HL4.out.size; have hD4 := rows_grown HD.out hg4 HAD.out.symm; have hM4 := rows_grown HM.out hg4 HAM.out.symm; have hA4 := apart_grown hat4 HAD.out HD.out; have hB4 := apart_grown hat4 HAM.out HM.out; have HA4 := Lib.hid hA4; have HB4 := Lib.hid hB4; have HD4 := Lib.hid hD4; have HM4 := Lib.hid hM4; have HO4 := Lib.hid ho4; have hol3 : (os ++ [td]).length + 1 ≤ 1048576 := (by rw [List.length_append, List.length_cons, List.length_nil]; omega); clear hD4 hM4 hA4 hB4 ho4)
              go_roundw
              case rel =>
                refine ⟨k + 1, (os ++ [td]), by omega, by go_num, HL4.out, HO4.out, HD4.out, HM4.out, HA4.out, HB4.out, ?_, ?_⟩
                · rw [← HE.out, weave_at D M k, HTd.out, HTm.out]; simp
                · first | omega | (simp only [List.length_append, List.length_cons, List.length_nil]; omega)
              case measure => simp [intOf]; omega
          · by_cases hm : k < M.length
            · have HD := Lib.hid hD
              have HM := Lib.hid hM
              have HLr := Lib.hid hL
              have hz := hL.size
              have HO := Lib.hid hO
              have HE := Lib.hid hE
              have hol2 : os.length + 1 ≤ 1048576 := by omega
              have hnd : D[k]? = none := List.getElem?_eq_none (by omega)
              have HTd := Lib.hid hnd
              obtain ⟨tm, htm⟩ := get_ex (l := M) (k := k) hm
              have HTm := Lib.hid htm
              rcases own_shape hM with ⟨_, hq, _⟩ | ⟨gm, cpm, hsm, _, hgm, _, _⟩
              · omega
              cases hsm
              obtain ⟨m0, m1, m2⟩ := own_trm hM htm
              clear hD hM hL hO hE hnd htm
              go_wp2_with (at_builtin; refine app1at_Term rfl (.tmp 64) (.tmp 69) rfl w.heap.size _ os tm rfl HO.out (by simp [Act.eval, Array.getD]) hol2 hz ?_; intro v1 w4 ho4 hg4 hat4)
              go_roundw
              case rel =>
                refine ⟨k + 1, (os ++ [tm]), by omega, by go_num, HLr.out.own (Nat.le_refl _) HO.out hg4, ho4, rows_grown HD.out hg4 HAD.out.symm, rows_grown HM.out hg4 HAM.out.symm, apart_grown hat4 HAD.out HD.out, apart_grown hat4 HAM.out HM.out, ?_, ?_⟩
                · rw [← HE.out, weave_at D M k, HTd.out, HTm.out]; simp
                · first | omega | (simp only [List.length_append, List.length_cons, List.length_nil]; omega)
              case measure => simp [intOf]; omega
            · have HD := Lib.hid hD
              have HM := Lib.hid hM
              have HLr := Lib.hid hL
              have hz := hL.size
              have HO := Lib.hid hO
              have HE := Lib.hid hE
              have hol2 : os.length + 1 ≤ 1048576 := by omega
              have hnd : D[k]? = none := List.getElem?_eq_none (by omega)
              have HTd := Lib.hid hnd
              have hnm : M[k]? = none := List.getElem?_eq_none (by omega)
              have HTm := Lib.hid hnm
              clear hD hM hL hO hE hnd hnm
              go_wp2
              go_roundw
              case rel =>
                refine ⟨k + 1, os, by omega, by go_num, HLr.out, HO.out, HD.out, HM.out, HAD.out, HAM.out, ?_, ?_⟩
                · rw [← HE.out, weave_at D M k, HTd.out, HTm.out]; simp
                · first | omega | (simp only [List.length_append, List.length_cons, List.length_nil]; omega)
              case measure => simp [intOf]; omega
        · have hk2 : k = l.length := by omega
          have he : os = t0 :: weave D M := by
            rw [← hE, List.drop_eq_nil_of_le (by omega), List.drop_eq_nil_of_le (by omega)]
            simp [weave]
          have HO := Lib.hid hO
          have HLr := Lib.hid hL
          have HE := Lib.hid he
          clear hO hL hE he hD hM
          obtain ⟨ao, cpo, rfl⟩ := isSl_of HO.out
          go_wp2
          go_ret2
          exact ⟨_, by rw [HF2.out]; rfl, HLr.out, by rw [HF2.out, ← HE.out]; exact HO.out⟩

/-- A slice lies in blocks of P alone. -/
def InB (v : Value) (P : Nat → Prop) : Prop := ∀ b off n c, v = .slice (some ⟨b, off, none⟩) n c → P b
theorem reads_grown {w w' : World} {v : Value} {n sz : Nat} {xs : List Value} {row : Option Nat} (h : Reads w v n sz xs) (hg : w.grownBy w' row) (hr : InB v fun b => row ≠ some b) : Reads w' v n sz xs := by
  obtain ⟨h1, h2, a, cap, rfl, h4, h5, h6⟩ := h
  refine ⟨h1, h2, a, cap, rfl, h4, h5, fun h0 => ?_⟩
  obtain ⟨b, off, rfl, hb, hc⟩ := h6 h0
  refine ⟨b, off, rfl, Nat.lt_of_lt_of_le hb hg.size, fun j u hj => ?_⟩
  rw [World.cell?_of_block (w := w) (hg.block b hb (fun e => hr b off _ _ rfl e.symm))]
  exact hc j u hj
theorem reads_set {w : World} {v : Value} {n sz : Nat} {xs : List Value} {K : Nat} (h : Reads w v n sz xs) (hr : InB v fun b => b ≠ K) (j : Nat) (x : Value) : Reads (w.setCell ⟨K, j, none⟩ x) v n sz xs :=
  reads_grown h (grown_setCell (grown_refl w (some K)) j x) (fun b off n c e e' => hr b off n c e (Option.some.inj e').symm)
theorem reads_tl {w : World} {b off cap : Nat} {t : Trm} {r : List Trm} {n : Nat} (hn : n = r.length + 1) (h : Reads w (.slice (some ⟨b, off, none⟩) n cap) n 3 (trms (t :: r))) :
    (cap = 1 → Reads w (.slice (some ⟨b, off, none⟩) 0 0) r.length 3 (trms r)) ∧ (¬ cap = 1 → Reads w (.slice (some ⟨b, off + 3, none⟩) (n - 1) (cap - 1)) r.length 3 (trms r)) := by
  subst hn
  obtain ⟨h1, h2, a, cp, he, h4, h5, h6⟩ := h
  cases he
  obtain ⟨b', off', he, hr⟩ := h6 (by omega)
  cases he
  refine ⟨fun hc => ?_, fun hc => ?_⟩
  · have hr0 : r = [] := List.eq_nil_of_length_eq_zero (by omega)
    subst hr0
    exact ⟨rfl, by decide, _, _, rfl, Nat.le_refl _, by decide, fun h0 => absurd h0 (Nat.lt_irrefl _)⟩
  · exact ⟨trms_len _, by omega, _, _, rfl, by omega, by omega, fun _ => ⟨_, _, rfl, by simpa [trms, Trm.cells] using hr.drop 3⟩⟩
theorem inB_own {w : World} {base : Nat} {e : TypeId} {s : Nat} {v : Value} {n : Nat} {xs : List Value} (ho : w.ownsRow base e s v n xs) {K : Nat} (hK : K < base) : InB v fun b => b ≠ K := by
  intro b off m c he
  rcases own_shape ho with ⟨rfl, _, _⟩ | ⟨g, cap, rfl, hg, _⟩
  · cases he
  · cases he; omega
theorem inB_lt {w : World} {base : Nat} {e : TypeId} {s : Nat} {v : Value} {n : Nat} {xs : List Value} (ho : w.ownsRow base e s v n xs) : InB v fun b => b < w.heap.size := by
  intro b off m c he
  rcases own_shape ho with ⟨rfl, _, _⟩ | ⟨g, cap, rfl, hg, hl, _⟩
  · cases he
  · cases he; exact hl

def slLen : Value → Nat
  | .slice _ n _ => n
  | _ => 0
def Good (w : World) (o : Value) (K : Nat) (v : Value) : Prop := InB v fun b => b < w.heap.size ∧ b ≠ K ∧ o.ownBlock ≠ some b
theorem Good.step {w w' : World} {o o1 : Value} {K : Nat} {v : Value} (h : Good w o K v) (hat : ∀ j, o1.ownBlock = some j → o.ownBlock = some j ∨ w.heap.size ≤ j) (hs : w.heap.size ≤ w'.heap.size) : Good w' o1 K v := by
  intro b off n c e
  obtain ⟨h1, h2, h3⟩ := h b off n c e
  refine ⟨by omega, h2, fun e' => ?_⟩
  rcases hat b e' with h4 | h4
  · exact h3 h4
  · omega
theorem Good.tl {w : World} {o : Value} {K b off n c : Nat} (h : Good w o K (.slice (some ⟨b, off, none⟩) n c)) (off' n' c' : Nat) : Good w o K (.slice (some ⟨b, off', none⟩) n' c') := by
  intro b' o' n2 c2 e
  cases e
  exact h b off n c rfl
theorem Good.reads {w w' : World} {o : Value} {K : Nat} {v : Value} (h : Good w o K v) {n sz : Nat} {xs : List Value} (hr : Reads w v n sz xs) (hg : w.grownBy w' o.ownBlock) (j : Nat) (x : Value) : Reads (w'.setCell ⟨K, j, none⟩ x) v n sz xs :=
  reads_set (reads_grown hr hg fun b off n c e => (h b off n c e).2.2) (fun b off n c e => (h b off n c e).2.1) j x
theorem Good.of {w : World} {base : Nat} {e : TypeId} {s : Nat} {o v : Value} {n : Nat} {xs : List Value} (ho : w.ownsRow base e s v n xs) {K : Nat} (hK : K < base) (hap : Apart v o) : Good w o K v := by
  intro b off m c he
  rcases own_shape ho with ⟨rfl, _, _⟩ | ⟨g, cap, rfl, hg, hl, _⟩
  · cases he
  · cases he
    exact ⟨hl, by omega, hap _ rfl⟩

theorem sort_end {tn : Nat} {os k0 k1 : List Trm} (h : k0 = [] ∨ k1 = []) : os ++ (if tn = 0 then weave k0 k1 else weave k1 k0) = os ++ k0 ++ k1 := by
  have e : ∀ l, weave [] l = l := fun l => by rw [weave]
  rcases h with rfl | rfl <;> split <;> simp [e, weave_nil]
theorem append_nothing {P : Program} (w : World) (t ty e : TypeId) (i : TypeInfo) (ht : P.underlying t = some (.slice e)) (hi : P.info? e = some i) (a : Option Addr) (n cap c : Nat) (h : n ≤ cap) :
    (Builtin.append_ #[t, t] ty #[.slice a n cap, .slice none 0 c]).run P w = .ok (.slice a n cap) w := by
  cases a <;> simp [Builtin.append_, run_underlying ht, sizeOf, typeInfo, hi, Builtin.lenOf, Builtin.firstCells, loadCells, loadCellsFrom, storeCells, h]
/-- out = append(out, xs...), one operation; xs may be nil. -/
theorem wpA_TermR {o : Oper} {a : Act} {w : World} {K : Act → World → Prop} {Q : Exit → Act → World → Prop} (s x : Operand)
    (ho : o.op = .call { callee := .builtin .append, args := #[s, x], argTypes := #[24, 24] })
    (base : Nat) (v : Value) (l : List Trm) (hs : a.eval s = v) (hown : w.ownsRow base 55 3 v l.length (trms l))
    (u : Value) (news : List Trm) (hx : a.eval x = u) (hr : Reads w u news.length 3 (trms news))
    (hlen : l.length + news.length ≤ 1048576) (hbase : base ≤ w.heap.size)
    (h : ∀ v' w', w'.ownsRow base 55 3 v' (l ++ news).length (trms (l ++ news)) → w.grownBy w' v.ownBlock → (∀ j, v'.ownBlock = some j → v.ownBlock = some j ∨ w.heap.size ≤ j) → K (a.put o.dst v') w') :
    Oper.wp Try.prog o a w K Q := by
  obtain ⟨i0, hi, hz0, hz1, hz2⟩ := info_parts ia_Term
  obtain ⟨_, _, ax, cx, rfl, _, _, hrow⟩ := hr
  cases ax with
  | some ad =>
    have hnews : ∀ j u, (trms news)[j]? = some u → w.cell? (ad.add j) = some u := by
      intro j u hj
      by_cases h0 : 0 < news.length
      · obtain ⟨b, off, he, hrw⟩ := hrow h0
        cases he
        exact hrw.add j u hj
      · have : news = [] := List.eq_nil_of_length_eq_zero (by omega)
        subst this
        simp [trms] at hj
    obtain ⟨v', w', hr, h2, h3, h4, h5⟩ := run_append_own_at (P := Try.prog) w base 24 o.type 55 i0 _ 3 24 Try.underlying24 hi hz0 hz1 hz2 rfl (by decide) v l.length (trms l) hown ad news.length cx (trms news) (by rw [trms_len]) hnews (oneCell_trms _) (by unfold maxLen; omega) (by omega) hbase
    unfold Oper.wp execOp
    simp only [ho, resolve, invoke, builtin, Sem.run_bind, Sem.run_pure, Result.andThen_ok, List.map_toArray, List.map_cons, List.map_nil, hs, hx, hr]
    refine h v' w' ?_ h3 (fun j hj => ?_)
    · rw [List.length_append, show trms (l ++ news) = trms l ++ trms news from by simp [trms]]
      exact h2
    · rcases h5 with h5 | h5
      · exact .inl (h5.symm.trans hj)
      · rw [h5] at hj
        exact .inr (Nat.le_of_eq (Option.some.inj hj))
  | none =>
    have h0 : news = [] := by
      by_cases h0 : 0 < news.length
      · obtain ⟨b, off, he, hrw⟩ := hrow h0
        cases he
      · exact List.eq_nil_of_length_eq_zero (by omega)
    subst h0
    obtain ⟨av, cv, rfl, hcv⟩ : ∃ av cv, v = .slice av l.length cv ∧ l.length ≤ cv := by
      rcases hown.2 with ⟨rfl, h0⟩ | ⟨g, cap, cur, rfl, _, _, hc, _⟩
      · have : l = [] := List.eq_nil_of_length_eq_zero (by rw [trms_len] at *; first | omega | (have := congrArg List.length h0; simp [trms_len] at this; omega))
        subst this
        exact ⟨_, _, rfl, Nat.le_refl _⟩
      · exact ⟨_, _, rfl, hc⟩
    have hr := append_nothing (P := Try.prog) w 24 o.type 55 i0 Try.underlying24 hi av l.length cv cx hcv
    unfold Oper.wp execOp
    simp only [ho, resolve, invoke, builtin, Sem.run_bind, Sem.run_pure, Result.andThen_ok, List.map_toArray, List.map_cons, List.map_nil, hs, hx]
    rw [show (Builtin.append_ #[24, 24] o.type #[.slice av l.length cv, .slice none ([] : List Trm).length cx]).run Try.prog w = _ from hr]
    refine h _ _ ?_ (grown_refl _ _) (fun j hj => .inl hj)
    rw [List.append_nil]
    exact hown

set_option maxHeartbeats 2000000 in
theorem w_implSortTerms (v : Value) (l : List Trm) (w : World) (h : IsTrms w v l) :
    Calls Try.prog 14 #[v] w fun e w' => ∃ v', e = .returned (.tuple #[v', .int .i64 (sortTerms l).2]) ∧ Later w w' ∧ w'.ownsRow w.heap.size 55 3 v' (sortTerms l).1.length (trms (sortTerms l).1) := by
  cases hc : isChain l
  · have hf : sortTerms l = ([], 1) := by simp [sortTerms, hc]
    have HC := Lib.hid hc
    clear hc
    rw [hf]
    go_enter Try.func14, Try.ntmps14
    go_wp2_with fail
    refine (w_implIsChain _ _ _ h).mono ?_
    rintro e w1 ⟨rfl, hL⟩
    rw [HC.out]
    go_wp2
    go_ret2
    exact ⟨_, rfl, by (repeat (with_reducible first | exact Later.refl _ | refine Later.alloc ?_ _ | refine Later.drew ?_ | refine Later.drewN ?_ _ | refine Later.setCell ?_ (by simp; try omega) _ | refine Later.trans ?_ (by assumption))), World.ownsRow_nil _ _ _ _⟩
  have h6 := (isChain_true hc).2.1
  have h1 := (isChain_true hc).1
  obtain ⟨t0, ht0⟩ := get_ex (l := l) (k := 0) (by omega)
  have hf : sortTerms l = (t0 :: weave (dvs (l.drop 1)) (mls (l.drop 1)), 0) := by simp only [sortTerms, hc, if_true]; rw [sortL_eq ht0]
  have HF := Lib.hid hf
  have HC := Lib.hid hc
  have HT0 := Lib.hid ht0
  have H := Lib.hid h
  clear hc hf ht0
  obtain ⟨hxl1, hn1, a1, cap1, rfl, hcap1, hmax1, hrow1⟩ := h
  have HR1 := Lib.hid hrow1
  clear hrow1 hxl1
  obtain ⟨b1, off1, rfl, hr1⟩ := HR1.out (by omega)
  clear HR1
  have HRw := Lib.hid hr1
  clear hr1
  go_enter Try.func14, Try.ntmps14
  go_wp2_with fail
  refine (w_implIsChain _ _ _ H.out).mono ?_
  rintro e w1 ⟨rfl, hL⟩
  rw [HC.out]
  have HL1 := Lib.hid hL
  have hz1 := hL.size
  clear hL
  by_cases hcap : cap1 = 1
  · subst hcap
    go_wp2
    go_loopw [6, 16] (fun _ i wr => ∃ (k : Nat) (d m : Value), k ≤ l.length - 1 ∧ i = .int .i64 (k : Nat) ∧ Later w wr ∧ wr.heap[w1.heap.size]? = some (.cells #[d, m] 100 (0, 0)) ∧ wr.ownsRow (w1.heap.size + 1) 55 3 d (dvs ((l.drop 1).take k)).length (trms (dvs ((l.drop 1).take k))) ∧ wr.ownsRow (w1.heap.size + 1) 55 3 m (mls ((l.drop 1).take k)).length (trms (mls ((l.drop 1).take k))) ∧ Hid (Apart d m)) (fun _ i _ => l.length - (intOf i).toNat)
    case atStart =>
      refine ⟨0, .slice none 0 0, .slice none 0 0, Nat.zero_le _, rfl, HL1.out.alloc _, heap_alloc_new _ _, World.ownsRow_nil _ _ _ _, World.ownsRow_nil _ _ _ _, ?_⟩
      intro j a b
      simp [Value.ownBlock] at a
    case round =>
      obtain ⟨k, d, m, hk, rfl, hL, hK, hD, hM, HA⟩ := hrel
      have hdl := dvs_len ((l.drop 1).take k)
      have hml := mls_len ((l.drop 1).take k)
      rw [List.length_take, List.length_drop] at hdl hml
      by_cases hlt : k < l.length - 1
      · exfalso; omega
      · have htk : (l.drop 1).take k = l.drop 1 := List.take_of_length_le (by rw [List.length_drop]; omega)
        rw [htk] at hD hM hdl hml
        obtain ⟨D, hDd⟩ : ∃ D, D = dvs (l.drop 1) := ⟨_, rfl⟩
        obtain ⟨M, hMd⟩ : ∃ M, M = mls (l.drop 1) := ⟨_, rfl⟩
        rw [← hDd] at hD hdl
        rw [← hMd] at hM hml
        have hf := HF.out
        rw [← hDd, ← hMd] at hf
        have HF2 := Lib.hid hf
        have hdl : D.length ≤ 6 := by omega
        have hml : M.length ≤ 6 := by omega
        clear hf HF htk hDd hMd
        obtain ⟨c1_0, c1_1, c1_2⟩ := (HRw.out.later hL).trm HT0.out
        simp only [Nat.zero_mul, Nat.add_zero] at c1_0 c1_1 c1_2
        have hbr := (HRw.out.later hL).1
        have hzk := (blk_at hK).2.2
        have HK := Lib.hid hK
        have HD := Lib.hid hD
        have HM := Lib.hid hM
        have HLr := Lib.hid hL
        clear hD hM hL hK
        go_wp2
        go_loopw [7, 8] (fun o i wr => ∃ (tn : Nat) (os k0 k1 : List Trm) (v0 v1 : Value), i = .int .i64 (tn : Nat) ∧ tn ≤ 1 ∧ Later w wr ∧ wr.heap[w1.heap.size]? = some (.cells #[v0, v1] 100 (0, 0)) ∧ wr.ownsRow (w1.heap.size + 1) 55 3 o os.length (trms os) ∧ Reads wr v0 k0.length 3 (trms k0) ∧ Reads wr v1 k1.length 3 (trms k1) ∧ Good wr o w1.heap.size v0 ∧ Good wr o w1.heap.size v1 ∧ os ++ (if tn = 0 then weave k0 k1 else weave k1 k0) = t0 :: weave D M) (fun o _ _ => 20 - slLen o)
        case atStart =>
          have hO0 : (wr.alloc (.cells #[.int .i64 t0.f.d, .int .i64 t0.f.t, .bool t0.dv] 55)).ownsRow (w1.heap.size + 1) 55 3 (.slice (some ⟨wr.heap.size, 0, none⟩) 1 1) 1 (trms [t0]) := ⟨rfl, .inr ⟨wr.heap.size, 1, #[.int .i64 t0.f.d, .int .i64 t0.f.t, .bool t0.dv], rfl, hzk, heap_alloc_new _ _, by decide, by decide, rfl, rfl⟩⟩
          refine ⟨0, [t0], D, M, d, m, rfl, by decide, HLr.out.alloc _, (Below.heap_alloc wr _ _ hzk).trans HK.out, hO0, reads_of_owns (HD.out.alloc _) (by omega), reads_of_owns (HM.out.alloc _) (by omega), Good.of (HD.out.alloc _) (by omega) ?_, Good.of (HM.out.alloc _) (by omega) ?_, rfl⟩
          · intro j a b
            simp [Value.ownBlock] at b
            have := (HD.out.lt j a).2
            omega
          · intro j a b
            simp [Value.ownBlock] at b
            have := (HM.out.lt j a).2
            omega
        case round =>
          obtain ⟨tn, os, k0, k1, v0, v1, rfl, htn, hL, hK, hO, hR0, hR1, hG0, hG1, hE⟩ := hrel
          clear HD HM HLr HK c1_0 c1_1 c1_2 hbr hzk
          have hlen : os.length + k0.length + k1.length = 1 + D.length + M.length := by
            have := congrArg List.length hE
            split at this <;> simp [weave_len] at this <;> omega
          obtain ⟨ck, fk, zk⟩ := blk_at hK
          have HK := Lib.hid hK
          obtain ⟨n0, hn0⟩ : ∃ n, n = k0.length := ⟨_, rfl⟩
          obtain ⟨n1, hn1⟩ : ∃ n, n = k1.length := ⟨_, rfl⟩
          rw [← hn0] at hR0 hlen
          rw [← hn1] at hR1 hlen
          have HR0 := Lib.hid hR0
          have HR1 := Lib.hid hR1
          have HG0 := Lib.hid hG0
          have HG1 := Lib.hid hG1
          obtain ⟨_, _, a0, cp0, rfl, hcp0, hmx0, hrow0⟩ := hR0
          obtain ⟨_, _, a1, cp1, rfl, hcp1, hmx1, hrow1⟩ := hR1
          clear hK hG0 hG1
          by_cases hb : 0 < n0 ∧ 0 < n1
          · obtain ⟨h0, h1⟩ := hb
            obtain rfl | rfl : tn = 0 ∨ tn = 1 := by omega
            · by_cases hcp : cp0 = 1
              · subst hcp
                have HSL := Lib.hid (show slLen u7 = os.length from by obtain ⟨_, _, hq⟩ := isSl_of hO; rw [hq]; rfl)
                have hol20 : os.length ≤ 13 := by omega
                have HO := Lib.hid hO
                have HLr := Lib.hid hL
                have HE := Lib.hid hE
                have hz : w1.heap.size + 1 ≤ wr.heap.size := zk
                obtain ⟨t, r, hkr⟩ : ∃ t r, k0 = t :: r := by cases k0 with | nil => simp at hn0; omega | cons t r => exact ⟨t, r, rfl⟩
                have hnr : n0 = r.length + 1 := by rw [hn0, hkr]; rfl
                have hr0 := HR0.out
                rw [hkr] at hr0
                obtain ⟨b, off, rfl, hrow⟩ := hrow0 h0
                rw [hkr] at hrow
                have hbr := hrow.1
                obtain ⟨e0, e1, e2⟩ := hrow.trm (k := 0) (show (t :: r)[0]? = some t from rfl)
                simp only [Nat.zero_mul, Nat.add_zero] at e0 e1 e2
                have htl := ((reads_tl hnr hr0).1 rfl)
                have HTL := Lib.hid htl
                have HKR := Lib.hid hkr
                have HNR := Lib.hid hnr
                have hol : os.length + 1 ≤ 1048576 := by omega
                have hnK : u7.ownBlock ≠ some w1.heap.size := fun e => by have := (hO.lt _ e).1; omega
                have HNK := Lib.hid hnK
                have HN0 := Lib.hid hn0
                have HN1 := Lib.hid hn1
                clear hnK hO hL hE hkr hnr hr0 hrow htl hn0 hn1 hlen hrow0 hrow1
                go_wp2_with (at_builtin; refine app1at_Term rfl (.tmp 49) (.tmp 55) rfl (w1.heap.size + 1) _ os t rfl HO.out (by simp [Act.eval, Array.getD]) hol hz ?_; intro o1 w4 ho4 hg4 hat4; have K4 := (hg4.block w1.heap.size zk (fun e => HNK.out e.symm)).trans HK.out; have hb4 := blk_at K4; have ck4 := hb4.1; have fk4 := hb4.2.1; have zk4 := hb4.2.2; have HK4 := Lib.hid K4; clear hb4 K4)
                have ho1K : o1.ownBlock ≠ some w1.heap.size := fun e => by have := (ho4.lt _ e).1; omega
                go_roundw
                case rel =>
                  refine ⟨1, os ++ [t], r, k1, _, _, by go_num, by omega, (HLr.out.own (by omega) HO.out hg4).setCell (by simp; omega) _, heap_setCell_same w4 w1.heap.size 0 _ _ _ HK4.out, owns_setNe ho4 ho1K _ _, Good.reads (Good.tl HG0.out _ _ _) HTL.out hg4 _ _, (Eq.mp (congrArg (fun q => Reads _ _ q 3 _) HN1.out) (Good.reads HG1.out HR1.out hg4 _ _)), Good.step (Good.tl HG0.out _ _ _) hat4 (by have := hg4.size; simp; omega), Good.step HG1.out hat4 (by have := hg4.size; simp; omega), ?_⟩
                  have := HE.out
                  rw [HKR.out] at this
                  rw [← this]
                  simp [weave]
                case measure =>
                  obtain ⟨ao1, cpo1, rfl⟩ := isSl_of ho4
                  have hs := HSL.out
                  show 20 - (os ++ [t]).length < 20 - slLen u7
                  rw [hs, List.length_append, List.length_cons, List.length_nil]
                  omega
              · have HSL := Lib.hid (show slLen u7 = os.length from by obtain ⟨_, _, hq⟩ := isSl_of hO; rw [hq]; rfl)
                have hol20 : os.length ≤ 13 := by omega
                have HO := Lib.hid hO
                have HLr := Lib.hid hL
                have HE := Lib.hid hE
                have hz : w1.heap.size + 1 ≤ wr.heap.size := zk
                obtain ⟨t, r, hkr⟩ : ∃ t r, k0 = t :: r := by cases k0 with | nil => simp at hn0; omega | cons t r => exact ⟨t, r, rfl⟩
                have hnr : n0 = r.length + 1 := by rw [hn0, hkr]; rfl
                have hr0 := HR0.out
                rw [hkr] at hr0
                obtain ⟨b, off, rfl, hrow⟩ := hrow0 h0
                rw [hkr] at hrow
                have hbr := hrow.1
                obtain ⟨e0, e1, e2⟩ := hrow.trm (k := 0) (show (t :: r)[0]? = some t from rfl)
                simp only [Nat.zero_mul, Nat.add_zero] at e0 e1 e2
                have htl := ((reads_tl hnr hr0).2 hcp)
                have HTL := Lib.hid htl
                have HKR := Lib.hid hkr
                have HNR := Lib.hid hnr
                have hol : os.length + 1 ≤ 1048576 := by omega
                have hnK : u7.ownBlock ≠ some w1.heap.size := fun e => by have := (hO.lt _ e).1; omega
                have HNK := Lib.hid hnK
                have HN0 := Lib.hid hn0
                have HN1 := Lib.hid hn1
                clear hnK hO hL hE hkr hnr hr0 hrow htl hn0 hn1 hlen hrow0 hrow1
                go_wp2_with (at_builtin; refine app1at_Term rfl (.tmp 49) (.tmp 55) rfl (w1.heap.size + 1) _ os t rfl HO.out (by simp [Act.eval, Array.getD]) hol hz ?_; intro o1 w4 ho4 hg4 hat4; have K4 := (hg4.block w1.heap.size zk (fun e => HNK.out e.symm)).trans HK.out; have hb4 := blk_at K4; have ck4 := hb4.1; have fk4 := hb4.2.1; have zk4 := hb4.2.2; have HK4 := Lib.hid K4; clear hb4 K4)
                have ho1K : o1.ownBlock ≠ some w1.heap.size := fun e => by have := (ho4.lt _ e).1; omega
                go_roundw
                case rel =>
                  refine ⟨1, os ++ [t], r, k1, _, _, by go_num, by omega, (HLr.out.own (by omega) HO.out hg4).setCell (by simp; omega) _, heap_setCell_same w4 w1.heap.size 0 _ _ _ HK4.out, owns_setNe ho4 ho1K _ _, Good.reads (Good.tl HG0.out _ _ _) HTL.out hg4 _ _, (Eq.mp (congrArg (fun q => Reads _ _ q 3 _) HN1.out) (Good.reads HG1.out HR1.out hg4 _ _)), Good.step (Good.tl HG0.out _ _ _) hat4 (by have := hg4.size; simp; omega), Good.step HG1.out hat4 (by have := hg4.size; simp; omega), ?_⟩
                  have := HE.out
                  rw [HKR.out] at this
                  rw [← this]
                  simp [weave]
                case measure =>
                  obtain ⟨ao1, cpo1, rfl⟩ := isSl_of ho4
                  have hs := HSL.out
                  show 20 - (os ++ [t]).length < 20 - slLen u7
                  rw [hs, List.length_append, List.length_cons, List.length_nil]
                  omega
            · by_cases hcp : cp1 = 1
              · subst hcp
                have HSL := Lib.hid (show slLen u7 = os.length from by obtain ⟨_, _, hq⟩ := isSl_of hO; rw [hq]; rfl)
                have hol20 : os.length ≤ 13 := by omega
                have HO := Lib.hid hO
                have HLr := Lib.hid hL
                have HE := Lib.hid hE
                have hz : w1.heap.size + 1 ≤ wr.heap.size := zk
                obtain ⟨t, r, hkr⟩ : ∃ t r, k1 = t :: r := by cases k1 with | nil => simp at hn1; omega | cons t r => exact ⟨t, r, rfl⟩
                have hnr : n1 = r.length + 1 := by rw [hn1, hkr]; rfl
                have hr1 := HR1.out
                rw [hkr] at hr1
                obtain ⟨b, off, rfl, hrow⟩ := hrow1 h1
                rw [hkr] at hrow
                have hbr := hrow.1
                obtain ⟨e0, e1, e2⟩ := hrow.trm (k := 0) (show (t :: r)[0]? = some t from rfl)
                simp only [Nat.zero_mul, Nat.add_zero] at e0 e1 e2
                have htl := ((reads_tl hnr hr1).1 rfl)
                have HTL := Lib.hid htl
                have HKR := Lib.hid hkr
                have HNR := Lib.hid hnr
                have hol : os.length + 1 ≤ 1048576 := by omega
                have hnK : u7.ownBlock ≠ some w1.heap.size := fun e => by have := (hO.lt _ e).1; omega
                have HNK := Lib.hid hnK
                have HN0 := Lib.hid hn0
                have HN1 := Lib.hid hn1
                clear hnK hO hL hE hkr hnr hr1 hrow htl hn0 hn1 hlen hrow0 hrow1
                go_wp2_with (at_builtin; refine app1at_Term rfl (.tmp 49) (.tmp 55) rfl (w1.heap.size + 1) _ os t rfl HO.out (by simp [Act.eval, Array.getD]) hol hz ?_; intro o1 w4 ho4 hg4 hat4; have K4 := (hg4.block w1.heap.size zk (fun e => HNK.out e.symm)).trans HK.out; have hb4 := blk_at K4; have ck4 := hb4.1; have fk4 := hb4.2.1; have zk4 := hb4.2.2; have HK4 := Lib.hid K4; clear hb4 K4)
                have ho1K : o1.ownBlock ≠ some w1.heap.size := fun e => by have := (ho4.lt _ e).1; omega
                go_roundw
                case rel =>
                  refine ⟨0, os ++ [t], k0, r, _, _, by go_num, by omega, (HLr.out.own (by omega) HO.out hg4).setCell (by simp; omega) _, heap_setCell_same w4 w1.heap.size 1 _ _ _ HK4.out, owns_setNe ho4 ho1K _ _, (Eq.mp (congrArg (fun q => Reads _ _ q 3 _) HN0.out) (Good.reads HG0.out HR0.out hg4 _ _)), Good.reads (Good.tl HG1.out _ _ _) HTL.out hg4 _ _, Good.step HG0.out hat4 (by have := hg4.size; simp; omega), Good.step (Good.tl HG1.out _ _ _) hat4 (by have := hg4.size; simp; omega), ?_⟩
                  have := HE.out
                  rw [HKR.out] at this
                  rw [← this]
                  simp [weave]
                case measure =>
                  obtain ⟨ao1, cpo1, rfl⟩ := isSl_of ho4
                  have hs := HSL.out
                  show 20 - (os ++ [t]).length < 20 - slLen u7
                  rw [hs, List.length_append, List.length_cons, List.length_nil]
                  omega
              · have HSL := Lib.hid (show slLen u7 = os.length from by obtain ⟨_, _, hq⟩ := isSl_of hO; rw [hq]; rfl)
                have hol20 : os.length ≤ 13 := by omega
                have HO := Lib.hid hO
                have HLr := Lib.hid hL
                have HE := Lib.hid hE
                have hz : w1.heap.size + 1 ≤ wr.heap.size := zk
                obtain ⟨t, r, hkr⟩ : ∃ t r, k1 = t :: r := by cases k1 with | nil => simp at hn1; omega | cons t r => exact ⟨t, r, rfl⟩
                have hnr : n1 = r.length + 1 := by rw [hn1, hkr]; rfl
                have hr1 := HR1.out
                rw [hkr] at hr1
                obtain ⟨b, off, rfl, hrow⟩ := hrow1 h1
                rw [hkr] at hrow
                have hbr := hrow.1
                obtain ⟨e0, e1, e2⟩ := hrow.trm (k := 0) (show (t :: r)[0]? = some t from rfl)
                simp only [Nat.zero_mul, Nat.add_zero] at e0 e1 e2
                have htl := ((reads_tl hnr hr1).2 hcp)
                have HTL := Lib.hid htl
                have HKR := Lib.hid hkr
                have HNR := Lib.hid hnr
                have hol : os.length + 1 ≤ 1048576 := by omega
                have hnK : u7.ownBlock ≠ some w1.heap.size := fun e => by have := (hO.lt _ e).1; omega
                have HNK := Lib.hid hnK
                have HN0 := Lib.hid hn0
                have HN1 := Lib.hid hn1
                clear hnK hO hL hE hkr hnr hr1 hrow htl hn0 hn1 hlen hrow0 hrow1
                go_wp2_with (at_builtin; refine app1at_Term rfl (.tmp 49) (.tmp 55) rfl (w1.heap.size + 1) _ os t rfl HO.out (by simp [Act.eval, Array.getD]) hol hz ?_; intro o1 w4 ho4 hg4 hat4; have K4 := (hg4.block w1.heap.size zk (fun e => HNK.out e.symm)).trans HK.out; have hb4 := blk_at K4; have ck4 := hb4.1; have fk4 := hb4.2.1; have zk4 := hb4.2.2; have HK4 := Lib.hid K4; clear hb4 K4)
                have ho1K : o1.ownBlock ≠ some w1.heap.size := fun e => by have := (ho4.lt _ e).1; omega
                go_roundw
                case rel =>
                  refine ⟨0, os ++ [t], k0, r, _, _, by go_num, by omega, (HLr.out.own (by omega) HO.out hg4).setCell (by simp; omega) _, heap_setCell_same w4 w1.heap.size 1 _ _ _ HK4.out, owns_setNe ho4 ho1K _ _, (Eq.mp (congrArg (fun q => Reads _ _ q 3 _) HN0.out) (Good.reads HG0.out HR0.out hg4 _ _)), Good.reads (Good.tl HG1.out _ _ _) HTL.out hg4 _ _, Good.step HG0.out hat4 (by have := hg4.size; simp; omega), Good.step (Good.tl HG1.out _ _ _) hat4 (by have := hg4.size; simp; omega), ?_⟩
                  have := HE.out
                  rw [HKR.out] at this
                  rw [← this]
                  simp [weave]
                case measure =>
                  obtain ⟨ao1, cpo1, rfl⟩ := isSl_of ho4
                  have hs := HSL.out
                  show 20 - (os ++ [t]).length < 20 - slLen u7
                  rw [hs, List.length_append, List.length_cons, List.length_nil]
                  omega
          · by_cases h0 : n0 = 0
            · obtain rfl : n0 = 0 := by omega
              have hk : k0 = [] := List.eq_nil_of_length_eq_zero hn0.symm
              have HEE := Lib.hid ((sort_end (tn := tn) (os := os) (k0 := k0) (k1 := k1) (by simp [hk])).symm.trans hE)
              have HR0e := Lib.hid (show Reads wr (.slice a0 0 cp0) k0.length 3 (trms k0) from Eq.mp (congrArg (fun q => Reads wr (.slice a0 0 cp0) q 3 (trms k0)) hn0) HR0.out)
              have HR1e := Lib.hid (show Reads wr (.slice a1 n1 cp1) k1.length 3 (trms k1) from Eq.mp (congrArg (fun q => Reads wr (.slice a1 n1 cp1) q 3 (trms k1)) hn1) HR1.out)
              have HLen := Lib.hid (show os.length + k0.length + k1.length ≤ 1048576 by omega)
              have HO := Lib.hid hO
              have HLr := Lib.hid hL
              clear hO hL hE hk
              have HN0 := Lib.hid hn0
              have HN1 := Lib.hid hn1
              clear hn0 hn1 hlen hrow0 hrow1 HR0 HR1
              go_wp2_with fail
              refine region_slots 72 [65, 66, 67, 68, 69, 70, 71, 2, 3] (fun g ac wc => sl ac 4 = .pointer (some ⟨w1.heap.size, 0, none⟩) ∧
                sl ac 7 = u7 ∧
                (g 0 = true → sl ac 65 = u7) ∧
                (g 1 = true → sl ac 66 = .pointer (some ⟨w1.heap.size, 0, none⟩)) ∧
                (g 2 = true → sl ac 67 = .slice a0 0 cp0) ∧
                (g 4 = true → sl ac 69 = .pointer (some ⟨w1.heap.size, 1, none⟩)) ∧
                (g 5 = true → sl ac 70 = .slice a1 n1 cp1) ∧
                (g 7 = true → sl ac 2 = sl ac 71) ∧
                (g 8 = true → sl ac 3 = .int .i64 0) ∧
                Later w wc ∧
                wc.heap[w1.heap.size]? = some (.cells #[.slice a0 0 cp0, .slice a1 n1 cp1] 100 (0, 0)) ∧
                (w1.heap.size + 1) ≤ wc.heap.size ∧
                (g 3 = false → wc.ownsRow (w1.heap.size + 1) 55 3 (u7) (os).length (trms (os))) ∧
                (g 3 = false → Reads wc (.slice a0 0 cp0) k0.length 3 (trms k0)) ∧
                (g 6 = false → Reads wc (.slice a1 n1 cp1) k1.length 3 (trms k1)) ∧
                (g 3 = false → Good wc u7 w1.heap.size (.slice a1 n1 cp1)) ∧
                (g 3 = true → g 6 = false → wc.ownsRow (w1.heap.size + 1) 55 3 (sl ac 68) (os ++ k0).length (trms (os ++ k0))) ∧
                (g 3 = true → g 6 = false → Good wc (sl ac 68) w1.heap.size (.slice a1 n1 cp1)) ∧
                (g 6 = true → wc.ownsRow (w1.heap.size + 1) 55 3 (sl ac 71) (os ++ k0 ++ k1).length (trms (os ++ k0 ++ k1))) ∧
                (g 6 = true → g 3 = true) ∧
                (g 7 = true → g 6 = true)) (by kernel_rfl) (by kernel_rfl) rfl (by kernel_rfl) ?_ ?_ ?_
              · exact ⟨rfl, rfl, nofun, nofun, nofun, nofun, nofun, nofun, nofun, HLr.out.drew, HK.out, zk, fun _ => owns_later HO.out (Later.refl _).drew, fun _ => Reads.later HR0e.out (Later.refl _).drew, fun _ => Reads.later HR1e.out (Later.refl _).drew, fun _ => HG1.out, nofun, nofun, nofun, nofun, nofun⟩
              · intro g ac wc hg ha hI
                obtain ⟨-, -, i0, i1, i2, i4, i5, i7, i8, hL, -, -, -, -, -, -, -, -, p6, -, -⟩ := hI
                have HO6 := p6 (hg 6 (by simp))
                obtain ⟨ar, capr, er⟩ := isSl_of HO6
                rw [er] at HO6
                have a0 := i0 (hg 0 (by simp))
                have a1 := i1 (hg 1 (by simp))
                have a2 := i2 (hg 2 (by simp))
                have a4 := i4 (hg 4 (by simp))
                have a5 := i5 (hg 5 (by simp))
                have a7 := i7 (hg 7 (by simp))
                have a8 := i8 (hg 8 (by simp))
                rw [er] at a7
                simp only [putAll, a0, a1, a2, a4, a5, a7, a8, er] at ha
                simp only [Act.put, List.setIfInBounds_toArray, List.set_cons_succ, List.set_cons_zero] at ha
                rw [ha]
                clear i0 i1 i2 i4 i5 i7 i8 a0 a1 a2 a4 a5 a7 a8 er hg ha p6
                have HL6 := Lib.hid hL
                have HO6 := Lib.hid HO6
                clear hL
                go_wp2
                go_ret2
                refine ⟨_, by rw [HF2.out]; rfl, HL6.out, ?_⟩
                rw [HF2.out]
                show World.ownsRow _ _ _ _ _ (t0 :: weave D M).length (trms (t0 :: weave D M))
                rw [← HEE.out]
                exact owns_base (base' := w.heap.size) HO6.out (by omega)
              · refine .cons ?_ (.cons ?_ (.cons ?_ (.cons ?_ (.cons ?_ (.cons ?_ (.cons ?_ (.cons ?_ (.cons ?_ .nil))))))))
                · unfold SlotStep
                  intro g ac wc hn hk hr hI K' hK'
                  obtain ⟨x4, x7, i0, i1, i2, i4, i5, i7, i8, hL, hK, hS, p0, r0, r1, q0, p3, q3, p6, m6, m7⟩ := hI
                  simp only [Region.binds] at hr
                  simp at hr
                  replace hK' := Lib.hid hK'
                  have y := sl_get x7 (by omega)
                  go_simp
                  exact hK'.out _ _ ⟨(keepB x4 (by decide)), (keepB x7 (by decide)), (fun _ => put_eq (by omega)), (keepF i1 (by decide)), (keepF i2 (by decide)), (keepF i4 (by decide)), (keepF i5 (by decide)), (fun h => by rw [put_ne (by decide), put_ne (by decide)]; exact i7 h), (keepF i8 (by decide)), hL, hK, hS, p0, r0, r1, q0, (fun h h2 => by rw [put_ne (by decide)]; exact p3 h h2), (fun h h2 => by rw [put_ne (by decide)]; exact q3 h h2), (fun h => by rw [put_ne (by decide)]; exact p6 h), m6, m7⟩
                · unfold SlotStep
                  intro g ac wc hn hk hr hI K' hK'
                  obtain ⟨x4, x7, i0, i1, i2, i4, i5, i7, i8, hL, hK, hS, p0, r0, r1, q0, p3, q3, p6, m6, m7⟩ := hI
                  simp only [Region.binds] at hr
                  simp at hr
                  replace hK' := Lib.hid hK'
                  have y := sl_get x4 (by omega)
                  have hbb := blk_at hK
                  have c0 := hbb.1
                  have f0 := hbb.2.1
                  have z0 := hbb.2.2
                  clear hbb
                  go_simp
                  exact hK'.out _ _ ⟨(keepB x4 (by decide)), (keepB x7 (by decide)), (keepF i0 (by decide)), (fun _ => put_eq (by omega)), (keepF i2 (by decide)), (keepF i4 (by decide)), (keepF i5 (by decide)), (fun h => by rw [put_ne (by decide), put_ne (by decide)]; exact i7 h), (keepF i8 (by decide)), hL, hK, hS, p0, r0, r1, q0, (fun h h2 => by rw [put_ne (by decide)]; exact p3 h h2), (fun h h2 => by rw [put_ne (by decide)]; exact q3 h h2), (fun h => by rw [put_ne (by decide)]; exact p6 h), m6, m7⟩
                · unfold SlotStep
                  intro g ac wc hn hk hr hI K' hK'
                  obtain ⟨x4, x7, i0, i1, i2, i4, i5, i7, i8, hL, hK, hS, p0, r0, r1, q0, p3, q3, p6, m6, m7⟩ := hI
                  simp only [Region.binds] at hr
                  simp at hr
                  replace hK' := Lib.hid hK'
                  have y := i1 (by first | exact hr | exact hr.1 | exact hr.2 | simp [hr])
                  have y := sl_get y (by omega)
                  have hbb := blk_at hK
                  have c0 := hbb.1
                  have f0 := hbb.2.1
                  have z0 := hbb.2.2
                  clear hbb
                  go_simp
                  exact hK'.out _ _ ⟨(keepB x4 (by decide)), (keepB x7 (by decide)), (keepF i0 (by decide)), (keepF i1 (by decide)), (fun _ => put_eq (by omega)), (keepF i4 (by decide)), (keepF i5 (by decide)), (fun h => by rw [put_ne (by decide), put_ne (by decide)]; exact i7 h), (keepF i8 (by decide)), hL, hK, hS, p0, r0, r1, q0, (fun h h2 => by rw [put_ne (by decide)]; exact p3 h h2), (fun h h2 => by rw [put_ne (by decide)]; exact q3 h h2), (fun h => by rw [put_ne (by decide)]; exact p6 h), m6, m7⟩
                · unfold SlotStep
                  intro g ac wc hn hk hr hI K' hK'
                  obtain ⟨x4, x7, i0, i1, i2, i4, i5, i7, i8, hL, hK, hS, p0, r0, r1, q0, p3, q3, p6, m6, m7⟩ := hI
                  simp only [Region.binds] at hr
                  simp at hr
                  replace hK' := Lib.hid hK'
                  have y0 := i0 (by first | exact hr.1 | simp [hr])
                  have y2 := i2 (by first | exact hr.2 | simp [hr])
                  have g6 : g 6 = false := by cases hq : g 6 with | false => rfl | true => have hh := m6 hq; rw [hk] at hh; cases hh
                  have hO := p0 hk
                  have hR := r0 hk
                  have hR1 := r1 g6
                  have hG := q0 hk
                  refine wpA_TermR (.tmp 65) (.tmp 67) rfl (w1.heap.size + 1) u7 (os) y0 hO _ k0 y2 hR (by have := HLen.out; first | omega | (simp only [List.length_append]; omega)) hS ?_
                  intro v4 w4 ho4 hg4 hat4
                  have hz4 := hg4.size
                  have hne : u7.ownBlock ≠ some w1.heap.size := fun e => by have := (hO.lt _ e).1; omega
                  have hL4 := hL.own (by omega) hO hg4
                  have hK4 := (hg4.block w1.heap.size (by omega) (fun e => hne e.symm)).trans hK
                  have hR4 := reads_grown hR1 hg4 (fun b off n c e => (hG b off n c e).2.2)
                  have hG4 := Good.step hG hat4 hg4.size
                  exact hK'.out _ _ ⟨(keepB x4 (by decide)), (keepB x7 (by decide)), (keepF i0 (by decide)), (keepF i1 (by decide)), (keepF i2 (by decide)), (keepF i4 (by decide)), (keepF i5 (by decide)), (fun h => by rw [put_ne (by decide), put_ne (by decide)]; exact i7 h), (keepF i8 (by decide)), hL4, hK4, (by omega), (fun h => absurd h (by simp)), (fun h => absurd h (by simp)), (fun _ => hR4), (fun h => absurd h (by simp)), (fun _ _ => by rw [put_eq (by omega)]; exact ho4), (fun _ _ => by rw [put_eq (by omega)]; exact hG4), (fun h => absurd (show g 6 = true from h) (by rw [g6]; simp)), (fun _ => rfl), m7⟩
                · unfold SlotStep
                  intro g ac wc hn hk hr hI K' hK'
                  obtain ⟨x4, x7, i0, i1, i2, i4, i5, i7, i8, hL, hK, hS, p0, r0, r1, q0, p3, q3, p6, m6, m7⟩ := hI
                  simp only [Region.binds] at hr
                  simp at hr
                  replace hK' := Lib.hid hK'
                  have y := sl_get x4 (by omega)
                  have hbb := blk_at hK
                  have c0 := hbb.1
                  have f0 := hbb.2.1
                  have z0 := hbb.2.2
                  clear hbb
                  go_simp
                  exact hK'.out _ _ ⟨(keepB x4 (by decide)), (keepB x7 (by decide)), (keepF i0 (by decide)), (keepF i1 (by decide)), (keepF i2 (by decide)), (fun _ => put_eq (by omega)), (keepF i5 (by decide)), (fun h => by rw [put_ne (by decide), put_ne (by decide)]; exact i7 h), (keepF i8 (by decide)), hL, hK, hS, p0, r0, r1, q0, (fun h h2 => by rw [put_ne (by decide)]; exact p3 h h2), (fun h h2 => by rw [put_ne (by decide)]; exact q3 h h2), (fun h => by rw [put_ne (by decide)]; exact p6 h), m6, m7⟩
                · unfold SlotStep
                  intro g ac wc hn hk hr hI K' hK'
                  obtain ⟨x4, x7, i0, i1, i2, i4, i5, i7, i8, hL, hK, hS, p0, r0, r1, q0, p3, q3, p6, m6, m7⟩ := hI
                  simp only [Region.binds] at hr
                  simp at hr
                  replace hK' := Lib.hid hK'
                  have y := i4 (by first | exact hr | exact hr.1 | exact hr.2 | simp [hr])
                  have y := sl_get y (by omega)
                  have hbb := blk_at hK
                  have c0 := hbb.1
                  have f0 := hbb.2.1
                  have z0 := hbb.2.2
                  clear hbb
                  go_simp
                  exact hK'.out _ _ ⟨(keepB x4 (by decide)), (keepB x7 (by decide)), (keepF i0 (by decide)), (keepF i1 (by decide)), (keepF i2 (by decide)), (keepF i4 (by decide)), (fun _ => put_eq (by omega)), (fun h => by rw [put_ne (by decide), put_ne (by decide)]; exact i7 h), (keepF i8 (by decide)), hL, hK, hS, p0, r0, r1, q0, (fun h h2 => by rw [put_ne (by decide)]; exact p3 h h2), (fun h h2 => by rw [put_ne (by decide)]; exact q3 h h2), (fun h => by rw [put_ne (by decide)]; exact p6 h), m6, m7⟩
                · unfold SlotStep
                  intro g ac wc hn hk hr hI K' hK'
                  obtain ⟨x4, x7, i0, i1, i2, i4, i5, i7, i8, hL, hK, hS, p0, r0, r1, q0, p3, q3, p6, m6, m7⟩ := hI
                  simp only [Region.binds] at hr
                  simp at hr
                  replace hK' := Lib.hid hK'
                  have g3 : g 3 = true := by first | exact hr.1 | simp [hr]
                  have y5 := i5 (by first | exact hr.2 | simp [hr])
                  have hO := p3 g3 hk
                  have hR := r1 hk
                  have g7 : g 7 = false := by cases hq : g 7 with | false => rfl | true => have hh := m7 hq; rw [hk] at hh; cases hh
                  refine wpA_TermR (.tmp 68) (.tmp 70) rfl (w1.heap.size + 1) (sl ac 68) (os ++ k0) rfl hO _ k1 y5 hR (by have := HLen.out; first | omega | (simp only [List.length_append]; omega)) hS ?_
                  intro v4 w4 ho4 hg4 hat4
                  have hz4 := hg4.size
                  have hne : (sl ac 68).ownBlock ≠ some w1.heap.size := fun e => by have := (hO.lt _ e).1; omega
                  have hL4 := hL.own (by omega) hO hg4
                  have hK4 := (hg4.block w1.heap.size (by omega) (fun e => hne e.symm)).trans hK
                  exact hK'.out _ _ ⟨(keepB x4 (by decide)), (keepB x7 (by decide)), (keepF i0 (by decide)), (keepF i1 (by decide)), (keepF i2 (by decide)), (keepF i4 (by decide)), (keepF i5 (by decide)), (fun h => absurd (show g 7 = true from h) (by rw [g7]; simp)), (keepF i8 (by decide)), hL4, hK4, (by omega), (fun h => absurd (show g 3 = false from h) (by rw [g3]; simp)), (fun h => absurd (show g 3 = false from h) (by rw [g3]; simp)), (fun h => absurd h (by simp)), (fun h => absurd (show g 3 = false from h) (by rw [g3]; simp)), (fun _ h => absurd h (by simp)), (fun _ h => absurd h (by simp)), (fun _ => by rw [put_eq (by omega)]; exact ho4), (fun _ => g3), (fun _ => rfl)⟩
                · unfold SlotStep
                  intro g ac wc hn hk hr hI K' hK'
                  obtain ⟨x4, x7, i0, i1, i2, i4, i5, i7, i8, hL, hK, hS, p0, r0, r1, q0, p3, q3, p6, m6, m7⟩ := hI
                  simp only [Region.binds] at hr
                  simp at hr
                  replace hK' := Lib.hid hK'
                  have g6 : g 6 = true := (by first | exact hr | exact hr.1 | exact hr.2 | simp [hr])
                  obtain ⟨aa, nn, cc, e71⟩ : ∃ aa nn cc, sl ac 71 = .slice aa nn cc := by obtain ⟨a, c, e⟩ := isSl_of (p6 g6); exact ⟨_, _, _, e⟩
                  have y := sl_get e71 (by omega)
                  go_simp
                  exact hK'.out _ _ ⟨(keepB x4 (by decide)), (keepB x7 (by decide)), (keepF i0 (by decide)), (keepF i1 (by decide)), (keepF i2 (by decide)), (keepF i4 (by decide)), (keepF i5 (by decide)), (fun _ => by rw [put_eq (by omega), put_ne (by decide)]; exact e71.symm), (keepF i8 (by decide)), hL, hK, hS, p0, r0, r1, q0, (fun h h2 => by rw [put_ne (by decide)]; exact p3 h h2), (fun h h2 => by rw [put_ne (by decide)]; exact q3 h h2), (fun h => by rw [put_ne (by decide)]; exact p6 h), m6, (fun _ => g6)⟩
                · unfold SlotStep
                  intro g ac wc hn hk hr hI K' hK'
                  obtain ⟨x4, x7, i0, i1, i2, i4, i5, i7, i8, hL, hK, hS, p0, r0, r1, q0, p3, q3, p6, m6, m7⟩ := hI
                  simp only [Region.binds] at hr
                  simp at hr
                  replace hK' := Lib.hid hK'
                  go_simp
                  exact hK'.out _ _ ⟨(keepB x4 (by decide)), (keepB x7 (by decide)), (keepF i0 (by decide)), (keepF i1 (by decide)), (keepF i2 (by decide)), (keepF i4 (by decide)), (keepF i5 (by decide)), (fun h => by rw [put_ne (by decide), put_ne (by decide)]; exact i7 h), (fun _ => put_eq (by omega)), hL, hK, hS, p0, r0, r1, q0, (fun h h2 => by rw [put_ne (by decide)]; exact p3 h h2), (fun h h2 => by rw [put_ne (by decide)]; exact q3 h h2), (fun h => by rw [put_ne (by decide)]; exact p6 h), m6, m7⟩
            · obtain rfl : n1 = 0 := by omega
              have hk : k1 = [] := List.eq_nil_of_length_eq_zero hn1.symm
              have HEE := Lib.hid ((sort_end (tn := tn) (os := os) (k0 := k0) (k1 := k1) (by simp [hk])).symm.trans hE)
              have HR0e := Lib.hid (show Reads wr (.slice a0 n0 cp0) k0.length 3 (trms k0) from Eq.mp (congrArg (fun q => Reads wr (.slice a0 n0 cp0) q 3 (trms k0)) hn0) HR0.out)
              have HR1e := Lib.hid (show Reads wr (.slice a1 0 cp1) k1.length 3 (trms k1) from Eq.mp (congrArg (fun q => Reads wr (.slice a1 0 cp1) q 3 (trms k1)) hn1) HR1.out)
              have HLen := Lib.hid (show os.length + k0.length + k1.length ≤ 1048576 by omega)
              have HO := Lib.hid hO
              have HLr := Lib.hid hL
              clear hO hL hE hk
              have HN0 := Lib.hid hn0
              have HN1 := Lib.hid hn1
              clear hn0 hn1 hlen hrow0 hrow1 HR0 HR1
              go_wp2_with fail
              refine region_slots 72 [65, 66, 67, 68, 69, 70, 71, 2, 3] (fun g ac wc => sl ac 4 = .pointer (some ⟨w1.heap.size, 0, none⟩) ∧
                sl ac 7 = u7 ∧
                (g 0 = true → sl ac 65 = u7) ∧
                (g 1 = true → sl ac 66 = .pointer (some ⟨w1.heap.size, 0, none⟩)) ∧
                (g 2 = true → sl ac 67 = .slice a0 n0 cp0) ∧
                (g 4 = true → sl ac 69 = .pointer (some ⟨w1.heap.size, 1, none⟩)) ∧
                (g 5 = true → sl ac 70 = .slice a1 0 cp1) ∧
                (g 7 = true → sl ac 2 = sl ac 71) ∧
                (g 8 = true → sl ac 3 = .int .i64 0) ∧
                Later w wc ∧
                wc.heap[w1.heap.size]? = some (.cells #[.slice a0 n0 cp0, .slice a1 0 cp1] 100 (0, 0)) ∧
                (w1.heap.size + 1) ≤ wc.heap.size ∧
                (g 3 = false → wc.ownsRow (w1.heap.size + 1) 55 3 (u7) (os).length (trms (os))) ∧
                (g 3 = false → Reads wc (.slice a0 n0 cp0) k0.length 3 (trms k0)) ∧
                (g 6 = false → Reads wc (.slice a1 0 cp1) k1.length 3 (trms k1)) ∧
                (g 3 = false → Good wc u7 w1.heap.size (.slice a1 0 cp1)) ∧
                (g 3 = true → g 6 = false → wc.ownsRow (w1.heap.size + 1) 55 3 (sl ac 68) (os ++ k0).length (trms (os ++ k0))) ∧
                (g 3 = true → g 6 = false → Good wc (sl ac 68) w1.heap.size (.slice a1 0 cp1)) ∧
                (g 6 = true → wc.ownsRow (w1.heap.size + 1) 55 3 (sl ac 71) (os ++ k0 ++ k1).length (trms (os ++ k0 ++ k1))) ∧
                (g 6 = true → g 3 = true) ∧
                (g 7 = true → g 6 = true)) (by kernel_rfl) (by kernel_rfl) rfl (by kernel_rfl) ?_ ?_ ?_
              · exact ⟨rfl, rfl, nofun, nofun, nofun, nofun, nofun, nofun, nofun, HLr.out.drew, HK.out, zk, fun _ => owns_later HO.out (Later.refl _).drew, fun _ => Reads.later HR0e.out (Later.refl _).drew, fun _ => Reads.later HR1e.out (Later.refl _).drew, fun _ => HG1.out, nofun, nofun, nofun, nofun, nofun⟩
              · intro g ac wc hg ha hI
                obtain ⟨-, -, i0, i1, i2, i4, i5, i7, i8, hL, -, -, -, -, -, -, -, -, p6, -, -⟩ := hI
                have HO6 := p6 (hg 6 (by simp))
                obtain ⟨ar, capr, er⟩ := isSl_of HO6
                rw [er] at HO6
                have a0 := i0 (hg 0 (by simp))
                have a1 := i1 (hg 1 (by simp))
                have a2 := i2 (hg 2 (by simp))
                have a4 := i4 (hg 4 (by simp))
                have a5 := i5 (hg 5 (by simp))
                have a7 := i7 (hg 7 (by simp))
                have a8 := i8 (hg 8 (by simp))
                rw [er] at a7
                simp only [putAll, a0, a1, a2, a4, a5, a7, a8, er] at ha
                simp only [Act.put, List.setIfInBounds_toArray, List.set_cons_succ, List.set_cons_zero] at ha
                rw [ha]
                clear i0 i1 i2 i4 i5 i7 i8 a0 a1 a2 a4 a5 a7 a8 er hg ha p6
                have HL6 := Lib.hid hL
                have HO6 := Lib.hid HO6
                clear hL
                go_wp2
                go_ret2
                refine ⟨_, by rw [HF2.out]; rfl, HL6.out, ?_⟩
                rw [HF2.out]
                show World.ownsRow _ _ _ _ _ (t0 :: weave D M).length (trms (t0 :: weave D M))
                rw [← HEE.out]
                exact owns_base (base' := w.heap.size) HO6.out (by omega)
              · refine .cons ?_ (.cons ?_ (.cons ?_ (.cons ?_ (.cons ?_ (.cons ?_ (.cons ?_ (.cons ?_ (.cons ?_ .nil))))))))
                · unfold SlotStep
                  intro g ac wc hn hk hr hI K' hK'
                  obtain ⟨x4, x7, i0, i1, i2, i4, i5, i7, i8, hL, hK, hS, p0, r0, r1, q0, p3, q3, p6, m6, m7⟩ := hI
                  simp only [Region.binds] at hr
                  simp at hr
                  replace hK' := Lib.hid hK'
                  have y := sl_get x7 (by omega)
                  go_simp
                  exact hK'.out _ _ ⟨(keepB x4 (by decide)), (keepB x7 (by decide)), (fun _ => put_eq (by omega)), (keepF i1 (by decide)), (keepF i2 (by decide)), (keepF i4 (by decide)), (keepF i5 (by decide)), (fun h => by rw [put_ne (by decide), put_ne (by decide)]; exact i7 h), (keepF i8 (by decide)), hL, hK, hS, p0, r0, r1, q0, (fun h h2 => by rw [put_ne (by decide)]; exact p3 h h2), (fun h h2 => by rw [put_ne (by decide)]; exact q3 h h2), (fun h => by rw [put_ne (by decide)]; exact p6 h), m6, m7⟩
                · unfold SlotStep
                  intro g ac wc hn hk hr hI K' hK'
                  obtain ⟨x4, x7, i0, i1, i2, i4, i5, i7, i8, hL, hK, hS, p0, r0, r1, q0, p3, q3, p6, m6, m7⟩ := hI
                  simp only [Region.binds] at hr
                  simp at hr
                  replace hK' := Lib.hid hK'
                  have y := sl_get x4 (by omega)
                  have hbb := blk_at hK
                  have c0 := hbb.1
                  have f0 := hbb.2.1
                  have z0 := hbb.2.2
                  clear hbb
                  go_simp
                  exact hK'.out _ _ ⟨(keepB x4 (by decide)), (keepB x7 (by decide)), (keepF i0 (by decide)), (fun _ => put_eq (by omega)), (keepF i2 (by decide)), (keepF i4 (by decide)), (keepF i5 (by decide)), (fun h => by rw [put_ne (by decide), put_ne (by decide)]; exact i7 h), (keepF i8 (by decide)), hL, hK, hS, p0, r0, r1, q0, (fun h h2 => by rw [put_ne (by decide)]; exact p3 h h2), (fun h h2 => by rw [put_ne (by decide)]; exact q3 h h2), (fun h => by rw [put_ne (by decide)]; exact p6 h), m6, m7⟩
                · unfold SlotStep
                  intro g ac wc hn hk hr hI K' hK'
                  obtain ⟨x4, x7, i0, i1, i2, i4, i5, i7, i8, hL, hK, hS, p0, r0, r1, q0, p3, q3, p6, m6, m7⟩ := hI
                  simp only [Region.binds] at hr
                  simp at hr
                  replace hK' := Lib.hid hK'
                  have y := i1 (by first | exact hr | exact hr.1 | exact hr.2 | simp [hr])
                  have y := sl_get y (by omega)
                  have hbb := blk_at hK
                  have c0 := hbb.1
                  have f0 := hbb.2.1
                  have z0 := hbb.2.2
                  clear hbb
                  go_simp
                  exact hK'.out _ _ ⟨(keepB x4 (by decide)), (keepB x7 (by decide)), (keepF i0 (by decide)), (keepF i1 (by decide)), (fun _ => put_eq (by omega)), (keepF i4 (by decide)), (keepF i5 (by decide)), (fun h => by rw [put_ne (by decide), put_ne (by decide)]; exact i7 h), (keepF i8 (by decide)), hL, hK, hS, p0, r0, r1, q0, (fun h h2 => by rw [put_ne (by decide)]; exact p3 h h2), (fun h h2 => by rw [put_ne (by decide)]; exact q3 h h2), (fun h => by rw [put_ne (by decide)]; exact p6 h), m6, m7⟩
                · unfold SlotStep
                  intro g ac wc hn hk hr hI K' hK'
                  obtain ⟨x4, x7, i0, i1, i2, i4, i5, i7, i8, hL, hK, hS, p0, r0, r1, q0, p3, q3, p6, m6, m7⟩ := hI
                  simp only [Region.binds] at hr
                  simp at hr
                  replace hK' := Lib.hid hK'
                  have y0 := i0 (by first | exact hr.1 | simp [hr])
                  have y2 := i2 (by first | exact hr.2 | simp [hr])
                  have g6 : g 6 = false := by cases hq : g 6 with | false => rfl | true => have hh := m6 hq; rw [hk] at hh; cases hh
                  have hO := p0 hk
                  have hR := r0 hk
                  have hR1 := r1 g6
                  have hG := q0 hk
                  refine wpA_TermR (.tmp 65) (.tmp 67) rfl (w1.heap.size + 1) u7 (os) y0 hO _ k0 y2 hR (by have := HLen.out; first | omega | (simp only [List.length_append]; omega)) hS ?_
                  intro v4 w4 ho4 hg4 hat4
                  have hz4 := hg4.size
                  have hne : u7.ownBlock ≠ some w1.heap.size := fun e => by have := (hO.lt _ e).1; omega
                  have hL4 := hL.own (by omega) hO hg4
                  have hK4 := (hg4.block w1.heap.size (by omega) (fun e => hne e.symm)).trans hK
                  have hR4 := reads_grown hR1 hg4 (fun b off n c e => (hG b off n c e).2.2)
                  have hG4 := Good.step hG hat4 hg4.size
                  exact hK'.out _ _ ⟨(keepB x4 (by decide)), (keepB x7 (by decide)), (keepF i0 (by decide)), (keepF i1 (by decide)), (keepF i2 (by decide)), (keepF i4 (by decide)), (keepF i5 (by decide)), (fun h => by rw [put_ne (by decide), put_ne (by decide)]; exact i7 h), (keepF i8 (by decide)), hL4, hK4, (by omega), (fun h => absurd h (by simp)), (fun h => absurd h (by simp)), (fun _ => hR4), (fun h => absurd h (by simp)), (fun _ _ => by rw [put_eq (by omega)]; exact ho4), (fun _ _ => by rw [put_eq (by omega)]; exact hG4), (fun h => absurd (show g 6 = true from h) (by rw [g6]; simp)), (fun _ => rfl), m7⟩
                · unfold SlotStep
                  intro g ac wc hn hk hr hI K' hK'
                  obtain ⟨x4, x7, i0, i1, i2, i4, i5, i7, i8, hL, hK, hS, p0, r0, r1, q0, p3, q3, p6, m6, m7⟩ := hI
                  simp only [Region.binds] at hr
                  simp at hr
                  replace hK' := Lib.hid hK'
                  have y := sl_get x4 (by omega)
                  have hbb := blk_at hK
                  have c0 := hbb.1
                  have f0 := hbb.2.1
                  have z0 := hbb.2.2
                  clear hbb
                  go_simp
                  exact hK'.out _ _ ⟨(keepB x4 (by decide)), (keepB x7 (by decide)), (keepF i0 (by decide)), (keepF i1 (by decide)), (keepF i2 (by decide)), (fun _ => put_eq (by omega)), (keepF i5 (by decide)), (fun h => by rw [put_ne (by decide), put_ne (by decide)]; exact i7 h), (keepF i8 (by decide)), hL, hK, hS, p0, r0, r1, q0, (fun h h2 => by rw [put_ne (by decide)]; exact p3 h h2), (fun h h2 => by rw [put_ne (by decide)]; exact q3 h h2), (fun h => by rw [put_ne (by decide)]; exact p6 h), m6, m7⟩
                · unfold SlotStep
                  intro g ac wc hn hk hr hI K' hK'
                  obtain ⟨x4, x7, i0, i1, i2, i4, i5, i7, i8, hL, hK, hS, p0, r0, r1, q0, p3, q3, p6, m6, m7⟩ := hI
                  simp only [Region.binds] at hr
                  simp at hr
                  replace hK' := Lib.hid hK'
                  have y := i4 (by first | exact hr | exact hr.1 | exact hr.2 | simp [hr])
                  have y := sl_get y (by omega)
                  have hbb := blk_at hK
                  have c0 := hbb.1
                  have f0 := hbb.2.1
                  have z0 := hbb.2.2
                  clear hbb
                  go_simp
                  exact hK'.out _ _ ⟨(keepB x4 (by decide)), (keepB x7 (by decide)), (keepF i0 (by decide)), (keepF i1 (by decide)), (keepF i2 (by decide)), (keepF i4 (by decide)), (fun _ => put_eq (by omega)), (fun h => by rw [put_ne (by decide), put_ne (by decide)]; exact i7 h), (keepF i8 (by decide)), hL, hK, hS, p0, r0, r1, q0, (fun h h2 => by rw [put_ne (by decide)]; exact p3 h h2), (fun h h2 => by rw [put_ne (by decide)]; exact q3 h h2), (fun h => by rw [put_ne (by decide)]; exact p6 h), m6, m7⟩
                · unfold SlotStep
                  intro g ac wc hn hk hr hI K' hK'
                  obtain ⟨x4, x7, i0, i1, i2, i4, i5, i7, i8, hL, hK, hS, p0, r0, r1, q0, p3, q3, p6, m6, m7⟩ := hI
                  simp only [Region.binds] at hr
                  simp at hr
                  replace hK' := Lib.hid hK'
                  have g3 : g 3 = true := by first | exact hr.1 | simp [hr]
                  have y5 := i5 (by first | exact hr.2 | simp [hr])
                  have hO := p3 g3 hk
                  have hR := r1 hk
                  have g7 : g 7 = false := by cases hq : g 7 with | false => rfl | true => have hh := m7 hq; rw [hk] at hh; cases hh
                  refine wpA_TermR (.tmp 68) (.tmp 70) rfl (w1.heap.size + 1) (sl ac 68) (os ++ k0) rfl hO _ k1 y5 hR (by have := HLen.out; first | omega | (simp only [List.length_append]; omega)) hS ?_
                  intro v4 w4 ho4 hg4 hat4
                  have hz4 := hg4.size
                  have hne : (sl ac 68).ownBlock ≠ some w1.heap.size := fun e => by have := (hO.lt _ e).1; omega
                  have hL4 := hL.own (by omega) hO hg4
                  have hK4 := (hg4.block w1.heap.size (by omega) (fun e => hne e.symm)).trans hK
                  exact hK'.out _ _ ⟨(keepB x4 (by decide)), (keepB x7 (by decide)), (keepF i0 (by decide)), (keepF i1 (by decide)), (keepF i2 (by decide)), (keepF i4 (by decide)), (keepF i5 (by decide)), (fun h => absurd (show g 7 = true from h) (by rw [g7]; simp)), (keepF i8 (by decide)), hL4, hK4, (by omega), (fun h => absurd (show g 3 = false from h) (by rw [g3]; simp)), (fun h => absurd (show g 3 = false from h) (by rw [g3]; simp)), (fun h => absurd h (by simp)), (fun h => absurd (show g 3 = false from h) (by rw [g3]; simp)), (fun _ h => absurd h (by simp)), (fun _ h => absurd h (by simp)), (fun _ => by rw [put_eq (by omega)]; exact ho4), (fun _ => g3), (fun _ => rfl)⟩
                · unfold SlotStep
                  intro g ac wc hn hk hr hI K' hK'
                  obtain ⟨x4, x7, i0, i1, i2, i4, i5, i7, i8, hL, hK, hS, p0, r0, r1, q0, p3, q3, p6, m6, m7⟩ := hI
                  simp only [Region.binds] at hr
                  simp at hr
                  replace hK' := Lib.hid hK'
                  have g6 : g 6 = true := (by first | exact hr | exact hr.1 | exact hr.2 | simp [hr])
                  obtain ⟨aa, nn, cc, e71⟩ : ∃ aa nn cc, sl ac 71 = .slice aa nn cc := by obtain ⟨a, c, e⟩ := isSl_of (p6 g6); exact ⟨_, _, _, e⟩
                  have y := sl_get e71 (by omega)
                  go_simp
                  exact hK'.out _ _ ⟨(keepB x4 (by decide)), (keepB x7 (by decide)), (keepF i0 (by decide)), (keepF i1 (by decide)), (keepF i2 (by decide)), (keepF i4 (by decide)), (keepF i5 (by decide)), (fun _ => by rw [put_eq (by omega), put_ne (by decide)]; exact e71.symm), (keepF i8 (by decide)), hL, hK, hS, p0, r0, r1, q0, (fun h h2 => by rw [put_ne (by decide)]; exact p3 h h2), (fun h h2 => by rw [put_ne (by decide)]; exact q3 h h2), (fun h => by rw [put_ne (by decide)]; exact p6 h), m6, (fun _ => g6)⟩
                · unfold SlotStep
                  intro g ac wc hn hk hr hI K' hK'
                  obtain ⟨x4, x7, i0, i1, i2, i4, i5, i7, i8, hL, hK, hS, p0, r0, r1, q0, p3, q3, p6, m6, m7⟩ := hI
                  simp only [Region.binds] at hr
                  simp at hr
                  replace hK' := Lib.hid hK'
                  go_simp
                  exact hK'.out _ _ ⟨(keepB x4 (by decide)), (keepB x7 (by decide)), (keepF i0 (by decide)), (keepF i1 (by decide)), (keepF i2 (by decide)), (keepF i4 (by decide)), (keepF i5 (by decide)), (fun h => by rw [put_ne (by decide), put_ne (by decide)]; exact i7 h), (fun _ => put_eq (by omega)), hL, hK, hS, p0, r0, r1, q0, (fun h h2 => by rw [put_ne (by decide)]; exact p3 h h2), (fun h h2 => by rw [put_ne (by decide)]; exact q3 h h2), (fun h => by rw [put_ne (by decide)]; exact p6 h), m6, m7⟩
  · go_wp2
    go_loopw [6, 16] (fun _ i wr => ∃ (k : Nat) (d m : Value), k ≤ l.length - 1 ∧ i = .int .i64 (k : Nat) ∧ Later w wr ∧ wr.heap[w1.heap.size]? = some (.cells #[d, m] 100 (0, 0)) ∧ wr.ownsRow (w1.heap.size + 1) 55 3 d (dvs ((l.drop 1).take k)).length (trms (dvs ((l.drop 1).take k))) ∧ wr.ownsRow (w1.heap.size + 1) 55 3 m (mls ((l.drop 1).take k)).length (trms (mls ((l.drop 1).take k))) ∧ Hid (Apart d m)) (fun _ i _ => l.length - (intOf i).toNat)
    case atStart =>
      refine ⟨0, .slice none 0 0, .slice none 0 0, Nat.zero_le _, rfl, HL1.out.alloc _, heap_alloc_new _ _, World.ownsRow_nil _ _ _ _, World.ownsRow_nil _ _ _ _, ?_⟩
      intro j a b
      simp [Value.ownBlock] at a
    case round =>
      obtain ⟨k, d, m, hk, rfl, hL, hK, hD, hM, HA⟩ := hrel
      have hdl := dvs_len ((l.drop 1).take k)
      have hml := mls_len ((l.drop 1).take k)
      rw [List.length_take, List.length_drop] at hdl hml
      by_cases hlt : k < l.length - 1
      · obtain ⟨t, ht⟩ := get_ex (l := l) (k := k + 1) (by omega)
        have htd : (l.drop 1)[k]? = some t := by rw [List.getElem?_drop, Nat.add_comm]; exact ht
        have HT := Lib.hid htd
        obtain ⟨c1_0, c1_1, c1_2⟩ := (HRw.out.later hL).trm ht
        have hoff : off1 + (k + 1) * 3 = off1 + 3 + k * 3 := by omega
        rw [hoff] at c1_0 c1_1 c1_2
        have hbr := (HRw.out.later hL).1
        obtain ⟨ck, fk, zk⟩ := blk_at hK
        have HK := Lib.hid hK
        clear ht hoff hK
        cases hdv : t.dv
        · have hs := dvs_snoc_n htd hdv
          have HS := Lib.hid hs
          have HD := Lib.hid hD
          have HM := Lib.hid hM
          have HLr := Lib.hid hL
          have hml2 : (mls ((l.drop 1).take k)).length + 1 ≤ 1048576 := by omega
          rw [hdv] at c1_2
          have ht2 : t = ⟨⟨t.f.d, t.f.t⟩, false⟩ := by cases t with | mk f d => cases f; simp at hdv; subst hdv; rfl
          have HT2 := Lib.hid ht2
          clear hs htd hD hM hL hdl hml ht2
          have hnK : m.ownBlock ≠ some w1.heap.size := fun e => by have := (HM.out.lt _ e).1; omega
          have HNK := Lib.hid hnK
          clear hnK
          go_wp2_with (at_builtin; refine app1at_Term rfl (.tmp 29) (.tmp 31) rfl (w1.heap.size + 1) m (mls ((l.drop 1).take k)) ⟨⟨t.f.d, t.f.t⟩, false⟩ rfl (HM.out.alloc _) (by simp [Act.eval, Array.getD]) hml2 (by simp; omega) ?_; intro v1 w4 ho4 hg4 hat4; obtain ⟨nl, hnl⟩ : ∃ n, n = (mls ((l.drop 1).take k) ++ [(⟨⟨t.f.d, t.f.t⟩, false⟩ : Trm)]).length := ⟨_, rfl⟩; rw [← hnl] at ho4; have HN := Lib.hid hnl; clear hnl; obtain ⟨av1, cv1, rfl⟩ := isSl_of ho4; have hg5 := grown_alloc hg4; have K4 := (hg5.block w1.heap.size zk (fun e => HNK.out e.symm)).trans HK.out; have hb4 := blk_at K4; have ck4 := hb4.1; have fk4 := hb4.2.1; have zk4 := hb4.2.2; have HK4 := Lib.hid K4; clear hb4 K4)
          have hv1 : (Value.slice av1 _ cv1).ownBlock ≠ some w1.heap.size := fun e => by have := (ho4.lt _ e).1; omega
          have hot := rows_grown HD.out hg5 HA.out
          have hoK : d.ownBlock ≠ some w1.heap.size := fun e => by have := (HD.out.lt _ e).1; omega
          go_roundw
          case rel =>
            refine ⟨k + 1, d, _, by omega, by go_num, (HLr.out.own (by omega) HM.out hg5).setCell (by simp; omega) _, heap_setCell_same w4 w1.heap.size 1 _ _ _ HK4.out, ?_, ?_, (apart_grown (w := wr) (fun j hj => (hat4 j hj).imp id (fun h => by simp at h; omega)) HA.out.symm HD.out).symm⟩
            · rw [HS.out.1]; exact owns_setNe hot hoK _ _
            · rw [HS.out.2, HT2.out, ← HN.out]; exact owns_setNe ho4 hv1 _ _
          case measure => simp [intOf]; omega
        · have hs := dvs_snoc_y htd hdv
          have HS := Lib.hid hs
          have HD := Lib.hid hD
          have HM := Lib.hid hM
          have HLr := Lib.hid hL
          have hml2 : (dvs ((l.drop 1).take k)).length + 1 ≤ 1048576 := by omega
          rw [hdv] at c1_2
          have ht2 : t = ⟨⟨t.f.d, t.f.t⟩, true⟩ := by cases t with | mk f d => cases f; simp at hdv; subst hdv; rfl
          have HT2 := Lib.hid ht2
          clear hs htd hD hM hL hdl hml ht2
          have hnK : d.ownBlock ≠ some w1.heap.size := fun e => by have := (HD.out.lt _ e).1; omega
          have HNK := Lib.hid hnK
          clear hnK
          go_wp2_with (at_builtin; refine app1at_Term rfl (.tmp 23) (.tmp 25) rfl (w1.heap.size + 1) d (dvs ((l.drop 1).take k)) ⟨⟨t.f.d, t.f.t⟩, true⟩ rfl (HD.out.alloc _) (by simp [Act.eval, Array.getD]) hml2 (by simp; omega) ?_; intro v1 w4 ho4 hg4 hat4; obtain ⟨nl, hnl⟩ : ∃ n, n = (dvs ((l.drop 1).take k) ++ [(⟨⟨t.f.d, t.f.t⟩, true⟩ : Trm)]).length := ⟨_, rfl⟩; rw [← hnl] at ho4; have HN := Lib.hid hnl; clear hnl; obtain ⟨av1, cv1, rfl⟩ := isSl_of ho4; have hg5 := grown_alloc hg4; have K4 := (hg5.block w1.heap.size zk (fun e => HNK.out e.symm)).trans HK.out; have hb4 := blk_at K4; have ck4 := hb4.1; have fk4 := hb4.2.1; have zk4 := hb4.2.2; have HK4 := Lib.hid K4; clear hb4 K4)
          have hv1 : (Value.slice av1 _ cv1).ownBlock ≠ some w1.heap.size := fun e => by have := (ho4.lt _ e).1; omega
          have hot := rows_grown HM.out hg5 HA.out.symm
          have hoK : m.ownBlock ≠ some w1.heap.size := fun e => by have := (HM.out.lt _ e).1; omega
          go_roundw
          case rel =>
            refine ⟨k + 1, _, m, by omega, by go_num, (HLr.out.own (by omega) HD.out hg5).setCell (by simp; omega) _, heap_setCell_same w4 w1.heap.size 0 _ _ _ HK4.out, ?_, ?_, (apart_grown (w := wr) (fun j hj => (hat4 j hj).imp id (fun h => by simp at h; omega)) HA.out HM.out)⟩
            · rw [HS.out.1, HT2.out, ← HN.out]; exact owns_setNe ho4 hv1 _ _
            · rw [HS.out.2]; exact owns_setNe hot hoK _ _
          case measure => simp [intOf]; omega
      · have htk : (l.drop 1).take k = l.drop 1 := List.take_of_length_le (by rw [List.length_drop]; omega)
        rw [htk] at hD hM hdl hml
        obtain ⟨D, hDd⟩ : ∃ D, D = dvs (l.drop 1) := ⟨_, rfl⟩
        obtain ⟨M, hMd⟩ : ∃ M, M = mls (l.drop 1) := ⟨_, rfl⟩
        rw [← hDd] at hD hdl
        rw [← hMd] at hM hml
        have hf := HF.out
        rw [← hDd, ← hMd] at hf
        have HF2 := Lib.hid hf
        have hdl : D.length ≤ 6 := by omega
        have hml : M.length ≤ 6 := by omega
        clear hf HF htk hDd hMd
        obtain ⟨c1_0, c1_1, c1_2⟩ := (HRw.out.later hL).trm HT0.out
        simp only [Nat.zero_mul, Nat.add_zero] at c1_0 c1_1 c1_2
        have hbr := (HRw.out.later hL).1
        have hzk := (blk_at hK).2.2
        have HK := Lib.hid hK
        have HD := Lib.hid hD
        have HM := Lib.hid hM
        have HLr := Lib.hid hL
        clear hD hM hL hK
        go_wp2
        go_loopw [7, 8] (fun o i wr => ∃ (tn : Nat) (os k0 k1 : List Trm) (v0 v1 : Value), i = .int .i64 (tn : Nat) ∧ tn ≤ 1 ∧ Later w wr ∧ wr.heap[w1.heap.size]? = some (.cells #[v0, v1] 100 (0, 0)) ∧ wr.ownsRow (w1.heap.size + 1) 55 3 o os.length (trms os) ∧ Reads wr v0 k0.length 3 (trms k0) ∧ Reads wr v1 k1.length 3 (trms k1) ∧ Good wr o w1.heap.size v0 ∧ Good wr o w1.heap.size v1 ∧ os ++ (if tn = 0 then weave k0 k1 else weave k1 k0) = t0 :: weave D M) (fun o _ _ => 20 - slLen o)
        case atStart =>
          have hO0 : (wr.alloc (.cells #[.int .i64 t0.f.d, .int .i64 t0.f.t, .bool t0.dv] 55)).ownsRow (w1.heap.size + 1) 55 3 (.slice (some ⟨wr.heap.size, 0, none⟩) 1 1) 1 (trms [t0]) := ⟨rfl, .inr ⟨wr.heap.size, 1, #[.int .i64 t0.f.d, .int .i64 t0.f.t, .bool t0.dv], rfl, hzk, heap_alloc_new _ _, by decide, by decide, rfl, rfl⟩⟩
          refine ⟨0, [t0], D, M, d, m, rfl, by decide, HLr.out.alloc _, (Below.heap_alloc wr _ _ hzk).trans HK.out, hO0, reads_of_owns (HD.out.alloc _) (by omega), reads_of_owns (HM.out.alloc _) (by omega), Good.of (HD.out.alloc _) (by omega) ?_, Good.of (HM.out.alloc _) (by omega) ?_, rfl⟩
          · intro j a b
            simp [Value.ownBlock] at b
            have := (HD.out.lt j a).2
            omega
          · intro j a b
            simp [Value.ownBlock] at b
            have := (HM.out.lt j a).2
            omega
        case round =>
          obtain ⟨tn, os, k0, k1, v0, v1, rfl, htn, hL, hK, hO, hR0, hR1, hG0, hG1, hE⟩ := hrel
          clear HD HM HLr HK c1_0 c1_1 c1_2 hbr hzk
          have hlen : os.length + k0.length + k1.length = 1 + D.length + M.length := by
            have := congrArg List.length hE
            split at this <;> simp [weave_len] at this <;> omega
          obtain ⟨ck, fk, zk⟩ := blk_at hK
          have HK := Lib.hid hK
          obtain ⟨n0, hn0⟩ : ∃ n, n = k0.length := ⟨_, rfl⟩
          obtain ⟨n1, hn1⟩ : ∃ n, n = k1.length := ⟨_, rfl⟩
          rw [← hn0] at hR0 hlen
          rw [← hn1] at hR1 hlen
          have HR0 := Lib.hid hR0
          have HR1 := Lib.hid hR1
          have HG0 := Lib.hid hG0
          have HG1 := Lib.hid hG1
          obtain ⟨_, _, a0, cp0, rfl, hcp0, hmx0, hrow0⟩ := hR0
          obtain ⟨_, _, a1, cp1, rfl, hcp1, hmx1, hrow1⟩ := hR1
          clear hK hG0 hG1
          by_cases hb : 0 < n0 ∧ 0 < n1
          · obtain ⟨h0, h1⟩ := hb
            obtain rfl | rfl : tn = 0 ∨ tn = 1 := by omega
            · by_cases hcp : cp0 = 1
              · subst hcp
                have HSL := Lib.hid (show slLen u7 = os.length from by obtain ⟨_, _, hq⟩ := isSl_of hO; rw [hq]; rfl)
                have hol20 : os.length ≤ 13 := by omega
                have HO := Lib.hid hO
                have HLr := Lib.hid hL
                have HE := Lib.hid hE
                have hz : w1.heap.size + 1 ≤ wr.heap.size := zk
                obtain ⟨t, r, hkr⟩ : ∃ t r, k0 = t :: r := by cases k0 with | nil => simp at hn0; omega | cons t r => exact ⟨t, r, rfl⟩
                have hnr : n0 = r.length + 1 := by rw [hn0, hkr]; rfl
                have hr0 := HR0.out
                rw [hkr] at hr0
                obtain ⟨b, off, rfl, hrow⟩ := hrow0 h0
                rw [hkr] at hrow
                have hbr := hrow.1
                obtain ⟨e0, e1, e2⟩ := hrow.trm (k := 0) (show (t :: r)[0]? = some t from rfl)
                simp only [Nat.zero_mul, Nat.add_zero] at e0 e1 e2
                have htl := ((reads_tl hnr hr0).1 rfl)
                have HTL := Lib.hid htl
                have HKR := Lib.hid hkr
                have HNR := Lib.hid hnr
                have hol : os.length + 1 ≤ 1048576 := by omega
                have hnK : u7.ownBlock ≠ some w1.heap.size := fun e => by have := (hO.lt _ e).1; omega
                have HNK := Lib.hid hnK
                have HN0 := Lib.hid hn0
                have HN1 := Lib.hid hn1
                clear hnK hO hL hE hkr hnr hr0 hrow htl hn0 hn1 hlen hrow0 hrow1
                go_wp2_with (at_builtin; refine app1at_Term rfl (.tmp 49) (.tmp 55) rfl (w1.heap.size + 1) _ os t rfl HO.out (by simp [Act.eval, Array.getD]) hol hz ?_; intro o1 w4 ho4 hg4 hat4; have K4 := (hg4.block w1.heap.size zk (fun e => HNK.out e.symm)).trans HK.out; have hb4 := blk_at K4; have ck4 := hb4.1; have fk4 := hb4.2.1; have zk4 := hb4.2.2; have HK4 := Lib.hid K4; clear hb4 K4)
                have ho1K : o1.ownBlock ≠ some w1.heap.size := fun e => by have := (ho4.lt _ e).1; omega
                go_roundw
                case rel =>
                  refine ⟨1, os ++ [t], r, k1, _, _, by go_num, by omega, (HLr.out.own (by omega) HO.out hg4).setCell (by simp; omega) _, heap_setCell_same w4 w1.heap.size 0 _ _ _ HK4.out, owns_setNe ho4 ho1K _ _, Good.reads (Good.tl HG0.out _ _ _) HTL.out hg4 _ _, (Eq.mp (congrArg (fun q => Reads _ _ q 3 _) HN1.out) (Good.reads HG1.out HR1.out hg4 _ _)), Good.step (Good.tl HG0.out _ _ _) hat4 (by have := hg4.size; simp; omega), Good.step HG1.out hat4 (by have := hg4.size; simp; omega), ?_⟩
                  have := HE.out
                  rw [HKR.out] at this
                  rw [← this]
                  simp [weave]
                case measure =>
                  obtain ⟨ao1, cpo1, rfl⟩ := isSl_of ho4
                  have hs := HSL.out
                  show 20 - (os ++ [t]).length < 20 - slLen u7
                  rw [hs, List.length_append, List.length_cons, List.length_nil]
                  omega
              · have HSL := Lib.hid (show slLen u7 = os.length from by obtain ⟨_, _, hq⟩ := isSl_of hO; rw [hq]; rfl)
                have hol20 : os.length ≤ 13 := by omega
                have HO := Lib.hid hO
                have HLr := Lib.hid hL
                have HE := Lib.hid hE
                have hz : w1.heap.size + 1 ≤ wr.heap.size := zk
                obtain ⟨t, r, hkr⟩ : ∃ t r, k0 = t :: r := by cases k0 with | nil => simp at hn0; omega | cons t r => exact ⟨t, r, rfl⟩
                have hnr : n0 = r.length + 1 := by rw [hn0, hkr]; rfl
                have hr0 := HR0.out
                rw [hkr] at hr0
                obtain ⟨b, off, rfl, hrow⟩ := hrow0 h0
                rw [hkr] at hrow
                have hbr := hrow.1
                obtain ⟨e0, e1, e2⟩ := hrow.trm (k := 0) (show (t :: r)[0]? = some t from rfl)
                simp only [Nat.zero_mul, Nat.add_zero] at e0 e1 e2
                have htl := ((reads_tl hnr hr0).2 hcp)
                have HTL := Lib.hid htl
                have HKR := Lib.hid hkr
                have HNR := Lib.hid hnr
                have hol : os.length + 1 ≤ 1048576 := by omega
                have hnK : u7.ownBlock ≠ some w1.heap.size := fun e => by have := (hO.lt _ e).1; omega
                have HNK := Lib.hid hnK
                have HN0 := Lib.hid hn0
                have HN1 := Lib.hid hn1
                clear hnK hO hL hE hkr hnr hr0 hrow htl hn0 hn1 hlen hrow0 hrow1
                go_wp2_with (at_builtin; refine app1at_Term rfl (.tmp 49) (.tmp 55) rfl (w1.heap.size + 1) _ os t rfl HO.out (by simp [Act.eval, Array.getD]) hol hz ?_; intro o1 w4 ho4 hg4 hat4; have K4 := (hg4.block w1.heap.size zk (fun e => HNK.out e.symm)).trans HK.out; have hb4 := blk_at K4; have ck4 := hb4.1; have fk4 := hb4.2.1; have zk4 := hb4.2.2; have HK4 := Lib.hid K4; clear hb4 K4)
                have ho1K : o1.ownBlock ≠ some w1.heap.size := fun e => by have := (ho4.lt _ e).1; omega
                go_roundw
                case rel =>
                  refine ⟨1, os ++ [t], r, k1, _, _, by go_num, by omega, (HLr.out.own (by omega) HO.out hg4).setCell (by simp; omega) _, heap_setCell_same w4 w1.heap.size 0 _ _ _ HK4.out, owns_setNe ho4 ho1K _ _, Good.reads (Good.tl HG0.out _ _ _) HTL.out hg4 _ _, (Eq.mp (congrArg (fun q => Reads _ _ q 3 _) HN1.out) (Good.reads HG1.out HR1.out hg4 _ _)), Good.step (Good.tl HG0.out _ _ _) hat4 (by have := hg4.size; simp; omega), Good.step HG1.out hat4 (by have := hg4.size; simp; omega), ?_⟩
                  have := HE.out
                  rw [HKR.out] at this
                  rw [← this]
                  simp [weave]
                case measure =>
                  obtain ⟨ao1, cpo1, rfl⟩ := isSl_of ho4
                  have hs := HSL.out
                  show 20 - (os ++ [t]).length < 20 - slLen u7
                  rw [hs, List.length_append, List.length_cons, List.length_nil]
                  omega
            · by_cases hcp : cp1 = 1
              · subst hcp
                have HSL := Lib.hid (show slLen u7 = os.length from by obtain ⟨_, _, hq⟩ := isSl_of hO; rw [hq]; rfl)
                have hol20 : os.length ≤ 13 := by omega
                have HO := Lib.hid hO
                have HLr := Lib.hid hL
                have HE := Lib.hid hE
                have hz : w1.heap.size + 1 ≤ wr.heap.size := zk
                obtain ⟨t, r, hkr⟩ : ∃ t r, k1 = t :: r := by cases k1 with | nil => simp at hn1; omega | cons t r => exact ⟨t, r, rfl⟩
                have hnr : n1 = r.length + 1 := by rw [hn1, hkr]; rfl
                have hr1 := HR1.out
                rw [hkr] at hr1
                obtain ⟨b, off, rfl, hrow⟩ := hrow1 h1
                rw [hkr] at hrow
                have hbr := hrow.1
                obtain ⟨e0, e1, e2⟩ := hrow.trm (k := 0) (show (t :: r)[0]? = some t from rfl)
                simp only [Nat.zero_mul, Nat.add_zero] at e0 e1 e2
                have htl := ((reads_tl hnr hr1).1 rfl)
                have HTL := Lib.hid htl
                have HKR := Lib.hid hkr
                have HNR := Lib.hid hnr
                have hol : os.length + 1 ≤ 1048576 := by omega
                have hnK : u7.ownBlock ≠ some w1.heap.size := fun e => by have := (hO.lt _ e).1; omega
                have HNK := Lib.hid hnK
                have HN0 := Lib.hid hn0
                have HN1 := Lib.hid hn1
                clear hnK hO hL hE hkr hnr hr1 hrow htl hn0 hn1 hlen hrow0 hrow1
                go_wp2_with (at_builtin; refine app1at_Term rfl (.tmp 49) (.tmp 55) rfl (w1.heap.size + 1) _ os t rfl HO.out (by simp [Act.eval, Array.getD]) hol hz ?_; intro o1 w4 ho4 hg4 hat4; have K4 := (hg4.block w1.heap.size zk (fun e => HNK.out e.symm)).trans HK.out; have hb4 := blk_at K4; have ck4 := hb4.1; have fk4 := hb4.2.1; have zk4 := hb4.2.2; have HK4 := Lib.hid K4; clear hb4 K4)
                have ho1K : o1.ownBlock ≠ some w1.heap.size := fun e => by have := (ho4.lt _ e).1; omega
                go_roundw
                case rel =>
                  refine ⟨0, os ++ [t], k0, r, _, _, by go_num, by omega, (HLr.out.own (by omega) HO.out hg4).setCell (by simp; omega) _, heap_setCell_same w4 w1.heap.size 1 _ _ _ HK4.out, owns_setNe ho4 ho1K _ _, (Eq.mp (congrArg (fun q => Reads _ _ q 3 _) HN0.out) (Good.reads HG0.out HR0.out hg4 _ _)), Good.reads (Good.tl HG1.out _ _ _) HTL.out hg4 _ _, Good.step HG0.out hat4 (by have := hg4.size; simp; omega), Good.step (Good.tl HG1.out _ _ _) hat4 (by have := hg4.size; simp; omega), ?_⟩
                  have := HE.out
                  rw [HKR.out] at this
                  rw [← this]
                  simp [weave]
                case measure =>
                  obtain ⟨ao1, cpo1, rfl⟩ := isSl_of ho4
                  have hs := HSL.out
                  show 20 - (os ++ [t]).length < 20 - slLen u7
                  rw [hs, List.length_append, List.length_cons, List.length_nil]
                  omega
              · have HSL := Lib.hid (show slLen u7 = os.length from by obtain ⟨_, _, hq⟩ := isSl_of hO; rw [hq]; rfl)
                have hol20 : os.length ≤ 13 := by omega
                have HO := Lib.hid hO
                have HLr := Lib.hid hL
                have HE := Lib.hid hE
                have hz : w1.heap.size + 1 ≤ wr.heap.size := zk
                obtain ⟨t, r, hkr⟩ : ∃ t r, k1 = t :: r := by cases k1 with | nil => simp at hn1; omega | cons t r => exact ⟨t, r, rfl⟩
                have hnr : n1 = r.length + 1 := by rw [hn1, hkr]; rfl
                have hr1 := HR1.out
                rw [hkr] at hr1
                obtain ⟨b, off, rfl, hrow⟩ := hrow1 h1
                rw [hkr] at hrow
                have hbr := hrow.1
                obtain ⟨e0, e1, e2⟩ := hrow.trm (k := 0) (show (t :: r)[0]? = some t from rfl)
                simp only [Nat.zero_mul, Nat.add_zero] at e0 e1 e2
                have htl := ((reads_tl hnr hr1).2 hcp)
                have HTL := Lib.hid htl
                have HKR := Lib.hid hkr
                have HNR := Lib.hid hnr
                have hol : os.length + 1 ≤ 1048576 := by omega
                have hnK : u7.ownBlock ≠ some w1.heap.size := fun e => by have := (hO.lt _ e).1; omega
                have HNK := Lib.hid hnK
                have HN0 := Lib.hid hn0
                have HN1 := Lib.hid hn1
                clear hnK hO hL hE hkr hnr hr1 hrow htl hn0 hn1 hlen hrow0 hrow1
                go_wp2_with (at_builtin; refine app1at_Term rfl (.tmp 49) (.tmp 55) rfl (w1.heap.size + 1) _ os t rfl HO.out (by simp [Act.eval, Array.getD]) hol hz ?_; intro o1 w4 ho4 hg4 hat4; have K4 := (hg4.block w1.heap.size zk (fun e => HNK.out e.symm)).trans HK.out; have hb4 := blk_at K4; have ck4 := hb4.1; have fk4 := hb4.2.1; have zk4 := hb4.2.2; have HK4 := Lib.hid K4; clear hb4 K4)
                have ho1K : o1.ownBlock ≠ some w1.heap.size := fun e => by have := (ho4.lt _ e).1; omega
                go_roundw
                case rel =>
                  refine ⟨0, os ++ [t], k0, r, _, _, by go_num, by omega, (HLr.out.own (by omega) HO.out hg4).setCell (by simp; omega) _, heap_setCell_same w4 w1.heap.size 1 _ _ _ HK4.out, owns_setNe ho4 ho1K _ _, (Eq.mp (congrArg (fun q => Reads _ _ q 3 _) HN0.out) (Good.reads HG0.out HR0.out hg4 _ _)), Good.reads (Good.tl HG1.out _ _ _) HTL.out hg4 _ _, Good.step HG0.out hat4 (by have := hg4.size; simp; omega), Good.step (Good.tl HG1.out _ _ _) hat4 (by have := hg4.size; simp; omega), ?_⟩
                  have := HE.out
                  rw [HKR.out] at this
                  rw [← this]
                  simp [weave]
                case measure =>
                  obtain ⟨ao1, cpo1, rfl⟩ := isSl_of ho4
                  have hs := HSL.out
                  show 20 - (os ++ [t]).length < 20 - slLen u7
                  rw [hs, List.length_append, List.length_cons, List.length_nil]
                  omega
          · by_cases h0 : n0 = 0
            · obtain rfl : n0 = 0 := by omega
              have hk : k0 = [] := List.eq_nil_of_length_eq_zero hn0.symm
              have HEE := Lib.hid ((sort_end (tn := tn) (os := os) (k0 := k0) (k1 := k1) (by simp [hk])).symm.trans hE)
              have HR0e := Lib.hid (show Reads wr (.slice a0 0 cp0) k0.length 3 (trms k0) from Eq.mp (congrArg (fun q => Reads wr (.slice a0 0 cp0) q 3 (trms k0)) hn0) HR0.out)
              have HR1e := Lib.hid (show Reads wr (.slice a1 n1 cp1) k1.length 3 (trms k1) from Eq.mp (congrArg (fun q => Reads wr (.slice a1 n1 cp1) q 3 (trms k1)) hn1) HR1.out)
              have HLen := Lib.hid (show os.length + k0.length + k1.length ≤ 1048576 by omega)
              have HO := Lib.hid hO
              have HLr := Lib.hid hL
              clear hO hL hE hk
              have HN0 := Lib.hid hn0
              have HN1 := Lib.hid hn1
              clear hn0 hn1 hlen hrow0 hrow1 HR0 HR1
              go_wp2_with fail
              refine region_slots 72 [65, 66, 67, 68, 69, 70, 71, 2, 3] (fun g ac wc => sl ac 4 = .pointer (some ⟨w1.heap.size, 0, none⟩) ∧
                sl ac 7 = u7 ∧
                (g 0 = true → sl ac 65 = u7) ∧
                (g 1 = true → sl ac 66 = .pointer (some ⟨w1.heap.size, 0, none⟩)) ∧
                (g 2 = true → sl ac 67 = .slice a0 0 cp0) ∧
                (g 4 = true → sl ac 69 = .pointer (some ⟨w1.heap.size, 1, none⟩)) ∧
                (g 5 = true → sl ac 70 = .slice a1 n1 cp1) ∧
                (g 7 = true → sl ac 2 = sl ac 71) ∧
                (g 8 = true → sl ac 3 = .int .i64 0) ∧
                Later w wc ∧
                wc.heap[w1.heap.size]? = some (.cells #[.slice a0 0 cp0, .slice a1 n1 cp1] 100 (0, 0)) ∧
                (w1.heap.size + 1) ≤ wc.heap.size ∧
                (g 3 = false → wc.ownsRow (w1.heap.size + 1) 55 3 (u7) (os).length (trms (os))) ∧
                (g 3 = false → Reads wc (.slice a0 0 cp0) k0.length 3 (trms k0)) ∧
                (g 6 = false → Reads wc (.slice a1 n1 cp1) k1.length 3 (trms k1)) ∧
                (g 3 = false → Good wc u7 w1.heap.size (.slice a1 n1 cp1)) ∧
                (g 3 = true → g 6 = false → wc.ownsRow (w1.heap.size + 1) 55 3 (sl ac 68) (os ++ k0).length (trms (os ++ k0))) ∧
                (g 3 = true → g 6 = false → Good wc (sl ac 68) w1.heap.size (.slice a1 n1 cp1)) ∧
                (g 6 = true → wc.ownsRow (w1.heap.size + 1) 55 3 (sl ac 71) (os ++ k0 ++ k1).length (trms (os ++ k0 ++ k1))) ∧
                (g 6 = true → g 3 = true) ∧
                (g 7 = true → g 6 = true)) (by kernel_rfl) (by kernel_rfl) rfl (by kernel_rfl) ?_ ?_ ?_
              · exact ⟨rfl, rfl, nofun, nofun, nofun, nofun, nofun, nofun, nofun, HLr.out.drew, HK.out, zk, fun _ => owns_later HO.out (Later.refl _).drew, fun _ => Reads.later HR0e.out (Later.refl _).drew, fun _ => Reads.later HR1e.out (Later.refl _).drew, fun _ => HG1.out, nofun, nofun, nofun, nofun, nofun⟩
              · intro g ac wc hg ha hI
                obtain ⟨-, -, i0, i1, i2, i4, i5, i7, i8, hL, -, -, -, -, -, -, -, -, p6, -, -⟩ := hI
                have HO6 := p6 (hg 6 (by simp))
                obtain ⟨ar, capr, er⟩ := isSl_of HO6
                rw [er] at HO6
                have a0 := i0 (hg 0 (by simp))
                have a1 := i1 (hg 1 (by simp))
                have a2 := i2 (hg 2 (by simp))
                have a4 := i4 (hg 4 (by simp))
                have a5 := i5 (hg 5 (by simp))
                have a7 := i7 (hg 7 (by simp))
                have a8 := i8 (hg 8 (by simp))
                rw [er] at a7
                simp only [putAll, a0, a1, a2, a4, a5, a7, a8, er] at ha
                simp only [Act.put, List.setIfInBounds_toArray, List.set_cons_succ, List.set_cons_zero] at ha
                rw [ha]
                clear i0 i1 i2 i4 i5 i7 i8 a0 a1 a2 a4 a5 a7 a8 er hg ha p6
                have HL6 := Lib.hid hL
                have HO6 := Lib.hid HO6
                clear hL
                go_wp2
                go_ret2
                refine ⟨_, by rw [HF2.out]; rfl, HL6.out, ?_⟩
                rw [HF2.out]
                show World.ownsRow _ _ _ _ _ (t0 :: weave D M).length (trms (t0 :: weave D M))
                rw [← HEE.out]
                exact owns_base (base' := w.heap.size) HO6.out (by omega)
              · refine .cons ?_ (.cons ?_ (.cons ?_ (.cons ?_ (.cons ?_ (.cons ?_ (.cons ?_ (.cons ?_ (.cons ?_ .nil))))))))
                · unfold SlotStep
                  intro g ac wc hn hk hr hI K' hK'
                  obtain ⟨x4, x7, i0, i1, i2, i4, i5, i7, i8, hL, hK, hS, p0, r0, r1, q0, p3, q3, p6, m6, m7⟩ := hI
                  simp only [Region.binds] at hr
                  simp at hr
                  replace hK' := Lib.hid hK'
                  have y := sl_get x7 (by omega)
                  go_simp
                  exact hK'.out _ _ ⟨(keepB x4 (by decide)), (keepB x7 (by decide)), (fun _ => put_eq (by omega)), (keepF i1 (by decide)), (keepF i2 (by decide)), (keepF i4 (by decide)), (keepF i5 (by decide)), (fun h => by rw [put_ne (by decide), put_ne (by decide)]; exact i7 h), (keepF i8 (by decide)), hL, hK, hS, p0, r0, r1, q0, (fun h h2 => by rw [put_ne (by decide)]; exact p3 h h2), (fun h h2 => by rw [put_ne (by decide)]; exact q3 h h2), (fun h => by rw [put_ne (by decide)]; exact p6 h), m6, m7⟩
                · unfold SlotStep
                  intro g ac wc hn hk hr hI K' hK'
                  obtain ⟨x4, x7, i0, i1, i2, i4, i5, i7, i8, hL, hK, hS, p0, r0, r1, q0, p3, q3, p6, m6, m7⟩ := hI
                  simp only [Region.binds] at hr
                  simp at hr
                  replace hK' := Lib.hid hK'
                  have y := sl_get x4 (by omega)
                  have hbb := blk_at hK
                  have c0 := hbb.1
                  have f0 := hbb.2.1
                  have z0 := hbb.2.2
                  clear hbb
                  go_simp
                  exact hK'.out _ _ ⟨(keepB x4 (by decide)), (keepB x7 (by decide)), (keepF i0 (by decide)), (fun _ => put_eq (by omega)), (keepF i2 (by decide)), (keepF i4 (by decide)), (keepF i5 (by decide)), (fun h => by rw [put_ne (by decide), put_ne (by decide)]; exact i7 h), (keepF i8 (by decide)), hL, hK, hS, p0, r0, r1, q0, (fun h h2 => by rw [put_ne (by decide)]; exact p3 h h2), (fun h h2 => by rw [put_ne (by decide)]; exact q3 h h2), (fun h => by rw [put_ne (by decide)]; exact p6 h), m6, m7⟩
                · unfold SlotStep
                  intro g ac wc hn hk hr hI K' hK'
                  obtain ⟨x4, x7, i0, i1, i2, i4, i5, i7, i8, hL, hK, hS, p0, r0, r1, q0, p3, q3, p6, m6, m7⟩ := hI
                  simp only [Region.binds] at hr
                  simp at hr
                  replace hK' := Lib.hid hK'
                  have y := i1 (by first | exact hr | exact hr.1 | exact hr.2 | simp [hr])
                  have y := sl_get y (by omega)
                  have hbb := blk_at hK
                  have c0 := hbb.1
                  have f0 := hbb.2.1
                  have z0 := hbb.2.2
                  clear hbb
                  go_simp
                  exact hK'.out _ _ ⟨(keepB x4 (by decide)), (keepB x7 (by decide)), (keepF i0 (by decide)), (keepF i1 (by decide)), (fun _ => put_eq (by omega)), (keepF i4 (by decide)), (keepF i5 (by decide)), (fun h => by rw [put_ne (by decide), put_ne (by decide)]; exact i7 h), (keepF i8 (by decide)), hL, hK, hS, p0, r0, r1, q0, (fun h h2 => by rw [put_ne (by decide)]; exact p3 h h2), (fun h h2 => by rw [put_ne (by decide)]; exact q3 h h2), (fun h => by rw [put_ne (by decide)]; exact p6 h), m6, m7⟩
                · unfold SlotStep
                  intro g ac wc hn hk hr hI K' hK'
                  obtain ⟨x4, x7, i0, i1, i2, i4, i5, i7, i8, hL, hK, hS, p0, r0, r1, q0, p3, q3, p6, m6, m7⟩ := hI
                  simp only [Region.binds] at hr
                  simp at hr
                  replace hK' := Lib.hid hK'
                  have y0 := i0 (by first | exact hr.1 | simp [hr])
                  have y2 := i2 (by first | exact hr.2 | simp [hr])
                  have g6 : g 6 = false := by cases hq : g 6 with | false => rfl | true => have hh := m6 hq; rw [hk] at hh; cases hh
                  have hO := p0 hk
                  have hR := r0 hk
                  have hR1 := r1 g6
                  have hG := q0 hk
                  refine wpA_TermR (.tmp 65) (.tmp 67) rfl (w1.heap.size + 1) u7 (os) y0 hO _ k0 y2 hR (by have := HLen.out; first | omega | (simp only [List.length_append]; omega)) hS ?_
                  intro v4 w4 ho4 hg4 hat4
                  have hz4 := hg4.size
                  have hne : u7.ownBlock ≠ some w1.heap.size := fun e => by have := (hO.lt _ e).1; omega
                  have hL4 := hL.own (by omega) hO hg4
                  have hK4 := (hg4.block w1.heap.size (by omega) (fun e => hne e.symm)).trans hK
                  have hR4 := reads_grown hR1 hg4 (fun b off n c e => (hG b off n c e).2.2)
                  have hG4 := Good.step hG hat4 hg4.size
                  exact hK'.out _ _ ⟨(keepB x4 (by decide)), (keepB x7 (by decide)), (keepF i0 (by decide)), (keepF i1 (by decide)), (keepF i2 (by decide)), (keepF i4 (by decide)), (keepF i5 (by decide)), (fun h => by rw [put_ne (by decide), put_ne (by decide)]; exact i7 h), (keepF i8 (by decide)), hL4, hK4, (by omega), (fun h => absurd h (by simp)), (fun h => absurd h (by simp)), (fun _ => hR4), (fun h => absurd h (by simp)), (fun _ _ => by rw [put_eq (by omega)]; exact ho4), (fun _ _ => by rw [put_eq (by omega)]; exact hG4), (fun h => absurd (show g 6 = true from h) (by rw [g6]; simp)), (fun _ => rfl), m7⟩
                · unfold SlotStep
                  intro g ac wc hn hk hr hI K' hK'
                  obtain ⟨x4, x7, i0, i1, i2, i4, i5, i7, i8, hL, hK, hS, p0, r0, r1, q0, p3, q3, p6, m6, m7⟩ := hI
                  simp only [Region.binds] at hr
                  simp at hr
                  replace hK' := Lib.hid hK'
                  have y := sl_get x4 (by omega)
                  have hbb := blk_at hK
                  have c0 := hbb.1
                  have f0 := hbb.2.1
                  have z0 := hbb.2.2
                  clear hbb
                  go_simp
                  exact hK'.out _ _ ⟨(keepB x4 (by decide)), (keepB x7 (by decide)), (keepF i0 (by decide)), (keepF i1 (by decide)), (keepF i2 (by decide)), (fun _ => put_eq (by omega)), (keepF i5 (by decide)), (fun h => by rw [put_ne (by decide), put_ne (by decide)]; exact i7 h), (keepF i8 (by decide)), hL, hK, hS, p0, r0, r1, q0, (fun h h2 => by rw [put_ne (by decide)]; exact p3 h h2), (fun h h2 => by rw [put_ne (by decide)]; exact q3 h h2), (fun h => by rw [put_ne (by decide)]; exact p6 h), m6, m7⟩
                · unfold SlotStep
                  intro g ac wc hn hk hr hI K' hK'
                  obtain ⟨x4, x7, i0, i1, i2, i4, i5, i7, i8, hL, hK, hS, p0, r0, r1, q0, p3, q3, p6, m6, m7⟩ := hI
                  simp only [Region.binds] at hr
                  simp at hr
                  replace hK' := Lib.hid hK'
                  have y := i4 (by first | exact hr | exact hr.1 | exact hr.2 | simp [hr])
                  have y := sl_get y (by omega)
                  have hbb := blk_at hK
                  have c0 := hbb.1
                  have f0 := hbb.2.1
                  have z0 := hbb.2.2
                  clear hbb
                  go_simp
                  exact hK'.out _ _ ⟨(keepB x4 (by decide)), (keepB x7 (by decide)), (keepF i0 (by decide)), (keepF i1 (by decide)), (keepF i2 (by decide)), (keepF i4 (by decide)), (fun _ => put_eq (by omega)), (fun h => by rw [put_ne (by decide), put_ne (by decide)]; exact i7 h), (keepF i8 (by decide)), hL, hK, hS, p0, r0, r1, q0, (fun h h2 => by rw [put_ne (by decide)]; exact p3 h h2), (fun h h2 => by rw [put_ne (by decide)]; exact q3 h h2), (fun h => by rw [put_ne (by decide)]; exact p6 h), m6, m7⟩
                · unfold SlotStep
                  intro g ac wc hn hk hr hI K' hK'
                  obtain ⟨x4, x7, i0, i1, i2, i4, i5, i7, i8, hL, hK, hS, p0, r0, r1, q0, p3, q3, p6, m6, m7⟩ := hI
                  simp only [Region.binds] at hr
                  simp at hr
                  replace hK' := Lib.hid hK'
                  have g3 : g 3 = true := by first | exact hr.1 | simp [hr]
                  have y5 := i5 (by first | exact hr.2 | simp [hr])
                  have hO := p3 g3 hk
                  have hR := r1 hk
                  have g7 : g 7 = false := by cases hq : g 7 with | false => rfl | true => have hh := m7 hq; rw [hk] at hh; cases hh
                  refine wpA_TermR (.tmp 68) (.tmp 70) rfl (w1.heap.size + 1) (sl ac 68) (os ++ k0) rfl hO _ k1 y5 hR (by have := HLen.out; first | omega | (simp only [List.length_append]; omega)) hS ?_
                  intro v4 w4 ho4 hg4 hat4
                  have hz4 := hg4.size
                  have hne : (sl ac 68).ownBlock ≠ some w1.heap.size := fun e => by have := (hO.lt _ e).1; omega
                  have hL4 := hL.own (by omega) hO hg4
                  have hK4 := (hg4.block w1.heap.size (by omega) (fun e => hne e.symm)).trans hK
                  exact hK'.out _ _ ⟨(keepB x4 (by decide)), (keepB x7 (by decide)), (keepF i0 (by decide)), (keepF i1 (by decide)), (keepF i2 (by decide)), (keepF i4 (by decide)), (keepF i5 (by decide)), (fun h => absurd (show g 7 = true from h) (by rw [g7]; simp)), (keepF i8 (by decide)), hL4, hK4, (by omega), (fun h => absurd (show g 3 = false from h) (by rw [g3]; simp)), (fun h => absurd (show g 3 = false from h) (by rw [g3]; simp)), (fun h => absurd h (by simp)), (fun h => absurd (show g 3 = false from h) (by rw [g3]; simp)), (fun _ h => absurd h (by simp)), (fun _ h => absurd h (by simp)), (fun _ => by rw [put_eq (by omega)]; exact ho4), (fun _ => g3), (fun _ => rfl)⟩
                · unfold SlotStep
                  intro g ac wc hn hk hr hI K' hK'
                  obtain ⟨x4, x7, i0, i1, i2, i4, i5, i7, i8, hL, hK, hS, p0, r0, r1, q0, p3, q3, p6, m6, m7⟩ := hI
                  simp only [Region.binds] at hr
                  simp at hr
                  replace hK' := Lib.hid hK'
                  have g6 : g 6 = true := (by first | exact hr | exact hr.1 | exact hr.2 | simp [hr])
                  obtain ⟨aa, nn, cc, e71⟩ : ∃ aa nn cc, sl ac 71 = .slice aa nn cc := by obtain ⟨a, c, e⟩ := isSl_of (p6 g6); exact ⟨_, _, _, e⟩
                  have y := sl_get e71 (by omega)
                  go_simp
                  exact hK'.out _ _ ⟨(keepB x4 (by decide)), (keepB x7 (by decide)), (keepF i0 (by decide)), (keepF i1 (by decide)), (keepF i2 (by decide)), (keepF i4 (by decide)), (keepF i5 (by decide)), (fun _ => by rw [put_eq (by omega), put_ne (by decide)]; exact e71.symm), (keepF i8 (by decide)), hL, hK, hS, p0, r0, r1, q0, (fun h h2 => by rw [put_ne (by decide)]; exact p3 h h2), (fun h h2 => by rw [put_ne (by decide)]; exact q3 h h2), (fun h => by rw [put_ne (by decide)]; exact p6 h), m6, (fun _ => g6)⟩
                · unfold SlotStep
                  intro g ac wc hn hk hr hI K' hK'
                  obtain ⟨x4, x7, i0, i1, i2, i4, i5, i7, i8, hL, hK, hS, p0, r0, r1, q0, p3, q3, p6, m6, m7⟩ := hI
                  simp only [Region.binds] at hr
                  simp at hr
                  replace hK' := Lib.hid hK'
                  go_simp
                  exact hK'.out _ _ ⟨(keepB x4 (by decide)), (keepB x7 (by decide)), (keepF i0 (by decide)), (keepF i1 (by decide)), (keepF i2 (by decide)), (keepF i4 (by decide)), (keepF i5 (by decide)), (fun h => by rw [put_ne (by decide), put_ne (by decide)]; exact i7 h), (fun _ => put_eq (by omega)), hL, hK, hS, p0, r0, r1, q0, (fun h h2 => by rw [put_ne (by decide)]; exact p3 h h2), (fun h h2 => by rw [put_ne (by decide)]; exact q3 h h2), (fun h => by rw [put_ne (by decide)]; exact p6 h), m6, m7⟩
            · obtain rfl : n1 = 0 := by omega
              have hk : k1 = [] := List.eq_nil_of_length_eq_zero hn1.symm
              have HEE := Lib.hid ((sort_end (tn := tn) (os := os) (k0 := k0) (k1 := k1) (by simp [hk])).symm.trans hE)
              have HR0e := Lib.hid (show Reads wr (.slice a0 n0 cp0) k0.length 3 (trms k0) from Eq.mp (congrArg (fun q => Reads wr (.slice a0 n0 cp0) q 3 (trms k0)) hn0) HR0.out)
              have HR1e := Lib.hid (show Reads wr (.slice a1 0 cp1) k1.length 3 (trms k1) from Eq.mp (congrArg (fun q => Reads wr (.slice a1 0 cp1) q 3 (trms k1)) hn1) HR1.out)
              have HLen := Lib.hid (show os.length + k0.length + k1.length ≤ 1048576 by omega)
              have HO := Lib.hid hO
              have HLr := Lib.hid hL
              clear hO hL hE hk
              have HN0 := Lib.hid hn0
              have HN1 := Lib.hid hn1
              clear hn0 hn1 hlen hrow0 hrow1 HR0 HR1
              go_wp2_with fail
              refine region_slots 72 [65, 66, 67, 68, 69, 70, 71, 2, 3] (fun g ac wc => sl ac 4 = .pointer (some ⟨w1.heap.size, 0, none⟩) ∧
                sl ac 7 = u7 ∧
                (g 0 = true → sl ac 65 = u7) ∧
                (g 1 = true → sl ac 66 = .pointer (some ⟨w1.heap.size, 0, none⟩)) ∧
                (g 2 = true → sl ac 67 = .slice a0 n0 cp0) ∧
                (g 4 = true → sl ac 69 = .pointer (some ⟨w1.heap.size, 1, none⟩)) ∧
                (g 5 = true → sl ac 70 = .slice a1 0 cp1) ∧
                (g 7 = true → sl ac 2 = sl ac 71) ∧
                (g 8 = true → sl ac 3 = .int .i64 0) ∧
                Later w wc ∧
                wc.heap[w1.heap.size]? = some (.cells #[.slice a0 n0 cp0, .slice a1 0 cp1] 100 (0, 0)) ∧
                (w1.heap.size + 1) ≤ wc.heap.size ∧
                (g 3 = false → wc.ownsRow (w1.heap.size + 1) 55 3 (u7) (os).length (trms (os))) ∧
                (g 3 = false → Reads wc (.slice a0 n0 cp0) k0.length 3 (trms k0)) ∧
                (g 6 = false → Reads wc (.slice a1 0 cp1) k1.length 3 (trms k1)) ∧
                (g 3 = false → Good wc u7 w1.heap.size (.slice a1 0 cp1)) ∧
                (g 3 = true → g 6 = false → wc.ownsRow (w1.heap.size + 1) 55 3 (sl ac 68) (os ++ k0).length (trms (os ++ k0))) ∧
                (g 3 = true → g 6 = false → Good wc (sl ac 68) w1.heap.size (.slice a1 0 cp1)) ∧
                (g 6 = true → wc.ownsRow (w1.heap.size + 1) 55 3 (sl ac 71) (os ++ k0 ++ k1).length (trms (os ++ k0 ++ k1))) ∧
                (g 6 = true → g 3 = true) ∧
                (g 7 = true → g 6 = true)) (by kernel_rfl) (by kernel_rfl) rfl (by kernel_rfl) ?_ ?_ ?_
              · exact ⟨rfl, rfl, nofun, nofun, nofun, nofun, nofun, nofun, nofun, HLr.out.drew, HK.out, zk, fun _ => owns_later HO.out (Later.refl _).drew, fun _ => Reads.later HR0e.out (Later.refl _).drew, fun _ => Reads.later HR1e.out (Later.refl _).drew, fun _ => HG1.out, nofun, nofun, nofun, nofun, nofun⟩
              · intro g ac wc hg ha hI
                obtain ⟨-, -, i0, i1, i2, i4, i5, i7, i8, hL, -, -, -, -, -, -, -, -, p6, -, -⟩ := hI
                have HO6 := p6 (hg 6 (by simp))
                obtain ⟨ar, capr, er⟩ := isSl_of HO6
                rw [er] at HO6
                have a0 := i0 (hg 0 (by simp))
                have a1 := i1 (hg 1 (by simp))
                have a2 := i2 (hg 2 (by simp))
                have a4 := i4 (hg 4 (by simp))
                have a5 := i5 (hg 5 (by simp))
                have a7 := i7 (hg 7 (by simp))
                have a8 := i8 (hg 8 (by simp))
                rw [er] at a7
                simp only [putAll, a0, a1, a2, a4, a5, a7, a8, er] at ha
                simp only [Act.put, List.setIfInBounds_toArray, List.set_cons_succ, List.set_cons_zero] at ha
                rw [ha]
                clear i0 i1 i2 i4 i5 i7 i8 a0 a1 a2 a4 a5 a7 a8 er hg ha p6
                have HL6 := Lib.hid hL
                have HO6 := Lib.hid HO6
                clear hL
                go_wp2
                go_ret2
                refine ⟨_, by rw [HF2.out]; rfl, HL6.out, ?_⟩
                rw [HF2.out]
                show World.ownsRow _ _ _ _ _ (t0 :: weave D M).length (trms (t0 :: weave D M))
                rw [← HEE.out]
                exact owns_base (base' := w.heap.size) HO6.out (by omega)
              · refine .cons ?_ (.cons ?_ (.cons ?_ (.cons ?_ (.cons ?_ (.cons ?_ (.cons ?_ (.cons ?_ (.cons ?_ .nil))))))))
                · unfold SlotStep
                  intro g ac wc hn hk hr hI K' hK'
                  obtain ⟨x4, x7, i0, i1, i2, i4, i5, i7, i8, hL, hK, hS, p0, r0, r1, q0, p3, q3, p6, m6, m7⟩ := hI
                  simp only [Region.binds] at hr
                  simp at hr
                  replace hK' := Lib.hid hK'
                  have y := sl_get x7 (by omega)
                  go_simp
                  exact hK'.out _ _ ⟨(keepB x4 (by decide)), (keepB x7 (by decide)), (fun _ => put_eq (by omega)), (keepF i1 (by decide)), (keepF i2 (by decide)), (keepF i4 (by decide)), (keepF i5 (by decide)), (fun h => by rw [put_ne (by decide), put_ne (by decide)]; exact i7 h), (keepF i8 (by decide)), hL, hK, hS, p0, r0, r1, q0, (fun h h2 => by rw [put_ne (by decide)]; exact p3 h h2), (fun h h2 => by rw [put_ne (by decide)]; exact q3 h h2), (fun h => by rw [put_ne (by decide)]; exact p6 h), m6, m7⟩
                · unfold SlotStep
                  intro g ac wc hn hk hr hI K' hK'
                  obtain ⟨x4, x7, i0, i1, i2, i4, i5, i7, i8, hL, hK, hS, p0, r0, r1, q0, p3, q3, p6, m6, m7⟩ := hI
                  simp only [Region.binds] at hr
                  simp at hr
                  replace hK' := Lib.hid hK'
                  have y := sl_get x4 (by omega)
                  have hbb := blk_at hK
                  have c0 := hbb.1
                  have f0 := hbb.2.1
                  have z0 := hbb.2.2
                  clear hbb
                  go_simp
                  exact hK'.out _ _ ⟨(keepB x4 (by decide)), (keepB x7 (by decide)), (keepF i0 (by decide)), (fun _ => put_eq (by omega)), (keepF i2 (by decide)), (keepF i4 (by decide)), (keepF i5 (by decide)), (fun h => by rw [put_ne (by decide), put_ne (by decide)]; exact i7 h), (keepF i8 (by decide)), hL, hK, hS, p0, r0, r1, q0, (fun h h2 => by rw [put_ne (by decide)]; exact p3 h h2), (fun h h2 => by rw [put_ne (by decide)]; exact q3 h h2), (fun h => by rw [put_ne (by decide)]; exact p6 h), m6, m7⟩
                · unfold SlotStep
                  intro g ac wc hn hk hr hI K' hK'
                  obtain ⟨x4, x7, i0, i1, i2, i4, i5, i7, i8, hL, hK, hS, p0, r0, r1, q0, p3, q3, p6, m6, m7⟩ := hI
                  simp only [Region.binds] at hr
                  simp at hr
                  replace hK' := Lib.hid hK'
                  have y := i1 (by first | exact hr | exact hr.1 | exact hr.2 | simp [hr])
                  have y := sl_get y (by omega)
                  have hbb := blk_at hK
                  have c0 := hbb.1
                  have f0 := hbb.2.1
                  have z0 := hbb.2.2
                  clear hbb
                  go_simp
                  exact hK'.out _ _ ⟨(keepB x4 (by decide)), (keepB x7 (by decide)), (keepF i0 (by decide)), (keepF i1 (by decide)), (fun _ => put_eq (by omega)), (keepF i4 (by decide)), (keepF i5 (by decide)), (fun h => by rw [put_ne (by decide), put_ne (by decide)]; exact i7 h), (keepF i8 (by decide)), hL, hK, hS, p0, r0, r1, q0, (fun h h2 => by rw [put_ne (by decide)]; exact p3 h h2), (fun h h2 => by rw [put_ne (by decide)]; exact q3 h h2), (fun h => by rw [put_ne (by decide)]; exact p6 h), m6, m7⟩
                · unfold SlotStep
                  intro g ac wc hn hk hr hI K' hK'
                  obtain ⟨x4, x7, i0, i1, i2, i4, i5, i7, i8, hL, hK, hS, p0, r0, r1, q0, p3, q3, p6, m6, m7⟩ := hI
                  simp only [Region.binds] at hr
                  simp at hr
                  replace hK' := Lib.hid hK'
                  have y0 := i0 (by first | exact hr.1 | simp [hr])
                  have y2 := i2 (by first | exact hr.2 | simp [hr])
                  have g6 : g 6 = false := by cases hq : g 6 with | false => rfl | true => have hh := m6 hq; rw [hk] at hh; cases hh
                  have hO := p0 hk
                  have hR := r0 hk
                  have hR1 := r1 g6
                  have hG := q0 hk
                  refine wpA_TermR (.tmp 65) (.tmp 67) rfl (w1.heap.size + 1) u7 (os) y0 hO _ k0 y2 hR (by have := HLen.out; first | omega | (simp only [List.length_append]; omega)) hS ?_
                  intro v4 w4 ho4 hg4 hat4
                  have hz4 := hg4.size
                  have hne : u7.ownBlock ≠ some w1.heap.size := fun e => by have := (hO.lt _ e).1; omega
                  have hL4 := hL.own (by omega) hO hg4
                  have hK4 := (hg4.block w1.heap.size (by omega) (fun e => hne e.symm)).trans hK
                  have hR4 := reads_grown hR1 hg4 (fun b off n c e => (hG b off n c e).2.2)
                  have hG4 := Good.step hG hat4 hg4.size
                  exact hK'.out _ _ ⟨(keepB x4 (by decide)), (keepB x7 (by decide)), (keepF i0 (by decide)), (keepF i1 (by decide)), (keepF i2 (by decide)), (keepF i4 (by decide)), (keepF i5 (by decide)), (fun h => by rw [put_ne (by decide), put_ne (by decide)]; exact i7 h), (keepF i8 (by decide)), hL4, hK4, (by omega), (fun h => absurd h (by simp)), (fun h => absurd h (by simp)), (fun _ => hR4), (fun h => absurd h (by simp)), (fun _ _ => by rw [put_eq (by omega)]; exact ho4), (fun _ _ => by rw [put_eq (by omega)]; exact hG4), (fun h => absurd (show g 6 = true from h) (by rw [g6]; simp)), (fun _ => rfl), m7⟩
                · unfold SlotStep
                  intro g ac wc hn hk hr hI K' hK'
                  obtain ⟨x4, x7, i0, i1, i2, i4, i5, i7, i8, hL, hK, hS, p0, r0, r1, q0, p3, q3, p6, m6, m7⟩ := hI
                  simp only [Region.binds] at hr
                  simp at hr
                  replace hK' := Lib.hid hK'
                  have y := sl_get x4 (by omega)
                  have hbb := blk_at hK
                  have c0 := hbb.1
                  have f0 := hbb.2.1
                  have z0 := hbb.2.2
                  clear hbb
                  go_simp
                  exact hK'.out _ _ ⟨(keepB x4 (by decide)), (keepB x7 (by decide)), (keepF i0 (by decide)), (keepF i1 (by decide)), (keepF i2 (by decide)), (fun _ => put_eq (by omega)), (keepF i5 (by decide)), (fun h => by rw [put_ne (by decide), put_ne (by decide)]; exact i7 h), (keepF i8 (by decide)), hL, hK, hS, p0, r0, r1, q0, (fun h h2 => by rw [put_ne (by decide)]; exact p3 h h2), (fun h h2 => by rw [put_ne (by decide)]; exact q3 h h2), (fun h => by rw [put_ne (by decide)]; exact p6 h), m6, m7⟩
                · unfold SlotStep
                  intro g ac wc hn hk hr hI K' hK'
                  obtain ⟨x4, x7, i0, i1, i2, i4, i5, i7, i8, hL, hK, hS, p0, r0, r1, q0, p3, q3, p6, m6, m7⟩ := hI
                  simp only [Region.binds] at hr
                  simp at hr
                  replace hK' := Lib.hid hK'
                  have y := i4 (by first | exact hr | exact hr.1 | exact hr.2 | simp [hr])
                  have y := sl_get y (by omega)
                  have hbb := blk_at hK
                  have c0 := hbb.1
                  have f0 := hbb.2.1
                  have z0 := hbb.2.2
                  clear hbb
                  go_simp
                  exact hK'.out _ _ ⟨(keepB x4 (by decide)), (keepB x7 (by decide)), (keepF i0 (by decide)), (keepF i1 (by decide)), (keepF i2 (by decide)), (keepF i4 (by decide)), (fun _ => put_eq (by omega)), (fun h => by rw [put_ne (by decide), put_ne (by decide)]; exact i7 h), (keepF i8 (by decide)), hL, hK, hS, p0, r0, r1, q0, (fun h h2 => by rw [put_ne (by decide)]; exact p3 h h2), (fun h h2 => by rw [put_ne (by decide)]; exact q3 h h2), (fun h => by rw [put_ne (by decide)]; exact p6 h), m6, m7⟩
                · unfold SlotStep
                  intro g ac wc hn hk hr hI K' hK'
                  obtain ⟨x4, x7, i0, i1, i2, i4, i5, i7, i8, hL, hK, hS, p0, r0, r1, q0, p3, q3, p6, m6, m7⟩ := hI
                  simp only [Region.binds] at hr
                  simp at hr
                  replace hK' := Lib.hid hK'
                  have g3 : g 3 = true := by first | exact hr.1 | simp [hr]
                  have y5 := i5 (by first | exact hr.2 | simp [hr])
                  have hO := p3 g3 hk
                  have hR := r1 hk
                  have g7 : g 7 = false := by cases hq : g 7 with | false => rfl | true => have hh := m7 hq; rw [hk] at hh; cases hh
                  refine wpA_TermR (.tmp 68) (.tmp 70) rfl (w1.heap.size + 1) (sl ac 68) (os ++ k0) rfl hO _ k1 y5 hR (by have := HLen.out; first | omega | (simp only [List.length_append]; omega)) hS ?_
                  intro v4 w4 ho4 hg4 hat4
                  have hz4 := hg4.size
                  have hne : (sl ac 68).ownBlock ≠ some w1.heap.size := fun e => by have := (hO.lt _ e).1; omega
                  have hL4 := hL.own (by omega) hO hg4
                  have hK4 := (hg4.block w1.heap.size (by omega) (fun e => hne e.symm)).trans hK
                  exact hK'.out _ _ ⟨(keepB x4 (by decide)), (keepB x7 (by decide)), (keepF i0 (by decide)), (keepF i1 (by decide)), (keepF i2 (by decide)), (keepF i4 (by decide)), (keepF i5 (by decide)), (fun h => absurd (show g 7 = true from h) (by rw [g7]; simp)), (keepF i8 (by decide)), hL4, hK4, (by omega), (fun h => absurd (show g 3 = false from h) (by rw [g3]; simp)), (fun h => absurd (show g 3 = false from h) (by rw [g3]; simp)), (fun h => absurd h (by simp)), (fun h => absurd (show g 3 = false from h) (by rw [g3]; simp)), (fun _ h => absurd h (by simp)), (fun _ h => absurd h (by simp)), (fun _ => by rw [put_eq (by omega)]; exact ho4), (fun _ => g3), (fun _ => rfl)⟩
                · unfold SlotStep
                  intro g ac wc hn hk hr hI K' hK'
                  obtain ⟨x4, x7, i0, i1, i2, i4, i5, i7, i8, hL, hK, hS, p0, r0, r1, q0, p3, q3, p6, m6, m7⟩ := hI
                  simp only [Region.binds] at hr
                  simp at hr
                  replace hK' := Lib.hid hK'
                  have g6 : g 6 = true := (by first | exact hr | exact hr.1 | exact hr.2 | simp [hr])
                  obtain ⟨aa, nn, cc, e71⟩ : ∃ aa nn cc, sl ac 71 = .slice aa nn cc := by obtain ⟨a, c, e⟩ := isSl_of (p6 g6); exact ⟨_, _, _, e⟩
                  have y := sl_get e71 (by omega)
                  go_simp
                  exact hK'.out _ _ ⟨(keepB x4 (by decide)), (keepB x7 (by decide)), (keepF i0 (by decide)), (keepF i1 (by decide)), (keepF i2 (by decide)), (keepF i4 (by decide)), (keepF i5 (by decide)), (fun _ => by rw [put_eq (by omega), put_ne (by decide)]; exact e71.symm), (keepF i8 (by decide)), hL, hK, hS, p0, r0, r1, q0, (fun h h2 => by rw [put_ne (by decide)]; exact p3 h h2), (fun h h2 => by rw [put_ne (by decide)]; exact q3 h h2), (fun h => by rw [put_ne (by decide)]; exact p6 h), m6, (fun _ => g6)⟩
                · unfold SlotStep
                  intro g ac wc hn hk hr hI K' hK'
                  obtain ⟨x4, x7, i0, i1, i2, i4, i5, i7, i8, hL, hK, hS, p0, r0, r1, q0, p3, q3, p6, m6, m7⟩ := hI
                  simp only [Region.binds] at hr
                  simp at hr
                  replace hK' := Lib.hid hK'
                  go_simp
                  exact hK'.out _ _ ⟨(keepB x4 (by decide)), (keepB x7 (by decide)), (keepF i0 (by decide)), (keepF i1 (by decide)), (keepF i2 (by decide)), (keepF i4 (by decide)), (keepF i5 (by decide)), (fun h => by rw [put_ne (by decide), put_ne (by decide)]; exact i7 h), (fun _ => put_eq (by omega)), hL, hK, hS, p0, r0, r1, q0, (fun h h2 => by rw [put_ne (by decide)]; exact p3 h h2), (fun h h2 => by rw [put_ne (by decide)]; exact q3 h h2), (fun h => by rw [put_ne (by decide)]; exact p6 h), m6, m7⟩

end Go.Proofs.Ytkoojngonldcbaa
