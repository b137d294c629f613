/- DERIVED. Walks: the figure of a chain, the program's. -/
import Derived.Test.YtkoojngonldcbaaM22
namespace Go.Proofs.Ytkoojngonldcbaa
set_option linter.unusedVariables false
set_option linter.unusedSimpArgs false
open Go.RowKit
set_option maxRecDepth 100000

theorem trms_drop (l : List Trm) (k : Nat) : (trms l).drop (k * 3) = trms (l.drop k) := flat_drop Trm.cells 3 (fun _ => rfl) l k
theorem headF_of {l : List Trm} {t : Trm} (h : l[0]? = some t) : headF l = t.f := by
  cases l with
  | nil => simp at h
  | cons x l => simp at h; subst h; rfl
theorem drop1_get {l : List Trm} {k : Nat} {t : Trm} (h : l[k + 1]? = some t) : (l.drop 1)[k]? = some t := by
  rw [List.getElem?_drop, Nat.add_comm]; exact h

set_option maxHeartbeats 2000000 in
theorem w_implChainFigure (v : Value) (l : List Trm) (w : World) (h : IsTrms w v l) :
    Calls Try.prog 32 #[v] w fun e w' => e = .returned (.tuple #[.agg #[.int .i64 (chainFig l).d, .int .i64 (chainFig l).t], .int .i64 (chainFigC l)]) ∧ Later w w' := by
  cases hc : isChain l
  · have HC := Lib.hid hc
    have HF := Lib.hid (show chainFig l = ⟨0, 0⟩ from by simp [chainFig, hc])
    have HG := Lib.hid (show chainFigC l = 1 from by simp [chainFigC, hc])
    clear hc
    go_enter Try.func32, Try.ntmps32
    go_wp2_with fail
    refine (w_implIsChain _ _ _ (h.later ((Later.refl _).alloc _))).mono ?_
    rintro e w1 ⟨rfl, hL⟩
    rw [HC.out]
    obtain ⟨c0, f0, z0⟩ := blk1 hL
    go_wp2
    refine bodyPost_ret (v := .tuple #[.agg #[.int .i64 0, .int .i64 0], .int .i64 1]) (by simp [results, Try.results32, go_sem, c0, z0]) rfl ⟨by rw [HF.out, HG.out], by (repeat (with_reducible first | exact Later.refl _ | refine Later.alloc ?_ _ | refine Later.drew ?_ | refine Later.drewN ?_ _ | refine Later.setCell ?_ (by simp; try omega) _ | refine Later.trans ?_ (by assumption)))⟩
  have h6 := (isChain_true hc).2.1
  have h1 := (isChain_true hc).1
  have HF := Lib.hid (show chainFig l = optF (chainFig0 l) from by simp [chainFig, hc])
  have HG := Lib.hid (show chainFigC l = optC (chainFig0 l) from by simp [chainFigC, hc])
  have H := Lib.hid h
  obtain ⟨hxl1, hn1, a1, cap1, rfl, hcap1, hmax1, hrow1⟩ := h
  have HR1 := Lib.hid hrow1
  clear hrow1 hxl1
  have hL0 := Later.refl w
  obtain ⟨b1, off1, rfl, hr1⟩ := HR1.out (by omega)
  obtain ⟨t, ht⟩ := get_ex (l := l) (k := 0) (by omega)
  have HT := Lib.hid ht
  have hok : isFig t.f = true := (isChain_true hc).2.2.2 t (List.mem_of_getElem? ht)
  have HK := Lib.hid hok
  have H0 := Lib.hid (show chainFig0 l = figFold t.f (l.drop 1) from by rw [chainFig0, headF_of ht])
  have HC := Lib.hid hc
  clear hc ht hok
  rcases (show cap1 = 1 ∨ 1 < cap1 by omega) with rfl | hcap
  all_goals
    go_enter Try.func32, Try.ntmps32
    go_wp2_with fail
    refine (w_implIsChain _ _ _ (H.out.later ((Later.refl _).alloc _))).mono ?_
    rintro e w1 ⟨rfl, hL⟩
    rw [HC.out]
    have hL1 := ((Later.refl w).alloc (.cells #[.int .i64 0, .int .i64 0] 41)).trans hL
    obtain ⟨c1, c2, c3⟩ := (hr1.later hL1).trm HT.out
    simp only [Nat.zero_mul, Nat.add_zero] at c1 c2 c3
    have hK0 := Lib.hid (kept1 hL)
    have hlt1 := hL.size
    simp only [World.size_alloc] at hlt1
    go_wp2
    clear c1 c2 c3
    go_loopw [19] (fun i wr => ∃ k : Nat, k ≤ l.length - 1 ∧ i = .int .i64 k ∧ Later w wr ∧ w1.heap.size < wr.heap.size ∧ wr.heap[w.heap.size]? = some (.cells #[.int .i64 0, .int .i64 0] 41 (0, 0)) ∧ ∃ A : Fig, wr.heap[w1.heap.size]? = some (.cells #[.int .i64 A.d, .int .i64 A.t] 41 (0, 0)) ∧ Hid (figFold A (l.drop (k + 1)) = chainFig0 l ∧ isFig A = true)) (fun i _ => l.length - 1 - (intOf i).toNat)
    case atStart => exact ⟨0, Nat.zero_le _, rfl, hL1.alloc _, by simp, heap_alloc_old _ _ hK0.out, t.f, heap_alloc_new _ _, ⟨H0.out.symm, HK.out⟩⟩
    case round =>
      obtain ⟨k, hk, rfl, hL2, hsz, hres, A, hA, HA⟩ := hrel
      obtain ⟨cr, fr, zr⟩ := blk_at hres
      obtain ⟨ca, fa, za⟩ := blk_at hA
      have HRes := Lib.hid hres
      have HAb := Lib.hid hA
      clear hres hA
      by_cases hlt : k < l.length - 1
      · try (exfalso; omega)
        all_goals
          obtain ⟨t', ht'⟩ := get_ex (l := l) (k := k + 1) (by omega)
          have hr2 : RowAt w b1 (off1 + 3) (trms (l.drop 1)) := by
            have := hr1.drop 3
            rwa [show (3 : Nat) = 1 * 3 from rfl, trms_drop] at this
          have HT2 := Lib.hid ht'
          obtain ⟨c1, c2, c3⟩ := (hr2.later hL2).trm (drop1_get ht')
          have HK2 := Lib.hid (show isFig t'.f = true from (isChain_true HC.out).2.2.2 t' (List.mem_of_getElem? ht'))
          have HD := Lib.hid (show l.drop (k + 1) = t' :: l.drop (k + 1 + 1) from drop_get ht')
          have hne : ¬ w.heap.size = w1.heap.size := by omega
          have hne2 : ¬ w1.heap.size = w.heap.size := by omega
          clear ht'
          cases hq : t'.dv
          · have hop := op_cases false HA.out.2 HK2.out
            rw [hq] at c3
            have HQ := Lib.hid hq
            simp only [opC, opR, Bool.false_eq_true, if_false] at hop
            obtain ⟨R, hR⟩ : ∃ R, mulR A t'.f = R := ⟨_, rfl⟩
            rw [hR] at hop
            have HR := Lib.hid hR
            clear hR hq
            rcases hop with ⟨o1, o2⟩ | ⟨o1, o2⟩
            all_goals
              have HO1 := Lib.hid o1
              have HO2 := Lib.hid o2
              clear o1 o2
              go_wp2_with fail
              refine (w_implMultiplyFigures _ _ _ _ _).mono ?_
              rintro e w2 ⟨rfl, hL3⟩
              rw [show mulR ⟨A.d, A.t⟩ ⟨t'.f.d, t'.f.t⟩ = R from HR.out, show mulC ⟨A.d, A.t⟩ ⟨t'.f.d, t'.f.t⟩ = _ from HO1.out]
              have hA2 := hL3.keep (heap_alloc_old _ _ HAb.out)
              have hR2 := hL3.keep (heap_alloc_old _ _ HRes.out)
              have hsz3 := hL3.size
              simp only [World.size_alloc] at hsz3
              clear cr fr zr ca fa za c1 c2 c3
              obtain ⟨cr, fr, zr⟩ := blk_at hR2
              obtain ⟨ca, fa, za⟩ := blk_at hA2
              have HA2 := Lib.hid hA2
              have HR2 := Lib.hid hR2
              clear hA2 hR2
              go_wp2
            · go_roundw
              case rel => exact ⟨k + 1, by omega, by go_num, by (repeat (with_reducible first | exact Later.refl _ | refine Later.alloc ?_ _ | refine Later.drew ?_ | refine Later.drewN ?_ _ | refine Later.setCell ?_ (by simp; try omega) _ | refine Later.trans ?_ (by assumption))), by simp; omega, other_set (other_set HR2.out (by omega) _) (by omega) _, R, two_set HA2.out _ _, by rw [← HA.out.1, HD.out, figFold_go (by rw [HQ.out]; exact HO1.out), HQ.out]; exact congrArg (fun x => figFold x _) HR.out.symm, HO2.out⟩
              case measure => simp [intOf]; omega
            · have HE := Lib.hid (show chainFig0 l = none from by rw [← HA.out.1, HD.out, figFold_stop (by rw [HQ.out]; exact HO1.out)])
              refine bodyPost_ret (v := .tuple #[.agg #[.int .i64 0, .int .i64 0], .int .i64 3]) (by simp [results, Try.results32, go_sem, cr, zr, hne, hne2]) rfl ⟨by rw [HF.out, HG.out, HE.out]; rfl, by (repeat (with_reducible first | exact Later.refl _ | refine Later.alloc ?_ _ | refine Later.drew ?_ | refine Later.drewN ?_ _ | refine Later.setCell ?_ (by simp; try omega) _ | refine Later.trans ?_ (by assumption)))⟩
          · have hop := op_cases true HA.out.2 HK2.out
            rw [hq] at c3
            have HQ := Lib.hid hq
            simp only [opC, opR, if_true] at hop
            obtain ⟨R, hR⟩ : ∃ R, divR A t'.f = R := ⟨_, rfl⟩
            rw [hR] at hop
            have HR := Lib.hid hR
            clear hR hq
            rcases hop with ⟨o1, o2⟩ | ⟨o1, o2⟩
            all_goals
              have HO1 := Lib.hid o1
              have HO2 := Lib.hid o2
              clear o1 o2
              go_wp2_with fail
              refine (w_implDivideFigures _ _ _ _ _).mono ?_
              rintro e w2 ⟨rfl, hL3⟩
              rw [show divR ⟨A.d, A.t⟩ ⟨t'.f.d, t'.f.t⟩ = R from HR.out, show divC ⟨A.d, A.t⟩ ⟨t'.f.d, t'.f.t⟩ = _ from HO1.out]
              have hA2 := hL3.keep (heap_alloc_old _ _ HAb.out)
              have hR2 := hL3.keep (heap_alloc_old _ _ HRes.out)
              have hsz3 := hL3.size
              simp only [World.size_alloc] at hsz3
              clear cr fr zr ca fa za c1 c2 c3
              obtain ⟨cr, fr, zr⟩ := blk_at hR2
              obtain ⟨ca, fa, za⟩ := blk_at hA2
              have HA2 := Lib.hid hA2
              have HR2 := Lib.hid hR2
              clear hA2 hR2
              go_wp2
            · go_roundw
              case rel => exact ⟨k + 1, by omega, by go_num, by (repeat (with_reducible first | exact Later.refl _ | refine Later.alloc ?_ _ | refine Later.drew ?_ | refine Later.drewN ?_ _ | refine Later.setCell ?_ (by simp; try omega) _ | refine Later.trans ?_ (by assumption))), by simp; omega, other_set (other_set HR2.out (by omega) _) (by omega) _, R, two_set HA2.out _ _, by rw [← HA.out.1, HD.out, figFold_go (by rw [HQ.out]; exact HO1.out), HQ.out]; exact congrArg (fun x => figFold x _) HR.out.symm, HO2.out⟩
              case measure => simp [intOf]; omega
            · have HE := Lib.hid (show chainFig0 l = none from by rw [← HA.out.1, HD.out, figFold_stop (by rw [HQ.out]; exact HO1.out)])
              refine bodyPost_ret (v := .tuple #[.agg #[.int .i64 0, .int .i64 0], .int .i64 3]) (by simp [results, Try.results32, go_sem, cr, zr, hne, hne2]) rfl ⟨by rw [HF.out, HG.out, HE.out]; rfl, by (repeat (with_reducible first | exact Later.refl _ | refine Later.alloc ?_ _ | refine Later.drew ?_ | refine Later.drewN ?_ _ | refine Later.setCell ?_ (by simp; try omega) _ | refine Later.trans ?_ (by assumption)))⟩
      · have HE := Lib.hid (show chainFig0 l = some A from by
          rw [← HA.out.1, List.drop_eq_nil_of_le (by omega)]; rfl)
        have hne : ¬ w.heap.size = w1.heap.size := by omega
        have hk0 : ¬ k < l.length - 1 := hlt
        go_wp2
        refine bodyPost_ret (v := .tuple #[.agg #[.int .i64 A.d, .int .i64 A.t], .int .i64 0]) (by simp [results, Try.results32, go_sem, cr, zr]) rfl ⟨by rw [HF.out, HG.out, HE.out]; rfl, by (repeat (with_reducible first | exact Later.refl _ | refine Later.alloc ?_ _ | refine Later.drew ?_ | refine Later.drewN ?_ _ | refine Later.setCell ?_ (by simp; try omega) _ | refine Later.trans ?_ (by assumption)))⟩

end Go.Proofs.Ytkoojngonldcbaa
