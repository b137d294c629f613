/- DERIVED. Walks: lists of moves read from text. -/
import Derived.Test.YtgngbdacejghcaaGreatDoorKVD23
import Derived.Test.YtgngbdacejghcaaGreatDoorKVD25
namespace Go.Proofs.YtgngbdacejghcaaGreatDoor
set_option linter.unusedVariables false
set_option linter.unusedSimpArgs false
open Go.RowKit
set_option maxRecDepth 100000
set_option linter.unusedVariables false
theorem sum_mem {l : List Nat} : ∀ x ∈ l, x ≤ l.sum := by
 induction l with
 | nil => intro x h; cases h
 | cons a r ih =>
  intro x h
  rw [List.sum_cons]
  rcases List.mem_cons.1 h with rfl | h
  · omega
  · have := ih x h; omega
theorem sum_take (l : List Nat) (k : Nat) : (l.take k).sum ≤ l.sum := by
 have h := congrArg List.sum (List.take_append_drop k l)
 rw [List.sum_append] at h
 omega
theorem spl_mem_len {b : UInt8} {s x : List UInt8} (h : x ∈ spl b s) : x.length ≤ s.length := by
 have h1 := spl_sumA b s
 have h2 := spl_len b s
 have h3 := sum_mem (l := (spl b s).map List.length) x.length (List.mem_map_of_mem h)
 omega
def MsOut (s : List UInt8) (w : World) (e : Ending) (w' : World) : Prop := ∃ v, e = .returned (.tuple #[v, .int .i64 (msC s)]) ∧ Later w w' ∧ w'.ownsRow w.heap.size 107 4 v (msV s).length (movs (msV s))
theorem ms_bad {s : List UInt8} {w w' : World} (h : rdMs s = none) (hL : Later w w') : MsOut s w (.returned (.tuple #[.slice none 0 0, .int .i64 6])) w' := by
 obtain ⟨e1, e2⟩ := ms_no h
 unfold MsOut
 rw [e1, e2]
 exact ⟨_, rfl, hL, World.ownsRow_nil _ _ _ _⟩
theorem ms_good {s : List UInt8} {L : List Mov} {v : Value} {w w' : World} (h : rdMs s = some L) (hL : Later w w') (ho : w'.ownsRow w.heap.size 107 4 v L.length (movs L)) : MsOut s w (.returned (.tuple #[v, .int .i64 0])) w' := by
 obtain ⟨e1, e2⟩ := ms_yes h
 unfold MsOut
 rw [e1, e2]
 exact ⟨_, rfl, hL, ho⟩
set_option maxHeartbeats 2000000 in
theorem w_implReadMoves (s : List UInt8) (hs : s.length ≤ 1048576) (w : World) (he : Env w) :
 Calls Tryz.prog 28 #[sv s] w fun e w' => MsOut s w e w' := by
 have HE := Lib.hid he
 clear he
 by_cases hne : s = []
 · subst hne
   go_enter Tryz.func28, Tryz.ntmps28
   go_wp2
   go_ret2
   exact ms_good rdMs_nil (Later.refl _) (World.ownsRow_nil _ _ _ _)
 have hq0 : (s == []) = false := by simpa using hne
 have HNE := Lib.hid hne
 clear hne
 obtain ⟨P, hP⟩ : ∃ P, spl 32 s = P := ⟨_, rfl⟩
 have hl := spl_len 32 s
 rw [hP] at hl
 have HP := Lib.hid hP
 clear hP
 go_enter Tryz.func28, Tryz.ntmps28
 go_wp2_with fail
 refine (w_Split 32 s (by omega) _ (HE.out.later ((Later.refl _).alloc _))).mono ?_
 rintro e w1 ⟨⟨g, rfl, ho⟩, hL1⟩
 rw [HP.out] at ho ⊢
 have hz1 := hL1.size
 simp only [World.size_alloc] at hz1
 have HW1 : Later w w1 := ((Later.refl w).alloc _).trans hL1
 have HR : Hid (w1.ownsRow w.heap.size 107 4 (.slice (some ⟨w.heap.size, 0, none⟩) 0 0) 0 (movs [])) := Lib.hid (owns_later (own_empty (Nat.le_refl _) _ _) hL1)
 have HO := Lib.hid ho
 have hg := (own_shape ho)
 clear ho hL1
 go_wp2
 go_loopw [4, 15] (fun v i wr => ∃ (L : List Mov) (k : Nat), k ≤ P.length ∧ L.length = k ∧ k ≤ 30 ∧ i = .int .i64 (k : Nat) ∧ wr.ownsRow w.heap.size 107 4 v L.length (movs L) ∧ w1.heap.size ≤ wr.heap.size ∧ Later w wr ∧ Hid (∀ (j : Nat) x, j < k → P[j]? = some x → rdM x = L[j]?) ∧ Hid (wr.ownsRow (w.heap.size + 1) 9 1 (.slice (some ⟨g, 0, none⟩) P.length P.length) P.length (strs P))) (fun _ i _ => P.length - (intOf i).toNat)
 case atStart => exact ⟨[], 0, Nat.zero_le _, rfl, by omega, rfl, HR.out, Nat.le_refl _, HW1, Lib.hid (fun j x hj => absurd hj (by omega)), Lib.hid (owns_base HO.out (by simp))⟩
 case round =>
  obtain ⟨L, k, hk, hLk, hk30, rfl, hO, hz, hL, HRD, HPr⟩ := hrel
  have HO3 := Lib.hid hO
  have HLk := Lib.hid hLk
  have wi : IntKind.i64.wrap ((k : Int) + 1) = (k : Int) + 1 := wrapI (by omega) (by omega)
  by_cases hlt : k < P.length
  · obtain ⟨y, hy⟩ := get_ex (l := P) (k := k) hlt
    have hc := row_add HPr.out k _ (show (strs P)[k]? = some (sv y) from by simp only [strs, List.getElem?_map, hy]; rfl)
    rw [addr0] at hc
    have hyl : y.length ≤ s.length := spl_mem_len (b := 32) (by rw [HP.out]; exact List.mem_of_getElem? hy)
    have HY := Lib.hid hy
    clear hy
    obtain ⟨av, cv, rfl⟩ := isSl_of hO
    clear hO hLk
    go_wp2_with fail
    refine (w_readMove y (by omega) _ (HE.out.later hL)).mono ?_
    rintro e w2 ⟨⟨mk, msc, md, mt, b, rfl, h1, h2⟩, hL2⟩
    have hLw := hL.trans hL2
    have hzb := hLw.size
    have hz2 := hL2.size
    have HO4 := Lib.hid (owns_later HO3.out hL2)
    have HPr4 := Lib.hid (owns_later HPr.out hL2)
    clear hL2
    cases b
    · have FIN := Lib.hid (rdMs_bad HNE.out (by rw [HP.out]; exact HY.out) (h2 rfl))
      clear h1 h2
      go_wp2
      go_ret2
      exact ms_bad FIN.out (qla)
    · have HM := Lib.hid (h1 rfl)
      clear h1 h2
      by_cases h30 : L.length = 30
      · have hb : ((L.length : Int) == 30) = true := by simp; omega
        have FIN := Lib.hid (rdMs_long HNE.out (by rw [HP.out]; have := HLk.out; omega))
        go_wp2
        go_ret2
        exact ms_bad FIN.out (qla)
      · have hb : ((L.length : Int) == 30) = false := by simp; omega
        have hkL : L.length + 1 ≤ 1048576 := by have := HLk.out; omega
        go_wp2_with (at_builtin; refine app1_Move rfl (.tmp 31) (.tmp 33) rfl w.heap.size _ L ⟨mk, msc, ⟨md, mt⟩⟩ rfl (World.ownsRow.alloc HO4.out _) (by simp [Act.eval, Array.getD]) hkL (by simp; omega) ?_; intro v5 w5 ho5 hg5)
        go_roundw
        case rel => exact ⟨L ++ [⟨mk, msc, ⟨md, mt⟩⟩], k + 1, by omega, by have := HLk.out; simp; omega, by have := HLk.out; omega, by go_num, ho5, by have := hg5.size; simp at this; omega, Below.grown (hLw.alloc _) hg5 (by simp; omega) (fun j hj => (HO4.out.lt j hj).1), Lib.hid (fun j x hj hx => by
         have hll := HLk.out
         by_cases hjk : j < k
         · rw [List.getElem?_append_left (by omega)]; exact HRD.out j x hjk hx
         · obtain rfl : j = k := by omega
           rw [HY.out] at hx
           obtain rfl := Option.some.inj hx
           rw [HM.out, List.getElem?_append_right (by omega), hll]
           simp), Lib.hid (rows_grown (World.ownsRow.alloc HPr4.out _) hg5 (own_ty_ne HPr4.out HO4.out (by decide)))⟩
        case measure => simp [intOf]; omega
  · have HF := Lib.hid (show rdMs s = some L from by
     have hll := HLk.out
     refine rdMs_all (by omega) (by rw [HP.out]; omega) fun j x hx => ?_
     rw [HP.out] at hx
     exact HRD.out j x (by have := (List.getElem?_eq_some_iff.1 hx).1; omega) hx)
    clear hO hLk
    go_wp2
    go_ret2
    exact ms_good HF.out hL HO3.out
set_option maxHeartbeats 2000000 in
theorem w_specReadMoves (s : List UInt8) (hs : s.length ≤ 1048576) (w : World) :
 Calls Tryz.prog 29 #[sv s] w fun e w' => MsOut s w e w' := by
 by_cases hne : s = []
 · subst hne
   go_enter Tryz.func29, Tryz.ntmps29
   go_wp2
   go_ret2
   exact ms_good rdMs_nil (qla) (own_empty (Nat.le_refl _) _ _)
 have hq0 : (s == []) = false := by simpa using hne
 have HNE := Lib.hid hne
 clear hne
 obtain ⟨P, hP⟩ : ∃ P, spl 32 s = P := ⟨_, rfl⟩
 have hl := spl_len 32 s
 have hsm := spl_sumA 32 s
 rw [hP] at hl hsm
 have HP := Lib.hid hP
 have HSM := Lib.hid hsm
 clear hP hsm
 go_enter Tryz.func29, Tryz.ntmps29
 go_wp2_with fail
 refine (w_l01Split 32 32 rfl s (by omega) _).mono ?_
 rintro e w1 ⟨⟨v, rfl, ho⟩, hL1⟩
 rw [HP.out] at ho
 have hz1 := hL1.size
 have HO := Lib.hid ho
 obtain ⟨aP, cP, rfl⟩ := isSl_of ho
 have hpos : 0 < P.length := by omega
 rcases own_shape ho with ⟨_, h0, _⟩ | ⟨g, cap, hv, hg1, hg2, hg3, hg4⟩
 · omega
 cases hv
 clear ho
 go_wp2
 go_loopw [5, 6] (fun v i wr => ∃ (L : List Mov) (k : Nat), k ≤ P.length ∧ L.length = k ∧ i = .int .i64 (k : Nat) ∧ wr.ownsRow w.heap.size 107 4 v L.length (movs L) ∧ w1.heap.size ≤ wr.heap.size ∧ Later w wr ∧ Hid (∀ (j : Nat) x m, P[j]? = some x → L[j]? = some m → rdM x = if isMove m then some m else none) ∧ Hid (k ≤ ((P.map List.length).take k).sum) ∧ Hid (wr.ownsRow w.heap.size 9 1 (.slice (some ⟨g, 0, none⟩) P.length cP) P.length (strs P))) (fun _ i _ => P.length - (intOf i).toNat)
 case atStart => exact ⟨[], 0, Nat.zero_le _, rfl, rfl, own_empty hz1 _ _, by simp, hL1.alloc _, Lib.hid (fun j x m _ hm => by simp at hm), Lib.hid (Nat.zero_le _), Lib.hid (World.ownsRow.alloc HO.out _)⟩
 case round =>
  obtain ⟨L, k, hk, hLk, rfl, hO, hz, hL, HRD, HSU, HPr⟩ := hrel
  have HO3 := Lib.hid hO
  have HLk := Lib.hid hLk
  have hbig : k + P.length ≤ 1048577 := by
   have h1 := HSU.out
   have h2 := sum_take (P.map List.length) k
   have h3 := HSM.out
   omega
  have wi : IntKind.i64.wrap ((k : Int) + 1) = (k : Int) + 1 := wrapI (by omega) (by omega)
  by_cases hlt : k < P.length
  · obtain ⟨y, hy⟩ := get_ex (l := P) (k := k) hlt
    have hc := row_add HPr.out k _ (show (strs P)[k]? = some (sv y) from by simp only [strs, List.getElem?_map, hy]; rfl)
    rw [addr0] at hc
    have hyl : y.length ≤ s.length := spl_mem_len (b := 32) (by rw [HP.out]; exact List.mem_of_getElem? hy)
    have HY := Lib.hid hy
    clear hy
    clear hO hLk
    go_wp2_with fail
    refine (w_l12Read y (by omega) _).mono ?_
    rintro e w2 ⟨⟨mk, msc, md, mt, b, rfl, h0, h1, h2⟩, hL2⟩
    have hLw := hL.trans hL2
    have hzb := hLw.size
    have hz2 := hL2.size
    have HO4 := Lib.hid (owns_later HO3.out hL2)
    have HPr4 := Lib.hid (owns_later HPr.out hL2)
    clear hL2
    cases b
    · have FIN := Lib.hid (rdMs_bad HNE.out (by rw [HP.out]; exact HY.out) (h2 rfl))
      clear h0 h1 h2
      go_wp2
      go_ret2
      exact ms_bad FIN.out (qla)
    · have HM := Lib.hid (h1 rfl)
      have HP0 := Lib.hid (h0 rfl)
      clear h0 h1 h2
      have hkL : L.length + 1 ≤ 1048576 := by have := HLk.out; omega
      go_wp2_with (at_builtin; refine app1_Move rfl (.tmp 31) (.tmp 33) rfl w.heap.size _ L ⟨mk, msc, ⟨md, mt⟩⟩ rfl (World.ownsRow.alloc HO4.out _) (by simp [Act.eval, Array.getD]) hkL (by simp; omega) ?_; intro v5 w5 ho5 hg5)
      go_roundw
      case rel => exact ⟨L ++ [⟨mk, msc, ⟨md, mt⟩⟩], k + 1, by omega, by have := HLk.out; simp; omega, by go_num, ho5, by have := hg5.size; simp at this; omega, Below.grown (hLw.alloc _) hg5 (by simp; omega) (fun j hj => (HO4.out.lt j hj).1), Lib.hid (fun j x m hx hm => by
       have hll := HLk.out
       by_cases hjk : j < k
       · rw [List.getElem?_append_left (by omega)] at hm; exact HRD.out j x m hx hm
       · have hj2 := (List.getElem?_eq_some_iff.1 hm).1
         simp at hj2
         obtain rfl : j = k := by omega
         rw [HY.out] at hx
         obtain rfl := Option.some.inj hx
         rw [List.getElem?_append_right (by omega), hll] at hm
         simp at hm
         rw [← hm]
         exact HM.out), Lib.hid (by
       have h1 := HSU.out
       have h2 := HP0.out
       rw [List.take_add_one, List.getElem?_map, HY.out, List.sum_append]
       simp
       omega), Lib.hid (rows_grown (World.ownsRow.alloc HPr4.out _) hg5 (own_ty_ne HPr4.out HO4.out (by decide)))⟩
      case measure => simp [intOf]; omega
  · have HF := Lib.hid (rdMs_loose HNE.out (L := L) (by rw [HP.out]; omega) (fun j x m hx hm => HRD.out j x m (by rw [← HP.out]; exact hx) hm))
    obtain ⟨cM, hcM⟩ : ∃ q, codeMoves L = q := ⟨_, rfl⟩
    have HCM := Lib.hid hcM
    have hl6 : L.length ≤ 1048576 := by omega
    clear hO hLk hcM
    go_wp2_with fail
    refine (w_specL12Code _ L _ (reads_of_owns HO3.out hl6)).mono ?_
    rintro e w2 ⟨rfl, hL2⟩
    rw [HCM.out]
    have HLw := Lib.hid (hL.trans hL2)
    have HO4 := Lib.hid (owns_later HO3.out hL2)
    clear hL2
    by_cases hc0 : cM = 0
    · have hb : (cM != 0) = false := by simpa using hc0
      go_wp2
      go_ret2
      exact ms_good (HF.out.1 (by rw [HCM.out]; exact hc0)) HLw.out HO4.out
    · have hb : (cM != 0) = true := by simpa using hc0
      go_wp2
      go_ret2
      exact ms_bad (HF.out.2 (by rw [HCM.out]; exact hc0)) HLw.out
end Go.Proofs.YtgngbdacejghcaaGreatDoor
