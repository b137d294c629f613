/- DERIVED. Walks: names of scales read from text. -/
import Derived.Lib.SlicesS
import Derived.Test.YtgngbdacejghcaaGreatDoorKUD12
namespace Go.Proofs.YtgngbdacejghcaaGreatDoor
set_option linter.unusedVariables false
set_option linter.unusedSimpArgs false
open Go.RowKit
set_option maxRecDepth 100000
set_option linter.unusedVariables false
def idxL (x : List UInt8) : List (List UInt8) → Nat → Option Nat
  | [], _ => none
  | a :: r, i => if a = x then some i else idxL x r (i + 1)
def scI (x : List UInt8) : Option Nat := idxL x scNames 0
def scZ (x : List UInt8) : Int := match scI x with
  | some i => (i : Int)
  | none => -1
def okW (x : List UInt8) : Bool := (scI x).isSome
theorem idxL_hit (x : List UInt8) : ∀ (l : List (List UInt8)) (i k : Nat), l[k]? = some x → (∀ j, j < k → l[j]? ≠ some x) → idxL x l i = some (i + k)
  | [], i, k, h, _ => by simp at h
  | a :: r, i, 0, h, _ => by
    have : a = x := by simpa using h
    unfold idxL
    rw [if_pos this]
    rfl
  | a :: r, i, k + 1, h, hn => by
    have ha : ¬ a = x := fun e => hn 0 (by omega) (by simp [e])
    unfold idxL
    rw [if_neg ha, idxL_hit x r (i + 1) k (by simpa using h) (fun j hj hh => hn (j + 1) (by omega) (by simpa using hh))]
    congr 1
    omega
theorem idxL_miss (x : List UInt8) : ∀ (l : List (List UInt8)) (i : Nat), (∀ j : Nat, l[j]? ≠ some x) → idxL x l i = none
  | [], i, _ => rfl
  | a :: r, i, hn => by
    have ha : ¬ a = x := fun e => hn 0 (by simp [e])
    unfold idxL
    rw [if_neg ha, idxL_miss x r (i + 1) (fun j hh => hn (j + 1) (by simpa using hh))]
theorem idxFrom_idxL (x : List UInt8) : ∀ (l : List (List UInt8)) (i : Nat), Lib.idxFromS (l.map (fun y => ByteArray.mk y.toArray)) ⟨x.toArray⟩ i = match idxL x l i with
    | some k => (k : Int)
    | none => -1
  | [], i => rfl
  | a :: r, i => by
    have ih := idxFrom_idxL x r (i + 1)
    by_cases h : a = x
    · subst h
      simp [Lib.idxFromS, idxL]
    · have h2 : ¬ (ByteArray.mk a.toArray = ByteArray.mk x.toArray) := fun e => h (by
        have := congrArg (fun z : ByteArray => z.data.toList) e
        simpa using this)
      rw [List.map_cons]
      unfold Lib.idxFromS idxL
      rw [if_neg h2, if_neg h]
      exact ih
theorem idx_scZ (x : List UInt8) : Lib.idxOfS (scNames.map (fun y => ByteArray.mk y.toArray)) ⟨x.toArray⟩ = scZ x := idxFrom_idxL x scNames 0
def codeSc (x : List UInt8) : Int := if (scI x).isSome then 0 else 6
def valSc (x : List UInt8) : Int := ((scI x).getD 0 : Nat)
theorem own_ty_ne {w : World} {b1 b2 s1 s2 n1 n2 : Nat} {e1 e2 : TypeId} {v1 v2 : Value} {x1 x2 : List Value} (h1 : w.ownsRow b1 e1 s1 v1 n1 x1) (h2 : w.ownsRow b2 e2 s2 v2 n2 x2) (hne : e1 ≠ e2) : ∀ j, v1.ownBlock = some j → v2.ownBlock ≠ some j := by
  intro j hj hj2
  rcases h1.2 with ⟨rfl, _⟩ | ⟨g, c, cur, rfl, _, hh, _⟩
  · simp [Value.ownBlock] at hj
  · rcases h2.2 with ⟨rfl, _⟩ | ⟨g', c', cur', rfl, _, hh', _⟩
    · simp [Value.ownBlock] at hj2
    · simp only [Value.ownBlock, Option.some.injEq] at hj hj2
      subst hj
      subst hj2
      rw [hh] at hh'
      injection hh' with hh'
      injection hh' with a1 a2
      exact hne a2
set_option maxHeartbeats 1000000 in
theorem w_ReadScale (x : List UInt8) (w : World) :
    Calls Tryz.prog 111 #[sv x] w fun e w' => e = .returned (.tuple #[.int .i64 (valSc x), .int .i64 (codeSc x)]) ∧ Later w w' := by
  go_enter Tryz.func111, Tryz.ntmps111
  go_wp2_with fail
  refine (w_l05Names _).mono ?_
  rintro e w1 ⟨g, rfl, hL, ho⟩
  have HO := Lib.hid ho
  clear ho
  have hz := hL.size
  go_wp2
  go_loopw [5] (fun i wr => ∃ k : Nat, k ≤ 6 ∧ i = .int .i64 (k : Nat) ∧ wr = w1 ∧ Hid (∀ j, j < k → scNames[j]? ≠ some x)) (fun i _ => 6 - (intOf i).toNat)
  case atStart => exact ⟨0, by omega, rfl, rfl, Lib.hid (fun j h => absurd h (by omega))⟩
  case round =>
    obtain ⟨k, hk, rfl, hwr, HN⟩ := hrel
    subst hwr
    have wi : IntKind.i64.wrap ((k : Int) + 1) = (k : Int) + 1 := wrapI (by omega) (by omega)
    by_cases hlt : k < 6
    · have hkb : ((k : Int) < 6) = True := by simp; omega
      obtain ⟨y, hy⟩ := get_ex (l := scNames) (k := k) hlt
      have hc := row_add HO.out k _ (show (strs scNames)[k]? = some (sv y) from by simp only [strs, List.getElem?_map, hy]; rfl)
      rw [addr0] at hc
      have HY := Lib.hid hy
      clear hy
      by_cases hxy : y = x
      · have hb : (y == x) = true := by simpa using hxy
        have HS := Lib.hid (show scI x = some k from by
          have := idxL_hit x scNames 0 k (by rw [HY.out, hxy]) HN.out
          rw [Nat.zero_add] at this
          exact this)
        clear hxy
        go_wp2
        go_ret2
        exact ⟨by rw [valSc, codeSc, HS.out]; rfl, hL⟩
      · have hb : (y == x) = false := by simpa using hxy
        have HX := Lib.hid hxy
        clear hxy
        go_wp2
        go_roundw
        case rel => exact ⟨k + 1, by omega, by go_num, (by first | trivial | rfl), Lib.hid (fun j hj hh => by
          by_cases hjk : j = k
          · subst hjk
            rw [HY.out] at hh
            exact HX.out (Option.some.inj hh)
          · exact HN.out j (by omega) hh)⟩
        case measure => simp [intOf]; omega
    · have hkb : ((k : Int) < 6) = False := by simp; omega
      have HS := Lib.hid (show scI x = none from idxL_miss x scNames 0 (fun j hh => HN.out j (by have := (List.getElem?_eq_some_iff.1 hh).1; have h6 : scNames.length = 6 := rfl; omega) hh))
      go_wp2
      go_ret2
      exact ⟨by rw [valSc, codeSc, HS.out]; rfl, hL⟩
set_option maxHeartbeats 1000000 in
theorem w_readNames (s : List UInt8) (hs : s.length ≤ 1048575) (w : World) (he : Env w) :
    Calls Tryz.prog 64 #[sv s] w fun e w' => ∃ a n c, e = .returned (.slice a n c) ∧ Later w w' ∧ w'.ownsRow w.heap.size 2 1 (.slice a n c) ((spl 44 s).map scZ).length (nums ((spl 44 s).map scZ)) := by
  have HE := Lib.hid he
  clear he
  obtain ⟨P, hP⟩ : ∃ P, spl 44 s = P := ⟨_, rfl⟩
  have hl := spl_len 44 s
  rw [hP] at hl
  have HP := Lib.hid hP
  clear hP
  rw [HP.out]
  go_enter Tryz.func64, Tryz.ntmps64
  go_wp2_with fail
  refine (w_Split 44 s (by omega) _ (HE.out.later ((Later.refl _).alloc _))).mono ?_
  rintro e w1 ⟨⟨g, rfl, ho⟩, hL1⟩
  rw [HP.out] at ho ⊢
  have hz1 := hL1.size
  simp only [World.size_alloc] at hz1
  have HW1 : Later w w1 := ((Later.refl w).alloc _).trans hL1
  have HR : Hid (w1.ownsRow w.heap.size 2 1 (.slice (some ⟨w.heap.size, 0, none⟩) 0 0) 0 (nums [])) := Lib.hid (owns_later (own_empty (Nat.le_refl _) _ _) hL1)
  have HO := Lib.hid ho
  have hg := (own_shape ho)
  clear ho hL1
  go_wp2
  go_loopw [3, 10] (fun v i wr => ∃ (L : List Int) (k : Nat), k ≤ P.length ∧ L.length = k ∧ i = .int .i64 (k : Nat) ∧ wr.ownsRow w.heap.size 2 1 v L.length (nums L) ∧ w1.heap.size ≤ wr.heap.size ∧ Later w wr ∧ Hid (L = (P.take k).map scZ) ∧ Hid (wr.ownsRow (w.heap.size + 1) 9 1 (.slice (some ⟨g, 0, none⟩) P.length P.length) P.length (strs P))) (fun _ i _ => P.length - (intOf i).toNat)
  case atStart => exact ⟨[], 0, Nat.zero_le _, rfl, rfl, HR.out, Nat.le_refl _, HW1, rfl, Lib.hid (owns_base HO.out (by simp))⟩
  case round =>
    obtain ⟨L, k, hk, hLk, rfl, hO, hz, hL, HLv, HPr⟩ := hrel
    have HO3 := Lib.hid hO
    have HLk := Lib.hid hLk
    clear hO hLk
    have wi : IntKind.i64.wrap ((k : Int) + 1) = (k : Int) + 1 := wrapI (by omega) (by omega)
    by_cases hlt : k < P.length
    · obtain ⟨y, hy⟩ := get_ex (l := P) (k := k) hlt
      have hc := row_add HPr.out k _ (show (strs P)[k]? = some (sv y) from by simp only [strs, List.getElem?_map, hy]; rfl)
      rw [addr0] at hc
      have HY := Lib.hid hy
      clear hy
      go_wp2_with fail
      refine (w_scaleNames _).mono ?_
      rintro e w2 ⟨g2, rfl, hL2, ho2⟩
      have HO2 := Lib.hid ho2
      have hz2 := hL2.size
      clear ho2
      go_wp2_with fail
      refine (Tryz.slices_Index_string g2 0 6 6 (scNames.map (fun y => ByteArray.mk y.toArray)) ⟨y.toArray⟩ _ (by decide) (by decide) (fun j hj => by
        have hj6 : j < 6 := by simpa [scNames] using hj
        obtain ⟨z, hz⟩ := get_ex (l := scNames) (k := j) hj6
        have h1 := row_add HO2.out j _ (show (strs scNames)[j]? = some (sv z) from by simp only [strs, List.getElem?_map, hz]; rfl)
        rw [addr0] at h1
        rw [Nat.zero_add, h1, List.getD_eq_getElem?_getD, List.getElem?_map, hz]
        rfl)).mono ?_
      rintro e w3 ⟨rfl, hw3⟩
      subst hw3
      rw [List.take_of_length_le (by simp [scNames]), idx_scZ]
      have HO4 := Lib.hid (owns_later HO3.out hL2)
      have HPr4 := Lib.hid (owns_later HPr.out hL2)
      have hLw := hL.trans hL2
      have hzb := hLw.size
      have hkL : L.length + 1 ≤ 1048576 := by have := HLk.out; omega
      go_wp2_with (at_builtin; refine app1_Int64 rfl (.tmp 14) (.tmp 18) rfl w.heap.size _ L (scZ y) rfl HO4.out (by simp [Act.eval, Array.getD]) hkL hzb ?_; intro v5 w5 ho5 hg5)
      go_roundw
      case rel => exact ⟨L ++ [scZ y], k + 1, by omega, by have := HLk.out; simp; omega, by go_num, ho5, Nat.le_trans (Nat.le_trans hz hz2) hg5.size, Below.grown hLw hg5 hzb (fun j hj => (HO4.out.lt j hj).1), by rw [Hid, take_snoc' HY.out, List.map_append, ← HLv.out]; rfl, Lib.hid (rows_grown HPr4.out hg5 (own_ty_ne HPr4.out HO4.out (by decide)))⟩
      case measure => simp [intOf]; omega
    · have HF := Lib.hid (show P.map scZ = L from by
        have := HLv.out
        rw [take_eq_all (by omega)] at this
        exact this.symm)
      obtain ⟨a, c, rfl⟩ := isSl_of HO3.out
      go_wp2
      go_ret
      exact ⟨_, _, _, rfl, hL, by rw [HF.out]; exact HO3.out⟩
def okNs (s : List UInt8) : Bool := (spl 44 s).all okW
def resN (s : List UInt8) : List Int := if okNs s then (spl 44 s).map scZ else []
theorem valSc_ok {x : List UInt8} (h : okW x = true) : valSc x = scZ x ∧ codeSc x = 0 := by
  unfold okW at h
  unfold valSc codeSc scZ
  cases hs : scI x with
  | none => rw [hs] at h; cases h
  | some k => simp
theorem codeSc_no {x : List UInt8} (h : okW x = false) : codeSc x = 6 := by
  unfold okW at h
  unfold codeSc
  rw [h]
  rfl
set_option maxHeartbeats 1000000 in
theorem w_l11ReadNames (s : List UInt8) (hs : s.length ≤ 1048575) (w : World) :
    Calls Tryz.prog 67 #[sv s] w fun e w' => ∃ a n c, e = .returned (.tuple #[.slice a n c, .bool (okNs s)]) ∧ Later w w' ∧ w'.ownsRow w.heap.size 2 1 (.slice a n c) (resN s).length (nums (resN s)) := by
  obtain ⟨P, hP⟩ : ∃ P, spl 44 s = P := ⟨_, rfl⟩
  have hl := spl_len 44 s
  rw [hP] at hl
  have HP := Lib.hid hP
  clear hP
  obtain ⟨ok, hok⟩ : ∃ b, okNs s = b := ⟨_, rfl⟩
  have HK := Lib.hid hok
  clear hok
  rw [HK.out]
  go_enter Tryz.func67, Tryz.ntmps67
  go_wp2_with fail
  refine (w_l01Split 44 44 rfl s (by omega) _).mono ?_
  rintro e w1 ⟨⟨v, rfl, ho⟩, hL1⟩
  rw [HP.out] at ho
  have hz1 := hL1.size
  have HO := Lib.hid ho
  obtain ⟨aP, cP, rfl⟩ := isSl_of ho
  have hpos : 0 < P.length := by omega
  rcases own_shape ho with ⟨_, h0, _⟩ | ⟨g, cap, hv, hg1, hg2, hg3, hg4⟩
  · omega
  cases hv
  clear ho
  go_wp2
  go_loopw [5, 6] (fun v i wr => ∃ (L : List Int) (k : Nat), k ≤ P.length ∧ L.length = k ∧ i = .int .i64 (k : Nat) ∧ wr.ownsRow w.heap.size 2 1 v L.length (nums L) ∧ w1.heap.size ≤ wr.heap.size ∧ Later w wr ∧ Hid (L = (P.take k).map scZ) ∧ Hid ((P.take k).all okW = true) ∧ Hid (wr.ownsRow w.heap.size 9 1 (.slice (some ⟨g, 0, none⟩) P.length cP) P.length (strs P))) (fun _ i _ => P.length - (intOf i).toNat)
  case atStart => exact ⟨[], 0, Nat.zero_le _, rfl, rfl, own_empty hz1 _ _, by simp, hL1.alloc _, rfl, rfl, Lib.hid (World.ownsRow.alloc HO.out _)⟩
  case round =>
    obtain ⟨L, k, hk, hLk, rfl, hO, hz, hL, HLv, HA, HPr⟩ := hrel
    have HO3 := Lib.hid hO
    have HLk := Lib.hid hLk
    clear hO hLk
    have wi : IntKind.i64.wrap ((k : Int) + 1) = (k : Int) + 1 := wrapI (by omega) (by omega)
    by_cases hlt : k < P.length
    · obtain ⟨y, hy⟩ := get_ex (l := P) (k := k) hlt
      have hc := row_add HPr.out k _ (show (strs P)[k]? = some (sv y) from by simp only [strs, List.getElem?_map, hy]; rfl)
      rw [addr0] at hc
      have HY := Lib.hid hy
      clear hy
      go_wp2_with fail
      refine (w_ReadScale y _).mono ?_
      rintro e w3 ⟨rfl, hL2⟩
      have hLw := hL.trans hL2
      have hzb := hLw.size
      cases hq : okW y
      · have HC := Lib.hid (codeSc_no hq)
        have hn : okNs s = false := by
          unfold okNs
          rw [HP.out]
          cases ha : P.all okW with
          | false => rfl
          | true =>
            have := List.all_eq_true.1 ha y (List.mem_of_getElem? HY.out)
            rw [hq] at this
            cases this
        have HN := Lib.hid hn
        clear hn hq
        rw [HC.out]
        go_wp2
        go_ret2
        have e1 : ok = false := by rw [← HK.out]; exact HN.out
        refine ⟨_, _, _, by rw [e1]; rfl, hLw, ?_⟩
        have e2 : resN s = [] := by unfold resN; rw [HN.out]; rfl
        rw [e2]
        exact ⟨rfl, .inl ⟨rfl, rfl⟩⟩
      · obtain ⟨c1, c2⟩ := valSc_ok hq
        have HQ := Lib.hid hq
        clear hq
        rw [c1, c2]
        clear c1 c2
        have HO4 := Lib.hid (owns_later HO3.out hL2)
        have HPr4 := Lib.hid (owns_later HPr.out hL2)
        have hz2 := hL2.size
        have hkL : L.length + 1 ≤ 1048576 := by have := HLk.out; omega
        go_wp2_with (at_builtin; refine app1_Int64 rfl (.tmp 28) (.tmp 30) rfl w.heap.size _ L (scZ y) rfl HO4.out (by simp [Act.eval, Array.getD]) hkL hzb ?_; intro v5 w5 ho5 hg5)
        go_roundw
        case rel => exact ⟨L ++ [scZ y], k + 1, by omega, by have := HLk.out; simp; omega, by go_num, ho5, Nat.le_trans (Nat.le_trans hz hz2) hg5.size, Below.grown hLw hg5 hzb (fun j hj => (HO4.out.lt j hj).1), by rw [Hid, take_snoc' HY.out, List.map_append, ← HLv.out]; rfl, Lib.hid (by rw [take_snoc' HY.out, List.all_append, HA.out]; simp [HQ.out]), Lib.hid (rows_grown HPr4.out hg5 (own_ty_ne HPr4.out HO4.out (by decide)))⟩
        case measure => simp [intOf]; omega
    · have hall : okNs s = true := by
        unfold okNs
        rw [HP.out]
        have := HA.out
        rwa [take_eq_all (by omega)] at this
      have HF := Lib.hid (show resN s = L from by
        unfold resN
        rw [if_pos hall, HP.out]
        have := HLv.out
        rw [take_eq_all (by omega)] at this
        exact this.symm)
      have HN := Lib.hid hall
      clear hall
      obtain ⟨a, c, rfl⟩ := isSl_of HO3.out
      go_wp2
      go_ret2
      have e1 : ok = true := by rw [← HK.out]; exact HN.out
      exact ⟨_, _, _, by rw [e1]; rfl, hL, by rw [HF.out]; exact HO3.out⟩
end Go.Proofs.YtgngbdacejghcaaGreatDoor
