/- DERIVED. Walks: a move read from text, the reference's. -/
import Derived.BigQuiet
import Derived.Test.YtgngbdacejghcaaGreatDoorKVD26
namespace Go.Proofs.YtgngbdacejghcaaGreatDoor
set_option linter.unusedVariables false
set_option linter.unusedSimpArgs false
open Go.RowKit
set_option maxRecDepth 100000
set_option linter.unusedVariables false
theorem kOf_get {c y : UInt8} {k : Nat} (hk : letters[k]? = some y) : c = y ↔ kOf c = (k : Int) := by
 have h7 : k < 7 := (List.getElem?_eq_some_iff.1 hk).1
 constructor
 · intro e
   have hx : k = 0 ∨ k = 1 ∨ k = 2 ∨ k = 3 ∨ k = 4 ∨ k = 5 ∨ k = 6 := by omega
   rcases hx with rfl | rfl | rfl | rfl | rfl | rfl | rfl <;> (have := Option.some.inj hk; subst this; subst e; decide)
 · intro e
   have := (Lib.indexByte_some (show Lib.indexByte letters c = (k : Int) from e)).1
   rw [hk] at this
   exact (Option.some.inj this).symm
theorem letB_kOf {c : UInt8} (h : 0 ≤ kOf c) : letB (kOf c) = [c] := by
 have hb := kOf_bd c
 obtain ⟨k, hk⟩ : ∃ k : Nat, kOf c = k := ⟨(kOf c).toNat, by omega⟩
 have h1 := (Lib.indexByte_some (show Lib.indexByte letters c = (k : Int) from hk)).1
 rw [hk]
 have hx : k = 0 ∨ k = 1 ∨ k = 2 ∨ k = 3 ∨ k = 4 ∨ k = 5 ∨ k = 6 := by omega
 rcases hx with rfl | rfl | rfl | rfl | rfl | rfl | rfl <;> (have := Option.some.inj h1; subst this; rfl)
theorem l12_no {c : UInt8} {r : List UInt8} (h : kOf c < 0) : rdM (c :: r) = none := by
 rw [rdM_mk, if_neg]
 rintro ⟨h1, _⟩
 have := move_k h1
 have hi : ¬ inR (kOf c) 0 2 = true := fun e => by have := inR_true e; omega
 unfold mkM at this
 rw [if_neg hi] at this
 simp only at this
 omega
theorem l12_big {c : UInt8} {r : List UInt8} (h : 2 < kOf c) : (r = [] → rdM (c :: r) = if isMove ⟨kOf c, 0, ⟨0, 0⟩⟩ then some ⟨kOf c, 0, ⟨0, 0⟩⟩ else none) ∧ (r ≠ [] → rdM (c :: r) = none) := by
 have hi : ¬ inR (kOf c) 0 2 = true := fun e => by have := inR_true e; omega
 have hm : mkM c r = ⟨kOf c, 0, ⟨0, 0⟩⟩ := by unfold mkM; rw [if_neg hi]
 have hv : mvT ⟨kOf c, 0, ⟨0, 0⟩⟩ = [c] := by
  unfold mvT
  simp only
  rw [if_neg (by omega), letB_kOf (by omega)]
 rw [rdM_mk, hm, hv]
 refine ⟨fun e => ?_, fun e => ?_⟩
 · subst e
   by_cases hq : isMove ⟨kOf c, 0, ⟨0, 0⟩⟩ = true
   · rw [if_pos ⟨hq, rfl⟩, if_pos hq]
   · rw [if_neg (fun x => hq x.1), if_neg hq]
 · rw [if_neg]
   rintro ⟨_, h2⟩
   injection h2 with _ h2
   exact e h2.symm
theorem spl_parts (b : UInt8) : ∀ l : List UInt8, ∀ x ∈ spl b l, b ∉ x
 | [], x, h => by simp [spl] at h; simp [h]
 | c :: r, x, h => by
  have ih := spl_parts b r
  unfold spl at h
  split at h
  · rcases List.mem_cons.1 h with rfl | h
    · simp
    · exact ih x h
  · rename_i hc
    split at h
    · rename_i y t e
      rw [e] at ih
      rcases List.mem_cons.1 h with rfl | h
      · intro hm
        rcases List.mem_cons.1 hm with e2 | e2
        · exact hc e2.symm
        · exact ih y (by simp) e2
      · exact ih x (List.mem_cons_of_mem _ h)
    · simp at h
      subst h
      intro hm
      simp at hm
      exact hc hm.symm
theorem l12_txt {c : UInt8} {r : List UInt8} {m : Mov} (h0 : 0 ≤ kOf c) (h2 : kOf c ≤ 2) (h : rdM (c :: r) = some m) : r = scB m.s ++ 58 :: figT m.f ∧ 0 ≤ m.s ∧ m.s ≤ 4 ∧ isFig m.f = true ∧ (58 : UInt8) ∉ figT m.f := by
 obtain ⟨hm, ht⟩ := rdM_is h
 obtain ⟨a0, a6⟩ := move_k hm
 obtain ⟨x, hx, _⟩ := letB_one a0 a6
 rcases isMove_cases hm with ⟨p1, p2, p3, p4⟩ | ⟨p1, p2, p3, p4⟩
 · obtain ⟨s0, s1, _⟩ := move_bd hm p2
   unfold mvT at ht
   rw [if_pos p2, hx, List.append_assoc, List.append_assoc, List.singleton_append] at ht
   injection ht with _ e2
   refine ⟨e2.symm, s0, s1, p4, ?_⟩
   intro hq
   rcases figT_chars p4 58 hq with e | e | e | e <;> revert e <;> decide
 · unfold mvT at ht
   rw [if_neg (by omega), hx] at ht
   injection ht with e1 _
   subst e1
   have := kOf_let a0 a6 hx
   omega
theorem l12_len {c : UInt8} {r : List UInt8} (h0 : 0 ≤ kOf c) (h2 : kOf c ≤ 2) (h : (spl 58 r).length ≠ 2) : rdM (c :: r) = none := by
 cases hm : rdM (c :: r) with
 | none => rfl
 | some m =>
  obtain ⟨e, s0, s1, _, hn⟩ := l12_txt h0 h2 hm
  rw [e, spl_app (scB_no58 s0 (by omega)), spl_no hn] at h
  exact absurd rfl h
theorem scI_get {x : List UInt8} {k : Nat} (h : scI x = some k) : scNames[k]? = some x := by
 by_cases hx : ∃ j : Nat, scNames[j]? = some x
 · obtain ⟨j, hj⟩ := hx
   have hlt : j < 6 := (List.getElem?_eq_some_iff.1 hj).1
   have hy : j = 0 ∨ j = 1 ∨ j = 2 ∨ j = 3 ∨ j = 4 ∨ j = 5 := by omega
   rcases hy with rfl | rfl | rfl | rfl | rfl | rfl <;> (have e := Option.some.inj hj; subst e; have := Option.some.inj h; subst this; rfl)
 · have := idxL_miss x scNames 0 (fun j hj => hx ⟨j, hj⟩)
   rw [scI, this] at h
   cases h
theorem scB_scZ {x : List UInt8} (h : okW x = true) : scB (scZ x) = x ∧ 0 ≤ scZ x ∧ valSc x = scZ x := by
 have hv := (valSc_ok h).1
 unfold okW at h
 cases hs : scI x with
 | none => rw [hs] at h; cases h
 | some k =>
  have hz : scZ x = (k : Int) := by unfold scZ; rw [hs]
  rw [hz] at hv ⊢
  refine ⟨?_, by omega, hv⟩
  unfold scB
  rw [Int.toNat_natCast, List.getD_eq_getElem?_getD, scI_get hs]
  rfl
theorem l12_two {c : UInt8} {r x y : List UInt8} (h0 : 0 ≤ kOf c) (h2 : kOf c ≤ 2) (h : spl 58 r = [x, y]) :
 (codeSc x = 0 → rfC y = 0 → rdM (c :: r) = if isMove ⟨kOf c, valSc x, rfF y⟩ then some ⟨kOf c, valSc x, rfF y⟩ else none) ∧ (codeSc x ≠ 0 ∨ rfC y ≠ 0 → rdM (c :: r) = none) := by
 have hr : r = x ++ 58 :: y := by
  have := join_spl 58 r
  rw [h, join_cc, Lib.join_one] at this
  exact this.symm
 have hx : (58 : UInt8) ∉ x := spl_parts 58 r x (by rw [h]; simp)
 have hi : inR (kOf c) 0 2 = true := inR_mk ⟨h0, h2⟩
 have hm : mkM c r = ⟨kOf c, scZ x, rfF y⟩ := by
  unfold mkM
  rw [if_pos hi, hr, cut_part hx]
 refine ⟨fun hc hf => ?_, fun hc => ?_⟩
 · have ho : okW x = true := by
    cases hq : okW x with
    | true => rfl
    | false => rw [codeSc_no hq] at hc; cases hc
   obtain ⟨e1, e2, e3⟩ := scB_scZ ho
   have hy : figT (rfF y) = y := by
    cases hq : rdF y with
    | none => rw [(rf_no hq).2.2] at hf; cases hf
    | some f => rw [(rf_yes hq).1]; exact (rdF_is hq).2
   rw [e3, rdM_mk, hm]
   have ht : mvT ⟨kOf c, scZ x, rfF y⟩ = c :: r := by
    unfold mvT
    simp only
    rw [if_pos h2, letB_kOf h0, e1, hy, hr]
    simp
   by_cases hq : isMove ⟨kOf c, scZ x, rfF y⟩ = true
   · rw [if_pos ⟨hq, ht⟩, if_pos hq]
   · rw [if_neg (fun x => hq x.1), if_neg hq]
 · cases hq : rdM (c :: r) with
   | none => rfl
   | some m =>
    obtain ⟨e, s0, s1, hf, hn⟩ := l12_txt h0 h2 hq
    rw [hr] at e
    obtain ⟨e1, e2⟩ := part_unique hx (scB_no58 s0 (by omega)) e
    have c1 : codeSc x = 0 := by
     have hg : okW x = true := by
      cases hk : okW x with
      | true => rfl
      | false =>
       have h3 := scZ_scB s0 (by omega)
       rw [← e1] at h3
       unfold okW at hk
       unfold scZ at h3
       cases hz : scI x with
       | none => rw [hz] at h3; simp only at h3; omega
       | some j => rw [hz] at hk; cases hk
     exact (valSc_ok hg).2
    have c2 : rfC y = 0 := by rw [e2]; exact (rf_yes (rdF_some hf rfl)).2.2
    rcases hc with h | h
    · exact absurd c1 h
    · exact absurd c2 h
def L12Out (s : List UInt8) (w : World) (e : Ending) (w' : World) : Prop := (∃ (k sc d t : Int) (b : Bool), e = .returned (.tuple #[.agg #[.int .i64 k, .int .i64 sc, .int .i64 d, .int .i64 t], .bool b]) ∧ (b = true → 0 < s.length) ∧ (b = true → rdM s = if isMove ⟨k, sc, ⟨d, t⟩⟩ then some ⟨k, sc, ⟨d, t⟩⟩ else none) ∧ (b = false → rdM s = none)) ∧ Later w w'
theorem l12_out {s : List UInt8} {w w' : World} {k sc d t : Int} {b : Bool} (h0 : b = true → 0 < s.length) (h1 : b = true → rdM s = if isMove ⟨k, sc, ⟨d, t⟩⟩ then some ⟨k, sc, ⟨d, t⟩⟩ else none) (h2 : b = false → rdM s = none) (hL : Later w w') :
 L12Out s w (.returned (.tuple #[.agg #[.int .i64 k, .int .i64 sc, .int .i64 d, .int .i64 t], .bool b])) w' := ⟨⟨k, sc, d, t, b, rfl, h0, h1, h2⟩, hL⟩
theorem kind_step {c y : UInt8} {k : Nat} {z : Int} (hk : letters[k]? = some y) (h : z = if kOf c < (k : Int) then kOf c else -1) : (if c = y then (k : Int) else z) = if kOf c < ((k + 1 : Nat) : Int) then kOf c else -1 := by
 have hb := kOf_bd c
 by_cases e : c = y
 · have e2 := (kOf_get hk).1 e
   rw [if_pos e, if_pos (by omega), e2]
 · have e2 : kOf c ≠ (k : Int) := fun q => e ((kOf_get hk).2 q)
   rw [if_neg e, h]
   split
   · rw [if_pos (by omega)]
   · rw [if_neg (by omega)]
set_option maxHeartbeats 2000000 in
theorem w_l12Read0 (w : World) : Calls Tryz.prog 85 #[sv []] w fun e w' => L12Out [] w e w' := by
 have HK0 := Lib.hid (heap_alloc_new w (.cells #[.int .i64 0, .int .i64 0, .int .i64 0, .int .i64 0] 107))
 go_enter Tryz.func85, Tryz.ntmps85
 go_wp2
 go_loopw [4, 5] (fun x i wr => ∃ (k : Nat), k ≤ 7 ∧ i = .int .i64 (k : Nat) ∧ x = .int .i64 (-1) ∧ Later w wr ∧ wr.heap[w.heap.size]? = some (.cells #[.int .i64 0, .int .i64 0, .int .i64 0, .int .i64 0] 107 (0, 0))) (fun _ i _ => 7 - (intOf i).toNat)
 case atStart => exact ⟨0, by omega, rfl, rfl, qla, HK0.out⟩
 case round =>
  obtain ⟨k, hk, rfl, rfl, hL, hK⟩ := hrel
  obtain ⟨c2, f2, z2⟩ := blk_at hK
  have HK := Lib.hid hK
  have HL := Lib.hid hL
  clear hK hL
  have wi : IntKind.i64.wrap ((k : Int) + 1) = (k : Int) + 1 := wrapI (by omega) (by omega)
  by_cases hlt : k < 7
  · have hkb : decide ((k : Int) < 7) = true := decide_eq_true (by omega)
    go_wp2
    go_quiet (fail)
    go_wp2
    go_roundw
    case rel => exact ⟨k + 1, by omega, by go_num, rfl, by have := HL.out; exact qla, HK.out⟩
    case measure => simp [intOf]; omega
  · have hkb : decide ((k : Int) < 7) = false := decide_eq_false (by omega)
    go_wp2
    refine bodyPost_ret (v := .tuple #[.agg #[.int .i64 0, .int .i64 0, .int .i64 0, .int .i64 0], .bool false]) (by simp [results, Tryz.results85, go_sem, c2, z2]) rfl ?_
    exact l12_out (fun e => (by cases e)) (fun e => (by cases e)) (fun _ => rdM_nil) (by have := HL.out; exact qla)
set_option maxHeartbeats 4000000 in
theorem w_l12Read1 (c : UInt8) (r s : List UInt8) (hsr : s = c :: r) (hs : s.length ≤ 1048576) (w : World) :
 Calls Tryz.prog 85 #[sv s] w fun e w' => L12Out s w e w' := by
 have HS := Lib.hid hsr
 have hi := idx_at (s := s) (k := 0) (c := c) (by rw [hsr]; rfl)
 have hl0 : 0 < s.length := by rw [hsr]; simp
 have hrl : r.length ≤ 1048576 := by rw [hsr] at hs; simp at hs; omega
 have HRL := Lib.hid (show s.length = r.length + 1 from by rw [hsr]; rfl)
 obtain ⟨cn, hcn⟩ : ∃ n, c.toNat = n := ⟨_, rfl⟩
 have hb0 : decide ((0 : Int) < (s.length : Int)) = true := decide_eq_true (by omega)
 have HR := Lib.hid (show (ByteArray.mk s.toArray).extract 1 s.length = ByteArray.mk r.toArray from by rw [ByteArray.extract_mk, List.take_of_length_le (by simp), hsr]; rfl)
 obtain ⟨K, hKc⟩ : ∃ x, kOf c = x := ⟨_, rfl⟩
 have hkb := kOf_bd c
 rw [hKc] at hkb
 obtain ⟨hk1, hk6⟩ := hkb
 have HKC := Lib.hid hKc
 have HK0 := Lib.hid (heap_alloc_new w (.cells #[.int .i64 0, .int .i64 0, .int .i64 0, .int .i64 0] 107))
 clear hsr hKc
 go_enter Tryz.func85, Tryz.ntmps85
 go_wp2
 go_loopw [4, 5] (fun x i wr => ∃ (k : Nat) (z : Int), k ≤ 7 ∧ i = .int .i64 (k : Nat) ∧ x = .int .i64 z ∧ Hid (z = if kOf c < (k : Int) then kOf c else -1) ∧ Later w wr ∧ wr.heap[w.heap.size]? = some (.cells #[.int .i64 0, .int .i64 0, .int .i64 0, .int .i64 0] 107 (0, 0))) (fun _ i _ => 7 - (intOf i).toNat)
 case atStart => exact ⟨0, -1, by omega, rfl, rfl, Lib.hid (by have := HKC.out; split <;> omega), qla, HK0.out⟩
 case round =>
  obtain ⟨k, z, hk, rfl, rfl, HZ, hL, hK⟩ := hrel
  obtain ⟨c2, f2, z2⟩ := blk_at hK
  have HK := Lib.hid hK
  have HL := Lib.hid hL
  clear hK hL
  have wi : IntKind.i64.wrap ((k : Int) + 1) = (k : Int) + 1 := wrapI (by omega) (by omega)
  by_cases hlt : k < 7
  · have hkb : decide ((k : Int) < 7) = true := decide_eq_true (by omega)
    obtain ⟨y, hy⟩ := get_ex (l := letters) (k := k) hlt
    have hj : ∀ h' : k < (ByteArray.mk #[80, 83, 84, 76, 82, 108, 114]).size, (ByteArray.mk #[80, 83, 84, 76, 82, 108, 114])[k]'h' = y := idx_at (s := letters) hy
    have HST := Lib.hid (fun z' hz' => kind_step (c := c) (z := z') hy hz')
    obtain ⟨yn, hyn⟩ : ∃ n, y.toNat = n := ⟨_, rfl⟩
    have HCY := Lib.hid (show (c = y ↔ cn = yn) from by rw [← hcn, ← hyn]; exact ⟨fun e => by rw [e], fun e => UInt8.toNat_inj.1 e⟩)
    by_cases hq : cn = yn
    · have hqb : ((cn : Int) == (yn : Int)) = true := by simp; omega
      go_wp2
      go_quiet (fail)
      go_wp2
      go_roundw
      case rel => exact ⟨k + 1, (k : Int), by omega, by go_num, rfl, Lib.hid (by have := HST.out z HZ.out; rwa [if_pos (HCY.out.2 hq)] at this), by have := HL.out; exact qla, HK.out⟩
      case measure => simp [intOf]; omega
    · have hqb : ((cn : Int) == (yn : Int)) = false := by simp; omega
      go_wp2
      go_quiet (fail)
      go_wp2
      go_roundw
      case rel => exact ⟨k + 1, z, by omega, by go_num, rfl, Lib.hid (by have := HST.out z HZ.out; rwa [if_neg (fun e => hq (HCY.out.1 e))] at this), by have := HL.out; exact qla, HK.out⟩
      case measure => simp [intOf]; omega
  · have hkb : decide ((k : Int) < 7) = false := decide_eq_false (by omega)
    obtain rfl : z = K := by
     have := HZ.out
     rw [HKC.out, if_pos (by omega)] at this
     exact this
    clear HZ
    by_cases hz0 : z < 0
    · have hzb : decide (z < 0) = true := decide_eq_true hz0
      have FIN := Lib.hid (show rdM s = none from by rw [HS.out]; exact l12_no (by rw [HKC.out]; exact hz0))
      go_wp2
      refine bodyPost_ret (v := .tuple #[.agg #[.int .i64 0, .int .i64 0, .int .i64 0, .int .i64 0], .bool false]) (by simp [results, Tryz.results85, go_sem, c2, z2]) rfl ?_
      exact l12_out (fun e => (by cases e)) (fun e => (by cases e)) (fun _ => FIN.out) (by have := HL.out; exact qla)
    have hzb : decide (z < 0) = false := decide_eq_false hz0
    by_cases hz2 : 2 < z
    · have hzc : decide (2 < z) = true := decide_eq_true hz2
      obtain ⟨q, hqq⟩ : ∃ q, ((s.length : Int) == 1) = q := ⟨_, rfl⟩
      have FIN := Lib.hid (show (q = true → rdM s = if isMove ⟨z, 0, ⟨0, 0⟩⟩ then some ⟨z, 0, ⟨0, 0⟩⟩ else none) ∧ (q = false → rdM s = none) from by
       have h := l12_big (c := c) (r := r) (by rw [HKC.out]; exact hz2)
       rw [HKC.out, ← HS.out] at h
       have hl := HRL.out
       refine ⟨fun e => h.1 ?_, fun e => h.2 ?_⟩
       · rw [e] at hqq
         have : (s.length : Int) = 1 := by simpa using hqq
         exact List.length_eq_zero_iff.1 (by omega)
       · intro e2
         rw [e2] at hl
         have h1 : s.length = 1 := hl
         rw [e, h1] at hqq
         simp at hqq)
      go_wp2
      refine bodyPost_ret (v := .tuple #[.agg #[.int .i64 z, .int .i64 0, .int .i64 0, .int .i64 0], .bool q]) (by simp [results, Tryz.results85, go_sem, c2, z2]) rfl ?_
      exact l12_out (fun _ => hl0) FIN.out.1 FIN.out.2 (by have := HL.out; exact qla)
    have hzc : decide (2 < z) = false := decide_eq_false hz2
    have hz00 : 0 ≤ z := by omega
    have hz22 : z ≤ 2 := by omega
    obtain ⟨P, hP⟩ : ∃ P, spl 58 r = P := ⟨_, rfl⟩
    have hPl := spl_len 58 r
    rw [hP] at hPl
    have HP := Lib.hid hP
    have hx := HR.out
    have hsz : ((1 : Int) ≤ (s.length : Int)) = True := by simp; omega
    clear hP
    go_wp2_with fail
    refine (w_l01Split 58 58 rfl r hrl _).mono ?_
    rintro e w1 ⟨⟨v, rfl, ho⟩, hL1⟩
    rw [HP.out] at ho
    have HK1 := Lib.hid (hL1.keep HK.out)
    have HL1 := Lib.hid (HL.out.trans hL1)
    have HO := Lib.hid ho
    obtain ⟨aP, cP, rfl⟩ := isSl_of ho
    rcases own_shape ho with ⟨_, h0, _⟩ | ⟨g, cap, hv, hg1, hg2, hg3, hg4⟩
    · omega
    cases hv
    clear ho hL1 c2 f2 z2 hx hsz
    obtain ⟨c2, f2, z2⟩ := blk_at HK1.out
    by_cases h2 : P.length = 2
    rotate_left
    · have hb : ((P.length : Int) != 2) = true := by simp; omega
      have FIN := Lib.hid (show rdM s = none from by rw [HS.out]; exact l12_len (by rw [HKC.out]; exact hz00) (by rw [HKC.out]; exact hz22) (by rw [HP.out]; exact h2))
      go_wp2
      refine bodyPost_ret (v := .tuple #[.agg #[.int .i64 0, .int .i64 0, .int .i64 0, .int .i64 0], .bool false]) (by simp [results, Tryz.results85, go_sem, c2, z2]) rfl ?_
      exact l12_out (fun e => (by cases e)) (fun e => (by cases e)) (fun _ => FIN.out) (by have := HL1.out; exact qla)
    obtain ⟨x, y, rfl⟩ : ∃ x y, P = [x, y] := by
     match P, h2 with
     | [x, y], _ => exact ⟨x, y, rfl⟩
    have hl2 : x.length ≤ 1048576 ∧ y.length ≤ 1048576 := by
     have := spl_sumA 58 r
     rw [HP.out] at this
     simp at this
     omega
    obtain ⟨hlx, hly⟩ := hl2
    obtain ⟨VS, hVS⟩ : ∃ q, valSc x = q := ⟨_, rfl⟩
    obtain ⟨CS, hCS⟩ : ∃ q, codeSc x = q := ⟨_, rfl⟩
    obtain ⟨FD, hFD⟩ : ∃ q, (rfF y).d = q := ⟨_, rfl⟩
    obtain ⟨FT, hFT⟩ : ∃ q, (rfF y).t = q := ⟨_, rfl⟩
    obtain ⟨FC, hFC⟩ : ∃ q, rfC y = q := ⟨_, rfl⟩
    have TWO := Lib.hid (show (CS = 0 → FC = 0 → rdM s = if isMove ⟨z, VS, ⟨FD, FT⟩⟩ then some ⟨z, VS, ⟨FD, FT⟩⟩ else none) ∧ (CS ≠ 0 ∨ FC ≠ 0 → rdM s = none) from by
     have h := l12_two (c := c) (by rw [HKC.out]; exact hz00) (by rw [HKC.out]; exact hz22) HP.out
     rw [HKC.out, ← HS.out, hVS, hCS, hFC, show rfF y = ⟨FD, FT⟩ from by rw [← hFD, ← hFT]] at h
     exact h)
    have EVS := Lib.hid hVS
    have ECS := Lib.hid hCS
    have EFD := Lib.hid hFD
    have EFT := Lib.hid hFT
    have EFC := Lib.hid hFC
    clear hVS hCS hFD hFT hFC
    have cA := row_add HO.out 0 _ (show (strs [x, y])[0]? = some (sv x) from rfl)
    rw [addr0] at cA
    go_wp2_with fail
    refine (w_ReadScale x _).mono ?_
    rintro e w2 ⟨rfl, hL2⟩
    rw [EVS.out, ECS.out]
    have HK2 := Lib.hid (hL2.keep HK1.out)
    have HO2 := Lib.hid (owns_later HO.out hL2)
    have cB := row_add HO2.out 1 _ (show (strs [x, y])[1]? = some (sv y) from rfl)
    rw [addr0] at cB
    have HL2 := Lib.hid (HL1.out.trans hL2)
    clear hL2 c2 f2 z2 cA
    go_wp2_with fail
    refine (w_specReadFigure y hly _).mono ?_
    rintro e w3 ⟨rfl, hL3⟩
    rw [EFD.out, EFT.out, EFC.out]
    have HK3 := Lib.hid (hL3.keep HK2.out)
    have HL3 := Lib.hid (HL2.out.trans hL3)
    clear hL3 cB
    obtain ⟨c2, f2, z2⟩ := blk_at HK3.out
    by_cases hc0 : CS = 0
    · have hcb : (CS == 0) = true := by simpa using hc0
      obtain ⟨q, hqq⟩ : ∃ q, (FC == 0) = q := ⟨_, rfl⟩
      have FIN := Lib.hid (show (q = true → rdM s = if isMove ⟨z, VS, ⟨FD, FT⟩⟩ then some ⟨z, VS, ⟨FD, FT⟩⟩ else none) ∧ (q = false → rdM s = none) from by
       refine ⟨fun e => TWO.out.1 hc0 ?_, fun e => TWO.out.2 (.inr ?_)⟩
       · rw [e] at hqq; simpa using hqq
       · rw [e] at hqq; simpa using hqq)
      go_wp2
      refine bodyPost_ret (v := .tuple #[.agg #[.int .i64 z, .int .i64 VS, .int .i64 FD, .int .i64 FT], .bool q]) (by simp [results, Tryz.results85, go_sem, c2, z2]) rfl ?_
      exact l12_out (fun _ => hl0) FIN.out.1 FIN.out.2 (by have := HL3.out; exact qla)
    · have hcb : (CS == 0) = false := by simpa using hc0
      have FIN := Lib.hid (TWO.out.2 (.inl hc0))
      go_wp2
      refine bodyPost_ret (v := .tuple #[.agg #[.int .i64 z, .int .i64 VS, .int .i64 FD, .int .i64 FT], .bool false]) (by simp [results, Tryz.results85, go_sem, c2, z2]) rfl ?_
      exact l12_out (fun e => (by cases e)) (fun e => (by cases e)) (fun _ => FIN.out) (by have := HL3.out; exact qla)
theorem w_l12Read (s : List UInt8) (hs : s.length ≤ 1048576) (w : World) : Calls Tryz.prog 85 #[sv s] w fun e w' => L12Out s w e w' := by
 cases s with
 | nil => exact w_l12Read0 w
 | cons c r => exact w_l12Read1 c r _ rfl hs w
end Go.Proofs.YtgngbdacejghcaaGreatDoor
