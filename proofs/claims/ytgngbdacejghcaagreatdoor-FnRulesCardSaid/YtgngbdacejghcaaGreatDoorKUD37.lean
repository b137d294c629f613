/- DERIVED. Walks: rules as text. -/
import Derived.BigQuiet
import Derived.Test.YtgngbdacejghcaaGreatDoorKUD14
import Derived.Test.YtgngbdacejghcaaGreatDoorKUD26
namespace Go.Proofs.YtgngbdacejghcaaGreatDoor
set_option linter.unusedVariables false
set_option linter.unusedSimpArgs false
open Go.RowKit
set_option maxRecDepth 100000
set_option linter.unusedVariables false
def scT (l : List Int) : List UInt8 := Lib.join (l.map scB) [44]
def ruleT (r : Rul) : List UInt8 := Lib.itoa r.len ++ [32] ++ scT r.st ++ [32] ++ scT r.sl
def rtT (r : Rul) : List UInt8 := if isRule r then ruleT r else []
def rtC (r : Rul) : Int := if isRule r then 0 else 1
theorem scT_first {l : List Int} {x : Int} (hx : l[0]? = some x) : scT (l.take 1) = scB x := by
 rw [show (1 : Nat) = 0 + 1 from rfl, take_snoc' hx]
 simp [scT, Lib.join_one]
theorem scT_step0 {l : List Int} {k : Nat} {x : Int} (hx : l[k]? = some x) (hk : ¬ 0 < k) : scT (l.take (k + 1)) = scT (l.take k) ++ scB x := by
 obtain rfl : k = 0 := by omega
 rw [show (0 + 1 : Nat) = 1 from rfl, scT_first hx]
 simp [scT, Lib.join_nil]
theorem scT_step {l : List Int} {k : Nat} {x : Int} (hx : l[k]? = some x) (hk : 0 < k) : scT (l.take (k + 1)) = scT (l.take k) ++ [44] ++ scB x := by
 obtain ⟨j, rfl⟩ : ∃ j, k = j + 1 := ⟨k - 1, by omega⟩
 cases l with
 | nil => simp at hx
 | cons a r =>
  simp only [List.getElem?_cons_succ] at hx
  unfold scT
  rw [List.take_succ_cons, List.take_succ_cons, List.map_cons, List.map_cons, Lib.join_cons, Lib.join_cons, List.map_take, List.map_take,
   Lib.joinTail_take_succ [44] (r.map scB) j (scB x) (by rw [List.getElem?_map, hx]; rfl)]
  simp [List.append_assoc]
theorem scT_len {l : List Int} : ∀ k, k ≤ l.length → (scT (l.take k)).length ≤ 3 * k
 | 0, _ => by simp [scT, Lib.join_nil]
 | k + 1, hk => by
  obtain ⟨x, hx⟩ := get_ex (l := l) (k := k) (by omega)
  have h1 := scB_len x
  by_cases h0 : 0 < k
  · have h2 := scT_len (l := l) k (by omega)
    rw [scT_step hx h0]
    simp
    omega
  · obtain rfl : k = 0 := by omega
    rw [show (0 + 1 : Nat) = 1 from rfl, scT_first hx]
    omega
theorem scT_all (l : List Int) : (scT l).length ≤ 3 * l.length := by
 have h := scT_len (l := l) l.length (Nat.le_refl _)
 rwa [List.take_of_length_le (Nat.le_refl _)] at h
theorem areSc_get {l : List Int} (h : areSc l = true) {k : Nat} {x : Int} (hx : l[k]? = some x) : 0 ≤ x ∧ x ≤ 4 := isScaleN_bd (areSc_all h x (List.mem_of_getElem? hx))
theorem areSc_lenR {l : List Int} (h : areSc l = true) : 1 ≤ l.length ∧ l.length ≤ 6 := by
 unfold areSc at h
 rw [Bool.and_eq_true] at h
 have := inR_true h.2
 omega
theorem areSc_in {l : List Int} (h : areSc l = true) : ∀ x ∈ l, 0 ≤ x ∧ x ≤ 4 := fun x hx => isScaleN_bd (areSc_all h x hx)
theorem scB_no44 {s : Int} (h0 : 0 ≤ s) (h5 : s ≤ 5) : (44 : UInt8) ∉ scB s := by
 have hx : s = 0 ∨ s = 1 ∨ s = 2 ∨ s = 3 ∨ s = 4 ∨ s = 5 := by omega
 rcases hx with rfl | rfl | rfl | rfl | rfl | rfl <;> decide
theorem join_mem {b c : UInt8} : ∀ {L : List (List UInt8)}, (∀ x ∈ L, b ∉ x) → b ≠ c → b ∉ Lib.join L [c]
 | [], _, _ => by simp [Lib.join_nil]
 | [x], h, _ => by rw [Lib.join_one]; exact h x (by simp)
 | x :: y :: r, h, hc => by
  rw [join_cc]
  simp only [List.mem_append, List.mem_cons, not_or]
  exact ⟨h x (by simp), hc, join_mem (L := y :: r) (fun z hz => h z (List.mem_cons_of_mem _ hz)) hc⟩
theorem itoa_no {t : Int} : (32 : UInt8) ∉ Lib.itoa t := by
 intro hm
 rcases itoa_chars t 32 hm with h | h <;> revert h <;> decide
theorem scT_spl {l : List Int} (h : areSc l = true) : spl 44 (scT l) = l.map scB := spl_join 44 _ (by
 have := areSc_lenR h
 intro e
 rw [List.map_eq_nil_iff] at e
 rw [e] at this
 simp at this) fun x hx => by
 obtain ⟨s, hs, rfl⟩ := List.mem_map.1 hx
 obtain ⟨k, hk⟩ := List.getElem?_of_mem hs
 have := areSc_get h hk
 exact scB_no44 this.1 (by omega)
theorem scT_no {l : List Int} (h : areSc l = true) : (32 : UInt8) ∉ scT l := join_mem (fun x hx => by
 obtain ⟨s, hs, rfl⟩ := List.mem_map.1 hx
 obtain ⟨k, hk⟩ := List.getElem?_of_mem hs
 have := areSc_get h hk
 exact scB_no this.1 (by omega)) (by decide)
theorem scT_back {l : List Int} (h : areSc l = true) : (spl 44 (scT l)).map scZ = l := by
 rw [scT_spl h, List.map_map]
 apply List.ext_getElem?
 intro k
 rw [List.getElem?_map]
 cases hk : l[k]? with
 | none => rfl
 | some x =>
  have := areSc_get h hk
  simp [scZ_scB this.1 (show x ≤ 5 by omega)]
theorem rule_back {r : Rul} (h : isRule r = true) : rrR (ruleT r) = r ∧ rrC (ruleT r) = 0 := by
 obtain ⟨n, st, sl⟩ := r
 obtain ⟨p1, p2, p3, p4⟩ := rule_parts h
 have hs : spl 32 (ruleT ⟨n, st, sl⟩) = [Lib.itoa n, scT st, scT sl] := by
  have e : ruleT ⟨n, st, sl⟩ = Lib.itoa n ++ 32 :: (scT st ++ 32 :: scT sl) := by simp [ruleT]
  rw [e, spl_app itoa_no, spl_app (scT_no p3), spl_no (scT_no p4)]
 have hi : numI (Lib.itoa n) = some n := numI_some.2 ⟨by omega, by omega, rfl⟩
 refine rr_some ?_
 rw [rd_3 hs, scT_back p3, scT_back p4, show numV (Lib.itoa n) = n from by simp [numV, hi], show numB (Lib.itoa n) = true from by simp [numB, hi], h]
 rfl
theorem rt_yes {r : Rul} (h : isRule r = true) : rtT r = ruleT r ∧ rtC r = 0 := by simp [rtT, rtC, h]
theorem rt_no {r : Rul} (h : isRule r = false) : rtT r = [] ∧ rtC r = 1 := by simp [rtT, rtC, h]
theorem rtT_len (r : Rul) : (rtT r).length ≤ 100 := by
 cases h : isRule r with
 | false => rw [(rt_no h).1]; simp
 | true =>
  rw [(rt_yes h).1]
  obtain ⟨n, st, sl⟩ := r
  obtain ⟨p1, p2, p3, p4⟩ := rule_parts h
  have h1 := scT_all st
  have h2 := scT_all sl
  have h3 := areSc_lenR p3
  have h4 := areSc_lenR p4
  have h5 := itoa_len (n := n) (by omega) (by omega)
  simp [ruleT]
  omega
theorem w_Join44 (g c n : Nat) (L : List (List UInt8)) (w : World) (hn : n = L.length) (hcells : ∀ (j : Nat) x, L[j]? = some x → w.cell? ⟨g, j, none⟩ = some (sv x)) (hg : g < w.heap.size) (hc : n ≤ c) (h30 : n ≤ 30) (hl : (Lib.join L [44]).length ≤ 100000) :
 Calls Tryz.prog 80 #[.slice (some ⟨g, 0, none⟩) n c, sv [44]] w fun e w' => e = .returned (sv (Lib.join L [44])) ∧ Later w w' := by
 subst hn
 have e1 : (L.map (fun l => ByteArray.mk l.toArray)).map (·.data.toList) = L := by simp [Function.comp_def]
 have h := Tryz.strings_Join g 0 c (L.map (fun l => ByteArray.mk l.toArray)) ⟨#[44]⟩ w (fun j x hx => by
  rw [List.getElem?_map] at hx
  cases hy : L[j]? with
  | none => rw [hy] at hx; cases hx
  | some y =>
   rw [hy] at hx
   cases hx
   rw [Nat.zero_add]
   exact hcells j y hy) hg (by simp; omega) (by simpa using hc) (by rw [e1]; exact Nat.le_trans hl (by decide))
 rw [List.length_map, e1] at h
 exact h
set_option maxHeartbeats 2000000 in
theorem w_namesOf (v : Value) (l : List Int) (w : World) (h : IsNums w v l) (hsc : areSc l = true) :
 Calls Tryz.prog 56 #[v] w fun e w' => e = .returned (sv (scT l)) ∧ Later w w' := by
 have HSC := Lib.hid hsc
 obtain ⟨l1, l6⟩ := areSc_lenR hsc
 clear hsc
 obtain ⟨hxl1, hn1, a1, cap1, rfl, hcap1, hmax1, hrow1⟩ := h
 have HR1 := Lib.hid hrow1
 clear hrow1 hxl1
 go_enter Tryz.func56, Tryz.ntmps56
 go_wp2
 go_loopw [3, 9] (fun v3 i wr => ∃ (L : List (List UInt8)) (k : Nat), k ≤ l.length ∧ L.length = k ∧ i = .int .i64 (k : Nat) ∧ Hid (L = (l.take k).map scB) ∧ wr.ownsRow w.heap.size 9 1 v3 L.length (strs L) ∧ Later w wr) (fun _ i _ => l.length - (intOf i).toNat)
 case atStart => exact ⟨[], 0, Nat.zero_le _, rfl, rfl, rfl, own_empty (Nat.le_refl _) _ _, (Later.refl w).alloc _⟩
 case round =>
  obtain ⟨L, k, hk, hLk, rfl, HL, hO, hL⟩ := hrel
  have HO := Lib.hid hO
  have HLk := Lib.hid hLk
  have wi : IntKind.i64.wrap ((k : Int) + 1) = (k : Int) + 1 := wrapI (by omega) (by omega)
  by_cases hlt : k < l.length
  · obtain ⟨b1, off1, rfl, hr1⟩ := HR1.out (by omega)
    obtain ⟨y, ht1⟩ := get_ex (l := l) (k := k) (by omega)
    have HT1 := Lib.hid ht1
    have c1_0 := (hr1.later hL).num ht1
    clear ht1
    obtain ⟨y0, y4⟩ := areSc_get HSC.out HT1.out
    obtain ⟨sn, rfl⟩ : ∃ sn : Nat, y = (sn : Int) := ⟨y.toNat, by omega⟩
    obtain ⟨NM, hNM⟩ : ∃ X, scB (sn : Int) = X := ⟨_, rfl⟩
    have HNM : Hid ((strs scNames)[sn]? = some (sv NM)) := Lib.hid (by rw [← hNM]; exact scB_at (s := (sn : Int)) (by omega) (by omega))
    have ENM := Lib.hid hNM
    have hsl : ((sn : Int) < 6) = True := by simp; omega
    clear hNM hLk hO
    go_wp2_with fail
    refine (w_scaleNames _).mono ?_
    rintro e w2 ⟨g2, rfl, hL2, ho2⟩
    have hcN := row_add ho2 sn _ HNM.out
    rw [addr0] at hcN
    have HO4 := Lib.hid (owns_later HO.out hL2)
    have hLw := hL.trans hL2
    have hzb := hLw.size
    have hkL : L.length + 1 ≤ 1048576 := by have := HLk.out; omega
    clear ho2
    go_wp2_with (at_builtin; refine app1_String rfl (.tmp 13) (.tmp 18) rfl w.heap.size _ L NM rfl HO4.out (by simp [Act.eval, Array.getD]) hkL hzb ?_; intro v5 w5 ho5 hg5)
    go_roundw
    case rel => exact ⟨L ++ [NM], k + 1, by omega, by have := HLk.out; simp; omega, by go_num, by rw [Hid, take_snoc' HT1.out, List.map_append, ← HL.out, ← ENM.out]; rfl, ho5, Below.grown hLw hg5 hzb (fun j hj => (HO4.out.lt j hj).1)⟩
    case measure => simp [intOf]; omega
  · have HF := Lib.hid (show Lib.join L [44] = scT l from by
     have := HL.out
     rw [List.take_of_length_le (by omega)] at this
     rw [this]
     rfl)
    have hll : (Lib.join L [44]).length ≤ 100000 := by
     rw [HF.out]
     have := scT_all l
     omega
    rcases own_shape HO.out with ⟨_, h0, _⟩ | ⟨g, cap, hv, hg1, hg2, hg3, hg4⟩
    · omega
    cases hv
    clear hO hLk
    go_wp2_with fail
    refine (w_Join44 g cap _ L _ rfl (fun j x hx => by
     have h1 := row_add HO.out j _ (show (strs L)[j]? = some (sv x) from by simp only [strs, List.getElem?_map, hx]; rfl)
     rwa [addr0] at h1) hg2 hg3 (by have := HLk.out; omega) hll).mono ?_
    rintro e w2 ⟨rfl, hL2⟩
    rw [HF.out]
    go_wp2
    go_ret
    exact ⟨rfl, hL.trans hL2⟩
set_option maxHeartbeats 4000000 in
theorem w_l11Names (v : Value) (l : List Int) (w : World) (h : IsNums w v l) (hsc : ∀ x ∈ l, 0 ≤ x ∧ x ≤ 4) (l6 : l.length ≤ 6) :
 Calls Tryz.prog 59 #[v] w fun e w' => e = .returned (sv (scT l)) ∧ Later w w' := by
 have HSC := Lib.hid hsc
 clear hsc
 obtain ⟨hxl1, hn1, a1, cap1, rfl, hcap1, hmax1, hrow1⟩ := h
 have HR1 := Lib.hid hrow1
 clear hrow1 hxl1
 go_enter Tryz.func59, Tryz.ntmps59
 go_wp2
 go_loopw [3, 4] (fun s i wr => ∃ (S : List UInt8) (k : Nat), k ≤ l.length ∧ i = .int .i64 k ∧ s = sv S ∧ Hid (scT (l.take k) = S) ∧ S.length ≤ 3 * k ∧ Later w wr) (fun _ i _ => l.length - (intOf i).toNat)
 case atStart => exact ⟨[], 0, Nat.zero_le _, rfl, rfl, rfl, by simp, Later.refl _⟩
 case round =>
  obtain ⟨S, k, hk, rfl, rfl, HS, hSl, hL⟩ := hrel
  have HLr := Lib.hid hL
  have wi : IntKind.i64.wrap ((k : Int) + 1) = (k : Int) + 1 := wrapI (by omega) (by omega)
  by_cases hlt : k < l.length
  · obtain ⟨b1, off1, rfl, hr1⟩ := HR1.out (by omega)
    have HRW := Lib.hid hr1
    obtain ⟨y, hy⟩ := get_ex (l := l) (k := k) hlt
    have HT1 := Lib.hid hy
    obtain ⟨y0, y4⟩ := HSC.out _ (List.mem_of_getElem? hy)
    obtain ⟨sn, rfl⟩ : ∃ sn : Nat, y = (sn : Int) := ⟨y.toNat, by omega⟩
    have hsn4 : sn ≤ 4 := by omega
    obtain ⟨NM, hNM⟩ : ∃ X, scB (sn : Int) = X := ⟨_, rfl⟩
    have HNM : Hid ((strs scNames)[sn]? = some (sv NM)) := Lib.hid (by rw [← hNM]; exact scB_at (s := (sn : Int)) (by omega) (by omega))
    have LNM : Hid (NM.length ≤ 2) := Lib.hid (by rw [← hNM]; exact scB_len _)
    have ENM := Lib.hid hNM
    have LS := Lib.hid hSl
    clear hNM hr1 hy y0 y4 hL hSl
    by_cases h0 : 0 < k
    · have h0b : decide ((0 : Int) < (k : Int)) = true := decide_eq_true (by omega)
      have hz44 : (9223372036854775807 < S.length + 1) = False := by have := LS.out; simp; omega
      obtain ⟨Z, hZ⟩ : ∃ X, S ++ [44] = X := ⟨_, rfl⟩
      have LZ : Hid (Z.length ≤ 3 * k + 1) := Lib.hid (by have := LS.out; rw [← hZ]; simp; omega)
      have hap : ByteArray.mk S.toArray ++ ByteArray.mk #[44] = ByteArray.mk Z.toArray := by rw [← hZ]; exact ByteArray.mk_append_mk S [44]
      have EZ := Lib.hid hZ
      have hlz := LZ.out
      clear hZ
      obtain ⟨X1, hX1⟩ : ∃ X, Z ++ NM = X := ⟨_, rfl⟩
      have EX1 := Lib.hid hX1
      have LX1 : Hid (X1.length ≤ 3 * k + 3) := Lib.hid (by have := LNM.out; rw [← hX1]; simp; omega)
      have EM : Hid (scT (l.take (k + 1)) = X1) := Lib.hid (by rw [scT_step HT1.out h0, HS.out, ENM.out, EZ.out, hX1])
      have hL0 := HLr.out
      have hSB := hL0.size
      clear hX1 hlz
      go_wp2_with fail
      refine region_slots 25 [15, 16, 17, 18, 19, 20, 21, 22, 23, 3] (fun g ac wc => sl ac 0 = .slice (some ⟨b1, off1, none⟩) l.length cap1 ∧
       sl ac 4 = .int .i64 (k : Nat) ∧
       (g 9 = false → sl ac 3 = sv Z) ∧
       (g 0 = true → sl ac 15 = sv Z) ∧
       (g 2 = true → sl ac 17 = .slice (some ⟨b1, off1, none⟩) l.length cap1) ∧
       (g 3 = true → sl ac 18 = .int .i64 (k : Nat)) ∧
       (g 4 = true → sl ac 19 = .pointer (some ⟨b1, off1 + k, none⟩)) ∧
       (g 5 = true → sl ac 20 = .int .i64 (sn : Int)) ∧
       (g 6 = true → sl ac 21 = idxPtr (sl ac 16) sn) ∧
       (g 7 = true → sl ac 22 = sv NM) ∧
       (g 8 = true → sl ac 23 = sv X1) ∧
       (g 9 = true → sl ac 3 = sv X1) ∧
       Later w wc ∧
       (g 1 = true → (∃ k, sl ac 16 = .slice (some ⟨k, 0, none⟩) 6 6) ∧ (g 7 = false → wc.ownsRow wr.heap.size 9 1 (sl ac 16) (6) (strs scNames))) ∧
       (g 6 = true → g 1 = true) ∧
       (g 8 = true → g 0 = true) ∧
       (g 9 = true → g 8 = true) ∧
       (g 7 = true → g 1 = true) ∧
       wr.heap.size ≤ wc.heap.size) (by kernel_rfl) (by kernel_rfl) rfl (by kernel_rfl) ?_ ?_ ?_
      · exact ⟨rfl, rfl, fun _ => rfl, nofun, nofun, nofun, nofun, nofun, nofun, nofun, nofun, nofun, hL0.drew, nofun, nofun, nofun, nofun, nofun, Nat.le_refl _⟩
      · intro g ac wu hg ha hI
        obtain ⟨x0, x4, x3, i0, i2, i3, i4, i5, i6, i7, i8, i9, hL, p1, -, -, -, -, hS⟩ := hI
        obtain ⟨⟨kr1, e1⟩, -⟩ := p1 (hg 1 (by simp))
        have a0 := i0 (hg 0 (by simp))
        have a2 := i2 (hg 2 (by simp))
        have a3 := i3 (hg 3 (by simp))
        have a4 := i4 (hg 4 (by simp))
        have a5 := i5 (hg 5 (by simp))
        have a6 := i6 (hg 6 (by simp))
        rw [e1] at a6
        have a7 := i7 (hg 7 (by simp))
        have a8 := i8 (hg 8 (by simp))
        have a9 := i9 (hg 9 (by simp))
        simp only [putAll, e1, a0, a2, a3, a4, a5, a6, a7, a8, a9] at ha
        simp only [Act.put, List.setIfInBounds_toArray, List.set_cons_succ, List.set_cons_zero] at ha
        rw [ha]
        clear x0 x4 x3 i0 i2 i3 i4 i5 i6 i7 i8 i9 a0 a2 a3 a4 a5 a6 a7 a8 a9 p1 e1 hg ha
        go_wp2
        go_roundw
        case rel => exact ⟨X1, k + 1, by omega, by go_num, rfl, EM, by have := LX1.out; omega, hL⟩
        case measure => simp [intOf]; omega
      · refine .cons ?_ (.cons ?_ (.cons ?_ (.cons ?_ (.cons ?_ (.cons ?_ (.cons ?_ (.cons ?_ (.cons ?_ (.cons ?_ .nil)))))))))
        · refine qst fun g ac wc hn hk hr HI K' hK => ?_
          obtain ⟨x0, x4, x3, i0, i2, i3, i4, i5, i6, i7, i8, i9, hL, p1, m6_1, m8_0, m9_8, m7_1, hS⟩ := HI.out
          simp [Region.binds] at hr
          clear i0 i2 i3 i4 i5 i6 i7 i8 i9 p1
          have hst : g 9 = false := by
           cases hq : g 9 with
           | false => rfl
           | true => have hh := m8_0 (m9_8 hq); rw [hk] at hh; cases hh
          have y3 := x3 hst
          go_simp
          obtain ⟨-, -, -, i0, i2, i3, i4, i5, i6, i7, i8, i9, -, p1, -⟩ := HI.out
          exact hK.out _ _ ⟨qB x0, qB x4, (fun h => (keepB (x3 h) (by decide))), qP, qF i2, qF i3, qF i4, qF i5, (fun h => by rw [put_ne (show 21 ≠ 15 by decide), put_ne (show 16 ≠ 15 by decide)]; exact i6 h), qF i7, (fun h => absurd (m8_0 h) (by rw [hk]; simp)), qF i9, hL, (fun h => by obtain ⟨hs, ho⟩ := p1 h; exact ⟨(by rw [put_ne (show 16 ≠ 15 by decide)]; exact hs), fun ht => by have ho := ho ht; exact (by rw [put_ne (show 16 ≠ 15 by decide)]; exact ho)⟩), m6_1, (fun _ => rfl), m9_8, m7_1, hS⟩
        · refine qst fun g ac wc hn hk hr HI K' hK => ?_
          obtain ⟨x0, x4, x3, i0, i2, i3, i4, i5, i6, i7, i8, i9, hL, p1, m6_1, m8_0, m9_8, m7_1, hS⟩ := HI.out
          simp [Region.binds] at hr
          clear i0 i2 i3 i4 i5 i6 i7 i8 i9 p1
          go_simp
          refine (w_l05Names _).mono ?_
          rintro e w4 ⟨kc, rfl, hL4, ho4⟩
          obtain ⟨-, -, -, i0, i2, i3, i4, i5, i6, i7, i8, i9, -, p1, -⟩ := HI.out
          exact hK.out _ _ ⟨qB x0, qB x4, (fun h => (keepB (x3 h) (by decide))), qF i0, qF i2, qF i3, qF i4, qF i5, (fun h => absurd (m6_1 h) (by rw [hk]; simp)), (fun h => absurd (m7_1 h) (by rw [hk]; simp)), qF i8, qF i9, hL.trans hL4, (fun _ => ⟨⟨kc, put_eq (by omega)⟩, fun _ => by rw [put_eq (by omega)]; exact owns_base ho4 hS⟩), (fun _ => rfl), m8_0, m9_8, (fun _ => rfl), Nat.le_trans hS hL4.size⟩
        · refine qst fun g ac wc hn hk hr HI K' hK => ?_
          obtain ⟨x0, x4, x3, i0, i2, i3, i4, i5, i6, i7, i8, i9, hL, p1, m6_1, m8_0, m9_8, m7_1, hS⟩ := HI.out
          simp [Region.binds] at hr
          clear i0 i2 i3 i4 i5 i6 i7 i8 i9 p1
          go_simp
          obtain ⟨-, -, -, i0, i2, i3, i4, i5, i6, i7, i8, i9, -, p1, -⟩ := HI.out
          exact hK.out _ _ ⟨qB x0, qB x4, (fun h => (keepB (x3 h) (by decide))), qF i0, qP, qF i3, qF i4, qF i5, (fun h => by rw [put_ne (show 21 ≠ 17 by decide), put_ne (show 16 ≠ 17 by decide)]; exact i6 h), qF i7, qF i8, qF i9, hL, (fun h => by obtain ⟨hs, ho⟩ := p1 h; exact ⟨(by rw [put_ne (show 16 ≠ 17 by decide)]; exact hs), fun ht => by have ho := ho ht; exact (by rw [put_ne (show 16 ≠ 17 by decide)]; exact ho)⟩), m6_1, m8_0, m9_8, m7_1, hS⟩
        · refine qst fun g ac wc hn hk hr HI K' hK => ?_
          obtain ⟨x0, x4, x3, i0, i2, i3, i4, i5, i6, i7, i8, i9, hL, p1, m6_1, m8_0, m9_8, m7_1, hS⟩ := HI.out
          simp [Region.binds] at hr
          clear i0 i2 i3 i4 i5 i6 i7 i8 i9 p1
          go_simp
          obtain ⟨-, -, -, i0, i2, i3, i4, i5, i6, i7, i8, i9, -, p1, -⟩ := HI.out
          exact hK.out _ _ ⟨qB x0, qB x4, (fun h => (keepB (x3 h) (by decide))), qF i0, qF i2, qP, qF i4, qF i5, (fun h => by rw [put_ne (show 21 ≠ 18 by decide), put_ne (show 16 ≠ 18 by decide)]; exact i6 h), qF i7, qF i8, qF i9, hL, (fun h => by obtain ⟨hs, ho⟩ := p1 h; exact ⟨(by rw [put_ne (show 16 ≠ 18 by decide)]; exact hs), fun ht => by have ho := ho ht; exact (by rw [put_ne (show 16 ≠ 18 by decide)]; exact ho)⟩), m6_1, m8_0, m9_8, m7_1, hS⟩
        · refine qst fun g ac wc hn hk hr HI K' hK => ?_
          obtain ⟨x0, x4, x3, i0, i2, i3, i4, i5, i6, i7, i8, i9, hL, p1, m6_1, m8_0, m9_8, m7_1, hS⟩ := HI.out
          simp [Region.binds] at hr
          have y2 := i2 (by simp [hr])
          have y3 := i3 (by simp [hr])
          have z2 := sl_get y2 (by omega)
          have z3 := sl_get y3 (by omega)
          clear i0 i2 i3 i4 i5 i6 i7 i8 i9 p1
          have hkb2 : ((k : Int) < (l.length : Int)) = True := by simp; omega
          go_simp
          obtain ⟨-, -, -, i0, i2, i3, i4, i5, i6, i7, i8, i9, -, p1, -⟩ := HI.out
          exact hK.out _ _ ⟨qB x0, qB x4, (fun h => (keepB (x3 h) (by decide))), qF i0, qF i2, qF i3, qP, qF i5, (fun h => by rw [put_ne (show 21 ≠ 19 by decide), put_ne (show 16 ≠ 19 by decide)]; exact i6 h), qF i7, qF i8, qF i9, hL, (fun h => by obtain ⟨hs, ho⟩ := p1 h; exact ⟨(by rw [put_ne (show 16 ≠ 19 by decide)]; exact hs), fun ht => by have ho := ho ht; exact (by rw [put_ne (show 16 ≠ 19 by decide)]; exact ho)⟩), m6_1, m8_0, m9_8, m7_1, hS⟩
        · refine qst fun g ac wc hn hk hr HI K' hK => ?_
          obtain ⟨x0, x4, x3, i0, i2, i3, i4, i5, i6, i7, i8, i9, hL, p1, m6_1, m8_0, m9_8, m7_1, hS⟩ := HI.out
          simp [Region.binds] at hr
          have y4 := i4 (by simp [hr])
          have z4 := sl_get y4 (by omega)
          clear i0 i2 i3 i4 i5 i6 i7 i8 i9 p1
          have hcl := (HRW.out.later hL).num HT1.out
          go_simp
          obtain ⟨-, -, -, i0, i2, i3, i4, i5, i6, i7, i8, i9, -, p1, -⟩ := HI.out
          exact hK.out _ _ ⟨qB x0, qB x4, (fun h => (keepB (x3 h) (by decide))), qF i0, qF i2, qF i3, qF i4, qP, (fun h => by rw [put_ne (show 21 ≠ 20 by decide), put_ne (show 16 ≠ 20 by decide)]; exact i6 h), qF i7, qF i8, qF i9, hL, (fun h => by obtain ⟨hs, ho⟩ := p1 h; exact ⟨(by rw [put_ne (show 16 ≠ 20 by decide)]; exact hs), fun ht => by have ho := ho ht; exact (by rw [put_ne (show 16 ≠ 20 by decide)]; exact ho)⟩), m6_1, m8_0, m9_8, m7_1, hS⟩
        · refine qst fun g ac wc hn hk hr HI K' hK => ?_
          obtain ⟨x0, x4, x3, i0, i2, i3, i4, i5, i6, i7, i8, i9, hL, p1, m6_1, m8_0, m9_8, m7_1, hS⟩ := HI.out
          simp [Region.binds] at hr
          have y5 := i5 (by simp [hr])
          have gm1 : g 1 = true := by first | exact m6_1 (by simp [hr]) | exact hr | exact hr.1 | exact hr.2 | exact hr.2.1 | simp [hr]
          obtain ⟨⟨kk1, y1⟩, -⟩ := p1 (by simp [hr])
          have z1 := sl_get y1 (by omega)
          have z5 := sl_get y5 (by omega)
          clear i0 i2 i3 i4 i5 i6 i7 i8 i9 p1
          have hsl : ((sn : Int) < 6) = True := by simp; omega
          go_simp
          obtain ⟨-, -, -, i0, i2, i3, i4, i5, i6, i7, i8, i9, -, p1, -⟩ := HI.out
          exact hK.out _ _ ⟨qB x0, qB x4, (fun h => (keepB (x3 h) (by decide))), qF i0, qF i2, qF i3, qF i4, qF i5, (fun _ => by rw [put_ne (show 16 ≠ 21 by decide), y1]; exact put_eq (a := ac) (i := 21) (by omega)), qF i7, qF i8, qF i9, hL, (fun h => by obtain ⟨hs, ho⟩ := p1 h; exact ⟨(by rw [put_ne (show 16 ≠ 21 by decide)]; exact hs), fun ht => by have ho := ho ht; exact (by rw [put_ne (show 16 ≠ 21 by decide)]; exact ho)⟩), (fun _ => gm1), m8_0, m9_8, m7_1, hS⟩
        · refine qst fun g ac wc hn hk hr HI K' hK => ?_
          obtain ⟨x0, x4, x3, i0, i2, i3, i4, i5, i6, i7, i8, i9, hL, p1, m6_1, m8_0, m9_8, m7_1, hS⟩ := HI.out
          simp [Region.binds] at hr
          have y6 := i6 (by simp [hr])
          have gm1 : g 1 = true := m6_1 (by simp [hr])
          obtain ⟨⟨kk1, y1⟩, ho1⟩ := p1 gm1
          have ho1 := ho1 hk
          rw [y1] at ho1
          have z1 := sl_get y1 (by omega)
          clear i0 i2 i3 i4 i5 i6 i7 i8 i9 p1
          rw [y1] at y6
          simp only [idxPtr] at y6
          have z6 := sl_get y6 (by omega)
          have cN := row_add ho1 sn _ HNM.out
          rw [addr0] at cN
          go_simp
          obtain ⟨-, -, -, i0, i2, i3, i4, i5, i6, i7, i8, i9, -, p1, -⟩ := HI.out
          exact hK.out _ _ ⟨qB x0, qB x4, (fun h => (keepB (x3 h) (by decide))), qF i0, qF i2, qF i3, qF i4, qF i5, (fun h => by rw [put_ne (show 21 ≠ 22 by decide), put_ne (show 16 ≠ 22 by decide)]; exact i6 h), qP, qF i8, qF i9, hL, (fun h => by obtain ⟨hs, ho⟩ := p1 h; exact ⟨(by rw [put_ne (show 16 ≠ 22 by decide)]; exact hs), fun h => absurd h (by simp)⟩), m6_1, m8_0, m9_8, (fun _ => gm1), hS⟩
        · refine qst fun g ac wc hn hk hr HI K' hK => ?_
          obtain ⟨x0, x4, x3, i0, i2, i3, i4, i5, i6, i7, i8, i9, hL, p1, m6_1, m8_0, m9_8, m7_1, hS⟩ := HI.out
          simp [Region.binds] at hr
          have y0 := i0 (by simp [hr])
          have y7 := i7 (by simp [hr])
          have gm0 : g 0 = true := by first | exact m8_0 (by simp [hr]) | exact hr | exact hr.1 | exact hr.2 | exact hr.2.1 | simp [hr]
          have z0 := sl_get y0 (by omega)
          have z7 := sl_get y7 (by omega)
          clear i0 i2 i3 i4 i5 i6 i7 i8 i9 p1
          have hz : (9223372036854775807 < Z.length + NM.length) = False := by have := LZ.out; have := LNM.out; simp; omega
          go_simp
          rw [ByteArray.mk_append_mk, EX1.out]
          obtain ⟨-, -, -, i0, i2, i3, i4, i5, i6, i7, i8, i9, -, p1, -⟩ := HI.out
          exact hK.out _ _ ⟨qB x0, qB x4, (fun h => (keepB (x3 h) (by decide))), qF i0, qF i2, qF i3, qF i4, qF i5, (fun h => by rw [put_ne (show 21 ≠ 23 by decide), put_ne (show 16 ≠ 23 by decide)]; exact i6 h), qF i7, qP, (fun h => absurd (m9_8 h) (by rw [hk]; simp)), hL, (fun h => by obtain ⟨hs, ho⟩ := p1 h; exact ⟨(by rw [put_ne (show 16 ≠ 23 by decide)]; exact hs), fun ht => by have ho := ho ht; exact (by rw [put_ne (show 16 ≠ 23 by decide)]; exact ho)⟩), m6_1, (fun _ => gm0), (fun _ => rfl), m7_1, hS⟩
        · refine qst fun g ac wc hn hk hr HI K' hK => ?_
          obtain ⟨x0, x4, x3, i0, i2, i3, i4, i5, i6, i7, i8, i9, hL, p1, m6_1, m8_0, m9_8, m7_1, hS⟩ := HI.out
          simp [Region.binds] at hr
          have y8 := i8 (by simp [hr])
          have gm8 : g 8 = true := by first | exact m9_8 (by simp [hr]) | exact hr | exact hr.1 | exact hr.2 | exact hr.2.1 | simp [hr]
          have z8 := sl_get y8 (by omega)
          clear i0 i2 i3 i4 i5 i6 i7 i8 i9 p1
          go_simp
          obtain ⟨-, -, -, i0, i2, i3, i4, i5, i6, i7, i8, i9, -, p1, -⟩ := HI.out
          exact hK.out _ _ ⟨qB x0, qB x4, (fun h => absurd h (by simp)), qF i0, qF i2, qF i3, qF i4, qF i5, (fun h => by rw [put_ne (show 21 ≠ 3 by decide), put_ne (show 16 ≠ 3 by decide)]; exact i6 h), qF i7, qF i8, qP, hL, (fun h => by obtain ⟨hs, ho⟩ := p1 h; exact ⟨(by rw [put_ne (show 16 ≠ 3 by decide)]; exact hs), fun ht => by have ho := ho ht; exact (by rw [put_ne (show 16 ≠ 3 by decide)]; exact ho)⟩), m6_1, m8_0, (fun _ => gm8), m7_1, hS⟩
    · have h0b : decide ((0 : Int) < (k : Int)) = false := decide_eq_false (by omega)
      have hlz := LS.out
      obtain ⟨X1, hX1⟩ : ∃ X, S ++ NM = X := ⟨_, rfl⟩
      have EX1 := Lib.hid hX1
      have LX1 : Hid (X1.length ≤ 3 * k + 3) := Lib.hid (by have := LNM.out; rw [← hX1]; simp; omega)
      have EM : Hid (scT (l.take (k + 1)) = X1) := Lib.hid (by rw [scT_step0 HT1.out h0, HS.out, ENM.out, hX1])
      have hL0 := HLr.out
      have hSB := hL0.size
      clear hX1 hlz
      go_wp2_with fail
      refine region_slots 25 [15, 16, 17, 18, 19, 20, 21, 22, 23, 3] (fun g ac wc => sl ac 0 = .slice (some ⟨b1, off1, none⟩) l.length cap1 ∧
       sl ac 4 = .int .i64 (k : Nat) ∧
       (g 9 = false → sl ac 3 = sv S) ∧
       (g 0 = true → sl ac 15 = sv S) ∧
       (g 2 = true → sl ac 17 = .slice (some ⟨b1, off1, none⟩) l.length cap1) ∧
       (g 3 = true → sl ac 18 = .int .i64 (k : Nat)) ∧
       (g 4 = true → sl ac 19 = .pointer (some ⟨b1, off1 + k, none⟩)) ∧
       (g 5 = true → sl ac 20 = .int .i64 (sn : Int)) ∧
       (g 6 = true → sl ac 21 = idxPtr (sl ac 16) sn) ∧
       (g 7 = true → sl ac 22 = sv NM) ∧
       (g 8 = true → sl ac 23 = sv X1) ∧
       (g 9 = true → sl ac 3 = sv X1) ∧
       Later w wc ∧
       (g 1 = true → (∃ k, sl ac 16 = .slice (some ⟨k, 0, none⟩) 6 6) ∧ (g 7 = false → wc.ownsRow wr.heap.size 9 1 (sl ac 16) (6) (strs scNames))) ∧
       (g 6 = true → g 1 = true) ∧
       (g 8 = true → g 0 = true) ∧
       (g 9 = true → g 8 = true) ∧
       (g 7 = true → g 1 = true) ∧
       wr.heap.size ≤ wc.heap.size) (by kernel_rfl) (by kernel_rfl) rfl (by kernel_rfl) ?_ ?_ ?_
      · exact ⟨rfl, rfl, fun _ => rfl, nofun, nofun, nofun, nofun, nofun, nofun, nofun, nofun, nofun, hL0.drew, nofun, nofun, nofun, nofun, nofun, Nat.le_refl _⟩
      · intro g ac wu hg ha hI
        obtain ⟨x0, x4, x3, i0, i2, i3, i4, i5, i6, i7, i8, i9, hL, p1, -, -, -, -, hS⟩ := hI
        obtain ⟨⟨kr1, e1⟩, -⟩ := p1 (hg 1 (by simp))
        have a0 := i0 (hg 0 (by simp))
        have a2 := i2 (hg 2 (by simp))
        have a3 := i3 (hg 3 (by simp))
        have a4 := i4 (hg 4 (by simp))
        have a5 := i5 (hg 5 (by simp))
        have a6 := i6 (hg 6 (by simp))
        rw [e1] at a6
        have a7 := i7 (hg 7 (by simp))
        have a8 := i8 (hg 8 (by simp))
        have a9 := i9 (hg 9 (by simp))
        simp only [putAll, e1, a0, a2, a3, a4, a5, a6, a7, a8, a9] at ha
        simp only [Act.put, List.setIfInBounds_toArray, List.set_cons_succ, List.set_cons_zero] at ha
        rw [ha]
        clear x0 x4 x3 i0 i2 i3 i4 i5 i6 i7 i8 i9 a0 a2 a3 a4 a5 a6 a7 a8 a9 p1 e1 hg ha
        go_wp2
        go_roundw
        case rel => exact ⟨X1, k + 1, by omega, by go_num, rfl, EM, by have := LX1.out; omega, hL⟩
        case measure => simp [intOf]; omega
      · refine .cons ?_ (.cons ?_ (.cons ?_ (.cons ?_ (.cons ?_ (.cons ?_ (.cons ?_ (.cons ?_ (.cons ?_ (.cons ?_ .nil)))))))))
        · refine qst fun g ac wc hn hk hr HI K' hK => ?_
          obtain ⟨x0, x4, x3, i0, i2, i3, i4, i5, i6, i7, i8, i9, hL, p1, m6_1, m8_0, m9_8, m7_1, hS⟩ := HI.out
          simp [Region.binds] at hr
          clear i0 i2 i3 i4 i5 i6 i7 i8 i9 p1
          have hst : g 9 = false := by
           cases hq : g 9 with
           | false => rfl
           | true => have hh := m8_0 (m9_8 hq); rw [hk] at hh; cases hh
          have y3 := x3 hst
          go_simp
          obtain ⟨-, -, -, i0, i2, i3, i4, i5, i6, i7, i8, i9, -, p1, -⟩ := HI.out
          exact hK.out _ _ ⟨qB x0, qB x4, (fun h => (keepB (x3 h) (by decide))), qP, qF i2, qF i3, qF i4, qF i5, (fun h => by rw [put_ne (show 21 ≠ 15 by decide), put_ne (show 16 ≠ 15 by decide)]; exact i6 h), qF i7, (fun h => absurd (m8_0 h) (by rw [hk]; simp)), qF i9, hL, (fun h => by obtain ⟨hs, ho⟩ := p1 h; exact ⟨(by rw [put_ne (show 16 ≠ 15 by decide)]; exact hs), fun ht => by have ho := ho ht; exact (by rw [put_ne (show 16 ≠ 15 by decide)]; exact ho)⟩), m6_1, (fun _ => rfl), m9_8, m7_1, hS⟩
        · refine qst fun g ac wc hn hk hr HI K' hK => ?_
          obtain ⟨x0, x4, x3, i0, i2, i3, i4, i5, i6, i7, i8, i9, hL, p1, m6_1, m8_0, m9_8, m7_1, hS⟩ := HI.out
          simp [Region.binds] at hr
          clear i0 i2 i3 i4 i5 i6 i7 i8 i9 p1
          go_simp
          refine (w_l05Names _).mono ?_
          rintro e w4 ⟨kc, rfl, hL4, ho4⟩
          obtain ⟨-, -, -, i0, i2, i3, i4, i5, i6, i7, i8, i9, -, p1, -⟩ := HI.out
          exact hK.out _ _ ⟨qB x0, qB x4, (fun h => (keepB (x3 h) (by decide))), qF i0, qF i2, qF i3, qF i4, qF i5, (fun h => absurd (m6_1 h) (by rw [hk]; simp)), (fun h => absurd (m7_1 h) (by rw [hk]; simp)), qF i8, qF i9, hL.trans hL4, (fun _ => ⟨⟨kc, put_eq (by omega)⟩, fun _ => by rw [put_eq (by omega)]; exact owns_base ho4 hS⟩), (fun _ => rfl), m8_0, m9_8, (fun _ => rfl), Nat.le_trans hS hL4.size⟩
        · refine qst fun g ac wc hn hk hr HI K' hK => ?_
          obtain ⟨x0, x4, x3, i0, i2, i3, i4, i5, i6, i7, i8, i9, hL, p1, m6_1, m8_0, m9_8, m7_1, hS⟩ := HI.out
          simp [Region.binds] at hr
          clear i0 i2 i3 i4 i5 i6 i7 i8 i9 p1
          go_simp
          obtain ⟨-, -, -, i0, i2, i3, i4, i5, i6, i7, i8, i9, -, p1, -⟩ := HI.out
          exact hK.out _ _ ⟨qB x0, qB x4, (fun h => (keepB (x3 h) (by decide))), qF i0, qP, qF i3, qF i4, qF i5, (fun h => by rw [put_ne (show 21 ≠ 17 by decide), put_ne (show 16 ≠ 17 by decide)]; exact i6 h), qF i7, qF i8, qF i9, hL, (fun h => by obtain ⟨hs, ho⟩ := p1 h; exact ⟨(by rw [put_ne (show 16 ≠ 17 by decide)]; exact hs), fun ht => by have ho := ho ht; exact (by rw [put_ne (show 16 ≠ 17 by decide)]; exact ho)⟩), m6_1, m8_0, m9_8, m7_1, hS⟩
        · refine qst fun g ac wc hn hk hr HI K' hK => ?_
          obtain ⟨x0, x4, x3, i0, i2, i3, i4, i5, i6, i7, i8, i9, hL, p1, m6_1, m8_0, m9_8, m7_1, hS⟩ := HI.out
          simp [Region.binds] at hr
          clear i0 i2 i3 i4 i5 i6 i7 i8 i9 p1
          go_simp
          obtain ⟨-, -, -, i0, i2, i3, i4, i5, i6, i7, i8, i9, -, p1, -⟩ := HI.out
          exact hK.out _ _ ⟨qB x0, qB x4, (fun h => (keepB (x3 h) (by decide))), qF i0, qF i2, qP, qF i4, qF i5, (fun h => by rw [put_ne (show 21 ≠ 18 by decide), put_ne (show 16 ≠ 18 by decide)]; exact i6 h), qF i7, qF i8, qF i9, hL, (fun h => by obtain ⟨hs, ho⟩ := p1 h; exact ⟨(by rw [put_ne (show 16 ≠ 18 by decide)]; exact hs), fun ht => by have ho := ho ht; exact (by rw [put_ne (show 16 ≠ 18 by decide)]; exact ho)⟩), m6_1, m8_0, m9_8, m7_1, hS⟩
        · refine qst fun g ac wc hn hk hr HI K' hK => ?_
          obtain ⟨x0, x4, x3, i0, i2, i3, i4, i5, i6, i7, i8, i9, hL, p1, m6_1, m8_0, m9_8, m7_1, hS⟩ := HI.out
          simp [Region.binds] at hr
          have y2 := i2 (by simp [hr])
          have y3 := i3 (by simp [hr])
          have z2 := sl_get y2 (by omega)
          have z3 := sl_get y3 (by omega)
          clear i0 i2 i3 i4 i5 i6 i7 i8 i9 p1
          have hkb2 : ((k : Int) < (l.length : Int)) = True := by simp; omega
          go_simp
          obtain ⟨-, -, -, i0, i2, i3, i4, i5, i6, i7, i8, i9, -, p1, -⟩ := HI.out
          exact hK.out _ _ ⟨qB x0, qB x4, (fun h => (keepB (x3 h) (by decide))), qF i0, qF i2, qF i3, qP, qF i5, (fun h => by rw [put_ne (show 21 ≠ 19 by decide), put_ne (show 16 ≠ 19 by decide)]; exact i6 h), qF i7, qF i8, qF i9, hL, (fun h => by obtain ⟨hs, ho⟩ := p1 h; exact ⟨(by rw [put_ne (show 16 ≠ 19 by decide)]; exact hs), fun ht => by have ho := ho ht; exact (by rw [put_ne (show 16 ≠ 19 by decide)]; exact ho)⟩), m6_1, m8_0, m9_8, m7_1, hS⟩
        · refine qst fun g ac wc hn hk hr HI K' hK => ?_
          obtain ⟨x0, x4, x3, i0, i2, i3, i4, i5, i6, i7, i8, i9, hL, p1, m6_1, m8_0, m9_8, m7_1, hS⟩ := HI.out
          simp [Region.binds] at hr
          have y4 := i4 (by simp [hr])
          have z4 := sl_get y4 (by omega)
          clear i0 i2 i3 i4 i5 i6 i7 i8 i9 p1
          have hcl := (HRW.out.later hL).num HT1.out
          go_simp
          obtain ⟨-, -, -, i0, i2, i3, i4, i5, i6, i7, i8, i9, -, p1, -⟩ := HI.out
          exact hK.out _ _ ⟨qB x0, qB x4, (fun h => (keepB (x3 h) (by decide))), qF i0, qF i2, qF i3, qF i4, qP, (fun h => by rw [put_ne (show 21 ≠ 20 by decide), put_ne (show 16 ≠ 20 by decide)]; exact i6 h), qF i7, qF i8, qF i9, hL, (fun h => by obtain ⟨hs, ho⟩ := p1 h; exact ⟨(by rw [put_ne (show 16 ≠ 20 by decide)]; exact hs), fun ht => by have ho := ho ht; exact (by rw [put_ne (show 16 ≠ 20 by decide)]; exact ho)⟩), m6_1, m8_0, m9_8, m7_1, hS⟩
        · refine qst fun g ac wc hn hk hr HI K' hK => ?_
          obtain ⟨x0, x4, x3, i0, i2, i3, i4, i5, i6, i7, i8, i9, hL, p1, m6_1, m8_0, m9_8, m7_1, hS⟩ := HI.out
          simp [Region.binds] at hr
          have y5 := i5 (by simp [hr])
          have gm1 : g 1 = true := by first | exact m6_1 (by simp [hr]) | exact hr | exact hr.1 | exact hr.2 | exact hr.2.1 | simp [hr]
          obtain ⟨⟨kk1, y1⟩, -⟩ := p1 (by simp [hr])
          have z1 := sl_get y1 (by omega)
          have z5 := sl_get y5 (by omega)
          clear i0 i2 i3 i4 i5 i6 i7 i8 i9 p1
          have hsl : ((sn : Int) < 6) = True := by simp; omega
          go_simp
          obtain ⟨-, -, -, i0, i2, i3, i4, i5, i6, i7, i8, i9, -, p1, -⟩ := HI.out
          exact hK.out _ _ ⟨qB x0, qB x4, (fun h => (keepB (x3 h) (by decide))), qF i0, qF i2, qF i3, qF i4, qF i5, (fun _ => by rw [put_ne (show 16 ≠ 21 by decide), y1]; exact put_eq (a := ac) (i := 21) (by omega)), qF i7, qF i8, qF i9, hL, (fun h => by obtain ⟨hs, ho⟩ := p1 h; exact ⟨(by rw [put_ne (show 16 ≠ 21 by decide)]; exact hs), fun ht => by have ho := ho ht; exact (by rw [put_ne (show 16 ≠ 21 by decide)]; exact ho)⟩), (fun _ => gm1), m8_0, m9_8, m7_1, hS⟩
        · refine qst fun g ac wc hn hk hr HI K' hK => ?_
          obtain ⟨x0, x4, x3, i0, i2, i3, i4, i5, i6, i7, i8, i9, hL, p1, m6_1, m8_0, m9_8, m7_1, hS⟩ := HI.out
          simp [Region.binds] at hr
          have y6 := i6 (by simp [hr])
          have gm1 : g 1 = true := m6_1 (by simp [hr])
          obtain ⟨⟨kk1, y1⟩, ho1⟩ := p1 gm1
          have ho1 := ho1 hk
          rw [y1] at ho1
          have z1 := sl_get y1 (by omega)
          clear i0 i2 i3 i4 i5 i6 i7 i8 i9 p1
          rw [y1] at y6
          simp only [idxPtr] at y6
          have z6 := sl_get y6 (by omega)
          have cN := row_add ho1 sn _ HNM.out
          rw [addr0] at cN
          go_simp
          obtain ⟨-, -, -, i0, i2, i3, i4, i5, i6, i7, i8, i9, -, p1, -⟩ := HI.out
          exact hK.out _ _ ⟨qB x0, qB x4, (fun h => (keepB (x3 h) (by decide))), qF i0, qF i2, qF i3, qF i4, qF i5, (fun h => by rw [put_ne (show 21 ≠ 22 by decide), put_ne (show 16 ≠ 22 by decide)]; exact i6 h), qP, qF i8, qF i9, hL, (fun h => by obtain ⟨hs, ho⟩ := p1 h; exact ⟨(by rw [put_ne (show 16 ≠ 22 by decide)]; exact hs), fun h => absurd h (by simp)⟩), m6_1, m8_0, m9_8, (fun _ => gm1), hS⟩
        · refine qst fun g ac wc hn hk hr HI K' hK => ?_
          obtain ⟨x0, x4, x3, i0, i2, i3, i4, i5, i6, i7, i8, i9, hL, p1, m6_1, m8_0, m9_8, m7_1, hS⟩ := HI.out
          simp [Region.binds] at hr
          have y0 := i0 (by simp [hr])
          have y7 := i7 (by simp [hr])
          have gm0 : g 0 = true := by first | exact m8_0 (by simp [hr]) | exact hr | exact hr.1 | exact hr.2 | exact hr.2.1 | simp [hr]
          have z0 := sl_get y0 (by omega)
          have z7 := sl_get y7 (by omega)
          clear i0 i2 i3 i4 i5 i6 i7 i8 i9 p1
          have hz : (9223372036854775807 < S.length + NM.length) = False := by have := LS.out; have := LNM.out; simp; omega
          go_simp
          rw [ByteArray.mk_append_mk, EX1.out]
          obtain ⟨-, -, -, i0, i2, i3, i4, i5, i6, i7, i8, i9, -, p1, -⟩ := HI.out
          exact hK.out _ _ ⟨qB x0, qB x4, (fun h => (keepB (x3 h) (by decide))), qF i0, qF i2, qF i3, qF i4, qF i5, (fun h => by rw [put_ne (show 21 ≠ 23 by decide), put_ne (show 16 ≠ 23 by decide)]; exact i6 h), qF i7, qP, (fun h => absurd (m9_8 h) (by rw [hk]; simp)), hL, (fun h => by obtain ⟨hs, ho⟩ := p1 h; exact ⟨(by rw [put_ne (show 16 ≠ 23 by decide)]; exact hs), fun ht => by have ho := ho ht; exact (by rw [put_ne (show 16 ≠ 23 by decide)]; exact ho)⟩), m6_1, (fun _ => gm0), (fun _ => rfl), m7_1, hS⟩
        · refine qst fun g ac wc hn hk hr HI K' hK => ?_
          obtain ⟨x0, x4, x3, i0, i2, i3, i4, i5, i6, i7, i8, i9, hL, p1, m6_1, m8_0, m9_8, m7_1, hS⟩ := HI.out
          simp [Region.binds] at hr
          have y8 := i8 (by simp [hr])
          have gm8 : g 8 = true := by first | exact m9_8 (by simp [hr]) | exact hr | exact hr.1 | exact hr.2 | exact hr.2.1 | simp [hr]
          have z8 := sl_get y8 (by omega)
          clear i0 i2 i3 i4 i5 i6 i7 i8 i9 p1
          go_simp
          obtain ⟨-, -, -, i0, i2, i3, i4, i5, i6, i7, i8, i9, -, p1, -⟩ := HI.out
          exact hK.out _ _ ⟨qB x0, qB x4, (fun h => absurd h (by simp)), qF i0, qF i2, qF i3, qF i4, qF i5, (fun h => by rw [put_ne (show 21 ≠ 3 by decide), put_ne (show 16 ≠ 3 by decide)]; exact i6 h), qF i7, qF i8, qP, hL, (fun h => by obtain ⟨hs, ho⟩ := p1 h; exact ⟨(by rw [put_ne (show 16 ≠ 3 by decide)]; exact hs), fun ht => by have ho := ho ht; exact (by rw [put_ne (show 16 ≠ 3 by decide)]; exact ho)⟩), m6_1, m8_0, (fun _ => gm8), m7_1, hS⟩
  · have HF := Lib.hid (show scT l = S from by
     have := HS.out
     rwa [List.take_of_length_le (by omega)] at this)
    go_wp2
    go_ret
    exact ⟨by rw [HF.out]; rfl, HLr.out⟩
set_option maxHeartbeats 4000000 in
theorem w_implRuleText (n : Int) (u v : Value) (st sd : List Int) (w : World) (h : IsNums w u st) (h' : IsNums w v sd) (ht : PTab w) :
 Calls Tryz.prog 10 #[.agg #[.int .i64 n, u, v]] w fun e w' => e = .returned (.tuple #[sv (rtT ⟨n, st, sd⟩), .int .i64 (rtC ⟨n, st, sd⟩)]) ∧ Later w w' := by
 have PT := Lib.hid ht
 have H := Lib.hid h
 have H' := Lib.hid h'
 obtain ⟨_, _, au, capu, rfl, _, _, _⟩ := h
 obtain ⟨_, _, av, capv, rfl, _, _, _⟩ := h'
 cases hi : isRule ⟨n, st, sd⟩
 · have HF := Lib.hid (rt_no hi)
   have HI := Lib.hid hi
   clear hi
   go_enter Tryz.func10, Tryz.ntmps10
   go_wp2_with fail
   refine (w_implIsRule _ _ _ _ _ _ (H.out.later ((Later.refl w).alloc _)) (H'.out.later ((Later.refl w).alloc _))).mono ?_
   rintro e w1 ⟨rfl, hL1⟩
   rw [HI.out]
   go_wp2
   go_ret2
   exact ⟨by rw [HF.out.1, HF.out.2]; rfl, ((Later.refl w).alloc _).trans hL1⟩
 · have HF := Lib.hid (rt_yes hi)
   have HI := Lib.hid hi
   clear hi
   obtain ⟨p1, p2, p3, p4⟩ := rule_parts HI.out
   have HS1 := Lib.hid p3
   have HS2 := Lib.hid p4
   have s1 := scT_all st
   have s2 := scT_all sd
   have t1 := areSc_lenR p3
   have t2 := areSc_lenR p4
   have t12 := t1.2
   have t22 := t2.2
   have s3 := itoa_len (n := n) (by omega) (by omega)
   obtain ⟨A, hA⟩ : ∃ X, Lib.itoa n = X := ⟨_, rfl⟩
   obtain ⟨B, hB⟩ : ∃ X, scT st = X := ⟨_, rfl⟩
   obtain ⟨C, hC⟩ : ∃ X, scT sd = X := ⟨_, rfl⟩
   rw [hA] at s3
   rw [hB] at s1
   rw [hC] at s2
   obtain ⟨X1, hX1⟩ : ∃ X, A ++ [32] = X := ⟨_, rfl⟩
   obtain ⟨X2, hX2⟩ : ∃ X, X1 ++ B = X := ⟨_, rfl⟩
   obtain ⟨X3, hX3⟩ : ∃ X, X2 ++ [32] = X := ⟨_, rfl⟩
   obtain ⟨X4, hX4⟩ : ∃ X, X3 ++ C = X := ⟨_, rfl⟩
   have LA := Lib.hid s3
   have LB : Hid (B.length ≤ 18) := Lib.hid (by omega)
   have LC : Hid (C.length ≤ 18) := Lib.hid (by omega)
   have LX1 : Hid (X1.length ≤ 21) := Lib.hid (by rw [← hX1]; simp; omega)
   have LX2 : Hid (X2.length ≤ 39) := Lib.hid (by have := LX1.out; rw [← hX2]; simp; omega)
   have LX3 : Hid (X3.length ≤ 40) := Lib.hid (by have := LX2.out; rw [← hX3]; simp; omega)
   have EA := Lib.hid hA
   have EB := Lib.hid hB
   have EC := Lib.hid hC
   have EX1 := Lib.hid hX1
   have EX2 := Lib.hid hX2
   have EX3 := Lib.hid hX3
   have EX4 := Lib.hid hX4
   have EM : Hid (ruleT ⟨n, st, sd⟩ = X4) := Lib.hid (by unfold ruleT; rw [hA, hB, hC, hX1, hX2, hX3, hX4])
   clear hA hB hC hX1 hX2 hX3 hX4 s1 s2 s3 t1 t2 p3 p4
   go_enter Tryz.func10, Tryz.ntmps10
   go_wp2_with fail
   refine (w_implIsRule _ _ _ _ _ _ (H.out.later ((Later.refl w).alloc _)) (H'.out.later ((Later.refl w).alloc _))).mono ?_
   rintro e w1 ⟨rfl, hL1⟩
   rw [HI.out]
   have K0 := hL1.keep (heap_alloc_new w _)
   have hL0 := ((Later.refl w).alloc _).trans hL1
   have hSB := hL0.size
   clear hL1
   obtain ⟨c0, f0, z0⟩ := blk_at K0
   go_wp2_with fail
   clear c0 f0 z0
   refine region_slots 20 [7, 8, 9, 10, 11, 12, 13, 14, 15, 16, 17, 18, 19, 2, 3] (fun g ac wc => sl ac 1 = .pointer (some ⟨w.heap.size, 0, none⟩) ∧
    (g 0 = true → sl ac 7 = .pointer (some ⟨w.heap.size, 0, none⟩)) ∧
    (g 1 = true → sl ac 8 = .int .i64 n) ∧
    (g 2 = true → sl ac 9 = sv A) ∧
    (g 3 = true → sl ac 10 = sv X1) ∧
    (g 4 = true → sl ac 11 = .pointer (some ⟨w.heap.size, 1, none⟩)) ∧
    (g 5 = true → sl ac 12 = .slice au st.length capu) ∧
    (g 6 = true → sl ac 13 = sv B) ∧
    (g 7 = true → sl ac 14 = sv X2) ∧
    (g 8 = true → sl ac 15 = sv X3) ∧
    (g 9 = true → sl ac 16 = .pointer (some ⟨w.heap.size, 2, none⟩)) ∧
    (g 10 = true → sl ac 17 = .slice av sd.length capv) ∧
    (g 11 = true → sl ac 18 = sv C) ∧
    (g 12 = true → sl ac 19 = sv X4) ∧
    (g 13 = true → sl ac 2 = sv X4) ∧
    (g 14 = true → sl ac 3 = .int .i64 0) ∧
    Later w wc ∧
    w1.heap.size ≤ wc.heap.size ∧
    wc.heap[w.heap.size]? = some (.cells #[.int .i64 n, .slice au st.length capu, .slice av sd.length capv] 26 (0, 0))) (by kernel_rfl) (by kernel_rfl) rfl (by kernel_rfl) ?_ ?_ ?_
   · exact ⟨rfl, nofun, nofun, nofun, nofun, nofun, nofun, nofun, nofun, nofun, nofun, nofun, nofun, nofun, nofun, nofun, hL0.drew, Nat.le_refl _, K0⟩
   · intro g ac wu hg ha hI
     obtain ⟨x1, i0, i1, i2, i3, i4, i5, i6, i7, i8, i9, i10, i11, i12, i13, i14, hL, hS, B0⟩ := hI
     have a0 := i0 (hg 0 (by simp))
     have a1 := i1 (hg 1 (by simp))
     have a2 := i2 (hg 2 (by simp))
     have a3 := i3 (hg 3 (by simp))
     have a4 := i4 (hg 4 (by simp))
     have a5 := i5 (hg 5 (by simp))
     have a6 := i6 (hg 6 (by simp))
     have a7 := i7 (hg 7 (by simp))
     have a8 := i8 (hg 8 (by simp))
     have a9 := i9 (hg 9 (by simp))
     have a10 := i10 (hg 10 (by simp))
     have a11 := i11 (hg 11 (by simp))
     have a12 := i12 (hg 12 (by simp))
     have a13 := i13 (hg 13 (by simp))
     have a14 := i14 (hg 14 (by simp))
     simp only [putAll, a0, a1, a2, a3, a4, a5, a6, a7, a8, a9, a10, a11, a12, a13, a14] at ha
     simp only [Act.put, List.setIfInBounds_toArray, List.set_cons_succ, List.set_cons_zero] at ha
     rw [ha]
     clear x1 i0 i1 i2 i3 i4 i5 i6 i7 i8 i9 i10 i11 i12 i13 i14 a0 a1 a2 a3 a4 a5 a6 a7 a8 a9 a10 a11 a12 a13 a14 hg ha
     go_wp2
     go_ret2
     exact ⟨by rw [HF.out.1, HF.out.2, EM.out]; rfl, hL⟩
   · refine .cons ?_ (.cons ?_ (.cons ?_ (.cons ?_ (.cons ?_ (.cons ?_ (.cons ?_ (.cons ?_ (.cons ?_ (.cons ?_ (.cons ?_ (.cons ?_ (.cons ?_ (.cons ?_ (.cons ?_ .nil))))))))))))))
     · refine qst fun g ac wc hn hk hr HI K' hK => ?_
       obtain ⟨x1, -, -, -, -, -, -, -, -, -, -, -, -, -, -, -, hL, hS, B0⟩ := HI.out
       simp [Region.binds] at hr
       obtain ⟨c0, f0, z0⟩ := blk_at B0
       go_simp
       obtain ⟨-, i0, i1, i2, i3, i4, i5, i6, i7, i8, i9, i10, i11, i12, i13, i14, -⟩ := HI.out
       exact hK.out _ _ ⟨qB x1, qP, qF i1, qF i2, qF i3, qF i4, qF i5, qF i6, qF i7, qF i8, qF i9, qF i10, qF i11, qF i12, qF i13, qF i14, hL, hS, B0⟩
     · refine qst fun g ac wc hn hk hr HI K' hK => ?_
       obtain ⟨x1, i0, -, -, -, -, -, -, -, -, -, -, -, -, -, -, hL, hS, B0⟩ := HI.out
       simp [Region.binds] at hr
       have y0 := i0 (by simp [hr])
       have z0 := sl_get y0 (by omega)
       clear i0
       obtain ⟨c0, f0, z0⟩ := blk_at B0
       go_simp
       obtain ⟨-, i0, i1, i2, i3, i4, i5, i6, i7, i8, i9, i10, i11, i12, i13, i14, -⟩ := HI.out
       exact hK.out _ _ ⟨qB x1, qF i0, qP, qF i2, qF i3, qF i4, qF i5, qF i6, qF i7, qF i8, qF i9, qF i10, qF i11, qF i12, qF i13, qF i14, hL, hS, B0⟩
     · refine qst fun g ac wc hn hk hr HI K' hK => ?_
       obtain ⟨x1, -, i1, -, -, -, -, -, -, -, -, -, -, -, -, -, hL, hS, B0⟩ := HI.out
       simp [Region.binds] at hr
       have y1 := i1 (by simp [hr])
       clear i1
       go_simp
       refine (w_decimal n (by omega) (by omega) _ (PT.out.later hL)).mono ?_
       rintro e w4 ⟨rfl, hL4⟩
       rw [EA.out]
       obtain ⟨-, i0, i1, i2, i3, i4, i5, i6, i7, i8, i9, i10, i11, i12, i13, i14, -⟩ := HI.out
       exact hK.out _ _ ⟨qB x1, qF i0, qF i1, qP, qF i3, qF i4, qF i5, qF i6, qF i7, qF i8, qF i9, qF i10, qF i11, qF i12, qF i13, qF i14, hL.trans hL4, Nat.le_trans hS hL4.size, hL4.keep B0⟩
     · refine qst fun g ac wc hn hk hr HI K' hK => ?_
       obtain ⟨x1, -, -, i2, -, -, -, -, -, -, -, -, -, -, -, -, hL, hS, B0⟩ := HI.out
       simp [Region.binds] at hr
       have y2 := i2 (by simp [hr])
       have z2 := sl_get y2 (by omega)
       clear i2
       have hz : (9223372036854775807 < A.length + 1) = False := by have := LA.out; simp; omega
       go_simp
       rw [ByteArray.mk_append_mk, EX1.out]
       obtain ⟨-, i0, i1, i2, i3, i4, i5, i6, i7, i8, i9, i10, i11, i12, i13, i14, -⟩ := HI.out
       exact hK.out _ _ ⟨qB x1, qF i0, qF i1, qF i2, qP, qF i4, qF i5, qF i6, qF i7, qF i8, qF i9, qF i10, qF i11, qF i12, qF i13, qF i14, hL, hS, B0⟩
     · refine qst fun g ac wc hn hk hr HI K' hK => ?_
       obtain ⟨x1, -, -, -, -, -, -, -, -, -, -, -, -, -, -, -, hL, hS, B0⟩ := HI.out
       simp [Region.binds] at hr
       obtain ⟨c0, f0, z0⟩ := blk_at B0
       go_simp
       obtain ⟨-, i0, i1, i2, i3, i4, i5, i6, i7, i8, i9, i10, i11, i12, i13, i14, -⟩ := HI.out
       exact hK.out _ _ ⟨qB x1, qF i0, qF i1, qF i2, qF i3, qP, qF i5, qF i6, qF i7, qF i8, qF i9, qF i10, qF i11, qF i12, qF i13, qF i14, hL, hS, B0⟩
     · refine qst fun g ac wc hn hk hr HI K' hK => ?_
       obtain ⟨x1, -, -, -, -, i4, -, -, -, -, -, -, -, -, -, -, hL, hS, B0⟩ := HI.out
       simp [Region.binds] at hr
       have y4 := i4 (by simp [hr])
       have z4 := sl_get y4 (by omega)
       clear i4
       obtain ⟨c0, f0, z0⟩ := blk_at B0
       go_simp
       obtain ⟨-, i0, i1, i2, i3, i4, i5, i6, i7, i8, i9, i10, i11, i12, i13, i14, -⟩ := HI.out
       exact hK.out _ _ ⟨qB x1, qF i0, qF i1, qF i2, qF i3, qF i4, qP, qF i6, qF i7, qF i8, qF i9, qF i10, qF i11, qF i12, qF i13, qF i14, hL, hS, B0⟩
     · refine qst fun g ac wc hn hk hr HI K' hK => ?_
       obtain ⟨x1, -, -, -, -, -, i5, -, -, -, -, -, -, -, -, -, hL, hS, B0⟩ := HI.out
       simp [Region.binds] at hr
       have y5 := i5 (by simp [hr])
       clear i5
       go_simp
       refine (w_namesOf _ _ _ (H.out.later hL) HS1.out).mono ?_
       rintro e w4 ⟨rfl, hL4⟩
       rw [EB.out]
       obtain ⟨-, i0, i1, i2, i3, i4, i5, i6, i7, i8, i9, i10, i11, i12, i13, i14, -⟩ := HI.out
       exact hK.out _ _ ⟨qB x1, qF i0, qF i1, qF i2, qF i3, qF i4, qF i5, qP, qF i7, qF i8, qF i9, qF i10, qF i11, qF i12, qF i13, qF i14, hL.trans hL4, Nat.le_trans hS hL4.size, hL4.keep B0⟩
     · refine qst fun g ac wc hn hk hr HI K' hK => ?_
       obtain ⟨x1, -, -, -, i3, -, -, i6, -, -, -, -, -, -, -, -, hL, hS, B0⟩ := HI.out
       simp [Region.binds] at hr
       have y3 := i3 (by simp [hr])
       have y6 := i6 (by simp [hr])
       have z3 := sl_get y3 (by omega)
       have z6 := sl_get y6 (by omega)
       clear i3 i6
       have hz : (9223372036854775807 < X1.length + B.length) = False := by have := LX1.out; have := LB.out; simp; omega
       go_simp
       rw [ByteArray.mk_append_mk, EX2.out]
       obtain ⟨-, i0, i1, i2, i3, i4, i5, i6, i7, i8, i9, i10, i11, i12, i13, i14, -⟩ := HI.out
       exact hK.out _ _ ⟨qB x1, qF i0, qF i1, qF i2, qF i3, qF i4, qF i5, qF i6, qP, qF i8, qF i9, qF i10, qF i11, qF i12, qF i13, qF i14, hL, hS, B0⟩
     · refine qst fun g ac wc hn hk hr HI K' hK => ?_
       obtain ⟨x1, -, -, -, -, -, -, -, i7, -, -, -, -, -, -, -, hL, hS, B0⟩ := HI.out
       simp [Region.binds] at hr
       have y7 := i7 (by simp [hr])
       have z7 := sl_get y7 (by omega)
       clear i7
       have hz : (9223372036854775807 < X2.length + 1) = False := by have := LX2.out; simp; omega
       go_simp
       rw [ByteArray.mk_append_mk, EX3.out]
       obtain ⟨-, i0, i1, i2, i3, i4, i5, i6, i7, i8, i9, i10, i11, i12, i13, i14, -⟩ := HI.out
       exact hK.out _ _ ⟨qB x1, qF i0, qF i1, qF i2, qF i3, qF i4, qF i5, qF i6, qF i7, qP, qF i9, qF i10, qF i11, qF i12, qF i13, qF i14, hL, hS, B0⟩
     · refine qst fun g ac wc hn hk hr HI K' hK => ?_
       obtain ⟨x1, -, -, -, -, -, -, -, -, -, -, -, -, -, -, -, hL, hS, B0⟩ := HI.out
       simp [Region.binds] at hr
       obtain ⟨c0, f0, z0⟩ := blk_at B0
       go_simp
       obtain ⟨-, i0, i1, i2, i3, i4, i5, i6, i7, i8, i9, i10, i11, i12, i13, i14, -⟩ := HI.out
       exact hK.out _ _ ⟨qB x1, qF i0, qF i1, qF i2, qF i3, qF i4, qF i5, qF i6, qF i7, qF i8, qP, qF i10, qF i11, qF i12, qF i13, qF i14, hL, hS, B0⟩
     · refine qst fun g ac wc hn hk hr HI K' hK => ?_
       obtain ⟨x1, -, -, -, -, -, -, -, -, -, i9, -, -, -, -, -, hL, hS, B0⟩ := HI.out
       simp [Region.binds] at hr
       have y9 := i9 (by simp [hr])
       have z9 := sl_get y9 (by omega)
       clear i9
       obtain ⟨c0, f0, z0⟩ := blk_at B0
       go_simp
       obtain ⟨-, i0, i1, i2, i3, i4, i5, i6, i7, i8, i9, i10, i11, i12, i13, i14, -⟩ := HI.out
       exact hK.out _ _ ⟨qB x1, qF i0, qF i1, qF i2, qF i3, qF i4, qF i5, qF i6, qF i7, qF i8, qF i9, qP, qF i11, qF i12, qF i13, qF i14, hL, hS, B0⟩
     · refine qst fun g ac wc hn hk hr HI K' hK => ?_
       obtain ⟨x1, -, -, -, -, -, -, -, -, -, -, i10, -, -, -, -, hL, hS, B0⟩ := HI.out
       simp [Region.binds] at hr
       have y10 := i10 (by simp [hr])
       clear i10
       go_simp
       refine (w_namesOf _ _ _ (H'.out.later hL) HS2.out).mono ?_
       rintro e w4 ⟨rfl, hL4⟩
       rw [EC.out]
       obtain ⟨-, i0, i1, i2, i3, i4, i5, i6, i7, i8, i9, i10, i11, i12, i13, i14, -⟩ := HI.out
       exact hK.out _ _ ⟨qB x1, qF i0, qF i1, qF i2, qF i3, qF i4, qF i5, qF i6, qF i7, qF i8, qF i9, qF i10, qP, qF i12, qF i13, qF i14, hL.trans hL4, Nat.le_trans hS hL4.size, hL4.keep B0⟩
     · refine qst fun g ac wc hn hk hr HI K' hK => ?_
       obtain ⟨x1, -, -, -, -, -, -, -, -, i8, -, -, i11, -, -, -, hL, hS, B0⟩ := HI.out
       simp [Region.binds] at hr
       have y8 := i8 (by simp [hr])
       have y11 := i11 (by simp [hr])
       have z8 := sl_get y8 (by omega)
       have z11 := sl_get y11 (by omega)
       clear i8 i11
       have hz : (9223372036854775807 < X3.length + C.length) = False := by have := LX3.out; have := LC.out; simp; omega
       go_simp
       rw [ByteArray.mk_append_mk, EX4.out]
       obtain ⟨-, i0, i1, i2, i3, i4, i5, i6, i7, i8, i9, i10, i11, i12, i13, i14, -⟩ := HI.out
       exact hK.out _ _ ⟨qB x1, qF i0, qF i1, qF i2, qF i3, qF i4, qF i5, qF i6, qF i7, qF i8, qF i9, qF i10, qF i11, qP, qF i13, qF i14, hL, hS, B0⟩
     · refine qst fun g ac wc hn hk hr HI K' hK => ?_
       obtain ⟨x1, -, -, -, -, -, -, -, -, -, -, -, -, i12, -, -, hL, hS, B0⟩ := HI.out
       simp [Region.binds] at hr
       have y12 := i12 (by simp [hr])
       have z12 := sl_get y12 (by omega)
       clear i12
       go_simp
       obtain ⟨-, i0, i1, i2, i3, i4, i5, i6, i7, i8, i9, i10, i11, i12, i13, i14, -⟩ := HI.out
       exact hK.out _ _ ⟨qB x1, qF i0, qF i1, qF i2, qF i3, qF i4, qF i5, qF i6, qF i7, qF i8, qF i9, qF i10, qF i11, qF i12, qP, qF i14, hL, hS, B0⟩
     · refine qst fun g ac wc hn hk hr HI K' hK => ?_
       obtain ⟨x1, -, -, -, -, -, -, -, -, -, -, -, -, -, -, -, hL, hS, B0⟩ := HI.out
       simp [Region.binds] at hr
       go_simp
       obtain ⟨-, i0, i1, i2, i3, i4, i5, i6, i7, i8, i9, i10, i11, i12, i13, i14, -⟩ := HI.out
       exact hK.out _ _ ⟨qB x1, qF i0, qF i1, qF i2, qF i3, qF i4, qF i5, qF i6, qF i7, qF i8, qF i9, qF i10, qF i11, qF i12, qF i13, qP, hL, hS, B0⟩
theorem wp_nameS {P : Program} {c : Code} {Q : Exit → Act → World → Prop} {a : Act} {W : World} (h : ∀ u, u = W → Code.wp P c Q a u) : Code.wp P c Q a W := h W rfl
set_option maxHeartbeats 4000000 in
theorem w_l11Text (n : Int) (u v : Value) (st sd : List Int) (w : World) (h : IsNums w u st) (h' : IsNums w v sd) (hi : isRule ⟨n, st, sd⟩ = true) :
 Calls Tryz.prog 58 #[.agg #[.int .i64 n, u, v]] w fun e w' => e = .returned (sv (ruleT ⟨n, st, sd⟩)) ∧ Later w w' := by
 have H := Lib.hid h
 have H' := Lib.hid h'
 obtain ⟨_, _, au, capu, rfl, _, _, _⟩ := h
 obtain ⟨_, _, av, capv, rfl, _, _, _⟩ := h'
 have HI := Lib.hid hi
 clear hi
 obtain ⟨p1, p2, p3, p4⟩ := rule_parts HI.out
 have HS1 := Lib.hid p3
 have HS2 := Lib.hid p4
 have s1 := scT_all st
 have s2 := scT_all sd
 have t1 := areSc_lenR p3
 have t2 := areSc_lenR p4
 have t12 := t1.2
 have t22 := t2.2
 have s3 := itoa_len (n := n) (by omega) (by omega)
 obtain ⟨A, hA⟩ : ∃ X, Lib.itoa n = X := ⟨_, rfl⟩
 obtain ⟨B, hB⟩ : ∃ X, scT st = X := ⟨_, rfl⟩
 obtain ⟨C, hC⟩ : ∃ X, scT sd = X := ⟨_, rfl⟩
 rw [hA] at s3
 rw [hB] at s1
 rw [hC] at s2
 obtain ⟨X1, hX1⟩ : ∃ X, A ++ [32] = X := ⟨_, rfl⟩
 obtain ⟨X2, hX2⟩ : ∃ X, X1 ++ B = X := ⟨_, rfl⟩
 obtain ⟨X3, hX3⟩ : ∃ X, X2 ++ [32] = X := ⟨_, rfl⟩
 obtain ⟨X4, hX4⟩ : ∃ X, X3 ++ C = X := ⟨_, rfl⟩
 have LA := Lib.hid s3
 have LB : Hid (B.length ≤ 18) := Lib.hid (by omega)
 have LC : Hid (C.length ≤ 18) := Lib.hid (by omega)
 have LX1 : Hid (X1.length ≤ 21) := Lib.hid (by rw [← hX1]; simp; omega)
 have LX2 : Hid (X2.length ≤ 39) := Lib.hid (by have := LX1.out; rw [← hX2]; simp; omega)
 have LX3 : Hid (X3.length ≤ 40) := Lib.hid (by have := LX2.out; rw [← hX3]; simp; omega)
 have EA := Lib.hid hA
 have EB := Lib.hid hB
 have EC := Lib.hid hC
 have EX1 := Lib.hid hX1
 have EX2 := Lib.hid hX2
 have EX3 := Lib.hid hX3
 have EX4 := Lib.hid hX4
 have EM : Hid (ruleT ⟨n, st, sd⟩ = X4) := Lib.hid (by unfold ruleT; rw [hA, hB, hC, hX1, hX2, hX3, hX4])
 clear hA hB hC hX1 hX2 hX3 hX4 s1 s2 s3 t1 t2 p3 p4
 obtain ⟨nn, hnn⟩ : ∃ nn : Nat, n = (nn : Int) := ⟨n.toNat, by omega⟩
 have EA2 : Hid (Lib.decDigits nn = A) := Lib.hid (by rw [← EA.out, hnn, itoa_nat])
 have HNN := Lib.hid hnn
 clear hnn
 go_enter Tryz.func58, Tryz.ntmps58
 go_wp2_with fail
 refine wp_nameS ?_
 intro u0 hu0
 have K0 : u0.heap[w.heap.size]? = some (.cells #[.int .i64 n, .slice au st.length capu, .slice av sd.length capv] 26 (0, 0)) := by rw [hu0]; exact heap_alloc_new _ _
 have hL0 : Later w u0 := by rw [hu0]; exact (Later.refl w).alloc _
 have hSB := hL0.size
 clear hu0
 refine region_slots 16 [3, 4, 5, 6, 7, 8, 9, 10, 11, 12, 13, 14, 15, 2] (fun g ac wc => sl ac 1 = .pointer (some ⟨w.heap.size, 0, none⟩) ∧
  (g 0 = true → sl ac 3 = .pointer (some ⟨w.heap.size, 0, none⟩)) ∧
  (g 1 = true → sl ac 4 = .int .i64 n) ∧
  (g 2 = true → sl ac 5 = sv A) ∧
  (g 3 = true → sl ac 6 = sv X1) ∧
  (g 4 = true → sl ac 7 = .pointer (some ⟨w.heap.size, 1, none⟩)) ∧
  (g 5 = true → sl ac 8 = .slice au st.length capu) ∧
  (g 6 = true → sl ac 9 = sv B) ∧
  (g 7 = true → sl ac 10 = sv X2) ∧
  (g 8 = true → sl ac 11 = sv X3) ∧
  (g 9 = true → sl ac 12 = .pointer (some ⟨w.heap.size, 2, none⟩)) ∧
  (g 10 = true → sl ac 13 = .slice av sd.length capv) ∧
  (g 11 = true → sl ac 14 = sv C) ∧
  (g 12 = true → sl ac 15 = sv X4) ∧
  (g 13 = true → sl ac 2 = sv X4) ∧
  Later w wc ∧
  u0.heap.size ≤ wc.heap.size ∧
  wc.heap[w.heap.size]? = some (.cells #[.int .i64 n, .slice au st.length capu, .slice av sd.length capv] 26 (0, 0))) (by kernel_rfl) (by kernel_rfl) rfl (by kernel_rfl) ?_ ?_ ?_
 · exact ⟨rfl, nofun, nofun, nofun, nofun, nofun, nofun, nofun, nofun, nofun, nofun, nofun, nofun, nofun, nofun, hL0.drew, Nat.le_refl _, K0⟩
 · intro g ac wu hg ha hI
   obtain ⟨x1, i0, i1, i2, i3, i4, i5, i6, i7, i8, i9, i10, i11, i12, i13, hL, hS, B0⟩ := hI
   have a0 := i0 (hg 0 (by simp))
   have a1 := i1 (hg 1 (by simp))
   have a2 := i2 (hg 2 (by simp))
   have a3 := i3 (hg 3 (by simp))
   have a4 := i4 (hg 4 (by simp))
   have a5 := i5 (hg 5 (by simp))
   have a6 := i6 (hg 6 (by simp))
   have a7 := i7 (hg 7 (by simp))
   have a8 := i8 (hg 8 (by simp))
   have a9 := i9 (hg 9 (by simp))
   have a10 := i10 (hg 10 (by simp))
   have a11 := i11 (hg 11 (by simp))
   have a12 := i12 (hg 12 (by simp))
   have a13 := i13 (hg 13 (by simp))
   simp only [putAll, a0, a1, a2, a3, a4, a5, a6, a7, a8, a9, a10, a11, a12, a13] at ha
   simp only [Act.put, List.setIfInBounds_toArray, List.set_cons_succ, List.set_cons_zero] at ha
   rw [ha]
   clear x1 i0 i1 i2 i3 i4 i5 i6 i7 i8 i9 i10 i11 i12 i13 a0 a1 a2 a3 a4 a5 a6 a7 a8 a9 a10 a11 a12 a13 hg ha
   go_wp2
   go_ret
   exact ⟨by rw [EM.out]; rfl, hL⟩
 · refine .cons ?_ (.cons ?_ (.cons ?_ (.cons ?_ (.cons ?_ (.cons ?_ (.cons ?_ (.cons ?_ (.cons ?_ (.cons ?_ (.cons ?_ (.cons ?_ (.cons ?_ (.cons ?_ .nil)))))))))))))
   · refine qst fun g ac wc hn hk hr HI K' hK => ?_
     obtain ⟨x1, -, -, -, -, -, -, -, -, -, -, -, -, -, -, hL, hS, B0⟩ := HI.out
     simp [Region.binds] at hr
     obtain ⟨c0, f0, z0⟩ := blk_at B0
     go_simp
     obtain ⟨-, i0, i1, i2, i3, i4, i5, i6, i7, i8, i9, i10, i11, i12, i13, -⟩ := HI.out
     exact hK.out _ _ ⟨qB x1, qP, qF i1, qF i2, qF i3, qF i4, qF i5, qF i6, qF i7, qF i8, qF i9, qF i10, qF i11, qF i12, qF i13, hL, hS, B0⟩
   · refine qst fun g ac wc hn hk hr HI K' hK => ?_
     obtain ⟨x1, i0, -, -, -, -, -, -, -, -, -, -, -, -, -, hL, hS, B0⟩ := HI.out
     simp [Region.binds] at hr
     have y0 := i0 (by simp [hr])
     have z0 := sl_get y0 (by omega)
     clear i0
     obtain ⟨c0, f0, z0⟩ := blk_at B0
     go_simp
     obtain ⟨-, i0, i1, i2, i3, i4, i5, i6, i7, i8, i9, i10, i11, i12, i13, -⟩ := HI.out
     exact hK.out _ _ ⟨qB x1, qF i0, qP, qF i2, qF i3, qF i4, qF i5, qF i6, qF i7, qF i8, qF i9, qF i10, qF i11, qF i12, qF i13, hL, hS, B0⟩
   · refine qst fun g ac wc hn hk hr HI K' hK => ?_
     obtain ⟨x1, -, i1, -, -, -, -, -, -, -, -, -, -, -, -, hL, hS, B0⟩ := HI.out
     simp [Region.binds] at hr
     have y1 := i1 (by simp [hr])
     clear i1
     go_simp
     refine ((HNN.out ▸ w_l01Dec nn (by have := HNN.out; omega) _)).mono ?_
     rintro e w4 ⟨rfl, hL4⟩
     rw [EA2.out]
     obtain ⟨-, i0, i1, i2, i3, i4, i5, i6, i7, i8, i9, i10, i11, i12, i13, -⟩ := HI.out
     exact hK.out _ _ ⟨qB x1, qF i0, qF i1, qP, qF i3, qF i4, qF i5, qF i6, qF i7, qF i8, qF i9, qF i10, qF i11, qF i12, qF i13, hL.trans hL4, Nat.le_trans hS hL4.size, hL4.keep B0⟩
   · refine qst fun g ac wc hn hk hr HI K' hK => ?_
     obtain ⟨x1, -, -, i2, -, -, -, -, -, -, -, -, -, -, -, hL, hS, B0⟩ := HI.out
     simp [Region.binds] at hr
     have y2 := i2 (by simp [hr])
     have z2 := sl_get y2 (by omega)
     clear i2
     have hz : (9223372036854775807 < A.length + 1) = False := by have := LA.out; simp; omega
     go_simp
     rw [ByteArray.mk_append_mk, EX1.out]
     obtain ⟨-, i0, i1, i2, i3, i4, i5, i6, i7, i8, i9, i10, i11, i12, i13, -⟩ := HI.out
     exact hK.out _ _ ⟨qB x1, qF i0, qF i1, qF i2, qP, qF i4, qF i5, qF i6, qF i7, qF i8, qF i9, qF i10, qF i11, qF i12, qF i13, hL, hS, B0⟩
   · refine qst fun g ac wc hn hk hr HI K' hK => ?_
     obtain ⟨x1, -, -, -, -, -, -, -, -, -, -, -, -, -, -, hL, hS, B0⟩ := HI.out
     simp [Region.binds] at hr
     obtain ⟨c0, f0, z0⟩ := blk_at B0
     go_simp
     obtain ⟨-, i0, i1, i2, i3, i4, i5, i6, i7, i8, i9, i10, i11, i12, i13, -⟩ := HI.out
     exact hK.out _ _ ⟨qB x1, qF i0, qF i1, qF i2, qF i3, qP, qF i5, qF i6, qF i7, qF i8, qF i9, qF i10, qF i11, qF i12, qF i13, hL, hS, B0⟩
   · refine qst fun g ac wc hn hk hr HI K' hK => ?_
     obtain ⟨x1, -, -, -, -, i4, -, -, -, -, -, -, -, -, -, hL, hS, B0⟩ := HI.out
     simp [Region.binds] at hr
     have y4 := i4 (by simp [hr])
     have z4 := sl_get y4 (by omega)
     clear i4
     obtain ⟨c0, f0, z0⟩ := blk_at B0
     go_simp
     obtain ⟨-, i0, i1, i2, i3, i4, i5, i6, i7, i8, i9, i10, i11, i12, i13, -⟩ := HI.out
     exact hK.out _ _ ⟨qB x1, qF i0, qF i1, qF i2, qF i3, qF i4, qP, qF i6, qF i7, qF i8, qF i9, qF i10, qF i11, qF i12, qF i13, hL, hS, B0⟩
   · refine qst fun g ac wc hn hk hr HI K' hK => ?_
     obtain ⟨x1, -, -, -, -, -, i5, -, -, -, -, -, -, -, -, hL, hS, B0⟩ := HI.out
     simp [Region.binds] at hr
     have y5 := i5 (by simp [hr])
     clear i5
     go_simp
     refine (w_l11Names _ _ _ (H.out.later hL) (areSc_in HS1.out) t12).mono ?_
     rintro e w4 ⟨rfl, hL4⟩
     rw [EB.out]
     obtain ⟨-, i0, i1, i2, i3, i4, i5, i6, i7, i8, i9, i10, i11, i12, i13, -⟩ := HI.out
     exact hK.out _ _ ⟨qB x1, qF i0, qF i1, qF i2, qF i3, qF i4, qF i5, qP, qF i7, qF i8, qF i9, qF i10, qF i11, qF i12, qF i13, hL.trans hL4, Nat.le_trans hS hL4.size, hL4.keep B0⟩
   · refine qst fun g ac wc hn hk hr HI K' hK => ?_
     obtain ⟨x1, -, -, -, i3, -, -, i6, -, -, -, -, -, -, -, hL, hS, B0⟩ := HI.out
     simp [Region.binds] at hr
     have y3 := i3 (by simp [hr])
     have y6 := i6 (by simp [hr])
     have z3 := sl_get y3 (by omega)
     have z6 := sl_get y6 (by omega)
     clear i3 i6
     have hz : (9223372036854775807 < X1.length + B.length) = False := by have := LX1.out; have := LB.out; simp; omega
     go_simp
     rw [ByteArray.mk_append_mk, EX2.out]
     obtain ⟨-, i0, i1, i2, i3, i4, i5, i6, i7, i8, i9, i10, i11, i12, i13, -⟩ := HI.out
     exact hK.out _ _ ⟨qB x1, qF i0, qF i1, qF i2, qF i3, qF i4, qF i5, qF i6, qP, qF i8, qF i9, qF i10, qF i11, qF i12, qF i13, hL, hS, B0⟩
   · refine qst fun g ac wc hn hk hr HI K' hK => ?_
     obtain ⟨x1, -, -, -, -, -, -, -, i7, -, -, -, -, -, -, hL, hS, B0⟩ := HI.out
     simp [Region.binds] at hr
     have y7 := i7 (by simp [hr])
     have z7 := sl_get y7 (by omega)
     clear i7
     have hz : (9223372036854775807 < X2.length + 1) = False := by have := LX2.out; simp; omega
     go_simp
     rw [ByteArray.mk_append_mk, EX3.out]
     obtain ⟨-, i0, i1, i2, i3, i4, i5, i6, i7, i8, i9, i10, i11, i12, i13, -⟩ := HI.out
     exact hK.out _ _ ⟨qB x1, qF i0, qF i1, qF i2, qF i3, qF i4, qF i5, qF i6, qF i7, qP, qF i9, qF i10, qF i11, qF i12, qF i13, hL, hS, B0⟩
   · refine qst fun g ac wc hn hk hr HI K' hK => ?_
     obtain ⟨x1, -, -, -, -, -, -, -, -, -, -, -, -, -, -, hL, hS, B0⟩ := HI.out
     simp [Region.binds] at hr
     obtain ⟨c0, f0, z0⟩ := blk_at B0
     go_simp
     obtain ⟨-, i0, i1, i2, i3, i4, i5, i6, i7, i8, i9, i10, i11, i12, i13, -⟩ := HI.out
     exact hK.out _ _ ⟨qB x1, qF i0, qF i1, qF i2, qF i3, qF i4, qF i5, qF i6, qF i7, qF i8, qP, qF i10, qF i11, qF i12, qF i13, hL, hS, B0⟩
   · refine qst fun g ac wc hn hk hr HI K' hK => ?_
     obtain ⟨x1, -, -, -, -, -, -, -, -, -, i9, -, -, -, -, hL, hS, B0⟩ := HI.out
     simp [Region.binds] at hr
     have y9 := i9 (by simp [hr])
     have z9 := sl_get y9 (by omega)
     clear i9
     obtain ⟨c0, f0, z0⟩ := blk_at B0
     go_simp
     obtain ⟨-, i0, i1, i2, i3, i4, i5, i6, i7, i8, i9, i10, i11, i12, i13, -⟩ := HI.out
     exact hK.out _ _ ⟨qB x1, qF i0, qF i1, qF i2, qF i3, qF i4, qF i5, qF i6, qF i7, qF i8, qF i9, qP, qF i11, qF i12, qF i13, hL, hS, B0⟩
   · refine qst fun g ac wc hn hk hr HI K' hK => ?_
     obtain ⟨x1, -, -, -, -, -, -, -, -, -, -, i10, -, -, -, hL, hS, B0⟩ := HI.out
     simp [Region.binds] at hr
     have y10 := i10 (by simp [hr])
     clear i10
     go_simp
     refine (w_l11Names _ _ _ (H'.out.later hL) (areSc_in HS2.out) t22).mono ?_
     rintro e w4 ⟨rfl, hL4⟩
     rw [EC.out]
     obtain ⟨-, i0, i1, i2, i3, i4, i5, i6, i7, i8, i9, i10, i11, i12, i13, -⟩ := HI.out
     exact hK.out _ _ ⟨qB x1, qF i0, qF i1, qF i2, qF i3, qF i4, qF i5, qF i6, qF i7, qF i8, qF i9, qF i10, qP, qF i12, qF i13, hL.trans hL4, Nat.le_trans hS hL4.size, hL4.keep B0⟩
   · refine qst fun g ac wc hn hk hr HI K' hK => ?_
     obtain ⟨x1, -, -, -, -, -, -, -, -, i8, -, -, i11, -, -, hL, hS, B0⟩ := HI.out
     simp [Region.binds] at hr
     have y8 := i8 (by simp [hr])
     have y11 := i11 (by simp [hr])
     have z8 := sl_get y8 (by omega)
     have z11 := sl_get y11 (by omega)
     clear i8 i11
     have hz : (9223372036854775807 < X3.length + C.length) = False := by have := LX3.out; have := LC.out; simp; omega
     go_simp
     rw [ByteArray.mk_append_mk, EX4.out]
     obtain ⟨-, i0, i1, i2, i3, i4, i5, i6, i7, i8, i9, i10, i11, i12, i13, -⟩ := HI.out
     exact hK.out _ _ ⟨qB x1, qF i0, qF i1, qF i2, qF i3, qF i4, qF i5, qF i6, qF i7, qF i8, qF i9, qF i10, qF i11, qP, qF i13, hL, hS, B0⟩
   · refine qst fun g ac wc hn hk hr HI K' hK => ?_
     obtain ⟨x1, -, -, -, -, -, -, -, -, -, -, -, -, i12, -, hL, hS, B0⟩ := HI.out
     simp [Region.binds] at hr
     have y12 := i12 (by simp [hr])
     have z12 := sl_get y12 (by omega)
     clear i12
     go_simp
     obtain ⟨-, i0, i1, i2, i3, i4, i5, i6, i7, i8, i9, i10, i11, i12, i13, -⟩ := HI.out
     exact hK.out _ _ ⟨qB x1, qF i0, qF i1, qF i2, qF i3, qF i4, qF i5, qF i6, qF i7, qF i8, qF i9, qF i10, qF i11, qF i12, qP, hL, hS, B0⟩
set_option maxHeartbeats 2000000 in
theorem w_specRuleText (n : Int) (u v : Value) (st sd : List Int) (w : World) (h : IsNums w u st) (h' : IsNums w v sd) :
 Calls Tryz.prog 11 #[.agg #[.int .i64 n, u, v]] w fun e w' => e = .returned (.tuple #[sv (rtT ⟨n, st, sd⟩), .int .i64 (rtC ⟨n, st, sd⟩)]) ∧ Later w w' := by
 have H := Lib.hid h
 have H' := Lib.hid h'
 obtain ⟨_, _, au, capu, rfl, _, _, _⟩ := h
 obtain ⟨_, _, av, capv, rfl, _, _, _⟩ := h'
 cases hi : isRule ⟨n, st, sd⟩
 · have HF := Lib.hid (rt_no hi)
   have HI := Lib.hid hi
   clear hi
   go_enter Tryz.func11, Tryz.ntmps11
   go_wp2_with fail
   refine (w_specIsRule _ _ _ _ _ _ (H.out.later ((Later.refl w).alloc _)) (H'.out.later ((Later.refl w).alloc _))).mono ?_
   rintro e w1 ⟨rfl, hL1⟩
   rw [HI.out]
   go_wp2
   go_ret2
   exact ⟨by rw [HF.out.1, HF.out.2]; rfl, ((Later.refl w).alloc _).trans hL1⟩
 · have HF := Lib.hid (rt_yes hi)
   have HI := Lib.hid hi
   clear hi
   obtain ⟨X, hX⟩ : ∃ X, ruleT ⟨n, st, sd⟩ = X := ⟨_, rfl⟩
   have EX := Lib.hid hX
   clear hX
   go_enter Tryz.func11, Tryz.ntmps11
   go_wp2_with fail
   refine (w_specIsRule _ _ _ _ _ _ (H.out.later ((Later.refl w).alloc _)) (H'.out.later ((Later.refl w).alloc _))).mono ?_
   rintro e w1 ⟨rfl, hL1⟩
   rw [HI.out]
   have K0 := hL1.keep (heap_alloc_new w _)
   have hL0 := ((Later.refl w).alloc _).trans hL1
   clear hL1
   obtain ⟨c0, f0, z0⟩ := blk_at K0
   go_wp2_with fail
   refine (w_l11Text n _ _ st sd _ (H.out.later hL0) (H'.out.later hL0) HI.out).mono ?_
   rintro e w2 ⟨rfl, hL2⟩
   rw [EX.out]
   go_wp2
   go_ret2
   exact ⟨by rw [HF.out.1, HF.out.2, EX.out]; rfl, hL0.trans hL2⟩
end Go.Proofs.YtgngbdacejghcaaGreatDoor
