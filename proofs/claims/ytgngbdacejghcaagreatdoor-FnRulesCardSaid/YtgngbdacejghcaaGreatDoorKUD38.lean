/- DERIVED. Walks: the draws of rules, of a text of a rule, of a cursor that is set. -/
import Derived.Test.YtgngbdacejghcaaGreatDoorKUD34
import Derived.Test.YtgngbdacejghcaaGreatDoorKUD37
import Derived.Test.YtgngbdacejghcaaGreatDoorKUM103
import Derived.Test.YtgngbdacejghcaaGreatDoorKUM108
namespace Go.Proofs.YtgngbdacejghcaaGreatDoor
set_option linter.unusedVariables false
set_option linter.unusedSimpArgs false
open Go.RowKit
set_option maxRecDepth 100000
set_option linter.unusedVariables false
set_option maxHeartbeats 2000000 in
theorem w_l11DrawScalesB (k : Nat) (c : Value) (w : World) (h : Src w k c) :
 Calls Tryz.prog 60 #[.pointer (some ⟨k, 0, none⟩)] w fun e w' => ∃ (v : Value) (l : List Int), e = .returned v ∧ w'.ownsRow w.heap.size 2 1 v l.length (nums l) ∧ l.length ≤ 5 ∧ (∀ x ∈ l, 0 ≤ x ∧ x ≤ 4) ∧ Drawn w w' k ∧ Src w' k c := by
 have hk := h.lt
 go_enter Tryz.func60, Tryz.ntmps60
 go_wp2
 go_loopw [3, 4] (fun v i wr => ∃ (l : List Int) (m : Nat), i = .int .i64 (m : Nat) ∧ 1 ≤ m ∧ m ≤ 5 ∧ wr.ownsRow w.heap.size 2 1 v l.length (nums l) ∧ l.length ≤ m ∧ Hid (∀ x ∈ l, 0 ≤ x ∧ x ≤ 4) ∧ Drawn w wr k ∧ Src wr k c) (fun _ i _ => 5 - (intOf i).toNat)
 case atStart =>
  refine ⟨[0], 1, rfl, Nat.le_refl _, by decide, ⟨rfl, .inr ⟨w.heap.size, 1, #[.int .i64 0], rfl, Nat.le_refl _, heap_alloc_new _ _, by decide, by decide, rfl, rfl⟩⟩, by simp, Lib.hid (fun x hx => by simp at hx; omega), qdh, qsh⟩
 case round =>
  obtain ⟨l, m, rfl, hm1, hm5, hO, hlm, HB4, hDr, hSr⟩ := hrel
  have HO := Lib.hid hO
  clear hO
  by_cases hlt : m < 5
  · go_wp2_with fail
    refine (w_l01Next k c 2 _ hSr).mono ?_
    rintro e w1 ⟨x1, rfl, x1a, x1b, hD, hS1⟩
    have HO1 := Lib.hid (hD.owns HO.out (by omega))
    have hD1 := hDr.trans hD
    have hz1 := hD1.size
    clear hD
    by_cases hq : x1 = 0
    · subst hq
      go_wp2_with (at_builtin; refine app1_Int64 rfl (.tmp 13) (.tmp 15) rfl w.heap.size _ l (m : Int) rfl HO1.out (by simp [Act.eval, Array.getD]) (by omega) hz1 ?_; intro v5 w5 ho5 hg5)
      go_roundw
      case rel => exact ⟨l ++ [(m : Int)], m + 1, by go_num, by omega, by omega, ho5, by simp; omega, Lib.hid (fun x hx => by
       rcases List.mem_append.1 hx with hx | hx
       · exact HB4.out x hx
       · simp at hx; omega), hD1.own (Nat.le_refl _) HO1.out hg5, hS1.own (base := w.heap.size) (by omega) HO1.out hg5⟩
      case measure => simp [intOf]; omega
    · have hqb : (x1 == 0) = false := by simpa using hq
      go_wp2
      go_roundw
      case rel => exact ⟨l, m + 1, by go_num, by omega, by omega, HO1.out, by omega, HB4, hD1, hS1⟩
      case measure => simp [intOf]; omega
  · obtain ⟨av, cv, rfl⟩ := isSl_of HO.out
    go_wp2
    go_ret
    exact ⟨_, l, rfl, HO.out, by omega, HB4.out, hDr, hSr⟩
set_option maxHeartbeats 2000000 in
theorem w_DrawRuleText (c : Value) (bs : List Int) (w : World) (h : IsByts w c bs) (hB : ∀ b ∈ bs, 0 ≤ b ∧ b ≤ 255) (hl : bs.length ≤ 4096) :
 Calls Tryz.prog 9 #[c] w fun e w' => ∃ (n : Int) (u v : Value) (st sd : List Int), e = .returned (.agg #[.int .i64 n, u, v]) ∧ w'.ownsRow w.heap.size 2 1 u st.length (nums st) ∧ w'.ownsRow w.heap.size 2 1 v sd.length (nums sd) ∧ st.length ≤ 5 ∧ sd.length ≤ 5 ∧ Later w w' := by
 go_enter Tryz.func9, Tryz.ntmps9
 go_wp2_with fail
 refine (w_l01From' c bs _ (h.later (qla)) hB hl).mono ?_
 rintro e w1 ⟨k, rfl, hk0, hL1, hS1⟩
 have hk0 : w.heap.size + 1 ≤ k := by simpa using hk0
 have hk := hS1.lt
 have hAc := byts_in h
 have hD1 : Drawn w w1 k := Drawn.later (by repeat (with_reducible first | exact grown_refl _ _ | refine Drawn.alloc ?_ _)) hL1
 have HK0_1 := Lib.hid (hL1.keep (k := w.heap.size) qkh)
 obtain ⟨c0, f0, z0_1⟩ := blk_at HK0_1.out
 have hz1 := hD1.size
 clear hL1
 go_wp2_with fail
 refine (w_l11Draw k c _ qsh).mono ?_
 rintro e w2 ⟨n, vu, vv, st, sd, rfl, hOu, hOv, hu5, hv5, hD, hS2⟩
 have hz2 : w1.heap.size ≤ w2.heap.size := qsz hD.size
 have hD2 : Drawn w w2 k := Drawn.trans qdh hD
 have HK0_2 := Lib.hid (hD.keep (j := w.heap.size) qkh (by omega))
 clear hD c0 f0
 obtain ⟨c0, f0, z0_2⟩ := blk_at HK0_2.out
 obtain ⟨au, capu, rfl⟩ := isSl_of hOu
 have HOu_2 := Lib.hid hOu
 clear hOu
 obtain ⟨av, capv, rfl⟩ := isSl_of hOv
 have HOv_2 := Lib.hid hOv
 clear hOv
 have hnu0 := ne_low (k := w.heap.size) HOu_2.out (by omega)
 have hnv0 := ne_low (k := w.heap.size) HOv_2.out (by omega)
 go_wp2
 refine bodyPost_ret (v := .agg #[.int .i64 n, .slice au st.length capu, .slice av sd.length capv]) (by simp [results, Tryz.results9, go_sem, c0, z0_2]) rfl ⟨n, _, _, st, sd, rfl, owns_base (base := w1.heap.size) (qoh HOu_2) (by omega), owns_base (base := w1.heap.size) (qoh HOv_2) (by omega), hu5, hv5, Later.drawn (k := k) (Later.refl w) (by omega) qdh⟩
set_option maxHeartbeats 4000000 in
theorem w_DrawReadRule (c : Value) (bs : List Int) (w : World) (h : IsByts w c bs) (hB : ∀ b ∈ bs, 0 ≤ b ∧ b ≤ 255) (hl : bs.length ≤ 4096) :
 Calls Tryz.prog 12 #[c] w fun e w' => ∃ t : List UInt8, e = .returned (sv t) ∧ t.length ≤ 200 ∧ Later w w' := by
 go_enter Tryz.func12, Tryz.ntmps12
 go_wp2_with fail
 refine (w_l01From' c bs _ h hB hl).mono ?_
 rintro e w1 ⟨k, rfl, hk0, hL1, hS1⟩
 have hk := hS1.lt
 have hD1 : Drawn w w1 k := Drawn.later (by repeat (with_reducible first | exact grown_refl _ _ | refine Drawn.alloc ?_ _)) hL1
 have hz1 := hD1.size
 clear hL1
 go_wp2_with fail
 refine (w_l11DrawScalesB k c _ qsh).mono ?_
 rintro e w2 ⟨va, la, rfl, hOa, ha5, hab, hD, hS2⟩
 have hz2 : w1.heap.size ≤ w2.heap.size := qsz hD.size
 have hD2 : Drawn w w2 k := Drawn.trans qdh hD
 clear hD
 obtain ⟨aa, capa, rfl⟩ := isSl_of hOa
 have HAB := Lib.hid hab
 clear hab
 have HOa_2 := Lib.hid (owns_base (base' := w1.heap.size) hOa (by omega))
 clear hOa
 go_wp2_with fail
 refine (w_l11Names _ la _ (reads_of_owns (qoh HOa_2) (by omega)) HAB.out (by omega)).mono ?_
 rintro e w3 ⟨rfl, hL⟩
 have hz3 : w2.heap.size ≤ w3.heap.size := qsz hL.size
 have hD3 : Drawn w w3 k := Drawn.later qdh hL
 have hS3 : Src w3 k c := Src.later qsh hL
 have HOa_3 := Lib.hid (owns_later (qoh HOa_2) hL)
 clear hL
 clear HOa_3
 obtain ⟨A, hA⟩ : ∃ X, scT la = X := ⟨_, rfl⟩
 have sA := scT_all la
 rw [hA] at sA ⊢
 obtain ⟨X1, hX1⟩ : ∃ X, [50, 53, 48, 48, 48, 32] ++ A = X := ⟨_, rfl⟩
 obtain ⟨X2, hX2⟩ : ∃ X, X1 ++ [32] = X := ⟨_, rfl⟩
 have lA : A.length ≤ 15 := by omega
 have HLA := Lib.hid lA
 have LX1 : Hid (X1.length ≤ 21) := Lib.hid (by rw [← hX1]; simp; omega)
 have LX2 : Hid (X2.length ≤ 22) := Lib.hid (by have := LX1.out; rw [← hX2]; simp; omega)
 have hap1 : ByteArray.mk #[50, 53, 48, 48, 48, 32] ++ ByteArray.mk A.toArray = ByteArray.mk X1.toArray := by rw [← hX1]; exact ByteArray.mk_append_mk [50, 53, 48, 48, 48, 32] A
 have hap2 : ByteArray.mk X1.toArray ++ ByteArray.mk #[32] = ByteArray.mk X2.toArray := by rw [← hX2]; exact ByteArray.mk_append_mk X1 [32]
 have hsz1 : (9223372036854775807 < 6 + A.length) = False := by simp; omega
 have hsz2 : (9223372036854775807 < X1.length + 1) = False := by have := LX1.out; simp; omega
 clear hA hX1 hX2 sA lA
 go_wp2_with fail
 refine (w_l11DrawScalesB k c _ qsh).mono ?_
 rintro e w4 ⟨vb, lb, rfl, hOb, hb5, hbb, hD, hS4⟩
 have hz4 : w3.heap.size ≤ w4.heap.size := qsz hD.size
 have hD4 : Drawn w w4 k := Drawn.trans qdh hD
 clear hD
 obtain ⟨ab, capb, rfl⟩ := isSl_of hOb
 have HBB := Lib.hid hbb
 clear hbb hap1 hap2 hsz1 hsz2
 have HOb_4 := Lib.hid (owns_base (base' := w1.heap.size) hOb (by omega))
 clear hOb
 go_wp2_with fail
 refine (w_l11Names _ lb _ (reads_of_owns (qoh HOb_4) (by omega)) HBB.out (by omega)).mono ?_
 rintro e w5 ⟨rfl, hL⟩
 have hz5 : w4.heap.size ≤ w5.heap.size := qsz hL.size
 have hD5 : Drawn w w5 k := Drawn.later qdh hL
 have hS5 : Src w5 k c := Src.later qsh hL
 have HOb_5 := Lib.hid (owns_later (qoh HOb_4) hL)
 clear hL
 clear HOb_5
 obtain ⟨B, hB'⟩ : ∃ X, scT lb = X := ⟨_, rfl⟩
 have sB := scT_all lb
 rw [hB'] at sB ⊢
 obtain ⟨t, ht⟩ : ∃ X, X2 ++ B = X := ⟨_, rfl⟩
 have htl : t.length ≤ 100 := by have := LX2.out; rw [← ht]; simp; omega
 have hap3 : ByteArray.mk X2.toArray ++ ByteArray.mk B.toArray = ByteArray.mk t.toArray := by rw [← ht]; exact ByteArray.mk_append_mk X2 B
 have hsz3 : (9223372036854775807 < X2.length + B.length) = False := by have := LX2.out; simp; omega
 clear hB' ht sB
 go_wp2_with fail
 refine (w_l01Next k c 3 _ qsh).mono ?_
 rintro e w6 ⟨x6, rfl, x6a, x6b, hD, hS6⟩
 have hz6 : w5.heap.size ≤ w6.heap.size := qsz hD.size
 have hD6 : Drawn w w6 k := Drawn.trans qdh hD
 clear hD
 clear hap3 hsz3
 by_cases hq : x6 = 0
 · skip
   subst hq
   go_wp2_with fail
   refine (w_l01Damage k c t (by omega) _ qsh).mono ?_
   rintro e w7 ⟨tt, rfl, htt, hD, hS7⟩
   have hz7 : w6.heap.size ≤ w7.heap.size := qsz hD.size
   have hD7 : Drawn w w7 k := Drawn.trans qdh hD
   clear hD
   go_wp2
   go_ret
   exact ⟨tt, rfl, by omega, (Later.refl w).drawn hk0 qdh⟩
 · skip
   have hqb : (x6 == 0) = false := by simpa using hq
   go_wp2
   go_ret
   exact ⟨t, rfl, by omega, (Later.refl w).drawn hk0 qdh⟩
set_option maxHeartbeats 2000000 in
theorem w_DrawHasScale (c : Value) (bs : List Int) (w : World) (h : IsByts w c bs) (hB : ∀ b ∈ bs, 0 ≤ b ∧ b ≤ 255) (hl : bs.length ≤ 4096) :
 Calls Tryz.prog 15 #[c] w fun e w' => ∃ (n : Int) (u v : Value) (st sd : List Int) (b : Bool) (y : Int), e = .returned (.tuple #[.agg #[.int .i64 n, u, v], .bool b, .int .i64 y]) ∧ w'.ownsRow w.heap.size 2 1 u st.length (nums st) ∧ w'.ownsRow w.heap.size 2 1 v sd.length (nums sd) ∧ st.length ≤ 5 ∧ sd.length ≤ 5 ∧ Later w w' := by
 go_enter Tryz.func15, Tryz.ntmps15
 go_wp2_with fail
 refine (w_l01From' c bs _ (h.later (qla)) hB hl).mono ?_
 rintro e w1 ⟨k, rfl, hk0, hL1, hS1⟩
 have hk0 : w.heap.size + 1 ≤ k := by simpa using hk0
 have hk := hS1.lt
 have hAc := byts_in h
 have hD1 : Drawn w w1 k := Drawn.later (by repeat (with_reducible first | exact grown_refl _ _ | refine Drawn.alloc ?_ _)) hL1
 have HK0_1 := Lib.hid (hL1.keep (k := w.heap.size) qkh)
 obtain ⟨c0, f0, z0_1⟩ := blk_at HK0_1.out
 have hz1 := hD1.size
 clear hL1
 go_wp2_with fail
 refine (w_l11Draw k c _ qsh).mono ?_
 rintro e w2 ⟨n, vu, vv, st, sd, rfl, hOu, hOv, hu5, hv5, hD, hS2⟩
 have hz2 : w1.heap.size ≤ w2.heap.size := qsz hD.size
 have hD2 : Drawn w w2 k := Drawn.trans qdh hD
 have HK0_2 := Lib.hid (hD.keep (j := w.heap.size) qkh (by omega))
 clear hD c0 f0
 obtain ⟨c0, f0, z0_2⟩ := blk_at HK0_2.out
 obtain ⟨au, capu, rfl⟩ := isSl_of hOu
 have HOu_2 := Lib.hid hOu
 clear hOu
 obtain ⟨av, capv, rfl⟩ := isSl_of hOv
 have HOv_2 := Lib.hid hOv
 clear hOv
 have hnu6 := ne_own (k := w2.heap.size) HOu_2.out (by omega)
 have hnv6 := ne_own (k := w2.heap.size) HOv_2.out (by omega)
 go_wp2_with fail
 have hD0 : Drawn w (w2.alloc (.cells #[.int .i64 n, .slice au st.length capu, .slice av sd.length capv] 26)) k := qdh
 have hS0 : Src (w2.alloc (.cells #[.int .i64 n, .slice au st.length capu, .slice av sd.length capv] 26)) k c := qsh
 have Q6 : (w2.alloc (.cells #[.int .i64 n, .slice au st.length capu, .slice av sd.length capv] 26)).heap[w2.heap.size]? = some (.cells #[.int .i64 n, .slice au st.length capu, .slice av sd.length capv] 26 (0, 0)) := heap_alloc_new _ _
 have Q0 : (w2.alloc (.cells #[.int .i64 n, .slice au st.length capu, .slice av sd.length capv] 26)).heap[w.heap.size]? = some (.cells #[.int .i64 0, .slice none 0 0, .slice none 0 0] 26 (0, 0)) := qkh
 have Qu : (w2.alloc (.cells #[.int .i64 n, .slice au st.length capu, .slice av sd.length capv] 26)).ownsRow w1.heap.size 2 1 (.slice au st.length capu) st.length (nums st) := (qoh HOu_2)
 have Qv : (w2.alloc (.cells #[.int .i64 n, .slice au st.length capu, .slice av sd.length capv] 26)).ownsRow w1.heap.size 2 1 (.slice av sd.length capv) sd.length (nums sd) := (qoh HOv_2)
 clear c0 f0
 have hnu0 := ne_low (k := w.heap.size) Qu (by omega)
 have hnv0 := ne_low (k := w.heap.size) Qv (by omega)
 refine region_slots 17 [11, 12, 13, 14, 15, 16, 3, 4] (fun g ac wc => sl ac 2 = .pointer (some ⟨w.heap.size, 0, none⟩) ∧
  sl ac 5 = .pointer (some ⟨k, 0, none⟩) ∧
  sl ac 6 = .pointer (some ⟨w2.heap.size, 0, none⟩) ∧
  (g 0 = true → (sl ac 11) = .agg #[.int .i64 n, .slice au st.length capu, .slice av sd.length capv]) ∧
  (g 1 = true → (sl ac 12) = .pointer (some ⟨k, 0, none⟩)) ∧
  (g 2 = true → ∃ y : Int, (sl ac 13) = .int .i64 y) ∧
  (g 3 = true → ∃ b : Bool, (sl ac 14) = .bool b) ∧
  (g 4 = true → (sl ac 15) = .pointer (some ⟨k, 0, none⟩)) ∧
  (g 5 = true → ∃ y : Int, (sl ac 16) = .int .i64 y) ∧
  (g 7 = true → ∃ b : Bool, (sl ac 3) = .bool b) ∧
  (g 8 = true → ∃ y : Int, (sl ac 4) = .int .i64 y) ∧
  Drawn w wc k ∧
  Src wc k c ∧
  wc.ownsRow w1.heap.size 2 1 (.slice au st.length capu) st.length (nums st) ∧
  wc.ownsRow w1.heap.size 2 1 (.slice av sd.length capv) sd.length (nums sd) ∧
  wc.heap[w2.heap.size]? = some (.cells #[.int .i64 n, .slice au st.length capu, .slice av sd.length capv] 26 (0, 0)) ∧
  (g 6 = false → wc.heap[w.heap.size]? = some (.cells #[.int .i64 0, .slice none 0 0, .slice none 0 0] 26 (0, 0))) ∧
  (g 6 = true → wc.heap[w.heap.size]? = some (.cells #[.int .i64 n, .slice au st.length capu, .slice av sd.length capv] 26 (0, 0))) ∧
  (g 2 = true → g 1 = true) ∧
  (g 3 = true → g 2 = true) ∧
  (g 5 = true → g 4 = true) ∧
  (g 6 = true → g 0 = true) ∧
  (g 7 = true → g 3 = true) ∧
  (g 8 = true → g 5 = true)) (by kernel_rfl) (by kernel_rfl) rfl (by kernel_rfl) ?_ ?_ ?_
 · exact ⟨rfl, rfl, rfl, nofun, nofun, nofun, nofun, nofun, nofun, nofun, nofun, hD0.drew, hS0.drew, owns_later Qu (Later.refl _).drew, owns_later Qv (Later.refl _).drew, Q6, fun _ => Q0, nofun, nofun, nofun, nofun, nofun, nofun, nofun⟩
 · intro g ac wu hg ha hI
   obtain ⟨xi2, xi5, xi6, i0, i1, i2, i3, i4, i5, i7, i8, hD, hS, Ou, Ov, B6, -, N0, -, -, -, -, -, -⟩ := hI
   obtain e0 := i0 (hg 0 (by simp))
   obtain e1 := i1 (hg 1 (by simp))
   obtain ⟨yd2, e2⟩ := i2 (hg 2 (by simp))
   obtain ⟨bd3, e3⟩ := i3 (hg 3 (by simp))
   obtain e4 := i4 (hg 4 (by simp))
   obtain ⟨yd5, e5⟩ := i5 (hg 5 (by simp))
   obtain ⟨bd7, e7⟩ := i7 (hg 7 (by simp))
   obtain ⟨yd8, e8⟩ := i8 (hg 8 (by simp))
   replace N0 := N0 (hg 6 (by simp))
   simp only [putAll, e0, e1, e2, e3, e4, e5, e7, e8] at ha
   simp only [Act.put, List.setIfInBounds_toArray, List.set_cons_succ, List.set_cons_zero] at ha
   rw [ha]
   clear xi2 xi5 xi6 i0 i1 i2 i3 i4 i5 i7 i8 e0 e1 e2 e3 e4 e5 e7 e8 hg ha
   have hc0 := (blk_at N0).1
   have hz0 := (blk_at N0).2.2
   have HDu := Lib.hid hD
   have HUu := Lib.hid Ou
   have HVu := Lib.hid Ov
   clear hD hS Ou Ov B6 N0
   go_wp2
   refine bodyPost_ret (v := .tuple #[.agg #[.int .i64 n, .slice au st.length capu, .slice av sd.length capv], .bool bd7, .int .i64 yd8]) (by simp [results, Tryz.results15, go_sem, hc0, hz0]) rfl ⟨n, _, _, st, sd, bd7, yd8, rfl, owns_base HUu.out (by omega), owns_base HVu.out (by omega), hu5, hv5, Later.drawn (k := k) (Later.refl w) (by omega) HDu.out⟩
 · refine .cons ?_ (.cons ?_ (.cons ?_ (.cons ?_ (.cons ?_ (.cons ?_ (.cons ?_ (.cons ?_ (.cons ?_ .nil))))))))
   · refine qst fun g ac wc hn hk hr HI K' hK => ?_
     obtain ⟨xi2, xi5, xi6, -, -, -, -, -, -, -, -, hD, hS, Ou, Ov, B6, R0, N0, m2_1, m3_2, m5_4, m6_0, m7_3, m8_5⟩ := HI.out
     simp [Region.binds] at hr
     have zi6 := sl_get xi6 (by omega)
     obtain ⟨cb, fb, zb⟩ := blk_at B6
     go_simp
     obtain ⟨-, -, -, i0, i1, i2, i3, i4, i5, i7, i8, -⟩ := HI.out
     exact hK.out _ _ ⟨qB xi2, qB xi5, qB xi6, qP, (fun h => by rw [put_ne (by decide)]; exact i1 h), (fun h => by rw [put_ne (by decide)]; exact i2 h), (fun h => by rw [put_ne (by decide)]; exact i3 h), (fun h => by rw [put_ne (by decide)]; exact i4 h), (fun h => by rw [put_ne (by decide)]; exact i5 h), (fun h => by rw [put_ne (by decide)]; exact i7 h), (fun h => by rw [put_ne (by decide)]; exact i8 h), hD, hS, Ou, Ov, B6, (fun h => (R0 h)), (fun h => N0 h), m2_1, m3_2, m5_4, (fun _ => rfl), m7_3, m8_5⟩
   · refine qst fun g ac wc hn hk hr HI K' hK => ?_
     obtain ⟨xi2, xi5, xi6, -, -, -, -, -, -, -, -, hD, hS, Ou, Ov, B6, R0, N0, m2_1, m3_2, m5_4, m6_0, m7_3, m8_5⟩ := HI.out
     simp [Region.binds] at hr
     have zi5 := sl_get xi5 (by omega)
     go_simp
     obtain ⟨-, -, -, i0, i1, i2, i3, i4, i5, i7, i8, -⟩ := HI.out
     exact hK.out _ _ ⟨qB xi2, qB xi5, qB xi6, (fun h => by rw [put_ne (by decide)]; exact i0 h), qP, (fun h => absurd (m2_1 h) (by rw [hk]; simp)), (fun h => by rw [put_ne (by decide)]; exact i3 h), (fun h => by rw [put_ne (by decide)]; exact i4 h), (fun h => by rw [put_ne (by decide)]; exact i5 h), (fun h => by rw [put_ne (by decide)]; exact i7 h), (fun h => by rw [put_ne (by decide)]; exact i8 h), hD, hS, Ou, Ov, B6, (fun h => (R0 h)), (fun h => N0 h), (fun _ => rfl), m3_2, m5_4, m6_0, m7_3, m8_5⟩
   · refine qst fun g ac wc hn hk hr HI K' hK => ?_
     obtain ⟨xi2, xi5, xi6, -, i1, -, -, -, -, -, -, hD, hS, Ou, Ov, B6, R0, N0, m2_1, m3_2, m5_4, m6_0, m7_3, m8_5⟩ := HI.out
     simp [Region.binds] at hr
     have g1 : g 1 = true := (by simp [hr])
     obtain y1 := i1 g1
     have z1 := sl_get y1 (by omega)
     clear i1
     go_simp
     refine (w_l01Next k c 2 wc hS).mono ?_
     rintro e w4 ⟨y, rfl, ya, yb, hD4, hS4⟩
     obtain ⟨-, -, -, i0, i1, i2, i3, i4, i5, i7, i8, -⟩ := HI.out
     exact hK.out _ _ ⟨qB xi2, qB xi5, qB xi6, (fun h => by rw [put_ne (by decide)]; exact i0 h), (fun h => by rw [put_ne (by decide)]; exact i1 h), (fun _ => ⟨_, put_eq (by omega)⟩), (fun h => absurd (m3_2 h) (by rw [hk]; simp)), (fun h => by rw [put_ne (by decide)]; exact i4 h), (fun h => by rw [put_ne (by decide)]; exact i5 h), (fun h => by rw [put_ne (by decide)]; exact i7 h), (fun h => by rw [put_ne (by decide)]; exact i8 h), (hD.trans hD4), hS4, (hD4.owns Ou (by omega)), (hD4.owns Ov (by omega)), (hD4.keep B6 (by omega)), (fun h => (hD4.keep (R0 h) (by omega))), (fun h => (hD4.keep (N0 h) (by omega))), (fun _ => g1), (fun _ => rfl), m5_4, m6_0, m7_3, m8_5⟩
   · refine qst fun g ac wc hn hk hr HI K' hK => ?_
     obtain ⟨xi2, xi5, xi6, -, -, i2, -, -, -, -, -, hD, hS, Ou, Ov, B6, R0, N0, m2_1, m3_2, m5_4, m6_0, m7_3, m8_5⟩ := HI.out
     simp [Region.binds] at hr
     have g2 : g 2 = true := (by simp [hr])
     obtain ⟨y2, y2⟩ := i2 g2
     have z2 := sl_get y2 (by omega)
     clear i2
     go_simp
     obtain ⟨-, -, -, i0, i1, i2, i3, i4, i5, i7, i8, -⟩ := HI.out
     exact hK.out _ _ ⟨qB xi2, qB xi5, qB xi6, (fun h => by rw [put_ne (by decide)]; exact i0 h), (fun h => by rw [put_ne (by decide)]; exact i1 h), (fun h => by rw [put_ne (by decide)]; exact i2 h), (fun _ => ⟨_, put_eq (by omega)⟩), (fun h => by rw [put_ne (by decide)]; exact i4 h), (fun h => by rw [put_ne (by decide)]; exact i5 h), (fun h => absurd (m7_3 h) (by rw [hk]; simp)), (fun h => by rw [put_ne (by decide)]; exact i8 h), hD, hS, Ou, Ov, B6, (fun h => (R0 h)), (fun h => N0 h), m2_1, (fun _ => g2), m5_4, m6_0, (fun _ => rfl), m8_5⟩
   · refine qst fun g ac wc hn hk hr HI K' hK => ?_
     obtain ⟨xi2, xi5, xi6, -, -, -, -, -, -, -, -, hD, hS, Ou, Ov, B6, R0, N0, m2_1, m3_2, m5_4, m6_0, m7_3, m8_5⟩ := HI.out
     simp [Region.binds] at hr
     have zi5 := sl_get xi5 (by omega)
     go_simp
     obtain ⟨-, -, -, i0, i1, i2, i3, i4, i5, i7, i8, -⟩ := HI.out
     exact hK.out _ _ ⟨qB xi2, qB xi5, qB xi6, (fun h => by rw [put_ne (by decide)]; exact i0 h), (fun h => by rw [put_ne (by decide)]; exact i1 h), (fun h => by rw [put_ne (by decide)]; exact i2 h), (fun h => by rw [put_ne (by decide)]; exact i3 h), qP, (fun h => absurd (m5_4 h) (by rw [hk]; simp)), (fun h => by rw [put_ne (by decide)]; exact i7 h), (fun h => by rw [put_ne (by decide)]; exact i8 h), hD, hS, Ou, Ov, B6, (fun h => (R0 h)), (fun h => N0 h), m2_1, m3_2, (fun _ => rfl), m6_0, m7_3, m8_5⟩
   · refine qst fun g ac wc hn hk hr HI K' hK => ?_
     obtain ⟨xi2, xi5, xi6, -, -, -, -, i4, -, -, -, hD, hS, Ou, Ov, B6, R0, N0, m2_1, m3_2, m5_4, m6_0, m7_3, m8_5⟩ := HI.out
     simp [Region.binds] at hr
     have g4 : g 4 = true := (by simp [hr])
     obtain y4 := i4 g4
     have z4 := sl_get y4 (by omega)
     clear i4
     go_simp
     refine (w_l05DrawScale k c wc hS).mono ?_
     rintro e w4 ⟨y, rfl, hD4, hS4⟩
     obtain ⟨-, -, -, i0, i1, i2, i3, i4, i5, i7, i8, -⟩ := HI.out
     exact hK.out _ _ ⟨qB xi2, qB xi5, qB xi6, (fun h => by rw [put_ne (by decide)]; exact i0 h), (fun h => by rw [put_ne (by decide)]; exact i1 h), (fun h => by rw [put_ne (by decide)]; exact i2 h), (fun h => by rw [put_ne (by decide)]; exact i3 h), (fun h => by rw [put_ne (by decide)]; exact i4 h), (fun _ => ⟨_, put_eq (by omega)⟩), (fun h => by rw [put_ne (by decide)]; exact i7 h), (fun h => absurd (m8_5 h) (by rw [hk]; simp)), (hD.trans hD4), hS4, (hD4.owns Ou (by omega)), (hD4.owns Ov (by omega)), (hD4.keep B6 (by omega)), (fun h => (hD4.keep (R0 h) (by omega))), (fun h => (hD4.keep (N0 h) (by omega))), m2_1, m3_2, (fun _ => g4), m6_0, m7_3, (fun _ => rfl)⟩
   · refine qst fun g ac wc hn hk hr HI K' hK => ?_
     obtain ⟨xi2, xi5, xi6, i0, -, -, -, -, -, -, -, hD, hS, Ou, Ov, B6, R0, N0, m2_1, m3_2, m5_4, m6_0, m7_3, m8_5⟩ := HI.out
     simp [Region.binds] at hr
     have g0 : g 0 = true := (by simp [hr])
     obtain y0 := i0 g0
     have z0 := sl_get y0 (by omega)
     have zi2 := sl_get xi2 (by omega)
     have hst := hk
     have hbb := blk_at (R0 hst)
     have cb := hbb.1
     have fb := hbb.2.1
     have zb := hbb.2.2
     clear hbb
     clear i0
     go_simp
     obtain ⟨-, -, -, i0, i1, i2, i3, i4, i5, i7, i8, -⟩ := HI.out
     exact hK.out undef _ ⟨xi2, xi5, xi6, (fun h => i0 h), (fun h => i1 h), (fun h => i2 h), (fun h => i3 h), (fun h => i4 h), (fun h => i5 h), (fun h => i7 h), (fun h => i8 h), (((hD.setCell (by omega) _ _).setCell (by omega) _ _).setCell (by omega) _ _), (((hS.setLow (hAc.mono fun b hb => by omega) (by omega) _ _).setLow (hAc.mono fun b hb => by omega) (by omega) _ _).setLow (hAc.mono fun b hb => by omega) (by omega) _ _), (owns_setNe (owns_setNe (owns_setNe Ou (by assumption) _ _) (by assumption) _ _) (by assumption) _ _), (owns_setNe (owns_setNe (owns_setNe Ov (by assumption) _ _) (by assumption) _ _) (by assumption) _ _), (other_set (other_set (other_set B6 (by omega) _) (by omega) _) (by omega) _), (fun h => absurd h (by simp)), (fun _ => st_2_3 (st_1_3 (st_0_3 (R0 hk) _) _) _), m2_1, m3_2, m5_4, (fun _ => g0), m7_3, m8_5⟩
   · refine qst fun g ac wc hn hk hr HI K' hK => ?_
     obtain ⟨xi2, xi5, xi6, -, -, -, i3, -, -, -, -, hD, hS, Ou, Ov, B6, R0, N0, m2_1, m3_2, m5_4, m6_0, m7_3, m8_5⟩ := HI.out
     simp [Region.binds] at hr
     have g3 : g 3 = true := (by simp [hr])
     obtain ⟨b3, y3⟩ := i3 g3
     have z3 := sl_get y3 (by omega)
     clear i3
     go_simp
     obtain ⟨-, -, -, i0, i1, i2, i3, i4, i5, i7, i8, -⟩ := HI.out
     exact hK.out _ _ ⟨qB xi2, qB xi5, qB xi6, (fun h => by rw [put_ne (by decide)]; exact i0 h), (fun h => by rw [put_ne (by decide)]; exact i1 h), (fun h => by rw [put_ne (by decide)]; exact i2 h), (fun h => by rw [put_ne (by decide)]; exact i3 h), (fun h => by rw [put_ne (by decide)]; exact i4 h), (fun h => by rw [put_ne (by decide)]; exact i5 h), (fun _ => ⟨_, put_eq (by omega)⟩), (fun h => by rw [put_ne (by decide)]; exact i8 h), hD, hS, Ou, Ov, B6, (fun h => (R0 h)), (fun h => N0 h), m2_1, m3_2, m5_4, m6_0, (fun _ => g3), m8_5⟩
   · refine qst fun g ac wc hn hk hr HI K' hK => ?_
     obtain ⟨xi2, xi5, xi6, -, -, -, -, -, i5, -, -, hD, hS, Ou, Ov, B6, R0, N0, m2_1, m3_2, m5_4, m6_0, m7_3, m8_5⟩ := HI.out
     simp [Region.binds] at hr
     have g5 : g 5 = true := (by simp [hr])
     obtain ⟨y5, y5⟩ := i5 g5
     have z5 := sl_get y5 (by omega)
     clear i5
     go_simp
     obtain ⟨-, -, -, i0, i1, i2, i3, i4, i5, i7, i8, -⟩ := HI.out
     exact hK.out _ _ ⟨qB xi2, qB xi5, qB xi6, (fun h => by rw [put_ne (by decide)]; exact i0 h), (fun h => by rw [put_ne (by decide)]; exact i1 h), (fun h => by rw [put_ne (by decide)]; exact i2 h), (fun h => by rw [put_ne (by decide)]; exact i3 h), (fun h => by rw [put_ne (by decide)]; exact i4 h), (fun h => by rw [put_ne (by decide)]; exact i5 h), (fun h => by rw [put_ne (by decide)]; exact i7 h), (fun _ => ⟨_, put_eq (by omega)⟩), hD, hS, Ou, Ov, B6, (fun h => (R0 h)), (fun h => N0 h), m2_1, m3_2, m5_4, m6_0, m7_3, (fun _ => g5)⟩
set_option maxHeartbeats 2000000 in
theorem w_DrawSetCursor (c : Value) (bs : List Int) (w : World) (h : IsByts w c bs) (hB : ∀ b ∈ bs, 0 ≤ b ∧ b ≤ 255) (hl : bs.length ≤ 4096) :
 Calls Tryz.prog 6 #[c] w fun e w' => ∃ (n : Int) (u v : Value) (st sd : List Int) (s : Stg) (b : Bool) (y : Int) (f : Fig), e = .returned (.tuple #[.agg #[.int .i64 n, u, v], .agg #[.int .i64 s.sh, .int .i64 s.cu], .bool b, .int .i64 y, .agg #[.int .i64 f.d, .int .i64 f.t]]) ∧ w'.ownsRow w.heap.size 2 1 u st.length (nums st) ∧ w'.ownsRow w.heap.size 2 1 v sd.length (nums sd) ∧ st.length ≤ 5 ∧ sd.length ≤ 5 ∧ Later w w' := by
 go_enter Tryz.func6, Tryz.ntmps6
 go_wp2_with fail
 refine (w_l01From' c bs _ (h.later (qla)) hB hl).mono ?_
 rintro e w1 ⟨k, rfl, hk0, hL1, hS1⟩
 have hk0 : w.heap.size + 3 ≤ k := by simpa using hk0
 have hk := hS1.lt
 have hAc := byts_in h
 have hD1 : Drawn w w1 k := Drawn.later (by repeat (with_reducible first | exact grown_refl _ _ | refine Drawn.alloc ?_ _)) hL1
 have HK0_1 := Lib.hid (hL1.keep (k := w.heap.size) qkh)
 have HK1_1 := Lib.hid (hL1.keep (k := w.heap.size + 1) qkh)
 have HK2_1 := Lib.hid (hL1.keep (k := w.heap.size + 1 + 1) qkh)
 obtain ⟨c0, f0, z0_1⟩ := blk_at HK0_1.out
 obtain ⟨c1, f1, z1_1⟩ := blk_at HK1_1.out
 obtain ⟨c2, f2, z2_1⟩ := blk_at HK2_1.out
 have hz1 := hD1.size
 clear hL1
 go_wp2_with fail
 refine (w_l11Draw k c _ qsh).mono ?_
 rintro e w2 ⟨n, vu, vv, st, sd, rfl, hOu, hOv, hu5, hv5, hD, hS2⟩
 have hz2 : w1.heap.size ≤ w2.heap.size := qsz hD.size
 have hD2 : Drawn w w2 k := Drawn.trans qdh hD
 have HK0_2 := Lib.hid (hD.keep (j := w.heap.size) qkh (by omega))
 have HK1_2 := Lib.hid (hD.keep (j := w.heap.size + 1) qkh (by omega))
 have HK2_2 := Lib.hid (hD.keep (j := w.heap.size + 1 + 1) qkh (by omega))
 clear hD c0 f0 c1 f1 c2 f2
 obtain ⟨c0, f0, z0_2⟩ := blk_at HK0_2.out
 obtain ⟨c1, f1, z1_2⟩ := blk_at HK1_2.out
 obtain ⟨c2, f2, z2_2⟩ := blk_at HK2_2.out
 obtain ⟨au, capu, rfl⟩ := isSl_of hOu
 have HOu_2 := Lib.hid hOu
 clear hOu
 obtain ⟨av, capv, rfl⟩ := isSl_of hOv
 have HOv_2 := Lib.hid hOv
 clear hOv
 have hnu8 := ne_own (k := w2.heap.size) HOu_2.out (by omega)
 have hnv8 := ne_own (k := w2.heap.size) HOv_2.out (by omega)
 go_wp2_with fail
 refine (w_l11DrawSetting k c _ qsh).mono ?_
 rintro e w3 ⟨s, rfl, hD, hS3⟩
 have hz3 : w2.heap.size ≤ w3.heap.size := qsz hD.size
 have hD3 : Drawn w w3 k := Drawn.trans qdh hD
 have HK0_3 := Lib.hid (hD.keep (j := w.heap.size) qkh (by omega))
 have HK1_3 := Lib.hid (hD.keep (j := w.heap.size + 1) qkh (by omega))
 have HK2_3 := Lib.hid (hD.keep (j := w.heap.size + 1 + 1) qkh (by omega))
 have HK8_3 := Lib.hid (hD.keep (j := w2.heap.size) qkh (by omega))
 have HOu_3 := Lib.hid (hD.owns (qoh HOu_2) (by omega))
 have HOv_3 := Lib.hid (hD.owns (qoh HOv_2) (by omega))
 clear hD c0 f0 c1 f1 c2 f2
 obtain ⟨c0, f0, z0_3⟩ := blk_at HK0_3.out
 obtain ⟨c1, f1, z1_3⟩ := blk_at HK1_3.out
 obtain ⟨c2, f2, z2_3⟩ := blk_at HK2_3.out
 obtain ⟨c8, f8, z8_3⟩ := blk_at HK8_3.out
 have hnu9 := ne_own (k := w3.heap.size) HOu_3.out (by omega)
 have hnv9 := ne_own (k := w3.heap.size) HOv_3.out (by omega)
 go_wp2_with fail
 refine (w_l01Next k c 2 _ qsh).mono ?_
 rintro e w4 ⟨x4, rfl, x4a, x4b, hD, hS4⟩
 have hz4 : w3.heap.size ≤ w4.heap.size := qsz hD.size
 have hD4 : Drawn w w4 k := Drawn.trans qdh hD
 have HK0_4 := Lib.hid (hD.keep (j := w.heap.size) qkh (by omega))
 have HK1_4 := Lib.hid (hD.keep (j := w.heap.size + 1) qkh (by omega))
 have HK2_4 := Lib.hid (hD.keep (j := w.heap.size + 1 + 1) qkh (by omega))
 have HK8_4 := Lib.hid (hD.keep (j := w2.heap.size) qkh (by omega))
 have HK9_4 := Lib.hid (hD.keep (j := w3.heap.size) qkh (by omega))
 have HOu_4 := Lib.hid (hD.owns (qoh HOu_3) (by omega))
 have HOv_4 := Lib.hid (hD.owns (qoh HOv_3) (by omega))
 clear hD c0 f0 c1 f1 c2 f2 c8 f8
 obtain ⟨c0, f0, z0_4⟩ := blk_at HK0_4.out
 obtain ⟨c1, f1, z1_4⟩ := blk_at HK1_4.out
 obtain ⟨c2, f2, z2_4⟩ := blk_at HK2_4.out
 obtain ⟨c8, f8, z8_4⟩ := blk_at HK8_4.out
 obtain ⟨c9, f9, z9_4⟩ := blk_at HK9_4.out
 obtain ⟨b, hb⟩ : ∃ b, (x4 == 0) = b := ⟨_, rfl⟩
 go_wp2_with fail
 clear hb
 have hD0 : Drawn w w4 k := qdh
 have hS0 : Src w4 k c := qsh
 have Q8 := HK8_4.out
 have Q9 := HK9_4.out
 have Q0 := HK0_4.out
 have Q1 := HK1_4.out
 have Q2 := HK2_4.out
 have Qu := HOu_4.out
 have Qv := HOv_4.out
 clear c0 f0 c1 f1 c2 f2 c8 f8 c9 f9
 have hnu0 := ne_low (k := w.heap.size) Qu (by omega)
 have hnu1 := ne_low (k := w.heap.size + 1) Qu (by omega)
 have hnu2 := ne_low (k := w.heap.size + 1 + 1) Qu (by omega)
 have hnv0 := ne_low (k := w.heap.size) Qv (by omega)
 have hnv1 := ne_low (k := w.heap.size + 1) Qv (by omega)
 have hnv2 := ne_low (k := w.heap.size + 1 + 1) Qv (by omega)
 refine region_slots 29 [20, 21, 22, 23, 24, 25, 26, 27, 28, 4, 5] (fun g ac wc => sl ac 2 = .pointer (some ⟨w.heap.size, 0, none⟩) ∧
  sl ac 3 = .pointer (some ⟨w.heap.size + 1, 0, none⟩) ∧
  sl ac 6 = .pointer (some ⟨w.heap.size + 1 + 1, 0, none⟩) ∧
  sl ac 7 = .pointer (some ⟨k, 0, none⟩) ∧
  sl ac 8 = .pointer (some ⟨w2.heap.size, 0, none⟩) ∧
  sl ac 9 = .pointer (some ⟨w3.heap.size, 0, none⟩) ∧
  sl ac 10 = .bool b ∧
  (g 0 = true → (sl ac 20) = .agg #[.int .i64 n, .slice au st.length capu, .slice av sd.length capv]) ∧
  (g 1 = true → (sl ac 21) = .agg #[.int .i64 s.sh, .int .i64 s.cu]) ∧
  (g 2 = true → (sl ac 22) = .bool b) ∧
  (g 3 = true → (sl ac 23) = .pointer (some ⟨k, 0, none⟩)) ∧
  (g 4 = true → (sl ac 24) = .agg #[.int .i64 n, .slice au st.length capu, .slice av sd.length capv]) ∧
  (g 5 = true → (sl ac 25) = .bool b) ∧
  (g 6 = true → ∃ y : Int, (sl ac 26) = .int .i64 y) ∧
  (g 7 = true → (sl ac 27) = .pointer (some ⟨k, 0, none⟩)) ∧
  (g 8 = true → ∃ f : Fig, (sl ac 28) = .agg #[.int .i64 f.d, .int .i64 f.t]) ∧
  (g 11 = true → (sl ac 4) = .bool b) ∧
  (g 12 = true → ∃ y : Int, (sl ac 5) = .int .i64 y) ∧
  Drawn w wc k ∧
  Src wc k c ∧
  wc.ownsRow w1.heap.size 2 1 (.slice au st.length capu) st.length (nums st) ∧
  wc.ownsRow w1.heap.size 2 1 (.slice av sd.length capv) sd.length (nums sd) ∧
  wc.heap[w2.heap.size]? = some (.cells #[.int .i64 n, .slice au st.length capu, .slice av sd.length capv] 26 (0, 0)) ∧
  wc.heap[w3.heap.size]? = some (.cells #[.int .i64 s.sh, .int .i64 s.cu] 28 (0, 0)) ∧
  (g 9 = false → wc.heap[w.heap.size]? = some (.cells #[.int .i64 0, .slice none 0 0, .slice none 0 0] 26 (0, 0))) ∧
  (g 9 = true → wc.heap[w.heap.size]? = some (.cells #[.int .i64 n, .slice au st.length capu, .slice av sd.length capv] 26 (0, 0))) ∧
  (g 10 = false → wc.heap[w.heap.size + 1]? = some (.cells #[.int .i64 0, .int .i64 0] 28 (0, 0))) ∧
  (g 10 = true → wc.heap[w.heap.size + 1]? = some (.cells #[.int .i64 s.sh, .int .i64 s.cu] 28 (0, 0))) ∧
  (g 13 = false → wc.heap[w.heap.size + 1 + 1]? = some (.cells #[.int .i64 0, .int .i64 0] 30 (0, 0))) ∧
  (g 13 = true → ∃ m : Fig, wc.heap[w.heap.size + 1 + 1]? = some (.cells #[.int .i64 m.d, .int .i64 m.t] 30 (0, 0))) ∧
  (g 6 = true → g 3 = true) ∧
  (g 6 = true → g 4 = true) ∧
  (g 6 = true → g 5 = true) ∧
  (g 8 = true → g 7 = true) ∧
  (g 9 = true → g 0 = true) ∧
  (g 10 = true → g 1 = true) ∧
  (g 11 = true → g 2 = true) ∧
  (g 12 = true → g 6 = true) ∧
  (g 13 = true → g 8 = true)) (by kernel_rfl) (by kernel_rfl) rfl (by kernel_rfl) ?_ ?_ ?_
 · exact ⟨rfl, rfl, rfl, rfl, rfl, rfl, rfl, nofun, nofun, nofun, nofun, nofun, nofun, nofun, nofun, nofun, nofun, nofun, hD0.drew, hS0.drew, owns_later Qu (Later.refl _).drew, owns_later Qv (Later.refl _).drew, Q8, Q9, fun _ => Q0, nofun, fun _ => Q1, nofun, fun _ => Q2, nofun, nofun, nofun, nofun, nofun, nofun, nofun, nofun, nofun, nofun⟩
 · intro g ac wu hg ha hI
   obtain ⟨xi2, xi3, xi6, xi7, xi8, xi9, xi10, i0, i1, i2, i3, i4, i5, i6, i7, i8, i11, i12, hD, hS, Ou, Ov, B8, B9, -, N0, -, N1, -, N2, -, -, -, -, -, -, -, -, -⟩ := hI
   obtain e0 := i0 (hg 0 (by simp))
   obtain e1 := i1 (hg 1 (by simp))
   obtain e2 := i2 (hg 2 (by simp))
   obtain e3 := i3 (hg 3 (by simp))
   obtain e4 := i4 (hg 4 (by simp))
   obtain e5 := i5 (hg 5 (by simp))
   obtain ⟨yd6, e6⟩ := i6 (hg 6 (by simp))
   obtain e7 := i7 (hg 7 (by simp))
   obtain ⟨fd8, e8⟩ := i8 (hg 8 (by simp))
   obtain e11 := i11 (hg 11 (by simp))
   obtain ⟨yd12, e12⟩ := i12 (hg 12 (by simp))
   replace N0 := N0 (hg 9 (by simp))
   replace N1 := N1 (hg 10 (by simp))
   replace N2 := N2 (hg 13 (by simp))
   obtain ⟨mf, N2⟩ := N2
   simp only [putAll, e0, e1, e2, e3, e4, e5, e6, e7, e8, e11, e12] at ha
   simp only [Act.put, List.setIfInBounds_toArray, List.set_cons_succ, List.set_cons_zero] at ha
   rw [ha]
   clear xi2 xi3 xi6 xi7 xi8 xi9 xi10 i0 i1 i2 i3 i4 i5 i6 i7 i8 i11 i12 e0 e1 e2 e3 e4 e5 e6 e7 e8 e11 e12 hg ha
   have hc0 := (blk_at N0).1
   have hz0 := (blk_at N0).2.2
   have hc1 := (blk_at N1).1
   have hz1' := (blk_at N1).2.2
   have hc2 := (blk_at N2).1
   have hz2' := (blk_at N2).2.2
   have HDu := Lib.hid hD
   have HUu := Lib.hid Ou
   have HVu := Lib.hid Ov
   clear hD hS Ou Ov B8 B9 N0 N1 N2
   go_wp2
   refine bodyPost_ret (v := .tuple #[.agg #[.int .i64 n, .slice au st.length capu, .slice av sd.length capv], .agg #[.int .i64 s.sh, .int .i64 s.cu], .bool b, .int .i64 yd12, .agg #[.int .i64 mf.d, .int .i64 mf.t]]) (by simp [results, Tryz.results6, go_sem, hc0, hz0, hc1, hz1', hc2, hz2']) rfl ⟨n, _, _, st, sd, s, b, yd12, mf, rfl, owns_base HUu.out (by omega), owns_base HVu.out (by omega), hu5, hv5, Later.drawn (k := k) (Later.refl w) (by omega) HDu.out⟩
 · refine .cons ?_ (.cons ?_ (.cons ?_ (.cons ?_ (.cons ?_ (.cons ?_ (.cons ?_ (.cons ?_ (.cons ?_ (.cons ?_ (.cons ?_ (.cons ?_ (.cons ?_ (.cons ?_ .nil)))))))))))))
   · refine qst fun g ac wc hn hk hr HI K' hK => ?_
     obtain ⟨xi2, xi3, xi6, xi7, xi8, xi9, xi10, -, -, -, -, -, -, -, -, -, -, -, hD, hS, Ou, Ov, B8, B9, R0, N0, R1, N1, R2, N2, m6_3, m6_4, m6_5, m8_7, m9_0, m10_1, m11_2, m12_6, m13_8⟩ := HI.out
     simp [Region.binds] at hr
     have zi8 := sl_get xi8 (by omega)
     obtain ⟨cb, fb, zb⟩ := blk_at B8
     go_simp
     obtain ⟨-, -, -, -, -, -, -, i0, i1, i2, i3, i4, i5, i6, i7, i8, i11, i12, -⟩ := HI.out
     exact hK.out _ _ ⟨qB xi2, qB xi3, qB xi6, qB xi7, qB xi8, qB xi9, qB xi10, qP, (fun h => by rw [put_ne (by decide)]; exact i1 h), (fun h => by rw [put_ne (by decide)]; exact i2 h), (fun h => by rw [put_ne (by decide)]; exact i3 h), (fun h => by rw [put_ne (by decide)]; exact i4 h), (fun h => by rw [put_ne (by decide)]; exact i5 h), (fun h => by rw [put_ne (by decide)]; exact i6 h), (fun h => by rw [put_ne (by decide)]; exact i7 h), (fun h => by rw [put_ne (by decide)]; exact i8 h), (fun h => by rw [put_ne (by decide)]; exact i11 h), (fun h => by rw [put_ne (by decide)]; exact i12 h), hD, hS, Ou, Ov, B8, B9, (fun h => (R0 h)), (fun h => N0 h), (fun h => (R1 h)), (fun h => N1 h), (fun h => (R2 h)), (fun h => N2 h), m6_3, m6_4, m6_5, m8_7, (fun _ => rfl), m10_1, m11_2, m12_6, m13_8⟩
   · refine qst fun g ac wc hn hk hr HI K' hK => ?_
     obtain ⟨xi2, xi3, xi6, xi7, xi8, xi9, xi10, -, -, -, -, -, -, -, -, -, -, -, hD, hS, Ou, Ov, B8, B9, R0, N0, R1, N1, R2, N2, m6_3, m6_4, m6_5, m8_7, m9_0, m10_1, m11_2, m12_6, m13_8⟩ := HI.out
     simp [Region.binds] at hr
     have zi9 := sl_get xi9 (by omega)
     obtain ⟨cb, fb, zb⟩ := blk_at B9
     go_simp
     obtain ⟨-, -, -, -, -, -, -, i0, i1, i2, i3, i4, i5, i6, i7, i8, i11, i12, -⟩ := HI.out
     exact hK.out _ _ ⟨qB xi2, qB xi3, qB xi6, qB xi7, qB xi8, qB xi9, qB xi10, (fun h => by rw [put_ne (by decide)]; exact i0 h), qP, (fun h => by rw [put_ne (by decide)]; exact i2 h), (fun h => by rw [put_ne (by decide)]; exact i3 h), (fun h => by rw [put_ne (by decide)]; exact i4 h), (fun h => by rw [put_ne (by decide)]; exact i5 h), (fun h => by rw [put_ne (by decide)]; exact i6 h), (fun h => by rw [put_ne (by decide)]; exact i7 h), (fun h => by rw [put_ne (by decide)]; exact i8 h), (fun h => by rw [put_ne (by decide)]; exact i11 h), (fun h => by rw [put_ne (by decide)]; exact i12 h), hD, hS, Ou, Ov, B8, B9, (fun h => (R0 h)), (fun h => N0 h), (fun h => (R1 h)), (fun h => N1 h), (fun h => (R2 h)), (fun h => N2 h), m6_3, m6_4, m6_5, m8_7, m9_0, (fun _ => rfl), m11_2, m12_6, m13_8⟩
   · refine qst fun g ac wc hn hk hr HI K' hK => ?_
     obtain ⟨xi2, xi3, xi6, xi7, xi8, xi9, xi10, -, -, -, -, -, -, -, -, -, -, -, hD, hS, Ou, Ov, B8, B9, R0, N0, R1, N1, R2, N2, m6_3, m6_4, m6_5, m8_7, m9_0, m10_1, m11_2, m12_6, m13_8⟩ := HI.out
     simp [Region.binds] at hr
     have zi10 := sl_get xi10 (by omega)
     go_simp
     obtain ⟨-, -, -, -, -, -, -, i0, i1, i2, i3, i4, i5, i6, i7, i8, i11, i12, -⟩ := HI.out
     exact hK.out _ _ ⟨qB xi2, qB xi3, qB xi6, qB xi7, qB xi8, qB xi9, qB xi10, (fun h => by rw [put_ne (by decide)]; exact i0 h), (fun h => by rw [put_ne (by decide)]; exact i1 h), qP, (fun h => by rw [put_ne (by decide)]; exact i3 h), (fun h => by rw [put_ne (by decide)]; exact i4 h), (fun h => by rw [put_ne (by decide)]; exact i5 h), (fun h => by rw [put_ne (by decide)]; exact i6 h), (fun h => by rw [put_ne (by decide)]; exact i7 h), (fun h => by rw [put_ne (by decide)]; exact i8 h), (fun h => absurd (m11_2 h) (by rw [hk]; simp)), (fun h => by rw [put_ne (by decide)]; exact i12 h), hD, hS, Ou, Ov, B8, B9, (fun h => (R0 h)), (fun h => N0 h), (fun h => (R1 h)), (fun h => N1 h), (fun h => (R2 h)), (fun h => N2 h), m6_3, m6_4, m6_5, m8_7, m9_0, m10_1, (fun _ => rfl), m12_6, m13_8⟩
   · refine qst fun g ac wc hn hk hr HI K' hK => ?_
     obtain ⟨xi2, xi3, xi6, xi7, xi8, xi9, xi10, -, -, -, -, -, -, -, -, -, -, -, hD, hS, Ou, Ov, B8, B9, R0, N0, R1, N1, R2, N2, m6_3, m6_4, m6_5, m8_7, m9_0, m10_1, m11_2, m12_6, m13_8⟩ := HI.out
     simp [Region.binds] at hr
     have zi7 := sl_get xi7 (by omega)
     go_simp
     obtain ⟨-, -, -, -, -, -, -, i0, i1, i2, i3, i4, i5, i6, i7, i8, i11, i12, -⟩ := HI.out
     exact hK.out _ _ ⟨qB xi2, qB xi3, qB xi6, qB xi7, qB xi8, qB xi9, qB xi10, (fun h => by rw [put_ne (by decide)]; exact i0 h), (fun h => by rw [put_ne (by decide)]; exact i1 h), (fun h => by rw [put_ne (by decide)]; exact i2 h), qP, (fun h => by rw [put_ne (by decide)]; exact i4 h), (fun h => by rw [put_ne (by decide)]; exact i5 h), (fun h => absurd (m6_3 h) (by rw [hk]; simp)), (fun h => by rw [put_ne (by decide)]; exact i7 h), (fun h => by rw [put_ne (by decide)]; exact i8 h), (fun h => by rw [put_ne (by decide)]; exact i11 h), (fun h => by rw [put_ne (by decide)]; exact i12 h), hD, hS, Ou, Ov, B8, B9, (fun h => (R0 h)), (fun h => N0 h), (fun h => (R1 h)), (fun h => N1 h), (fun h => (R2 h)), (fun h => N2 h), (fun _ => rfl), m6_4, m6_5, m8_7, m9_0, m10_1, m11_2, m12_6, m13_8⟩
   · refine qst fun g ac wc hn hk hr HI K' hK => ?_
     obtain ⟨xi2, xi3, xi6, xi7, xi8, xi9, xi10, -, -, -, -, -, -, -, -, -, -, -, hD, hS, Ou, Ov, B8, B9, R0, N0, R1, N1, R2, N2, m6_3, m6_4, m6_5, m8_7, m9_0, m10_1, m11_2, m12_6, m13_8⟩ := HI.out
     simp [Region.binds] at hr
     have zi8 := sl_get xi8 (by omega)
     obtain ⟨cb, fb, zb⟩ := blk_at B8
     go_simp
     obtain ⟨-, -, -, -, -, -, -, i0, i1, i2, i3, i4, i5, i6, i7, i8, i11, i12, -⟩ := HI.out
     exact hK.out _ _ ⟨qB xi2, qB xi3, qB xi6, qB xi7, qB xi8, qB xi9, qB xi10, (fun h => by rw [put_ne (by decide)]; exact i0 h), (fun h => by rw [put_ne (by decide)]; exact i1 h), (fun h => by rw [put_ne (by decide)]; exact i2 h), (fun h => by rw [put_ne (by decide)]; exact i3 h), qP, (fun h => by rw [put_ne (by decide)]; exact i5 h), (fun h => absurd (m6_4 h) (by rw [hk]; simp)), (fun h => by rw [put_ne (by decide)]; exact i7 h), (fun h => by rw [put_ne (by decide)]; exact i8 h), (fun h => by rw [put_ne (by decide)]; exact i11 h), (fun h => by rw [put_ne (by decide)]; exact i12 h), hD, hS, Ou, Ov, B8, B9, (fun h => (R0 h)), (fun h => N0 h), (fun h => (R1 h)), (fun h => N1 h), (fun h => (R2 h)), (fun h => N2 h), m6_3, (fun _ => rfl), m6_5, m8_7, m9_0, m10_1, m11_2, m12_6, m13_8⟩
   · refine qst fun g ac wc hn hk hr HI K' hK => ?_
     obtain ⟨xi2, xi3, xi6, xi7, xi8, xi9, xi10, -, -, -, -, -, -, -, -, -, -, -, hD, hS, Ou, Ov, B8, B9, R0, N0, R1, N1, R2, N2, m6_3, m6_4, m6_5, m8_7, m9_0, m10_1, m11_2, m12_6, m13_8⟩ := HI.out
     simp [Region.binds] at hr
     have zi10 := sl_get xi10 (by omega)
     go_simp
     obtain ⟨-, -, -, -, -, -, -, i0, i1, i2, i3, i4, i5, i6, i7, i8, i11, i12, -⟩ := HI.out
     exact hK.out _ _ ⟨qB xi2, qB xi3, qB xi6, qB xi7, qB xi8, qB xi9, qB xi10, (fun h => by rw [put_ne (by decide)]; exact i0 h), (fun h => by rw [put_ne (by decide)]; exact i1 h), (fun h => by rw [put_ne (by decide)]; exact i2 h), (fun h => by rw [put_ne (by decide)]; exact i3 h), (fun h => by rw [put_ne (by decide)]; exact i4 h), qP, (fun h => absurd (m6_5 h) (by rw [hk]; simp)), (fun h => by rw [put_ne (by decide)]; exact i7 h), (fun h => by rw [put_ne (by decide)]; exact i8 h), (fun h => by rw [put_ne (by decide)]; exact i11 h), (fun h => by rw [put_ne (by decide)]; exact i12 h), hD, hS, Ou, Ov, B8, B9, (fun h => (R0 h)), (fun h => N0 h), (fun h => (R1 h)), (fun h => N1 h), (fun h => (R2 h)), (fun h => N2 h), m6_3, m6_4, (fun _ => rfl), m8_7, m9_0, m10_1, m11_2, m12_6, m13_8⟩
   · refine qst fun g ac wc hn hk hr HI K' hK => ?_
     obtain ⟨xi2, xi3, xi6, xi7, xi8, xi9, xi10, -, -, -, i3, i4, i5, -, -, -, -, -, hD, hS, Ou, Ov, B8, B9, R0, N0, R1, N1, R2, N2, m6_3, m6_4, m6_5, m8_7, m9_0, m10_1, m11_2, m12_6, m13_8⟩ := HI.out
     simp [Region.binds] at hr
     have g3 : g 3 = true := (by simp [hr])
     obtain y3 := i3 g3
     have z3 := sl_get y3 (by omega)
     have g4 : g 4 = true := (by simp [hr])
     obtain y4 := i4 g4
     have z4 := sl_get y4 (by omega)
     have g5 : g 5 = true := (by simp [hr])
     obtain y5 := i5 g5
     have z5 := sl_get y5 (by omega)
     clear i3 i4 i5
     go_simp
     refine (w_l11DrawOn k c n _ _ st sd b _ hS (reads_of_owns Ou (by omega)) (reads_of_owns Ov (by omega)) (allIn_own Ou (by omega)) (allIn_own Ov (by omega))).mono ?_
     rintro e w4 ⟨y, rfl, hD4, hS4⟩
     obtain ⟨-, -, -, -, -, -, -, i0, i1, i2, i3, i4, i5, i6, i7, i8, i11, i12, -⟩ := HI.out
     exact hK.out _ _ ⟨qB xi2, qB xi3, qB xi6, qB xi7, qB xi8, qB xi9, qB xi10, (fun h => by rw [put_ne (by decide)]; exact i0 h), (fun h => by rw [put_ne (by decide)]; exact i1 h), (fun h => by rw [put_ne (by decide)]; exact i2 h), (fun h => by rw [put_ne (by decide)]; exact i3 h), (fun h => by rw [put_ne (by decide)]; exact i4 h), (fun h => by rw [put_ne (by decide)]; exact i5 h), (fun _ => ⟨_, put_eq (by omega)⟩), (fun h => by rw [put_ne (by decide)]; exact i7 h), (fun h => by rw [put_ne (by decide)]; exact i8 h), (fun h => by rw [put_ne (by decide)]; exact i11 h), (fun h => absurd (m12_6 h) (by rw [hk]; simp)), (hD.trans hD4), hS4, (hD4.owns Ou (by omega)), (hD4.owns Ov (by omega)), (hD4.keep B8 (by omega)), (hD4.keep B9 (by omega)), (fun h => (hD4.keep (R0 h) (by omega))), (fun h => (hD4.keep (N0 h) (by omega))), (fun h => (hD4.keep (R1 h) (by omega))), (fun h => (hD4.keep (N1 h) (by omega))), (fun h => (hD4.keep (R2 h) (by omega))), (fun h => by obtain ⟨q0, qq⟩ := N2 h; exact ⟨q0, (hD4.keep qq (by omega))⟩), (fun _ => g3), (fun _ => g4), (fun _ => g5), m8_7, m9_0, m10_1, m11_2, (fun _ => rfl), m13_8⟩
   · refine qst fun g ac wc hn hk hr HI K' hK => ?_
     obtain ⟨xi2, xi3, xi6, xi7, xi8, xi9, xi10, -, -, -, -, -, -, -, -, -, -, -, hD, hS, Ou, Ov, B8, B9, R0, N0, R1, N1, R2, N2, m6_3, m6_4, m6_5, m8_7, m9_0, m10_1, m11_2, m12_6, m13_8⟩ := HI.out
     simp [Region.binds] at hr
     have zi7 := sl_get xi7 (by omega)
     go_simp
     obtain ⟨-, -, -, -, -, -, -, i0, i1, i2, i3, i4, i5, i6, i7, i8, i11, i12, -⟩ := HI.out
     exact hK.out _ _ ⟨qB xi2, qB xi3, qB xi6, qB xi7, qB xi8, qB xi9, qB xi10, (fun h => by rw [put_ne (by decide)]; exact i0 h), (fun h => by rw [put_ne (by decide)]; exact i1 h), (fun h => by rw [put_ne (by decide)]; exact i2 h), (fun h => by rw [put_ne (by decide)]; exact i3 h), (fun h => by rw [put_ne (by decide)]; exact i4 h), (fun h => by rw [put_ne (by decide)]; exact i5 h), (fun h => by rw [put_ne (by decide)]; exact i6 h), qP, (fun h => absurd (m8_7 h) (by rw [hk]; simp)), (fun h => by rw [put_ne (by decide)]; exact i11 h), (fun h => by rw [put_ne (by decide)]; exact i12 h), hD, hS, Ou, Ov, B8, B9, (fun h => (R0 h)), (fun h => N0 h), (fun h => (R1 h)), (fun h => N1 h), (fun h => (R2 h)), (fun h => N2 h), m6_3, m6_4, m6_5, (fun _ => rfl), m9_0, m10_1, m11_2, m12_6, m13_8⟩
   · refine qst fun g ac wc hn hk hr HI K' hK => ?_
     obtain ⟨xi2, xi3, xi6, xi7, xi8, xi9, xi10, -, -, -, -, -, -, -, i7, -, -, -, hD, hS, Ou, Ov, B8, B9, R0, N0, R1, N1, R2, N2, m6_3, m6_4, m6_5, m8_7, m9_0, m10_1, m11_2, m12_6, m13_8⟩ := HI.out
     simp [Region.binds] at hr
     have g7 : g 7 = true := (by simp [hr])
     obtain y7 := i7 g7
     have z7 := sl_get y7 (by omega)
     clear i7
     go_simp
     refine (w_l02Draw k c _ hS).mono ?_
     rintro e w4 ⟨f, rfl, hD4, hS4⟩
     obtain ⟨-, -, -, -, -, -, -, i0, i1, i2, i3, i4, i5, i6, i7, i8, i11, i12, -⟩ := HI.out
     exact hK.out _ _ ⟨qB xi2, qB xi3, qB xi6, qB xi7, qB xi8, qB xi9, qB xi10, (fun h => by rw [put_ne (by decide)]; exact i0 h), (fun h => by rw [put_ne (by decide)]; exact i1 h), (fun h => by rw [put_ne (by decide)]; exact i2 h), (fun h => by rw [put_ne (by decide)]; exact i3 h), (fun h => by rw [put_ne (by decide)]; exact i4 h), (fun h => by rw [put_ne (by decide)]; exact i5 h), (fun h => by rw [put_ne (by decide)]; exact i6 h), (fun h => by rw [put_ne (by decide)]; exact i7 h), (fun _ => ⟨_, put_eq (by omega)⟩), (fun h => by rw [put_ne (by decide)]; exact i11 h), (fun h => by rw [put_ne (by decide)]; exact i12 h), (hD.trans hD4), hS4, (hD4.owns Ou (by omega)), (hD4.owns Ov (by omega)), (hD4.keep B8 (by omega)), (hD4.keep B9 (by omega)), (fun h => (hD4.keep (R0 h) (by omega))), (fun h => (hD4.keep (N0 h) (by omega))), (fun h => (hD4.keep (R1 h) (by omega))), (fun h => (hD4.keep (N1 h) (by omega))), (fun h => (hD4.keep (R2 h) (by omega))), (fun h => absurd (m13_8 h) (by rw [hk]; simp)), m6_3, m6_4, m6_5, (fun _ => g7), m9_0, m10_1, m11_2, m12_6, (fun _ => rfl)⟩
   · refine qst fun g ac wc hn hk hr HI K' hK => ?_
     obtain ⟨xi2, xi3, xi6, xi7, xi8, xi9, xi10, i0, -, -, -, -, -, -, -, -, -, -, hD, hS, Ou, Ov, B8, B9, R0, N0, R1, N1, R2, N2, m6_3, m6_4, m6_5, m8_7, m9_0, m10_1, m11_2, m12_6, m13_8⟩ := HI.out
     simp [Region.binds] at hr
     have g0 : g 0 = true := (by simp [hr])
     obtain y0 := i0 g0
     have z0 := sl_get y0 (by omega)
     have zi2 := sl_get xi2 (by omega)
     have hst := hk
     have hbb := blk_at (R0 hst)
     have cb := hbb.1
     have fb := hbb.2.1
     have zb := hbb.2.2
     clear hbb
     clear i0
     go_simp
     obtain ⟨-, -, -, -, -, -, -, i0, i1, i2, i3, i4, i5, i6, i7, i8, i11, i12, -⟩ := HI.out
     exact hK.out undef _ ⟨xi2, xi3, xi6, xi7, xi8, xi9, xi10, (fun h => i0 h), (fun h => i1 h), (fun h => i2 h), (fun h => i3 h), (fun h => i4 h), (fun h => i5 h), (fun h => i6 h), (fun h => i7 h), (fun h => i8 h), (fun h => i11 h), (fun h => i12 h), (((hD.setCell (by omega) _ _).setCell (by omega) _ _).setCell (by omega) _ _), (((hS.setLow (hAc.mono fun b hb => by omega) (by omega) _ _).setLow (hAc.mono fun b hb => by omega) (by omega) _ _).setLow (hAc.mono fun b hb => by omega) (by omega) _ _), (owns_setNe (owns_setNe (owns_setNe Ou (by assumption) _ _) (by assumption) _ _) (by assumption) _ _), (owns_setNe (owns_setNe (owns_setNe Ov (by assumption) _ _) (by assumption) _ _) (by assumption) _ _), (other_set (other_set (other_set B8 (by omega) _) (by omega) _) (by omega) _), (other_set (other_set (other_set B9 (by omega) _) (by omega) _) (by omega) _), (fun h => absurd h (by simp)), (fun _ => st_2_3 (st_1_3 (st_0_3 (R0 hk) _) _) _), (fun h => (other_set (other_set (other_set (R1 h) (by omega) _) (by omega) _) (by omega) _)), (fun h => (other_set (other_set (other_set (N1 h) (by omega) _) (by omega) _) (by omega) _)), (fun h => (other_set (other_set (other_set (R2 h) (by omega) _) (by omega) _) (by omega) _)), (fun h => by obtain ⟨q0, qq⟩ := N2 h; exact ⟨q0, (other_set (other_set (other_set qq (by omega) _) (by omega) _) (by omega) _)⟩), m6_3, m6_4, m6_5, m8_7, (fun _ => g0), m10_1, m11_2, m12_6, m13_8⟩
   · refine qst fun g ac wc hn hk hr HI K' hK => ?_
     obtain ⟨xi2, xi3, xi6, xi7, xi8, xi9, xi10, -, i1, -, -, -, -, -, -, -, -, -, hD, hS, Ou, Ov, B8, B9, R0, N0, R1, N1, R2, N2, m6_3, m6_4, m6_5, m8_7, m9_0, m10_1, m11_2, m12_6, m13_8⟩ := HI.out
     simp [Region.binds] at hr
     have g1 : g 1 = true := (by simp [hr])
     obtain y1 := i1 g1
     have z1 := sl_get y1 (by omega)
     have zi3 := sl_get xi3 (by omega)
     have hst := hk
     have hbb := blk_at (R1 hst)
     have cb := hbb.1
     have fb := hbb.2.1
     have zb := hbb.2.2
     clear hbb
     clear i1
     go_simp
     obtain ⟨-, -, -, -, -, -, -, i0, i1, i2, i3, i4, i5, i6, i7, i8, i11, i12, -⟩ := HI.out
     exact hK.out undef _ ⟨xi2, xi3, xi6, xi7, xi8, xi9, xi10, (fun h => i0 h), (fun h => i1 h), (fun h => i2 h), (fun h => i3 h), (fun h => i4 h), (fun h => i5 h), (fun h => i6 h), (fun h => i7 h), (fun h => i8 h), (fun h => i11 h), (fun h => i12 h), ((hD.setCell (by omega) _ _).setCell (by omega) _ _), ((hS.setLow (hAc.mono fun b hb => by omega) (by omega) _ _).setLow (hAc.mono fun b hb => by omega) (by omega) _ _), (owns_setNe (owns_setNe Ou (by assumption) _ _) (by assumption) _ _), (owns_setNe (owns_setNe Ov (by assumption) _ _) (by assumption) _ _), (other_set (other_set B8 (by omega) _) (by omega) _), (other_set (other_set B9 (by omega) _) (by omega) _), (fun h => (other_set (other_set (R0 h) (by omega) _) (by omega) _)), (fun h => (other_set (other_set (N0 h) (by omega) _) (by omega) _)), (fun h => absurd h (by simp)), (fun _ => st_1_2 (st_0_2 (R1 hk) _) _), (fun h => (other_set (other_set (R2 h) (by omega) _) (by omega) _)), (fun h => by obtain ⟨q0, qq⟩ := N2 h; exact ⟨q0, (other_set (other_set qq (by omega) _) (by omega) _)⟩), m6_3, m6_4, m6_5, m8_7, m9_0, (fun _ => g1), m11_2, m12_6, m13_8⟩
   · refine qst fun g ac wc hn hk hr HI K' hK => ?_
     obtain ⟨xi2, xi3, xi6, xi7, xi8, xi9, xi10, -, -, i2, -, -, -, -, -, -, -, -, hD, hS, Ou, Ov, B8, B9, R0, N0, R1, N1, R2, N2, m6_3, m6_4, m6_5, m8_7, m9_0, m10_1, m11_2, m12_6, m13_8⟩ := HI.out
     simp [Region.binds] at hr
     have g2 : g 2 = true := (by simp [hr])
     obtain y2 := i2 g2
     have z2 := sl_get y2 (by omega)
     clear i2
     go_simp
     obtain ⟨-, -, -, -, -, -, -, i0, i1, i2, i3, i4, i5, i6, i7, i8, i11, i12, -⟩ := HI.out
     exact hK.out _ _ ⟨qB xi2, qB xi3, qB xi6, qB xi7, qB xi8, qB xi9, qB xi10, (fun h => by rw [put_ne (by decide)]; exact i0 h), (fun h => by rw [put_ne (by decide)]; exact i1 h), (fun h => by rw [put_ne (by decide)]; exact i2 h), (fun h => by rw [put_ne (by decide)]; exact i3 h), (fun h => by rw [put_ne (by decide)]; exact i4 h), (fun h => by rw [put_ne (by decide)]; exact i5 h), (fun h => by rw [put_ne (by decide)]; exact i6 h), (fun h => by rw [put_ne (by decide)]; exact i7 h), (fun h => by rw [put_ne (by decide)]; exact i8 h), qP, (fun h => by rw [put_ne (by decide)]; exact i12 h), hD, hS, Ou, Ov, B8, B9, (fun h => (R0 h)), (fun h => N0 h), (fun h => (R1 h)), (fun h => N1 h), (fun h => (R2 h)), (fun h => N2 h), m6_3, m6_4, m6_5, m8_7, m9_0, m10_1, (fun _ => g2), m12_6, m13_8⟩
   · refine qst fun g ac wc hn hk hr HI K' hK => ?_
     obtain ⟨xi2, xi3, xi6, xi7, xi8, xi9, xi10, -, -, -, -, -, -, i6, -, -, -, -, hD, hS, Ou, Ov, B8, B9, R0, N0, R1, N1, R2, N2, m6_3, m6_4, m6_5, m8_7, m9_0, m10_1, m11_2, m12_6, m13_8⟩ := HI.out
     simp [Region.binds] at hr
     have g6 : g 6 = true := (by simp [hr])
     obtain ⟨y6, y6⟩ := i6 g6
     have z6 := sl_get y6 (by omega)
     clear i6
     go_simp
     obtain ⟨-, -, -, -, -, -, -, i0, i1, i2, i3, i4, i5, i6, i7, i8, i11, i12, -⟩ := HI.out
     exact hK.out _ _ ⟨qB xi2, qB xi3, qB xi6, qB xi7, qB xi8, qB xi9, qB xi10, (fun h => by rw [put_ne (by decide)]; exact i0 h), (fun h => by rw [put_ne (by decide)]; exact i1 h), (fun h => by rw [put_ne (by decide)]; exact i2 h), (fun h => by rw [put_ne (by decide)]; exact i3 h), (fun h => by rw [put_ne (by decide)]; exact i4 h), (fun h => by rw [put_ne (by decide)]; exact i5 h), (fun h => by rw [put_ne (by decide)]; exact i6 h), (fun h => by rw [put_ne (by decide)]; exact i7 h), (fun h => by rw [put_ne (by decide)]; exact i8 h), (fun h => by rw [put_ne (by decide)]; exact i11 h), (fun _ => ⟨_, put_eq (by omega)⟩), hD, hS, Ou, Ov, B8, B9, (fun h => (R0 h)), (fun h => N0 h), (fun h => (R1 h)), (fun h => N1 h), (fun h => (R2 h)), (fun h => N2 h), m6_3, m6_4, m6_5, m8_7, m9_0, m10_1, m11_2, (fun _ => g6), m13_8⟩
   · refine qst fun g ac wc hn hk hr HI K' hK => ?_
     obtain ⟨xi2, xi3, xi6, xi7, xi8, xi9, xi10, -, -, -, -, -, -, -, -, i8, -, -, hD, hS, Ou, Ov, B8, B9, R0, N0, R1, N1, R2, N2, m6_3, m6_4, m6_5, m8_7, m9_0, m10_1, m11_2, m12_6, m13_8⟩ := HI.out
     simp [Region.binds] at hr
     have g8 : g 8 = true := (by simp [hr])
     obtain ⟨f8, y8⟩ := i8 g8
     have z8 := sl_get y8 (by omega)
     have zi6 := sl_get xi6 (by omega)
     have hst := hk
     have hbb := blk_at (R2 hst)
     have cb := hbb.1
     have fb := hbb.2.1
     have zb := hbb.2.2
     clear hbb
     clear i8
     go_simp
     obtain ⟨-, -, -, -, -, -, -, i0, i1, i2, i3, i4, i5, i6, i7, i8, i11, i12, -⟩ := HI.out
     exact hK.out undef _ ⟨xi2, xi3, xi6, xi7, xi8, xi9, xi10, (fun h => i0 h), (fun h => i1 h), (fun h => i2 h), (fun h => i3 h), (fun h => i4 h), (fun h => i5 h), (fun h => i6 h), (fun h => i7 h), (fun h => i8 h), (fun h => i11 h), (fun h => i12 h), ((hD.setCell (by omega) _ _).setCell (by omega) _ _), ((hS.setLow (hAc.mono fun b hb => by omega) (by omega) _ _).setLow (hAc.mono fun b hb => by omega) (by omega) _ _), (owns_setNe (owns_setNe Ou (by assumption) _ _) (by assumption) _ _), (owns_setNe (owns_setNe Ov (by assumption) _ _) (by assumption) _ _), (other_set (other_set B8 (by omega) _) (by omega) _), (other_set (other_set B9 (by omega) _) (by omega) _), (fun h => (other_set (other_set (R0 h) (by omega) _) (by omega) _)), (fun h => (other_set (other_set (N0 h) (by omega) _) (by omega) _)), (fun h => (other_set (other_set (R1 h) (by omega) _) (by omega) _)), (fun h => (other_set (other_set (N1 h) (by omega) _) (by omega) _)), (fun h => absurd h (by simp)), (fun _ => ⟨_, st_1_2 (st_0_2 (R2 hk) _) _⟩), m6_3, m6_4, m6_5, m8_7, m9_0, m10_1, m11_2, m12_6, (fun _ => g8)⟩
end Go.Proofs.YtgngbdacejghcaaGreatDoor
