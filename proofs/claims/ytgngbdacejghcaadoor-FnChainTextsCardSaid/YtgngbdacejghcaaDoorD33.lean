/- DERIVED. Walks: chains read from text. -/
import Derived.Test.YtgngbdacejghcaaDoorD19
import Derived.Test.YtgngbdacejghcaaDoorD32
import Derived.Test.YtgngbdacejghcaaDoorM3
namespace Go.Proofs.YtgngbdacejghcaaDoor
set_option linter.unusedVariables false
set_option linter.unusedSimpArgs false
open Go.RowKit
set_option maxRecDepth 100000
set_option linter.unusedVariables false

theorem any_cases : ∀ s : List UInt8, (Lib.indexAny s [42, 47] = -1 ∧ ∀ (k : Nat) c, s[k]? = some c → isSep c = false) ∨ (∃ (k : Nat) (c : UInt8), Lib.indexAny s [42, 47] = (k : Int) ∧ s[k]? = some c ∧ isSep c = true ∧ ∀ (j : Nat) x, j < k → s[j]? = some x → isSep x = false)
  | [] => .inl ⟨rfl, fun k c h => by simp at h⟩
  | b :: l => by
    rw [Lib.indexAny, contains_sep]
    cases hb : isSep b with
    | true => exact .inr ⟨0, b, by simp, rfl, hb, fun j x h => absurd h (by omega)⟩
    | false =>
      rcases any_cases l with ⟨h1, h2⟩ | ⟨k, c, h1, h2, h3, h4⟩
      · refine .inl ⟨by rw [h1]; simp, fun k c h => ?_⟩
        cases k with
        | zero => simp at h; rw [← h]; exact hb
        | succ k => exact h2 k c (by simpa using h)
      · refine .inr ⟨k + 1, c, by rw [h1]; simp [show ¬ ((k : Int) = -1) by omega], by simpa using h2, h3, fun j x hj h => ?_⟩
        cases j with
        | zero => simp at h; rw [← h]; exact hb
        | succ j => exact h4 j x (by omega) (by simpa using h)
theorem rdF_len {s : List UInt8} {f : Fig} (h : rdF s = some f) : 7 ≤ s.length := by
  apply Classical.byContradiction
  intro hn
  rw [rdF_short (by omega)] at h
  cases h
theorem rf_code {s : List UInt8} {c : Int} (h : rfC s = c) : (c ≠ 0 → rdF s = none) ∧ (c = 0 → rdF s = some (rfF s)) := by
  cases hr : rdF s with
  | none => rw [(rf_no hr).2.2] at h; exact ⟨fun _ => rfl, fun e => by omega⟩
  | some f => rw [(rf_yes hr).2.2] at h; exact ⟨fun e => absurd h.symm e, fun _ => by rw [(rf_yes hr).1]⟩
theorem rf_bool {s : List UInt8} {b : Bool} (h : rfB s = b) : (b = false → rdF s = none) ∧ (b = true → rdF s = some (rfF s)) := by
  cases hr : rdF s with
  | none => rw [(rf_no hr).2.1] at h; subst h; exact ⟨fun _ => rfl, fun e => (by cases e)⟩
  | some f => rw [(rf_yes hr).2.1] at h; subst h; exact ⟨fun e => (by cases e), fun _ => by rw [(rf_yes hr).1]⟩
/-- What both readings of chains hand back. -/
def RcOut (s : List UInt8) (w : World) (e : Ending) (w' : World) : Prop := ∃ v, e = .returned (.tuple #[v, .int .i64 (rcC s)]) ∧ Later w w' ∧ w'.ownsRow w.heap.size 60 3 v (rcV s).length (trms (rcV s))
theorem rc_bad {s : List UInt8} {w w' : World} (h : rdC s = none) (hL : Later w w') : RcOut s w (.returned (.tuple #[.slice none 0 0, .int .i64 6])) w' := by
  obtain ⟨e1, e2⟩ := rc_no h
  unfold RcOut
  rw [e1, e2]
  exact ⟨_, rfl, hL, World.ownsRow_nil _ _ _ _⟩
theorem rc_good {s : List UInt8} {L : List Trm} {v : Value} {w w' : World} (h : rdC s = some L) (hL : Later w w') (ho : w'.ownsRow w.heap.size 60 3 v L.length (trms L)) : RcOut s w (.returned (.tuple #[v, .int .i64 0])) w' := by
  obtain ⟨e1, e2⟩ := rc_yes h
  unfold RcOut
  rw [e1, e2]
  exact ⟨_, rfl, hL, ho⟩
/-- How far the reading of a chain has come: the terms read, what is left. -/
structure Tok (s : List UInt8) (L : List Trm) (d : Bool) (x : List UInt8) : Prop where
  eq : tok false s = toks L ++ tok d x
  fig : ∀ t ∈ L, isFig t.f = true
  len : 8 * L.length + x.length ≤ s.length
theorem Tok.start (s : List UInt8) : Tok s [] false s := ⟨rfl, fun t h => (by cases h), by simp⟩
theorem Tok.bad {s x y : List UInt8} {L : List Trm} {d : Bool} {t : List (List UInt8 × Bool)} (h : Tok s L d x) (hy : tok d x = (y, d) :: t) (hr : rdF y = none) : rdC s = none := rdC_bad h.eq hy hr
theorem Tok.step {s x : List UInt8} {L : List Trm} {d : Bool} {k : Nat} {c : UInt8} {f : Fig} (h : Tok s L d x) (hk : x[k]? = some c) (hc : isSep c = true) (hn : ∀ (j : Nat) z, j < k → x[j]? = some z → isSep z = false) (hr : rdF (x.take k) = some f) :
    Tok s (L ++ [⟨f, d⟩]) (c == 47) (x.drop (k + 1)) := by
  obtain ⟨h1, h2⟩ := rdF_is hr
  have h3 := rdF_len hr
  have hk2 := (List.getElem?_eq_some_iff.1 hk).1
  refine ⟨?_, ?_, ?_⟩
  · rw [h.eq, tok_hit hk hc hn, toks_snoc, h2]
    simp
  · intro t ht
    rcases List.mem_append.1 ht with ht | ht
    · exact h.fig t ht
    · simp at ht; rw [ht]; exact h1
  · have := h.len
    simp at h3 ⊢
    omega
theorem Tok.stop {s x : List UInt8} {L : List Trm} {d : Bool} {f : Fig} (h : Tok s L d x) (hn : ∀ (j : Nat) z, x[j]? = some z → isSep z = false) (hr : rdF x = some f) :
    (isChain (L ++ [⟨f, d⟩]) = true → rdC s = some (L ++ [⟨f, d⟩])) ∧ (isChain (L ++ [⟨f, d⟩]) = false → rdC s = none) := by
  obtain ⟨h1, h2⟩ := rdF_is hr
  refine rdC_all ?_ ?_
  · rw [h.eq, tok_miss hn, toks_snoc, h2]
  · intro t ht
    rcases List.mem_append.1 ht with ht | ht
    · exact h.fig t ht
    · simp at ht; rw [ht]; exact h1

set_option maxHeartbeats 4000000 in
theorem w_implReadChain (s : List UInt8) (hs : s.length ≤ 1048576) (w : World) (he : Env w) :
    Calls Tryd.prog 29 #[sv s] w fun e w' => RcOut s w e w' := by
  have HE := Lib.hid he
  clear he
  go_enter Tryd.func29, Tryd.ntmps29
  go_wp2
  go_loopw [0, 4, 5] (fun sx v dx wr => ∃ (x : List UInt8) (L : List Trm) (d : Bool), sx = sv x ∧ dx = .bool d ∧ Tok s L d x ∧ wr.ownsRow w.heap.size 60 3 v L.length (trms L) ∧ Later w wr) (fun sx _ _ _ => match sx with | .string b => b.size | _ => 0)
  case atStart => exact ⟨s, [], false, rfl, rfl, Tok.start s, own_empty (Nat.le_refl _) _ _, (Later.refl w).alloc _⟩
  case round =>
    obtain ⟨x, L, d, rfl, rfl, hT, hO, hL⟩ := hrel
    have hlen := hT.len
    have HT := Lib.hid hT
    have HO := Lib.hid hO
    have HL := Lib.hid hL
    clear hT hO hL
    rcases any_cases x with ⟨h1, h2⟩ | ⟨k, c, h1, h2, h3, h4⟩
    · have HX := Lib.hid h1
      have HN := Lib.hid h2
      clear h1 h2
      obtain ⟨FD, hFD⟩ : ∃ q, (rfF x).d = q := ⟨_, rfl⟩
      obtain ⟨FT, hFT⟩ : ∃ q, (rfF x).t = q := ⟨_, rfl⟩
      obtain ⟨FB, hFB⟩ : ∃ q, rfB x = q := ⟨_, rfl⟩
      have RB := Lib.hid (rf_bool hFB)
      have EF := Lib.hid (show rfF x = ⟨FD, FT⟩ from by rw [← hFD, ← hFT])
      have EFD := Lib.hid hFD
      have EFT := Lib.hid hFT
      have EFB := Lib.hid hFB
      clear hFD hFT hFB
      go_wp2_with fail
      refine (w_IndexAny x (by omega) _).mono ?_
      rintro e w1 ⟨rfl, hL1⟩
      rw [HX.out]
      have HO1 := Lib.hid (owns_later HO.out hL1)
      have HL1 := Lib.hid (HL.out.trans hL1)
      clear hL1
      go_wp2_with fail
      refine (w_readFigure x (by omega) _ (HE.out.later HL1.out)).mono ?_
      rintro e w2 ⟨rfl, hL2⟩
      rw [EFD.out, EFT.out, EFB.out]
      have HO2 := Lib.hid (owns_later HO1.out hL2)
      have HL2 := Lib.hid (HL1.out.trans hL2)
      have hz2 := HL2.out.size
      clear hL2
      cases FB
      · have FIN := Lib.hid (HT.out.bad (tok_miss HN.out) (RB.out.1 rfl))
        go_wp2
        go_ret2
        exact rc_bad FIN.out (by have := HL2.out; (repeat (with_reducible first | exact Later.refl _ | refine Later.alloc ?_ _ | refine Later.drew ?_ | refine Later.drewN ?_ _ | refine Later.setCell ?_ (by simp; try omega) _ | refine Later.trans ?_ (by assumption))))
      · have FIN := Lib.hid (HT.out.stop HN.out (f := ⟨FD, FT⟩) (by rw [RB.out.2 rfl, EF.out]))
        go_wp2_with (at_builtin; refine app1_Term rfl (.tmp 26) (.tmp 30) rfl w.heap.size _ L ⟨⟨FD, FT⟩, d⟩ rfl (World.ownsRow.alloc HO2.out _) (by simp [Act.eval, Array.getD]) (by omega) (by simp; omega) ?_; intro v5 w5 ho5 hg5)
        have hl2 : (L ++ [(⟨⟨FD, FT⟩, d⟩ : Trm)]).length ≤ 1048576 := by simp; omega
        have HL5 := Lib.hid (show Later w w5 from Below.grown (HL2.out.alloc _) hg5 (by simp; omega) (fun j hj => (HO2.out.lt j hj).1))
        obtain ⟨L2, hL2⟩ : ∃ L2 : List Trm, (L ++ [⟨⟨FD, FT⟩, d⟩] : List Trm) = L2 := ⟨_, rfl⟩
        rw [hL2] at ho5 hl2 FIN
        clear hL2 hg5
        refine (w_implIsChain _ L2 _ (reads_of_owns ho5 hl2)).mono ?_
        rintro e w6 ⟨rfl, hL6⟩
        have HO6 := Lib.hid (owns_later ho5 hL6)
        have HL6 := Lib.hid (HL5.out.trans hL6)
        clear hL6 ho5
        obtain ⟨av, cv, rfl⟩ := isSl_of HO6.out
        cases hic : isChain L2
        · have FIN2 := Lib.hid (FIN.out.2 hic)
          clear hic
          go_wp2
          go_ret2
          exact rc_bad FIN2.out HL6.out
        · have FIN2 := Lib.hid (FIN.out.1 hic)
          clear hic
          go_wp2
          go_ret2
          exact rc_good FIN2.out HL6.out HO6.out
    · have hk2 := (List.getElem?_eq_some_iff.1 h2).1
      have hi := idx_at h2
      have HX := Lib.hid h1
      have HC := Lib.hid h2
      have HS := Lib.hid h3
      have HN := Lib.hid h4
      obtain ⟨P, hP⟩ : ∃ P, x.take k = P := ⟨_, rfl⟩
      obtain ⟨R, hR⟩ : ∃ R, x.drop (k + 1) = R := ⟨_, rfl⟩
      have hx1 : (ByteArray.mk x.toArray).extract 0 k = ByteArray.mk P.toArray := by rw [ByteArray.extract_mk, List.drop_zero, Nat.sub_zero, hP]
      have hx2 : (ByteArray.mk x.toArray).extract (k + 1) x.length = ByteArray.mk R.toArray := by rw [ByteArray.extract_mk, List.take_of_length_le (by simp), hR]
      have hPl : P.length ≤ x.length := by rw [← hP]; simp; omega
      have hRl : R.length < x.length := by rw [← hR]; simp; omega
      have wk : IntKind.i64.wrap ((k : Int) + 1) = (k : Int) + 1 := wrapI (by omega) (by omega)
      have hk0 : decide ((0 : Int) ≤ (k : Int)) = true := decide_eq_true (by omega)
      have hk1 : decide ((k : Int) < 0) = false := decide_eq_false (by omega)
      have HP := Lib.hid hP
      have HR := Lib.hid hR
      obtain ⟨cn, hcn⟩ : ∃ n, c.toNat = n := ⟨_, rfl⟩
      have hcb : ((cn : Int) == 47) = (c == 47) := by
        rw [← hcn]
        by_cases e : c = 47
        · subst e; decide
        · have e2 : ¬ c.toNat = 47 := fun q => e (UInt8.toNat_inj.1 q)
          have e3 : (c == 47) = false := by simpa using e
          rw [e3]
          simp
          omega
      obtain ⟨D, hD⟩ : ∃ D, (c == 47) = D := ⟨_, rfl⟩
      rw [hD] at hcb
      have HD := Lib.hid hD
      clear h1 h2 h3 h4 hP hR hD
      obtain ⟨FD, hFD⟩ : ∃ q, (rfF P).d = q := ⟨_, rfl⟩
      obtain ⟨FT, hFT⟩ : ∃ q, (rfF P).t = q := ⟨_, rfl⟩
      obtain ⟨FB, hFB⟩ : ∃ q, rfB P = q := ⟨_, rfl⟩
      have RB := Lib.hid (rf_bool hFB)
      have EF := Lib.hid (show rfF P = ⟨FD, FT⟩ from by rw [← hFD, ← hFT])
      have EFD := Lib.hid hFD
      have EFT := Lib.hid hFT
      have EFB := Lib.hid hFB
      clear hFD hFT hFB
      go_wp2_with fail
      refine (w_IndexAny x (by omega) _).mono ?_
      rintro e w1 ⟨rfl, hL1⟩
      rw [HX.out]
      have HO1 := Lib.hid (owns_later HO.out hL1)
      have HL1 := Lib.hid (HL.out.trans hL1)
      clear hL1
      go_wp2_with fail
      refine (w_readFigure P (by omega) _ (HE.out.later HL1.out)).mono ?_
      rintro e w2 ⟨rfl, hL2⟩
      rw [EFD.out, EFT.out, EFB.out]
      have HO2 := Lib.hid (owns_later HO1.out hL2)
      have HL2 := Lib.hid (HL1.out.trans hL2)
      have hz2 := HL2.out.size
      clear hL2
      cases FB
      · have FIN := Lib.hid (HT.out.bad (tok_hit HC.out HS.out HN.out) (by rw [HP.out]; exact RB.out.1 rfl))
        go_wp2
        go_ret2
        exact rc_bad FIN.out (by have := HL2.out; (repeat (with_reducible first | exact Later.refl _ | refine Later.alloc ?_ _ | refine Later.drew ?_ | refine Later.drewN ?_ _ | refine Later.setCell ?_ (by simp; try omega) _ | refine Later.trans ?_ (by assumption))))
      · have FIN := Lib.hid (HT.out.step HC.out HS.out HN.out (f := ⟨FD, FT⟩) (by rw [HP.out, RB.out.2 rfl, EF.out]))
        go_wp2_with (at_builtin; refine app1_Term rfl (.tmp 26) (.tmp 30) rfl w.heap.size _ L ⟨⟨FD, FT⟩, d⟩ rfl (World.ownsRow.alloc HO2.out _) (by simp [Act.eval, Array.getD]) (by omega) (by simp; omega) ?_; intro v5 w5 ho5 hg5)
        go_roundw
        case rel => exact ⟨R, L ++ [⟨⟨FD, FT⟩, d⟩], D, rfl, rfl, by rw [← HR.out, ← HD.out]; exact FIN.out, ho5, Below.grown (HL2.out.alloc _) hg5 (by simp; omega) (fun j hj => (HO2.out.lt j hj).1)⟩
        case measure =>
          show R.toArray.size < x.toArray.size
          simpa using hRl

theorem sep_iff (c : UInt8) : isSep c = true ↔ (c.toNat = 42 ∨ c.toNat = 47) := by
  unfold isSep
  rw [Bool.or_eq_true, beq_iff_eq, beq_iff_eq]
  constructor
  · rintro (rfl | rfl) <;> decide
  · rintro (h | h)
    · exact .inl (UInt8.toNat_inj.1 h)
    · exact .inr (UInt8.toNat_inj.1 h)
/-- How far the reference's reading has come: behind k bytes, m of them read. -/
structure TokK (s : List UInt8) (L : List Trm) (d : Bool) (m k : Nat) : Prop where
  rest : k ≤ s.length → Tok s L d (s.drop m)
  clean : ∀ (j : Nat) x, m ≤ j → j < k → s[j]? = some x → isSep x = false
  fin : k = s.length + 1 → (isChain L = true → rdC s = some L) ∧ (isChain L = false → rdC s = none)
theorem TokK.start (s : List UInt8) : TokK s [] false 0 0 := ⟨fun _ => Tok.start s, fun j x _ h => absurd h (by omega), fun h => absurd h (by omega)⟩
theorem TokK.skip {s : List UInt8} {L : List Trm} {d : Bool} {m k : Nat} {c : UInt8} (h : TokK s L d m k) (hk : s[k]? = some c) (hc : isSep c = false) : TokK s L d m (k + 1) := by
  have hk2 := (List.getElem?_eq_some_iff.1 hk).1
  refine ⟨fun _ => h.rest (by omega), fun j x h1 h2 h3 => ?_, fun e => absurd e (by omega)⟩
  by_cases hj : j = k
  · subst hj
    rw [hk] at h3
    rw [← Option.some.inj h3]
    exact hc
  · exact h.clean j x h1 (by omega) h3
theorem TokK.no {s : List UInt8} {L : List Trm} {d : Bool} {m k : Nat} (h : TokK s L d m k) (hm : m ≤ k) : ∀ (j : Nat) z, j < k - m → (s.drop m)[j]? = some z → isSep z = false := fun j z hj hz => by
  rw [List.getElem?_drop] at hz
  exact h.clean (m + j) z (by omega) (by omega) hz
theorem TokK.hit {s : List UInt8} {L : List Trm} {d : Bool} {m k : Nat} {c : UInt8} {f : Fig} (h : TokK s L d m k) (hm : m ≤ k) (hk : s[k]? = some c) (hc : isSep c = true) (hr : rdF ((s.drop m).take (k - m)) = some f) : TokK s (L ++ [⟨f, d⟩]) (c == 47) (k + 1) (k + 1) := by
  have hk2 := (List.getElem?_eq_some_iff.1 hk).1
  have h1 := (h.rest (by omega)).step (k := k - m) (c := c) (f := f) (by rw [List.getElem?_drop, show m + (k - m) = k by omega]; exact hk) hc (h.no hm) hr
  rw [List.drop_drop, show m + (k - m + 1) = k + 1 by omega] at h1
  exact ⟨fun _ => h1, fun j x h2 h3 _ => absurd h3 (by omega), fun e => absurd e (by omega)⟩
theorem TokK.hitBad {s : List UInt8} {L : List Trm} {d : Bool} {m k : Nat} {c : UInt8} (h : TokK s L d m k) (hm : m ≤ k) (hk : s[k]? = some c) (hc : isSep c = true) (hr : rdF ((s.drop m).take (k - m)) = none) : rdC s = none := by
  have hk2 := (List.getElem?_eq_some_iff.1 hk).1
  exact (h.rest (by omega)).bad (tok_hit (m := k - m) (c := c) (by rw [List.getElem?_drop, show m + (k - m) = k by omega]; exact hk) hc (h.no hm)) hr
theorem TokK.all {s : List UInt8} {m : Nat} (hm : m ≤ s.length) : (s.drop m).take (s.length - m) = s.drop m := List.take_of_length_le (by simp)
theorem TokK.noEnd {s : List UInt8} {L : List Trm} {d : Bool} {m : Nat} (h : TokK s L d m s.length) (hm : m ≤ s.length) : ∀ (j : Nat) z, (s.drop m)[j]? = some z → isSep z = false := fun j z hz => by
  have hj := (List.getElem?_eq_some_iff.1 hz).1
  simp at hj
  exact h.no hm j z (by omega) hz
theorem TokK.end {s : List UInt8} {L : List Trm} {d : Bool} {m : Nat} {f : Fig} (h : TokK s L d m s.length) (hm : m ≤ s.length) (hr : rdF ((s.drop m).take (s.length - m)) = some f) (d' : Bool) : TokK s (L ++ [⟨f, d⟩]) d' (s.length + 1) (s.length + 1) := by
  rw [TokK.all hm] at hr
  exact ⟨fun e => absurd e (by omega), fun j x h2 h3 _ => absurd h3 (by omega), fun _ => (h.rest (Nat.le_refl _)).stop (h.noEnd hm) hr⟩
theorem TokK.endBad {s : List UInt8} {L : List Trm} {d : Bool} {m : Nat} (h : TokK s L d m s.length) (hm : m ≤ s.length) (hr : rdF ((s.drop m).take (s.length - m)) = none) : rdC s = none := by
  rw [TokK.all hm] at hr
  exact (h.rest (Nat.le_refl _)).bad (tok_miss (h.noEnd hm)) hr

set_option maxHeartbeats 8000000 in
theorem w_specReadChain (s : List UInt8) (hs : s.length ≤ 1048576) (w : World) :
    Calls Tryd.prog 28 #[sv s] w fun e w' => RcOut s w e w' := by
  go_enter Tryd.func28, Tryd.ntmps28
  go_wp2
  go_loopw [4, 5, 6, 7] (fun v dx fx i wr => ∃ (L : List Trm) (d : Bool) (m k : Nat), dx = .bool d ∧ fx = .int .i64 (m : Nat) ∧ i = .int .i64 (k : Nat) ∧ m ≤ k ∧ k ≤ s.length + 1 ∧ 8 * L.length ≤ m ∧ TokK s L d m k ∧ wr.ownsRow w.heap.size 60 3 v L.length (trms L) ∧ Later w wr) (fun _ _ _ i _ => s.length + 1 - (intOf i).toNat)
  case atStart => exact ⟨[], false, 0, 0, rfl, rfl, rfl, by omega, by omega, by simp, TokK.start s, own_empty (Nat.le_refl _) _ _, (Later.refl w).alloc _⟩
  case round =>
    obtain ⟨L, d, m, k, rfl, rfl, rfl, hmk, hkl, h8, hT, hO, hL⟩ := hrel
    have HT := Lib.hid hT
    have HO := Lib.hid hO
    have HL := Lib.hid hL
    clear hT hO hL
    have wi : IntKind.i64.wrap ((k : Int) + 1) = (k : Int) + 1 := wrapI (by omega) (by omega)
    by_cases hle : k ≤ s.length
    rotate_left
    · have hleb : decide ((k : Int) ≤ (s.length : Int)) = false := decide_eq_false (by omega)
      have FIN := Lib.hid (HT.out.fin (by omega))
      go_wp2_with fail
      refine (w_specIsChain _ L _ (reads_of_owns HO.out (by omega))).mono ?_
      rintro e w6 ⟨rfl, hL6⟩
      have HO6 := Lib.hid (owns_later HO.out hL6)
      have HL6 := Lib.hid (HL.out.trans hL6)
      clear hL6
      obtain ⟨av, cv, rfl⟩ := isSl_of HO6.out
      cases hic : isChain L
      · have FIN2 := Lib.hid (FIN.out.2 hic)
        clear hic
        go_wp2
        go_ret2
        exact rc_bad FIN2.out HL6.out
      · have FIN2 := Lib.hid (FIN.out.1 hic)
        clear hic
        go_wp2
        go_ret2
        exact rc_good FIN2.out HL6.out HO6.out
    have hleb : decide ((k : Int) ≤ (s.length : Int)) = true := decide_eq_true (by omega)
    obtain ⟨P, hP⟩ : ∃ P, (s.drop m).take (k - m) = P := ⟨_, rfl⟩
    have hx1 : (ByteArray.mk s.toArray).extract m k = ByteArray.mk P.toArray := by rw [ByteArray.extract_mk, hP]
    have hPl : P.length = k - m := by rw [← hP]; simp; omega
    have HP := Lib.hid hP
    clear hP
    obtain ⟨FD, hFD⟩ : ∃ q, (rfF P).d = q := ⟨_, rfl⟩
    obtain ⟨FT, hFT⟩ : ∃ q, (rfF P).t = q := ⟨_, rfl⟩
    obtain ⟨FC, hFC⟩ : ∃ q, rfC P = q := ⟨_, rfl⟩
    have RB := Lib.hid (rf_code hFC)
    have EF := Lib.hid (show rfF P = ⟨FD, FT⟩ from by rw [← hFD, ← hFT])
    have EFD := Lib.hid hFD
    have EFT := Lib.hid hFT
    have EFC := Lib.hid hFC
    clear hFD hFT hFC
    by_cases hlt : k < s.length
    · have hltb : decide ((k : Int) < (s.length : Int)) = true := decide_eq_true (by omega)
      obtain ⟨c, hc⟩ := get_ex (l := s) (k := k) hlt
      have hi := idx_at hc
      have HC := Lib.hid hc
      clear hc
      obtain ⟨cn, hcn⟩ : ∃ n, c.toNat = n := ⟨_, rfl⟩
      have HCN := Lib.hid hcn
      have HSI := Lib.hid (sep_iff c)
      have n42 : ((cn : Int) != 42) = !(cn == 42) := by
        by_cases e : cn = 42
        · subst e; decide
        · have h1 : (cn == 42) = false := by simpa using e
          rw [h1]; simp; omega
      have n47 : ((cn : Int) != 47) = !(cn == 47) := by
        by_cases e : cn = 47
        · subst e; decide
        · have h1 : (cn == 47) = false := by simpa using e
          rw [h1]; simp; omega
      by_cases hsep : cn = 42 ∨ cn = 47
      rotate_left
      · have e1 : ((cn : Int) != 42) = true := by simp; omega
        have e2 : ((cn : Int) != 47) = true := by simp; omega
        clear n42 n47
        have HS := Lib.hid (show isSep c = false from by
          cases hq : isSep c with
          | false => rfl
          | true => exact absurd (by rw [← HCN.out]; exact HSI.out.1 hq) hsep)
        go_wp2
        go_roundw
        case rel => exact ⟨L, d, m, k + 1, rfl, rfl, by go_num, by omega, by omega, h8, HT.out.skip HC.out HS.out, HO.out, HL.out⟩
        case measure => simp [intOf]; omega
      · clear n42 n47
        have HS := Lib.hid (show isSep c = true from HSI.out.2 (by rw [HCN.out]; exact hsep))
        rcases hsep with hs42 | hs47
        · have e1 : ((cn : Int) != 42) = false := by subst hs42; decide
          have e2 : ((cn : Int) != 47) = true := by subst hs42; decide
          have e4 : ((cn : Int) == 47) = false := by subst hs42; decide
          have HIT := Lib.hid (fun f (hr : rdF ((s.drop m).take (k - m)) = some f) => (show TokK s (L ++ [⟨f, d⟩]) false (k + 1) (k + 1) from by
            have h1 := HT.out.hit (f := f) hmk HC.out HS.out hr
            have h2 : (c == 47) = false := by
              have hn := HCN.out
              rw [hs42] at hn
              rw [show c = 42 from UInt8.toNat_inj.1 hn]
              decide
            rw [h2] at h1
            exact h1))
          go_wp2_with fail
          refine (w_specReadFigure P (by omega) _).mono ?_
          rintro e w2 ⟨rfl, hL2⟩
          rw [EFD.out, EFT.out, EFC.out]
          have HO2 := Lib.hid (owns_later HO.out hL2)
          have HL2 := Lib.hid (HL.out.trans hL2)
          have hz2 := HL2.out.size
          clear hL2
          by_cases hfc : FC = 0
          rotate_left
          · have hfb : (FC != 0) = true := by simpa using hfc
            have FIN := Lib.hid (HT.out.hitBad hmk HC.out HS.out (by rw [HP.out]; exact RB.out.1 hfc))
            go_wp2
            go_ret2
            exact rc_bad FIN.out (by have := HL2.out; (repeat (with_reducible first | exact Later.refl _ | refine Later.alloc ?_ _ | refine Later.drew ?_ | refine Later.drewN ?_ _ | refine Later.setCell ?_ (by simp; try omega) _ | refine Later.trans ?_ (by assumption))))
          · have hfb : (FC != 0) = false := by simpa using hfc
            have h7 : 7 ≤ P.length := rdF_len (RB.out.2 hfc)
            have FIN := Lib.hid (HIT.out ⟨FD, FT⟩ (by rw [HP.out, RB.out.2 hfc, EF.out]))
            go_wp2_with (at_builtin; refine app1_Term rfl (.tmp 43) (.tmp 47) rfl w.heap.size _ L ⟨⟨FD, FT⟩, d⟩ rfl (World.ownsRow.alloc HO2.out _) (by simp [Act.eval, Array.getD]) (by omega) (by simp; omega) ?_; intro v5 w5 ho5 hg5)
            go_roundw
            case rel => exact ⟨L ++ [⟨⟨FD, FT⟩, d⟩], false, k + 1, k + 1, rfl, by go_num, by go_num, by omega, by omega, by simp; omega, FIN.out, ho5, Below.grown (HL2.out.alloc _) hg5 (by simp; omega) (fun j hj => (HO2.out.lt j hj).1)⟩
            case measure => simp [intOf]; omega
        · have e1 : ((cn : Int) != 42) = true := by subst hs47; decide
          have e2 : ((cn : Int) != 47) = false := by subst hs47; decide
          have e4 : ((cn : Int) == 47) = true := by subst hs47; decide
          have HIT := Lib.hid (fun f (hr : rdF ((s.drop m).take (k - m)) = some f) => (show TokK s (L ++ [⟨f, d⟩]) true (k + 1) (k + 1) from by
            have h1 := HT.out.hit (f := f) hmk HC.out HS.out hr
            have h2 : (c == 47) = true := by
              have hn := HCN.out
              rw [hs47] at hn
              rw [show c = 47 from UInt8.toNat_inj.1 hn]
              decide
            rw [h2] at h1
            exact h1))
          go_wp2_with fail
          refine (w_specReadFigure P (by omega) _).mono ?_
          rintro e w2 ⟨rfl, hL2⟩
          rw [EFD.out, EFT.out, EFC.out]
          have HO2 := Lib.hid (owns_later HO.out hL2)
          have HL2 := Lib.hid (HL.out.trans hL2)
          have hz2 := HL2.out.size
          clear hL2
          by_cases hfc : FC = 0
          rotate_left
          · have hfb : (FC != 0) = true := by simpa using hfc
            have FIN := Lib.hid (HT.out.hitBad hmk HC.out HS.out (by rw [HP.out]; exact RB.out.1 hfc))
            go_wp2
            go_ret2
            exact rc_bad FIN.out (by have := HL2.out; (repeat (with_reducible first | exact Later.refl _ | refine Later.alloc ?_ _ | refine Later.drew ?_ | refine Later.drewN ?_ _ | refine Later.setCell ?_ (by simp; try omega) _ | refine Later.trans ?_ (by assumption))))
          · have hfb : (FC != 0) = false := by simpa using hfc
            have h7 : 7 ≤ P.length := rdF_len (RB.out.2 hfc)
            have FIN := Lib.hid (HIT.out ⟨FD, FT⟩ (by rw [HP.out, RB.out.2 hfc, EF.out]))
            go_wp2_with (at_builtin; refine app1_Term rfl (.tmp 43) (.tmp 47) rfl w.heap.size _ L ⟨⟨FD, FT⟩, d⟩ rfl (World.ownsRow.alloc HO2.out _) (by simp [Act.eval, Array.getD]) (by omega) (by simp; omega) ?_; intro v5 w5 ho5 hg5)
            go_roundw
            case rel => exact ⟨L ++ [⟨⟨FD, FT⟩, d⟩], true, k + 1, k + 1, rfl, by go_num, by go_num, by omega, by omega, by simp; omega, FIN.out, ho5, Below.grown (HL2.out.alloc _) hg5 (by simp; omega) (fun j hj => (HO2.out.lt j hj).1)⟩
            case measure => simp [intOf]; omega
    · obtain rfl : k = s.length := by omega
      have hltb : decide ((s.length : Int) < (s.length : Int)) = false := decide_eq_false (by omega)
      go_wp2_with fail
      refine (w_specReadFigure P (by omega) _).mono ?_
      rintro e w2 ⟨rfl, hL2⟩
      rw [EFD.out, EFT.out, EFC.out]
      have HO2 := Lib.hid (owns_later HO.out hL2)
      have HL2 := Lib.hid (HL.out.trans hL2)
      have hz2 := HL2.out.size
      clear hL2
      by_cases hfc : FC = 0
      rotate_left
      · have hfb : (FC != 0) = true := by simpa using hfc
        have FIN := Lib.hid (HT.out.endBad hmk (by rw [HP.out]; exact RB.out.1 hfc))
        go_wp2
        go_ret2
        exact rc_bad FIN.out (by have := HL2.out; (repeat (with_reducible first | exact Later.refl _ | refine Later.alloc ?_ _ | refine Later.drew ?_ | refine Later.drewN ?_ _ | refine Later.setCell ?_ (by simp; try omega) _ | refine Later.trans ?_ (by assumption))))
      · have hfb : (FC != 0) = false := by simpa using hfc
        have h7 : 7 ≤ P.length := rdF_len (RB.out.2 hfc)
        have FIN := Lib.hid (HT.out.end (f := ⟨FD, FT⟩) hmk (by rw [HP.out, RB.out.2 hfc, EF.out]) false)
        go_wp2_with (at_builtin; refine app1_Term rfl (.tmp 43) (.tmp 47) rfl w.heap.size _ L ⟨⟨FD, FT⟩, d⟩ rfl (World.ownsRow.alloc HO2.out _) (by simp [Act.eval, Array.getD]) (by omega) (by simp; omega) ?_; intro v5 w5 ho5 hg5)
        go_roundw
        case rel => exact ⟨L ++ [⟨⟨FD, FT⟩, d⟩], false, s.length + 1, s.length + 1, rfl, by go_num, by go_num, by omega, by omega, by simp; omega, FIN.out, ho5, Below.grown (HL2.out.alloc _) hg5 (by simp; omega) (fun j hj => (HO2.out.lt j hj).1)⟩
        case measure => simp [intOf]
end Go.Proofs.YtgngbdacejghcaaDoor
