/- DERIVED. Walks: strings.IndexAny at the signs of operation, whatever the text. -/
import Derived.Test.YtgngbdacejghcaaDoorD30
import Derived.Test.YtgngbdacejghcaaDoorD31
import Derived.BigQuiet
import Derived.Laws.RangeAny
import Derived.Laws.Runes
import Derived.WalkMore
import Derived.Lib.OthersKept
namespace Go.Proofs.YtgngbdacejghcaaDoor
set_option linter.unusedVariables false
set_option linter.unusedSimpArgs false
open Go.RowKit
set_option maxRecDepth 100000
set_option linter.unusedVariables false

theorem get_atR (s : ByteArray) (k : Nat) (h : k < s.size) : s.get! k = s[k]'h := by
  simp [ByteArray.get!, getElem!_pos, h]
  rfl
/-- Behind the first byte of what is decoded no byte is an ASCII one. -/
theorem decode_stepR (s : ByteArray) (i : Nat) (h : i < s.size) : 1 ≤ (Utf8.decode s i).2 ∧ i + (Utf8.decode s i).2 ≤ s.size ∧ ∀ k, 1 ≤ k → k < (Utf8.decode s i).2 → 128 ≤ (s.get! (i + k)).toNat := by
  simp only [Utf8.decode]
  repeat' split
  all_goals
    simp only [Bool.and_eq_true, beq_iff_eq, decide_eq_true_eq] at *
    refine ⟨by omega, by omega, fun k k1 k2 => ?_⟩
    first
      | omega
      | (have hk : k = 1 ∨ k = 2 ∨ k = 3 := by omega
         rcases hk with rfl | rfl | rfl <;> omega)

theorem b_high {n : Nat} (h : 128 ≤ n) (h2 : n < 256) : 128 ≤ (UInt8.ofNat n).toNat := by
  rw [UInt8.toNat_ofNat']
  omega
/-- A rune that is not ASCII, as text: two to four bytes, and the last of them is no ASCII byte. -/
theorem encode_high (r : Nat) (h : 128 ≤ r) : ∃ a b E, Utf8.encode (r : Int) = ByteArray.mk (a :: b :: E).toArray ∧ E.length ≤ 2 ∧ (E = [] → 128 ≤ b.toNat) := by
  have hc : 128 ≤ (if Utf8.valid (r : Int) = true then (r : Int).toNat else Utf8.runeError) := by
    split
    · omega
    · decide
  obtain ⟨c, hcc⟩ : ∃ c, (if Utf8.valid (r : Int) = true then (r : Int).toNat else Utf8.runeError) = c := ⟨_, rfl⟩
  rw [hcc] at hc
  unfold Utf8.encode
  simp only [hcc]
  rw [if_neg (by omega)]
  split
  · exact ⟨_, _, [], rfl, by simp, fun _ => b_high (by omega) (by omega)⟩
  · split
    · exact ⟨_, _, [_], rfl, by simp, fun e => by cases e⟩
    · exact ⟨_, _, [_, _], rfl, by simp, fun e => by cases e⟩

set_option maxHeartbeats 2000000 in
theorem w_IndexRune2 (r : Nat) (h0 : 128 ≤ r) (h1 : r ≤ 2147483647) (w : World) :
    Calls Tryd.prog 100 #[sv [42, 47], .int .i32 (r : Int)] w fun e w' => e = .returned (.int .i64 (-1)) ∧ Later w w' := by
  have hb0 : decide ((0 : Int) ≤ (r : Int)) = true := decide_eq_true (by omega)
  have hb1 : decide ((r : Int) < 128) = false := decide_eq_false (by omega)
  by_cases he : r = 65533
  · subst he
    go_enter Tryd.func100, Tryd.ntmps100
    go_wp2
    go_loopg [5, 6] 2 (fun g _ _ wx => ∃ i : Nat, i + g = 2 ∧ wx = w.iter (ByteArray.mk #[42, 47]) i)
    case atStart => exact ⟨0, by omega, rfl⟩
    case round =>
      obtain ⟨i, hig, rfl⟩ := hrel
      cases gk with
      | zero =>
        obtain rfl : i = 2 := by omega
        have hnx := fun ty => run_next_end (P := Tryd.prog) w (ByteArray.mk #[42, 47]) 2 ty (by decide)
        go_wp2
        go_ret
        exact ⟨rfl, (Later.refl w).alloc _⟩
      | succ g =>
        have hi2 : i = 0 ∨ i = 1 := by omega
        rcases hi2 with rfl | rfl
        · have hnx := fun ty => run_next_ascii (P := Tryd.prog) w (ByteArray.mk #[42, 47]) 0 ty (by decide) (by decide)
          go_wp2
          go_roundg g
          case measure => omega
          case rel => exact ⟨1, by omega, rfl⟩
        · have hnx := fun ty => run_next_ascii (P := Tryd.prog) w (ByteArray.mk #[42, 47]) 1 ty (by decide) (by decide)
          go_wp2
          go_roundg g
          case measure => omega
          case rel => exact ⟨2, by omega, rfl⟩
  have heb : ((r : Int) == 65533) = false := by simp; omega
  cases hv : Lib.validRune (r : Int)
  · go_enter Tryd.func100, Tryd.ntmps100
    go_wp2_with fail
    refine (Tryd.utf8_ValidRune (r : Int) _).mono ?_
    rintro e w1 ⟨rfl, hw1⟩
    rw [hw1, hv]
    go_wp2
    go_ret
    exact ⟨rfl, Later.refl _⟩
  · obtain ⟨a, b, E, hE, hl, hb⟩ := encode_high r h0
    cases E with
    | nil =>
      obtain ⟨bn, hbn⟩ : ∃ n, b.toNat = n := ⟨_, rfl⟩
      have hb128 := hb rfl
      have hq : ((47 : Int) != (bn : Int)) = true := by simp; omega
      clear hb hl
      go_enter Tryd.func100, Tryd.ntmps100
      go_wp2_with fail
      refine (Tryd.utf8_ValidRune (r : Int) _).mono ?_
      rintro e w1 ⟨rfl, hw1⟩
      rw [hw1, hv]
      go_wp2
      go_step3
      go_wp2
      go_loopw [9, 10] (fun i f wr => i = .int .i64 1 ∧ f = .int .i64 0 ∧ wr = w) (fun _ _ _ => 0)
      case atStart => exact ⟨rfl, rfl, rfl⟩
      case round =>
        obtain ⟨rfl, rfl, rfl⟩ := hrel
        have hj1 : ∀ h' : 1 < (ByteArray.mk #[42, 47]).size, (ByteArray.mk #[42, 47])[1]'h' = 47 := fun _ => rfl
        have hj2 : ∀ h' : 1 < (ByteArray.mk #[a, b]).size, (ByteArray.mk #[a, b])[1]'h' = b := fun _ => rfl
        have hw2 : IntKind.i64.wrap 2 = 2 := wrapI (by omega) (by omega)
        have hx : (ByteArray.mk #[42, 47]).extract 2 2 = ByteArray.mk #[] := by
          have := ByteArray.extract_mk [42, 47] 2 2
          exact this
        go_wp2
        go_step3
        go_wp2
        go_quiet (fail)
        go_wp2
        go_quiet (first | (refine (Tryd.strings_IndexByte _ _ _).mono ?_; rintro e w1 ⟨rfl, rfl⟩; exact ⟨(rfl : _ = Ending.returned (.int .i64 (-1))), _, rfl⟩))
        go_wp2
        rw [Exit.noGoto_ret]
        simp only [Exit.inBlock]
        show (Exit.noGoto _) Exit.ret _ _
        rw [Exit.noGoto_ret]
        simp only [Exit.inBlock, Exit.then]
        rw [Exit.noGoto_ret]
        simp only [Exit.inBlock]
        go_ret
        exact ⟨rfl, (Later.refl _).drewN _⟩
    | cons c E =>
      clear hb
      have hE2 : E = [] ∨ ∃ d, E = [d] := by
        cases E with
        | nil => exact .inl rfl
        | cons d E =>
          cases E with
          | nil => exact .inr ⟨d, rfl⟩
          | cons x E => simp at hl
      clear hl
      rcases hE2 with rfl | ⟨d, rfl⟩
      all_goals
        go_enter Tryd.func100, Tryd.ntmps100
        go_wp2_with fail
        refine (Tryd.utf8_ValidRune (r : Int) _).mono ?_
        rintro e w1 ⟨rfl, hw1⟩
        rw [hw1, hv]
        go_wp2
        go_step3
        go_wp2
      · go_loopw [9, 10] (fun i f wr => i = .int .i64 2 ∧ f = .int .i64 0 ∧ wr = w) (fun _ _ _ => 0)
        case atStart => exact ⟨rfl, rfl, rfl⟩
        case round =>
          obtain ⟨rfl, rfl, rfl⟩ := hrel
          go_wp2
          rw [Exit.noGoto_ret]
          go_ret
          exact ⟨rfl, Later.refl _⟩
      · go_loopw [9, 10] (fun i f wr => i = .int .i64 3 ∧ f = .int .i64 0 ∧ wr = w) (fun _ _ _ => 0)
        case atStart => exact ⟨rfl, rfl, rfl⟩
        case round =>
          obtain ⟨rfl, rfl, rfl⟩ := hrel
          go_wp2
          rw [Exit.noGoto_ret]
          go_ret
          exact ⟨rfl, Later.refl _⟩

theorem contains_sep (x : UInt8) : List.contains [(42 : UInt8), 47] x = isSep x := by
  unfold isSep
  by_cases h1 : x = 42
  · subst h1; decide
  · by_cases h2 : x = 47
    · subst h2; decide
    · simp [h1, h2]
theorem noAny_next {s : List UInt8} {i n : Nat} (h : Lib.NoAny s [42, 47] i) (h1 : ∀ (j : Nat) b, i ≤ j → j < i + n → s[j]? = some b → isSep b = false) : Lib.NoAny s [42, 47] (i + n) := fun j b hj hb => by
  by_cases hi : j < i
  · exact h j b hi hb
  · rw [contains_sep]
    exact h1 j b (by omega) hj hb
theorem sep_low {b : UInt8} (h : 128 ≤ b.toNat) : isSep b = false := by
  cases hs : isSep b with
  | false => rfl
  | true =>
    unfold isSep at hs
    rw [Bool.or_eq_true] at hs
    rcases hs with hs | hs <;> (rw [beq_iff_eq.1 hs] at h; revert h; decide)

set_option maxHeartbeats 4000000 in
theorem w_IndexAnyS (s : List UInt8) (h8 : s.length ≤ 8) (w : World) :
    Calls Tryd.prog 63 #[sv s, sv [42, 47]] w fun e w' => e = .returned (.int .i64 (Lib.indexAny s [42, 47])) ∧ Later w w' := by
  have h8z : decide ((8 : Int) < (s.length : Int)) = false := decide_eq_false (by omega)
  go_enter Tryd.func63, Tryd.ntmps63
  go_wp2_with fail
  refine (Tryd.strings_shouldUseASCIISet _ _).mono ?_
  rintro e w1 ⟨rfl, hw1⟩
  rw [hw1, h8z]
  clear hw1
  go_wp2
  go_loopg [9, 10] (s.length) (fun g _ _ wx => ∃ i : Nat, i ≤ s.length ∧ s.length ≤ i + g ∧ wx.heap[w.heap.size]? = some (.stringIter (ByteArray.mk s.toArray) i) ∧ Later w wx ∧ Hid (Lib.NoAny s [42, 47] i))
  case atStart => exact ⟨0, Nat.zero_le _, by omega, World.iter_heap w _ 0, (Later.refl w).alloc _, Lib.hid (Lib.NoAny.zero _ _)⟩
  case round =>
    obtain ⟨i, hi, hg, hit, hL, HN⟩ := hrel
    have HIT := Lib.hid hit
    have HL := Lib.hid hL
    clear hit hL
    by_cases hlt : i < s.length
    · obtain ⟨g, rfl⟩ : ∃ g, gk = g + 1 := ⟨gk - 1, by omega⟩
      have hps : i < (ByteArray.mk s.toArray).size := by show i < s.toArray.size; simpa using hlt
      obtain ⟨x, hx⟩ := get_ex (l := s) (k := i) hlt
      have hxi : (ByteArray.mk s.toArray)[i]'hps = x := idx_at hx hps
      have HX := Lib.hid hx
      have hnx : ∀ ty, (Instr.next (.pointer (some ⟨w.heap.size, 0, none⟩)) true ty).run Tryd.prog wr = _ := fun ty => Lib.run_next_any_at wr w.heap.size (ByteArray.mk s.toArray) i ty HIT.out hps
      obtain ⟨st1, st2, st3⟩ := decode_stepR (ByteArray.mk s.toArray) i hps
      have ST3 := Lib.hid st3
      have hsz : (ByteArray.mk s.toArray).size = s.length := by show s.toArray.size = _; simp
      rw [hsz] at st2
      by_cases hasc : x.toNat < 128
      · have hd := decode_ascii (ByteArray.mk s.toArray) i hps (by rw [hxi]; exact hasc)
        rw [hxi] at hd
        rw [hd] at hnx
        simp only at hnx
        have hit2 := Lib.hid (Lib.iterAt_heap wr w.heap.size (ByteArray.mk s.toArray) i (i + 1) HIT.out)
        have hbw2 := Lib.hid (show Later w _ from Lib.below_iterAt HL.out (k := w.heap.size) (Nat.le_refl _) (ByteArray.mk s.toArray) (i + 1))
        obtain ⟨W, hWd⟩ : ∃ W, wr.iterAt w.heap.size (ByteArray.mk s.toArray) (i + 1) = W := ⟨_, rfl⟩
        rw [hWd] at hnx hit2 hbw2
        clear hx hxi hd st1 st2 st3 hsz hWd
        have hcon := Lib.contains_iff_indexByte [42, 47] x
        rw [contains_sep] at hcon
        have hback : ((x.toNat : Int)).toNat.toUInt8 = x := by simp
        obtain ⟨V, hV⟩ : ∃ V, Lib.indexByte [42, 47] x = V := ⟨_, rfl⟩
        rw [hV] at hcon
        have HV := Lib.hid hV
        have HB := Lib.hid hback
        clear hV hback
        cases hs : isSep x
        · rw [hs] at hcon
          have hlt0 : decide ((0 : Int) ≤ V) = false := hcon.symm
          have HS := Lib.hid hs
          clear hcon hs
          go_wp2_with fail
          refine (Tryd.strings_IndexRune_ascii ⟨#[42, 47]⟩ (x.toNat : Int) _ (by omega) (by omega)).mono ?_
          rintro e w2 ⟨rfl, hw2⟩
          subst hw2
          rw [show Lib.indexByte (ByteArray.mk #[42, 47]).data.toList ((x.toNat : Int)).toNat.toUInt8 = V from by rw [HB.out]; exact HV.out]
          go_wp2
          go_roundg g
          case measure => omega
          case rel => exact ⟨i + 1, by omega, by omega, hit2.out, hbw2.out, Lib.hid (noAny_next (n := 1) HN.out (fun j b h1 h2 h3 => by
            obtain rfl : j = i := by omega
            rw [HX.out] at h3
            obtain rfl := Option.some.inj h3
            exact HS.out))⟩
        · rw [hs] at hcon
          have hlt0 : decide ((0 : Int) ≤ V) = true := hcon.symm
          have HS := Lib.hid hs
          clear hcon hs
          go_wp2_with fail
          refine (Tryd.strings_IndexRune_ascii ⟨#[42, 47]⟩ (x.toNat : Int) _ (by omega) (by omega)).mono ?_
          rintro e w2 ⟨rfl, hw2⟩
          subst hw2
          rw [show Lib.indexByte (ByteArray.mk #[42, 47]).data.toList ((x.toNat : Int)).toNat.toUInt8 = V from by rw [HB.out]; exact HV.out]
          go_wp2
          go_ret
          exact ⟨by rw [Lib.indexAny_hit HN.out HX.out (by rw [contains_sep]; exact HS.out)]; rfl, hbw2.out⟩
      · obtain ⟨hd1, hd2⟩ := decode_high (ByteArray.mk s.toArray) i hps (by rw [hxi]; omega)
        have hd3 := decode_le (ByteArray.mk s.toArray) i
        obtain ⟨R, hR⟩ : ∃ R, (Utf8.decode (ByteArray.mk s.toArray) i).1 = R := ⟨_, rfl⟩
        obtain ⟨K, hK⟩ : ∃ K, (Utf8.decode (ByteArray.mk s.toArray) i).2 = K := ⟨_, rfl⟩
        rw [hR, hK] at hnx
        rw [hR] at hd1 hd3
        rw [hK] at st1 st2 ST3 hd2
        have hit2 := Lib.hid (Lib.iterAt_heap wr w.heap.size (ByteArray.mk s.toArray) i (i + K) HIT.out)
        have hbw2 := Lib.hid (show Later w _ from Lib.below_iterAt HL.out (k := w.heap.size) (Nat.le_refl _) (ByteArray.mk s.toArray) (i + K))
        obtain ⟨W, hWd⟩ : ∃ W, wr.iterAt w.heap.size (ByteArray.mk s.toArray) (i + K) = W := ⟨_, rfl⟩
        rw [hWd] at hnx hit2 hbw2
        have HXI := Lib.hid hxi
        clear hx hxi st3 hR hK hWd
        go_wp2_with fail
        refine (w_IndexRune2 R hd1 hd3 _).mono ?_
        rintro e w2 ⟨rfl, hL2⟩
        have HL2 := Lib.hid (hbw2.out.trans hL2)
        have HIT2 := Lib.hid (hL2.keep hit2.out)
        clear hL2
        go_wp2
        go_roundg g
        case measure => omega
        case rel => exact ⟨i + K, st2, by omega, HIT2.out, HL2.out, Lib.hid (noAny_next HN.out (fun j b h1 h2 h3 => by
          by_cases hj : j = i
          · subst hj
            rw [HX.out] at h3
            obtain rfl := Option.some.inj h3
            exact sep_low (by omega)
          · have hj2 := (List.getElem?_eq_some_iff.1 h3).1
            have h4 := ST3.out (j - i) (by omega) (by omega)
            have hps2 : i + (j - i) < (ByteArray.mk s.toArray).size := by rw [hsz]; omega
            rw [get_atR _ _ hps2, idx_at (c := b) (by rw [show i + (j - i) = j by omega]; exact h3) hps2] at h4
            exact sep_low h4))⟩
    · obtain rfl : i = s.length := by omega
      have hnx : ∀ ty, (Instr.next (.pointer (some ⟨w.heap.size, 0, none⟩)) true ty).run Tryd.prog wr = _ := fun ty => Lib.run_next_end_at wr w.heap.size (ByteArray.mk s.toArray) s.length ty HIT.out (by show ¬ s.length < s.toArray.size; simp)
      go_wp2
      go_ret
      exact ⟨by rw [Lib.indexAny_none HN.out]; rfl, HL.out⟩
theorem i_set : (Tryd.prog.info? 133).map (fun i => (i.zero, i.size)) = some (some (.agg (Array.replicate 256 (.bool false))), 256) := by kernel_rfl
theorem w_IndexAny (s : List UInt8) (hs : s.length ≤ 1048576) (w : World) :
    Calls Tryd.prog 63 #[sv s, sv [42, 47]] w fun e w' => e = .returned (.int .i64 (Lib.indexAny s [42, 47])) ∧ Later w w' := by
  by_cases h8 : s.length ≤ 8
  · exact w_IndexAnyS s h8 w
  · have hz : (ByteArray.mk s.toArray).size = s.length := by show s.toArray.size = _; simp
    refine (Tryd.strings_IndexAny_long (zero_of_info i_set).1 (ByteArray.mk s.toArray) ⟨#[42, 47]⟩ w (by decide) (by omega) (by omega) (by decide) (fun j b hb => by
      have hb' : [(42 : UInt8), 47][j]? = some b := hb
      have hj := (List.getElem?_eq_some_iff.1 hb').1
      have hj2 : j = 0 ∨ j = 1 := by simp at hj; omega
      rcases hj2 with rfl | rfl <;> (have := Option.some.inj hb'; subst this; decide))).mono ?_
    rintro e w1 ⟨rfl, rfl⟩
    exact ⟨by simp, ((Later.refl w).alloc _).alloc _⟩
end Go.Proofs.YtgngbdacejghcaaDoor
