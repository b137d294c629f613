/- DERIVED. Walks: the reference's numbers read from text. -/
import Derived.Laws.Strings
import Derived.Test.YtgngbdacejghcaaGreatDoorKVD9
namespace Go.Proofs.YtgngbdacejghcaaGreatDoor
set_option linter.unusedVariables false
set_option linter.unusedSimpArgs false
open Go.RowKit
set_option maxRecDepth 100000
set_option linter.unusedVariables false
theorem idx_at {s : List UInt8} {k : Nat} {c : UInt8} (h : s[k]? = some c) : ∀ h' : k < (ByteArray.mk s.toArray).size, (ByteArray.mk s.toArray)[k]'h' = c := by
 intro h'
 obtain ⟨hk, hc⟩ := List.getElem?_eq_some_iff.1 h
 rw [← hc]
 rfl
theorem valN_none_len {s : List UInt8} (h : ¬ (1 ≤ s.length ∧ s.length ≤ 13)) : valN s = none := by
 unfold valN
 rw [if_neg (fun e => h ⟨e.1, e.2.1⟩)]
theorem valN_none_dig {s : List UInt8} {k : Nat} {c : UInt8} (hk : s[k]? = some c) (h : isDig c = false) : valN s = none := by
 unfold valN
 rw [if_neg (fun e => by
  have := List.all_eq_true.1 e.2.2.1 c (List.mem_of_getElem? hk)
  rw [h] at this
  cases this)]
theorem valN_of {s : List UInt8} (h1 : 1 ≤ s.length) (h2 : s.length ≤ 13) (h3 : s.all isDig = true) : valN s = if Lib.decDigits (valD s) = s then some (valD s) else none := by
 unfold valN
 by_cases h : Lib.decDigits (valD s) = s
 · rw [if_pos ⟨h1, h2, h3, h⟩, if_pos h]
 · rw [if_neg (fun e => h e.2.2.2), if_neg h]
theorem valD_take {s : List UInt8} {k : Nat} {c : UInt8} (h : s[k]? = some c) : valD (s.take (k + 1)) = 10 * valD (s.take k) + (c.toNat - 48) := by
 rw [List.take_add_one, h]
 exact valD_snoc _ _
theorem dig_take {s : List UInt8} {k : Nat} {c : UInt8} (h : s[k]? = some c) (ha : (s.take k).all isDig = true) (hc : isDig c = true) : (s.take (k + 1)).all isDig = true := by
 rw [List.take_add_one, h, List.all_append, ha]
 simp [hc]
theorem subu8 {c d : Nat} (h : c = 48 + d) (hd : d < 208) : IntKind.u8.wrap ((c : Int) - 48) = (d : Int) := by
 simp only [IntKind.wrap, IntKind.bits, IntKind.signed]
 simp
 omega
def l01V (s : List UInt8) : Nat := if 1 ≤ s.length ∧ s.length ≤ 13 ∧ s.all isDig = true then valD s else 0
theorem l01V_len {s : List UInt8} (h : ¬ (1 ≤ s.length ∧ s.length ≤ 13)) : 0 = l01V s := by
 unfold l01V
 rw [if_neg (fun e => h ⟨e.1, e.2.1⟩)]
theorem l01V_dig {s : List UInt8} {k : Nat} {c : UInt8} (hk : s[k]? = some c) (h : isDig c = false) : 0 = l01V s := by
 unfold l01V
 rw [if_neg (fun e => by
  have := List.all_eq_true.1 e.2.2 c (List.mem_of_getElem? hk)
  rw [h] at this
  cases this)]
set_option maxHeartbeats 1000000 in
theorem w_l01Value1 (s : List UInt8) (hs : s.length ≤ 1048576) (w : World) :
 Calls Tryz.prog 66 #[sv s] w fun e w' => (∃ n : Nat, n = l01V s ∧ n < 10000000000000 ∧ (∀ m, valN s = some m → n = m) ∧ e = .returned (.tuple #[.int .i64 (n : Int), .bool (valN s).isSome])) ∧ Later w w' := by
 by_cases h1 : 1 ≤ s.length
 rotate_left
 · have hv := Lib.hid (valN_none_len (s := s) (fun e => h1 e.1))
   have hb : decide ((s.length : Int) < 1) = true := decide_eq_true (by omega)
   go_enter Tryz.func66, Tryz.ntmps66
   go_wp2
   go_ret2
   exact ⟨⟨0, l01V_len (fun e => h1 e.1), by omega, fun m hm => (by rw [hv.out] at hm; cases hm), by rw [hv.out]; rfl⟩, Later.refl _⟩
 have hb1 : decide ((s.length : Int) < 1) = false := decide_eq_false (by omega)
 by_cases h2 : s.length ≤ 13
 rotate_left
 · have hv := Lib.hid (valN_none_len (s := s) (fun e => h2 e.2))
   have hb : decide ((13 : Int) < (s.length : Int)) = true := decide_eq_true (by omega)
   go_enter Tryz.func66, Tryz.ntmps66
   go_wp2
   go_ret2
   exact ⟨⟨0, l01V_len (fun e => h2 e.2), by omega, fun m hm => (by rw [hv.out] at hm; cases hm), by rw [hv.out]; rfl⟩, Later.refl _⟩
 have hb2 : decide ((13 : Int) < (s.length : Int)) = false := decide_eq_false (by omega)
 go_enter Tryz.func66, Tryz.ntmps66
 go_wp2
 go_loopw [4, 5] (fun x i wr => ∃ N k : Nat, k ≤ s.length ∧ i = .int .i64 (k : Nat) ∧ x = .int .i64 (N : Nat) ∧ Hid (valD (s.take k) = N) ∧ Hid ((s.take k).all isDig = true) ∧ N < 10000000000000 ∧ wr = w) (fun _ i _ => s.length - (intOf i).toNat)
 case atStart => exact ⟨0, 0, Nat.zero_le _, rfl, rfl, rfl, rfl, by omega, rfl⟩
 case round =>
  obtain ⟨N, k, hk, rfl, rfl, HV, HD, hN, hwr⟩ := hrel
  subst hwr
  by_cases hlt : k < s.length
  · obtain ⟨c, hc⟩ := get_ex (l := s) (k := k) hlt
    have hx := idx_at hc
    have HC := Lib.hid hc
    clear hc
    obtain ⟨cn, hcn⟩ : ∃ n, c.toNat = n := ⟨_, rfl⟩
    have HCN := Lib.hid hcn
    by_cases hlo : cn < 48
    · have hb3 : decide ((cn : Int) < 48) = true := decide_eq_true (by omega)
      have hv := Lib.hid (valN_none_dig HC.out (by simp [isDig, HCN.out]; omega))
      go_wp2
      go_ret2
      exact ⟨⟨0, l01V_dig HC.out (by simp [isDig, HCN.out]; omega), by omega, fun m hm => (by rw [hv.out] at hm; cases hm), by rw [hv.out]; rfl⟩, Later.refl _⟩
    have hb3 : decide ((cn : Int) < 48) = false := decide_eq_false (by omega)
    by_cases hhi : 57 < cn
    · have hb4 : decide ((57 : Int) < (cn : Int)) = true := decide_eq_true (by omega)
      have hv := Lib.hid (valN_none_dig HC.out (by simp [isDig, HCN.out]; omega))
      go_wp2
      go_ret2
      exact ⟨⟨0, l01V_dig HC.out (by simp [isDig, HCN.out]; omega), by omega, fun m hm => (by rw [hv.out] at hm; cases hm), by rw [hv.out]; rfl⟩, Later.refl _⟩
    have hb4 : decide ((57 : Int) < (cn : Int)) = false := decide_eq_false (by omega)
    obtain ⟨d, hd⟩ : ∃ d, cn = 48 + d := ⟨cn - 48, by omega⟩
    have hd9 : d ≤ 9 := by omega
    have wu : IntKind.u8.wrap ((cn : Int) - 48) = (d : Int) := subu8 hd (by omega)
    have wd : IntKind.i64.wrap (d : Int) = (d : Int) := wrapN (by omega)
    have wm : IntKind.i64.wrap (10 * (N : Int)) = 10 * (N : Int) := wrapI (by omega) (by omega)
    have ws : IntKind.i64.wrap (10 * (N : Int) + (d : Int)) = 10 * (N : Int) + (d : Int) := wrapI (by omega) (by omega)
    have wi : IntKind.i64.wrap ((k : Int) + 1) = (k : Int) + 1 := wrapI (by omega) (by omega)
    have HD2 := Lib.hid (dig_take HC.out HD.out (by simp [isDig, HCN.out]; omega))
    have HV2 := Lib.hid (show valD (s.take (k + 1)) = 10 * N + d from by rw [valD_take HC.out, HV.out, HCN.out]; omega)
    have hN2 : 10 * N + d < 10000000000000 := by
     have h := valD_lt s (k + 1) HD2.out
     rw [HV2.out] at h
     have : (10 : Nat) ^ (k + 1) ≤ 10 ^ 13 := Nat.pow_le_pow_right (by omega) (by omega)
     omega
    clear hd
    go_wp2
    go_roundw
    case rel => exact ⟨10 * N + d, k + 1, by omega, by go_num, by go_num, HV2.out, HD2.out, hN2, (by first | trivial | rfl)⟩
    case measure => simp [intOf]; omega
  · have hke : k = s.length := by omega
    have hall : s.all isDig = true := by
     have := HD.out
     rwa [List.take_of_length_le (by omega)] at this
    have hval : valD s = N := by
     have := HV.out
     rwa [List.take_of_length_le (by omega)] at this
    have hv := valN_of h1 h2 hall
    have HLV := Lib.hid (show N = l01V s from by unfold l01V; rw [if_pos ⟨h1, h2, hall⟩, hval])
    rw [hval] at hv
    clear hval hall
    obtain ⟨D, hD⟩ : ∃ D, Lib.decDigits N = D := ⟨_, rfl⟩
    have HDD := Lib.hid hD
    rw [hD] at hv
    clear hD
    by_cases he : D = s
    · have hb5 : (D == s) = true := by simpa using he
      rw [if_pos he] at hv
      have HVN := Lib.hid hv
      clear hv he
      go_wp2_with fail
      refine (w_l01Dec N (by omega) _).mono ?_
      rintro e w1 ⟨rfl, hL⟩
      rw [HDD.out]
      go_wp2
      go_ret2
      exact ⟨⟨N, HLV.out, hN, fun m hm => (by rw [HVN.out] at hm; exact Option.some.inj hm), by rw [HVN.out]; rfl⟩, hL⟩
    · have hb5 : (D == s) = false := by simpa using he
      rw [if_neg he] at hv
      have HVN := Lib.hid hv
      clear hv he
      go_wp2_with fail
      refine (w_l01Dec N (by omega) _).mono ?_
      rintro e w1 ⟨rfl, hL⟩
      rw [HDD.out]
      go_wp2
      go_ret2
      exact ⟨⟨N, HLV.out, hN, fun m hm => (by rw [HVN.out] at hm; cases hm), by rw [HVN.out]; rfl⟩, hL⟩
theorem w_l01Value (s : List UInt8) (hs : s.length ≤ 1048576) (w : World) :
 Calls Tryz.prog 66 #[sv s] w fun e w' => (∃ n : Nat, n < 10000000000000 ∧ (∀ m, valN s = some m → n = m) ∧ e = .returned (.tuple #[.int .i64 (n : Int), .bool (valN s).isSome])) ∧ Later w w' :=
 (w_l01Value1 s hs w).mono fun e w' ⟨⟨n, _, h⟩, hL⟩ => ⟨⟨n, h⟩, hL⟩
theorem w_l01ValueE (s : List UInt8) (hs : s.length ≤ 1048576) (w : World) :
 Calls Tryz.prog 66 #[sv s] w fun e w' => e = .returned (.tuple #[.int .i64 (l01V s : Int), .bool (valN s).isSome]) ∧ Later w w' :=
 (w_l01Value1 s hs w).mono fun e w' ⟨⟨n, hn, _, _, he⟩, hL⟩ => ⟨by rw [he, hn], hL⟩
theorem l01V_val {s : List UInt8} {m : Nat} (h : valN s = some m) : l01V s = m := by
 unfold valN at h
 split at h
 · rename_i hc
   unfold l01V
   rw [if_pos ⟨hc.1, hc.2.1, hc.2.2.1⟩]
   exact Option.some.inj h
 · cases h
end Go.Proofs.YtgngbdacejghcaaGreatDoor
