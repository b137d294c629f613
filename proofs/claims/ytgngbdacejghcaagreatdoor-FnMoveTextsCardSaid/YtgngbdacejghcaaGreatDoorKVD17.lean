/- DERIVED. Walks: signed numbers read from text (the reference's). -/
import Derived.Test.YtgngbdacejghcaaGreatDoorKVD11
namespace Go.Proofs.YtgngbdacejghcaaGreatDoor
set_option linter.unusedVariables false
set_option linter.unusedSimpArgs false
open Go.RowKit
set_option maxRecDepth 100000
set_option linter.unusedVariables false
def SgOk (s : List UInt8) (t : Int) (b : Bool) : Prop := -10000000000000 < t ∧ t < 10000000000000 ∧ (b = true → s = Lib.itoa t) ∧ (b = false → ∀ t' : Int, -10000000000000 < t' → t' < 10000000000000 → s ≠ Lib.itoa t')
theorem dec13 {m : Nat} (h : m < 10000000000000) : (Lib.decDigits m).length ≤ 13 := by
 rw [Lib.decDigits_length]
 exact nd13 12 m (by omega)
theorem itoa_pos_nat {t : Int} (h : 0 ≤ t) : Lib.itoa t = Lib.decDigits t.toNat := by rw [Lib.itoa, if_neg (by omega)]
theorem itoa_neg_nat {t : Int} (h : t < 0) : Lib.itoa t = 45 :: Lib.decDigits t.natAbs := by rw [Lib.itoa, if_pos h]
theorem dec_no45 (m : Nat) (r : List UInt8) : Lib.decDigits m ≠ 45 :: r := by
 intro e
 have := digits_all (m + 1) m (by omega) 45 (by rw [e]; simp)
 have h : (45 : UInt8).toNat = 45 := rfl
 omega
theorem sg_pos {s : List UInt8} {n : Nat} (h0 : ∀ r, s ≠ 45 :: r) (hn : n < 10000000000000) (hv : ∀ m, valN s = some m → n = m) : SgOk s (n : Int) (valN s).isSome := by
 refine ⟨by omega, by omega, fun hb => ?_, fun hb t' h1 h2 e => ?_⟩
 · cases h : valN s with
   | none => rw [h] at hb; cases hb
   | some m =>
    have := hv m h
    subst this
    rw [itoa_pos_nat (by omega)]
    exact (valN_some.1 h).2
 · by_cases ht : t' < 0
   · rw [itoa_neg_nat ht] at e
     exact h0 _ e
   · have : valN s = some t'.toNat := valN_some.2 ⟨by rw [e, itoa_pos_nat (by omega)]; exact dec13 (by omega), by rw [e, itoa_pos_nat (by omega)]⟩
     rw [this] at hb
     cases hb
theorem sg_neg {r : List UInt8} {n : Nat} (hn : n < 10000000000000) (hv : ∀ m, valN r = some m → n = m) : SgOk (45 :: r) (-(n : Int)) ((valN r).isSome && decide ((0 : Int) < (n : Int))) := by
 refine ⟨by omega, by omega, fun hb => ?_, fun hb t' h1 h2 e => ?_⟩
 · rw [Bool.and_eq_true] at hb
   have h0 : 0 < (n : Int) := of_decide_eq_true hb.2
   cases h : valN r with
   | none => rw [h] at hb; cases hb.1
   | some m =>
    have := hv m h
    subst this
    rw [itoa_neg_nat (by omega), show (-(n : Int)).natAbs = n by omega, ← (valN_some.1 h).2]
 · by_cases ht : t' < 0
   · rw [itoa_neg_nat ht] at e
     injection e with _ e
     have hs : valN r = some t'.natAbs := valN_some.2 ⟨by rw [e]; exact dec13 (by omega), e⟩
     have hm := hv _ hs
     rw [hs] at hb
     have : decide ((0 : Int) < (n : Int)) = true := decide_eq_true (by omega)
     rw [this] at hb
     cases hb
   · rw [itoa_pos_nat (by omega)] at e
     exact dec_no45 _ _ e.symm
set_option maxHeartbeats 1000000 in
theorem w_l01Signed (s : List UInt8) (hs : s.length ≤ 1048576) (w : World) :
 Calls Tryz.prog 162 #[sv s] w fun e w' => (∃ (t : Int) (b : Bool), SgOk s t b ∧ e = .returned (.tuple #[.int .i64 t, .bool b])) ∧ Later w w' := by
 by_cases h0 : 0 < s.length
 rotate_left
 · have hb : decide ((0 : Int) < (s.length : Int)) = false := decide_eq_false (by omega)
   go_enter Tryz.func162, Tryz.ntmps162
   go_wp2_with fail
   refine (w_l01Value s hs _).mono ?_
   rintro e w1 ⟨⟨n, hn, hv, rfl⟩, hL⟩
   obtain ⟨b, hbb⟩ : ∃ b, (valN s).isSome = b := ⟨_, rfl⟩
   have HB := Lib.hid hbb
   rw [hbb]
   clear hbb
   go_wp2
   go_ret2
   refine ⟨⟨(n : Int), b, ?_, rfl⟩, hL⟩
   rw [← HB.out]
   exact sg_pos (fun r e => by rw [e] at h0; simp at h0) hn hv
 have hb : decide ((0 : Int) < (s.length : Int)) = true := decide_eq_true (by omega)
 obtain ⟨c, hc⟩ := get_ex (l := s) (k := 0) h0
 have hx := idx_at hc
 have HC := Lib.hid hc
 clear hc
 obtain ⟨cn, hcn⟩ : ∃ n, c.toNat = n := ⟨_, rfl⟩
 have HCN := Lib.hid hcn
 by_cases h45 : cn = 45
 · have hq : ((cn : Int) == 45) = true := by simp; omega
   obtain ⟨r, hr⟩ : ∃ r, s = 45 :: r := by
    cases s with
    | nil => simp at h0
    | cons a r =>
     have e1 : a = c := by have := HC.out; simpa using this
     have e2 : c = 45 := UInt8.toNat_inj.1 (by rw [HCN.out, h45]; rfl)
     exact ⟨r, by rw [e1, e2]⟩
   have hx2 : (ByteArray.mk s.toArray).extract 1 s.length = ByteArray.mk r.toArray := by
    rw [ByteArray.extract_mk, List.take_of_length_le (by simp), hr]
    rfl
   have hsz : ((1 : Int) ≤ (s.length : Int)) = True := by simp; omega
   have hrl : r.length ≤ 1048576 := by rw [hr] at hs; simp at hs; omega
   have HRR := Lib.hid hr
   clear hr h45
   go_enter Tryz.func162, Tryz.ntmps162
   go_wp2_with fail
   refine (w_l01Value r hrl _).mono ?_
   rintro e w1 ⟨⟨n, hn, hv, rfl⟩, hL⟩
   have HV := Lib.hid hv
   obtain ⟨b, hbb⟩ : ∃ b, (valN r).isSome = b := ⟨_, rfl⟩
   have HB := Lib.hid hbb
   rw [hbb]
   clear hbb hv
   have wn : IntKind.i64.wrap (-(n : Int)) = -(n : Int) := by
    simp only [IntKind.wrap, IntKind.bits, IntKind.signed]
    simp
    omega
   obtain ⟨p, hp⟩ : ∃ p, decide ((0 : Int) < (n : Int)) = p := ⟨_, rfl⟩
   have HP := Lib.hid hp
   cases b
   all_goals
    go_wp2
    go_ret2
    refine ⟨⟨-(n : Int), _, ?_, rfl⟩, hL⟩
    rw [HRR.out]
    have h := sg_neg hn HV.out
    rw [HB.out] at h
    simpa [hp] using h
 · have hq : ((cn : Int) == 45) = false := by simp; omega
   have hno : ∀ r, s ≠ 45 :: r := fun r e => by
    have := HC.out
    rw [e] at this
    have e2 : (45 : UInt8) = c := by simpa using this
    exact h45 (by rw [← HCN.out, ← e2]; rfl)
   have HNO := Lib.hid hno
   clear hno h45
   go_enter Tryz.func162, Tryz.ntmps162
   go_wp2_with fail
   refine (w_l01Value s hs _).mono ?_
   rintro e w1 ⟨⟨n, hn, hv, rfl⟩, hL⟩
   have HV := Lib.hid hv
   obtain ⟨b, hbb⟩ : ∃ b, (valN s).isSome = b := ⟨_, rfl⟩
   have HB := Lib.hid hbb
   rw [hbb]
   clear hbb hv
   go_wp2
   go_ret2
   refine ⟨⟨(n : Int), b, ?_, rfl⟩, hL⟩
   rw [← HB.out]
   exact sg_pos HNO.out hn HV.out
end Go.Proofs.YtgngbdacejghcaaGreatDoor
