/- DERIVED. Walks: names of scales read from text. -/
import Derived.Lib.SlicesS
import Derived.Test.YtgngbdacejghcaaGreatDoorKVD12
namespace Go.Proofs.YtgngbdacejghcaaGreatDoor
set_option linter.unusedVariables false
set_option linter.unusedSimpArgs false
open Go.RowKit
set_option maxRecDepth 100000
set_option linter.unusedVariables false
def idxL (x : List UInt8) : List (List UInt8) → Nat → Option Nat
  | [], _ => none
  | a :: r, i => if a = x then some i else idxL x r (i + 1)
def scI (x : List UInt8) : Option Nat := idxL x scNames 0
def scZ (x : List UInt8) : Int := match scI x with
  | some i => (i : Int)
  | none => -1
def okW (x : List UInt8) : Bool := (scI x).isSome
theorem idxL_hit (x : List UInt8) : ∀ (l : List (List UInt8)) (i k : Nat), l[k]? = some x → (∀ j, j < k → l[j]? ≠ some x) → idxL x l i = some (i + k)
  | [], i, k, h, _ => by simp at h
  | a :: r, i, 0, h, _ => by
    have : a = x := by simpa using h
    unfold idxL
    rw [if_pos this]
    rfl
  | a :: r, i, k + 1, h, hn => by
    have ha : ¬ a = x := fun e => hn 0 (by omega) (by simp [e])
    unfold idxL
    rw [if_neg ha, idxL_hit x r (i + 1) k (by simpa using h) (fun j hj hh => hn (j + 1) (by omega) (by simpa using hh))]
    congr 1
    omega
theorem idxL_miss (x : List UInt8) : ∀ (l : List (List UInt8)) (i : Nat), (∀ j : Nat, l[j]? ≠ some x) → idxL x l i = none
  | [], i, _ => rfl
  | a :: r, i, hn => by
    have ha : ¬ a = x := fun e => hn 0 (by simp [e])
    unfold idxL
    rw [if_neg ha, idxL_miss x r (i + 1) (fun j hh => hn (j + 1) (by simpa using hh))]
theorem idxFrom_idxL (x : List UInt8) : ∀ (l : List (List UInt8)) (i : Nat), Lib.idxFromS (l.map (fun y => ByteArray.mk y.toArray)) ⟨x.toArray⟩ i = match idxL x l i with
    | some k => (k : Int)
    | none => -1
  | [], i => rfl
  | a :: r, i => by
    have ih := idxFrom_idxL x r (i + 1)
    by_cases h : a = x
    · subst h
      simp [Lib.idxFromS, idxL]
    · have h2 : ¬ (ByteArray.mk a.toArray = ByteArray.mk x.toArray) := fun e => h (by
        have := congrArg (fun z : ByteArray => z.data.toList) e
        simpa using this)
      rw [List.map_cons]
      unfold Lib.idxFromS idxL
      rw [if_neg h2, if_neg h]
      exact ih
theorem idx_scZ (x : List UInt8) : Lib.idxOfS (scNames.map (fun y => ByteArray.mk y.toArray)) ⟨x.toArray⟩ = scZ x := idxFrom_idxL x scNames 0
def codeSc (x : List UInt8) : Int := if (scI x).isSome then 0 else 6
def valSc (x : List UInt8) : Int := ((scI x).getD 0 : Nat)
theorem own_ty_ne {w : World} {b1 b2 s1 s2 n1 n2 : Nat} {e1 e2 : TypeId} {v1 v2 : Value} {x1 x2 : List Value} (h1 : w.ownsRow b1 e1 s1 v1 n1 x1) (h2 : w.ownsRow b2 e2 s2 v2 n2 x2) (hne : e1 ≠ e2) : ∀ j, v1.ownBlock = some j → v2.ownBlock ≠ some j := by
  intro j hj hj2
  rcases h1.2 with ⟨rfl, _⟩ | ⟨g, c, cur, rfl, _, hh, _⟩
  · simp [Value.ownBlock] at hj
  · rcases h2.2 with ⟨rfl, _⟩ | ⟨g', c', cur', rfl, _, hh', _⟩
    · simp [Value.ownBlock] at hj2
    · simp only [Value.ownBlock, Option.some.injEq] at hj hj2
      subst hj
      subst hj2
      rw [hh] at hh'
      injection hh' with hh'
      injection hh' with a1 a2
      exact hne a2
set_option maxHeartbeats 1000000 in
theorem w_ReadScale (x : List UInt8) (w : World) :
    Calls Tryz.prog 111 #[sv x] w fun e w' => e = .returned (.tuple #[.int .i64 (valSc x), .int .i64 (codeSc x)]) ∧ Later w w' := by
  go_enter Tryz.func111, Tryz.ntmps111
  go_wp2_with fail
  refine (w_l05Names _).mono ?_
  rintro e w1 ⟨g, rfl, hL, ho⟩
  have HO := Lib.hid ho
  clear ho
  have hz := hL.size
  go_wp2
  go_loopw [5] (fun i wr => ∃ k : Nat, k ≤ 6 ∧ i = .int .i64 (k : Nat) ∧ wr = w1 ∧ Hid (∀ j, j < k → scNames[j]? ≠ some x)) (fun i _ => 6 - (intOf i).toNat)
  case atStart => exact ⟨0, by omega, rfl, rfl, Lib.hid (fun j h => absurd h (by omega))⟩
  case round =>
    obtain ⟨k, hk, rfl, hwr, HN⟩ := hrel
    subst hwr
    have wi : IntKind.i64.wrap ((k : Int) + 1) = (k : Int) + 1 := wrapI (by omega) (by omega)
    by_cases hlt : k < 6
    · have hkb : ((k : Int) < 6) = True := by simp; omega
      obtain ⟨y, hy⟩ := get_ex (l := scNames) (k := k) hlt
      have hc := row_add HO.out k _ (show (strs scNames)[k]? = some (sv y) from by simp only [strs, List.getElem?_map, hy]; rfl)
      rw [addr0] at hc
      have HY := Lib.hid hy
      clear hy
      by_cases hxy : y = x
      · have hb : (y == x) = true := by simpa using hxy
        have HS := Lib.hid (show scI x = some k from by
          have := idxL_hit x scNames 0 k (by rw [HY.out, hxy]) HN.out
          rw [Nat.zero_add] at this
          exact this)
        clear hxy
        go_wp2
        go_ret2
        exact ⟨by rw [valSc, codeSc, HS.out]; rfl, hL⟩
      · have hb : (y == x) = false := by simpa using hxy
        have HX := Lib.hid hxy
        clear hxy
        go_wp2
        go_roundw
        case rel => exact ⟨k + 1, by omega, by go_num, (by first | trivial | rfl), Lib.hid (fun j hj hh => by
          by_cases hjk : j = k
          · subst hjk
            rw [HY.out] at hh
            exact HX.out (Option.some.inj hh)
          · exact HN.out j (by omega) hh)⟩
        case measure => simp [intOf]; omega
    · have hkb : ((k : Int) < 6) = False := by simp; omega
      have HS := Lib.hid (show scI x = none from idxL_miss x scNames 0 (fun j hh => HN.out j (by have := (List.getElem?_eq_some_iff.1 hh).1; have h6 : scNames.length = 6 := rfl; omega) hh))
      go_wp2
      go_ret2
      exact ⟨by rw [valSc, codeSc, HS.out]; rfl, hL⟩
theorem valSc_ok {x : List UInt8} (h : okW x = true) : valSc x = scZ x ∧ codeSc x = 0 := by
  unfold okW at h
  unfold valSc codeSc scZ
  cases hs : scI x with
  | none => rw [hs] at h; cases h
  | some k => simp
theorem codeSc_no {x : List UInt8} (h : okW x = false) : codeSc x = 6 := by
  unfold okW at h
  unfold codeSc
  rw [h]
  rfl
end Go.Proofs.YtgngbdacejghcaaGreatDoor
