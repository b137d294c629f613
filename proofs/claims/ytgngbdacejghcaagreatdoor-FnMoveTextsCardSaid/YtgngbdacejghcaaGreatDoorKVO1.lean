/- DERIVED. What the arguments of a law read as. -/
import Derived.ProofKit
import Derived.OpenShut
import Derived.ShutString
import Derived.ChangeOld
import Derived.Deep.Slices
import Derived.Lib.SmallJoins
import Derived.Test.YtgngbdacejghcaaGreatDoorKVBA
namespace Go.Proofs.YtgngbdacejghcaaGreatDoor
set_option linter.unusedVariables false
set_option linter.unusedSimpArgs false
open Go.RowKit Go.ChangeShapes Go.WideShapes Go.ChangeAt Go.Deep
set_option maxRecDepth 100000
theorem o_own : ownKnob Tryz.prog.godebug = none := by kernel_rfl
theorem o_laidOut : laidOutB Tryz.prog = true := by kernel_rfl
def Raw (w : World) (v : Value) (n sz : Nat) (xs : List Value) : Prop :=
 xs.length = n * sz ∧ ∃ a cap, v = .slice a n cap ∧ n ≤ cap ∧ cap ≤ 9223372036854775807 ∧ (0 < n → ∃ b off, a = some ⟨b, off, none⟩ ∧ RowAt w b off xs)
theorem Raw.reads {w : World} {v : Value} {n sz : Nat} {xs : List Value} (h : Raw w v n sz xs) (hn : n ≤ 1048576) : Reads w v n sz xs := ⟨h.1, hn, h.2⟩
theorem list_of {α : Type} : ∀ (n : Nat) (P : Nat → α → Prop), (∀ i, i < n → ∃ x, P i x) → ∃ l : List α, l.length = n ∧ ∀ i x, l[i]? = some x → P i x
 | 0, _, _ => ⟨[], rfl, fun i x h => by simp at h⟩
 | n + 1, P, h => by
  obtain ⟨l, hl, hp⟩ := list_of n P fun i hi => h i (by omega)
  obtain ⟨x, hx⟩ := h n (by omega)
  refine ⟨l ++ [x], by simp [hl], fun i y hy => ?_⟩
  by_cases hi : i < l.length
  · exact hp i y (by rwa [List.getElem?_append_left hi] at hy)
  · rw [List.getElem?_append_right (by omega)] at hy
    have : i - l.length = 0 := by
     have := (List.getElem?_eq_some_iff.1 hy).1
     simp at this
     omega
    rw [this] at hy
    simp at hy
    rw [← hy, show i = n from by omega]
    exact hx
theorem flat_inv {α : Type} (f : α → List Value) (n : Nat) (hf : ∀ x, (f x).length = n) (h0 : 0 < n) (l : List α) (j : Nat) (u : Value) (h : (l.flatMap f)[j]? = some u) : ∃ x, l[j / n]? = some x ∧ (f x)[j % n]? = some u := by
 have hj := (List.getElem?_eq_some_iff.1 h).1
 rw [flat_len f n hf] at hj
 have hlt : j / n < l.length := (Nat.div_lt_iff_lt_mul h0).2 hj
 obtain ⟨x, hx⟩ := get_ex hlt
 refine ⟨x, hx, ?_⟩
 have := flat_get f n hf l (j / n) (j % n) x hx (Nat.mod_lt _ h0)
 rw [Nat.mul_comm, Nat.div_add_mod] at this
 rw [← this]; exact h
section
variable {H : Type} {enc : TypeId × Value → H} {W : World}
theorem raw_of {α : Type} (f : α → List Value) (sz : Nat) (hf : ∀ x, (f x).length = sz) (h0 : 0 < sz) {t e : TypeId} (ht : Tryz.prog.underlying t = some (.slice e)) (hC : Tryz.prog.cellsOf e = sz)
 (hel : ∀ (fuel : Nat) (cs : List Value) (x : DataW H × List MemPlace), DataW.trod enc Tryz.prog W 0 (fun _ => true) true fuel e cs = some x → ∃ y, cs = f y)
 {a : Option Addr} {len cap : Nat} {d : DataW H} {p : List MemPlace} (h : DataW.Trod enc Tryz.prog W 0 (fun _ => true) true t (.slice a len cap) d p) :
 ∃ l : List α, Raw W (.slice a len cap) l.length sz (l.flatMap f) := by
 obtain ⟨fuel, hx⟩ := h
 rcases open_slice ht hx with ⟨hcs, _⟩ | ⟨ad, l, c, m, n, D, Pl, hcs, _, hl, hm, hmm, _, hi⟩
 · simp [Value.cells] at hcs
   obtain ⟨rfl, rfl, rfl⟩ := hcs
   exact ⟨[], by simp, none, 0, rfl, Nat.le_refl _, by decide, fun h => absurd h (Nat.lt_irrefl _)⟩
 · simp [Value.cells] at hcs
   obtain ⟨rfl, rfl, rfl⟩ := hcs
   simp only [if_true] at hmm
   subst hmm
   obtain ⟨ls, hll, hp⟩ := list_of (α := α) len (fun i y => ∀ j u, (f y)[j]? = some u → W.cell? (ad.add (i * sz + j)) = some u) (fun i hil => by
    obtain ⟨cs', hc, htr⟩ := hi i (by omega)
    obtain ⟨y, rfl⟩ := hel _ _ _ htr
    refine ⟨y, fun j u hj => ?_⟩
    obtain ⟨_, hcl, hat⟩ := World.cells?_some hc
    have hjl := (List.getElem?_eq_some_iff.1 hj).1
    rw [← Go.Deep.add_add]
    rw [hC] at hat
    exact (hat j (by rw [hf] at hjl; exact hjl)).trans hj)
   subst hll
   refine ⟨ls, flat_len f sz hf ls, _, m, rfl, hl, hm, fun hpos => ?_⟩
   obtain ⟨y0, hy0⟩ := get_ex hpos
   obtain ⟨b, off, spot⟩ := ad
   have hu : (f y0)[0]? = some ((f y0)[0]'(by rw [hf]; exact h0)) := List.getElem?_eq_getElem _
   have h1 := hp 0 y0 hy0 0 _ hu
   have hspot : spot = none := by simpa [Addr.add] using World.cell?_spot h1
   subst hspot
   refine ⟨b, off, rfl, World.block_lt_of_cell? W ⟨b, off, none⟩ (by simpa [Addr.add] using h1), fun j u hj => ?_⟩
   obtain ⟨x, hx, hux⟩ := flat_inv f sz hf h0 ls j u hj
   have := hp _ x hx _ u hux
   rw [Nat.mul_comm, Nat.div_add_mod] at this
   have hadd : (Addr.add ⟨b, off, none⟩ j) = ⟨b, off + j, none⟩ := by
    unfold Addr.add
    split
    · rename_i hz; subst hz; rfl
    · rfl
   rwa [hadd] at this
end
end Go.Proofs.YtgngbdacejghcaaGreatDoor
