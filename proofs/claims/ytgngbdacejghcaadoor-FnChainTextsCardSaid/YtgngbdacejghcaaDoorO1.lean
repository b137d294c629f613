/- DERIVED. What the arguments of a law read as. -/
import Derived.Test.YtgngbdacejghcaaDoorBA
import Derived.ProofKit
import Derived.OpenShut
import Derived.ShutString
import Derived.ChangeOld
import Derived.Deep.Slices
import Derived.Lib.SmallJoins
namespace Go.Proofs.YtgngbdacejghcaaDoor
set_option linter.unusedVariables false
set_option linter.unusedSimpArgs false
open Go.RowKit Go.ChangeShapes Go.WideShapes Go.ChangeAt Go.Deep
set_option maxRecDepth 100000

theorem o_own : ownKnob Tryd.prog.godebug = none := by kernel_rfl
theorem o_laidOut : laidOutB Tryd.prog = true := by kernel_rfl

/-- A slice value that came in: what it reads as, of whatever length. -/
def Raw (w : World) (v : Value) (n sz : Nat) (xs : List Value) : Prop :=
  xs.length = n * sz ∧ ∃ a cap, v = .slice a n cap ∧ n ≤ cap ∧ cap ≤ 9223372036854775807 ∧ (0 < n → ∃ b off, a = some ⟨b, off, none⟩ ∧ RowAt w b off xs)

theorem Raw.reads {w : World} {v : Value} {n sz : Nat} {xs : List Value} (h : Raw w v n sz xs) (hn : n ≤ 1048576) : Reads w v n sz xs := ⟨h.1, hn, h.2⟩

theorem list_of {α : Type} : ∀ (n : Nat) (P : Nat → α → Prop), (∀ i, i < n → ∃ x, P i x) → ∃ l : List α, l.length = n ∧ ∀ i x, l[i]? = some x → P i x
  | 0, _, _ => ⟨[], rfl, fun i x h => by simp at h⟩
  | n + 1, P, h => by
    obtain ⟨l, hl, hp⟩ := list_of n P fun i hi => h i (by omega)
    obtain ⟨x, hx⟩ := h n (by omega)
    refine ⟨l ++ [x], by simp [hl], fun i y hy => ?_⟩
    by_cases hi : i < l.length
    · exact hp i y (by rwa [List.getElem?_append_left hi] at hy)
    · rw [List.getElem?_append_right (by omega)] at hy
      have : i - l.length = 0 := by
        have := (List.getElem?_eq_some_iff.1 hy).1
        simp at this
        omega
      rw [this] at hy
      simp at hy
      rw [← hy, show i = n from by omega]
      exact hx

theorem flat_inv {α : Type} (f : α → List Value) (n : Nat) (hf : ∀ x, (f x).length = n) (h0 : 0 < n) (l : List α) (j : Nat) (u : Value) (h : (l.flatMap f)[j]? = some u) : ∃ x, l[j / n]? = some x ∧ (f x)[j % n]? = some u := by
  have hj := (List.getElem?_eq_some_iff.1 h).1
  rw [flat_len f n hf] at hj
  have hlt : j / n < l.length := (Nat.div_lt_iff_lt_mul h0).2 hj
  obtain ⟨x, hx⟩ := get_ex hlt
  refine ⟨x, hx, ?_⟩
  have := flat_get f n hf l (j / n) (j % n) x hx (Nat.mod_lt _ h0)
  rw [Nat.mul_comm, Nat.div_add_mod] at this
  rw [← this]; exact h

section
variable {H : Type} {enc : TypeId × Value → H} {W : World}

theorem raw_of {α : Type} (f : α → List Value) (sz : Nat) (hf : ∀ x, (f x).length = sz) (h0 : 0 < sz) {t e : TypeId} (ht : Tryd.prog.underlying t = some (.slice e)) (hC : Tryd.prog.cellsOf e = sz)
    (hel : ∀ (fuel : Nat) (cs : List Value) (x : DataW H × List MemPlace), DataW.trod enc Tryd.prog W 0 (fun _ => true) true fuel e cs = some x → ∃ y, cs = f y)
    {a : Option Addr} {len cap : Nat} {d : DataW H} {p : List MemPlace} (h : DataW.Trod enc Tryd.prog W 0 (fun _ => true) true t (.slice a len cap) d p) :
    ∃ l : List α, Raw W (.slice a len cap) l.length sz (l.flatMap f) := by
  obtain ⟨fuel, hx⟩ := h
  rcases open_slice ht hx with ⟨hcs, _⟩ | ⟨ad, l, c, m, n, D, Pl, hcs, _, hl, hm, hmm, _, hi⟩
  · simp [Value.cells] at hcs
    obtain ⟨rfl, rfl, rfl⟩ := hcs
    exact ⟨[], by simp, none, 0, rfl, Nat.le_refl _, by decide, fun h => absurd h (Nat.lt_irrefl _)⟩
  · simp [Value.cells] at hcs
    obtain ⟨rfl, rfl, rfl⟩ := hcs
    simp only [if_true] at hmm
    subst hmm
    obtain ⟨ls, hll, hp⟩ := list_of (α := α) len (fun i y => ∀ j u, (f y)[j]? = some u → W.cell? (ad.add (i * sz + j)) = some u) (fun i hil => by
      obtain ⟨cs', hc, htr⟩ := hi i (by omega)
      obtain ⟨y, rfl⟩ := hel _ _ _ htr
      refine ⟨y, fun j u hj => ?_⟩
      obtain ⟨_, hcl, hat⟩ := World.cells?_some hc
      have hjl := (List.getElem?_eq_some_iff.1 hj).1
      rw [← Go.Deep.add_add]
      rw [hC] at hat
      exact (hat j (by rw [hf] at hjl; exact hjl)).trans hj)
    subst hll
    refine ⟨ls, flat_len f sz hf ls, _, m, rfl, hl, hm, fun hpos => ?_⟩
    obtain ⟨y0, hy0⟩ := get_ex hpos
    obtain ⟨b, off, spot⟩ := ad
    have hu : (f y0)[0]? = some ((f y0)[0]'(by rw [hf]; exact h0)) := List.getElem?_eq_getElem _
    have h1 := hp 0 y0 hy0 0 _ hu
    have hspot : spot = none := by simpa [Addr.add] using World.cell?_spot h1
    subst hspot
    refine ⟨b, off, rfl, World.block_lt_of_cell? W ⟨b, off, none⟩ (by simpa [Addr.add] using h1), fun j u hj => ?_⟩
    obtain ⟨x, hx, hux⟩ := flat_inv f sz hf h0 ls j u hj
    have := hp _ x hx _ u hux
    rw [Nat.mul_comm, Nat.div_add_mod] at this
    have hadd : (Addr.add ⟨b, off, none⟩ j) = ⟨b, off + j, none⟩ := by
      unfold Addr.add
      split
      · rename_i hz; subst hz; rfl
      · rfl
    rwa [hadd] at this

theorem o_lFigure {fuel : Nat} {cs : List Value} {x : DataW H × List MemPlace} (h : DataW.trod enc Tryd.prog W 0 (fun _ => true) true fuel 62 cs = some x) : ∃ y : Fig, cs = y.cells := by
  obtain ⟨xs, n, _, _, hl, hxs, hf⟩ := DataW.trod_struct Tryd.underlying62 h
  rw [show Tryd.prog.cellsOf 62 = 2 from by kernel_rfl] at hl
  match cs, hl with
  | [c0, c1], _ =>
    have h0 := hf 0 _ rfl
    have h1 := hf 1 _ rfl
    rw [List.getElem?_eq_getElem (by rw [hxs]; decide)] at h0 h1
    simp [show Tryd.prog.cellsOf 2 = 1 from by kernel_rfl] at h0 h1
    obtain ⟨d, e0, _⟩ := DataW.trod_int Tryd.underlying2 h0
    obtain ⟨t, e1, _⟩ := DataW.trod_int Tryd.underlying2 h1
    simp at e0 e1
    exact ⟨⟨d, t⟩, by simp [Fig.cells, e0, e1]⟩

theorem o_lTerm {fuel : Nat} {cs : List Value} {x : DataW H × List MemPlace} (h : DataW.trod enc Tryd.prog W 0 (fun _ => true) true fuel 64 cs = some x) : ∃ y : Trm, cs = y.cells := by
  obtain ⟨xs, n, _, _, hl, hxs, hf⟩ := DataW.trod_struct Tryd.underlying64 h
  rw [show Tryd.prog.cellsOf 64 = 3 from by kernel_rfl] at hl
  match cs, hl with
  | [c0, c1, c2], _ =>
    have h0 := hf 0 _ rfl
    have h1 := hf 1 _ rfl
    rw [List.getElem?_eq_getElem (by rw [hxs]; decide)] at h0 h1
    simp [show Tryd.prog.cellsOf 62 = 2 from by kernel_rfl, show Tryd.prog.cellsOf 4 = 1 from by kernel_rfl] at h0 h1
    obtain ⟨f, ef⟩ := o_lFigure h0
    obtain ⟨dv, e1, _⟩ := DataW.trod_bool Tryd.underlying4 h1
    simp [Fig.cells] at ef e1
    exact ⟨⟨f, dv⟩, by simp [Trm.cells, ef, e1]⟩

theorem o_lTermS {a : Option Addr} {len cap : Nat} {d : DataW H} {p : List MemPlace} (h : DataW.Trod enc Tryd.prog W 0 (fun _ => true) true 22 (.slice a len cap) d p) :
    ∃ l : List Trm, Raw W (.slice a len cap) l.length 3 (trms l) :=
  raw_of Trm.cells 3 (fun _ => rfl) (by decide) Tryd.underlying22 (by kernel_rfl) (fun _ _ _ h => o_lTerm h) h

theorem o_lMove {fuel : Nat} {cs : List Value} {x : DataW H × List MemPlace} (h : DataW.trod enc Tryd.prog W 0 (fun _ => true) true fuel 73 cs = some x) : ∃ y : Mov, cs = y.cells := by
  obtain ⟨xs, n, _, _, hl, hxs, hf⟩ := DataW.trod_struct Tryd.underlying73 h
  rw [show Tryd.prog.cellsOf 73 = 4 from by kernel_rfl] at hl
  match cs, hl with
  | [c0, c1, c2, c3], _ =>
    have h0 := hf 0 _ rfl
    have h1 := hf 1 _ rfl
    have h2 := hf 2 _ rfl
    rw [List.getElem?_eq_getElem (by rw [hxs]; decide)] at h0 h1 h2
    simp [show Tryd.prog.cellsOf 62 = 2 from by kernel_rfl, show Tryd.prog.cellsOf 2 = 1 from by kernel_rfl] at h0 h1 h2
    obtain ⟨k, e0, _⟩ := DataW.trod_int Tryd.underlying2 h0
    obtain ⟨s, e1, _⟩ := DataW.trod_int Tryd.underlying2 h1
    obtain ⟨f, ef⟩ := o_lFigure h2
    simp [Fig.cells] at ef e0 e1
    exact ⟨⟨k, s, f⟩, by simp [Mov.cells, ef, e0, e1]⟩

theorem o_lMoveS {a : Option Addr} {len cap : Nat} {d : DataW H} {p : List MemPlace} (h : DataW.Trod enc Tryd.prog W 0 (fun _ => true) true 30 (.slice a len cap) d p) :
    ∃ l : List Mov, Raw W (.slice a len cap) l.length 4 (movs l) :=
  raw_of Mov.cells 4 (fun _ => rfl) (by decide) Tryd.underlying30 (by kernel_rfl) (fun _ _ _ h => o_lMove h) h

theorem o_lInt64S {a : Option Addr} {len cap : Nat} {d : DataW H} {p : List MemPlace} (h : DataW.Trod enc Tryd.prog W 0 (fun _ => true) true 37 (.slice a len cap) d p) :
    ∃ l : List Int, Raw W (.slice a len cap) l.length 1 (nums l) := by
  obtain ⟨l, hl⟩ := raw_of (fun x : Int => [Value.int .i64 x]) 1 (fun _ => rfl) (by decide) Tryd.underlying37 (by kernel_rfl) (fun _ _ _ h => by
    obtain ⟨n, rfl, _⟩ := DataW.trod_int Tryd.underlying2 h
    exact ⟨n, rfl⟩) h
  refine ⟨l, ?_⟩
  rwa [show l.flatMap (fun x : Int => [Value.int .i64 x]) = nums l from by simp [nums, List.flatMap_singleton' , List.map_eq_flatMap]] at hl

theorem o_lFigure' {r : Reach} {b0 : Nat} {v : Value} {d : DataW H} {p : List MemPlace} (hv : Value.okWide Tryd.prog W r b0 62 v) (h : DataW.Trod enc Tryd.prog W 0 (fun _ => true) true 62 v d p) :
    ∃ a b : Int, v = .agg #[.int .i64 a, .int .i64 b] := by
  obtain ⟨cs, rfl, _⟩ := okWide_struct Tryd.underlying62 hv
  obtain ⟨fuel, hf⟩ := h
  obtain ⟨y, hy⟩ := o_lFigure hf
  obtain ⟨l⟩ := cs
  simp [Value.cells, Fig.cells] at hy
  exact ⟨y.d, y.t, by rw [hy]⟩

end

end Go.Proofs.YtgngbdacejghcaaDoor
