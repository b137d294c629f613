/- DERIVED. What the arguments of a law read as: rules, settings, moves, errors, intervals. -/
import Derived.Test.YtldojpelnghplaaGreatO1
namespace Go.Proofs.YtldojpelnghplaaGreat
set_option linter.unusedVariables false
set_option linter.unusedSimpArgs false
open Go.RowKit Go.ChangeShapes Go.WideShapes Go.ChangeAt Go.Deep
set_option maxRecDepth 100000

section
variable {H : Type} {enc : TypeId × Value → H} {W : World}

theorem o_nums {fuel : Nat} {c : Value} {x : DataW H × List MemPlace} (h : DataW.trod enc Tryz.prog W 0 (fun _ => true) true fuel 22 [c] = some x) : ∃ l : List Int, Raw W c l.length 1 (nums l) := by
  have hs : ∃ a len cap, c = .slice a len cap := by
    rcases open_slice Tryz.underlying22 h with ⟨hcs, _⟩ | ⟨ad, l, c', m, n, D, Pl, hcs, _⟩
    · simp at hcs; exact ⟨_, _, _, hcs⟩
    · simp at hcs; exact ⟨_, _, _, hcs⟩
  obtain ⟨a, len, cap, rfl⟩ := hs
  obtain ⟨d, p⟩ := x
  exact o_lInt64S (d := d) (p := p) ⟨fuel, by simpa [Value.cells] using h⟩

theorem o_lRule' {r : Reach} {b0 : Nat} {v : Value} {d : DataW H} {p : List MemPlace} (hv : Value.okWide Tryz.prog W r b0 24 v) (h : DataW.Trod enc Tryz.prog W 0 (fun _ => true) true 24 v d p) :
    ∃ (n : Int) (va vb : Value) (la lb : List Int), v = .agg #[.int .i64 n, va, vb] ∧ Raw W va la.length 1 (nums la) ∧ Raw W vb lb.length 1 (nums lb) := by
  obtain ⟨cs, rfl, _⟩ := okWide_struct Tryz.underlying24 hv
  obtain ⟨fuel, hf0⟩ := h
  obtain ⟨xs, n, _, _, hl, hxs, hf⟩ := DataW.trod_struct Tryz.underlying24 hf0
  rw [show Tryz.prog.cellsOf 24 = 3 from by kernel_rfl] at hl
  obtain ⟨l⟩ := cs
  simp only [Value.cells] at hl hf
  match l, hl with
  | [c0, c1, c2], _ =>
    have h0 := hf 0 _ rfl
    have h1 := hf 1 _ rfl
    have h2 := hf 2 _ rfl
    rw [List.getElem?_eq_getElem (by rw [hxs]; decide)] at h0 h1 h2
    simp [show Tryz.prog.cellsOf 2 = 1 from by kernel_rfl, show Tryz.prog.cellsOf 22 = 1 from by kernel_rfl] at h0 h1 h2
    obtain ⟨k, e0, _⟩ := DataW.trod_int Tryz.underlying2 h0
    obtain ⟨la, ha⟩ := o_nums h1
    obtain ⟨lb, hb⟩ := o_nums h2
    simp at e0
    exact ⟨k, c1, c2, la, lb, by rw [e0], ha, hb⟩

theorem o_lErrors' {r : Reach} {b0 : Nat} {v : Value} {d : DataW H} {p : List MemPlace} (hv : Value.okWide Tryz.prog W r b0 27 v) (h : DataW.Trod enc Tryz.prog W 0 (fun _ => true) true 27 v d p) :
    ∃ a b c : Int, v = .agg #[.int .i64 a, .int .i64 b, .int .i64 c] := by
  obtain ⟨cs, rfl, _⟩ := okWide_struct Tryz.underlying27 hv
  obtain ⟨fuel, hf0⟩ := h
  obtain ⟨xs, n, _, _, hl, hxs, hf⟩ := DataW.trod_struct Tryz.underlying27 hf0
  rw [show Tryz.prog.cellsOf 27 = 3 from by kernel_rfl] at hl
  obtain ⟨l⟩ := cs
  simp only [Value.cells] at hl hf
  match l, hl with
  | [c0, c1, c2], _ =>
    have h0 := hf 0 _ rfl
    have h1 := hf 1 _ rfl
    have h2 := hf 2 _ rfl
    rw [List.getElem?_eq_getElem (by rw [hxs]; decide)] at h0 h1 h2
    simp [show Tryz.prog.cellsOf 2 = 1 from by kernel_rfl] at h0 h1 h2
    obtain ⟨k0, e0, _⟩ := DataW.trod_int Tryz.underlying2 h0
    obtain ⟨k1, e1, _⟩ := DataW.trod_int Tryz.underlying2 h1
    obtain ⟨k2, e2, _⟩ := DataW.trod_int Tryz.underlying2 h2
    simp at e0 e1 e2
    exact ⟨k0, k1, k2, by rw [e0, e1, e2]⟩

end

end Go.Proofs.YtldojpelnghplaaGreat
