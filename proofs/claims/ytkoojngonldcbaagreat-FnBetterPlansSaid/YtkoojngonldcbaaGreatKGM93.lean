/- DERIVED. Walks: copies of rows -/
import Derived.Test.YtkoojngonldcbaaGreatKGP13
import Derived.Test.YtkoojngonldcbaaGreatKGM10
import Derived.Test.YtkoojngonldcbaaGreatKGBA
import Derived.Test.YtkoojngonldcbaaGreatKGPA
namespace Go.Proofs.YtkoojngonldcbaaGreat
set_option linter.unusedVariables false
set_option linter.unusedSimpArgs false
open Go.RowKit
set_option maxRecDepth 100000
theorem w_l01OwnS (ad : Addr) (k cap : Nat) (l : List Int) (w : World) (h : IsNums w (.slice (some ad) k cap) l) :
 Calls Tryz.prog 79 #[.slice (some ad) k cap] w fun e w' => ∃ a k c, e = .returned (.slice a k c) ∧ Later w w' ∧ w'.ownsRow w.heap.size 2 1 (.slice a k c) l.length (nums l) := by
 obtain ⟨h1, h2, a0, cap0, he, h4, h5, h6⟩ := h
 simp only [Value.slice.injEq] at he
 obtain ⟨rfl, rfl, rfl⟩ := he
 have HC := Lib.hid (show ∀ w2 : World, Later w w2 → ∀ j u, (nums l)[j]? = some u → w2.cell? (ad.add j) = some u from by
  intro w2 hL j u hj
  have hlt : j < (nums l).length := (List.getElem?_eq_some_iff.1 hj).1
  rw [nums_len] at hlt
  obtain ⟨b, off, hb, hr⟩ := h6 (by omega)
  simp only [Option.some.injEq] at hb
  subst hb
  exact (hr.later hL).add j u hj)
 clear h6
 go_enter Tryz.func79, Tryz.ntmps79
 go_wp2_with (at_builtin; refine app_Int64 rfl (.tmp 3) (.tmp 4) rfl w.heap.size _ [] rfl (own_empty (Nat.le_refl _) _ _) ad _ _ l rfl rfl (HC.out _ ((Later.refl _).alloc _)) (by simpa using h2) (by simp) ?_; intro v' w1 ho1 hg1)
 have hL1 : Later w w1 := Below.grown ((Later.refl w).alloc _) hg1 (by simp) fun q hq => by cases hq; exact Nat.le_refl _
 have ho2 : w1.ownsRow w.heap.size 2 1 v' l.length (nums l) := by simpa using ho1
 obtain ⟨a, k, e⟩ := isSl_of ho2
 subst e
 clear ho1 hg1
 go_ret
 exact ⟨_, _, _, rfl, hL1, ho2⟩
theorem w_l01OwnP (a : Option Addr) (k cap : Nat) (l : List Int) (w : World) (h : IsNums w (.slice a k cap) l) (ha : ∃ x, a = some x) :
 Calls Tryz.prog 79 #[.slice a k cap] w fun e w' => ∃ a k c, e = .returned (.slice a k c) ∧ Later w w' ∧ w'.ownsRow w.heap.size 2 1 (.slice a k c) l.length (nums l) := by
 obtain ⟨x, rfl⟩ := ha
 exact w_l01OwnS x k cap l w h
theorem own_some {w : World} {base : Nat} {e : TypeId} {s : Nat} {a : Option Addr} {k cap n : Nat} {xs : List Value} (h : w.ownsRow base e s (.slice a k cap) n xs) (h0 : 0 < n) : ∃ x, a = some x := by
 rcases h.2 with ⟨hv, hn⟩ | ⟨g, cap', cur, hv, _⟩
 · omega
 · simp only [Value.slice.injEq] at hv
   exact ⟨_, hv.1⟩
theorem w_cloneIntS (a : Option Addr) (k cap : Nat) (l : List Int) (w : World) (h : IsNums w (.slice a k cap) l) (hn : l = [] → a = none ∧ cap = 0) :
 Calls Tryz.prog 174 #[.slice a k cap] w fun e w' => ∃ a k c, e = .returned (.slice a k c) ∧ Later w w' ∧ w'.ownsRow w.heap.size 2 1 (.slice a k c) l.length (nums l) := by
 obtain ⟨h1, h2, a0, cap0, he, h4, h5, h6⟩ := h
 simp only [Value.slice.injEq] at he
 obtain ⟨rfl, rfl, rfl⟩ := he
 have hnil := fun (wx : World) => Lib.run_eql_slice_nil (P := Tryz.prog) (w := wx) 24
 by_cases h0 : l.length = 0
 · have hl : l = [] := List.eq_nil_of_length_eq_zero h0
   obtain ⟨rfl, rfl⟩ := hn hl
   subst hl
   clear h6 hn
   go_enter Tryz.func174, Tryz.ntmps174
   go_wp2
   go_ret
   exact ⟨none, 0, 0, rfl, Later.refl _, World.ownsRow_nil _ _ _ _⟩
 · obtain ⟨b, off, rfl, hr⟩ := h6 (by omega)
   have HR := Lib.hid hr
   clear hr h6 hn
   go_enter Tryz.func174, Tryz.ntmps174
   go_wp2_with (at_builtin; refine appC_Int64 rfl (.tmp 5) (.tmp 6) rfl w.heap.size l rfl b off _ _ rfl rfl HR.out h2 (Nat.le_refl _) ?_; intro v' w1 ho1 hL1)
   obtain ⟨a, k, e⟩ := isSl_of ho1
   subst e
   go_ret
   exact ⟨_, _, _, rfl, hL1, ho1⟩
theorem w_cloneTrmS (a : Option Addr) (k cap : Nat) (l : List Trm) (w : World) (h : IsTrms w (.slice a k cap) l) (hn : l = [] → a = none ∧ cap = 0) :
 Calls Tryz.prog 175 #[.slice a k cap] w fun e w' => ∃ a k c, e = .returned (.slice a k c) ∧ Later w w' ∧ w'.ownsRow w.heap.size 93 3 (.slice a k c) l.length (trms l) := by
 obtain ⟨h1, h2, a0, cap0, he, h4, h5, h6⟩ := h
 simp only [Value.slice.injEq] at he
 obtain ⟨rfl, rfl, rfl⟩ := he
 have hnil := fun (wx : World) => Lib.run_eql_slice_nil (P := Tryz.prog) (w := wx) 27
 by_cases h0 : l.length = 0
 · have hl : l = [] := List.eq_nil_of_length_eq_zero h0
   obtain ⟨rfl, rfl⟩ := hn hl
   subst hl
   clear h6 hn
   go_enter Tryz.func175, Tryz.ntmps175
   go_wp2
   go_ret
   exact ⟨none, 0, 0, rfl, Later.refl _, World.ownsRow_nil _ _ _ _⟩
 · obtain ⟨b, off, rfl, hr⟩ := h6 (by omega)
   have HR := Lib.hid hr
   clear hr h6 hn
   go_enter Tryz.func175, Tryz.ntmps175
   go_wp2_with (at_builtin; refine appC_Term rfl (.tmp 5) (.tmp 6) rfl w.heap.size l rfl b off _ _ rfl rfl HR.out h2 (Nat.le_refl _) ?_; intro v' w1 ho1 hL1)
   obtain ⟨a, k, e⟩ := isSl_of ho1
   subst e
   go_ret
   exact ⟨_, _, _, rfl, hL1, ho1⟩
theorem w_cloneTrmS' (a : Option Addr) (k cap : Nat) (l : List Trm) (w : World) (hk : k = l.length) (h : Reads w (.slice a k cap) k 3 (trms l)) (hn : l = [] → a = none ∧ cap = 0) :
 Calls Tryz.prog 175 #[.slice a k cap] w fun e w' => ∃ a' k' c, e = .returned (.slice a' k' c) ∧ Later w w' ∧ w'.ownsRow w.heap.size 93 3 (.slice a' k' c) k (trms l) := by
 subst hk
 exact w_cloneTrmS a l.length cap l w h hn
theorem w_l14OrderedS (v u : Value) (c : List Trm) (os : List Int) (w : World) (h : IsTrms w v c) (h' : IsNums w u os) (hr : ∀ k ∈ os, 0 ≤ k ∧ k < c.length) :
 Calls Tryz.prog 84 #[v, u] w fun e w' => ∃ a k q, e = .returned (.slice a k q) ∧ Later w w' ∧ w'.ownsRow w.heap.size 93 3 (.slice a k q) (orderedL c os).length (trms (orderedL c os)) := by
 refine (w_l14Ordered v u c os w h h' hr).mono ?_
 rintro e w1 ⟨v', rfl, hL, ho⟩
 obtain ⟨a, k, e⟩ := isSl_of ho
 subst e
 exact ⟨_, _, _, rfl, hL, ho⟩
theorem wpA_Term {o : Oper} {a : Act} {w : World} {K : Act → World → Prop} {Q : Exit → Act → World → Prop} (s x : Operand)
 (ho : o.op = .call { callee := .builtin .append, args := #[s, x], argTypes := #[27, 27] })
 (base : Nat) (v : Value) (l : List Trm) (hs : a.eval s = v) (hown : w.ownsRow base 93 3 v l.length (trms l))
 (ad : Addr) (m c : Nat) (news : List Trm) (hx : a.eval x = .slice (some ad) m c) (hm : news.length = m) (hnews : ∀ j u, (trms news)[j]? = some u → w.cell? (ad.add j) = some u)
 (hlen : l.length + m ≤ 1048576) (hbase : base ≤ w.heap.size)
 (h : ∀ v' w', w'.ownsRow base 93 3 v' (l ++ news).length (trms (l ++ news)) → w.grownBy w' v.ownBlock → (∀ j, v'.ownBlock = some j → v.ownBlock = some j ∨ w.heap.size ≤ j) → K (a.put o.dst v') w') :
 Oper.wp Tryz.prog o a w K Q := by
 obtain ⟨i0, hi, hz0, hz1, hz2⟩ := info_parts ia_Term
 obtain ⟨v', w', hr, h2, h3, h4, h5⟩ := run_append_own_at (P := Tryz.prog) w base 27 o.type 93 i0 _ 3 24 Tryz.underlying27 hi hz0 hz1 hz2 rfl (by decide) v l.length (trms l) hown ad m c (trms news) (by rw [trms_len, hm]) hnews (oneCell_trms _) (by unfold maxLen; omega) (by omega) hbase
 unfold Oper.wp execOp
 simp only [ho, resolve, invoke, builtin, Sem.run_bind, Sem.run_pure, Result.andThen_ok, List.map_toArray, List.map_cons, List.map_nil, hs, hx, hr]
 refine h v' w' ?_ h3 (fun j hj => ?_)
 · rw [List.length_append, hm, show trms (l ++ news) = trms l ++ trms news from by simp [trms]]
   exact h2
 · rcases h5 with h5 | h5
   · exact .inl (h5.symm.trans hj)
   · rw [h5] at hj
     exact .inr (Nat.le_of_eq (Option.some.inj hj))
end Go.Proofs.YtkoojngonldcbaaGreat
namespace Go.Proofs.YtkoojngonldcbaaGreat
set_option linter.unusedVariables false
set_option linter.unusedSimpArgs false
open Go.RowKit
set_option maxRecDepth 100000
structure Ex (S : Nat → Prop) (w w' : World) : Prop where
 os : w'.os = w.os
 tape : w'.tape = w.tape
 output : w'.output = w.output
 size : w.heap.size ≤ w'.heap.size
 block : ∀ j, j < w.heap.size → ¬ S j → w'.heap[j]? = w.heap[j]?
theorem Ex.refl (S : Nat → Prop) (w : World) : Ex S w w := ⟨rfl, rfl, rfl, Nat.le_refl _, fun _ _ _ => rfl⟩
theorem Ex.trans {S : Nat → Prop} {a b c : World} (h : Ex S a b) (h' : Ex S b c) : Ex S a c :=
 ⟨h'.os.trans h.os, h'.tape.trans h.tape, h'.output.trans h.output, Nat.le_trans h.size h'.size, fun j hj hS => (h'.block j (Nat.lt_of_lt_of_le hj h.size) hS).trans (h.block j hj hS)⟩
theorem Ex.of {S : Nat → Prop} {w w' : World} (h : Later w w') : Ex S w w' := ⟨h.os, h.tape, h.output, h.size, fun j hj _ => h.block j hj⟩
theorem Ex.later {S : Nat → Prop} {a b c : World} (h : Ex S a b) (h' : Later b c) : Ex S a c := h.trans (.of h')
theorem Ex.keep {S : Nat → Prop} {w w' : World} (h : Ex S w w') {j : Nat} {x : Obj} (hx : w.heap[j]? = some x) (hS : ¬ S j) : w'.heap[j]? = some x :=
 (h.block j (Array.getElem?_eq_some_iff.1 hx).1 hS).trans hx
theorem Ex.below {S : Nat → Prop} {B : Nat} {w w' : World} (h : Ex S w w') (hB : B ≤ w.heap.size) (hS : ∀ j, S j → B ≤ j) : Below B w w' :=
 ⟨h.os, h.tape, h.output, h.size, fun j hj => h.block j (by omega) (fun e => by have := hS j e; omega)⟩
theorem Ex.setCell {S : Nat → Prop} (w : World) (k o : Nat) (x : Value) (hS : S k) : Ex S w (w.setCell ⟨k, o, none⟩ x) :=
 ⟨rfl, rfl, rfl, by simp [World.setCell], fun j _ hj => Below.heap_setCell _ _ _ _ (fun e => hj (e ▸ hS))⟩
theorem Ex.mono {S T : Nat → Prop} {w w' : World} (h : Ex S w w') (hST : ∀ j, S j → T j) : Ex T w w' := ⟨h.os, h.tape, h.output, h.size, fun j hj hT => h.block j hj (fun e => hT (hST j e))⟩
theorem Ex.drop {S T : Nat → Prop} {a b c : World} (h : Ex T a b) (h' : Ex S b c) (hST : ∀ j, S j → j < a.heap.size → T j) : Ex T a c :=
 ⟨h'.os.trans h.os, h'.tape.trans h.tape, h'.output.trans h.output, Nat.le_trans h.size h'.size, fun j hj hT => (h'.block j (Nat.lt_of_lt_of_le hj h.size) (fun e => hT (hST j e hj))).trans (h.block j hj hT)⟩
theorem Ex.all {S : Nat → Prop} {a b : World} (h : Ex S a b) (hS : ∀ j, S j → a.heap.size ≤ j) : Later a b := h.below (Nat.le_refl _) hS
def Two (a b : Nat) (j : Nat) : Prop := j = a ∨ j = b
theorem owns_ex {S : Nat → Prop} {w w' : World} {base : Nat} {e : TypeId} {s : Nat} {v : Value} {n : Nat} {xs : List Value} (ho : w.ownsRow base e s v n xs) (hX : Ex S w w') (hS : ∀ j, S j → j < base) : w'.ownsRow base e s v n xs := by
 refine ⟨ho.1, ho.2.imp_right ?_⟩
 rintro ⟨g, cap, cur, hv, hb, hh, h1, h2, h3, h4⟩
 exact ⟨g, cap, cur, hv, hb, hX.keep hh (fun e => by have := hS g e; omega), h1, h2, h3, h4⟩
theorem own_len {w : World} {base : Nat} {e : TypeId} {s : Nat} {v : Value} {n m : Nat} {xs : List Value} (ho : w.ownsRow base e s v n xs) (h : n = m) : w.ownsRow base e s v m xs := h ▸ ho
theorem Later.ex' {S : Nat → Prop} {a b c : World} (h : Later a b) (h' : Ex S b c) (hS : ∀ j, S j → a.heap.size ≤ j) : Later a c := Below.trans h (h'.below h.size hS)
def BestSt (w : World) (kL kB base : Nat) (s : List Int × Int) : Prop :=
 w.heap[kL]? = some (.cells #[.int .i64 s.2] 2 (0, 0)) ∧ ∃ a l k, w.heap[kB]? = some (.cells #[.slice a l k] 24 (0, 0)) ∧ w.ownsRow base 2 1 (.slice a l k) s.1.length (nums s.1)
theorem BestSt.later {w w' : World} {kL kB base : Nat} {s : List Int × Int} (h : BestSt w kL kB base s) (hL : Later w w') : BestSt w' kL kB base s := by
 obtain ⟨h1, a, l, k, h2, h3⟩ := h
 exact ⟨hL.keep h1, a, l, k, hL.keep h2, owns_later h3 hL⟩
end Go.Proofs.YtkoojngonldcbaaGreat
