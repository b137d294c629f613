/- DERIVED. Walks: moves as text. -/
import Derived.Lib.Join
import Derived.Test.YtgngbdacejghcaaGreatDoorKUD3
import Derived.Test.YtgngbdacejghcaaGreatDoorKUD6
import Derived.Test.YtgngbdacejghcaaGreatDoorKUM7
namespace Go.Proofs.YtgngbdacejghcaaGreatDoor
set_option linter.unusedVariables false
set_option linter.unusedSimpArgs false
open Go.RowKit
set_option maxRecDepth 100000
set_option linter.unusedVariables false
def strs (l : List (List UInt8)) : List Value := l.map sv
theorem strs_len (l : List (List UInt8)) : (strs l).length = l.length * 1 := by simp [strs]
theorem ia_String : (Tryz.prog.info? 9).map (fun i => (i.zero, i.size, i.bytes)) = some (some (.string ⟨#[]⟩), 1, 16) := by kernel_rfl
theorem oneCell_strs : ∀ (l : List (List UInt8)), ∀ u ∈ strs l, u.oneCell' = true := by
 intro l u hu
 simp only [strs, List.mem_map] at hu
 obtain ⟨x, _, rfl⟩ := hu
 rfl
theorem app_String {ops : Array Oper} {rest : List Oper} {o : Oper} {a : Act} {w : World} {Q : Exit → Act → World → Prop} (hgd : o.guard = none) (s x : Operand)
 (ho : o.op = .call { callee := .builtin .append, args := #[s, x], argTypes := #[88, 88] })
 (base : Nat) (v : Value) (l : List (List UInt8)) (hs : a.eval s = v) (hown : w.ownsRow base 9 1 v l.length (strs l))
 (ad : Addr) (m c : Nat) (news : List (List UInt8)) (hx : a.eval x = .slice (some ad) m c) (hm : news.length = m) (hnews : ∀ j u, (strs news)[j]? = some u → w.cell? (ad.add j) = some u)
 (hlen : l.length + m ≤ 1048576) (hbase : base ≤ w.heap.size)
 (h : ∀ v' w', w'.ownsRow base 9 1 v' (l ++ news).length (strs (l ++ news)) → w.grownBy w' v.ownBlock → wpList Tryz.prog ops Q rest (a.put o.dst v') w') : wpList Tryz.prog ops Q (o :: rest) a w := by
 obtain ⟨i0, hi, hz0, hz1, hz2⟩ := info_parts ia_String
 refine wpList_append_own w hgd s x 88 ho base 9 i0 _ 1 16 Tryz.underlying88 hi hz0 hz1 hz2 rfl (by decide) v l.length (strs l) hs hown ad m c (strs news) hx (by rw [strs_len, hm]) hnews (oneCell_strs _) (by unfold maxLen; omega) (by omega) hbase ?_
 intro v' w' ho' hg _
 refine h v' w' ?_ hg
 rw [List.length_append, hm, show strs (l ++ news) = strs l ++ strs news from by simp [strs]]
 exact ho'
theorem app1_String {ops : Array Oper} {rest : List Oper} {o : Oper} {a : Act} {w : World} {Q : Exit → Act → World → Prop} (hgd : o.guard = none) (s x' : Operand)
 (ho : o.op = .call { callee := .builtin .append, args := #[s, x'], argTypes := #[88, 88] })
 (base : Nat) (v : Value) (l : List (List UInt8)) (x : List UInt8) (hs : a.eval s = v) (hown : w.ownsRow base 9 1 v l.length (strs l))
 (hx : a.eval x' = .slice (some ⟨w.heap.size, 0, none⟩) 1 1) (hlen : l.length + 1 ≤ 1048576) (hbase : base ≤ w.heap.size)
 (h : ∀ v' w', w'.ownsRow base 9 1 v' (l ++ [x]).length (strs (l ++ [x])) → w.grownBy w' v.ownBlock → wpList Tryz.prog ops Q rest (a.put o.dst v') w') :
 wpList Tryz.prog ops Q (o :: rest) a (w.alloc (.cells #[sv x] 9)) := by
 refine app_String hgd s x' ho base v l hs (hown.alloc _) ⟨w.heap.size, 0, none⟩ 1 1 [x] hx rfl ?_ hlen (Nat.le_trans hbase (by simp)) fun v' w' h1 h2 => h v' w' h1 (grown_alloc h2)
 intro j u hj
 have hb : (w.alloc (.cells #[sv x] 9)).heap[w.heap.size]? = some (.cells #[sv x] 9 (0, 0)) := heap_alloc_new _ _
 have ha : (Addr.add ⟨w.heap.size, 0, none⟩ j) = ⟨w.heap.size, j, none⟩ := by
  unfold Addr.add
  split
  · rename_i hz; subst hz; rfl
  · simp
 rw [ha]
 simp only [World.cell?, hb]
 simpa [strs] using hj
def scNames : List (List UInt8) := [[67], [65], [75], [67, 73], [67, 70], [76]]
def scB (s : Int) : List UInt8 := scNames.getD s.toNat []
def idxPtr : Value → Nat → Value
 | .slice (some a) _ _, i => .pointer (some ⟨a.block, i, none⟩)
 | _, _ => undef
theorem addr0 (g i : Nat) : (Addr.add ⟨g, 0, none⟩ i) = ⟨g, i, none⟩ := by
 unfold Addr.add
 split
 · rename_i hz; subst hz; rfl
 · simp
theorem scB_len (s : Int) : (scB s).length ≤ 2 := by
 have : ∀ x ∈ scNames, x.length ≤ 2 := by decide
 unfold scB
 rw [List.getD_eq_getElem?_getD]
 cases h : scNames[s.toNat]? with
 | none => simp
 | some x => exact this x (List.mem_of_getElem? h)
theorem scB_at {s : Int} (h0 : 0 ≤ s) (h5 : s ≤ 5) : (strs scNames)[s.toNat]? = some (sv (scB s)) := by
 obtain ⟨n, rfl⟩ : ∃ n : Nat, s = n := ⟨s.toNat, by omega⟩
 have hn : n < 6 := by omega
 simp only [strs, List.getElem?_map, scB, Int.toNat_natCast]
 rw [List.getD_eq_getElem?_getD, show scNames[n]? = some (scNames[n]'hn) from List.getElem?_eq_getElem hn]
 rfl
theorem w_scaleNames (w : World) :
 Calls Tryz.prog 103 #[] w fun e w' => ∃ k, e = .returned (.slice (some ⟨k, 0, none⟩) 6 6) ∧ Later w w' ∧ w'.ownsRow w.heap.size 9 1 (.slice (some ⟨k, 0, none⟩) 6 6) 6 (strs scNames) := by
 go_enter Tryz.func103, Tryz.ntmps103
 go_wp2
 go_ret
 exact ⟨_, rfl, (Later.refl _).alloc _, World.ownsRow_lit w #[sv [67], sv [65], sv [75], sv [67, 73], sv [67, 70], sv [76]] 6 (Nat.le_refl _) (by decide) (by simp)⟩
theorem w_l05Names (w : World) :
 Calls Tryz.prog 107 #[] w fun e w' => ∃ k, e = .returned (.slice (some ⟨k, 0, none⟩) 6 6) ∧ Later w w' ∧ w'.ownsRow w.heap.size 9 1 (.slice (some ⟨k, 0, none⟩) 6 6) 6 (strs scNames) := by
 go_enter Tryz.func107, Tryz.ntmps107
 go_wp2
 go_ret
 exact ⟨_, rfl, (Later.refl _).alloc _, World.ownsRow_lit w #[sv [67], sv [65], sv [75], sv [67, 73], sv [67, 70], sv [76]] 6 (Nat.le_refl _) (by decide) (by simp)⟩
end Go.Proofs.YtgngbdacejghcaaGreatDoor
