/- DERIVED. Walks: texts split at a byte. -/
import Derived.Lib.SplitLaws
import Derived.Lib.IndexLaws
import Derived.Test.YtgngbdacejghcaaGreatDoorKVD5
import Derived.Test.YtgngbdacejghcaaGreatDoorKVD11
namespace Go.Proofs.YtgngbdacejghcaaGreatDoor
set_option linter.unusedVariables false
set_option linter.unusedSimpArgs false
open Go.RowKit
set_option maxRecDepth 100000
set_option linter.unusedVariables false
theorem app2_String {ops : Array Oper} {rest : List Oper} {o : Oper} {a : Act} {w : World} {Q : Exit → Act → World → Prop} (hgd : o.guard = none) (s x : Operand)
 (ho : o.op = .call { callee := .builtin .append, args := #[s, x], argTypes := #[88, 88] })
 (base : Nat) (v : Value) (l : List (List UInt8)) (hs : a.eval s = v) (hown : w.ownsRow base 9 1 v l.length (strs l))
 (ad : Addr) (m c : Nat) (news : List (List UInt8)) (hx : a.eval x = .slice (some ad) m c) (hm : news.length = m) (hnews : ∀ j u, (strs news)[j]? = some u → w.cell? (ad.add j) = some u)
 (hlen : l.length + m ≤ 2097152) (hbase : base ≤ w.heap.size)
 (h : ∀ v' w', w'.ownsRow base 9 1 v' (l ++ news).length (strs (l ++ news)) → w.grownBy w' v.ownBlock → wpList Tryz.prog ops Q rest (a.put o.dst v') w') : wpList Tryz.prog ops Q (o :: rest) a w := by
 obtain ⟨i0, hi, hz0, hz1, hz2⟩ := info_parts ia_String
 refine wpList_append_own w hgd s x 88 ho base 9 i0 _ 1 16 Tryz.underlying88 hi hz0 hz1 hz2 rfl (by decide) v l.length (strs l) hs hown ad m c (strs news) hx (by rw [strs_len, hm]) hnews (oneCell_strs _) (by unfold maxLen; omega) (by omega) hbase ?_
 intro v' w' ho' hg _
 refine h v' w' ?_ hg
 rw [List.length_append, hm, show strs (l ++ news) = strs l ++ strs news from by simp [strs]]
 exact ho'
theorem app21_String {ops : Array Oper} {rest : List Oper} {o : Oper} {a : Act} {w : World} {Q : Exit → Act → World → Prop} (hgd : o.guard = none) (s x' : Operand)
 (ho : o.op = .call { callee := .builtin .append, args := #[s, x'], argTypes := #[88, 88] })
 (base : Nat) (v : Value) (l : List (List UInt8)) (x : List UInt8) (hs : a.eval s = v) (hown : w.ownsRow base 9 1 v l.length (strs l))
 (hx : a.eval x' = .slice (some ⟨w.heap.size, 0, none⟩) 1 1) (hlen : l.length + 1 ≤ 2097152) (hbase : base ≤ w.heap.size)
 (h : ∀ v' w', w'.ownsRow base 9 1 v' (l ++ [x]).length (strs (l ++ [x])) → w.grownBy w' v.ownBlock → wpList Tryz.prog ops Q rest (a.put o.dst v') w') :
 wpList Tryz.prog ops Q (o :: rest) a (w.alloc (.cells #[sv x] 9)) := by
 refine app2_String hgd s x' ho base v l hs (hown.alloc _) ⟨w.heap.size, 0, none⟩ 1 1 [x] hx rfl ?_ hlen (Nat.le_trans hbase (by simp)) fun v' w' h1 h2 => h v' w' h1 (grown_alloc h2)
 intro j u hj
 have hb : (w.alloc (.cells #[sv x] 9)).heap[w.heap.size]? = some (.cells #[sv x] 9 (0, 0)) := heap_alloc_new _ _
 have ha : (Addr.add ⟨w.heap.size, 0, none⟩ j) = ⟨w.heap.size, j, none⟩ := by
  unfold Addr.add
  split
  · rename_i hz; subst hz; rfl
  · simp
 rw [ha]
 simp only [World.cell?, hb]
 simpa [strs] using hj
def spl (b : UInt8) : List UInt8 → List (List UInt8)
 | [] => [[]]
 | c :: r => if c = b then [] :: spl b r else match spl b r with
  | h :: t => (c :: h) :: t
  | [] => [[c]]
theorem spl_miss {b : UInt8} : ∀ {l : List UInt8}, (∀ k : Nat, l[k]? ≠ some b) → spl b l = [l]
 | [], _ => rfl
 | c :: r, h => by
  have hc : ¬ c = b := fun e => h 0 (by simp [e])
  have ih := spl_miss (b := b) (l := r) (fun k hk => h (k + 1) (by simpa using hk))
  unfold spl
  rw [if_neg hc, ih]
theorem spl_hit {b : UInt8} : ∀ {l : List UInt8} {m : Nat}, l[m]? = some b → (∀ k : Nat, k < m → l[k]? ≠ some b) → spl b l = l.take m :: spl b (l.drop (m + 1))
 | [], m, h, _ => by simp at h
 | c :: r, 0, h, _ => by
  have hc : c = b := by simpa using h
  show (if c = b then [] :: spl b r else _) = _
  rw [if_pos hc]
  rfl
 | c :: r, m + 1, h, hk => by
  have hc : ¬ c = b := fun e => hk 0 (by omega) (by simp [e])
  have ih := spl_hit (b := b) (l := r) (m := m) (by simpa using h) (fun k hk' hh => hk (k + 1) (by omega) (by simpa using hh))
  have e : spl b (c :: r) = match spl b r with
   | h :: t => (c :: h) :: t
   | [] => [[c]] := by
   conv => lhs; unfold spl
   rw [if_neg hc]
  rw [e, ih]
  rfl
theorem spl_len (b : UInt8) : ∀ l : List UInt8, 1 ≤ (spl b l).length ∧ (spl b l).length ≤ l.length + 1
 | [] => by simp [spl]
 | c :: r => by
  have ih := spl_len b r
  unfold spl
  split
  · simp; omega
  · split
    · rename_i h
      rw [h] at ih
      simp at ih ⊢
      omega
    · simp
theorem splitB_spl (b : UInt8) : ∀ (k : Nat) (l : List UInt8), l.length < k →
 Lib.splitB ⟨#[b]⟩ 0 (Lib.countB ⟨l.toArray⟩ ⟨#[b]⟩) ⟨l.toArray⟩ = (spl b l).map (fun x => ByteArray.mk x.toArray) ∧ Lib.countB ⟨l.toArray⟩ ⟨#[b]⟩ + 1 = (spl b l).length
 | 0, l, h => absurd h (by omega)
 | k + 1, l, h => by
  have hi : Lib.indexB ⟨l.toArray⟩ ⟨#[b]⟩ = Lib.indexByte l b := Lib.index_one l b
  have hge := Lib.indexByte_ge l b
  by_cases hm : Lib.indexByte l b = -1
  · rw [Lib.countB_miss _ _ (hi.trans hm), Lib.splitB_zero, spl_miss (Lib.indexByte_none hm)]
    exact ⟨rfl, rfl⟩
  · obtain ⟨i, hii⟩ : ∃ i : Nat, Lib.indexByte l b = i := ⟨(Lib.indexByte l b).toNat, by omega⟩
    obtain ⟨h1, h2⟩ := Lib.indexByte_some hii
    have hlt : i < l.length := (List.getElem?_eq_some_iff.1 h1).1
    have hs1 : (ByteArray.mk #[b]).size = 1 := rfl
    have hsz : (ByteArray.mk l.toArray).size = l.length := by show l.toArray.size = _; simp
    have ed : (ByteArray.mk l.toArray).extract (i + (ByteArray.mk #[b]).size) (ByteArray.mk l.toArray).size = ByteArray.mk (l.drop (i + 1)).toArray := by
     rw [hs1, hsz, ByteArray.extract_mk, List.take_of_length_le (by simp)]
    have et : (ByteArray.mk l.toArray).extract 0 (i + 0) = ByteArray.mk (l.take i).toArray := by
     rw [ByteArray.extract_mk]; rfl
    have ih := splitB_spl b k (l.drop (i + 1)) (by simp; omega)
    have hc := Lib.countB_hit ⟨l.toArray⟩ ⟨#[b]⟩ i (by rw [hs1]; omega) (hi.trans hii)
    rw [ed] at hc
    rw [hc, Nat.add_comm 1, Lib.splitB_hit _ _ _ _ i (hi.trans hii), ed, et, ih.1, spl_hit h1 h2]
    refine ⟨rfl, ?_⟩
    rw [List.length_cons, ← ih.2]
theorem w_Split (b : UInt8) (s : List UInt8) (hs : s.length ≤ 1048576) (w : World) (he : Env w) :
 Calls Tryz.prog 62 #[sv s, sv [b]] w fun e w' => (∃ k, e = .returned (.slice (some ⟨k, 0, none⟩) (spl b s).length (spl b s).length) ∧ w'.ownsRow w.heap.size 9 1 (.slice (some ⟨k, 0, none⟩) (spl b s).length (spl b s).length) (spl b s).length (strs (spl b s))) ∧ Later w w' := by
 obtain ⟨h0, m, hm⟩ := he.mx
 obtain ⟨e1, e2⟩ := splitB_spl b (s.length + 1) s (by omega)
 have hl := spl_len b s
 refine (Tryz.strings_Split ⟨s.toArray⟩ ⟨#[b]⟩ m w (by show s.toArray.size < _; simp; omega) hm (by show 1 ≤ 1; omega)).mono ?_
 rintro e w' ⟨rfl, rfl⟩
 rw [e1, e2]
 have e3 : ((spl b s).map (fun x => ByteArray.mk x.toArray)).map Value.string = strs (spl b s) := by simp [strs, Function.comp_def]
 rw [e3]
 refine ⟨⟨_, rfl, ?_⟩, (Later.refl _).alloc _⟩
 have h : (w.alloc (.cells (strs (spl b s)).toArray 9)).ownsRow w.heap.size 9 1 (.slice (some ⟨w.heap.size, 0, none⟩) (spl b s).length (spl b s).length) (spl b s).length ((strs (spl b s)).toArray).toList :=
  World.ownsRow_lit w (strs (spl b s)).toArray (spl b s).length (Nat.le_refl _) (by first | omega | (unfold maxLen; omega)) (by simp [strs])
 simpa using h
set_option maxHeartbeats 1000000 in
theorem w_l01Split (b : UInt8) (B : Int) (hB : (b.toNat : Int) = B) (s : List UInt8) (hs : s.length ≤ 1048576) (w : World) :
 Calls Tryz.prog 65 #[sv s, .int .u8 B] w fun e w' => (∃ v, e = .returned v ∧ w'.ownsRow w.heap.size 9 1 v (spl b s).length (strs (spl b s))) ∧ Later w w' := by
 have HB := Lib.hid hB
 clear hB
 go_enter Tryz.func65, Tryz.ntmps65
 go_wp2
 go_loopw [5, 6, 7] (fun v f i wr => ∃ (L : List (List UInt8)) (m k : Nat), k ≤ s.length + 1 ∧ m ≤ k ∧ L.length ≤ m ∧ i = .int .i64 (k : Nat) ∧ f = .int .i64 (m : Nat) ∧ wr.ownsRow w.heap.size 9 1 v L.length (strs L) ∧ w.heap.size ≤ wr.heap.size ∧ Later w wr ∧ Hid (k ≤ s.length → spl b s = L ++ spl b (s.drop m)) ∧ Hid (∀ j, m ≤ j → j < k → s[j]? ≠ some b) ∧ Hid (k = s.length + 1 → spl b s = L)) (fun _ _ i _ => s.length + 1 - (intOf i).toNat)
 case atStart => exact ⟨[], 0, 0, by omega, by omega, by simp, rfl, rfl, own_empty (Nat.le_refl _) _ _, by simp, (Later.refl _).alloc _, Lib.hid (fun _ => rfl), Lib.hid (fun j _ h => absurd h (by omega)), Lib.hid (fun h => absurd h (by omega))⟩
 case round =>
  obtain ⟨L, m, k, hk, hmk, hLm, rfl, rfl, hO, hz, hL, HS, HN, HE⟩ := hrel
  have HO := Lib.hid hO
  clear hO
  have wi : IntKind.i64.wrap ((k : Int) + 1) = (k : Int) + 1 := wrapI (by omega) (by omega)
  by_cases hle : k ≤ s.length
  · have hleb : decide ((k : Int) ≤ (s.length : Int)) = true := decide_eq_true (by omega)
    obtain ⟨P, hP⟩ : ∃ P, (s.drop m).take (k - m) = P := ⟨_, rfl⟩
    have hx : (ByteArray.mk s.toArray).extract m k = ByteArray.mk P.toArray := by rw [ByteArray.extract_mk, hP]
    have HP := Lib.hid hP
    clear hP
    by_cases hke : k = s.length
    · subst hke
      have hkb : ((s.length : Int) == (s.length : Int)) = true := by simp
      have hfin : spl b s = L ++ [P] := by
       rw [HS.out (by omega), ← HP.out, spl_miss (l := s.drop m) (fun j hj => by
        rw [List.getElem?_drop] at hj
        have hj2 := (List.getElem?_eq_some_iff.1 hj).1
        exact HN.out (m + j) (by omega) (by omega) hj), List.take_of_length_le (by simp)]
      have HF := Lib.hid hfin
      clear hfin
      go_wp2_with (at_builtin; refine app21_String rfl (.tmp 26) (.tmp 31) rfl w.heap.size _ L P rfl HO.out (by simp [Act.eval, Array.getD]) (by omega) hz ?_; intro v5 w5 ho5 hg5)
      go_roundw
      case rel => exact ⟨L ++ [P], s.length + 1, s.length + 1, by omega, by omega, by simp; omega, by go_num, by go_num, ho5, Nat.le_trans hz hg5.size, Below.grown hL hg5 hz (fun j hj => (HO.out.lt j hj).1), Lib.hid (fun h => absurd h (by omega)), Lib.hid (fun j h1 h2 => absurd h2 (by omega)), Lib.hid (fun _ => HF.out)⟩
      case measure => simp [intOf]
    · have hkb : ((k : Int) == (s.length : Int)) = false := by simp; omega
      obtain ⟨c, hc⟩ := get_ex (l := s) (k := k) (by omega)
      have hi := idx_at hc
      have HC := Lib.hid hc
      clear hc
      obtain ⟨cn, hcn⟩ : ∃ n, c.toNat = n := ⟨_, rfl⟩
      have HCN := Lib.hid hcn
      by_cases hcb : c = b
      · have hqb : ((cn : Int) == B) = true := by rw [← hcn, hcb, HB.out]; simp
        have hnx : spl b s = (L ++ [P]) ++ spl b (s.drop (k + 1)) := by
         rw [HS.out (by omega), spl_hit (l := s.drop m) (m := k - m) (by rw [List.getElem?_drop, show m + (k - m) = k by omega, HC.out, hcb]) (fun j hj hh => by
          rw [List.getElem?_drop] at hh
          exact HN.out (m + j) (by omega) (by omega) hh), HP.out, List.drop_drop, show m + (k - m + 1) = k + 1 by omega]
         simp
        have HX := Lib.hid hnx
        clear hnx hcb
        go_wp2_with (at_builtin; refine app21_String rfl (.tmp 26) (.tmp 31) rfl w.heap.size _ L P rfl HO.out (by simp [Act.eval, Array.getD]) (by omega) hz ?_; intro v5 w5 ho5 hg5)
        go_roundw
        case rel => exact ⟨L ++ [P], k + 1, k + 1, by omega, by omega, by simp; omega, by go_num, by go_num, ho5, Nat.le_trans hz hg5.size, Below.grown hL hg5 hz (fun j hj => (HO.out.lt j hj).1), Lib.hid (fun _ => HX.out), Lib.hid (fun j h1 h2 => absurd h2 (by omega)), Lib.hid (fun h => absurd h (by omega))⟩
        case measure => simp [intOf]; omega
      · have hqb : ((cn : Int) == B) = false := by
         rw [← HB.out, ← hcn]
         have : ¬ c.toNat = b.toNat := fun e => hcb (UInt8.toNat_inj.1 e)
         simp
         omega
        have HCB := Lib.hid hcb
        clear hcb
        go_wp2
        go_roundw
        case rel => exact ⟨L, m, k + 1, by omega, by omega, by omega, by go_num, rfl, HO.out, hz, hL, Lib.hid (fun _ => HS.out (by omega)), Lib.hid (fun j h1 h2 hh => by
         by_cases hj : j = k
         · subst hj
           rw [HC.out] at hh
           exact HCB.out (Option.some.inj hh)
         · exact HN.out j h1 (by omega) hh), Lib.hid (fun h => absurd h (by omega))⟩
        case measure => simp [intOf]; omega
  · have hleb : decide ((k : Int) ≤ (s.length : Int)) = false := decide_eq_false (by omega)
    have HF := Lib.hid (HE.out (by omega))
    go_wp2
    go_ret
    exact ⟨⟨_, rfl, by rw [HF.out]; exact HO.out⟩, hL⟩
end Go.Proofs.YtgngbdacejghcaaGreatDoor
