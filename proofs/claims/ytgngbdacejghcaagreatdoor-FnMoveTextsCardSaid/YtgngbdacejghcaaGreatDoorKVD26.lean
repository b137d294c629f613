/- DERIVED. Plain: lists of moves read from text (words). -/
import Derived.Test.YtgngbdacejghcaaGreatDoorKVD7
import Derived.Test.YtgngbdacejghcaaGreatDoorKVD12
import Derived.Test.YtgngbdacejghcaaGreatDoorKVD22
namespace Go.Proofs.YtgngbdacejghcaaGreatDoor
set_option linter.unusedVariables false
set_option linter.unusedSimpArgs false
open Go.RowKit
set_option maxRecDepth 100000
set_option linter.unusedVariables false
theorem join_cc (a b : List UInt8) (r : List (List UInt8)) (c : UInt8) : Lib.join (a :: b :: r) [c] = a ++ c :: Lib.join (b :: r) [c] := by
 rw [Lib.join_cons, Lib.join_cons]
 simp [Lib.joinTail]
theorem spl_ne (b : UInt8) (l : List UInt8) : spl b l ≠ [] := by
 intro h
 have := (spl_len b l).1
 rw [h] at this
 simp at this
theorem join_spl (b : UInt8) : ∀ l : List UInt8, Lib.join (spl b l) [b] = l
 | [] => by simp [spl, Lib.join_one]
 | c :: r => by
  have ih := join_spl b r
  unfold spl
  split
  · rename_i hc
    cases h : spl b r with
    | nil => exact absurd h (spl_ne b r)
    | cons x t =>
     rw [h] at ih
     rw [join_cc, ih, hc]
     rfl
  · split
    · rename_i x t h
      rw [h] at ih
      cases t with
      | nil => rw [Lib.join_one] at ih ⊢; rw [ih]
      | cons y t => rw [join_cc] at ih ⊢; rw [← ih]; rfl
    · rename_i h
      exact absurd h (spl_ne b r)
theorem spl_app {b : UInt8} : ∀ {x r : List UInt8}, b ∉ x → spl b (x ++ b :: r) = x :: spl b r
 | [], r, _ => by simp [spl]
 | c :: x, r, h => by
  have hc : ¬ c = b := fun e => h (by simp [e])
  have ih := spl_app (x := x) (r := r) (fun m => h (List.mem_cons_of_mem _ m))
  rw [List.cons_append]
  conv => lhs; unfold spl
  rw [if_neg hc, ih]
theorem spl_no {b : UInt8} {x : List UInt8} (h : b ∉ x) : spl b x = [x] := spl_miss fun k hk => h (List.mem_of_getElem? hk)
theorem spl_join (b : UInt8) : ∀ L : List (List UInt8), L ≠ [] → (∀ x ∈ L, b ∉ x) → spl b (Lib.join L [b]) = L
 | [], h, _ => absurd rfl h
 | [x], _, h => by rw [Lib.join_one, spl_no (h x (by simp))]
 | x :: y :: r, _, h => by
  rw [join_cc, spl_app (h x (by simp)), spl_join b (y :: r) (by simp) (fun z hz => h z (List.mem_cons_of_mem _ hz))]
theorem spl_sumA (b : UInt8) : ∀ l : List UInt8, ((spl b l).map List.length).sum + (spl b l).length = l.length + 1
 | [] => by simp [spl]
 | c :: r => by
  have ih := spl_sumA b r
  unfold spl
  split
  · simp; omega
  · split
    · rename_i h t he
      rw [he] at ih
      simp at ih ⊢
      omega
    · rename_i he
      rw [he] at ih
      simp at ih
theorem itoa_chars (t : Int) : ∀ x ∈ Lib.itoa t, x = 45 ∨ (48 ≤ x.toNat ∧ x.toNat ≤ 57) := by
 intro x hx
 by_cases h : t < 0
 · rw [itoa_neg_nat h] at hx
   rcases List.mem_cons.1 hx with h1 | h1
   · exact .inl h1
   · exact .inr (digits_all _ _ (Nat.lt_succ_self _) x h1)
 · rw [itoa_pos_nat (by omega)] at hx
   exact .inr (digits_all _ _ (Nat.lt_succ_self _) x hx)
theorem figT_chars {f : Fig} (h : isFig f = true) : ∀ x ∈ figT f, x = 45 ∨ x = 46 ∨ x = 101 ∨ (48 ≤ x.toNat ∧ x.toNat ≤ 57) := by
 obtain ⟨a, b, c, d, _, _, e3, e4⟩ := fig_shape h
 intro x hx
 rw [e4] at hx
 simp only [List.mem_cons] at hx
 rcases hx with rfl | rfl | rfl | rfl | rfl | rfl | hx
 · exact .inr (.inr (.inr (e3 _ (by simp))))
 · exact .inr (.inl rfl)
 · exact .inr (.inr (.inr (e3 _ (by simp))))
 · exact .inr (.inr (.inr (e3 _ (by simp))))
 · exact .inr (.inr (.inr (e3 _ (by simp))))
 · exact .inr (.inr (.inl rfl))
 · rcases itoa_chars _ x hx with h | h
   · exact .inl h
   · exact .inr (.inr (.inr h))
theorem figT_no {f : Fig} (h : isFig f = true) {b : UInt8} (hb : b = 32 ∨ b = 42 ∨ b = 47) : b ∉ figT f := by
 intro hm
 rcases figT_chars h b hm with h | h | h | h <;> rcases hb with rfl | rfl | rfl <;> revert h <;> decide
theorem letB_no {k : Int} (h0 : 0 ≤ k) (h6 : k ≤ 6) : (32 : UInt8) ∉ letB k := by
 have hx : k = 0 ∨ k = 1 ∨ k = 2 ∨ k = 3 ∨ k = 4 ∨ k = 5 ∨ k = 6 := by omega
 rcases hx with rfl | rfl | rfl | rfl | rfl | rfl | rfl <;> decide
theorem scB_no {s : Int} (h0 : 0 ≤ s) (h5 : s ≤ 5) : (32 : UInt8) ∉ scB s := by
 have hx : s = 0 ∨ s = 1 ∨ s = 2 ∨ s = 3 ∨ s = 4 ∨ s = 5 := by omega
 rcases hx with rfl | rfl | rfl | rfl | rfl | rfl <;> decide
theorem mvT_no {m : Mov} (h : isMove m = true) : (32 : UInt8) ∉ mvT m := by
 obtain ⟨a0, a6⟩ := move_k h
 rcases isMove_cases h with ⟨p1, p2, p3, p4⟩ | ⟨p1, p2, p3, p4⟩
 · obtain ⟨s0, s1, _⟩ := move_bd h p2
   unfold mvT
   rw [if_pos p2]
   simp only [List.mem_append, List.mem_singleton, not_or]
   exact ⟨⟨⟨letB_no a0 a6, scB_no s0 (by omega)⟩, by decide⟩, figT_no p4 (.inl rfl)⟩
 · unfold mvT
   rw [if_neg (by omega)]
   exact letB_no a0 a6
theorem mvT_ne {m : Mov} (h : isMove m = true) : mvT m ≠ [] := by
 intro e
 have h1 := rdM_some h e
 rw [rdM_nil] at h1
 cases h1
theorem mvs_all {l : List Mov} (h : codeMoves l = 0) : ∀ m ∈ l, isMove m = true := fun m hm => List.all_eq_true.1 (codeMoves_ok h).1 m hm
theorem mvs_spl {l : List Mov} (h : codeMoves l = 0) (hne : l ≠ []) : spl 32 (mvsT l) = l.map mvT :=
 spl_join 32 _ (by simpa using hne) fun x hx => by
  obtain ⟨m, hm, rfl⟩ := List.mem_map.1 hx
  exact mvT_no (mvs_all h m hm)
theorem mvs_nil {l : List Mov} (h : codeMoves l = 0) (hs : mvsT l = []) : l = [] := by
 apply Classical.byContradiction
 intro hne
 have h1 := mvs_spl h hne
 rw [hs] at h1
 cases l with
 | nil => exact hne rfl
 | cons m r =>
  simp only [spl, List.map_cons, List.cons.injEq] at h1
  exact mvT_ne (mvs_all h m (by simp)) h1.1.symm
theorem map_mvT_inj : ∀ {l m : List Mov}, (∀ x ∈ l, isMove x = true) → (∀ x ∈ m, isMove x = true) → l.map mvT = m.map mvT → l = m
 | [], [], _, _, _ => rfl
 | [], y :: m, _, _, h => by simp at h
 | x :: l, [], _, _, h => by simp at h
 | x :: l, y :: m, hl, hm, h => by
  simp only [List.map_cons, List.cons.injEq] at h
  rw [mvT_inj (hl x (by simp)) (hm y (by simp)) h.1, map_mvT_inj (fun z hz => hl z (List.mem_cons_of_mem _ hz)) (fun z hz => hm z (List.mem_cons_of_mem _ hz)) h.2]
theorem mvs_inj {l m : List Mov} (hl : codeMoves l = 0) (hm : codeMoves m = 0) (h : mvsT l = mvsT m) : l = m := by
 by_cases h1 : l = []
 · subst h1
   exact (mvs_nil hm (by rw [← h]; rfl)).symm
 by_cases h2 : m = []
 · subst h2
   exact mvs_nil hl (by rw [h]; rfl)
 have e1 := mvs_spl hl h1
 rw [h, mvs_spl hm h2] at e1
 exact (map_mvT_inj (mvs_all hm) (mvs_all hl) e1).symm
open Classical in
noncomputable def rdMs (s : List UInt8) : Option (List Mov) := if h : ∃ l, codeMoves l = 0 ∧ mvsT l = s then some h.choose else none
theorem rdMs_some {s : List UInt8} {l : List Mov} (h1 : codeMoves l = 0) (h2 : mvsT l = s) : rdMs s = some l := by
 have h : ∃ l, codeMoves l = 0 ∧ mvsT l = s := ⟨l, h1, h2⟩
 unfold rdMs
 rw [dif_pos h]
 congr 1
 exact mvs_inj h.choose_spec.1 h1 (h.choose_spec.2.trans h2.symm)
theorem rdMs_none {s : List UInt8} (h : ∀ l, codeMoves l = 0 → mvsT l ≠ s) : rdMs s = none := by
 unfold rdMs
 rw [dif_neg (fun ⟨f, a, b⟩ => h f a b)]
theorem rdMs_is {s : List UInt8} {l : List Mov} (h : rdMs s = some l) : codeMoves l = 0 ∧ mvsT l = s := by
 unfold rdMs at h
 split at h
 · rename_i hx
   injection h with h
   subst h
   exact hx.choose_spec
 · cases h
theorem rdMs_nil : rdMs [] = some [] := rdMs_some rfl rfl
theorem rdMs_words {s : List UInt8} {l : List Mov} (hs : s ≠ []) (h1 : codeMoves l = 0) (h2 : mvsT l = s) : spl 32 s = l.map mvT := by
 rw [← h2]
 exact mvs_spl h1 (fun e => hs (by rw [← h2, e]; rfl))
theorem rdMs_bad {s x : List UInt8} {k : Nat} (hs : s ≠ []) (hk : (spl 32 s)[k]? = some x) (h : rdM x = none) : rdMs s = none := rdMs_none fun l h1 h2 => by
 rw [rdMs_words hs h1 h2, List.getElem?_map] at hk
 cases hl : l[k]? with
 | none => rw [hl] at hk; cases hk
 | some m =>
  rw [hl] at hk
  have := rdM_some (codeMoves_mv h1 hl) (Option.some.inj hk)
  rw [h] at this
  cases this
theorem rdMs_long {s : List UInt8} (hs : s ≠ []) (h : 30 < (spl 32 s).length) : rdMs s = none := rdMs_none fun l h1 h2 => by
 rw [rdMs_words hs h1 h2, List.length_map] at h
 have := (codeMoves_ok h1).2
 omega
theorem rdMs_all {s : List UInt8} {L : List Mov} (h30 : L.length ≤ 30) (hl : L.length = (spl 32 s).length) (h : ∀ (k : Nat) x, (spl 32 s)[k]? = some x → rdM x = L[k]?) : rdMs s = some L := by
 have ha : ∀ (k : Nat) m, L[k]? = some m → isMove m = true ∧ (spl 32 s)[k]? = some (mvT m) := fun k m hm => by
  have hk := (List.getElem?_eq_some_iff.1 hm).1
  obtain ⟨x, hx⟩ := get_ex (l := spl 32 s) (k := k) (by omega)
  obtain ⟨h1, h2⟩ := rdM_is ((h k x hx).trans hm)
  exact ⟨h1, by rw [hx, h2]⟩
 refine rdMs_some ?_ ?_
 · unfold codeMoves
   rw [if_pos (List.all_eq_true.2 fun m hm => by
    obtain ⟨k, hk⟩ := List.getElem?_of_mem hm
    exact (ha k m hk).1), if_pos h30]
 · have e : L.map mvT = spl 32 s := by
    apply List.ext_getElem?
    intro k
    rw [List.getElem?_map]
    cases hm : L[k]? with
    | none =>
     have := List.getElem?_eq_none_iff.1 hm
     rw [List.getElem?_eq_none (by omega)]
     rfl
    | some m => rw [(ha k m hm).2]; rfl
   unfold mvsT
   rw [e, join_spl]
theorem rdMs_loose {s : List UInt8} {L : List Mov} (hs : s ≠ []) (hl : L.length = (spl 32 s).length) (h : ∀ (k : Nat) x m, (spl 32 s)[k]? = some x → L[k]? = some m → rdM x = if isMove m then some m else none) :
 (codeMoves L = 0 → rdMs s = some L) ∧ (codeMoves L ≠ 0 → rdMs s = none) := by
 refine ⟨fun hc => ?_, fun hc => ?_⟩
 · refine rdMs_all (codeMoves_ok hc).2 hl fun k x hx => ?_
   obtain ⟨m, hm⟩ := get_ex (l := L) (k := k) (by have := (List.getElem?_eq_some_iff.1 hx).1; omega)
   rw [h k x m hx hm, codeMoves_mv hc hm, hm]
   rfl
 · unfold codeMoves at hc
   by_cases ha : L.all isMove = true
   · rw [if_pos ha] at hc
     by_cases h3 : L.length ≤ 30
     · rw [if_pos h3] at hc; exact absurd rfl hc
     · exact rdMs_long hs (by omega)
   · obtain ⟨m, hm, hb⟩ : ∃ m ∈ L, isMove m = false := by
      apply Classical.byContradiction
      intro hn
      refine ha (List.all_eq_true.2 fun m hm => ?_)
      cases hb : isMove m with
      | true => rfl
      | false => exact absurd ⟨m, hm, hb⟩ hn
     obtain ⟨k, hk⟩ := List.getElem?_of_mem hm
     obtain ⟨x, hx⟩ := get_ex (l := spl 32 s) (k := k) (by have := (List.getElem?_eq_some_iff.1 hk).1; omega)
     exact rdMs_bad hs hx (by rw [h k x m hx hk, hb]; rfl)
noncomputable def msV (s : List UInt8) : List Mov := (rdMs s).getD []
noncomputable def msC (s : List UInt8) : Int := if (rdMs s).isSome then 0 else 6
theorem ms_no {s : List UInt8} (h : rdMs s = none) : msV s = [] ∧ msC s = 6 := by simp [msV, msC, h]
theorem ms_yes {s : List UInt8} {l : List Mov} (h : rdMs s = some l) : msV s = l ∧ msC s = 0 := by simp [msV, msC, h]
theorem ms_len (s : List UInt8) : (msV s).length ≤ 30 := by
 cases h : rdMs s with
 | none => rw [(ms_no h).1]; simp
 | some l => rw [(ms_yes h).1]; exact (codeMoves_ok (rdMs_is h).1).2
end Go.Proofs.YtgngbdacejghcaaGreatDoor
