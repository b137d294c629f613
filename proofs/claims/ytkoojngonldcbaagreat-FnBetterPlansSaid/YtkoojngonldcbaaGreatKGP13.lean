/- DERIVED. What bytes read as, that came in to a law. -/
import Derived.Test.YtkoojngonldcbaaGreatKGO1
import Derived.Test.YtkoojngonldcbaaGreatKGM100
import Derived.Test.YtkoojngonldcbaaGreatKGPA
namespace Go.Proofs.YtkoojngonldcbaaGreat
set_option linter.unusedVariables false
set_option linter.unusedSimpArgs false
open Go.RowKit Go.ChangeShapes Go.WideShapes Go.ChangeAt Go.Deep
set_option maxRecDepth 100000
section
variable {H : Type} {enc : TypeId × Value → H} {W : World}
theorem o_bytes {a : Option Addr} {len cap : Nat} {d : DataW H} {p : List MemPlace} (h : DataW.Trod enc Tryz.prog W 0 (fun _ => true) true 22 (.slice a len cap) d p) :
 ∃ l : List Int, Raw W (.slice a len cap) l.length 1 (byts l) ∧ ∀ b ∈ l, 0 ≤ b ∧ b ≤ 255 := by
 obtain ⟨l, hl⟩ := raw_of (fun x : { y : Int // 0 ≤ y ∧ y ≤ 255 } => [Value.int .u8 x.1]) 1 (fun _ => rfl) (by decide) Tryz.underlying22 (by kernel_rfl) (fun _ _ _ h => by
  obtain ⟨n, rfl, _, hw⟩ := DataW.trod_int Tryz.underlying5 h
  have hw' : (decide (IntKind.u8.min ≤ n) && decide (n ≤ IntKind.u8.max)) = true := hw
  rw [show IntKind.u8.min = 0 from by decide, show IntKind.u8.max = 255 from by decide, Bool.and_eq_true, decide_eq_true_eq, decide_eq_true_eq] at hw'
  exact ⟨⟨n, hw'⟩, rfl⟩) h
 refine ⟨l.map (·.1), ?_, ?_⟩
 · rw [List.length_map]
   rwa [show l.flatMap (fun x : { y : Int // 0 ≤ y ∧ y ≤ 255 } => [Value.int .u8 x.1]) = byts (l.map (·.1)) from by simp [byts, List.map_eq_flatMap, List.flatMap_map]] at hl
 · intro b hb
   obtain ⟨x, _, rfl⟩ := List.mem_map.1 hb
   exact x.2
end
end Go.Proofs.YtkoojngonldcbaaGreat
namespace Go.Proofs.YtkoojngonldcbaaGreat
set_option linter.unusedVariables false
set_option linter.unusedSimpArgs false
set_option maxRecDepth 100000
def skipO (c : List Trm) (o : List Int) (k : Nat) : Bool := hasI o k || (o.isEmpty && (c.getD k dfT).dv)
def lvs (c : List Trm) : Nat → List Int → List (List Int)
  | 0, o => [o]
  | n + 1, o => (List.range c.length).flatMap fun k => if skipO c o k then [] else lvs c n (o ++ [(k : Int)])
def updO (cost : List Int → Int) (s : List Int × Int) (o : List Int) : List Int × Int := if s.2 < 0 ∨ cost o < s.2 then (o, cost o) else s
def mrgO (s x : List Int × Int) : List Int × Int := if s.2 < 0 ∨ x.2 < s.2 then x else s
def bestO (cost : List Int → Int) (l : List (List Int)) : List Int × Int := l.foldl (updO cost) ([], -1)
def partO (c : List Trm) (n : Nat) (o : List Int) (k : Nat) : List (List Int) := (List.range k).flatMap fun k => if skipO c o k then [] else lvs c n (o ++ [(k : Int)])
theorem partO_skip {c : List Trm} {n : Nat} {o : List Int} {k : Nat} (h : skipO c o k = true) : partO c n o (k + 1) = partO c n o k := by
  simp [partO, List.range_succ, List.flatMap_append, h]
theorem partO_go {c : List Trm} {n : Nat} {o : List Int} {k : Nat} (h : skipO c o k = false) : partO c n o (k + 1) = partO c n o k ++ lvs c n (o ++ [(k : Int)]) := by
  simp [partO, List.range_succ, List.flatMap_append, h]
theorem lvs_succ (c : List Trm) (n : Nat) (o : List Int) : lvs c (n + 1) o = partO c n o c.length := rfl
structure GoodO (c : List Trm) (o : List Int) : Prop where
  range : ∀ k ∈ o, 0 ≤ k ∧ k < c.length
  head : headDv (orderedL c o) = false
theorem GoodO.nil (c : List Trm) : GoodO c [] := ⟨by simp, rfl⟩
theorem GoodO.snoc {c : List Trm} {o : List Int} {k : Nat} (h : GoodO c o) (hk : k < c.length) (hs : skipO c o k = false) : GoodO c (o ++ [(k : Int)]) := by
  refine ⟨fun j hj => ?_, ?_⟩
  · rcases List.mem_append.1 hj with hj | hj
    · exact h.range j hj
    · simp at hj; omega
  · rw [orderedL_snoc, Int.toNat_natCast]
    cases o with
    | nil =>
      simp [skipO] at hs
      simp [orderedL, headDv]
      exact hs.2
    | cons x o => exact h.head
theorem GoodO.chain {c : List Trm} {o : List Int} (hc : isChain c = true) (h : GoodO c o) (hl : 1 ≤ o.length) (h6 : o.length ≤ 6) : isChain (orderedL c o) = true := by
  have hcc := isChain_true hc
  unfold isChain
  rw [Bool.and_eq_true]
  refine ⟨?_, ?_⟩
  · rw [List.all_eq_true]
    intro t ht
    unfold orderedL at ht
    obtain ⟨k, hk, rfl⟩ := List.mem_map.1 ht
    have hr := h.range k hk
    apply hcc.2.2.2
    have : k.toNat < c.length := by omega
    rw [List.getD, List.getElem?_eq_getElem this]
    exact List.getElem_mem this
  · rw [h.head, orderedL_len]
    simp only [Bool.not_false, Bool.and_true]
    exact inR_mk (by omega)
theorem all_in : ∀ (n : Nat) (o : List Int), (∀ k : Nat, k < n → (k : Int) ∈ o) → n ≤ o.length
  | 0, _, _ => Nat.zero_le _
  | n + 1, o, h => by
    have hm := h n (by omega)
    have hall := all_in n (o.erase (n : Int)) (fun k hk => by
      refine (List.mem_erase_of_ne (fun e : (k : Int) = (n : Int) => by omega)).2 (h k (by omega)))
    rw [List.length_erase_of_mem hm] at hall
    have hp := List.length_pos_of_mem hm
    omega
theorem free_ex {c : List Trm} {o : List Int} (h : o.length < c.length) (ho : o ≠ []) : ∃ k, k < c.length ∧ skipO c o k = false := by
  apply Classical.byContradiction
  intro hn
  have := all_in c.length o (fun k hk => by
    apply Classical.byContradiction
    intro hk2
    apply hn
    refine ⟨k, hk, ?_⟩
    have h1 : hasI o k = false := by
      cases hh : hasI o k with
      | false => rfl
      | true => exact absurd ((hasI_iff o k).1 hh) hk2
    have h2 : o.isEmpty = false := by
      cases o with
      | nil => exact absurd rfl ho
      | cons x o => rfl
    simp [skipO, h1, h2])
  omega
theorem lvs_ne {c : List Trm} : ∀ (n : Nat) (o : List Int), o ≠ [] → o.length + n = c.length → lvs c n o ≠ []
  | 0, o, _, _ => by simp [lvs]
  | n + 1, o, ho, hl => by
    obtain ⟨k, hk, hs⟩ := free_ex (c := c) (o := o) (by rw [← hl]; omega) ho
    have hr := lvs_ne (c := c) n (o ++ [(k : Int)]) (by simp) (by rw [List.length_append]; simp; omega)
    intro he
    rw [lvs, List.flatMap_eq_nil_iff] at he
    have := he k (List.mem_range.2 hk)
    rw [if_neg (by simp [hs])] at this
    exact hr this
theorem best_nonneg {cost : List Int → Int} (hc : ∀ o, 0 ≤ cost o) : ∀ (l : List (List Int)) (s : List Int × Int), (0 ≤ s.2 ∨ l ≠ []) → 0 ≤ (l.foldl (updO cost) s).2
  | [], s, h => h.resolve_right (by simp)
  | x :: l, s, h => by
    rw [List.foldl_cons]
    refine best_nonneg hc l _ (.inl ?_)
    unfold updO
    split
    · exact hc x
    · rename_i hh
      have : ¬ s.2 < 0 := fun hx => hh (.inl hx)
      omega
theorem mrg_best {cost : List Int → Int} (hc : ∀ o, 0 ≤ cost o) (s : List Int × Int) : ∀ (l : List (List Int)), l ≠ [] → l.foldl (updO cost) s = mrgO s (bestO cost l) := by
  intro l
  -- from the end
  suffices h : ∀ (m : Nat) (l : List (List Int)), l.length = m + 1 → l.foldl (updO cost) s = mrgO s (bestO cost l) by
    intro hl
    refine h (l.length - 1) l ?_
    have := List.length_pos_iff.2 hl
    omega
  intro m
  induction m with
  | zero =>
    intro l hl
    match l, hl with
    | [x], _ => rfl
  | succ m ih =>
    intro l hl
    have hne : l ≠ [] := by intro e; rw [e] at hl; simp at hl
    have hsp := List.dropLast_concat_getLast hne
    have hd : l.dropLast.length = m + 1 := by rw [List.length_dropLast]; omega
    have h1 := ih _ hd
    have h2 : 0 ≤ (bestO cost l.dropLast).2 := best_nonneg hc _ _ (.inr (by intro e; rw [e] at hd; simp at hd))
    have h3 : bestO cost l = updO cost (bestO cost l.dropLast) (l.getLast hne) := by
      conv => lhs; rw [← hsp]
      unfold bestO
      rw [List.foldl_append]
      rfl
    have h4 : l.foldl (updO cost) s = updO cost (l.dropLast.foldl (updO cost) s) (l.getLast hne) := by
      conv => lhs; rw [← hsp]
      rw [List.foldl_append]
      rfl
    rw [h4, h3, h1]
    have h5 := hc (l.getLast hne)
    generalize bestO cost l.dropLast = r at h2
    generalize l.getLast hne = x at h5
    have u1 : ∀ z : List Int × Int, z.2 < 0 ∨ cost x < z.2 → updO cost z x = (x, cost x) := fun z h => if_pos h
    have u2 : ∀ z : List Int × Int, ¬ (z.2 < 0 ∨ cost x < z.2) → updO cost z x = z := fun z h => if_neg h
    have m1 : ∀ z : List Int × Int, s.2 < 0 ∨ z.2 < s.2 → mrgO s z = z := fun z h => if_pos h
    have m2 : ∀ z : List Int × Int, ¬ (s.2 < 0 ∨ z.2 < s.2) → mrgO s z = s := fun z h => if_neg h
    by_cases a1 : s.2 < 0
    · rw [m1 r (.inl a1), m1 _ (.inl a1)]
    · by_cases a2 : r.2 < s.2
      · rw [m1 r (.inr a2)]
        by_cases a3 : cost x < r.2
        · rw [u1 r (.inr a3), m1 (x, cost x) (.inr (show cost x < s.2 by omega))]
        · rw [u2 r (by omega), m1 r (.inr a2)]
      · rw [m2 r (by omega)]
        by_cases a3 : cost x < s.2
        · rw [u1 s (.inr a3), u1 r (.inr (show cost x < r.2 by omega)), m1 (x, cost x) (.inr a3)]
        · rw [u2 s (by omega)]
          by_cases a4 : cost x < r.2
          · rw [u1 r (.inr a4), m2 (x, cost x) (by show ¬ (s.2 < 0 ∨ cost x < s.2); omega)]
          · rw [u2 r (by omega), m2 r (by omega)]
theorem best_go {cost : List Int → Int} (hc : ∀ o, 0 ≤ cost o) {c : List Trm} {n : Nat} {o : List Int} {k : Nat} (h : skipO c o k = false) (hl : o.length + 1 + n = c.length) :
    bestO cost (partO c n o (k + 1)) = mrgO (bestO cost (partO c n o k)) (bestO cost (lvs c n (o ++ [(k : Int)]))) := by
  rw [partO_go h]
  conv => lhs; unfold bestO
  rw [List.foldl_append]
  exact mrg_best hc _ _ (lvs_ne n _ (by simp) (by rw [List.length_append]; simp; omega))
theorem best_len {cost : List Int → Int} : ∀ (l : List (List Int)) (s : List Int × Int) (N : Nat), s.1.length ≤ N → (∀ o ∈ l, o.length ≤ N) → (l.foldl (updO cost) s).1.length ≤ N
  | [], s, _, h, _ => h
  | x :: l, s, N, h, hl => by
    rw [List.foldl_cons]
    refine best_len l _ N ?_ (fun o ho => hl o (List.mem_cons_of_mem _ ho))
    unfold updO
    split
    · exact hl x (List.mem_cons_self ..)
    · exact h
theorem lvs_len {c : List Trm} : ∀ (n : Nat) (o : List Int), ∀ x ∈ lvs c n o, x.length = o.length + n
  | 0, o, x, hx => by simp [lvs] at hx; simp [hx]
  | n + 1, o, x, hx => by
    rw [lvs] at hx
    obtain ⟨k, hk, hx⟩ := List.mem_flatMap.1 hx
    split at hx
    · simp at hx
    · have := lvs_len n _ x hx
      simp at this
      omega
theorem foldl_go {cost : List Int → Int} {c : List Trm} {n : Nat} {o : List Int} {k : Nat} (s : List Int × Int) (h : skipO c o k = false) : (partO c n o (k + 1)).foldl (updO cost) s = (lvs c n (o ++ [(k : Int)])).foldl (updO cost) ((partO c n o k).foldl (updO cost) s) := by
  rw [partO_go h, List.foldl_append]
theorem foldl_skip {cost : List Int → Int} {c : List Trm} {n : Nat} {o : List Int} {k : Nat} (s : List Int × Int) (h : skipO c o k = true) : (partO c n o (k + 1)).foldl (updO cost) s = (partO c n o k).foldl (updO cost) s := by
  rw [partO_skip h]
end Go.Proofs.YtkoojngonldcbaaGreat
