/- DERIVED. Walks: the tens of the parts of a chain. -/
import Derived.Test.YtkoojngonldcbaaM24
import Derived.Test.YtkoojngonldcbaaBA
namespace Go.Proofs.Ytkoojngonldcbaa
set_option linter.unusedVariables false
set_option linter.unusedSimpArgs false
open Go.RowKit
set_option maxRecDepth 100000

theorem partialTens_len (l : List Trm) : (partialTens l).length ≤ 6 := by
  cases hc : isChain l
  · simp [partialTens, hc]
  · have h6 := (isChain_true hc).2.1
    rw [partialTens, hc, if_pos rfl]
    cases hp : partL l l.length with
    | none => simp
    | some r => have := partL_len hp; simpa [this] using h6

set_option maxHeartbeats 2000000 in
theorem w_implPartialTens (v : Value) (l : List Trm) (w : World) (h : IsTrms w v l) :
    Calls Try.prog 36 #[v] w fun e w' => ∃ v', e = .returned (.tuple #[v', .int .i64 (codePartial l)]) ∧ Later w w' ∧ w'.ownsRow w.heap.size 2 1 v' (partialTens l).length (nums (partialTens l)) := by
  cases hc : isChain l
  · have HC := Lib.hid hc
    have hf : partialTens l = [] := by simp [partialTens, hc]
    have hg : codePartial l = 1 := by simp [codePartial, hc]
    rw [hf, hg]
    clear hc
    go_enter Try.func36, Try.ntmps36
    go_wp2_with fail
    refine (w_implIsChain _ _ _ h).mono ?_
    rintro e w1 ⟨rfl, hL⟩
    rw [HC.out]
    go_wp2
    go_ret2
    exact ⟨_, rfl, by (repeat (with_reducible first | exact Later.refl _ | refine Later.alloc ?_ _ | refine Later.drew ?_ | refine Later.drewN ?_ _ | refine Later.setCell ?_ (by simp; try omega) _ | refine Later.trans ?_ (by assumption))), World.ownsRow_nil _ _ _ _⟩
  have h6 := (isChain_true hc).2.1
  have h1 := (isChain_true hc).1
  have HC := Lib.hid hc
  have H := Lib.hid h
  clear hc
  obtain ⟨hxl1, hn1, a1, cap1, rfl, hcap1, hmax1, hrow1⟩ := h
  have HR1 := Lib.hid hrow1
  clear hrow1 hxl1
  go_enter Try.func36, Try.ntmps36
  go_wp2_with fail
  refine (w_implIsChain _ _ _ H.out).mono ?_
  rintro e w1 ⟨rfl, hL1⟩
  rw [HC.out]
  go_wp2
  go_loopw [4, 14] (fun r i wr => ∃ k : Nat, k ≤ l.length ∧ i = .int .i64 k ∧ Later w wr ∧ ∃ L : List Int, wr.ownsRow w.heap.size 2 1 r L.length (nums L) ∧ Hid (partL l k = some L)) (fun _ i _ => l.length - (intOf i).toNat)
  case atStart => exact ⟨0, Nat.zero_le _, rfl, hL1.alloc _, [], own_empty hL1.size _ _, rfl⟩
  case round =>
    obtain ⟨k, hk, rfl, hL, L, hown, HP⟩ := hrel
    have hlen := partL_len HP.out
    by_cases hlt : k < l.length
    rotate_left
    · have hkl : k = l.length := by omega
      have hf : partialTens l = L := by
        rw [partialTens, HC.out, if_pos rfl, ← hkl, HP.out]; rfl
      have hg : codePartial l = 0 := by
        rw [codePartial, HC.out, if_pos rfl, ← hkl, HP.out]
      have HF2 := Lib.hid hf
      have HG2 := Lib.hid hg
      clear hf hg hkl
      go_wp2
      go_ret2
      exact ⟨_, by rw [HG2.out]; rfl, hL, by rw [HF2.out]; exact hown⟩
    have hch := take_isChain HC.out hlt
    have hcf : chainFigC (l.take (k + 1)) = 0 ∨ chainFigC (l.take (k + 1)) = 3 := by
      rw [chainFigC, hch, if_pos rfl]
      cases chainFig0 (l.take (k + 1)) with
      | none => exact .inr rfl
      | some a => exact .inl rfl
    have hT := IsTrms.take (H.out.later hL) (show k + 1 ≤ l.length by omega)
    have HT := Lib.hid hT
    have HLen := Lib.hid hlen
    have HOwn := Lib.hid hown
    obtain ⟨G, hG⟩ : ∃ G, chainFig (l.take (k + 1)) = G := ⟨_, rfl⟩
    have HG := Lib.hid hG
    clear hch hT hlen hG hown
    rcases hcf with hcf | hcf
    rotate_left
    · have hn : partL l (k + 1) = none := by rw [partL, HP.out]; simp only; rw [if_neg (by omega)]
      have hn2 := partL_none hn l.length (by omega)
      have hf : partialTens l = [] := by rw [partialTens, HC.out, if_pos rfl, hn2]; rfl
      have hg : codePartial l = 3 := by rw [codePartial, HC.out, if_pos rfl, hn2]
      have HF2 := Lib.hid hf
      have HG2 := Lib.hid hg
      have HCF := Lib.hid hcf
      clear hn hn2 hf hg hcf
      go_wp2_with fail
      refine (w_implChainFigure _ _ _ HT.out).mono ?_
      rintro e w2 ⟨rfl, hL2⟩
      rw [HG.out, HCF.out]
      go_wp2
      go_ret2
      exact ⟨_, by rw [HG2.out]; rfl, by (repeat (with_reducible first | exact Later.refl _ | refine Later.alloc ?_ _ | refine Later.drew ?_ | refine Later.drewN ?_ _ | refine Later.setCell ?_ (by simp; try omega) _ | refine Later.trans ?_ (by assumption))), by rw [HF2.out]; exact World.ownsRow_nil _ _ _ _⟩
    have HN := Lib.hid (show partL l (k + 1) = some (L ++ [G.t]) from by rw [partL, HP.out]; simp only; rw [if_pos hcf, HG.out])
    have HCF := Lib.hid hcf
    clear hcf
    go_wp2_with fail
    refine (w_implChainFigure _ _ _ HT.out).mono ?_
    rintro e w2 ⟨rfl, hL2⟩
    rw [HG.out, HCF.out]
    have hown2 := (owns_later HOwn.out hL2).alloc (.cells #[.int .i64 G.d, .int .i64 G.t] 41)
    have hL3 : Later w (w2.alloc (.cells #[.int .i64 G.d, .int .i64 G.t] 41)) := (hL.trans hL2).alloc _
    go_wp2_with (at_builtin; refine app1_Int64 rfl (.tmp 28) (.tmp 31) rfl w.heap.size _ L G.t rfl hown2 (by simp [Act.eval, Array.getD]) ?_ hL3.size ?_; (· rw [HLen.out]; omega); intro v1 w4 ho4 hg4)
    go_roundw
    case rel => exact ⟨k + 1, by omega, by go_num, hL3.own (Nat.le_refl _) hown2 hg4, L ++ [G.t], ho4, HN.out⟩
    case measure => simp [intOf]; omega

set_option maxHeartbeats 2000000 in
theorem w_specPartialTens (v : Value) (l : List Trm) (w : World) (h : IsTrms w v l) :
    Calls Try.prog 37 #[v] w fun e w' => ∃ v', e = .returned (.tuple #[v', .int .i64 (codePartial l)]) ∧ Later w w' ∧ w'.ownsRow w.heap.size 2 1 v' (partialTens l).length (nums (partialTens l)) := by
  cases hc : isChain l
  · have HC := Lib.hid hc
    have hf : partialTens l = [] := by simp [partialTens, hc]
    have hg : codePartial l = 1 := by simp [codePartial, hc]
    rw [hf, hg]
    clear hc
    go_enter Try.func37, Try.ntmps37
    go_wp2_with fail
    refine (w_specIsChain _ _ _ h).mono ?_
    rintro e w1 ⟨rfl, hL⟩
    rw [HC.out]
    go_wp2
    go_ret2
    exact ⟨_, rfl, by (repeat (with_reducible first | exact Later.refl _ | refine Later.alloc ?_ _ | refine Later.drew ?_ | refine Later.drewN ?_ _ | refine Later.setCell ?_ (by simp; try omega) _ | refine Later.trans ?_ (by assumption))), World.ownsRow_nil _ _ _ _⟩
  have h6 := (isChain_true hc).2.1
  have h1 := (isChain_true hc).1
  have HC := Lib.hid hc
  have H := Lib.hid h
  clear hc
  obtain ⟨hxl1, hn1, a1, cap1, rfl, hcap1, hmax1, hrow1⟩ := h
  have HR1 := Lib.hid hrow1
  clear hrow1 hxl1
  go_enter Try.func37, Try.ntmps37
  go_wp2_with fail
  refine (w_specIsChain _ _ _ H.out).mono ?_
  rintro e w1 ⟨rfl, hL1⟩
  rw [HC.out]
  go_wp2
  go_loopw [4, 5] (fun r i wr => ∃ k : Nat, k ≤ l.length ∧ i = .int .i64 k ∧ Later w wr ∧ ∃ L : List Int, wr.ownsRow w.heap.size 2 1 r L.length (nums L) ∧ Hid (partL l k = some L)) (fun _ i _ => l.length - (intOf i).toNat)
  case atStart => exact ⟨0, Nat.zero_le _, rfl, hL1.alloc _, [], own_empty hL1.size _ _, rfl⟩
  case round =>
    obtain ⟨k, hk, rfl, hL, L, hown, HP⟩ := hrel
    have hlen := partL_len HP.out
    by_cases hlt : k < l.length
    rotate_left
    · have hkl : k = l.length := by omega
      have hf : partialTens l = L := by
        rw [partialTens, HC.out, if_pos rfl, ← hkl, HP.out]; rfl
      have hg : codePartial l = 0 := by
        rw [codePartial, HC.out, if_pos rfl, ← hkl, HP.out]
      have HF2 := Lib.hid hf
      have HG2 := Lib.hid hg
      clear hf hg hkl
      go_wp2
      go_ret2
      exact ⟨_, by rw [HG2.out]; rfl, hL, by rw [HF2.out]; exact hown⟩
    have hch := take_isChain HC.out hlt
    have hcf : chainFigC (l.take (k + 1)) = 0 ∨ chainFigC (l.take (k + 1)) = 3 := by
      rw [chainFigC, hch, if_pos rfl]
      cases chainFig0 (l.take (k + 1)) with
      | none => exact .inr rfl
      | some a => exact .inl rfl
    have hT := IsTrms.take (H.out.later hL) (show k + 1 ≤ l.length by omega)
    have HT := Lib.hid hT
    have HLen := Lib.hid hlen
    have HOwn := Lib.hid hown
    obtain ⟨G, hG⟩ : ∃ G, chainFig (l.take (k + 1)) = G := ⟨_, rfl⟩
    have HG := Lib.hid hG
    clear hch hT hlen hG hown
    rcases hcf with hcf | hcf
    rotate_left
    · have hn : partL l (k + 1) = none := by rw [partL, HP.out]; simp only; rw [if_neg (by omega)]
      have hn2 := partL_none hn l.length (by omega)
      have hf : partialTens l = [] := by rw [partialTens, HC.out, if_pos rfl, hn2]; rfl
      have hg : codePartial l = 3 := by rw [codePartial, HC.out, if_pos rfl, hn2]
      have HF2 := Lib.hid hf
      have HG2 := Lib.hid hg
      have HCF := Lib.hid hcf
      clear hn hn2 hf hg hcf
      go_wp2_with fail
      refine (w_specChainFigure _ _ _ HT.out).mono ?_
      rintro e w2 ⟨rfl, hL2⟩
      rw [HG.out, HCF.out]
      go_wp2
      go_ret2
      exact ⟨_, by rw [HG2.out]; rfl, by (repeat (with_reducible first | exact Later.refl _ | refine Later.alloc ?_ _ | refine Later.drew ?_ | refine Later.drewN ?_ _ | refine Later.setCell ?_ (by simp; try omega) _ | refine Later.trans ?_ (by assumption))), by rw [HF2.out]; exact World.ownsRow_nil _ _ _ _⟩
    have HN := Lib.hid (show partL l (k + 1) = some (L ++ [G.t]) from by rw [partL, HP.out]; simp only; rw [if_pos hcf, HG.out])
    have HCF := Lib.hid hcf
    clear hcf
    go_wp2_with fail
    refine (w_specChainFigure _ _ _ HT.out).mono ?_
    rintro e w2 ⟨rfl, hL2⟩
    rw [HG.out, HCF.out]
    have hown2 := (owns_later HOwn.out hL2).alloc (.cells #[.int .i64 G.d, .int .i64 G.t] 41)
    have hL3 : Later w (w2.alloc (.cells #[.int .i64 G.d, .int .i64 G.t] 41)) := (hL.trans hL2).alloc _
    go_wp2_with (at_builtin; refine app1_Int64 rfl (.tmp 29) (.tmp 32) rfl w.heap.size _ L G.t rfl hown2 (by simp [Act.eval, Array.getD]) ?_ hL3.size ?_; (· rw [HLen.out]; omega); intro v1 w4 ho4 hg4)
    go_roundw
    case rel => exact ⟨k + 1, by omega, by go_num, hL3.own (Nat.le_refl _) hown2 hg4, L ++ [G.t], ho4, HN.out⟩
    case measure => simp [intOf]; omega

end Go.Proofs.Ytkoojngonldcbaa
