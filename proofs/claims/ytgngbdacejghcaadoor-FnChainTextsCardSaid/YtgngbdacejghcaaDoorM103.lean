/- DERIVED. Walks: the draws of chains. -/
import Derived.Test.YtgngbdacejghcaaDoorM102
namespace Go.Proofs.YtgngbdacejghcaaDoor
set_option linter.unusedVariables false
set_option linter.unusedSimpArgs false
open Go.RowKit
set_option maxRecDepth 100000

theorem w_l01From' (c : Value) (bs : List Int) (w : World) (h : IsByts w c bs) (hB : ∀ b ∈ bs, 0 ≤ b ∧ b ≤ 255) (hl : bs.length ≤ 4096) :
    Calls Tryd.prog 66 #[c] w fun e w' => ∃ k, e = .returned (.pointer (some ⟨k, 0, none⟩)) ∧ w.heap.size ≤ k ∧ Later w w' ∧ Src w' k c :=
  (w_l01From c bs w h hB hl).mono fun e w' h => ⟨_, h.1, Nat.le_refl _, h.2.1, h.2.2⟩

set_option maxHeartbeats 2000000 in
theorem w_DrawChainText (c : Value) (bs : List Int) (w : World) (h : IsByts w c bs) (hB : ∀ b ∈ bs, 0 ≤ b ∧ b ≤ 255) (hl : bs.length ≤ 4096) :
    Calls Tryd.prog 33 #[c] w fun e w' => ∃ (v : Value) (l : List Trm), e = .returned v ∧ w'.ownsRow w.heap.size 60 3 v l.length (trms l) ∧ l.length ≤ 7 ∧ Later w w' := by
  go_enter Tryd.func33, Tryd.ntmps33
  go_wp2_with fail
  refine (w_l01From' c bs _ h hB hl).mono ?_
  rintro e w1 ⟨k, rfl, hk0, hL1, hS1⟩
  have hk := hS1.lt
  have hD1 : Drawn w w1 k := Drawn.later (by repeat (with_reducible first | exact grown_refl _ _ | refine Drawn.alloc ?_ _)) hL1
  have hz1 := hD1.size
  clear hL1
  go_wp2_with fail
  refine (w_l13Draw k c _ (by repeat (with_reducible first | assumption | refine Src.alloc ?_ _ | refine Src.drew ?_ | refine Src.drewN ?_ _ | refine Src.setCell ?_ (by first | omega | (simp; omega)) _ _))).mono ?_
  rintro e w2 ⟨vr, l, rfl, hO, hl7, hD, hS2⟩
  have hz2 : w1.heap.size ≤ w2.heap.size := Nat.le_trans (by first | (simp; done) | (simp; omega)) hD.size
  have hD2 : Drawn w w2 k := Drawn.trans (by repeat (with_reducible first | assumption | exact grown_refl _ _ | refine Drawn.alloc ?_ _ | refine Drawn.drew ?_ | refine Drawn.drewN ?_ _ | refine Drawn.setCell ?_ (by first | omega | (simp; omega)) _ _)) hD
  clear hD
  obtain ⟨ar, capr, rfl⟩ := isSl_of hO
  have HOr_2 := Lib.hid (owns_base (base' := w1.heap.size) hO (by first | omega | (have := hD2.size; have := hD1.size; simp at *; omega)))
  clear hO
  go_wp2
  go_ret
  exact ⟨_, l, rfl, owns_base HOr_2.out (by omega), hl7, (Later.refl w).drawn hk0 (by repeat (with_reducible first | assumption | exact grown_refl _ _ | refine Drawn.alloc ?_ _ | refine Drawn.drew ?_ | refine Drawn.drewN ?_ _ | refine Drawn.setCell ?_ (by first | omega | (simp; omega)) _ _))⟩

theorem w_big (a : Option Addr) (n cap : Nat) (hn : n ≤ 9223372036854775807) (w : World) :
    Calls Tryd.prog 32 #[.slice a n cap] w fun e w' => e = .returned (.bool (decide ((4096 : Int) < (n : Int)))) ∧ w = w' := by
  go_enter Tryd.func32, Tryd.ntmps32
  go_wp2
  go_ret
  exact ⟨rfl, rfl⟩

theorem trm_ext {t s : Trm} (h1 : t.f.d = s.f.d) (h2 : t.f.t = s.f.t) (h3 : t.dv = s.dv) : t = s := by
  cases t with | mk f d => cases s with | mk g e => cases f; cases g; simp_all

set_option maxHeartbeats 1000000 in
theorem w_likeTerms (v v' : Value) (ts us : List Trm) (w : World) (h : IsTrms w v ts) (h' : IsTrms w v' us) :
    Calls Tryd.prog 35 #[v, v'] w fun e w' => e = .returned (.bool (decide (ts = us))) ∧ Later w w' := by
  obtain ⟨hxl, hn, a, cap, rfl, hcap, hmax, hrow⟩ := h
  obtain ⟨hxl', hn', a', cap', rfl, hcap', hmax', hrow'⟩ := h'
  clear hxl hxl'
  obtain ⟨n, hnn⟩ : ∃ n, ts.length = n := ⟨_, rfl⟩
  obtain ⟨n', hnn'⟩ : ∃ n, us.length = n := ⟨_, rfl⟩
  rw [hnn] at hn hcap hrow ⊢
  rw [hnn'] at hn' hcap' hrow' ⊢
  have HN := Lib.hid hnn
  have HN' := Lib.hid hnn'
  have HR := Lib.hid hrow
  have HR' := Lib.hid hrow'
  clear hnn hnn' hrow hrow'
  by_cases hne : n = n'
  · obtain rfl : n = n' := hne
    go_enter Tryd.func35, Tryd.ntmps35
    go_wp2
    go_loopw [5] (fun i wr => ∃ k : Nat, k ≤ n ∧ i = .int .i64 k ∧ Later w wr ∧ Hid (ts.take k = us.take k)) (fun i _ => n - (intOf i).toNat)
    case atStart => exact ⟨0, Nat.zero_le _, rfl, Later.refl _, by simp [Hid]⟩
    case round =>
      obtain ⟨k, hk, rfl, hL, HE⟩ := hrel
      by_cases hlt : k < n
      · obtain ⟨b, off, rfl, hr⟩ := HR.out (by omega)
        obtain ⟨b', off', rfl, hr'⟩ := HR'.out (by omega)
        obtain ⟨t, ht⟩ := get_ex (l := ts) (k := k) (by have := HN.out; omega)
        obtain ⟨s, hs⟩ := get_ex (l := us) (k := k) (by have := HN'.out; omega)
        have HT := Lib.hid ht
        have HS := Lib.hid hs
        obtain ⟨c1_0, c1_1, c1_2⟩ := (hr.later hL).trm ht
        obtain ⟨d0, d1, d2⟩ := (hr'.later hL).trm hs
        have hz1 := (hr.later hL).1
        have hz2 := (hr'.later hL).1
        clear ht hs
        go_wp2_with fail
        go_still_tail 8, (by kernel_rfl)
        go_wp2
        all_goals first | (have he : t ≠ s := (by first | exact fun e => (by assumption : ¬ t.f.d = s.f.d) (by rw [e]) | exact fun e => (by assumption : ¬ t.f.t = s.f.t) (by rw [e]) | exact fun e => (by assumption : ¬ t.dv = s.dv) (by rw [e])); go_ret; exact ⟨by simp [ne_of_get HT.out HS.out he], by (repeat (with_reducible first | exact Later.refl _ | refine Later.alloc ?_ _ | refine Later.drew ?_ | refine Later.drewN ?_ _ | refine Later.setCell ?_ (by simp; try omega) _ | refine Later.trans ?_ (by assumption)))⟩) | skip
        have he : t = s := trm_ext (by assumption) (by assumption) (by assumption)
        go_roundw
        case rel => exact ⟨k + 1, by omega, by go_num, by (repeat (with_reducible first | exact Later.refl _ | refine Later.alloc ?_ _ | refine Later.drew ?_ | refine Later.drewN ?_ _ | refine Later.setCell ?_ (by simp; try omega) _ | refine Later.trans ?_ (by assumption))), take_ext HT.out HS.out HE.out he⟩
        case measure => simp [intOf]; omega
      · have hfin : ts = us := by
          have h1 := HE.out
          rwa [take_eq_all (by have := HN.out; omega), take_eq_all (by have := HN'.out; omega)] at h1
        have HF := Lib.hid hfin
        clear hfin
        go_wp2
        go_ret
        exact ⟨by simp [HF.out], hL⟩
  · have hfin : ts ≠ us := by
      rintro rfl
      have := HN.out; have := HN'.out; omega
    have HF := Lib.hid hfin
    clear hfin
    go_enter Tryd.func35, Tryd.ntmps35
    go_wp2
    go_ret
    exact ⟨by simp [HF.out], Later.refl _⟩

end Go.Proofs.YtgngbdacejghcaaDoor
