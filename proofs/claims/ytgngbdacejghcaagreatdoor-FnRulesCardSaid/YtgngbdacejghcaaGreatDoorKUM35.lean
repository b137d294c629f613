/- DERIVED. Walks: one move. -/
import Derived.Test.YtgngbdacejghcaaGreatDoorKUM34
import Derived.Test.YtgngbdacejghcaaGreatDoorKUBA
namespace Go.Proofs.YtgngbdacejghcaaGreatDoor
set_option linter.unusedVariables false
set_option linter.unusedSimpArgs false
open Go.RowKit
set_option maxRecDepth 100000
theorem wp_name {P : Program} {c : Code} {Q : Exit → Act → World → Prop} {a : Act} {W : World} (h : ∀ u, u = W → Code.wp P c Q a u) : Code.wp P c Q a W := h W rfl
theorem w_setCursor0 (a b q : Int) (h1 : -100000000 ≤ a) (h2 : a ≤ 100000000) (h3 : -100000000 ≤ q) (h4 : q ≤ 100000000) (w : World) :
 Calls Tryz.prog 48 #[.agg #[.int .i64 a, .int .i64 b], .bool false, .int .i64 q] w fun e w' => e = .returned (.agg #[.int .i64 a, .int .i64 q]) ∧ Later w w' := by
 go_enter Tryz.func48, Tryz.ntmps48
 go_wp2
 refine bodyPost_ret (v := .agg #[.int .i64 a, .int .i64 q]) (by simp [results, Tryz.results48, go_sem]) rfl ⟨rfl, qla⟩
theorem w_setCursor1 (a b q : Int) (h1 : -100000000 ≤ a) (h2 : a ≤ 100000000) (h3 : -100000000 ≤ q) (h4 : q ≤ 100000000) (w : World) :
 Calls Tryz.prog 48 #[.agg #[.int .i64 a, .int .i64 b], .bool true, .int .i64 q] w fun e w' => e = .returned (.agg #[.int .i64 a, .int .i64 (q + a)]) ∧ Later w w' := by
 go_enter Tryz.func48, Tryz.ntmps48
 go_wp2
 refine bodyPost_ret (v := .agg #[.int .i64 a, .int .i64 (q + a)]) (by simp [results, Tryz.results48, go_sem]) rfl ⟨rfl, qla⟩
theorem w_l11Cursor0 (a b s d t : Int) (s1 : 0 ≤ s) (s2 : s ≤ 4) (t1 : 1000 ≤ d) (t2 : d ≤ 9999) (t3 : -100 ≤ t) (t4 : t ≤ 100) (h1 : -100000000 ≤ a) (h2 : a ≤ 100000000) (h3 : -100000000 ≤ b) (h4 : b ≤ 100000000) (w : World) :
 Calls Tryz.prog 54 #[.agg #[.int .i64 a, .int .i64 b], .bool false, .int .i64 s, .agg #[.int .i64 d, .int .i64 t]] w fun e w' => e = .returned (.agg #[.int .i64 a, .int .i64 (ptF s ⟨d, t⟩)]) ∧ Later w w' := by
 have hp := ptF_bd (s := s) (f := ⟨d, t⟩) t1 t2
 obtain ⟨PT, hPT⟩ : ∃ PT, ptF s ⟨d, t⟩ = PT := ⟨_, rfl⟩
 rw [hPT] at hp ⊢
 obtain ⟨p1, p2⟩ := hp
 have HPT := Lib.hid hPT
 clear hPT
 go_enter Tryz.func54, Tryz.ntmps54
 go_wp2_with fail
 refine (w_specPoint _ _ _ s1 s2 t1 t2 t3 t4 _).mono ?_
 rintro e w1 ⟨rfl, hL⟩
 rw [HPT.out]
 obtain ⟨K0, K1, K2⟩ := kept3 hL
 obtain ⟨c0, f0, z0⟩ := blk_at K0
 obtain ⟨c2, f2, z2⟩ := blk_at K2
 go_wp2
 refine bodyPost_ret (v := .agg #[.int .i64 a, .int .i64 (PT)]) (by simp [results, Tryz.results54, go_sem, c2, z2]) rfl ⟨rfl, qla⟩
theorem w_l11Cursor1 (a b s d t : Int) (s1 : 0 ≤ s) (s2 : s ≤ 4) (t1 : 1000 ≤ d) (t2 : d ≤ 9999) (t3 : -100 ≤ t) (t4 : t ≤ 100) (h1 : -100000000 ≤ a) (h2 : a ≤ 100000000) (h3 : -100000000 ≤ b) (h4 : b ≤ 100000000) (w : World) :
 Calls Tryz.prog 54 #[.agg #[.int .i64 a, .int .i64 b], .bool true, .int .i64 s, .agg #[.int .i64 d, .int .i64 t]] w fun e w' => e = .returned (.agg #[.int .i64 a, .int .i64 (ptF s ⟨d, t⟩ + a)]) ∧ Later w w' := by
 have hp := ptF_bd (s := s) (f := ⟨d, t⟩) t1 t2
 obtain ⟨PT, hPT⟩ : ∃ PT, ptF s ⟨d, t⟩ = PT := ⟨_, rfl⟩
 rw [hPT] at hp ⊢
 obtain ⟨p1, p2⟩ := hp
 have HPT := Lib.hid hPT
 clear hPT
 go_enter Tryz.func54, Tryz.ntmps54
 go_wp2_with fail
 refine (w_specPoint _ _ _ s1 s2 t1 t2 t3 t4 _).mono ?_
 rintro e w1 ⟨rfl, hL⟩
 rw [HPT.out]
 obtain ⟨K0, K1, K2⟩ := kept3 hL
 obtain ⟨c0, f0, z0⟩ := blk_at K0
 obtain ⟨c2, f2, z2⟩ := blk_at K2
 go_wp2
 refine bodyPost_ret (v := .agg #[.int .i64 a, .int .i64 (PT + a)]) (by simp [results, Tryz.results54, go_sem, c2, z2]) rfl ⟨rfl, qla⟩
theorem w_l11On_st (n : Int) (u v : Value) (st sd : List Int) (w : World) (h : IsNums w u st) (h' : IsNums w v sd) :
 Calls Tryz.prog 70 #[.agg #[.int .i64 n, u, v], .bool false] w fun e w' => e = .returned u ∧ Later w w' := w_l11On n u v st sd false w h h'
theorem w_l11On_sl (n : Int) (u v : Value) (st sd : List Int) (w : World) (h : IsNums w u st) (h' : IsNums w v sd) :
 Calls Tryz.prog 70 #[.agg #[.int .i64 n, u, v], .bool true] w fun e w' => e = .returned v ∧ Later w w' := w_l11On n u v st sd true w h h'
end Go.Proofs.YtgngbdacejghcaaGreatDoor
