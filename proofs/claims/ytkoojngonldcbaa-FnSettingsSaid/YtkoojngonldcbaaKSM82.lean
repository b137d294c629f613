/- DERIVED. Walks: readings, the reference's. -/
import Derived.Test.YtkoojngonldcbaaKSP12
import Derived.Test.YtkoojngonldcbaaKSM34
namespace Go.Proofs.Ytkoojngonldcbaa
set_option linter.unusedVariables false
set_option linter.unusedSimpArgs false
open Go.RowKit
set_option maxRecDepth 100000
theorem w_absR (x y : Int) (h1 : -1000000000000 ≤ x - y) (h2 : x - y ≤ 1000000000000) (w : World) :
 Calls Try.prog 196 #[.int .i64 (x - y)] w fun e w' => e = .returned (.int .i64 (max (x - y) (y - x))) ∧ w = w' := by
 by_cases h : x - y < 0
 · have HE := Lib.hid (show max (x - y) (y - x) = -(x - y) by omega)
   go_enter Try.func196, Try.ntmps196
   go_wp2
   go_ret
   exact ⟨by rw [HE.out]; rfl, rfl⟩
 · have HE := Lib.hid (show max (x - y) (y - x) = x - y by omega)
   go_enter Try.func196, Try.ntmps196
   go_wp2
   go_ret
   exact ⟨by rw [HE.out]; rfl, rfl⟩
theorem w_l11At (n : Int) (h1 : 0 ≤ n) (h2 : n ≤ 1000000) (w : World) :
 Calls Try.prog 197 #[.int .i64 n] w fun e w' => e = .returned (.agg #[.int .i64 (atF n).d, .int .i64 (atF n).t]) ∧ Later w w' := by
 have HF := Lib.hid (show atF n = ⟨1000 + n % 9000, n / 9000⟩ from rfl)
 go_enter Try.func197, Try.ntmps197
 go_wp2
 refine bodyPost_ret (v := .agg #[.int .i64 (1000 + n % 9000), .int .i64 (n / 9000)]) (by simp [results, Try.results197, go_sem]) rfl ⟨by rw [HF.out], qla⟩
theorem w_decadesS (s : Int) (w : World) : Calls Try.prog 198 #[.int .i64 s] w fun e w' => e = .returned (.int .i64 (decN s)) ∧ w = w' := by
 by_cases h1 : s = 1
 · subst h1
   go_enter Try.func198, Try.ntmps198
   go_wp2
   go_ret
   exact ⟨rfl, rfl⟩
 by_cases h2 : s = 2
 · subst h2
   go_enter Try.func198, Try.ntmps198
   go_wp2
   go_ret
   exact ⟨rfl, rfl⟩
 have HD := Lib.hid (show decN s = 1 from by unfold decN; rw [if_neg h1, if_neg h2])
 have b1 : (s == 1) = false := by simp [h1]
 have b2 : (s == 2) = false := by simp [h2]
 go_enter Try.func198, Try.ntmps198
 go_wp2
 go_ret
 exact ⟨by rw [HD.out]; rfl, rfl⟩
def SoFar (s t lo k B M : Int) : Prop := (k = lo ∧ B = -1 ∧ M = 0) ∨ (lo < k ∧ 0 ≤ B ∧ IsNear s t lo k B ∧ aw s t B = M)
theorem SoFar.take {s t lo k B M A : Int} (h : SoFar s t lo k B M) (h0 : 0 ≤ lo) (hA : aw s t k = A) (hlt : B < 0 ∨ A < M) : SoFar s t lo (k + 1) k A := by
 rcases h with ⟨rfl, rfl, rfl⟩ | ⟨h1, h2, h3, h4⟩
 · exact .inr ⟨by omega, h0, near_one, hA⟩
 · refine .inr ⟨by omega, by omega, (near_snoc h3 (by omega)).1 (by omega), hA⟩
theorem SoFar.pass {s t lo k B M A : Int} (h : SoFar s t lo k B M) (hA : aw s t k = A) (hB : ¬ B < 0) (hlt : ¬ A < M) : SoFar s t lo (k + 1) B M := by
 rcases h with ⟨rfl, rfl, rfl⟩ | ⟨h1, h2, h3, h4⟩
 · omega
 · refine .inr ⟨by omega, by omega, (near_snoc h3 (by omega)).2 (by omega), h4⟩
set_option maxHeartbeats 2000000 in
theorem w_l11Search3 (t f0 f1 : Int) (w : World) (hs : IsSeg 3 f0 f1) (hlt : f0 < f1) (t1 : -4000000 ≤ t) (t2 : t ≤ 4000000) :
 Calls Try.prog 195 #[.int .i64 3, .int .i64 f0, .int .i64 f1, .int .i64 t, .bool true] w fun e w' => ∃ n : Int, e = .returned (.int .i64 n) ∧ IsNear 3 t f0 f1 n ∧ Later w w' := by
 have hd := decN_bd 3
 have q0 : 0 ≤ f0 := hs.1
 have q1 : f1 ≤ 27000 := by have := hs.2.2.1; omega
 have HSeg := Lib.hid hs
 have HR3 := Lib.hid (show ∀ n X, P 3 n = X → (reach 3 t n ↔ X ≤ t) from fun n X hX => by
  unfold reach
  rw [hX, if_pos rfl])
 clear hs hd
 go_enter Try.func195, Try.ntmps195
 go_wp2
 go_loopw [11, 12] (fun x y wr => ∃ L T : Int, x = .int .i64 L ∧ y = .int .i64 T ∧ f0 - 1 ≤ L ∧ L < T ∧ T ≤ f1 ∧ Later w wr ∧ Hid ((T = f1 ∨ reach 3 t T) ∧ (L = f0 - 1 ∨ ¬ reach 3 t L))) (fun x y _ => (intOf y - intOf x).toNat)
 case atStart => exact ⟨f0 - 1, f1, rfl, rfl, by omega, by omega, by omega, Later.refl _, ⟨.inl rfl, .inl rfl⟩⟩
 case round =>
  obtain ⟨L, T, rfl, rfl, l1, l2, l3, hL, HE⟩ := hrel
  by_cases hgt : 1 < T - L
  · have hm1 : L < (L + T) / 2 := by omega
    have hm2 : (L + T) / 2 < T := by omega
    have HMe := Lib.hid (show (Int.tdiv (L + T) 2) = (L + T) / 2 from Int.tdiv_eq_ediv_of_nonneg (by omega))
    obtain ⟨m, hm⟩ : ∃ m, (L + T) / 2 = m := ⟨_, rfl⟩
    rw [hm] at hm1 hm2 HMe
    have hfg := isFig_true (atF_fig (s := 2) (n := m) (by omega) (by rw [show decN 2 = 3 from rfl]; omega))
    obtain ⟨g1, g2, g3, g4⟩ := hfg
    have hpb := ptF_bd (s := 3) (f := atF m) g1 g2
    obtain ⟨X, hX⟩ : ∃ x, ptF 3 ⟨(atF m).d, (atF m).t⟩ = x := ⟨_, rfl⟩
    have hpb : -10000000 ≤ X ∧ X ≤ 10000000 := hX ▸ hpb
    obtain ⟨x1, x2⟩ := hpb
    have hr := HR3.out m X hX
    have HX := Lib.hid hX
    have HMe2 := Lib.hid hm
    clear hm hX
    by_cases hq : X ≤ t
    all_goals
     first | have HQ := Lib.hid (hr.2 hq) | have HQ := Lib.hid (fun h => hq (hr.1 h))
     clear hr
     go_wp2_with fail
     rw [HMe2.out]
     refine (w_l11At m (by omega) (by omega) _).mono ?_
     rintro e w1 ⟨rfl, hL1⟩
     go_wp2_with fail
     refine (w_specPoint 3 _ _ (by omega) (by omega) g1 g2 (by omega) (by omega) _).mono ?_
     rintro e w2 ⟨rfl, hL2⟩
     rw [HX.out]
     go_wp2
     go_roundw
     case rel => first | exact ⟨m, T, by first | rfl | rw [HMe2.out], rfl, by omega, by omega, by omega, qla, ⟨HE.out.1, .inr HQ.out⟩⟩ | exact ⟨L, m, rfl, by first | rfl | rw [HMe2.out], by omega, by omega, by omega, qla, ⟨.inr HQ.out, HE.out.2⟩⟩
     case measure => simp [intOf]; omega
  · have hT : L = T - 1 := by omega
    subst hT
    have HCut := Lib.hid (show IsCut 3 t f0 f1 T from ⟨by omega, l3, HE.out.1, HE.out.2.imp_left (fun h => by omega)⟩)
    obtain ⟨lo, hlo⟩ : ∃ x, max f0 (T - 3) = x := ⟨_, rfl⟩
    have HLo := Lib.hid hlo
    have lo1 : 0 ≤ lo := by omega
    have lo2 : lo < f1 := by omega
    have lo3 : lo < T + 3 := by omega
    have lo4 : T - 3 ≤ lo := by omega
    clear hlo
    have HL2 := Lib.hid hL
    clear hL HE
    have HHi := Lib.hid (show ∀ k, lo ≤ k → k ≤ f1 → k ≤ T + 3 → ¬ (k < f1 ∧ k < T + 3) → k = min f1 (T + 3) from fun k _ _ _ _ => by omega)
    go_wp2
    all_goals
     go_loopw [15, 16, 17] (fun x y z wr => ∃ k B M : Int, x = .int .i64 B ∧ y = .int .i64 M ∧ z = .int .i64 k ∧ lo ≤ k ∧ k ≤ f1 ∧ k ≤ T + 3 ∧ Later w wr ∧ Hid (SoFar 3 t lo k B M)) (fun x y z _ => (f1 - intOf z).toNat)
     case atStart => exact ⟨lo, -1, 0, rfl, rfl, congrArg (Value.int .i64) (by have := HLo.out; omega), by omega, by omega, by omega, HL2.out, .inl ⟨rfl, rfl, rfl⟩⟩
     case round =>
      obtain ⟨k, B, M, rfl, rfl, rfl, k1, k2, k3, hL, HD⟩ := hrel
      have HL := Lib.hid hL
      clear hL
      by_cases e1 : k < f1
      · by_cases e2 : k < T + 3
        · have hfg := isFig_true (atF_fig (s := 2) (n := k) (by omega) (by rw [show decN 2 = 3 from rfl]; omega))
          obtain ⟨g1, g2, g3, g4⟩ := hfg
          have hpb := ptF_bd (s := 3) (f := atF k) g1 g2
          obtain ⟨X, hX⟩ : ∃ x, ptF 3 ⟨(atF k).d, (atF k).t⟩ = x := ⟨_, rfl⟩
          have hpb : -10000000 ≤ X ∧ X ≤ 10000000 := hX ▸ hpb
          obtain ⟨x1, x2⟩ := hpb
          obtain ⟨A, hA⟩ : ∃ x, max (X - t) (t - X) = x := ⟨_, rfl⟩
          have HAw := Lib.hid (show aw 3 t k = A from by unfold aw; rw [show P 3 k = X from hX, hA])
          have HX := Lib.hid hX
          have HA := Lib.hid hA
          clear hX hA
          by_cases c1 : B < 0
          rotate_left
          by_cases c2 : A < M
          all_goals
           first | have HN := Lib.hid (HD.out.take lo1 HAw.out (.inl c1)) | have HN := Lib.hid (HD.out.take lo1 HAw.out (.inr c2)) | have HN := Lib.hid (HD.out.pass HAw.out c1 c2)
           go_wp2_with fail
           refine (w_l11At k (by omega) (by omega) _).mono ?_
           rintro e w1 ⟨rfl, hL1⟩
           go_wp2_with fail
           refine (w_specPoint 3 _ _ (by omega) (by omega) g1 g2 (by omega) (by omega) _).mono ?_
           rintro e w2 ⟨rfl, hL2⟩
           rw [HX.out]
           go_wp2_with fail
           refine (w_absR X t (by omega) (by omega) _).mono ?_
           rintro e w3 ⟨rfl, rfl⟩
           rw [HA.out]
           have hL := HL.out
           go_wp2
           go_roundw
           case rel => exact ⟨k + 1, _, _, rfl, rfl, rfl, by omega, by omega, by omega, qla, HN.out⟩
           case measure => simp [intOf]; omega
        · have HEnd := Lib.hid (HHi.out k k1 k2 k3 (by omega))
          go_wp2
          go_ret
          refine ⟨B, rfl, ?_, HL.out⟩
          rcases HD.out with ⟨h, _, _⟩ | ⟨_, _, h, _⟩
          · omega
          · refine near_window (by omega) HSeg.out (by omega) HCut.out ?_
            rw [← HEnd.out, HLo.out]
            exact h
      · have HEnd := Lib.hid (HHi.out k k1 k2 k3 (by omega))
        go_wp2
        go_ret
        refine ⟨B, rfl, ?_, HL.out⟩
        rcases HD.out with ⟨h, _, _⟩ | ⟨_, _, h, _⟩
        · omega
        · refine near_window (by omega) HSeg.out (by omega) HCut.out ?_
          rw [← HEnd.out, HLo.out]
          exact h
set_option maxHeartbeats 2000000 in
theorem w_l11SearchN (s t f0 f1 : Int) (w : World) (s1 : 0 ≤ s) (s2 : s ≤ 4) (s3 : s ≠ 3) (hs : IsSeg s f0 f1) (hlt : f0 < f1) (t1 : -4000000 ≤ t) (t2 : t ≤ 4000000) :
 Calls Try.prog 195 #[.int .i64 s, .int .i64 f0, .int .i64 f1, .int .i64 t, .bool false] w fun e w' => ∃ n : Int, e = .returned (.int .i64 n) ∧ IsNear s t f0 f1 n ∧ Later w w' := by
 have hd := decN_bd s
 have q0 : 0 ≤ f0 := hs.1
 have q1 : f1 ≤ 27000 := by have := hs.2.2.1; omega
 have HSeg := Lib.hid hs
 have HR3 := Lib.hid (show ∀ n X, P s n = X → (reach s t n ↔ t ≤ X) from fun n X hX => by
  unfold reach
  rw [hX, if_neg s3])
 clear hs hd s3
 go_enter Try.func195, Try.ntmps195
 go_wp2
 go_loopw [11, 12] (fun x y wr => ∃ L T : Int, x = .int .i64 L ∧ y = .int .i64 T ∧ f0 - 1 ≤ L ∧ L < T ∧ T ≤ f1 ∧ Later w wr ∧ Hid ((T = f1 ∨ reach s t T) ∧ (L = f0 - 1 ∨ ¬ reach s t L))) (fun x y _ => (intOf y - intOf x).toNat)
 case atStart => exact ⟨f0 - 1, f1, rfl, rfl, by omega, by omega, by omega, Later.refl _, ⟨.inl rfl, .inl rfl⟩⟩
 case round =>
  obtain ⟨L, T, rfl, rfl, l1, l2, l3, hL, HE⟩ := hrel
  by_cases hgt : 1 < T - L
  · have hm1 : L < (L + T) / 2 := by omega
    have hm2 : (L + T) / 2 < T := by omega
    have HMe := Lib.hid (show (Int.tdiv (L + T) 2) = (L + T) / 2 from Int.tdiv_eq_ediv_of_nonneg (by omega))
    obtain ⟨m, hm⟩ : ∃ m, (L + T) / 2 = m := ⟨_, rfl⟩
    rw [hm] at hm1 hm2 HMe
    have hfg := isFig_true (atF_fig (s := 2) (n := m) (by omega) (by rw [show decN 2 = 3 from rfl]; omega))
    obtain ⟨g1, g2, g3, g4⟩ := hfg
    have hpb := ptF_bd (s := s) (f := atF m) g1 g2
    obtain ⟨X, hX⟩ : ∃ x, ptF s ⟨(atF m).d, (atF m).t⟩ = x := ⟨_, rfl⟩
    have hpb : -10000000 ≤ X ∧ X ≤ 10000000 := hX ▸ hpb
    obtain ⟨x1, x2⟩ := hpb
    have hr := HR3.out m X hX
    have HX := Lib.hid hX
    have HMe2 := Lib.hid hm
    clear hm hX
    by_cases hq : t ≤ X
    all_goals
     first | have HQ := Lib.hid (hr.2 hq) | have HQ := Lib.hid (fun h => hq (hr.1 h))
     clear hr
     go_wp2_with fail
     rw [HMe2.out]
     refine (w_l11At m (by omega) (by omega) _).mono ?_
     rintro e w1 ⟨rfl, hL1⟩
     go_wp2_with fail
     refine (w_specPoint s _ _ (by omega) (by omega) g1 g2 (by omega) (by omega) _).mono ?_
     rintro e w2 ⟨rfl, hL2⟩
     rw [HX.out]
     go_wp2
     go_roundw
     case rel => first | exact ⟨m, T, by first | rfl | rw [HMe2.out], rfl, by omega, by omega, by omega, qla, ⟨HE.out.1, .inr HQ.out⟩⟩ | exact ⟨L, m, rfl, by first | rfl | rw [HMe2.out], by omega, by omega, by omega, qla, ⟨.inr HQ.out, HE.out.2⟩⟩
     case measure => simp [intOf]; omega
  · have hT : L = T - 1 := by omega
    subst hT
    have HCut := Lib.hid (show IsCut s t f0 f1 T from ⟨by omega, l3, HE.out.1, HE.out.2.imp_left (fun h => by omega)⟩)
    obtain ⟨lo, hlo⟩ : ∃ x, max f0 (T - 3) = x := ⟨_, rfl⟩
    have HLo := Lib.hid hlo
    have lo1 : 0 ≤ lo := by omega
    have lo2 : lo < f1 := by omega
    have lo3 : lo < T + 3 := by omega
    have lo4 : T - 3 ≤ lo := by omega
    clear hlo
    have HL2 := Lib.hid hL
    clear hL HE
    have HHi := Lib.hid (show ∀ k, lo ≤ k → k ≤ f1 → k ≤ T + 3 → ¬ (k < f1 ∧ k < T + 3) → k = min f1 (T + 3) from fun k _ _ _ _ => by omega)
    go_wp2
    all_goals
     go_loopw [15, 16, 17] (fun x y z wr => ∃ k B M : Int, x = .int .i64 B ∧ y = .int .i64 M ∧ z = .int .i64 k ∧ lo ≤ k ∧ k ≤ f1 ∧ k ≤ T + 3 ∧ Later w wr ∧ Hid (SoFar s t lo k B M)) (fun x y z _ => (f1 - intOf z).toNat)
     case atStart => exact ⟨lo, -1, 0, rfl, rfl, congrArg (Value.int .i64) (by have := HLo.out; omega), by omega, by omega, by omega, HL2.out, .inl ⟨rfl, rfl, rfl⟩⟩
     case round =>
      obtain ⟨k, B, M, rfl, rfl, rfl, k1, k2, k3, hL, HD⟩ := hrel
      have HL := Lib.hid hL
      clear hL
      by_cases e1 : k < f1
      · by_cases e2 : k < T + 3
        · have hfg := isFig_true (atF_fig (s := 2) (n := k) (by omega) (by rw [show decN 2 = 3 from rfl]; omega))
          obtain ⟨g1, g2, g3, g4⟩ := hfg
          have hpb := ptF_bd (s := s) (f := atF k) g1 g2
          obtain ⟨X, hX⟩ : ∃ x, ptF s ⟨(atF k).d, (atF k).t⟩ = x := ⟨_, rfl⟩
          have hpb : -10000000 ≤ X ∧ X ≤ 10000000 := hX ▸ hpb
          obtain ⟨x1, x2⟩ := hpb
          obtain ⟨A, hA⟩ : ∃ x, max (X - t) (t - X) = x := ⟨_, rfl⟩
          have HAw := Lib.hid (show aw s t k = A from by unfold aw; rw [show P s k = X from hX, hA])
          have HX := Lib.hid hX
          have HA := Lib.hid hA
          clear hX hA
          by_cases c1 : B < 0
          rotate_left
          by_cases c2 : A < M
          all_goals
           first | have HN := Lib.hid (HD.out.take lo1 HAw.out (.inl c1)) | have HN := Lib.hid (HD.out.take lo1 HAw.out (.inr c2)) | have HN := Lib.hid (HD.out.pass HAw.out c1 c2)
           go_wp2_with fail
           refine (w_l11At k (by omega) (by omega) _).mono ?_
           rintro e w1 ⟨rfl, hL1⟩
           go_wp2_with fail
           refine (w_specPoint s _ _ (by omega) (by omega) g1 g2 (by omega) (by omega) _).mono ?_
           rintro e w2 ⟨rfl, hL2⟩
           rw [HX.out]
           go_wp2_with fail
           refine (w_absR X t (by omega) (by omega) _).mono ?_
           rintro e w3 ⟨rfl, rfl⟩
           rw [HA.out]
           have hL := HL.out
           go_wp2
           go_roundw
           case rel => exact ⟨k + 1, _, _, rfl, rfl, rfl, by omega, by omega, by omega, qla, HN.out⟩
           case measure => simp [intOf]; omega
        · have HEnd := Lib.hid (HHi.out k k1 k2 k3 (by omega))
          go_wp2
          go_ret
          refine ⟨B, rfl, ?_, HL.out⟩
          rcases HD.out with ⟨h, _, _⟩ | ⟨_, _, h, _⟩
          · omega
          · refine near_window (by omega) HSeg.out (by omega) HCut.out ?_
            rw [← HEnd.out, HLo.out]
            exact h
      · have HEnd := Lib.hid (HHi.out k k1 k2 k3 (by omega))
        go_wp2
        go_ret
        refine ⟨B, rfl, ?_, HL.out⟩
        rcases HD.out with ⟨h, _, _⟩ | ⟨_, _, h, _⟩
        · omega
        · refine near_window (by omega) HSeg.out (by omega) HCut.out ?_
          rw [← HEnd.out, HLo.out]
          exact h
theorem readF_eq {s t n : Int} (h : IsNear s t 0 (9000 * decN s) n) : readF s t = atF n := by unfold readF; rw [nearN_eq h]
theorem seg_whole {s : Int} (h4 : s ≠ 4) : IsSeg s 0 (9000 * decN s) := by
 have := decN_bd s
 exact ⟨by omega, by omega, by omega, fun h => absurd h h4⟩
theorem seg_cf1 : IsSeg 4 0 2143 := ⟨by omega, by omega, by rw [show decN 4 = 1 from rfl]; omega, fun _ => by omega⟩
theorem seg_cf2 : IsSeg 4 2143 9000 := ⟨by omega, by omega, by rw [show decN 4 = 1 from rfl]; omega, fun _ => by omega⟩
set_option maxHeartbeats 2000000 in
theorem w_l11Read4 (t : Int) (w : World) (t1 : -4000000 ≤ t) (t2 : t ≤ 4000000) :
 Calls Try.prog 143 #[.int .i64 4, .int .i64 t] w fun e w' => e = .returned (.agg #[.int .i64 (readF 4 t).d, .int .i64 (readF 4 t).t]) ∧ Later w w' := by
 go_enter Try.func143, Try.ntmps143
 go_wp2_with fail
 refine (w_l11SearchN 4 t 0 2143 _ (by omega) (by omega) (by omega) seg_cf1 (by omega) t1 t2).mono ?_
 rintro e w1 ⟨a, rfl, ha, hLa⟩
 have HNa := Lib.hid ha
 have a1 := ha.1
 have a2 := ha.2.1
 go_wp2_with fail
 refine (w_l11SearchN 4 t 2143 9000 _ (by omega) (by omega) (by omega) seg_cf2 (by omega) t1 t2).mono ?_
 rintro e w2 ⟨b, rfl, hb, hLb⟩
 have HNb := Lib.hid hb
 have b1 := hb.1
 have b2 := hb.2.1
 have hga := isFig_true (atF_fig (s := 2) (n := a) (by omega) (by rw [show decN 2 = 3 from rfl]; omega))
 have hgb := isFig_true (atF_fig (s := 2) (n := b) (by omega) (by rw [show decN 2 = 3 from rfl]; omega))
 obtain ⟨g1, g2, g3, g4⟩ := hga
 obtain ⟨e1, e2, e3, e4⟩ := hgb
 have hpa := ptF_bd (s := 4) (f := atF a) g1 g2
 have hpb := ptF_bd (s := 4) (f := atF b) e1 e2
 have hJ := near_join ha hb
 obtain ⟨X, hX⟩ : ∃ x, ptF 4 ⟨(atF a).d, (atF a).t⟩ = x := ⟨_, rfl⟩
 obtain ⟨Y, hY⟩ : ∃ x, ptF 4 ⟨(atF b).d, (atF b).t⟩ = x := ⟨_, rfl⟩
 have hpa : -10000000 ≤ X ∧ X ≤ 10000000 := hX ▸ hpa
 have hpb : -10000000 ≤ Y ∧ Y ≤ 10000000 := hY ▸ hpb
 obtain ⟨x1, x2⟩ := hpa
 obtain ⟨y1, y2⟩ := hpb
 obtain ⟨A, hA⟩ : ∃ x, max (X - t) (t - X) = x := ⟨_, rfl⟩
 obtain ⟨B, hB⟩ : ∃ x, max (Y - t) (t - Y) = x := ⟨_, rfl⟩
 have hAw : aw 4 t a = A := by unfold aw; rw [show P 4 a = X from hX, hA]
 have hBw : aw 4 t b = B := by unfold aw; rw [show P 4 b = Y from hY, hB]
 rw [hAw, hBw] at hJ
 have HX := Lib.hid hX
 have HY := Lib.hid hY
 have HA := Lib.hid hA
 have HB := Lib.hid hB
 clear ha hb hX hY hA hB hAw hBw
 by_cases hlt : B < A
 all_goals
  first | have HN := Lib.hid (readF_eq (hJ.1 hlt)) | have HN := Lib.hid (readF_eq (hJ.2 hlt))
  clear hJ
  go_wp2_with fail
  refine (w_l11At b (by omega) (by omega) _).mono ?_
  rintro e w3 ⟨rfl, hL3⟩
  go_wp2_with fail
  refine (w_specPoint 4 _ _ (by omega) (by omega) e1 e2 (by omega) (by omega) _).mono ?_
  rintro e w4 ⟨rfl, hL4⟩
  rw [HY.out]
  go_wp2_with fail
  refine (w_absR Y t (by omega) (by omega) _).mono ?_
  rintro e w5 ⟨rfl, rfl⟩
  rw [HB.out]
  go_wp2_with fail
  refine (w_l11At a (by omega) (by omega) _).mono ?_
  rintro e w6 ⟨rfl, hL6⟩
  go_wp2_with fail
  refine (w_specPoint 4 _ _ (by omega) (by omega) g1 g2 (by omega) (by omega) _).mono ?_
  rintro e w7 ⟨rfl, hL7⟩
  rw [HX.out]
  go_wp2_with fail
  refine (w_absR X t (by omega) (by omega) _).mono ?_
  rintro e w8 ⟨rfl, rfl⟩
  rw [HA.out]
  go_wp2_with fail
  first | refine (w_l11At b (by omega) (by omega) _).mono ?_ | refine (w_l11At a (by omega) (by omega) _).mono ?_
  rintro e w9 ⟨rfl, hL9⟩
  have hLL := hLa.trans (hLb.trans (hL3.trans (hL4.trans (hL6.trans (hL7.trans hL9)))))
  obtain ⟨c0, f0, z0⟩ := blk1 hLL
  have HLL := Lib.hid hLL
  clear hLa hLb hL3 hL4 hL6 hL7 hL9 hLL
  go_wp2
  first
   | (have hv : readF 4 t = atF b := HN.out
      refine bodyPost_ret (v := .agg #[.int .i64 (atF b).d, .int .i64 (atF b).t]) (by simp [results, Try.results143, go_sem, c0, z0]) rfl ⟨by rw [hv], by have hLL := HLL.out; exact qla⟩)
   | (have hv : readF 4 t = atF a := HN.out
      refine bodyPost_ret (v := .agg #[.int .i64 (atF a).d, .int .i64 (atF a).t]) (by simp [results, Try.results143, go_sem, c0, z0]) rfl ⟨by rw [hv], by have hLL := HLL.out; exact qla⟩)
set_option maxHeartbeats 2000000 in
theorem w_l11ReadN (s t : Int) (w : World) (s1 : 0 ≤ s) (s2 : s ≤ 3) (t1 : -4000000 ≤ t) (t2 : t ≤ 4000000) :
 Calls Try.prog 143 #[.int .i64 s, .int .i64 t] w fun e w' => e = .returned (.agg #[.int .i64 (readF s t).d, .int .i64 (readF s t).t]) ∧ Later w w' := by
 have hd := decN_bd s
 obtain ⟨d1, d2⟩ := hd
 have b4 : (s == 4) = false := by simp; omega
 have HSg := Lib.hid (seg_whole (s := s) (by omega))
 have key : ∀ w, Calls Try.prog 195 #[.int .i64 s, .int .i64 0, .int .i64 (9000 * decN s), .int .i64 t, .bool (s == 3)] w fun e w' => ∃ n : Int, e = .returned (.int .i64 n) ∧ IsNear s t 0 (9000 * decN s) n ∧ Later w w' := by
  intro w
  by_cases h3 : s = 3
  · subst h3
    exact w_l11Search3 t 0 _ w HSg.out (by omega) t1 t2
  · rw [show (s == 3) = false by simp [h3]]
    exact w_l11SearchN s t 0 _ w s1 (by omega) h3 HSg.out (by omega) t1 t2
 have HK := Lib.hid key
 clear key
 go_enter Try.func143, Try.ntmps143
 go_wp2_with fail
 refine (w_decadesS s _).mono ?_
 rintro e w1 ⟨rfl, rfl⟩
 go_wp2_with fail
 refine (HK.out _).mono ?_
 rintro e w2 ⟨n, rfl, hn, hLn⟩
 have HN := Lib.hid (readF_eq hn)
 have n1 := hn.1
 have n2 := hn.2.1
 clear hn
 go_wp2_with fail
 refine (w_l11At n (by omega) (by omega) _).mono ?_
 rintro e w3 ⟨rfl, hL3⟩
 have hLL := hLn.trans hL3
 obtain ⟨c0, f0, z0⟩ := blk1 hLL
 have HLL := Lib.hid hLL
 clear hLn hL3 hLL
 go_wp2
 refine bodyPost_ret (v := .agg #[.int .i64 (atF n).d, .int .i64 (atF n).t]) (by simp [results, Try.results143, go_sem, c0, z0]) rfl ⟨by rw [HN.out], by have hLL := HLL.out; exact qla⟩
theorem w_l11Read (s t : Int) (w : World) (s1 : 0 ≤ s) (s2 : s ≤ 4) (t1 : -4000000 ≤ t) (t2 : t ≤ 4000000) :
 Calls Try.prog 143 #[.int .i64 s, .int .i64 t] w fun e w' => e = .returned (.agg #[.int .i64 (readF s t).d, .int .i64 (readF s t).t]) ∧ Later w w' := by
 by_cases h : s = 4
 · subst h
   exact w_l11Read4 t w t1 t2
 · exact w_l11ReadN s t w s1 (by omega) t1 t2
end Go.Proofs.Ytkoojngonldcbaa
