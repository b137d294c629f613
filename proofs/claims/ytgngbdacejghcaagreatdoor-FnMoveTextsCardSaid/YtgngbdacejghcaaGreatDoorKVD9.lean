/- DERIVED. Walks: numbers read from text. -/
import Derived.Lib.AtoiErrMem
import Derived.Test.YtgngbdacejghcaaGreatDoorKVD2
import Derived.Test.YtgngbdacejghcaaGreatDoorKVD8
import Derived.Test.YtgngbdacejghcaaGreatDoorKVD10
namespace Go.Proofs.YtgngbdacejghcaaGreatDoor
set_option linter.unusedVariables false
set_option linter.unusedSimpArgs false
open Go.RowKit
set_option maxRecDepth 100000
set_option linter.unusedVariables false
structure Env (w : World) : Prop where
 tab : PTab w
 syn : ∃ tp p, w.var? Tryz.prog "strconv.ErrSyntax" = some #[.iface tp p]
 rng : ∃ tp p, w.var? Tryz.prog "strconv.ErrRange" = some #[.iface tp p]
 mx : 1 < w.heap.size ∧ ∃ m, w.cell? ⟨1, 0, none⟩ = some (.int .i64 m)
theorem g_syn : Tryz.prog.globalNamed "strconv.ErrSyntax" = some 2 := by kernel_rfl
theorem g_rng : Tryz.prog.globalNamed "strconv.ErrRange" = some 3 := by kernel_rfl
theorem Env.later {w w' : World} (h : Env w) (hl : Later w w') : Env w' := by
 obtain ⟨t, ⟨a, b, hs⟩, ⟨c, d, hr⟩, ⟨h0, m, hm⟩⟩ := h
 exact ⟨t.later hl, ⟨a, b, Go.Joins.var_stays g_syn hs hl (Nat.le_refl _)⟩, ⟨c, d, Go.Joins.var_stays g_rng hr hl (Nat.le_refl _)⟩, Nat.lt_of_lt_of_le h0 hl.size, m, (hl.cell (p := ⟨1, 0, none⟩) h0).trans hm⟩
def numV (s : List UInt8) : Int := (numI s).getD 0
def numB (s : List UInt8) : Bool := (numI s).isSome
set_option maxHeartbeats 1000000 in
theorem w_number (s : List UInt8) (hs : s.length ≤ 1048576) (w : World) (he : Env w) :
 Calls Tryz.prog 63 #[sv s] w fun e w' => e = .returned (.tuple #[.int .i64 (numV s), .bool (numB s)]) ∧ Later w w' := by
 have HE := Lib.hid he
 clear he
 cases hp : Lib.parseIntB 64 s with
 | ok v =>
  obtain ⟨b0, b1⟩ := parse_bd hp
  by_cases hi : Lib.itoa v = s
  all_goals
   have HP := Lib.hid hp
   have HI := Lib.hid hi
   clear hp
  · have hb : (Lib.itoa v == s) = true := by simpa using hi
    have HN : Hid (numV s = v ∧ numB s = true) := Lib.hid (by
     have : numI s = some v := by unfold numI; rw [HP.out]; simp [HI.out]
     simp [numV, numB, this])
    clear hi
    go_enter Tryz.func63, Tryz.ntmps63
    go_wp2_with fail
    refine (Tryz.strconv_ParseInt_10_at64_ok ⟨s.toArray⟩ (by show s.toArray.size ≤ _; simp; omega) v HP.out _).mono ?_
    rintro e w1 ⟨rfl, hw⟩
    have hL : Later w w1 := by
     rcases hw with rfl | ⟨t, rfl⟩
     · exact Later.refl _
     · exact Lib.bytesWorld_below _ _ _
    clear hw
    go_wp2_with fail
    refine (w_decimal v b0 b1 _ (HE.out.later hL).tab).mono ?_
    rintro e w2 ⟨rfl, hL2⟩
    go_wp2
    go_ret2
    exact ⟨by rw [HN.out.1, HN.out.2]; rfl, hL.trans hL2⟩
  · have hb : (Lib.itoa v == s) = false := by simpa using hi
    have HN : Hid (numV s = 0 ∧ numB s = false) := Lib.hid (by
     have : numI s = none := by unfold numI; rw [HP.out]; simp [HI.out]
     simp [numV, numB, this])
    clear hi
    go_enter Tryz.func63, Tryz.ntmps63
    go_wp2_with fail
    refine (Tryz.strconv_ParseInt_10_at64_ok ⟨s.toArray⟩ (by show s.toArray.size ≤ _; simp; omega) v HP.out _).mono ?_
    rintro e w1 ⟨rfl, hw⟩
    have hL : Later w w1 := by
     rcases hw with rfl | ⟨t, rfl⟩
     · exact Later.refl _
     · exact Lib.bytesWorld_below _ _ _
    clear hw
    go_wp2_with fail
    refine (w_decimal v b0 b1 _ (HE.out.later hL).tab).mono ?_
    rintro e w2 ⟨rfl, hL2⟩
    go_wp2
    go_ret2
    exact ⟨by rw [HN.out.1, HN.out.2]; rfl, hL.trans hL2⟩
 | range =>
  have HP := Lib.hid hp
  clear hp
  have HN : Hid (numV s = 0 ∧ numB s = false) := Lib.hid (by
   have : numI s = none := by unfold numI; rw [HP.out]
   simp [numV, numB, this])
  obtain ⟨tp, p, hv⟩ := HE.out.rng
  obtain ⟨IS, hIS⟩ : ∃ x, Lib.intSat 64 s = x := ⟨_, rfl⟩
  have HIS := Lib.hid hIS
  clear hIS
  go_enter Tryz.func63, Tryz.ntmps63
  go_wp2_with fail
  refine (Tryz.strconv_ParseInt_10_at64_range_var ⟨s.toArray⟩ (by show s.toArray.size ≤ _; simp; omega) HP.out tp p _ hv).mono ?_
  rintro e w1 ⟨N, rfl, hN, hc, hL⟩
  clear hc hv
  go_wp2
  go_ret2
  exact ⟨by rw [HN.out.1, HN.out.2]; rfl, hL⟩
 | _ =>
  have HP := Lib.hid hp
  clear hp
  have HN : Hid (numV s = 0 ∧ numB s = false) := Lib.hid (by
   have : numI s = none := by unfold numI; rw [HP.out]
   simp [numV, numB, this])
  obtain ⟨tp, p, hv⟩ := HE.out.syn
  go_enter Tryz.func63, Tryz.ntmps63
  go_wp2_with fail
  refine (Tryz.strconv_ParseInt_10_at64_syntax_var ⟨s.toArray⟩ (by show s.toArray.size ≤ _; simp; omega) HP.out tp p _ hv).mono ?_
  rintro e w1 ⟨N, rfl, hN, hc, hL⟩
  clear hc hv
  go_wp2
  go_ret2
  exact ⟨by rw [HN.out.1, HN.out.2]; rfl, hL⟩
end Go.Proofs.YtgngbdacejghcaaGreatDoor
