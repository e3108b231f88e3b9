/- By hand: PurseBounds' and PurseRises' walks. -/
import Derived.Test.YtbdlkpmaalhnnaaXPe
namespace Go.Proofs.Ytbdlkpmaalhnnaa.X
open Go.RowKit Go.Proofs.YtbdlkpmaalhnnaaW.PrintWords Go.Proofs.YtbdlkpmaalhnnaaW.PrintLast Go.Proofs.YtbdlkpmaalhnnaaW.PrintMore
set_option linter.unusedVariables false
set_option linter.unusedSimpArgs false

theorem BoundBad_ok {w : World} {a b c : Int} (h : ¬ bOk a b c) : Calls Try.prog 10 #[.int .i64 a, .int .i64 b, .int .i64 c] w fun e w' => e = .returned (.int .i64 0) ∧ Below w.heap.size w w' := by
  by_cases c1 : a < 64
  · have d1 : decide (a < 64) = true := decide_eq_true c1
    clear h c1
    go_enter Try.func10, Try.ntmps10
    go_wp2
    go_ret
    exact ⟨rfl, Below.refl _ _⟩
  have d1 : decide (a < 64) = false := decide_eq_false c1
  by_cases c2 : 4096 < a
  · have d2 : decide (4096 < a) = true := decide_eq_true c2
    clear h c1 c2
    go_enter Try.func10, Try.ntmps10
    go_wp2
    go_ret
    exact ⟨rfl, Below.refl _ _⟩
  have d2 : decide (4096 < a) = false := decide_eq_false c2
  by_cases c3 : b < 64
  · have d3 : decide (b < 64) = true := decide_eq_true c3
    clear h c1 c2 c3
    go_enter Try.func10, Try.ntmps10
    go_wp2
    go_ret
    exact ⟨rfl, Below.refl _ _⟩
  have d3 : decide (b < 64) = false := decide_eq_false c3
  by_cases c4 : 65536 < b
  · have d4 : decide (65536 < b) = true := decide_eq_true c4
    clear h c1 c2 c3 c4
    go_enter Try.func10, Try.ntmps10
    go_wp2
    go_ret
    exact ⟨rfl, Below.refl _ _⟩
  have d4 : decide (65536 < b) = false := decide_eq_false c4
  by_cases c5 : c < 1
  · have d5 : decide (c < 1) = true := decide_eq_true c5
    clear h c1 c2 c3 c4 c5
    go_enter Try.func10, Try.ntmps10
    go_wp2_with (fail)
    refine (swellBad_ok (.inl (of_decide_eq_true d5))).mono ?_
    rintro e w' ⟨rfl, rfl⟩
    go_wp2
    go_ret
    exact ⟨rfl, Below.refl _ _⟩
  have d5 : decide (c < 1) = false := decide_eq_false c5
  by_cases c6 : 32768 < c
  · have d6 : decide (32768 < c) = true := decide_eq_true c6
    clear h c1 c2 c3 c4 c5 c6
    go_enter Try.func10, Try.ntmps10
    go_wp2_with (fail)
    refine (swellBad_ok (.inr (of_decide_eq_true d6))).mono ?_
    rintro e w' ⟨rfl, rfl⟩
    go_wp2
    go_ret
    exact ⟨rfl, Below.refl _ _⟩
  have d6 : decide (32768 < c) = false := decide_eq_false c6
  exact absurd ⟨by omega, by omega, by omega, by omega, by omega, by omega⟩ h
set_option maxHeartbeats 8000000 in
set_option maxRecDepth 100000 in
theorem bounds_bad {w : World} {a b c : Int} (h : ¬ bOk a b c) : Calls Try.prog 4 #[.int .i64 a, .int .i64 b, .int .i64 c] w fun e w' => e = .returned (.bool true) ∧ Below w.heap.size w w' := by
  have HB := Aside0.mk h
  by_cases c1 : a < 64
  · have d1 : decide (a < 64) = true := decide_eq_true c1
    clear h c1
    go_enter Try.func4, Try.ntmps4
    go_wp2_with (fail)
    refine (BoundBad_ok HB.out).mono ?_
    rintro e w1 ⟨rfl, hB⟩
    have HB1 := Aside0.mk hB
    clear hB
    go_wp2_with (fail)
    refine lives_ok.mono ?_
    rintro e w2 ⟨rfl, hB⟩
    have HB2 := Aside0.mk (below_step HB1.out hB)
    clear hB
    go_wp2
    go_ret
    exact ⟨rfl, HB2.out⟩
  have d1 : decide (a < 64) = false := decide_eq_false c1
  by_cases c2 : 4096 < a
  · have d2 : decide (4096 < a) = true := decide_eq_true c2
    clear h c1 c2
    go_enter Try.func4, Try.ntmps4
    go_wp2_with (fail)
    refine (BoundBad_ok HB.out).mono ?_
    rintro e w1 ⟨rfl, hB⟩
    have HB1 := Aside0.mk hB
    clear hB
    go_wp2_with (fail)
    refine lives_ok.mono ?_
    rintro e w2 ⟨rfl, hB⟩
    have HB2 := Aside0.mk (below_step HB1.out hB)
    clear hB
    go_wp2
    go_ret
    exact ⟨rfl, HB2.out⟩
  have d2 : decide (4096 < a) = false := decide_eq_false c2
  by_cases c3 : b < 64
  · have d3 : decide (b < 64) = true := decide_eq_true c3
    clear h c1 c2 c3
    go_enter Try.func4, Try.ntmps4
    go_wp2_with (fail)
    refine (BoundBad_ok HB.out).mono ?_
    rintro e w1 ⟨rfl, hB⟩
    have HB1 := Aside0.mk hB
    clear hB
    go_wp2_with (fail)
    refine lives_ok.mono ?_
    rintro e w2 ⟨rfl, hB⟩
    have HB2 := Aside0.mk (below_step HB1.out hB)
    clear hB
    go_wp2
    go_ret
    exact ⟨rfl, HB2.out⟩
  have d3 : decide (b < 64) = false := decide_eq_false c3
  by_cases c4 : 65536 < b
  · have d4 : decide (65536 < b) = true := decide_eq_true c4
    clear h c1 c2 c3 c4
    go_enter Try.func4, Try.ntmps4
    go_wp2_with (fail)
    refine (BoundBad_ok HB.out).mono ?_
    rintro e w1 ⟨rfl, hB⟩
    have HB1 := Aside0.mk hB
    clear hB
    go_wp2_with (fail)
    refine lives_ok.mono ?_
    rintro e w2 ⟨rfl, hB⟩
    have HB2 := Aside0.mk (below_step HB1.out hB)
    clear hB
    go_wp2
    go_ret
    exact ⟨rfl, HB2.out⟩
  have d4 : decide (65536 < b) = false := decide_eq_false c4
  by_cases c5 : c < 1
  · have d5 : decide (c < 1) = true := decide_eq_true c5
    clear h c1 c2 c3 c4 c5
    go_enter Try.func4, Try.ntmps4
    go_wp2_with (fail)
    refine (BoundBad_ok HB.out).mono ?_
    rintro e w1 ⟨rfl, hB⟩
    have HB1 := Aside0.mk hB
    clear hB
    go_wp2_with (fail)
    refine lives_ok.mono ?_
    rintro e w2 ⟨rfl, hB⟩
    have HB2 := Aside0.mk (below_step HB1.out hB)
    clear hB
    go_wp2
    go_ret
    exact ⟨rfl, HB2.out⟩
  have d5 : decide (c < 1) = false := decide_eq_false c5
  by_cases c6 : 32768 < c
  · have d6 : decide (32768 < c) = true := decide_eq_true c6
    clear h c1 c2 c3 c4 c5 c6
    go_enter Try.func4, Try.ntmps4
    go_wp2_with (fail)
    refine (BoundBad_ok HB.out).mono ?_
    rintro e w1 ⟨rfl, hB⟩
    have HB1 := Aside0.mk hB
    clear hB
    go_wp2_with (fail)
    refine lives_ok.mono ?_
    rintro e w2 ⟨rfl, hB⟩
    have HB2 := Aside0.mk (below_step HB1.out hB)
    clear hB
    go_wp2
    go_ret
    exact ⟨rfl, HB2.out⟩
  have d6 : decide (32768 < c) = false := decide_eq_false c6
  exact absurd ⟨by omega, by omega, by omega, by omega, by omega, by omega⟩ h
set_option maxHeartbeats 8000000 in
set_option maxRecDepth 100000 in
theorem bounds_good {w : World} {a b c : Int} (h : bOk a b c) : Calls Try.prog 4 #[.int .i64 a, .int .i64 b, .int .i64 c] w fun e w' => e = .returned (.bool true) ∧ Below w.heap.size w w' := by
  have HH := Aside0.mk h
  obtain ⟨a1, a2, b1, b2, c1, c2⟩ := h
  have d1 : decide (a < 64) = false := decide_eq_false (by omega)
  have d2 : decide (4096 < a) = false := decide_eq_false (by omega)
  have d3 : decide (b < 64) = false := decide_eq_false (by omega)
  have d4 : decide (65536 < b) = false := decide_eq_false (by omega)
  have d5 : decide (c < 1) = false := decide_eq_false (by omega)
  have d6 : decide (32768 < c) = false := decide_eq_false (by omega)
  have B1 := Aside0.mk b1
  have B2 := Aside0.mk b2
  have C1 := Aside0.mk c1
  have C2 := Aside0.mk c2
  have heq : (a + 8 * b + c + 3963 == wrap64 (wrap64 (wrap64 (wrap64 (wrap64 (a + wrap64 (2 * b)) + wrap64 (6 * b)) + roomV c) + 64) + 64)) = true := beq_iff_eq.mpr (by unfold wrap64 roomV; omega)
  clear a1 a2 b1 b2 c1 c2
  go_enter Try.func4, Try.ntmps4
  go_wp2_with (fail)
  refine (Bound_ok HH.out).mono ?_
  rintro e w1 ⟨rfl, hB⟩
  have HB1 := Aside0.mk hB
  clear hB
  go_wp2_with (fail)
  refine (swellNew_ok C1.out C2.out).mono ?_
  rintro e w2 ⟨⟨g, rfl, hs⟩, hB⟩
  have HS := Aside0.mk hs
  have HB2 := Aside0.mk (below_step HB1.out hB)
  clear hs hB
  go_wp2_with (fail)
  refine (most_ok B1.out B2.out).mono ?_
  rintro e w' ⟨rfl, rfl⟩
  go_wp2_with (fail)
  refine (swellRoom_ok HS.out C1.out C2.out).mono ?_
  rintro e w3 ⟨rfl, hB⟩
  have HB3 := Aside0.mk (below_step HB2.out hB)
  clear hB
  go_wp2_with (fail)
  refine parseRoom_ok.mono ?_
  rintro e w4 ⟨⟨gp, rfl, hp⟩, hB⟩
  have HP := Aside0.mk hp
  have HB4 := Aside0.mk (below_step HB3.out hB)
  clear hB hp
  go_wp2_with (fail)
  refine (parserRoom_ok HP.out).mono ?_
  rintro e w' ⟨rfl, rfl⟩
  go_wp2_with (fail)
  refine lives_ok.mono ?_
  rintro e w5 ⟨rfl, hB⟩
  have HB5 := Aside0.mk (below_step HB4.out hB)
  clear hB
  go_wp2
  go_ret
  exact ⟨rfl, HB5.out⟩
theorem bounds_walk {w : World} {a b c : Int} : Calls Try.prog 4 #[.int .i64 a, .int .i64 b, .int .i64 c] w fun e w' => e = .returned (.bool true) ∧ Below w.heap.size w w' := by
  by_cases h : bOk a b c
  · exact bounds_good h
  · exact bounds_bad h
theorem Bound_any (w : World) (a b c : Int) : Calls Try.prog 10 #[.int .i64 a, .int .i64 b, .int .i64 c] w fun e w' => ∃ v, 0 ≤ v ∧ e = .returned (.int .i64 v) ∧ Below w.heap.size w w' := by
  by_cases h : bOk a b c
  · refine (Bound_ok h).mono ?_
    rintro e w' ⟨rfl, hB⟩
    obtain ⟨a1, a2, b1, b2, c1, c2⟩ := h
    exact ⟨_, by omega, rfl, hB⟩
  · refine (BoundBad_ok h).mono ?_
    rintro e w' ⟨rfl, hB⟩
    exact ⟨0, by omega, rfl, hB⟩
set_option maxHeartbeats 8000000 in
set_option maxRecDepth 100000 in
theorem rises_walk {w : World} {a b c : Int} : Calls Try.prog 5 #[.int .i64 a, .int .i64 b, .int .i64 c] w fun e w' => e = .returned (.bool true) ∧ Below w.heap.size w w' := by
  have HB := Aside0.mk (Bound_any w a b c)
  have h : True := trivial
  by_cases c1 : a < 64
  · have d1 : decide (a < 64) = true := decide_eq_true c1
    clear h c1
    go_enter Try.func5, Try.ntmps5
    go_wp2_with (fail)
    refine HB.out.mono ?_
    rintro e w1 ⟨v, hv, rfl, hB⟩
    have HB1 := Aside0.mk hB
    have hv1 : decide (0 ≤ v) = true := decide_eq_true hv
    clear hB hv
    go_wp2_with (fail)
    refine lives_ok.mono ?_
    rintro e w2 ⟨rfl, hB⟩
    have HB2 := Aside0.mk (below_step HB1.out hB)
    clear hB
    go_wp2
    go_ret
    exact ⟨rfl, HB2.out⟩
  have d1 : decide (a < 64) = false := decide_eq_false c1
  by_cases c2 : 4096 ≤ a
  · have d2 : decide (4096 ≤ a) = true := decide_eq_true c2
    clear h c1 c2
    go_enter Try.func5, Try.ntmps5
    go_wp2_with (fail)
    refine HB.out.mono ?_
    rintro e w1 ⟨v, hv, rfl, hB⟩
    have HB1 := Aside0.mk hB
    have hv1 : decide (0 ≤ v) = true := decide_eq_true hv
    clear hB hv
    go_wp2_with (fail)
    refine lives_ok.mono ?_
    rintro e w2 ⟨rfl, hB⟩
    have HB2 := Aside0.mk (below_step HB1.out hB)
    clear hB
    go_wp2
    go_ret
    exact ⟨rfl, HB2.out⟩
  have d2 : decide (4096 ≤ a) = false := decide_eq_false c2
  by_cases c3 : b < 64
  · have d3 : decide (b < 64) = true := decide_eq_true c3
    clear h c1 c2 c3
    go_enter Try.func5, Try.ntmps5
    go_wp2_with (fail)
    refine HB.out.mono ?_
    rintro e w1 ⟨v, hv, rfl, hB⟩
    have HB1 := Aside0.mk hB
    have hv1 : decide (0 ≤ v) = true := decide_eq_true hv
    clear hB hv
    go_wp2_with (fail)
    refine lives_ok.mono ?_
    rintro e w2 ⟨rfl, hB⟩
    have HB2 := Aside0.mk (below_step HB1.out hB)
    clear hB
    go_wp2
    go_ret
    exact ⟨rfl, HB2.out⟩
  have d3 : decide (b < 64) = false := decide_eq_false c3
  by_cases c4 : 65536 ≤ b
  · have d4 : decide (65536 ≤ b) = true := decide_eq_true c4
    clear h c1 c2 c3 c4
    go_enter Try.func5, Try.ntmps5
    go_wp2_with (fail)
    refine HB.out.mono ?_
    rintro e w1 ⟨v, hv, rfl, hB⟩
    have HB1 := Aside0.mk hB
    have hv1 : decide (0 ≤ v) = true := decide_eq_true hv
    clear hB hv
    go_wp2_with (fail)
    refine lives_ok.mono ?_
    rintro e w2 ⟨rfl, hB⟩
    have HB2 := Aside0.mk (below_step HB1.out hB)
    clear hB
    go_wp2
    go_ret
    exact ⟨rfl, HB2.out⟩
  have d4 : decide (65536 ≤ b) = false := decide_eq_false c4
  by_cases c5 : c < 1
  · have d5 : decide (c < 1) = true := decide_eq_true c5
    clear h c1 c2 c3 c4 c5
    go_enter Try.func5, Try.ntmps5
    go_wp2_with (fail)
    refine HB.out.mono ?_
    rintro e w1 ⟨v, hv, rfl, hB⟩
    have HB1 := Aside0.mk hB
    have hv1 : decide (0 ≤ v) = true := decide_eq_true hv
    clear hB hv
    go_wp2_with (fail)
    refine lives_ok.mono ?_
    rintro e w2 ⟨rfl, hB⟩
    have HB2 := Aside0.mk (below_step HB1.out hB)
    clear hB
    go_wp2
    go_ret
    exact ⟨rfl, HB2.out⟩
  have d5 : decide (c < 1) = false := decide_eq_false c5
  by_cases c6 : 32768 ≤ c
  · have d6 : decide (32768 ≤ c) = true := decide_eq_true c6
    clear h c1 c2 c3 c4 c5 c6
    go_enter Try.func5, Try.ntmps5
    go_wp2_with (fail)
    refine HB.out.mono ?_
    rintro e w1 ⟨v, hv, rfl, hB⟩
    have HB1 := Aside0.mk hB
    have hv1 : decide (0 ≤ v) = true := decide_eq_true hv
    clear hB hv
    go_wp2_with (fail)
    refine lives_ok.mono ?_
    rintro e w2 ⟨rfl, hB⟩
    have HB2 := Aside0.mk (below_step HB1.out hB)
    clear hB
    go_wp2
    go_ret
    exact ⟨rfl, HB2.out⟩
  have d6 : decide (32768 ≤ c) = false := decide_eq_false c6
  have H0 := Aside0.mk (show bOk a b c from ⟨by omega, by omega, by omega, by omega, by omega, by omega⟩)
  have HA := Aside0.mk (show bOk (wrap64 (a + 1)) b c from by rw [show wrap64 (a + 1) = a + 1 by unfold wrap64; omega]; exact ⟨by omega, by omega, by omega, by omega, by omega, by omega⟩)
  have HBB := Aside0.mk (show bOk a (wrap64 (b + 1)) c from by rw [show wrap64 (b + 1) = b + 1 by unfold wrap64; omega]; exact ⟨by omega, by omega, by omega, by omega, by omega, by omega⟩)
  have HC := Aside0.mk (show bOk a b (wrap64 (c + 1)) from by rw [show wrap64 (c + 1) = c + 1 by unfold wrap64; omega]; exact ⟨by omega, by omega, by omega, by omega, by omega, by omega⟩)
  have e0 : decide (0 < a + 8 * b + c + 3963) = true := decide_eq_true (by omega)
  have e1 : decide (a + 8 * b + c + 3963 < wrap64 (a + 1) + 8 * b + c + 3963) = true := decide_eq_true (by unfold wrap64; omega)
  have e2 : decide (a + 8 * b + c + 3963 < a + 8 * wrap64 (b + 1) + c + 3963) = true := decide_eq_true (by unfold wrap64; omega)
  have e3 : decide (a + 8 * b + c + 3963 < a + 8 * b + wrap64 (c + 1) + 3963) = true := decide_eq_true (by unfold wrap64; omega)
  have n1 : decide (a < wrap64 (a + 1)) = true := decide_eq_true (by unfold wrap64; omega)
  have n2 : decide (b < wrap64 (b + 1)) = true := decide_eq_true (by unfold wrap64; omega)
  have n3 : decide (c < wrap64 (c + 1)) = true := decide_eq_true (by unfold wrap64; omega)
  clear c1 c2 c3 c4 c5 c6 h HB
  go_enter Try.func5, Try.ntmps5
  go_wp2_with (fail)
  refine (Bound_ok H0.out).mono ?_
  rintro e w1 ⟨rfl, hB⟩
  have HB1 := Aside0.mk hB
  clear hB
  go_wp2_with (fail)
  refine (Bound_ok HA.out).mono ?_
  rintro e w2 ⟨rfl, hB⟩
  have HB2 := Aside0.mk (below_step HB1.out hB)
  clear hB
  go_wp2_with (fail)
  refine (Bound_ok HBB.out).mono ?_
  rintro e w3 ⟨rfl, hB⟩
  have HB3 := Aside0.mk (below_step HB2.out hB)
  clear hB
  go_wp2_with (fail)
  refine (Bound_ok HC.out).mono ?_
  rintro e w4 ⟨rfl, hB⟩
  have HB4 := Aside0.mk (below_step HB3.out hB)
  clear hB
  go_wp2_with (fail)
  refine (Bound_ok H0.out).mono ?_
  rintro e w5 ⟨rfl, hB⟩
  have HB5 := Aside0.mk (below_step HB4.out hB)
  clear hB
  go_wp2_with (fail)
  refine lives_ok.mono ?_
  rintro e w6 ⟨rfl, hB⟩
  have HB6 := Aside0.mk (below_step HB5.out hB)
  clear hB
  go_wp2
  go_ret
  exact ⟨rfl, HB6.out⟩
end Go.Proofs.Ytbdlkpmaalhnnaa.X
