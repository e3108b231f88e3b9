-- Printed by wip/xprint.py of this repo (a wrapper of the session's own round the print).
import Derived.Test.YtphchkkicpnehaaXx0
import Derived.Test.YtphchkkicpnehaaXBA
import Derived.Test.YtphchkkicpnehaaXx19
import Derived.Test.YtphchkkicpnehaaXx22
namespace Go.Proofs.Ytphchkkicpnehaa.X
open Go.RowKit Go.Proofs.YtphchkkicpnehaaW.PrintWords Go.Proofs.YtphchkkicpnehaaW.PrintLast Go.Proofs.YtphchkkicpnehaaW.PrintMore
attribute [local go_sem] ptrOf_eql ptrOf_neq ptrOf_eqg ptrOf_neg str_leq str_geq str_gtr max2_int min2_int max_two min_two max_three min_three max_four min_four   -- for this text's walks alone
set_option linter.unusedVariables false
set_option linter.unusedSimpArgs false

/-! ### find_Range: function 19 -/
def find_Range.f (k : Nat) (l0 : List (S61)) (l1 : List Int) : Option (Int × Int × Int) := (find_made.f k l0).bind fun t282 => (if t282 = true then ((find_bounds.f k l0 l1).bind fun bt283 => (some (bt283.1, bt283.2, 0))) else (some (0, 0, 2)))
theorem find_Range.mono : ∀ a0 a1 k, LeO (find_Range.f k a0 a1) (find_Range.f (k + 1) a0 a1) := by
 intro a0 a1 k
 unfold find_Range.f
 repeat' first
   | (with_reducible exact find_bounds.mono _ _ _)
   | (with_reducible exact find_made.mono _ _)
   | (with_reducible exact LeO.refl _)
   | (with_reducible exact LeO.none _)
   | (with_reducible refine LeO.ite ?_ ?_)
   | (with_reducible refine LeO.bind ?_ (fun _ => ?_))
   | exact find_bounds.mono _ _ _
   | exact find_made.mono _ _
   | exact LeO.none _
   | refine LeO.ite ?_ ?_
   | refine LeO.bind ?_ (fun _ => ?_)
set_option maxHeartbeats 8000000 in
set_option maxRecDepth 100000 in
theorem find_Range.calls (k : Nat) (A0 : Option Addr) (c0 : Nat) (l0 : List (S61)) (A1 : Option Addr) (c1 : Nat) (l1 : List Int) (r1 : Int) (r2 : Int) (r3 : Int) (w : World) (hr0 : Kd.C k61 w A0 l0.length l0) (hc0 : l0.length ≤ c0) (hr1 : Kd.C (Kd.int .u8) w A1 l1.length l1) (hc1 : l1.length ≤ c1) (h : find_Range.f k l0 l1 = some (r1, r2, r3)) :
  Calls Try.prog 19 #[ptrOf (.slice A0 l0.length c0), .slice A1 l1.length c1] w fun e w' => e = .returned (.tuple #[.int .i64 r1, .int .i64 r2, .int .i64 r3]) ∧ Below w.heap.size w w' := by
 have HR0 := Aside0.mk hr0
 have HC0 := Aside0.mk hc0
 clear hr0 hc0
 have HR1 := Aside0.mk hr1
 have HC1 := Aside0.mk hc1
 clear hr1 hc1
 have HB := Aside0.mk (Below.refl w.heap.size w)
 have H : ((find_made.f k l0).bind fun t282 => (if t282 = true then ((find_bounds.f k l0 l1).bind fun bt283 => (some (bt283.1, bt283.2, 0))) else (some (0, 0, 2)))) = some (r1, r2, r3) := h
 clear h
 replace H := Option.bind_eq_some_iff.mp H
 obtain ⟨t282, A30, H⟩ := H
 replace H : (if t282 = true then ((find_bounds.f k l0 l1).bind fun bt283 => (some (bt283.1, bt283.2, 0))) else (some (0, 0, 2))) = some (r1, r2, r3) := H
 have A3 := Aside0.mk A30
 clear A30
 by_cases c4 : t282 = true
 ·subst c4
  have H1 : ((find_bounds.f k l0 l1).bind fun bt283 => (some (bt283.1, bt283.2, 0))) = some (r1, r2, r3) := by rw [if_pos rfl] at H; exact H
  clear H
  have H := H1
  clear H1
  replace H := Option.bind_eq_some_iff.mp H
  obtain ⟨⟨t283, t284⟩, A50, H⟩ := H
  replace H : (some (t283, t284, 0)) = some (r1, r2, r3) := H
  have A5 := Aside0.mk A50
  clear A50
  simp only [Option.some.injEq, Prod.mk.injEq] at H
  obtain ⟨rfl, rfl, rfl⟩ := H
  go_enter Try.func19, Try.ntmps19
  go_wp2_with (first | ((with_reducible refine gate_callee (f := 40) rfl ?_); refine goesL_ (some 10) rfl rfl Try.func40 (by kernel_rfl) rfl #[ptrOf (.slice A0 l0.length c0)] rfl (by (try simp only [List.map_toArray, List.map_cons, List.map_nil]); first | done | rfl | (simp only [List.length_drop, List.length_take]; rfl)) ?_; (with_reducible refine (find_made.calls k _ _ l0 true _ ?side1 ?side2 A3.out).mono ?_); (case side1 => repeat (first | exact HR0.out | (with_reducible first|refine Qd ?_ _|refine Qe ?_ _|refine Qf ?_))); (case side2 => exact HC0.out); rintro e w6 ⟨rfl, hb⟩; refine ⟨_, rfl, ?_⟩; have n0_ := Aside0.mk (below_step (by repeat first|(with_reducible first|exact HB.out|apply Qg|apply Qh|apply Qi)|exact HB.out) hb); clear HB; have HB := n0_; clear n0_; (try clear hb); (try clear hb2); (try clear hk); (try clear hi)) | ((with_reducible refine gate_callee (f := 41) rfl ?_); refine goesL_ (some 15) rfl rfl Try.func41 (by kernel_rfl) rfl #[ptrOf (.slice A0 l0.length c0), .slice A1 l1.length c1] rfl (by (try simp only [List.map_toArray, List.map_cons, List.map_nil]); first | done | rfl | (simp only [List.length_drop, List.length_take]; rfl)) ?_; (with_reducible refine (find_bounds.calls k _ _ l0 _ _ l1 t283 t284 _ ?side1 ?side2 ?side3 ?side4 A5.out).mono ?_); (case side1 => repeat (first | exact (Kd.C_below HR0.out HB.out) | (with_reducible first|refine Qd ?_ _|refine Qe ?_ _|refine Qf ?_))); (case side2 => exact HC0.out); (case side3 => repeat (first | exact (Kd.C_below HR1.out HB.out) | (with_reducible first|refine Qd ?_ _|refine Qe ?_ _|refine Qf ?_))); (case side4 => exact HC1.out); rintro e w7 ⟨rfl, hb⟩; refine ⟨_, rfl, ?_⟩; have n0_ := Aside0.mk (below_step (by repeat first|(with_reducible first|exact HB.out|apply Qg|apply Qh|apply Qi)|exact HB.out) hb); clear HB; have HB := n0_; clear n0_; (try clear hb); (try clear hb2); (try clear hk); (try clear hi)))
  go_ret3
  exact ⟨by first | rfl | (simp [errW_none, errW_some] <;> rfl) | (simp [*, errW_none, errW_some] <;> rfl), by repeat first|(with_reducible first|exact HB.out|apply Qg|apply Qh|apply Qi)|exact HB.out⟩
 ·replace c4 := Bool.eq_false_iff.mpr c4
  subst c4
  have H1 : (some (0, 0, 2)) = some (r1, r2, r3) := by rw [if_neg (show ¬ (false = true) by decide)] at H; exact H
  clear H
  have H := H1
  clear H1
  simp only [Option.some.injEq, Prod.mk.injEq] at H
  obtain ⟨rfl, rfl, rfl⟩ := H
  go_enter Try.func19, Try.ntmps19
  go_wp2_with (first | ((with_reducible refine gate_callee (f := 40) rfl ?_); refine goesL_ (some 10) rfl rfl Try.func40 (by kernel_rfl) rfl #[ptrOf (.slice A0 l0.length c0)] rfl (by (try simp only [List.map_toArray, List.map_cons, List.map_nil]); first | done | rfl | (simp only [List.length_drop, List.length_take]; rfl)) ?_; (with_reducible refine (find_made.calls k _ _ l0 false _ ?side1 ?side2 A3.out).mono ?_); (case side1 => repeat (first | exact HR0.out | (with_reducible first|refine Qd ?_ _|refine Qe ?_ _|refine Qf ?_))); (case side2 => exact HC0.out); rintro e w8 ⟨rfl, hb⟩; refine ⟨_, rfl, ?_⟩; have n0_ := Aside0.mk (below_step (by repeat first|(with_reducible first|exact HB.out|apply Qg|apply Qh|apply Qi)|exact HB.out) hb); clear HB; have HB := n0_; clear n0_; (try clear hb); (try clear hb2); (try clear hk); (try clear hi)))
  go_ret3
  exact ⟨by first | rfl | (simp [errW_none, errW_some] <;> rfl) | (simp [*, errW_none, errW_some] <;> rfl), by repeat first|(with_reducible first|exact HB.out|apply Qg|apply Qh|apply Qi)|exact HB.out⟩

end Go.Proofs.Ytphchkkicpnehaa.X
