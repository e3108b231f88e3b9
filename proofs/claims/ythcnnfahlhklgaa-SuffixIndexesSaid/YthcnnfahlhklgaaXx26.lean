-- Printed by wip/xprint.py of this repo (a wrapper of the session's own round the print).
import Derived.Test.YthcnnfahlhklgaaXx0
import Derived.Test.YthcnnfahlhklgaaXBA
import Derived.Test.YthcnnfahlhklgaaXx14
namespace Go.Proofs.Ythcnnfahlhklgaa.X
open Go.RowKit Go.Proofs.YthcnnfahlhklgaaW.PrintWords Go.Proofs.YthcnnfahlhklgaaW.PrintLast Go.Proofs.YthcnnfahlhklgaaW.PrintMore
attribute [local go_sem] ptrOf_eql ptrOf_neq ptrOf_eqg ptrOf_neg str_leq str_geq str_gtr max2_int min2_int max_two min_two max_three min_three max_four min_four   -- for this text's walks alone
set_option linter.unusedVariables false
set_option linter.unusedSimpArgs false

/-! ### suffix_Index_Len: function 30 -/
def suffix_Index_Len.f (l0 : List (S82)) : Option (Int) := (suffix_Index_is.f l0).bind fun t326 => (if t326 = true then (if 0 < (l0.length : Int) then (some (((rd_T82 l0 0).f1).length : Int)) else (none)) else (some 0))
set_option maxHeartbeats 8000000 in
set_option maxRecDepth 100000 in
theorem suffix_Index_Len.calls (A0 : Option Addr) (c0 : Nat) (l0 : List (S82)) (r : Int) (w : World) (hr0 : Kd.C k82 w A0 l0.length l0) (hc0 : l0.length ≤ c0) (h : suffix_Index_Len.f l0 = some r) :
  Calls Try.prog 30 #[ptrOf (.slice A0 l0.length c0)] w fun e w' => e = .returned (.int .i64 r) ∧ Drawn0 w w' := by
 have HR0 := Aside0.mk hr0
 have HC0 := Aside0.mk hc0
 clear hr0 hc0
 have H : ((suffix_Index_is.f l0).bind fun t326 => (if t326 = true then (if 0 < (l0.length : Int) then (some (((rd_T82 l0 0).f1).length : Int)) else (none)) else (some 0))) = some r := h
 clear h
 replace H := Option.bind_eq_some_iff.mp H
 obtain ⟨t326, A20, H⟩ := H
 replace H : (if t326 = true then (if 0 < (l0.length : Int) then (some (((rd_T82 l0 0).f1).length : Int)) else (none)) else (some 0)) = some r := H
 have A2 := Aside0.mk A20
 clear A20
 by_cases c3 : t326 = true
 ·subst c3
  have H1 : (if 0 < (l0.length : Int) then (some (((rd_T82 l0 0).f1).length : Int)) else (none)) = some r := by rw [if_pos rfl] at H; exact H
  clear H
  have H := H1
  clear H1
  by_cases c4 : 0 < (l0.length : Int)
  ·rw [if_pos c4] at H
   have c4b0 : decide (0 < (l0.length : Int)) = true := decide_eq_true c4
   have c4b1 : decide (0 < l0.length) = true := decide_eq_true (by omega)
   clear c4
   obtain rfl := Option.some.inj H
   go_enter Try.func30, Try.ntmps30
   go_wp2_with (first | ((with_reducible refine gate_callee (f := 54) rfl ?_); refine goesL_ (some 4) rfl rfl Try.func54 (by kernel_rfl) rfl #[ptrOf (.slice A0 l0.length c0)] rfl (by (try simp only [List.map_toArray, List.map_cons, List.map_nil]); first | done | rfl | (simp only [*]; done) | (simp only [*]; rfl) | (simp only [List.length_drop, List.length_take]; rfl)) ?_; (with_reducible refine (suffix_Index_is.calls _ _ l0 true _ ?side1 ?side2 A2.out).mono ?_); (case side1 => repeat (first | exact HR0.out | (with_reducible first|refine Qd ?_ _|refine Qe ?_ _|refine Qf ?_))); (case side2 => exact HC0.out); rintro e w' ⟨rfl, ⟨nd, rfl⟩⟩; refine ⟨_, rfl, ?_⟩; have p327 : 0 ≤ (0 : Int) := (by omega); have q327 : 0 < (l0.length : Int) := Qt; obtain ⟨ad327, A327_1, c327_1, A327_2, c327_2, A327_3, c327_3, A327_4, c327_4, e327, hx327_0, hx327_1, hx327_2, hx327_3, hx327_4, hl327_1, hi327_1, hl327_2, hi327_2, hl327_3, hi327_3, hl327_4, hi327_4⟩ := at_T82 HR0.out 0 p327 q327; cases e327; have qi327 : (0 < l0.length) = True := eq_true (by omega); (try rw [show ((0 : Int)).toNat = 0 from rfl] at hx327_0); (try rw [show 0 * 5 = 0 from rfl] at hx327_0); (try rw [Addr.add_zero'] at hx327_0); (try rw [show ((0 : Int)).toNat = 0 from rfl] at hx327_1); (try rw [show 0 * 5 = 0 from rfl] at hx327_1); (try rw [Addr.add_zero'] at hx327_1); (try rw [show ((0 : Int)).toNat = 0 from rfl] at hx327_2); (try rw [show 0 * 5 = 0 from rfl] at hx327_2); (try rw [Addr.add_zero'] at hx327_2); (try rw [show ((0 : Int)).toNat = 0 from rfl] at hx327_3); (try rw [show 0 * 5 = 0 from rfl] at hx327_3); (try rw [Addr.add_zero'] at hx327_3); (try rw [show ((0 : Int)).toNat = 0 from rfl] at hx327_4); (try rw [show 0 * 5 = 0 from rfl] at hx327_4); (try rw [Addr.add_zero'] at hx327_4); have HR327_1 := Aside0.mk hi327_1; have HC327_1 := Aside0.mk hl327_1; clear hi327_1 hl327_1; have HR327_2 := Aside0.mk hi327_2; have HC327_2 := Aside0.mk hl327_2; clear hi327_2 hl327_2; have HR327_3 := Aside0.mk hi327_3; have HC327_3 := Aside0.mk hl327_3; clear hi327_3 hl327_3; have HR327_4 := Aside0.mk hi327_4; have HC327_4 := Aside0.mk hl327_4; clear hi327_4 hl327_4; replace p327 := eq_true p327; replace q327 := eq_true q327; have hpt327 : ptrOf (.slice (some ad327) l0.length c0) = .pointer (some ad327) := ptrOf_pos _ _ _ (Qt)))
   go_ret
   exact ⟨by first | rfl | (simp; done) | (simp [*]; done), by repeat (first | exact Drawn0.refl _ | apply Drawn0.step)⟩
  ·rw [if_neg c4] at H
   exact absurd H (by simp)
 ·replace c3 := Bool.eq_false_iff.mpr c3
  subst c3
  have H1 : (some 0) = some r := by rw [if_neg (show ¬ (false = true) by decide)] at H; exact H
  clear H
  have H := H1
  clear H1
  obtain rfl := Option.some.inj H
  go_enter Try.func30, Try.ntmps30
  go_wp2_with (first | ((with_reducible refine gate_callee (f := 54) rfl ?_); refine goesL_ (some 4) rfl rfl Try.func54 (by kernel_rfl) rfl #[ptrOf (.slice A0 l0.length c0)] rfl (by (try simp only [List.map_toArray, List.map_cons, List.map_nil]); first | done | rfl | (simp only [*]; done) | (simp only [*]; rfl) | (simp only [List.length_drop, List.length_take]; rfl)) ?_; (with_reducible refine (suffix_Index_is.calls _ _ l0 false _ ?side1 ?side2 A2.out).mono ?_); (case side1 => repeat (first | exact HR0.out | (with_reducible first|refine Qd ?_ _|refine Qe ?_ _|refine Qf ?_))); (case side2 => exact HC0.out); rintro e w' ⟨rfl, ⟨nd, rfl⟩⟩; refine ⟨_, rfl, ?_⟩))
  go_ret
  exact ⟨by first | rfl | (simp; done) | (simp [*]; done), by repeat (first | exact Drawn0.refl _ | apply Drawn0.step)⟩

end Go.Proofs.Ythcnnfahlhklgaa.X
