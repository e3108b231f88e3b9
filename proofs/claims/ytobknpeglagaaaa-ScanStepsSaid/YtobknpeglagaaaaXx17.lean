-- Printed by wip/xprint.py of this repo (a wrapper of the session's own round the print).
import Derived.Test.YtobknpeglagaaaaXY
import Derived.Test.YtobknpeglagaaaaXx16
namespace Go.Proofs.Ytobknpeglagaaaa.X
open Go.RowKit Go.Proofs.YtobknpeglagaaaaW.PrintWords Go.Proofs.YtobknpeglagaaaaW.PrintLast Go.Proofs.YtobknpeglagaaaaW.PrintMore
attribute [local go_sem] ptrOf_eql ptrOf_neq ptrOf_eqg ptrOf_neg str_leq str_geq str_gtr max2_int min2_int max_two min_two max_three min_three max_four min_four   -- for this text's walks alone
set_option linter.unusedVariables false
set_option linter.unusedSimpArgs false

/-! ### suffix_Index_Len: function 29 -/
def suffix_Index_Len.f (l0 : List (S48)) : Option (Int) := (suffix_Index_is.f l0).bind fun t269 => (if t269 = true then (if 0 < (l0.length : Int) then (some (((rd_T48 l0 0).f1).length : Int)) else (none)) else (some 0))
set_option maxHeartbeats 8000000 in
set_option maxRecDepth 100000 in
theorem suffix_Index_Len.calls (A0 : Option Addr) (c0 : Nat) (l0 : List (S48)) (r : Int) (w : World) (hr0 : Kd.C k48 w A0 l0.length l0) (hc0 : l0.length ≤ c0) (h : suffix_Index_Len.f l0 = some r) :
  Calls Try.prog 29 #[ptrOf (.slice A0 l0.length c0)] w fun e w' => e = .returned (.int .i64 r) ∧ Drawn0 w w' := by
 have HR0 := Aside0.mk hr0; have HC0 := Aside0.mk hc0; clear hr0 hc0; have H : ((suffix_Index_is.f l0).bind fun t269 => (if t269 = true then (if 0 < (l0.length : Int) then (some (((rd_T48 l0 0).f1).length : Int)) else (none)) else (some 0))) = some r := h; clear h; replace H := Option.bind_eq_some_iff.mp H; obtain ⟨t269, A20, H⟩ := H; replace H : (if t269 = true then (if 0 < (l0.length : Int) then (some (((rd_T48 l0 0).f1).length : Int)) else (none)) else (some 0)) = some r := H; have A2 := Aside0.mk A20; clear A20
 by_cases c3 : t269 = true
 ·subst c3
  have H1 : (if 0 < (l0.length : Int) then (some (((rd_T48 l0 0).f1).length : Int)) else (none)) = some r := by rw [if_pos rfl] at H; exact H
  clear H; have H := H1; clear H1
  by_cases c4 : 0 < (l0.length : Int)
  ·rw [if_pos c4] at H
   have c4b0 : decide (0 < (l0.length : Int)) = true := decide_eq_true c4; have c4b1 : decide (0 < l0.length) = true := decide_eq_true (by omega); clear c4; obtain rfl := Option.some.inj H
   go_enter Try.func29, Try.ntmps29
   go_wp2_with (first | ((with_reducible refine gate_callee (f := 30) rfl ?_); refine goesL_ (some 4) rfl rfl Try.func30 (by kernel_rfl) rfl #[ptrOf (.slice A0 l0.length c0)] rfl (by (try simp only [List.map_toArray, List.map_cons, List.map_nil]); first | done | rfl | (simp only [*]; done) | (simp only [*]; rfl) | (simp only [List.length_drop, List.length_take]; rfl)) ?_; (with_reducible refine (suffix_Index_is.calls _ _ l0 true _ ?side1 ?side2 A2.out).mono ?_); (case side1 => repeat (first | exact HR0.out | (with_reducible refine Kd.C_alloc ?_ _) | (with_reducible refine Kd.C_drewN ?_ _) | (with_reducible refine Kd.C_drew ?_))); (case side2 => exact HC0.out); rintro e w' ⟨rfl, ⟨nd, rfl⟩⟩; refine ⟨_, rfl, ?_⟩; have p270 : 0 ≤ (0 : Int) := (by omega); have q270 : 0 < (l0.length : Int) := of_decide_eq_true (by first | (with_reducible assumption) | assumption); obtain ⟨ad270, A270_1, c270_1, A270_2, c270_2, A270_3, c270_3, A270_4, c270_4, e270, hx270_0, hx270_1, hx270_2, hx270_3, hx270_4, hl270_1, hi270_1, hl270_2, hi270_2, hl270_3, hi270_3, hl270_4, hi270_4⟩ := at_T48 HR0.out 0 p270 q270; cases e270; have qi270 : (0 < l0.length) = True := eq_true (by omega); (try rw [show ((0 : Int)).toNat = 0 from rfl] at hx270_0); (try rw [show 0 * 5 = 0 from rfl] at hx270_0); (try rw [Addr.add_zero'] at hx270_0); (try rw [show ((0 : Int)).toNat = 0 from rfl] at hx270_1); (try rw [show 0 * 5 = 0 from rfl] at hx270_1); (try rw [Addr.add_zero'] at hx270_1); (try rw [show ((0 : Int)).toNat = 0 from rfl] at hx270_2); (try rw [show 0 * 5 = 0 from rfl] at hx270_2); (try rw [Addr.add_zero'] at hx270_2); (try rw [show ((0 : Int)).toNat = 0 from rfl] at hx270_3); (try rw [show 0 * 5 = 0 from rfl] at hx270_3); (try rw [Addr.add_zero'] at hx270_3); (try rw [show ((0 : Int)).toNat = 0 from rfl] at hx270_4); (try rw [show 0 * 5 = 0 from rfl] at hx270_4); (try rw [Addr.add_zero'] at hx270_4); have HR270_1 := Aside0.mk hi270_1; have HC270_1 := Aside0.mk hl270_1; clear hi270_1 hl270_1; have HR270_2 := Aside0.mk hi270_2; have HC270_2 := Aside0.mk hl270_2; clear hi270_2 hl270_2; have HR270_3 := Aside0.mk hi270_3; have HC270_3 := Aside0.mk hl270_3; clear hi270_3 hl270_3; have HR270_4 := Aside0.mk hi270_4; have HC270_4 := Aside0.mk hl270_4; clear hi270_4 hl270_4; replace p270 := eq_true p270; replace q270 := eq_true q270; have hpt270 : ptrOf (.slice (some ad270) l0.length c0) = .pointer (some ad270) := ptrOf_pos _ _ _ (of_decide_eq_true (by first | (with_reducible assumption) | assumption))))
   go_ret
   exact ⟨by first | rfl | (simp; done) | (simp [*]; done), by repeat (first | exact Drawn0.refl _ | apply Drawn0.step)⟩
  (· (rw [if_neg c4] at H; exact absurd H (by simp)))
 ·replace c3 := Bool.eq_false_iff.mpr c3
  subst c3
  have H1 : (some 0) = some r := by rw [if_neg (show ¬ (false = true) by decide)] at H; exact H
  clear H; have H := H1; clear H1; obtain rfl := Option.some.inj H
  go_enter Try.func29, Try.ntmps29
  go_wp2_with (first | ((with_reducible refine gate_callee (f := 30) rfl ?_); refine goesL_ (some 4) rfl rfl Try.func30 (by kernel_rfl) rfl #[ptrOf (.slice A0 l0.length c0)] rfl (by (try simp only [List.map_toArray, List.map_cons, List.map_nil]); first | done | rfl | (simp only [*]; done) | (simp only [*]; rfl) | (simp only [List.length_drop, List.length_take]; rfl)) ?_; (with_reducible refine (suffix_Index_is.calls _ _ l0 false _ ?side1 ?side2 A2.out).mono ?_); (case side1 => repeat (first | exact HR0.out | (with_reducible refine Kd.C_alloc ?_ _) | (with_reducible refine Kd.C_drewN ?_ _) | (with_reducible refine Kd.C_drew ?_))); (case side2 => exact HC0.out); rintro e w' ⟨rfl, ⟨nd, rfl⟩⟩; refine ⟨_, rfl, ?_⟩))
  go_ret
  exact ⟨by first | rfl | (simp; done) | (simp [*]; done), by repeat (first | exact Drawn0.refl _ | apply Drawn0.step)⟩

end Go.Proofs.Ytobknpeglagaaaa.X
