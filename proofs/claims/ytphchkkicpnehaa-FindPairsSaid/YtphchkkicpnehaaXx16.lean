-- Printed by wip/xprint.py of this repo (a wrapper of the session's own round the print).
import Derived.Test.YtphchkkicpnehaaXx0
import Derived.Test.YtphchkkicpnehaaXBA
namespace Go.Proofs.Ytphchkkicpnehaa.X
open Go.RowKit Go.Proofs.YtphchkkicpnehaaW.PrintWords Go.Proofs.YtphchkkicpnehaaW.PrintLast Go.Proofs.YtphchkkicpnehaaW.PrintMore
attribute [local go_sem] ptrOf_eql ptrOf_neq ptrOf_eqg ptrOf_neg str_leq str_geq str_gtr max2_int min2_int max_two min_two max_three min_three max_four min_four   -- for this text's walks alone
set_option linter.unusedVariables false
set_option linter.unusedSimpArgs false

/-! ### suffix_Index_is: function 45 -/
def suffix_Index_is.f (l0 : List (S61)) : Option (Bool) := if (l0.length : Int) = 0 then (some false) else (if 0 < (l0.length : Int) then (some ((rd_T61 l0 0).f0)) else (none))
set_option maxHeartbeats 8000000 in
set_option maxRecDepth 100000 in
theorem suffix_Index_is.calls (A0 : Option Addr) (c0 : Nat) (l0 : List (S61)) (r : Bool) (w : World) (hr0 : Kd.C k61 w A0 l0.length l0) (hc0 : l0.length ≤ c0) (h : suffix_Index_is.f l0 = some r) :
  Calls Try.prog 45 #[ptrOf (.slice A0 l0.length c0)] w fun e w' => e = .returned (.bool r) ∧ Drawn0 w w' := by
 have HR0 := Aside0.mk hr0
 have HC0 := Aside0.mk hc0
 clear hr0 hc0
 have H : (if (l0.length : Int) = 0 then (some false) else (if 0 < (l0.length : Int) then (some ((rd_T61 l0 0).f0)) else (none))) = some r := h
 clear h
 by_cases c2 : (l0.length : Int) = 0
 ·rw [if_pos c2] at H
  have c2b0 : ((l0.length : Int) == 0) = true := beq_iff_eq.mpr c2
  have c2b1 : ((l0.length : Int) != 0) = false := bne_eq_false_iff_eq.mpr c2
  clear c2
  obtain rfl := Option.some.inj H
  go_enter Try.func45, Try.ntmps45
  go_wp2
  go_ret
  exact ⟨by first | rfl | (simp; done) | (simp [*]; done), by repeat (first | exact Drawn0.refl _ | apply Drawn0.step)⟩
 ·rw [if_neg c2] at H
  have c2b0 : ((l0.length : Int) == 0) = false := beq_eq_false_iff_ne.mpr c2
  have c2b1 : ((l0.length : Int) != 0) = true := bne_iff_ne.mpr c2
  have c2b2 : ¬ (l0 = []) := fun h_ => c2 (by rw [h_]; rfl)
  by_cases c3 : 0 < (l0.length : Int)
  ·rw [if_pos c3] at H
   have c3b0 : decide (0 < (l0.length : Int)) = true := decide_eq_true c3
   have c3b1 : decide (0 < l0.length) = true := decide_eq_true (by omega)
   clear c3
   obtain rfl := Option.some.inj H
   have p268 : 0 ≤ (0 : Int) := (by omega)
   have q268 : 0 < (l0.length : Int) := Qt
   obtain ⟨ad268, A268_1, c268_1, A268_2, c268_2, A268_3, c268_3, A268_4, c268_4, e268, hx268_0, hx268_1, hx268_2, hx268_3, hx268_4, hl268_1, hi268_1, hl268_2, hi268_2, hl268_3, hi268_3, hl268_4, hi268_4⟩ := at_T61 HR0.out 0 p268 q268
   cases e268
   have qi268 : (0 < l0.length) = True := eq_true (by omega)
   (try rw [show ((0 : Int)).toNat = 0 from rfl] at hx268_0)
   (try rw [show 0 * 5 = 0 from rfl] at hx268_0)
   (try rw [Addr.add_zero'] at hx268_0)
   (try rw [show ((0 : Int)).toNat = 0 from rfl] at hx268_1)
   (try rw [show 0 * 5 = 0 from rfl] at hx268_1)
   (try rw [Addr.add_zero'] at hx268_1)
   (try rw [show ((0 : Int)).toNat = 0 from rfl] at hx268_2)
   (try rw [show 0 * 5 = 0 from rfl] at hx268_2)
   (try rw [Addr.add_zero'] at hx268_2)
   (try rw [show ((0 : Int)).toNat = 0 from rfl] at hx268_3)
   (try rw [show 0 * 5 = 0 from rfl] at hx268_3)
   (try rw [Addr.add_zero'] at hx268_3)
   (try rw [show ((0 : Int)).toNat = 0 from rfl] at hx268_4)
   (try rw [show 0 * 5 = 0 from rfl] at hx268_4)
   (try rw [Addr.add_zero'] at hx268_4)
   have HR268_1 := Aside0.mk hi268_1
   have HC268_1 := Aside0.mk hl268_1
   clear hi268_1 hl268_1
   have HR268_2 := Aside0.mk hi268_2
   have HC268_2 := Aside0.mk hl268_2
   clear hi268_2 hl268_2
   have HR268_3 := Aside0.mk hi268_3
   have HC268_3 := Aside0.mk hl268_3
   clear hi268_3 hl268_3
   have HR268_4 := Aside0.mk hi268_4
   have HC268_4 := Aside0.mk hl268_4
   clear hi268_4 hl268_4
   replace p268 := eq_true p268
   replace q268 := eq_true q268
   have hpt268 : ptrOf (.slice (some ad268) l0.length c0) = .pointer (some ad268) := ptrOf_pos _ _ _ (Qt)
   go_enter Try.func45, Try.ntmps45
   go_wp2
   go_ret
   exact ⟨by first | rfl | (simp; done) | (simp [*]; done), by repeat (first | exact Drawn0.refl _ | apply Drawn0.step)⟩
  ·rw [if_neg c3] at H
   exact absurd H (by simp)

end Go.Proofs.Ytphchkkicpnehaa.X
