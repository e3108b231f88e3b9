-- Printed by wip/xprint.py of this repo (a wrapper of the session's own round the print).
import Derived.Test.YthcnnfahlhklgaaXx0
import Derived.Test.YthcnnfahlhklgaaXBA
namespace Go.Proofs.Ythcnnfahlhklgaa.X
open Go.RowKit Go.Proofs.YthcnnfahlhklgaaW.PrintWords Go.Proofs.YthcnnfahlhklgaaW.PrintLast Go.Proofs.YthcnnfahlhklgaaW.PrintMore
attribute [local go_sem] ptrOf_eql ptrOf_neq ptrOf_eqg ptrOf_neg str_leq str_geq str_gtr max2_int min2_int max_two min_two max_three min_three max_four min_four   -- for this text's walks alone
set_option linter.unusedVariables false
set_option linter.unusedSimpArgs false

/-! ### suffix_Index_is: function 54 -/
def suffix_Index_is.f (l0 : List (S82)) : Option (Bool):=if (l0.length : Int) = 0 then (some false) else (if 0 < (l0.length : Int) then (some ((rd_T82 l0 0).f0)) else (none))
set_option maxHeartbeats 8000000 in
set_option maxRecDepth 100000 in
theorem suffix_Index_is.calls (A0 : Option Addr) (c0 : Nat) (l0 : List (S82)) (r : Bool) (w : World) (hr0 : Kd.C k82 w A0 l0.length l0) (hc0 : l0.length≤c0) (h : suffix_Index_is.f l0 = some r) :
  Calls Try.prog 54 #[ptrOf (.slice A0 l0.length c0)] w fun e w'=>e = .returned (.bool r)∧Drawn0 w w':=by
 have HR0:=Aside0.mk hr0
 have HC0:=Aside0.mk hc0
 clear hr0 hc0
 have H : (if (l0.length : Int) = 0 then (some false) else (if 0 < (l0.length : Int) then (some ((rd_T82 l0 0).f0)) else (none))) = some r:=h
 clear h
 by_cases c2 : (l0.length : Int) = 0
 ·rw [if_pos c2] at H
  have c2b0 : ((l0.length : Int) == 0) = true:=beq_iff_eq.mpr c2
  have c2b1 : ((l0.length : Int) != 0) = false:=bne_eq_false_iff_eq.mpr c2
  clear c2
  obtain rfl:=Option.some.inj H
  go_enter Try.func54,Try.ntmps54
  go_wp2
  go_ret
  exact ⟨by first | rfl | (simp; done) | (simp [*]; done),by repeat (first | exact Drawn0.refl _ | apply Drawn0.step)⟩
 ·rw [if_neg c2] at H
  have c2b0 : ((l0.length : Int) == 0) = false:=beq_eq_false_iff_ne.mpr c2
  have c2b1 : ((l0.length : Int) != 0) = true:=bne_iff_ne.mpr c2
  have c2b2 : ¬ (l0 = []):=fun h_=>c2 (by rw [h_]; rfl)
  by_cases c3 : 0 < (l0.length : Int)
  ·rw [if_pos c3] at H
   have c3b0 : decide (0 < (l0.length : Int)) = true:=decide_eq_true c3
   have c3b1 : decide (0 < l0.length) = true:=decide_eq_true (by omega)
   clear c3
   obtain rfl:=Option.some.inj H
   have p264 : 0≤(0 : Int):=(by omega)
   have q264 : 0 < (l0.length : Int):=Qt
   obtain ⟨ad264,A264_1,c264_1,A264_2,c264_2,A264_3,c264_3,A264_4,c264_4,e264,hx264_0,hx264_1,hx264_2,hx264_3,hx264_4,hl264_1,hi264_1,hl264_2,hi264_2,hl264_3,hi264_3,hl264_4,hi264_4⟩:=at_T82 HR0.out 0 p264 q264
   cases e264
   have qi264 : (0 < l0.length) = True:=eq_true (by omega)
   (try rw [show ((0 : Int)).toNat = 0 from rfl] at hx264_0)
   (try rw [show 0 * 5 = 0 from rfl] at hx264_0)
   (try rw [Addr.add_zero'] at hx264_0)
   (try rw [show ((0 : Int)).toNat = 0 from rfl] at hx264_1)
   (try rw [show 0 * 5 = 0 from rfl] at hx264_1)
   (try rw [Addr.add_zero'] at hx264_1)
   (try rw [show ((0 : Int)).toNat = 0 from rfl] at hx264_2)
   (try rw [show 0 * 5 = 0 from rfl] at hx264_2)
   (try rw [Addr.add_zero'] at hx264_2)
   (try rw [show ((0 : Int)).toNat = 0 from rfl] at hx264_3)
   (try rw [show 0 * 5 = 0 from rfl] at hx264_3)
   (try rw [Addr.add_zero'] at hx264_3)
   (try rw [show ((0 : Int)).toNat = 0 from rfl] at hx264_4)
   (try rw [show 0 * 5 = 0 from rfl] at hx264_4)
   (try rw [Addr.add_zero'] at hx264_4)
   have HR264_1:=Aside0.mk hi264_1
   have HC264_1:=Aside0.mk hl264_1
   clear hi264_1 hl264_1
   have HR264_2:=Aside0.mk hi264_2
   have HC264_2:=Aside0.mk hl264_2
   clear hi264_2 hl264_2
   have HR264_3:=Aside0.mk hi264_3
   have HC264_3:=Aside0.mk hl264_3
   clear hi264_3 hl264_3
   have HR264_4:=Aside0.mk hi264_4
   have HC264_4:=Aside0.mk hl264_4
   clear hi264_4 hl264_4
   replace p264:=eq_true p264
   replace q264:=eq_true q264
   have hpt264 : ptrOf (.slice (some ad264) l0.length c0) = .pointer (some ad264):=ptrOf_pos _ _ _ (Qt)
   go_enter Try.func54,Try.ntmps54
   go_wp2
   go_ret
   exact ⟨by first | rfl | (simp; done) | (simp [*]; done),by repeat (first | exact Drawn0.refl _ | apply Drawn0.step)⟩
  ·rw [if_neg c3] at H
   exact absurd H (by simp)

end Go.Proofs.Ythcnnfahlhklgaa.X
