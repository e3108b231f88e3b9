-- Printed by wip/xprint.py of this repo (a wrapper of the session's own round the print).
import Derived.Test.YthcnnfahlhklgaaXx0
import Derived.Test.YthcnnfahlhklgaaXBA
namespace Go.Proofs.Ythcnnfahlhklgaa.X
open Go.RowKit Go.Proofs.YthcnnfahlhklgaaW.PrintWords Go.Proofs.YthcnnfahlhklgaaW.PrintLast Go.Proofs.YthcnnfahlhklgaaW.PrintMore
attribute [local go_sem] ptrOf_eql ptrOf_neq ptrOf_eqg ptrOf_neg str_leq str_geq str_gtr max2_int min2_int max_two min_two max_three min_three max_four min_four   -- for this text's walks alone
set_option linter.unusedVariables false
set_option linter.unusedSimpArgs false

/-! ### sais_isTurn: function 85 -/
def sais_isTurn.f (l0 : List Bool) (a1 : Int) : Option (Bool):=if a1 > 0 then (if 0≤a1 then (if a1 < (l0.length : Int) then (if rdOf false l0 a1 = true then (if 0≤(wrap64 (a1 - 1)) then (if (wrap64 (a1 - 1)) < (l0.length : Int) then (some (!(rdOf false l0 (wrap64 (a1 - 1))))) else (none)) else (none)) else (some false)) else (none)) else (none)) else (some false)
set_option maxHeartbeats 8000000 in
set_option maxRecDepth 100000 in
theorem sais_isTurn.calls (A0 : Option Addr) (c0 : Nat) (l0 : List Bool) (a1 : Int) (r : Bool) (w : World) (hr0 : Kd.C Kd.bool w A0 l0.length l0) (hc0 : l0.length≤c0) (h : sais_isTurn.f l0 a1 = some r) :
  Calls Try.prog 85 #[.slice A0 l0.length c0,.int .i64 a1] w fun e w'=>e = .returned (.bool r)∧Drawn0 w w':=by
 have HR0:=Aside0.mk hr0
 have HC0:=Aside0.mk hc0
 clear hr0 hc0
 have H : (if a1 > 0 then (if 0≤a1 then (if a1 < (l0.length : Int) then (if rdOf false l0 a1 = true then (if 0≤(wrap64 (a1 - 1)) then (if (wrap64 (a1 - 1)) < (l0.length : Int) then (some (!(rdOf false l0 (wrap64 (a1 - 1))))) else (none)) else (none)) else (some false)) else (none)) else (none)) else (some false)) = some r:=h
 clear h
 by_cases c3 : a1 > 0
 ·rw [if_pos c3] at H
  have c3b0 : decide (0 < a1) = true:=decide_eq_true c3
  clear c3
  by_cases c4 : 0≤a1
  ·rw [if_pos c4] at H
   have c4b0 : decide (0≤a1) = true:=decide_eq_true c4
   clear c4
   by_cases c5 : a1 < (l0.length : Int)
   ·rw [if_pos c5] at H
    have c5b0 : decide (a1 < (l0.length : Int)) = true:=decide_eq_true c5
    clear c5
    obtain ⟨bq6,hbq6⟩ : ∃ b_ : Bool,b_ = (rdOf false l0 a1):=⟨_,rfl⟩
    replace H : (if bq6 = true then (if 0≤(wrap64 (a1 - 1)) then (if (wrap64 (a1 - 1)) < (l0.length : Int) then (some (!(rdOf false l0 (wrap64 (a1 - 1))))) else (none)) else (none)) else (some false)) = some r:=by rw [← hbq6] at H; exact H
    have Nbq6:=Aside0.mk hbq6
    clear hbq6
    by_cases c7 : bq6 = true
    ·subst c7
     have H1 : (if 0≤(wrap64 (a1 - 1)) then (if (wrap64 (a1 - 1)) < (l0.length : Int) then (some (!(rdOf false l0 (wrap64 (a1 - 1))))) else (none)) else (none)) = some r:=by rw [if_pos rfl] at H; exact H
     clear H
     have H:=H1
     clear H1
     obtain ⟨ji8,hji8⟩ : ∃ j_ : Int,(wrap64 (a1 - 1)) = j_:=⟨_,rfl⟩
     replace H : (if 0≤(ji8) then (if (ji8) < (l0.length : Int) then (some (!(rdOf false l0 (ji8)))) else (none)) else (none)) = some r:=by first | (rw [hji8] at H; exact H) | (simp only [hji8] at H ⊢; exact H)
     have hji8w : (IntKind.i64.wrap (a1 - 1)) = ji8:=(i64_w _).trans hji8
     by_cases c9 : 0≤(ji8)
     ·rw [if_pos c9] at H
      have c9b0 : decide (0≤(ji8)) = true:=decide_eq_true c9
      clear c9
      by_cases c10 : (ji8) < (l0.length : Int)
      ·rw [if_pos c10] at H
       have c10b0 : decide ((ji8) < (l0.length : Int)) = true:=decide_eq_true c10
       clear c10
       obtain rfl:=Option.some.inj H
       have p113 : 0≤(a1 : Int):=Qt
       have q113 : a1 < (l0.length : Int):=Qt
       obtain ⟨ad113,e113,hx113_0⟩:=Kd.at_bool HR0.out a1 p113 q113
       (try rw [← Nbq6.out] at hx113_0)
       cases e113
       replace p113:=eq_true p113
       replace q113:=eq_true q113
       have p114 : 0≤((ji8) : Int):=Qt
       have q114 : (ji8) < (l0.length : Int):=Qt
       obtain ⟨ad114,e114,hx114_0⟩:=Kd.at_bool HR0.out (ji8) p114 q114
       (try rw [← Nbq6.out] at hx114_0)
       obtain rfl : ad113 = ad114:=(by injection e114)
       replace p114:=eq_true p114
       replace q114:=eq_true q114
       go_enter Try.func85,Try.ntmps85
       go_wp2
       go_ret
       exact ⟨by first | rfl | (simp; done) | (simp only [← hji8] <;> (first | rfl | simp)) | (simp [*]; done),by repeat (first | exact Drawn0.refl _ | apply Drawn0.step)⟩
      ·rw [if_neg c10] at H
       exact absurd H (by simp)
     ·rw [if_neg c9] at H
      exact absurd H (by simp)
    ·replace c7:=Bool.eq_false_iff.mpr c7
     subst c7
     have H1 : (some false) = some r:=by rw [if_neg (show ¬ (false = true) by decide)] at H; exact H
     clear H
     have H:=H1
     clear H1
     obtain rfl:=Option.some.inj H
     have p113 : 0≤(a1 : Int):=Qt
     have q113 : a1 < (l0.length : Int):=Qt
     obtain ⟨ad113,e113,hx113_0⟩:=Kd.at_bool HR0.out a1 p113 q113
     (try rw [← Nbq6.out] at hx113_0)
     cases e113
     replace p113:=eq_true p113
     replace q113:=eq_true q113
     go_enter Try.func85,Try.ntmps85
     go_wp2
     go_ret
     exact ⟨by first | rfl | (simp; done) | (simp [*]; done),by repeat (first | exact Drawn0.refl _ | apply Drawn0.step)⟩
   ·rw [if_neg c5] at H
    exact absurd H (by simp)
  ·rw [if_neg c4] at H
   exact absurd H (by simp)
 ·rw [if_neg c3] at H
  have c3b0 : decide (0 < a1) = false:=decide_eq_false c3
  clear c3
  obtain rfl:=Option.some.inj H
  go_enter Try.func85,Try.ntmps85
  go_wp2
  go_ret
  exact ⟨by first | rfl | (simp; done) | (simp [*]; done),by repeat (first | exact Drawn0.refl _ | apply Drawn0.step)⟩

end Go.Proofs.Ythcnnfahlhklgaa.X
