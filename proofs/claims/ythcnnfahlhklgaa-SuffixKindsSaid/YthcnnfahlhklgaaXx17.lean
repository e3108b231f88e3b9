-- Printed by wip/xprint.py of this repo (a wrapper of the session's own round the print).
import Derived.Test.YthcnnfahlhklgaaXx0
import Derived.Test.YthcnnfahlhklgaaXBA
import Derived.Test.YthcnnfahlhklgaaXx15
import Derived.Test.YthcnnfahlhklgaaXx16
namespace Go.Proofs.Ythcnnfahlhklgaa.X
open Go.RowKit Go.Proofs.YthcnnfahlhklgaaW.PrintWords Go.Proofs.YthcnnfahlhklgaaW.PrintLast Go.Proofs.YthcnnfahlhklgaaW.PrintMore
attribute [local go_sem] ptrOf_eql ptrOf_neq ptrOf_eqg ptrOf_neg str_leq str_geq str_gtr max2_int min2_int max_two min_two max_three min_three max_four min_four   -- for this text's walks alone
set_option linter.unusedVariables false
set_option linter.unusedSimpArgs false

/-! ### suffix_Index_Lcp: function 20 -/
def suffix_Index_Lcp.f (l0 : List (S82)) : Option (List Int):=(suffix_Index_is.f l0).bind fun t270=>(if t270 = true then (if 0 < (l0.length : Int) then ((suffix_told.f ((rd_T82 l0 0).f4)).bind fun t272=>(some t272)) else (none)) else (some ([] : List Int)))
set_option maxHeartbeats 8000000 in
set_option maxRecDepth 100000 in
theorem suffix_Index_Lcp.calls (A0 : Option Addr) (c0 : Nat) (l0 : List (S82)) (r : List Int) (w : World) (hr0 : Kd.C k82 w A0 l0.length l0) (hc0 : l0.length≤c0) (h : suffix_Index_Lcp.f l0 = some r) :
  Calls Try.prog 20 #[ptrOf (.slice A0 l0.length c0)] w fun e w'=>∃ v0_ : Value,e = .returned (v0_)∧Kd.R (Kd.int .i64) 3 w' w.heap.size (fun _=>True) v0_ r∧Below w.heap.size w w':=by
 have HR0:=Aside0.mk hr0
 have HC0:=Aside0.mk hc0
 clear hr0 hc0
 have HB:=Aside0.mk (Below.refl w.heap.size w)
 have H : ((suffix_Index_is.f l0).bind fun t270=>(if t270 = true then (if 0 < (l0.length : Int) then ((suffix_told.f ((rd_T82 l0 0).f4)).bind fun t272=>(some t272)) else (none)) else (some ([] : List Int)))) = some r:=h
 clear h
 replace H:=Option.bind_eq_some_iff.mp H
 obtain ⟨t270,A20,H⟩:=H
 replace H : (if t270 = true then (if 0 < (l0.length : Int) then ((suffix_told.f ((rd_T82 l0 0).f4)).bind fun t272=>(some t272)) else (none)) else (some ([] : List Int))) = some r:=H
 have A2:=Aside0.mk A20
 clear A20
 by_cases c3 : t270 = true
 ·subst c3
  have H1 : (if 0 < (l0.length : Int) then ((suffix_told.f ((rd_T82 l0 0).f4)).bind fun t272=>(some t272)) else (none)) = some r:=by rw [if_pos rfl] at H; exact H
  clear H
  have H:=H1
  clear H1
  by_cases c4 : 0 < (l0.length : Int)
  ·rw [if_pos c4] at H
   have c4b0 : decide (0 < (l0.length : Int)) = true:=decide_eq_true c4
   have c4b1 : decide (0 < l0.length) = true:=decide_eq_true (by omega)
   clear c4
   replace H:=Option.bind_eq_some_iff.mp H
   obtain ⟨t272,A50,H⟩:=H
   replace H : (some t272) = some r:=H
   have A5:=Aside0.mk A50
   clear A50
   obtain rfl:=Option.some.inj H
   go_enter Try.func20,Try.ntmps20
   go_wp2_with (first | ((with_reducible refine gate_callee (f:=54) rfl ?_); refine goesL_ (some 4) rfl rfl Try.func54 (by kernel_rfl) rfl #[ptrOf (.slice A0 l0.length c0)] rfl (by (try simp only [List.map_toArray,List.map_cons,List.map_nil]); first | done | rfl | (simp only [*]; done) | (simp only [*]; rfl) | (simp only [List.length_drop,List.length_take]; rfl)) ?_; (with_reducible refine (suffix_Index_is.calls _ _ l0 true _ ?side1 ?side2 A2.out).mono ?_); (case side1=>repeat (first | exact HR0.out | (with_reducible first|refine Qd ?_ _|refine Qe ?_ _|refine Qf ?_))); (case side2=>exact HC0.out); rintro e w' ⟨rfl,⟨nd,rfl⟩⟩; refine ⟨_,rfl,?_⟩; have p271 : 0≤(0 : Int):=(by omega); have q271 : 0 < (l0.length : Int):=Qt; obtain ⟨ad271,A271_1,c271_1,A271_2,c271_2,A271_3,c271_3,A271_4,c271_4,e271,hx271_0,hx271_1,hx271_2,hx271_3,hx271_4,hl271_1,hi271_1,hl271_2,hi271_2,hl271_3,hi271_3,hl271_4,hi271_4⟩:=at_T82 HR0.out 0 p271 q271; cases e271; have qi271 : (0 < l0.length) = True:=eq_true (by omega); (try rw [show ((0 : Int)).toNat = 0 from rfl] at hx271_0); (try rw [show 0 * 5 = 0 from rfl] at hx271_0); (try rw [Addr.add_zero'] at hx271_0); (try rw [show ((0 : Int)).toNat = 0 from rfl] at hx271_1); (try rw [show 0 * 5 = 0 from rfl] at hx271_1); (try rw [Addr.add_zero'] at hx271_1); (try rw [show ((0 : Int)).toNat = 0 from rfl] at hx271_2); (try rw [show 0 * 5 = 0 from rfl] at hx271_2); (try rw [Addr.add_zero'] at hx271_2); (try rw [show ((0 : Int)).toNat = 0 from rfl] at hx271_3); (try rw [show 0 * 5 = 0 from rfl] at hx271_3); (try rw [Addr.add_zero'] at hx271_3); (try rw [show ((0 : Int)).toNat = 0 from rfl] at hx271_4); (try rw [show 0 * 5 = 0 from rfl] at hx271_4); (try rw [Addr.add_zero'] at hx271_4); have HR271_1:=Aside0.mk hi271_1; have HC271_1:=Aside0.mk hl271_1; clear hi271_1 hl271_1; have HR271_2:=Aside0.mk hi271_2; have HC271_2:=Aside0.mk hl271_2; clear hi271_2 hl271_2; have HR271_3:=Aside0.mk hi271_3; have HC271_3:=Aside0.mk hl271_3; clear hi271_3 hl271_3; have HR271_4:=Aside0.mk hi271_4; have HC271_4:=Aside0.mk hl271_4; clear hi271_4 hl271_4; replace p271:=eq_true p271; replace q271:=eq_true q271; have hpt271 : ptrOf (.slice (some ad271) l0.length c0) = .pointer (some ad271):=ptrOf_pos _ _ _ (Qt)) | ((with_reducible refine gate_callee (f:=55) rfl ?_); refine goesL_ (some 10) rfl rfl Try.func55 (by kernel_rfl) rfl #[.slice A271_4 ((rd_T82 l0 0).f4).length c271_4] rfl (by (try simp only [List.map_toArray,List.map_cons,List.map_nil]); first | done | rfl | (simp only [*]; done) | (simp only [*]; rfl) | (simp only [List.length_drop,List.length_take]; rfl)) ?_; (with_reducible refine (suffix_told.calls _ _ ((rd_T82 l0 0).f4) t272 _ ?side1 ?side2 A5.out).mono ?_); (case side1=>repeat (first | exact HR271_4.out | (with_reducible first|refine Qd ?_ _|refine Qe ?_ _|refine Qf ?_))); (case side2=>exact HC271_4.out); rintro e w6 ⟨v273,rfl,ho0,hb⟩; refine ⟨_,rfl,?_⟩; have n0_:=Aside0.mk (Kd.R_lower ho0 (below_size (by repeat first|(with_reducible first|exact HB.out|apply Qg|apply Qh|apply Qi)|exact HB.out))); have n1_:=Aside0.mk (below_step (by repeat first|(with_reducible first|exact HB.out|apply Qg|apply Qh|apply Qi)|exact HB.out) hb); clear HB; have HO274:=n0_; have HB:=n1_; clear n0_ n1_; (try clear hb); (try clear hb2); (try clear hk); (try clear hi); (try clear ho0)))
   go_ret
   exact ⟨_,by first | rfl | (simp [errW_none,errW_some] <;> rfl) | (simp [*,errW_none,errW_some] <;> rfl),by (with_reducible repeat first|apply Qa|apply Qb|apply Qc); exact HO274.out,by repeat first|(with_reducible first|exact HB.out|apply Qg|apply Qh|apply Qi)|exact HB.out⟩
  ·rw [if_neg c4] at H
   exact absurd H (by simp)
 ·replace c3:=Bool.eq_false_iff.mpr c3
  subst c3
  have H1 : (some ([] : List Int)) = some r:=by rw [if_neg (show ¬ (false = true) by decide)] at H; exact H
  clear H
  have H:=H1
  clear H1
  obtain rfl:=Option.some.inj H
  go_enter Try.func20,Try.ntmps20
  go_wp2_with (first | ((with_reducible refine gate_callee (f:=54) rfl ?_); refine goesL_ (some 4) rfl rfl Try.func54 (by kernel_rfl) rfl #[ptrOf (.slice A0 l0.length c0)] rfl (by (try simp only [List.map_toArray,List.map_cons,List.map_nil]); first | done | rfl | (simp only [*]; done) | (simp only [*]; rfl) | (simp only [List.length_drop,List.length_take]; rfl)) ?_; (with_reducible refine (suffix_Index_is.calls _ _ l0 false _ ?side1 ?side2 A2.out).mono ?_); (case side1=>repeat (first | exact HR0.out | (with_reducible first|refine Qd ?_ _|refine Qe ?_ _|refine Qf ?_))); (case side2=>exact HC0.out); rintro e w' ⟨rfl,⟨nd,rfl⟩⟩; refine ⟨_,rfl,?_⟩))
  go_ret
  exact ⟨_,by first | rfl | (simp [errW_none,errW_some] <;> rfl) | (simp [*,errW_none,errW_some] <;> rfl),by first | exact Kd.R_nil _ _ _ _ _ | exact Kd.N_nil _ _ _ _ _ | exact Kd.V_nil _ _ _ _ _ | exact Kd.Q_nil _ _ _ _ _ | exact Kd.S_nil _ _ _ _ _,by repeat first|(with_reducible first|exact HB.out|apply Qg|apply Qh|apply Qi)|exact HB.out⟩

end Go.Proofs.Ythcnnfahlhklgaa.X
