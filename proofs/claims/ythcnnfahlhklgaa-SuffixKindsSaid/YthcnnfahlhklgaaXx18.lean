-- Printed by wip/xprint.py of this repo (a wrapper of the session's own round the print).
import Derived.Test.YthcnnfahlhklgaaXx0
import Derived.Test.YthcnnfahlhklgaaXBA
import Derived.Test.YthcnnfahlhklgaaXx15
import Derived.Test.YthcnnfahlhklgaaXx16
namespace Go.Proofs.Ythcnnfahlhklgaa.X
open Go.RowKit Go.Proofs.YthcnnfahlhklgaaW.PrintWords Go.Proofs.YthcnnfahlhklgaaW.PrintLast Go.Proofs.YthcnnfahlhklgaaW.PrintMore
attribute [local go_sem] ptrOf_eql ptrOf_neq ptrOf_eqg ptrOf_neg str_leq str_geq str_gtr max2_int min2_int max_two min_two max_three min_three max_four min_four   -- for this text's walks alone
set_option linter.unusedVariables false
set_option linter.unusedSimpArgs false

/-! ### suffix_Index_Array: function 21 -/
def suffix_Index_Array.f (l0 : List (S82)) : Option (List Int):=(suffix_Index_is.f l0).bind fun t275=>(if t275 = true then (if 0 < (l0.length : Int) then ((suffix_told.f ((rd_T82 l0 0).f2)).bind fun t277=>(some t277)) else (none)) else (some ([] : List Int)))
set_option maxHeartbeats 8000000 in
set_option maxRecDepth 100000 in
theorem suffix_Index_Array.calls (A0 : Option Addr) (c0 : Nat) (l0 : List (S82)) (r : List Int) (w : World) (hr0 : Kd.C k82 w A0 l0.length l0) (hc0 : l0.length≤c0) (h : suffix_Index_Array.f l0 = some r) :
  Calls Try.prog 21 #[ptrOf (.slice A0 l0.length c0)] w fun e w'=>∃ v0_ : Value,e = .returned (v0_)∧Kd.R (Kd.int .i64) 3 w' w.heap.size (fun _=>True) v0_ r∧Below w.heap.size w w':=by
 have HR0:=Aside0.mk hr0
 have HC0:=Aside0.mk hc0
 clear hr0 hc0
 have HB:=Aside0.mk (Below.refl w.heap.size w)
 have H : ((suffix_Index_is.f l0).bind fun t275=>(if t275 = true then (if 0 < (l0.length : Int) then ((suffix_told.f ((rd_T82 l0 0).f2)).bind fun t277=>(some t277)) else (none)) else (some ([] : List Int)))) = some r:=h
 clear h
 replace H:=Option.bind_eq_some_iff.mp H
 obtain ⟨t275,A20,H⟩:=H
 replace H : (if t275 = true then (if 0 < (l0.length : Int) then ((suffix_told.f ((rd_T82 l0 0).f2)).bind fun t277=>(some t277)) else (none)) else (some ([] : List Int))) = some r:=H
 have A2:=Aside0.mk A20
 clear A20
 by_cases c3 : t275 = true
 ·subst c3
  have H1 : (if 0 < (l0.length : Int) then ((suffix_told.f ((rd_T82 l0 0).f2)).bind fun t277=>(some t277)) else (none)) = some r:=by rw [if_pos rfl] at H; exact H
  clear H
  have H:=H1
  clear H1
  by_cases c4 : 0 < (l0.length : Int)
  ·rw [if_pos c4] at H
   have c4b0 : decide (0 < (l0.length : Int)) = true:=decide_eq_true c4
   have c4b1 : decide (0 < l0.length) = true:=decide_eq_true (by omega)
   clear c4
   replace H:=Option.bind_eq_some_iff.mp H
   obtain ⟨t277,A50,H⟩:=H
   replace H : (some t277) = some r:=H
   have A5:=Aside0.mk A50
   clear A50
   obtain rfl:=Option.some.inj H
   go_enter Try.func21,Try.ntmps21
   go_wp2_with (first | ((with_reducible refine gate_callee (f:=54) rfl ?_); refine goesL_ (some 4) rfl rfl Try.func54 (by kernel_rfl) rfl #[ptrOf (.slice A0 l0.length c0)] rfl (by (try simp only [List.map_toArray,List.map_cons,List.map_nil]); first | done | rfl | (simp only [*]; done) | (simp only [*]; rfl) | (simp only [List.length_drop,List.length_take]; rfl)) ?_; (with_reducible refine (suffix_Index_is.calls _ _ l0 true _ ?side1 ?side2 A2.out).mono ?_); (case side1=>repeat (first | exact HR0.out | (with_reducible first|refine Qd ?_ _|refine Qe ?_ _|refine Qf ?_))); (case side2=>exact HC0.out); rintro e w' ⟨rfl,⟨nd,rfl⟩⟩; refine ⟨_,rfl,?_⟩; have p276 : 0≤(0 : Int):=(by omega); have q276 : 0 < (l0.length : Int):=Qt; obtain ⟨ad276,A276_1,c276_1,A276_2,c276_2,A276_3,c276_3,A276_4,c276_4,e276,hx276_0,hx276_1,hx276_2,hx276_3,hx276_4,hl276_1,hi276_1,hl276_2,hi276_2,hl276_3,hi276_3,hl276_4,hi276_4⟩:=at_T82 HR0.out 0 p276 q276; cases e276; have qi276 : (0 < l0.length) = True:=eq_true (by omega); (try rw [show ((0 : Int)).toNat = 0 from rfl] at hx276_0); (try rw [show 0 * 5 = 0 from rfl] at hx276_0); (try rw [Addr.add_zero'] at hx276_0); (try rw [show ((0 : Int)).toNat = 0 from rfl] at hx276_1); (try rw [show 0 * 5 = 0 from rfl] at hx276_1); (try rw [Addr.add_zero'] at hx276_1); (try rw [show ((0 : Int)).toNat = 0 from rfl] at hx276_2); (try rw [show 0 * 5 = 0 from rfl] at hx276_2); (try rw [Addr.add_zero'] at hx276_2); (try rw [show ((0 : Int)).toNat = 0 from rfl] at hx276_3); (try rw [show 0 * 5 = 0 from rfl] at hx276_3); (try rw [Addr.add_zero'] at hx276_3); (try rw [show ((0 : Int)).toNat = 0 from rfl] at hx276_4); (try rw [show 0 * 5 = 0 from rfl] at hx276_4); (try rw [Addr.add_zero'] at hx276_4); have HR276_1:=Aside0.mk hi276_1; have HC276_1:=Aside0.mk hl276_1; clear hi276_1 hl276_1; have HR276_2:=Aside0.mk hi276_2; have HC276_2:=Aside0.mk hl276_2; clear hi276_2 hl276_2; have HR276_3:=Aside0.mk hi276_3; have HC276_3:=Aside0.mk hl276_3; clear hi276_3 hl276_3; have HR276_4:=Aside0.mk hi276_4; have HC276_4:=Aside0.mk hl276_4; clear hi276_4 hl276_4; replace p276:=eq_true p276; replace q276:=eq_true q276; have hpt276 : ptrOf (.slice (some ad276) l0.length c0) = .pointer (some ad276):=ptrOf_pos _ _ _ (Qt)) | ((with_reducible refine gate_callee (f:=55) rfl ?_); refine goesL_ (some 10) rfl rfl Try.func55 (by kernel_rfl) rfl #[.slice A276_2 ((rd_T82 l0 0).f2).length c276_2] rfl (by (try simp only [List.map_toArray,List.map_cons,List.map_nil]); first | done | rfl | (simp only [*]; done) | (simp only [*]; rfl) | (simp only [List.length_drop,List.length_take]; rfl)) ?_; (with_reducible refine (suffix_told.calls _ _ ((rd_T82 l0 0).f2) t277 _ ?side1 ?side2 A5.out).mono ?_); (case side1=>repeat (first | exact HR276_2.out | (with_reducible first|refine Qd ?_ _|refine Qe ?_ _|refine Qf ?_))); (case side2=>exact HC276_2.out); rintro e w6 ⟨v278,rfl,ho0,hb⟩; refine ⟨_,rfl,?_⟩; have n0_:=Aside0.mk (Kd.R_lower ho0 (below_size (by repeat first|(with_reducible first|exact HB.out|apply Qg|apply Qh|apply Qi)|exact HB.out))); have n1_:=Aside0.mk (below_step (by repeat first|(with_reducible first|exact HB.out|apply Qg|apply Qh|apply Qi)|exact HB.out) hb); clear HB; have HO279:=n0_; have HB:=n1_; clear n0_ n1_; (try clear hb); (try clear hb2); (try clear hk); (try clear hi); (try clear ho0)))
   go_ret
   exact ⟨_,by first | rfl | (simp [errW_none,errW_some] <;> rfl) | (simp [*,errW_none,errW_some] <;> rfl),by (with_reducible repeat first|apply Qa|apply Qb|apply Qc); exact HO279.out,by repeat first|(with_reducible first|exact HB.out|apply Qg|apply Qh|apply Qi)|exact HB.out⟩
  ·rw [if_neg c4] at H
   exact absurd H (by simp)
 ·replace c3:=Bool.eq_false_iff.mpr c3
  subst c3
  have H1 : (some ([] : List Int)) = some r:=by rw [if_neg (show ¬ (false = true) by decide)] at H; exact H
  clear H
  have H:=H1
  clear H1
  obtain rfl:=Option.some.inj H
  go_enter Try.func21,Try.ntmps21
  go_wp2_with (first | ((with_reducible refine gate_callee (f:=54) rfl ?_); refine goesL_ (some 4) rfl rfl Try.func54 (by kernel_rfl) rfl #[ptrOf (.slice A0 l0.length c0)] rfl (by (try simp only [List.map_toArray,List.map_cons,List.map_nil]); first | done | rfl | (simp only [*]; done) | (simp only [*]; rfl) | (simp only [List.length_drop,List.length_take]; rfl)) ?_; (with_reducible refine (suffix_Index_is.calls _ _ l0 false _ ?side1 ?side2 A2.out).mono ?_); (case side1=>repeat (first | exact HR0.out | (with_reducible first|refine Qd ?_ _|refine Qe ?_ _|refine Qf ?_))); (case side2=>exact HC0.out); rintro e w' ⟨rfl,⟨nd,rfl⟩⟩; refine ⟨_,rfl,?_⟩))
  go_ret
  exact ⟨_,by first | rfl | (simp [errW_none,errW_some] <;> rfl) | (simp [*,errW_none,errW_some] <;> rfl),by first | exact Kd.R_nil _ _ _ _ _ | exact Kd.N_nil _ _ _ _ _ | exact Kd.V_nil _ _ _ _ _ | exact Kd.Q_nil _ _ _ _ _ | exact Kd.S_nil _ _ _ _ _,by repeat first|(with_reducible first|exact HB.out|apply Qg|apply Qh|apply Qi)|exact HB.out⟩

end Go.Proofs.Ythcnnfahlhklgaa.X
