-- Printed by wip/xprint.py of this repo (a wrapper of the session's own round the print).
import Derived.Test.YthcnnfahlhklgaaXx0
import Derived.Test.YthcnnfahlhklgaaXBA
namespace Go.Proofs.Ythcnnfahlhklgaa.X
open Go.RowKit Go.Proofs.YthcnnfahlhklgaaW.PrintWords Go.Proofs.YthcnnfahlhklgaaW.PrintLast Go.Proofs.YthcnnfahlhklgaaW.PrintMore
attribute [local go_sem] ptrOf_eql ptrOf_neq ptrOf_eqg ptrOf_neg str_leq str_geq str_gtr max2_int min2_int max_two min_two max_three min_three max_four min_four   -- for this text's walks alone
set_option linter.unusedVariables false
set_option linter.unusedSimpArgs false

/-! ### suffix_told: function 55 -/
def suffix_told.f (l0 : List Int) : Option (List Int):=if 0≤(l0.length : Int) then (if ((l0.length : Int) : Int).toNat≤35184372088832 then ((copy_i64.f (List.replicate ((l0.length : Int) : Int).toNat 0) l0).bind fun bt268=>(some bt268.2)) else (none)) else (none)
set_option maxHeartbeats 8000000 in
set_option maxRecDepth 100000 in
theorem suffix_told.calls (A0 : Option Addr) (c0 : Nat) (l0 : List Int) (r : List Int) (w : World) (hr0 : Kd.C (Kd.int .i64) w A0 l0.length l0) (hc0 : l0.length≤c0) (h : suffix_told.f l0 = some r) :
  Calls Try.prog 55 #[.slice A0 l0.length c0] w fun e w'=>∃ v0_ : Value,e = .returned (v0_)∧Kd.R (Kd.int .i64) 3 w' w.heap.size (fun _=>True) v0_ r∧Below w.heap.size w w':=by
 have HR0:=Aside0.mk hr0
 have HC0:=Aside0.mk hc0
 clear hr0 hc0
 have HB:=Aside0.mk (Below.refl w.heap.size w)
 have H : (if 0≤(l0.length : Int) then (if ((l0.length : Int) : Int).toNat≤35184372088832 then ((copy_i64.f (List.replicate ((l0.length : Int) : Int).toNat 0) l0).bind fun bt268=>(some bt268.2)) else (none)) else (none)) = some r:=h
 clear h
 by_cases c2 : 0≤(l0.length : Int)
 ·rw [if_pos c2] at H
  have c2b0:=eq_true c2
  have c2b1 : decide (0≤(l0.length : Int)) = true:=decide_eq_true c2
  clear c2
  by_cases c3 : ((l0.length : Int) : Int).toNat≤35184372088832
  ·rw [if_pos c3] at H
   have c3b0:=eq_true c3
   have c3b1 : decide (((l0.length : Int) : Int).toNat≤35184372088832) = true:=decide_eq_true c3
   clear c3
   obtain ⟨y265,hy265⟩ : ∃ y_ : List Int,y_ = (List.replicate ((l0.length : Int) : Int).toNat 0):=⟨_,rfl⟩
   replace H : ((copy_i64.f y265 l0).bind fun bt268=>(some bt268.2)) = some r:=by first | (rw [hy265]; with_reducible exact H) | (have H2_:=(Option.bind_some _ _).symm.trans H; rw [hy265]; with_reducible exact H2_) | (have H2_:=(Option.bind_some _ _).symm.trans H; with_reducible exact H2_) | with_reducible exact H | (rw [hy265]; exact H) | exact H
   have Ny265:=Aside0.mk hy265
   clear hy265
   replace H:=Option.bind_eq_some_iff.mp H
   obtain ⟨⟨t268,t269⟩,A40,H⟩:=H
   replace H : (some t269) = some r:=H
   have A4:=Aside0.mk A40
   clear A40
   obtain rfl:=Option.some.inj H
   go_enter Try.func55,Try.ntmps55
   go_wp2_with (first | ((with_reducible refine gate_dst (N:=6) rfl ?_); refine Kd.R_make (Kd.int .i64) _ 3 rfl (N:=6) rfl 34 _ _ rfl (l0.length : Int) rfl rfl Try.underlying34 (.int .i64 0) 8 info3 rfl (by decide) (by omega) 0 (ok:=fun _=>True) (okp:=fun _=>True) rfl (fun _ hk=>hk) trivial (Qt) (Nat.le_trans (Nat.mul_le_mul_right _ (Qt : (l0.length : Int).toNat≤35184372088832)) (by omega)) (Below.refl _ _) (Nat.le_refl _) ?_; intro v266 w5 ho6 hb hg_ hnew_; clear hg_ hnew_; (first | rw [← Ny265.out] at ho6 | (simp only [Int.reduceToNat] at ho6; rw [← Ny265.out] at ho6)); have n0_:=Aside0.mk (Kd.R_lower ho6 (below_size (by repeat first|(with_reducible first|exact HB.out|apply Qg|apply Qh|apply Qi)|exact HB.out))); have n1_:=Aside0.mk (below_step (by repeat first|(with_reducible first|exact HB.out|apply Qg|apply Qh|apply Qi)|exact HB.out) hb); clear HB; have HO267:=n0_; have HB:=n1_; clear n0_ n1_; clear hb ho6; obtain ⟨Ao7,co7,eo7⟩:=Kd.R_slice HO267.out; subst eo7) | ((with_reducible refine gate_builtin (b:=.copy) rfl ?_); refine goesCopy (some 9) rfl rfl rfl #[.slice Ao7 y265.length co7,.slice A0 l0.length c0] (by (try simp only [List.map_toArray,List.map_cons,List.map_nil]); first | done | rfl | (simp only [List.length_drop,List.length_take]; rfl)) ?_; (with_reducible refine (copy_i64.calls (fun k_=>some k_ = (.slice Ao7 y265.length co7 : Value).ownBlock) (.slice Ao7 y265.length co7) y265 _ _ l0 t268 t269 w _ ?side1 ?side2 ?side3 ?side4 A4.out).mono ?_); (case side1=>repeat first|(with_reducible first|exact HB.out|apply Qg|apply Qh|apply Qi)|exact HB.out); (case side2=>exact Kd.R_tight rfl HO267.out); (case side3=>exact Kd.C_kept_came (Kd.heap_int .i64) HR0.out (by repeat first|(with_reducible first|exact HB.out|apply Qg|apply Qh|apply Qi)|exact HB.out) (fun k_ hs_=>(fun e_=>Kd.R_base HO267.out k_ e_.symm) hs_)); (case side4=>exact HC0.out); rintro e w8 ⟨rfl,hy0,hb,hkp⟩; refine ⟨_,rfl,?_⟩; have n0_:=Aside0.mk (Kd.R_reok rfl hy0 (fun k_ e_=>HO267.out.1 k_ e_)); have n1_:=Aside0.mk (hb); clear HO267; clear HB; have HO267:=n0_; have HB:=n1_; clear n0_ n1_; (try clear hb); (try clear hkp); (try clear hy0)))
   go_ret
   exact ⟨_,by first | rfl | (simp [errW_none,errW_some] <;> rfl) | (simp [*,errW_none,errW_some] <;> rfl),by (with_reducible repeat first|apply Qa|apply Qb|apply Qc); exact HO267.out,by repeat first|(with_reducible first|exact HB.out|apply Qg|apply Qh|apply Qi)|exact HB.out⟩
  ·rw [if_neg c3] at H
   exact absurd H (by simp)
 ·rw [if_neg c2] at H
  exact absurd H (by simp)

end Go.Proofs.Ythcnnfahlhklgaa.X
