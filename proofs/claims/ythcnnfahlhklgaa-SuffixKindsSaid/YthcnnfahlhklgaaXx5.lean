-- Printed by wip/xprint.py of this repo (a wrapper of the session's own round the print).
import Derived.Test.YthcnnfahlhklgaaXx0
import Derived.Test.YthcnnfahlhklgaaXBA
import Derived.Test.YthcnnfahlhklgaaXx3
import Derived.Test.YthcnnfahlhklgaaXx4
namespace Go.Proofs.Ythcnnfahlhklgaa.X
open Go.RowKit Go.Proofs.YthcnnfahlhklgaaW.PrintWords Go.Proofs.YthcnnfahlhklgaaW.PrintLast Go.Proofs.YthcnnfahlhklgaaW.PrintMore
attribute [local go_sem] ptrOf_eql ptrOf_neq ptrOf_eqg ptrOf_neg str_leq str_geq str_gtr max2_int min2_int max_two min_two max_three min_three max_four min_four   -- for this text's walks alone
set_option linter.unusedVariables false
set_option linter.unusedSimpArgs false

/-! ### sais_Lms: function 82 -/
def sais_Lms.l0 : Nat→List Int→List Bool→Int→Int→Option (List Int)
 | 0,_,_,_,_=>none
 | k + 1,x4,x7,x9,x10=>if x10 < x9 then ((sais_isTurn.f x7 x10).bind fun t118=>(if t118 = true then (if x4.length < 17592186044416 then (sais_Lms.l0 k (x4 ++ [x10]) x7 x9 (wrap64 (x10 + 1))) else (none)) else (sais_Lms.l0 k x4 x7 x9 (wrap64 (x10 + 1))))) else (some x4)
def sais_Lms.f (k : Nat) (l0 : List Int) : Option (List Int):=(sais_Types.f k l0).bind fun t115=>(sais_Lms.l0 k ([] : List Int) t115 (t115.length : Int) 0)
theorem sais_Lms.mono_l : ∀ k,(∀ y0 y1 y2 y3,LeO (sais_Lms.l0 k y0 y1 y2 y3) (sais_Lms.l0 (k + 1) y0 y1 y2 y3))
 | 0=>fun _ _ _ _ r h=>by simp [sais_Lms.l0] at h
 | k + 1=>by
  have ih0:=sais_Lms.mono_l k
  ·intro y0 y1 y2 y3
   unfold sais_Lms.l0
   repeat' first
   | (with_reducible exact ih0 _ _ _ _)
   | (with_reducible exact sais_Types.mono _ _)
   | (with_reducible exact LeO.refl _)
   | (with_reducible exact LeO.none _)
   | (with_reducible refine LeO.ite ?_ ?_)
   | (with_reducible refine LeO.bind ?_ (fun _=>?_))
   | exact ih0 _ _ _ _
   | exact sais_Types.mono _ _
   | exact LeO.none _
   | refine LeO.ite ?_ ?_
   | refine LeO.bind ?_ (fun _=>?_)
theorem sais_Lms.mono : ∀ a0 k,LeO (sais_Lms.f k a0) (sais_Lms.f (k + 1) a0):=by
 intro a0 k
 have ih0:=sais_Lms.mono_l k
 unfold sais_Lms.f
 repeat' first
   | (with_reducible exact ih0 _ _ _ _)
   | (with_reducible exact sais_Types.mono _ _)
   | (with_reducible exact LeO.refl _)
   | (with_reducible exact LeO.none _)
   | (with_reducible refine LeO.ite ?_ ?_)
   | (with_reducible refine LeO.bind ?_ (fun _=>?_))
   | exact ih0 _ _ _ _
   | exact sais_Types.mono _ _
   | exact LeO.none _
   | refine LeO.ite ?_ ?_
   | refine LeO.bind ?_ (fun _=>?_)
set_option maxHeartbeats 8000000 in
set_option maxRecDepth 100000 in
theorem sais_Lms.calls (k : Nat) (A0 : Option Addr) (c0 : Nat) (l0 : List Int) (r : List Int) (w : World) (hr0 : Kd.C (Kd.int .i64) w A0 l0.length l0) (hc0 : l0.length≤c0) (h : sais_Lms.f k l0 = some r) :
  Calls Try.prog 82 #[.slice A0 l0.length c0] w fun e w'=>∃ v0_ : Value,e = .returned (v0_)∧Kd.R (Kd.int .i64) 3 w' w.heap.size (fun _=>True) v0_ r∧Below w.heap.size w w':=by
 have HR0:=Aside0.mk hr0
 have HC0:=Aside0.mk hc0
 clear hr0 hc0
 have HB:=Aside0.mk (Below.refl w.heap.size w)
 have H : ((sais_Types.f k l0).bind fun t115=>(sais_Lms.l0 k ([] : List Int) t115 (t115.length : Int) 0)) = some r:=h
 clear h
 replace H:=Option.bind_eq_some_iff.mp H
 obtain ⟨t115,A20,H⟩:=H
 replace H : (sais_Lms.l0 k ([] : List Int) t115 (t115.length : Int) 0) = some r:=H
 have A2:=Aside0.mk A20
 clear A20
 have H':=Aside0.mk H
 clear H
 go_enter Try.func82,Try.ntmps82
 go_wp2_with (first | ((with_reducible refine gate_callee (f:=83) rfl ?_); refine goesL_ (some 7) rfl rfl Try.func83 (by kernel_rfl) rfl #[.slice A0 l0.length c0] rfl (by (try simp only [List.map_toArray,List.map_cons,List.map_nil]); first | done | rfl | (simp only [List.length_drop,List.length_take]; rfl)) ?_; (with_reducible refine (sais_Types.calls k _ _ l0 t115 _ ?side1 ?side2 A2.out).mono ?_); (case side1=>repeat (first | exact HR0.out | (with_reducible first|refine Qd ?_ _|refine Qe ?_ _|refine Qf ?_))); (case side2=>exact HC0.out); rintro e w3 ⟨v116,rfl,ho0,hb⟩; refine ⟨_,rfl,?_⟩; have n0_:=Aside0.mk (Kd.R_lower ho0 (below_size (by repeat first|(with_reducible first|exact HB.out|apply Qg|apply Qh|apply Qi)|exact HB.out))); have n1_:=Aside0.mk (below_step (by repeat first|(with_reducible first|exact HB.out|apply Qg|apply Qh|apply Qi)|exact HB.out) hb); clear HB; have HO117:=n0_; have HB:=n1_; clear n0_ n1_; (try clear hb); (try clear hb2); (try clear hk); (try clear hi); (try clear ho0); obtain ⟨Ao4,co4,eo4⟩:=Kd.R_slice HO117.out; subst eo4))
 go_loopg [4,10] k (fun kq v4 v10 w'=>∃ (x4_1 : List Int) (x10_1 : Int),v10 = .int .i64 x10_1∧Aside0 (sais_Lms.l0 kq x4_1 t115 (t115.length : Int) x10_1 = some r)∧Aside0 (kq≤k)∧Aside0 (Kd.R (Kd.int .i64) 3 w' w.heap.size (fun _=>True) v4 x4_1)∧Aside0 (Kd.R Kd.bool 4 w' w.heap.size (fun _=>True) (.slice Ao4 t115.length co4) t115)∧Aside0 (Below w.heap.size w w'))
 case atStart=>exact ⟨(([] : List Int)),(0),(by first | rfl | (simp; done) | (simp [*]; done)),H',⟨Nat.le_refl _⟩,⟨by first | exact Kd.R_nil _ _ _ _ _ | exact Kd.N_nil _ _ _ _ _ | exact Kd.V_nil _ _ _ _ _ | exact Kd.Q_nil _ _ _ _ _ | exact Kd.S_nil _ _ _ _ _⟩,⟨by (with_reducible repeat first|apply Qa|apply Qb|apply Qc); exact HO117.out⟩,⟨by repeat first|(with_reducible first|exact HB.out|apply Qg|apply Qh|apply Qi)|exact HB.out⟩⟩
 case round =>
  clear H'
  try clear p2
  obtain ⟨x4_1,x10_1,rfl,HA,HK1,HO_4,HO_7,HB⟩:=hrel
  cases gk with
  | zero=>exact absurd HA.out (by simp [sais_Lms.l0])
  | succ k1 =>
   have H:=HA.out
   clear HA
   simp only [sais_Lms.l0] at H
   by_cases c5 : x10_1 < (t115.length : Int)
   ·rw [if_pos c5] at H
    have c5b0 : decide (x10_1 < (t115.length : Int)) = true:=decide_eq_true c5
    clear c5
    replace H:=Option.bind_eq_some_iff.mp H
    obtain ⟨t118,A60,H⟩:=H
    replace H : (if t118 = true then (if x4_1.length < 17592186044416 then (sais_Lms.l0 k1 (x4_1 ++ [x10_1]) t115 (t115.length : Int) (wrap64 (x10_1 + 1))) else (none)) else (sais_Lms.l0 k1 x4_1 t115 (t115.length : Int) (wrap64 (x10_1 + 1)))) = some r:=H
    have A6:=Aside0.mk A60
    clear A60
    by_cases c7 : t118 = true
    ·subst c7
     have H1 : (if x4_1.length < 17592186044416 then (sais_Lms.l0 k1 (x4_1 ++ [x10_1]) t115 (t115.length : Int) (wrap64 (x10_1 + 1))) else (none)) = some r:=by rw [if_pos rfl] at H; exact H
     clear H
     have H:=H1
     clear H1
     by_cases c8 : x4_1.length < 17592186044416
     ·rw [if_pos c8] at H
      have LMc8:=Aside0.mk c8
      clear c8
      obtain ⟨y119,hy119⟩ : ∃ y_ : List Int,y_ = (x4_1 ++ [x10_1]):=⟨_,rfl⟩
      replace H : (sais_Lms.l0 k1 y119 t115 (t115.length : Int) (wrap64 (x10_1 + 1))) = some r:=by first | (rw [hy119]; with_reducible exact H) | (have H2_:=(Option.bind_some _ _).symm.trans H; rw [hy119]; with_reducible exact H2_) | (have H2_:=(Option.bind_some _ _).symm.trans H; with_reducible exact H2_) | with_reducible exact H | (rw [hy119]; exact H) | exact H
      have Ny119:=Aside0.mk hy119
      clear hy119
      have H':=Aside0.mk H
      clear H
      go_wp2_with (first | ((with_reducible refine gate_callee (f:=85) rfl ?_); refine goesL_ (some 15) rfl rfl Try.func85 (by kernel_rfl) rfl #[.slice Ao4 t115.length co4,.int .i64 x10_1] rfl (by (try simp only [List.map_toArray,List.map_cons,List.map_nil]); first | done | rfl | (simp only [List.length_drop,List.length_take]; rfl)) ?_; (with_reducible refine (sais_isTurn.calls _ _ t115 x10_1 true _ ?side1 ?side2 A6.out).mono ?_); (case side1=>repeat (first | exact (Kd.R_reads' HO_7.out).2.2 | (with_reducible first|refine Qd ?_ _|refine Qe ?_ _|refine Qf ?_))); (case side2=>exact (Kd.R_reads' HO_7.out).2.1); rintro e w' ⟨rfl,⟨nd,rfl⟩⟩; refine ⟨_,rfl,?_⟩) | ((with_reducible refine gate_builtin (b:=.append) (xs:=#[.tmp 16,.tmp 18]) rfl ?_); at_builtin; refine Kd.R_append (Kd.int .i64) (w0:=w) w.heap.size rfl (.tmp 16) (.tmp 18) 34 3 (.int .i64 0) 8 rfl Try.underlying34 info3 rfl (by decide) (by omega) u4 x4_1 x10_1 [.int .i64 x10_1] (fun _=>True) (fun _=>False) rfl rfl ?aP (fun _ hk=>hk.elim) ?aF ?aO ?aB ?aS ?aL ?_; (case aP=>exact rfl); (case aB=>exact (by repeat first|(with_reducible first|exact HB.out|apply Qg|apply Qh|apply Qi)|exact HB.out)); (case aF=>exact (fun _ _=>trivial)); (case aO=>exact (by (with_reducible repeat first|apply Qa|apply Qb|apply Qc); exact HO_4.out)); (case aS=>exact (below_size (by repeat first|(with_reducible first|exact HB.out|apply Qg|apply Qh|apply Qi)|exact HB.out))); (case aL=>have:=LMc8.out; omega); intro v120 w9 ho hb hg hat; rw [← Ny119.out] at ho; have n0_:=Aside0.mk (Kd.R_over' (by (with_reducible repeat first|apply Qa|apply Qb|apply Qc); exact HO_7.out) (Kd.R_typed (by (with_reducible repeat first|apply Qa|apply Qb|apply Qc); exact HO_4.out)) (by decide) hg); have n1_:=Aside0.mk (hb); have n2_:=Aside0.mk (ho); clear HO_7; clear HB; clear HO_4; have HO_7:=n0_; have HB:=n1_; have HO121:=n2_; clear n0_ n1_ n2_; clear ho hb hg hat))
      go_roundg k1
      case measure=>have:=HK1.out; omega
      case rel=>exact ⟨(y119),(wrap64 (x10_1 + 1)),(by first | rfl | (simp; done) | (simp [*]; done)),H',⟨by have:=HK1.out; omega⟩,⟨by (with_reducible repeat first|apply Qa|apply Qb|apply Qc); exact HO121.out⟩,⟨by (with_reducible repeat first|apply Qa|apply Qb|apply Qc); exact HO_7.out⟩,⟨by repeat first|(with_reducible first|exact HB.out|apply Qg|apply Qh|apply Qi)|exact HB.out⟩⟩
     ·rw [if_neg c8] at H
      exact absurd H (by simp)
    ·replace c7:=Bool.eq_false_iff.mpr c7
     subst c7
     have H1 : (sais_Lms.l0 k1 x4_1 t115 (t115.length : Int) (wrap64 (x10_1 + 1))) = some r:=by rw [if_neg (show ¬ (false = true) by decide)] at H; exact H
     clear H
     have H:=H1
     clear H1
     have H':=Aside0.mk H
     clear H
     go_wp2_with (first | ((with_reducible refine gate_callee (f:=85) rfl ?_); refine goesL_ (some 15) rfl rfl Try.func85 (by kernel_rfl) rfl #[.slice Ao4 t115.length co4,.int .i64 x10_1] rfl (by (try simp only [List.map_toArray,List.map_cons,List.map_nil]); first | done | rfl | (simp only [List.length_drop,List.length_take]; rfl)) ?_; (with_reducible refine (sais_isTurn.calls _ _ t115 x10_1 false _ ?side1 ?side2 A6.out).mono ?_); (case side1=>repeat (first | exact (Kd.R_reads' HO_7.out).2.2 | (with_reducible first|refine Qd ?_ _|refine Qe ?_ _|refine Qf ?_))); (case side2=>exact (Kd.R_reads' HO_7.out).2.1); rintro e w' ⟨rfl,⟨nd,rfl⟩⟩; refine ⟨_,rfl,?_⟩))
     go_roundg k1
     case measure=>have:=HK1.out; omega
     case rel=>exact ⟨(x4_1),(wrap64 (x10_1 + 1)),(by first | rfl | (simp; done) | (simp [*]; done)),H',⟨by have:=HK1.out; omega⟩,⟨by (with_reducible repeat first|apply Qa|apply Qb|apply Qc); exact HO_4.out⟩,⟨by (with_reducible repeat first|apply Qa|apply Qb|apply Qc); exact HO_7.out⟩,⟨by repeat first|(with_reducible first|exact HB.out|apply Qg|apply Qh|apply Qi)|exact HB.out⟩⟩
   ·rw [if_neg c5] at H
    have c5b0 : decide (x10_1 < (t115.length : Int)) = false:=decide_eq_false c5
    clear c5
    obtain rfl:=Option.some.inj H
    go_wp2
    go_ret
    exact ⟨_,by first | rfl | (simp [errW_none,errW_some] <;> rfl) | (simp [*,errW_none,errW_some] <;> rfl),by (with_reducible repeat first|apply Qa|apply Qb|apply Qc); exact HO_4.out,by repeat first|(with_reducible first|exact HB.out|apply Qg|apply Qh|apply Qi)|exact HB.out⟩

end Go.Proofs.Ythcnnfahlhklgaa.X
