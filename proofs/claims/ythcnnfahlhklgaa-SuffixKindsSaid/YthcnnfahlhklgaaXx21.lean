-- Printed by wip/xprint.py of this repo (a wrapper of the session's own round the print).
import Derived.Test.YthcnnfahlhklgaaXx0
import Derived.Test.YthcnnfahlhklgaaXBA
import Derived.Test.YthcnnfahlhklgaaXx15
namespace Go.Proofs.Ythcnnfahlhklgaa.X
open Go.RowKit Go.Proofs.YthcnnfahlhklgaaW.PrintWords Go.Proofs.YthcnnfahlhklgaaW.PrintLast Go.Proofs.YthcnnfahlhklgaaW.PrintMore
attribute [local go_sem] ptrOf_eql ptrOf_neq ptrOf_eqg ptrOf_neg str_leq str_geq str_gtr max2_int min2_int max_two min_two max_three min_three max_four min_four   -- for this text's walks alone
set_option linter.unusedVariables false
set_option linter.unusedSimpArgs false

/-! ### suffix_Index_Kth: function 19 -/
def suffix_Index_Kth.l0 : Nat→List (S82)→Int→List Int→Int→Int→Option (List Int × Int)
 | 0,_,_,_,_,_=>none
 | k + 1,x0,x1,x18,x19,x20=>if x20 < x19 then (if 0≤x20 then (if x20 < (x18.length : Int) then (if 0 < (x0.length : Int) then (if x20 < (((rd_T82 x0 0).f4).length : Int) then (if x1 < (wrap64 ((wrap64 ((((rd_T82 x0 0).f1).length : Int) - (rd x18 x20))) - (rd ((rd_T82 x0 0).f4) x20))) then (if 0≤(wrap64 ((wrap64 ((rd ((rd_T82 x0 0).f4) x20) + 1)) + x1)) then (if (wrap64 ((wrap64 ((rd ((rd_T82 x0 0).f4) x20) + 1)) + x1) : Int).toNat≤281474976710656 then (if 0≤(rd x18 x20) then (if (rd x18 x20)≤(((rd_T82 x0 0).f1).length : Int) then ((copy_u8.f (List.replicate (wrap64 ((wrap64 ((rd ((rd_T82 x0 0).f4) x20) + 1)) + x1) : Int).toNat 0) (((rd_T82 x0 0).f1).drop ((rd x18 x20) : Int).toNat)).bind fun bt295=>(some (bt295.2,0))) else (none)) else (none)) else (none)) else (none)) else (suffix_Index_Kth.l0 k x0 (wrap64 (x1 - (wrap64 ((wrap64 ((((rd_T82 x0 0).f1).length : Int) - (rd x18 x20))) - (rd ((rd_T82 x0 0).f4) x20))))) x18 x19 (wrap64 (x20 + 1)))) else (none)) else (none)) else (none)) else (none)) else (some (([] : List Int),132))
def suffix_Index_Kth.f (k : Nat) (l0 : List (S82)) (a1 : Int) : Option (List Int × Int):=(suffix_Index_is.f l0).bind fun t282=>(if t282 = true then (if a1 < 0 then (some (([] : List Int),132)) else (if 0 < (l0.length : Int) then (suffix_Index_Kth.l0 k l0 a1 ((rd_T82 l0 0).f2) (((rd_T82 l0 0).f2).length : Int) 0) else (none))) else (some (([] : List Int),2)))
theorem suffix_Index_Kth.mono_l : ∀ k,(∀ y0 y1 y2 y3 y4,LeO (suffix_Index_Kth.l0 k y0 y1 y2 y3 y4) (suffix_Index_Kth.l0 (k + 1) y0 y1 y2 y3 y4))
 | 0=>fun _ _ _ _ _ r h=>by simp [suffix_Index_Kth.l0] at h
 | k + 1=>by
  have ih0:=suffix_Index_Kth.mono_l k
  ·intro y0 y1 y2 y3 y4
   unfold suffix_Index_Kth.l0
   repeat' first
   | (with_reducible exact ih0 _ _ _ _ _)
   | (with_reducible exact LeO.refl _)
   | (with_reducible exact LeO.none _)
   | (with_reducible refine LeO.ite ?_ ?_)
   | (with_reducible refine LeO.bind ?_ (fun _=>?_))
   | exact ih0 _ _ _ _ _
   | exact LeO.none _
   | refine LeO.ite ?_ ?_
   | refine LeO.bind ?_ (fun _=>?_)
theorem suffix_Index_Kth.mono : ∀ a0 a1 k,LeO (suffix_Index_Kth.f k a0 a1) (suffix_Index_Kth.f (k + 1) a0 a1):=by
 intro a0 a1 k
 have ih0:=suffix_Index_Kth.mono_l k
 unfold suffix_Index_Kth.f
 repeat' first
   | (with_reducible exact ih0 _ _ _ _ _)
   | (with_reducible exact LeO.refl _)
   | (with_reducible exact LeO.none _)
   | (with_reducible refine LeO.ite ?_ ?_)
   | (with_reducible refine LeO.bind ?_ (fun _=>?_))
   | exact ih0 _ _ _ _ _
   | exact LeO.none _
   | refine LeO.ite ?_ ?_
   | refine LeO.bind ?_ (fun _=>?_)
set_option maxHeartbeats 8000000 in
set_option maxRecDepth 100000 in
theorem suffix_Index_Kth.calls (k : Nat) (A0 : Option Addr) (c0 : Nat) (l0 : List (S82)) (a1 : Int) (r1 : List Int) (r2 : Int) (w : World) (hr0 : Kd.C k82 w A0 l0.length l0) (hc0 : l0.length≤c0) (h : suffix_Index_Kth.f k l0 a1 = some (r1,r2)) :
  Calls Try.prog 19 #[ptrOf (.slice A0 l0.length c0),.int .i64 a1] w fun e w'=>∃ v0_ : Value,e = .returned (.tuple #[v0_,.int .i64 r2])∧Kd.R (Kd.int .u8) 5 w' w.heap.size (fun _=>True) v0_ r1∧Below w.heap.size w w':=by
 have HR0:=Aside0.mk hr0
 have HC0:=Aside0.mk hc0
 clear hr0 hc0
 have HB:=Aside0.mk (Below.refl w.heap.size w)
 have H : ((suffix_Index_is.f l0).bind fun t282=>(if t282 = true then (if a1 < 0 then (some (([] : List Int),132)) else (if 0 < (l0.length : Int) then (suffix_Index_Kth.l0 k l0 a1 ((rd_T82 l0 0).f2) (((rd_T82 l0 0).f2).length : Int) 0) else (none))) else (some (([] : List Int),2)))) = some (r1,r2):=h
 clear h
 replace H:=Option.bind_eq_some_iff.mp H
 obtain ⟨t282,A30,H⟩:=H
 replace H : (if t282 = true then (if a1 < 0 then (some (([] : List Int),132)) else (if 0 < (l0.length : Int) then (suffix_Index_Kth.l0 k l0 a1 ((rd_T82 l0 0).f2) (((rd_T82 l0 0).f2).length : Int) 0) else (none))) else (some (([] : List Int),2))) = some (r1,r2):=H
 have A3:=Aside0.mk A30
 clear A30
 by_cases c4 : t282 = true
 ·subst c4
  have H1 : (if a1 < 0 then (some (([] : List Int),132)) else (if 0 < (l0.length : Int) then (suffix_Index_Kth.l0 k l0 a1 ((rd_T82 l0 0).f2) (((rd_T82 l0 0).f2).length : Int) 0) else (none))) = some (r1,r2):=by rw [if_pos rfl] at H; exact H
  clear H
  have H:=H1
  clear H1
  by_cases c5 : a1 < 0
  ·rw [if_pos c5] at H
   have c5b0 : decide (a1 < 0) = true:=decide_eq_true c5
   clear c5
   simp only [Option.some.injEq,Prod.mk.injEq] at H
   obtain ⟨rfl,rfl⟩:=H
   go_enter Try.func19,Try.ntmps19
   go_wp2_with (first | (go_at_call 54; (with_reducible refine (suffix_Index_is.calls _ _ l0 true _ ?side1 ?side2 A3.out).mono ?_); (case side1=>repeat (first | exact HR0.out | (with_reducible first|refine Qd ?_ _|refine Qe ?_ _|refine Qf ?_))); (case side2=>exact HC0.out); rintro e w' ⟨rfl,⟨nd,rfl⟩⟩; (try first | exact ⟨rfl,_,World.drewN_drewN _ _ _⟩ | exact ⟨rfl,_,Eq.trans (World.drewN_drewN _ _ _) (congrArg (World.drewN _) (Nat.add_assoc _ _ _))⟩)))
   go_ret2
   exact ⟨_,by first | rfl | (simp [errW_none,errW_some] <;> rfl) | (simp [*,errW_none,errW_some] <;> rfl),by first | exact Kd.R_nil _ _ _ _ _ | exact Kd.N_nil _ _ _ _ _ | exact Kd.V_nil _ _ _ _ _ | exact Kd.Q_nil _ _ _ _ _ | exact Kd.S_nil _ _ _ _ _,by repeat first|(with_reducible first|exact HB.out|apply Qg|apply Qh|apply Qi)|exact HB.out⟩
  ·rw [if_neg c5] at H
   have c5b0 : decide (a1 < 0) = false:=decide_eq_false c5
   clear c5
   by_cases c6 : 0 < (l0.length : Int)
   ·rw [if_pos c6] at H
    have c6b0 : decide (0 < (l0.length : Int)) = true:=decide_eq_true c6
    have c6b1 : decide (0 < l0.length) = true:=decide_eq_true (by omega)
    clear c6
    have H':=Aside0.mk H
    clear H
    go_enter Try.func19,Try.ntmps19
    go_wp2_with (first | (go_at_call 54; (try rw [← hpt283]); (with_reducible refine (suffix_Index_is.calls _ _ l0 true _ ?side1 ?side2 A3.out).mono ?_); (case side1=>repeat (first | exact HR0.out | (with_reducible first|refine Qd ?_ _|refine Qe ?_ _|refine Qf ?_))); (case side2=>exact HC0.out); rintro e w' ⟨rfl,⟨nd,rfl⟩⟩; (try first | exact ⟨rfl,_,World.drewN_drewN _ _ _⟩ | exact ⟨rfl,_,Eq.trans (World.drewN_drewN _ _ _) (congrArg (World.drewN _) (Nat.add_assoc _ _ _))⟩); have p283 : 0≤(0 : Int):=(by omega); have q283 : 0 < (l0.length : Int):=Qt; obtain ⟨ad283,A283_1,c283_1,A283_2,c283_2,A283_3,c283_3,A283_4,c283_4,e283,hx283_0,hx283_1,hx283_2,hx283_3,hx283_4,hl283_1,hi283_1,hl283_2,hi283_2,hl283_3,hi283_3,hl283_4,hi283_4⟩:=at_T82 HR0.out 0 p283 q283; cases e283; have qi283 : (0 < l0.length) = True:=eq_true (by omega); (try rw [show ((0 : Int)).toNat = 0 from rfl] at hx283_0); (try rw [show 0 * 5 = 0 from rfl] at hx283_0); (try rw [Addr.add_zero'] at hx283_0); (try rw [show ((0 : Int)).toNat = 0 from rfl] at hx283_1); (try rw [show 0 * 5 = 0 from rfl] at hx283_1); (try rw [Addr.add_zero'] at hx283_1); (try rw [show ((0 : Int)).toNat = 0 from rfl] at hx283_2); (try rw [show 0 * 5 = 0 from rfl] at hx283_2); (try rw [Addr.add_zero'] at hx283_2); (try rw [show ((0 : Int)).toNat = 0 from rfl] at hx283_3); (try rw [show 0 * 5 = 0 from rfl] at hx283_3); (try rw [Addr.add_zero'] at hx283_3); (try rw [show ((0 : Int)).toNat = 0 from rfl] at hx283_4); (try rw [show 0 * 5 = 0 from rfl] at hx283_4); (try rw [Addr.add_zero'] at hx283_4); have HR283_1:=Aside0.mk hi283_1; have HC283_1:=Aside0.mk hl283_1; clear hi283_1 hl283_1; have HR283_2:=Aside0.mk hi283_2; have HC283_2:=Aside0.mk hl283_2; clear hi283_2 hl283_2; have HR283_3:=Aside0.mk hi283_3; have HC283_3:=Aside0.mk hl283_3; clear hi283_3 hl283_3; have HR283_4:=Aside0.mk hi283_4; have HC283_4:=Aside0.mk hl283_4; clear hi283_4 hl283_4; replace p283:=eq_true p283; replace q283:=eq_true q283; have hpt283 : ptrOf (.slice (some ad283) l0.length c0) = .pointer (some ad283):=ptrOf_pos _ _ _ (Qt)))
    (try rw [hpt283])
    go_loopg [1,20] k (fun kq v1 v20 w'=>∃ (x1_1 : Int) (x20_1 : Int),v1 = .int .i64 x1_1∧v20 = .int .i64 x20_1∧Aside0 (suffix_Index_Kth.l0 kq l0 x1_1 ((rd_T82 l0 0).f2) (((rd_T82 l0 0).f2).length : Int) x20_1 = some (r1,r2))∧Aside0 (kq≤k)∧Aside0 (Below w.heap.size w w'))
    case atStart=>exact ⟨(a1),(0),(by first | rfl | (simp; done) | (simp [*]; done)),(by first | rfl | (simp; done) | (simp [*]; done)),H',⟨Nat.le_refl _⟩,⟨by repeat first|(with_reducible first|exact HB.out|apply Qg|apply Qh|apply Qi)|exact HB.out⟩⟩
    case round =>
     clear H'
     try clear c1
     try clear c2
     try clear p2
     try clear q2
     try clear hx2
     try clear qi2
     try clear c4
     try clear c5
     try clear c5b0
     try clear c6
     try clear c6b0
     try clear c6b1
     try clear hx283_0
     try clear hx283_1
     try clear hx283_2
     try clear hx283_3
     try clear hx283_4
     try clear p283
     try clear q283
     obtain ⟨x1_1,x20_1,rfl,rfl,HA,HK1,HB⟩:=hrel
     cases gk with
     | zero=>exact absurd HA.out (by simp [suffix_Index_Kth.l0])
     | succ k1 =>
      have H:=HA.out
      clear HA
      simp only [suffix_Index_Kth.l0] at H
      by_cases c7 : x20_1 < (((rd_T82 l0 0).f2).length : Int)
      ·rw [if_pos c7] at H
       have c7b0 : decide (x20_1 < (((rd_T82 l0 0).f2).length : Int)) = true:=decide_eq_true c7
       clear c7
       by_cases c8 : 0≤x20_1
       ·rw [if_pos c8] at H
        have c8b0 : decide (0≤x20_1) = true:=decide_eq_true c8
        clear c8
        by_cases c9 : x20_1 < (((rd_T82 l0 0).f2).length : Int)
        ·rw [if_pos c9] at H
         have c9b0 : decide (x20_1 < (((rd_T82 l0 0).f2).length : Int)) = true:=decide_eq_true c9
         clear c9
         by_cases c10 : 0 < (l0.length : Int)
         ·rw [if_pos c10] at H
          have c10b0 : decide (0 < (l0.length : Int)) = true:=decide_eq_true c10
          have c10b1 : decide (0 < l0.length) = true:=decide_eq_true (by omega)
          clear c10
          by_cases c11 : x20_1 < (((rd_T82 l0 0).f4).length : Int)
          ·rw [if_pos c11] at H
           have c11b0 : decide (x20_1 < (((rd_T82 l0 0).f4).length : Int)) = true:=decide_eq_true c11
           clear c11
           by_cases c12 : x1_1 < (wrap64 ((wrap64 ((((rd_T82 l0 0).f1).length : Int) - (rd ((rd_T82 l0 0).f2) x20_1))) - (rd ((rd_T82 l0 0).f4) x20_1)))
           ·rw [if_pos c12] at H
            have c12b0 : decide (x1_1 < (wrap64 ((wrap64 ((((rd_T82 l0 0).f1).length : Int) - (rd ((rd_T82 l0 0).f2) x20_1))) - (rd ((rd_T82 l0 0).f4) x20_1)))) = true:=decide_eq_true c12
            clear c12
            obtain ⟨ji13,hji13⟩ : ∃ j_ : Int,(wrap64 ((wrap64 ((rd ((rd_T82 l0 0).f4) x20_1) + 1)) + x1_1)) = j_:=⟨_,rfl⟩
            replace H : (if 0≤(ji13) then (if (ji13 : Int).toNat≤281474976710656 then (if 0≤(rd ((rd_T82 l0 0).f2) x20_1) then (if (rd ((rd_T82 l0 0).f2) x20_1)≤(((rd_T82 l0 0).f1).length : Int) then ((copy_u8.f (List.replicate (ji13 : Int).toNat 0) (((rd_T82 l0 0).f1).drop ((rd ((rd_T82 l0 0).f2) x20_1) : Int).toNat)).bind fun bt295=>(some (bt295.2,0))) else (none)) else (none)) else (none)) else (none)) = some (r1,r2):=by first | (rw [hji13] at H; exact H) | (simp only [hji13] at H ⊢; exact H)
            have hji13w : (IntKind.i64.wrap ((wrap64 ((rd ((rd_T82 l0 0).f4) x20_1) + 1)) + x1_1)) = ji13:=(i64_w _).trans hji13
            by_cases c14 : 0≤(ji13)
            ·rw [if_pos c14] at H
             have c14b0:=eq_true c14
             have c14b1 : decide (0≤(ji13)) = true:=decide_eq_true c14
             clear c14
             by_cases c15 : (ji13 : Int).toNat≤281474976710656
             ·rw [if_pos c15] at H
              have c15b0:=eq_true c15
              have c15b1 : decide ((ji13 : Int).toNat≤281474976710656) = true:=decide_eq_true c15
              clear c15
              obtain ⟨y290,hy290⟩ : ∃ y_ : List Int,y_ = (List.replicate (ji13 : Int).toNat 0):=⟨_,rfl⟩
              replace H : (if 0≤(rd ((rd_T82 l0 0).f2) x20_1) then (if (rd ((rd_T82 l0 0).f2) x20_1)≤(((rd_T82 l0 0).f1).length : Int) then ((copy_u8.f y290 (((rd_T82 l0 0).f1).drop ((rd ((rd_T82 l0 0).f2) x20_1) : Int).toNat)).bind fun bt295=>(some (bt295.2,0))) else (none)) else (none)) = some (r1,r2):=by first | (rw [hy290]; with_reducible exact H) | (have H2_:=(Option.bind_some _ _).symm.trans H; rw [hy290]; with_reducible exact H2_) | (have H2_:=(Option.bind_some _ _).symm.trans H; with_reducible exact H2_) | with_reducible exact H | (rw [hy290]; exact H) | exact H
              have Ny290:=Aside0.mk hy290
              clear hy290
              by_cases c16 : 0≤(rd ((rd_T82 l0 0).f2) x20_1)
              ·rw [if_pos c16] at H
               have c16b0:=eq_true c16
               have c16b1 : decide (0≤(rd ((rd_T82 l0 0).f2) x20_1)) = true:=decide_eq_true c16
               clear c16
               by_cases c17 : (rd ((rd_T82 l0 0).f2) x20_1)≤(((rd_T82 l0 0).f1).length : Int)
               ·rw [if_pos c17] at H
                have c17b0:=eq_true c17
                have c17b1 : decide ((rd ((rd_T82 l0 0).f2) x20_1)≤(((rd_T82 l0 0).f1).length : Int)) = true:=decide_eq_true c17
                clear c17
                replace H:=Option.bind_eq_some_iff.mp H
                obtain ⟨⟨t295,t296⟩,A180,H⟩:=H
                replace H : (some (t296,0)) = some (r1,r2):=H
                have A18:=Aside0.mk A180
                clear A180
                simp only [Option.some.injEq,Prod.mk.injEq] at H
                obtain ⟨rfl,rfl⟩:=H
                have p284 : 0≤(x20_1 : Int):=Qt
                have q284 : x20_1 < (((rd_T82 l0 0).f2).length : Int):=Qt
                obtain ⟨ad284,e284,hx284_0⟩:=Kd.at_int HR283_2.out x20_1 p284 q284
                cases e284
                replace hx284_0:=(HB.out.cell (World.block_lt_of_cell? w _ hx284_0)).trans hx284_0
                replace p284:=eq_true p284
                replace q284:=eq_true q284
                have p285 : 0≤(0 : Int):=(by omega)
                have q285 : 0 < (l0.length : Int):=Qt
                obtain ⟨ad285,A285_1,c285_1,A285_2,c285_2,A285_3,c285_3,A285_4,c285_4,e285,hx285_0,hx285_1,hx285_2,hx285_3,hx285_4,hl285_1,hi285_1,hl285_2,hi285_2,hl285_3,hi285_3,hl285_4,hi285_4⟩:=at_T82 HR0.out 0 p285 q285
                obtain rfl : ad283 = ad285:=(by injection e285)
                have qi285 : (0 < l0.length) = True:=eq_true (by omega)
                (try rw [show ((0 : Int)).toNat = 0 from rfl] at hx285_0)
                (try rw [show 0 * 5 = 0 from rfl] at hx285_0)
                (try rw [Addr.add_zero'] at hx285_0)
                (try rw [show ((0 : Int)).toNat = 0 from rfl] at hx285_1)
                (try rw [show 0 * 5 = 0 from rfl] at hx285_1)
                (try rw [Addr.add_zero'] at hx285_1)
                (try rw [show ((0 : Int)).toNat = 0 from rfl] at hx285_2)
                (try rw [show 0 * 5 = 0 from rfl] at hx285_2)
                (try rw [Addr.add_zero'] at hx285_2)
                (try rw [show ((0 : Int)).toNat = 0 from rfl] at hx285_3)
                (try rw [show 0 * 5 = 0 from rfl] at hx285_3)
                (try rw [Addr.add_zero'] at hx285_3)
                (try rw [show ((0 : Int)).toNat = 0 from rfl] at hx285_4)
                (try rw [show 0 * 5 = 0 from rfl] at hx285_4)
                (try rw [Addr.add_zero'] at hx285_4)
                replace hx285_0:=(HB.out.cell (World.block_lt_of_cell? w _ hx285_0)).trans hx285_0
                replace hx285_1:=(HB.out.cell (World.block_lt_of_cell? w _ hx285_1)).trans hx285_1
                replace hx285_2:=(HB.out.cell (World.block_lt_of_cell? w _ hx285_2)).trans hx285_2
                replace hx285_3:=(HB.out.cell (World.block_lt_of_cell? w _ hx285_3)).trans hx285_3
                replace hx285_4:=(HB.out.cell (World.block_lt_of_cell? w _ hx285_4)).trans hx285_4
                have HR285_1:=Aside0.mk hi285_1
                have HC285_1:=Aside0.mk hl285_1
                clear hi285_1 hl285_1
                have HR285_2:=Aside0.mk hi285_2
                have HC285_2:=Aside0.mk hl285_2
                clear hi285_2 hl285_2
                have HR285_3:=Aside0.mk hi285_3
                have HC285_3:=Aside0.mk hl285_3
                clear hi285_3 hl285_3
                have HR285_4:=Aside0.mk hi285_4
                have HC285_4:=Aside0.mk hl285_4
                clear hi285_4 hl285_4
                replace p285:=eq_true p285
                replace q285:=eq_true q285
                have hpt285 : ptrOf (.slice (some ad283) l0.length c0) = .pointer (some ad283):=ptrOf_pos _ _ _ (Qt)
                have p286 : 0≤(0 : Int):=(by omega)
                have q286 : 0 < (l0.length : Int):=Qt
                obtain ⟨ad286,A286_1,c286_1,A286_2,c286_2,A286_3,c286_3,A286_4,c286_4,e286,hx286_0,hx286_1,hx286_2,hx286_3,hx286_4,hl286_1,hi286_1,hl286_2,hi286_2,hl286_3,hi286_3,hl286_4,hi286_4⟩:=at_T82 HR0.out 0 p286 q286
                obtain rfl : ad283 = ad286:=(by injection e286)
                have qi286 : (0 < l0.length) = True:=eq_true (by omega)
                (try rw [show ((0 : Int)).toNat = 0 from rfl] at hx286_0)
                (try rw [show 0 * 5 = 0 from rfl] at hx286_0)
                (try rw [Addr.add_zero'] at hx286_0)
                (try rw [show ((0 : Int)).toNat = 0 from rfl] at hx286_1)
                (try rw [show 0 * 5 = 0 from rfl] at hx286_1)
                (try rw [Addr.add_zero'] at hx286_1)
                (try rw [show ((0 : Int)).toNat = 0 from rfl] at hx286_2)
                (try rw [show 0 * 5 = 0 from rfl] at hx286_2)
                (try rw [Addr.add_zero'] at hx286_2)
                (try rw [show ((0 : Int)).toNat = 0 from rfl] at hx286_3)
                (try rw [show 0 * 5 = 0 from rfl] at hx286_3)
                (try rw [Addr.add_zero'] at hx286_3)
                (try rw [show ((0 : Int)).toNat = 0 from rfl] at hx286_4)
                (try rw [show 0 * 5 = 0 from rfl] at hx286_4)
                (try rw [Addr.add_zero'] at hx286_4)
                replace hx286_0:=(HB.out.cell (World.block_lt_of_cell? w _ hx286_0)).trans hx286_0
                replace hx286_1:=(HB.out.cell (World.block_lt_of_cell? w _ hx286_1)).trans hx286_1
                replace hx286_2:=(HB.out.cell (World.block_lt_of_cell? w _ hx286_2)).trans hx286_2
                replace hx286_3:=(HB.out.cell (World.block_lt_of_cell? w _ hx286_3)).trans hx286_3
                replace hx286_4:=(HB.out.cell (World.block_lt_of_cell? w _ hx286_4)).trans hx286_4
                have HR286_1:=Aside0.mk hi286_1
                have HC286_1:=Aside0.mk hl286_1
                clear hi286_1 hl286_1
                have HR286_2:=Aside0.mk hi286_2
                have HC286_2:=Aside0.mk hl286_2
                clear hi286_2 hl286_2
                have HR286_3:=Aside0.mk hi286_3
                have HC286_3:=Aside0.mk hl286_3
                clear hi286_3 hl286_3
                have HR286_4:=Aside0.mk hi286_4
                have HC286_4:=Aside0.mk hl286_4
                clear hi286_4 hl286_4
                replace p286:=eq_true p286
                replace q286:=eq_true q286
                have ea_:=Option.some.inj (hx285_1.symm.trans hx286_1)
                injection ea_ with ea_ en_ ec_
                subst ea_
                subst ec_
                clear en_
                have ea_:=Option.some.inj (hx285_2.symm.trans hx286_2)
                injection ea_ with ea_ en_ ec_
                subst ea_
                subst ec_
                clear en_
                have ea_:=Option.some.inj (hx285_3.symm.trans hx286_3)
                injection ea_ with ea_ en_ ec_
                subst ea_
                subst ec_
                clear en_
                have ea_:=Option.some.inj (hx285_4.symm.trans hx286_4)
                injection ea_ with ea_ en_ ec_
                subst ea_
                subst ec_
                clear en_
                have hpt286 : ptrOf (.slice (some ad283) l0.length c0) = .pointer (some ad283):=ptrOf_pos _ _ _ (Qt)
                have p287 : 0≤(x20_1 : Int):=Qt
                have q287 : x20_1 < (((rd_T82 l0 0).f4).length : Int):=Qt
                obtain ⟨ad287,e287,hx287_0⟩:=Kd.at_int HR286_4.out x20_1 p287 q287
                cases e287
                replace hx287_0:=(HB.out.cell (World.block_lt_of_cell? w _ hx287_0)).trans hx287_0
                replace p287:=eq_true p287
                replace q287:=eq_true q287
                have p288 : 0≤(0 : Int):=(by omega)
                have q288 : 0 < (l0.length : Int):=Qt
                obtain ⟨ad288,A288_1,c288_1,A288_2,c288_2,A288_3,c288_3,A288_4,c288_4,e288,hx288_0,hx288_1,hx288_2,hx288_3,hx288_4,hl288_1,hi288_1,hl288_2,hi288_2,hl288_3,hi288_3,hl288_4,hi288_4⟩:=at_T82 HR0.out 0 p288 q288
                obtain rfl : ad283 = ad288:=(by injection e288)
                have qi288 : (0 < l0.length) = True:=eq_true (by omega)
                (try rw [show ((0 : Int)).toNat = 0 from rfl] at hx288_0)
                (try rw [show 0 * 5 = 0 from rfl] at hx288_0)
                (try rw [Addr.add_zero'] at hx288_0)
                (try rw [show ((0 : Int)).toNat = 0 from rfl] at hx288_1)
                (try rw [show 0 * 5 = 0 from rfl] at hx288_1)
                (try rw [Addr.add_zero'] at hx288_1)
                (try rw [show ((0 : Int)).toNat = 0 from rfl] at hx288_2)
                (try rw [show 0 * 5 = 0 from rfl] at hx288_2)
                (try rw [Addr.add_zero'] at hx288_2)
                (try rw [show ((0 : Int)).toNat = 0 from rfl] at hx288_3)
                (try rw [show 0 * 5 = 0 from rfl] at hx288_3)
                (try rw [Addr.add_zero'] at hx288_3)
                (try rw [show ((0 : Int)).toNat = 0 from rfl] at hx288_4)
                (try rw [show 0 * 5 = 0 from rfl] at hx288_4)
                (try rw [Addr.add_zero'] at hx288_4)
                replace hx288_0:=(HB.out.cell (World.block_lt_of_cell? w _ hx288_0)).trans hx288_0
                replace hx288_1:=(HB.out.cell (World.block_lt_of_cell? w _ hx288_1)).trans hx288_1
                replace hx288_2:=(HB.out.cell (World.block_lt_of_cell? w _ hx288_2)).trans hx288_2
                replace hx288_3:=(HB.out.cell (World.block_lt_of_cell? w _ hx288_3)).trans hx288_3
                replace hx288_4:=(HB.out.cell (World.block_lt_of_cell? w _ hx288_4)).trans hx288_4
                have HR288_1:=Aside0.mk hi288_1
                have HC288_1:=Aside0.mk hl288_1
                clear hi288_1 hl288_1
                have HR288_2:=Aside0.mk hi288_2
                have HC288_2:=Aside0.mk hl288_2
                clear hi288_2 hl288_2
                have HR288_3:=Aside0.mk hi288_3
                have HC288_3:=Aside0.mk hl288_3
                clear hi288_3 hl288_3
                have HR288_4:=Aside0.mk hi288_4
                have HC288_4:=Aside0.mk hl288_4
                clear hi288_4 hl288_4
                replace p288:=eq_true p288
                replace q288:=eq_true q288
                have ea_:=Option.some.inj (hx285_1.symm.trans hx288_1)
                injection ea_ with ea_ en_ ec_
                subst ea_
                subst ec_
                clear en_
                have ea_:=Option.some.inj (hx285_2.symm.trans hx288_2)
                injection ea_ with ea_ en_ ec_
                subst ea_
                subst ec_
                clear en_
                have ea_:=Option.some.inj (hx285_3.symm.trans hx288_3)
                injection ea_ with ea_ en_ ec_
                subst ea_
                subst ec_
                clear en_
                have ea_:=Option.some.inj (hx285_4.symm.trans hx288_4)
                injection ea_ with ea_ en_ ec_
                subst ea_
                subst ec_
                clear en_
                have hpt288 : ptrOf (.slice (some ad283) l0.length c0) = .pointer (some ad283):=ptrOf_pos _ _ _ (Qt)
                have p289 : 0≤(x20_1 : Int):=Qt
                have q289 : x20_1 < (((rd_T82 l0 0).f4).length : Int):=Qt
                obtain ⟨ad289,e289,hx289_0⟩:=Kd.at_int HR288_4.out x20_1 p289 q289
                cases e289
                replace hx289_0:=(HB.out.cell (World.block_lt_of_cell? w _ hx289_0)).trans hx289_0
                replace p289:=eq_true p289
                replace q289:=eq_true q289
                go_wp2_with (first | ((with_reducible refine gate_dst (N:=53) rfl ?_); refine Kd.R_make (Kd.int .u8) _ 5 rfl (N:=53) rfl 23 _ _ rfl ji13 rfl rfl Try.underlying23 (.int .u8 0) 1 info5 rfl (by decide) (by omega) 0 (ok:=fun _=>True) (okp:=fun _=>True) rfl (fun _ hk=>hk) trivial (Qt) (Nat.le_trans (Nat.mul_le_mul_right _ (Qt : ji13.toNat≤281474976710656)) (by omega)) (Below.refl _ _) (Nat.le_refl _) ?_; intro v291 w19 ho20 hb hg_ hnew_; clear hg_ hnew_; (first | rw [← Ny290.out] at ho20 | (simp only [Int.reduceToNat] at ho20; rw [← Ny290.out] at ho20)); have n0_:=Aside0.mk (Kd.R_lower ho20 (below_size (by repeat first|(with_reducible first|exact HB.out|apply Qg|apply Qh|apply Qi)|exact HB.out))); have n1_:=Aside0.mk (below_step (by repeat first|(with_reducible first|exact HB.out|apply Qg|apply Qh|apply Qi)|exact HB.out) hb); clear HB; have HO292:=n0_; have HB:=n1_; clear n0_ n1_; clear hb ho20; have p293 : 0≤(0 : Int):=(by omega); have q293 : 0 < (l0.length : Int):=Qt; obtain ⟨ad293,A293_1,c293_1,A293_2,c293_2,A293_3,c293_3,A293_4,c293_4,e293,hx293_0,hx293_1,hx293_2,hx293_3,hx293_4,hl293_1,hi293_1,hl293_2,hi293_2,hl293_3,hi293_3,hl293_4,hi293_4⟩:=at_T82 HR0.out 0 p293 q293; obtain rfl : ad283 = ad293:=(by injection e293); have qi293 : (0 < l0.length) = True:=eq_true (by omega); (try rw [show ((0 : Int)).toNat = 0 from rfl] at hx293_0); (try rw [show 0 * 5 = 0 from rfl] at hx293_0); (try rw [Addr.add_zero'] at hx293_0); (try rw [show ((0 : Int)).toNat = 0 from rfl] at hx293_1); (try rw [show 0 * 5 = 0 from rfl] at hx293_1); (try rw [Addr.add_zero'] at hx293_1); (try rw [show ((0 : Int)).toNat = 0 from rfl] at hx293_2); (try rw [show 0 * 5 = 0 from rfl] at hx293_2); (try rw [Addr.add_zero'] at hx293_2); (try rw [show ((0 : Int)).toNat = 0 from rfl] at hx293_3); (try rw [show 0 * 5 = 0 from rfl] at hx293_3); (try rw [Addr.add_zero'] at hx293_3); (try rw [show ((0 : Int)).toNat = 0 from rfl] at hx293_4); (try rw [show 0 * 5 = 0 from rfl] at hx293_4); (try rw [Addr.add_zero'] at hx293_4); replace hx293_0:=(HB.out.cell (World.block_lt_of_cell? w _ hx293_0)).trans hx293_0; replace hx293_1:=(HB.out.cell (World.block_lt_of_cell? w _ hx293_1)).trans hx293_1; replace hx293_2:=(HB.out.cell (World.block_lt_of_cell? w _ hx293_2)).trans hx293_2; replace hx293_3:=(HB.out.cell (World.block_lt_of_cell? w _ hx293_3)).trans hx293_3; replace hx293_4:=(HB.out.cell (World.block_lt_of_cell? w _ hx293_4)).trans hx293_4; have HR293_1:=Aside0.mk hi293_1; have HC293_1:=Aside0.mk hl293_1; clear hi293_1 hl293_1; have HR293_2:=Aside0.mk hi293_2; have HC293_2:=Aside0.mk hl293_2; clear hi293_2 hl293_2; have HR293_3:=Aside0.mk hi293_3; have HC293_3:=Aside0.mk hl293_3; clear hi293_3 hl293_3; have HR293_4:=Aside0.mk hi293_4; have HC293_4:=Aside0.mk hl293_4; clear hi293_4 hl293_4; replace p293:=eq_true p293; replace q293:=eq_true q293; have hpt293 : ptrOf (.slice (some ad283) l0.length c0) = .pointer (some ad283):=ptrOf_pos _ _ _ (Qt); obtain ⟨i021,hi021,_,hsz21,_⟩:=info_parts info5; obtain ⟨A21,hcut21,hA21,hC21⟩:=print_drop_of (P:=Try.prog) (Value.int .u8) 0 23 5 .i64 Try.underlying23 hi021 hsz21 A293_1 c293_1 ((rd_T82 l0 0).f1) (rd ((rd_T82 l0 0).f2) x20_1) (Qt) (Qt) HC293_1.out; have HR294:=Aside0.mk (Kd.C_of_reads (h1:=fun _=>rfl) (hA21 _ (Kd.reads_of_C HR293_1.out))); have HC294:=Aside0.mk hC21; clear hA21 hC21 hi021 hsz21; obtain ⟨Ao22,co22,eo22⟩:=Kd.R_slice HO292.out; subst eo22) | ((with_reducible refine gate_builtin (b:=.copy) rfl ?_); refine goesCopy (some 61) rfl rfl rfl #[.slice Ao22 y290.length co22,.slice A21 (((rd_T82 l0 0).f1).drop ((rd ((rd_T82 l0 0).f2) x20_1) : Int).toNat).length (c293_1 - (rd ((rd_T82 l0 0).f2) x20_1).toNat)] (by (try simp only [List.map_toArray,List.map_cons,List.map_nil]); first | done | (rw [show (((rd_T82 l0 0).f1).drop ((rd ((rd_T82 l0 0).f2) x20_1) : Int).toNat).length = (((rd_T82 l0 0).f1).length - (rd ((rd_T82 l0 0).f2) x20_1).toNat) from List.length_drop] <;> rfl) | rfl | (simp only [List.length_drop,List.length_take]; rfl)) ?_; (with_reducible refine (copy_u8.calls (fun k_=>some k_ = (.slice Ao22 y290.length co22 : Value).ownBlock) (.slice Ao22 y290.length co22) y290 _ _ (((rd_T82 l0 0).f1).drop ((rd ((rd_T82 l0 0).f2) x20_1) : Int).toNat) t295 t296 w _ ?side1 ?side2 ?side3 ?side4 A18.out).mono ?_); (case side1=>repeat first|(with_reducible first|exact HB.out|apply Qg|apply Qh|apply Qi)|exact HB.out); (case side2=>exact Kd.R_tight rfl HO292.out); (case side3=>exact Kd.C_kept_came (Kd.heap_int .u8) HR294.out (by repeat first|(with_reducible first|exact HB.out|apply Qg|apply Qh|apply Qi)|exact HB.out) (fun k_ hs_=>(fun e_=>Kd.R_base HO292.out k_ e_.symm) hs_)); (case side4=>exact HC294.out); rintro e w23 ⟨rfl,hy0,hb,hkp⟩; refine ⟨_,rfl,?_⟩; have n0_:=Aside0.mk (Kd.R_reok rfl hy0 (fun k_ e_=>HO292.out.1 k_ e_)); have n1_:=Aside0.mk (hb); clear HO292; clear HB; have HO292:=n0_; have HB:=n1_; clear n0_ n1_; (try clear hb); (try clear hkp); (try clear hy0)))
                repeat (go_quiet (first | ((with_reducible refine gate_dst (N:=53) rfl ?_); refine Kd.R_make (Kd.int .u8) _ 5 rfl (N:=53) rfl 23 _ _ rfl ji13 rfl rfl Try.underlying23 (.int .u8 0) 1 info5 rfl (by decide) (by omega) 0 (ok:=fun _=>True) (okp:=fun _=>True) rfl (fun _ hk=>hk) trivial (Qt) (Nat.le_trans (Nat.mul_le_mul_right _ (Qt : ji13.toNat≤281474976710656)) (by omega)) (Below.refl _ _) (Nat.le_refl _) ?_; intro v291 w19 ho20 hb hg_ hnew_; clear hg_ hnew_; (first | rw [← Ny290.out] at ho20 | (simp only [Int.reduceToNat] at ho20; rw [← Ny290.out] at ho20)); have n0_:=Aside0.mk (Kd.R_lower ho20 (below_size (by repeat first|(with_reducible first|exact HB.out|apply Qg|apply Qh|apply Qi)|exact HB.out))); have n1_:=Aside0.mk (below_step (by repeat first|(with_reducible first|exact HB.out|apply Qg|apply Qh|apply Qi)|exact HB.out) hb); clear HB; have HO292:=n0_; have HB:=n1_; clear n0_ n1_; clear hb ho20; have p293 : 0≤(0 : Int):=(by omega); have q293 : 0 < (l0.length : Int):=Qt; obtain ⟨ad293,A293_1,c293_1,A293_2,c293_2,A293_3,c293_3,A293_4,c293_4,e293,hx293_0,hx293_1,hx293_2,hx293_3,hx293_4,hl293_1,hi293_1,hl293_2,hi293_2,hl293_3,hi293_3,hl293_4,hi293_4⟩:=at_T82 HR0.out 0 p293 q293; obtain rfl : ad283 = ad293:=(by injection e293); have qi293 : (0 < l0.length) = True:=eq_true (by omega); (try rw [show ((0 : Int)).toNat = 0 from rfl] at hx293_0); (try rw [show 0 * 5 = 0 from rfl] at hx293_0); (try rw [Addr.add_zero'] at hx293_0); (try rw [show ((0 : Int)).toNat = 0 from rfl] at hx293_1); (try rw [show 0 * 5 = 0 from rfl] at hx293_1); (try rw [Addr.add_zero'] at hx293_1); (try rw [show ((0 : Int)).toNat = 0 from rfl] at hx293_2); (try rw [show 0 * 5 = 0 from rfl] at hx293_2); (try rw [Addr.add_zero'] at hx293_2); (try rw [show ((0 : Int)).toNat = 0 from rfl] at hx293_3); (try rw [show 0 * 5 = 0 from rfl] at hx293_3); (try rw [Addr.add_zero'] at hx293_3); (try rw [show ((0 : Int)).toNat = 0 from rfl] at hx293_4); (try rw [show 0 * 5 = 0 from rfl] at hx293_4); (try rw [Addr.add_zero'] at hx293_4); replace hx293_0:=(HB.out.cell (World.block_lt_of_cell? w _ hx293_0)).trans hx293_0; replace hx293_1:=(HB.out.cell (World.block_lt_of_cell? w _ hx293_1)).trans hx293_1; replace hx293_2:=(HB.out.cell (World.block_lt_of_cell? w _ hx293_2)).trans hx293_2; replace hx293_3:=(HB.out.cell (World.block_lt_of_cell? w _ hx293_3)).trans hx293_3; replace hx293_4:=(HB.out.cell (World.block_lt_of_cell? w _ hx293_4)).trans hx293_4; have HR293_1:=Aside0.mk hi293_1; have HC293_1:=Aside0.mk hl293_1; clear hi293_1 hl293_1; have HR293_2:=Aside0.mk hi293_2; have HC293_2:=Aside0.mk hl293_2; clear hi293_2 hl293_2; have HR293_3:=Aside0.mk hi293_3; have HC293_3:=Aside0.mk hl293_3; clear hi293_3 hl293_3; have HR293_4:=Aside0.mk hi293_4; have HC293_4:=Aside0.mk hl293_4; clear hi293_4 hl293_4; replace p293:=eq_true p293; replace q293:=eq_true q293; have hpt293 : ptrOf (.slice (some ad283) l0.length c0) = .pointer (some ad283):=ptrOf_pos _ _ _ (Qt); obtain ⟨i021,hi021,_,hsz21,_⟩:=info_parts info5; obtain ⟨A21,hcut21,hA21,hC21⟩:=print_drop_of (P:=Try.prog) (Value.int .u8) 0 23 5 .i64 Try.underlying23 hi021 hsz21 A293_1 c293_1 ((rd_T82 l0 0).f1) (rd ((rd_T82 l0 0).f2) x20_1) (Qt) (Qt) HC293_1.out; have HR294:=Aside0.mk (Kd.C_of_reads (h1:=fun _=>rfl) (hA21 _ (Kd.reads_of_C HR293_1.out))); have HC294:=Aside0.mk hC21; clear hA21 hC21 hi021 hsz21; obtain ⟨Ao22,co22,eo22⟩:=Kd.R_slice HO292.out; subst eo22) | ((with_reducible refine gate_builtin (b:=.copy) rfl ?_); refine goesCopy (some 61) rfl rfl rfl #[.slice Ao22 y290.length co22,.slice A21 (((rd_T82 l0 0).f1).drop ((rd ((rd_T82 l0 0).f2) x20_1) : Int).toNat).length (c293_1 - (rd ((rd_T82 l0 0).f2) x20_1).toNat)] (by (try simp only [List.map_toArray,List.map_cons,List.map_nil]); first | done | (rw [show (((rd_T82 l0 0).f1).drop ((rd ((rd_T82 l0 0).f2) x20_1) : Int).toNat).length = (((rd_T82 l0 0).f1).length - (rd ((rd_T82 l0 0).f2) x20_1).toNat) from List.length_drop] <;> rfl) | rfl | (simp only [List.length_drop,List.length_take]; rfl)) ?_; (with_reducible refine (copy_u8.calls (fun k_=>some k_ = (.slice Ao22 y290.length co22 : Value).ownBlock) (.slice Ao22 y290.length co22) y290 _ _ (((rd_T82 l0 0).f1).drop ((rd ((rd_T82 l0 0).f2) x20_1) : Int).toNat) t295 t296 w _ ?side1 ?side2 ?side3 ?side4 A18.out).mono ?_); (case side1=>repeat first|(with_reducible first|exact HB.out|apply Qg|apply Qh|apply Qi)|exact HB.out); (case side2=>exact Kd.R_tight rfl HO292.out); (case side3=>exact Kd.C_kept_came (Kd.heap_int .u8) HR294.out (by repeat first|(with_reducible first|exact HB.out|apply Qg|apply Qh|apply Qi)|exact HB.out) (fun k_ hs_=>(fun e_=>Kd.R_base HO292.out k_ e_.symm) hs_)); (case side4=>exact HC294.out); rintro e w23 ⟨rfl,hy0,hb,hkp⟩; refine ⟨_,rfl,?_⟩; have n0_:=Aside0.mk (Kd.R_reok rfl hy0 (fun k_ e_=>HO292.out.1 k_ e_)); have n1_:=Aside0.mk (hb); clear HO292; clear HB; have HO292:=n0_; have HB:=n1_; clear n0_ n1_; (try clear hb); (try clear hkp); (try clear hy0))); try go_wp2_with (first | ((with_reducible refine gate_dst (N:=53) rfl ?_); refine Kd.R_make (Kd.int .u8) _ 5 rfl (N:=53) rfl 23 _ _ rfl ji13 rfl rfl Try.underlying23 (.int .u8 0) 1 info5 rfl (by decide) (by omega) 0 (ok:=fun _=>True) (okp:=fun _=>True) rfl (fun _ hk=>hk) trivial (Qt) (Nat.le_trans (Nat.mul_le_mul_right _ (Qt : ji13.toNat≤281474976710656)) (by omega)) (Below.refl _ _) (Nat.le_refl _) ?_; intro v291 w19 ho20 hb hg_ hnew_; clear hg_ hnew_; (first | rw [← Ny290.out] at ho20 | (simp only [Int.reduceToNat] at ho20; rw [← Ny290.out] at ho20)); have n0_:=Aside0.mk (Kd.R_lower ho20 (below_size (by repeat first|(with_reducible first|exact HB.out|apply Qg|apply Qh|apply Qi)|exact HB.out))); have n1_:=Aside0.mk (below_step (by repeat first|(with_reducible first|exact HB.out|apply Qg|apply Qh|apply Qi)|exact HB.out) hb); clear HB; have HO292:=n0_; have HB:=n1_; clear n0_ n1_; clear hb ho20; have p293 : 0≤(0 : Int):=(by omega); have q293 : 0 < (l0.length : Int):=Qt; obtain ⟨ad293,A293_1,c293_1,A293_2,c293_2,A293_3,c293_3,A293_4,c293_4,e293,hx293_0,hx293_1,hx293_2,hx293_3,hx293_4,hl293_1,hi293_1,hl293_2,hi293_2,hl293_3,hi293_3,hl293_4,hi293_4⟩:=at_T82 HR0.out 0 p293 q293; obtain rfl : ad283 = ad293:=(by injection e293); have qi293 : (0 < l0.length) = True:=eq_true (by omega); (try rw [show ((0 : Int)).toNat = 0 from rfl] at hx293_0); (try rw [show 0 * 5 = 0 from rfl] at hx293_0); (try rw [Addr.add_zero'] at hx293_0); (try rw [show ((0 : Int)).toNat = 0 from rfl] at hx293_1); (try rw [show 0 * 5 = 0 from rfl] at hx293_1); (try rw [Addr.add_zero'] at hx293_1); (try rw [show ((0 : Int)).toNat = 0 from rfl] at hx293_2); (try rw [show 0 * 5 = 0 from rfl] at hx293_2); (try rw [Addr.add_zero'] at hx293_2); (try rw [show ((0 : Int)).toNat = 0 from rfl] at hx293_3); (try rw [show 0 * 5 = 0 from rfl] at hx293_3); (try rw [Addr.add_zero'] at hx293_3); (try rw [show ((0 : Int)).toNat = 0 from rfl] at hx293_4); (try rw [show 0 * 5 = 0 from rfl] at hx293_4); (try rw [Addr.add_zero'] at hx293_4); replace hx293_0:=(HB.out.cell (World.block_lt_of_cell? w _ hx293_0)).trans hx293_0; replace hx293_1:=(HB.out.cell (World.block_lt_of_cell? w _ hx293_1)).trans hx293_1; replace hx293_2:=(HB.out.cell (World.block_lt_of_cell? w _ hx293_2)).trans hx293_2; replace hx293_3:=(HB.out.cell (World.block_lt_of_cell? w _ hx293_3)).trans hx293_3; replace hx293_4:=(HB.out.cell (World.block_lt_of_cell? w _ hx293_4)).trans hx293_4; have HR293_1:=Aside0.mk hi293_1; have HC293_1:=Aside0.mk hl293_1; clear hi293_1 hl293_1; have HR293_2:=Aside0.mk hi293_2; have HC293_2:=Aside0.mk hl293_2; clear hi293_2 hl293_2; have HR293_3:=Aside0.mk hi293_3; have HC293_3:=Aside0.mk hl293_3; clear hi293_3 hl293_3; have HR293_4:=Aside0.mk hi293_4; have HC293_4:=Aside0.mk hl293_4; clear hi293_4 hl293_4; replace p293:=eq_true p293; replace q293:=eq_true q293; have hpt293 : ptrOf (.slice (some ad283) l0.length c0) = .pointer (some ad283):=ptrOf_pos _ _ _ (Qt); obtain ⟨i021,hi021,_,hsz21,_⟩:=info_parts info5; obtain ⟨A21,hcut21,hA21,hC21⟩:=print_drop_of (P:=Try.prog) (Value.int .u8) 0 23 5 .i64 Try.underlying23 hi021 hsz21 A293_1 c293_1 ((rd_T82 l0 0).f1) (rd ((rd_T82 l0 0).f2) x20_1) (Qt) (Qt) HC293_1.out; have HR294:=Aside0.mk (Kd.C_of_reads (h1:=fun _=>rfl) (hA21 _ (Kd.reads_of_C HR293_1.out))); have HC294:=Aside0.mk hC21; clear hA21 hC21 hi021 hsz21; obtain ⟨Ao22,co22,eo22⟩:=Kd.R_slice HO292.out; subst eo22) | ((with_reducible refine gate_builtin (b:=.copy) rfl ?_); refine goesCopy (some 61) rfl rfl rfl #[.slice Ao22 y290.length co22,.slice A21 (((rd_T82 l0 0).f1).drop ((rd ((rd_T82 l0 0).f2) x20_1) : Int).toNat).length (c293_1 - (rd ((rd_T82 l0 0).f2) x20_1).toNat)] (by (try simp only [List.map_toArray,List.map_cons,List.map_nil]); first | done | (rw [show (((rd_T82 l0 0).f1).drop ((rd ((rd_T82 l0 0).f2) x20_1) : Int).toNat).length = (((rd_T82 l0 0).f1).length - (rd ((rd_T82 l0 0).f2) x20_1).toNat) from List.length_drop] <;> rfl) | rfl | (simp only [List.length_drop,List.length_take]; rfl)) ?_; (with_reducible refine (copy_u8.calls (fun k_=>some k_ = (.slice Ao22 y290.length co22 : Value).ownBlock) (.slice Ao22 y290.length co22) y290 _ _ (((rd_T82 l0 0).f1).drop ((rd ((rd_T82 l0 0).f2) x20_1) : Int).toNat) t295 t296 w _ ?side1 ?side2 ?side3 ?side4 A18.out).mono ?_); (case side1=>repeat first|(with_reducible first|exact HB.out|apply Qg|apply Qh|apply Qi)|exact HB.out); (case side2=>exact Kd.R_tight rfl HO292.out); (case side3=>exact Kd.C_kept_came (Kd.heap_int .u8) HR294.out (by repeat first|(with_reducible first|exact HB.out|apply Qg|apply Qh|apply Qi)|exact HB.out) (fun k_ hs_=>(fun e_=>Kd.R_base HO292.out k_ e_.symm) hs_)); (case side4=>exact HC294.out); rintro e w23 ⟨rfl,hy0,hb,hkp⟩; refine ⟨_,rfl,?_⟩; have n0_:=Aside0.mk (Kd.R_reok rfl hy0 (fun k_ e_=>HO292.out.1 k_ e_)); have n1_:=Aside0.mk (hb); clear HO292; clear HB; have HO292:=n0_; have HB:=n1_; clear n0_ n1_; (try clear hb); (try clear hkp); (try clear hy0))))
                go_ret2
                exact ⟨_,by first | rfl | (simp [errW_none,errW_some] <;> rfl) | (simp only [← hji13]; first | rfl | (simp [errW_none,errW_some] <;> rfl)) | (simp [*,errW_none,errW_some] <;> rfl),by (with_reducible repeat first|apply Qa|apply Qb|apply Qc); exact HO292.out,by repeat first|(with_reducible first|exact HB.out|apply Qg|apply Qh|apply Qi)|exact HB.out⟩
               ·rw [if_neg c17] at H
                exact absurd H (by simp)
              ·rw [if_neg c16] at H
               exact absurd H (by simp)
             ·rw [if_neg c15] at H
              exact absurd H (by simp)
            ·rw [if_neg c14] at H
             exact absurd H (by simp)
           ·rw [if_neg c12] at H
            have c12b0 : decide (x1_1 < (wrap64 ((wrap64 ((((rd_T82 l0 0).f1).length : Int) - (rd ((rd_T82 l0 0).f2) x20_1))) - (rd ((rd_T82 l0 0).f4) x20_1)))) = false:=decide_eq_false c12
            clear c12
            have H':=Aside0.mk H
            clear H
            have p284 : 0≤(x20_1 : Int):=Qt
            have q284 : x20_1 < (((rd_T82 l0 0).f2).length : Int):=Qt
            obtain ⟨ad284,e284,hx284_0⟩:=Kd.at_int HR283_2.out x20_1 p284 q284
            cases e284
            replace hx284_0:=(HB.out.cell (World.block_lt_of_cell? w _ hx284_0)).trans hx284_0
            replace p284:=eq_true p284
            replace q284:=eq_true q284
            have p285 : 0≤(0 : Int):=(by omega)
            have q285 : 0 < (l0.length : Int):=Qt
            obtain ⟨ad285,A285_1,c285_1,A285_2,c285_2,A285_3,c285_3,A285_4,c285_4,e285,hx285_0,hx285_1,hx285_2,hx285_3,hx285_4,hl285_1,hi285_1,hl285_2,hi285_2,hl285_3,hi285_3,hl285_4,hi285_4⟩:=at_T82 HR0.out 0 p285 q285
            obtain rfl : ad283 = ad285:=(by injection e285)
            have qi285 : (0 < l0.length) = True:=eq_true (by omega)
            (try rw [show ((0 : Int)).toNat = 0 from rfl] at hx285_0)
            (try rw [show 0 * 5 = 0 from rfl] at hx285_0)
            (try rw [Addr.add_zero'] at hx285_0)
            (try rw [show ((0 : Int)).toNat = 0 from rfl] at hx285_1)
            (try rw [show 0 * 5 = 0 from rfl] at hx285_1)
            (try rw [Addr.add_zero'] at hx285_1)
            (try rw [show ((0 : Int)).toNat = 0 from rfl] at hx285_2)
            (try rw [show 0 * 5 = 0 from rfl] at hx285_2)
            (try rw [Addr.add_zero'] at hx285_2)
            (try rw [show ((0 : Int)).toNat = 0 from rfl] at hx285_3)
            (try rw [show 0 * 5 = 0 from rfl] at hx285_3)
            (try rw [Addr.add_zero'] at hx285_3)
            (try rw [show ((0 : Int)).toNat = 0 from rfl] at hx285_4)
            (try rw [show 0 * 5 = 0 from rfl] at hx285_4)
            (try rw [Addr.add_zero'] at hx285_4)
            replace hx285_0:=(HB.out.cell (World.block_lt_of_cell? w _ hx285_0)).trans hx285_0
            replace hx285_1:=(HB.out.cell (World.block_lt_of_cell? w _ hx285_1)).trans hx285_1
            replace hx285_2:=(HB.out.cell (World.block_lt_of_cell? w _ hx285_2)).trans hx285_2
            replace hx285_3:=(HB.out.cell (World.block_lt_of_cell? w _ hx285_3)).trans hx285_3
            replace hx285_4:=(HB.out.cell (World.block_lt_of_cell? w _ hx285_4)).trans hx285_4
            have HR285_1:=Aside0.mk hi285_1
            have HC285_1:=Aside0.mk hl285_1
            clear hi285_1 hl285_1
            have HR285_2:=Aside0.mk hi285_2
            have HC285_2:=Aside0.mk hl285_2
            clear hi285_2 hl285_2
            have HR285_3:=Aside0.mk hi285_3
            have HC285_3:=Aside0.mk hl285_3
            clear hi285_3 hl285_3
            have HR285_4:=Aside0.mk hi285_4
            have HC285_4:=Aside0.mk hl285_4
            clear hi285_4 hl285_4
            replace p285:=eq_true p285
            replace q285:=eq_true q285
            have hpt285 : ptrOf (.slice (some ad283) l0.length c0) = .pointer (some ad283):=ptrOf_pos _ _ _ (Qt)
            have p286 : 0≤(0 : Int):=(by omega)
            have q286 : 0 < (l0.length : Int):=Qt
            obtain ⟨ad286,A286_1,c286_1,A286_2,c286_2,A286_3,c286_3,A286_4,c286_4,e286,hx286_0,hx286_1,hx286_2,hx286_3,hx286_4,hl286_1,hi286_1,hl286_2,hi286_2,hl286_3,hi286_3,hl286_4,hi286_4⟩:=at_T82 HR0.out 0 p286 q286
            obtain rfl : ad283 = ad286:=(by injection e286)
            have qi286 : (0 < l0.length) = True:=eq_true (by omega)
            (try rw [show ((0 : Int)).toNat = 0 from rfl] at hx286_0)
            (try rw [show 0 * 5 = 0 from rfl] at hx286_0)
            (try rw [Addr.add_zero'] at hx286_0)
            (try rw [show ((0 : Int)).toNat = 0 from rfl] at hx286_1)
            (try rw [show 0 * 5 = 0 from rfl] at hx286_1)
            (try rw [Addr.add_zero'] at hx286_1)
            (try rw [show ((0 : Int)).toNat = 0 from rfl] at hx286_2)
            (try rw [show 0 * 5 = 0 from rfl] at hx286_2)
            (try rw [Addr.add_zero'] at hx286_2)
            (try rw [show ((0 : Int)).toNat = 0 from rfl] at hx286_3)
            (try rw [show 0 * 5 = 0 from rfl] at hx286_3)
            (try rw [Addr.add_zero'] at hx286_3)
            (try rw [show ((0 : Int)).toNat = 0 from rfl] at hx286_4)
            (try rw [show 0 * 5 = 0 from rfl] at hx286_4)
            (try rw [Addr.add_zero'] at hx286_4)
            replace hx286_0:=(HB.out.cell (World.block_lt_of_cell? w _ hx286_0)).trans hx286_0
            replace hx286_1:=(HB.out.cell (World.block_lt_of_cell? w _ hx286_1)).trans hx286_1
            replace hx286_2:=(HB.out.cell (World.block_lt_of_cell? w _ hx286_2)).trans hx286_2
            replace hx286_3:=(HB.out.cell (World.block_lt_of_cell? w _ hx286_3)).trans hx286_3
            replace hx286_4:=(HB.out.cell (World.block_lt_of_cell? w _ hx286_4)).trans hx286_4
            have HR286_1:=Aside0.mk hi286_1
            have HC286_1:=Aside0.mk hl286_1
            clear hi286_1 hl286_1
            have HR286_2:=Aside0.mk hi286_2
            have HC286_2:=Aside0.mk hl286_2
            clear hi286_2 hl286_2
            have HR286_3:=Aside0.mk hi286_3
            have HC286_3:=Aside0.mk hl286_3
            clear hi286_3 hl286_3
            have HR286_4:=Aside0.mk hi286_4
            have HC286_4:=Aside0.mk hl286_4
            clear hi286_4 hl286_4
            replace p286:=eq_true p286
            replace q286:=eq_true q286
            have ea_:=Option.some.inj (hx285_1.symm.trans hx286_1)
            injection ea_ with ea_ en_ ec_
            subst ea_
            subst ec_
            clear en_
            have ea_:=Option.some.inj (hx285_2.symm.trans hx286_2)
            injection ea_ with ea_ en_ ec_
            subst ea_
            subst ec_
            clear en_
            have ea_:=Option.some.inj (hx285_3.symm.trans hx286_3)
            injection ea_ with ea_ en_ ec_
            subst ea_
            subst ec_
            clear en_
            have ea_:=Option.some.inj (hx285_4.symm.trans hx286_4)
            injection ea_ with ea_ en_ ec_
            subst ea_
            subst ec_
            clear en_
            have hpt286 : ptrOf (.slice (some ad283) l0.length c0) = .pointer (some ad283):=ptrOf_pos _ _ _ (Qt)
            have p287 : 0≤(x20_1 : Int):=Qt
            have q287 : x20_1 < (((rd_T82 l0 0).f4).length : Int):=Qt
            obtain ⟨ad287,e287,hx287_0⟩:=Kd.at_int HR286_4.out x20_1 p287 q287
            cases e287
            replace hx287_0:=(HB.out.cell (World.block_lt_of_cell? w _ hx287_0)).trans hx287_0
            replace p287:=eq_true p287
            replace q287:=eq_true q287
            go_wp2
            repeat (go_quiet (fail); try go_wp2)
            go_roundg k1
            case measure=>have:=HK1.out; omega
            case rel=>exact ⟨(wrap64 (x1_1 - (wrap64 ((wrap64 ((((rd_T82 l0 0).f1).length : Int) - (rd ((rd_T82 l0 0).f2) x20_1))) - (rd ((rd_T82 l0 0).f4) x20_1))))),(wrap64 (x20_1 + 1)),(by first | rfl | (simp; done) | (simp [*]; done)),(by first | rfl | (simp; done) | (simp [*]; done)),H',⟨by have:=HK1.out; omega⟩,⟨by repeat first|(with_reducible first|exact HB.out|apply Qg|apply Qh|apply Qi)|exact HB.out⟩⟩
          ·rw [if_neg c11] at H
           exact absurd H (by simp)
         ·rw [if_neg c10] at H
          exact absurd H (by simp)
        ·rw [if_neg c9] at H
         exact absurd H (by simp)
       ·rw [if_neg c8] at H
        exact absurd H (by simp)
      ·rw [if_neg c7] at H
       have c7b0 : decide (x20_1 < (((rd_T82 l0 0).f2).length : Int)) = false:=decide_eq_false c7
       clear c7
       simp only [Option.some.injEq,Prod.mk.injEq] at H
       obtain ⟨rfl,rfl⟩:=H
       go_wp2
       go_ret2
       exact ⟨_,by first | rfl | (simp [errW_none,errW_some] <;> rfl) | (simp [*,errW_none,errW_some] <;> rfl),by first | exact Kd.R_nil _ _ _ _ _ | exact Kd.N_nil _ _ _ _ _ | exact Kd.V_nil _ _ _ _ _ | exact Kd.Q_nil _ _ _ _ _ | exact Kd.S_nil _ _ _ _ _,by repeat first|(with_reducible first|exact HB.out|apply Qg|apply Qh|apply Qi)|exact HB.out⟩
   ·rw [if_neg c6] at H
    exact absurd H (by simp)
 ·replace c4:=Bool.eq_false_iff.mpr c4
  subst c4
  have H1 : (some (([] : List Int),2)) = some (r1,r2):=by rw [if_neg (show ¬ (false = true) by decide)] at H; exact H
  clear H
  have H:=H1
  clear H1
  simp only [Option.some.injEq,Prod.mk.injEq] at H
  obtain ⟨rfl,rfl⟩:=H
  go_enter Try.func19,Try.ntmps19
  go_wp2_with (first | (go_at_call 54; (with_reducible refine (suffix_Index_is.calls _ _ l0 false _ ?side1 ?side2 A3.out).mono ?_); (case side1=>repeat (first | exact HR0.out | (with_reducible first|refine Qd ?_ _|refine Qe ?_ _|refine Qf ?_))); (case side2=>exact HC0.out); rintro e w' ⟨rfl,⟨nd,rfl⟩⟩; (try first | exact ⟨rfl,_,World.drewN_drewN _ _ _⟩ | exact ⟨rfl,_,Eq.trans (World.drewN_drewN _ _ _) (congrArg (World.drewN _) (Nat.add_assoc _ _ _))⟩)))
  go_ret2
  exact ⟨_,by first | rfl | (simp [errW_none,errW_some] <;> rfl) | (simp [*,errW_none,errW_some] <;> rfl),by first | exact Kd.R_nil _ _ _ _ _ | exact Kd.N_nil _ _ _ _ _ | exact Kd.V_nil _ _ _ _ _ | exact Kd.Q_nil _ _ _ _ _ | exact Kd.S_nil _ _ _ _ _,by repeat first|(with_reducible first|exact HB.out|apply Qg|apply Qh|apply Qi)|exact HB.out⟩

end Go.Proofs.Ythcnnfahlhklgaa.X
