-- Printed by wip/xprint.py of this repo (a wrapper of the session's own round the print).
import Derived.Test.YthcnnfahlhklgaaXx0
import Derived.Test.YthcnnfahlhklgaaXBA
import Derived.Test.YthcnnfahlhklgaaXx24
import Derived.Test.YthcnnfahlhklgaaXx26
namespace Go.Proofs.Ythcnnfahlhklgaa.X
open Go.RowKit Go.Proofs.YthcnnfahlhklgaaW.PrintWords Go.Proofs.YthcnnfahlhklgaaW.PrintLast Go.Proofs.YthcnnfahlhklgaaW.PrintMore
attribute [local go_sem] ptrOf_eql ptrOf_neq ptrOf_eqg ptrOf_neg str_leq str_geq str_gtr max2_int min2_int max_two min_two max_three min_three max_four min_four   -- for this text's walks alone
set_option linter.unusedVariables false
set_option linter.unusedSimpArgs false

/-! ### sapperref13_Kth: function 47 -/
def sapperref13_Kth.l0 : Nat→List Int→Int→List Int→List Int→Int→Int→Option (List Int × Bool)
 | 0,_,_,_,_,_,_=>none
 | k + 1,x0,x1,x14,x16,x18,x19=>if x19 < x18 then (if 0≤x19 then (if x19 < (x14.length : Int) then (if x19 < (x16.length : Int) then (if x1 < (wrap64 ((wrap64 ((x0.length : Int) - (rd x14 x19))) - (rd x16 x19))) then ((some (([] : List Int) : List Int)).bind fun y325=>(if 0≤(rd x14 x19) then (if (rd x14 x19)≤(wrap64 ((wrap64 ((wrap64 ((rd x14 x19) + (rd x16 x19))) + 1)) + x1)) then (if (wrap64 ((wrap64 ((wrap64 ((rd x14 x19) + (rd x16 x19))) + 1)) + x1))≤(x0.length : Int) then (if y325.length + ((x0.take ((wrap64 ((wrap64 ((wrap64 ((rd x14 x19) + (rd x16 x19))) + 1)) + x1)) : Int).toNat).drop ((rd x14 x19) : Int).toNat).length < 140737488355328 then (some ((y325 ++ ((x0.take ((wrap64 ((wrap64 ((wrap64 ((rd x14 x19) + (rd x16 x19))) + 1)) + x1)) : Int).toNat).drop ((rd x14 x19) : Int).toNat)),true)) else (none)) else (none)) else (none)) else (none))) else (sapperref13_Kth.l0 k x0 (wrap64 (x1 - (wrap64 ((wrap64 ((x0.length : Int) - (rd x14 x19))) - (rd x16 x19))))) x14 x16 x18 (wrap64 (x19 + 1)))) else (none)) else (none)) else (none)) else (some (([] : List Int),false))
def sapperref13_Kth.f (k : Nat) (l0 : List Int) (a1 : Int) : Option (List Int × Bool):=if a1 < 0 then (some (([] : List Int),false)) else ((sapperref13_Array.f k l0).bind fun t317=>((sapperref13_Lcp.f k l0).bind fun t320=>(sapperref13_Kth.l0 k l0 a1 t317 t320 (t317.length : Int) 0)))
theorem sapperref13_Kth.mono_l : ∀ k,(∀ y0 y1 y2 y3 y4 y5,LeO (sapperref13_Kth.l0 k y0 y1 y2 y3 y4 y5) (sapperref13_Kth.l0 (k + 1) y0 y1 y2 y3 y4 y5))
 | 0=>fun _ _ _ _ _ _ r h=>by simp [sapperref13_Kth.l0] at h
 | k + 1=>by
  have ih0:=sapperref13_Kth.mono_l k
  ·intro y0 y1 y2 y3 y4 y5
   unfold sapperref13_Kth.l0
   repeat' first
   | (with_reducible exact ih0 _ _ _ _ _ _)
   | (with_reducible exact sapperref13_Array.mono _ _)
   | (with_reducible exact sapperref13_Lcp.mono _ _)
   | (with_reducible exact LeO.refl _)
   | (with_reducible exact LeO.none _)
   | (with_reducible refine LeO.ite ?_ ?_)
   | (with_reducible refine LeO.bind ?_ (fun _=>?_))
   | exact ih0 _ _ _ _ _ _
   | exact sapperref13_Array.mono _ _
   | exact sapperref13_Lcp.mono _ _
   | exact LeO.none _
   | refine LeO.ite ?_ ?_
   | refine LeO.bind ?_ (fun _=>?_)
theorem sapperref13_Kth.mono : ∀ a0 a1 k,LeO (sapperref13_Kth.f k a0 a1) (sapperref13_Kth.f (k + 1) a0 a1):=by
 intro a0 a1 k
 have ih0:=sapperref13_Kth.mono_l k
 unfold sapperref13_Kth.f
 repeat' first
   | (with_reducible exact ih0 _ _ _ _ _ _)
   | (with_reducible exact sapperref13_Array.mono _ _)
   | (with_reducible exact sapperref13_Lcp.mono _ _)
   | (with_reducible exact LeO.refl _)
   | (with_reducible exact LeO.none _)
   | (with_reducible refine LeO.ite ?_ ?_)
   | (with_reducible refine LeO.bind ?_ (fun _=>?_))
   | exact ih0 _ _ _ _ _ _
   | exact sapperref13_Array.mono _ _
   | exact sapperref13_Lcp.mono _ _
   | exact LeO.none _
   | refine LeO.ite ?_ ?_
   | refine LeO.bind ?_ (fun _=>?_)
set_option maxHeartbeats 8000000 in
set_option maxRecDepth 100000 in
theorem sapperref13_Kth.calls (k : Nat) (A0 : Option Addr) (c0 : Nat) (l0 : List Int) (a1 : Int) (r1 : List Int) (r2 : Bool) (w : World) (hr0 : Kd.C (Kd.int .u8) w A0 l0.length l0) (hc0 : l0.length≤c0) (h : sapperref13_Kth.f k l0 a1 = some (r1,r2)) :
  Calls Try.prog 47 #[.slice A0 l0.length c0,.int .i64 a1] w fun e w'=>∃ v0_ : Value,e = .returned (.tuple #[v0_,.bool r2])∧Kd.R (Kd.int .u8) 5 w' w.heap.size (fun _=>True) v0_ r1∧Below w.heap.size w w':=by
 have HR0:=Aside0.mk hr0
 have HC0:=Aside0.mk hc0
 clear hr0 hc0
 have HB:=Aside0.mk (Below.refl w.heap.size w)
 have H : (if a1 < 0 then (some (([] : List Int),false)) else ((sapperref13_Array.f k l0).bind fun t317=>((sapperref13_Lcp.f k l0).bind fun t320=>(sapperref13_Kth.l0 k l0 a1 t317 t320 (t317.length : Int) 0)))) = some (r1,r2):=h
 clear h
 by_cases c3 : a1 < 0
 ·rw [if_pos c3] at H
  have c3b0 : decide (a1 < 0) = true:=decide_eq_true c3
  clear c3
  simp only [Option.some.injEq,Prod.mk.injEq] at H
  obtain ⟨rfl,rfl⟩:=H
  go_enter Try.func47,Try.ntmps47
  go_wp2
  go_ret2
  exact ⟨_,rfl,by first | exact Kd.R_nil _ _ _ _ _ | exact Kd.N_nil _ _ _ _ _ | exact Kd.V_nil _ _ _ _ _ | exact Kd.Q_nil _ _ _ _ _ | exact Kd.S_nil _ _ _ _ _,HB.out⟩
 ·rw [if_neg c3] at H
  have c3b0 : decide (a1 < 0) = false:=decide_eq_false c3
  clear c3
  replace H:=Option.bind_eq_some_iff.mp H
  obtain ⟨t317,A40,H⟩:=H
  replace H : ((sapperref13_Lcp.f k l0).bind fun t320=>(sapperref13_Kth.l0 k l0 a1 t317 t320 (t317.length : Int) 0)) = some (r1,r2):=H
  have A4:=Aside0.mk A40
  clear A40
  replace H:=Option.bind_eq_some_iff.mp H
  obtain ⟨t320,A50,H⟩:=H
  replace H : (sapperref13_Kth.l0 k l0 a1 t317 t320 (t317.length : Int) 0) = some (r1,r2):=H
  have A5:=Aside0.mk A50
  clear A50
  have H':=Aside0.mk H
  clear H
  go_enter Try.func47,Try.ntmps47
  go_wp2_with (first | ((with_reducible refine gate_callee (f:=28) rfl ?_); refine goesL_ (some 14) rfl rfl Try.func28 (by kernel_rfl) rfl #[.slice A0 l0.length c0] rfl (by (try simp only [List.map_toArray,List.map_cons,List.map_nil]); first | done | rfl | (simp only [List.length_drop,List.length_take]; rfl)) ?_; (with_reducible refine (sapperref13_Array.calls k _ _ l0 t317 _ ?side1 ?side2 A4.out).mono ?_); (case side1=>repeat (first | exact HR0.out | (with_reducible first|refine Qd ?_ _|refine Qe ?_ _|refine Qf ?_))); (case side2=>exact HC0.out); rintro e w6 ⟨v318,rfl,ho0,hb⟩; refine ⟨_,rfl,?_⟩; have n0_:=Aside0.mk (Kd.R_lower ho0 (below_size (by repeat first|(with_reducible first|exact HB.out|apply Qg|apply Qh|apply Qi)|exact HB.out))); have n1_:=Aside0.mk (below_step (by repeat first|(with_reducible first|exact HB.out|apply Qg|apply Qh|apply Qi)|exact HB.out) hb); clear HB; have HO319:=n0_; have HB:=n1_; clear n0_ n1_; (try clear hb); (try clear hb2); (try clear hk); (try clear hi); (try clear ho0)) | ((with_reducible refine gate_callee (f:=29) rfl ?_); refine goesL_ (some 16) rfl rfl Try.func29 (by kernel_rfl) rfl #[.slice A0 l0.length c0] rfl (by (try simp only [List.map_toArray,List.map_cons,List.map_nil]); first | done | rfl | (simp only [List.length_drop,List.length_take]; rfl)) ?_; (with_reducible refine (sapperref13_Lcp.calls k _ _ l0 t320 _ ?side1 ?side2 A5.out).mono ?_); (case side1=>repeat (first | exact (Kd.C_below HR0.out HB.out) | (with_reducible first|refine Qd ?_ _|refine Qe ?_ _|refine Qf ?_))); (case side2=>exact HC0.out); rintro e w7 ⟨v321,rfl,ho0,hb⟩; refine ⟨_,rfl,?_⟩; have n0_:=Aside0.mk (Kd.R_elder' (by (with_reducible repeat first|apply Qa|apply Qb|apply Qc); exact HO319.out) (Kd.R_base ho0) hb); have n1_:=Aside0.mk (Kd.R_lower (Kd.R_new' ho0 (Kd.R_lt (by (with_reducible repeat first|apply Qa|apply Qb|apply Qc); exact HO319.out))) (below_size (by repeat first|(with_reducible first|exact HB.out|apply Qg|apply Qh|apply Qi)|exact HB.out))); have n2_:=Aside0.mk (below_step (by repeat first|(with_reducible first|exact HB.out|apply Qg|apply Qh|apply Qi)|exact HB.out) hb); clear HO319; clear HB; have HO319:=n0_; have HO322:=n1_; have HB:=n2_; clear n0_ n1_ n2_; (try clear hb); (try clear hb2); (try clear hk); (try clear hi); (try clear ho0); obtain ⟨Ao8,co8,eo8⟩:=Kd.R_slice HO319.out; subst eo8))
  go_loopg [1,19] k (fun kq v1 v19 w'=>∃ (x1_1 : Int) (x19_1 : Int),v1 = .int .i64 x1_1∧v19 = .int .i64 x19_1∧Aside0 (sapperref13_Kth.l0 kq l0 x1_1 t317 t320 (t317.length : Int) x19_1 = some (r1,r2))∧Aside0 (kq≤k)∧Aside0 (Kd.R (Kd.int .i64) 3 w' w.heap.size (fun k_=>some k_ ≠ (v321 : Value).ownBlock) (.slice Ao8 t317.length co8) t317)∧Aside0 (Kd.R (Kd.int .i64) 3 w' w.heap.size (fun k_=>some k_ ≠ ((.slice Ao8 t317.length co8) : Value).ownBlock) v321 t320)∧Aside0 (Below w.heap.size w w'))
  case atStart=>exact ⟨(a1),(0),(rfl),(rfl),H',⟨Nat.le_refl _⟩,⟨by (with_reducible repeat first|apply Qa|apply Qb|apply Qc); exact Kd.R_mono HO319.out (fun _ hk=>hk.2)⟩,⟨by (with_reducible repeat first|apply Qa|apply Qb|apply Qc); exact Kd.R_mono HO322.out (fun _ hk=>hk.2)⟩,⟨HB.out⟩⟩
  case round =>
   clear H'
   try clear c2
   try clear p2
   try clear c3
   try clear c3b0
   try clear c4
   obtain ⟨x1_1,x19_1,rfl,rfl,HA,HK1,HO_14,HO_16,HB⟩:=hrel
   cases gk with
   | zero=>exact absurd HA.out (by simp [sapperref13_Kth.l0])
   | succ k1 =>
    have H:=HA.out
    clear HA
    simp only [sapperref13_Kth.l0] at H
    by_cases c9 : x19_1 < (t317.length : Int)
    ·rw [if_pos c9] at H
     have c9b0 : decide (x19_1 < (t317.length : Int)) = true:=decide_eq_true c9
     clear c9
     by_cases c10 : 0≤x19_1
     ·rw [if_pos c10] at H
      have c10b0 : decide (0≤x19_1) = true:=decide_eq_true c10
      clear c10
      by_cases c11 : x19_1 < (t317.length : Int)
      ·rw [if_pos c11] at H
       have c11b0 : decide (x19_1 < (t317.length : Int)) = true:=decide_eq_true c11
       clear c11
       by_cases c12 : x19_1 < (t320.length : Int)
       ·rw [if_pos c12] at H
        have c12b0 : decide (x19_1 < (t320.length : Int)) = true:=decide_eq_true c12
        clear c12
        by_cases c13 : x1_1 < (wrap64 ((wrap64 ((l0.length : Int) - (rd t317 x19_1))) - (rd t320 x19_1)))
        ·rw [if_pos c13] at H
         have c13b0 : decide (x1_1 < (wrap64 ((wrap64 ((l0.length : Int) - (rd t317 x19_1))) - (rd t320 x19_1)))) = true:=decide_eq_true c13
         clear c13
         obtain ⟨y325,hy325⟩ : ∃ y_ : List Int,y_ = (([] : List Int)):=⟨_,rfl⟩
         replace H : (if 0≤(rd t317 x19_1) then (if (rd t317 x19_1)≤(wrap64 ((wrap64 ((wrap64 ((rd t317 x19_1) + (rd t320 x19_1))) + 1)) + x1_1)) then (if (wrap64 ((wrap64 ((wrap64 ((rd t317 x19_1) + (rd t320 x19_1))) + 1)) + x1_1))≤(l0.length : Int) then (if y325.length + ((l0.take ((wrap64 ((wrap64 ((wrap64 ((rd t317 x19_1) + (rd t320 x19_1))) + 1)) + x1_1)) : Int).toNat).drop ((rd t317 x19_1) : Int).toNat).length < 140737488355328 then (some ((y325 ++ ((l0.take ((wrap64 ((wrap64 ((wrap64 ((rd t317 x19_1) + (rd t320 x19_1))) + 1)) + x1_1)) : Int).toNat).drop ((rd t317 x19_1) : Int).toNat)),true)) else (none)) else (none)) else (none)) else (none)) = some (r1,r2):=by first | (rw [hy325]; with_reducible exact H) | (have H2_:=(Option.bind_some _ _).symm.trans H; rw [hy325]; with_reducible exact H2_) | (have H2_:=(Option.bind_some _ _).symm.trans H; with_reducible exact H2_) | with_reducible exact H | (rw [hy325]; exact H) | exact H
         have Ny325:=Aside0.mk hy325
         clear hy325
         by_cases c14 : 0≤(rd t317 x19_1)
         ·rw [if_pos c14] at H
          have c14b0:=eq_true c14
          have c14b1 : decide (0≤(rd t317 x19_1)) = true:=decide_eq_true c14
          clear c14
          by_cases c15 : (rd t317 x19_1)≤(wrap64 ((wrap64 ((wrap64 ((rd t317 x19_1) + (rd t320 x19_1))) + 1)) + x1_1))
          ·rw [if_pos c15] at H
           have c15b0:=eq_true c15
           have c15b1 : decide ((rd t317 x19_1)≤(wrap64 ((wrap64 ((wrap64 ((rd t317 x19_1) + (rd t320 x19_1))) + 1)) + x1_1))) = true:=decide_eq_true c15
           by_cases c16 : (wrap64 ((wrap64 ((wrap64 ((rd t317 x19_1) + (rd t320 x19_1))) + 1)) + x1_1))≤(l0.length : Int)
           ·rw [if_pos c16] at H
            have c16b0:=eq_true c16
            have c16b1 : decide ((wrap64 ((wrap64 ((wrap64 ((rd t317 x19_1) + (rd t320 x19_1))) + 1)) + x1_1))≤(l0.length : Int)) = true:=decide_eq_true c16
            by_cases c17 : y325.length + ((l0.take ((wrap64 ((wrap64 ((wrap64 ((rd t317 x19_1) + (rd t320 x19_1))) + 1)) + x1_1)) : Int).toNat).drop ((rd t317 x19_1) : Int).toNat).length < 140737488355328
            ·rw [if_pos c17] at H
             have LMc17:=Aside0.mk c17
             clear c17
             obtain ⟨y330,hy330⟩ : ∃ y_ : List Int,y_ = (y325 ++ ((l0.take ((wrap64 ((wrap64 ((wrap64 ((rd t317 x19_1) + (rd t320 x19_1))) + 1)) + x1_1)) : Int).toNat).drop ((rd t317 x19_1) : Int).toNat)):=⟨_,rfl⟩
             replace H : (some (y330,true)) = some (r1,r2):=by first | (rw [hy330]; with_reducible exact H) | (have H2_:=(Option.bind_some _ _).symm.trans H; rw [hy330]; with_reducible exact H2_) | (have H2_:=(Option.bind_some _ _).symm.trans H; with_reducible exact H2_) | with_reducible exact H | (rw [hy330]; exact H) | exact H
             have Ny330:=Aside0.mk hy330
             clear hy330
             simp only [Option.some.injEq,Prod.mk.injEq] at H
             obtain ⟨rfl,rfl⟩:=H
             have p323 : 0≤(x19_1 : Int):=Qt
             have q323 : x19_1 < (t317.length : Int):=Qt
             obtain ⟨ad323,e323,hx323_0⟩:=Kd.at_int (Kd.R_reads' HO_14.out).2.2 x19_1 p323 q323
             cases e323
             replace p323:=eq_true p323
             replace q323:=eq_true q323
             obtain ⟨Ao18,co18,eo18⟩:=Kd.R_slice HO_16.out
             subst eo18
             have p324 : 0≤(x19_1 : Int):=Qt
             have q324 : x19_1 < (t320.length : Int):=Qt
             obtain ⟨ad324,e324,hx324_0⟩:=Kd.at_int (Kd.R_reads' HO_16.out).2.2 x19_1 p324 q324
             cases e324
             replace p324:=eq_true p324
             replace q324:=eq_true q324
             go_wp2_with (first | (refine gate_dst (N:=36) rfl ?_; refine Kd.R_lit (Kd.int .u8) _ 5 ?hg (N:=36) ?hd (xs:=([] : List Int)) (inner:=[]) (ok:=fun _=>True) (okp:=fun _=>True) ?hr ?hp (fun _ hk=>hk) trivial (Below.refl _ _) (Nat.le_refl _) (by simp) ?_; (case hd=>rfl); (case hg=>rfl); (case hr=>first | (go_simp; done) | (go_simp; rfl)); (case hp=>exact (Reps.none _ _)); intro v326 w19 ho20 hb hg_ hnew_; clear hg_ hnew_; (first | rw [← Ny325.out] at ho20 | (simp only [Int.reduceToNat] at ho20; rw [← Ny325.out] at ho20)); have n0_:=Aside0.mk (Kd.R_below HO_14.out hb); have n1_:=Aside0.mk (Kd.R_below HO_16.out hb); have n2_:=Aside0.mk (Kd.R_lower ho20 (below_size HB.out)); have n3_:=Aside0.mk (below_step HB.out hb); clear HO_14; clear HO_16; clear HB; have HO_14:=n0_; have HO_16:=n1_; have HO327:=n2_; have HB:=n3_; clear n0_ n1_ n2_ n3_; clear hb ho20; have p328 : 0≤(x19_1 : Int):=Qt; have q328 : x19_1 < (t320.length : Int):=Qt; obtain ⟨ad328,e328,hx328_0⟩:=Kd.at_int (Kd.R_reads' HO_16.out).2.2 x19_1 p328 q328; obtain rfl : ad324 = ad328:=(by injection e328); replace p328:=eq_true p328; replace q328:=eq_true q328; obtain ⟨i021,hi021,_,hsz21,_⟩:=info_parts info5; obtain ⟨A21,hcut21,hA21,hC21⟩:=print_mid_of (P:=Try.prog) (Value.int .u8) 0 23 5 .i64 .i64 Try.underlying23 hi021 hsz21 A0 c0 l0 (rd t317 x19_1) (wrap64 ((wrap64 ((wrap64 ((rd t317 x19_1) + (rd t320 x19_1))) + 1)) + x1_1)) (Qt) (by first | omega | exact Qt) (Qt) HC0.out; (try (have hws1:=i64_w ((wrap64 ((wrap64 ((rd t317 x19_1) + (rd t320 x19_1))) + 1)) + x1_1))); (try (have hws2:=i64_w ((wrap64 ((rd t317 x19_1) + (rd t320 x19_1))) + 1))); (try (have hws3:=i64_w ((rd t317 x19_1) + (rd t320 x19_1)))); have HR329:=Aside0.mk (Kd.C_of_reads (h1:=fun _=>rfl) (hA21 _ (Kd.reads_of_C HR0.out))); have HC329:=Aside0.mk hC21; clear hA21 hC21 hi021 hsz21) | ((with_reducible refine gate_builtin (b:=.append) (xs:=#[.tmp 36,.tmp 48]) rfl ?_); at_builtin; refine Kd.R_append_rows (Kd.int .u8) (w0:=w) w.heap.size rfl (.tmp 36) (.tmp 48) 23 5 (.int .u8 0) 1 rfl Try.underlying23 info5 rfl (by decide) (by omega) v326 y325 ((l0.take ((wrap64 ((wrap64 ((wrap64 ((rd t317 x19_1) + (rd t320 x19_1))) + 1)) + x1_1)) : Int).toNat).drop ((rd t317 x19_1) : Int).toNat) _ _ _ (fun _=>True) (fun _=>False) rfl rfl ?aO ?aR (fun _ _ h=>h) (fun _ h=>h.elim) ?aF ?aB ?aS ?aL ?_; (case aR=>first | (rw [← show ((l0.take ((wrap64 ((wrap64 ((wrap64 ((rd t317 x19_1) + (rd t320 x19_1))) + 1)) + x1_1)) : Int).toNat).drop ((rd t317 x19_1) : Int).toNat).length = ((wrap64 ((wrap64 ((wrap64 ((rd t317 x19_1) + (rd t320 x19_1))) + 1)) + x1_1)).toNat - (rd t317 x19_1).toNat) from (by rw [List.length_drop,List.length_take]; have h_ : ((wrap64 ((wrap64 ((wrap64 ((rd t317 x19_1) + (rd t320 x19_1))) + 1)) + x1_1)) : Int)≤(l0.length : Int):=Qt; omega)]; exact (Kd.C_below HR329.out HB.out)) | (exact (Kd.C_below HR329.out HB.out))); (case aB=>exact HB.out); (case aF=>exact (fun _ _=>trivial)); (case aO=>exact HO327.out); (case aS=>exact (below_size HB.out)); (case aL=>have:=LMc17.out; have hlx_:=(show ((l0.take ((wrap64 ((wrap64 ((wrap64 ((rd t317 x19_1) + (rd t320 x19_1))) + 1)) + x1_1)) : Int).toNat).drop ((rd t317 x19_1) : Int).toNat).length = ((wrap64 ((wrap64 ((wrap64 ((rd t317 x19_1) + (rd t320 x19_1))) + 1)) + x1_1)).toNat - (rd t317 x19_1).toNat) from (by rw [List.length_drop,List.length_take]; have h_ : ((wrap64 ((wrap64 ((wrap64 ((rd t317 x19_1) + (rd t320 x19_1))) + 1)) + x1_1)) : Int)≤(l0.length : Int):=Qt; omega)); omega); intro v331 w22 ho hb hg hat; rw [← Ny330.out] at ho; have n0_:=Aside0.mk (Kd.R_over' HO_14.out (Kd.R_typed HO327.out) (by decide) hg); have n1_:=Aside0.mk (Kd.R_over' HO_16.out (Kd.R_typed HO327.out) (by decide) hg); have n2_:=Aside0.mk (hb); have n3_:=Aside0.mk (ho); clear HO_14; clear HO_16; clear HB; clear HO327; have HO_14:=n0_; have HO_16:=n1_; have HB:=n2_; have HO332:=n3_; clear n0_ n1_ n2_ n3_; clear ho hb hg hat))
             go_ret2
             exact ⟨_,rfl,by (with_reducible repeat first|apply Qa|apply Qb|apply Qc); exact HO332.out,HB.out⟩
            ·rw [if_neg c17] at H
             exact absurd H (by simp)
           ·rw [if_neg c16] at H
            exact absurd H (by simp)
          ·rw [if_neg c15] at H
           exact absurd H (by simp)
         ·rw [if_neg c14] at H
          exact absurd H (by simp)
        ·rw [if_neg c13] at H
         have c13b0 : decide (x1_1 < (wrap64 ((wrap64 ((l0.length : Int) - (rd t317 x19_1))) - (rd t320 x19_1)))) = false:=decide_eq_false c13
         clear c13
         have H':=Aside0.mk H
         clear H
         have p323 : 0≤(x19_1 : Int):=Qt
         have q323 : x19_1 < (t317.length : Int):=Qt
         obtain ⟨ad323,e323,hx323_0⟩:=Kd.at_int (Kd.R_reads' HO_14.out).2.2 x19_1 p323 q323
         cases e323
         replace p323:=eq_true p323
         replace q323:=eq_true q323
         obtain ⟨Ao23,co23,eo23⟩:=Kd.R_slice HO_16.out
         subst eo23
         have p324 : 0≤(x19_1 : Int):=Qt
         have q324 : x19_1 < (t320.length : Int):=Qt
         obtain ⟨ad324,e324,hx324_0⟩:=Kd.at_int (Kd.R_reads' HO_16.out).2.2 x19_1 p324 q324
         cases e324
         replace p324:=eq_true p324
         replace q324:=eq_true q324
         go_wp2
         go_roundg k1
         case measure=>have:=HK1.out; omega
         case rel=>exact ⟨(wrap64 (x1_1 - (wrap64 ((wrap64 ((l0.length : Int) - (rd t317 x19_1))) - (rd t320 x19_1))))),(wrap64 (x19_1 + 1)),(rfl),(rfl),H',⟨by have:=HK1.out; omega⟩,⟨by (with_reducible repeat first|apply Qa|apply Qb|apply Qc); exact HO_14.out⟩,⟨by (with_reducible repeat first|apply Qa|apply Qb|apply Qc); exact HO_16.out⟩,⟨HB.out⟩⟩
       ·rw [if_neg c12] at H
        exact absurd H (by simp)
      ·rw [if_neg c11] at H
       exact absurd H (by simp)
     ·rw [if_neg c10] at H
      exact absurd H (by simp)
    ·rw [if_neg c9] at H
     have c9b0 : decide (x19_1 < (t317.length : Int)) = false:=decide_eq_false c9
     clear c9
     simp only [Option.some.injEq,Prod.mk.injEq] at H
     obtain ⟨rfl,rfl⟩:=H
     go_wp2
     go_ret2
     exact ⟨_,rfl,by first | exact Kd.R_nil _ _ _ _ _ | exact Kd.N_nil _ _ _ _ _ | exact Kd.V_nil _ _ _ _ _ | exact Kd.Q_nil _ _ _ _ _ | exact Kd.S_nil _ _ _ _ _,HB.out⟩

end Go.Proofs.Ythcnnfahlhklgaa.X
