-- Printed by wip/xprint.py of this repo (a wrapper of the session's own round the print).
import Derived.Test.YthcnnfahlhklgaaXx0
import Derived.Test.YthcnnfahlhklgaaXBA
import Derived.Test.YthcnnfahlhklgaaXx24
import Derived.Test.YthcnnfahlhklgaaXx25
namespace Go.Proofs.Ythcnnfahlhklgaa.X
open Go.RowKit Go.Proofs.YthcnnfahlhklgaaW.PrintWords Go.Proofs.YthcnnfahlhklgaaW.PrintLast Go.Proofs.YthcnnfahlhklgaaW.PrintMore
attribute [local go_sem] ptrOf_eql ptrOf_neq ptrOf_eqg ptrOf_neg str_leq str_geq str_gtr max2_int min2_int max_two min_two max_three min_three max_four min_four   -- for this text's walks alone
set_option linter.unusedVariables false
set_option linter.unusedSimpArgs false

/-! ### sapperref13_Lcp: function 29 -/
def sapperref13_Lcp.l0 : Nat→List Int→Int→List Int→List Int→Option (List Int)
 | 0,_,_,_,_=>none
 | k + 1,x0,x5,x7,x10=>if x5 < (x7.length : Int) then (if 0≤(wrap64 (x5 - 1)) then (if (wrap64 (x5 - 1)) < (x7.length : Int) then (if 0≤(rd x7 (wrap64 (x5 - 1))) then (if (rd x7 (wrap64 (x5 - 1)))≤(x0.length : Int) then (if 0≤x5 then (if 0≤(rd x7 x5) then (if (rd x7 x5)≤(x0.length : Int) then ((sapperref13_Common.f k (x0.drop ((rd x7 (wrap64 (x5 - 1))) : Int).toNat) (x0.drop ((rd x7 x5) : Int).toNat)).bind fun t324=>(if x5 < (x10.length : Int) then (sapperref13_Lcp.l0 k x0 (wrap64 (x5 + 1)) x7 (x10.set (x5 : Int).toNat t324)) else (none))) else (none)) else (none)) else (none)) else (none)) else (none)) else (none)) else (none)) else (some x10)
def sapperref13_Lcp.f (k : Nat) (l0 : List Int) : Option (List Int):=(sapperref13_Array.f k l0).bind fun t314=>(if 0≤(t314.length : Int) then (if ((t314.length : Int) : Int).toNat≤35184372088832 then (sapperref13_Lcp.l0 k l0 1 t314 (List.replicate ((t314.length : Int) : Int).toNat 0)) else (none)) else (none))
theorem sapperref13_Lcp.mono_l : ∀ k,(∀ y0 y1 y2 y3,LeO (sapperref13_Lcp.l0 k y0 y1 y2 y3) (sapperref13_Lcp.l0 (k + 1) y0 y1 y2 y3))
 | 0=>fun _ _ _ _ r h=>by simp [sapperref13_Lcp.l0] at h
 | k + 1=>by
  have ih0:=sapperref13_Lcp.mono_l k
  ·intro y0 y1 y2 y3
   unfold sapperref13_Lcp.l0
   repeat' first
   | (with_reducible exact ih0 _ _ _ _)
   | (with_reducible exact sapperref13_Array.mono _ _)
   | (with_reducible exact sapperref13_Common.mono _ _ _)
   | (with_reducible exact LeO.refl _)
   | (with_reducible exact LeO.none _)
   | (with_reducible refine LeO.ite ?_ ?_)
   | (with_reducible refine LeO.bind ?_ (fun _=>?_))
   | exact ih0 _ _ _ _
   | exact sapperref13_Array.mono _ _
   | exact sapperref13_Common.mono _ _ _
   | exact LeO.none _
   | refine LeO.ite ?_ ?_
   | refine LeO.bind ?_ (fun _=>?_)
theorem sapperref13_Lcp.mono : ∀ a0 k,LeO (sapperref13_Lcp.f k a0) (sapperref13_Lcp.f (k + 1) a0):=by
 intro a0 k
 have ih0:=sapperref13_Lcp.mono_l k
 unfold sapperref13_Lcp.f
 repeat' first
   | (with_reducible exact ih0 _ _ _ _)
   | (with_reducible exact sapperref13_Array.mono _ _)
   | (with_reducible exact sapperref13_Common.mono _ _ _)
   | (with_reducible exact LeO.refl _)
   | (with_reducible exact LeO.none _)
   | (with_reducible refine LeO.ite ?_ ?_)
   | (with_reducible refine LeO.bind ?_ (fun _=>?_))
   | exact ih0 _ _ _ _
   | exact sapperref13_Array.mono _ _
   | exact sapperref13_Common.mono _ _ _
   | exact LeO.none _
   | refine LeO.ite ?_ ?_
   | refine LeO.bind ?_ (fun _=>?_)
def sapperref13_Lcp.T6 : Bool × List (List Nat × List Nat):=(true,[([],[]),([],[]),([],[]),([],[]),([],[]),([4],[4]),([3,5],[3,5]),([6],[6]),([2,7],[2,7]),([],[]),([],[]),([],[]),([10,11],[10,11]),([12],[12]),([9,13],[9,13]),([8,14],[8,14]),([0,1,0,1,2,3,4,5,6,7,8,9,10,11,12,13,14,15],[0,1]),([16,15,15,0,1,2,3,4,5,6,7,8,9,10,11,12,13,14,15],[15,16])])
def sapperref13_Lcp.B6 : List Nat:=[0,0,0,0,0,16,56,120,252,0,0,0,3072,7168,15872,32764,65535,131071]
theorem sapperref13_Lcp.tab6 : rtab .any (opsOf Try.f29 6) = sapperref13_Lcp.T6:=by kernel_rfl
theorem sapperref13_Lcp.bits6 : waitsOk sapperref13_Lcp.T6.2 sapperref13_Lcp.B6 = true:=by kernel_rfl
set_option maxHeartbeats 8000000 in
set_option maxRecDepth 100000 in
theorem sapperref13_Lcp.calls (k : Nat) (A0 : Option Addr) (c0 : Nat) (l0 : List Int) (r : List Int) (w : World) (hr0 : Kd.C (Kd.int .u8) w A0 l0.length l0) (hc0 : l0.length≤c0) (h : sapperref13_Lcp.f k l0 = some r) :
  Calls Try.prog 29 #[.slice A0 l0.length c0] w fun e w'=>∃ v0_ : Value,e = .returned (v0_)∧Kd.R (Kd.int .i64) 3 w' w.heap.size (fun _=>True) v0_ r∧Below w.heap.size w w':=by
 have HR0:=Aside0.mk hr0; have HC0:=Aside0.mk hc0; clear hr0 hc0; have HB:=Aside0.mk (Below.refl w.heap.size w); have H : ((sapperref13_Array.f k l0).bind fun t314=>(if 0≤(t314.length : Int) then (if ((t314.length : Int) : Int).toNat≤35184372088832 then (sapperref13_Lcp.l0 k l0 1 t314 (List.replicate ((t314.length : Int) : Int).toNat 0)) else (none)) else (none))) = some r:=h; clear h; replace H:=Option.bind_eq_some_iff.mp H; obtain ⟨t314,A20,H⟩:=H; replace H : (if 0≤(t314.length : Int) then (if ((t314.length : Int) : Int).toNat≤35184372088832 then (sapperref13_Lcp.l0 k l0 1 t314 (List.replicate ((t314.length : Int) : Int).toNat 0)) else (none)) else (none)) = some r:=H; have A2:=Aside0.mk A20; clear A20
 by_cases c3 : 0≤(t314.length : Int)
 ·rw [if_pos c3] at H
  have c3b0:=eq_true c3; have c3b1 : decide (0≤(t314.length : Int)) = true:=decide_eq_true c3; clear c3
  by_cases c4 : ((t314.length : Int) : Int).toNat≤35184372088832
  ·rw [if_pos c4] at H
   have c4b0:=eq_true c4; have c4b1 : decide (((t314.length : Int) : Int).toNat≤35184372088832) = true:=decide_eq_true c4; clear c4; obtain ⟨y317,hy317⟩ : ∃ y_ : List Int,y_ = (List.replicate ((t314.length : Int) : Int).toNat 0):=⟨_,rfl⟩
   replace H : (sapperref13_Lcp.l0 k l0 1 t314 y317) = some r:=by first | (rw [hy317]; with_reducible exact H) | (have H2_:=(Option.bind_some _ _).symm.trans H; rw [hy317]; with_reducible exact H2_) | (have H2_:=(Option.bind_some _ _).symm.trans H; with_reducible exact H2_) | with_reducible exact H | (rw [hy317]; exact H) | exact H
   have Ny317:=Aside0.mk hy317; clear hy317; have H':=Aside0.mk H; clear H
   go_enter Try.func29,Try.ntmps29
   go_wp2_with (first | ((with_reducible refine gate_callee (f:=28) rfl ?_); refine goesL_ (some 7) rfl rfl Try.func28 (by kernel_rfl) rfl #[.slice A0 l0.length c0] rfl (by (try simp only [List.map_toArray,List.map_cons,List.map_nil]); first | done | rfl | (simp only [List.length_drop,List.length_take]; rfl)) ?_; (with_reducible refine (sapperref13_Array.calls k _ _ l0 t314 _ ?side1 ?side2 A2.out).mono ?_); (case side1=>repeat (first | exact HR0.out | (with_reducible first|refine Qd ?_ _|refine Qe ?_ _|refine Qf ?_))); (case side2=>exact HC0.out); rintro e w5 ⟨v315,rfl,ho0,hb⟩; refine ⟨_,rfl,?_⟩; have n0_:=Aside0.mk (Kd.R_lower ho0 (below_size (by repeat first|(with_reducible first|exact HB.out|apply Qg|apply Qh|apply Qi)|exact HB.out))); have n1_:=Aside0.mk (below_step (by repeat first|(with_reducible first|exact HB.out|apply Qg|apply Qh|apply Qi)|exact HB.out) hb); clear HB; have HO316:=n0_; have HB:=n1_; clear n0_ n1_; (try clear hb); (try clear hb2); (try clear hk); (try clear hi); (try clear ho0); obtain ⟨Ao6,co6,eo6⟩:=Kd.R_slice HO316.out; subst eo6) | ((with_reducible refine gate_dst (N:=10) rfl ?_); refine Kd.R_make (Kd.int .i64) _ 3 rfl (N:=10) rfl 34 _ _ rfl (t314.length : Int) rfl rfl Try.underlying34 (.int .i64 0) 8 info3 rfl (by decide) (by omega) 0 (ok:=fun _=>True) (okp:=fun _=>True) rfl (fun _ hk=>hk) trivial (Qt) (Nat.le_trans (Nat.mul_le_mul_right _ (Qt : (t314.length : Int).toNat≤35184372088832)) (by omega)) (Below.refl _ _) (Nat.le_refl _) ?_; intro v318 w7 ho8 hb hg_ hnew_; clear hg_ hnew_; (first | rw [← Ny317.out] at ho8 | (simp only [Int.reduceToNat] at ho8; rw [← Ny317.out] at ho8)); have n0_:=Aside0.mk (Kd.R_elder' (by (with_reducible repeat first|apply Qa|apply Qb|apply Qc); exact HO316.out) (Kd.R_base ho8) hb); have n1_:=Aside0.mk (Kd.R_lower (Kd.R_new' ho8 (Kd.R_lt (by (with_reducible repeat first|apply Qa|apply Qb|apply Qc); exact HO316.out))) (below_size (by repeat first|(with_reducible first|exact HB.out|apply Qg|apply Qh|apply Qi)|exact HB.out))); have n2_:=Aside0.mk (below_step (by repeat first|(with_reducible first|exact HB.out|apply Qg|apply Qh|apply Qi)|exact HB.out) hb); clear HO316; clear HB; have HO316:=n0_; have HO319:=n1_; have HB:=n2_; clear n0_ n1_ n2_; clear hb ho8))
   go_loopg [5] k (fun kq v5 w'=>∃ (x5_1 : Int) (x10_1 : List Int),v5 = .int .i64 x5_1∧Aside0 (sapperref13_Lcp.l0 kq l0 x5_1 t314 x10_1 = some r)∧Aside0 (kq≤k)∧Aside0 (Kd.R (Kd.int .i64) 3 w' w.heap.size (fun k_=>some k_ ≠ (v318 : Value).ownBlock) (.slice Ao6 t314.length co6) t314)∧Aside0 (Kd.R (Kd.int .i64) 3 w' w.heap.size (fun k_=>some k_ ≠ ((.slice Ao6 t314.length co6) : Value).ownBlock) v318 x10_1)∧Aside0 (Below w.heap.size w w'))
   case atStart=>exact ⟨(1),(y317),(rfl),H',⟨Nat.le_refl _⟩,⟨by (with_reducible repeat first|apply Qa|apply Qb|apply Qc); exact Kd.R_mono HO316.out (fun _ hk=>hk.2)⟩,⟨by (with_reducible repeat first|apply Qa|apply Qb|apply Qc); exact Kd.R_mono HO319.out (fun _ hk=>hk.2)⟩,⟨HB.out⟩⟩
   case round =>
    clear H'; obtain ⟨x5_1,x10_1,rfl,HA,HK1,HO_7,HO_10,HB⟩:=hrel
    cases gk with
    | zero=>exact absurd HA.out (by simp [sapperref13_Lcp.l0])
    | succ k1 =>
     have H:=HA.out; clear HA; simp only [sapperref13_Lcp.l0] at H
     by_cases c9 : x5_1 < (t314.length : Int)
     ·rw [if_pos c9] at H
      have c9b0 : decide (x5_1 < (t314.length : Int)) = true:=decide_eq_true c9; clear c9; obtain ⟨ji10,hji10⟩ : ∃ j_ : Int,(wrap64 (x5_1 - 1)) = j_:=⟨_,rfl⟩
      replace H : (if 0≤(ji10) then (if (ji10) < (t314.length : Int) then (if 0≤(rd t314 (ji10)) then (if (rd t314 (ji10))≤(l0.length : Int) then (if 0≤x5_1 then (if 0≤(rd t314 x5_1) then (if (rd t314 x5_1)≤(l0.length : Int) then ((sapperref13_Common.f k1 (l0.drop ((rd t314 (ji10)) : Int).toNat) (l0.drop ((rd t314 x5_1) : Int).toNat)).bind fun t324=>(if x5_1 < (x10_1.length : Int) then (sapperref13_Lcp.l0 k1 l0 (wrap64 (x5_1 + 1)) t314 (x10_1.set (x5_1 : Int).toNat t324)) else (none))) else (none)) else (none)) else (none)) else (none)) else (none)) else (none)) else (none)) = some r:=by first | (rw [hji10] at H; exact H) | (simp only [hji10] at H ⊢; exact H)
      have hji10w : (IntKind.i64.wrap (x5_1 - 1)) = ji10:=(i64_w _).trans hji10
      by_cases c11 : 0≤(ji10)
      ·rw [if_pos c11] at H
       have c11b0 : decide (0≤(ji10)) = true:=decide_eq_true c11; clear c11
       by_cases c12 : (ji10) < (t314.length : Int)
       ·rw [if_pos c12] at H
        have c12b0 : decide ((ji10) < (t314.length : Int)) = true:=decide_eq_true c12; clear c12
        by_cases c13 : 0≤(rd t314 (ji10))
        ·rw [if_pos c13] at H
         have c13b0:=eq_true c13; have c13b1 : decide (0≤(rd t314 (ji10))) = true:=decide_eq_true c13; clear c13
         by_cases c14 : (rd t314 (ji10))≤(l0.length : Int)
         ·rw [if_pos c14] at H
          have c14b0:=eq_true c14; have c14b1 : decide ((rd t314 (ji10))≤(l0.length : Int)) = true:=decide_eq_true c14; clear c14
          by_cases c15 : 0≤x5_1
          ·rw [if_pos c15] at H
           have c15b0 : decide (0≤x5_1) = true:=decide_eq_true c15; clear c15
           by_cases c16 : 0≤(rd t314 x5_1)
           ·rw [if_pos c16] at H
            have c16b0:=eq_true c16; have c16b1 : decide (0≤(rd t314 x5_1)) = true:=decide_eq_true c16; clear c16
            by_cases c17 : (rd t314 x5_1)≤(l0.length : Int)
            ·rw [if_pos c17] at H
             have c17b0:=eq_true c17; have c17b1 : decide ((rd t314 x5_1)≤(l0.length : Int)) = true:=decide_eq_true c17; clear c17; replace H:=Option.bind_eq_some_iff.mp H; obtain ⟨t324,A180,H⟩:=H; replace H : (if x5_1 < (x10_1.length : Int) then (sapperref13_Lcp.l0 k1 l0 (wrap64 (x5_1 + 1)) t314 (x10_1.set (x5_1 : Int).toNat t324)) else (none)) = some r:=H; have A18:=Aside0.mk A180; clear A180
             by_cases c19 : x5_1 < (x10_1.length : Int)
             ·rw [if_pos c19] at H
              have c19b0 : decide (x5_1 < (x10_1.length : Int)) = true:=decide_eq_true c19; clear c19; obtain ⟨y325,hy325⟩ : ∃ y_ : List Int,y_ = (x10_1.set (x5_1 : Int).toNat t324):=⟨_,rfl⟩
              replace H : (sapperref13_Lcp.l0 k1 l0 (wrap64 (x5_1 + 1)) t314 y325) = some r:=by first | (rw [hy325]; with_reducible exact H) | (have H2_:=(Option.bind_some _ _).symm.trans H; rw [hy325]; with_reducible exact H2_) | (have H2_:=(Option.bind_some _ _).symm.trans H; with_reducible exact H2_) | with_reducible exact H | (rw [hy325]; exact H) | exact H
              have Ny325:=Aside0.mk hy325; clear hy325; have H':=Aside0.mk H; clear H; (try go_wp2); have n0_:=Aside0.mk (Kd.R_drew HO_7.out); have n1_:=Aside0.mk (Kd.R_drew HO_10.out); have n2_:=Aside0.mk (below_drew1 HB.out); clear HO_7; clear HO_10; clear HB; have HO_7:=n0_; have HO_10:=n1_; have HB:=n2_; clear n0_ n1_ n2_; have p320 : 0≤((ji10) : Int):=Qt; have q320 : (ji10) < (t314.length : Int):=Qt; obtain ⟨ad320,e320,hx320_0⟩:=Kd.at_int (Kd.R_reads' HO_7.out).2.2 (ji10) p320 q320; cases e320; replace p320:=eq_true p320; replace q320:=eq_true q320; obtain ⟨i022,hi022,_,hsz22,_⟩:=info_parts info5; obtain ⟨A22,hcut22,hA22,hC22⟩:=print_drop_of (P:=Try.prog) (Value.int .u8) 0 23 5 .i64 Try.underlying23 hi022 hsz22 A0 c0 l0 (rd t314 (ji10)) (Qt) (Qt) HC0.out; have HR321:=Aside0.mk (Kd.C_of_reads (h1:=fun _=>rfl) (hA22 _ (Kd.reads_of_C HR0.out))); have HC321:=Aside0.mk hC22; clear hA22 hC22 hi022 hsz22; have p322 : 0≤(x5_1 : Int):=Qt; have q322 : x5_1 < (t314.length : Int):=Qt; obtain ⟨ad322,e322,hx322_0⟩:=Kd.at_int (Kd.R_reads' HO_7.out).2.2 x5_1 p322 q322; obtain rfl : ad320 = ad322:=(by injection e322); replace p322:=eq_true p322; replace q322:=eq_true q322; obtain ⟨i023,hi023,_,hsz23,_⟩:=info_parts info5; obtain ⟨A23,hcut23,hA23,hC23⟩:=print_drop_of (P:=Try.prog) (Value.int .u8) 0 23 5 .i64 Try.underlying23 hi023 hsz23 A0 c0 l0 (rd t314 x5_1) (Qt) (Qt) HC0.out; have HR323:=Aside0.mk (Kd.C_of_reads (h1:=fun _=>rfl) (hA23 _ (Kd.reads_of_C HR0.out))); have HC323:=Aside0.mk hC23; clear hA23 hC23 hi023 hsz23; refine start_ (n:=18) (S:=fun w'=>w'.cell? (ad320.add ((ji10)).toNat) = some (.int .i64 (rd t314 (ji10)))∧w'.cell? (ad320.add (x5_1).toNat) = some (.int .i64 (rd t314 x5_1))) (ds:=[17]) (bA 18 0) (by kernel_rfl) rfl rfl ⟨hx320_0,hx322_0⟩ (fun hHeld=>?_); refine with_tabW sapperref13_Lcp.tab6 sapperref13_Lcp.bits6 (fun HT_ HW_=>?_); generalize wr.drew = w21 at HO_7 HO_10 HB HR321 HR323 hx320_0 hx322_0 hHeld ⊢; refine pureQ 0 17 18 1 HT_.out ?_ ?_ ?_ ?_ ?_; rotate_left; (· (intro w'; go_simp; (with_reducible rfl))); rotate_left; (· (simp only [Qs]; rfl)); refine pureQ 1 18 18 3 HT_.out ?_ ?_ ?_ ?_ ?_; rotate_left; (· (intro w'; go_simp; (with_reducible rfl))); rotate_left; (· (simp only [Qs]; rfl)); refine pureQ 2 19 18 7 HT_.out ?_ ?_ ?_ ?_ ?_; rotate_left; (· (intro w'; go_simp; (with_reducible rfl))); rotate_left; (· (simp only [Qs]; rfl)); refine pureQ 3 20 18 15 HT_.out ?_ ?_ ?_ ?_ ?_; rotate_left; (· (intro w'; go_simp; (with_reducible rfl))); rotate_left; (· (simp only [Qs]; rfl)); refine pureQ 4 21 18 31 HT_.out ?_ ?_ ?_ ?_ ?_; rotate_left; (· (intro w'; go_simp; (with_reducible rfl))); rotate_left; (· (simp only [Qs]; rfl)); refine pureQ 5 22 18 63 HT_.out ?_ ?_ ?_ ?_ ?_; rotate_left; (· (intro w'; go_simp; (with_reducible rfl))); rotate_left; (· (simp only [Qs]; rfl)); refine pureQ 6 23 18 127 HT_.out ?_ ?_ ?_ ?_ ?_; rotate_left; (· (intro w'; go_simp; (with_reducible rfl))); rotate_left; (· (simp only [Qs]; rfl)); refine pureQ 9 26 18 639 HT_.out ?_ ?_ ?_ ?_ ?_; rotate_left; (· (intro w'; go_simp; (with_reducible rfl))); rotate_left; (· (simp only [Qs]; rfl)); refine pureQ 10 27 18 1663 HT_.out ?_ ?_ ?_ ?_ ?_; rotate_left; (· (intro w'; go_simp; (with_reducible rfl))); rotate_left; (· (simp only [Qs]; rfl)); refine pureQ 11 28 18 3711 HT_.out ?_ ?_ ?_ ?_ ?_; rotate_left; (· (intro w'; go_simp; (with_reducible rfl))); rotate_left; (· (simp only [Qs]; rfl)); refine pureQ 12 29 18 7807 HT_.out ?_ ?_ ?_ ?_ ?_; rotate_left; (· (intro w'; go_simp; (with_reducible rfl))); rotate_left; (· (simp only [Qs]; rfl)); refine takeQ 7 24 18 7935 HT_.out HW_.out hHeld ?_ ?_ ?_ ?_ ?_; rotate_left; (· (rintro w' ⟨s0,s1⟩; go_simp; (with_reducible rfl))); rotate_left; (· (simp only [Qs]; rfl)); refine pureQ 8 25 18 8191 HT_.out ?_ ?_ ?_ ?_ ?_; rotate_left; (· (intro w'; go_simp; (with_reducible rfl))); rotate_left; (· (simp only [Qs]; rfl)); refine takeQ 13 30 18 16383 HT_.out HW_.out hHeld ?_ ?_ ?_ ?_ ?_; rotate_left; (· (rintro w' ⟨s0,s1⟩; go_simp; (with_reducible rfl))); rotate_left; (· (simp only [Qs]; rfl)); refine pureQ 14 31 18 32767 HT_.out ?_ ?_ ?_ ?_ ?_; rotate_left; (· (intro w'; go_simp; (with_reducible rfl))); rotate_left; (· (simp only [Qs]; rfl)); refine one_ (i:=15) (N:=some 32) (bA 18 65535) rfl rfl (one_of HT_.out (by kernel_rfl)) (by decide) (fun K hK=>?_); refine goes_ Try.func18 (by kernel_rfl) rfl #[.slice A22 (l0.drop ((rd t314 (ji10)) : Int).toNat).length (c0 - (rd t314 (ji10)).toNat),.slice A23 (l0.drop ((rd t314 x5_1) : Int).toNat).length (c0 - (rd t314 x5_1).toNat)] (rfl) rfl rfl (by (try simp only [List.map_toArray,List.map_cons,List.map_nil]); first | done | (rw [show (l0.drop ((rd t314 (ji10)) : Int).toNat).length = (l0.length - (rd t314 (ji10)).toNat) from List.length_drop] <;> rfl) | (rw [show (l0.drop ((rd t314 x5_1) : Int).toNat).length = (l0.length - (rd t314 x5_1).toNat) from List.length_drop] <;> rfl) | (simp only [hji10]; rfl) | rfl | (simp only [List.length_drop,List.length_take]; rfl)) ?_; (with_reducible refine (sapperref13_Common.calls k1 _ _ (l0.drop ((rd t314 (ji10)) : Int).toNat) _ _ (l0.drop ((rd t314 x5_1) : Int).toNat) t324 _ ?side1 ?side2 ?side3 ?side4 A18.out).mono ?_)
              (case side1=>exact (Kd.C_below HR321.out HB.out))
              (case side2=>exact HC321.out)
              (case side3=>exact (Kd.C_below HR323.out HB.out))
              (case side4=>exact HC323.out)
              rintro e w' ⟨rfl,⟨nd,rfl⟩⟩; refine ⟨_,rfl,?_⟩; have p20 : 0≤(x5_1 : Int):=Qt; have q20 : (x5_1 : Int) < ((x10_1.length : Int) : Int):=Qt; obtain ⟨go20,co20,eo20,gb20,gl20,cl20,HG20⟩:=Kd.R_form HO_10.out (by omega)
              (first | cases eo20 | (injection eo20 with ea_ en_ ec_; (first | subst ea_ | (injection ea_ with ea_; subst ea_)); subst ec_; clear en_))
              have GB20:=Aside0.mk gb20; have GG20:=Aside0.mk HG20; clear gb20 gl20 HG20; obtain ⟨hx20_0,hf20_0⟩:=Kd.R_celln 0 HO_10.out (x5_1 : Int) p20 q20; replace p20:=eq_true p20; replace q20:=eq_true q20; have HP24:=Kd.R_putn HO_10.out (x5_1 : Int) t324; rw [← Ny325.out] at HP24; have HQ24:=Aside0.mk HP24; clear HP24; refine hK.out _ _ ⟨hHeld.1,hHeld.2⟩ (fun hHeld=>?_); clear hK K; refine norm_ (a':=?_) ?_ ?_; rotate_left; (· (show Act.put _ (some 32) _ = _; simp only [Qs]; rfl)); refine pureQ 16 33 18 131071 HT_.out ?_ ?_ ?_ ?_ ?_; rotate_left; (· (intro w'; go_simp; (with_reducible rfl))); rotate_left; (· (simp only [Qs]; rfl)); refine last_ (i:=17) (N:=none) (bA 18 262143) rfl rfl (one_of HT_.out (by kernel_rfl)) (by decide) (fun K hK=>?_); refine skip_ (w1:=?_) (by rfl) rfl ?_ ?_; rotate_left; (· (go_simp; rfl)); refine hK.out _ _ ?_; clear hK K; refine done_ (done_of HT_.out (by kernel_rfl)) ?_; (try go_wp2)
              go_roundg k1
              case measure=>have:=HK1.out; omega
              case rel=>exact ⟨(wrap64 (x5_1 + 1)),(y325),(by first | rfl | (simp; done) | (simp [*]; done)),H',⟨by have:=HK1.out; omega⟩,⟨by (with_reducible repeat first|apply Qa|apply Qb|apply Qc); exact Kd.R_mono (Kd.R_far (p:=⟨go20,(x5_1 : Int).toNat,none⟩) (Kd.R_mono HO_7.out (fun k_ hk=>(⟨hk,fun e_=>hk (by rw [e_]; rfl)⟩ : _∧k_ ≠ go20))) (fun _ hk=>hk.2) (.int .i64 t324)) (fun _ hk=>hk.1)⟩,⟨by (with_reducible repeat first|apply Qa|apply Qb|apply Qc); exact HQ24.out⟩,⟨by repeat (first | (with_reducible first | exact HB.out | apply below_alloc | apply pw_below_drewN | apply below_drew1 | refine below_set ?_ GB20.out) | exact HB.out)⟩⟩
             (· (rw [if_neg c19] at H; exact absurd H (by simp)))
            (· (rw [if_neg c17] at H; exact absurd H (by simp)))
           (· (rw [if_neg c16] at H; exact absurd H (by simp)))
          (· (rw [if_neg c15] at H; exact absurd H (by simp)))
         (· (rw [if_neg c14] at H; exact absurd H (by simp)))
        (· (rw [if_neg c13] at H; exact absurd H (by simp)))
       (· (rw [if_neg c12] at H; exact absurd H (by simp)))
      (· (rw [if_neg c11] at H; exact absurd H (by simp)))
     ·rw [if_neg c9] at H
      have c9b0 : decide (x5_1 < (t314.length : Int)) = false:=decide_eq_false c9; clear c9; obtain rfl:=Option.some.inj H
      go_wp2
      go_ret
      exact ⟨_,rfl,by (with_reducible repeat first|apply Qa|apply Qb|apply Qc); exact Kd.R_mono HO_10.out (fun _ hk=>trivial),HB.out⟩
  (· (rw [if_neg c4] at H; exact absurd H (by simp)))
 (· (rw [if_neg c3] at H; exact absurd H (by simp)))

end Go.Proofs.Ythcnnfahlhklgaa.X
