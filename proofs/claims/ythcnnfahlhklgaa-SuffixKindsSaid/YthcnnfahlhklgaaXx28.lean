-- Printed by wip/xprint.py of this repo (a wrapper of the session's own round the print).
import Derived.Test.YthcnnfahlhklgaaXx0
import Derived.Test.YthcnnfahlhklgaaXBA
namespace Go.Proofs.Ythcnnfahlhklgaa.X
open Go.RowKit Go.Proofs.YthcnnfahlhklgaaW.PrintWords Go.Proofs.YthcnnfahlhklgaaW.PrintLast Go.Proofs.YthcnnfahlhklgaaW.PrintMore
attribute [local go_sem] ptrOf_eql ptrOf_neq ptrOf_eqg ptrOf_neg str_leq str_geq str_gtr max2_int min2_int max_two min_two max_three min_three max_four min_four   -- for this text's walks alone
set_option linter.unusedVariables false
set_option linter.unusedSimpArgs false

/-! ### suffix_Index_leaf: function 58 -/
def suffix_Index_leaf.f (l0 : List (S82)) (a1 : Int) : Option (Int × Int × Int × Int):=if 0 < (l0.length : Int) then (if 0≤a1 then (if a1 < (((rd_T82 l0 0).f2).length : Int) then (if (rd ((rd_T82 l0 0).f2) a1) > 0 then (if 0≤(wrap64 ((rd ((rd_T82 l0 0).f2) a1) - 1)) then (if (wrap64 ((rd ((rd_T82 l0 0).f2) a1) - 1)) < (((rd_T82 l0 0).f1).length : Int) then (some (0,a1,rd ((rd_T82 l0 0).f2) a1,wrap64 (rd ((rd_T82 l0 0).f1) (wrap64 ((rd ((rd_T82 l0 0).f2) a1) - 1))))) else (none)) else (none)) else (some (0,a1,rd ((rd_T82 l0 0).f2) a1,(-1)))) else (none)) else (none)) else (none)
def suffix_Index_leaf.T3 : Bool × List (List Nat × List Nat):=(true,[([],[]),([0],[0]),([1],[1]),([2],[2]),([],[]),([4],[4]),([5],[5]),([3,6],[3,6]),([7],[7]),([8],[8]),([0,1,2,3,4,5,6,7,8,9],[]),([10,9,0,1,2,3,4,5,6,7,8,9],[9,10])])
def suffix_Index_leaf.B3 : List Nat:=[0,1,3,7,0,16,48,127,255,511,1023,2047]
theorem suffix_Index_leaf.tab3 : rtab .any (opsOf Try.f58 3) = suffix_Index_leaf.T3:=by kernel_rfl
theorem suffix_Index_leaf.bits3 : waitsOk suffix_Index_leaf.T3.2 suffix_Index_leaf.B3 = true:=by kernel_rfl
set_option maxHeartbeats 8000000 in
set_option maxRecDepth 100000 in
theorem suffix_Index_leaf.calls (A0 : Option Addr) (c0 : Nat) (l0 : List (S82)) (a1 : Int) (r1 : Int) (r2 : Int) (r3 : Int) (r4 : Int) (w : World) (hr0 : Kd.C k82 w A0 l0.length l0) (hc0 : l0.length≤c0) (h : suffix_Index_leaf.f l0 a1 = some (r1,r2,r3,r4)) :
  Calls Try.prog 58 #[ptrOf (.slice A0 l0.length c0),.int .i64 a1] w fun e w'=>e = .returned (.agg #[.int .i64 r1,.int .i64 r2,.int .i64 r3,.int .i64 r4])∧Below w.heap.size w w':=by
 have hu97:=Try.underlying97
 have HR0:=Aside0.mk hr0
 have HC0:=Aside0.mk hc0
 clear hr0 hc0
 have HB:=Aside0.mk (Below.refl w.heap.size w)
 have H : (if 0 < (l0.length : Int) then (if 0≤a1 then (if a1 < (((rd_T82 l0 0).f2).length : Int) then (if (rd ((rd_T82 l0 0).f2) a1) > 0 then (if 0≤(wrap64 ((rd ((rd_T82 l0 0).f2) a1) - 1)) then (if (wrap64 ((rd ((rd_T82 l0 0).f2) a1) - 1)) < (((rd_T82 l0 0).f1).length : Int) then (some (0,a1,rd ((rd_T82 l0 0).f2) a1,wrap64 (rd ((rd_T82 l0 0).f1) (wrap64 ((rd ((rd_T82 l0 0).f2) a1) - 1))))) else (none)) else (none)) else (some (0,a1,rd ((rd_T82 l0 0).f2) a1,(-1)))) else (none)) else (none)) else (none)) = some (r1,r2,r3,r4):=h
 clear h
 by_cases c3 : 0 < (l0.length : Int)
 ·rw [if_pos c3] at H
  have c3b0 : decide (0 < (l0.length : Int)) = true:=decide_eq_true c3
  have c3b1 : decide (0 < l0.length) = true:=decide_eq_true (by omega)
  clear c3
  by_cases c4 : 0≤a1
  ·rw [if_pos c4] at H
   have c4b0 : decide (0≤a1) = true:=decide_eq_true c4
   clear c4
   by_cases c5 : a1 < (((rd_T82 l0 0).f2).length : Int)
   ·rw [if_pos c5] at H
    have c5b0 : decide (a1 < (((rd_T82 l0 0).f2).length : Int)) = true:=decide_eq_true c5
    clear c5
    by_cases c6 : (rd ((rd_T82 l0 0).f2) a1) > 0
    ·rw [if_pos c6] at H
     have c6b0 : decide (0 < (rd ((rd_T82 l0 0).f2) a1)) = true:=decide_eq_true c6
     clear c6
     obtain ⟨ji7,hji7⟩ : ∃ j_ : Int,(wrap64 ((rd ((rd_T82 l0 0).f2) a1) - 1)) = j_:=⟨_,rfl⟩
     replace H : (if 0≤(ji7) then (if (ji7) < (((rd_T82 l0 0).f1).length : Int) then (some (0,a1,rd ((rd_T82 l0 0).f2) a1,wrap64 (rd ((rd_T82 l0 0).f1) (ji7)))) else (none)) else (none)) = some (r1,r2,r3,r4):=by first | (rw [hji7] at H; exact H) | (simp only [hji7] at H ⊢; exact H)
     have hji7w : (IntKind.i64.wrap ((rd ((rd_T82 l0 0).f2) a1) - 1)) = ji7:=(i64_w _).trans hji7
     by_cases c8 : 0≤(ji7)
     ·rw [if_pos c8] at H
      have c8b0 : decide (0≤(ji7)) = true:=decide_eq_true c8
      clear c8
      by_cases c9 : (ji7) < (((rd_T82 l0 0).f1).length : Int)
      ·rw [if_pos c9] at H
       have c9b0 : decide ((ji7) < (((rd_T82 l0 0).f1).length : Int)) = true:=decide_eq_true c9
       clear c9
       simp only [Option.some.injEq,Prod.mk.injEq] at H
       obtain ⟨rfl,rfl,rfl,rfl⟩:=H
       go_enter Try.func58,Try.ntmps58
       try go_wp2_with (first | (refine gate_dst (N:=4) rfl ?_; refine box_event ?hg (N:=4) ?hd (cs:=#[.int .i64 0,.int .i64 0,.int .i64 0,.int .i64 0]) (t:=97) ?hr ?_; (case hd=>rfl); (case hg=>rfl); (case hr=>first | (go_simp; done) | (go_simp; rfl)); intro gb333 hg w10 hbox hb; have n0_:=Aside0.mk (below_step HB.out hb); have n1_:=Aside0.mk (hbox); have n2_:=Aside0.mk ((by rw [hg]; exact (below_size HB.out) : w.heap.size≤gb333)); have n3_:=Aside0.mk ((by rw [hg]; exact (below_size HB.out) : w.heap.size≤gb333)); clear HB; have HB:=n0_; have BK333:=n1_; have GW333:=n2_; have GE333:=n3_; clear n0_ n1_ n2_ n3_; clear hb hbox hg; have p334 : 0≤(0 : Int):=(by omega); have q334 : 0 < (l0.length : Int):=Qt; obtain ⟨ad334,A334_1,c334_1,A334_2,c334_2,A334_3,c334_3,A334_4,c334_4,e334,hx334_0,hx334_1,hx334_2,hx334_3,hx334_4,hl334_1,hi334_1,hl334_2,hi334_2,hl334_3,hi334_3,hl334_4,hi334_4⟩:=at_T82 HR0.out 0 p334 q334; cases e334; have qi334 : (0 < l0.length) = True:=eq_true (by omega); (try rw [show ((0 : Int)).toNat = 0 from rfl] at hx334_0); (try rw [show 0 * 5 = 0 from rfl] at hx334_0); (try rw [Addr.add_zero'] at hx334_0); (try rw [show ((0 : Int)).toNat = 0 from rfl] at hx334_1); (try rw [show 0 * 5 = 0 from rfl] at hx334_1); (try rw [Addr.add_zero'] at hx334_1); (try rw [show ((0 : Int)).toNat = 0 from rfl] at hx334_2); (try rw [show 0 * 5 = 0 from rfl] at hx334_2); (try rw [Addr.add_zero'] at hx334_2); (try rw [show ((0 : Int)).toNat = 0 from rfl] at hx334_3); (try rw [show 0 * 5 = 0 from rfl] at hx334_3); (try rw [Addr.add_zero'] at hx334_3); (try rw [show ((0 : Int)).toNat = 0 from rfl] at hx334_4); (try rw [show 0 * 5 = 0 from rfl] at hx334_4); (try rw [Addr.add_zero'] at hx334_4); replace hx334_0:=(HB.out.cell (World.block_lt_of_cell? w _ hx334_0)).trans hx334_0; replace hx334_1:=(HB.out.cell (World.block_lt_of_cell? w _ hx334_1)).trans hx334_1; replace hx334_2:=(HB.out.cell (World.block_lt_of_cell? w _ hx334_2)).trans hx334_2; replace hx334_3:=(HB.out.cell (World.block_lt_of_cell? w _ hx334_3)).trans hx334_3; replace hx334_4:=(HB.out.cell (World.block_lt_of_cell? w _ hx334_4)).trans hx334_4; have HR334_1:=Aside0.mk hi334_1; have HC334_1:=Aside0.mk hl334_1; clear hi334_1 hl334_1; have HR334_2:=Aside0.mk hi334_2; have HC334_2:=Aside0.mk hl334_2; clear hi334_2 hl334_2; have HR334_3:=Aside0.mk hi334_3; have HC334_3:=Aside0.mk hl334_3; clear hi334_3 hl334_3; have HR334_4:=Aside0.mk hi334_4; have HC334_4:=Aside0.mk hl334_4; clear hi334_4 hl334_4; replace p334:=eq_true p334; replace q334:=eq_true q334; have hpt334 : ptrOf (.slice (some ad334) l0.length c0) = .pointer (some ad334):=ptrOf_pos _ _ _ (Qt); have p335 : 0≤(a1 : Int):=Qt; have q335 : a1 < (((rd_T82 l0 0).f2).length : Int):=Qt; obtain ⟨ad335,e335,hx335_0⟩:=Kd.at_int HR334_2.out a1 p335 q335; cases e335; replace hx335_0:=(HB.out.cell (World.block_lt_of_cell? w _ hx335_0)).trans hx335_0; replace p335:=eq_true p335; replace q335:=eq_true q335) | (refine gate_dst (N:=5) rfl ?_; refine box_event ?hg (N:=5) ?hd (cs:=#[.int .i64 0,.int .i64 0,.int .i64 0,.int .i64 0]) (t:=97) ?hr ?_; (case hd=>rfl); (case hg=>rfl); (case hr=>first | (go_simp; done) | (go_simp; rfl)); intro gb336 hg w11 hbox hb; have n0_:=Aside0.mk (blk_below (g:=gb333) (o:=.cells #[.int .i64 0,.int .i64 0,.int .i64 0,.int .i64 0] 97 (0,0)) (by (with_reducible repeat (first | refine blk_drewN ?_ _ | refine blk_drew ?_ | refine blk_alloc ?_ _)); exact BK333.out) hb); have n1_:=Aside0.mk (below_step HB.out hb); have n2_:=Aside0.mk (hbox); have n3_:=Aside0.mk ((by rw [hg]; exact (below_size HB.out) : w.heap.size≤gb336)); have n4_:=Aside0.mk ((by rw [hg]; exact (below_size HB.out) : w.heap.size≤gb336)); have n5_:=Aside0.mk ((by rw [hg]; exact Nat.ne_of_lt (blk_lt (g:=gb333) (o:=.cells #[.int .i64 0,.int .i64 0,.int .i64 0,.int .i64 0] 97 (0,0)) (by (with_reducible repeat (first | refine blk_drewN ?_ _ | refine blk_drew ?_ | refine blk_alloc ?_ _)); exact BK333.out)) : gb333 ≠ gb336)); have n6_:=Aside0.mk ((by rw [hg]; exact Nat.ne_of_gt (blk_lt (g:=gb333) (o:=.cells #[.int .i64 0,.int .i64 0,.int .i64 0,.int .i64 0] 97 (0,0)) (by (with_reducible repeat (first | refine blk_drewN ?_ _ | refine blk_drew ?_ | refine blk_alloc ?_ _)); exact BK333.out)) : gb336 ≠ gb333)); clear BK333; clear HB; have BK333:=n0_; have HB:=n1_; have BK336:=n2_; have GW336:=n3_; have GE336:=n4_; have NB333_336:=n5_; have NB336_333:=n6_; clear n0_ n1_ n2_ n3_ n4_ n5_ n6_; clear hb hbox hg; have hnb12:=NB336_333.out; have hnc12:=NB333_336.out; have hcz13_0 : w11.cell? ⟨gb336,0,none⟩ = some (.int .i64 0):=(blk_cell BK336.out 0).trans rfl; have hcz13_1 : w11.cell? ⟨gb336,1,none⟩ = some (.int .i64 0):=(blk_cell BK336.out 1).trans rfl; have hcz13_2 : w11.cell? ⟨gb336,2,none⟩ = some (.int .i64 0):=(blk_cell BK336.out 2).trans rfl; have hcz13_3 : w11.cell? ⟨gb336,3,none⟩ = some (.int .i64 0):=(blk_cell BK336.out 3).trans rfl; have hfz13_0:=blk_frozen BK336.out 0; have hfz13_1:=blk_frozen BK336.out 1; have hfz13_2:=blk_frozen BK336.out 2; have hfz13_3:=blk_frozen BK336.out 3))
       have n0_ : Aside0 (((((w11.setCell ⟨gb336,0,none⟩ (.int .i64 0)).setCell ⟨gb336,1,none⟩ (.int .i64 a1)).setCell ⟨gb336,2,none⟩ (.int .i64 (rd ((rd_T82 l0 0).f2) a1))).setCell ⟨gb336,3,none⟩ (.int .i64 (-1))).heap[gb333]? = some (.cells #[.int .i64 0,.int .i64 0,.int .i64 0,.int .i64 0] 97 (0,0))):=⟨by (with_reducible repeat (first | refine blk_drewN ?_ _ | refine blk_drew ?_ | refine blk_alloc ?_ _)); refine blk_far ?_ NB333_336.out _; (with_reducible repeat (first | refine blk_drewN ?_ _ | refine blk_drew ?_ | refine blk_alloc ?_ _)); refine blk_far ?_ NB333_336.out _; (with_reducible repeat (first | refine blk_drewN ?_ _ | refine blk_drew ?_ | refine blk_alloc ?_ _)); refine blk_far ?_ NB333_336.out _; (with_reducible repeat (first | refine blk_drewN ?_ _ | refine blk_drew ?_ | refine blk_alloc ?_ _)); refine blk_far ?_ NB333_336.out _; (with_reducible repeat (first | refine blk_drewN ?_ _ | refine blk_drew ?_ | refine blk_alloc ?_ _)); exact BK333.out⟩
       have n1_ : Aside0 (((((w11.setCell ⟨gb336,0,none⟩ (.int .i64 0)).setCell ⟨gb336,1,none⟩ (.int .i64 a1)).setCell ⟨gb336,2,none⟩ (.int .i64 (rd ((rd_T82 l0 0).f2) a1))).setCell ⟨gb336,3,none⟩ (.int .i64 (-1))).heap[gb336]? = some (.cells #[.int .i64 0,.int .i64 a1,.int .i64 (rd ((rd_T82 l0 0).f2) a1),.int .i64 (-1)] 97 (0,0))):=⟨by (with_reducible repeat (first | refine blk_drewN ?_ _ | refine blk_drew ?_ | refine blk_alloc ?_ _)); refine blk_put (cs:=#[.int .i64 0,.int .i64 a1,.int .i64 (rd ((rd_T82 l0 0).f2) a1),.int .i64 0]) ?_ 3 _ rfl; (with_reducible repeat (first | refine blk_drewN ?_ _ | refine blk_drew ?_ | refine blk_alloc ?_ _)); refine blk_put (cs:=#[.int .i64 0,.int .i64 a1,.int .i64 0,.int .i64 0]) ?_ 2 _ rfl; (with_reducible repeat (first | refine blk_drewN ?_ _ | refine blk_drew ?_ | refine blk_alloc ?_ _)); refine blk_put (cs:=#[.int .i64 0,.int .i64 0,.int .i64 0,.int .i64 0]) ?_ 1 _ rfl; (with_reducible repeat (first | refine blk_drewN ?_ _ | refine blk_drew ?_ | refine blk_alloc ?_ _)); refine blk_put (cs:=#[.int .i64 0,.int .i64 0,.int .i64 0,.int .i64 0]) ?_ 0 _ rfl; (with_reducible repeat (first | refine blk_drewN ?_ _ | refine blk_drew ?_ | refine blk_alloc ?_ _)); exact BK336.out⟩
       have n2_ : Aside0 (Below w.heap.size w ((((w11.setCell ⟨gb336,0,none⟩ (.int .i64 0)).setCell ⟨gb336,1,none⟩ (.int .i64 a1)).setCell ⟨gb336,2,none⟩ (.int .i64 (rd ((rd_T82 l0 0).f2) a1))).setCell ⟨gb336,3,none⟩ (.int .i64 (-1)))):=⟨by repeat (first | (with_reducible first | exact HB.out | apply below_alloc | apply pw_below_drewN | apply below_drew1 | refine below_set ?_ GE333.out | refine below_set ?_ GE336.out) | exact HB.out)⟩
       generalize ((((w11.setCell ⟨gb336,0,none⟩ (.int .i64 0)).setCell ⟨gb336,1,none⟩ (.int .i64 a1)).setCell ⟨gb336,2,none⟩ (.int .i64 (rd ((rd_T82 l0 0).f2) a1))).setCell ⟨gb336,3,none⟩ (.int .i64 (-1))) = w14 at n0_ n1_ n2_ ⊢
       have BK333:=n0_
       have BK336:=n1_
       have HB:=n2_
       clear n0_ n1_ n2_
       have n0_:=Aside0.mk (blk_drew BK333.out)
       have n1_:=Aside0.mk (blk_drew BK336.out)
       have n2_:=Aside0.mk (below_drew1 HB.out)
       clear BK333
       clear BK336
       clear HB
       have BK333:=n0_
       have BK336:=n1_
       have HB:=n2_
       clear n0_ n1_ n2_
       have p337 : 0≤(0 : Int):=(by omega)
       have q337 : 0 < (l0.length : Int):=Qt
       obtain ⟨ad337,A337_1,c337_1,A337_2,c337_2,A337_3,c337_3,A337_4,c337_4,e337,hx337_0,hx337_1,hx337_2,hx337_3,hx337_4,hl337_1,hi337_1,hl337_2,hi337_2,hl337_3,hi337_3,hl337_4,hi337_4⟩:=at_T82 HR0.out 0 p337 q337
       have hw337_4:=hx337_4
       (try rw [show ((0 : Int)).toNat = 0 from rfl] at hw337_4)
       (try rw [show 0 * 5 = 0 from rfl] at hw337_4)
       (try rw [Addr.add_zero'] at hw337_4)
       have hw337_3:=hx337_3
       (try rw [show ((0 : Int)).toNat = 0 from rfl] at hw337_3)
       (try rw [show 0 * 5 = 0 from rfl] at hw337_3)
       (try rw [Addr.add_zero'] at hw337_3)
       have hw337_2:=hx337_2
       (try rw [show ((0 : Int)).toNat = 0 from rfl] at hw337_2)
       (try rw [show 0 * 5 = 0 from rfl] at hw337_2)
       (try rw [Addr.add_zero'] at hw337_2)
       have hw337_1:=hx337_1
       (try rw [show ((0 : Int)).toNat = 0 from rfl] at hw337_1)
       (try rw [show 0 * 5 = 0 from rfl] at hw337_1)
       (try rw [Addr.add_zero'] at hw337_1)
       have hw337_0:=hx337_0
       (try rw [show ((0 : Int)).toNat = 0 from rfl] at hw337_0)
       (try rw [show 0 * 5 = 0 from rfl] at hw337_0)
       (try rw [Addr.add_zero'] at hw337_0)
       obtain rfl : ad334 = ad337:=(by injection e337)
       have qi337 : (0 < l0.length) = True:=eq_true (by omega)
       (try rw [show ((0 : Int)).toNat = 0 from rfl] at hx337_0)
       (try rw [show 0 * 5 = 0 from rfl] at hx337_0)
       (try rw [Addr.add_zero'] at hx337_0)
       (try rw [show ((0 : Int)).toNat = 0 from rfl] at hx337_1)
       (try rw [show 0 * 5 = 0 from rfl] at hx337_1)
       (try rw [Addr.add_zero'] at hx337_1)
       (try rw [show ((0 : Int)).toNat = 0 from rfl] at hx337_2)
       (try rw [show 0 * 5 = 0 from rfl] at hx337_2)
       (try rw [Addr.add_zero'] at hx337_2)
       (try rw [show ((0 : Int)).toNat = 0 from rfl] at hx337_3)
       (try rw [show 0 * 5 = 0 from rfl] at hx337_3)
       (try rw [Addr.add_zero'] at hx337_3)
       (try rw [show ((0 : Int)).toNat = 0 from rfl] at hx337_4)
       (try rw [show 0 * 5 = 0 from rfl] at hx337_4)
       (try rw [Addr.add_zero'] at hx337_4)
       replace hx337_0:=(HB.out.cell (World.block_lt_of_cell? w _ hx337_0)).trans hx337_0
       replace hx337_1:=(HB.out.cell (World.block_lt_of_cell? w _ hx337_1)).trans hx337_1
       replace hx337_2:=(HB.out.cell (World.block_lt_of_cell? w _ hx337_2)).trans hx337_2
       replace hx337_3:=(HB.out.cell (World.block_lt_of_cell? w _ hx337_3)).trans hx337_3
       replace hx337_4:=(HB.out.cell (World.block_lt_of_cell? w _ hx337_4)).trans hx337_4
       have HR337_1:=Aside0.mk hi337_1
       have HC337_1:=Aside0.mk hl337_1
       clear hi337_1 hl337_1
       have HR337_2:=Aside0.mk hi337_2
       have HC337_2:=Aside0.mk hl337_2
       clear hi337_2 hl337_2
       have HR337_3:=Aside0.mk hi337_3
       have HC337_3:=Aside0.mk hl337_3
       clear hi337_3 hl337_3
       have HR337_4:=Aside0.mk hi337_4
       have HC337_4:=Aside0.mk hl337_4
       clear hi337_4 hl337_4
       replace p337:=eq_true p337
       replace q337:=eq_true q337
       have hpt337 : ptrOf (.slice (some ad334) l0.length c0) = .pointer (some ad334):=ptrOf_pos _ _ _ (Qt)
       have p338 : 0≤((ji7) : Int):=Qt
       have q338 : (ji7) < (((rd_T82 l0 0).f1).length : Int):=Qt
       obtain ⟨ad338,e338,hx338_0⟩:=Kd.at_int HR337_1.out (ji7) p338 q338
       have hw338_0:=hx338_0
       cases e338
       replace hx338_0:=(HB.out.cell (World.block_lt_of_cell? w _ hx338_0)).trans hx338_0
       replace p338:=eq_true p338
       replace q338:=eq_true q338
       refine start_ (n:=12) (S:=fun w'=>w'.cell? ⟨gb336,0,none⟩ = some (.int .i64 0)∧w'.cell? ⟨gb336,1,none⟩ = some (.int .i64 a1)∧w'.cell? ⟨gb336,2,none⟩ = some (.int .i64 (rd ((rd_T82 l0 0).f2) a1))∧w'.cell? ⟨gb336,3,none⟩ = some (.int .i64 (-1))∧w'.cell? ad334 = some (.bool ((rd_T82 l0 0).f0))∧w'.cell? ⟨ad334.block,ad334.off + 1,none⟩ = some (.slice (some ad338) ((rd_T82 l0 0).f1).length c337_1)∧w'.cell? ⟨ad334.block,ad334.off + 2,none⟩ = some (.slice A337_2 ((rd_T82 l0 0).f2).length c337_2)∧w'.cell? ⟨ad334.block,ad334.off + 3,none⟩ = some (.slice A337_3 ((rd_T82 l0 0).f3).length c337_3)∧w'.cell? ⟨ad334.block,ad334.off + 4,none⟩ = some (.slice A337_4 ((rd_T82 l0 0).f4).length c337_4)∧w'.cell? (ad338.add ((ji7)).toNat) = some (.int .u8 (rd ((rd_T82 l0 0).f1) (ji7)))) (ds:=[11]) #[false,false,false,false,false,false,false,false,false,false,false,false] (by kernel_rfl) rfl rfl ⟨(blk_cell BK336.out 0).trans rfl,(blk_cell BK336.out 1).trans rfl,(blk_cell BK336.out 2).trans rfl,(blk_cell BK336.out 3).trans rfl,((HB.out.cell (World.block_lt_of_cell? w _ hw337_0)).trans hw337_0),((HB.out.cell (World.block_lt_of_cell? w _ hw337_1)).trans hw337_1),((HB.out.cell (World.block_lt_of_cell? w _ hw337_2)).trans hw337_2),((HB.out.cell (World.block_lt_of_cell? w _ hw337_3)).trans hw337_3),((HB.out.cell (World.block_lt_of_cell? w _ hw337_4)).trans hw337_4),((HB.out.cell (World.block_lt_of_cell? w _ hw338_0)).trans hw338_0)⟩ (fun hHeld=>?_); refine with_tabW suffix_Index_leaf.tab3 suffix_Index_leaf.bits3 (fun HT_ HW_=>?_)
       generalize w14.drew = w15 at BK333 BK336 HB HR337_1 HR337_2 HR337_3 HR337_4 hx337_0 hx337_1 hx337_2 hx337_3 hx337_4 hx338_0 hHeld ⊢
       refine pure_ (i:=0) (N:=some 18) (v:=?_) (a':=?_) #[true,false,false,false,false,false,false,false,false,false,false,false] rfl rfl (any_of HT_.out (by kernel_rfl)) (fun _ _ _ h=>h) (Or.inl ⟨rfl,?_⟩) ?_ ?_
       rotate_left
       ·intro w'
        go_simp
        with_reducible rfl
       rotate_left
       ·simp only [Qs]
        rfl
       refine pure_ (i:=1) (N:=some 19) (v:=?_) (a':=?_) #[true,true,false,false,false,false,false,false,false,false,false,false] rfl rfl (any_of HT_.out (by kernel_rfl)) (fun _ _ _ h=>h) (Or.inl ⟨rfl,?_⟩) ?_ ?_
       rotate_left
       ·intro w'
        go_simp
        with_reducible rfl
       rotate_left
       ·simp only [Qs]
        rfl
       refine pure_ (i:=2) (N:=some 20) (v:=?_) (a':=?_) #[true,true,true,false,false,false,false,false,false,false,false,false] rfl rfl (any_of HT_.out (by kernel_rfl)) (fun _ _ _ h=>h) (Or.inl ⟨rfl,?_⟩) ?_ ?_
       rotate_left
       ·intro w'
        go_simp
        with_reducible rfl
       rotate_left
       ·simp only [Qs]
        rfl
       refine pure_ (i:=4) (N:=some 22) (v:=?_) (a':=?_) #[true,true,true,false,true,false,false,false,false,false,false,false] rfl rfl (any_of HT_.out (by kernel_rfl)) (fun _ _ _ h=>h) (Or.inl ⟨rfl,?_⟩) ?_ ?_
       rotate_left
       ·intro w'
        go_simp
        with_reducible rfl
       rotate_left
       ·simp only [Qs]
        rfl
       refine take_ (i:=3) (N:=some 21) (v:=?_) (a':=?_) #[true,true,true,true,true,false,false,false,false,false,false,false] rfl rfl (take_ofW HT_.out HW_.out (by kernel_rfl)) (fun _ _ _ h=>h) (Or.inl ⟨rfl,?_⟩) hHeld ?_ ?_
       rotate_left
       ·rintro w' ⟨s0,s1,s2,s3,s4,s5,s6,s7,s8,s9⟩
        go_simp
        with_reducible rfl
       rotate_left
       ·simp only [Qs]
        rfl
       refine take_ (i:=5) (N:=some 23) (v:=?_) (a':=?_) #[true,true,true,true,true,true,false,false,false,false,false,false] rfl rfl (take_ofW HT_.out HW_.out (by kernel_rfl)) (fun _ _ _ h=>h) (Or.inl ⟨rfl,?_⟩) hHeld ?_ ?_
       rotate_left
       ·rintro w' ⟨s0,s1,s2,s3,s4,s5,s6,s7,s8,s9⟩
        go_simp
        with_reducible rfl
       rotate_left
       ·simp only [Qs]
        rfl
       refine pure_ (i:=6) (N:=some 24) (v:=?_) (a':=?_) #[true,true,true,true,true,true,true,false,false,false,false,false] rfl rfl (any_of HT_.out (by kernel_rfl)) (fun _ _ _ h=>h) (Or.inl ⟨rfl,?_⟩) ?_ ?_
       rotate_left
       ·intro w'
        go_simp
        with_reducible rfl
       rotate_left
       ·simp only [Qs]
        rfl
       refine pure_ (i:=7) (N:=some 25) (v:=?_) (a':=?_) #[true,true,true,true,true,true,true,true,false,false,false,false] rfl rfl (any_of HT_.out (by kernel_rfl)) (fun _ _ _ h=>h) (Or.inl ⟨rfl,?_⟩) ?_ ?_
       rotate_left
       ·intro w'
        go_simp
        with_reducible rfl
       rotate_left
       ·simp only [Qs]
        rfl
       refine take_ (i:=8) (N:=some 26) (v:=?_) (a':=?_) #[true,true,true,true,true,true,true,true,true,false,false,false] rfl rfl (take_ofW HT_.out HW_.out (by kernel_rfl)) (fun _ _ _ h=>h) (Or.inl ⟨rfl,?_⟩) hHeld ?_ ?_
       rotate_left
       ·rintro w' ⟨s0,s1,s2,s3,s4,s5,s6,s7,s8,s9⟩
        go_simp
        with_reducible rfl
       rotate_left
       ·simp only [Qs]
        rfl
       refine pure_ (i:=9) (N:=some 27) (v:=?_) (a':=?_) #[true,true,true,true,true,true,true,true,true,true,false,false] rfl rfl (any_of HT_.out (by kernel_rfl)) (fun _ _ _ h=>h) (Or.inl ⟨rfl,?_⟩) ?_ ?_
       rotate_left
       ·intro w'
        go_simp
        with_reducible rfl
       rotate_left
       ·simp only [Qs]
        rfl
       refine pure_ (i:=10) (N:=some 28) (v:=?_) (a':=?_) #[true,true,true,true,true,true,true,true,true,true,true,false] rfl rfl (any_of HT_.out (by kernel_rfl)) (fun _ _ _ h=>h) (Or.inl ⟨rfl,?_⟩) ?_ ?_
       rotate_left
       ·intro w'
        go_simp
        with_reducible rfl
       rotate_left
       ·simp only [Qs]
        rfl
       refine last_ (i:=11) (N:=none) #[true,true,true,true,true,true,true,true,true,true,true,true] rfl rfl (one_of HT_.out (by kernel_rfl)) (by decide) (fun K hK=>?_)
       have hs16 : w15.cell? ⟨gb336,3,none⟩ = some (.int .i64 (-1)):=(blk_cell BK336.out 3).trans rfl
       have hfs16:=blk_frozen BK336.out 3
       have hns16_0:=NB333_336.out
       have hms16_0:=NB336_333.out
       refine skip_ (w1:=?_) (rfl) rfl ?_ ?_
       rotate_left
       ·go_simp
        rfl
       refine hK.out _ _ ?_
       clear hK K
       refine done_ (done_of HT_.out (by kernel_rfl)) ?_
       have hcz17_0 : w15.cell? ⟨gb336,0,none⟩ = some (.int .i64 0):=(blk_cell BK336.out 0).trans rfl
       have hcz17_1 : w15.cell? ⟨gb336,1,none⟩ = some (.int .i64 a1):=(blk_cell BK336.out 1).trans rfl
       have hcz17_2 : w15.cell? ⟨gb336,2,none⟩ = some (.int .i64 (rd ((rd_T82 l0 0).f2) a1)):=(blk_cell BK336.out 2).trans rfl
       have hcz17_3 : w15.cell? ⟨gb336,3,none⟩ = some (.int .i64 (-1)):=(blk_cell BK336.out 3).trans rfl
       have hfz17_0:=blk_frozen BK336.out 0
       have hfz17_1:=blk_frozen BK336.out 1
       have hfz17_2:=blk_frozen BK336.out 2
       have hfz17_3:=blk_frozen BK336.out 3
       have hcz18_0 : w15.cell? ⟨gb333,0,none⟩ = some (.int .i64 0):=(blk_cell BK333.out 0).trans rfl
       have hcz18_1 : w15.cell? ⟨gb333,1,none⟩ = some (.int .i64 0):=(blk_cell BK333.out 1).trans rfl
       have hcz18_2 : w15.cell? ⟨gb333,2,none⟩ = some (.int .i64 0):=(blk_cell BK333.out 2).trans rfl
       have hcz18_3 : w15.cell? ⟨gb333,3,none⟩ = some (.int .i64 0):=(blk_cell BK333.out 3).trans rfl
       have hfz18_0:=blk_frozen BK333.out 0
       have hfz18_1:=blk_frozen BK333.out 1
       have hfz18_2:=blk_frozen BK333.out 2
       have hfz18_3:=blk_frozen BK333.out 3
       try go_wp2
       refine bodyPost_ret (results_cell_row rfl _ _ gb333 97 #[.int .i64 0,.int .i64 a1,.int .i64 (rd ((rd_T82 l0 0).f2) a1),.int .i64 (wrap64 (rd ((rd_T82 l0 0).f1) (ji7)))] (0,0) _ rfl (by (with_reducible repeat (first | refine blk_drewN ?_ _ | refine blk_drew ?_ | refine blk_alloc ?_ _)); refine blk_put (cs:=#[.int .i64 0,.int .i64 a1,.int .i64 (rd ((rd_T82 l0 0).f2) a1),.int .i64 0]) ?_ 3 _ rfl; (with_reducible repeat (first | refine blk_drewN ?_ _ | refine blk_drew ?_ | refine blk_alloc ?_ _)); refine blk_put (cs:=#[.int .i64 0,.int .i64 a1,.int .i64 0,.int .i64 0]) ?_ 2 _ rfl; (with_reducible repeat (first | refine blk_drewN ?_ _ | refine blk_drew ?_ | refine blk_alloc ?_ _)); refine blk_put (cs:=#[.int .i64 0,.int .i64 0,.int .i64 0,.int .i64 0]) ?_ 1 _ rfl; (with_reducible repeat (first | refine blk_drewN ?_ _ | refine blk_drew ?_ | refine blk_alloc ?_ _)); refine blk_put (cs:=#[.int .i64 0,.int .i64 0,.int .i64 0,.int .i64 0]) ?_ 0 _ rfl; (with_reducible repeat (first | refine blk_drewN ?_ _ | refine blk_drew ?_ | refine blk_alloc ?_ _)); refine blk_far ?_ NB333_336.out _; (with_reducible repeat (first | refine blk_drewN ?_ _ | refine blk_drew ?_ | refine blk_alloc ?_ _)); exact BK333.out) Try.underlying97 rfl (by kernel_rfl)) rfl ?_
       exact ⟨by first | rfl | (simp [errW_none,errW_some] <;> rfl) | (simp only [← hji7]; first | rfl | (simp [errW_none,errW_some] <;> rfl)) | (simp [*,errW_none,errW_some] <;> rfl),by repeat (first | (with_reducible first | exact HB.out | apply below_alloc | apply pw_below_drewN | apply below_drew1 | refine below_set ?_ GE333.out | refine below_set ?_ GE336.out) | exact HB.out)⟩
      ·rw [if_neg c9] at H
       exact absurd H (by simp)
     ·rw [if_neg c8] at H
      exact absurd H (by simp)
    ·rw [if_neg c6] at H
     have c6b0 : decide (0 < (rd ((rd_T82 l0 0).f2) a1)) = false:=decide_eq_false c6
     clear c6
     simp only [Option.some.injEq,Prod.mk.injEq] at H
     obtain ⟨rfl,rfl,rfl,rfl⟩:=H
     go_enter Try.func58,Try.ntmps58
     go_wp2_with (first | (refine gate_dst (N:=4) rfl ?_; refine box_event ?hg (N:=4) ?hd (cs:=#[.int .i64 0,.int .i64 0,.int .i64 0,.int .i64 0]) (t:=97) ?hr ?_; (case hd=>rfl); (case hg=>rfl); (case hr=>first | (go_simp; done) | (go_simp; rfl)); intro gb333 hg w19 hbox hb; have n0_:=Aside0.mk (below_step HB.out hb); have n1_:=Aside0.mk (hbox); have n2_:=Aside0.mk ((by rw [hg]; exact (below_size HB.out) : w.heap.size≤gb333)); have n3_:=Aside0.mk ((by rw [hg]; exact (below_size HB.out) : w.heap.size≤gb333)); clear HB; have HB:=n0_; have BK333:=n1_; have GW333:=n2_; have GE333:=n3_; clear n0_ n1_ n2_ n3_; clear hb hbox hg; have p334 : 0≤(0 : Int):=(by omega); have q334 : 0 < (l0.length : Int):=Qt; obtain ⟨ad334,A334_1,c334_1,A334_2,c334_2,A334_3,c334_3,A334_4,c334_4,e334,hx334_0,hx334_1,hx334_2,hx334_3,hx334_4,hl334_1,hi334_1,hl334_2,hi334_2,hl334_3,hi334_3,hl334_4,hi334_4⟩:=at_T82 HR0.out 0 p334 q334; cases e334; have qi334 : (0 < l0.length) = True:=eq_true (by omega); (try rw [show ((0 : Int)).toNat = 0 from rfl] at hx334_0); (try rw [show 0 * 5 = 0 from rfl] at hx334_0); (try rw [Addr.add_zero'] at hx334_0); (try rw [show ((0 : Int)).toNat = 0 from rfl] at hx334_1); (try rw [show 0 * 5 = 0 from rfl] at hx334_1); (try rw [Addr.add_zero'] at hx334_1); (try rw [show ((0 : Int)).toNat = 0 from rfl] at hx334_2); (try rw [show 0 * 5 = 0 from rfl] at hx334_2); (try rw [Addr.add_zero'] at hx334_2); (try rw [show ((0 : Int)).toNat = 0 from rfl] at hx334_3); (try rw [show 0 * 5 = 0 from rfl] at hx334_3); (try rw [Addr.add_zero'] at hx334_3); (try rw [show ((0 : Int)).toNat = 0 from rfl] at hx334_4); (try rw [show 0 * 5 = 0 from rfl] at hx334_4); (try rw [Addr.add_zero'] at hx334_4); replace hx334_0:=(HB.out.cell (World.block_lt_of_cell? w _ hx334_0)).trans hx334_0; replace hx334_1:=(HB.out.cell (World.block_lt_of_cell? w _ hx334_1)).trans hx334_1; replace hx334_2:=(HB.out.cell (World.block_lt_of_cell? w _ hx334_2)).trans hx334_2; replace hx334_3:=(HB.out.cell (World.block_lt_of_cell? w _ hx334_3)).trans hx334_3; replace hx334_4:=(HB.out.cell (World.block_lt_of_cell? w _ hx334_4)).trans hx334_4; have HR334_1:=Aside0.mk hi334_1; have HC334_1:=Aside0.mk hl334_1; clear hi334_1 hl334_1; have HR334_2:=Aside0.mk hi334_2; have HC334_2:=Aside0.mk hl334_2; clear hi334_2 hl334_2; have HR334_3:=Aside0.mk hi334_3; have HC334_3:=Aside0.mk hl334_3; clear hi334_3 hl334_3; have HR334_4:=Aside0.mk hi334_4; have HC334_4:=Aside0.mk hl334_4; clear hi334_4 hl334_4; replace p334:=eq_true p334; replace q334:=eq_true q334; have hpt334 : ptrOf (.slice (some ad334) l0.length c0) = .pointer (some ad334):=ptrOf_pos _ _ _ (Qt); have p335 : 0≤(a1 : Int):=Qt; have q335 : a1 < (((rd_T82 l0 0).f2).length : Int):=Qt; obtain ⟨ad335,e335,hx335_0⟩:=Kd.at_int HR334_2.out a1 p335 q335; cases e335; replace hx335_0:=(HB.out.cell (World.block_lt_of_cell? w _ hx335_0)).trans hx335_0; replace p335:=eq_true p335; replace q335:=eq_true q335) | (refine gate_dst (N:=5) rfl ?_; refine box_event ?hg (N:=5) ?hd (cs:=#[.int .i64 0,.int .i64 0,.int .i64 0,.int .i64 0]) (t:=97) ?hr ?_; (case hd=>rfl); (case hg=>rfl); (case hr=>first | (go_simp; done) | (go_simp; rfl)); intro gb336 hg w20 hbox hb; have n0_:=Aside0.mk (blk_below (g:=gb333) (o:=.cells #[.int .i64 0,.int .i64 0,.int .i64 0,.int .i64 0] 97 (0,0)) (by (with_reducible repeat (first | refine blk_drewN ?_ _ | refine blk_drew ?_ | refine blk_alloc ?_ _)); exact BK333.out) hb); have n1_:=Aside0.mk (below_step HB.out hb); have n2_:=Aside0.mk (hbox); have n3_:=Aside0.mk ((by rw [hg]; exact (below_size HB.out) : w.heap.size≤gb336)); have n4_:=Aside0.mk ((by rw [hg]; exact (below_size HB.out) : w.heap.size≤gb336)); have n5_:=Aside0.mk ((by rw [hg]; exact Nat.ne_of_lt (blk_lt (g:=gb333) (o:=.cells #[.int .i64 0,.int .i64 0,.int .i64 0,.int .i64 0] 97 (0,0)) (by (with_reducible repeat (first | refine blk_drewN ?_ _ | refine blk_drew ?_ | refine blk_alloc ?_ _)); exact BK333.out)) : gb333 ≠ gb336)); have n6_:=Aside0.mk ((by rw [hg]; exact Nat.ne_of_gt (blk_lt (g:=gb333) (o:=.cells #[.int .i64 0,.int .i64 0,.int .i64 0,.int .i64 0] 97 (0,0)) (by (with_reducible repeat (first | refine blk_drewN ?_ _ | refine blk_drew ?_ | refine blk_alloc ?_ _)); exact BK333.out)) : gb336 ≠ gb333)); clear BK333; clear HB; have BK333:=n0_; have HB:=n1_; have BK336:=n2_; have GW336:=n3_; have GE336:=n4_; have NB333_336:=n5_; have NB336_333:=n6_; clear n0_ n1_ n2_ n3_ n4_ n5_ n6_; clear hb hbox hg; have hnb21:=NB336_333.out; have hnc21:=NB333_336.out; have hcz22_0 : w20.cell? ⟨gb336,0,none⟩ = some (.int .i64 0):=(blk_cell BK336.out 0).trans rfl; have hcz22_1 : w20.cell? ⟨gb336,1,none⟩ = some (.int .i64 0):=(blk_cell BK336.out 1).trans rfl; have hcz22_2 : w20.cell? ⟨gb336,2,none⟩ = some (.int .i64 0):=(blk_cell BK336.out 2).trans rfl; have hcz22_3 : w20.cell? ⟨gb336,3,none⟩ = some (.int .i64 0):=(blk_cell BK336.out 3).trans rfl; have hfz22_0:=blk_frozen BK336.out 0; have hfz22_1:=blk_frozen BK336.out 1; have hfz22_2:=blk_frozen BK336.out 2; have hfz22_3:=blk_frozen BK336.out 3; have hcz23_0 : w20.cell? ⟨gb333,0,none⟩ = some (.int .i64 0):=(blk_cell BK333.out 0).trans rfl; have hcz23_1 : w20.cell? ⟨gb333,1,none⟩ = some (.int .i64 0):=(blk_cell BK333.out 1).trans rfl; have hcz23_2 : w20.cell? ⟨gb333,2,none⟩ = some (.int .i64 0):=(blk_cell BK333.out 2).trans rfl; have hcz23_3 : w20.cell? ⟨gb333,3,none⟩ = some (.int .i64 0):=(blk_cell BK333.out 3).trans rfl; have hfz23_0:=blk_frozen BK333.out 0; have hfz23_1:=blk_frozen BK333.out 1; have hfz23_2:=blk_frozen BK333.out 2; have hfz23_3:=blk_frozen BK333.out 3))
     refine bodyPost_ret (results_cell_row rfl _ _ gb333 97 #[.int .i64 0,.int .i64 a1,.int .i64 (rd ((rd_T82 l0 0).f2) a1),.int .i64 (-1)] (0,0) _ rfl (by (with_reducible repeat (first | refine blk_drewN ?_ _ | refine blk_drew ?_ | refine blk_alloc ?_ _)); refine blk_put (cs:=#[.int .i64 0,.int .i64 a1,.int .i64 (rd ((rd_T82 l0 0).f2) a1),.int .i64 0]) ?_ 3 _ rfl; (with_reducible repeat (first | refine blk_drewN ?_ _ | refine blk_drew ?_ | refine blk_alloc ?_ _)); refine blk_put (cs:=#[.int .i64 0,.int .i64 a1,.int .i64 0,.int .i64 0]) ?_ 2 _ rfl; (with_reducible repeat (first | refine blk_drewN ?_ _ | refine blk_drew ?_ | refine blk_alloc ?_ _)); refine blk_put (cs:=#[.int .i64 0,.int .i64 0,.int .i64 0,.int .i64 0]) ?_ 1 _ rfl; (with_reducible repeat (first | refine blk_drewN ?_ _ | refine blk_drew ?_ | refine blk_alloc ?_ _)); refine blk_put (cs:=#[.int .i64 0,.int .i64 0,.int .i64 0,.int .i64 0]) ?_ 0 _ rfl; (with_reducible repeat (first | refine blk_drewN ?_ _ | refine blk_drew ?_ | refine blk_alloc ?_ _)); refine blk_far ?_ NB333_336.out _; (with_reducible repeat (first | refine blk_drewN ?_ _ | refine blk_drew ?_ | refine blk_alloc ?_ _)); refine blk_far ?_ NB333_336.out _; (with_reducible repeat (first | refine blk_drewN ?_ _ | refine blk_drew ?_ | refine blk_alloc ?_ _)); refine blk_far ?_ NB333_336.out _; (with_reducible repeat (first | refine blk_drewN ?_ _ | refine blk_drew ?_ | refine blk_alloc ?_ _)); refine blk_far ?_ NB333_336.out _; (with_reducible repeat (first | refine blk_drewN ?_ _ | refine blk_drew ?_ | refine blk_alloc ?_ _)); exact BK333.out) Try.underlying97 rfl (by kernel_rfl)) rfl ?_
     exact ⟨by first | rfl | (simp [errW_none,errW_some] <;> rfl) | (simp [*,errW_none,errW_some] <;> rfl),by repeat (first | (with_reducible first | exact HB.out | apply below_alloc | apply pw_below_drewN | apply below_drew1 | refine below_set ?_ GE333.out | refine below_set ?_ GE336.out) | exact HB.out)⟩
   ·rw [if_neg c5] at H
    exact absurd H (by simp)
  ·rw [if_neg c4] at H
   exact absurd H (by simp)
 ·rw [if_neg c3] at H
  exact absurd H (by simp)

end Go.Proofs.Ythcnnfahlhklgaa.X
