-- Printed by wip/xprint.py of this repo (a wrapper of the session's own round the print).
import Derived.Test.YthcnnfahlhklgaaXx0
import Derived.Test.YthcnnfahlhklgaaXBA
import Derived.Test.YthcnnfahlhklgaaXx50
namespace Go.Proofs.Ythcnnfahlhklgaa.X
open Go.RowKit Go.Proofs.YthcnnfahlhklgaaW.PrintWords Go.Proofs.YthcnnfahlhklgaaW.PrintLast Go.Proofs.YthcnnfahlhklgaaW.PrintMore
attribute [local go_sem] ptrOf_eql ptrOf_neq ptrOf_eqg ptrOf_neg str_leq str_geq str_gtr max2_int min2_int max_two min_two max_three min_three max_four min_four   -- for this text's walks alone
set_option linter.unusedVariables false
set_option linter.unusedSimpArgs false

/-! ### sapperref13_repeat: function 65 -/
mutual
def sapperref13_repeat.l0 : Nat→List Int→List Int→Int→Int→Int→Option (Int × Int × Int × Bool)
 | 0,_,_,_,_,_=>none
 | k + 1,x0,x1,x2,x8,x9=>if (wrap64 (x9 + (x1.length : Int)))≤(x0.length : Int) then (if 0≤x9 then (if x9≤(wrap64 (x9 + (x1.length : Int))) then (if (strOfNums ((x0.take ((wrap64 (x9 + (x1.length : Int))) : Int).toNat).drop (x9 : Int).toNat)).toList = (strOfNums x1).toList then (if x8 < 0 then (sapperref13_repeat.j1 k x0 x1 x2 x9 x9) else (sapperref13_repeat.j1 k x0 x1 x2 x8 x9)) else (sapperref13_repeat.l0 k x0 x1 x2 x8 (wrap64 (x9 + 1)))) else (none)) else (none)) else (some (x8,(x1.length : Int),x2,true))
def sapperref13_repeat.j1 : Nat→List Int→List Int→Int→Int→Int→Option (Int × Int × Int × Bool)
 | 0,_,_,_,_,_=>none
 | k + 1,x0,x1,x2,x8,x9=>if x9 > 0 then (if 0≤(wrap64 (x9 - 1)) then (if (wrap64 (x9 - 1))≤(wrap64 (x9 + (x1.length : Int))) then (if (wrap64 (x9 + (x1.length : Int)))≤(x0.length : Int) then ((sapperref13_count.f k x0 ((x0.take ((wrap64 (x9 + (x1.length : Int))) : Int).toNat).drop ((wrap64 (x9 - 1)) : Int).toNat)).bind fun t346=>(if t346 ≥ x2 then (some (0,0,0,false)) else (if (wrap64 (x9 + (x1.length : Int))) < (x0.length : Int) then (if 0≤x9 then (if x9≤(wrap64 ((wrap64 (x9 + (x1.length : Int))) + 1)) then (if (wrap64 ((wrap64 (x9 + (x1.length : Int))) + 1))≤(x0.length : Int) then ((sapperref13_count.f k x0 ((x0.take ((wrap64 ((wrap64 (x9 + (x1.length : Int))) + 1)) : Int).toNat).drop (x9 : Int).toNat)).bind fun t348=>(if t348 ≥ x2 then (some (0,0,0,false)) else (sapperref13_repeat.l0 k x0 x1 x2 x8 (wrap64 (x9 + 1))))) else (none)) else (none)) else (none)) else (sapperref13_repeat.l0 k x0 x1 x2 x8 (wrap64 (x9 + 1)))))) else (none)) else (none)) else (none)) else (if (wrap64 (x9 + (x1.length : Int))) < (x0.length : Int) then (if 0≤x9 then (if x9≤(wrap64 ((wrap64 (x9 + (x1.length : Int))) + 1)) then (if (wrap64 ((wrap64 (x9 + (x1.length : Int))) + 1))≤(x0.length : Int) then ((sapperref13_count.f k x0 ((x0.take ((wrap64 ((wrap64 (x9 + (x1.length : Int))) + 1)) : Int).toNat).drop (x9 : Int).toNat)).bind fun t350=>(if t350 ≥ x2 then (some (0,0,0,false)) else (sapperref13_repeat.l0 k x0 x1 x2 x8 (wrap64 (x9 + 1))))) else (none)) else (none)) else (none)) else (sapperref13_repeat.l0 k x0 x1 x2 x8 (wrap64 (x9 + 1))))
end
def sapperref13_repeat.f (k : Nat) (l0 : List Int) (l1 : List Int) (a2 : Int) : Option (Int × Int × Int × Bool):=sapperref13_repeat.l0 k l0 l1 a2 (-1) 0
theorem sapperref13_repeat.mono_l : ∀ k,(∀ y0 y1 y2 y3 y4,LeO (sapperref13_repeat.l0 k y0 y1 y2 y3 y4) (sapperref13_repeat.l0 (k + 1) y0 y1 y2 y3 y4))∧(∀ y0 y1 y2 y3 y4,LeO (sapperref13_repeat.j1 k y0 y1 y2 y3 y4) (sapperref13_repeat.j1 (k + 1) y0 y1 y2 y3 y4))
 | 0=>⟨fun _ _ _ _ _ r h=>by simp [sapperref13_repeat.l0] at h,fun _ _ _ _ _ r h=>by simp [sapperref13_repeat.j1] at h⟩
 | k + 1=>by
  obtain ⟨ih0,ih1⟩:=sapperref13_repeat.mono_l k
  refine ⟨?_,?_⟩
  intro y0 y1 y2 y3 y4; unfold sapperref13_repeat.l0; rotate_left
  intro y0 y1 y2 y3 y4; unfold sapperref13_repeat.j1; rotate_left
  all_goals
   repeat' first
   | (with_reducible exact ih0 _ _ _ _ _)
   | (with_reducible exact ih1 _ _ _ _ _)
   | (with_reducible exact sapperref13_count.mono _ _ _)
   | (with_reducible exact LeO.refl _)
   | (with_reducible exact LeO.none _)
   | (with_reducible refine LeO.ite ?_ ?_)
   | (with_reducible refine LeO.bind ?_ (fun _=>?_))
   | exact ih0 _ _ _ _ _
   | exact ih1 _ _ _ _ _
   | exact sapperref13_count.mono _ _ _
   | exact LeO.none _
   | refine LeO.ite ?_ ?_
   | refine LeO.bind ?_ (fun _=>?_)
theorem sapperref13_repeat.mono : ∀ a0 a1 a2 k,LeO (sapperref13_repeat.f k a0 a1 a2) (sapperref13_repeat.f (k + 1) a0 a1 a2):=by
 intro a0 a1 a2 k
 obtain ⟨ih0,ih1⟩:=sapperref13_repeat.mono_l k
 unfold sapperref13_repeat.f
 repeat' first
   | (with_reducible exact ih0 _ _ _ _ _)
   | (with_reducible exact ih1 _ _ _ _ _)
   | (with_reducible exact sapperref13_count.mono _ _ _)
   | (with_reducible exact LeO.refl _)
   | (with_reducible exact LeO.none _)
   | (with_reducible refine LeO.ite ?_ ?_)
   | (with_reducible refine LeO.bind ?_ (fun _=>?_))
   | exact ih0 _ _ _ _ _
   | exact ih1 _ _ _ _ _
   | exact sapperref13_count.mono _ _ _
   | exact LeO.none _
   | refine LeO.ite ?_ ?_
   | refine LeO.bind ?_ (fun _=>?_)
set_option maxHeartbeats 8000000 in
set_option maxRecDepth 100000 in
theorem sapperref13_repeat.calls (k : Nat) (A0 : Option Addr) (c0 : Nat) (l0 : List Int) (A1 : Option Addr) (c1 : Nat) (l1 : List Int) (a2 : Int) (r1 : Int) (r2 : Int) (r3 : Int) (r4 : Bool) (w : World) (hr0 : Kd.C (Kd.int .u8) w A0 l0.length l0) (hc0 : l0.length≤c0) (hr1 : Kd.C (Kd.int .u8) w A1 l1.length l1) (hc1 : l1.length≤c1) (h : sapperref13_repeat.f k l0 l1 a2 = some (r1,r2,r3,r4)) :
  Calls Try.prog 65 #[.slice A0 l0.length c0,.slice A1 l1.length c1,.int .i64 a2] w fun e w'=>e = .returned (.tuple #[.agg #[.int .i64 r1,.int .i64 r2,.int .i64 r3],.bool r4])∧Below w.heap.size w w':=by
 have hu79:=Try.underlying79
 have HR0:=Aside0.mk hr0
 have HC0:=Aside0.mk hc0
 clear hr0 hc0
 have HR1:=Aside0.mk hr1
 have HC1:=Aside0.mk hc1
 clear hr1 hc1
 have HB:=Aside0.mk (Below.refl w.heap.size w)
 have H : (sapperref13_repeat.l0 k l0 l1 a2 (-1) 0) = some (r1,r2,r3,r4):=h
 clear h
 have H':=Aside0.mk H
 clear H
 go_enter Try.func65,Try.ntmps65
 go_wp2_with (first | (refine gate_dst (N:=6) rfl ?_; (try (refine gate_guard (rfl) ?_; dsimp only)); refine box_event ?hg (N:=6) ?hd (cs:=#[.int .i64 0,.int .i64 0,.int .i64 0]) (t:=79) ?hr ?_; (case hd=>rfl); (case hg=>rfl); (case hr=>first | (go_simp; done) | (go_simp; rfl)); intro gb343 hg w4 hbox hb; have n0_:=Aside0.mk (below_step HB.out hb); have n1_:=Aside0.mk (hbox); have n2_:=Aside0.mk ((by rw [hg]; exact (below_size HB.out) : w.heap.size≤gb343)); have n3_:=Aside0.mk ((by rw [hg]; exact (below_size HB.out) : w.heap.size≤gb343)); clear HB; have HB:=n0_; have BK343:=n1_; have GW343:=n2_; have GE343:=n3_; clear n0_ n1_ n2_ n3_; clear hb hbox hg))
 repeat (go_quiet (first | (refine gate_dst (N:=6) rfl ?_; (try (refine gate_guard (rfl) ?_; dsimp only)); refine box_event ?hg (N:=6) ?hd (cs:=#[.int .i64 0,.int .i64 0,.int .i64 0]) (t:=79) ?hr ?_; (case hd=>rfl); (case hg=>rfl); (case hr=>first | (go_simp; done) | (go_simp; rfl)); intro gb343 hg w4 hbox hb; have n0_:=Aside0.mk (below_step HB.out hb); have n1_:=Aside0.mk (hbox); have n2_:=Aside0.mk ((by rw [hg]; exact (below_size HB.out) : w.heap.size≤gb343)); have n3_:=Aside0.mk ((by rw [hg]; exact (below_size HB.out) : w.heap.size≤gb343)); clear HB; have HB:=n0_; have BK343:=n1_; have GW343:=n2_; have GE343:=n3_; clear n0_ n1_ n2_ n3_; clear hb hbox hg)); try go_wp2_with (first | (refine gate_dst (N:=6) rfl ?_; (try (refine gate_guard (rfl) ?_; dsimp only)); refine box_event ?hg (N:=6) ?hd (cs:=#[.int .i64 0,.int .i64 0,.int .i64 0]) (t:=79) ?hr ?_; (case hd=>rfl); (case hg=>rfl); (case hr=>first | (go_simp; done) | (go_simp; rfl)); intro gb343 hg w4 hbox hb; have n0_:=Aside0.mk (below_step HB.out hb); have n1_:=Aside0.mk (hbox); have n2_:=Aside0.mk ((by rw [hg]; exact (below_size HB.out) : w.heap.size≤gb343)); have n3_:=Aside0.mk ((by rw [hg]; exact (below_size HB.out) : w.heap.size≤gb343)); clear HB; have HB:=n0_; have BK343:=n1_; have GW343:=n2_; have GE343:=n3_; clear n0_ n1_ n2_ n3_; clear hb hbox hg)))
 go_loopg [8,9] k (fun kq v8 v9 w'=>∃ (x8_1 : Int) (x9_1 : Int) (x344000_1 : Int) (x344001_1 : Int) (x344002_1 : Int),v8 = .int .i64 x8_1∧v9 = .int .i64 x9_1∧Aside0 (sapperref13_repeat.l0 kq l0 l1 a2 x8_1 x9_1 = some (r1,r2,r3,r4))∧Aside0 (kq≤k)∧Aside0 (w'.heap[gb343]? = some (.cells #[.int .i64 x344000_1,.int .i64 x344001_1,.int .i64 x344002_1] 79 (0,0)))∧Aside0 (Below w.heap.size w w'))
 case atStart=>exact ⟨((-1)),(0),(0),(0),(0),(by first | rfl | (simp; done) | (simp [*]; done)),(by first | rfl | (simp; done) | (simp [*]; done)),H',⟨Nat.le_refl _⟩,⟨by (with_reducible repeat (first | refine blk_drewN ?_ _ | refine blk_drew ?_ | refine blk_alloc ?_ _)); exact BK343.out⟩,⟨by repeat (first | (with_reducible first | exact HB.out | apply below_alloc | apply pw_below_drewN | apply below_drew1 | refine below_set ?_ GE343.out) | exact HB.out)⟩⟩
 case round =>
  clear H'
  try clear c1
  try clear p2
  obtain ⟨x8_1,x9_1,x344000_1,x344001_1,x344002_1,rfl,rfl,HA,HK1,BK343,HB⟩:=hrel
  cases gk with
  | zero=>exact absurd HA.out (by simp [sapperref13_repeat.l0])
  | succ k1 =>
   have H:=HA.out
   clear HA
   simp only [sapperref13_repeat.l0] at H
   by_cases c5 : (wrap64 (x9_1 + (l1.length : Int)))≤(l0.length : Int)
   ·rw [if_pos c5] at H
    have c5b0 : decide ((wrap64 (x9_1 + (l1.length : Int)))≤(l0.length : Int)) = true:=decide_eq_true c5
    clear c5
    by_cases c6 : 0≤x9_1
    ·rw [if_pos c6] at H
     have c6b0:=eq_true c6
     have c6b1 : decide (0≤x9_1) = true:=decide_eq_true c6
     clear c6
     by_cases c7 : x9_1≤(wrap64 (x9_1 + (l1.length : Int)))
     ·rw [if_pos c7] at H
      have c7b0:=eq_true c7
      have c7b1 : decide (x9_1≤(wrap64 (x9_1 + (l1.length : Int)))) = true:=decide_eq_true c7
      have c8b0:=eq_true (Qt : (wrap64 (x9_1 + (l1.length : Int)))≤(l0.length : Int))
      by_cases c9 : (strOfNums ((l0.take ((wrap64 (x9_1 + (l1.length : Int))) : Int).toNat).drop (x9_1 : Int).toNat)).toList = (strOfNums l1).toList
      ·rw [if_pos c9] at H
       have c9b0 : ((strOfNums ((l0.take ((wrap64 (x9_1 + (l1.length : Int))) : Int).toNat).drop (x9_1 : Int).toNat)).toList == (strOfNums l1).toList) = true:=beq_iff_eq.mpr c9
       have c9b1 : ((strOfNums ((l0.take ((wrap64 (x9_1 + (l1.length : Int))) : Int).toNat).drop (x9_1 : Int).toNat)).toList != (strOfNums l1).toList) = false:=bne_eq_false_iff_eq.mpr c9
       clear c9
       have HC10:=Aside0.mk H
       clear H
       obtain ⟨i011,hi011,_,hsz11,_⟩:=info_parts info5
       obtain ⟨A11,hcut11,hA11,hC11⟩:=print_mid_of (P:=Try.prog) (Value.int .u8) 0 23 5 .i64 .i64 Try.underlying23 hi011 hsz11 A0 c0 l0 x9_1 (wrap64 (x9_1 + (l1.length : Int))) (Qt) (by first | omega | exact Qt) (Qt) HC0.out
       (try (have hws6:=i64_w (x9_1 + (l1.length : Int))))
       have HR344:=Aside0.mk (Kd.C_of_reads (h1:=fun _=>rfl) (hA11 _ (Kd.reads_of_C HR0.out)))
       have HC344:=Aside0.mk hC11
       clear hA11 hC11 hi011 hsz11
       have hcv12:=Kd.C_string (P:=Try.prog) (A:=A11) (c:=(c0 - x9_1.toNat)) Try.underlying23 Try.underlying5 Try.underlying9 (Kd.C_below HR344.out HB.out)
       (try (have hcv12k:=C_string0 (P:=Try.prog) (A:=A11) (c:=(c0 - x9_1.toNat)) Try.underlying23 Try.underlying5 Try.underlying9 (Kd.C_below HR344.out HB.out)))
       (try (have hcv12n:=C_string1 (P:=Try.prog) (A:=A11) (c:=(c0 - x9_1.toNat)) Try.underlying23 Try.underlying5 Try.underlying9 (Kd.C_below HR344.out HB.out)))
       (try (have hcv12m:=C_string2 (P:=Try.prog) (A:=A11) (c:=(c0 - x9_1.toNat)) Try.underlying23 Try.underlying5 Try.underlying9 (Kd.C_below HR344.out HB.out)))
       have hcv13:=Kd.C_string (P:=Try.prog) (A:=A1) (c:=c1) Try.underlying23 Try.underlying5 Try.underlying9 (Kd.C_below HR1.out HB.out)
       (try (have hcv13k:=C_string0 (P:=Try.prog) (A:=A1) (c:=c1) Try.underlying23 Try.underlying5 Try.underlying9 (Kd.C_below HR1.out HB.out)))
       (try (have hcv13n:=C_string1 (P:=Try.prog) (A:=A1) (c:=c1) Try.underlying23 Try.underlying5 Try.underlying9 (Kd.C_below HR1.out HB.out)))
       (try (have hcv13m:=C_string2 (P:=Try.prog) (A:=A1) (c:=c1) Try.underlying23 Try.underlying5 Try.underlying9 (Kd.C_below HR1.out HB.out)))
       go_upto_if 31 with (fail)
       repeat (go_quiet (fail); go_upto_if 31 with (fail))
       go_cut [8] (fun v8 wc=>∃ (kq : Nat) (x8_9 : Int),v8 = .int .i64 x8_9∧Aside0 (sapperref13_repeat.j1 kq l0 l1 a2 x8_9 x9_1 = some (r1,r2,r3,r4))∧Aside0 (kq≤k1)∧Aside0 (wc.heap[gb343]? = some (.cells #[.int .i64 x344000_1,.int .i64 x344001_1,.int .i64 x344002_1] 79 (0,0)))∧Aside0 (Below w.heap.size w wc))
       case first =>
        have H:=HC10.out
        clear HC10
        by_cases c14 : x8_1 < 0
        ·rw [if_pos c14] at H
         have c14b0 : decide (x8_1 < 0) = true:=decide_eq_true c14
         clear c14
         (first | rw [c14b0] | rw [c14b1] | (simp only [i64_w,i32_w]; rw [c14b0]) | skip)
         have H':=Aside0.mk H
         clear H
         go_wp2
         repeat (go_quiet (fail); try go_wp2)
         go_meet
         case rel=>exact ⟨_,(x9_1),(by first | rfl | (simp; done) | (simp [*]; done)),H',⟨by have:=HK1.out; first | omega | exact Nat.le_refl _⟩,⟨by (with_reducible repeat (first | refine blk_drewN ?_ _ | refine blk_drew ?_ | refine blk_alloc ?_ _)); exact BK343.out⟩,⟨by repeat (first | (with_reducible first | exact HB.out | apply below_alloc | apply pw_below_drewN | apply below_drew1 | refine below_set ?_ GE343.out) | exact HB.out)⟩⟩
        ·rw [if_neg c14] at H
         have c14b0 : decide (x8_1 < 0) = false:=decide_eq_false c14
         clear c14
         (first | rw [c14b0] | rw [c14b1] | (simp only [i64_w,i32_w]; rw [c14b0]) | skip)
         have H':=Aside0.mk H
         clear H
         go_wp2
         repeat (go_quiet (fail); try go_wp2)
         go_meet
         case rel=>exact ⟨_,(x8_1),(by first | rfl | (simp; done) | (simp [*]; done)),H',⟨by have:=HK1.out; first | omega | exact Nat.le_refl _⟩,⟨by (with_reducible repeat (first | refine blk_drewN ?_ _ | refine blk_drew ?_ | refine blk_alloc ?_ _)); exact BK343.out⟩,⟨by repeat (first | (with_reducible first | exact HB.out | apply below_alloc | apply pw_below_drewN | apply below_drew1 | refine below_set ?_ GE343.out) | exact HB.out)⟩⟩
       case rest =>
        clear HC10
        try clear c1
        try clear hcv1
        try clear p2
        try clear c5
        try clear c5b0
        try clear c6
        try clear c6b0
        try clear c6b1
        try clear p6
        try clear c7
        try clear c7b0
        try clear c7b1
        try clear c8
        try clear c8b0
        try clear c9
        try clear c9b0
        try clear c9b1
        try clear hcv12
        try clear hcv13
        try clear c14
        try clear c14b0
        try clear p2
        obtain ⟨kq,x8_9,rfl,HA,HJ9,BK343,HB⟩:=hcut
        cases kq with
        | zero=>exact absurd HA.out (by simp [sapperref13_repeat.j1])
        | succ kj9 =>
         have H:=HA.out
         clear HA
         simp only [sapperref13_repeat.j1] at H
         by_cases c15 : x9_1 > 0
         ·rw [if_pos c15] at H
          have c15b0 : decide (0 < x9_1) = true:=decide_eq_true c15
          clear c15
          obtain ⟨ji16,hji16⟩ : ∃ j_ : Int,(wrap64 (x9_1 - 1)) = j_:=⟨_,rfl⟩
          replace H : (if 0≤(ji16) then (if (ji16)≤(wrap64 (x9_1 + (l1.length : Int))) then (if (wrap64 (x9_1 + (l1.length : Int)))≤(l0.length : Int) then ((sapperref13_count.f kj9 l0 ((l0.take ((wrap64 (x9_1 + (l1.length : Int))) : Int).toNat).drop ((ji16) : Int).toNat)).bind fun t346=>(if t346 ≥ a2 then (some (0,0,0,false)) else (if (wrap64 (x9_1 + (l1.length : Int))) < (l0.length : Int) then (if 0≤x9_1 then (if x9_1≤(wrap64 ((wrap64 (x9_1 + (l1.length : Int))) + 1)) then (if (wrap64 ((wrap64 (x9_1 + (l1.length : Int))) + 1))≤(l0.length : Int) then ((sapperref13_count.f kj9 l0 ((l0.take ((wrap64 ((wrap64 (x9_1 + (l1.length : Int))) + 1)) : Int).toNat).drop (x9_1 : Int).toNat)).bind fun t348=>(if t348 ≥ a2 then (some (0,0,0,false)) else (sapperref13_repeat.l0 kj9 l0 l1 a2 x8_9 (wrap64 (x9_1 + 1))))) else (none)) else (none)) else (none)) else (sapperref13_repeat.l0 kj9 l0 l1 a2 x8_9 (wrap64 (x9_1 + 1)))))) else (none)) else (none)) else (none)) = some (r1,r2,r3,r4):=by first | (rw [hji16] at H; exact H) | (simp only [hji16] at H ⊢; exact H)
          have hji16w : (IntKind.i64.wrap (x9_1 - 1)) = ji16:=(i64_w _).trans hji16
          by_cases c17 : 0≤(ji16)
          ·rw [if_pos c17] at H
           have c17b0:=eq_true c17
           have c17b1 : decide (0≤(ji16)) = true:=decide_eq_true c17
           clear c17
           by_cases c18 : (ji16)≤(wrap64 (x9_1 + (l1.length : Int)))
           ·rw [if_pos c18] at H
            have c18b0:=eq_true c18
            have c18b1 : decide ((ji16)≤(wrap64 (x9_1 + (l1.length : Int)))) = true:=decide_eq_true c18
            by_cases c19 : (wrap64 (x9_1 + (l1.length : Int)))≤(l0.length : Int)
            ·rw [if_pos c19] at H
             have c19b0:=eq_true c19
             have c19b1 : decide ((wrap64 (x9_1 + (l1.length : Int)))≤(l0.length : Int)) = true:=decide_eq_true c19
             replace H:=Option.bind_eq_some_iff.mp H
             obtain ⟨t346,A200,H⟩:=H
             replace H : (if t346 ≥ a2 then (some (0,0,0,false)) else (if (wrap64 (x9_1 + (l1.length : Int))) < (l0.length : Int) then (if 0≤x9_1 then (if x9_1≤(wrap64 ((wrap64 (x9_1 + (l1.length : Int))) + 1)) then (if (wrap64 ((wrap64 (x9_1 + (l1.length : Int))) + 1))≤(l0.length : Int) then ((sapperref13_count.f kj9 l0 ((l0.take ((wrap64 ((wrap64 (x9_1 + (l1.length : Int))) + 1)) : Int).toNat).drop (x9_1 : Int).toNat)).bind fun t348=>(if t348 ≥ a2 then (some (0,0,0,false)) else (sapperref13_repeat.l0 kj9 l0 l1 a2 x8_9 (wrap64 (x9_1 + 1))))) else (none)) else (none)) else (none)) else (sapperref13_repeat.l0 kj9 l0 l1 a2 x8_9 (wrap64 (x9_1 + 1))))) = some (r1,r2,r3,r4):=H
             have A20:=Aside0.mk A200
             clear A200
             by_cases c21 : t346 ≥ a2
             ·rw [if_pos c21] at H
              have c21b0 : decide (a2≤t346) = true:=decide_eq_true c21
              clear c21
              simp only [Option.some.injEq,Prod.mk.injEq] at H
              obtain ⟨rfl,rfl,rfl,rfl⟩:=H
              obtain ⟨i022,hi022,_,hsz22,_⟩:=info_parts info5
              obtain ⟨A22,hcut22,hA22,hC22⟩:=print_mid_of (P:=Try.prog) (Value.int .u8) 0 23 5 .i64 .i64 Try.underlying23 hi022 hsz22 A0 c0 l0 (ji16) (wrap64 (x9_1 + (l1.length : Int))) (Qt) (by first | omega | exact Qt) (Qt) HC0.out
              (try (have hws7:=i64_w (x9_1 + (l1.length : Int))))
              have HR345:=Aside0.mk (Kd.C_of_reads (h1:=fun _=>rfl) (hA22 _ (Kd.reads_of_C HR0.out)))
              have HC345:=Aside0.mk hC22
              clear hA22 hC22 hi022 hsz22
              go_wp2_with (first | (go_at_call 64; (try rw [show ((wrap64 (x9_1 + (l1.length : Int))) : Int).toNat - ((ji16) : Int).toNat = ((l0.take ((wrap64 (x9_1 + (l1.length : Int))) : Int).toNat).drop ((ji16) : Int).toNat).length from by rw [List.length_drop,List.length_take]; have h_ : ((wrap64 (x9_1 + (l1.length : Int))) : Int)≤(l0.length : Int):=Qt; omega]); (with_reducible refine (sapperref13_count.calls kj9 _ _ l0 _ _ ((l0.take ((wrap64 (x9_1 + (l1.length : Int))) : Int).toNat).drop ((ji16) : Int).toNat) t346 _ ?side1 ?side2 ?side3 ?side4 A20.out).mono ?_); (case side1=>repeat (first | exact (Kd.C_below HR0.out HB.out) | (with_reducible first|refine Qd ?_ _|refine Qe ?_ _|refine Qf ?_))); (case side2=>exact HC0.out); (case side3=>repeat (first | exact (Kd.C_below HR345.out HB.out) | (with_reducible first|refine Qd ?_ _|refine Qe ?_ _|refine Qf ?_))); (case side4=>exact HC345.out); rintro e w' ⟨rfl,⟨nd,rfl⟩⟩; (try first | exact ⟨rfl,_,World.drewN_drewN _ _ _⟩ | exact ⟨rfl,_,Eq.trans (World.drewN_drewN _ _ _) (congrArg (World.drewN _) (Nat.add_assoc _ _ _))⟩); have hcz23_0 : wc.cell? ⟨gb343,0,none⟩ = some (.int .i64 x344000_1):=(blk_cell BK343.out 0).trans rfl; have hcz23_1 : wc.cell? ⟨gb343,1,none⟩ = some (.int .i64 x344001_1):=(blk_cell BK343.out 1).trans rfl; have hcz23_2 : wc.cell? ⟨gb343,2,none⟩ = some (.int .i64 x344002_1):=(blk_cell BK343.out 2).trans rfl; have hfz23_0:=blk_frozen BK343.out 0; have hfz23_1:=blk_frozen BK343.out 1; have hfz23_2:=blk_frozen BK343.out 2))
              repeat (go_quiet (first | (go_at_call 64; (try rw [show ((wrap64 (x9_1 + (l1.length : Int))) : Int).toNat - ((ji16) : Int).toNat = ((l0.take ((wrap64 (x9_1 + (l1.length : Int))) : Int).toNat).drop ((ji16) : Int).toNat).length from by rw [List.length_drop,List.length_take]; have h_ : ((wrap64 (x9_1 + (l1.length : Int))) : Int)≤(l0.length : Int):=Qt; omega]); (with_reducible refine (sapperref13_count.calls kj9 _ _ l0 _ _ ((l0.take ((wrap64 (x9_1 + (l1.length : Int))) : Int).toNat).drop ((ji16) : Int).toNat) t346 _ ?side1 ?side2 ?side3 ?side4 A20.out).mono ?_); (case side1=>repeat (first | exact (Kd.C_below HR0.out HB.out) | (with_reducible first|refine Qd ?_ _|refine Qe ?_ _|refine Qf ?_))); (case side2=>exact HC0.out); (case side3=>repeat (first | exact (Kd.C_below HR345.out HB.out) | (with_reducible first|refine Qd ?_ _|refine Qe ?_ _|refine Qf ?_))); (case side4=>exact HC345.out); rintro e w' ⟨rfl,⟨nd,rfl⟩⟩; (try first | exact ⟨rfl,_,World.drewN_drewN _ _ _⟩ | exact ⟨rfl,_,Eq.trans (World.drewN_drewN _ _ _) (congrArg (World.drewN _) (Nat.add_assoc _ _ _))⟩); have hcz23_0 : wc.cell? ⟨gb343,0,none⟩ = some (.int .i64 x344000_1):=(blk_cell BK343.out 0).trans rfl; have hcz23_1 : wc.cell? ⟨gb343,1,none⟩ = some (.int .i64 x344001_1):=(blk_cell BK343.out 1).trans rfl; have hcz23_2 : wc.cell? ⟨gb343,2,none⟩ = some (.int .i64 x344002_1):=(blk_cell BK343.out 2).trans rfl; have hfz23_0:=blk_frozen BK343.out 0; have hfz23_1:=blk_frozen BK343.out 1; have hfz23_2:=blk_frozen BK343.out 2)); try go_wp2_with (first | (go_at_call 64; (try rw [show ((wrap64 (x9_1 + (l1.length : Int))) : Int).toNat - ((ji16) : Int).toNat = ((l0.take ((wrap64 (x9_1 + (l1.length : Int))) : Int).toNat).drop ((ji16) : Int).toNat).length from by rw [List.length_drop,List.length_take]; have h_ : ((wrap64 (x9_1 + (l1.length : Int))) : Int)≤(l0.length : Int):=Qt; omega]); (with_reducible refine (sapperref13_count.calls kj9 _ _ l0 _ _ ((l0.take ((wrap64 (x9_1 + (l1.length : Int))) : Int).toNat).drop ((ji16) : Int).toNat) t346 _ ?side1 ?side2 ?side3 ?side4 A20.out).mono ?_); (case side1=>repeat (first | exact (Kd.C_below HR0.out HB.out) | (with_reducible first|refine Qd ?_ _|refine Qe ?_ _|refine Qf ?_))); (case side2=>exact HC0.out); (case side3=>repeat (first | exact (Kd.C_below HR345.out HB.out) | (with_reducible first|refine Qd ?_ _|refine Qe ?_ _|refine Qf ?_))); (case side4=>exact HC345.out); rintro e w' ⟨rfl,⟨nd,rfl⟩⟩; (try first | exact ⟨rfl,_,World.drewN_drewN _ _ _⟩ | exact ⟨rfl,_,Eq.trans (World.drewN_drewN _ _ _) (congrArg (World.drewN _) (Nat.add_assoc _ _ _))⟩); have hcz23_0 : wc.cell? ⟨gb343,0,none⟩ = some (.int .i64 x344000_1):=(blk_cell BK343.out 0).trans rfl; have hcz23_1 : wc.cell? ⟨gb343,1,none⟩ = some (.int .i64 x344001_1):=(blk_cell BK343.out 1).trans rfl; have hcz23_2 : wc.cell? ⟨gb343,2,none⟩ = some (.int .i64 x344002_1):=(blk_cell BK343.out 2).trans rfl; have hfz23_0:=blk_frozen BK343.out 0; have hfz23_1:=blk_frozen BK343.out 1; have hfz23_2:=blk_frozen BK343.out 2)))
              refine bodyPost_ret (results_ct rfl _ _ gb343 79 #[.int .i64 0,.int .i64 0,.int .i64 0] (0,0) _ rfl (by (with_reducible repeat (first | refine blk_drewN ?_ _ | refine blk_drew ?_ | refine blk_alloc ?_ _)); refine blk_put (cs:=#[.int .i64 0,.int .i64 0,.int .i64 x344002_1]) ?_ 2 _ rfl; (with_reducible repeat (first | refine blk_drewN ?_ _ | refine blk_drew ?_ | refine blk_alloc ?_ _)); refine blk_put (cs:=#[.int .i64 0,.int .i64 x344001_1,.int .i64 x344002_1]) ?_ 1 _ rfl; (with_reducible repeat (first | refine blk_drewN ?_ _ | refine blk_drew ?_ | refine blk_alloc ?_ _)); refine blk_put (cs:=#[.int .i64 x344000_1,.int .i64 x344001_1,.int .i64 x344002_1]) ?_ 0 _ rfl; (with_reducible repeat (first | refine blk_drewN ?_ _ | refine blk_drew ?_ | refine blk_alloc ?_ _)); exact BK343.out) Try.underlying79 rfl (by kernel_rfl)) rfl ?_
              exact ⟨by first | rfl | (simp [errW_none,errW_some] <;> rfl) | (simp only [← hji16]; first | rfl | (simp [errW_none,errW_some] <;> rfl)) | (simp [*,errW_none,errW_some] <;> rfl),by repeat (first | (with_reducible first | exact HB.out | apply below_alloc | apply pw_below_drewN | apply below_drew1 | refine below_set ?_ GE343.out) | exact HB.out)⟩
             ·rw [if_neg c21] at H
              have c21b0 : decide (a2≤t346) = false:=decide_eq_false c21
              clear c21
              by_cases c24 : (wrap64 (x9_1 + (l1.length : Int))) < (l0.length : Int)
              ·rw [if_pos c24] at H
               have c24b0 : decide ((wrap64 (x9_1 + (l1.length : Int))) < (l0.length : Int)) = true:=decide_eq_true c24
               clear c24
               by_cases c25 : 0≤x9_1
               ·rw [if_pos c25] at H
                have c25b0:=eq_true c25
                have c25b1 : decide (0≤x9_1) = true:=decide_eq_true c25
                clear c25
                by_cases c26 : x9_1≤(wrap64 ((wrap64 (x9_1 + (l1.length : Int))) + 1))
                ·rw [if_pos c26] at H
                 have c26b0:=eq_true c26
                 have c26b1 : decide (x9_1≤(wrap64 ((wrap64 (x9_1 + (l1.length : Int))) + 1))) = true:=decide_eq_true c26
                 by_cases c27 : (wrap64 ((wrap64 (x9_1 + (l1.length : Int))) + 1))≤(l0.length : Int)
                 ·rw [if_pos c27] at H
                  have c27b0:=eq_true c27
                  have c27b1 : decide ((wrap64 ((wrap64 (x9_1 + (l1.length : Int))) + 1))≤(l0.length : Int)) = true:=decide_eq_true c27
                  replace H:=Option.bind_eq_some_iff.mp H
                  obtain ⟨t348,A280,H⟩:=H
                  replace H : (if t348 ≥ a2 then (some (0,0,0,false)) else (sapperref13_repeat.l0 kj9 l0 l1 a2 x8_9 (wrap64 (x9_1 + 1)))) = some (r1,r2,r3,r4):=H
                  have A28:=Aside0.mk A280
                  clear A280
                  by_cases c29 : t348 ≥ a2
                  ·rw [if_pos c29] at H
                   have c29b0 : decide (a2≤t348) = true:=decide_eq_true c29
                   clear c29
                   simp only [Option.some.injEq,Prod.mk.injEq] at H
                   obtain ⟨rfl,rfl,rfl,rfl⟩:=H
                   obtain ⟨i030,hi030,_,hsz30,_⟩:=info_parts info5
                   obtain ⟨A30,hcut30,hA30,hC30⟩:=print_mid_of (P:=Try.prog) (Value.int .u8) 0 23 5 .i64 .i64 Try.underlying23 hi030 hsz30 A0 c0 l0 (ji16) (wrap64 (x9_1 + (l1.length : Int))) (Qt) (by first | omega | exact Qt) (Qt) HC0.out
                   (try (have hws8:=i64_w (x9_1 + (l1.length : Int))))
                   have HR345:=Aside0.mk (Kd.C_of_reads (h1:=fun _=>rfl) (hA30 _ (Kd.reads_of_C HR0.out)))
                   have HC345:=Aside0.mk hC30
                   clear hA30 hC30 hi030 hsz30
                   go_wp2_with (first | (go_at_call 64; (try rw [show ((wrap64 (x9_1 + (l1.length : Int))) : Int).toNat - ((ji16) : Int).toNat = ((l0.take ((wrap64 (x9_1 + (l1.length : Int))) : Int).toNat).drop ((ji16) : Int).toNat).length from by rw [List.length_drop,List.length_take]; have h_ : ((wrap64 (x9_1 + (l1.length : Int))) : Int)≤(l0.length : Int):=Qt; omega]); (with_reducible refine (sapperref13_count.calls kj9 _ _ l0 _ _ ((l0.take ((wrap64 (x9_1 + (l1.length : Int))) : Int).toNat).drop ((ji16) : Int).toNat) t346 _ ?side1 ?side2 ?side3 ?side4 A20.out).mono ?_); (case side1=>repeat (first | exact (Kd.C_below HR0.out HB.out) | (with_reducible first|refine Qd ?_ _|refine Qe ?_ _|refine Qf ?_))); (case side2=>exact HC0.out); (case side3=>repeat (first | exact (Kd.C_below HR345.out HB.out) | (with_reducible first|refine Qd ?_ _|refine Qe ?_ _|refine Qf ?_))); (case side4=>exact HC345.out); rintro e w' ⟨rfl,⟨nd,rfl⟩⟩; (try first | exact ⟨rfl,_,World.drewN_drewN _ _ _⟩ | exact ⟨rfl,_,Eq.trans (World.drewN_drewN _ _ _) (congrArg (World.drewN _) (Nat.add_assoc _ _ _))⟩); obtain ⟨i031,hi031,_,hsz31,_⟩:=info_parts info5; obtain ⟨A31,hcut31,hA31,hC31⟩:=print_mid_of (P:=Try.prog) (Value.int .u8) 0 23 5 .i64 .i64 Try.underlying23 hi031 hsz31 A0 c0 l0 x9_1 (wrap64 ((wrap64 (x9_1 + (l1.length : Int))) + 1)) (Qt) (by first | omega | exact Qt) (Qt) HC0.out; (try (have hws9:=i64_w ((wrap64 (x9_1 + (l1.length : Int))) + 1))); (try (have hws10:=i64_w (x9_1 + (l1.length : Int)))); have HR347:=Aside0.mk (Kd.C_of_reads (h1:=fun _=>rfl) (hA31 _ (Kd.reads_of_C HR0.out))); have HC347:=Aside0.mk hC31; clear hA31 hC31 hi031 hsz31) | (go_at_call 64; (try rw [show ((wrap64 ((wrap64 (x9_1 + (l1.length : Int))) + 1)) : Int).toNat - (x9_1 : Int).toNat = ((l0.take ((wrap64 ((wrap64 (x9_1 + (l1.length : Int))) + 1)) : Int).toNat).drop (x9_1 : Int).toNat).length from by rw [List.length_drop,List.length_take]; have h_ : ((wrap64 ((wrap64 (x9_1 + (l1.length : Int))) + 1)) : Int)≤(l0.length : Int):=Qt; omega]); (with_reducible refine (sapperref13_count.calls kj9 _ _ l0 _ _ ((l0.take ((wrap64 ((wrap64 (x9_1 + (l1.length : Int))) + 1)) : Int).toNat).drop (x9_1 : Int).toNat) t348 _ ?side1 ?side2 ?side3 ?side4 A28.out).mono ?_); (case side1=>repeat (first | exact (Kd.C_below HR0.out (by repeat (first | (with_reducible first | exact HB.out | apply below_alloc | apply pw_below_drewN | apply below_drew1 | refine below_set ?_ GE343.out) | exact HB.out))) | (with_reducible first|refine Qd ?_ _|refine Qe ?_ _|refine Qf ?_))); (case side2=>exact HC0.out); (case side3=>repeat (first | exact (Kd.C_below HR347.out (by repeat (first | (with_reducible first | exact HB.out | apply below_alloc | apply pw_below_drewN | apply below_drew1 | refine below_set ?_ GE343.out) | exact HB.out))) | (with_reducible first|refine Qd ?_ _|refine Qe ?_ _|refine Qf ?_))); (case side4=>exact HC347.out); rintro e w' ⟨rfl,⟨nd,rfl⟩⟩; (try first | exact ⟨rfl,_,World.drewN_drewN _ _ _⟩ | exact ⟨rfl,_,Eq.trans (World.drewN_drewN _ _ _) (congrArg (World.drewN _) (Nat.add_assoc _ _ _))⟩); have hcz32_0 : wc.cell? ⟨gb343,0,none⟩ = some (.int .i64 x344000_1):=(blk_cell BK343.out 0).trans rfl; have hcz32_1 : wc.cell? ⟨gb343,1,none⟩ = some (.int .i64 x344001_1):=(blk_cell BK343.out 1).trans rfl; have hcz32_2 : wc.cell? ⟨gb343,2,none⟩ = some (.int .i64 x344002_1):=(blk_cell BK343.out 2).trans rfl; have hfz32_0:=blk_frozen BK343.out 0; have hfz32_1:=blk_frozen BK343.out 1; have hfz32_2:=blk_frozen BK343.out 2))
                   repeat (go_quiet (first | (go_at_call 64; (try rw [show ((wrap64 (x9_1 + (l1.length : Int))) : Int).toNat - ((ji16) : Int).toNat = ((l0.take ((wrap64 (x9_1 + (l1.length : Int))) : Int).toNat).drop ((ji16) : Int).toNat).length from by rw [List.length_drop,List.length_take]; have h_ : ((wrap64 (x9_1 + (l1.length : Int))) : Int)≤(l0.length : Int):=Qt; omega]); (with_reducible refine (sapperref13_count.calls kj9 _ _ l0 _ _ ((l0.take ((wrap64 (x9_1 + (l1.length : Int))) : Int).toNat).drop ((ji16) : Int).toNat) t346 _ ?side1 ?side2 ?side3 ?side4 A20.out).mono ?_); (case side1=>repeat (first | exact (Kd.C_below HR0.out HB.out) | (with_reducible first|refine Qd ?_ _|refine Qe ?_ _|refine Qf ?_))); (case side2=>exact HC0.out); (case side3=>repeat (first | exact (Kd.C_below HR345.out HB.out) | (with_reducible first|refine Qd ?_ _|refine Qe ?_ _|refine Qf ?_))); (case side4=>exact HC345.out); rintro e w' ⟨rfl,⟨nd,rfl⟩⟩; (try first | exact ⟨rfl,_,World.drewN_drewN _ _ _⟩ | exact ⟨rfl,_,Eq.trans (World.drewN_drewN _ _ _) (congrArg (World.drewN _) (Nat.add_assoc _ _ _))⟩); obtain ⟨i031,hi031,_,hsz31,_⟩:=info_parts info5; obtain ⟨A31,hcut31,hA31,hC31⟩:=print_mid_of (P:=Try.prog) (Value.int .u8) 0 23 5 .i64 .i64 Try.underlying23 hi031 hsz31 A0 c0 l0 x9_1 (wrap64 ((wrap64 (x9_1 + (l1.length : Int))) + 1)) (Qt) (by first | omega | exact Qt) (Qt) HC0.out; (try (have hws11:=i64_w ((wrap64 (x9_1 + (l1.length : Int))) + 1))); (try (have hws12:=i64_w (x9_1 + (l1.length : Int)))); have HR347:=Aside0.mk (Kd.C_of_reads (h1:=fun _=>rfl) (hA31 _ (Kd.reads_of_C HR0.out))); have HC347:=Aside0.mk hC31; clear hA31 hC31 hi031 hsz31) | (go_at_call 64; (try rw [show ((wrap64 ((wrap64 (x9_1 + (l1.length : Int))) + 1)) : Int).toNat - (x9_1 : Int).toNat = ((l0.take ((wrap64 ((wrap64 (x9_1 + (l1.length : Int))) + 1)) : Int).toNat).drop (x9_1 : Int).toNat).length from by rw [List.length_drop,List.length_take]; have h_ : ((wrap64 ((wrap64 (x9_1 + (l1.length : Int))) + 1)) : Int)≤(l0.length : Int):=Qt; omega]); (with_reducible refine (sapperref13_count.calls kj9 _ _ l0 _ _ ((l0.take ((wrap64 ((wrap64 (x9_1 + (l1.length : Int))) + 1)) : Int).toNat).drop (x9_1 : Int).toNat) t348 _ ?side1 ?side2 ?side3 ?side4 A28.out).mono ?_); (case side1=>repeat (first | exact (Kd.C_below HR0.out (by repeat (first | (with_reducible first | exact HB.out | apply below_alloc | apply pw_below_drewN | apply below_drew1 | refine below_set ?_ GE343.out) | exact HB.out))) | (with_reducible first|refine Qd ?_ _|refine Qe ?_ _|refine Qf ?_))); (case side2=>exact HC0.out); (case side3=>repeat (first | exact (Kd.C_below HR347.out (by repeat (first | (with_reducible first | exact HB.out | apply below_alloc | apply pw_below_drewN | apply below_drew1 | refine below_set ?_ GE343.out) | exact HB.out))) | (with_reducible first|refine Qd ?_ _|refine Qe ?_ _|refine Qf ?_))); (case side4=>exact HC347.out); rintro e w' ⟨rfl,⟨nd,rfl⟩⟩; (try first | exact ⟨rfl,_,World.drewN_drewN _ _ _⟩ | exact ⟨rfl,_,Eq.trans (World.drewN_drewN _ _ _) (congrArg (World.drewN _) (Nat.add_assoc _ _ _))⟩); have hcz32_0 : wc.cell? ⟨gb343,0,none⟩ = some (.int .i64 x344000_1):=(blk_cell BK343.out 0).trans rfl; have hcz32_1 : wc.cell? ⟨gb343,1,none⟩ = some (.int .i64 x344001_1):=(blk_cell BK343.out 1).trans rfl; have hcz32_2 : wc.cell? ⟨gb343,2,none⟩ = some (.int .i64 x344002_1):=(blk_cell BK343.out 2).trans rfl; have hfz32_0:=blk_frozen BK343.out 0; have hfz32_1:=blk_frozen BK343.out 1; have hfz32_2:=blk_frozen BK343.out 2)); try go_wp2_with (first | (go_at_call 64; (try rw [show ((wrap64 (x9_1 + (l1.length : Int))) : Int).toNat - ((ji16) : Int).toNat = ((l0.take ((wrap64 (x9_1 + (l1.length : Int))) : Int).toNat).drop ((ji16) : Int).toNat).length from by rw [List.length_drop,List.length_take]; have h_ : ((wrap64 (x9_1 + (l1.length : Int))) : Int)≤(l0.length : Int):=Qt; omega]); (with_reducible refine (sapperref13_count.calls kj9 _ _ l0 _ _ ((l0.take ((wrap64 (x9_1 + (l1.length : Int))) : Int).toNat).drop ((ji16) : Int).toNat) t346 _ ?side1 ?side2 ?side3 ?side4 A20.out).mono ?_); (case side1=>repeat (first | exact (Kd.C_below HR0.out HB.out) | (with_reducible first|refine Qd ?_ _|refine Qe ?_ _|refine Qf ?_))); (case side2=>exact HC0.out); (case side3=>repeat (first | exact (Kd.C_below HR345.out HB.out) | (with_reducible first|refine Qd ?_ _|refine Qe ?_ _|refine Qf ?_))); (case side4=>exact HC345.out); rintro e w' ⟨rfl,⟨nd,rfl⟩⟩; (try first | exact ⟨rfl,_,World.drewN_drewN _ _ _⟩ | exact ⟨rfl,_,Eq.trans (World.drewN_drewN _ _ _) (congrArg (World.drewN _) (Nat.add_assoc _ _ _))⟩); obtain ⟨i031,hi031,_,hsz31,_⟩:=info_parts info5; obtain ⟨A31,hcut31,hA31,hC31⟩:=print_mid_of (P:=Try.prog) (Value.int .u8) 0 23 5 .i64 .i64 Try.underlying23 hi031 hsz31 A0 c0 l0 x9_1 (wrap64 ((wrap64 (x9_1 + (l1.length : Int))) + 1)) (Qt) (by first | omega | exact Qt) (Qt) HC0.out; (try (have hws13:=i64_w ((wrap64 (x9_1 + (l1.length : Int))) + 1))); (try (have hws14:=i64_w (x9_1 + (l1.length : Int)))); have HR347:=Aside0.mk (Kd.C_of_reads (h1:=fun _=>rfl) (hA31 _ (Kd.reads_of_C HR0.out))); have HC347:=Aside0.mk hC31; clear hA31 hC31 hi031 hsz31) | (go_at_call 64; (try rw [show ((wrap64 ((wrap64 (x9_1 + (l1.length : Int))) + 1)) : Int).toNat - (x9_1 : Int).toNat = ((l0.take ((wrap64 ((wrap64 (x9_1 + (l1.length : Int))) + 1)) : Int).toNat).drop (x9_1 : Int).toNat).length from by rw [List.length_drop,List.length_take]; have h_ : ((wrap64 ((wrap64 (x9_1 + (l1.length : Int))) + 1)) : Int)≤(l0.length : Int):=Qt; omega]); (with_reducible refine (sapperref13_count.calls kj9 _ _ l0 _ _ ((l0.take ((wrap64 ((wrap64 (x9_1 + (l1.length : Int))) + 1)) : Int).toNat).drop (x9_1 : Int).toNat) t348 _ ?side1 ?side2 ?side3 ?side4 A28.out).mono ?_); (case side1=>repeat (first | exact (Kd.C_below HR0.out (by repeat (first | (with_reducible first | exact HB.out | apply below_alloc | apply pw_below_drewN | apply below_drew1 | refine below_set ?_ GE343.out) | exact HB.out))) | (with_reducible first|refine Qd ?_ _|refine Qe ?_ _|refine Qf ?_))); (case side2=>exact HC0.out); (case side3=>repeat (first | exact (Kd.C_below HR347.out (by repeat (first | (with_reducible first | exact HB.out | apply below_alloc | apply pw_below_drewN | apply below_drew1 | refine below_set ?_ GE343.out) | exact HB.out))) | (with_reducible first|refine Qd ?_ _|refine Qe ?_ _|refine Qf ?_))); (case side4=>exact HC347.out); rintro e w' ⟨rfl,⟨nd,rfl⟩⟩; (try first | exact ⟨rfl,_,World.drewN_drewN _ _ _⟩ | exact ⟨rfl,_,Eq.trans (World.drewN_drewN _ _ _) (congrArg (World.drewN _) (Nat.add_assoc _ _ _))⟩); have hcz32_0 : wc.cell? ⟨gb343,0,none⟩ = some (.int .i64 x344000_1):=(blk_cell BK343.out 0).trans rfl; have hcz32_1 : wc.cell? ⟨gb343,1,none⟩ = some (.int .i64 x344001_1):=(blk_cell BK343.out 1).trans rfl; have hcz32_2 : wc.cell? ⟨gb343,2,none⟩ = some (.int .i64 x344002_1):=(blk_cell BK343.out 2).trans rfl; have hfz32_0:=blk_frozen BK343.out 0; have hfz32_1:=blk_frozen BK343.out 1; have hfz32_2:=blk_frozen BK343.out 2)))
                   refine bodyPost_ret (results_ct rfl _ _ gb343 79 #[.int .i64 0,.int .i64 0,.int .i64 0] (0,0) _ rfl (by (with_reducible repeat (first | refine blk_drewN ?_ _ | refine blk_drew ?_ | refine blk_alloc ?_ _)); refine blk_put (cs:=#[.int .i64 0,.int .i64 0,.int .i64 x344002_1]) ?_ 2 _ rfl; (with_reducible repeat (first | refine blk_drewN ?_ _ | refine blk_drew ?_ | refine blk_alloc ?_ _)); refine blk_put (cs:=#[.int .i64 0,.int .i64 x344001_1,.int .i64 x344002_1]) ?_ 1 _ rfl; (with_reducible repeat (first | refine blk_drewN ?_ _ | refine blk_drew ?_ | refine blk_alloc ?_ _)); refine blk_put (cs:=#[.int .i64 x344000_1,.int .i64 x344001_1,.int .i64 x344002_1]) ?_ 0 _ rfl; (with_reducible repeat (first | refine blk_drewN ?_ _ | refine blk_drew ?_ | refine blk_alloc ?_ _)); exact BK343.out) Try.underlying79 rfl (by kernel_rfl)) rfl ?_
                   exact ⟨by first | rfl | (simp [errW_none,errW_some] <;> rfl) | (simp only [← hji16]; first | rfl | (simp [errW_none,errW_some] <;> rfl)) | (simp [*,errW_none,errW_some] <;> rfl),by repeat (first | (with_reducible first | exact HB.out | apply below_alloc | apply pw_below_drewN | apply below_drew1 | refine below_set ?_ GE343.out) | exact HB.out)⟩
                  ·rw [if_neg c29] at H
                   have c29b0 : decide (a2≤t348) = false:=decide_eq_false c29
                   clear c29
                   have H':=Aside0.mk H
                   clear H
                   obtain ⟨i033,hi033,_,hsz33,_⟩:=info_parts info5
                   obtain ⟨A33,hcut33,hA33,hC33⟩:=print_mid_of (P:=Try.prog) (Value.int .u8) 0 23 5 .i64 .i64 Try.underlying23 hi033 hsz33 A0 c0 l0 (ji16) (wrap64 (x9_1 + (l1.length : Int))) (Qt) (by first | omega | exact Qt) (Qt) HC0.out
                   (try (have hws15:=i64_w (x9_1 + (l1.length : Int))))
                   have HR345:=Aside0.mk (Kd.C_of_reads (h1:=fun _=>rfl) (hA33 _ (Kd.reads_of_C HR0.out)))
                   have HC345:=Aside0.mk hC33
                   clear hA33 hC33 hi033 hsz33
                   go_wp2_with (first | (go_at_call 64; (try rw [show ((wrap64 (x9_1 + (l1.length : Int))) : Int).toNat - ((ji16) : Int).toNat = ((l0.take ((wrap64 (x9_1 + (l1.length : Int))) : Int).toNat).drop ((ji16) : Int).toNat).length from by rw [List.length_drop,List.length_take]; have h_ : ((wrap64 (x9_1 + (l1.length : Int))) : Int)≤(l0.length : Int):=Qt; omega]); (with_reducible refine (sapperref13_count.calls kj9 _ _ l0 _ _ ((l0.take ((wrap64 (x9_1 + (l1.length : Int))) : Int).toNat).drop ((ji16) : Int).toNat) t346 _ ?side1 ?side2 ?side3 ?side4 A20.out).mono ?_); (case side1=>repeat (first | exact (Kd.C_below HR0.out HB.out) | (with_reducible first|refine Qd ?_ _|refine Qe ?_ _|refine Qf ?_))); (case side2=>exact HC0.out); (case side3=>repeat (first | exact (Kd.C_below HR345.out HB.out) | (with_reducible first|refine Qd ?_ _|refine Qe ?_ _|refine Qf ?_))); (case side4=>exact HC345.out); rintro e w' ⟨rfl,⟨nd,rfl⟩⟩; (try first | exact ⟨rfl,_,World.drewN_drewN _ _ _⟩ | exact ⟨rfl,_,Eq.trans (World.drewN_drewN _ _ _) (congrArg (World.drewN _) (Nat.add_assoc _ _ _))⟩); obtain ⟨i034,hi034,_,hsz34,_⟩:=info_parts info5; obtain ⟨A34,hcut34,hA34,hC34⟩:=print_mid_of (P:=Try.prog) (Value.int .u8) 0 23 5 .i64 .i64 Try.underlying23 hi034 hsz34 A0 c0 l0 x9_1 (wrap64 ((wrap64 (x9_1 + (l1.length : Int))) + 1)) (Qt) (by first | omega | exact Qt) (Qt) HC0.out; (try (have hws16:=i64_w ((wrap64 (x9_1 + (l1.length : Int))) + 1))); (try (have hws17:=i64_w (x9_1 + (l1.length : Int)))); have HR347:=Aside0.mk (Kd.C_of_reads (h1:=fun _=>rfl) (hA34 _ (Kd.reads_of_C HR0.out))); have HC347:=Aside0.mk hC34; clear hA34 hC34 hi034 hsz34) | (go_at_call 64; (try rw [show ((wrap64 ((wrap64 (x9_1 + (l1.length : Int))) + 1)) : Int).toNat - (x9_1 : Int).toNat = ((l0.take ((wrap64 ((wrap64 (x9_1 + (l1.length : Int))) + 1)) : Int).toNat).drop (x9_1 : Int).toNat).length from by rw [List.length_drop,List.length_take]; have h_ : ((wrap64 ((wrap64 (x9_1 + (l1.length : Int))) + 1)) : Int)≤(l0.length : Int):=Qt; omega]); (with_reducible refine (sapperref13_count.calls kj9 _ _ l0 _ _ ((l0.take ((wrap64 ((wrap64 (x9_1 + (l1.length : Int))) + 1)) : Int).toNat).drop (x9_1 : Int).toNat) t348 _ ?side1 ?side2 ?side3 ?side4 A28.out).mono ?_); (case side1=>repeat (first | exact (Kd.C_below HR0.out (by repeat (first | (with_reducible first | exact HB.out | apply below_alloc | apply pw_below_drewN | apply below_drew1 | refine below_set ?_ GE343.out) | exact HB.out))) | (with_reducible first|refine Qd ?_ _|refine Qe ?_ _|refine Qf ?_))); (case side2=>exact HC0.out); (case side3=>repeat (first | exact (Kd.C_below HR347.out (by repeat (first | (with_reducible first | exact HB.out | apply below_alloc | apply pw_below_drewN | apply below_drew1 | refine below_set ?_ GE343.out) | exact HB.out))) | (with_reducible first|refine Qd ?_ _|refine Qe ?_ _|refine Qf ?_))); (case side4=>exact HC347.out); rintro e w' ⟨rfl,⟨nd,rfl⟩⟩; (try first | exact ⟨rfl,_,World.drewN_drewN _ _ _⟩ | exact ⟨rfl,_,Eq.trans (World.drewN_drewN _ _ _) (congrArg (World.drewN _) (Nat.add_assoc _ _ _))⟩)))
                   repeat (go_quiet (first | (go_at_call 64; (try rw [show ((wrap64 (x9_1 + (l1.length : Int))) : Int).toNat - ((ji16) : Int).toNat = ((l0.take ((wrap64 (x9_1 + (l1.length : Int))) : Int).toNat).drop ((ji16) : Int).toNat).length from by rw [List.length_drop,List.length_take]; have h_ : ((wrap64 (x9_1 + (l1.length : Int))) : Int)≤(l0.length : Int):=Qt; omega]); (with_reducible refine (sapperref13_count.calls kj9 _ _ l0 _ _ ((l0.take ((wrap64 (x9_1 + (l1.length : Int))) : Int).toNat).drop ((ji16) : Int).toNat) t346 _ ?side1 ?side2 ?side3 ?side4 A20.out).mono ?_); (case side1=>repeat (first | exact (Kd.C_below HR0.out HB.out) | (with_reducible first|refine Qd ?_ _|refine Qe ?_ _|refine Qf ?_))); (case side2=>exact HC0.out); (case side3=>repeat (first | exact (Kd.C_below HR345.out HB.out) | (with_reducible first|refine Qd ?_ _|refine Qe ?_ _|refine Qf ?_))); (case side4=>exact HC345.out); rintro e w' ⟨rfl,⟨nd,rfl⟩⟩; (try first | exact ⟨rfl,_,World.drewN_drewN _ _ _⟩ | exact ⟨rfl,_,Eq.trans (World.drewN_drewN _ _ _) (congrArg (World.drewN _) (Nat.add_assoc _ _ _))⟩); obtain ⟨i034,hi034,_,hsz34,_⟩:=info_parts info5; obtain ⟨A34,hcut34,hA34,hC34⟩:=print_mid_of (P:=Try.prog) (Value.int .u8) 0 23 5 .i64 .i64 Try.underlying23 hi034 hsz34 A0 c0 l0 x9_1 (wrap64 ((wrap64 (x9_1 + (l1.length : Int))) + 1)) (Qt) (by first | omega | exact Qt) (Qt) HC0.out; (try (have hws18:=i64_w ((wrap64 (x9_1 + (l1.length : Int))) + 1))); (try (have hws19:=i64_w (x9_1 + (l1.length : Int)))); have HR347:=Aside0.mk (Kd.C_of_reads (h1:=fun _=>rfl) (hA34 _ (Kd.reads_of_C HR0.out))); have HC347:=Aside0.mk hC34; clear hA34 hC34 hi034 hsz34) | (go_at_call 64; (try rw [show ((wrap64 ((wrap64 (x9_1 + (l1.length : Int))) + 1)) : Int).toNat - (x9_1 : Int).toNat = ((l0.take ((wrap64 ((wrap64 (x9_1 + (l1.length : Int))) + 1)) : Int).toNat).drop (x9_1 : Int).toNat).length from by rw [List.length_drop,List.length_take]; have h_ : ((wrap64 ((wrap64 (x9_1 + (l1.length : Int))) + 1)) : Int)≤(l0.length : Int):=Qt; omega]); (with_reducible refine (sapperref13_count.calls kj9 _ _ l0 _ _ ((l0.take ((wrap64 ((wrap64 (x9_1 + (l1.length : Int))) + 1)) : Int).toNat).drop (x9_1 : Int).toNat) t348 _ ?side1 ?side2 ?side3 ?side4 A28.out).mono ?_); (case side1=>repeat (first | exact (Kd.C_below HR0.out (by repeat (first | (with_reducible first | exact HB.out | apply below_alloc | apply pw_below_drewN | apply below_drew1 | refine below_set ?_ GE343.out) | exact HB.out))) | (with_reducible first|refine Qd ?_ _|refine Qe ?_ _|refine Qf ?_))); (case side2=>exact HC0.out); (case side3=>repeat (first | exact (Kd.C_below HR347.out (by repeat (first | (with_reducible first | exact HB.out | apply below_alloc | apply pw_below_drewN | apply below_drew1 | refine below_set ?_ GE343.out) | exact HB.out))) | (with_reducible first|refine Qd ?_ _|refine Qe ?_ _|refine Qf ?_))); (case side4=>exact HC347.out); rintro e w' ⟨rfl,⟨nd,rfl⟩⟩; (try first | exact ⟨rfl,_,World.drewN_drewN _ _ _⟩ | exact ⟨rfl,_,Eq.trans (World.drewN_drewN _ _ _) (congrArg (World.drewN _) (Nat.add_assoc _ _ _))⟩))); try go_wp2_with (first | (go_at_call 64; (try rw [show ((wrap64 (x9_1 + (l1.length : Int))) : Int).toNat - ((ji16) : Int).toNat = ((l0.take ((wrap64 (x9_1 + (l1.length : Int))) : Int).toNat).drop ((ji16) : Int).toNat).length from by rw [List.length_drop,List.length_take]; have h_ : ((wrap64 (x9_1 + (l1.length : Int))) : Int)≤(l0.length : Int):=Qt; omega]); (with_reducible refine (sapperref13_count.calls kj9 _ _ l0 _ _ ((l0.take ((wrap64 (x9_1 + (l1.length : Int))) : Int).toNat).drop ((ji16) : Int).toNat) t346 _ ?side1 ?side2 ?side3 ?side4 A20.out).mono ?_); (case side1=>repeat (first | exact (Kd.C_below HR0.out HB.out) | (with_reducible first|refine Qd ?_ _|refine Qe ?_ _|refine Qf ?_))); (case side2=>exact HC0.out); (case side3=>repeat (first | exact (Kd.C_below HR345.out HB.out) | (with_reducible first|refine Qd ?_ _|refine Qe ?_ _|refine Qf ?_))); (case side4=>exact HC345.out); rintro e w' ⟨rfl,⟨nd,rfl⟩⟩; (try first | exact ⟨rfl,_,World.drewN_drewN _ _ _⟩ | exact ⟨rfl,_,Eq.trans (World.drewN_drewN _ _ _) (congrArg (World.drewN _) (Nat.add_assoc _ _ _))⟩); obtain ⟨i034,hi034,_,hsz34,_⟩:=info_parts info5; obtain ⟨A34,hcut34,hA34,hC34⟩:=print_mid_of (P:=Try.prog) (Value.int .u8) 0 23 5 .i64 .i64 Try.underlying23 hi034 hsz34 A0 c0 l0 x9_1 (wrap64 ((wrap64 (x9_1 + (l1.length : Int))) + 1)) (Qt) (by first | omega | exact Qt) (Qt) HC0.out; (try (have hws20:=i64_w ((wrap64 (x9_1 + (l1.length : Int))) + 1))); (try (have hws21:=i64_w (x9_1 + (l1.length : Int)))); have HR347:=Aside0.mk (Kd.C_of_reads (h1:=fun _=>rfl) (hA34 _ (Kd.reads_of_C HR0.out))); have HC347:=Aside0.mk hC34; clear hA34 hC34 hi034 hsz34) | (go_at_call 64; (try rw [show ((wrap64 ((wrap64 (x9_1 + (l1.length : Int))) + 1)) : Int).toNat - (x9_1 : Int).toNat = ((l0.take ((wrap64 ((wrap64 (x9_1 + (l1.length : Int))) + 1)) : Int).toNat).drop (x9_1 : Int).toNat).length from by rw [List.length_drop,List.length_take]; have h_ : ((wrap64 ((wrap64 (x9_1 + (l1.length : Int))) + 1)) : Int)≤(l0.length : Int):=Qt; omega]); (with_reducible refine (sapperref13_count.calls kj9 _ _ l0 _ _ ((l0.take ((wrap64 ((wrap64 (x9_1 + (l1.length : Int))) + 1)) : Int).toNat).drop (x9_1 : Int).toNat) t348 _ ?side1 ?side2 ?side3 ?side4 A28.out).mono ?_); (case side1=>repeat (first | exact (Kd.C_below HR0.out (by repeat (first | (with_reducible first | exact HB.out | apply below_alloc | apply pw_below_drewN | apply below_drew1 | refine below_set ?_ GE343.out) | exact HB.out))) | (with_reducible first|refine Qd ?_ _|refine Qe ?_ _|refine Qf ?_))); (case side2=>exact HC0.out); (case side3=>repeat (first | exact (Kd.C_below HR347.out (by repeat (first | (with_reducible first | exact HB.out | apply below_alloc | apply pw_below_drewN | apply below_drew1 | refine below_set ?_ GE343.out) | exact HB.out))) | (with_reducible first|refine Qd ?_ _|refine Qe ?_ _|refine Qf ?_))); (case side4=>exact HC347.out); rintro e w' ⟨rfl,⟨nd,rfl⟩⟩; (try first | exact ⟨rfl,_,World.drewN_drewN _ _ _⟩ | exact ⟨rfl,_,Eq.trans (World.drewN_drewN _ _ _) (congrArg (World.drewN _) (Nat.add_assoc _ _ _))⟩))))
                   go_roundg kj9
                   case measure=>have:=HK1.out; have:=HJ9.out; omega
                   case rel=>exact ⟨(x8_9),(wrap64 (x9_1 + 1)),(x344000_1),(x344001_1),(x344002_1),(by first | rfl | (simp; done) | (simp [*]; done)),(by first | rfl | (simp; done) | (simp [*]; done)),H',⟨by have:=HK1.out; have:=HJ9.out; omega⟩,⟨by (with_reducible repeat (first | refine blk_drewN ?_ _ | refine blk_drew ?_ | refine blk_alloc ?_ _)); exact BK343.out⟩,⟨by repeat (first | (with_reducible first | exact HB.out | apply below_alloc | apply pw_below_drewN | apply below_drew1 | refine below_set ?_ GE343.out) | exact HB.out)⟩⟩
                 ·rw [if_neg c27] at H
                  exact absurd H (by simp)
                ·rw [if_neg c26] at H
                 exact absurd H (by simp)
               ·rw [if_neg c25] at H
                exact absurd H (by simp)
              ·rw [if_neg c24] at H
               have c24b0 : decide ((wrap64 (x9_1 + (l1.length : Int))) < (l0.length : Int)) = false:=decide_eq_false c24
               clear c24
               have H':=Aside0.mk H
               clear H
               obtain ⟨i035,hi035,_,hsz35,_⟩:=info_parts info5
               obtain ⟨A35,hcut35,hA35,hC35⟩:=print_mid_of (P:=Try.prog) (Value.int .u8) 0 23 5 .i64 .i64 Try.underlying23 hi035 hsz35 A0 c0 l0 (ji16) (wrap64 (x9_1 + (l1.length : Int))) (Qt) (by first | omega | exact Qt) (Qt) HC0.out
               (try (have hws22:=i64_w (x9_1 + (l1.length : Int))))
               have HR345:=Aside0.mk (Kd.C_of_reads (h1:=fun _=>rfl) (hA35 _ (Kd.reads_of_C HR0.out)))
               have HC345:=Aside0.mk hC35
               clear hA35 hC35 hi035 hsz35
               go_wp2_with (first | (go_at_call 64; (try rw [show ((wrap64 (x9_1 + (l1.length : Int))) : Int).toNat - ((ji16) : Int).toNat = ((l0.take ((wrap64 (x9_1 + (l1.length : Int))) : Int).toNat).drop ((ji16) : Int).toNat).length from by rw [List.length_drop,List.length_take]; have h_ : ((wrap64 (x9_1 + (l1.length : Int))) : Int)≤(l0.length : Int):=Qt; omega]); (with_reducible refine (sapperref13_count.calls kj9 _ _ l0 _ _ ((l0.take ((wrap64 (x9_1 + (l1.length : Int))) : Int).toNat).drop ((ji16) : Int).toNat) t346 _ ?side1 ?side2 ?side3 ?side4 A20.out).mono ?_); (case side1=>exact (Kd.C_below HR0.out HB.out)); (case side2=>exact HC0.out); (case side3=>exact (Kd.C_below HR345.out HB.out)); (case side4=>exact HC345.out); rintro e w' ⟨rfl,⟨nd,rfl⟩⟩; (try first | exact ⟨rfl,_,World.drewN_drewN _ _ _⟩ | exact ⟨rfl,_,Eq.trans (World.drewN_drewN _ _ _) (congrArg (World.drewN _) (Nat.add_assoc _ _ _))⟩)))
               repeat (go_quiet (first | (go_at_call 64; (try rw [show ((wrap64 (x9_1 + (l1.length : Int))) : Int).toNat - ((ji16) : Int).toNat = ((l0.take ((wrap64 (x9_1 + (l1.length : Int))) : Int).toNat).drop ((ji16) : Int).toNat).length from by rw [List.length_drop,List.length_take]; have h_ : ((wrap64 (x9_1 + (l1.length : Int))) : Int)≤(l0.length : Int):=Qt; omega]); (with_reducible refine (sapperref13_count.calls kj9 _ _ l0 _ _ ((l0.take ((wrap64 (x9_1 + (l1.length : Int))) : Int).toNat).drop ((ji16) : Int).toNat) t346 _ ?side1 ?side2 ?side3 ?side4 A20.out).mono ?_); (case side1=>exact (Kd.C_below HR0.out HB.out)); (case side2=>exact HC0.out); (case side3=>exact (Kd.C_below HR345.out HB.out)); (case side4=>exact HC345.out); rintro e w' ⟨rfl,⟨nd,rfl⟩⟩; (try first | exact ⟨rfl,_,World.drewN_drewN _ _ _⟩ | exact ⟨rfl,_,Eq.trans (World.drewN_drewN _ _ _) (congrArg (World.drewN _) (Nat.add_assoc _ _ _))⟩))); try go_wp2_with (first | (go_at_call 64; (try rw [show ((wrap64 (x9_1 + (l1.length : Int))) : Int).toNat - ((ji16) : Int).toNat = ((l0.take ((wrap64 (x9_1 + (l1.length : Int))) : Int).toNat).drop ((ji16) : Int).toNat).length from by rw [List.length_drop,List.length_take]; have h_ : ((wrap64 (x9_1 + (l1.length : Int))) : Int)≤(l0.length : Int):=Qt; omega]); (with_reducible refine (sapperref13_count.calls kj9 _ _ l0 _ _ ((l0.take ((wrap64 (x9_1 + (l1.length : Int))) : Int).toNat).drop ((ji16) : Int).toNat) t346 _ ?side1 ?side2 ?side3 ?side4 A20.out).mono ?_); (case side1=>exact (Kd.C_below HR0.out HB.out)); (case side2=>exact HC0.out); (case side3=>exact (Kd.C_below HR345.out HB.out)); (case side4=>exact HC345.out); rintro e w' ⟨rfl,⟨nd,rfl⟩⟩; (try first | exact ⟨rfl,_,World.drewN_drewN _ _ _⟩ | exact ⟨rfl,_,Eq.trans (World.drewN_drewN _ _ _) (congrArg (World.drewN _) (Nat.add_assoc _ _ _))⟩))))
               go_roundg kj9
               case measure=>have:=HK1.out; have:=HJ9.out; omega
               case rel=>exact ⟨(x8_9),(wrap64 (x9_1 + 1)),(x344000_1),(x344001_1),(x344002_1),(by first | rfl | (simp; done) | (simp [*]; done)),(by first | rfl | (simp; done) | (simp [*]; done)),H',⟨by have:=HK1.out; have:=HJ9.out; omega⟩,⟨by (with_reducible repeat (first | refine blk_drewN ?_ _ | refine blk_drew ?_ | refine blk_alloc ?_ _)); exact BK343.out⟩,⟨by repeat (first | (with_reducible first | exact HB.out | apply below_alloc | apply pw_below_drewN | apply below_drew1 | refine below_set ?_ GE343.out) | exact HB.out)⟩⟩
            ·rw [if_neg c19] at H
             exact absurd H (by simp)
           ·rw [if_neg c18] at H
            exact absurd H (by simp)
          ·rw [if_neg c17] at H
           exact absurd H (by simp)
         ·rw [if_neg c15] at H
          have c15b0 : decide (0 < x9_1) = false:=decide_eq_false c15
          clear c15
          by_cases c36 : (wrap64 (x9_1 + (l1.length : Int))) < (l0.length : Int)
          ·rw [if_pos c36] at H
           have c36b0 : decide ((wrap64 (x9_1 + (l1.length : Int))) < (l0.length : Int)) = true:=decide_eq_true c36
           clear c36
           by_cases c37 : 0≤x9_1
           ·rw [if_pos c37] at H
            have c37b0:=eq_true c37
            have c37b1 : decide (0≤x9_1) = true:=decide_eq_true c37
            clear c37
            by_cases c38 : x9_1≤(wrap64 ((wrap64 (x9_1 + (l1.length : Int))) + 1))
            ·rw [if_pos c38] at H
             have c38b0:=eq_true c38
             have c38b1 : decide (x9_1≤(wrap64 ((wrap64 (x9_1 + (l1.length : Int))) + 1))) = true:=decide_eq_true c38
             by_cases c39 : (wrap64 ((wrap64 (x9_1 + (l1.length : Int))) + 1))≤(l0.length : Int)
             ·rw [if_pos c39] at H
              have c39b0:=eq_true c39
              have c39b1 : decide ((wrap64 ((wrap64 (x9_1 + (l1.length : Int))) + 1))≤(l0.length : Int)) = true:=decide_eq_true c39
              replace H:=Option.bind_eq_some_iff.mp H
              obtain ⟨t350,A400,H⟩:=H
              replace H : (if t350 ≥ a2 then (some (0,0,0,false)) else (sapperref13_repeat.l0 kj9 l0 l1 a2 x8_9 (wrap64 (x9_1 + 1)))) = some (r1,r2,r3,r4):=H
              have A40:=Aside0.mk A400
              clear A400
              by_cases c41 : t350 ≥ a2
              ·rw [if_pos c41] at H
               have c41b0 : decide (a2≤t350) = true:=decide_eq_true c41
               clear c41
               simp only [Option.some.injEq,Prod.mk.injEq] at H
               obtain ⟨rfl,rfl,rfl,rfl⟩:=H
               obtain ⟨i042,hi042,_,hsz42,_⟩:=info_parts info5
               obtain ⟨A42,hcut42,hA42,hC42⟩:=print_mid_of (P:=Try.prog) (Value.int .u8) 0 23 5 .i64 .i64 Try.underlying23 hi042 hsz42 A0 c0 l0 x9_1 (wrap64 ((wrap64 (x9_1 + (l1.length : Int))) + 1)) (Qt) (by first | omega | exact Qt) (Qt) HC0.out
               (try (have hws23:=i64_w ((wrap64 (x9_1 + (l1.length : Int))) + 1)))
               (try (have hws24:=i64_w (x9_1 + (l1.length : Int))))
               have HR349:=Aside0.mk (Kd.C_of_reads (h1:=fun _=>rfl) (hA42 _ (Kd.reads_of_C HR0.out)))
               have HC349:=Aside0.mk hC42
               clear hA42 hC42 hi042 hsz42
               go_wp2_with (first | (go_at_call 64; (try rw [show ((wrap64 ((wrap64 (x9_1 + (l1.length : Int))) + 1)) : Int).toNat - (x9_1 : Int).toNat = ((l0.take ((wrap64 ((wrap64 (x9_1 + (l1.length : Int))) + 1)) : Int).toNat).drop (x9_1 : Int).toNat).length from by rw [List.length_drop,List.length_take]; have h_ : ((wrap64 ((wrap64 (x9_1 + (l1.length : Int))) + 1)) : Int)≤(l0.length : Int):=Qt; omega]); (with_reducible refine (sapperref13_count.calls kj9 _ _ l0 _ _ ((l0.take ((wrap64 ((wrap64 (x9_1 + (l1.length : Int))) + 1)) : Int).toNat).drop (x9_1 : Int).toNat) t350 _ ?side1 ?side2 ?side3 ?side4 A40.out).mono ?_); (case side1=>exact (Kd.C_below HR0.out HB.out)); (case side2=>exact HC0.out); (case side3=>exact (Kd.C_below HR349.out HB.out)); (case side4=>exact HC349.out); rintro e w' ⟨rfl,⟨nd,rfl⟩⟩; (try first | exact ⟨rfl,_,World.drewN_drewN _ _ _⟩ | exact ⟨rfl,_,Eq.trans (World.drewN_drewN _ _ _) (congrArg (World.drewN _) (Nat.add_assoc _ _ _))⟩); have hcz43_0 : wc.cell? ⟨gb343,0,none⟩ = some (.int .i64 x344000_1):=(blk_cell BK343.out 0).trans rfl; have hcz43_1 : wc.cell? ⟨gb343,1,none⟩ = some (.int .i64 x344001_1):=(blk_cell BK343.out 1).trans rfl; have hcz43_2 : wc.cell? ⟨gb343,2,none⟩ = some (.int .i64 x344002_1):=(blk_cell BK343.out 2).trans rfl; have hfz43_0:=blk_frozen BK343.out 0; have hfz43_1:=blk_frozen BK343.out 1; have hfz43_2:=blk_frozen BK343.out 2))
               repeat (go_quiet (first | (go_at_call 64; (try rw [show ((wrap64 ((wrap64 (x9_1 + (l1.length : Int))) + 1)) : Int).toNat - (x9_1 : Int).toNat = ((l0.take ((wrap64 ((wrap64 (x9_1 + (l1.length : Int))) + 1)) : Int).toNat).drop (x9_1 : Int).toNat).length from by rw [List.length_drop,List.length_take]; have h_ : ((wrap64 ((wrap64 (x9_1 + (l1.length : Int))) + 1)) : Int)≤(l0.length : Int):=Qt; omega]); (with_reducible refine (sapperref13_count.calls kj9 _ _ l0 _ _ ((l0.take ((wrap64 ((wrap64 (x9_1 + (l1.length : Int))) + 1)) : Int).toNat).drop (x9_1 : Int).toNat) t350 _ ?side1 ?side2 ?side3 ?side4 A40.out).mono ?_); (case side1=>exact (Kd.C_below HR0.out HB.out)); (case side2=>exact HC0.out); (case side3=>exact (Kd.C_below HR349.out HB.out)); (case side4=>exact HC349.out); rintro e w' ⟨rfl,⟨nd,rfl⟩⟩; (try first | exact ⟨rfl,_,World.drewN_drewN _ _ _⟩ | exact ⟨rfl,_,Eq.trans (World.drewN_drewN _ _ _) (congrArg (World.drewN _) (Nat.add_assoc _ _ _))⟩); have hcz43_0 : wc.cell? ⟨gb343,0,none⟩ = some (.int .i64 x344000_1):=(blk_cell BK343.out 0).trans rfl; have hcz43_1 : wc.cell? ⟨gb343,1,none⟩ = some (.int .i64 x344001_1):=(blk_cell BK343.out 1).trans rfl; have hcz43_2 : wc.cell? ⟨gb343,2,none⟩ = some (.int .i64 x344002_1):=(blk_cell BK343.out 2).trans rfl; have hfz43_0:=blk_frozen BK343.out 0; have hfz43_1:=blk_frozen BK343.out 1; have hfz43_2:=blk_frozen BK343.out 2)); try go_wp2_with (first | (go_at_call 64; (try rw [show ((wrap64 ((wrap64 (x9_1 + (l1.length : Int))) + 1)) : Int).toNat - (x9_1 : Int).toNat = ((l0.take ((wrap64 ((wrap64 (x9_1 + (l1.length : Int))) + 1)) : Int).toNat).drop (x9_1 : Int).toNat).length from by rw [List.length_drop,List.length_take]; have h_ : ((wrap64 ((wrap64 (x9_1 + (l1.length : Int))) + 1)) : Int)≤(l0.length : Int):=Qt; omega]); (with_reducible refine (sapperref13_count.calls kj9 _ _ l0 _ _ ((l0.take ((wrap64 ((wrap64 (x9_1 + (l1.length : Int))) + 1)) : Int).toNat).drop (x9_1 : Int).toNat) t350 _ ?side1 ?side2 ?side3 ?side4 A40.out).mono ?_); (case side1=>exact (Kd.C_below HR0.out HB.out)); (case side2=>exact HC0.out); (case side3=>exact (Kd.C_below HR349.out HB.out)); (case side4=>exact HC349.out); rintro e w' ⟨rfl,⟨nd,rfl⟩⟩; (try first | exact ⟨rfl,_,World.drewN_drewN _ _ _⟩ | exact ⟨rfl,_,Eq.trans (World.drewN_drewN _ _ _) (congrArg (World.drewN _) (Nat.add_assoc _ _ _))⟩); have hcz43_0 : wc.cell? ⟨gb343,0,none⟩ = some (.int .i64 x344000_1):=(blk_cell BK343.out 0).trans rfl; have hcz43_1 : wc.cell? ⟨gb343,1,none⟩ = some (.int .i64 x344001_1):=(blk_cell BK343.out 1).trans rfl; have hcz43_2 : wc.cell? ⟨gb343,2,none⟩ = some (.int .i64 x344002_1):=(blk_cell BK343.out 2).trans rfl; have hfz43_0:=blk_frozen BK343.out 0; have hfz43_1:=blk_frozen BK343.out 1; have hfz43_2:=blk_frozen BK343.out 2)))
               refine bodyPost_ret (results_ct rfl _ _ gb343 79 #[.int .i64 0,.int .i64 0,.int .i64 0] (0,0) _ rfl (by (with_reducible repeat (first | refine blk_drewN ?_ _ | refine blk_drew ?_ | refine blk_alloc ?_ _)); refine blk_put (cs:=#[.int .i64 0,.int .i64 0,.int .i64 x344002_1]) ?_ 2 _ rfl; (with_reducible repeat (first | refine blk_drewN ?_ _ | refine blk_drew ?_ | refine blk_alloc ?_ _)); refine blk_put (cs:=#[.int .i64 0,.int .i64 x344001_1,.int .i64 x344002_1]) ?_ 1 _ rfl; (with_reducible repeat (first | refine blk_drewN ?_ _ | refine blk_drew ?_ | refine blk_alloc ?_ _)); refine blk_put (cs:=#[.int .i64 x344000_1,.int .i64 x344001_1,.int .i64 x344002_1]) ?_ 0 _ rfl; (with_reducible repeat (first | refine blk_drewN ?_ _ | refine blk_drew ?_ | refine blk_alloc ?_ _)); exact BK343.out) Try.underlying79 rfl (by kernel_rfl)) rfl ?_
               exact ⟨by first | rfl | (simp [errW_none,errW_some] <;> rfl) | (simp [*,errW_none,errW_some] <;> rfl),by repeat (first | (with_reducible first | exact HB.out | apply below_alloc | apply pw_below_drewN | apply below_drew1 | refine below_set ?_ GE343.out) | exact HB.out)⟩
              ·rw [if_neg c41] at H
               have c41b0 : decide (a2≤t350) = false:=decide_eq_false c41
               clear c41
               have H':=Aside0.mk H
               clear H
               obtain ⟨i044,hi044,_,hsz44,_⟩:=info_parts info5
               obtain ⟨A44,hcut44,hA44,hC44⟩:=print_mid_of (P:=Try.prog) (Value.int .u8) 0 23 5 .i64 .i64 Try.underlying23 hi044 hsz44 A0 c0 l0 x9_1 (wrap64 ((wrap64 (x9_1 + (l1.length : Int))) + 1)) (Qt) (by first | omega | exact Qt) (Qt) HC0.out
               (try (have hws25:=i64_w ((wrap64 (x9_1 + (l1.length : Int))) + 1)))
               (try (have hws26:=i64_w (x9_1 + (l1.length : Int))))
               have HR349:=Aside0.mk (Kd.C_of_reads (h1:=fun _=>rfl) (hA44 _ (Kd.reads_of_C HR0.out)))
               have HC349:=Aside0.mk hC44
               clear hA44 hC44 hi044 hsz44
               go_wp2_with (first | (go_at_call 64; (try rw [show ((wrap64 ((wrap64 (x9_1 + (l1.length : Int))) + 1)) : Int).toNat - (x9_1 : Int).toNat = ((l0.take ((wrap64 ((wrap64 (x9_1 + (l1.length : Int))) + 1)) : Int).toNat).drop (x9_1 : Int).toNat).length from by rw [List.length_drop,List.length_take]; have h_ : ((wrap64 ((wrap64 (x9_1 + (l1.length : Int))) + 1)) : Int)≤(l0.length : Int):=Qt; omega]); (with_reducible refine (sapperref13_count.calls kj9 _ _ l0 _ _ ((l0.take ((wrap64 ((wrap64 (x9_1 + (l1.length : Int))) + 1)) : Int).toNat).drop (x9_1 : Int).toNat) t350 _ ?side1 ?side2 ?side3 ?side4 A40.out).mono ?_); (case side1=>exact (Kd.C_below HR0.out HB.out)); (case side2=>exact HC0.out); (case side3=>exact (Kd.C_below HR349.out HB.out)); (case side4=>exact HC349.out); rintro e w' ⟨rfl,⟨nd,rfl⟩⟩; (try first | exact ⟨rfl,_,World.drewN_drewN _ _ _⟩ | exact ⟨rfl,_,Eq.trans (World.drewN_drewN _ _ _) (congrArg (World.drewN _) (Nat.add_assoc _ _ _))⟩)))
               repeat (go_quiet (first | (go_at_call 64; (try rw [show ((wrap64 ((wrap64 (x9_1 + (l1.length : Int))) + 1)) : Int).toNat - (x9_1 : Int).toNat = ((l0.take ((wrap64 ((wrap64 (x9_1 + (l1.length : Int))) + 1)) : Int).toNat).drop (x9_1 : Int).toNat).length from by rw [List.length_drop,List.length_take]; have h_ : ((wrap64 ((wrap64 (x9_1 + (l1.length : Int))) + 1)) : Int)≤(l0.length : Int):=Qt; omega]); (with_reducible refine (sapperref13_count.calls kj9 _ _ l0 _ _ ((l0.take ((wrap64 ((wrap64 (x9_1 + (l1.length : Int))) + 1)) : Int).toNat).drop (x9_1 : Int).toNat) t350 _ ?side1 ?side2 ?side3 ?side4 A40.out).mono ?_); (case side1=>exact (Kd.C_below HR0.out HB.out)); (case side2=>exact HC0.out); (case side3=>exact (Kd.C_below HR349.out HB.out)); (case side4=>exact HC349.out); rintro e w' ⟨rfl,⟨nd,rfl⟩⟩; (try first | exact ⟨rfl,_,World.drewN_drewN _ _ _⟩ | exact ⟨rfl,_,Eq.trans (World.drewN_drewN _ _ _) (congrArg (World.drewN _) (Nat.add_assoc _ _ _))⟩))); try go_wp2_with (first | (go_at_call 64; (try rw [show ((wrap64 ((wrap64 (x9_1 + (l1.length : Int))) + 1)) : Int).toNat - (x9_1 : Int).toNat = ((l0.take ((wrap64 ((wrap64 (x9_1 + (l1.length : Int))) + 1)) : Int).toNat).drop (x9_1 : Int).toNat).length from by rw [List.length_drop,List.length_take]; have h_ : ((wrap64 ((wrap64 (x9_1 + (l1.length : Int))) + 1)) : Int)≤(l0.length : Int):=Qt; omega]); (with_reducible refine (sapperref13_count.calls kj9 _ _ l0 _ _ ((l0.take ((wrap64 ((wrap64 (x9_1 + (l1.length : Int))) + 1)) : Int).toNat).drop (x9_1 : Int).toNat) t350 _ ?side1 ?side2 ?side3 ?side4 A40.out).mono ?_); (case side1=>exact (Kd.C_below HR0.out HB.out)); (case side2=>exact HC0.out); (case side3=>exact (Kd.C_below HR349.out HB.out)); (case side4=>exact HC349.out); rintro e w' ⟨rfl,⟨nd,rfl⟩⟩; (try first | exact ⟨rfl,_,World.drewN_drewN _ _ _⟩ | exact ⟨rfl,_,Eq.trans (World.drewN_drewN _ _ _) (congrArg (World.drewN _) (Nat.add_assoc _ _ _))⟩))))
               go_roundg kj9
               case measure=>have:=HK1.out; have:=HJ9.out; omega
               case rel=>exact ⟨(x8_9),(wrap64 (x9_1 + 1)),(x344000_1),(x344001_1),(x344002_1),(by first | rfl | (simp; done) | (simp [*]; done)),(by first | rfl | (simp; done) | (simp [*]; done)),H',⟨by have:=HK1.out; have:=HJ9.out; omega⟩,⟨by (with_reducible repeat (first | refine blk_drewN ?_ _ | refine blk_drew ?_ | refine blk_alloc ?_ _)); exact BK343.out⟩,⟨by repeat (first | (with_reducible first | exact HB.out | apply below_alloc | apply pw_below_drewN | apply below_drew1 | refine below_set ?_ GE343.out) | exact HB.out)⟩⟩
             ·rw [if_neg c39] at H
              exact absurd H (by simp)
            ·rw [if_neg c38] at H
             exact absurd H (by simp)
           ·rw [if_neg c37] at H
            exact absurd H (by simp)
          ·rw [if_neg c36] at H
           have c36b0 : decide ((wrap64 (x9_1 + (l1.length : Int))) < (l0.length : Int)) = false:=decide_eq_false c36
           clear c36
           have H':=Aside0.mk H
           clear H
           go_wp2
           repeat (go_quiet (fail); try go_wp2)
           go_roundg kj9
           case measure=>have:=HK1.out; have:=HJ9.out; omega
           case rel=>exact ⟨(x8_9),(wrap64 (x9_1 + 1)),(x344000_1),(x344001_1),(x344002_1),(rfl),(rfl),H',⟨by have:=HK1.out; have:=HJ9.out; omega⟩,⟨by (with_reducible repeat (first | refine blk_drewN ?_ _ | refine blk_drew ?_ | refine blk_alloc ?_ _)); exact BK343.out⟩,⟨HB.out⟩⟩
      ·rw [if_neg c9] at H
       have c9b0 : ((strOfNums ((l0.take ((wrap64 (x9_1 + (l1.length : Int))) : Int).toNat).drop (x9_1 : Int).toNat)).toList == (strOfNums l1).toList) = false:=beq_eq_false_iff_ne.mpr c9
       have c9b1 : ((strOfNums ((l0.take ((wrap64 (x9_1 + (l1.length : Int))) : Int).toNat).drop (x9_1 : Int).toNat)).toList != (strOfNums l1).toList) = true:=bne_iff_ne.mpr c9
       have H':=Aside0.mk H
       clear H
       obtain ⟨i045,hi045,_,hsz45,_⟩:=info_parts info5
       obtain ⟨A45,hcut45,hA45,hC45⟩:=print_mid_of (P:=Try.prog) (Value.int .u8) 0 23 5 .i64 .i64 Try.underlying23 hi045 hsz45 A0 c0 l0 x9_1 (wrap64 (x9_1 + (l1.length : Int))) (Qt) (by first | omega | exact Qt) (Qt) HC0.out
       (try (have hws27:=i64_w (x9_1 + (l1.length : Int))))
       have HR344:=Aside0.mk (Kd.C_of_reads (h1:=fun _=>rfl) (hA45 _ (Kd.reads_of_C HR0.out)))
       have HC344:=Aside0.mk hC45
       clear hA45 hC45 hi045 hsz45
       have hcv46:=Kd.C_string (P:=Try.prog) (A:=A45) (c:=(c0 - x9_1.toNat)) Try.underlying23 Try.underlying5 Try.underlying9 (Kd.C_below HR344.out HB.out)
       (try (have hcv46k:=C_string0 (P:=Try.prog) (A:=A45) (c:=(c0 - x9_1.toNat)) Try.underlying23 Try.underlying5 Try.underlying9 (Kd.C_below HR344.out HB.out)))
       (try (have hcv46n:=C_string1 (P:=Try.prog) (A:=A45) (c:=(c0 - x9_1.toNat)) Try.underlying23 Try.underlying5 Try.underlying9 (Kd.C_below HR344.out HB.out)))
       (try (have hcv46m:=C_string2 (P:=Try.prog) (A:=A45) (c:=(c0 - x9_1.toNat)) Try.underlying23 Try.underlying5 Try.underlying9 (Kd.C_below HR344.out HB.out)))
       have hcv47:=Kd.C_string (P:=Try.prog) (A:=A1) (c:=c1) Try.underlying23 Try.underlying5 Try.underlying9 (Kd.C_below HR1.out HB.out)
       (try (have hcv47k:=C_string0 (P:=Try.prog) (A:=A1) (c:=c1) Try.underlying23 Try.underlying5 Try.underlying9 (Kd.C_below HR1.out HB.out)))
       (try (have hcv47n:=C_string1 (P:=Try.prog) (A:=A1) (c:=c1) Try.underlying23 Try.underlying5 Try.underlying9 (Kd.C_below HR1.out HB.out)))
       (try (have hcv47m:=C_string2 (P:=Try.prog) (A:=A1) (c:=c1) Try.underlying23 Try.underlying5 Try.underlying9 (Kd.C_below HR1.out HB.out)))
       go_wp2
       repeat (go_quiet (fail); try go_wp2)
       go_roundg k1
       case measure=>have:=HK1.out; omega
       case rel=>exact ⟨(x8_1),(wrap64 (x9_1 + 1)),(x344000_1),(x344001_1),(x344002_1),(by first | rfl | (simp; done) | (simp [*]; done)),(by first | rfl | (simp; done) | (simp [*]; done)),H',⟨by have:=HK1.out; omega⟩,⟨by (with_reducible repeat (first | refine blk_drewN ?_ _ | refine blk_drew ?_ | refine blk_alloc ?_ _)); exact BK343.out⟩,⟨by repeat (first | (with_reducible first | exact HB.out | apply below_alloc | apply pw_below_drewN | apply below_drew1 | refine below_set ?_ GE343.out) | exact HB.out)⟩⟩
     ·rw [if_neg c7] at H
      exact absurd H (by simp)
    ·rw [if_neg c6] at H
     exact absurd H (by simp)
   ·rw [if_neg c5] at H
    have c5b0 : decide ((wrap64 (x9_1 + (l1.length : Int)))≤(l0.length : Int)) = false:=decide_eq_false c5
    clear c5
    simp only [Option.some.injEq,Prod.mk.injEq] at H
    obtain ⟨rfl,rfl,rfl,rfl⟩:=H
    have hcz48_0 : wr.cell? ⟨gb343,0,none⟩ = some (.int .i64 x344000_1):=(blk_cell BK343.out 0).trans rfl
    have hcz48_1 : wr.cell? ⟨gb343,1,none⟩ = some (.int .i64 x344001_1):=(blk_cell BK343.out 1).trans rfl
    have hcz48_2 : wr.cell? ⟨gb343,2,none⟩ = some (.int .i64 x344002_1):=(blk_cell BK343.out 2).trans rfl
    have hfz48_0:=blk_frozen BK343.out 0
    have hfz48_1:=blk_frozen BK343.out 1
    have hfz48_2:=blk_frozen BK343.out 2
    go_wp2
    repeat (go_quiet (fail); try go_wp2)
    refine bodyPost_ret (results_ct rfl _ _ gb343 79 #[.int .i64 x8_1,.int .i64 (l1.length : Int),.int .i64 a2] (0,0) _ rfl (by (with_reducible repeat (first | refine blk_drewN ?_ _ | refine blk_drew ?_ | refine blk_alloc ?_ _)); refine blk_put (cs:=#[.int .i64 x8_1,.int .i64 (l1.length : Int),.int .i64 x344002_1]) ?_ 2 _ rfl; (with_reducible repeat (first | refine blk_drewN ?_ _ | refine blk_drew ?_ | refine blk_alloc ?_ _)); refine blk_put (cs:=#[.int .i64 x8_1,.int .i64 x344001_1,.int .i64 x344002_1]) ?_ 1 _ rfl; (with_reducible repeat (first | refine blk_drewN ?_ _ | refine blk_drew ?_ | refine blk_alloc ?_ _)); refine blk_put (cs:=#[.int .i64 x344000_1,.int .i64 x344001_1,.int .i64 x344002_1]) ?_ 0 _ rfl; (with_reducible repeat (first | refine blk_drewN ?_ _ | refine blk_drew ?_ | refine blk_alloc ?_ _)); exact BK343.out) Try.underlying79 rfl (by kernel_rfl)) rfl ?_
    exact ⟨by first | rfl | (simp [errW_none,errW_some] <;> rfl) | (simp [*,errW_none,errW_some] <;> rfl),by repeat (first | (with_reducible first | exact HB.out | apply below_alloc | apply pw_below_drewN | apply below_drew1 | refine below_set ?_ GE343.out) | exact HB.out)⟩

end Go.Proofs.Ythcnnfahlhklgaa.X
