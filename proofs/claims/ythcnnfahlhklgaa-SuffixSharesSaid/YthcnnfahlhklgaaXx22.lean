-- Printed by wip/xprint.py of this repo (a wrapper of the session's own round the print).
import Derived.Test.YthcnnfahlhklgaaXx0
import Derived.Test.YthcnnfahlhklgaaXBA
import Derived.Test.YthcnnfahlhklgaaXx21
namespace Go.Proofs.Ythcnnfahlhklgaa.X
open Go.RowKit Go.Proofs.YthcnnfahlhklgaaW.PrintWords Go.Proofs.YthcnnfahlhklgaaW.PrintLast Go.Proofs.YthcnnfahlhklgaaW.PrintMore
attribute [local go_sem] ptrOf_eql ptrOf_neq ptrOf_eqg ptrOf_neg str_leq str_geq str_gtr max2_int min2_int max_two min_two max_three min_three max_four min_four   -- for this text's walks alone
set_option linter.unusedVariables false
set_option linter.unusedSimpArgs false

/-! ### suffix_Index_least: function 57 -/
def suffix_Index_least.l0 : Nat → List (S82) → List Int → Int → Int → Option (Int)
 | 0, _, _, _, _ => none
 | k + 1, x0, x1, x5, x6 => if x5 < x6 then (if 0 < (x0.length : Int) then (if 0 ≤ (wrap64 (Int.tdiv (wrap64 (x5 + x6)) 2)) then (if (wrap64 (Int.tdiv (wrap64 (x5 + x6)) 2)) < (((rd_T82 x0 0).f2).length : Int) then ((suffix_Index_Compare.f k x0 (rd ((rd_T82 x0 0).f2) (wrap64 (Int.tdiv (wrap64 (x5 + x6)) 2))) x1).bind fun bt288 => (if bt288.1 < 0 then (suffix_Index_least.l0 k x0 x1 (wrap64 ((wrap64 (Int.tdiv (wrap64 (x5 + x6)) 2)) + 1)) x6) else (suffix_Index_least.l0 k x0 x1 x5 (wrap64 (Int.tdiv (wrap64 (x5 + x6)) 2))))) else (none)) else (none)) else (none)) else (some x5)
def suffix_Index_least.f (k : Nat) (l0 : List (S82)) (l1 : List Int) : Option (Int) := if 0 < (l0.length : Int) then (suffix_Index_least.l0 k l0 l1 0 (((rd_T82 l0 0).f2).length : Int)) else (none)
theorem suffix_Index_least.mono_l : ∀ k, (∀ y0 y1 y2 y3, LeO (suffix_Index_least.l0 k y0 y1 y2 y3) (suffix_Index_least.l0 (k + 1) y0 y1 y2 y3))
 | 0 => fun _ _ _ _ r h => by simp [suffix_Index_least.l0] at h
 | k + 1 => by
  have ih0 := suffix_Index_least.mono_l k
  ·intro y0 y1 y2 y3
   unfold suffix_Index_least.l0
   repeat' first
   | (with_reducible exact ih0 _ _ _ _)
   | (with_reducible exact suffix_Index_Compare.mono _ _ _ _)
   | (with_reducible exact LeO.refl _)
   | (with_reducible exact LeO.none _)
   | (with_reducible refine LeO.ite ?_ ?_)
   | (with_reducible refine LeO.bind ?_ (fun _ => ?_))
   | exact ih0 _ _ _ _
   | exact suffix_Index_Compare.mono _ _ _ _
   | exact LeO.none _
   | refine LeO.ite ?_ ?_
   | refine LeO.bind ?_ (fun _ => ?_)
theorem suffix_Index_least.mono : ∀ a0 a1 k, LeO (suffix_Index_least.f k a0 a1) (suffix_Index_least.f (k + 1) a0 a1) := by
 intro a0 a1 k
 have ih0 := suffix_Index_least.mono_l k
 unfold suffix_Index_least.f
 repeat' first
   | (with_reducible exact ih0 _ _ _ _)
   | (with_reducible exact suffix_Index_Compare.mono _ _ _ _)
   | (with_reducible exact LeO.refl _)
   | (with_reducible exact LeO.none _)
   | (with_reducible refine LeO.ite ?_ ?_)
   | (with_reducible refine LeO.bind ?_ (fun _ => ?_))
   | exact ih0 _ _ _ _
   | exact suffix_Index_Compare.mono _ _ _ _
   | exact LeO.none _
   | refine LeO.ite ?_ ?_
   | refine LeO.bind ?_ (fun _ => ?_)
set_option maxHeartbeats 8000000 in
set_option maxRecDepth 100000 in
theorem suffix_Index_least.calls (k : Nat) (A0 : Option Addr) (c0 : Nat) (l0 : List (S82)) (A1 : Option Addr) (c1 : Nat) (l1 : List Int) (r : Int) (w : World) (hr0 : Kd.C k82 w A0 l0.length l0) (hc0 : l0.length ≤ c0) (hr1 : Kd.C (Kd.int .u8) w A1 l1.length l1) (hc1 : l1.length ≤ c1) (h : suffix_Index_least.f k l0 l1 = some r) :
  Calls Try.prog 57 #[ptrOf (.slice A0 l0.length c0), .slice A1 l1.length c1] w fun e w' => e = .returned (.int .i64 r) ∧ Below w.heap.size w w' := by
 have HR0 := Aside0.mk hr0
 have HC0 := Aside0.mk hc0
 clear hr0 hc0
 have HR1 := Aside0.mk hr1
 have HC1 := Aside0.mk hc1
 clear hr1 hc1
 have HB := Aside0.mk (Below.refl w.heap.size w)
 have H : (if 0 < (l0.length : Int) then (suffix_Index_least.l0 k l0 l1 0 (((rd_T82 l0 0).f2).length : Int)) else (none)) = some r := h
 clear h
 by_cases c3 : 0 < (l0.length : Int)
 ·rw [if_pos c3] at H
  have c3b0 : decide (0 < (l0.length : Int)) = true := decide_eq_true c3
  have c3b1 : decide (0 < l0.length) = true := decide_eq_true (by omega)
  clear c3
  have H' := Aside0.mk H
  clear H
  have p285 : 0 ≤ (0 : Int) := (by omega)
  have q285 : 0 < (l0.length : Int) := of_decide_eq_true (by first | (with_reducible assumption) | assumption)
  obtain ⟨ad285, A285_1, c285_1, A285_2, c285_2, A285_3, c285_3, A285_4, c285_4, e285, hx285_0, hx285_1, hx285_2, hx285_3, hx285_4, hl285_1, hi285_1, hl285_2, hi285_2, hl285_3, hi285_3, hl285_4, hi285_4⟩ := at_T82 HR0.out 0 p285 q285
  cases e285
  have qi285 : (0 < l0.length) = True := eq_true (by omega)
  (try rw [show ((0 : Int)).toNat = 0 from rfl] at hx285_0)
  (try rw [show 0 * 5 = 0 from rfl] at hx285_0)
  (try rw [Addr.add_zero'] at hx285_0)
  (try rw [show ((0 : Int)).toNat = 0 from rfl] at hx285_1)
  (try rw [show 0 * 5 = 0 from rfl] at hx285_1)
  (try rw [Addr.add_zero'] at hx285_1)
  (try rw [show ((0 : Int)).toNat = 0 from rfl] at hx285_2)
  (try rw [show 0 * 5 = 0 from rfl] at hx285_2)
  (try rw [Addr.add_zero'] at hx285_2)
  (try rw [show ((0 : Int)).toNat = 0 from rfl] at hx285_3)
  (try rw [show 0 * 5 = 0 from rfl] at hx285_3)
  (try rw [Addr.add_zero'] at hx285_3)
  (try rw [show ((0 : Int)).toNat = 0 from rfl] at hx285_4)
  (try rw [show 0 * 5 = 0 from rfl] at hx285_4)
  (try rw [Addr.add_zero'] at hx285_4)
  have HR285_1 := Aside0.mk hi285_1
  have HC285_1 := Aside0.mk hl285_1
  clear hi285_1 hl285_1
  have HR285_2 := Aside0.mk hi285_2
  have HC285_2 := Aside0.mk hl285_2
  clear hi285_2 hl285_2
  have HR285_3 := Aside0.mk hi285_3
  have HC285_3 := Aside0.mk hl285_3
  clear hi285_3 hl285_3
  have HR285_4 := Aside0.mk hi285_4
  have HC285_4 := Aside0.mk hl285_4
  clear hi285_4 hl285_4
  replace p285 := eq_true p285
  replace q285 := eq_true q285
  have hpt285 : ptrOf (.slice (some ad285) l0.length c0) = .pointer (some ad285) := ptrOf_pos _ _ _ (of_decide_eq_true (by first | (with_reducible assumption) | assumption))
  go_enter Try.func57, Try.ntmps57
  go_wp2
  repeat (go_quiet (fail); try go_wp2)
  (try rw [hpt285])
  go_loopg [5, 6] k (fun kq v5 v6 w' => ∃ (x5_1 : Int) (x6_1 : Int), v5 = .int .i64 x5_1 ∧ v6 = .int .i64 x6_1 ∧ Aside0 (suffix_Index_least.l0 kq l0 l1 x5_1 x6_1 = some r) ∧ Aside0 (kq ≤ k) ∧ Aside0 (Below w.heap.size w w'))
  case atStart => exact ⟨(0), ((((rd_T82 l0 0).f2).length : Int)), (by first | rfl | (simp; done) | (simp [*]; done)), (by first | rfl | (simp; done) | (simp [*]; done)), H', ⟨Nat.le_refl _⟩, ⟨by repeat first|(with_reducible first|exact HB.out|apply Qg|apply Qh|apply Qi)|exact HB.out⟩⟩
  case round =>
   clear H'
   try clear c1
   try clear c2
   try clear p2
   try clear q2
   try clear hx2
   try clear qi2
   try clear c3
   try clear c3b0
   try clear c3b1
   try clear hx285_0
   try clear hx285_1
   try clear hx285_2
   try clear hx285_3
   try clear hx285_4
   try clear p285
   try clear q285
   obtain ⟨x5_1, x6_1, rfl, rfl, HA, HK1, HB⟩ := hrel
   cases gk with
   | zero => exact absurd HA.out (by simp [suffix_Index_least.l0])
   | succ k1 =>
    have H := HA.out
    clear HA
    simp only [suffix_Index_least.l0] at H
    by_cases c4 : x5_1 < x6_1
    ·rw [if_pos c4] at H
     have c4b0 : decide (x5_1 < x6_1) = true := decide_eq_true c4
     clear c4
     by_cases c5 : 0 < (l0.length : Int)
     ·rw [if_pos c5] at H
      have c5b0 : decide (0 < (l0.length : Int)) = true := decide_eq_true c5
      have c5b1 : decide (0 < l0.length) = true := decide_eq_true (by omega)
      clear c5
      obtain ⟨ji6, hji6⟩ : ∃ j_ : Int, (wrap64 (Int.tdiv (wrap64 (x5_1 + x6_1)) 2)) = j_ := ⟨_, rfl⟩
      replace H : (if 0 ≤ (ji6) then (if (ji6) < (((rd_T82 l0 0).f2).length : Int) then ((suffix_Index_Compare.f k1 l0 (rd ((rd_T82 l0 0).f2) (ji6)) l1).bind fun bt288 => (if bt288.1 < 0 then (suffix_Index_least.l0 k1 l0 l1 (wrap64 ((ji6) + 1)) x6_1) else (suffix_Index_least.l0 k1 l0 l1 x5_1 ji6))) else (none)) else (none)) = some r := by first | (rw [hji6] at H; exact H) | (simp only [hji6] at H ⊢; exact H)
      have hji6w : (IntKind.i64.wrap (Int.tdiv (wrap64 (x5_1 + x6_1)) 2)) = ji6 := (i64_w _).trans hji6
      by_cases c7 : 0 ≤ (ji6)
      ·rw [if_pos c7] at H
       have c7b0 : decide (0 ≤ (ji6)) = true := decide_eq_true c7
       clear c7
       by_cases c8 : (ji6) < (((rd_T82 l0 0).f2).length : Int)
       ·rw [if_pos c8] at H
        have c8b0 : decide ((ji6) < (((rd_T82 l0 0).f2).length : Int)) = true := decide_eq_true c8
        clear c8
        replace H := Option.bind_eq_some_iff.mp H
        obtain ⟨⟨t288, t289, t290⟩, A90, H⟩ := H
        replace H : (if t288 < 0 then (suffix_Index_least.l0 k1 l0 l1 (wrap64 ((ji6) + 1)) x6_1) else (suffix_Index_least.l0 k1 l0 l1 x5_1 ji6)) = some r := H
        have A9 := Aside0.mk A90
        clear A90
        by_cases c10 : t288 < 0
        ·rw [if_pos c10] at H
         have c10b0 : decide (t288 < 0) = true := decide_eq_true c10
         clear c10
         have H' := Aside0.mk H
         clear H
         have p286 : 0 ≤ (0 : Int) := (by omega)
         have q286 : 0 < (l0.length : Int) := of_decide_eq_true (by first | (with_reducible assumption) | assumption)
         obtain ⟨ad286, A286_1, c286_1, A286_2, c286_2, A286_3, c286_3, A286_4, c286_4, e286, hx286_0, hx286_1, hx286_2, hx286_3, hx286_4, hl286_1, hi286_1, hl286_2, hi286_2, hl286_3, hi286_3, hl286_4, hi286_4⟩ := at_T82 HR0.out 0 p286 q286
         obtain rfl : ad285 = ad286 := (by injection e286)
         have qi286 : (0 < l0.length) = True := eq_true (by omega)
         (try rw [show ((0 : Int)).toNat = 0 from rfl] at hx286_0)
         (try rw [show 0 * 5 = 0 from rfl] at hx286_0)
         (try rw [Addr.add_zero'] at hx286_0)
         (try rw [show ((0 : Int)).toNat = 0 from rfl] at hx286_1)
         (try rw [show 0 * 5 = 0 from rfl] at hx286_1)
         (try rw [Addr.add_zero'] at hx286_1)
         (try rw [show ((0 : Int)).toNat = 0 from rfl] at hx286_2)
         (try rw [show 0 * 5 = 0 from rfl] at hx286_2)
         (try rw [Addr.add_zero'] at hx286_2)
         (try rw [show ((0 : Int)).toNat = 0 from rfl] at hx286_3)
         (try rw [show 0 * 5 = 0 from rfl] at hx286_3)
         (try rw [Addr.add_zero'] at hx286_3)
         (try rw [show ((0 : Int)).toNat = 0 from rfl] at hx286_4)
         (try rw [show 0 * 5 = 0 from rfl] at hx286_4)
         (try rw [Addr.add_zero'] at hx286_4)
         replace hx286_0 := (HB.out.cell (World.block_lt_of_cell? w _ hx286_0)).trans hx286_0
         replace hx286_1 := (HB.out.cell (World.block_lt_of_cell? w _ hx286_1)).trans hx286_1
         replace hx286_2 := (HB.out.cell (World.block_lt_of_cell? w _ hx286_2)).trans hx286_2
         replace hx286_3 := (HB.out.cell (World.block_lt_of_cell? w _ hx286_3)).trans hx286_3
         replace hx286_4 := (HB.out.cell (World.block_lt_of_cell? w _ hx286_4)).trans hx286_4
         have HR286_1 := Aside0.mk hi286_1
         have HC286_1 := Aside0.mk hl286_1
         clear hi286_1 hl286_1
         have HR286_2 := Aside0.mk hi286_2
         have HC286_2 := Aside0.mk hl286_2
         clear hi286_2 hl286_2
         have HR286_3 := Aside0.mk hi286_3
         have HC286_3 := Aside0.mk hl286_3
         clear hi286_3 hl286_3
         have HR286_4 := Aside0.mk hi286_4
         have HC286_4 := Aside0.mk hl286_4
         clear hi286_4 hl286_4
         replace p286 := eq_true p286
         replace q286 := eq_true q286
         have hpt286 : ptrOf (.slice (some ad285) l0.length c0) = .pointer (some ad285) := ptrOf_pos _ _ _ (of_decide_eq_true (by first | (with_reducible assumption) | assumption))
         have p287 : 0 ≤ ((ji6) : Int) := of_decide_eq_true (by first | (with_reducible assumption) | assumption)
         have q287 : (ji6) < (((rd_T82 l0 0).f2).length : Int) := of_decide_eq_true (by first | (with_reducible assumption) | assumption)
         obtain ⟨ad287, e287, hx287_0⟩ := Kd.at_int HR286_2.out (ji6) p287 q287
         cases e287
         replace hx287_0 := (HB.out.cell (World.block_lt_of_cell? w _ hx287_0)).trans hx287_0
         replace p287 := eq_true p287
         replace q287 := eq_true q287
         go_wp2_with (first | (go_at_call 43; (try rw [← hpt285]); (with_reducible refine (suffix_Index_Compare.calls k1 _ _ l0 (rd ((rd_T82 l0 0).f2) (ji6)) _ _ l1 t288 t289 t290 _ ?side1 ?side2 ?side3 ?side4 A9.out).mono ?_); (case side1 => repeat (first | exact (Kd.C_below HR0.out HB.out) | (with_reducible first|refine Qd ?_ _|refine Qe ?_ _|refine Qf ?_))); (case side2 => exact HC0.out); (case side3 => repeat (first | exact (Kd.C_below HR1.out HB.out) | (with_reducible first|refine Qd ?_ _|refine Qe ?_ _|refine Qf ?_))); (case side4 => exact HC1.out); rintro e w11 ⟨rfl, hb⟩; have n0_ := Aside0.mk (below_step (by repeat first|(with_reducible first|exact HB.out|apply Qg|apply Qh|apply Qi)|exact HB.out) hb); clear HB; have HB := n0_; clear n0_; (try clear hb); (try clear hb2); (try clear hk); (try clear hi)))
         repeat (go_quiet (first | (go_at_call 43; (try rw [← hpt285]); (with_reducible refine (suffix_Index_Compare.calls k1 _ _ l0 (rd ((rd_T82 l0 0).f2) (ji6)) _ _ l1 t288 t289 t290 _ ?side1 ?side2 ?side3 ?side4 A9.out).mono ?_); (case side1 => repeat (first | exact (Kd.C_below HR0.out HB.out) | (with_reducible first|refine Qd ?_ _|refine Qe ?_ _|refine Qf ?_))); (case side2 => exact HC0.out); (case side3 => repeat (first | exact (Kd.C_below HR1.out HB.out) | (with_reducible first|refine Qd ?_ _|refine Qe ?_ _|refine Qf ?_))); (case side4 => exact HC1.out); rintro e w11 ⟨rfl, hb⟩; have n0_ := Aside0.mk (below_step (by repeat first|(with_reducible first|exact HB.out|apply Qg|apply Qh|apply Qi)|exact HB.out) hb); clear HB; have HB := n0_; clear n0_; (try clear hb); (try clear hb2); (try clear hk); (try clear hi))); try go_wp2_with (first | (go_at_call 43; (try rw [← hpt285]); (with_reducible refine (suffix_Index_Compare.calls k1 _ _ l0 (rd ((rd_T82 l0 0).f2) (ji6)) _ _ l1 t288 t289 t290 _ ?side1 ?side2 ?side3 ?side4 A9.out).mono ?_); (case side1 => repeat (first | exact (Kd.C_below HR0.out HB.out) | (with_reducible first|refine Qd ?_ _|refine Qe ?_ _|refine Qf ?_))); (case side2 => exact HC0.out); (case side3 => repeat (first | exact (Kd.C_below HR1.out HB.out) | (with_reducible first|refine Qd ?_ _|refine Qe ?_ _|refine Qf ?_))); (case side4 => exact HC1.out); rintro e w11 ⟨rfl, hb⟩; have n0_ := Aside0.mk (below_step (by repeat first|(with_reducible first|exact HB.out|apply Qg|apply Qh|apply Qi)|exact HB.out) hb); clear HB; have HB := n0_; clear n0_; (try clear hb); (try clear hb2); (try clear hk); (try clear hi))))
         go_roundg k1
         case measure => have := HK1.out; omega
         case rel => exact ⟨(wrap64 ((ji6) + 1)), (x6_1), (by first | rfl | (simp; done) | (simp only [← hji6] <;> (first | rfl | simp)) | (simp [*]; done)), (by first | rfl | (simp; done) | (simp [*]; done)), H', ⟨by have := HK1.out; omega⟩, ⟨by repeat first|(with_reducible first|exact HB.out|apply Qg|apply Qh|apply Qi)|exact HB.out⟩⟩
        ·rw [if_neg c10] at H
         have c10b0 : decide (t288 < 0) = false := decide_eq_false c10
         clear c10
         have H' := Aside0.mk H
         clear H
         have p286 : 0 ≤ (0 : Int) := (by omega)
         have q286 : 0 < (l0.length : Int) := of_decide_eq_true (by first | (with_reducible assumption) | assumption)
         obtain ⟨ad286, A286_1, c286_1, A286_2, c286_2, A286_3, c286_3, A286_4, c286_4, e286, hx286_0, hx286_1, hx286_2, hx286_3, hx286_4, hl286_1, hi286_1, hl286_2, hi286_2, hl286_3, hi286_3, hl286_4, hi286_4⟩ := at_T82 HR0.out 0 p286 q286
         obtain rfl : ad285 = ad286 := (by injection e286)
         have qi286 : (0 < l0.length) = True := eq_true (by omega)
         (try rw [show ((0 : Int)).toNat = 0 from rfl] at hx286_0)
         (try rw [show 0 * 5 = 0 from rfl] at hx286_0)
         (try rw [Addr.add_zero'] at hx286_0)
         (try rw [show ((0 : Int)).toNat = 0 from rfl] at hx286_1)
         (try rw [show 0 * 5 = 0 from rfl] at hx286_1)
         (try rw [Addr.add_zero'] at hx286_1)
         (try rw [show ((0 : Int)).toNat = 0 from rfl] at hx286_2)
         (try rw [show 0 * 5 = 0 from rfl] at hx286_2)
         (try rw [Addr.add_zero'] at hx286_2)
         (try rw [show ((0 : Int)).toNat = 0 from rfl] at hx286_3)
         (try rw [show 0 * 5 = 0 from rfl] at hx286_3)
         (try rw [Addr.add_zero'] at hx286_3)
         (try rw [show ((0 : Int)).toNat = 0 from rfl] at hx286_4)
         (try rw [show 0 * 5 = 0 from rfl] at hx286_4)
         (try rw [Addr.add_zero'] at hx286_4)
         replace hx286_0 := (HB.out.cell (World.block_lt_of_cell? w _ hx286_0)).trans hx286_0
         replace hx286_1 := (HB.out.cell (World.block_lt_of_cell? w _ hx286_1)).trans hx286_1
         replace hx286_2 := (HB.out.cell (World.block_lt_of_cell? w _ hx286_2)).trans hx286_2
         replace hx286_3 := (HB.out.cell (World.block_lt_of_cell? w _ hx286_3)).trans hx286_3
         replace hx286_4 := (HB.out.cell (World.block_lt_of_cell? w _ hx286_4)).trans hx286_4
         have HR286_1 := Aside0.mk hi286_1
         have HC286_1 := Aside0.mk hl286_1
         clear hi286_1 hl286_1
         have HR286_2 := Aside0.mk hi286_2
         have HC286_2 := Aside0.mk hl286_2
         clear hi286_2 hl286_2
         have HR286_3 := Aside0.mk hi286_3
         have HC286_3 := Aside0.mk hl286_3
         clear hi286_3 hl286_3
         have HR286_4 := Aside0.mk hi286_4
         have HC286_4 := Aside0.mk hl286_4
         clear hi286_4 hl286_4
         replace p286 := eq_true p286
         replace q286 := eq_true q286
         have hpt286 : ptrOf (.slice (some ad285) l0.length c0) = .pointer (some ad285) := ptrOf_pos _ _ _ (of_decide_eq_true (by first | (with_reducible assumption) | assumption))
         have p287 : 0 ≤ ((ji6) : Int) := of_decide_eq_true (by first | (with_reducible assumption) | assumption)
         have q287 : (ji6) < (((rd_T82 l0 0).f2).length : Int) := of_decide_eq_true (by first | (with_reducible assumption) | assumption)
         obtain ⟨ad287, e287, hx287_0⟩ := Kd.at_int HR286_2.out (ji6) p287 q287
         cases e287
         replace hx287_0 := (HB.out.cell (World.block_lt_of_cell? w _ hx287_0)).trans hx287_0
         replace p287 := eq_true p287
         replace q287 := eq_true q287
         go_wp2_with (first | (go_at_call 43; (try rw [← hpt285]); (with_reducible refine (suffix_Index_Compare.calls k1 _ _ l0 (rd ((rd_T82 l0 0).f2) (ji6)) _ _ l1 t288 t289 t290 _ ?side1 ?side2 ?side3 ?side4 A9.out).mono ?_); (case side1 => repeat (first | exact (Kd.C_below HR0.out HB.out) | (with_reducible first|refine Qd ?_ _|refine Qe ?_ _|refine Qf ?_))); (case side2 => exact HC0.out); (case side3 => repeat (first | exact (Kd.C_below HR1.out HB.out) | (with_reducible first|refine Qd ?_ _|refine Qe ?_ _|refine Qf ?_))); (case side4 => exact HC1.out); rintro e w12 ⟨rfl, hb⟩; have n0_ := Aside0.mk (below_step (by repeat first|(with_reducible first|exact HB.out|apply Qg|apply Qh|apply Qi)|exact HB.out) hb); clear HB; have HB := n0_; clear n0_; (try clear hb); (try clear hb2); (try clear hk); (try clear hi)))
         repeat (go_quiet (first | (go_at_call 43; (try rw [← hpt285]); (with_reducible refine (suffix_Index_Compare.calls k1 _ _ l0 (rd ((rd_T82 l0 0).f2) (ji6)) _ _ l1 t288 t289 t290 _ ?side1 ?side2 ?side3 ?side4 A9.out).mono ?_); (case side1 => repeat (first | exact (Kd.C_below HR0.out HB.out) | (with_reducible first|refine Qd ?_ _|refine Qe ?_ _|refine Qf ?_))); (case side2 => exact HC0.out); (case side3 => repeat (first | exact (Kd.C_below HR1.out HB.out) | (with_reducible first|refine Qd ?_ _|refine Qe ?_ _|refine Qf ?_))); (case side4 => exact HC1.out); rintro e w12 ⟨rfl, hb⟩; have n0_ := Aside0.mk (below_step (by repeat first|(with_reducible first|exact HB.out|apply Qg|apply Qh|apply Qi)|exact HB.out) hb); clear HB; have HB := n0_; clear n0_; (try clear hb); (try clear hb2); (try clear hk); (try clear hi))); try go_wp2_with (first | (go_at_call 43; (try rw [← hpt285]); (with_reducible refine (suffix_Index_Compare.calls k1 _ _ l0 (rd ((rd_T82 l0 0).f2) (ji6)) _ _ l1 t288 t289 t290 _ ?side1 ?side2 ?side3 ?side4 A9.out).mono ?_); (case side1 => repeat (first | exact (Kd.C_below HR0.out HB.out) | (with_reducible first|refine Qd ?_ _|refine Qe ?_ _|refine Qf ?_))); (case side2 => exact HC0.out); (case side3 => repeat (first | exact (Kd.C_below HR1.out HB.out) | (with_reducible first|refine Qd ?_ _|refine Qe ?_ _|refine Qf ?_))); (case side4 => exact HC1.out); rintro e w12 ⟨rfl, hb⟩; have n0_ := Aside0.mk (below_step (by repeat first|(with_reducible first|exact HB.out|apply Qg|apply Qh|apply Qi)|exact HB.out) hb); clear HB; have HB := n0_; clear n0_; (try clear hb); (try clear hb2); (try clear hk); (try clear hi))))
         go_roundg k1
         case measure => have := HK1.out; omega
         case rel => exact ⟨(x5_1), (ji6), (by first | rfl | (simp; done) | (simp [*]; done)), (by first | rfl | (simp; done) | (simp only [← hji6] <;> (first | rfl | simp)) | (simp [*]; done)), H', ⟨by have := HK1.out; omega⟩, ⟨by repeat first|(with_reducible first|exact HB.out|apply Qg|apply Qh|apply Qi)|exact HB.out⟩⟩
       ·rw [if_neg c8] at H
        exact absurd H (by simp)
      ·rw [if_neg c7] at H
       exact absurd H (by simp)
     ·rw [if_neg c5] at H
      exact absurd H (by simp)
    ·rw [if_neg c4] at H
     have c4b0 : decide (x5_1 < x6_1) = false := decide_eq_false c4
     clear c4
     obtain rfl := Option.some.inj H
     go_wp2
     repeat (go_quiet (fail); try go_wp2)
     go_ret
     exact ⟨by first | rfl | (simp [errW_none, errW_some] <;> rfl) | (simp [*, errW_none, errW_some] <;> rfl), by repeat first|(with_reducible first|exact HB.out|apply Qg|apply Qh|apply Qi)|exact HB.out⟩
 ·rw [if_neg c3] at H
  exact absurd H (by simp)

end Go.Proofs.Ythcnnfahlhklgaa.X
