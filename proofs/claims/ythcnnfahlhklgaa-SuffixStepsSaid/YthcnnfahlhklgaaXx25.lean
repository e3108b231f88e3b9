-- Printed by wip/xprint.py of this repo (a wrapper of the session's own round the print).
import Derived.Test.YthcnnfahlhklgaaXx0
import Derived.Test.YthcnnfahlhklgaaXx14
namespace Go.Proofs.Ythcnnfahlhklgaa.X
open Go.RowKit Go.Proofs.YthcnnfahlhklgaaW.PrintWords Go.Proofs.YthcnnfahlhklgaaW.PrintLast Go.Proofs.YthcnnfahlhklgaaW.PrintMore
attribute [local go_sem] ptrOf_eql ptrOf_neq ptrOf_eqg ptrOf_neg str_leq str_geq str_gtr max2_int min2_int max_two min_two max_three min_three max_four min_four   -- for this text's walks alone
set_option linter.unusedVariables false
set_option linter.unusedSimpArgs false

/-! ### suffix_Index_Kth: function 19 -/
def suffix_Index_Kth.l0 : Nat → List (S82) → Int → List Int → Int → Int → Option (List Int × Int)
 | 0, _, _, _, _, _ => none
 | k + 1, x0, x1, x18, x19, x20 => if x20 < x19 then (if 0 ≤ x20 then (if x20 < (x18.length : Int) then (if 0 < (x0.length : Int) then (if x20 < (((rd_T82 x0 0).f4).length : Int) then (if x1 < (wrap64 ((wrap64 ((((rd_T82 x0 0).f1).length : Int) - (rd x18 x20))) - (rd ((rd_T82 x0 0).f4) x20))) then (if 0 ≤ (wrap64 ((wrap64 ((rd ((rd_T82 x0 0).f4) x20) + 1)) + x1)) then (if (wrap64 ((wrap64 ((rd ((rd_T82 x0 0).f4) x20) + 1)) + x1) : Int).toNat ≤ 281474976710656 then (if 0 ≤ (rd x18 x20) then (if (rd x18 x20) ≤ (((rd_T82 x0 0).f1).length : Int) then ((copy_u8.f (List.replicate (wrap64 ((wrap64 ((rd ((rd_T82 x0 0).f4) x20) + 1)) + x1) : Int).toNat 0) (((rd_T82 x0 0).f1).drop ((rd x18 x20) : Int).toNat)).bind fun bt317 => (some (bt317.2, 0))) else (none)) else (none)) else (none)) else (none)) else (suffix_Index_Kth.l0 k x0 (wrap64 (x1 - (wrap64 ((wrap64 ((((rd_T82 x0 0).f1).length : Int) - (rd x18 x20))) - (rd ((rd_T82 x0 0).f4) x20))))) x18 x19 (wrap64 (x20 + 1)))) else (none)) else (none)) else (none)) else (none)) else (some (([] : List Int), 132))
def suffix_Index_Kth.f (k : Nat) (l0 : List (S82)) (a1 : Int) : Option (List Int × Int) := (suffix_Index_is.f l0).bind fun t304 => (if t304 = true then (if a1 < 0 then (some (([] : List Int), 132)) else (if 0 < (l0.length : Int) then (suffix_Index_Kth.l0 k l0 a1 ((rd_T82 l0 0).f2) (((rd_T82 l0 0).f2).length : Int) 0) else (none))) else (some (([] : List Int), 2)))
theorem suffix_Index_Kth.mono_l : ∀ k, (∀ y0 y1 y2 y3 y4, LeO (suffix_Index_Kth.l0 k y0 y1 y2 y3 y4) (suffix_Index_Kth.l0 (k + 1) y0 y1 y2 y3 y4))
 | 0 => fun _ _ _ _ _ r h => by simp [suffix_Index_Kth.l0] at h
 | k + 1 => by
  have ih0 := suffix_Index_Kth.mono_l k
  ·intro y0 y1 y2 y3 y4
   unfold suffix_Index_Kth.l0
   repeat' first
   | (with_reducible exact ih0 _ _ _ _ _)
   | (with_reducible exact LeO.refl _)
   | (with_reducible exact LeO.none _)
   | (with_reducible refine LeO.ite ?_ ?_)
   | (with_reducible refine LeO.bind ?_ (fun _ => ?_))
   | exact ih0 _ _ _ _ _
   | exact LeO.none _
   | refine LeO.ite ?_ ?_
   | refine LeO.bind ?_ (fun _ => ?_)
theorem suffix_Index_Kth.mono : ∀ a0 a1 k, LeO (suffix_Index_Kth.f k a0 a1) (suffix_Index_Kth.f (k + 1) a0 a1) := by
 intro a0 a1 k
 have ih0 := suffix_Index_Kth.mono_l k
 unfold suffix_Index_Kth.f
 repeat' first
   | (with_reducible exact ih0 _ _ _ _ _)
   | (with_reducible exact LeO.refl _)
   | (with_reducible exact LeO.none _)
   | (with_reducible refine LeO.ite ?_ ?_)
   | (with_reducible refine LeO.bind ?_ (fun _ => ?_))
   | exact ih0 _ _ _ _ _
   | exact LeO.none _
   | refine LeO.ite ?_ ?_
   | refine LeO.bind ?_ (fun _ => ?_)
set_option maxHeartbeats 8000000 in
set_option maxRecDepth 100000 in
theorem suffix_Index_Kth.calls (k : Nat) (A0 : Option Addr) (c0 : Nat) (l0 : List (S82)) (a1 : Int) (r1 : List Int) (r2 : Int) (w : World) (hr0 : Kd.C k82 w A0 l0.length l0) (hc0 : l0.length ≤ c0) (h : suffix_Index_Kth.f k l0 a1 = some (r1, r2)) :
  Calls Try.prog 19 #[ptrOf (.slice A0 l0.length c0), .int .i64 a1] w fun e w' => ∃ v0_ : Value, e = .returned (.tuple #[v0_, .int .i64 r2]) ∧ Kd.R (Kd.int .u8) 5 w' w.heap.size (fun _ => True) v0_ r1 ∧ Below w.heap.size w w' := by
 have HR0 := Aside0.mk hr0
 have HC0 := Aside0.mk hc0
 clear hr0 hc0
 have HB := Aside0.mk (Below.refl w.heap.size w)
 have H : ((suffix_Index_is.f l0).bind fun t304 => (if t304 = true then (if a1 < 0 then (some (([] : List Int), 132)) else (if 0 < (l0.length : Int) then (suffix_Index_Kth.l0 k l0 a1 ((rd_T82 l0 0).f2) (((rd_T82 l0 0).f2).length : Int) 0) else (none))) else (some (([] : List Int), 2)))) = some (r1, r2) := h
 clear h
 replace H := Option.bind_eq_some_iff.mp H
 obtain ⟨t304, A30, H⟩ := H
 replace H : (if t304 = true then (if a1 < 0 then (some (([] : List Int), 132)) else (if 0 < (l0.length : Int) then (suffix_Index_Kth.l0 k l0 a1 ((rd_T82 l0 0).f2) (((rd_T82 l0 0).f2).length : Int) 0) else (none))) else (some (([] : List Int), 2))) = some (r1, r2) := H
 have A3 := Aside0.mk A30
 clear A30
 by_cases c4 : t304 = true
 ·subst c4
  have H1 : (if a1 < 0 then (some (([] : List Int), 132)) else (if 0 < (l0.length : Int) then (suffix_Index_Kth.l0 k l0 a1 ((rd_T82 l0 0).f2) (((rd_T82 l0 0).f2).length : Int) 0) else (none))) = some (r1, r2) := by rw [if_pos rfl] at H; exact H
  clear H
  have H := H1
  clear H1
  by_cases c5 : a1 < 0
  ·rw [if_pos c5] at H
   have c5b0 : decide (a1 < 0) = true := decide_eq_true c5
   clear c5
   simp only [Option.some.injEq, Prod.mk.injEq] at H
   obtain ⟨rfl, rfl⟩ := H
   go_enter Try.func19, Try.ntmps19
   go_wp2_with (first | (go_at_call 54; (with_reducible refine (suffix_Index_is.calls _ _ l0 true _ ?side1 ?side2 A3.out).mono ?_); (case side1 => repeat (first | exact HR0.out | (with_reducible refine Kd.C_alloc ?_ _) | (with_reducible refine Kd.C_drewN ?_ _) | (with_reducible refine Kd.C_drew ?_))); (case side2 => exact HC0.out); rintro e w' ⟨rfl, ⟨nd, rfl⟩⟩; (try first | exact ⟨rfl, _, World.drewN_drewN _ _ _⟩ | exact ⟨rfl, _, Eq.trans (World.drewN_drewN _ _ _) (congrArg (World.drewN _) (Nat.add_assoc _ _ _))⟩)))
   repeat (go_quiet (first | (go_at_call 54; (with_reducible refine (suffix_Index_is.calls _ _ l0 true _ ?side1 ?side2 A3.out).mono ?_); (case side1 => repeat (first | exact HR0.out | (with_reducible refine Kd.C_alloc ?_ _) | (with_reducible refine Kd.C_drewN ?_ _) | (with_reducible refine Kd.C_drew ?_))); (case side2 => exact HC0.out); rintro e w' ⟨rfl, ⟨nd, rfl⟩⟩; (try first | exact ⟨rfl, _, World.drewN_drewN _ _ _⟩ | exact ⟨rfl, _, Eq.trans (World.drewN_drewN _ _ _) (congrArg (World.drewN _) (Nat.add_assoc _ _ _))⟩))); try go_wp2_with (first | (go_at_call 54; (with_reducible refine (suffix_Index_is.calls _ _ l0 true _ ?side1 ?side2 A3.out).mono ?_); (case side1 => repeat (first | exact HR0.out | (with_reducible refine Kd.C_alloc ?_ _) | (with_reducible refine Kd.C_drewN ?_ _) | (with_reducible refine Kd.C_drew ?_))); (case side2 => exact HC0.out); rintro e w' ⟨rfl, ⟨nd, rfl⟩⟩; (try first | exact ⟨rfl, _, World.drewN_drewN _ _ _⟩ | exact ⟨rfl, _, Eq.trans (World.drewN_drewN _ _ _) (congrArg (World.drewN _) (Nat.add_assoc _ _ _))⟩))))
   go_ret2
   exact ⟨_, by first | rfl | (simp [errW_none, errW_some] <;> rfl) | (simp [*, errW_none, errW_some] <;> rfl), by first | exact Kd.R_nil _ _ _ _ _ | exact Kd.N_nil _ _ _ _ _ | exact Kd.V_nil _ _ _ _ _ | exact Kd.Q_nil _ _ _ _ _ | exact Kd.S_nil _ _ _ _ _, by repeat (first | (with_reducible first | exact HB.out | apply below_alloc | apply pw_below_drewN | apply below_drew1) | exact HB.out)⟩
  ·rw [if_neg c5] at H
   have c5b0 : decide (a1 < 0) = false := decide_eq_false c5
   clear c5
   by_cases c6 : 0 < (l0.length : Int)
   ·rw [if_pos c6] at H
    have c6b0 : decide (0 < (l0.length : Int)) = true := decide_eq_true c6
    have c6b1 : decide (0 < l0.length) = true := decide_eq_true (by omega)
    clear c6
    have H' := Aside0.mk H
    clear H
    go_enter Try.func19, Try.ntmps19
    go_wp2_with (first | (go_at_call 54; (try rw [← hpt305]); (with_reducible refine (suffix_Index_is.calls _ _ l0 true _ ?side1 ?side2 A3.out).mono ?_); (case side1 => repeat (first | exact HR0.out | (with_reducible refine Kd.C_alloc ?_ _) | (with_reducible refine Kd.C_drewN ?_ _) | (with_reducible refine Kd.C_drew ?_))); (case side2 => exact HC0.out); rintro e w' ⟨rfl, ⟨nd, rfl⟩⟩; (try first | exact ⟨rfl, _, World.drewN_drewN _ _ _⟩ | exact ⟨rfl, _, Eq.trans (World.drewN_drewN _ _ _) (congrArg (World.drewN _) (Nat.add_assoc _ _ _))⟩); have p305 : 0 ≤ (0 : Int) := (by omega); have q305 : 0 < (l0.length : Int) := of_decide_eq_true (by first | (with_reducible assumption) | assumption); obtain ⟨ad305, A305_1, c305_1, A305_2, c305_2, A305_3, c305_3, A305_4, c305_4, e305, hx305_0, hx305_1, hx305_2, hx305_3, hx305_4, hl305_1, hi305_1, hl305_2, hi305_2, hl305_3, hi305_3, hl305_4, hi305_4⟩ := at_T82 HR0.out 0 p305 q305; cases e305; have qi305 : (0 < l0.length) = True := eq_true (by omega); (try rw [show ((0 : Int)).toNat = 0 from rfl] at hx305_0); (try rw [show 0 * 5 = 0 from rfl] at hx305_0); (try rw [Addr.add_zero'] at hx305_0); (try rw [show ((0 : Int)).toNat = 0 from rfl] at hx305_1); (try rw [show 0 * 5 = 0 from rfl] at hx305_1); (try rw [Addr.add_zero'] at hx305_1); (try rw [show ((0 : Int)).toNat = 0 from rfl] at hx305_2); (try rw [show 0 * 5 = 0 from rfl] at hx305_2); (try rw [Addr.add_zero'] at hx305_2); (try rw [show ((0 : Int)).toNat = 0 from rfl] at hx305_3); (try rw [show 0 * 5 = 0 from rfl] at hx305_3); (try rw [Addr.add_zero'] at hx305_3); (try rw [show ((0 : Int)).toNat = 0 from rfl] at hx305_4); (try rw [show 0 * 5 = 0 from rfl] at hx305_4); (try rw [Addr.add_zero'] at hx305_4); have HR305_1 := Aside0.mk hi305_1; have HC305_1 := Aside0.mk hl305_1; clear hi305_1 hl305_1; have HR305_2 := Aside0.mk hi305_2; have HC305_2 := Aside0.mk hl305_2; clear hi305_2 hl305_2; have HR305_3 := Aside0.mk hi305_3; have HC305_3 := Aside0.mk hl305_3; clear hi305_3 hl305_3; have HR305_4 := Aside0.mk hi305_4; have HC305_4 := Aside0.mk hl305_4; clear hi305_4 hl305_4; replace p305 := eq_true p305; replace q305 := eq_true q305; have hpt305 : ptrOf (.slice (some ad305) l0.length c0) = .pointer (some ad305) := ptrOf_pos _ _ _ (of_decide_eq_true (by first | (with_reducible assumption) | assumption))))
    repeat (go_quiet (first | (go_at_call 54; (try rw [← hpt305]); (with_reducible refine (suffix_Index_is.calls _ _ l0 true _ ?side1 ?side2 A3.out).mono ?_); (case side1 => repeat (first | exact HR0.out | (with_reducible refine Kd.C_alloc ?_ _) | (with_reducible refine Kd.C_drewN ?_ _) | (with_reducible refine Kd.C_drew ?_))); (case side2 => exact HC0.out); rintro e w' ⟨rfl, ⟨nd, rfl⟩⟩; (try first | exact ⟨rfl, _, World.drewN_drewN _ _ _⟩ | exact ⟨rfl, _, Eq.trans (World.drewN_drewN _ _ _) (congrArg (World.drewN _) (Nat.add_assoc _ _ _))⟩); have p305 : 0 ≤ (0 : Int) := (by omega); have q305 : 0 < (l0.length : Int) := of_decide_eq_true (by first | (with_reducible assumption) | assumption); obtain ⟨ad305, A305_1, c305_1, A305_2, c305_2, A305_3, c305_3, A305_4, c305_4, e305, hx305_0, hx305_1, hx305_2, hx305_3, hx305_4, hl305_1, hi305_1, hl305_2, hi305_2, hl305_3, hi305_3, hl305_4, hi305_4⟩ := at_T82 HR0.out 0 p305 q305; cases e305; have qi305 : (0 < l0.length) = True := eq_true (by omega); (try rw [show ((0 : Int)).toNat = 0 from rfl] at hx305_0); (try rw [show 0 * 5 = 0 from rfl] at hx305_0); (try rw [Addr.add_zero'] at hx305_0); (try rw [show ((0 : Int)).toNat = 0 from rfl] at hx305_1); (try rw [show 0 * 5 = 0 from rfl] at hx305_1); (try rw [Addr.add_zero'] at hx305_1); (try rw [show ((0 : Int)).toNat = 0 from rfl] at hx305_2); (try rw [show 0 * 5 = 0 from rfl] at hx305_2); (try rw [Addr.add_zero'] at hx305_2); (try rw [show ((0 : Int)).toNat = 0 from rfl] at hx305_3); (try rw [show 0 * 5 = 0 from rfl] at hx305_3); (try rw [Addr.add_zero'] at hx305_3); (try rw [show ((0 : Int)).toNat = 0 from rfl] at hx305_4); (try rw [show 0 * 5 = 0 from rfl] at hx305_4); (try rw [Addr.add_zero'] at hx305_4); have HR305_1 := Aside0.mk hi305_1; have HC305_1 := Aside0.mk hl305_1; clear hi305_1 hl305_1; have HR305_2 := Aside0.mk hi305_2; have HC305_2 := Aside0.mk hl305_2; clear hi305_2 hl305_2; have HR305_3 := Aside0.mk hi305_3; have HC305_3 := Aside0.mk hl305_3; clear hi305_3 hl305_3; have HR305_4 := Aside0.mk hi305_4; have HC305_4 := Aside0.mk hl305_4; clear hi305_4 hl305_4; replace p305 := eq_true p305; replace q305 := eq_true q305; have hpt305 : ptrOf (.slice (some ad305) l0.length c0) = .pointer (some ad305) := ptrOf_pos _ _ _ (of_decide_eq_true (by first | (with_reducible assumption) | assumption)))); try go_wp2_with (first | (go_at_call 54; (try rw [← hpt305]); (with_reducible refine (suffix_Index_is.calls _ _ l0 true _ ?side1 ?side2 A3.out).mono ?_); (case side1 => repeat (first | exact HR0.out | (with_reducible refine Kd.C_alloc ?_ _) | (with_reducible refine Kd.C_drewN ?_ _) | (with_reducible refine Kd.C_drew ?_))); (case side2 => exact HC0.out); rintro e w' ⟨rfl, ⟨nd, rfl⟩⟩; (try first | exact ⟨rfl, _, World.drewN_drewN _ _ _⟩ | exact ⟨rfl, _, Eq.trans (World.drewN_drewN _ _ _) (congrArg (World.drewN _) (Nat.add_assoc _ _ _))⟩); have p305 : 0 ≤ (0 : Int) := (by omega); have q305 : 0 < (l0.length : Int) := of_decide_eq_true (by first | (with_reducible assumption) | assumption); obtain ⟨ad305, A305_1, c305_1, A305_2, c305_2, A305_3, c305_3, A305_4, c305_4, e305, hx305_0, hx305_1, hx305_2, hx305_3, hx305_4, hl305_1, hi305_1, hl305_2, hi305_2, hl305_3, hi305_3, hl305_4, hi305_4⟩ := at_T82 HR0.out 0 p305 q305; cases e305; have qi305 : (0 < l0.length) = True := eq_true (by omega); (try rw [show ((0 : Int)).toNat = 0 from rfl] at hx305_0); (try rw [show 0 * 5 = 0 from rfl] at hx305_0); (try rw [Addr.add_zero'] at hx305_0); (try rw [show ((0 : Int)).toNat = 0 from rfl] at hx305_1); (try rw [show 0 * 5 = 0 from rfl] at hx305_1); (try rw [Addr.add_zero'] at hx305_1); (try rw [show ((0 : Int)).toNat = 0 from rfl] at hx305_2); (try rw [show 0 * 5 = 0 from rfl] at hx305_2); (try rw [Addr.add_zero'] at hx305_2); (try rw [show ((0 : Int)).toNat = 0 from rfl] at hx305_3); (try rw [show 0 * 5 = 0 from rfl] at hx305_3); (try rw [Addr.add_zero'] at hx305_3); (try rw [show ((0 : Int)).toNat = 0 from rfl] at hx305_4); (try rw [show 0 * 5 = 0 from rfl] at hx305_4); (try rw [Addr.add_zero'] at hx305_4); have HR305_1 := Aside0.mk hi305_1; have HC305_1 := Aside0.mk hl305_1; clear hi305_1 hl305_1; have HR305_2 := Aside0.mk hi305_2; have HC305_2 := Aside0.mk hl305_2; clear hi305_2 hl305_2; have HR305_3 := Aside0.mk hi305_3; have HC305_3 := Aside0.mk hl305_3; clear hi305_3 hl305_3; have HR305_4 := Aside0.mk hi305_4; have HC305_4 := Aside0.mk hl305_4; clear hi305_4 hl305_4; replace p305 := eq_true p305; replace q305 := eq_true q305; have hpt305 : ptrOf (.slice (some ad305) l0.length c0) = .pointer (some ad305) := ptrOf_pos _ _ _ (of_decide_eq_true (by first | (with_reducible assumption) | assumption)))))
    (try rw [hpt305])
    go_loopg [1, 20] k (fun kq v1 v20 w' => ∃ (x1_1 : Int) (x20_1 : Int), v1 = .int .i64 x1_1 ∧ v20 = .int .i64 x20_1 ∧ Aside0 (suffix_Index_Kth.l0 kq l0 x1_1 ((rd_T82 l0 0).f2) (((rd_T82 l0 0).f2).length : Int) x20_1 = some (r1, r2)) ∧ Aside0 (kq ≤ k) ∧ Aside0 (Below w.heap.size w w'))
    case atStart => exact ⟨(a1), (0), (by first | rfl | (simp; done) | (simp [*]; done)), (by first | rfl | (simp; done) | (simp [*]; done)), H', ⟨Nat.le_refl _⟩, ⟨by repeat (first | (with_reducible first | exact HB.out | apply below_alloc | apply pw_below_drewN | apply below_drew1) | exact HB.out)⟩⟩
    case round =>
     clear H'
     try clear c1
     try clear p2
     try clear c3
     try clear p3
     try clear q3
     try clear hx3
     try clear qi3
     try clear c4
     try clear c5
     try clear c5b0
     try clear c6
     try clear c6b0
     try clear c6b1
     try clear hx305_0
     try clear hx305_1
     try clear hx305_2
     try clear hx305_3
     try clear hx305_4
     try clear p305
     try clear q305
     obtain ⟨x1_1, x20_1, rfl, rfl, HA, HK1, HB⟩ := hrel
     cases gk with
     | zero => exact absurd HA.out (by simp [suffix_Index_Kth.l0])
     | succ k1 =>
      have H := HA.out
      clear HA
      simp only [suffix_Index_Kth.l0] at H
      by_cases c7 : x20_1 < (((rd_T82 l0 0).f2).length : Int)
      ·rw [if_pos c7] at H
       have c7b0 : decide (x20_1 < (((rd_T82 l0 0).f2).length : Int)) = true := decide_eq_true c7
       clear c7
       by_cases c8 : 0 ≤ x20_1
       ·rw [if_pos c8] at H
        have c8b0 : decide (0 ≤ x20_1) = true := decide_eq_true c8
        clear c8
        by_cases c9 : x20_1 < (((rd_T82 l0 0).f2).length : Int)
        ·rw [if_pos c9] at H
         have c9b0 : decide (x20_1 < (((rd_T82 l0 0).f2).length : Int)) = true := decide_eq_true c9
         clear c9
         by_cases c10 : 0 < (l0.length : Int)
         ·rw [if_pos c10] at H
          have c10b0 : decide (0 < (l0.length : Int)) = true := decide_eq_true c10
          have c10b1 : decide (0 < l0.length) = true := decide_eq_true (by omega)
          clear c10
          by_cases c11 : x20_1 < (((rd_T82 l0 0).f4).length : Int)
          ·rw [if_pos c11] at H
           have c11b0 : decide (x20_1 < (((rd_T82 l0 0).f4).length : Int)) = true := decide_eq_true c11
           clear c11
           by_cases c12 : x1_1 < (wrap64 ((wrap64 ((((rd_T82 l0 0).f1).length : Int) - (rd ((rd_T82 l0 0).f2) x20_1))) - (rd ((rd_T82 l0 0).f4) x20_1)))
           ·rw [if_pos c12] at H
            have c12b0 : decide (x1_1 < (wrap64 ((wrap64 ((((rd_T82 l0 0).f1).length : Int) - (rd ((rd_T82 l0 0).f2) x20_1))) - (rd ((rd_T82 l0 0).f4) x20_1)))) = true := decide_eq_true c12
            clear c12
            obtain ⟨ji13, hji13⟩ : ∃ j_ : Int, (wrap64 ((wrap64 ((rd ((rd_T82 l0 0).f4) x20_1) + 1)) + x1_1)) = j_ := ⟨_, rfl⟩
            replace H : (if 0 ≤ (ji13) then (if (ji13 : Int).toNat ≤ 281474976710656 then (if 0 ≤ (rd ((rd_T82 l0 0).f2) x20_1) then (if (rd ((rd_T82 l0 0).f2) x20_1) ≤ (((rd_T82 l0 0).f1).length : Int) then ((copy_u8.f (List.replicate (ji13 : Int).toNat 0) (((rd_T82 l0 0).f1).drop ((rd ((rd_T82 l0 0).f2) x20_1) : Int).toNat)).bind fun bt317 => (some (bt317.2, 0))) else (none)) else (none)) else (none)) else (none)) = some (r1, r2) := by first | (rw [hji13] at H; exact H) | (simp only [hji13] at H ⊢; exact H)
            have hji13w : (IntKind.i64.wrap ((wrap64 ((rd ((rd_T82 l0 0).f4) x20_1) + 1)) + x1_1)) = ji13 := (i64_w _).trans hji13
            by_cases c14 : 0 ≤ (ji13)
            ·rw [if_pos c14] at H
             have c14b0 := eq_true c14
             have c14b1 : decide (0 ≤ (ji13)) = true := decide_eq_true c14
             clear c14
             by_cases c15 : (ji13 : Int).toNat ≤ 281474976710656
             ·rw [if_pos c15] at H
              have c15b0 := eq_true c15
              have c15b1 : decide ((ji13 : Int).toNat ≤ 281474976710656) = true := decide_eq_true c15
              clear c15
              obtain ⟨y312, hy312⟩ : ∃ y_ : List Int, y_ = (List.replicate (ji13 : Int).toNat 0) := ⟨_, rfl⟩
              replace H : (if 0 ≤ (rd ((rd_T82 l0 0).f2) x20_1) then (if (rd ((rd_T82 l0 0).f2) x20_1) ≤ (((rd_T82 l0 0).f1).length : Int) then ((copy_u8.f y312 (((rd_T82 l0 0).f1).drop ((rd ((rd_T82 l0 0).f2) x20_1) : Int).toNat)).bind fun bt317 => (some (bt317.2, 0))) else (none)) else (none)) = some (r1, r2) := by first | (rw [hy312]; with_reducible exact H) | (have H2_ := (Option.bind_some _ _).symm.trans H; rw [hy312]; with_reducible exact H2_) | (have H2_ := (Option.bind_some _ _).symm.trans H; with_reducible exact H2_) | with_reducible exact H | (rw [hy312]; exact H) | exact H
              have Ny312 := Aside0.mk hy312
              clear hy312
              by_cases c16 : 0 ≤ (rd ((rd_T82 l0 0).f2) x20_1)
              ·rw [if_pos c16] at H
               have c16b0 := eq_true c16
               have c16b1 : decide (0 ≤ (rd ((rd_T82 l0 0).f2) x20_1)) = true := decide_eq_true c16
               clear c16
               by_cases c17 : (rd ((rd_T82 l0 0).f2) x20_1) ≤ (((rd_T82 l0 0).f1).length : Int)
               ·rw [if_pos c17] at H
                have c17b0 := eq_true c17
                have c17b1 : decide ((rd ((rd_T82 l0 0).f2) x20_1) ≤ (((rd_T82 l0 0).f1).length : Int)) = true := decide_eq_true c17
                clear c17
                replace H := Option.bind_eq_some_iff.mp H
                obtain ⟨⟨t317, t318⟩, A180, H⟩ := H
                replace H : (some (t318, 0)) = some (r1, r2) := H
                have A18 := Aside0.mk A180
                clear A180
                simp only [Option.some.injEq, Prod.mk.injEq] at H
                obtain ⟨rfl, rfl⟩ := H
                have p306 : 0 ≤ (x20_1 : Int) := of_decide_eq_true (by first | (with_reducible assumption) | assumption)
                have q306 : x20_1 < (((rd_T82 l0 0).f2).length : Int) := of_decide_eq_true (by first | (with_reducible assumption) | assumption)
                obtain ⟨ad306, e306, hx306_0⟩ := Kd.at_int HR305_2.out x20_1 p306 q306
                cases e306
                replace hx306_0 := (HB.out.cell (World.block_lt_of_cell? w _ hx306_0)).trans hx306_0
                replace p306 := eq_true p306
                replace q306 := eq_true q306
                have p307 : 0 ≤ (0 : Int) := (by omega)
                have q307 : 0 < (l0.length : Int) := of_decide_eq_true (by first | (with_reducible assumption) | assumption)
                obtain ⟨ad307, A307_1, c307_1, A307_2, c307_2, A307_3, c307_3, A307_4, c307_4, e307, hx307_0, hx307_1, hx307_2, hx307_3, hx307_4, hl307_1, hi307_1, hl307_2, hi307_2, hl307_3, hi307_3, hl307_4, hi307_4⟩ := at_T82 HR0.out 0 p307 q307
                obtain rfl : ad305 = ad307 := (by injection e307)
                have qi307 : (0 < l0.length) = True := eq_true (by omega)
                (try rw [show ((0 : Int)).toNat = 0 from rfl] at hx307_0)
                (try rw [show 0 * 5 = 0 from rfl] at hx307_0)
                (try rw [Addr.add_zero'] at hx307_0)
                (try rw [show ((0 : Int)).toNat = 0 from rfl] at hx307_1)
                (try rw [show 0 * 5 = 0 from rfl] at hx307_1)
                (try rw [Addr.add_zero'] at hx307_1)
                (try rw [show ((0 : Int)).toNat = 0 from rfl] at hx307_2)
                (try rw [show 0 * 5 = 0 from rfl] at hx307_2)
                (try rw [Addr.add_zero'] at hx307_2)
                (try rw [show ((0 : Int)).toNat = 0 from rfl] at hx307_3)
                (try rw [show 0 * 5 = 0 from rfl] at hx307_3)
                (try rw [Addr.add_zero'] at hx307_3)
                (try rw [show ((0 : Int)).toNat = 0 from rfl] at hx307_4)
                (try rw [show 0 * 5 = 0 from rfl] at hx307_4)
                (try rw [Addr.add_zero'] at hx307_4)
                replace hx307_0 := (HB.out.cell (World.block_lt_of_cell? w _ hx307_0)).trans hx307_0
                replace hx307_1 := (HB.out.cell (World.block_lt_of_cell? w _ hx307_1)).trans hx307_1
                replace hx307_2 := (HB.out.cell (World.block_lt_of_cell? w _ hx307_2)).trans hx307_2
                replace hx307_3 := (HB.out.cell (World.block_lt_of_cell? w _ hx307_3)).trans hx307_3
                replace hx307_4 := (HB.out.cell (World.block_lt_of_cell? w _ hx307_4)).trans hx307_4
                have HR307_1 := Aside0.mk hi307_1
                have HC307_1 := Aside0.mk hl307_1
                clear hi307_1 hl307_1
                have HR307_2 := Aside0.mk hi307_2
                have HC307_2 := Aside0.mk hl307_2
                clear hi307_2 hl307_2
                have HR307_3 := Aside0.mk hi307_3
                have HC307_3 := Aside0.mk hl307_3
                clear hi307_3 hl307_3
                have HR307_4 := Aside0.mk hi307_4
                have HC307_4 := Aside0.mk hl307_4
                clear hi307_4 hl307_4
                replace p307 := eq_true p307
                replace q307 := eq_true q307
                have hpt307 : ptrOf (.slice (some ad305) l0.length c0) = .pointer (some ad305) := ptrOf_pos _ _ _ (of_decide_eq_true (by first | (with_reducible assumption) | assumption))
                have p308 : 0 ≤ (0 : Int) := (by omega)
                have q308 : 0 < (l0.length : Int) := of_decide_eq_true (by first | (with_reducible assumption) | assumption)
                obtain ⟨ad308, A308_1, c308_1, A308_2, c308_2, A308_3, c308_3, A308_4, c308_4, e308, hx308_0, hx308_1, hx308_2, hx308_3, hx308_4, hl308_1, hi308_1, hl308_2, hi308_2, hl308_3, hi308_3, hl308_4, hi308_4⟩ := at_T82 HR0.out 0 p308 q308
                obtain rfl : ad305 = ad308 := (by injection e308)
                have qi308 : (0 < l0.length) = True := eq_true (by omega)
                (try rw [show ((0 : Int)).toNat = 0 from rfl] at hx308_0)
                (try rw [show 0 * 5 = 0 from rfl] at hx308_0)
                (try rw [Addr.add_zero'] at hx308_0)
                (try rw [show ((0 : Int)).toNat = 0 from rfl] at hx308_1)
                (try rw [show 0 * 5 = 0 from rfl] at hx308_1)
                (try rw [Addr.add_zero'] at hx308_1)
                (try rw [show ((0 : Int)).toNat = 0 from rfl] at hx308_2)
                (try rw [show 0 * 5 = 0 from rfl] at hx308_2)
                (try rw [Addr.add_zero'] at hx308_2)
                (try rw [show ((0 : Int)).toNat = 0 from rfl] at hx308_3)
                (try rw [show 0 * 5 = 0 from rfl] at hx308_3)
                (try rw [Addr.add_zero'] at hx308_3)
                (try rw [show ((0 : Int)).toNat = 0 from rfl] at hx308_4)
                (try rw [show 0 * 5 = 0 from rfl] at hx308_4)
                (try rw [Addr.add_zero'] at hx308_4)
                replace hx308_0 := (HB.out.cell (World.block_lt_of_cell? w _ hx308_0)).trans hx308_0
                replace hx308_1 := (HB.out.cell (World.block_lt_of_cell? w _ hx308_1)).trans hx308_1
                replace hx308_2 := (HB.out.cell (World.block_lt_of_cell? w _ hx308_2)).trans hx308_2
                replace hx308_3 := (HB.out.cell (World.block_lt_of_cell? w _ hx308_3)).trans hx308_3
                replace hx308_4 := (HB.out.cell (World.block_lt_of_cell? w _ hx308_4)).trans hx308_4
                have HR308_1 := Aside0.mk hi308_1
                have HC308_1 := Aside0.mk hl308_1
                clear hi308_1 hl308_1
                have HR308_2 := Aside0.mk hi308_2
                have HC308_2 := Aside0.mk hl308_2
                clear hi308_2 hl308_2
                have HR308_3 := Aside0.mk hi308_3
                have HC308_3 := Aside0.mk hl308_3
                clear hi308_3 hl308_3
                have HR308_4 := Aside0.mk hi308_4
                have HC308_4 := Aside0.mk hl308_4
                clear hi308_4 hl308_4
                replace p308 := eq_true p308
                replace q308 := eq_true q308
                have ea_ := Option.some.inj (hx307_1.symm.trans hx308_1)
                injection ea_ with ea_ en_ ec_
                subst ea_
                subst ec_
                clear en_
                have ea_ := Option.some.inj (hx307_2.symm.trans hx308_2)
                injection ea_ with ea_ en_ ec_
                subst ea_
                subst ec_
                clear en_
                have ea_ := Option.some.inj (hx307_3.symm.trans hx308_3)
                injection ea_ with ea_ en_ ec_
                subst ea_
                subst ec_
                clear en_
                have ea_ := Option.some.inj (hx307_4.symm.trans hx308_4)
                injection ea_ with ea_ en_ ec_
                subst ea_
                subst ec_
                clear en_
                have hpt308 : ptrOf (.slice (some ad305) l0.length c0) = .pointer (some ad305) := ptrOf_pos _ _ _ (of_decide_eq_true (by first | (with_reducible assumption) | assumption))
                have p309 : 0 ≤ (x20_1 : Int) := of_decide_eq_true (by first | (with_reducible assumption) | assumption)
                have q309 : x20_1 < (((rd_T82 l0 0).f4).length : Int) := of_decide_eq_true (by first | (with_reducible assumption) | assumption)
                obtain ⟨ad309, e309, hx309_0⟩ := Kd.at_int HR308_4.out x20_1 p309 q309
                cases e309
                replace hx309_0 := (HB.out.cell (World.block_lt_of_cell? w _ hx309_0)).trans hx309_0
                replace p309 := eq_true p309
                replace q309 := eq_true q309
                have p310 : 0 ≤ (0 : Int) := (by omega)
                have q310 : 0 < (l0.length : Int) := of_decide_eq_true (by first | (with_reducible assumption) | assumption)
                obtain ⟨ad310, A310_1, c310_1, A310_2, c310_2, A310_3, c310_3, A310_4, c310_4, e310, hx310_0, hx310_1, hx310_2, hx310_3, hx310_4, hl310_1, hi310_1, hl310_2, hi310_2, hl310_3, hi310_3, hl310_4, hi310_4⟩ := at_T82 HR0.out 0 p310 q310
                obtain rfl : ad305 = ad310 := (by injection e310)
                have qi310 : (0 < l0.length) = True := eq_true (by omega)
                (try rw [show ((0 : Int)).toNat = 0 from rfl] at hx310_0)
                (try rw [show 0 * 5 = 0 from rfl] at hx310_0)
                (try rw [Addr.add_zero'] at hx310_0)
                (try rw [show ((0 : Int)).toNat = 0 from rfl] at hx310_1)
                (try rw [show 0 * 5 = 0 from rfl] at hx310_1)
                (try rw [Addr.add_zero'] at hx310_1)
                (try rw [show ((0 : Int)).toNat = 0 from rfl] at hx310_2)
                (try rw [show 0 * 5 = 0 from rfl] at hx310_2)
                (try rw [Addr.add_zero'] at hx310_2)
                (try rw [show ((0 : Int)).toNat = 0 from rfl] at hx310_3)
                (try rw [show 0 * 5 = 0 from rfl] at hx310_3)
                (try rw [Addr.add_zero'] at hx310_3)
                (try rw [show ((0 : Int)).toNat = 0 from rfl] at hx310_4)
                (try rw [show 0 * 5 = 0 from rfl] at hx310_4)
                (try rw [Addr.add_zero'] at hx310_4)
                replace hx310_0 := (HB.out.cell (World.block_lt_of_cell? w _ hx310_0)).trans hx310_0
                replace hx310_1 := (HB.out.cell (World.block_lt_of_cell? w _ hx310_1)).trans hx310_1
                replace hx310_2 := (HB.out.cell (World.block_lt_of_cell? w _ hx310_2)).trans hx310_2
                replace hx310_3 := (HB.out.cell (World.block_lt_of_cell? w _ hx310_3)).trans hx310_3
                replace hx310_4 := (HB.out.cell (World.block_lt_of_cell? w _ hx310_4)).trans hx310_4
                have HR310_1 := Aside0.mk hi310_1
                have HC310_1 := Aside0.mk hl310_1
                clear hi310_1 hl310_1
                have HR310_2 := Aside0.mk hi310_2
                have HC310_2 := Aside0.mk hl310_2
                clear hi310_2 hl310_2
                have HR310_3 := Aside0.mk hi310_3
                have HC310_3 := Aside0.mk hl310_3
                clear hi310_3 hl310_3
                have HR310_4 := Aside0.mk hi310_4
                have HC310_4 := Aside0.mk hl310_4
                clear hi310_4 hl310_4
                replace p310 := eq_true p310
                replace q310 := eq_true q310
                have ea_ := Option.some.inj (hx307_1.symm.trans hx310_1)
                injection ea_ with ea_ en_ ec_
                subst ea_
                subst ec_
                clear en_
                have ea_ := Option.some.inj (hx307_2.symm.trans hx310_2)
                injection ea_ with ea_ en_ ec_
                subst ea_
                subst ec_
                clear en_
                have ea_ := Option.some.inj (hx307_3.symm.trans hx310_3)
                injection ea_ with ea_ en_ ec_
                subst ea_
                subst ec_
                clear en_
                have ea_ := Option.some.inj (hx307_4.symm.trans hx310_4)
                injection ea_ with ea_ en_ ec_
                subst ea_
                subst ec_
                clear en_
                have hpt310 : ptrOf (.slice (some ad305) l0.length c0) = .pointer (some ad305) := ptrOf_pos _ _ _ (of_decide_eq_true (by first | (with_reducible assumption) | assumption))
                have p311 : 0 ≤ (x20_1 : Int) := of_decide_eq_true (by first | (with_reducible assumption) | assumption)
                have q311 : x20_1 < (((rd_T82 l0 0).f4).length : Int) := of_decide_eq_true (by first | (with_reducible assumption) | assumption)
                obtain ⟨ad311, e311, hx311_0⟩ := Kd.at_int HR310_4.out x20_1 p311 q311
                cases e311
                replace hx311_0 := (HB.out.cell (World.block_lt_of_cell? w _ hx311_0)).trans hx311_0
                replace p311 := eq_true p311
                replace q311 := eq_true q311
                go_wp2_with (first | ((with_reducible refine gate_dst (N := 53) rfl ?_); refine Kd.R_make (Kd.int .u8) _ 5 rfl (N := 53) rfl 23 _ _ rfl ji13 rfl rfl Try.underlying23 (.int .u8 0) 1 info5 rfl (by decide) (by omega) 0 (ok := fun _ => True) (okp := fun _ => True) rfl (fun _ hk => hk) trivial (of_decide_eq_true (by first | (with_reducible assumption) | assumption)) (Nat.le_trans (Nat.mul_le_mul_right _ (of_decide_eq_true (by first | (with_reducible assumption) | assumption) : ji13.toNat ≤ 281474976710656)) (by omega)) (Below.refl _ _) (Nat.le_refl _) ?_; intro v313 w19 ho20 hb hg_ hnew_; clear hg_ hnew_; (first | rw [← Ny312.out] at ho20 | (simp only [Int.reduceToNat] at ho20; rw [← Ny312.out] at ho20)); have n0_ := Aside0.mk (Kd.R_lower ho20 (below_size (by repeat (first | (with_reducible first | exact HB.out | apply below_alloc | apply pw_below_drewN | apply below_drew1) | exact HB.out)))); have n1_ := Aside0.mk (below_step (by repeat (first | (with_reducible first | exact HB.out | apply below_alloc | apply pw_below_drewN | apply below_drew1) | exact HB.out)) hb); clear HB; have HO314 := n0_; have HB := n1_; clear n0_ n1_; clear hb ho20; have p315 : 0 ≤ (0 : Int) := (by omega); have q315 : 0 < (l0.length : Int) := of_decide_eq_true (by first | (with_reducible assumption) | assumption); obtain ⟨ad315, A315_1, c315_1, A315_2, c315_2, A315_3, c315_3, A315_4, c315_4, e315, hx315_0, hx315_1, hx315_2, hx315_3, hx315_4, hl315_1, hi315_1, hl315_2, hi315_2, hl315_3, hi315_3, hl315_4, hi315_4⟩ := at_T82 HR0.out 0 p315 q315; obtain rfl : ad305 = ad315 := (by injection e315); have qi315 : (0 < l0.length) = True := eq_true (by omega); (try rw [show ((0 : Int)).toNat = 0 from rfl] at hx315_0); (try rw [show 0 * 5 = 0 from rfl] at hx315_0); (try rw [Addr.add_zero'] at hx315_0); (try rw [show ((0 : Int)).toNat = 0 from rfl] at hx315_1); (try rw [show 0 * 5 = 0 from rfl] at hx315_1); (try rw [Addr.add_zero'] at hx315_1); (try rw [show ((0 : Int)).toNat = 0 from rfl] at hx315_2); (try rw [show 0 * 5 = 0 from rfl] at hx315_2); (try rw [Addr.add_zero'] at hx315_2); (try rw [show ((0 : Int)).toNat = 0 from rfl] at hx315_3); (try rw [show 0 * 5 = 0 from rfl] at hx315_3); (try rw [Addr.add_zero'] at hx315_3); (try rw [show ((0 : Int)).toNat = 0 from rfl] at hx315_4); (try rw [show 0 * 5 = 0 from rfl] at hx315_4); (try rw [Addr.add_zero'] at hx315_4); replace hx315_0 := (HB.out.cell (World.block_lt_of_cell? w _ hx315_0)).trans hx315_0; replace hx315_1 := (HB.out.cell (World.block_lt_of_cell? w _ hx315_1)).trans hx315_1; replace hx315_2 := (HB.out.cell (World.block_lt_of_cell? w _ hx315_2)).trans hx315_2; replace hx315_3 := (HB.out.cell (World.block_lt_of_cell? w _ hx315_3)).trans hx315_3; replace hx315_4 := (HB.out.cell (World.block_lt_of_cell? w _ hx315_4)).trans hx315_4; have HR315_1 := Aside0.mk hi315_1; have HC315_1 := Aside0.mk hl315_1; clear hi315_1 hl315_1; have HR315_2 := Aside0.mk hi315_2; have HC315_2 := Aside0.mk hl315_2; clear hi315_2 hl315_2; have HR315_3 := Aside0.mk hi315_3; have HC315_3 := Aside0.mk hl315_3; clear hi315_3 hl315_3; have HR315_4 := Aside0.mk hi315_4; have HC315_4 := Aside0.mk hl315_4; clear hi315_4 hl315_4; replace p315 := eq_true p315; replace q315 := eq_true q315; have hpt315 : ptrOf (.slice (some ad305) l0.length c0) = .pointer (some ad305) := ptrOf_pos _ _ _ (of_decide_eq_true (by first | (with_reducible assumption) | assumption)); obtain ⟨i021, hi021, _, hsz21, _⟩ := info_parts info5; obtain ⟨A21, hcut21, hA21, hC21⟩ := print_drop_of (P := Try.prog) (Value.int .u8) 0 23 5 .i64 Try.underlying23 hi021 hsz21 A315_1 c315_1 ((rd_T82 l0 0).f1) (rd ((rd_T82 l0 0).f2) x20_1) (of_decide_eq_true (by first | (with_reducible assumption) | assumption)) (of_decide_eq_true (by first | (with_reducible assumption) | assumption)) HC315_1.out; have HR316 := Aside0.mk (Kd.C_of_reads (h1 := fun _ => rfl) (hA21 _ (Kd.reads_of_C HR315_1.out))); have HC316 := Aside0.mk hC21; clear hA21 hC21 hi021 hsz21; obtain ⟨Ao22, co22, eo22⟩ := Kd.R_slice HO314.out; subst eo22) | ((with_reducible refine gate_builtin (b := .copy) rfl ?_); refine goesCopy (some 61) rfl rfl rfl #[.slice Ao22 y312.length co22, .slice A21 (((rd_T82 l0 0).f1).drop ((rd ((rd_T82 l0 0).f2) x20_1) : Int).toNat).length (c315_1 - (rd ((rd_T82 l0 0).f2) x20_1).toNat)] (by (try simp only [List.map_toArray, List.map_cons, List.map_nil]); first | done | (rw [show (((rd_T82 l0 0).f1).drop ((rd ((rd_T82 l0 0).f2) x20_1) : Int).toNat).length = (((rd_T82 l0 0).f1).length - (rd ((rd_T82 l0 0).f2) x20_1).toNat) from List.length_drop] <;> rfl) | rfl | (simp only [List.length_drop, List.length_take]; rfl)) ?_; (with_reducible refine (copy_u8.calls (fun k_ => some k_ = (.slice Ao22 y312.length co22 : Value).ownBlock) (.slice Ao22 y312.length co22) y312 _ _ (((rd_T82 l0 0).f1).drop ((rd ((rd_T82 l0 0).f2) x20_1) : Int).toNat) t317 t318 w _ ?side1 ?side2 ?side3 ?side4 A18.out).mono ?_); (case side1 => repeat (first | (with_reducible first | exact HB.out | apply below_alloc | apply pw_below_drewN | apply below_drew1) | exact HB.out)); (case side2 => exact Kd.R_tight rfl HO314.out); (case side3 => exact Kd.C_kept_came (Kd.heap_int .u8) HR316.out (by repeat (first | (with_reducible first | exact HB.out | apply below_alloc | apply pw_below_drewN | apply below_drew1) | exact HB.out)) (fun k_ hs_ => (fun e_ => Kd.R_base HO314.out k_ e_.symm) hs_)); (case side4 => exact HC316.out); rintro e w23 ⟨rfl, hy0, hb, hkp⟩; refine ⟨_, rfl, ?_⟩; have n0_ := Aside0.mk (Kd.R_reok rfl hy0 (fun k_ e_ => HO314.out.1 k_ e_)); have n1_ := Aside0.mk (hb); clear HO314; clear HB; have HO314 := n0_; have HB := n1_; clear n0_ n1_; (try clear hb); (try clear hkp); (try clear hy0)))
                repeat (go_quiet (first | ((with_reducible refine gate_dst (N := 53) rfl ?_); refine Kd.R_make (Kd.int .u8) _ 5 rfl (N := 53) rfl 23 _ _ rfl ji13 rfl rfl Try.underlying23 (.int .u8 0) 1 info5 rfl (by decide) (by omega) 0 (ok := fun _ => True) (okp := fun _ => True) rfl (fun _ hk => hk) trivial (of_decide_eq_true (by first | (with_reducible assumption) | assumption)) (Nat.le_trans (Nat.mul_le_mul_right _ (of_decide_eq_true (by first | (with_reducible assumption) | assumption) : ji13.toNat ≤ 281474976710656)) (by omega)) (Below.refl _ _) (Nat.le_refl _) ?_; intro v313 w19 ho20 hb hg_ hnew_; clear hg_ hnew_; (first | rw [← Ny312.out] at ho20 | (simp only [Int.reduceToNat] at ho20; rw [← Ny312.out] at ho20)); have n0_ := Aside0.mk (Kd.R_lower ho20 (below_size (by repeat (first | (with_reducible first | exact HB.out | apply below_alloc | apply pw_below_drewN | apply below_drew1) | exact HB.out)))); have n1_ := Aside0.mk (below_step (by repeat (first | (with_reducible first | exact HB.out | apply below_alloc | apply pw_below_drewN | apply below_drew1) | exact HB.out)) hb); clear HB; have HO314 := n0_; have HB := n1_; clear n0_ n1_; clear hb ho20; have p315 : 0 ≤ (0 : Int) := (by omega); have q315 : 0 < (l0.length : Int) := of_decide_eq_true (by first | (with_reducible assumption) | assumption); obtain ⟨ad315, A315_1, c315_1, A315_2, c315_2, A315_3, c315_3, A315_4, c315_4, e315, hx315_0, hx315_1, hx315_2, hx315_3, hx315_4, hl315_1, hi315_1, hl315_2, hi315_2, hl315_3, hi315_3, hl315_4, hi315_4⟩ := at_T82 HR0.out 0 p315 q315; obtain rfl : ad305 = ad315 := (by injection e315); have qi315 : (0 < l0.length) = True := eq_true (by omega); (try rw [show ((0 : Int)).toNat = 0 from rfl] at hx315_0); (try rw [show 0 * 5 = 0 from rfl] at hx315_0); (try rw [Addr.add_zero'] at hx315_0); (try rw [show ((0 : Int)).toNat = 0 from rfl] at hx315_1); (try rw [show 0 * 5 = 0 from rfl] at hx315_1); (try rw [Addr.add_zero'] at hx315_1); (try rw [show ((0 : Int)).toNat = 0 from rfl] at hx315_2); (try rw [show 0 * 5 = 0 from rfl] at hx315_2); (try rw [Addr.add_zero'] at hx315_2); (try rw [show ((0 : Int)).toNat = 0 from rfl] at hx315_3); (try rw [show 0 * 5 = 0 from rfl] at hx315_3); (try rw [Addr.add_zero'] at hx315_3); (try rw [show ((0 : Int)).toNat = 0 from rfl] at hx315_4); (try rw [show 0 * 5 = 0 from rfl] at hx315_4); (try rw [Addr.add_zero'] at hx315_4); replace hx315_0 := (HB.out.cell (World.block_lt_of_cell? w _ hx315_0)).trans hx315_0; replace hx315_1 := (HB.out.cell (World.block_lt_of_cell? w _ hx315_1)).trans hx315_1; replace hx315_2 := (HB.out.cell (World.block_lt_of_cell? w _ hx315_2)).trans hx315_2; replace hx315_3 := (HB.out.cell (World.block_lt_of_cell? w _ hx315_3)).trans hx315_3; replace hx315_4 := (HB.out.cell (World.block_lt_of_cell? w _ hx315_4)).trans hx315_4; have HR315_1 := Aside0.mk hi315_1; have HC315_1 := Aside0.mk hl315_1; clear hi315_1 hl315_1; have HR315_2 := Aside0.mk hi315_2; have HC315_2 := Aside0.mk hl315_2; clear hi315_2 hl315_2; have HR315_3 := Aside0.mk hi315_3; have HC315_3 := Aside0.mk hl315_3; clear hi315_3 hl315_3; have HR315_4 := Aside0.mk hi315_4; have HC315_4 := Aside0.mk hl315_4; clear hi315_4 hl315_4; replace p315 := eq_true p315; replace q315 := eq_true q315; have hpt315 : ptrOf (.slice (some ad305) l0.length c0) = .pointer (some ad305) := ptrOf_pos _ _ _ (of_decide_eq_true (by first | (with_reducible assumption) | assumption)); obtain ⟨i021, hi021, _, hsz21, _⟩ := info_parts info5; obtain ⟨A21, hcut21, hA21, hC21⟩ := print_drop_of (P := Try.prog) (Value.int .u8) 0 23 5 .i64 Try.underlying23 hi021 hsz21 A315_1 c315_1 ((rd_T82 l0 0).f1) (rd ((rd_T82 l0 0).f2) x20_1) (of_decide_eq_true (by first | (with_reducible assumption) | assumption)) (of_decide_eq_true (by first | (with_reducible assumption) | assumption)) HC315_1.out; have HR316 := Aside0.mk (Kd.C_of_reads (h1 := fun _ => rfl) (hA21 _ (Kd.reads_of_C HR315_1.out))); have HC316 := Aside0.mk hC21; clear hA21 hC21 hi021 hsz21; obtain ⟨Ao22, co22, eo22⟩ := Kd.R_slice HO314.out; subst eo22) | ((with_reducible refine gate_builtin (b := .copy) rfl ?_); refine goesCopy (some 61) rfl rfl rfl #[.slice Ao22 y312.length co22, .slice A21 (((rd_T82 l0 0).f1).drop ((rd ((rd_T82 l0 0).f2) x20_1) : Int).toNat).length (c315_1 - (rd ((rd_T82 l0 0).f2) x20_1).toNat)] (by (try simp only [List.map_toArray, List.map_cons, List.map_nil]); first | done | (rw [show (((rd_T82 l0 0).f1).drop ((rd ((rd_T82 l0 0).f2) x20_1) : Int).toNat).length = (((rd_T82 l0 0).f1).length - (rd ((rd_T82 l0 0).f2) x20_1).toNat) from List.length_drop] <;> rfl) | rfl | (simp only [List.length_drop, List.length_take]; rfl)) ?_; (with_reducible refine (copy_u8.calls (fun k_ => some k_ = (.slice Ao22 y312.length co22 : Value).ownBlock) (.slice Ao22 y312.length co22) y312 _ _ (((rd_T82 l0 0).f1).drop ((rd ((rd_T82 l0 0).f2) x20_1) : Int).toNat) t317 t318 w _ ?side1 ?side2 ?side3 ?side4 A18.out).mono ?_); (case side1 => repeat (first | (with_reducible first | exact HB.out | apply below_alloc | apply pw_below_drewN | apply below_drew1) | exact HB.out)); (case side2 => exact Kd.R_tight rfl HO314.out); (case side3 => exact Kd.C_kept_came (Kd.heap_int .u8) HR316.out (by repeat (first | (with_reducible first | exact HB.out | apply below_alloc | apply pw_below_drewN | apply below_drew1) | exact HB.out)) (fun k_ hs_ => (fun e_ => Kd.R_base HO314.out k_ e_.symm) hs_)); (case side4 => exact HC316.out); rintro e w23 ⟨rfl, hy0, hb, hkp⟩; refine ⟨_, rfl, ?_⟩; have n0_ := Aside0.mk (Kd.R_reok rfl hy0 (fun k_ e_ => HO314.out.1 k_ e_)); have n1_ := Aside0.mk (hb); clear HO314; clear HB; have HO314 := n0_; have HB := n1_; clear n0_ n1_; (try clear hb); (try clear hkp); (try clear hy0))); try go_wp2_with (first | ((with_reducible refine gate_dst (N := 53) rfl ?_); refine Kd.R_make (Kd.int .u8) _ 5 rfl (N := 53) rfl 23 _ _ rfl ji13 rfl rfl Try.underlying23 (.int .u8 0) 1 info5 rfl (by decide) (by omega) 0 (ok := fun _ => True) (okp := fun _ => True) rfl (fun _ hk => hk) trivial (of_decide_eq_true (by first | (with_reducible assumption) | assumption)) (Nat.le_trans (Nat.mul_le_mul_right _ (of_decide_eq_true (by first | (with_reducible assumption) | assumption) : ji13.toNat ≤ 281474976710656)) (by omega)) (Below.refl _ _) (Nat.le_refl _) ?_; intro v313 w19 ho20 hb hg_ hnew_; clear hg_ hnew_; (first | rw [← Ny312.out] at ho20 | (simp only [Int.reduceToNat] at ho20; rw [← Ny312.out] at ho20)); have n0_ := Aside0.mk (Kd.R_lower ho20 (below_size (by repeat (first | (with_reducible first | exact HB.out | apply below_alloc | apply pw_below_drewN | apply below_drew1) | exact HB.out)))); have n1_ := Aside0.mk (below_step (by repeat (first | (with_reducible first | exact HB.out | apply below_alloc | apply pw_below_drewN | apply below_drew1) | exact HB.out)) hb); clear HB; have HO314 := n0_; have HB := n1_; clear n0_ n1_; clear hb ho20; have p315 : 0 ≤ (0 : Int) := (by omega); have q315 : 0 < (l0.length : Int) := of_decide_eq_true (by first | (with_reducible assumption) | assumption); obtain ⟨ad315, A315_1, c315_1, A315_2, c315_2, A315_3, c315_3, A315_4, c315_4, e315, hx315_0, hx315_1, hx315_2, hx315_3, hx315_4, hl315_1, hi315_1, hl315_2, hi315_2, hl315_3, hi315_3, hl315_4, hi315_4⟩ := at_T82 HR0.out 0 p315 q315; obtain rfl : ad305 = ad315 := (by injection e315); have qi315 : (0 < l0.length) = True := eq_true (by omega); (try rw [show ((0 : Int)).toNat = 0 from rfl] at hx315_0); (try rw [show 0 * 5 = 0 from rfl] at hx315_0); (try rw [Addr.add_zero'] at hx315_0); (try rw [show ((0 : Int)).toNat = 0 from rfl] at hx315_1); (try rw [show 0 * 5 = 0 from rfl] at hx315_1); (try rw [Addr.add_zero'] at hx315_1); (try rw [show ((0 : Int)).toNat = 0 from rfl] at hx315_2); (try rw [show 0 * 5 = 0 from rfl] at hx315_2); (try rw [Addr.add_zero'] at hx315_2); (try rw [show ((0 : Int)).toNat = 0 from rfl] at hx315_3); (try rw [show 0 * 5 = 0 from rfl] at hx315_3); (try rw [Addr.add_zero'] at hx315_3); (try rw [show ((0 : Int)).toNat = 0 from rfl] at hx315_4); (try rw [show 0 * 5 = 0 from rfl] at hx315_4); (try rw [Addr.add_zero'] at hx315_4); replace hx315_0 := (HB.out.cell (World.block_lt_of_cell? w _ hx315_0)).trans hx315_0; replace hx315_1 := (HB.out.cell (World.block_lt_of_cell? w _ hx315_1)).trans hx315_1; replace hx315_2 := (HB.out.cell (World.block_lt_of_cell? w _ hx315_2)).trans hx315_2; replace hx315_3 := (HB.out.cell (World.block_lt_of_cell? w _ hx315_3)).trans hx315_3; replace hx315_4 := (HB.out.cell (World.block_lt_of_cell? w _ hx315_4)).trans hx315_4; have HR315_1 := Aside0.mk hi315_1; have HC315_1 := Aside0.mk hl315_1; clear hi315_1 hl315_1; have HR315_2 := Aside0.mk hi315_2; have HC315_2 := Aside0.mk hl315_2; clear hi315_2 hl315_2; have HR315_3 := Aside0.mk hi315_3; have HC315_3 := Aside0.mk hl315_3; clear hi315_3 hl315_3; have HR315_4 := Aside0.mk hi315_4; have HC315_4 := Aside0.mk hl315_4; clear hi315_4 hl315_4; replace p315 := eq_true p315; replace q315 := eq_true q315; have hpt315 : ptrOf (.slice (some ad305) l0.length c0) = .pointer (some ad305) := ptrOf_pos _ _ _ (of_decide_eq_true (by first | (with_reducible assumption) | assumption)); obtain ⟨i021, hi021, _, hsz21, _⟩ := info_parts info5; obtain ⟨A21, hcut21, hA21, hC21⟩ := print_drop_of (P := Try.prog) (Value.int .u8) 0 23 5 .i64 Try.underlying23 hi021 hsz21 A315_1 c315_1 ((rd_T82 l0 0).f1) (rd ((rd_T82 l0 0).f2) x20_1) (of_decide_eq_true (by first | (with_reducible assumption) | assumption)) (of_decide_eq_true (by first | (with_reducible assumption) | assumption)) HC315_1.out; have HR316 := Aside0.mk (Kd.C_of_reads (h1 := fun _ => rfl) (hA21 _ (Kd.reads_of_C HR315_1.out))); have HC316 := Aside0.mk hC21; clear hA21 hC21 hi021 hsz21; obtain ⟨Ao22, co22, eo22⟩ := Kd.R_slice HO314.out; subst eo22) | ((with_reducible refine gate_builtin (b := .copy) rfl ?_); refine goesCopy (some 61) rfl rfl rfl #[.slice Ao22 y312.length co22, .slice A21 (((rd_T82 l0 0).f1).drop ((rd ((rd_T82 l0 0).f2) x20_1) : Int).toNat).length (c315_1 - (rd ((rd_T82 l0 0).f2) x20_1).toNat)] (by (try simp only [List.map_toArray, List.map_cons, List.map_nil]); first | done | (rw [show (((rd_T82 l0 0).f1).drop ((rd ((rd_T82 l0 0).f2) x20_1) : Int).toNat).length = (((rd_T82 l0 0).f1).length - (rd ((rd_T82 l0 0).f2) x20_1).toNat) from List.length_drop] <;> rfl) | rfl | (simp only [List.length_drop, List.length_take]; rfl)) ?_; (with_reducible refine (copy_u8.calls (fun k_ => some k_ = (.slice Ao22 y312.length co22 : Value).ownBlock) (.slice Ao22 y312.length co22) y312 _ _ (((rd_T82 l0 0).f1).drop ((rd ((rd_T82 l0 0).f2) x20_1) : Int).toNat) t317 t318 w _ ?side1 ?side2 ?side3 ?side4 A18.out).mono ?_); (case side1 => repeat (first | (with_reducible first | exact HB.out | apply below_alloc | apply pw_below_drewN | apply below_drew1) | exact HB.out)); (case side2 => exact Kd.R_tight rfl HO314.out); (case side3 => exact Kd.C_kept_came (Kd.heap_int .u8) HR316.out (by repeat (first | (with_reducible first | exact HB.out | apply below_alloc | apply pw_below_drewN | apply below_drew1) | exact HB.out)) (fun k_ hs_ => (fun e_ => Kd.R_base HO314.out k_ e_.symm) hs_)); (case side4 => exact HC316.out); rintro e w23 ⟨rfl, hy0, hb, hkp⟩; refine ⟨_, rfl, ?_⟩; have n0_ := Aside0.mk (Kd.R_reok rfl hy0 (fun k_ e_ => HO314.out.1 k_ e_)); have n1_ := Aside0.mk (hb); clear HO314; clear HB; have HO314 := n0_; have HB := n1_; clear n0_ n1_; (try clear hb); (try clear hkp); (try clear hy0))))
                go_ret2
                exact ⟨_, by first | rfl | (simp [errW_none, errW_some] <;> rfl) | (simp only [← hji13]; first | rfl | (simp [errW_none, errW_some] <;> rfl)) | (simp [*, errW_none, errW_some] <;> rfl), by (with_reducible repeat (first | apply Kd.R_alloc | apply Kd.R_drewN | apply Kd.R_drew)); exact HO314.out, by repeat (first | (with_reducible first | exact HB.out | apply below_alloc | apply pw_below_drewN | apply below_drew1) | exact HB.out)⟩
               ·rw [if_neg c17] at H
                exact absurd H (by simp)
              ·rw [if_neg c16] at H
               exact absurd H (by simp)
             ·rw [if_neg c15] at H
              exact absurd H (by simp)
            ·rw [if_neg c14] at H
             exact absurd H (by simp)
           ·rw [if_neg c12] at H
            have c12b0 : decide (x1_1 < (wrap64 ((wrap64 ((((rd_T82 l0 0).f1).length : Int) - (rd ((rd_T82 l0 0).f2) x20_1))) - (rd ((rd_T82 l0 0).f4) x20_1)))) = false := decide_eq_false c12
            clear c12
            have H' := Aside0.mk H
            clear H
            have p306 : 0 ≤ (x20_1 : Int) := of_decide_eq_true (by first | (with_reducible assumption) | assumption)
            have q306 : x20_1 < (((rd_T82 l0 0).f2).length : Int) := of_decide_eq_true (by first | (with_reducible assumption) | assumption)
            obtain ⟨ad306, e306, hx306_0⟩ := Kd.at_int HR305_2.out x20_1 p306 q306
            cases e306
            replace hx306_0 := (HB.out.cell (World.block_lt_of_cell? w _ hx306_0)).trans hx306_0
            replace p306 := eq_true p306
            replace q306 := eq_true q306
            have p307 : 0 ≤ (0 : Int) := (by omega)
            have q307 : 0 < (l0.length : Int) := of_decide_eq_true (by first | (with_reducible assumption) | assumption)
            obtain ⟨ad307, A307_1, c307_1, A307_2, c307_2, A307_3, c307_3, A307_4, c307_4, e307, hx307_0, hx307_1, hx307_2, hx307_3, hx307_4, hl307_1, hi307_1, hl307_2, hi307_2, hl307_3, hi307_3, hl307_4, hi307_4⟩ := at_T82 HR0.out 0 p307 q307
            obtain rfl : ad305 = ad307 := (by injection e307)
            have qi307 : (0 < l0.length) = True := eq_true (by omega)
            (try rw [show ((0 : Int)).toNat = 0 from rfl] at hx307_0)
            (try rw [show 0 * 5 = 0 from rfl] at hx307_0)
            (try rw [Addr.add_zero'] at hx307_0)
            (try rw [show ((0 : Int)).toNat = 0 from rfl] at hx307_1)
            (try rw [show 0 * 5 = 0 from rfl] at hx307_1)
            (try rw [Addr.add_zero'] at hx307_1)
            (try rw [show ((0 : Int)).toNat = 0 from rfl] at hx307_2)
            (try rw [show 0 * 5 = 0 from rfl] at hx307_2)
            (try rw [Addr.add_zero'] at hx307_2)
            (try rw [show ((0 : Int)).toNat = 0 from rfl] at hx307_3)
            (try rw [show 0 * 5 = 0 from rfl] at hx307_3)
            (try rw [Addr.add_zero'] at hx307_3)
            (try rw [show ((0 : Int)).toNat = 0 from rfl] at hx307_4)
            (try rw [show 0 * 5 = 0 from rfl] at hx307_4)
            (try rw [Addr.add_zero'] at hx307_4)
            replace hx307_0 := (HB.out.cell (World.block_lt_of_cell? w _ hx307_0)).trans hx307_0
            replace hx307_1 := (HB.out.cell (World.block_lt_of_cell? w _ hx307_1)).trans hx307_1
            replace hx307_2 := (HB.out.cell (World.block_lt_of_cell? w _ hx307_2)).trans hx307_2
            replace hx307_3 := (HB.out.cell (World.block_lt_of_cell? w _ hx307_3)).trans hx307_3
            replace hx307_4 := (HB.out.cell (World.block_lt_of_cell? w _ hx307_4)).trans hx307_4
            have HR307_1 := Aside0.mk hi307_1
            have HC307_1 := Aside0.mk hl307_1
            clear hi307_1 hl307_1
            have HR307_2 := Aside0.mk hi307_2
            have HC307_2 := Aside0.mk hl307_2
            clear hi307_2 hl307_2
            have HR307_3 := Aside0.mk hi307_3
            have HC307_3 := Aside0.mk hl307_3
            clear hi307_3 hl307_3
            have HR307_4 := Aside0.mk hi307_4
            have HC307_4 := Aside0.mk hl307_4
            clear hi307_4 hl307_4
            replace p307 := eq_true p307
            replace q307 := eq_true q307
            have hpt307 : ptrOf (.slice (some ad305) l0.length c0) = .pointer (some ad305) := ptrOf_pos _ _ _ (of_decide_eq_true (by first | (with_reducible assumption) | assumption))
            have p308 : 0 ≤ (0 : Int) := (by omega)
            have q308 : 0 < (l0.length : Int) := of_decide_eq_true (by first | (with_reducible assumption) | assumption)
            obtain ⟨ad308, A308_1, c308_1, A308_2, c308_2, A308_3, c308_3, A308_4, c308_4, e308, hx308_0, hx308_1, hx308_2, hx308_3, hx308_4, hl308_1, hi308_1, hl308_2, hi308_2, hl308_3, hi308_3, hl308_4, hi308_4⟩ := at_T82 HR0.out 0 p308 q308
            obtain rfl : ad305 = ad308 := (by injection e308)
            have qi308 : (0 < l0.length) = True := eq_true (by omega)
            (try rw [show ((0 : Int)).toNat = 0 from rfl] at hx308_0)
            (try rw [show 0 * 5 = 0 from rfl] at hx308_0)
            (try rw [Addr.add_zero'] at hx308_0)
            (try rw [show ((0 : Int)).toNat = 0 from rfl] at hx308_1)
            (try rw [show 0 * 5 = 0 from rfl] at hx308_1)
            (try rw [Addr.add_zero'] at hx308_1)
            (try rw [show ((0 : Int)).toNat = 0 from rfl] at hx308_2)
            (try rw [show 0 * 5 = 0 from rfl] at hx308_2)
            (try rw [Addr.add_zero'] at hx308_2)
            (try rw [show ((0 : Int)).toNat = 0 from rfl] at hx308_3)
            (try rw [show 0 * 5 = 0 from rfl] at hx308_3)
            (try rw [Addr.add_zero'] at hx308_3)
            (try rw [show ((0 : Int)).toNat = 0 from rfl] at hx308_4)
            (try rw [show 0 * 5 = 0 from rfl] at hx308_4)
            (try rw [Addr.add_zero'] at hx308_4)
            replace hx308_0 := (HB.out.cell (World.block_lt_of_cell? w _ hx308_0)).trans hx308_0
            replace hx308_1 := (HB.out.cell (World.block_lt_of_cell? w _ hx308_1)).trans hx308_1
            replace hx308_2 := (HB.out.cell (World.block_lt_of_cell? w _ hx308_2)).trans hx308_2
            replace hx308_3 := (HB.out.cell (World.block_lt_of_cell? w _ hx308_3)).trans hx308_3
            replace hx308_4 := (HB.out.cell (World.block_lt_of_cell? w _ hx308_4)).trans hx308_4
            have HR308_1 := Aside0.mk hi308_1
            have HC308_1 := Aside0.mk hl308_1
            clear hi308_1 hl308_1
            have HR308_2 := Aside0.mk hi308_2
            have HC308_2 := Aside0.mk hl308_2
            clear hi308_2 hl308_2
            have HR308_3 := Aside0.mk hi308_3
            have HC308_3 := Aside0.mk hl308_3
            clear hi308_3 hl308_3
            have HR308_4 := Aside0.mk hi308_4
            have HC308_4 := Aside0.mk hl308_4
            clear hi308_4 hl308_4
            replace p308 := eq_true p308
            replace q308 := eq_true q308
            have ea_ := Option.some.inj (hx307_1.symm.trans hx308_1)
            injection ea_ with ea_ en_ ec_
            subst ea_
            subst ec_
            clear en_
            have ea_ := Option.some.inj (hx307_2.symm.trans hx308_2)
            injection ea_ with ea_ en_ ec_
            subst ea_
            subst ec_
            clear en_
            have ea_ := Option.some.inj (hx307_3.symm.trans hx308_3)
            injection ea_ with ea_ en_ ec_
            subst ea_
            subst ec_
            clear en_
            have ea_ := Option.some.inj (hx307_4.symm.trans hx308_4)
            injection ea_ with ea_ en_ ec_
            subst ea_
            subst ec_
            clear en_
            have hpt308 : ptrOf (.slice (some ad305) l0.length c0) = .pointer (some ad305) := ptrOf_pos _ _ _ (of_decide_eq_true (by first | (with_reducible assumption) | assumption))
            have p309 : 0 ≤ (x20_1 : Int) := of_decide_eq_true (by first | (with_reducible assumption) | assumption)
            have q309 : x20_1 < (((rd_T82 l0 0).f4).length : Int) := of_decide_eq_true (by first | (with_reducible assumption) | assumption)
            obtain ⟨ad309, e309, hx309_0⟩ := Kd.at_int HR308_4.out x20_1 p309 q309
            cases e309
            replace hx309_0 := (HB.out.cell (World.block_lt_of_cell? w _ hx309_0)).trans hx309_0
            replace p309 := eq_true p309
            replace q309 := eq_true q309
            go_wp2
            repeat (go_quiet (fail); try go_wp2)
            go_roundg k1
            case measure => have := HK1.out; omega
            case rel => exact ⟨(wrap64 (x1_1 - (wrap64 ((wrap64 ((((rd_T82 l0 0).f1).length : Int) - (rd ((rd_T82 l0 0).f2) x20_1))) - (rd ((rd_T82 l0 0).f4) x20_1))))), (wrap64 (x20_1 + 1)), (by first | rfl | (simp; done) | (simp [*]; done)), (by first | rfl | (simp; done) | (simp [*]; done)), H', ⟨by have := HK1.out; omega⟩, ⟨by repeat (first | (with_reducible first | exact HB.out | apply below_alloc | apply pw_below_drewN | apply below_drew1) | exact HB.out)⟩⟩
          ·rw [if_neg c11] at H
           exact absurd H (by simp)
         ·rw [if_neg c10] at H
          exact absurd H (by simp)
        ·rw [if_neg c9] at H
         exact absurd H (by simp)
       ·rw [if_neg c8] at H
        exact absurd H (by simp)
      ·rw [if_neg c7] at H
       have c7b0 : decide (x20_1 < (((rd_T82 l0 0).f2).length : Int)) = false := decide_eq_false c7
       clear c7
       simp only [Option.some.injEq, Prod.mk.injEq] at H
       obtain ⟨rfl, rfl⟩ := H
       go_wp2
       repeat (go_quiet (fail); try go_wp2)
       go_ret2
       exact ⟨_, by first | rfl | (simp [errW_none, errW_some] <;> rfl) | (simp [*, errW_none, errW_some] <;> rfl), by first | exact Kd.R_nil _ _ _ _ _ | exact Kd.N_nil _ _ _ _ _ | exact Kd.V_nil _ _ _ _ _ | exact Kd.Q_nil _ _ _ _ _ | exact Kd.S_nil _ _ _ _ _, by repeat (first | (with_reducible first | exact HB.out | apply below_alloc | apply pw_below_drewN | apply below_drew1) | exact HB.out)⟩
   ·rw [if_neg c6] at H
    exact absurd H (by simp)
 ·replace c4 := Bool.eq_false_iff.mpr c4
  subst c4
  have H1 : (some (([] : List Int), 2)) = some (r1, r2) := by rw [if_neg (show ¬ (false = true) by decide)] at H; exact H
  clear H
  have H := H1
  clear H1
  simp only [Option.some.injEq, Prod.mk.injEq] at H
  obtain ⟨rfl, rfl⟩ := H
  go_enter Try.func19, Try.ntmps19
  go_wp2_with (first | (go_at_call 54; (with_reducible refine (suffix_Index_is.calls _ _ l0 false _ ?side1 ?side2 A3.out).mono ?_); (case side1 => repeat (first | exact HR0.out | (with_reducible refine Kd.C_alloc ?_ _) | (with_reducible refine Kd.C_drewN ?_ _) | (with_reducible refine Kd.C_drew ?_))); (case side2 => exact HC0.out); rintro e w' ⟨rfl, ⟨nd, rfl⟩⟩; (try first | exact ⟨rfl, _, World.drewN_drewN _ _ _⟩ | exact ⟨rfl, _, Eq.trans (World.drewN_drewN _ _ _) (congrArg (World.drewN _) (Nat.add_assoc _ _ _))⟩)))
  repeat (go_quiet (first | (go_at_call 54; (with_reducible refine (suffix_Index_is.calls _ _ l0 false _ ?side1 ?side2 A3.out).mono ?_); (case side1 => repeat (first | exact HR0.out | (with_reducible refine Kd.C_alloc ?_ _) | (with_reducible refine Kd.C_drewN ?_ _) | (with_reducible refine Kd.C_drew ?_))); (case side2 => exact HC0.out); rintro e w' ⟨rfl, ⟨nd, rfl⟩⟩; (try first | exact ⟨rfl, _, World.drewN_drewN _ _ _⟩ | exact ⟨rfl, _, Eq.trans (World.drewN_drewN _ _ _) (congrArg (World.drewN _) (Nat.add_assoc _ _ _))⟩))); try go_wp2_with (first | (go_at_call 54; (with_reducible refine (suffix_Index_is.calls _ _ l0 false _ ?side1 ?side2 A3.out).mono ?_); (case side1 => repeat (first | exact HR0.out | (with_reducible refine Kd.C_alloc ?_ _) | (with_reducible refine Kd.C_drewN ?_ _) | (with_reducible refine Kd.C_drew ?_))); (case side2 => exact HC0.out); rintro e w' ⟨rfl, ⟨nd, rfl⟩⟩; (try first | exact ⟨rfl, _, World.drewN_drewN _ _ _⟩ | exact ⟨rfl, _, Eq.trans (World.drewN_drewN _ _ _) (congrArg (World.drewN _) (Nat.add_assoc _ _ _))⟩))))
  go_ret2
  exact ⟨_, by first | rfl | (simp [errW_none, errW_some] <;> rfl) | (simp [*, errW_none, errW_some] <;> rfl), by first | exact Kd.R_nil _ _ _ _ _ | exact Kd.N_nil _ _ _ _ _ | exact Kd.V_nil _ _ _ _ _ | exact Kd.Q_nil _ _ _ _ _ | exact Kd.S_nil _ _ _ _ _, by repeat (first | (with_reducible first | exact HB.out | apply below_alloc | apply pw_below_drewN | apply below_drew1) | exact HB.out)⟩

end Go.Proofs.Ythcnnfahlhklgaa.X
