-- Printed by wip/xprint.py of this repo (a wrapper of the session's own round the print).
import Derived.Test.YtobknpeglagaaaaXY
namespace Go.Proofs.Ytobknpeglagaaaa.X
open Go.RowKit Go.Proofs.YtobknpeglagaaaaW.PrintWords Go.Proofs.YtobknpeglagaaaaW.PrintLast Go.Proofs.YtobknpeglagaaaaW.PrintMore
attribute [local go_sem] ptrOf_eql ptrOf_neq ptrOf_eqg ptrOf_neg str_leq str_geq str_gtr max2_int min2_int max_two min_two max_three min_three max_four min_four   -- for this text's walks alone
set_option linter.unusedVariables false
set_option linter.unusedSimpArgs false

/-! ### sapperref15_longest: function 27 -/
mutual
def sapperref15_longest.l0 : Nat → List Int → List Int → Int → Int → Int → Int → Option (Int × Int)
 | 0, _, _, _, _, _, _ => none
 | k + 1, x0, x1, x6, x7, x11, x12 => if x12 < x11 then (sapperref15_longest.l1 k x0 x1 x6 x7 x12 0 x11 x12) else (some (x6, x7))
def sapperref15_longest.l1 : Nat → List Int → List Int → Int → Int → Int → Int → Int → Int → Option (Int × Int)
 | 0, _, _, _, _, _, _, _, _ => none
 | k + 1, x0, x1, x6, x7, x8, x9, x11, x12 => if x9 < (x1.length : Int) then (if (wrap64 (x8 + x9)) < (x0.length : Int) then (if 0 ≤ (wrap64 (x8 + x9)) then (if 0 ≤ x9 then (if (rd x0 (wrap64 (x8 + x9))) = (rd x1 x9) then (sapperref15_longest.l1 k x0 x1 x6 x7 x8 (wrap64 (x9 + 1)) x11 x12) else (if x9 > x7 then (sapperref15_longest.l0 k x0 x1 x8 x9 x11 (wrap64 (x12 + 1))) else (sapperref15_longest.l0 k x0 x1 x6 x7 x11 (wrap64 (x12 + 1))))) else (none)) else (none)) else (if x9 > x7 then (sapperref15_longest.l0 k x0 x1 x8 x9 x11 (wrap64 (x12 + 1))) else (sapperref15_longest.l0 k x0 x1 x6 x7 x11 (wrap64 (x12 + 1))))) else (if x9 > x7 then (sapperref15_longest.l0 k x0 x1 x8 x9 x11 (wrap64 (x12 + 1))) else (sapperref15_longest.l0 k x0 x1 x6 x7 x11 (wrap64 (x12 + 1))))
end
def sapperref15_longest.f (k : Nat) (l0 : List Int) (l1 : List Int) : Option (Int × Int) := sapperref15_longest.l0 k l0 l1 0 0 (l0.length : Int) 0
theorem sapperref15_longest.mono_l : ∀ k, (∀ y0 y1 y2 y3 y4 y5, LeO (sapperref15_longest.l0 k y0 y1 y2 y3 y4 y5) (sapperref15_longest.l0 (k + 1) y0 y1 y2 y3 y4 y5)) ∧ (∀ y0 y1 y2 y3 y4 y5 y6 y7, LeO (sapperref15_longest.l1 k y0 y1 y2 y3 y4 y5 y6 y7) (sapperref15_longest.l1 (k + 1) y0 y1 y2 y3 y4 y5 y6 y7))
 | 0 => ⟨fun _ _ _ _ _ _ r h => by simp [sapperref15_longest.l0] at h, fun _ _ _ _ _ _ _ _ r h => by simp [sapperref15_longest.l1] at h⟩
 | k + 1 => by
  obtain ⟨ih0, ih1⟩ := sapperref15_longest.mono_l k
  refine ⟨?_, ?_⟩
  intro y0 y1 y2 y3 y4 y5; unfold sapperref15_longest.l0; rotate_left
  intro y0 y1 y2 y3 y4 y5 y6 y7; unfold sapperref15_longest.l1; rotate_left
  all_goals
   repeat' first
   | (with_reducible exact ih0 _ _ _ _ _ _)
   | (with_reducible exact ih1 _ _ _ _ _ _ _ _)
   | (with_reducible exact LeO.refl _)
   | (with_reducible exact LeO.none _)
   | (with_reducible refine LeO.ite ?_ ?_)
   | (with_reducible refine LeO.bind ?_ (fun _ => ?_))
   | exact ih0 _ _ _ _ _ _
   | exact ih1 _ _ _ _ _ _ _ _
   | exact LeO.none _
   | refine LeO.ite ?_ ?_
   | refine LeO.bind ?_ (fun _ => ?_)
theorem sapperref15_longest.mono : ∀ a0 a1 k, LeO (sapperref15_longest.f k a0 a1) (sapperref15_longest.f (k + 1) a0 a1) := by
 intro a0 a1 k
 obtain ⟨ih0, ih1⟩ := sapperref15_longest.mono_l k
 unfold sapperref15_longest.f
 repeat' first
   | (with_reducible exact ih0 _ _ _ _ _ _)
   | (with_reducible exact ih1 _ _ _ _ _ _ _ _)
   | (with_reducible exact LeO.refl _)
   | (with_reducible exact LeO.none _)
   | (with_reducible refine LeO.ite ?_ ?_)
   | (with_reducible refine LeO.bind ?_ (fun _ => ?_))
   | exact ih0 _ _ _ _ _ _
   | exact ih1 _ _ _ _ _ _ _ _
   | exact LeO.none _
   | refine LeO.ite ?_ ?_
   | refine LeO.bind ?_ (fun _ => ?_)
set_option maxHeartbeats 8000000 in
set_option maxRecDepth 100000 in
theorem sapperref15_longest.calls (k : Nat) (A0 : Option Addr) (c0 : Nat) (l0 : List Int) (A1 : Option Addr) (c1 : Nat) (l1 : List Int) (r1 : Int) (r2 : Int) (w : World) (hr0 : Kd.C (Kd.int .u8) w A0 l0.length l0) (hc0 : l0.length ≤ c0) (hr1 : Kd.C (Kd.int .u8) w A1 l1.length l1) (hc1 : l1.length ≤ c1) (h : sapperref15_longest.f k l0 l1 = some (r1, r2)) :
  Calls Try.prog 27 #[.slice A0 l0.length c0, .slice A1 l1.length c1] w fun e w' => e = .returned (.tuple #[.int .i64 r1, .int .i64 r2]) ∧ Drawn0 w w' := by
 have HR0 := Aside0.mk hr0; have HC0 := Aside0.mk hc0; clear hr0 hc0; have HR1 := Aside0.mk hr1; have HC1 := Aside0.mk hc1; clear hr1 hc1; have H : (sapperref15_longest.l0 k l0 l1 0 0 (l0.length : Int) 0) = some (r1, r2) := h; clear h; have H' := Aside0.mk H; clear H
 go_enter Try.func27, Try.ntmps27
 go_wp2
 (repeat (go_quiet (fail); try go_wp2))
 go_loopg [6, 7, 12] k (fun kq v6 v7 v12 w' => ∃ (x6_1 : Int) (x7_1 : Int) (x12_1 : Int), v6 = .int .i64 x6_1 ∧ v7 = .int .i64 x7_1 ∧ v12 = .int .i64 x12_1 ∧ Aside0 (sapperref15_longest.l0 kq l0 l1 x6_1 x7_1 (l0.length : Int) x12_1 = some (r1, r2)) ∧ Aside0 (kq ≤ k) ∧ Drawn0 w w')
 case atStart => exact ⟨(0), (0), (0), (rfl), (rfl), (rfl), H', ⟨Nat.le_refl _⟩, by repeat (first | exact Drawn0.refl _ | apply Drawn0.step)⟩
 case round =>
  clear H'; obtain ⟨x6_1, x7_1, x12_1, rfl, rfl, rfl, HA, HK1, ⟨m1, rfl⟩⟩ := hrel
  cases gk with
  | zero => exact absurd HA.out (by simp [sapperref15_longest.l0])
  | succ k1 =>
   have H := HA.out; clear HA; simp only [sapperref15_longest.l0] at H
   by_cases c3 : x12_1 < (l0.length : Int)
   ·rw [if_pos c3] at H
    have c3b0 : decide (x12_1 < (l0.length : Int)) = true := decide_eq_true c3; clear c3; have H' := Aside0.mk H; clear H
    go_wp2
    (repeat (go_quiet (fail); try go_wp2))
    go_loopg [9] k1 (fun kq v9 w' => ∃ (x9_2 : Int), v9 = .int .i64 x9_2 ∧ Aside0 (sapperref15_longest.l1 kq l0 l1 x6_1 x7_1 x12_1 x9_2 (l0.length : Int) x12_1 = some (r1, r2)) ∧ Aside0 (kq ≤ k1) ∧ Drawn0 w w')
    case atStart => exact ⟨(0), (rfl), H', ⟨Nat.le_refl _⟩, by repeat (first | exact Drawn0.refl _ | apply Drawn0.step)⟩
    case round =>
     clear H'; obtain ⟨x9_2, rfl, HA, HK2, ⟨m2, rfl⟩⟩ := hrel
     cases gk with
     | zero => exact absurd HA.out (by simp [sapperref15_longest.l1])
     | succ k2 =>
      have H := HA.out; clear HA; simp only [sapperref15_longest.l1] at H
      by_cases c4 : x9_2 < (l1.length : Int)
      ·rw [if_pos c4] at H
       have c4b0 : decide (x9_2 < (l1.length : Int)) = true := decide_eq_true c4; clear c4
       by_cases c5 : (wrap64 (x12_1 + x9_2)) < (l0.length : Int)
       ·rw [if_pos c5] at H
        have c5b0 : decide ((wrap64 (x12_1 + x9_2)) < (l0.length : Int)) = true := decide_eq_true c5; clear c5; obtain ⟨ji6, hji6⟩ : ∃ j_ : Int, (wrap64 (x12_1 + x9_2)) = j_ := ⟨_, rfl⟩
        replace H : (if 0 ≤ (ji6) then (if 0 ≤ x9_2 then (if (rd l0 (ji6)) = (rd l1 x9_2) then (sapperref15_longest.l1 k2 l0 l1 x6_1 x7_1 x12_1 (wrap64 (x9_2 + 1)) (l0.length : Int) x12_1) else (if x9_2 > x7_1 then (sapperref15_longest.l0 k2 l0 l1 x12_1 x9_2 (l0.length : Int) (wrap64 (x12_1 + 1))) else (sapperref15_longest.l0 k2 l0 l1 x6_1 x7_1 (l0.length : Int) (wrap64 (x12_1 + 1))))) else (none)) else (none)) = some (r1, r2) := by first | (rw [hji6] at H; exact H) | (simp only [hji6] at H ⊢; exact H)
        (try rw [hji6] at c5b0); have hji6w : (IntKind.i64.wrap (x12_1 + x9_2)) = ji6 := (i64_w _).trans hji6
        by_cases c7 : 0 ≤ (ji6)
        ·rw [if_pos c7] at H
         have c7b0 : decide (0 ≤ (ji6)) = true := decide_eq_true c7; clear c7
         by_cases c8 : 0 ≤ x9_2
         ·rw [if_pos c8] at H
          have c8b0 : decide (0 ≤ x9_2) = true := decide_eq_true c8; clear c8
          by_cases c9 : (rd l0 (ji6)) = (rd l1 x9_2)
          ·rw [if_pos c9] at H
           have c9b0 : ((rd l0 (ji6)) == (rd l1 x9_2)) = true := beq_iff_eq.mpr c9; have c9b1 : ((rd l0 (ji6)) != (rd l1 x9_2)) = false := bne_eq_false_iff_eq.mpr c9; clear c9; have H' := Aside0.mk H; clear H; have p375 : 0 ≤ ((ji6) : Int) := Qt; have q375 : (ji6) < (l0.length : Int) := Qt; obtain ⟨ad375, e375, hx375_0⟩ := Kd.at_int HR0.out (ji6) p375 q375; cases e375; replace p375 := eq_true p375; replace q375 := eq_true q375; have p376 : 0 ≤ (x9_2 : Int) := Qt; have q376 : x9_2 < (l1.length : Int) := Qt; obtain ⟨ad376, e376, hx376_0⟩ := Kd.at_int HR1.out x9_2 p376 q376; cases e376; replace p376 := eq_true p376; replace q376 := eq_true q376
           go_wp2
           (repeat (go_quiet (fail); try go_wp2))
           go_roundg k2
           case measure => have := HK1.out; have := HK2.out; omega
           case rel => exact ⟨(wrap64 (x9_2 + 1)), (rfl), H', ⟨by have := HK1.out; have := HK2.out; omega⟩, by repeat (first | exact Drawn0.refl _ | apply Drawn0.step)⟩
          ·rw [if_neg c9] at H
           have c9b0 : ((rd l0 (ji6)) == (rd l1 x9_2)) = false := beq_eq_false_iff_ne.mpr c9; have c9b1 : ((rd l0 (ji6)) != (rd l1 x9_2)) = true := bne_iff_ne.mpr c9
           by_cases c10 : x9_2 > x7_1
           ·rw [if_pos c10] at H
            have c10b0 : decide (x7_1 < x9_2) = true := decide_eq_true c10; clear c10; have H' := Aside0.mk H; clear H; have p375 : 0 ≤ ((ji6) : Int) := Qt; have q375 : (ji6) < (l0.length : Int) := Qt; obtain ⟨ad375, e375, hx375_0⟩ := Kd.at_int HR0.out (ji6) p375 q375; cases e375; replace p375 := eq_true p375; replace q375 := eq_true q375; have p376 : 0 ≤ (x9_2 : Int) := Qt; have q376 : x9_2 < (l1.length : Int) := Qt; obtain ⟨ad376, e376, hx376_0⟩ := Kd.at_int HR1.out x9_2 p376 q376; cases e376; replace p376 := eq_true p376; replace q376 := eq_true q376
            go_wp2
            (repeat (go_quiet (fail); try go_wp2))
            go_roundg k2
            case measure => have := HK1.out; have := HK2.out; omega
            case rel => exact ⟨(x12_1), (x9_2), (wrap64 (x12_1 + 1)), (rfl), (rfl), (rfl), H', ⟨by have := HK1.out; have := HK2.out; omega⟩, by repeat (first | exact Drawn0.refl _ | apply Drawn0.step)⟩
           ·rw [if_neg c10] at H
            have c10b0 : decide (x7_1 < x9_2) = false := decide_eq_false c10; clear c10; have H' := Aside0.mk H; clear H; have p375 : 0 ≤ ((ji6) : Int) := Qt; have q375 : (ji6) < (l0.length : Int) := Qt; obtain ⟨ad375, e375, hx375_0⟩ := Kd.at_int HR0.out (ji6) p375 q375; cases e375; replace p375 := eq_true p375; replace q375 := eq_true q375; have p376 : 0 ≤ (x9_2 : Int) := Qt; have q376 : x9_2 < (l1.length : Int) := Qt; obtain ⟨ad376, e376, hx376_0⟩ := Kd.at_int HR1.out x9_2 p376 q376; cases e376; replace p376 := eq_true p376; replace q376 := eq_true q376
            go_wp2
            (repeat (go_quiet (fail); try go_wp2))
            go_roundg k2
            case measure => have := HK1.out; have := HK2.out; omega
            case rel => exact ⟨(x6_1), (x7_1), (wrap64 (x12_1 + 1)), (rfl), (rfl), (rfl), H', ⟨by have := HK1.out; have := HK2.out; omega⟩, by repeat (first | exact Drawn0.refl _ | apply Drawn0.step)⟩
         (· (rw [if_neg c8] at H; exact absurd H (by simp)))
        (· (rw [if_neg c7] at H; exact absurd H (by simp)))
       ·rw [if_neg c5] at H
        have c5b0 : decide ((wrap64 (x12_1 + x9_2)) < (l0.length : Int)) = false := decide_eq_false c5; clear c5
        by_cases c11 : x9_2 > x7_1
        ·rw [if_pos c11] at H
         have c11b0 : decide (x7_1 < x9_2) = true := decide_eq_true c11; clear c11; have H' := Aside0.mk H; clear H
         go_wp2
         (repeat (go_quiet (fail); try go_wp2))
         go_roundg k2
         case measure => have := HK1.out; have := HK2.out; omega
         case rel => exact ⟨(x12_1), (x9_2), (wrap64 (x12_1 + 1)), (rfl), (rfl), (rfl), H', ⟨by have := HK1.out; have := HK2.out; omega⟩, by repeat (first | exact Drawn0.refl _ | apply Drawn0.step)⟩
        ·rw [if_neg c11] at H
         have c11b0 : decide (x7_1 < x9_2) = false := decide_eq_false c11; clear c11; have H' := Aside0.mk H; clear H
         go_wp2
         (repeat (go_quiet (fail); try go_wp2))
         go_roundg k2
         case measure => have := HK1.out; have := HK2.out; omega
         case rel => exact ⟨(x6_1), (x7_1), (wrap64 (x12_1 + 1)), (rfl), (rfl), (rfl), H', ⟨by have := HK1.out; have := HK2.out; omega⟩, by repeat (first | exact Drawn0.refl _ | apply Drawn0.step)⟩
      ·rw [if_neg c4] at H
       have c4b0 : decide (x9_2 < (l1.length : Int)) = false := decide_eq_false c4; clear c4
       by_cases c12 : x9_2 > x7_1
       ·rw [if_pos c12] at H
        have c12b0 : decide (x7_1 < x9_2) = true := decide_eq_true c12; clear c12; have H' := Aside0.mk H; clear H
        go_wp2
        (repeat (go_quiet (fail); try go_wp2))
        go_roundg k2
        case measure => have := HK1.out; have := HK2.out; omega
        case rel => exact ⟨(x12_1), (x9_2), (wrap64 (x12_1 + 1)), (rfl), (rfl), (rfl), H', ⟨by have := HK1.out; have := HK2.out; omega⟩, by repeat (first | exact Drawn0.refl _ | apply Drawn0.step)⟩
       ·rw [if_neg c12] at H
        have c12b0 : decide (x7_1 < x9_2) = false := decide_eq_false c12; clear c12; have H' := Aside0.mk H; clear H
        go_wp2
        (repeat (go_quiet (fail); try go_wp2))
        go_roundg k2
        case measure => have := HK1.out; have := HK2.out; omega
        case rel => exact ⟨(x6_1), (x7_1), (wrap64 (x12_1 + 1)), (rfl), (rfl), (rfl), H', ⟨by have := HK1.out; have := HK2.out; omega⟩, by repeat (first | exact Drawn0.refl _ | apply Drawn0.step)⟩
   ·rw [if_neg c3] at H
    have c3b0 : decide (x12_1 < (l0.length : Int)) = false := decide_eq_false c3; clear c3; simp only [Option.some.injEq, Prod.mk.injEq] at H; obtain ⟨rfl, rfl⟩ := H
    go_wp2
    (repeat (go_quiet (fail); try go_wp2))
    go_ret2
    exact ⟨rfl, by repeat (first | exact Drawn0.refl _ | apply Drawn0.step)⟩

end Go.Proofs.Ytobknpeglagaaaa.X
