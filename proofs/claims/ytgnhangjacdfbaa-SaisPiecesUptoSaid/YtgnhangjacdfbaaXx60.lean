-- Printed by wip/xprint.py of this repo (a wrapper of the session's own round the print).
import Derived.Test.YtgnhangjacdfbaaXx0
namespace Go.Proofs.Ytgnhangjacdfbaa.X
open Go.RowKit Go.Proofs.YtgnhangjacdfbaaW.PrintWords Go.Proofs.YtgnhangjacdfbaaW.PrintLast Go.Proofs.YtgnhangjacdfbaaW.PrintMore
attribute [local go_sem] max2_int min2_int max_two min_two max_three min_three max_four min_four   -- for this text's walks alone
set_option linter.unusedVariables false
set_option linter.unusedSimpArgs false

/-! ### sapperlaw12_pieceLess: function 30 -/
mutual
def sapperlaw12_pieceLess.l0 : Nat → List Int → List Bool → Int → Int → Int → Option (Bool × Bool)
 | 0, _, _, _, _, _ => none
 | k + 1, x0, x1, x2, x3, x10 => if (wrap64 (x2 + x10)) = (x0.length : Int) then (sapperlaw12_pieceLess.j1 k x0 x1 x2 x3 x10 (wrap64 (x2 + x10)) (wrap64 (x3 + x10)) true) else (sapperlaw12_pieceLess.j1 k x0 x1 x2 x3 x10 (wrap64 (x2 + x10)) (wrap64 (x3 + x10)) ((wrap64 (x3 + x10)) == (x0.length : Int)))
def sapperlaw12_pieceLess.j1 : Nat → List Int → List Bool → Int → Int → Int → Int → Int → Bool → Option (Bool × Bool)
 | 0, _, _, _, _, _, _, _, _ => none
 | k + 1, x0, x1, x2, x3, x10, x11, x12, x30 => if x30 = true then (if x11 = (x0.length : Int) then (some (decide (x12 < (x0.length : Int)), (x11 == x12))) else (some (false, (x11 == x12)))) else (if 0 ≤ x11 then (if x11 < (x0.length : Int) then (if 0 ≤ x12 then (if x12 < (x0.length : Int) then (if (rd x0 x11) = (rd x0 x12) then (if x11 < (x1.length : Int) then (if x12 < (x1.length : Int) then (if ((rdOf false x1 x11) != (rdOf false x1 x12)) = true then (some (!(rdOf false x1 x11), false)) else (if x10 > 0 then (if rdOf false x1 x11 = true then (if 0 ≤ (wrap64 (x11 - 1)) then (if (wrap64 (x11 - 1)) < (x1.length : Int) then (if (rdOf false x1 (wrap64 (x11 - 1)) = true) then (sapperlaw12_pieceLess.l0 k x0 x1 x2 x3 (wrap64 (x10 + 1))) else (some (false, true))) else (none)) else (none)) else (sapperlaw12_pieceLess.l0 k x0 x1 x2 x3 (wrap64 (x10 + 1)))) else (sapperlaw12_pieceLess.l0 k x0 x1 x2 x3 (wrap64 (x10 + 1))))) else (none)) else (none)) else (some (decide ((rd x0 x11) < (rd x0 x12)), false))) else (none)) else (none)) else (none)) else (none))
end
def sapperlaw12_pieceLess.f (k : Nat) (l0 : List Int) (l1 : List Bool) (a2 : Int) (a3 : Int) : Option (Bool × Bool) := sapperlaw12_pieceLess.l0 k l0 l1 a2 a3 0
theorem sapperlaw12_pieceLess.mono_l : ∀ k, (∀ y0 y1 y2 y3 y4, LeO (sapperlaw12_pieceLess.l0 k y0 y1 y2 y3 y4) (sapperlaw12_pieceLess.l0 (k + 1) y0 y1 y2 y3 y4)) ∧ (∀ y0 y1 y2 y3 y4 y5 y6 y7, LeO (sapperlaw12_pieceLess.j1 k y0 y1 y2 y3 y4 y5 y6 y7) (sapperlaw12_pieceLess.j1 (k + 1) y0 y1 y2 y3 y4 y5 y6 y7))
 | 0 => ⟨fun _ _ _ _ _ r h => by simp [sapperlaw12_pieceLess.l0] at h, fun _ _ _ _ _ _ _ _ r h => by simp [sapperlaw12_pieceLess.j1] at h⟩
 | k + 1 => by
  obtain ⟨ih0, ih1⟩ := sapperlaw12_pieceLess.mono_l k
  refine ⟨?_, ?_⟩
  ·intro y0 y1 y2 y3 y4
   unfold sapperlaw12_pieceLess.l0
   repeat' first
   | (with_reducible exact ih0 _ _ _ _ _)
   | (with_reducible exact ih1 _ _ _ _ _ _ _ _)
   | (with_reducible exact LeO.refl _)
   | (with_reducible exact LeO.none _)
   | (with_reducible refine LeO.ite ?_ ?_)
   | (with_reducible refine LeO.bind ?_ (fun _ => ?_))
   | exact ih0 _ _ _ _ _
   | exact ih1 _ _ _ _ _ _ _ _
   | exact LeO.none _
   | refine LeO.ite ?_ ?_
   | refine LeO.bind ?_ (fun _ => ?_)
  ·intro y0 y1 y2 y3 y4 y5 y6 y7
   unfold sapperlaw12_pieceLess.j1
   repeat' first
   | (with_reducible exact ih0 _ _ _ _ _)
   | (with_reducible exact ih1 _ _ _ _ _ _ _ _)
   | (with_reducible exact LeO.refl _)
   | (with_reducible exact LeO.none _)
   | (with_reducible refine LeO.ite ?_ ?_)
   | (with_reducible refine LeO.bind ?_ (fun _ => ?_))
   | exact ih0 _ _ _ _ _
   | exact ih1 _ _ _ _ _ _ _ _
   | exact LeO.none _
   | refine LeO.ite ?_ ?_
   | refine LeO.bind ?_ (fun _ => ?_)
theorem sapperlaw12_pieceLess.mono : ∀ a0 a1 a2 a3 k, LeO (sapperlaw12_pieceLess.f k a0 a1 a2 a3) (sapperlaw12_pieceLess.f (k + 1) a0 a1 a2 a3) := by
 intro a0 a1 a2 a3 k
 obtain ⟨ih0, ih1⟩ := sapperlaw12_pieceLess.mono_l k
 unfold sapperlaw12_pieceLess.f
 repeat' first
   | (with_reducible exact ih0 _ _ _ _ _)
   | (with_reducible exact ih1 _ _ _ _ _ _ _ _)
   | (with_reducible exact LeO.refl _)
   | (with_reducible exact LeO.none _)
   | (with_reducible refine LeO.ite ?_ ?_)
   | (with_reducible refine LeO.bind ?_ (fun _ => ?_))
   | exact ih0 _ _ _ _ _
   | exact ih1 _ _ _ _ _ _ _ _
   | exact LeO.none _
   | refine LeO.ite ?_ ?_
   | refine LeO.bind ?_ (fun _ => ?_)
set_option maxHeartbeats 8000000 in
set_option maxRecDepth 100000 in
theorem sapperlaw12_pieceLess.calls (k : Nat) (A0 : Option Addr) (c0 : Nat) (l0 : List Int) (A1 : Option Addr) (c1 : Nat) (l1 : List Bool) (a2 : Int) (a3 : Int) (r1 : Bool) (r2 : Bool) (w : World) (hr0 : Kd.C (Kd.int .i64) w A0 l0.length l0) (hc0 : l0.length ≤ c0) (hr1 : Kd.C Kd.bool w A1 l1.length l1) (hc1 : l1.length ≤ c1) (h : sapperlaw12_pieceLess.f k l0 l1 a2 a3 = some (r1, r2)) :
  Calls Try.prog 30 #[.slice A0 l0.length c0, .slice A1 l1.length c1, .int .i64 a2, .int .i64 a3] w fun e w' => e = .returned (.tuple #[.bool r1, .bool r2]) ∧ Drawn0 w w' := by
 have HR0 := Aside0.mk hr0
 have HC0 := Aside0.mk hc0
 clear hr0 hc0
 have HR1 := Aside0.mk hr1
 have HC1 := Aside0.mk hc1
 clear hr1 hc1
 have H : (sapperlaw12_pieceLess.l0 k l0 l1 a2 a3 0) = some (r1, r2) := h
 clear h
 have H' := Aside0.mk H
 clear H
 go_enter Try.func30, Try.ntmps30
 go_wp2
 repeat (go_quiet (fail); try go_wp2)
 go_loopg [10] k (fun kq v10 w' => ∃ (x10_1 : Int), v10 = .int .i64 x10_1 ∧ Aside0 (sapperlaw12_pieceLess.l0 kq l0 l1 a2 a3 x10_1 = some (r1, r2)) ∧ Aside0 (kq ≤ k) ∧ Drawn0 w w')
 case atStart => exact ⟨(0), (by first | rfl | (simp; done) | (simp [*]; done)), H', ⟨Nat.le_refl _⟩, by repeat (first | exact Drawn0.refl _ | apply Drawn0.step)⟩
 case round =>
  clear H'
  try clear c1
  try clear p2
  try clear c3
  obtain ⟨x10_1, rfl, HA, HK1, ⟨m1, rfl⟩⟩ := hrel
  cases gk with
  | zero => exact absurd HA.out (by simp [sapperlaw12_pieceLess.l0])
  | succ k1 =>
   have H := HA.out
   clear HA
   simp only [sapperlaw12_pieceLess.l0] at H
   have HC5 := Aside0.mk H
   clear H
   go_upto_region 4 with (fail)
   repeat (go_quiet (fail); go_upto_region 4 with (fail))
   go_cut [30] (fun v30 wc => ∃ (kq : Nat) (x30_4 : Bool), v30 = .bool x30_4 ∧ Aside0 (sapperlaw12_pieceLess.j1 kq l0 l1 a2 a3 x10_1 (wrap64 (a2 + x10_1)) (wrap64 (a3 + x10_1)) x30_4 = some (r1, r2)) ∧ Aside0 (kq ≤ k1) ∧ Drawn0 w wc)
   case first =>
    have H := HC5.out
    clear HC5
    by_cases c6 : (wrap64 (a2 + x10_1)) = (l0.length : Int)
    ·rw [if_pos c6] at H
     have c6b0 : ((wrap64 (a2 + x10_1)) == (l0.length : Int)) = true := beq_iff_eq.mpr c6
     have c6b1 : ((wrap64 (a2 + x10_1)) != (l0.length : Int)) = false := bne_eq_false_iff_eq.mpr c6
     clear c6
     (first | rw [c6b0] | (simp only [i64_w, i32_w]; rw [c6b0]) | rw [c6b1] | skip)
     have H' := Aside0.mk H
     clear H
     go_wp2
     repeat (go_quiet (fail); try go_wp2)
     go_meet
     case rel => exact ⟨_, (true), (by first | rfl | (simp; done) | (simp [*]; done)), H', ⟨by have := HK1.out; first | omega | exact Nat.le_refl _⟩, by repeat (first | exact Drawn0.refl _ | apply Drawn0.step)⟩
    ·rw [if_neg c6] at H
     have c6b0 : ((wrap64 (a2 + x10_1)) == (l0.length : Int)) = false := beq_eq_false_iff_ne.mpr c6
     have c6b1 : ((wrap64 (a2 + x10_1)) != (l0.length : Int)) = true := bne_iff_ne.mpr c6
     (first | rw [c6b0] | (simp only [i64_w, i32_w]; rw [c6b0]) | rw [c6b1] | skip)
     have H' := Aside0.mk H
     clear H
     go_wp2
     repeat (go_quiet (fail); try go_wp2)
     go_meet
     case rel => exact ⟨_, (((wrap64 (a3 + x10_1)) == (l0.length : Int))), (by first | rfl | (simp; done) | (simp [*]; done)), H', ⟨by have := HK1.out; first | omega | exact Nat.le_refl _⟩, by repeat (first | exact Drawn0.refl _ | apply Drawn0.step)⟩
   case rest =>
    clear HC5
    try clear c1
    try clear p2
    try clear c3
    try clear c6
    try clear c6b0
    try clear c6b1
    try clear p6
    try clear p2
    obtain ⟨kq, x30_4, rfl, HA, HJ4, ⟨mc4, rfl⟩⟩ := hcut
    cases kq with
    | zero => exact absurd HA.out (by simp [sapperlaw12_pieceLess.j1])
    | succ kj4 =>
     have H := HA.out
     clear HA
     simp only [sapperlaw12_pieceLess.j1] at H
     by_cases c7 : x30_4 = true
     ·subst c7
      have H1 : (if (wrap64 (a2 + x10_1)) = (l0.length : Int) then (some (decide ((wrap64 (a3 + x10_1)) < (l0.length : Int)), ((wrap64 (a2 + x10_1)) == (wrap64 (a3 + x10_1))))) else (some (false, ((wrap64 (a2 + x10_1)) == (wrap64 (a3 + x10_1)))))) = some (r1, r2) := by rw [if_pos rfl] at H; exact H
      clear H
      have H := H1
      clear H1
      by_cases c8 : (wrap64 (a2 + x10_1)) = (l0.length : Int)
      ·rw [if_pos c8] at H
       have c8b0 : ((wrap64 (a2 + x10_1)) == (l0.length : Int)) = true := beq_iff_eq.mpr c8
       have c8b1 : ((wrap64 (a2 + x10_1)) != (l0.length : Int)) = false := bne_eq_false_iff_eq.mpr c8
       clear c8
       simp only [Option.some.injEq, Prod.mk.injEq] at H
       obtain ⟨rfl, rfl⟩ := H
       go_wp2
       repeat (go_quiet (fail); try go_wp2)
       go_ret2
       exact ⟨by first | rfl | (simp; done) | (simp [*]; done), by repeat (first | exact Drawn0.refl _ | apply Drawn0.step)⟩
      ·rw [if_neg c8] at H
       have c8b0 : ((wrap64 (a2 + x10_1)) == (l0.length : Int)) = false := beq_eq_false_iff_ne.mpr c8
       have c8b1 : ((wrap64 (a2 + x10_1)) != (l0.length : Int)) = true := bne_iff_ne.mpr c8
       simp only [Option.some.injEq, Prod.mk.injEq] at H
       obtain ⟨rfl, rfl⟩ := H
       go_wp2
       repeat (go_quiet (fail); try go_wp2)
       go_ret2
       exact ⟨by first | rfl | (simp; done) | (simp [*]; done), by repeat (first | exact Drawn0.refl _ | apply Drawn0.step)⟩
     ·replace c7 := Bool.eq_false_iff.mpr c7
      subst c7
      have H1 : (if 0 ≤ (wrap64 (a2 + x10_1)) then (if (wrap64 (a2 + x10_1)) < (l0.length : Int) then (if 0 ≤ (wrap64 (a3 + x10_1)) then (if (wrap64 (a3 + x10_1)) < (l0.length : Int) then (if (rd l0 (wrap64 (a2 + x10_1))) = (rd l0 (wrap64 (a3 + x10_1))) then (if (wrap64 (a2 + x10_1)) < (l1.length : Int) then (if (wrap64 (a3 + x10_1)) < (l1.length : Int) then (if ((rdOf false l1 (wrap64 (a2 + x10_1))) != (rdOf false l1 (wrap64 (a3 + x10_1)))) = true then (some (!(rdOf false l1 (wrap64 (a2 + x10_1))), false)) else (if x10_1 > 0 then (if rdOf false l1 (wrap64 (a2 + x10_1)) = true then (if 0 ≤ (wrap64 ((wrap64 (a2 + x10_1)) - 1)) then (if (wrap64 ((wrap64 (a2 + x10_1)) - 1)) < (l1.length : Int) then (if (rdOf false l1 (wrap64 ((wrap64 (a2 + x10_1)) - 1)) = true) then (sapperlaw12_pieceLess.l0 kj4 l0 l1 a2 a3 (wrap64 (x10_1 + 1))) else (some (false, true))) else (none)) else (none)) else (sapperlaw12_pieceLess.l0 kj4 l0 l1 a2 a3 (wrap64 (x10_1 + 1)))) else (sapperlaw12_pieceLess.l0 kj4 l0 l1 a2 a3 (wrap64 (x10_1 + 1))))) else (none)) else (none)) else (some (decide ((rd l0 (wrap64 (a2 + x10_1))) < (rd l0 (wrap64 (a3 + x10_1)))), false))) else (none)) else (none)) else (none)) else (none)) = some (r1, r2) := by rw [if_neg (show ¬ (false = true) by decide)] at H; exact H
      clear H
      have H := H1
      clear H1
      obtain ⟨ji9, hji9⟩ : ∃ j_ : Int, (wrap64 (a2 + x10_1)) = j_ := ⟨_, rfl⟩
      replace H : (if 0 ≤ (ji9) then (if (ji9) < (l0.length : Int) then (if 0 ≤ (wrap64 (a3 + x10_1)) then (if (wrap64 (a3 + x10_1)) < (l0.length : Int) then (if (rd l0 (ji9)) = (rd l0 (wrap64 (a3 + x10_1))) then (if (ji9) < (l1.length : Int) then (if (wrap64 (a3 + x10_1)) < (l1.length : Int) then (if ((rdOf false l1 (ji9)) != (rdOf false l1 (wrap64 (a3 + x10_1)))) = true then (some (!(rdOf false l1 (ji9)), false)) else (if x10_1 > 0 then (if rdOf false l1 (ji9) = true then (if 0 ≤ (wrap64 ((ji9) - 1)) then (if (wrap64 ((ji9) - 1)) < (l1.length : Int) then (if (rdOf false l1 (wrap64 ((ji9) - 1)) = true) then (sapperlaw12_pieceLess.l0 kj4 l0 l1 a2 a3 (wrap64 (x10_1 + 1))) else (some (false, true))) else (none)) else (none)) else (sapperlaw12_pieceLess.l0 kj4 l0 l1 a2 a3 (wrap64 (x10_1 + 1)))) else (sapperlaw12_pieceLess.l0 kj4 l0 l1 a2 a3 (wrap64 (x10_1 + 1))))) else (none)) else (none)) else (some (decide ((rd l0 (ji9)) < (rd l0 (wrap64 (a3 + x10_1)))), false))) else (none)) else (none)) else (none)) else (none)) = some (r1, r2) := by first | (rw [hji9] at H; exact H) | (simp only [hji9] at H ⊢; exact H)
      have hji9w : (IntKind.i64.wrap (a2 + x10_1)) = ji9 := (i64_w _).trans hji9
      by_cases c10 : 0 ≤ (ji9)
      ·rw [if_pos c10] at H
       have c10b0 : decide (0 ≤ (ji9)) = true := decide_eq_true c10
       clear c10
       by_cases c11 : (ji9) < (l0.length : Int)
       ·rw [if_pos c11] at H
        have c11b0 : decide ((ji9) < (l0.length : Int)) = true := decide_eq_true c11
        clear c11
        obtain ⟨ji12, hji12⟩ : ∃ j_ : Int, (wrap64 (a3 + x10_1)) = j_ := ⟨_, rfl⟩
        replace H : (if 0 ≤ (ji12) then (if (ji12) < (l0.length : Int) then (if (rd l0 (ji9)) = (rd l0 (ji12)) then (if (ji9) < (l1.length : Int) then (if (ji12) < (l1.length : Int) then (if ((rdOf false l1 (ji9)) != (rdOf false l1 (ji12))) = true then (some (!(rdOf false l1 (ji9)), false)) else (if x10_1 > 0 then (if rdOf false l1 (ji9) = true then (if 0 ≤ (wrap64 ((ji9) - 1)) then (if (wrap64 ((ji9) - 1)) < (l1.length : Int) then (if (rdOf false l1 (wrap64 ((ji9) - 1)) = true) then (sapperlaw12_pieceLess.l0 kj4 l0 l1 a2 a3 (wrap64 (x10_1 + 1))) else (some (false, true))) else (none)) else (none)) else (sapperlaw12_pieceLess.l0 kj4 l0 l1 a2 a3 (wrap64 (x10_1 + 1)))) else (sapperlaw12_pieceLess.l0 kj4 l0 l1 a2 a3 (wrap64 (x10_1 + 1))))) else (none)) else (none)) else (some (decide ((rd l0 (ji9)) < (rd l0 (ji12))), false))) else (none)) else (none)) = some (r1, r2) := by first | (rw [hji12] at H; exact H) | (simp only [hji12] at H ⊢; exact H)
        have hji12w : (IntKind.i64.wrap (a3 + x10_1)) = ji12 := (i64_w _).trans hji12
        by_cases c13 : 0 ≤ (ji12)
        ·rw [if_pos c13] at H
         have c13b0 : decide (0 ≤ (ji12)) = true := decide_eq_true c13
         clear c13
         by_cases c14 : (ji12) < (l0.length : Int)
         ·rw [if_pos c14] at H
          have c14b0 : decide ((ji12) < (l0.length : Int)) = true := decide_eq_true c14
          clear c14
          by_cases c15 : (rd l0 (ji9)) = (rd l0 (ji12))
          ·rw [if_pos c15] at H
           have c15b0 : ((rd l0 (ji9)) == (rd l0 (ji12))) = true := beq_iff_eq.mpr c15
           have c15b1 : ((rd l0 (ji9)) != (rd l0 (ji12))) = false := bne_eq_false_iff_eq.mpr c15
           clear c15
           by_cases c16 : (ji9) < (l1.length : Int)
           ·rw [if_pos c16] at H
            have c16b0 : decide ((ji9) < (l1.length : Int)) = true := decide_eq_true c16
            clear c16
            by_cases c17 : (ji12) < (l1.length : Int)
            ·rw [if_pos c17] at H
             have c17b0 : decide ((ji12) < (l1.length : Int)) = true := decide_eq_true c17
             clear c17
             by_cases c18 : ((rdOf false l1 (ji9)) != (rdOf false l1 (ji12))) = true
             ·rw [if_pos c18] at H
              have c18b0 : ((rdOf false l1 (ji9)) != (rdOf false l1 (ji12))) = true := c18
              (try (have c18b1 : decide ((rdOf false l1 (ji9)) = (rdOf false l1 (ji12))) = false := by simpa using c18))
              (try (have c18b2 : ((rdOf false l1 (ji9)) == (rdOf false l1 (ji12))) = false := by simpa using c18))
              (try (have c18b3 : ¬ ((rdOf false l1 (ji9)) = (rdOf false l1 (ji12))) := by simpa using c18))
              clear c18
              simp only [Option.some.injEq, Prod.mk.injEq] at H
              obtain ⟨rfl, rfl⟩ := H
              have p846 : 0 ≤ ((ji9) : Int) := of_decide_eq_true (by first | (with_reducible assumption) | assumption)
              have q846 : (ji9) < (l0.length : Int) := of_decide_eq_true (by first | (with_reducible assumption) | assumption)
              obtain ⟨ad846, e846, hx846_0⟩ := Kd.at_int HR0.out (ji9) p846 q846
              cases e846
              replace p846 := eq_true p846
              replace q846 := eq_true q846
              have p847 : 0 ≤ ((ji12) : Int) := of_decide_eq_true (by first | (with_reducible assumption) | assumption)
              have q847 : (ji12) < (l0.length : Int) := of_decide_eq_true (by first | (with_reducible assumption) | assumption)
              obtain ⟨ad847, e847, hx847_0⟩ := Kd.at_int HR0.out (ji12) p847 q847
              obtain rfl : ad846 = ad847 := (by injection e847)
              replace p847 := eq_true p847
              replace q847 := eq_true q847
              have p850 : 0 ≤ ((ji9) : Int) := of_decide_eq_true (by first | (with_reducible assumption) | assumption)
              have q850 : (ji9) < (l1.length : Int) := of_decide_eq_true (by first | (with_reducible assumption) | assumption)
              obtain ⟨ad850, e850, hx850_0⟩ := Kd.at_bool HR1.out (ji9) p850 q850
              cases e850
              replace p850 := eq_true p850
              replace q850 := eq_true q850
              have p851 : 0 ≤ ((ji12) : Int) := of_decide_eq_true (by first | (with_reducible assumption) | assumption)
              have q851 : (ji12) < (l1.length : Int) := of_decide_eq_true (by first | (with_reducible assumption) | assumption)
              obtain ⟨ad851, e851, hx851_0⟩ := Kd.at_bool HR1.out (ji12) p851 q851
              obtain rfl : ad850 = ad851 := (by injection e851)
              replace p851 := eq_true p851
              replace q851 := eq_true q851
              have p852 : 0 ≤ ((ji9) : Int) := of_decide_eq_true (by first | (with_reducible assumption) | assumption)
              have q852 : (ji9) < (l1.length : Int) := of_decide_eq_true (by first | (with_reducible assumption) | assumption)
              obtain ⟨ad852, e852, hx852_0⟩ := Kd.at_bool HR1.out (ji9) p852 q852
              obtain rfl : ad850 = ad852 := (by injection e852)
              replace p852 := eq_true p852
              replace q852 := eq_true q852
              go_wp2
              repeat (go_quiet (fail); try go_wp2)
              go_ret2
              exact ⟨by first | rfl | (simp; done) | (simp only [← hji9, ← hji12] <;> (first | rfl | simp)) | (simp [*]; done), by repeat (first | exact Drawn0.refl _ | apply Drawn0.step)⟩
             ·rw [if_neg c18] at H
              have c18b0 : ((rdOf false l1 (ji9)) != (rdOf false l1 (ji12))) = false := by simpa using c18
              (try (have c18b1 : decide ((rdOf false l1 (ji9)) = (rdOf false l1 (ji12))) = true := by simpa using c18))
              (try (have c18b2 : ((rdOf false l1 (ji9)) == (rdOf false l1 (ji12))) = true := by simpa using c18))
              clear c18
              by_cases c19 : x10_1 > 0
              ·rw [if_pos c19] at H
               have c19b0 : decide (0 < x10_1) = true := decide_eq_true c19
               clear c19
               obtain ⟨bq20, hbq20⟩ : ∃ b_ : Bool, b_ = (rdOf false l1 (ji9)) := ⟨_, rfl⟩
               replace H : (if bq20 = true then (if 0 ≤ (wrap64 ((ji9) - 1)) then (if (wrap64 ((ji9) - 1)) < (l1.length : Int) then (if (rdOf false l1 (wrap64 ((ji9) - 1)) = true) then (sapperlaw12_pieceLess.l0 kj4 l0 l1 a2 a3 (wrap64 (x10_1 + 1))) else (some (false, true))) else (none)) else (none)) else (sapperlaw12_pieceLess.l0 kj4 l0 l1 a2 a3 (wrap64 (x10_1 + 1)))) = some (r1, r2) := by rw [← hbq20] at H; exact H
               have Nbq20 := Aside0.mk hbq20
               clear hbq20
               by_cases c21 : bq20 = true
               ·subst c21
                have H1 : (if 0 ≤ (wrap64 ((ji9) - 1)) then (if (wrap64 ((ji9) - 1)) < (l1.length : Int) then (if (rdOf false l1 (wrap64 ((ji9) - 1)) = true) then (sapperlaw12_pieceLess.l0 kj4 l0 l1 a2 a3 (wrap64 (x10_1 + 1))) else (some (false, true))) else (none)) else (none)) = some (r1, r2) := by rw [if_pos rfl] at H; exact H
                clear H
                have H := H1
                clear H1
                obtain ⟨ji22, hji22⟩ : ∃ j_ : Int, (wrap64 ((ji9) - 1)) = j_ := ⟨_, rfl⟩
                replace H : (if 0 ≤ (ji22) then (if (ji22) < (l1.length : Int) then (if (rdOf false l1 (ji22) = true) then (sapperlaw12_pieceLess.l0 kj4 l0 l1 a2 a3 (wrap64 (x10_1 + 1))) else (some (false, true))) else (none)) else (none)) = some (r1, r2) := by first | (rw [hji22] at H; exact H) | (simp only [hji22] at H ⊢; exact H)
                have hji22w : (IntKind.i64.wrap ((ji9) - 1)) = ji22 := (i64_w _).trans hji22
                by_cases c23 : 0 ≤ (ji22)
                ·rw [if_pos c23] at H
                 have c23b0 : decide (0 ≤ (ji22)) = true := decide_eq_true c23
                 clear c23
                 by_cases c24 : (ji22) < (l1.length : Int)
                 ·rw [if_pos c24] at H
                  have c24b0 : decide ((ji22) < (l1.length : Int)) = true := decide_eq_true c24
                  clear c24
                  obtain ⟨bq25, hbq25⟩ : ∃ b_ : Bool, b_ = (rdOf false l1 (ji22)) := ⟨_, rfl⟩
                  replace H : (if (bq25 = true) then (sapperlaw12_pieceLess.l0 kj4 l0 l1 a2 a3 (wrap64 (x10_1 + 1))) else (some (false, true))) = some (r1, r2) := by rw [← hbq25] at H; exact H
                  have Nbq25 := Aside0.mk hbq25
                  clear hbq25
                  by_cases c26 : (bq25 = true)
                  ·subst c26
                   have H1 : (sapperlaw12_pieceLess.l0 kj4 l0 l1 a2 a3 (wrap64 (x10_1 + 1))) = some (r1, r2) := by rw [if_pos rfl] at H; exact H
                   clear H
                   have H := H1
                   clear H1
                   have H' := Aside0.mk H
                   clear H
                   have p846 : 0 ≤ ((ji9) : Int) := of_decide_eq_true (by first | (with_reducible assumption) | assumption)
                   have q846 : (ji9) < (l0.length : Int) := of_decide_eq_true (by first | (with_reducible assumption) | assumption)
                   obtain ⟨ad846, e846, hx846_0⟩ := Kd.at_int HR0.out (ji9) p846 q846
                   cases e846
                   replace p846 := eq_true p846
                   replace q846 := eq_true q846
                   have p847 : 0 ≤ ((ji12) : Int) := of_decide_eq_true (by first | (with_reducible assumption) | assumption)
                   have q847 : (ji12) < (l0.length : Int) := of_decide_eq_true (by first | (with_reducible assumption) | assumption)
                   obtain ⟨ad847, e847, hx847_0⟩ := Kd.at_int HR0.out (ji12) p847 q847
                   obtain rfl : ad846 = ad847 := (by injection e847)
                   replace p847 := eq_true p847
                   replace q847 := eq_true q847
                   have p850 : 0 ≤ ((ji9) : Int) := of_decide_eq_true (by first | (with_reducible assumption) | assumption)
                   have q850 : (ji9) < (l1.length : Int) := of_decide_eq_true (by first | (with_reducible assumption) | assumption)
                   obtain ⟨ad850, e850, hx850_0⟩ := Kd.at_bool HR1.out (ji9) p850 q850
                   (try rw [← Nbq20.out] at hx850_0)
                   (try rw [← Nbq25.out] at hx850_0)
                   cases e850
                   replace p850 := eq_true p850
                   replace q850 := eq_true q850
                   have p851 : 0 ≤ ((ji12) : Int) := of_decide_eq_true (by first | (with_reducible assumption) | assumption)
                   have q851 : (ji12) < (l1.length : Int) := of_decide_eq_true (by first | (with_reducible assumption) | assumption)
                   obtain ⟨ad851, e851, hx851_0⟩ := Kd.at_bool HR1.out (ji12) p851 q851
                   (try rw [← Nbq20.out] at hx851_0)
                   (try rw [← Nbq25.out] at hx851_0)
                   obtain rfl : ad850 = ad851 := (by injection e851)
                   replace p851 := eq_true p851
                   replace q851 := eq_true q851
                   have p853 : 0 ≤ ((ji9) : Int) := of_decide_eq_true (by first | (with_reducible assumption) | assumption)
                   have q853 : (ji9) < (l1.length : Int) := of_decide_eq_true (by first | (with_reducible assumption) | assumption)
                   obtain ⟨ad853, e853, hx853_0⟩ := Kd.at_bool HR1.out (ji9) p853 q853
                   (try rw [← Nbq20.out] at hx853_0)
                   (try rw [← Nbq25.out] at hx853_0)
                   obtain rfl : ad850 = ad853 := (by injection e853)
                   replace p853 := eq_true p853
                   replace q853 := eq_true q853
                   have p854 : 0 ≤ ((ji22) : Int) := of_decide_eq_true (by first | (with_reducible assumption) | assumption)
                   have q854 : (ji22) < (l1.length : Int) := of_decide_eq_true (by first | (with_reducible assumption) | assumption)
                   obtain ⟨ad854, e854, hx854_0⟩ := Kd.at_bool HR1.out (ji22) p854 q854
                   (try rw [← Nbq20.out] at hx854_0)
                   (try rw [← Nbq25.out] at hx854_0)
                   obtain rfl : ad850 = ad854 := (by injection e854)
                   replace p854 := eq_true p854
                   replace q854 := eq_true q854
                   (try (have zz0_0 := c18b2; rw [← Nbq20.out] at zz0_0; simp at zz0_0))
                   (try (have zz0_1 := c18b2; rw [← Nbq25.out] at zz0_1; simp at zz0_1))
                   go_wp2
                   repeat (go_quiet (fail); try go_wp2)
                   (try simp only [← hji9, ← hji12, ← hji22])
                   go_roundg kj4
                   case measure => have := HK1.out; have := HJ4.out; omega
                   case rel => exact ⟨(wrap64 (x10_1 + 1)), (by first | rfl | (simp; done) | (simp [*]; done)), (by first | exact H' | (simp only [hji9, hji12, hji22]; exact H')), ⟨by have := HK1.out; have := HJ4.out; omega⟩, by repeat (first | exact Drawn0.refl _ | apply Drawn0.step)⟩
                  ·replace c26 := Bool.eq_false_iff.mpr c26
                   subst c26
                   have H1 : (some (false, true)) = some (r1, r2) := by rw [if_neg (show ¬ (false = true) by decide)] at H; exact H
                   clear H
                   have H := H1
                   clear H1
                   simp only [Option.some.injEq, Prod.mk.injEq] at H
                   obtain ⟨rfl, rfl⟩ := H
                   have p846 : 0 ≤ ((ji9) : Int) := of_decide_eq_true (by first | (with_reducible assumption) | assumption)
                   have q846 : (ji9) < (l0.length : Int) := of_decide_eq_true (by first | (with_reducible assumption) | assumption)
                   obtain ⟨ad846, e846, hx846_0⟩ := Kd.at_int HR0.out (ji9) p846 q846
                   cases e846
                   replace p846 := eq_true p846
                   replace q846 := eq_true q846
                   have p847 : 0 ≤ ((ji12) : Int) := of_decide_eq_true (by first | (with_reducible assumption) | assumption)
                   have q847 : (ji12) < (l0.length : Int) := of_decide_eq_true (by first | (with_reducible assumption) | assumption)
                   obtain ⟨ad847, e847, hx847_0⟩ := Kd.at_int HR0.out (ji12) p847 q847
                   obtain rfl : ad846 = ad847 := (by injection e847)
                   replace p847 := eq_true p847
                   replace q847 := eq_true q847
                   have p850 : 0 ≤ ((ji9) : Int) := of_decide_eq_true (by first | (with_reducible assumption) | assumption)
                   have q850 : (ji9) < (l1.length : Int) := of_decide_eq_true (by first | (with_reducible assumption) | assumption)
                   obtain ⟨ad850, e850, hx850_0⟩ := Kd.at_bool HR1.out (ji9) p850 q850
                   (try rw [← Nbq20.out] at hx850_0)
                   (try rw [← Nbq25.out] at hx850_0)
                   cases e850
                   replace p850 := eq_true p850
                   replace q850 := eq_true q850
                   have p851 : 0 ≤ ((ji12) : Int) := of_decide_eq_true (by first | (with_reducible assumption) | assumption)
                   have q851 : (ji12) < (l1.length : Int) := of_decide_eq_true (by first | (with_reducible assumption) | assumption)
                   obtain ⟨ad851, e851, hx851_0⟩ := Kd.at_bool HR1.out (ji12) p851 q851
                   (try rw [← Nbq20.out] at hx851_0)
                   (try rw [← Nbq25.out] at hx851_0)
                   obtain rfl : ad850 = ad851 := (by injection e851)
                   replace p851 := eq_true p851
                   replace q851 := eq_true q851
                   have p853 : 0 ≤ ((ji9) : Int) := of_decide_eq_true (by first | (with_reducible assumption) | assumption)
                   have q853 : (ji9) < (l1.length : Int) := of_decide_eq_true (by first | (with_reducible assumption) | assumption)
                   obtain ⟨ad853, e853, hx853_0⟩ := Kd.at_bool HR1.out (ji9) p853 q853
                   (try rw [← Nbq20.out] at hx853_0)
                   (try rw [← Nbq25.out] at hx853_0)
                   obtain rfl : ad850 = ad853 := (by injection e853)
                   replace p853 := eq_true p853
                   replace q853 := eq_true q853
                   have p854 : 0 ≤ ((ji22) : Int) := of_decide_eq_true (by first | (with_reducible assumption) | assumption)
                   have q854 : (ji22) < (l1.length : Int) := of_decide_eq_true (by first | (with_reducible assumption) | assumption)
                   obtain ⟨ad854, e854, hx854_0⟩ := Kd.at_bool HR1.out (ji22) p854 q854
                   (try rw [← Nbq20.out] at hx854_0)
                   (try rw [← Nbq25.out] at hx854_0)
                   obtain rfl : ad850 = ad854 := (by injection e854)
                   replace p854 := eq_true p854
                   replace q854 := eq_true q854
                   (try (have zz0_0 := c18b2; rw [← Nbq20.out] at zz0_0; simp at zz0_0))
                   (try (have zz0_1 := c18b2; rw [← Nbq25.out] at zz0_1; simp at zz0_1))
                   go_wp2
                   repeat (go_quiet (fail); try go_wp2)
                   go_ret2
                   exact ⟨by first | rfl | (simp; done) | (simp only [← hji9, ← hji12, ← hji22] <;> (first | rfl | simp)) | (simp [*]; done), by repeat (first | exact Drawn0.refl _ | apply Drawn0.step)⟩
                 ·rw [if_neg c24] at H
                  exact absurd H (by simp)
                ·rw [if_neg c23] at H
                 exact absurd H (by simp)
               ·replace c21 := Bool.eq_false_iff.mpr c21
                subst c21
                have H1 : (sapperlaw12_pieceLess.l0 kj4 l0 l1 a2 a3 (wrap64 (x10_1 + 1))) = some (r1, r2) := by rw [if_neg (show ¬ (false = true) by decide)] at H; exact H
                clear H
                have H := H1
                clear H1
                have H' := Aside0.mk H
                clear H
                have p846 : 0 ≤ ((ji9) : Int) := of_decide_eq_true (by first | (with_reducible assumption) | assumption)
                have q846 : (ji9) < (l0.length : Int) := of_decide_eq_true (by first | (with_reducible assumption) | assumption)
                obtain ⟨ad846, e846, hx846_0⟩ := Kd.at_int HR0.out (ji9) p846 q846
                cases e846
                replace p846 := eq_true p846
                replace q846 := eq_true q846
                have p847 : 0 ≤ ((ji12) : Int) := of_decide_eq_true (by first | (with_reducible assumption) | assumption)
                have q847 : (ji12) < (l0.length : Int) := of_decide_eq_true (by first | (with_reducible assumption) | assumption)
                obtain ⟨ad847, e847, hx847_0⟩ := Kd.at_int HR0.out (ji12) p847 q847
                obtain rfl : ad846 = ad847 := (by injection e847)
                replace p847 := eq_true p847
                replace q847 := eq_true q847
                have p850 : 0 ≤ ((ji9) : Int) := of_decide_eq_true (by first | (with_reducible assumption) | assumption)
                have q850 : (ji9) < (l1.length : Int) := of_decide_eq_true (by first | (with_reducible assumption) | assumption)
                obtain ⟨ad850, e850, hx850_0⟩ := Kd.at_bool HR1.out (ji9) p850 q850
                (try rw [← Nbq20.out] at hx850_0)
                cases e850
                replace p850 := eq_true p850
                replace q850 := eq_true q850
                have p851 : 0 ≤ ((ji12) : Int) := of_decide_eq_true (by first | (with_reducible assumption) | assumption)
                have q851 : (ji12) < (l1.length : Int) := of_decide_eq_true (by first | (with_reducible assumption) | assumption)
                obtain ⟨ad851, e851, hx851_0⟩ := Kd.at_bool HR1.out (ji12) p851 q851
                (try rw [← Nbq20.out] at hx851_0)
                obtain rfl : ad850 = ad851 := (by injection e851)
                replace p851 := eq_true p851
                replace q851 := eq_true q851
                have p853 : 0 ≤ ((ji9) : Int) := of_decide_eq_true (by first | (with_reducible assumption) | assumption)
                have q853 : (ji9) < (l1.length : Int) := of_decide_eq_true (by first | (with_reducible assumption) | assumption)
                obtain ⟨ad853, e853, hx853_0⟩ := Kd.at_bool HR1.out (ji9) p853 q853
                (try rw [← Nbq20.out] at hx853_0)
                obtain rfl : ad850 = ad853 := (by injection e853)
                replace p853 := eq_true p853
                replace q853 := eq_true q853
                (try (have zz0_0 := c18b2; rw [← Nbq20.out] at zz0_0; simp at zz0_0))
                go_wp2
                repeat (go_quiet (fail); try go_wp2)
                (try simp only [← hji9, ← hji12])
                go_roundg kj4
                case measure => have := HK1.out; have := HJ4.out; omega
                case rel => exact ⟨(wrap64 (x10_1 + 1)), (by first | rfl | (simp; done) | (simp [*]; done)), (by first | exact H' | (simp only [hji9, hji12]; exact H')), ⟨by have := HK1.out; have := HJ4.out; omega⟩, by repeat (first | exact Drawn0.refl _ | apply Drawn0.step)⟩
              ·rw [if_neg c19] at H
               have c19b0 : decide (0 < x10_1) = false := decide_eq_false c19
               clear c19
               have H' := Aside0.mk H
               clear H
               have p846 : 0 ≤ ((ji9) : Int) := of_decide_eq_true (by first | (with_reducible assumption) | assumption)
               have q846 : (ji9) < (l0.length : Int) := of_decide_eq_true (by first | (with_reducible assumption) | assumption)
               obtain ⟨ad846, e846, hx846_0⟩ := Kd.at_int HR0.out (ji9) p846 q846
               cases e846
               replace p846 := eq_true p846
               replace q846 := eq_true q846
               have p847 : 0 ≤ ((ji12) : Int) := of_decide_eq_true (by first | (with_reducible assumption) | assumption)
               have q847 : (ji12) < (l0.length : Int) := of_decide_eq_true (by first | (with_reducible assumption) | assumption)
               obtain ⟨ad847, e847, hx847_0⟩ := Kd.at_int HR0.out (ji12) p847 q847
               obtain rfl : ad846 = ad847 := (by injection e847)
               replace p847 := eq_true p847
               replace q847 := eq_true q847
               have p850 : 0 ≤ ((ji9) : Int) := of_decide_eq_true (by first | (with_reducible assumption) | assumption)
               have q850 : (ji9) < (l1.length : Int) := of_decide_eq_true (by first | (with_reducible assumption) | assumption)
               obtain ⟨ad850, e850, hx850_0⟩ := Kd.at_bool HR1.out (ji9) p850 q850
               cases e850
               replace p850 := eq_true p850
               replace q850 := eq_true q850
               have p851 : 0 ≤ ((ji12) : Int) := of_decide_eq_true (by first | (with_reducible assumption) | assumption)
               have q851 : (ji12) < (l1.length : Int) := of_decide_eq_true (by first | (with_reducible assumption) | assumption)
               obtain ⟨ad851, e851, hx851_0⟩ := Kd.at_bool HR1.out (ji12) p851 q851
               obtain rfl : ad850 = ad851 := (by injection e851)
               replace p851 := eq_true p851
               replace q851 := eq_true q851
               go_wp2
               repeat (go_quiet (fail); try go_wp2)
               (try simp only [← hji9, ← hji12])
               go_roundg kj4
               case measure => have := HK1.out; have := HJ4.out; omega
               case rel => exact ⟨(wrap64 (x10_1 + 1)), (by first | rfl | (simp; done) | (simp [*]; done)), (by first | exact H' | (simp only [hji9, hji12]; exact H')), ⟨by have := HK1.out; have := HJ4.out; omega⟩, by repeat (first | exact Drawn0.refl _ | apply Drawn0.step)⟩
            ·rw [if_neg c17] at H
             exact absurd H (by simp)
           ·rw [if_neg c16] at H
            exact absurd H (by simp)
          ·rw [if_neg c15] at H
           have c15b0 : ((rd l0 (ji9)) == (rd l0 (ji12))) = false := beq_eq_false_iff_ne.mpr c15
           have c15b1 : ((rd l0 (ji9)) != (rd l0 (ji12))) = true := bne_iff_ne.mpr c15
           simp only [Option.some.injEq, Prod.mk.injEq] at H
           obtain ⟨rfl, rfl⟩ := H
           have p846 : 0 ≤ ((ji9) : Int) := of_decide_eq_true (by first | (with_reducible assumption) | assumption)
           have q846 : (ji9) < (l0.length : Int) := of_decide_eq_true (by first | (with_reducible assumption) | assumption)
           obtain ⟨ad846, e846, hx846_0⟩ := Kd.at_int HR0.out (ji9) p846 q846
           cases e846
           replace p846 := eq_true p846
           replace q846 := eq_true q846
           have p847 : 0 ≤ ((ji12) : Int) := of_decide_eq_true (by first | (with_reducible assumption) | assumption)
           have q847 : (ji12) < (l0.length : Int) := of_decide_eq_true (by first | (with_reducible assumption) | assumption)
           obtain ⟨ad847, e847, hx847_0⟩ := Kd.at_int HR0.out (ji12) p847 q847
           obtain rfl : ad846 = ad847 := (by injection e847)
           replace p847 := eq_true p847
           replace q847 := eq_true q847
           have p848 : 0 ≤ ((ji9) : Int) := of_decide_eq_true (by first | (with_reducible assumption) | assumption)
           have q848 : (ji9) < (l0.length : Int) := of_decide_eq_true (by first | (with_reducible assumption) | assumption)
           obtain ⟨ad848, e848, hx848_0⟩ := Kd.at_int HR0.out (ji9) p848 q848
           obtain rfl : ad846 = ad848 := (by injection e848)
           replace p848 := eq_true p848
           replace q848 := eq_true q848
           have p849 : 0 ≤ ((ji12) : Int) := of_decide_eq_true (by first | (with_reducible assumption) | assumption)
           have q849 : (ji12) < (l0.length : Int) := of_decide_eq_true (by first | (with_reducible assumption) | assumption)
           obtain ⟨ad849, e849, hx849_0⟩ := Kd.at_int HR0.out (ji12) p849 q849
           obtain rfl : ad846 = ad849 := (by injection e849)
           replace p849 := eq_true p849
           replace q849 := eq_true q849
           go_wp2
           repeat (go_quiet (fail); try go_wp2)
           go_ret2
           exact ⟨by first | rfl | (simp; done) | (simp only [← hji9, ← hji12] <;> (first | rfl | simp)) | (simp [*]; done), by repeat (first | exact Drawn0.refl _ | apply Drawn0.step)⟩
         ·rw [if_neg c14] at H
          exact absurd H (by simp)
        ·rw [if_neg c13] at H
         exact absurd H (by simp)
       ·rw [if_neg c11] at H
        exact absurd H (by simp)
      ·rw [if_neg c10] at H
       exact absurd H (by simp)

end Go.Proofs.Ytgnhangjacdfbaa.X
