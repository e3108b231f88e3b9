-- Printed by wip/xprint.py of this repo (a wrapper of the session's own round the print).
import Derived.Test.YtgnhangjacdfbaaXx0
namespace Go.Proofs.Ytgnhangjacdfbaa.X
open Go.RowKit Go.Proofs.YtgnhangjacdfbaaW.PrintWords Go.Proofs.YtgnhangjacdfbaaW.PrintLast Go.Proofs.YtgnhangjacdfbaaW.PrintMore
attribute [local go_sem] max2_int min2_int max_two min_two max_three min_three max_four min_four   -- for this text's walks alone
set_option linter.unusedVariables false
set_option linter.unusedSimpArgs false

/-! ### sapperref12_Less: function 45 -/
def sapperref12_Less.l0 : Nat → List Int → Int → Int → Option (Bool)
 | 0, _, _, _ => none
 | k + 1, x0, x1, x2 => if x1 < (x0.length : Int) then (if x2 < (x0.length : Int) then (if 0 ≤ x1 then (if 0 ≤ x2 then (if (rd x0 x1) = (rd x0 x2) then (sapperref12_Less.l0 k x0 (wrap64 (x1 + 1)) (wrap64 (x2 + 1))) else (if x1 ≥ (x0.length : Int) then (some (decide (x2 < (x0.length : Int)))) else (if x2 ≥ (x0.length : Int) then (some (decide (x2 < (x0.length : Int)))) else (some (decide ((rd x0 x1) < (rd x0 x2))))))) else (none)) else (none)) else (if x1 ≥ (x0.length : Int) then (some (decide (x2 < (x0.length : Int)))) else (if x2 ≥ (x0.length : Int) then (some (decide (x2 < (x0.length : Int)))) else (if 0 ≤ x1 then (if 0 ≤ x2 then (none) else (none)) else (none))))) else (if x1 ≥ (x0.length : Int) then (some (decide (x2 < (x0.length : Int)))) else (if x2 ≥ (x0.length : Int) then (some (decide (x2 < (x0.length : Int)))) else (if 0 ≤ x1 then (none) else (none))))
def sapperref12_Less.f (k : Nat) (l0 : List Int) (a1 : Int) (a2 : Int) : Option (Bool) := sapperref12_Less.l0 k l0 a1 a2
theorem sapperref12_Less.mono_l : ∀ k, (∀ y0 y1 y2, LeO (sapperref12_Less.l0 k y0 y1 y2) (sapperref12_Less.l0 (k + 1) y0 y1 y2))
 | 0 => fun _ _ _ r h => by simp [sapperref12_Less.l0] at h
 | k + 1 => by
  have ih0 := sapperref12_Less.mono_l k
  ·intro y0 y1 y2
   unfold sapperref12_Less.l0
   repeat' first
   | (with_reducible exact ih0 _ _ _)
   | (with_reducible exact LeO.refl _)
   | (with_reducible exact LeO.none _)
   | (with_reducible refine LeO.ite ?_ ?_)
   | (with_reducible refine LeO.bind ?_ (fun _ => ?_))
   | exact ih0 _ _ _
   | exact LeO.none _
   | refine LeO.ite ?_ ?_
   | refine LeO.bind ?_ (fun _ => ?_)
theorem sapperref12_Less.mono : ∀ a0 a1 a2 k, LeO (sapperref12_Less.f k a0 a1 a2) (sapperref12_Less.f (k + 1) a0 a1 a2) := by
 intro a0 a1 a2 k
 have ih0 := sapperref12_Less.mono_l k
 unfold sapperref12_Less.f
 repeat' first
   | (with_reducible exact ih0 _ _ _)
   | (with_reducible exact LeO.refl _)
   | (with_reducible exact LeO.none _)
   | (with_reducible refine LeO.ite ?_ ?_)
   | (with_reducible refine LeO.bind ?_ (fun _ => ?_))
   | exact ih0 _ _ _
   | exact LeO.none _
   | refine LeO.ite ?_ ?_
   | refine LeO.bind ?_ (fun _ => ?_)
set_option maxHeartbeats 8000000 in
set_option maxRecDepth 100000 in
theorem sapperref12_Less.calls (k : Nat) (A0 : Option Addr) (c0 : Nat) (l0 : List Int) (a1 : Int) (a2 : Int) (r : Bool) (w : World) (hr0 : Kd.C (Kd.int .i64) w A0 l0.length l0) (hc0 : l0.length ≤ c0) (h : sapperref12_Less.f k l0 a1 a2 = some r) :
  Calls Try.prog 45 #[.slice A0 l0.length c0, .int .i64 a1, .int .i64 a2] w fun e w' => e = .returned (.bool r) ∧ Drawn0 w w' := by
 have HR0 := Aside0.mk hr0
 have HC0 := Aside0.mk hc0
 clear hr0 hc0
 have H : (sapperref12_Less.l0 k l0 a1 a2) = some r := h
 clear h
 have H' := Aside0.mk H
 clear H
 go_enter Try.func45, Try.ntmps45
 go_wp2
 repeat (go_quiet (fail); try go_wp2)
 go_loopg [1, 2] k (fun kq v1 v2 w' => ∃ (x1_1 : Int) (x2_1 : Int), v1 = .int .i64 x1_1 ∧ v2 = .int .i64 x2_1 ∧ Aside0 (sapperref12_Less.l0 kq l0 x1_1 x2_1 = some r) ∧ Aside0 (kq ≤ k) ∧ Drawn0 w w')
 case atStart => exact ⟨(a1), (a2), (by first | rfl | (simp; done) | (simp [*]; done)), (by first | rfl | (simp; done) | (simp [*]; done)), H', ⟨Nat.le_refl _⟩, by repeat (first | exact Drawn0.refl _ | apply Drawn0.step)⟩
 case round =>
  clear H'
  try clear p2
  obtain ⟨x1_1, x2_1, rfl, rfl, HA, HK1, ⟨m1, rfl⟩⟩ := hrel
  cases gk with
  | zero => exact absurd HA.out (by simp [sapperref12_Less.l0])
  | succ k1 =>
   have H := HA.out
   clear HA
   simp only [sapperref12_Less.l0] at H
   by_cases c4 : x1_1 < (l0.length : Int)
   ·rw [if_pos c4] at H
    have c4b0 : decide (x1_1 < (l0.length : Int)) = true := decide_eq_true c4
    clear c4
    by_cases c5 : x2_1 < (l0.length : Int)
    ·rw [if_pos c5] at H
     have c5b0 : decide (x2_1 < (l0.length : Int)) = true := decide_eq_true c5
     clear c5
     by_cases c6 : 0 ≤ x1_1
     ·rw [if_pos c6] at H
      have c6b0 : decide (0 ≤ x1_1) = true := decide_eq_true c6
      clear c6
      by_cases c7 : 0 ≤ x2_1
      ·rw [if_pos c7] at H
       have c7b0 : decide (0 ≤ x2_1) = true := decide_eq_true c7
       clear c7
       by_cases c8 : (rd l0 x1_1) = (rd l0 x2_1)
       ·rw [if_pos c8] at H
        have c8b0 : ((rd l0 x1_1) == (rd l0 x2_1)) = true := beq_iff_eq.mpr c8
        have c8b1 : ((rd l0 x1_1) != (rd l0 x2_1)) = false := bne_eq_false_iff_eq.mpr c8
        clear c8
        have H' := Aside0.mk H
        clear H
        have p357 : 0 ≤ (x1_1 : Int) := of_decide_eq_true (by first | (with_reducible assumption) | assumption)
        have q357 : x1_1 < (l0.length : Int) := of_decide_eq_true (by first | (with_reducible assumption) | assumption)
        obtain ⟨ad357, e357, hx357_0⟩ := Kd.at_int HR0.out x1_1 p357 q357
        cases e357
        replace p357 := eq_true p357
        replace q357 := eq_true q357
        have p358 : 0 ≤ (x2_1 : Int) := of_decide_eq_true (by first | (with_reducible assumption) | assumption)
        have q358 : x2_1 < (l0.length : Int) := of_decide_eq_true (by first | (with_reducible assumption) | assumption)
        obtain ⟨ad358, e358, hx358_0⟩ := Kd.at_int HR0.out x2_1 p358 q358
        obtain rfl : ad357 = ad358 := (by injection e358)
        replace p358 := eq_true p358
        replace q358 := eq_true q358
        go_wp2
        repeat (go_quiet (fail); try go_wp2)
        go_roundg k1
        case measure => have := HK1.out; omega
        case rel => exact ⟨(wrap64 (x1_1 + 1)), (wrap64 (x2_1 + 1)), (by first | rfl | (simp; done) | (simp [*]; done)), (by first | rfl | (simp; done) | (simp [*]; done)), H', ⟨by have := HK1.out; omega⟩, by repeat (first | exact Drawn0.refl _ | apply Drawn0.step)⟩
       ·rw [if_neg c8] at H
        have c8b0 : ((rd l0 x1_1) == (rd l0 x2_1)) = false := beq_eq_false_iff_ne.mpr c8
        have c8b1 : ((rd l0 x1_1) != (rd l0 x2_1)) = true := bne_iff_ne.mpr c8
        by_cases c9 : x1_1 ≥ (l0.length : Int)
        ·rw [if_pos c9] at H
         have c9b0 : decide ((l0.length : Int) ≤ x1_1) = true := decide_eq_true c9
         clear c9
         obtain rfl := Option.some.inj H
         have p357 : 0 ≤ (x1_1 : Int) := of_decide_eq_true (by first | (with_reducible assumption) | assumption)
         have q357 : x1_1 < (l0.length : Int) := of_decide_eq_true (by first | (with_reducible assumption) | assumption)
         obtain ⟨ad357, e357, hx357_0⟩ := Kd.at_int HR0.out x1_1 p357 q357
         cases e357
         replace p357 := eq_true p357
         replace q357 := eq_true q357
         have p358 : 0 ≤ (x2_1 : Int) := of_decide_eq_true (by first | (with_reducible assumption) | assumption)
         have q358 : x2_1 < (l0.length : Int) := of_decide_eq_true (by first | (with_reducible assumption) | assumption)
         obtain ⟨ad358, e358, hx358_0⟩ := Kd.at_int HR0.out x2_1 p358 q358
         obtain rfl : ad357 = ad358 := (by injection e358)
         replace p358 := eq_true p358
         replace q358 := eq_true q358
         go_wp2
         repeat (go_quiet (fail); try go_wp2)
         go_ret
         exact ⟨by first | rfl | (simp; done) | (simp [*]; done), by repeat (first | exact Drawn0.refl _ | apply Drawn0.step)⟩
        ·rw [if_neg c9] at H
         have c9b0 : decide ((l0.length : Int) ≤ x1_1) = false := decide_eq_false c9
         clear c9
         by_cases c10 : x2_1 ≥ (l0.length : Int)
         ·rw [if_pos c10] at H
          have c10b0 : decide ((l0.length : Int) ≤ x2_1) = true := decide_eq_true c10
          clear c10
          obtain rfl := Option.some.inj H
          have p357 : 0 ≤ (x1_1 : Int) := of_decide_eq_true (by first | (with_reducible assumption) | assumption)
          have q357 : x1_1 < (l0.length : Int) := of_decide_eq_true (by first | (with_reducible assumption) | assumption)
          obtain ⟨ad357, e357, hx357_0⟩ := Kd.at_int HR0.out x1_1 p357 q357
          cases e357
          replace p357 := eq_true p357
          replace q357 := eq_true q357
          have p358 : 0 ≤ (x2_1 : Int) := of_decide_eq_true (by first | (with_reducible assumption) | assumption)
          have q358 : x2_1 < (l0.length : Int) := of_decide_eq_true (by first | (with_reducible assumption) | assumption)
          obtain ⟨ad358, e358, hx358_0⟩ := Kd.at_int HR0.out x2_1 p358 q358
          obtain rfl : ad357 = ad358 := (by injection e358)
          replace p358 := eq_true p358
          replace q358 := eq_true q358
          go_wp2
          repeat (go_quiet (fail); try go_wp2)
          go_ret
          exact ⟨by first | rfl | (simp; done) | (simp [*]; done), by repeat (first | exact Drawn0.refl _ | apply Drawn0.step)⟩
         ·rw [if_neg c10] at H
          have c10b0 : decide ((l0.length : Int) ≤ x2_1) = false := decide_eq_false c10
          clear c10
          obtain rfl := Option.some.inj H
          have p357 : 0 ≤ (x1_1 : Int) := of_decide_eq_true (by first | (with_reducible assumption) | assumption)
          have q357 : x1_1 < (l0.length : Int) := of_decide_eq_true (by first | (with_reducible assumption) | assumption)
          obtain ⟨ad357, e357, hx357_0⟩ := Kd.at_int HR0.out x1_1 p357 q357
          cases e357
          replace p357 := eq_true p357
          replace q357 := eq_true q357
          have p358 : 0 ≤ (x2_1 : Int) := of_decide_eq_true (by first | (with_reducible assumption) | assumption)
          have q358 : x2_1 < (l0.length : Int) := of_decide_eq_true (by first | (with_reducible assumption) | assumption)
          obtain ⟨ad358, e358, hx358_0⟩ := Kd.at_int HR0.out x2_1 p358 q358
          obtain rfl : ad357 = ad358 := (by injection e358)
          replace p358 := eq_true p358
          replace q358 := eq_true q358
          have p359 : 0 ≤ (x1_1 : Int) := of_decide_eq_true (by first | (with_reducible assumption) | assumption)
          have q359 : x1_1 < (l0.length : Int) := of_decide_eq_true (by first | (with_reducible assumption) | assumption)
          obtain ⟨ad359, e359, hx359_0⟩ := Kd.at_int HR0.out x1_1 p359 q359
          obtain rfl : ad357 = ad359 := (by injection e359)
          replace p359 := eq_true p359
          replace q359 := eq_true q359
          have p360 : 0 ≤ (x2_1 : Int) := of_decide_eq_true (by first | (with_reducible assumption) | assumption)
          have q360 : x2_1 < (l0.length : Int) := of_decide_eq_true (by first | (with_reducible assumption) | assumption)
          obtain ⟨ad360, e360, hx360_0⟩ := Kd.at_int HR0.out x2_1 p360 q360
          obtain rfl : ad357 = ad360 := (by injection e360)
          replace p360 := eq_true p360
          replace q360 := eq_true q360
          go_wp2
          repeat (go_quiet (fail); try go_wp2)
          go_ret
          exact ⟨by first | rfl | (simp; done) | (simp [*]; done), by repeat (first | exact Drawn0.refl _ | apply Drawn0.step)⟩
      ·rw [if_neg c7] at H
       exact absurd H (by simp)
     ·rw [if_neg c6] at H
      exact absurd H (by simp)
    ·rw [if_neg c5] at H
     have c5b0 : decide (x2_1 < (l0.length : Int)) = false := decide_eq_false c5
     clear c5
     by_cases c11 : x1_1 ≥ (l0.length : Int)
     ·rw [if_pos c11] at H
      have c11b0 : decide ((l0.length : Int) ≤ x1_1) = true := decide_eq_true c11
      clear c11
      obtain rfl := Option.some.inj H
      go_wp2
      repeat (go_quiet (fail); try go_wp2)
      go_ret
      exact ⟨by first | rfl | (simp; done) | (simp [*]; done), by repeat (first | exact Drawn0.refl _ | apply Drawn0.step)⟩
     ·rw [if_neg c11] at H
      have c11b0 : decide ((l0.length : Int) ≤ x1_1) = false := decide_eq_false c11
      clear c11
      by_cases c12 : x2_1 ≥ (l0.length : Int)
      ·rw [if_pos c12] at H
       have c12b0 : decide ((l0.length : Int) ≤ x2_1) = true := decide_eq_true c12
       clear c12
       obtain rfl := Option.some.inj H
       go_wp2
       repeat (go_quiet (fail); try go_wp2)
       go_ret
       exact ⟨by first | rfl | (simp; done) | (simp [*]; done), by repeat (first | exact Drawn0.refl _ | apply Drawn0.step)⟩
      ·rw [if_neg c12] at H
       have c12b0 : decide ((l0.length : Int) ≤ x2_1) = false := decide_eq_false c12
       clear c12
       by_cases c13 : 0 ≤ x1_1
       ·rw [if_pos c13] at H
        have c13b0 : decide (0 ≤ x1_1) = true := decide_eq_true c13
        clear c13
        by_cases c14 : 0 ≤ x2_1
        ·rw [if_pos c14] at H
         exact absurd H (by simp)
        ·rw [if_neg c14] at H
         exact absurd H (by simp)
       ·rw [if_neg c13] at H
        exact absurd H (by simp)
   ·rw [if_neg c4] at H
    have c4b0 : decide (x1_1 < (l0.length : Int)) = false := decide_eq_false c4
    clear c4
    by_cases c15 : x1_1 ≥ (l0.length : Int)
    ·rw [if_pos c15] at H
     have c15b0 : decide ((l0.length : Int) ≤ x1_1) = true := decide_eq_true c15
     clear c15
     obtain rfl := Option.some.inj H
     go_wp2
     repeat (go_quiet (fail); try go_wp2)
     go_ret
     exact ⟨by first | rfl | (simp; done) | (simp [*]; done), by repeat (first | exact Drawn0.refl _ | apply Drawn0.step)⟩
    ·rw [if_neg c15] at H
     have c15b0 : decide ((l0.length : Int) ≤ x1_1) = false := decide_eq_false c15
     clear c15
     by_cases c16 : x2_1 ≥ (l0.length : Int)
     ·rw [if_pos c16] at H
      have c16b0 : decide ((l0.length : Int) ≤ x2_1) = true := decide_eq_true c16
      clear c16
      obtain rfl := Option.some.inj H
      go_wp2
      repeat (go_quiet (fail); try go_wp2)
      go_ret
      exact ⟨by first | rfl | (simp; done) | (simp [*]; done), by repeat (first | exact Drawn0.refl _ | apply Drawn0.step)⟩
     ·rw [if_neg c16] at H
      have c16b0 : decide ((l0.length : Int) ≤ x2_1) = false := decide_eq_false c16
      clear c16
      by_cases c17 : 0 ≤ x1_1
      ·rw [if_pos c17] at H
       exact absurd H (by simp)
      ·rw [if_neg c17] at H
       exact absurd H (by simp)

end Go.Proofs.Ytgnhangjacdfbaa.X
