-- Printed by wip/xprint.py of this repo (a wrapper of the session's own round the print).
import Derived.Test.YthcnnfahlhklgaaXx0
import Derived.Test.YthcnnfahlhklgaaXBA
import Derived.Test.YthcnnfahlhklgaaXx14
namespace Go.Proofs.Ythcnnfahlhklgaa.X
open Go.RowKit Go.Proofs.YthcnnfahlhklgaaW.PrintWords Go.Proofs.YthcnnfahlhklgaaW.PrintLast Go.Proofs.YthcnnfahlhklgaaW.PrintMore
attribute [local go_sem] ptrOf_eql ptrOf_neq ptrOf_eqg ptrOf_neg str_leq str_geq str_gtr max2_int min2_int max_two min_two max_three min_three max_four min_four   -- for this text's walks alone
set_option linter.unusedVariables false
set_option linter.unusedSimpArgs false

/-! ### suffix_Index_place: function 52 -/
def suffix_Index_place.l0 : Nat → List (S82) → List Int → Int → Int → Option (Int)
 | 0, _, _, _, _ => none
 | k + 1, x0, x10, x11, x12 => if x12 < x11 then (if 0 ≤ x12 then (if x12 < (x10.length : Int) then (if (rd x10 x12) < 0 then (some 132) else (if 0 < (x0.length : Int) then (if (rd x10 x12) ≥ (((rd_T82 x0 0).f1).length : Int) then (some 132) else (suffix_Index_place.l0 k x0 x10 x11 (wrap64 (x12 + 1)))) else (none))) else (none)) else (none)) else (some 0)
def suffix_Index_place.f (k : Nat) (l0 : List (S82)) (l1 : List Int) : Option (Int) := (suffix_Index_is.f l0).bind fun t328 => (if t328 = true then (suffix_Index_place.l0 k l0 l1 (l1.length : Int) 0) else (some 2))
theorem suffix_Index_place.mono_l : ∀ k, (∀ y0 y1 y2 y3, LeO (suffix_Index_place.l0 k y0 y1 y2 y3) (suffix_Index_place.l0 (k + 1) y0 y1 y2 y3))
 | 0 => fun _ _ _ _ r h => by simp [suffix_Index_place.l0] at h
 | k + 1 => by
  have ih0 := suffix_Index_place.mono_l k
  ·intro y0 y1 y2 y3
   unfold suffix_Index_place.l0
   repeat' first
   | (with_reducible exact ih0 _ _ _ _)
   | (with_reducible exact LeO.refl _)
   | (with_reducible exact LeO.none _)
   | (with_reducible refine LeO.ite ?_ ?_)
   | (with_reducible refine LeO.bind ?_ (fun _ => ?_))
   | exact ih0 _ _ _ _
   | exact LeO.none _
   | refine LeO.ite ?_ ?_
   | refine LeO.bind ?_ (fun _ => ?_)
theorem suffix_Index_place.mono : ∀ a0 a1 k, LeO (suffix_Index_place.f k a0 a1) (suffix_Index_place.f (k + 1) a0 a1) := by
 intro a0 a1 k
 have ih0 := suffix_Index_place.mono_l k
 unfold suffix_Index_place.f
 repeat' first
   | (with_reducible exact ih0 _ _ _ _)
   | (with_reducible exact LeO.refl _)
   | (with_reducible exact LeO.none _)
   | (with_reducible refine LeO.ite ?_ ?_)
   | (with_reducible refine LeO.bind ?_ (fun _ => ?_))
   | exact ih0 _ _ _ _
   | exact LeO.none _
   | refine LeO.ite ?_ ?_
   | refine LeO.bind ?_ (fun _ => ?_)
set_option maxHeartbeats 8000000 in
set_option maxRecDepth 100000 in
theorem suffix_Index_place.calls (k : Nat) (A0 : Option Addr) (c0 : Nat) (l0 : List (S82)) (A1 : Option Addr) (c1 : Nat) (l1 : List Int) (r : Int) (w : World) (hr0 : Kd.C k82 w A0 l0.length l0) (hc0 : l0.length ≤ c0) (hr1 : Kd.C (Kd.int .i64) w A1 l1.length l1) (hc1 : l1.length ≤ c1) (h : suffix_Index_place.f k l0 l1 = some r) :
  Calls Try.prog 52 #[ptrOf (.slice A0 l0.length c0), .slice A1 l1.length c1] w fun e w' => e = .returned (.int .i64 r) ∧ Drawn0 w w' := by
 have HR0 := Aside0.mk hr0
 have HC0 := Aside0.mk hc0
 clear hr0 hc0
 have HR1 := Aside0.mk hr1
 have HC1 := Aside0.mk hc1
 clear hr1 hc1
 have H : ((suffix_Index_is.f l0).bind fun t328 => (if t328 = true then (suffix_Index_place.l0 k l0 l1 (l1.length : Int) 0) else (some 2))) = some r := h
 clear h
 replace H := Option.bind_eq_some_iff.mp H
 obtain ⟨t328, A30, H⟩ := H
 replace H : (if t328 = true then (suffix_Index_place.l0 k l0 l1 (l1.length : Int) 0) else (some 2)) = some r := H
 have A3 := Aside0.mk A30
 clear A30
 by_cases c4 : t328 = true
 ·subst c4
  have H1 : (suffix_Index_place.l0 k l0 l1 (l1.length : Int) 0) = some r := by rw [if_pos rfl] at H; exact H
  clear H
  have H := H1
  clear H1
  have H' := Aside0.mk H
  clear H
  go_enter Try.func52, Try.ntmps52
  go_wp2_with (first | (refine gate_callee (f := 54) rfl ?_; refine goesL_ (some 8) rfl rfl Try.func54 (by kernel_rfl) rfl #[ptrOf (.slice A0 l0.length c0)] rfl (by (try simp only [List.map_toArray, List.map_cons, List.map_nil]); first | done | rfl | (simp only [*]; done) | (simp only [*]; rfl) | (simp only [List.length_drop, List.length_take]; rfl)) ?_; (with_reducible refine (suffix_Index_is.calls _ _ l0 true _ ?side1 ?side2 A3.out).mono ?_); (case side1 => exact HR0.out); (case side2 => exact HC0.out); rintro e w' ⟨rfl, ⟨nd, rfl⟩⟩; refine ⟨_, rfl, ?_⟩))
  go_loopg [12] k (fun kq v12 w' => ∃ (x12_1 : Int), v12 = .int .i64 x12_1 ∧ Aside0 (suffix_Index_place.l0 kq l0 l1 (l1.length : Int) x12_1 = some r) ∧ Aside0 (kq ≤ k) ∧ Drawn0 w w')
  case atStart => exact ⟨(0), (rfl), H', ⟨Nat.le_refl _⟩, by repeat (first | exact Drawn0.refl _ | apply Drawn0.step)⟩
  case round =>
   clear H'
   try clear c1
   try clear p2
   try clear c4
   obtain ⟨x12_1, rfl, HA, HK1, ⟨m1, rfl⟩⟩ := hrel
   cases gk with
   | zero => exact absurd HA.out (by simp [suffix_Index_place.l0])
   | succ k1 =>
    have H := HA.out
    clear HA
    simp only [suffix_Index_place.l0] at H
    by_cases c5 : x12_1 < (l1.length : Int)
    ·rw [if_pos c5] at H
     have c5b0 : decide (x12_1 < (l1.length : Int)) = true := decide_eq_true c5
     clear c5
     by_cases c6 : 0 ≤ x12_1
     ·rw [if_pos c6] at H
      have c6b0 : decide (0 ≤ x12_1) = true := decide_eq_true c6
      clear c6
      by_cases c7 : x12_1 < (l1.length : Int)
      ·rw [if_pos c7] at H
       have c7b0 : decide (x12_1 < (l1.length : Int)) = true := decide_eq_true c7
       clear c7
       by_cases c8 : (rd l1 x12_1) < 0
       ·rw [if_pos c8] at H
        have c8b0 : decide ((rd l1 x12_1) < 0) = true := decide_eq_true c8
        clear c8
        obtain rfl := Option.some.inj H
        have p329 : 0 ≤ (x12_1 : Int) := Qt
        have q329 : x12_1 < (l1.length : Int) := Qt
        obtain ⟨ad329, e329, hx329_0⟩ := Kd.at_int HR1.out x12_1 p329 q329
        cases e329
        replace p329 := eq_true p329
        replace q329 := eq_true q329
        go_wp2
        go_ret
        exact ⟨rfl, by repeat (first | exact Drawn0.refl _ | apply Drawn0.step)⟩
       ·rw [if_neg c8] at H
        have c8b0 : decide ((rd l1 x12_1) < 0) = false := decide_eq_false c8
        clear c8
        by_cases c9 : 0 < (l0.length : Int)
        ·rw [if_pos c9] at H
         have c9b0 : decide (0 < (l0.length : Int)) = true := decide_eq_true c9
         have c9b1 : decide (0 < l0.length) = true := decide_eq_true (by omega)
         clear c9
         by_cases c10 : (rd l1 x12_1) ≥ (((rd_T82 l0 0).f1).length : Int)
         ·rw [if_pos c10] at H
          have c10b0 : decide ((((rd_T82 l0 0).f1).length : Int) ≤ (rd l1 x12_1)) = true := decide_eq_true c10
          clear c10
          obtain rfl := Option.some.inj H
          have p329 : 0 ≤ (x12_1 : Int) := Qt
          have q329 : x12_1 < (l1.length : Int) := Qt
          obtain ⟨ad329, e329, hx329_0⟩ := Kd.at_int HR1.out x12_1 p329 q329
          cases e329
          replace p329 := eq_true p329
          replace q329 := eq_true q329
          have p330 : 0 ≤ (0 : Int) := (by omega)
          have q330 : 0 < (l0.length : Int) := Qt
          obtain ⟨ad330, A330_1, c330_1, A330_2, c330_2, A330_3, c330_3, A330_4, c330_4, e330, hx330_0, hx330_1, hx330_2, hx330_3, hx330_4, hl330_1, hi330_1, hl330_2, hi330_2, hl330_3, hi330_3, hl330_4, hi330_4⟩ := at_T82 HR0.out 0 p330 q330
          cases e330
          have qi330 : (0 < l0.length) = True := eq_true (by omega)
          (try rw [show ((0 : Int)).toNat = 0 from rfl] at hx330_0)
          (try rw [show 0 * 5 = 0 from rfl] at hx330_0)
          (try rw [Addr.add_zero'] at hx330_0)
          (try rw [show ((0 : Int)).toNat = 0 from rfl] at hx330_1)
          (try rw [show 0 * 5 = 0 from rfl] at hx330_1)
          (try rw [Addr.add_zero'] at hx330_1)
          (try rw [show ((0 : Int)).toNat = 0 from rfl] at hx330_2)
          (try rw [show 0 * 5 = 0 from rfl] at hx330_2)
          (try rw [Addr.add_zero'] at hx330_2)
          (try rw [show ((0 : Int)).toNat = 0 from rfl] at hx330_3)
          (try rw [show 0 * 5 = 0 from rfl] at hx330_3)
          (try rw [Addr.add_zero'] at hx330_3)
          (try rw [show ((0 : Int)).toNat = 0 from rfl] at hx330_4)
          (try rw [show 0 * 5 = 0 from rfl] at hx330_4)
          (try rw [Addr.add_zero'] at hx330_4)
          have HR330_1 := Aside0.mk hi330_1
          have HC330_1 := Aside0.mk hl330_1
          clear hi330_1 hl330_1
          have HR330_2 := Aside0.mk hi330_2
          have HC330_2 := Aside0.mk hl330_2
          clear hi330_2 hl330_2
          have HR330_3 := Aside0.mk hi330_3
          have HC330_3 := Aside0.mk hl330_3
          clear hi330_3 hl330_3
          have HR330_4 := Aside0.mk hi330_4
          have HC330_4 := Aside0.mk hl330_4
          clear hi330_4 hl330_4
          replace p330 := eq_true p330
          replace q330 := eq_true q330
          have hpt330 : ptrOf (.slice (some ad330) l0.length c0) = .pointer (some ad330) := ptrOf_pos _ _ _ (Qt)
          go_wp2
          go_ret
          exact ⟨rfl, by repeat (first | exact Drawn0.refl _ | apply Drawn0.step)⟩
         ·rw [if_neg c10] at H
          have c10b0 : decide ((((rd_T82 l0 0).f1).length : Int) ≤ (rd l1 x12_1)) = false := decide_eq_false c10
          clear c10
          have H' := Aside0.mk H
          clear H
          have p329 : 0 ≤ (x12_1 : Int) := Qt
          have q329 : x12_1 < (l1.length : Int) := Qt
          obtain ⟨ad329, e329, hx329_0⟩ := Kd.at_int HR1.out x12_1 p329 q329
          cases e329
          replace p329 := eq_true p329
          replace q329 := eq_true q329
          have p330 : 0 ≤ (0 : Int) := (by omega)
          have q330 : 0 < (l0.length : Int) := Qt
          obtain ⟨ad330, A330_1, c330_1, A330_2, c330_2, A330_3, c330_3, A330_4, c330_4, e330, hx330_0, hx330_1, hx330_2, hx330_3, hx330_4, hl330_1, hi330_1, hl330_2, hi330_2, hl330_3, hi330_3, hl330_4, hi330_4⟩ := at_T82 HR0.out 0 p330 q330
          cases e330
          have qi330 : (0 < l0.length) = True := eq_true (by omega)
          (try rw [show ((0 : Int)).toNat = 0 from rfl] at hx330_0)
          (try rw [show 0 * 5 = 0 from rfl] at hx330_0)
          (try rw [Addr.add_zero'] at hx330_0)
          (try rw [show ((0 : Int)).toNat = 0 from rfl] at hx330_1)
          (try rw [show 0 * 5 = 0 from rfl] at hx330_1)
          (try rw [Addr.add_zero'] at hx330_1)
          (try rw [show ((0 : Int)).toNat = 0 from rfl] at hx330_2)
          (try rw [show 0 * 5 = 0 from rfl] at hx330_2)
          (try rw [Addr.add_zero'] at hx330_2)
          (try rw [show ((0 : Int)).toNat = 0 from rfl] at hx330_3)
          (try rw [show 0 * 5 = 0 from rfl] at hx330_3)
          (try rw [Addr.add_zero'] at hx330_3)
          (try rw [show ((0 : Int)).toNat = 0 from rfl] at hx330_4)
          (try rw [show 0 * 5 = 0 from rfl] at hx330_4)
          (try rw [Addr.add_zero'] at hx330_4)
          have HR330_1 := Aside0.mk hi330_1
          have HC330_1 := Aside0.mk hl330_1
          clear hi330_1 hl330_1
          have HR330_2 := Aside0.mk hi330_2
          have HC330_2 := Aside0.mk hl330_2
          clear hi330_2 hl330_2
          have HR330_3 := Aside0.mk hi330_3
          have HC330_3 := Aside0.mk hl330_3
          clear hi330_3 hl330_3
          have HR330_4 := Aside0.mk hi330_4
          have HC330_4 := Aside0.mk hl330_4
          clear hi330_4 hl330_4
          replace p330 := eq_true p330
          replace q330 := eq_true q330
          have hpt330 : ptrOf (.slice (some ad330) l0.length c0) = .pointer (some ad330) := ptrOf_pos _ _ _ (Qt)
          go_wp2
          (try (have Nhpt330 := Aside0.mk hpt330; clear hpt330; rw [← Nhpt330.out]))
          go_roundg k1
          case measure => have := HK1.out; omega
          case rel => exact ⟨(wrap64 (x12_1 + 1)), (rfl), H', ⟨by have := HK1.out; omega⟩, by repeat (first | exact Drawn0.refl _ | apply Drawn0.step)⟩
        ·rw [if_neg c9] at H
         exact absurd H (by simp)
      ·rw [if_neg c7] at H
       exact absurd H (by simp)
     ·rw [if_neg c6] at H
      exact absurd H (by simp)
    ·rw [if_neg c5] at H
     have c5b0 : decide (x12_1 < (l1.length : Int)) = false := decide_eq_false c5
     clear c5
     obtain rfl := Option.some.inj H
     go_wp2
     go_ret
     exact ⟨rfl, by repeat (first | exact Drawn0.refl _ | apply Drawn0.step)⟩
 ·replace c4 := Bool.eq_false_iff.mpr c4
  subst c4
  have H1 : (some 2) = some r := by rw [if_neg (show ¬ (false = true) by decide)] at H; exact H
  clear H
  have H := H1
  clear H1
  obtain rfl := Option.some.inj H
  go_enter Try.func52, Try.ntmps52
  go_wp2_with (first | (refine gate_callee (f := 54) rfl ?_; refine goesL_ (some 8) rfl rfl Try.func54 (by kernel_rfl) rfl #[ptrOf (.slice A0 l0.length c0)] rfl (by (try simp only [List.map_toArray, List.map_cons, List.map_nil]); first | done | rfl | (simp only [*]; done) | (simp only [*]; rfl) | (simp only [List.length_drop, List.length_take]; rfl)) ?_; (with_reducible refine (suffix_Index_is.calls _ _ l0 false _ ?side1 ?side2 A3.out).mono ?_); (case side1 => exact HR0.out); (case side2 => exact HC0.out); rintro e w' ⟨rfl, ⟨nd, rfl⟩⟩; refine ⟨_, rfl, ?_⟩))
  go_ret
  exact ⟨rfl, by repeat (first | exact Drawn0.refl _ | apply Drawn0.step)⟩

end Go.Proofs.Ythcnnfahlhklgaa.X
