-- Printed by wip/xprint.py of this repo (a wrapper of the session's own round the print).
import Derived.Test.YtobknpeglagaaaaXY
import Derived.Test.YtobknpeglagaaaaXx43
namespace Go.Proofs.Ytobknpeglagaaaa.X
open Go.RowKit Go.Proofs.YtobknpeglagaaaaW.PrintWords Go.Proofs.YtobknpeglagaaaaW.PrintLast Go.Proofs.YtobknpeglagaaaaW.PrintMore
attribute [local go_sem] ptrOf_eql ptrOf_neq ptrOf_eqg ptrOf_neg str_leq str_geq str_gtr max2_int min2_int max_two min_two max_three min_three max_four min_four   -- for this text's walks alone
set_option linter.unusedVariables false
set_option linter.unusedSimpArgs false

/-! ### sapperref15_Split: function 22 -/
mutual
def sapperref15_Split.j0 : Nat → List Int → Int → Int → List Int → Int → Int → Bool → Option (Int)
 | 0, _, _, _, _, _, _, _ => none
 | k + 1, x0, x1, x2, x3, x4, x5, x54 => if x54 = true then (some 0) else (sapperref15_Split.l0 k x0 x1 x2 x3 x4 x5 0 0 0)
def sapperref15_Split.l0 : Nat → List Int → Int → Int → List Int → Int → Int → Int → Int → Int → Option (Int)
 | 0, _, _, _, _, _, _, _, _, _ => none
 | k + 1, x0, x1, x2, x3, x4, x5, x13, x14, x15 => if x15 ≤ x5 then (if 0 ≤ x1 then (if x1 ≤ (x0.length : Int) then (if 0 ≤ x4 then (if x4 ≤ (x3.length : Int) then ((sapperref15_alike.f k (x0.drop (x1 : Int).toNat) (x3.drop (x4 : Int).toNat) x15).bind fun t371 => (if 0 ≤ x2 then (if x2 ≤ (x0.length : Int) then ((sapperref15_alike.f k (x0.drop (x2 : Int).toNat) (x3.drop (x4 : Int).toNat) x15).bind fun t374 => (if (wrap64 (t371 - t374)) > x14 then (sapperref15_Split.l0 k x0 x1 x2 x3 x4 x5 x15 (wrap64 (t371 - t374)) (wrap64 (x15 + 1))) else (sapperref15_Split.l0 k x0 x1 x2 x3 x4 x5 x13 x14 (wrap64 (x15 + 1))))) else (none)) else (none))) else (none)) else (none)) else (none)) else (none)) else (some x13)
end
def sapperref15_Split.f (k : Nat) (l0 : List Int) (a1 : Int) (a2 : Int) (l3 : List Int) (a4 : Int) (a5 : Int) : Option (Int) := if a5 < 0 then (sapperref15_Split.j0 k l0 a1 a2 l3 a4 a5 true) else (if a1 < 0 then (sapperref15_Split.j0 k l0 a1 a2 l3 a4 a5 true) else (if a2 < 0 then (sapperref15_Split.j0 k l0 a1 a2 l3 a4 a5 true) else (if a4 < 0 then (sapperref15_Split.j0 k l0 a1 a2 l3 a4 a5 true) else (if a1 > (wrap64 ((l0.length : Int) - a5)) then (sapperref15_Split.j0 k l0 a1 a2 l3 a4 a5 true) else (if a2 > (wrap64 ((l0.length : Int) - a5)) then (sapperref15_Split.j0 k l0 a1 a2 l3 a4 a5 true) else (sapperref15_Split.j0 k l0 a1 a2 l3 a4 a5 (decide (a4 > (wrap64 ((l3.length : Int) - a5))))))))))
theorem sapperref15_Split.mono_l : ∀ k, (∀ y0 y1 y2 y3 y4 y5 y6, LeO (sapperref15_Split.j0 k y0 y1 y2 y3 y4 y5 y6) (sapperref15_Split.j0 (k + 1) y0 y1 y2 y3 y4 y5 y6)) ∧ (∀ y0 y1 y2 y3 y4 y5 y6 y7 y8, LeO (sapperref15_Split.l0 k y0 y1 y2 y3 y4 y5 y6 y7 y8) (sapperref15_Split.l0 (k + 1) y0 y1 y2 y3 y4 y5 y6 y7 y8))
 | 0 => ⟨fun _ _ _ _ _ _ _ r h => by simp [sapperref15_Split.j0] at h, fun _ _ _ _ _ _ _ _ _ r h => by simp [sapperref15_Split.l0] at h⟩
 | k + 1 => by
  obtain ⟨ih0, ih1⟩ := sapperref15_Split.mono_l k
  refine ⟨?_, ?_⟩
  intro y0 y1 y2 y3 y4 y5 y6; unfold sapperref15_Split.j0; rotate_left
  intro y0 y1 y2 y3 y4 y5 y6 y7 y8; unfold sapperref15_Split.l0; rotate_left
  all_goals
   repeat' first
   | (with_reducible exact ih0 _ _ _ _ _ _ _)
   | (with_reducible exact ih1 _ _ _ _ _ _ _ _ _)
   | (with_reducible exact sapperref15_alike.mono _ _ _ _)
   | (with_reducible exact LeO.refl _)
   | (with_reducible exact LeO.none _)
   | (with_reducible refine LeO.ite ?_ ?_)
   | (with_reducible refine LeO.bind ?_ (fun _ => ?_))
   | exact ih0 _ _ _ _ _ _ _
   | exact ih1 _ _ _ _ _ _ _ _ _
   | exact sapperref15_alike.mono _ _ _ _
   | exact LeO.none _
   | refine LeO.ite ?_ ?_
   | refine LeO.bind ?_ (fun _ => ?_)
theorem sapperref15_Split.mono : ∀ a0 a1 a2 a3 a4 a5 k, LeO (sapperref15_Split.f k a0 a1 a2 a3 a4 a5) (sapperref15_Split.f (k + 1) a0 a1 a2 a3 a4 a5) := by
 intro a0 a1 a2 a3 a4 a5 k
 obtain ⟨ih0, ih1⟩ := sapperref15_Split.mono_l k
 unfold sapperref15_Split.f
 repeat' first
   | (with_reducible exact ih0 _ _ _ _ _ _ _)
   | (with_reducible exact ih1 _ _ _ _ _ _ _ _ _)
   | (with_reducible exact sapperref15_alike.mono _ _ _ _)
   | (with_reducible exact LeO.refl _)
   | (with_reducible exact LeO.none _)
   | (with_reducible refine LeO.ite ?_ ?_)
   | (with_reducible refine LeO.bind ?_ (fun _ => ?_))
   | exact ih0 _ _ _ _ _ _ _
   | exact ih1 _ _ _ _ _ _ _ _ _
   | exact sapperref15_alike.mono _ _ _ _
   | exact LeO.none _
   | refine LeO.ite ?_ ?_
   | refine LeO.bind ?_ (fun _ => ?_)
set_option maxHeartbeats 8000000 in
set_option maxRecDepth 100000 in
theorem sapperref15_Split.calls (k : Nat) (A0 : Option Addr) (c0 : Nat) (l0 : List Int) (a1 : Int) (a2 : Int) (A3 : Option Addr) (c3 : Nat) (l3 : List Int) (a4 : Int) (a5 : Int) (r : Int) (w : World) (hr0 : Kd.C (Kd.int .u8) w A0 l0.length l0) (hc0 : l0.length ≤ c0) (hr3 : Kd.C (Kd.int .u8) w A3 l3.length l3) (hc3 : l3.length ≤ c3) (h : sapperref15_Split.f k l0 a1 a2 l3 a4 a5 = some r) :
  Calls Try.prog 22 #[.slice A0 l0.length c0, .int .i64 a1, .int .i64 a2, .slice A3 l3.length c3, .int .i64 a4, .int .i64 a5] w fun e w' => e = .returned (.int .i64 r) ∧ Drawn0 w w' := by
 have HR0 := Aside0.mk hr0
 have HC0 := Aside0.mk hc0
 clear hr0 hc0
 have HR3 := Aside0.mk hr3
 have HC3 := Aside0.mk hc3
 clear hr3 hc3
 have H : (if a5 < 0 then (sapperref15_Split.j0 k l0 a1 a2 l3 a4 a5 true) else (if a1 < 0 then (sapperref15_Split.j0 k l0 a1 a2 l3 a4 a5 true) else (if a2 < 0 then (sapperref15_Split.j0 k l0 a1 a2 l3 a4 a5 true) else (if a4 < 0 then (sapperref15_Split.j0 k l0 a1 a2 l3 a4 a5 true) else (if a1 > (wrap64 ((l0.length : Int) - a5)) then (sapperref15_Split.j0 k l0 a1 a2 l3 a4 a5 true) else (if a2 > (wrap64 ((l0.length : Int) - a5)) then (sapperref15_Split.j0 k l0 a1 a2 l3 a4 a5 true) else (sapperref15_Split.j0 k l0 a1 a2 l3 a4 a5 (decide (a4 > (wrap64 ((l3.length : Int) - a5))))))))))) = some r := h
 clear h
 have HC7 := Aside0.mk H
 clear H
 go_enter Try.func22, Try.ntmps22
 go_upto_region 1 with (fail)
 repeat (go_quiet (fail); go_upto_region 1 with (fail))
 go_cut [54] (fun v54 wc => ∃ (kq : Nat) (x54_6 : Bool), v54 = .bool x54_6 ∧ Aside0 (sapperref15_Split.j0 kq l0 a1 a2 l3 a4 a5 x54_6 = some r) ∧ Aside0 (kq ≤ k) ∧ Drawn0 w wc)
 case first =>
  have H := HC7.out
  clear HC7
  by_cases c8 : a5 < 0
  ·rw [if_pos c8] at H
   have c8b0 : decide (a5 < 0) = true := decide_eq_true c8
   clear c8
   (first | rw [c8b0] | rw [c8b1] | (simp only [i64_w, i32_w]; rw [c8b0]) | skip)
   have H' := Aside0.mk H
   clear H
   go_wp2
   repeat (go_quiet (fail); try go_wp2)
   go_meet
   case rel => exact ⟨_, (true), (rfl), H', ⟨by first | omega | exact Nat.le_refl _⟩, by repeat (first | exact Drawn0.refl _ | apply Drawn0.step)⟩
  ·rw [if_neg c8] at H
   have c8b0 : decide (a5 < 0) = false := decide_eq_false c8
   clear c8
   (first | rw [c8b0] | rw [c8b1] | (simp only [i64_w, i32_w]; rw [c8b0]) | skip)
   by_cases c9 : a1 < 0
   ·rw [if_pos c9] at H
    have c9b0 : decide (a1 < 0) = true := decide_eq_true c9
    clear c9
    have H' := Aside0.mk H
    clear H
    go_wp2
    repeat (go_quiet (fail); try go_wp2)
    go_meet
    case rel => exact ⟨_, (true), (rfl), H', ⟨by first | omega | exact Nat.le_refl _⟩, by repeat (first | exact Drawn0.refl _ | apply Drawn0.step)⟩
   ·rw [if_neg c9] at H
    have c9b0 : decide (a1 < 0) = false := decide_eq_false c9
    clear c9
    by_cases c10 : a2 < 0
    ·rw [if_pos c10] at H
     have c10b0 : decide (a2 < 0) = true := decide_eq_true c10
     clear c10
     have H' := Aside0.mk H
     clear H
     go_wp2
     repeat (go_quiet (fail); try go_wp2)
     go_meet
     case rel => exact ⟨_, (true), (rfl), H', ⟨by first | omega | exact Nat.le_refl _⟩, by repeat (first | exact Drawn0.refl _ | apply Drawn0.step)⟩
    ·rw [if_neg c10] at H
     have c10b0 : decide (a2 < 0) = false := decide_eq_false c10
     clear c10
     by_cases c11 : a4 < 0
     ·rw [if_pos c11] at H
      have c11b0 : decide (a4 < 0) = true := decide_eq_true c11
      clear c11
      have H' := Aside0.mk H
      clear H
      go_wp2
      repeat (go_quiet (fail); try go_wp2)
      go_meet
      case rel => exact ⟨_, (true), (rfl), H', ⟨by first | omega | exact Nat.le_refl _⟩, by repeat (first | exact Drawn0.refl _ | apply Drawn0.step)⟩
     ·rw [if_neg c11] at H
      have c11b0 : decide (a4 < 0) = false := decide_eq_false c11
      clear c11
      by_cases c12 : a1 > (wrap64 ((l0.length : Int) - a5))
      ·rw [if_pos c12] at H
       have c12b0 : decide ((wrap64 ((l0.length : Int) - a5)) < a1) = true := decide_eq_true c12
       clear c12
       have H' := Aside0.mk H
       clear H
       go_wp2
       repeat (go_quiet (fail); try go_wp2)
       go_meet
       case rel => exact ⟨_, (true), (rfl), H', ⟨by first | omega | exact Nat.le_refl _⟩, by repeat (first | exact Drawn0.refl _ | apply Drawn0.step)⟩
      ·rw [if_neg c12] at H
       have c12b0 : decide ((wrap64 ((l0.length : Int) - a5)) < a1) = false := decide_eq_false c12
       clear c12
       by_cases c13 : a2 > (wrap64 ((l0.length : Int) - a5))
       ·rw [if_pos c13] at H
        have c13b0 : decide ((wrap64 ((l0.length : Int) - a5)) < a2) = true := decide_eq_true c13
        clear c13
        have H' := Aside0.mk H
        clear H
        go_wp2
        repeat (go_quiet (fail); try go_wp2)
        go_meet
        case rel => exact ⟨_, (true), (rfl), H', ⟨by first | omega | exact Nat.le_refl _⟩, by repeat (first | exact Drawn0.refl _ | apply Drawn0.step)⟩
       ·rw [if_neg c13] at H
        have c13b0 : decide ((wrap64 ((l0.length : Int) - a5)) < a2) = false := decide_eq_false c13
        clear c13
        have H' := Aside0.mk H
        clear H
        go_wp2
        repeat (go_quiet (fail); try go_wp2)
        go_meet
        case rel => exact ⟨_, (decide (a4 > (wrap64 ((l3.length : Int) - a5)))), (rfl), H', ⟨by first | omega | exact Nat.le_refl _⟩, by repeat (first | exact Drawn0.refl _ | apply Drawn0.step)⟩
 case rest =>
  clear HC7
  try clear c1
  try clear c2
  try clear p2
  try clear c3
  try clear p6
  try clear c8
  try clear c8b0
  try clear c9
  try clear c9b0
  try clear c10
  try clear c10b0
  try clear c11
  try clear c11b0
  try clear c12
  try clear c12b0
  try clear c13
  try clear c13b0
  obtain ⟨kq, x54_6, rfl, HA, HJ6, ⟨mc6, rfl⟩⟩ := hcut
  cases kq with
  | zero => exact absurd HA.out (by simp [sapperref15_Split.j0])
  | succ kj6 =>
   have H := HA.out
   clear HA
   simp only [sapperref15_Split.j0] at H
   by_cases c14 : x54_6 = true
   ·subst c14
    have H1 : (some 0) = some r := by rw [if_pos rfl] at H; exact H
    clear H
    have H := H1
    clear H1
    obtain rfl := Option.some.inj H
    go_wp2
    repeat (go_quiet (fail); try go_wp2)
    go_ret
    exact ⟨rfl, by repeat (first | exact Drawn0.refl _ | apply Drawn0.step)⟩
   ·replace c14 := Bool.eq_false_iff.mpr c14
    subst c14
    have H1 : (sapperref15_Split.l0 kj6 l0 a1 a2 l3 a4 a5 0 0 0) = some r := by rw [if_neg (show ¬ (false = true) by decide)] at H; exact H
    clear H
    have H := H1
    clear H1
    have H' := Aside0.mk H
    clear H
    go_wp2
    repeat (go_quiet (fail); try go_wp2)
    go_loopg [13, 14, 15] kj6 (fun kq v13 v14 v15 w' => ∃ (x13_2 : Int) (x14_2 : Int) (x15_2 : Int), v13 = .int .i64 x13_2 ∧ v14 = .int .i64 x14_2 ∧ v15 = .int .i64 x15_2 ∧ Aside0 (sapperref15_Split.l0 kq l0 a1 a2 l3 a4 a5 x13_2 x14_2 x15_2 = some r) ∧ Aside0 (kq ≤ kj6) ∧ Drawn0 w w')
    case atStart => exact ⟨(0), (0), (0), (rfl), (rfl), (rfl), H', ⟨Nat.le_refl _⟩, by repeat (first | exact Drawn0.refl _ | apply Drawn0.step)⟩
    case round =>
     clear H'
     try clear c1
     try clear c2
     try clear p2
     try clear c3
     try clear c6
     try clear p6
     try clear c8
     try clear c8b0
     try clear c9
     try clear c9b0
     try clear c10
     try clear c10b0
     try clear c11
     try clear c11b0
     try clear c12
     try clear c12b0
     try clear c13
     try clear c13b0
     try clear c14
     try clear p2
     try clear p6
     obtain ⟨x13_2, x14_2, x15_2, rfl, rfl, rfl, HA, HK2, ⟨m2, rfl⟩⟩ := hrel
     cases gk with
     | zero => exact absurd HA.out (by simp [sapperref15_Split.l0])
     | succ k2 =>
      have H := HA.out
      clear HA
      simp only [sapperref15_Split.l0] at H
      by_cases c15 : x15_2 ≤ a5
      ·rw [if_pos c15] at H
       have c15b0 : decide (x15_2 ≤ a5) = true := decide_eq_true c15
       clear c15
       by_cases c16 : 0 ≤ a1
       ·rw [if_pos c16] at H
        have c16b0 := eq_true c16
        have c16b1 : decide (0 ≤ a1) = true := decide_eq_true c16
        clear c16
        by_cases c17 : a1 ≤ (l0.length : Int)
        ·rw [if_pos c17] at H
         have c17b0 := eq_true c17
         have c17b1 : decide (a1 ≤ (l0.length : Int)) = true := decide_eq_true c17
         clear c17
         by_cases c18 : 0 ≤ a4
         ·rw [if_pos c18] at H
          have c18b0 := eq_true c18
          have c18b1 : decide (0 ≤ a4) = true := decide_eq_true c18
          clear c18
          by_cases c19 : a4 ≤ (l3.length : Int)
          ·rw [if_pos c19] at H
           have c19b0 := eq_true c19
           have c19b1 : decide (a4 ≤ (l3.length : Int)) = true := decide_eq_true c19
           clear c19
           replace H := Option.bind_eq_some_iff.mp H
           obtain ⟨t371, A200, H⟩ := H
           replace H : (if 0 ≤ a2 then (if a2 ≤ (l0.length : Int) then ((sapperref15_alike.f k2 (l0.drop (a2 : Int).toNat) (l3.drop (a4 : Int).toNat) x15_2).bind fun t374 => (if (wrap64 (t371 - t374)) > x14_2 then (sapperref15_Split.l0 k2 l0 a1 a2 l3 a4 a5 x15_2 (wrap64 (t371 - t374)) (wrap64 (x15_2 + 1))) else (sapperref15_Split.l0 k2 l0 a1 a2 l3 a4 a5 x13_2 x14_2 (wrap64 (x15_2 + 1))))) else (none)) else (none)) = some r := H
           have A20 := Aside0.mk A200
           clear A200
           by_cases c21 : 0 ≤ a2
           ·rw [if_pos c21] at H
            have c21b0 := eq_true c21
            have c21b1 : decide (0 ≤ a2) = true := decide_eq_true c21
            clear c21
            by_cases c22 : a2 ≤ (l0.length : Int)
            ·rw [if_pos c22] at H
             have c22b0 := eq_true c22
             have c22b1 : decide (a2 ≤ (l0.length : Int)) = true := decide_eq_true c22
             clear c22
             have c23b0 := eq_true (Qt : 0 ≤ a4)
             have c24b0 := eq_true (Qt : a4 ≤ (l3.length : Int))
             replace H := Option.bind_eq_some_iff.mp H
             obtain ⟨t374, A250, H⟩ := H
             replace H : (if (wrap64 (t371 - t374)) > x14_2 then (sapperref15_Split.l0 k2 l0 a1 a2 l3 a4 a5 x15_2 (wrap64 (t371 - t374)) (wrap64 (x15_2 + 1))) else (sapperref15_Split.l0 k2 l0 a1 a2 l3 a4 a5 x13_2 x14_2 (wrap64 (x15_2 + 1)))) = some r := H
             have A25 := Aside0.mk A250
             clear A250
             by_cases c26 : (wrap64 (t371 - t374)) > x14_2
             ·rw [if_pos c26] at H
              have c26b0 : decide (x14_2 < (wrap64 (t371 - t374))) = true := decide_eq_true c26
              clear c26
              have H' := Aside0.mk H
              clear H
              obtain ⟨i027, hi027, _, hsz27, _⟩ := info_parts info5
              obtain ⟨A27, hcut27, hA27, hC27⟩ := print_drop_of (P := Try.prog) (Value.int .u8) 0 23 5 .i64 Try.underlying23 hi027 hsz27 A0 c0 l0 a1 (Qt) (Qt) HC0.out
              have HR369 := Aside0.mk (Kd.C_of_reads (h1 := fun _ => rfl) (hA27 _ (Kd.reads_of_C HR0.out)))
              have HC369 := Aside0.mk hC27
              clear hA27 hC27 hi027 hsz27
              obtain ⟨i028, hi028, _, hsz28, _⟩ := info_parts info5
              obtain ⟨A28, hcut28, hA28, hC28⟩ := print_drop_of (P := Try.prog) (Value.int .u8) 0 23 5 .i64 Try.underlying23 hi028 hsz28 A3 c3 l3 a4 (Qt) (Qt) HC3.out
              have HR370 := Aside0.mk (Kd.C_of_reads (h1 := fun _ => rfl) (hA28 _ (Kd.reads_of_C HR3.out)))
              have HC370 := Aside0.mk hC28
              clear hA28 hC28 hi028 hsz28
              obtain ⟨i029, hi029, _, hsz29, _⟩ := info_parts info5
              obtain ⟨A29, hcut29, hA29, hC29⟩ := print_drop_of (P := Try.prog) (Value.int .u8) 0 23 5 .i64 Try.underlying23 hi029 hsz29 A0 c0 l0 a2 (Qt) (Qt) HC0.out
              have HR372 := Aside0.mk (Kd.C_of_reads (h1 := fun _ => rfl) (hA29 _ (Kd.reads_of_C HR0.out)))
              have HC372 := Aside0.mk hC29
              clear hA29 hC29 hi029 hsz29
              go_wp2_with (first | (go_at_call 35; (try rw [show l0.length - (a1 : Int).toNat = (l0.drop (a1 : Int).toNat).length from List.length_drop.symm]); (try rw [show l3.length - (a4 : Int).toNat = (l3.drop (a4 : Int).toNat).length from List.length_drop.symm]); (with_reducible refine (sapperref15_alike.calls k2 _ _ (l0.drop (a1 : Int).toNat) _ _ (l3.drop (a4 : Int).toNat) x15_2 t371 _ ?side1 ?side2 ?side3 ?side4 A20.out).mono ?_); (case side1 => exact HR369.out); (case side2 => exact HC369.out); (case side3 => exact HR370.out); (case side4 => exact HC370.out); rintro e w' ⟨rfl, ⟨nd, rfl⟩⟩; (try first | exact ⟨rfl, _, World.drewN_drewN _ _ _⟩ | exact ⟨rfl, _, Eq.trans (World.drewN_drewN _ _ _) (congrArg (World.drewN _) (Nat.add_assoc _ _ _))⟩)) | (go_at_call 35; (try rw [show l0.length - (a2 : Int).toNat = (l0.drop (a2 : Int).toNat).length from List.length_drop.symm]); (try rw [show l3.length - (a4 : Int).toNat = (l3.drop (a4 : Int).toNat).length from List.length_drop.symm]); (with_reducible refine (sapperref15_alike.calls k2 _ _ (l0.drop (a2 : Int).toNat) _ _ (l3.drop (a4 : Int).toNat) x15_2 t374 _ ?side1 ?side2 ?side3 ?side4 A25.out).mono ?_); (case side1 => exact HR372.out); (case side2 => exact HC372.out); (case side3 => exact HR370.out); (case side4 => exact HC370.out); rintro e w' ⟨rfl, ⟨nd, rfl⟩⟩; (try first | exact ⟨rfl, _, World.drewN_drewN _ _ _⟩ | exact ⟨rfl, _, Eq.trans (World.drewN_drewN _ _ _) (congrArg (World.drewN _) (Nat.add_assoc _ _ _))⟩)))
              repeat (go_quiet (first | (go_at_call 35; (try rw [show l0.length - (a1 : Int).toNat = (l0.drop (a1 : Int).toNat).length from List.length_drop.symm]); (try rw [show l3.length - (a4 : Int).toNat = (l3.drop (a4 : Int).toNat).length from List.length_drop.symm]); (with_reducible refine (sapperref15_alike.calls k2 _ _ (l0.drop (a1 : Int).toNat) _ _ (l3.drop (a4 : Int).toNat) x15_2 t371 _ ?side1 ?side2 ?side3 ?side4 A20.out).mono ?_); (case side1 => exact HR369.out); (case side2 => exact HC369.out); (case side3 => exact HR370.out); (case side4 => exact HC370.out); rintro e w' ⟨rfl, ⟨nd, rfl⟩⟩; (try first | exact ⟨rfl, _, World.drewN_drewN _ _ _⟩ | exact ⟨rfl, _, Eq.trans (World.drewN_drewN _ _ _) (congrArg (World.drewN _) (Nat.add_assoc _ _ _))⟩)) | (go_at_call 35; (try rw [show l0.length - (a2 : Int).toNat = (l0.drop (a2 : Int).toNat).length from List.length_drop.symm]); (try rw [show l3.length - (a4 : Int).toNat = (l3.drop (a4 : Int).toNat).length from List.length_drop.symm]); (with_reducible refine (sapperref15_alike.calls k2 _ _ (l0.drop (a2 : Int).toNat) _ _ (l3.drop (a4 : Int).toNat) x15_2 t374 _ ?side1 ?side2 ?side3 ?side4 A25.out).mono ?_); (case side1 => exact HR372.out); (case side2 => exact HC372.out); (case side3 => exact HR370.out); (case side4 => exact HC370.out); rintro e w' ⟨rfl, ⟨nd, rfl⟩⟩; (try first | exact ⟨rfl, _, World.drewN_drewN _ _ _⟩ | exact ⟨rfl, _, Eq.trans (World.drewN_drewN _ _ _) (congrArg (World.drewN _) (Nat.add_assoc _ _ _))⟩))); try go_wp2_with (first | (go_at_call 35; (try rw [show l0.length - (a1 : Int).toNat = (l0.drop (a1 : Int).toNat).length from List.length_drop.symm]); (try rw [show l3.length - (a4 : Int).toNat = (l3.drop (a4 : Int).toNat).length from List.length_drop.symm]); (with_reducible refine (sapperref15_alike.calls k2 _ _ (l0.drop (a1 : Int).toNat) _ _ (l3.drop (a4 : Int).toNat) x15_2 t371 _ ?side1 ?side2 ?side3 ?side4 A20.out).mono ?_); (case side1 => exact HR369.out); (case side2 => exact HC369.out); (case side3 => exact HR370.out); (case side4 => exact HC370.out); rintro e w' ⟨rfl, ⟨nd, rfl⟩⟩; (try first | exact ⟨rfl, _, World.drewN_drewN _ _ _⟩ | exact ⟨rfl, _, Eq.trans (World.drewN_drewN _ _ _) (congrArg (World.drewN _) (Nat.add_assoc _ _ _))⟩)) | (go_at_call 35; (try rw [show l0.length - (a2 : Int).toNat = (l0.drop (a2 : Int).toNat).length from List.length_drop.symm]); (try rw [show l3.length - (a4 : Int).toNat = (l3.drop (a4 : Int).toNat).length from List.length_drop.symm]); (with_reducible refine (sapperref15_alike.calls k2 _ _ (l0.drop (a2 : Int).toNat) _ _ (l3.drop (a4 : Int).toNat) x15_2 t374 _ ?side1 ?side2 ?side3 ?side4 A25.out).mono ?_); (case side1 => exact HR372.out); (case side2 => exact HC372.out); (case side3 => exact HR370.out); (case side4 => exact HC370.out); rintro e w' ⟨rfl, ⟨nd, rfl⟩⟩; (try first | exact ⟨rfl, _, World.drewN_drewN _ _ _⟩ | exact ⟨rfl, _, Eq.trans (World.drewN_drewN _ _ _) (congrArg (World.drewN _) (Nat.add_assoc _ _ _))⟩))))
              go_roundg k2
              case measure => have := HJ6.out; have := HK2.out; omega
              case rel => exact ⟨(x15_2), (wrap64 (t371 - t374)), (wrap64 (x15_2 + 1)), (rfl), (rfl), (rfl), H', ⟨by have := HJ6.out; have := HK2.out; omega⟩, by repeat (first | exact Drawn0.refl _ | apply Drawn0.step)⟩
             ·rw [if_neg c26] at H
              have c26b0 : decide (x14_2 < (wrap64 (t371 - t374))) = false := decide_eq_false c26
              clear c26
              have H' := Aside0.mk H
              clear H
              obtain ⟨i031, hi031, _, hsz31, _⟩ := info_parts info5
              obtain ⟨A31, hcut31, hA31, hC31⟩ := print_drop_of (P := Try.prog) (Value.int .u8) 0 23 5 .i64 Try.underlying23 hi031 hsz31 A0 c0 l0 a1 (Qt) (Qt) HC0.out
              have HR369 := Aside0.mk (Kd.C_of_reads (h1 := fun _ => rfl) (hA31 _ (Kd.reads_of_C HR0.out)))
              have HC369 := Aside0.mk hC31
              clear hA31 hC31 hi031 hsz31
              obtain ⟨i032, hi032, _, hsz32, _⟩ := info_parts info5
              obtain ⟨A32, hcut32, hA32, hC32⟩ := print_drop_of (P := Try.prog) (Value.int .u8) 0 23 5 .i64 Try.underlying23 hi032 hsz32 A3 c3 l3 a4 (Qt) (Qt) HC3.out
              have HR370 := Aside0.mk (Kd.C_of_reads (h1 := fun _ => rfl) (hA32 _ (Kd.reads_of_C HR3.out)))
              have HC370 := Aside0.mk hC32
              clear hA32 hC32 hi032 hsz32
              obtain ⟨i033, hi033, _, hsz33, _⟩ := info_parts info5
              obtain ⟨A33, hcut33, hA33, hC33⟩ := print_drop_of (P := Try.prog) (Value.int .u8) 0 23 5 .i64 Try.underlying23 hi033 hsz33 A0 c0 l0 a2 (Qt) (Qt) HC0.out
              have HR372 := Aside0.mk (Kd.C_of_reads (h1 := fun _ => rfl) (hA33 _ (Kd.reads_of_C HR0.out)))
              have HC372 := Aside0.mk hC33
              clear hA33 hC33 hi033 hsz33
              go_wp2_with (first | (go_at_call 35; (try rw [show l0.length - (a1 : Int).toNat = (l0.drop (a1 : Int).toNat).length from List.length_drop.symm]); (try rw [show l3.length - (a4 : Int).toNat = (l3.drop (a4 : Int).toNat).length from List.length_drop.symm]); (with_reducible refine (sapperref15_alike.calls k2 _ _ (l0.drop (a1 : Int).toNat) _ _ (l3.drop (a4 : Int).toNat) x15_2 t371 _ ?side1 ?side2 ?side3 ?side4 A20.out).mono ?_); (case side1 => exact HR369.out); (case side2 => exact HC369.out); (case side3 => exact HR370.out); (case side4 => exact HC370.out); rintro e w' ⟨rfl, ⟨nd, rfl⟩⟩; (try first | exact ⟨rfl, _, World.drewN_drewN _ _ _⟩ | exact ⟨rfl, _, Eq.trans (World.drewN_drewN _ _ _) (congrArg (World.drewN _) (Nat.add_assoc _ _ _))⟩)) | (go_at_call 35; (try rw [show l0.length - (a2 : Int).toNat = (l0.drop (a2 : Int).toNat).length from List.length_drop.symm]); (try rw [show l3.length - (a4 : Int).toNat = (l3.drop (a4 : Int).toNat).length from List.length_drop.symm]); (with_reducible refine (sapperref15_alike.calls k2 _ _ (l0.drop (a2 : Int).toNat) _ _ (l3.drop (a4 : Int).toNat) x15_2 t374 _ ?side1 ?side2 ?side3 ?side4 A25.out).mono ?_); (case side1 => exact HR372.out); (case side2 => exact HC372.out); (case side3 => exact HR370.out); (case side4 => exact HC370.out); rintro e w' ⟨rfl, ⟨nd, rfl⟩⟩; (try first | exact ⟨rfl, _, World.drewN_drewN _ _ _⟩ | exact ⟨rfl, _, Eq.trans (World.drewN_drewN _ _ _) (congrArg (World.drewN _) (Nat.add_assoc _ _ _))⟩)))
              repeat (go_quiet (first | (go_at_call 35; (try rw [show l0.length - (a1 : Int).toNat = (l0.drop (a1 : Int).toNat).length from List.length_drop.symm]); (try rw [show l3.length - (a4 : Int).toNat = (l3.drop (a4 : Int).toNat).length from List.length_drop.symm]); (with_reducible refine (sapperref15_alike.calls k2 _ _ (l0.drop (a1 : Int).toNat) _ _ (l3.drop (a4 : Int).toNat) x15_2 t371 _ ?side1 ?side2 ?side3 ?side4 A20.out).mono ?_); (case side1 => exact HR369.out); (case side2 => exact HC369.out); (case side3 => exact HR370.out); (case side4 => exact HC370.out); rintro e w' ⟨rfl, ⟨nd, rfl⟩⟩; (try first | exact ⟨rfl, _, World.drewN_drewN _ _ _⟩ | exact ⟨rfl, _, Eq.trans (World.drewN_drewN _ _ _) (congrArg (World.drewN _) (Nat.add_assoc _ _ _))⟩)) | (go_at_call 35; (try rw [show l0.length - (a2 : Int).toNat = (l0.drop (a2 : Int).toNat).length from List.length_drop.symm]); (try rw [show l3.length - (a4 : Int).toNat = (l3.drop (a4 : Int).toNat).length from List.length_drop.symm]); (with_reducible refine (sapperref15_alike.calls k2 _ _ (l0.drop (a2 : Int).toNat) _ _ (l3.drop (a4 : Int).toNat) x15_2 t374 _ ?side1 ?side2 ?side3 ?side4 A25.out).mono ?_); (case side1 => exact HR372.out); (case side2 => exact HC372.out); (case side3 => exact HR370.out); (case side4 => exact HC370.out); rintro e w' ⟨rfl, ⟨nd, rfl⟩⟩; (try first | exact ⟨rfl, _, World.drewN_drewN _ _ _⟩ | exact ⟨rfl, _, Eq.trans (World.drewN_drewN _ _ _) (congrArg (World.drewN _) (Nat.add_assoc _ _ _))⟩))); try go_wp2_with (first | (go_at_call 35; (try rw [show l0.length - (a1 : Int).toNat = (l0.drop (a1 : Int).toNat).length from List.length_drop.symm]); (try rw [show l3.length - (a4 : Int).toNat = (l3.drop (a4 : Int).toNat).length from List.length_drop.symm]); (with_reducible refine (sapperref15_alike.calls k2 _ _ (l0.drop (a1 : Int).toNat) _ _ (l3.drop (a4 : Int).toNat) x15_2 t371 _ ?side1 ?side2 ?side3 ?side4 A20.out).mono ?_); (case side1 => exact HR369.out); (case side2 => exact HC369.out); (case side3 => exact HR370.out); (case side4 => exact HC370.out); rintro e w' ⟨rfl, ⟨nd, rfl⟩⟩; (try first | exact ⟨rfl, _, World.drewN_drewN _ _ _⟩ | exact ⟨rfl, _, Eq.trans (World.drewN_drewN _ _ _) (congrArg (World.drewN _) (Nat.add_assoc _ _ _))⟩)) | (go_at_call 35; (try rw [show l0.length - (a2 : Int).toNat = (l0.drop (a2 : Int).toNat).length from List.length_drop.symm]); (try rw [show l3.length - (a4 : Int).toNat = (l3.drop (a4 : Int).toNat).length from List.length_drop.symm]); (with_reducible refine (sapperref15_alike.calls k2 _ _ (l0.drop (a2 : Int).toNat) _ _ (l3.drop (a4 : Int).toNat) x15_2 t374 _ ?side1 ?side2 ?side3 ?side4 A25.out).mono ?_); (case side1 => exact HR372.out); (case side2 => exact HC372.out); (case side3 => exact HR370.out); (case side4 => exact HC370.out); rintro e w' ⟨rfl, ⟨nd, rfl⟩⟩; (try first | exact ⟨rfl, _, World.drewN_drewN _ _ _⟩ | exact ⟨rfl, _, Eq.trans (World.drewN_drewN _ _ _) (congrArg (World.drewN _) (Nat.add_assoc _ _ _))⟩))))
              go_roundg k2
              case measure => have := HJ6.out; have := HK2.out; omega
              case rel => exact ⟨(x13_2), (x14_2), (wrap64 (x15_2 + 1)), (rfl), (rfl), (rfl), H', ⟨by have := HJ6.out; have := HK2.out; omega⟩, by repeat (first | exact Drawn0.refl _ | apply Drawn0.step)⟩
            ·rw [if_neg c22] at H
             exact absurd H (by simp)
           ·rw [if_neg c21] at H
            exact absurd H (by simp)
          ·rw [if_neg c19] at H
           exact absurd H (by simp)
         ·rw [if_neg c18] at H
          exact absurd H (by simp)
        ·rw [if_neg c17] at H
         exact absurd H (by simp)
       ·rw [if_neg c16] at H
        exact absurd H (by simp)
      ·rw [if_neg c15] at H
       have c15b0 : decide (x15_2 ≤ a5) = false := decide_eq_false c15
       clear c15
       obtain rfl := Option.some.inj H
       go_wp2
       repeat (go_quiet (fail); try go_wp2)
       go_ret
       exact ⟨rfl, by repeat (first | exact Drawn0.refl _ | apply Drawn0.step)⟩

end Go.Proofs.Ytobknpeglagaaaa.X
