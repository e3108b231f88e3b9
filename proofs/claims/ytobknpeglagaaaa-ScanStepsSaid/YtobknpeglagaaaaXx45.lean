-- Printed by wip/xprint.py of this repo (a wrapper of the session's own round the print).
import Derived.Test.YtobknpeglagaaaaXY
import Derived.Test.YtobknpeglagaaaaXx42
import Derived.Test.YtobknpeglagaaaaXx43
namespace Go.Proofs.Ytobknpeglagaaaa.X
open Go.RowKit Go.Proofs.YtobknpeglagaaaaW.PrintWords Go.Proofs.YtobknpeglagaaaaW.PrintLast Go.Proofs.YtobknpeglagaaaaW.PrintMore
attribute [local go_sem] ptrOf_eql ptrOf_neq ptrOf_eqg ptrOf_neg str_leq str_geq str_gtr max2_int min2_int max_two min_two max_three min_three max_four min_four   -- for this text's walks alone
set_option linter.unusedVariables false
set_option linter.unusedSimpArgs false

/-! ### sapperref15_Backward: function 20 -/
mutual
def sapperref15_Backward.l0 : Nat → List Int → Int → List Int → Int → Int → Int → Int → Int → Option (Int)
 | 0, _, _, _, _, _, _, _, _ => none
 | k + 1, x0, x1, x2, x3, x4, x11, x12, x13 => if (wrap64 (x3 + x13)) ≤ x4 then (sapperref15_Backward.j1 k x0 x1 x2 x3 x4 x11 x12 x13 (decide (x13 ≤ x1))) else (sapperref15_Backward.j1 k x0 x1 x2 x3 x4 x11 x12 x13 false)
def sapperref15_Backward.j1 : Nat → List Int → Int → List Int → Int → Int → Int → Int → Int → Bool → Option (Int)
 | 0, _, _, _, _, _, _, _, _, _ => none
 | k + 1, x0, x1, x2, x3, x4, x11, x12, x13, x31 => if x31 = true then (if 0 ≤ (wrap64 (x1 - x13)) then (if (wrap64 (x1 - x13)) ≤ (x0.length : Int) then (if 0 ≤ (wrap64 (x4 - x13)) then (if (wrap64 (x4 - x13)) ≤ (x2.length : Int) then ((sapperref15_alike.f k (x0.drop ((wrap64 (x1 - x13)) : Int).toNat) (x2.drop ((wrap64 (x4 - x13)) : Int).toNat) x13).bind fun t368 => (if (wrap64 ((wrap64 (2 * t368)) - x13)) > x12 then (sapperref15_Backward.l0 k x0 x1 x2 x3 x4 x13 (wrap64 ((wrap64 (2 * t368)) - x13)) (wrap64 (x13 + 1))) else (sapperref15_Backward.l0 k x0 x1 x2 x3 x4 x11 x12 (wrap64 (x13 + 1))))) else (none)) else (none)) else (none)) else (none)) else (some x11)
end
def sapperref15_Backward.f (k : Nat) (l0 : List Int) (a1 : Int) (l2 : List Int) (a3 : Int) (a4 : Int) : Option (Int) := (sapperref15_within.f a1 l0 a3 a4 l2).bind fun t365 => (if t365 = true then (sapperref15_Backward.l0 k l0 a1 l2 a3 a4 0 0 0) else (some 0))
theorem sapperref15_Backward.mono_l : ∀ k, (∀ y0 y1 y2 y3 y4 y5 y6 y7, LeO (sapperref15_Backward.l0 k y0 y1 y2 y3 y4 y5 y6 y7) (sapperref15_Backward.l0 (k + 1) y0 y1 y2 y3 y4 y5 y6 y7)) ∧ (∀ y0 y1 y2 y3 y4 y5 y6 y7 y8, LeO (sapperref15_Backward.j1 k y0 y1 y2 y3 y4 y5 y6 y7 y8) (sapperref15_Backward.j1 (k + 1) y0 y1 y2 y3 y4 y5 y6 y7 y8))
 | 0 => ⟨fun _ _ _ _ _ _ _ _ r h => by simp [sapperref15_Backward.l0] at h, fun _ _ _ _ _ _ _ _ _ r h => by simp [sapperref15_Backward.j1] at h⟩
 | k + 1 => by
  obtain ⟨ih0, ih1⟩ := sapperref15_Backward.mono_l k
  refine ⟨?_, ?_⟩
  intro y0 y1 y2 y3 y4 y5 y6 y7; unfold sapperref15_Backward.l0; rotate_left
  intro y0 y1 y2 y3 y4 y5 y6 y7 y8; unfold sapperref15_Backward.j1; rotate_left
  all_goals
   repeat' first
   | (with_reducible exact ih0 _ _ _ _ _ _ _ _)
   | (with_reducible exact ih1 _ _ _ _ _ _ _ _ _)
   | (with_reducible exact sapperref15_alike.mono _ _ _ _)
   | (with_reducible exact LeO.refl _)
   | (with_reducible exact LeO.none _)
   | (with_reducible refine LeO.ite ?_ ?_)
   | (with_reducible refine LeO.bind ?_ (fun _ => ?_))
   | exact ih0 _ _ _ _ _ _ _ _
   | exact ih1 _ _ _ _ _ _ _ _ _
   | exact sapperref15_alike.mono _ _ _ _
   | exact LeO.none _
   | refine LeO.ite ?_ ?_
   | refine LeO.bind ?_ (fun _ => ?_)
theorem sapperref15_Backward.mono : ∀ a0 a1 a2 a3 a4 k, LeO (sapperref15_Backward.f k a0 a1 a2 a3 a4) (sapperref15_Backward.f (k + 1) a0 a1 a2 a3 a4) := by
 intro a0 a1 a2 a3 a4 k
 obtain ⟨ih0, ih1⟩ := sapperref15_Backward.mono_l k
 unfold sapperref15_Backward.f
 repeat' first
   | (with_reducible exact ih0 _ _ _ _ _ _ _ _)
   | (with_reducible exact ih1 _ _ _ _ _ _ _ _ _)
   | (with_reducible exact sapperref15_alike.mono _ _ _ _)
   | (with_reducible exact LeO.refl _)
   | (with_reducible exact LeO.none _)
   | (with_reducible refine LeO.ite ?_ ?_)
   | (with_reducible refine LeO.bind ?_ (fun _ => ?_))
   | exact ih0 _ _ _ _ _ _ _ _
   | exact ih1 _ _ _ _ _ _ _ _ _
   | exact sapperref15_alike.mono _ _ _ _
   | exact LeO.none _
   | refine LeO.ite ?_ ?_
   | refine LeO.bind ?_ (fun _ => ?_)
set_option maxHeartbeats 8000000 in
set_option maxRecDepth 100000 in
theorem sapperref15_Backward.calls (k : Nat) (A0 : Option Addr) (c0 : Nat) (l0 : List Int) (a1 : Int) (A2 : Option Addr) (c2 : Nat) (l2 : List Int) (a3 : Int) (a4 : Int) (r : Int) (w : World) (hr0 : Kd.C (Kd.int .u8) w A0 l0.length l0) (hc0 : l0.length ≤ c0) (hr2 : Kd.C (Kd.int .u8) w A2 l2.length l2) (hc2 : l2.length ≤ c2) (h : sapperref15_Backward.f k l0 a1 l2 a3 a4 = some r) :
  Calls Try.prog 20 #[.slice A0 l0.length c0, .int .i64 a1, .slice A2 l2.length c2, .int .i64 a3, .int .i64 a4] w fun e w' => e = .returned (.int .i64 r) ∧ Drawn0 w w' := by
 have HR0 := Aside0.mk hr0; have HC0 := Aside0.mk hc0; clear hr0 hc0; have HR2 := Aside0.mk hr2; have HC2 := Aside0.mk hc2; clear hr2 hc2; have H : ((sapperref15_within.f a1 l0 a3 a4 l2).bind fun t365 => (if t365 = true then (sapperref15_Backward.l0 k l0 a1 l2 a3 a4 0 0 0) else (some 0))) = some r := h; clear h; replace H := Option.bind_eq_some_iff.mp H; obtain ⟨t365, A60, H⟩ := H; replace H : (if t365 = true then (sapperref15_Backward.l0 k l0 a1 l2 a3 a4 0 0 0) else (some 0)) = some r := H; have A6 := Aside0.mk A60; clear A60
 by_cases c7 : t365 = true
 ·subst c7
  have H1 : (sapperref15_Backward.l0 k l0 a1 l2 a3 a4 0 0 0) = some r := by rw [if_pos rfl] at H; exact H
  clear H; have H := H1; clear H1; have H' := Aside0.mk H; clear H
  go_enter Try.func20, Try.ntmps20
  go_wp2_with (first | (go_at_call 34; (with_reducible refine (sapperref15_within.calls a1 _ _ l0 a3 a4 _ _ l2 true _ ?side1 ?side2 ?side3 ?side4 A6.out).mono ?_); (case side1 => exact HR0.out); (case side2 => exact HC0.out); (case side3 => exact HR2.out); (case side4 => exact HC2.out); rintro e w' ⟨rfl, ⟨nd, rfl⟩⟩; (try first | exact ⟨rfl, _, World.drewN_drewN _ _ _⟩ | exact ⟨rfl, _, Eq.trans (World.drewN_drewN _ _ _) (congrArg (World.drewN _) (Nat.add_assoc _ _ _))⟩)))
  (repeat (go_quiet (fail); try go_wp2_with (fail)))
  go_loopg [11, 12, 13] k (fun kq v11 v12 v13 w' => ∃ (x11_1 : Int) (x12_1 : Int) (x13_1 : Int), v11 = .int .i64 x11_1 ∧ v12 = .int .i64 x12_1 ∧ v13 = .int .i64 x13_1 ∧ Aside0 (sapperref15_Backward.l0 kq l0 a1 l2 a3 a4 x11_1 x12_1 x13_1 = some r) ∧ Aside0 (kq ≤ k) ∧ Drawn0 w w')
  case atStart => exact ⟨(0), (0), (0), (rfl), (rfl), (rfl), H', ⟨Nat.le_refl _⟩, by repeat (first | exact Drawn0.refl _ | apply Drawn0.step)⟩
  case round =>
   clear H'; obtain ⟨x11_1, x12_1, x13_1, rfl, rfl, rfl, HA, HK1, ⟨m1, rfl⟩⟩ := hrel
   cases gk with
   | zero => exact absurd HA.out (by simp [sapperref15_Backward.l0])
   | succ k1 =>
    have H := HA.out; clear HA; simp only [sapperref15_Backward.l0] at H; have HC8 := Aside0.mk H; clear H
    go_upto_region 5 with (fail)
    (repeat (go_quiet (fail); go_upto_region 5 with (fail)))
    go_cut [31] (fun v31 wc => ∃ (kq : Nat) (x31_7 : Bool), v31 = .bool x31_7 ∧ Aside0 (sapperref15_Backward.j1 kq l0 a1 l2 a3 a4 x11_1 x12_1 x13_1 x31_7 = some r) ∧ Aside0 (kq ≤ k1) ∧ Drawn0 w wc)
    case first =>
     have H := HC8.out; clear HC8
     by_cases c9 : (wrap64 (a3 + x13_1)) ≤ a4
     ·rw [if_pos c9] at H
      have c9b0 : decide ((wrap64 (a3 + x13_1)) ≤ a4) = true := decide_eq_true c9; clear c9
      (first | rw [c9b0] | rw [c9b1] | (simp only [i64_w, i32_w]; rw [c9b0]) | skip)
      have H' := Aside0.mk H; clear H
      go_wp2
      (repeat (go_quiet (fail); try go_wp2))
      go_meet
      case rel => exact ⟨_, (decide (x13_1 ≤ a1)), (rfl), H', ⟨by have := HK1.out; first | omega | exact Nat.le_refl _⟩, by repeat (first | exact Drawn0.refl _ | apply Drawn0.step)⟩
     ·rw [if_neg c9] at H
      have c9b0 : decide ((wrap64 (a3 + x13_1)) ≤ a4) = false := decide_eq_false c9; clear c9
      (first | rw [c9b0] | rw [c9b1] | (simp only [i64_w, i32_w]; rw [c9b0]) | skip)
      have H' := Aside0.mk H; clear H
      go_wp2
      (repeat (go_quiet (fail); try go_wp2))
      go_meet
      case rel => exact ⟨_, (false), (rfl), H', ⟨by have := HK1.out; first | omega | exact Nat.le_refl _⟩, by repeat (first | exact Drawn0.refl _ | apply Drawn0.step)⟩
    case rest =>
     clear HC8; obtain ⟨kq, x31_7, rfl, HA, HJ7, ⟨mc7, rfl⟩⟩ := hcut
     cases kq with
     | zero => exact absurd HA.out (by simp [sapperref15_Backward.j1])
     | succ kj7 =>
      have H := HA.out; clear HA; simp only [sapperref15_Backward.j1] at H
      by_cases c10 : x31_7 = true
      ·subst c10
       have H1 : (if 0 ≤ (wrap64 (a1 - x13_1)) then (if (wrap64 (a1 - x13_1)) ≤ (l0.length : Int) then (if 0 ≤ (wrap64 (a4 - x13_1)) then (if (wrap64 (a4 - x13_1)) ≤ (l2.length : Int) then ((sapperref15_alike.f kj7 (l0.drop ((wrap64 (a1 - x13_1)) : Int).toNat) (l2.drop ((wrap64 (a4 - x13_1)) : Int).toNat) x13_1).bind fun t368 => (if (wrap64 ((wrap64 (2 * t368)) - x13_1)) > x12_1 then (sapperref15_Backward.l0 kj7 l0 a1 l2 a3 a4 x13_1 (wrap64 ((wrap64 (2 * t368)) - x13_1)) (wrap64 (x13_1 + 1))) else (sapperref15_Backward.l0 kj7 l0 a1 l2 a3 a4 x11_1 x12_1 (wrap64 (x13_1 + 1))))) else (none)) else (none)) else (none)) else (none)) = some r := by rw [if_pos rfl] at H; exact H
       clear H; have H := H1; clear H1; obtain ⟨ji11, hji11⟩ : ∃ j_ : Int, (wrap64 (a1 - x13_1)) = j_ := ⟨_, rfl⟩
       replace H : (if 0 ≤ (ji11) then (if (ji11) ≤ (l0.length : Int) then (if 0 ≤ (wrap64 (a4 - x13_1)) then (if (wrap64 (a4 - x13_1)) ≤ (l2.length : Int) then ((sapperref15_alike.f kj7 (l0.drop ((ji11) : Int).toNat) (l2.drop ((wrap64 (a4 - x13_1)) : Int).toNat) x13_1).bind fun t368 => (if (wrap64 ((wrap64 (2 * t368)) - x13_1)) > x12_1 then (sapperref15_Backward.l0 kj7 l0 a1 l2 a3 a4 x13_1 (wrap64 ((wrap64 (2 * t368)) - x13_1)) (wrap64 (x13_1 + 1))) else (sapperref15_Backward.l0 kj7 l0 a1 l2 a3 a4 x11_1 x12_1 (wrap64 (x13_1 + 1))))) else (none)) else (none)) else (none)) else (none)) = some r := by first | (rw [hji11] at H; exact H) | (simp only [hji11] at H ⊢; exact H)
       have hji11w : (IntKind.i64.wrap (a1 - x13_1)) = ji11 := (i64_w _).trans hji11
       by_cases c12 : 0 ≤ (ji11)
       ·rw [if_pos c12] at H
        have c12b0 := eq_true c12; have c12b1 : decide (0 ≤ (ji11)) = true := decide_eq_true c12; clear c12
        by_cases c13 : (ji11) ≤ (l0.length : Int)
        ·rw [if_pos c13] at H
         have c13b0 := eq_true c13; have c13b1 : decide ((ji11) ≤ (l0.length : Int)) = true := decide_eq_true c13; clear c13; obtain ⟨ji14, hji14⟩ : ∃ j_ : Int, (wrap64 (a4 - x13_1)) = j_ := ⟨_, rfl⟩
         replace H : (if 0 ≤ (ji14) then (if (ji14) ≤ (l2.length : Int) then ((sapperref15_alike.f kj7 (l0.drop ((ji11) : Int).toNat) (l2.drop ((ji14) : Int).toNat) x13_1).bind fun t368 => (if (wrap64 ((wrap64 (2 * t368)) - x13_1)) > x12_1 then (sapperref15_Backward.l0 kj7 l0 a1 l2 a3 a4 x13_1 (wrap64 ((wrap64 (2 * t368)) - x13_1)) (wrap64 (x13_1 + 1))) else (sapperref15_Backward.l0 kj7 l0 a1 l2 a3 a4 x11_1 x12_1 (wrap64 (x13_1 + 1))))) else (none)) else (none)) = some r := by first | (rw [hji14] at H; exact H) | (simp only [hji14] at H ⊢; exact H)
         have hji14w : (IntKind.i64.wrap (a4 - x13_1)) = ji14 := (i64_w _).trans hji14
         by_cases c15 : 0 ≤ (ji14)
         ·rw [if_pos c15] at H
          have c15b0 := eq_true c15; have c15b1 : decide (0 ≤ (ji14)) = true := decide_eq_true c15; clear c15
          by_cases c16 : (ji14) ≤ (l2.length : Int)
          ·rw [if_pos c16] at H
           have c16b0 := eq_true c16; have c16b1 : decide ((ji14) ≤ (l2.length : Int)) = true := decide_eq_true c16; clear c16; replace H := Option.bind_eq_some_iff.mp H; obtain ⟨t368, A170, H⟩ := H; replace H : (if (wrap64 ((wrap64 (2 * t368)) - x13_1)) > x12_1 then (sapperref15_Backward.l0 kj7 l0 a1 l2 a3 a4 x13_1 (wrap64 ((wrap64 (2 * t368)) - x13_1)) (wrap64 (x13_1 + 1))) else (sapperref15_Backward.l0 kj7 l0 a1 l2 a3 a4 x11_1 x12_1 (wrap64 (x13_1 + 1)))) = some r := H; have A17 := Aside0.mk A170; clear A170
           by_cases c18 : (wrap64 ((wrap64 (2 * t368)) - x13_1)) > x12_1
           ·rw [if_pos c18] at H
            have c18b0 : decide (x12_1 < (wrap64 ((wrap64 (2 * t368)) - x13_1))) = true := decide_eq_true c18; clear c18; have H' := Aside0.mk H; clear H; obtain ⟨i019, hi019, _, hsz19, _⟩ := info_parts info5; obtain ⟨A19, hcut19, hA19, hC19⟩ := print_drop_of (P := Try.prog) (Value.int .u8) 0 23 5 .i64 Try.underlying23 hi019 hsz19 A0 c0 l0 (ji11) (Qt) (Qt) HC0.out; have HR366 := Aside0.mk (Kd.C_of_reads (h1 := fun _ => rfl) (hA19 _ (Kd.reads_of_C HR0.out))); have HC366 := Aside0.mk hC19; clear hA19 hC19 hi019 hsz19; obtain ⟨i020, hi020, _, hsz20, _⟩ := info_parts info5; obtain ⟨A20, hcut20, hA20, hC20⟩ := print_drop_of (P := Try.prog) (Value.int .u8) 0 23 5 .i64 Try.underlying23 hi020 hsz20 A2 c2 l2 (ji14) (Qt) (Qt) HC2.out; have HR367 := Aside0.mk (Kd.C_of_reads (h1 := fun _ => rfl) (hA20 _ (Kd.reads_of_C HR2.out))); have HC367 := Aside0.mk hC20; clear hA20 hC20 hi020 hsz20
            go_wp2_with (fail)
            (repeat (go_quiet (first | (go_at_call 35; (try rw [show l0.length - ((ji11) : Int).toNat = (l0.drop ((ji11) : Int).toNat).length from List.length_drop.symm]); (try rw [show l2.length - ((ji14) : Int).toNat = (l2.drop ((ji14) : Int).toNat).length from List.length_drop.symm]); (with_reducible refine (sapperref15_alike.calls kj7 _ _ (l0.drop ((ji11) : Int).toNat) _ _ (l2.drop ((ji14) : Int).toNat) x13_1 t368 _ ?side1 ?side2 ?side3 ?side4 A17.out).mono ?_); (case side1 => exact HR366.out); (case side2 => exact HC366.out); (case side3 => exact HR367.out); (case side4 => exact HC367.out); rintro e w' ⟨rfl, ⟨nd, rfl⟩⟩; (try first | exact ⟨rfl, _, World.drewN_drewN _ _ _⟩ | exact ⟨rfl, _, Eq.trans (World.drewN_drewN _ _ _) (congrArg (World.drewN _) (Nat.add_assoc _ _ _))⟩))); try go_wp2_with (fail)))
            go_roundg kj7
            case measure => have := HK1.out; have := HJ7.out; omega
            case rel => exact ⟨(x13_1), (wrap64 ((wrap64 (2 * t368)) - x13_1)), (wrap64 (x13_1 + 1)), (rfl), (rfl), (rfl), H', ⟨by have := HK1.out; have := HJ7.out; omega⟩, by repeat (first | exact Drawn0.refl _ | apply Drawn0.step)⟩
           ·rw [if_neg c18] at H
            have c18b0 : decide (x12_1 < (wrap64 ((wrap64 (2 * t368)) - x13_1))) = false := decide_eq_false c18; clear c18; have H' := Aside0.mk H; clear H; obtain ⟨i021, hi021, _, hsz21, _⟩ := info_parts info5; obtain ⟨A21, hcut21, hA21, hC21⟩ := print_drop_of (P := Try.prog) (Value.int .u8) 0 23 5 .i64 Try.underlying23 hi021 hsz21 A0 c0 l0 (ji11) (Qt) (Qt) HC0.out; have HR366 := Aside0.mk (Kd.C_of_reads (h1 := fun _ => rfl) (hA21 _ (Kd.reads_of_C HR0.out))); have HC366 := Aside0.mk hC21; clear hA21 hC21 hi021 hsz21; obtain ⟨i022, hi022, _, hsz22, _⟩ := info_parts info5; obtain ⟨A22, hcut22, hA22, hC22⟩ := print_drop_of (P := Try.prog) (Value.int .u8) 0 23 5 .i64 Try.underlying23 hi022 hsz22 A2 c2 l2 (ji14) (Qt) (Qt) HC2.out; have HR367 := Aside0.mk (Kd.C_of_reads (h1 := fun _ => rfl) (hA22 _ (Kd.reads_of_C HR2.out))); have HC367 := Aside0.mk hC22; clear hA22 hC22 hi022 hsz22
            go_wp2_with (fail)
            (repeat (go_quiet (first | (go_at_call 35; (try rw [show l0.length - ((ji11) : Int).toNat = (l0.drop ((ji11) : Int).toNat).length from List.length_drop.symm]); (try rw [show l2.length - ((ji14) : Int).toNat = (l2.drop ((ji14) : Int).toNat).length from List.length_drop.symm]); (with_reducible refine (sapperref15_alike.calls kj7 _ _ (l0.drop ((ji11) : Int).toNat) _ _ (l2.drop ((ji14) : Int).toNat) x13_1 t368 _ ?side1 ?side2 ?side3 ?side4 A17.out).mono ?_); (case side1 => exact HR366.out); (case side2 => exact HC366.out); (case side3 => exact HR367.out); (case side4 => exact HC367.out); rintro e w' ⟨rfl, ⟨nd, rfl⟩⟩; (try first | exact ⟨rfl, _, World.drewN_drewN _ _ _⟩ | exact ⟨rfl, _, Eq.trans (World.drewN_drewN _ _ _) (congrArg (World.drewN _) (Nat.add_assoc _ _ _))⟩))); try go_wp2_with (fail)))
            go_roundg kj7
            case measure => have := HK1.out; have := HJ7.out; omega
            case rel => exact ⟨(x11_1), (x12_1), (wrap64 (x13_1 + 1)), (rfl), (rfl), (rfl), H', ⟨by have := HK1.out; have := HJ7.out; omega⟩, by repeat (first | exact Drawn0.refl _ | apply Drawn0.step)⟩
          (· (rw [if_neg c16] at H; exact absurd H (by simp)))
         (· (rw [if_neg c15] at H; exact absurd H (by simp)))
        (· (rw [if_neg c13] at H; exact absurd H (by simp)))
       (· (rw [if_neg c12] at H; exact absurd H (by simp)))
      ·replace c10 := Bool.eq_false_iff.mpr c10
       subst c10
       have H1 : (some x11_1) = some r := by rw [if_neg (show ¬ (false = true) by decide)] at H; exact H
       clear H; have H := H1; clear H1; obtain rfl := Option.some.inj H
       go_wp2
       (repeat (go_quiet (fail); try go_wp2))
       go_ret
       exact ⟨rfl, by repeat (first | exact Drawn0.refl _ | apply Drawn0.step)⟩
 ·replace c7 := Bool.eq_false_iff.mpr c7
  subst c7
  have H1 : (some 0) = some r := by rw [if_neg (show ¬ (false = true) by decide)] at H; exact H
  clear H; have H := H1; clear H1; obtain rfl := Option.some.inj H
  go_enter Try.func20, Try.ntmps20
  go_wp2_with (first | (go_at_call 34; (with_reducible refine (sapperref15_within.calls a1 _ _ l0 a3 a4 _ _ l2 false _ ?side1 ?side2 ?side3 ?side4 A6.out).mono ?_); (case side1 => exact HR0.out); (case side2 => exact HC0.out); (case side3 => exact HR2.out); (case side4 => exact HC2.out); rintro e w' ⟨rfl, ⟨nd, rfl⟩⟩; (try first | exact ⟨rfl, _, World.drewN_drewN _ _ _⟩ | exact ⟨rfl, _, Eq.trans (World.drewN_drewN _ _ _) (congrArg (World.drewN _) (Nat.add_assoc _ _ _))⟩)))
  (repeat (go_quiet (fail); try go_wp2_with (fail)))
  go_ret
  exact ⟨rfl, by repeat (first | exact Drawn0.refl _ | apply Drawn0.step)⟩

end Go.Proofs.Ytobknpeglagaaaa.X
