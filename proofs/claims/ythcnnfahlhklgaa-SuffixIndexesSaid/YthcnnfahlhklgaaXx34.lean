-- Printed by wip/xprint.py of this repo (a wrapper of the session's own round the print).
import Derived.Test.YthcnnfahlhklgaaXx0
import Derived.Test.YthcnnfahlhklgaaXBA
import Derived.Test.YthcnnfahlhklgaaXx23
import Derived.Test.YthcnnfahlhklgaaXx24
import Derived.Test.YthcnnfahlhklgaaXx25
namespace Go.Proofs.Ythcnnfahlhklgaa.X
open Go.RowKit Go.Proofs.YthcnnfahlhklgaaW.PrintWords Go.Proofs.YthcnnfahlhklgaaW.PrintLast Go.Proofs.YthcnnfahlhklgaaW.PrintMore
attribute [local go_sem] ptrOf_eql ptrOf_neq ptrOf_eqg ptrOf_neg str_leq str_geq str_gtr max2_int min2_int max_two min_two max_three min_three max_four min_four   -- for this text's walks alone
set_option linter.unusedVariables false
set_option linter.unusedSimpArgs false

/-! ### sapperref13_Repeat: function 42 -/
mutual
def sapperref13_Repeat.l0 : Nat → List Int → Int → Int → List Int → List Int → Int → Int → Option (Int × Int)
 | 0, _, _, _, _, _, _, _ => none
 | k + 1, x0, x5, x6, x11, x13, x14, x15 => if x15 < x14 then (if 0 ≤ x15 then (if x15 < (x13.length : Int) then (if (rd x13 x15) > x5 then (if x15 < (x11.length : Int) then (sapperref13_Repeat.l0 k x0 (rd x13 x15) (rd x11 x15) x11 x13 x14 (wrap64 (x15 + 1))) else (none)) else (sapperref13_Repeat.l0 k x0 x5 x6 x11 x13 x14 (wrap64 (x15 + 1)))) else (none)) else (none)) else (if x5 = 0 then (some (0, 0)) else (sapperref13_Repeat.l1 k x0 x5 x6 (x0.length : Int) 0))
def sapperref13_Repeat.l1 : Nat → List Int → Int → Int → Int → Int → Option (Int × Int)
 | 0, _, _, _, _, _ => none
 | k + 1, x0, x5, x6, x32, x33 => if x33 < x32 then (if 0 ≤ x33 then (if x33 ≤ (x0.length : Int) then (if 0 ≤ x6 then (if x6 ≤ (x0.length : Int) then ((sapperref13_Common.f k (x0.drop (x33 : Int).toNat) (x0.drop (x6 : Int).toNat)).bind fun t415 => (if t415 ≥ x5 then (some (x33, x5)) else (sapperref13_Repeat.l1 k x0 x5 x6 x32 (wrap64 (x33 + 1))))) else (none)) else (none)) else (none)) else (none)) else (some (0, 0))
end
def sapperref13_Repeat.f (k : Nat) (l0 : List Int) : Option (Int × Int) := (sapperref13_Array.f k l0).bind fun t405 => ((sapperref13_Lcp.f k l0).bind fun t408 => (sapperref13_Repeat.l0 k l0 0 0 t405 t408 (t408.length : Int) 0))
theorem sapperref13_Repeat.mono_l : ∀ k, (∀ y0 y1 y2 y3 y4 y5 y6, LeO (sapperref13_Repeat.l0 k y0 y1 y2 y3 y4 y5 y6) (sapperref13_Repeat.l0 (k + 1) y0 y1 y2 y3 y4 y5 y6)) ∧ (∀ y0 y1 y2 y3 y4, LeO (sapperref13_Repeat.l1 k y0 y1 y2 y3 y4) (sapperref13_Repeat.l1 (k + 1) y0 y1 y2 y3 y4))
 | 0 => ⟨fun _ _ _ _ _ _ _ r h => by simp [sapperref13_Repeat.l0] at h, fun _ _ _ _ _ r h => by simp [sapperref13_Repeat.l1] at h⟩
 | k + 1 => by
  obtain ⟨ih0, ih1⟩ := sapperref13_Repeat.mono_l k
  refine ⟨?_, ?_⟩
  intro y0 y1 y2 y3 y4 y5 y6; unfold sapperref13_Repeat.l0; rotate_left
  intro y0 y1 y2 y3 y4; unfold sapperref13_Repeat.l1; rotate_left
  all_goals
   repeat' first
   | (with_reducible exact ih0 _ _ _ _ _ _ _)
   | (with_reducible exact ih1 _ _ _ _ _)
   | (with_reducible exact sapperref13_Array.mono _ _)
   | (with_reducible exact sapperref13_Common.mono _ _ _)
   | (with_reducible exact sapperref13_Lcp.mono _ _)
   | (with_reducible exact LeO.refl _)
   | (with_reducible exact LeO.none _)
   | (with_reducible refine LeO.ite ?_ ?_)
   | (with_reducible refine LeO.bind ?_ (fun _ => ?_))
   | exact ih0 _ _ _ _ _ _ _
   | exact ih1 _ _ _ _ _
   | exact sapperref13_Array.mono _ _
   | exact sapperref13_Common.mono _ _ _
   | exact sapperref13_Lcp.mono _ _
   | exact LeO.none _
   | refine LeO.ite ?_ ?_
   | refine LeO.bind ?_ (fun _ => ?_)
theorem sapperref13_Repeat.mono : ∀ a0 k, LeO (sapperref13_Repeat.f k a0) (sapperref13_Repeat.f (k + 1) a0) := by
 intro a0 k
 obtain ⟨ih0, ih1⟩ := sapperref13_Repeat.mono_l k
 unfold sapperref13_Repeat.f
 repeat' first
   | (with_reducible exact ih0 _ _ _ _ _ _ _)
   | (with_reducible exact ih1 _ _ _ _ _)
   | (with_reducible exact sapperref13_Array.mono _ _)
   | (with_reducible exact sapperref13_Common.mono _ _ _)
   | (with_reducible exact sapperref13_Lcp.mono _ _)
   | (with_reducible exact LeO.refl _)
   | (with_reducible exact LeO.none _)
   | (with_reducible refine LeO.ite ?_ ?_)
   | (with_reducible refine LeO.bind ?_ (fun _ => ?_))
   | exact ih0 _ _ _ _ _ _ _
   | exact ih1 _ _ _ _ _
   | exact sapperref13_Array.mono _ _
   | exact sapperref13_Common.mono _ _ _
   | exact sapperref13_Lcp.mono _ _
   | exact LeO.none _
   | refine LeO.ite ?_ ?_
   | refine LeO.bind ?_ (fun _ => ?_)
set_option maxHeartbeats 8000000 in
set_option maxRecDepth 100000 in
theorem sapperref13_Repeat.calls (k : Nat) (A0 : Option Addr) (c0 : Nat) (l0 : List Int) (r1 : Int) (r2 : Int) (w : World) (hr0 : Kd.C (Kd.int .u8) w A0 l0.length l0) (hc0 : l0.length ≤ c0) (h : sapperref13_Repeat.f k l0 = some (r1, r2)) :
  Calls Try.prog 42 #[.slice A0 l0.length c0] w fun e w' => e = .returned (.tuple #[.int .i64 r1, .int .i64 r2]) ∧ Below w.heap.size w w' := by
 have HR0 := Aside0.mk hr0
 have HC0 := Aside0.mk hc0
 clear hr0 hc0
 have HB := Aside0.mk (Below.refl w.heap.size w)
 have H : ((sapperref13_Array.f k l0).bind fun t405 => ((sapperref13_Lcp.f k l0).bind fun t408 => (sapperref13_Repeat.l0 k l0 0 0 t405 t408 (t408.length : Int) 0))) = some (r1, r2) := h
 clear h
 replace H := Option.bind_eq_some_iff.mp H
 obtain ⟨t405, A20, H⟩ := H
 replace H : ((sapperref13_Lcp.f k l0).bind fun t408 => (sapperref13_Repeat.l0 k l0 0 0 t405 t408 (t408.length : Int) 0)) = some (r1, r2) := H
 have A2 := Aside0.mk A20
 clear A20
 replace H := Option.bind_eq_some_iff.mp H
 obtain ⟨t408, A30, H⟩ := H
 replace H : (sapperref13_Repeat.l0 k l0 0 0 t405 t408 (t408.length : Int) 0) = some (r1, r2) := H
 have A3 := Aside0.mk A30
 clear A30
 have H' := Aside0.mk H
 clear H
 go_enter Try.func42, Try.ntmps42
 go_wp2_with (first | (go_at_call 28; (with_reducible refine (sapperref13_Array.calls k _ _ l0 t405 _ ?side1 ?side2 A2.out).mono ?_); (case side1 => exact HR0.out); (case side2 => exact HC0.out); rintro e w4 ⟨v406, rfl, ho0, hb⟩; have n0_ := Aside0.mk (Kd.R_lower ho0 (below_size HB.out)); have n1_ := Aside0.mk (below_step HB.out hb); clear HB; have HO407 := n0_; have HB := n1_; clear n0_ n1_) | (go_at_call 29; (with_reducible refine (sapperref13_Lcp.calls k _ _ l0 t408 _ ?side1 ?side2 A3.out).mono ?_); (case side1 => exact (Kd.C_below HR0.out HB.out)); (case side2 => exact HC0.out); rintro e w5 ⟨v409, rfl, ho0, hb⟩; have n0_ := Aside0.mk (Kd.R_elder' HO407.out (Kd.R_base ho0) hb); have n1_ := Aside0.mk (Kd.R_lower (Kd.R_new' ho0 (Kd.R_lt HO407.out)) (below_size HB.out)); have n2_ := Aside0.mk (below_step HB.out hb); clear HO407; clear HB; have HO407 := n0_; have HO410 := n1_; have HB := n2_; clear n0_ n1_ n2_; obtain ⟨Ao6, co6, eo6⟩ := Kd.R_slice HO410.out; subst eo6))
 repeat (go_quiet (first | (go_at_call 28; (with_reducible refine (sapperref13_Array.calls k _ _ l0 t405 _ ?side1 ?side2 A2.out).mono ?_); (case side1 => exact HR0.out); (case side2 => exact HC0.out); rintro e w4 ⟨v406, rfl, ho0, hb⟩; have n0_ := Aside0.mk (Kd.R_lower ho0 (below_size HB.out)); have n1_ := Aside0.mk (below_step HB.out hb); clear HB; have HO407 := n0_; have HB := n1_; clear n0_ n1_) | (go_at_call 29; (with_reducible refine (sapperref13_Lcp.calls k _ _ l0 t408 _ ?side1 ?side2 A3.out).mono ?_); (case side1 => exact (Kd.C_below HR0.out HB.out)); (case side2 => exact HC0.out); rintro e w5 ⟨v409, rfl, ho0, hb⟩; have n1_ := Aside0.mk (Kd.R_lower (Kd.R_new' ho0 (Kd.R_lt HO407.out)) (below_size HB.out)); have n2_ := Aside0.mk (below_step HB.out hb); clear HB; have HO410 := n1_; have HB := n2_; clear n1_ n2_; obtain ⟨Ao6, co6, eo6⟩ := Kd.R_slice HO410.out; subst eo6)); try go_wp2_with (first | (go_at_call 28; (with_reducible refine (sapperref13_Array.calls k _ _ l0 t405 _ ?side1 ?side2 A2.out).mono ?_); (case side1 => exact HR0.out); (case side2 => exact HC0.out); rintro e w4 ⟨v406, rfl, ho0, hb⟩; have n0_ := Aside0.mk (Kd.R_lower ho0 (below_size HB.out)); have n1_ := Aside0.mk (below_step HB.out hb); clear HB; have HO407 := n0_; have HB := n1_; clear n0_ n1_) | (go_at_call 29; (with_reducible refine (sapperref13_Lcp.calls k _ _ l0 t408 _ ?side1 ?side2 A3.out).mono ?_); (case side1 => exact (Kd.C_below HR0.out HB.out)); (case side2 => exact HC0.out); rintro e w5 ⟨v409, rfl, ho0, hb⟩; have n0_ := Aside0.mk (Kd.R_elder' HO407.out (Kd.R_base ho0) hb); have n1_ := Aside0.mk (Kd.R_lower (Kd.R_new' ho0 (Kd.R_lt HO407.out)) (below_size HB.out)); have n2_ := Aside0.mk (below_step HB.out hb); clear HO407; clear HB; have HO407 := n0_; have HO410 := n1_; have HB := n2_; clear n0_ n1_ n2_; obtain ⟨Ao6, co6, eo6⟩ := Kd.R_slice HO410.out; subst eo6)))
 go_loopg [5, 6, 15] k (fun kq v5 v6 v15 w' => ∃ (x5_1 : Int) (x6_1 : Int) (x15_1 : Int), v5 = .int .i64 x5_1 ∧ v6 = .int .i64 x6_1 ∧ v15 = .int .i64 x15_1 ∧ Aside0 (sapperref13_Repeat.l0 kq l0 x5_1 x6_1 t405 t408 (t408.length : Int) x15_1 = some (r1, r2)) ∧ Aside0 (kq ≤ k) ∧ Aside0 (Kd.R (Kd.int .i64) 3 w' w.heap.size (fun k_ => some k_ ≠ ((.slice Ao6 t408.length co6) : Value).ownBlock) v406 t405) ∧ Aside0 (Kd.R (Kd.int .i64) 3 w' w.heap.size (fun k_ => some k_ ≠ (v406 : Value).ownBlock) (.slice Ao6 t408.length co6) t408) ∧ Aside0 (Below w.heap.size w w'))
 case atStart => exact ⟨(0), (0), (0), (rfl), (rfl), (rfl), H', ⟨Nat.le_refl _⟩, ⟨by (with_reducible repeat first|apply Qa|apply Qb|apply Qc); exact Kd.R_mono HO407.out (fun _ hk => hk.2)⟩, ⟨by (with_reducible repeat first|apply Qa|apply Qb|apply Qc); exact Kd.R_mono HO410.out (fun _ hk => hk.2)⟩, ⟨HB.out⟩⟩
 case round =>
  clear H'
  try clear p2
  try clear c4
  obtain ⟨x5_1, x6_1, x15_1, rfl, rfl, rfl, HA, HK1, HO_11, HO_13, HB⟩ := hrel
  cases gk with
  | zero => exact absurd HA.out (by simp [sapperref13_Repeat.l0])
  | succ k1 =>
   have H := HA.out
   clear HA
   simp only [sapperref13_Repeat.l0] at H
   by_cases c7 : x15_1 < (t408.length : Int)
   ·rw [if_pos c7] at H
    have c7b0 : decide (x15_1 < (t408.length : Int)) = true := decide_eq_true c7
    clear c7
    by_cases c8 : 0 ≤ x15_1
    ·rw [if_pos c8] at H
     have c8b0 : decide (0 ≤ x15_1) = true := decide_eq_true c8
     clear c8
     by_cases c9 : x15_1 < (t408.length : Int)
     ·rw [if_pos c9] at H
      have c9b0 : decide (x15_1 < (t408.length : Int)) = true := decide_eq_true c9
      clear c9
      by_cases c10 : (rd t408 x15_1) > x5_1
      ·rw [if_pos c10] at H
       have c10b0 : decide (x5_1 < (rd t408 x15_1)) = true := decide_eq_true c10
       clear c10
       by_cases c11 : x15_1 < (t405.length : Int)
       ·rw [if_pos c11] at H
        have c11b0 : decide (x15_1 < (t405.length : Int)) = true := decide_eq_true c11
        clear c11
        have H' := Aside0.mk H
        clear H
        have p411 : 0 ≤ (x15_1 : Int) := Qt
        have q411 : x15_1 < (t408.length : Int) := Qt
        obtain ⟨ad411, e411, hx411_0⟩ := Kd.at_int (Kd.R_reads' HO_13.out).2.2 x15_1 p411 q411
        cases e411
        replace p411 := eq_true p411
        replace q411 := eq_true q411
        obtain ⟨Ao12, co12, eo12⟩ := Kd.R_slice HO_11.out
        subst eo12
        have p412 : 0 ≤ (x15_1 : Int) := Qt
        have q412 : x15_1 < (t405.length : Int) := Qt
        obtain ⟨ad412, e412, hx412_0⟩ := Kd.at_int (Kd.R_reads' HO_11.out).2.2 x15_1 p412 q412
        cases e412
        replace p412 := eq_true p412
        replace q412 := eq_true q412
        go_wp2
        repeat (go_quiet (fail); try go_wp2)
        go_roundg k1
        case measure => have := HK1.out; omega
        case rel => exact ⟨(rd t408 x15_1), (rd t405 x15_1), (wrap64 (x15_1 + 1)), (by first | rfl | (simp; done) | (simp [*]; done)), (by first | rfl | (simp; done) | (simp [*]; done)), (by first | rfl | (simp; done) | (simp [*]; done)), H', ⟨by have := HK1.out; omega⟩, ⟨by (with_reducible repeat first|apply Qa|apply Qb|apply Qc); exact HO_11.out⟩, ⟨by (with_reducible repeat first|apply Qa|apply Qb|apply Qc); exact HO_13.out⟩, ⟨by repeat first|(with_reducible first|exact HB.out|apply Qg|apply Qh|apply Qi)|exact HB.out⟩⟩
       ·rw [if_neg c11] at H
        exact absurd H (by simp)
      ·rw [if_neg c10] at H
       have c10b0 : decide (x5_1 < (rd t408 x15_1)) = false := decide_eq_false c10
       clear c10
       have H' := Aside0.mk H
       clear H
       have p411 : 0 ≤ (x15_1 : Int) := Qt
       have q411 : x15_1 < (t408.length : Int) := Qt
       obtain ⟨ad411, e411, hx411_0⟩ := Kd.at_int (Kd.R_reads' HO_13.out).2.2 x15_1 p411 q411
       cases e411
       replace p411 := eq_true p411
       replace q411 := eq_true q411
       go_wp2
       repeat (go_quiet (fail); try go_wp2)
       go_roundg k1
       case measure => have := HK1.out; omega
       case rel => exact ⟨(x5_1), (x6_1), (wrap64 (x15_1 + 1)), (rfl), (rfl), (rfl), H', ⟨by have := HK1.out; omega⟩, ⟨by (with_reducible repeat first|apply Qa|apply Qb|apply Qc); exact HO_11.out⟩, ⟨by (with_reducible repeat first|apply Qa|apply Qb|apply Qc); exact HO_13.out⟩, ⟨HB.out⟩⟩
     ·rw [if_neg c9] at H
      exact absurd H (by simp)
    ·rw [if_neg c8] at H
     exact absurd H (by simp)
   ·rw [if_neg c7] at H
    have c7b0 : decide (x15_1 < (t408.length : Int)) = false := decide_eq_false c7
    clear c7
    by_cases c13 : x5_1 = 0
    ·rw [if_pos c13] at H
     have c13b0 : (x5_1 == 0) = true := beq_iff_eq.mpr c13
     have c13b1 : (x5_1 != 0) = false := bne_eq_false_iff_eq.mpr c13
     clear c13
     simp only [Option.some.injEq, Prod.mk.injEq] at H
     obtain ⟨rfl, rfl⟩ := H
     go_wp2
     repeat (go_quiet (fail); try go_wp2)
     go_ret2
     exact ⟨rfl, HB.out⟩
    ·rw [if_neg c13] at H
     have c13b0 : (x5_1 == 0) = false := beq_eq_false_iff_ne.mpr c13
     have c13b1 : (x5_1 != 0) = true := bne_iff_ne.mpr c13
     have H' := Aside0.mk H
     clear H
     go_wp2
     repeat (go_quiet (fail); try go_wp2)
     go_loopg [33] k1 (fun kq v33 w' => ∃ (x33_2 : Int), v33 = .int .i64 x33_2 ∧ Aside0 (sapperref13_Repeat.l1 kq l0 x5_1 x6_1 (l0.length : Int) x33_2 = some (r1, r2)) ∧ Aside0 (kq ≤ k1) ∧ Aside0 (Below w.heap.size w w'))
     case atStart => exact ⟨(0), (rfl), H', ⟨Nat.le_refl _⟩, ⟨HB.out⟩⟩
     case round =>
      clear H'
      try clear c1
      try clear p2
      try clear c4
      try clear p4
      try clear q4
      try clear hx4
      try clear p6
      try clear c7
      try clear c7b0
      try clear c8
      try clear c8b0
      try clear c9
      try clear c9b0
      try clear c10
      try clear c10b0
      try clear c11
      try clear c11b0
      try clear c13
      try clear c13b0
      try clear c13b1
      try clear hx411_0
      try clear hx412_0
      try clear p2
      try clear p411
      try clear p412
      try clear q411
      try clear q412
      obtain ⟨x33_2, rfl, HA, HK2, HB⟩ := hrel
      cases gk with
      | zero => exact absurd HA.out (by simp [sapperref13_Repeat.l1])
      | succ k2 =>
       have H := HA.out
       clear HA
       simp only [sapperref13_Repeat.l1] at H
       by_cases c14 : x33_2 < (l0.length : Int)
       ·rw [if_pos c14] at H
        have c14b0 : decide (x33_2 < (l0.length : Int)) = true := decide_eq_true c14
        clear c14
        by_cases c15 : 0 ≤ x33_2
        ·rw [if_pos c15] at H
         have c15b0 := eq_true c15
         have c15b1 : decide (0 ≤ x33_2) = true := decide_eq_true c15
         clear c15
         by_cases c16 : x33_2 ≤ (l0.length : Int)
         ·rw [if_pos c16] at H
          have c16b0 := eq_true c16
          have c16b1 : decide (x33_2 ≤ (l0.length : Int)) = true := decide_eq_true c16
          clear c16
          by_cases c17 : 0 ≤ x6_1
          ·rw [if_pos c17] at H
           have c17b0 := eq_true c17
           have c17b1 : decide (0 ≤ x6_1) = true := decide_eq_true c17
           clear c17
           by_cases c18 : x6_1 ≤ (l0.length : Int)
           ·rw [if_pos c18] at H
            have c18b0 := eq_true c18
            have c18b1 : decide (x6_1 ≤ (l0.length : Int)) = true := decide_eq_true c18
            clear c18
            replace H := Option.bind_eq_some_iff.mp H
            obtain ⟨t415, A190, H⟩ := H
            replace H : (if t415 ≥ x5_1 then (some (x33_2, x5_1)) else (sapperref13_Repeat.l1 k2 l0 x5_1 x6_1 (l0.length : Int) (wrap64 (x33_2 + 1)))) = some (r1, r2) := H
            have A19 := Aside0.mk A190
            clear A190
            by_cases c20 : t415 ≥ x5_1
            ·rw [if_pos c20] at H
             have c20b0 : decide (x5_1 ≤ t415) = true := decide_eq_true c20
             clear c20
             simp only [Option.some.injEq, Prod.mk.injEq] at H
             obtain ⟨rfl, rfl⟩ := H
             obtain ⟨i021, hi021, _, hsz21, _⟩ := info_parts info5
             obtain ⟨A21, hcut21, hA21, hC21⟩ := print_drop_of (P := Try.prog) (Value.int .u8) 0 23 5 .i64 Try.underlying23 hi021 hsz21 A0 c0 l0 x33_2 (Qt) (Qt) HC0.out
             have HR413 := Aside0.mk (Kd.C_of_reads (h1 := fun _ => rfl) (hA21 _ (Kd.reads_of_C HR0.out)))
             have HC413 := Aside0.mk hC21
             clear hA21 hC21 hi021 hsz21
             obtain ⟨i022, hi022, _, hsz22, _⟩ := info_parts info5
             obtain ⟨A22, hcut22, hA22, hC22⟩ := print_drop_of (P := Try.prog) (Value.int .u8) 0 23 5 .i64 Try.underlying23 hi022 hsz22 A0 c0 l0 x6_1 (Qt) (Qt) HC0.out
             have HR414 := Aside0.mk (Kd.C_of_reads (h1 := fun _ => rfl) (hA22 _ (Kd.reads_of_C HR0.out)))
             have HC414 := Aside0.mk hC22
             clear hA22 hC22 hi022 hsz22
             go_wp2_with (first | (go_at_call 18; (try rw [show l0.length - (x33_2 : Int).toNat = (l0.drop (x33_2 : Int).toNat).length from List.length_drop.symm]); (try rw [show l0.length - (x6_1 : Int).toNat = (l0.drop (x6_1 : Int).toNat).length from List.length_drop.symm]); (with_reducible refine (sapperref13_Common.calls k2 _ _ (l0.drop (x33_2 : Int).toNat) _ _ (l0.drop (x6_1 : Int).toNat) t415 _ ?side1 ?side2 ?side3 ?side4 A19.out).mono ?_); (case side1 => repeat (first | exact (Kd.C_below HR413.out HB.out) | (with_reducible first|refine Qd ?_ _|refine Qe ?_ _|refine Qf ?_))); (case side2 => exact HC413.out); (case side3 => repeat (first | exact (Kd.C_below HR414.out HB.out) | (with_reducible first|refine Qd ?_ _|refine Qe ?_ _|refine Qf ?_))); (case side4 => exact HC414.out); rintro e w' ⟨rfl, ⟨nd, rfl⟩⟩; (try first | exact ⟨rfl, _, World.drewN_drewN _ _ _⟩ | exact ⟨rfl, _, Eq.trans (World.drewN_drewN _ _ _) (congrArg (World.drewN _) (Nat.add_assoc _ _ _))⟩)))
             repeat (go_quiet (first | (go_at_call 18; (try rw [show l0.length - (x33_2 : Int).toNat = (l0.drop (x33_2 : Int).toNat).length from List.length_drop.symm]); (try rw [show l0.length - (x6_1 : Int).toNat = (l0.drop (x6_1 : Int).toNat).length from List.length_drop.symm]); (with_reducible refine (sapperref13_Common.calls k2 _ _ (l0.drop (x33_2 : Int).toNat) _ _ (l0.drop (x6_1 : Int).toNat) t415 _ ?side1 ?side2 ?side3 ?side4 A19.out).mono ?_); (case side1 => repeat (first | exact (Kd.C_below HR413.out HB.out) | (with_reducible first|refine Qd ?_ _|refine Qe ?_ _|refine Qf ?_))); (case side2 => exact HC413.out); (case side3 => repeat (first | exact (Kd.C_below HR414.out HB.out) | (with_reducible first|refine Qd ?_ _|refine Qe ?_ _|refine Qf ?_))); (case side4 => exact HC414.out); rintro e w' ⟨rfl, ⟨nd, rfl⟩⟩; (try first | exact ⟨rfl, _, World.drewN_drewN _ _ _⟩ | exact ⟨rfl, _, Eq.trans (World.drewN_drewN _ _ _) (congrArg (World.drewN _) (Nat.add_assoc _ _ _))⟩))); try go_wp2_with (first | (go_at_call 18; (try rw [show l0.length - (x33_2 : Int).toNat = (l0.drop (x33_2 : Int).toNat).length from List.length_drop.symm]); (try rw [show l0.length - (x6_1 : Int).toNat = (l0.drop (x6_1 : Int).toNat).length from List.length_drop.symm]); (with_reducible refine (sapperref13_Common.calls k2 _ _ (l0.drop (x33_2 : Int).toNat) _ _ (l0.drop (x6_1 : Int).toNat) t415 _ ?side1 ?side2 ?side3 ?side4 A19.out).mono ?_); (case side1 => repeat (first | exact (Kd.C_below HR413.out HB.out) | (with_reducible first|refine Qd ?_ _|refine Qe ?_ _|refine Qf ?_))); (case side2 => exact HC413.out); (case side3 => repeat (first | exact (Kd.C_below HR414.out HB.out) | (with_reducible first|refine Qd ?_ _|refine Qe ?_ _|refine Qf ?_))); (case side4 => exact HC414.out); rintro e w' ⟨rfl, ⟨nd, rfl⟩⟩; (try first | exact ⟨rfl, _, World.drewN_drewN _ _ _⟩ | exact ⟨rfl, _, Eq.trans (World.drewN_drewN _ _ _) (congrArg (World.drewN _) (Nat.add_assoc _ _ _))⟩))))
             go_ret2
             exact ⟨by first | rfl | (simp [errW_none, errW_some] <;> rfl) | (simp [*, errW_none, errW_some] <;> rfl), by repeat first|(with_reducible first|exact HB.out|apply Qg|apply Qh|apply Qi)|exact HB.out⟩
            ·rw [if_neg c20] at H
             have c20b0 : decide (x5_1 ≤ t415) = false := decide_eq_false c20
             clear c20
             have H' := Aside0.mk H
             clear H
             obtain ⟨i023, hi023, _, hsz23, _⟩ := info_parts info5
             obtain ⟨A23, hcut23, hA23, hC23⟩ := print_drop_of (P := Try.prog) (Value.int .u8) 0 23 5 .i64 Try.underlying23 hi023 hsz23 A0 c0 l0 x33_2 (Qt) (Qt) HC0.out
             have HR413 := Aside0.mk (Kd.C_of_reads (h1 := fun _ => rfl) (hA23 _ (Kd.reads_of_C HR0.out)))
             have HC413 := Aside0.mk hC23
             clear hA23 hC23 hi023 hsz23
             obtain ⟨i024, hi024, _, hsz24, _⟩ := info_parts info5
             obtain ⟨A24, hcut24, hA24, hC24⟩ := print_drop_of (P := Try.prog) (Value.int .u8) 0 23 5 .i64 Try.underlying23 hi024 hsz24 A0 c0 l0 x6_1 (Qt) (Qt) HC0.out
             have HR414 := Aside0.mk (Kd.C_of_reads (h1 := fun _ => rfl) (hA24 _ (Kd.reads_of_C HR0.out)))
             have HC414 := Aside0.mk hC24
             clear hA24 hC24 hi024 hsz24
             go_wp2_with (first | (go_at_call 18; (try rw [show l0.length - (x33_2 : Int).toNat = (l0.drop (x33_2 : Int).toNat).length from List.length_drop.symm]); (try rw [show l0.length - (x6_1 : Int).toNat = (l0.drop (x6_1 : Int).toNat).length from List.length_drop.symm]); (with_reducible refine (sapperref13_Common.calls k2 _ _ (l0.drop (x33_2 : Int).toNat) _ _ (l0.drop (x6_1 : Int).toNat) t415 _ ?side1 ?side2 ?side3 ?side4 A19.out).mono ?_); (case side1 => repeat (first | exact (Kd.C_below HR413.out HB.out) | (with_reducible first|refine Qd ?_ _|refine Qe ?_ _|refine Qf ?_))); (case side2 => exact HC413.out); (case side3 => repeat (first | exact (Kd.C_below HR414.out HB.out) | (with_reducible first|refine Qd ?_ _|refine Qe ?_ _|refine Qf ?_))); (case side4 => exact HC414.out); rintro e w' ⟨rfl, ⟨nd, rfl⟩⟩; (try first | exact ⟨rfl, _, World.drewN_drewN _ _ _⟩ | exact ⟨rfl, _, Eq.trans (World.drewN_drewN _ _ _) (congrArg (World.drewN _) (Nat.add_assoc _ _ _))⟩)))
             repeat (go_quiet (first | (go_at_call 18; (try rw [show l0.length - (x33_2 : Int).toNat = (l0.drop (x33_2 : Int).toNat).length from List.length_drop.symm]); (try rw [show l0.length - (x6_1 : Int).toNat = (l0.drop (x6_1 : Int).toNat).length from List.length_drop.symm]); (with_reducible refine (sapperref13_Common.calls k2 _ _ (l0.drop (x33_2 : Int).toNat) _ _ (l0.drop (x6_1 : Int).toNat) t415 _ ?side1 ?side2 ?side3 ?side4 A19.out).mono ?_); (case side1 => repeat (first | exact (Kd.C_below HR413.out HB.out) | (with_reducible first|refine Qd ?_ _|refine Qe ?_ _|refine Qf ?_))); (case side2 => exact HC413.out); (case side3 => repeat (first | exact (Kd.C_below HR414.out HB.out) | (with_reducible first|refine Qd ?_ _|refine Qe ?_ _|refine Qf ?_))); (case side4 => exact HC414.out); rintro e w' ⟨rfl, ⟨nd, rfl⟩⟩; (try first | exact ⟨rfl, _, World.drewN_drewN _ _ _⟩ | exact ⟨rfl, _, Eq.trans (World.drewN_drewN _ _ _) (congrArg (World.drewN _) (Nat.add_assoc _ _ _))⟩))); try go_wp2_with (first | (go_at_call 18; (try rw [show l0.length - (x33_2 : Int).toNat = (l0.drop (x33_2 : Int).toNat).length from List.length_drop.symm]); (try rw [show l0.length - (x6_1 : Int).toNat = (l0.drop (x6_1 : Int).toNat).length from List.length_drop.symm]); (with_reducible refine (sapperref13_Common.calls k2 _ _ (l0.drop (x33_2 : Int).toNat) _ _ (l0.drop (x6_1 : Int).toNat) t415 _ ?side1 ?side2 ?side3 ?side4 A19.out).mono ?_); (case side1 => repeat (first | exact (Kd.C_below HR413.out HB.out) | (with_reducible first|refine Qd ?_ _|refine Qe ?_ _|refine Qf ?_))); (case side2 => exact HC413.out); (case side3 => repeat (first | exact (Kd.C_below HR414.out HB.out) | (with_reducible first|refine Qd ?_ _|refine Qe ?_ _|refine Qf ?_))); (case side4 => exact HC414.out); rintro e w' ⟨rfl, ⟨nd, rfl⟩⟩; (try first | exact ⟨rfl, _, World.drewN_drewN _ _ _⟩ | exact ⟨rfl, _, Eq.trans (World.drewN_drewN _ _ _) (congrArg (World.drewN _) (Nat.add_assoc _ _ _))⟩))))
             go_roundg k2
             case measure => have := HK1.out; have := HK2.out; omega
             case rel => exact ⟨(wrap64 (x33_2 + 1)), (by first | rfl | (simp; done) | (simp [*]; done)), H', ⟨by have := HK1.out; have := HK2.out; omega⟩, ⟨by repeat first|(with_reducible first|exact HB.out|apply Qg|apply Qh|apply Qi)|exact HB.out⟩⟩
           ·rw [if_neg c18] at H
            exact absurd H (by simp)
          ·rw [if_neg c17] at H
           exact absurd H (by simp)
         ·rw [if_neg c16] at H
          exact absurd H (by simp)
        ·rw [if_neg c15] at H
         exact absurd H (by simp)
       ·rw [if_neg c14] at H
        have c14b0 : decide (x33_2 < (l0.length : Int)) = false := decide_eq_false c14
        clear c14
        simp only [Option.some.injEq, Prod.mk.injEq] at H
        obtain ⟨rfl, rfl⟩ := H
        go_wp2
        repeat (go_quiet (fail); try go_wp2)
        go_ret2
        exact ⟨rfl, HB.out⟩

end Go.Proofs.Ythcnnfahlhklgaa.X
