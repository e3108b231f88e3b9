-- Printed by wip/xprint.py of this repo (a wrapper of the session's own round the print).
import Derived.Test.YthcnnfahlhklgaaXx0
import Derived.Test.YthcnnfahlhklgaaXBA
import Derived.Test.YthcnnfahlhklgaaXx25
namespace Go.Proofs.Ythcnnfahlhklgaa.X
open Go.RowKit Go.Proofs.YthcnnfahlhklgaaW.PrintWords Go.Proofs.YthcnnfahlhklgaaW.PrintLast Go.Proofs.YthcnnfahlhklgaaW.PrintMore
attribute [local go_sem] ptrOf_eql ptrOf_neq ptrOf_eqg ptrOf_neg str_leq str_geq str_gtr max2_int min2_int max_two min_two max_three min_three max_four min_four   -- for this text's walks alone
set_option linter.unusedVariables false
set_option linter.unusedSimpArgs false

/-! ### sapperref13_Unturn: function 38 -/
mutual
def sapperref13_Unturn.j0 : Nat → List Int → Int → Bool → Option (List Int × Int)
 | 0, _, _, _ => none
 | k + 1, x0, x1, x26 => if x26 = true then (some (([] : List Int), 132)) else (if 0 ≤ (x0.length : Int) then (if ((x0.length : Int) : Int).toNat ≤ 281474976710656 then (sapperref13_Unturn.l0 k x0 x1 0 (wrap64 ((x0.length : Int) - 1)) (List.replicate ((x0.length : Int) : Int).toNat 0)) else (none)) else (none))
def sapperref13_Unturn.l0 : Nat → List Int → Int → Int → Int → List Int → Option (List Int × Int)
 | 0, _, _, _, _, _ => none
 | k + 1, x0, x1, x7, x8, x29 => if x8 ≥ 0 then (if x7 = x1 then (some (([] : List Int), 131)) else (if x7 > x1 then (sapperref13_Unturn.j2 k x0 x1 x29 x8 (wrap64 (x7 - 1))) else (sapperref13_Unturn.j2 k x0 x1 x29 x8 x7))) else (if x7 = x1 then ((sapperref13_Turn.f k x29).bind fun bt348 => (if bt348.2.1 = x1 then (if (strOfNums bt348.1).toList = (strOfNums x0).toList then (some (x29, 0)) else (some (([] : List Int), 131))) else (some (([] : List Int), 131)))) else (some (([] : List Int), 131)))
def sapperref13_Unturn.j2 : Nat → List Int → Int → List Int → Int → Int → Option (List Int × Int)
 | 0, _, _, _, _, _ => none
 | k + 1, x0, x1, x6, x8, x9 => if 0 ≤ x9 then (if x9 < (x0.length : Int) then (if 0 ≤ x8 then (if x8 < (x6.length : Int) then (sapperref13_Unturn.l1 k x0 x1 (x6.set (x8 : Int).toNat (rd x0 x9)) 1 x8 x9 (rd x0 x9) x0 (x0.length : Int) 0) else (none)) else (none)) else (none)) else (none)
def sapperref13_Unturn.l1 : Nat → List Int → Int → List Int → Int → Int → Int → Int → List Int → Int → Int → Option (List Int × Int)
 | 0, _, _, _, _, _, _, _, _, _, _ => none
 | k + 1, x0, x1, x6, x7, x8, x9, x10, x54, x55, x56 => if x56 < x55 then (if 0 ≤ x56 then (if x56 < (x54.length : Int) then (if (rd x54 x56) < x10 then (sapperref13_Unturn.l1 k x0 x1 x6 (wrap64 (x7 + 1)) x8 x9 x10 x54 x55 (wrap64 (x56 + 1))) else (if (rd x54 x56) = x10 then (if x56 < x9 then (sapperref13_Unturn.l1 k x0 x1 x6 (wrap64 (x7 + 1)) x8 x9 x10 x54 x55 (wrap64 (x56 + 1))) else (sapperref13_Unturn.l1 k x0 x1 x6 x7 x8 x9 x10 x54 x55 (wrap64 (x56 + 1)))) else (sapperref13_Unturn.l1 k x0 x1 x6 x7 x8 x9 x10 x54 x55 (wrap64 (x56 + 1))))) else (none)) else (none)) else (sapperref13_Unturn.l0 k x0 x1 x7 (wrap64 (x8 - 1)) x6)
end
def sapperref13_Unturn.f (k : Nat) (l0 : List Int) (a1 : Int) : Option (List Int × Int) := if (l0.length : Int) > 16777216 then (some (([] : List Int), 130)) else (if a1 < 0 then (sapperref13_Unturn.j0 k l0 a1 true) else (sapperref13_Unturn.j0 k l0 a1 (decide (a1 > (l0.length : Int)))))
theorem sapperref13_Unturn.mono_l : ∀ k, (∀ y0 y1 y2, LeO (sapperref13_Unturn.j0 k y0 y1 y2) (sapperref13_Unturn.j0 (k + 1) y0 y1 y2)) ∧ (∀ y0 y1 y2 y3 y4, LeO (sapperref13_Unturn.l0 k y0 y1 y2 y3 y4) (sapperref13_Unturn.l0 (k + 1) y0 y1 y2 y3 y4)) ∧ (∀ y0 y1 y2 y3 y4, LeO (sapperref13_Unturn.j2 k y0 y1 y2 y3 y4) (sapperref13_Unturn.j2 (k + 1) y0 y1 y2 y3 y4)) ∧ (∀ y0 y1 y2 y3 y4 y5 y6 y7 y8 y9, LeO (sapperref13_Unturn.l1 k y0 y1 y2 y3 y4 y5 y6 y7 y8 y9) (sapperref13_Unturn.l1 (k + 1) y0 y1 y2 y3 y4 y5 y6 y7 y8 y9))
 | 0 => ⟨fun _ _ _ r h => by simp [sapperref13_Unturn.j0] at h, fun _ _ _ _ _ r h => by simp [sapperref13_Unturn.l0] at h, fun _ _ _ _ _ r h => by simp [sapperref13_Unturn.j2] at h, fun _ _ _ _ _ _ _ _ _ _ r h => by simp [sapperref13_Unturn.l1] at h⟩
 | k + 1 => by
  obtain ⟨ih0, ih1, ih2, ih3⟩ := sapperref13_Unturn.mono_l k
  refine ⟨?_, ?_, ?_, ?_⟩
  intro y0 y1 y2; unfold sapperref13_Unturn.j0; rotate_left
  intro y0 y1 y2 y3 y4; unfold sapperref13_Unturn.l0; rotate_left
  intro y0 y1 y2 y3 y4; unfold sapperref13_Unturn.j2; rotate_left
  intro y0 y1 y2 y3 y4 y5 y6 y7 y8 y9; unfold sapperref13_Unturn.l1; rotate_left
  all_goals
   repeat' first
   | (with_reducible exact ih0 _ _ _)
   | (with_reducible exact ih1 _ _ _ _ _)
   | (with_reducible exact ih2 _ _ _ _ _)
   | (with_reducible exact ih3 _ _ _ _ _ _ _ _ _ _)
   | (with_reducible exact sapperref13_Turn.mono _ _)
   | (with_reducible exact LeO.refl _)
   | (with_reducible exact LeO.none _)
   | (with_reducible refine LeO.ite ?_ ?_)
   | (with_reducible refine LeO.bind ?_ (fun _ => ?_))
   | exact ih0 _ _ _
   | exact ih1 _ _ _ _ _
   | exact ih2 _ _ _ _ _
   | exact ih3 _ _ _ _ _ _ _ _ _ _
   | exact sapperref13_Turn.mono _ _
   | exact LeO.none _
   | refine LeO.ite ?_ ?_
   | refine LeO.bind ?_ (fun _ => ?_)
theorem sapperref13_Unturn.mono : ∀ a0 a1 k, LeO (sapperref13_Unturn.f k a0 a1) (sapperref13_Unturn.f (k + 1) a0 a1) := by
 intro a0 a1 k
 obtain ⟨ih0, ih1, ih2, ih3⟩ := sapperref13_Unturn.mono_l k
 unfold sapperref13_Unturn.f
 repeat' first
   | (with_reducible exact ih0 _ _ _)
   | (with_reducible exact ih1 _ _ _ _ _)
   | (with_reducible exact ih2 _ _ _ _ _)
   | (with_reducible exact ih3 _ _ _ _ _ _ _ _ _ _)
   | (with_reducible exact sapperref13_Turn.mono _ _)
   | (with_reducible exact LeO.refl _)
   | (with_reducible exact LeO.none _)
   | (with_reducible refine LeO.ite ?_ ?_)
   | (with_reducible refine LeO.bind ?_ (fun _ => ?_))
   | exact ih0 _ _ _
   | exact ih1 _ _ _ _ _
   | exact ih2 _ _ _ _ _
   | exact ih3 _ _ _ _ _ _ _ _ _ _
   | exact sapperref13_Turn.mono _ _
   | exact LeO.none _
   | refine LeO.ite ?_ ?_
   | refine LeO.bind ?_ (fun _ => ?_)
set_option maxHeartbeats 8000000 in
set_option maxRecDepth 100000 in
theorem sapperref13_Unturn.calls (k : Nat) (A0 : Option Addr) (c0 : Nat) (l0 : List Int) (a1 : Int) (r1 : List Int) (r2 : Int) (w : World) (hr0 : Kd.C (Kd.int .u8) w A0 l0.length l0) (hc0 : l0.length ≤ c0) (h : sapperref13_Unturn.f k l0 a1 = some (r1, r2)) :
  Calls Try.prog 38 #[.slice A0 l0.length c0, .int .i64 a1] w fun e w' => ∃ v0_ : Value, e = .returned (.tuple #[v0_, .int .i64 r2]) ∧ Kd.R (Kd.int .u8) 5 w' w.heap.size (fun _ => True) v0_ r1 ∧ Below w.heap.size w w' := by
 have HR0 := Aside0.mk hr0
 have HC0 := Aside0.mk hc0
 clear hr0 hc0
 have HB := Aside0.mk (Below.refl w.heap.size w)
 have H : (if (l0.length : Int) > 16777216 then (some (([] : List Int), 130)) else (if a1 < 0 then (sapperref13_Unturn.j0 k l0 a1 true) else (sapperref13_Unturn.j0 k l0 a1 (decide (a1 > (l0.length : Int)))))) = some (r1, r2) := h
 clear h
 by_cases c3 : (l0.length : Int) > 16777216
 ·rw [if_pos c3] at H
  have c3b0 : decide (16777216 < (l0.length : Int)) = true := decide_eq_true c3
  have c3b1 : decide (16777216 < l0.length) = true := decide_eq_true (by omega)
  clear c3
  simp only [Option.some.injEq, Prod.mk.injEq] at H
  obtain ⟨rfl, rfl⟩ := H
  go_enter Try.func38, Try.ntmps38
  go_wp2
  go_ret2
  exact ⟨_, by first | rfl | (simp [errW_none, errW_some] <;> rfl) | (simp [*, errW_none, errW_some] <;> rfl), by first | exact Kd.R_nil _ _ _ _ _ | exact Kd.N_nil _ _ _ _ _ | exact Kd.V_nil _ _ _ _ _ | exact Kd.Q_nil _ _ _ _ _ | exact Kd.S_nil _ _ _ _ _, by repeat first|(with_reducible first|exact HB.out|apply Qg|apply Qh|apply Qi)|exact HB.out⟩
 ·rw [if_neg c3] at H
  have c3b0 : decide (16777216 < (l0.length : Int)) = false := decide_eq_false c3
  have c3b1 : decide (16777216 < l0.length) = false := decide_eq_false (by omega)
  clear c3
  have HC4 := Aside0.mk H
  clear H
  go_enter Try.func38, Try.ntmps38
  go_upto_region 3 with (fail)
  go_cut [26] (fun v26 wc => ∃ (kq : Nat) (x26_3 : Bool), v26 = .bool x26_3 ∧ Aside0 (sapperref13_Unturn.j0 kq l0 a1 x26_3 = some (r1, r2)) ∧ Aside0 (kq ≤ k) ∧ Aside0 (Below w.heap.size w wc))
  case first =>
   have H := HC4.out
   clear HC4
   by_cases c5 : a1 < 0
   ·rw [if_pos c5] at H
    have c5b0 : decide (a1 < 0) = true := decide_eq_true c5
    clear c5
    (first | rw [c5b0] | rw [c5b1] | (simp only [i64_w, i32_w]; rw [c5b0]) | skip)
    have H' := Aside0.mk H
    clear H
    go_wp2
    go_meet
    case rel => exact ⟨_, (true), (by first | rfl | (simp; done) | (simp [*]; done)), H', ⟨by first | omega | exact Nat.le_refl _⟩, ⟨by repeat first|(with_reducible first|exact HB.out|apply Qg|apply Qh|apply Qi)|exact HB.out⟩⟩
   ·rw [if_neg c5] at H
    have c5b0 : decide (a1 < 0) = false := decide_eq_false c5
    clear c5
    (first | rw [c5b0] | rw [c5b1] | (simp only [i64_w, i32_w]; rw [c5b0]) | skip)
    have H' := Aside0.mk H
    clear H
    go_wp2
    go_meet
    case rel => exact ⟨_, (decide (a1 > (l0.length : Int))), (by first | rfl | (simp; done) | (simp [*]; done)), H', ⟨by first | omega | exact Nat.le_refl _⟩, ⟨by repeat first|(with_reducible first|exact HB.out|apply Qg|apply Qh|apply Qi)|exact HB.out⟩⟩
  case rest =>
   clear HC4
   try clear p2
   try clear c3
   try clear c3b0
   try clear c3b1
   try clear c5
   try clear c5b0
   obtain ⟨kq, x26_3, rfl, HA, HJ3, HB⟩ := hcut
   cases kq with
   | zero => exact absurd HA.out (by simp [sapperref13_Unturn.j0])
   | succ kj3 =>
    have H := HA.out
    clear HA
    simp only [sapperref13_Unturn.j0] at H
    by_cases c6 : x26_3 = true
    ·subst c6
     have H1 : (some (([] : List Int), 132)) = some (r1, r2) := by rw [if_pos rfl] at H; exact H
     clear H
     have H := H1
     clear H1
     simp only [Option.some.injEq, Prod.mk.injEq] at H
     obtain ⟨rfl, rfl⟩ := H
     go_wp2
     go_ret2
     exact ⟨_, by first | rfl | (simp [errW_none, errW_some] <;> rfl) | (simp [*, errW_none, errW_some] <;> rfl), by first | exact Kd.R_nil _ _ _ _ _ | exact Kd.N_nil _ _ _ _ _ | exact Kd.V_nil _ _ _ _ _ | exact Kd.Q_nil _ _ _ _ _ | exact Kd.S_nil _ _ _ _ _, by repeat first|(with_reducible first|exact HB.out|apply Qg|apply Qh|apply Qi)|exact HB.out⟩
    ·replace c6 := Bool.eq_false_iff.mpr c6
     subst c6
     have H1 : (if 0 ≤ (l0.length : Int) then (if ((l0.length : Int) : Int).toNat ≤ 281474976710656 then (sapperref13_Unturn.l0 kj3 l0 a1 0 (wrap64 ((l0.length : Int) - 1)) (List.replicate ((l0.length : Int) : Int).toNat 0)) else (none)) else (none)) = some (r1, r2) := by rw [if_neg (show ¬ (false = true) by decide)] at H; exact H
     clear H
     have H := H1
     clear H1
     by_cases c7 : 0 ≤ (l0.length : Int)
     ·rw [if_pos c7] at H
      have c7b0 := eq_true c7
      have c7b1 : decide (0 ≤ (l0.length : Int)) = true := decide_eq_true c7
      clear c7
      by_cases c8 : ((l0.length : Int) : Int).toNat ≤ 281474976710656
      ·rw [if_pos c8] at H
       have c8b0 := eq_true c8
       have c8b1 : decide (((l0.length : Int) : Int).toNat ≤ 281474976710656) = true := decide_eq_true c8
       clear c8
       obtain ⟨y342, hy342⟩ : ∃ y_ : List Int, y_ = (List.replicate ((l0.length : Int) : Int).toNat 0) := ⟨_, rfl⟩
       replace H : (sapperref13_Unturn.l0 kj3 l0 a1 0 (wrap64 ((l0.length : Int) - 1)) y342) = some (r1, r2) := by first | (rw [hy342]; with_reducible exact H) | (have H2_ := (Option.bind_some _ _).symm.trans H; rw [hy342]; with_reducible exact H2_) | (have H2_ := (Option.bind_some _ _).symm.trans H; with_reducible exact H2_) | with_reducible exact H | (rw [hy342]; exact H) | exact H
       have Ny342 := Aside0.mk hy342
       clear hy342
       have H' := Aside0.mk H
       clear H
       go_wp2_with (first | ((with_reducible refine gate_dst (N := 29) rfl ?_); (try (refine gate_guard (by rfl) ?_; dsimp only)); refine Kd.R_make (Kd.int .u8) _ 5 rfl (N := 29) rfl 23 _ _ rfl (l0.length : Int) rfl rfl Try.underlying23 (.int .u8 0) 1 info5 rfl (by decide) (by omega) 0 (ok := fun _ => True) (okp := fun _ => True) rfl (fun _ hk => hk) trivial (Qt) (Nat.le_trans (Nat.mul_le_mul_right _ (Qt : (l0.length : Int).toNat ≤ 281474976710656)) (by omega)) (Below.refl _ _) (Nat.le_refl _) ?_; intro v343 w9 ho10 hb hg_ hnew_; clear hg_ hnew_; (first | rw [← Ny342.out] at ho10 | (simp only [Int.reduceToNat] at ho10; rw [← Ny342.out] at ho10)); have n0_ := Aside0.mk (Kd.R_lower ho10 (below_size (by repeat first|(with_reducible first|exact HB.out|apply Qg|apply Qh|apply Qi)|exact HB.out))); have n1_ := Aside0.mk (below_step (by repeat first|(with_reducible first|exact HB.out|apply Qg|apply Qh|apply Qi)|exact HB.out) hb); clear HB; have HO344 := n0_; have HB := n1_; clear n0_ n1_; clear hb ho10))
       go_loopg [7, 8] kj3 (fun kq v7 v8 w' => ∃ (x7_2 : Int) (x8_2 : Int) (x29_2 : List Int), v7 = .int .i64 x7_2 ∧ v8 = .int .i64 x8_2 ∧ Aside0 (sapperref13_Unturn.l0 kq l0 a1 x7_2 x8_2 x29_2 = some (r1, r2)) ∧ Aside0 (kq ≤ kj3) ∧ Aside0 (Kd.R (Kd.int .u8) 5 w' w.heap.size (fun _ => True) v343 x29_2) ∧ Aside0 (Below w.heap.size w w'))
       case atStart => exact ⟨(0), (wrap64 ((l0.length : Int) - 1)), (y342), (by first | rfl | (simp; done) | (simp [*]; done)), (by first | rfl | (simp; done) | (simp [*]; done)), H', ⟨Nat.le_refl _⟩, ⟨by (with_reducible repeat first|apply Qa|apply Qb|apply Qc); exact HO344.out⟩, ⟨by repeat first|(with_reducible first|exact HB.out|apply Qg|apply Qh|apply Qi)|exact HB.out⟩⟩
       case round =>
        clear H'
        try clear p2
        try clear c3
        try clear c3b0
        try clear c3b1
        try clear c5
        try clear c5b0
        try clear c6
        try clear p6
        try clear c7
        try clear c7b0
        try clear c7b1
        try clear c8
        try clear c8b0
        try clear c8b1
        try clear p2
        obtain ⟨x7_2, x8_2, x29_2, rfl, rfl, HA, HK2, HO_29, HB⟩ := hrel
        cases gk with
        | zero => exact absurd HA.out (by simp [sapperref13_Unturn.l0])
        | succ k2 =>
         have H := HA.out
         clear HA
         simp only [sapperref13_Unturn.l0] at H
         by_cases c11 : x8_2 ≥ 0
         ·rw [if_pos c11] at H
          have c11b0 : decide (0 ≤ x8_2) = true := decide_eq_true c11
          clear c11
          by_cases c12 : x7_2 = a1
          ·rw [if_pos c12] at H
           have c12b0 : (x7_2 == a1) = true := beq_iff_eq.mpr c12
           have c12b1 : (x7_2 != a1) = false := bne_eq_false_iff_eq.mpr c12
           clear c12
           simp only [Option.some.injEq, Prod.mk.injEq] at H
           obtain ⟨rfl, rfl⟩ := H
           go_wp2
           go_ret2
           exact ⟨_, by first | rfl | (simp [errW_none, errW_some] <;> rfl) | (simp [*, errW_none, errW_some] <;> rfl), by first | exact Kd.R_nil _ _ _ _ _ | exact Kd.N_nil _ _ _ _ _ | exact Kd.V_nil _ _ _ _ _ | exact Kd.Q_nil _ _ _ _ _ | exact Kd.S_nil _ _ _ _ _, by repeat first|(with_reducible first|exact HB.out|apply Qg|apply Qh|apply Qi)|exact HB.out⟩
          ·rw [if_neg c12] at H
           have c12b0 : (x7_2 == a1) = false := beq_eq_false_iff_ne.mpr c12
           have c12b1 : (x7_2 != a1) = true := bne_iff_ne.mpr c12
           have HC13 := Aside0.mk H
           clear H
           go_upto_if 43 with (fail)
           go_cut [9] (fun v9 wc => ∃ (kq : Nat) (x9_12 : Int), v9 = .int .i64 x9_12 ∧ Aside0 (sapperref13_Unturn.j2 kq l0 a1 x29_2 x8_2 x9_12 = some (r1, r2)) ∧ Aside0 (kq ≤ k2) ∧ Aside0 (Kd.R (Kd.int .u8) 5 wc w.heap.size (fun _ => True) v343 x29_2) ∧ Aside0 (Below w.heap.size w wc))
           case first =>
            have H := HC13.out
            clear HC13
            by_cases c14 : x7_2 > a1
            ·rw [if_pos c14] at H
             have c14b0 : decide (a1 < x7_2) = true := decide_eq_true c14
             clear c14
             (first | rw [c14b0] | rw [c14b1] | (simp only [i64_w, i32_w]; rw [c14b0]) | skip)
             have H' := Aside0.mk H
             clear H
             go_wp2
             go_meet
             case rel => exact ⟨_, (wrap64 (x7_2 - 1)), (by first | rfl | (simp; done) | (simp [*]; done)), H', ⟨by have := HJ3.out; have := HK2.out; first | omega | exact Nat.le_refl _⟩, ⟨by (with_reducible repeat first|apply Qa|apply Qb|apply Qc); exact HO_29.out⟩, ⟨by repeat first|(with_reducible first|exact HB.out|apply Qg|apply Qh|apply Qi)|exact HB.out⟩⟩
            ·rw [if_neg c14] at H
             have c14b0 : decide (a1 < x7_2) = false := decide_eq_false c14
             clear c14
             (first | rw [c14b0] | rw [c14b1] | (simp only [i64_w, i32_w]; rw [c14b0]) | skip)
             have H' := Aside0.mk H
             clear H
             go_wp2
             go_meet
             case rel => exact ⟨_, (x7_2), (by first | rfl | (simp; done) | (simp [*]; done)), H', ⟨by have := HJ3.out; have := HK2.out; first | omega | exact Nat.le_refl _⟩, ⟨by (with_reducible repeat first|apply Qa|apply Qb|apply Qc); exact HO_29.out⟩, ⟨by repeat first|(with_reducible first|exact HB.out|apply Qg|apply Qh|apply Qi)|exact HB.out⟩⟩
           case rest =>
            clear HC13
            try clear c1
            try clear p2
            try clear c3
            try clear c3b0
            try clear c3b1
            try clear c5
            try clear c5b0
            try clear c6
            try clear p6
            try clear c7
            try clear c7b0
            try clear c7b1
            try clear c8
            try clear c8b0
            try clear c8b1
            try clear c11
            try clear c11b0
            try clear c12
            try clear c12b0
            try clear c12b1
            try clear c14
            try clear c14b0
            try clear p2
            try clear p6
            obtain ⟨kq, x9_12, rfl, HA, HJ12, HO_6, HB⟩ := hcut
            cases kq with
            | zero => exact absurd HA.out (by simp [sapperref13_Unturn.j2])
            | succ kj12 =>
             have H := HA.out
             clear HA
             simp only [sapperref13_Unturn.j2] at H
             by_cases c15 : 0 ≤ x9_12
             ·rw [if_pos c15] at H
              have c15b0 : decide (0 ≤ x9_12) = true := decide_eq_true c15
              clear c15
              by_cases c16 : x9_12 < (l0.length : Int)
              ·rw [if_pos c16] at H
               have c16b0 : decide (x9_12 < (l0.length : Int)) = true := decide_eq_true c16
               clear c16
               by_cases c17 : 0 ≤ x8_2
               ·rw [if_pos c17] at H
                have c17b0 : decide (0 ≤ x8_2) = true := decide_eq_true c17
                clear c17
                by_cases c18 : x8_2 < (x29_2.length : Int)
                ·rw [if_pos c18] at H
                 have c18b0 : decide (x8_2 < (x29_2.length : Int)) = true := decide_eq_true c18
                 clear c18
                 obtain ⟨y346, hy346⟩ : ∃ y_ : List Int, y_ = (x29_2.set (x8_2 : Int).toNat (rd l0 x9_12)) := ⟨_, rfl⟩
                 replace H : (sapperref13_Unturn.l1 kj12 l0 a1 y346 1 x8_2 x9_12 (rd l0 x9_12) l0 (l0.length : Int) 0) = some (r1, r2) := by first | (rw [hy346]; with_reducible exact H) | (have H2_ := (Option.bind_some _ _).symm.trans H; rw [hy346]; with_reducible exact H2_) | (have H2_ := (Option.bind_some _ _).symm.trans H; with_reducible exact H2_) | with_reducible exact H | (rw [hy346]; exact H) | exact H
                 have Ny346 := Aside0.mk hy346
                 clear hy346
                 have H' := Aside0.mk H
                 clear H
                 have p345 : 0 ≤ (x9_12 : Int) := Qt
                 have q345 : x9_12 < (l0.length : Int) := Qt
                 obtain ⟨ad345, e345, hx345_0⟩ := Kd.at_int HR0.out x9_12 p345 q345
                 cases e345
                 replace hx345_0 := (HB.out.cell (World.block_lt_of_cell? w _ hx345_0)).trans hx345_0
                 replace p345 := eq_true p345
                 replace q345 := eq_true q345
                 have p19 : 0 ≤ (x8_2 : Int) := Qt
                 have q19 : (x8_2 : Int) < ((x29_2.length : Int) : Int) := Qt
                 obtain ⟨go19, co19, eo19, gb19, gl19, cl19, HG19⟩ := Kd.R_form HO_6.out (by omega)
                 (first | cases eo19 | (injection eo19 with ea_ en_ ec_; (first | subst ea_ | (injection ea_ with ea_; subst ea_)); subst ec_; clear en_))
                 have GB19 := Aside0.mk gb19
                 have GG19 := Aside0.mk HG19
                 clear gb19 gl19 HG19
                 obtain ⟨hx19_0, hf19_0⟩ := Kd.R_celln 0 HO_6.out (x8_2 : Int) p19 q19
                 replace p19 := eq_true p19
                 replace q19 := eq_true q19
                 have HP20 := Kd.R_putg HO_6.out (x8_2 : Int) (rd l0 x9_12)
                 go_wp2_with (first | ((with_reducible refine gate_store (t := 5) (p := 53) rfl ?_); refine store_event (t := 5) (p := 53) (v := ?vo_w21) (w1 := (wc.setCell ⟨go19, (x8_2 : Int).toNat, none⟩ (.int .u8 (rd l0 x9_12)))) ?hg ?ho ?hn ?hr ?_; (case ho => rfl); (case hg => rfl); (case hn => rfl); (case hr => first | (go_simp; done) | (go_simp; rfl)); intro w21 hw; have hg : wc.grownBy w21 (some go19) := (by rw [hw]; exact HP20.2); have hp_ : Kd.R (Kd.int .u8) 5 w21 w.heap.size (fun _ => True) (.slice (some ⟨go19, 0, none⟩) x29_2.length co19) y346 := (by rw [hw, Ny346.out]; exact HP20.1); clear HP20; have n0_ := Aside0.mk (hp_); have n1_ := Aside0.mk ((by rw [hw]; exact below_set (HB.out) GB19.out : Below w.heap.size w w21)); clear HO_6; clear HB; have HO_6 := n0_; have HB := n1_; clear n0_ n1_; clear hg hw hp_))
                 go_loopg [7, 56] kj12 (fun kq v7 v56 w' => ∃ (x7_4 : Int) (x56_4 : Int), v7 = .int .i64 x7_4 ∧ v56 = .int .i64 x56_4 ∧ Aside0 (sapperref13_Unturn.l1 kq l0 a1 y346 x7_4 x8_2 x9_12 (rd l0 x9_12) l0 (l0.length : Int) x56_4 = some (r1, r2)) ∧ Aside0 (kq ≤ kj12) ∧ Aside0 (Kd.R (Kd.int .u8) 5 w' w.heap.size (fun _ => True) (.slice (some ⟨go19, 0, none⟩) x29_2.length co19) y346) ∧ Aside0 (Below w.heap.size w w'))
                 case atStart => exact ⟨(1), (0), (by first | rfl | (simp; done) | (simp [*]; done)), (by first | rfl | (simp; done) | (simp [*]; done)), H', ⟨Nat.le_refl _⟩, ⟨by (with_reducible repeat first|apply Qa|apply Qb|apply Qc); exact HO_6.out⟩, ⟨by repeat first|(with_reducible first|exact HB.out|apply Qg|apply Qh|apply Qi)|exact HB.out⟩⟩
                 case round =>
                  clear H'
                  try clear c1
                  try clear p1
                  try clear q1
                  try clear hx1
                  try clear p2
                  try clear c3
                  try clear c3b0
                  try clear c3b1
                  try clear p3
                  try clear q3
                  try clear hx3
                  try clear c5
                  try clear c5b0
                  try clear c6
                  try clear p6
                  try clear c7
                  try clear c7b0
                  try clear c7b1
                  try clear c8
                  try clear c8b0
                  try clear c8b1
                  try clear c11
                  try clear c11b0
                  try clear c12
                  try clear c12b0
                  try clear c12b1
                  try clear c14
                  try clear c14b0
                  try clear c15
                  try clear c15b0
                  try clear c16
                  try clear c16b0
                  try clear c17
                  try clear c17b0
                  try clear c18
                  try clear c18b0
                  try clear p19
                  try clear q19
                  try clear hx19
                  try clear hf19
                  try clear hx19_0
                  try clear hx345_0
                  try clear p19
                  try clear p2
                  try clear p345
                  try clear p6
                  try clear q19
                  try clear q345
                  obtain ⟨x7_4, x56_4, rfl, rfl, HA, HK4, HO_6, HB⟩ := hrel
                  have hl6_4 := (Kd.R_reads' HO_6.out).1
                  rw [hl6_4] at HO_6
                  (try simp only [hl6_4])
                  cases gk with
                  | zero => exact absurd HA.out (by simp [sapperref13_Unturn.l1])
                  | succ k4 =>
                   have H := HA.out
                   clear HA
                   simp only [sapperref13_Unturn.l1] at H
                   by_cases c22 : x56_4 < (l0.length : Int)
                   ·rw [if_pos c22] at H
                    have c22b0 : decide (x56_4 < (l0.length : Int)) = true := decide_eq_true c22
                    clear c22
                    by_cases c23 : 0 ≤ x56_4
                    ·rw [if_pos c23] at H
                     have c23b0 : decide (0 ≤ x56_4) = true := decide_eq_true c23
                     clear c23
                     by_cases c24 : x56_4 < (l0.length : Int)
                     ·rw [if_pos c24] at H
                      have c24b0 : decide (x56_4 < (l0.length : Int)) = true := decide_eq_true c24
                      clear c24
                      by_cases c25 : (rd l0 x56_4) < (rd l0 x9_12)
                      ·rw [if_pos c25] at H
                       have c25b0 : decide ((rd l0 x56_4) < (rd l0 x9_12)) = true := decide_eq_true c25
                       clear c25
                       have H' := Aside0.mk H
                       clear H
                       have p347 : 0 ≤ (x56_4 : Int) := Qt
                       have q347 : x56_4 < (l0.length : Int) := Qt
                       obtain ⟨ad347, e347, hx347_0⟩ := Kd.at_int HR0.out x56_4 p347 q347
                       obtain rfl : ad345 = ad347 := (by injection e347)
                       replace hx347_0 := (HB.out.cell (World.block_lt_of_cell? w _ hx347_0)).trans hx347_0
                       replace p347 := eq_true p347
                       replace q347 := eq_true q347
                       go_wp2
                       (try simp only [← hl6_4])
                       go_roundg k4
                       case measure => have := HJ3.out; have := HK2.out; have := HJ12.out; have := HK4.out; omega
                       case rel => exact ⟨(wrap64 (x7_4 + 1)), (wrap64 (x56_4 + 1)), (by first | rfl | (simp; done) | (simp [*]; done)), (by first | rfl | (simp; done) | (simp [*]; done)), H', ⟨by have := HJ3.out; have := HK2.out; have := HJ12.out; have := HK4.out; omega⟩, ⟨by (try simp only [hl6_4]); (with_reducible repeat first|apply Qa|apply Qb|apply Qc); exact HO_6.out⟩, ⟨by repeat first|(with_reducible first|exact HB.out|apply Qg|apply Qh|apply Qi)|exact HB.out⟩⟩
                      ·rw [if_neg c25] at H
                       have c25b0 : decide ((rd l0 x56_4) < (rd l0 x9_12)) = false := decide_eq_false c25
                       clear c25
                       by_cases c26 : (rd l0 x56_4) = (rd l0 x9_12)
                       ·rw [if_pos c26] at H
                        have c26b0 : ((rd l0 x56_4) == (rd l0 x9_12)) = true := beq_iff_eq.mpr c26
                        have c26b1 : ((rd l0 x56_4) != (rd l0 x9_12)) = false := bne_eq_false_iff_eq.mpr c26
                        clear c26
                        by_cases c27 : x56_4 < x9_12
                        ·rw [if_pos c27] at H
                         have c27b0 : decide (x56_4 < x9_12) = true := decide_eq_true c27
                         clear c27
                         have H' := Aside0.mk H
                         clear H
                         have p347 : 0 ≤ (x56_4 : Int) := Qt
                         have q347 : x56_4 < (l0.length : Int) := Qt
                         obtain ⟨ad347, e347, hx347_0⟩ := Kd.at_int HR0.out x56_4 p347 q347
                         obtain rfl : ad345 = ad347 := (by injection e347)
                         replace hx347_0 := (HB.out.cell (World.block_lt_of_cell? w _ hx347_0)).trans hx347_0
                         replace p347 := eq_true p347
                         replace q347 := eq_true q347
                         go_wp2
                         (try simp only [← hl6_4])
                         go_roundg k4
                         case measure => have := HJ3.out; have := HK2.out; have := HJ12.out; have := HK4.out; omega
                         case rel => exact ⟨(wrap64 (x7_4 + 1)), (wrap64 (x56_4 + 1)), (by first | rfl | (simp; done) | (simp [*]; done)), (by first | rfl | (simp; done) | (simp [*]; done)), H', ⟨by have := HJ3.out; have := HK2.out; have := HJ12.out; have := HK4.out; omega⟩, ⟨by (try simp only [hl6_4]); (with_reducible repeat first|apply Qa|apply Qb|apply Qc); exact HO_6.out⟩, ⟨by repeat first|(with_reducible first|exact HB.out|apply Qg|apply Qh|apply Qi)|exact HB.out⟩⟩
                        ·rw [if_neg c27] at H
                         have c27b0 : decide (x56_4 < x9_12) = false := decide_eq_false c27
                         clear c27
                         have H' := Aside0.mk H
                         clear H
                         have p347 : 0 ≤ (x56_4 : Int) := Qt
                         have q347 : x56_4 < (l0.length : Int) := Qt
                         obtain ⟨ad347, e347, hx347_0⟩ := Kd.at_int HR0.out x56_4 p347 q347
                         obtain rfl : ad345 = ad347 := (by injection e347)
                         replace hx347_0 := (HB.out.cell (World.block_lt_of_cell? w _ hx347_0)).trans hx347_0
                         replace p347 := eq_true p347
                         replace q347 := eq_true q347
                         go_wp2
                         (try simp only [← hl6_4])
                         go_roundg k4
                         case measure => have := HJ3.out; have := HK2.out; have := HJ12.out; have := HK4.out; omega
                         case rel => exact ⟨(x7_4), (wrap64 (x56_4 + 1)), (by first | rfl | (simp; done) | (simp [*]; done)), (by first | rfl | (simp; done) | (simp [*]; done)), H', ⟨by have := HJ3.out; have := HK2.out; have := HJ12.out; have := HK4.out; omega⟩, ⟨by (try simp only [hl6_4]); (with_reducible repeat first|apply Qa|apply Qb|apply Qc); exact HO_6.out⟩, ⟨by repeat first|(with_reducible first|exact HB.out|apply Qg|apply Qh|apply Qi)|exact HB.out⟩⟩
                       ·rw [if_neg c26] at H
                        have c26b0 : ((rd l0 x56_4) == (rd l0 x9_12)) = false := beq_eq_false_iff_ne.mpr c26
                        have c26b1 : ((rd l0 x56_4) != (rd l0 x9_12)) = true := bne_iff_ne.mpr c26
                        have H' := Aside0.mk H
                        clear H
                        have p347 : 0 ≤ (x56_4 : Int) := Qt
                        have q347 : x56_4 < (l0.length : Int) := Qt
                        obtain ⟨ad347, e347, hx347_0⟩ := Kd.at_int HR0.out x56_4 p347 q347
                        obtain rfl : ad345 = ad347 := (by injection e347)
                        replace hx347_0 := (HB.out.cell (World.block_lt_of_cell? w _ hx347_0)).trans hx347_0
                        replace p347 := eq_true p347
                        replace q347 := eq_true q347
                        go_wp2
                        (try simp only [← hl6_4])
                        go_roundg k4
                        case measure => have := HJ3.out; have := HK2.out; have := HJ12.out; have := HK4.out; omega
                        case rel => exact ⟨(x7_4), (wrap64 (x56_4 + 1)), (by first | rfl | (simp; done) | (simp [*]; done)), (by first | rfl | (simp; done) | (simp [*]; done)), H', ⟨by have := HJ3.out; have := HK2.out; have := HJ12.out; have := HK4.out; omega⟩, ⟨by (try simp only [hl6_4]); (with_reducible repeat first|apply Qa|apply Qb|apply Qc); exact HO_6.out⟩, ⟨by repeat first|(with_reducible first|exact HB.out|apply Qg|apply Qh|apply Qi)|exact HB.out⟩⟩
                     ·rw [if_neg c24] at H
                      exact absurd H (by simp)
                    ·rw [if_neg c23] at H
                     exact absurd H (by simp)
                   ·rw [if_neg c22] at H
                    have c22b0 : decide (x56_4 < (l0.length : Int)) = false := decide_eq_false c22
                    clear c22
                    have H' := Aside0.mk H
                    clear H
                    go_wp2
                    (try simp only [← hl6_4])
                    go_roundg k4
                    case measure => have := HJ3.out; have := HK2.out; have := HJ12.out; have := HK4.out; omega
                    case rel => exact ⟨(x7_4), (wrap64 (x8_2 - 1)), (y346), (by first | rfl | (simp; done) | (simp [*]; done)), (by first | rfl | (simp; done) | (simp [*]; done)), H', ⟨by have := HJ3.out; have := HK2.out; have := HJ12.out; have := HK4.out; omega⟩, ⟨by (try simp only [hl6_4]); (with_reducible repeat first|apply Qa|apply Qb|apply Qc); exact HO_6.out⟩, ⟨by repeat first|(with_reducible first|exact HB.out|apply Qg|apply Qh|apply Qi)|exact HB.out⟩⟩
                ·rw [if_neg c18] at H
                 exact absurd H (by simp)
               ·rw [if_neg c17] at H
                exact absurd H (by simp)
              ·rw [if_neg c16] at H
               exact absurd H (by simp)
             ·rw [if_neg c15] at H
              exact absurd H (by simp)
         ·rw [if_neg c11] at H
          have c11b0 : decide (0 ≤ x8_2) = false := decide_eq_false c11
          clear c11
          by_cases c28 : x7_2 = a1
          ·rw [if_pos c28] at H
           have c28b0 : (x7_2 == a1) = true := beq_iff_eq.mpr c28
           have c28b1 : (x7_2 != a1) = false := bne_eq_false_iff_eq.mpr c28
           clear c28
           replace H := Option.bind_eq_some_iff.mp H
           obtain ⟨⟨t348, t349, t350⟩, A290, H⟩ := H
           replace H : (if t349 = a1 then (if (strOfNums t348).toList = (strOfNums l0).toList then (some (x29_2, 0)) else (some (([] : List Int), 131))) else (some (([] : List Int), 131))) = some (r1, r2) := H
           have A29 := Aside0.mk A290
           clear A290
           by_cases c30 : t349 = a1
           ·rw [if_pos c30] at H
            have c30b0 : (t349 == a1) = true := beq_iff_eq.mpr c30
            have c30b1 : (t349 != a1) = false := bne_eq_false_iff_eq.mpr c30
            clear c30
            by_cases c31 : (strOfNums t348).toList = (strOfNums l0).toList
            ·rw [if_pos c31] at H
             have c31b0 : ((strOfNums t348).toList == (strOfNums l0).toList) = true := beq_iff_eq.mpr c31
             have c31b1 : ((strOfNums t348).toList != (strOfNums l0).toList) = false := bne_eq_false_iff_eq.mpr c31
             clear c31
             simp only [Option.some.injEq, Prod.mk.injEq] at H
             obtain ⟨rfl, rfl⟩ := H
             obtain ⟨Ao32, co32, eo32⟩ := Kd.R_slice HO_29.out
             subst eo32
             go_wp2_with (first | ((with_reducible refine gate_callee (f := 34) rfl ?_); refine goesL_ (some 82) rfl rfl Try.func34 (by kernel_rfl) rfl #[.slice Ao32 x29_2.length co32] rfl (by (try simp only [List.map_toArray, List.map_cons, List.map_nil]); first | done | rfl | (simp only [List.length_drop, List.length_take]; rfl)) ?_; (with_reducible refine (sapperref13_Turn.calls k2 _ _ x29_2 t348 t349 t350 _ ?side1 ?side2 A29.out).mono ?_); (case side1 => repeat (first | exact (Kd.R_reads' HO_29.out).2.2 | (with_reducible first|refine Qd ?_ _|refine Qe ?_ _|refine Qf ?_))); (case side2 => exact (Kd.R_reads' HO_29.out).2.1); rintro e w33 ⟨v351, rfl, ho0, hb⟩; refine ⟨_, rfl, ?_⟩; have n0_ := Aside0.mk (Kd.R_elder' (by (with_reducible repeat first|apply Qa|apply Qb|apply Qc); exact HO_29.out) (Kd.R_base ho0) hb); have n1_ := Aside0.mk (Kd.R_lower (Kd.R_new' ho0 (Kd.R_lt (by (with_reducible repeat first|apply Qa|apply Qb|apply Qc); exact HO_29.out))) (below_size (by repeat first|(with_reducible first|exact HB.out|apply Qg|apply Qh|apply Qi)|exact HB.out))); have n2_ := Aside0.mk (below_step (by repeat first|(with_reducible first|exact HB.out|apply Qg|apply Qh|apply Qi)|exact HB.out) hb); clear HO_29; clear HB; have HO_29 := n0_; have HO352 := n1_; have HB := n2_; clear n0_ n1_ n2_; (try clear hb); (try clear hb2); (try clear hk); (try clear hi); (try clear ho0); have hcv34 := own_string (P := Try.prog) Try.underlying23 Try.underlying5 Try.underlying9 (Kd.own_of_R HO352.out); (try (have hcv34k := R_string0 (P := Try.prog) Try.underlying23 Try.underlying5 Try.underlying9 HO352.out)); (try (have hcv34n := R_string1 (P := Try.prog) Try.underlying23 Try.underlying5 Try.underlying9 HO352.out)); (try (have hcv34m := R_string2 (P := Try.prog) Try.underlying23 Try.underlying5 Try.underlying9 HO352.out)); have hcv35 := Kd.C_string (P := Try.prog) (A := A0) (c := c0) Try.underlying23 Try.underlying5 Try.underlying9 (Kd.C_below HR0.out HB.out); (try (have hcv35k := C_string0 (P := Try.prog) (A := A0) (c := c0) Try.underlying23 Try.underlying5 Try.underlying9 (Kd.C_below HR0.out HB.out))); (try (have hcv35n := C_string1 (P := Try.prog) (A := A0) (c := c0) Try.underlying23 Try.underlying5 Try.underlying9 (Kd.C_below HR0.out HB.out))); (try (have hcv35m := C_string2 (P := Try.prog) (A := A0) (c := c0) Try.underlying23 Try.underlying5 Try.underlying9 (Kd.C_below HR0.out HB.out)))))
             go_ret2
             exact ⟨_, by first | rfl | (simp [errW_none, errW_some] <;> rfl) | (simp [*, errW_none, errW_some] <;> rfl), by (with_reducible repeat first|apply Qa|apply Qb|apply Qc); exact Kd.R_mono HO_29.out (fun _ hk => trivial), by repeat first|(with_reducible first|exact HB.out|apply Qg|apply Qh|apply Qi)|exact HB.out⟩
            ·rw [if_neg c31] at H
             have c31b0 : ((strOfNums t348).toList == (strOfNums l0).toList) = false := beq_eq_false_iff_ne.mpr c31
             have c31b1 : ((strOfNums t348).toList != (strOfNums l0).toList) = true := bne_iff_ne.mpr c31
             simp only [Option.some.injEq, Prod.mk.injEq] at H
             obtain ⟨rfl, rfl⟩ := H
             obtain ⟨Ao36, co36, eo36⟩ := Kd.R_slice HO_29.out
             subst eo36
             go_wp2_with (first | ((with_reducible refine gate_callee (f := 34) rfl ?_); refine goesL_ (some 82) rfl rfl Try.func34 (by kernel_rfl) rfl #[.slice Ao36 x29_2.length co36] rfl (by (try simp only [List.map_toArray, List.map_cons, List.map_nil]); first | done | rfl | (simp only [List.length_drop, List.length_take]; rfl)) ?_; (with_reducible refine (sapperref13_Turn.calls k2 _ _ x29_2 t348 t349 t350 _ ?side1 ?side2 A29.out).mono ?_); (case side1 => repeat (first | exact (Kd.R_reads' HO_29.out).2.2 | (with_reducible first|refine Qd ?_ _|refine Qe ?_ _|refine Qf ?_))); (case side2 => exact (Kd.R_reads' HO_29.out).2.1); rintro e w37 ⟨v351, rfl, ho0, hb⟩; refine ⟨_, rfl, ?_⟩; have n0_ := Aside0.mk (Kd.R_elder' (by (with_reducible repeat first|apply Qa|apply Qb|apply Qc); exact HO_29.out) (Kd.R_base ho0) hb); have n1_ := Aside0.mk (Kd.R_lower (Kd.R_new' ho0 (Kd.R_lt (by (with_reducible repeat first|apply Qa|apply Qb|apply Qc); exact HO_29.out))) (below_size (by repeat first|(with_reducible first|exact HB.out|apply Qg|apply Qh|apply Qi)|exact HB.out))); have n2_ := Aside0.mk (below_step (by repeat first|(with_reducible first|exact HB.out|apply Qg|apply Qh|apply Qi)|exact HB.out) hb); clear HO_29; clear HB; have HO_29 := n0_; have HO352 := n1_; have HB := n2_; clear n0_ n1_ n2_; (try clear hb); (try clear hb2); (try clear hk); (try clear hi); (try clear ho0); have hcv38 := own_string (P := Try.prog) Try.underlying23 Try.underlying5 Try.underlying9 (Kd.own_of_R HO352.out); (try (have hcv38k := R_string0 (P := Try.prog) Try.underlying23 Try.underlying5 Try.underlying9 HO352.out)); (try (have hcv38n := R_string1 (P := Try.prog) Try.underlying23 Try.underlying5 Try.underlying9 HO352.out)); (try (have hcv38m := R_string2 (P := Try.prog) Try.underlying23 Try.underlying5 Try.underlying9 HO352.out)); have hcv39 := Kd.C_string (P := Try.prog) (A := A0) (c := c0) Try.underlying23 Try.underlying5 Try.underlying9 (Kd.C_below HR0.out HB.out); (try (have hcv39k := C_string0 (P := Try.prog) (A := A0) (c := c0) Try.underlying23 Try.underlying5 Try.underlying9 (Kd.C_below HR0.out HB.out))); (try (have hcv39n := C_string1 (P := Try.prog) (A := A0) (c := c0) Try.underlying23 Try.underlying5 Try.underlying9 (Kd.C_below HR0.out HB.out))); (try (have hcv39m := C_string2 (P := Try.prog) (A := A0) (c := c0) Try.underlying23 Try.underlying5 Try.underlying9 (Kd.C_below HR0.out HB.out)))))
             go_ret2
             exact ⟨_, by first | rfl | (simp [errW_none, errW_some] <;> rfl) | (simp [*, errW_none, errW_some] <;> rfl), by first | exact Kd.R_nil _ _ _ _ _ | exact Kd.N_nil _ _ _ _ _ | exact Kd.V_nil _ _ _ _ _ | exact Kd.Q_nil _ _ _ _ _ | exact Kd.S_nil _ _ _ _ _, by repeat first|(with_reducible first|exact HB.out|apply Qg|apply Qh|apply Qi)|exact HB.out⟩
           ·rw [if_neg c30] at H
            have c30b0 : (t349 == a1) = false := beq_eq_false_iff_ne.mpr c30
            have c30b1 : (t349 != a1) = true := bne_iff_ne.mpr c30
            simp only [Option.some.injEq, Prod.mk.injEq] at H
            obtain ⟨rfl, rfl⟩ := H
            obtain ⟨Ao40, co40, eo40⟩ := Kd.R_slice HO_29.out
            subst eo40
            go_wp2_with (first | ((with_reducible refine gate_callee (f := 34) rfl ?_); refine goesL_ (some 82) rfl rfl Try.func34 (by kernel_rfl) rfl #[.slice Ao40 x29_2.length co40] rfl (by (try simp only [List.map_toArray, List.map_cons, List.map_nil]); first | done | rfl | (simp only [List.length_drop, List.length_take]; rfl)) ?_; (with_reducible refine (sapperref13_Turn.calls k2 _ _ x29_2 t348 t349 t350 _ ?side1 ?side2 A29.out).mono ?_); (case side1 => repeat (first | exact (Kd.R_reads' HO_29.out).2.2 | (with_reducible first|refine Qd ?_ _|refine Qe ?_ _|refine Qf ?_))); (case side2 => exact (Kd.R_reads' HO_29.out).2.1); rintro e w41 ⟨v351, rfl, ho0, hb⟩; refine ⟨_, rfl, ?_⟩; have n0_ := Aside0.mk (Kd.R_elder' (by (with_reducible repeat first|apply Qa|apply Qb|apply Qc); exact HO_29.out) (Kd.R_base ho0) hb); have n1_ := Aside0.mk (Kd.R_lower (Kd.R_new' ho0 (Kd.R_lt (by (with_reducible repeat first|apply Qa|apply Qb|apply Qc); exact HO_29.out))) (below_size (by repeat first|(with_reducible first|exact HB.out|apply Qg|apply Qh|apply Qi)|exact HB.out))); have n2_ := Aside0.mk (below_step (by repeat first|(with_reducible first|exact HB.out|apply Qg|apply Qh|apply Qi)|exact HB.out) hb); clear HO_29; clear HB; have HO_29 := n0_; have HO352 := n1_; have HB := n2_; clear n0_ n1_ n2_; (try clear hb); (try clear hb2); (try clear hk); (try clear hi); (try clear ho0)))
            go_ret2
            exact ⟨_, by first | rfl | (simp [errW_none, errW_some] <;> rfl) | (simp [*, errW_none, errW_some] <;> rfl), by first | exact Kd.R_nil _ _ _ _ _ | exact Kd.N_nil _ _ _ _ _ | exact Kd.V_nil _ _ _ _ _ | exact Kd.Q_nil _ _ _ _ _ | exact Kd.S_nil _ _ _ _ _, by repeat first|(with_reducible first|exact HB.out|apply Qg|apply Qh|apply Qi)|exact HB.out⟩
          ·rw [if_neg c28] at H
           have c28b0 : (x7_2 == a1) = false := beq_eq_false_iff_ne.mpr c28
           have c28b1 : (x7_2 != a1) = true := bne_iff_ne.mpr c28
           simp only [Option.some.injEq, Prod.mk.injEq] at H
           obtain ⟨rfl, rfl⟩ := H
           go_wp2
           go_ret2
           exact ⟨_, by first | rfl | (simp [errW_none, errW_some] <;> rfl) | (simp [*, errW_none, errW_some] <;> rfl), by first | exact Kd.R_nil _ _ _ _ _ | exact Kd.N_nil _ _ _ _ _ | exact Kd.V_nil _ _ _ _ _ | exact Kd.Q_nil _ _ _ _ _ | exact Kd.S_nil _ _ _ _ _, by repeat first|(with_reducible first|exact HB.out|apply Qg|apply Qh|apply Qi)|exact HB.out⟩
      ·rw [if_neg c8] at H
       exact absurd H (by simp)
     ·rw [if_neg c7] at H
      exact absurd H (by simp)

end Go.Proofs.Ythcnnfahlhklgaa.X
