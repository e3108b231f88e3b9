-- Printed by wip/xprint.py of this repo (a wrapper of the session's own round the print).
import Derived.Test.YthcnnfahlhklgaaXx0
import Derived.Test.YthcnnfahlhklgaaXBA
import Derived.Test.YthcnnfahlhklgaaXx24
namespace Go.Proofs.Ythcnnfahlhklgaa.X
open Go.RowKit Go.Proofs.YthcnnfahlhklgaaW.PrintWords Go.Proofs.YthcnnfahlhklgaaW.PrintLast Go.Proofs.YthcnnfahlhklgaaW.PrintMore
attribute [local go_sem] ptrOf_eql ptrOf_neq ptrOf_eqg ptrOf_neg str_leq str_geq str_gtr max2_int min2_int max_two min_two max_three min_three max_four min_four   -- for this text's walks alone
set_option linter.unusedVariables false
set_option linter.unusedSimpArgs false

/-! ### sapperref13_Shared: function 46 -/
mutual
def sapperref13_Shared.j0 : Nat → List Int → List Int → Bool → Option (Int × Int × Int × Int)
 | 0, _, _, _ => none
 | k + 1, x0, x1, x21 => if x21 = true then (some (0, 0, 0, 130)) else (sapperref13_Shared.l0 k x0 x1 0 0 0 (x0.length : Int) 0)
def sapperref13_Shared.l0 : Nat → List Int → List Int → Int → Int → Int → Int → Int → Option (Int × Int × Int × Int)
 | 0, _, _, _, _, _, _, _ => none
 | k + 1, x0, x1, x8, x9, x10, x23, x24 => if x24 < x23 then (sapperref13_Shared.l1 k x0 x1 x8 x9 x10 x24 x23 x24 (x1.length : Int) 0) else (some (x9, x10, x8, 0))
def sapperref13_Shared.l1 : Nat → List Int → List Int → Int → Int → Int → Int → Int → Int → Int → Int → Option (Int × Int × Int × Int)
 | 0, _, _, _, _, _, _, _, _, _, _ => none
 | k + 1, x0, x1, x8, x9, x10, x11, x23, x24, x28, x29 => if x29 < x28 then (if 0 ≤ x11 then (if x11 ≤ (x0.length : Int) then (if 0 ≤ x29 then (if x29 ≤ (x1.length : Int) then ((sapperref13_Common.f k (x0.drop (x11 : Int).toNat) (x1.drop (x29 : Int).toNat)).bind fun t323 => (if t323 > x8 then (sapperref13_Shared.l1 k x0 x1 t323 x11 x29 x11 x23 x24 x28 (wrap64 (x29 + 1))) else (if t323 = x8 then (if x8 > 0 then (if x11 ≤ (wrap64 (x11 + t323)) then (if (wrap64 (x11 + t323)) ≤ (x0.length : Int) then (if 0 ≤ x9 then (if x9 ≤ (wrap64 (x9 + x8)) then (if (wrap64 (x9 + x8)) ≤ (x0.length : Int) then (if (Op.bytesLess ((strOfNums ((x0.take ((wrap64 (x11 + t323)) : Int).toNat).drop (x11 : Int).toNat)).toList) ((strOfNums ((x0.take ((wrap64 (x9 + x8)) : Int).toNat).drop (x9 : Int).toNat)).toList)) = true then (sapperref13_Shared.l1 k x0 x1 t323 x11 x29 x11 x23 x24 x28 (wrap64 (x29 + 1))) else (sapperref13_Shared.l1 k x0 x1 x8 x9 x10 x11 x23 x24 x28 (wrap64 (x29 + 1)))) else (none)) else (none)) else (none)) else (none)) else (none)) else (sapperref13_Shared.l1 k x0 x1 x8 x9 x10 x11 x23 x24 x28 (wrap64 (x29 + 1)))) else (sapperref13_Shared.l1 k x0 x1 x8 x9 x10 x11 x23 x24 x28 (wrap64 (x29 + 1)))))) else (none)) else (none)) else (none)) else (none)) else (sapperref13_Shared.l0 k x0 x1 x8 x9 x10 x23 (wrap64 (x24 + 1)))
end
def sapperref13_Shared.f (k : Nat) (l0 : List Int) (l1 : List Int) : Option (Int × Int × Int × Int) := if (l0.length : Int) > 16777216 then (sapperref13_Shared.j0 k l0 l1 true) else (sapperref13_Shared.j0 k l0 l1 (decide ((l1.length : Int) > 16777216)))
theorem sapperref13_Shared.mono_l : ∀ k, (∀ y0 y1 y2, LeO (sapperref13_Shared.j0 k y0 y1 y2) (sapperref13_Shared.j0 (k + 1) y0 y1 y2)) ∧ (∀ y0 y1 y2 y3 y4 y5 y6, LeO (sapperref13_Shared.l0 k y0 y1 y2 y3 y4 y5 y6) (sapperref13_Shared.l0 (k + 1) y0 y1 y2 y3 y4 y5 y6)) ∧ (∀ y0 y1 y2 y3 y4 y5 y6 y7 y8 y9, LeO (sapperref13_Shared.l1 k y0 y1 y2 y3 y4 y5 y6 y7 y8 y9) (sapperref13_Shared.l1 (k + 1) y0 y1 y2 y3 y4 y5 y6 y7 y8 y9))
 | 0 => ⟨fun _ _ _ r h => by simp [sapperref13_Shared.j0] at h, fun _ _ _ _ _ _ _ r h => by simp [sapperref13_Shared.l0] at h, fun _ _ _ _ _ _ _ _ _ _ r h => by simp [sapperref13_Shared.l1] at h⟩
 | k + 1 => by
  obtain ⟨ih0, ih1, ih2⟩ := sapperref13_Shared.mono_l k
  refine ⟨?_, ?_, ?_⟩
  intro y0 y1 y2; unfold sapperref13_Shared.j0; rotate_left
  intro y0 y1 y2 y3 y4 y5 y6; unfold sapperref13_Shared.l0; rotate_left
  intro y0 y1 y2 y3 y4 y5 y6 y7 y8 y9; unfold sapperref13_Shared.l1; rotate_left
  all_goals
   repeat' first
   | (with_reducible exact ih0 _ _ _)
   | (with_reducible exact ih1 _ _ _ _ _ _ _)
   | (with_reducible exact ih2 _ _ _ _ _ _ _ _ _ _)
   | (with_reducible exact sapperref13_Common.mono _ _ _)
   | (with_reducible exact LeO.refl _)
   | (with_reducible exact LeO.none _)
   | (with_reducible refine LeO.ite ?_ ?_)
   | (with_reducible refine LeO.bind ?_ (fun _ => ?_))
   | exact ih0 _ _ _
   | exact ih1 _ _ _ _ _ _ _
   | exact ih2 _ _ _ _ _ _ _ _ _ _
   | exact sapperref13_Common.mono _ _ _
   | exact LeO.none _
   | refine LeO.ite ?_ ?_
   | refine LeO.bind ?_ (fun _ => ?_)
theorem sapperref13_Shared.mono : ∀ a0 a1 k, LeO (sapperref13_Shared.f k a0 a1) (sapperref13_Shared.f (k + 1) a0 a1) := by
 intro a0 a1 k
 obtain ⟨ih0, ih1, ih2⟩ := sapperref13_Shared.mono_l k
 unfold sapperref13_Shared.f
 repeat' first
   | (with_reducible exact ih0 _ _ _)
   | (with_reducible exact ih1 _ _ _ _ _ _ _)
   | (with_reducible exact ih2 _ _ _ _ _ _ _ _ _ _)
   | (with_reducible exact sapperref13_Common.mono _ _ _)
   | (with_reducible exact LeO.refl _)
   | (with_reducible exact LeO.none _)
   | (with_reducible refine LeO.ite ?_ ?_)
   | (with_reducible refine LeO.bind ?_ (fun _ => ?_))
   | exact ih0 _ _ _
   | exact ih1 _ _ _ _ _ _ _
   | exact ih2 _ _ _ _ _ _ _ _ _ _
   | exact sapperref13_Common.mono _ _ _
   | exact LeO.none _
   | refine LeO.ite ?_ ?_
   | refine LeO.bind ?_ (fun _ => ?_)
set_option maxHeartbeats 8000000 in
set_option maxRecDepth 100000 in
theorem sapperref13_Shared.calls (k : Nat) (A0 : Option Addr) (c0 : Nat) (l0 : List Int) (A1 : Option Addr) (c1 : Nat) (l1 : List Int) (r1 : Int) (r2 : Int) (r3 : Int) (r4 : Int) (w : World) (hr0 : Kd.C (Kd.int .u8) w A0 l0.length l0) (hc0 : l0.length ≤ c0) (hr1 : Kd.C (Kd.int .u8) w A1 l1.length l1) (hc1 : l1.length ≤ c1) (h : sapperref13_Shared.f k l0 l1 = some (r1, r2, r3, r4)) :
  Calls Try.prog 46 #[.slice A0 l0.length c0, .slice A1 l1.length c1] w fun e w' => e = .returned (.tuple #[.int .i64 r1, .int .i64 r2, .int .i64 r3, .int .i64 r4]) ∧ Drawn0 w w' := by
 have HR0 := Aside0.mk hr0
 have HC0 := Aside0.mk hc0
 clear hr0 hc0
 have HR1 := Aside0.mk hr1
 have HC1 := Aside0.mk hc1
 clear hr1 hc1
 have H : (if (l0.length : Int) > 16777216 then (sapperref13_Shared.j0 k l0 l1 true) else (sapperref13_Shared.j0 k l0 l1 (decide ((l1.length : Int) > 16777216)))) = some (r1, r2, r3, r4) := h
 clear h
 have HC3 := Aside0.mk H
 clear H
 go_enter Try.func46, Try.ntmps46
 go_upto_region 1 with (fail)
 repeat (go_quiet (fail); go_upto_region 1 with (fail))
 go_cut [21] (fun v21 wc => ∃ (kq : Nat) (x21_2 : Bool), v21 = .bool x21_2 ∧ Aside0 (sapperref13_Shared.j0 kq l0 l1 x21_2 = some (r1, r2, r3, r4)) ∧ Aside0 (kq ≤ k) ∧ Drawn0 w wc)
 case first =>
  have H := HC3.out
  clear HC3
  by_cases c4 : (l0.length : Int) > 16777216
  ·rw [if_pos c4] at H
   have c4b0 : decide (16777216 < (l0.length : Int)) = true := decide_eq_true c4
   have c4b1 : decide (16777216 < l0.length) = true := decide_eq_true (by omega)
   clear c4
   (first | rw [c4b0] | rw [c4b1] | (simp only [i64_w, i32_w]; rw [c4b0]) | skip)
   have H' := Aside0.mk H
   clear H
   go_wp2
   repeat (go_quiet (fail); try go_wp2)
   go_meet
   case rel => exact ⟨_, (true), (by first | rfl | (simp; done) | (simp [*]; done)), H', ⟨by first | omega | exact Nat.le_refl _⟩, by repeat (first | exact Drawn0.refl _ | apply Drawn0.step)⟩
  ·rw [if_neg c4] at H
   have c4b0 : decide (16777216 < (l0.length : Int)) = false := decide_eq_false c4
   have c4b1 : decide (16777216 < l0.length) = false := decide_eq_false (by omega)
   clear c4
   (first | rw [c4b0] | rw [c4b1] | (simp only [i64_w, i32_w]; rw [c4b0]) | skip)
   have H' := Aside0.mk H
   clear H
   go_wp2
   repeat (go_quiet (fail); try go_wp2)
   go_meet
   case rel => exact ⟨_, (decide ((l1.length : Int) > 16777216)), (by first | rfl | (simp; done) | (simp [*]; done)), H', ⟨by first | omega | exact Nat.le_refl _⟩, by repeat (first | exact Drawn0.refl _ | apply Drawn0.step)⟩
 case rest =>
  clear HC3
  try clear c1
  try clear p2
  try clear c4
  try clear c4b0
  try clear c4b1
  obtain ⟨kq, x21_2, rfl, HA, HJ2, ⟨mc2, rfl⟩⟩ := hcut
  cases kq with
  | zero => exact absurd HA.out (by simp [sapperref13_Shared.j0])
  | succ kj2 =>
   have H := HA.out
   clear HA
   simp only [sapperref13_Shared.j0] at H
   by_cases c5 : x21_2 = true
   ·subst c5
    have H1 : (some (0, 0, 0, 130)) = some (r1, r2, r3, r4) := by rw [if_pos rfl] at H; exact H
    clear H
    have H := H1
    clear H1
    simp only [Option.some.injEq, Prod.mk.injEq] at H
    obtain ⟨rfl, rfl, rfl, rfl⟩ := H
    go_wp2
    repeat (go_quiet (fail); try go_wp2)
    refine bodyPost_ret (results_list (rs := [.tmp 4, .tmp 5, .tmp 6, .tmp 7]) rfl (by simp) (.tmp (.tmp (.tmp (.tmp .nil))))) rfl ?_
    exact ⟨by first | rfl | (simp; done) | (simp [*]; done), by repeat (first | exact Drawn0.refl _ | apply Drawn0.step)⟩
   ·replace c5 := Bool.eq_false_iff.mpr c5
    subst c5
    have H1 : (sapperref13_Shared.l0 kj2 l0 l1 0 0 0 (l0.length : Int) 0) = some (r1, r2, r3, r4) := by rw [if_neg (show ¬ (false = true) by decide)] at H; exact H
    clear H
    have H := H1
    clear H1
    have H' := Aside0.mk H
    clear H
    go_wp2
    repeat (go_quiet (fail); try go_wp2)
    go_loopg [8, 9, 10, 24] kj2 (fun kq v8 v9 v10 v24 w' => ∃ (x8_2 : Int) (x9_2 : Int) (x10_2 : Int) (x24_2 : Int), v8 = .int .i64 x8_2 ∧ v9 = .int .i64 x9_2 ∧ v10 = .int .i64 x10_2 ∧ v24 = .int .i64 x24_2 ∧ Aside0 (sapperref13_Shared.l0 kq l0 l1 x8_2 x9_2 x10_2 (l0.length : Int) x24_2 = some (r1, r2, r3, r4)) ∧ Aside0 (kq ≤ kj2) ∧ Drawn0 w w')
    case atStart => exact ⟨(0), (0), (0), (0), (by first | rfl | (simp; done) | (simp [*]; done)), (by first | rfl | (simp; done) | (simp [*]; done)), (by first | rfl | (simp; done) | (simp [*]; done)), (by first | rfl | (simp; done) | (simp [*]; done)), H', ⟨Nat.le_refl _⟩, by repeat (first | exact Drawn0.refl _ | apply Drawn0.step)⟩
    case round =>
     clear H'
     try clear c1
     try clear c2
     try clear p2
     try clear c4
     try clear c4b0
     try clear c4b1
     try clear c5
     try clear p2
     obtain ⟨x8_2, x9_2, x10_2, x24_2, rfl, rfl, rfl, rfl, HA, HK2, ⟨m2, rfl⟩⟩ := hrel
     cases gk with
     | zero => exact absurd HA.out (by simp [sapperref13_Shared.l0])
     | succ k2 =>
      have H := HA.out
      clear HA
      simp only [sapperref13_Shared.l0] at H
      by_cases c6 : x24_2 < (l0.length : Int)
      ·rw [if_pos c6] at H
       have c6b0 : decide (x24_2 < (l0.length : Int)) = true := decide_eq_true c6
       clear c6
       have H' := Aside0.mk H
       clear H
       go_wp2
       repeat (go_quiet (fail); try go_wp2)
       go_loopg [8, 9, 10, 29] k2 (fun kq v8 v9 v10 v29 w' => ∃ (x8_3 : Int) (x9_3 : Int) (x10_3 : Int) (x29_3 : Int), v8 = .int .i64 x8_3 ∧ v9 = .int .i64 x9_3 ∧ v10 = .int .i64 x10_3 ∧ v29 = .int .i64 x29_3 ∧ Aside0 (sapperref13_Shared.l1 kq l0 l1 x8_3 x9_3 x10_3 x24_2 (l0.length : Int) x24_2 (l1.length : Int) x29_3 = some (r1, r2, r3, r4)) ∧ Aside0 (kq ≤ k2) ∧ Drawn0 w w')
       case atStart => exact ⟨(x8_2), (x9_2), (x10_2), (0), (by first | rfl | (simp; done) | (simp [*]; done)), (by first | rfl | (simp; done) | (simp [*]; done)), (by first | rfl | (simp; done) | (simp [*]; done)), (by first | rfl | (simp; done) | (simp [*]; done)), H', ⟨Nat.le_refl _⟩, by repeat (first | exact Drawn0.refl _ | apply Drawn0.step)⟩
       case round =>
        clear H'
        try clear c1
        try clear c2
        try clear p2
        try clear c4
        try clear c4b0
        try clear c4b1
        try clear c5
        try clear c6
        try clear c6b0
        try clear p2
        obtain ⟨x8_3, x9_3, x10_3, x29_3, rfl, rfl, rfl, rfl, HA, HK3, ⟨m3, rfl⟩⟩ := hrel
        cases gk with
        | zero => exact absurd HA.out (by simp [sapperref13_Shared.l1])
        | succ k3 =>
         have H := HA.out
         clear HA
         simp only [sapperref13_Shared.l1] at H
         by_cases c7 : x29_3 < (l1.length : Int)
         ·rw [if_pos c7] at H
          have c7b0 : decide (x29_3 < (l1.length : Int)) = true := decide_eq_true c7
          clear c7
          by_cases c8 : 0 ≤ x24_2
          ·rw [if_pos c8] at H
           have c8b0 := eq_true c8
           have c8b1 : decide (0 ≤ x24_2) = true := decide_eq_true c8
           clear c8
           by_cases c9 : x24_2 ≤ (l0.length : Int)
           ·rw [if_pos c9] at H
            have c9b0 := eq_true c9
            have c9b1 : decide (x24_2 ≤ (l0.length : Int)) = true := decide_eq_true c9
            clear c9
            by_cases c10 : 0 ≤ x29_3
            ·rw [if_pos c10] at H
             have c10b0 := eq_true c10
             have c10b1 : decide (0 ≤ x29_3) = true := decide_eq_true c10
             clear c10
             by_cases c11 : x29_3 ≤ (l1.length : Int)
             ·rw [if_pos c11] at H
              have c11b0 := eq_true c11
              have c11b1 : decide (x29_3 ≤ (l1.length : Int)) = true := decide_eq_true c11
              clear c11
              replace H := Option.bind_eq_some_iff.mp H
              obtain ⟨t323, A120, H⟩ := H
              replace H : (if t323 > x8_3 then (sapperref13_Shared.l1 k3 l0 l1 t323 x24_2 x29_3 x24_2 (l0.length : Int) x24_2 (l1.length : Int) (wrap64 (x29_3 + 1))) else (if t323 = x8_3 then (if x8_3 > 0 then (if x24_2 ≤ (wrap64 (x24_2 + t323)) then (if (wrap64 (x24_2 + t323)) ≤ (l0.length : Int) then (if 0 ≤ x9_3 then (if x9_3 ≤ (wrap64 (x9_3 + x8_3)) then (if (wrap64 (x9_3 + x8_3)) ≤ (l0.length : Int) then (if (Op.bytesLess ((strOfNums ((l0.take ((wrap64 (x24_2 + t323)) : Int).toNat).drop (x24_2 : Int).toNat)).toList) ((strOfNums ((l0.take ((wrap64 (x9_3 + x8_3)) : Int).toNat).drop (x9_3 : Int).toNat)).toList)) = true then (sapperref13_Shared.l1 k3 l0 l1 t323 x24_2 x29_3 x24_2 (l0.length : Int) x24_2 (l1.length : Int) (wrap64 (x29_3 + 1))) else (sapperref13_Shared.l1 k3 l0 l1 x8_3 x9_3 x10_3 x24_2 (l0.length : Int) x24_2 (l1.length : Int) (wrap64 (x29_3 + 1)))) else (none)) else (none)) else (none)) else (none)) else (none)) else (sapperref13_Shared.l1 k3 l0 l1 x8_3 x9_3 x10_3 x24_2 (l0.length : Int) x24_2 (l1.length : Int) (wrap64 (x29_3 + 1)))) else (sapperref13_Shared.l1 k3 l0 l1 x8_3 x9_3 x10_3 x24_2 (l0.length : Int) x24_2 (l1.length : Int) (wrap64 (x29_3 + 1))))) = some (r1, r2, r3, r4) := H
              have A12 := Aside0.mk A120
              clear A120
              by_cases c13 : t323 > x8_3
              ·rw [if_pos c13] at H
               have c13b0 : decide (x8_3 < t323) = true := decide_eq_true c13
               clear c13
               have H' := Aside0.mk H
               clear H
               obtain ⟨i014, hi014, _, hsz14, _⟩ := info_parts info5
               obtain ⟨A14, hcut14, hA14, hC14⟩ := print_drop_of (P := Try.prog) (Value.int .u8) 0 23 5 .i64 Try.underlying23 hi014 hsz14 A0 c0 l0 x24_2 (of_decide_eq_true (by first | (with_reducible assumption) | assumption)) (of_decide_eq_true (by first | (with_reducible assumption) | assumption)) HC0.out
               have HR321 := Aside0.mk (Kd.C_of_reads (h1 := fun _ => rfl) (hA14 _ (Kd.reads_of_C HR0.out)))
               have HC321 := Aside0.mk hC14
               clear hA14 hC14 hi014 hsz14
               obtain ⟨i015, hi015, _, hsz15, _⟩ := info_parts info5
               obtain ⟨A15, hcut15, hA15, hC15⟩ := print_drop_of (P := Try.prog) (Value.int .u8) 0 23 5 .i64 Try.underlying23 hi015 hsz15 A1 c1 l1 x29_3 (of_decide_eq_true (by first | (with_reducible assumption) | assumption)) (of_decide_eq_true (by first | (with_reducible assumption) | assumption)) HC1.out
               have HR322 := Aside0.mk (Kd.C_of_reads (h1 := fun _ => rfl) (hA15 _ (Kd.reads_of_C HR1.out)))
               have HC322 := Aside0.mk hC15
               clear hA15 hC15 hi015 hsz15
               go_wp2_with (first | (go_at_call 18; (try rw [show l0.length - (x24_2 : Int).toNat = (l0.drop (x24_2 : Int).toNat).length from List.length_drop.symm]); (try rw [show l1.length - (x29_3 : Int).toNat = (l1.drop (x29_3 : Int).toNat).length from List.length_drop.symm]); (with_reducible refine (sapperref13_Common.calls k3 _ _ (l0.drop (x24_2 : Int).toNat) _ _ (l1.drop (x29_3 : Int).toNat) t323 _ ?side1 ?side2 ?side3 ?side4 A12.out).mono ?_); (case side1 => repeat (first | exact HR321.out | (with_reducible first|refine Qd ?_ _|refine Qe ?_ _|refine Qf ?_))); (case side2 => exact HC321.out); (case side3 => repeat (first | exact HR322.out | (with_reducible first|refine Qd ?_ _|refine Qe ?_ _|refine Qf ?_))); (case side4 => exact HC322.out); rintro e w' ⟨rfl, ⟨nd, rfl⟩⟩; (try first | exact ⟨rfl, _, World.drewN_drewN _ _ _⟩ | exact ⟨rfl, _, Eq.trans (World.drewN_drewN _ _ _) (congrArg (World.drewN _) (Nat.add_assoc _ _ _))⟩)))
               repeat (go_quiet (first | (go_at_call 18; (try rw [show l0.length - (x24_2 : Int).toNat = (l0.drop (x24_2 : Int).toNat).length from List.length_drop.symm]); (try rw [show l1.length - (x29_3 : Int).toNat = (l1.drop (x29_3 : Int).toNat).length from List.length_drop.symm]); (with_reducible refine (sapperref13_Common.calls k3 _ _ (l0.drop (x24_2 : Int).toNat) _ _ (l1.drop (x29_3 : Int).toNat) t323 _ ?side1 ?side2 ?side3 ?side4 A12.out).mono ?_); (case side1 => repeat (first | exact HR321.out | (with_reducible first|refine Qd ?_ _|refine Qe ?_ _|refine Qf ?_))); (case side2 => exact HC321.out); (case side3 => repeat (first | exact HR322.out | (with_reducible first|refine Qd ?_ _|refine Qe ?_ _|refine Qf ?_))); (case side4 => exact HC322.out); rintro e w' ⟨rfl, ⟨nd, rfl⟩⟩; (try first | exact ⟨rfl, _, World.drewN_drewN _ _ _⟩ | exact ⟨rfl, _, Eq.trans (World.drewN_drewN _ _ _) (congrArg (World.drewN _) (Nat.add_assoc _ _ _))⟩))); try go_wp2_with (first | (go_at_call 18; (try rw [show l0.length - (x24_2 : Int).toNat = (l0.drop (x24_2 : Int).toNat).length from List.length_drop.symm]); (try rw [show l1.length - (x29_3 : Int).toNat = (l1.drop (x29_3 : Int).toNat).length from List.length_drop.symm]); (with_reducible refine (sapperref13_Common.calls k3 _ _ (l0.drop (x24_2 : Int).toNat) _ _ (l1.drop (x29_3 : Int).toNat) t323 _ ?side1 ?side2 ?side3 ?side4 A12.out).mono ?_); (case side1 => repeat (first | exact HR321.out | (with_reducible first|refine Qd ?_ _|refine Qe ?_ _|refine Qf ?_))); (case side2 => exact HC321.out); (case side3 => repeat (first | exact HR322.out | (with_reducible first|refine Qd ?_ _|refine Qe ?_ _|refine Qf ?_))); (case side4 => exact HC322.out); rintro e w' ⟨rfl, ⟨nd, rfl⟩⟩; (try first | exact ⟨rfl, _, World.drewN_drewN _ _ _⟩ | exact ⟨rfl, _, Eq.trans (World.drewN_drewN _ _ _) (congrArg (World.drewN _) (Nat.add_assoc _ _ _))⟩))))
               go_roundg k3
               case measure => have := HJ2.out; have := HK2.out; have := HK3.out; omega
               case rel => exact ⟨(t323), (x24_2), (x29_3), (wrap64 (x29_3 + 1)), (by first | rfl | (simp; done) | (simp [*]; done)), (by first | rfl | (simp; done) | (simp [*]; done)), (by first | rfl | (simp; done) | (simp [*]; done)), (by first | rfl | (simp; done) | (simp [*]; done)), H', ⟨by have := HJ2.out; have := HK2.out; have := HK3.out; omega⟩, by repeat (first | exact Drawn0.refl _ | apply Drawn0.step)⟩
              ·rw [if_neg c13] at H
               have c13b0 : decide (x8_3 < t323) = false := decide_eq_false c13
               clear c13
               by_cases c16 : t323 = x8_3
               ·rw [if_pos c16] at H
                have c16b0 : (t323 == x8_3) = true := beq_iff_eq.mpr c16
                have c16b1 : (t323 != x8_3) = false := bne_eq_false_iff_eq.mpr c16
                clear c16
                by_cases c17 : x8_3 > 0
                ·rw [if_pos c17] at H
                 have c17b0 : decide (0 < x8_3) = true := decide_eq_true c17
                 clear c17
                 have c18b0 := eq_true (of_decide_eq_true (by first | (with_reducible assumption) | assumption) : 0 ≤ x24_2)
                 by_cases c19 : x24_2 ≤ (wrap64 (x24_2 + t323))
                 ·rw [if_pos c19] at H
                  have c19b0 := eq_true c19
                  have c19b1 : decide (x24_2 ≤ (wrap64 (x24_2 + t323))) = true := decide_eq_true c19
                  by_cases c20 : (wrap64 (x24_2 + t323)) ≤ (l0.length : Int)
                  ·rw [if_pos c20] at H
                   have c20b0 := eq_true c20
                   have c20b1 : decide ((wrap64 (x24_2 + t323)) ≤ (l0.length : Int)) = true := decide_eq_true c20
                   by_cases c21 : 0 ≤ x9_3
                   ·rw [if_pos c21] at H
                    have c21b0 := eq_true c21
                    have c21b1 : decide (0 ≤ x9_3) = true := decide_eq_true c21
                    clear c21
                    by_cases c22 : x9_3 ≤ (wrap64 (x9_3 + x8_3))
                    ·rw [if_pos c22] at H
                     have c22b0 := eq_true c22
                     have c22b1 : decide (x9_3 ≤ (wrap64 (x9_3 + x8_3))) = true := decide_eq_true c22
                     by_cases c23 : (wrap64 (x9_3 + x8_3)) ≤ (l0.length : Int)
                     ·rw [if_pos c23] at H
                      have c23b0 := eq_true c23
                      have c23b1 : decide ((wrap64 (x9_3 + x8_3)) ≤ (l0.length : Int)) = true := decide_eq_true c23
                      by_cases c24 : (Op.bytesLess ((strOfNums ((l0.take ((wrap64 (x24_2 + t323)) : Int).toNat).drop (x24_2 : Int).toNat)).toList) ((strOfNums ((l0.take ((wrap64 (x9_3 + x8_3)) : Int).toNat).drop (x9_3 : Int).toNat)).toList)) = true
                      ·rw [if_pos c24] at H
                       have c24b0 : (Op.bytesLess ((strOfNums ((l0.take ((wrap64 (x24_2 + t323)) : Int).toNat).drop (x24_2 : Int).toNat)).toList) ((strOfNums ((l0.take ((wrap64 (x9_3 + x8_3)) : Int).toNat).drop (x9_3 : Int).toNat)).toList)) = true := c24
                       clear c24
                       have H' := Aside0.mk H
                       clear H
                       obtain ⟨i025, hi025, _, hsz25, _⟩ := info_parts info5
                       obtain ⟨A25, hcut25, hA25, hC25⟩ := print_drop_of (P := Try.prog) (Value.int .u8) 0 23 5 .i64 Try.underlying23 hi025 hsz25 A0 c0 l0 x24_2 (of_decide_eq_true (by first | (with_reducible assumption) | assumption)) (of_decide_eq_true (by first | (with_reducible assumption) | assumption)) HC0.out
                       have HR321 := Aside0.mk (Kd.C_of_reads (h1 := fun _ => rfl) (hA25 _ (Kd.reads_of_C HR0.out)))
                       have HC321 := Aside0.mk hC25
                       clear hA25 hC25 hi025 hsz25
                       obtain ⟨i026, hi026, _, hsz26, _⟩ := info_parts info5
                       obtain ⟨A26, hcut26, hA26, hC26⟩ := print_drop_of (P := Try.prog) (Value.int .u8) 0 23 5 .i64 Try.underlying23 hi026 hsz26 A1 c1 l1 x29_3 (of_decide_eq_true (by first | (with_reducible assumption) | assumption)) (of_decide_eq_true (by first | (with_reducible assumption) | assumption)) HC1.out
                       have HR322 := Aside0.mk (Kd.C_of_reads (h1 := fun _ => rfl) (hA26 _ (Kd.reads_of_C HR1.out)))
                       have HC322 := Aside0.mk hC26
                       clear hA26 hC26 hi026 hsz26
                       go_wp2_with (first | (go_at_call 18; (try rw [show l0.length - (x24_2 : Int).toNat = (l0.drop (x24_2 : Int).toNat).length from List.length_drop.symm]); (try rw [show l1.length - (x29_3 : Int).toNat = (l1.drop (x29_3 : Int).toNat).length from List.length_drop.symm]); (with_reducible refine (sapperref13_Common.calls k3 _ _ (l0.drop (x24_2 : Int).toNat) _ _ (l1.drop (x29_3 : Int).toNat) t323 _ ?side1 ?side2 ?side3 ?side4 A12.out).mono ?_); (case side1 => repeat (first | exact HR321.out | (with_reducible first|refine Qd ?_ _|refine Qe ?_ _|refine Qf ?_))); (case side2 => exact HC321.out); (case side3 => repeat (first | exact HR322.out | (with_reducible first|refine Qd ?_ _|refine Qe ?_ _|refine Qf ?_))); (case side4 => exact HC322.out); rintro e w' ⟨rfl, ⟨nd, rfl⟩⟩; (try first | exact ⟨rfl, _, World.drewN_drewN _ _ _⟩ | exact ⟨rfl, _, Eq.trans (World.drewN_drewN _ _ _) (congrArg (World.drewN _) (Nat.add_assoc _ _ _))⟩); obtain ⟨i027, hi027, _, hsz27, _⟩ := info_parts info5; obtain ⟨A27, hcut27, hA27, hC27⟩ := print_mid_of (P := Try.prog) (Value.int .u8) 0 23 5 .i64 .i64 Try.underlying23 hi027 hsz27 A0 c0 l0 x24_2 (wrap64 (x24_2 + t323)) (of_decide_eq_true (by first | (with_reducible assumption) | assumption)) (by first | omega | exact of_decide_eq_true (by first | (with_reducible assumption) | assumption)) (of_decide_eq_true (by first | (with_reducible assumption) | assumption)) HC0.out; (try (have hws12 := i64_w (x24_2 + t323))); have HR324 := Aside0.mk (Kd.C_of_reads (h1 := fun _ => rfl) (hA27 _ (Kd.reads_of_C HR0.out))); have HC324 := Aside0.mk hC27; clear hA27 hC27 hi027 hsz27; have hcv28 := Kd.C_string (P := Try.prog) (A := A27) (c := (c0 - x24_2.toNat)) Try.underlying23 Try.underlying5 Try.underlying9 HR324.out; (try (have hcv28k := C_string0 (P := Try.prog) (A := A27) (c := (c0 - x24_2.toNat)) Try.underlying23 Try.underlying5 Try.underlying9 HR324.out)); (try (have hcv28n := C_string1 (P := Try.prog) (A := A27) (c := (c0 - x24_2.toNat)) Try.underlying23 Try.underlying5 Try.underlying9 HR324.out)); (try (have hcv28m := C_string2 (P := Try.prog) (A := A27) (c := (c0 - x24_2.toNat)) Try.underlying23 Try.underlying5 Try.underlying9 HR324.out)); obtain ⟨i029, hi029, _, hsz29, _⟩ := info_parts info5; obtain ⟨A29, hcut29, hA29, hC29⟩ := print_mid_of (P := Try.prog) (Value.int .u8) 0 23 5 .i64 .i64 Try.underlying23 hi029 hsz29 A0 c0 l0 x9_3 (wrap64 (x9_3 + x8_3)) (of_decide_eq_true (by first | (with_reducible assumption) | assumption)) (by first | omega | exact of_decide_eq_true (by first | (with_reducible assumption) | assumption)) (of_decide_eq_true (by first | (with_reducible assumption) | assumption)) HC0.out; (try (have hws13 := i64_w (x9_3 + x8_3))); have HR325 := Aside0.mk (Kd.C_of_reads (h1 := fun _ => rfl) (hA29 _ (Kd.reads_of_C HR0.out))); have HC325 := Aside0.mk hC29; clear hA29 hC29 hi029 hsz29; have hcv30 := Kd.C_string (P := Try.prog) (A := A29) (c := (c0 - x9_3.toNat)) Try.underlying23 Try.underlying5 Try.underlying9 HR325.out; (try (have hcv30k := C_string0 (P := Try.prog) (A := A29) (c := (c0 - x9_3.toNat)) Try.underlying23 Try.underlying5 Try.underlying9 HR325.out)); (try (have hcv30n := C_string1 (P := Try.prog) (A := A29) (c := (c0 - x9_3.toNat)) Try.underlying23 Try.underlying5 Try.underlying9 HR325.out)); (try (have hcv30m := C_string2 (P := Try.prog) (A := A29) (c := (c0 - x9_3.toNat)) Try.underlying23 Try.underlying5 Try.underlying9 HR325.out))))
                       repeat (go_quiet (first | (go_at_call 18; (try rw [show l0.length - (x24_2 : Int).toNat = (l0.drop (x24_2 : Int).toNat).length from List.length_drop.symm]); (try rw [show l1.length - (x29_3 : Int).toNat = (l1.drop (x29_3 : Int).toNat).length from List.length_drop.symm]); (with_reducible refine (sapperref13_Common.calls k3 _ _ (l0.drop (x24_2 : Int).toNat) _ _ (l1.drop (x29_3 : Int).toNat) t323 _ ?side1 ?side2 ?side3 ?side4 A12.out).mono ?_); (case side1 => repeat (first | exact HR321.out | (with_reducible first|refine Qd ?_ _|refine Qe ?_ _|refine Qf ?_))); (case side2 => exact HC321.out); (case side3 => repeat (first | exact HR322.out | (with_reducible first|refine Qd ?_ _|refine Qe ?_ _|refine Qf ?_))); (case side4 => exact HC322.out); rintro e w' ⟨rfl, ⟨nd, rfl⟩⟩; (try first | exact ⟨rfl, _, World.drewN_drewN _ _ _⟩ | exact ⟨rfl, _, Eq.trans (World.drewN_drewN _ _ _) (congrArg (World.drewN _) (Nat.add_assoc _ _ _))⟩); obtain ⟨i027, hi027, _, hsz27, _⟩ := info_parts info5; obtain ⟨A27, hcut27, hA27, hC27⟩ := print_mid_of (P := Try.prog) (Value.int .u8) 0 23 5 .i64 .i64 Try.underlying23 hi027 hsz27 A0 c0 l0 x24_2 (wrap64 (x24_2 + t323)) (of_decide_eq_true (by first | (with_reducible assumption) | assumption)) (by first | omega | exact of_decide_eq_true (by first | (with_reducible assumption) | assumption)) (of_decide_eq_true (by first | (with_reducible assumption) | assumption)) HC0.out; (try (have hws14 := i64_w (x24_2 + t323))); have HR324 := Aside0.mk (Kd.C_of_reads (h1 := fun _ => rfl) (hA27 _ (Kd.reads_of_C HR0.out))); have HC324 := Aside0.mk hC27; clear hA27 hC27 hi027 hsz27; have hcv28 := Kd.C_string (P := Try.prog) (A := A27) (c := (c0 - x24_2.toNat)) Try.underlying23 Try.underlying5 Try.underlying9 HR324.out; (try (have hcv28k := C_string0 (P := Try.prog) (A := A27) (c := (c0 - x24_2.toNat)) Try.underlying23 Try.underlying5 Try.underlying9 HR324.out)); (try (have hcv28n := C_string1 (P := Try.prog) (A := A27) (c := (c0 - x24_2.toNat)) Try.underlying23 Try.underlying5 Try.underlying9 HR324.out)); (try (have hcv28m := C_string2 (P := Try.prog) (A := A27) (c := (c0 - x24_2.toNat)) Try.underlying23 Try.underlying5 Try.underlying9 HR324.out)); obtain ⟨i029, hi029, _, hsz29, _⟩ := info_parts info5; obtain ⟨A29, hcut29, hA29, hC29⟩ := print_mid_of (P := Try.prog) (Value.int .u8) 0 23 5 .i64 .i64 Try.underlying23 hi029 hsz29 A0 c0 l0 x9_3 (wrap64 (x9_3 + x8_3)) (of_decide_eq_true (by first | (with_reducible assumption) | assumption)) (by first | omega | exact of_decide_eq_true (by first | (with_reducible assumption) | assumption)) (of_decide_eq_true (by first | (with_reducible assumption) | assumption)) HC0.out; (try (have hws15 := i64_w (x9_3 + x8_3))); have HR325 := Aside0.mk (Kd.C_of_reads (h1 := fun _ => rfl) (hA29 _ (Kd.reads_of_C HR0.out))); have HC325 := Aside0.mk hC29; clear hA29 hC29 hi029 hsz29; have hcv30 := Kd.C_string (P := Try.prog) (A := A29) (c := (c0 - x9_3.toNat)) Try.underlying23 Try.underlying5 Try.underlying9 HR325.out; (try (have hcv30k := C_string0 (P := Try.prog) (A := A29) (c := (c0 - x9_3.toNat)) Try.underlying23 Try.underlying5 Try.underlying9 HR325.out)); (try (have hcv30n := C_string1 (P := Try.prog) (A := A29) (c := (c0 - x9_3.toNat)) Try.underlying23 Try.underlying5 Try.underlying9 HR325.out)); (try (have hcv30m := C_string2 (P := Try.prog) (A := A29) (c := (c0 - x9_3.toNat)) Try.underlying23 Try.underlying5 Try.underlying9 HR325.out)))); try go_wp2_with (first | (go_at_call 18; (try rw [show l0.length - (x24_2 : Int).toNat = (l0.drop (x24_2 : Int).toNat).length from List.length_drop.symm]); (try rw [show l1.length - (x29_3 : Int).toNat = (l1.drop (x29_3 : Int).toNat).length from List.length_drop.symm]); (with_reducible refine (sapperref13_Common.calls k3 _ _ (l0.drop (x24_2 : Int).toNat) _ _ (l1.drop (x29_3 : Int).toNat) t323 _ ?side1 ?side2 ?side3 ?side4 A12.out).mono ?_); (case side1 => repeat (first | exact HR321.out | (with_reducible first|refine Qd ?_ _|refine Qe ?_ _|refine Qf ?_))); (case side2 => exact HC321.out); (case side3 => repeat (first | exact HR322.out | (with_reducible first|refine Qd ?_ _|refine Qe ?_ _|refine Qf ?_))); (case side4 => exact HC322.out); rintro e w' ⟨rfl, ⟨nd, rfl⟩⟩; (try first | exact ⟨rfl, _, World.drewN_drewN _ _ _⟩ | exact ⟨rfl, _, Eq.trans (World.drewN_drewN _ _ _) (congrArg (World.drewN _) (Nat.add_assoc _ _ _))⟩); obtain ⟨i027, hi027, _, hsz27, _⟩ := info_parts info5; obtain ⟨A27, hcut27, hA27, hC27⟩ := print_mid_of (P := Try.prog) (Value.int .u8) 0 23 5 .i64 .i64 Try.underlying23 hi027 hsz27 A0 c0 l0 x24_2 (wrap64 (x24_2 + t323)) (of_decide_eq_true (by first | (with_reducible assumption) | assumption)) (by first | omega | exact of_decide_eq_true (by first | (with_reducible assumption) | assumption)) (of_decide_eq_true (by first | (with_reducible assumption) | assumption)) HC0.out; (try (have hws16 := i64_w (x24_2 + t323))); have HR324 := Aside0.mk (Kd.C_of_reads (h1 := fun _ => rfl) (hA27 _ (Kd.reads_of_C HR0.out))); have HC324 := Aside0.mk hC27; clear hA27 hC27 hi027 hsz27; have hcv28 := Kd.C_string (P := Try.prog) (A := A27) (c := (c0 - x24_2.toNat)) Try.underlying23 Try.underlying5 Try.underlying9 HR324.out; (try (have hcv28k := C_string0 (P := Try.prog) (A := A27) (c := (c0 - x24_2.toNat)) Try.underlying23 Try.underlying5 Try.underlying9 HR324.out)); (try (have hcv28n := C_string1 (P := Try.prog) (A := A27) (c := (c0 - x24_2.toNat)) Try.underlying23 Try.underlying5 Try.underlying9 HR324.out)); (try (have hcv28m := C_string2 (P := Try.prog) (A := A27) (c := (c0 - x24_2.toNat)) Try.underlying23 Try.underlying5 Try.underlying9 HR324.out)); obtain ⟨i029, hi029, _, hsz29, _⟩ := info_parts info5; obtain ⟨A29, hcut29, hA29, hC29⟩ := print_mid_of (P := Try.prog) (Value.int .u8) 0 23 5 .i64 .i64 Try.underlying23 hi029 hsz29 A0 c0 l0 x9_3 (wrap64 (x9_3 + x8_3)) (of_decide_eq_true (by first | (with_reducible assumption) | assumption)) (by first | omega | exact of_decide_eq_true (by first | (with_reducible assumption) | assumption)) (of_decide_eq_true (by first | (with_reducible assumption) | assumption)) HC0.out; (try (have hws17 := i64_w (x9_3 + x8_3))); have HR325 := Aside0.mk (Kd.C_of_reads (h1 := fun _ => rfl) (hA29 _ (Kd.reads_of_C HR0.out))); have HC325 := Aside0.mk hC29; clear hA29 hC29 hi029 hsz29; have hcv30 := Kd.C_string (P := Try.prog) (A := A29) (c := (c0 - x9_3.toNat)) Try.underlying23 Try.underlying5 Try.underlying9 HR325.out; (try (have hcv30k := C_string0 (P := Try.prog) (A := A29) (c := (c0 - x9_3.toNat)) Try.underlying23 Try.underlying5 Try.underlying9 HR325.out)); (try (have hcv30n := C_string1 (P := Try.prog) (A := A29) (c := (c0 - x9_3.toNat)) Try.underlying23 Try.underlying5 Try.underlying9 HR325.out)); (try (have hcv30m := C_string2 (P := Try.prog) (A := A29) (c := (c0 - x9_3.toNat)) Try.underlying23 Try.underlying5 Try.underlying9 HR325.out)))))
                       go_roundg k3
                       case measure => have := HJ2.out; have := HK2.out; have := HK3.out; omega
                       case rel => exact ⟨(t323), (x24_2), (x29_3), (wrap64 (x29_3 + 1)), (by first | rfl | (simp; done) | (simp [*]; done)), (by first | rfl | (simp; done) | (simp [*]; done)), (by first | rfl | (simp; done) | (simp [*]; done)), (by first | rfl | (simp; done) | (simp [*]; done)), H', ⟨by have := HJ2.out; have := HK2.out; have := HK3.out; omega⟩, by repeat (first | exact Drawn0.refl _ | apply Drawn0.step)⟩
                      ·rw [if_neg c24] at H
                       have c24b0 : (Op.bytesLess ((strOfNums ((l0.take ((wrap64 (x24_2 + t323)) : Int).toNat).drop (x24_2 : Int).toNat)).toList) ((strOfNums ((l0.take ((wrap64 (x9_3 + x8_3)) : Int).toNat).drop (x9_3 : Int).toNat)).toList)) = false := by simpa using c24
                       clear c24
                       have H' := Aside0.mk H
                       clear H
                       obtain ⟨i031, hi031, _, hsz31, _⟩ := info_parts info5
                       obtain ⟨A31, hcut31, hA31, hC31⟩ := print_drop_of (P := Try.prog) (Value.int .u8) 0 23 5 .i64 Try.underlying23 hi031 hsz31 A0 c0 l0 x24_2 (of_decide_eq_true (by first | (with_reducible assumption) | assumption)) (of_decide_eq_true (by first | (with_reducible assumption) | assumption)) HC0.out
                       have HR321 := Aside0.mk (Kd.C_of_reads (h1 := fun _ => rfl) (hA31 _ (Kd.reads_of_C HR0.out)))
                       have HC321 := Aside0.mk hC31
                       clear hA31 hC31 hi031 hsz31
                       obtain ⟨i032, hi032, _, hsz32, _⟩ := info_parts info5
                       obtain ⟨A32, hcut32, hA32, hC32⟩ := print_drop_of (P := Try.prog) (Value.int .u8) 0 23 5 .i64 Try.underlying23 hi032 hsz32 A1 c1 l1 x29_3 (of_decide_eq_true (by first | (with_reducible assumption) | assumption)) (of_decide_eq_true (by first | (with_reducible assumption) | assumption)) HC1.out
                       have HR322 := Aside0.mk (Kd.C_of_reads (h1 := fun _ => rfl) (hA32 _ (Kd.reads_of_C HR1.out)))
                       have HC322 := Aside0.mk hC32
                       clear hA32 hC32 hi032 hsz32
                       go_wp2_with (first | (go_at_call 18; (try rw [show l0.length - (x24_2 : Int).toNat = (l0.drop (x24_2 : Int).toNat).length from List.length_drop.symm]); (try rw [show l1.length - (x29_3 : Int).toNat = (l1.drop (x29_3 : Int).toNat).length from List.length_drop.symm]); (with_reducible refine (sapperref13_Common.calls k3 _ _ (l0.drop (x24_2 : Int).toNat) _ _ (l1.drop (x29_3 : Int).toNat) t323 _ ?side1 ?side2 ?side3 ?side4 A12.out).mono ?_); (case side1 => repeat (first | exact HR321.out | (with_reducible first|refine Qd ?_ _|refine Qe ?_ _|refine Qf ?_))); (case side2 => exact HC321.out); (case side3 => repeat (first | exact HR322.out | (with_reducible first|refine Qd ?_ _|refine Qe ?_ _|refine Qf ?_))); (case side4 => exact HC322.out); rintro e w' ⟨rfl, ⟨nd, rfl⟩⟩; (try first | exact ⟨rfl, _, World.drewN_drewN _ _ _⟩ | exact ⟨rfl, _, Eq.trans (World.drewN_drewN _ _ _) (congrArg (World.drewN _) (Nat.add_assoc _ _ _))⟩); obtain ⟨i033, hi033, _, hsz33, _⟩ := info_parts info5; obtain ⟨A33, hcut33, hA33, hC33⟩ := print_mid_of (P := Try.prog) (Value.int .u8) 0 23 5 .i64 .i64 Try.underlying23 hi033 hsz33 A0 c0 l0 x24_2 (wrap64 (x24_2 + t323)) (of_decide_eq_true (by first | (with_reducible assumption) | assumption)) (by first | omega | exact of_decide_eq_true (by first | (with_reducible assumption) | assumption)) (of_decide_eq_true (by first | (with_reducible assumption) | assumption)) HC0.out; (try (have hws18 := i64_w (x24_2 + t323))); have HR324 := Aside0.mk (Kd.C_of_reads (h1 := fun _ => rfl) (hA33 _ (Kd.reads_of_C HR0.out))); have HC324 := Aside0.mk hC33; clear hA33 hC33 hi033 hsz33; have hcv34 := Kd.C_string (P := Try.prog) (A := A33) (c := (c0 - x24_2.toNat)) Try.underlying23 Try.underlying5 Try.underlying9 HR324.out; (try (have hcv34k := C_string0 (P := Try.prog) (A := A33) (c := (c0 - x24_2.toNat)) Try.underlying23 Try.underlying5 Try.underlying9 HR324.out)); (try (have hcv34n := C_string1 (P := Try.prog) (A := A33) (c := (c0 - x24_2.toNat)) Try.underlying23 Try.underlying5 Try.underlying9 HR324.out)); (try (have hcv34m := C_string2 (P := Try.prog) (A := A33) (c := (c0 - x24_2.toNat)) Try.underlying23 Try.underlying5 Try.underlying9 HR324.out)); obtain ⟨i035, hi035, _, hsz35, _⟩ := info_parts info5; obtain ⟨A35, hcut35, hA35, hC35⟩ := print_mid_of (P := Try.prog) (Value.int .u8) 0 23 5 .i64 .i64 Try.underlying23 hi035 hsz35 A0 c0 l0 x9_3 (wrap64 (x9_3 + x8_3)) (of_decide_eq_true (by first | (with_reducible assumption) | assumption)) (by first | omega | exact of_decide_eq_true (by first | (with_reducible assumption) | assumption)) (of_decide_eq_true (by first | (with_reducible assumption) | assumption)) HC0.out; (try (have hws19 := i64_w (x9_3 + x8_3))); have HR325 := Aside0.mk (Kd.C_of_reads (h1 := fun _ => rfl) (hA35 _ (Kd.reads_of_C HR0.out))); have HC325 := Aside0.mk hC35; clear hA35 hC35 hi035 hsz35; have hcv36 := Kd.C_string (P := Try.prog) (A := A35) (c := (c0 - x9_3.toNat)) Try.underlying23 Try.underlying5 Try.underlying9 HR325.out; (try (have hcv36k := C_string0 (P := Try.prog) (A := A35) (c := (c0 - x9_3.toNat)) Try.underlying23 Try.underlying5 Try.underlying9 HR325.out)); (try (have hcv36n := C_string1 (P := Try.prog) (A := A35) (c := (c0 - x9_3.toNat)) Try.underlying23 Try.underlying5 Try.underlying9 HR325.out)); (try (have hcv36m := C_string2 (P := Try.prog) (A := A35) (c := (c0 - x9_3.toNat)) Try.underlying23 Try.underlying5 Try.underlying9 HR325.out))))
                       repeat (go_quiet (first | (go_at_call 18; (try rw [show l0.length - (x24_2 : Int).toNat = (l0.drop (x24_2 : Int).toNat).length from List.length_drop.symm]); (try rw [show l1.length - (x29_3 : Int).toNat = (l1.drop (x29_3 : Int).toNat).length from List.length_drop.symm]); (with_reducible refine (sapperref13_Common.calls k3 _ _ (l0.drop (x24_2 : Int).toNat) _ _ (l1.drop (x29_3 : Int).toNat) t323 _ ?side1 ?side2 ?side3 ?side4 A12.out).mono ?_); (case side1 => repeat (first | exact HR321.out | (with_reducible first|refine Qd ?_ _|refine Qe ?_ _|refine Qf ?_))); (case side2 => exact HC321.out); (case side3 => repeat (first | exact HR322.out | (with_reducible first|refine Qd ?_ _|refine Qe ?_ _|refine Qf ?_))); (case side4 => exact HC322.out); rintro e w' ⟨rfl, ⟨nd, rfl⟩⟩; (try first | exact ⟨rfl, _, World.drewN_drewN _ _ _⟩ | exact ⟨rfl, _, Eq.trans (World.drewN_drewN _ _ _) (congrArg (World.drewN _) (Nat.add_assoc _ _ _))⟩); obtain ⟨i033, hi033, _, hsz33, _⟩ := info_parts info5; obtain ⟨A33, hcut33, hA33, hC33⟩ := print_mid_of (P := Try.prog) (Value.int .u8) 0 23 5 .i64 .i64 Try.underlying23 hi033 hsz33 A0 c0 l0 x24_2 (wrap64 (x24_2 + t323)) (of_decide_eq_true (by first | (with_reducible assumption) | assumption)) (by first | omega | exact of_decide_eq_true (by first | (with_reducible assumption) | assumption)) (of_decide_eq_true (by first | (with_reducible assumption) | assumption)) HC0.out; (try (have hws20 := i64_w (x24_2 + t323))); have HR324 := Aside0.mk (Kd.C_of_reads (h1 := fun _ => rfl) (hA33 _ (Kd.reads_of_C HR0.out))); have HC324 := Aside0.mk hC33; clear hA33 hC33 hi033 hsz33; have hcv34 := Kd.C_string (P := Try.prog) (A := A33) (c := (c0 - x24_2.toNat)) Try.underlying23 Try.underlying5 Try.underlying9 HR324.out; (try (have hcv34k := C_string0 (P := Try.prog) (A := A33) (c := (c0 - x24_2.toNat)) Try.underlying23 Try.underlying5 Try.underlying9 HR324.out)); (try (have hcv34n := C_string1 (P := Try.prog) (A := A33) (c := (c0 - x24_2.toNat)) Try.underlying23 Try.underlying5 Try.underlying9 HR324.out)); (try (have hcv34m := C_string2 (P := Try.prog) (A := A33) (c := (c0 - x24_2.toNat)) Try.underlying23 Try.underlying5 Try.underlying9 HR324.out)); obtain ⟨i035, hi035, _, hsz35, _⟩ := info_parts info5; obtain ⟨A35, hcut35, hA35, hC35⟩ := print_mid_of (P := Try.prog) (Value.int .u8) 0 23 5 .i64 .i64 Try.underlying23 hi035 hsz35 A0 c0 l0 x9_3 (wrap64 (x9_3 + x8_3)) (of_decide_eq_true (by first | (with_reducible assumption) | assumption)) (by first | omega | exact of_decide_eq_true (by first | (with_reducible assumption) | assumption)) (of_decide_eq_true (by first | (with_reducible assumption) | assumption)) HC0.out; (try (have hws21 := i64_w (x9_3 + x8_3))); have HR325 := Aside0.mk (Kd.C_of_reads (h1 := fun _ => rfl) (hA35 _ (Kd.reads_of_C HR0.out))); have HC325 := Aside0.mk hC35; clear hA35 hC35 hi035 hsz35; have hcv36 := Kd.C_string (P := Try.prog) (A := A35) (c := (c0 - x9_3.toNat)) Try.underlying23 Try.underlying5 Try.underlying9 HR325.out; (try (have hcv36k := C_string0 (P := Try.prog) (A := A35) (c := (c0 - x9_3.toNat)) Try.underlying23 Try.underlying5 Try.underlying9 HR325.out)); (try (have hcv36n := C_string1 (P := Try.prog) (A := A35) (c := (c0 - x9_3.toNat)) Try.underlying23 Try.underlying5 Try.underlying9 HR325.out)); (try (have hcv36m := C_string2 (P := Try.prog) (A := A35) (c := (c0 - x9_3.toNat)) Try.underlying23 Try.underlying5 Try.underlying9 HR325.out)))); try go_wp2_with (first | (go_at_call 18; (try rw [show l0.length - (x24_2 : Int).toNat = (l0.drop (x24_2 : Int).toNat).length from List.length_drop.symm]); (try rw [show l1.length - (x29_3 : Int).toNat = (l1.drop (x29_3 : Int).toNat).length from List.length_drop.symm]); (with_reducible refine (sapperref13_Common.calls k3 _ _ (l0.drop (x24_2 : Int).toNat) _ _ (l1.drop (x29_3 : Int).toNat) t323 _ ?side1 ?side2 ?side3 ?side4 A12.out).mono ?_); (case side1 => repeat (first | exact HR321.out | (with_reducible first|refine Qd ?_ _|refine Qe ?_ _|refine Qf ?_))); (case side2 => exact HC321.out); (case side3 => repeat (first | exact HR322.out | (with_reducible first|refine Qd ?_ _|refine Qe ?_ _|refine Qf ?_))); (case side4 => exact HC322.out); rintro e w' ⟨rfl, ⟨nd, rfl⟩⟩; (try first | exact ⟨rfl, _, World.drewN_drewN _ _ _⟩ | exact ⟨rfl, _, Eq.trans (World.drewN_drewN _ _ _) (congrArg (World.drewN _) (Nat.add_assoc _ _ _))⟩); obtain ⟨i033, hi033, _, hsz33, _⟩ := info_parts info5; obtain ⟨A33, hcut33, hA33, hC33⟩ := print_mid_of (P := Try.prog) (Value.int .u8) 0 23 5 .i64 .i64 Try.underlying23 hi033 hsz33 A0 c0 l0 x24_2 (wrap64 (x24_2 + t323)) (of_decide_eq_true (by first | (with_reducible assumption) | assumption)) (by first | omega | exact of_decide_eq_true (by first | (with_reducible assumption) | assumption)) (of_decide_eq_true (by first | (with_reducible assumption) | assumption)) HC0.out; (try (have hws22 := i64_w (x24_2 + t323))); have HR324 := Aside0.mk (Kd.C_of_reads (h1 := fun _ => rfl) (hA33 _ (Kd.reads_of_C HR0.out))); have HC324 := Aside0.mk hC33; clear hA33 hC33 hi033 hsz33; have hcv34 := Kd.C_string (P := Try.prog) (A := A33) (c := (c0 - x24_2.toNat)) Try.underlying23 Try.underlying5 Try.underlying9 HR324.out; (try (have hcv34k := C_string0 (P := Try.prog) (A := A33) (c := (c0 - x24_2.toNat)) Try.underlying23 Try.underlying5 Try.underlying9 HR324.out)); (try (have hcv34n := C_string1 (P := Try.prog) (A := A33) (c := (c0 - x24_2.toNat)) Try.underlying23 Try.underlying5 Try.underlying9 HR324.out)); (try (have hcv34m := C_string2 (P := Try.prog) (A := A33) (c := (c0 - x24_2.toNat)) Try.underlying23 Try.underlying5 Try.underlying9 HR324.out)); obtain ⟨i035, hi035, _, hsz35, _⟩ := info_parts info5; obtain ⟨A35, hcut35, hA35, hC35⟩ := print_mid_of (P := Try.prog) (Value.int .u8) 0 23 5 .i64 .i64 Try.underlying23 hi035 hsz35 A0 c0 l0 x9_3 (wrap64 (x9_3 + x8_3)) (of_decide_eq_true (by first | (with_reducible assumption) | assumption)) (by first | omega | exact of_decide_eq_true (by first | (with_reducible assumption) | assumption)) (of_decide_eq_true (by first | (with_reducible assumption) | assumption)) HC0.out; (try (have hws23 := i64_w (x9_3 + x8_3))); have HR325 := Aside0.mk (Kd.C_of_reads (h1 := fun _ => rfl) (hA35 _ (Kd.reads_of_C HR0.out))); have HC325 := Aside0.mk hC35; clear hA35 hC35 hi035 hsz35; have hcv36 := Kd.C_string (P := Try.prog) (A := A35) (c := (c0 - x9_3.toNat)) Try.underlying23 Try.underlying5 Try.underlying9 HR325.out; (try (have hcv36k := C_string0 (P := Try.prog) (A := A35) (c := (c0 - x9_3.toNat)) Try.underlying23 Try.underlying5 Try.underlying9 HR325.out)); (try (have hcv36n := C_string1 (P := Try.prog) (A := A35) (c := (c0 - x9_3.toNat)) Try.underlying23 Try.underlying5 Try.underlying9 HR325.out)); (try (have hcv36m := C_string2 (P := Try.prog) (A := A35) (c := (c0 - x9_3.toNat)) Try.underlying23 Try.underlying5 Try.underlying9 HR325.out)))))
                       go_roundg k3
                       case measure => have := HJ2.out; have := HK2.out; have := HK3.out; omega
                       case rel => exact ⟨(x8_3), (x9_3), (x10_3), (wrap64 (x29_3 + 1)), (by first | rfl | (simp; done) | (simp [*]; done)), (by first | rfl | (simp; done) | (simp [*]; done)), (by first | rfl | (simp; done) | (simp [*]; done)), (by first | rfl | (simp; done) | (simp [*]; done)), H', ⟨by have := HJ2.out; have := HK2.out; have := HK3.out; omega⟩, by repeat (first | exact Drawn0.refl _ | apply Drawn0.step)⟩
                     ·rw [if_neg c23] at H
                      exact absurd H (by simp)
                    ·rw [if_neg c22] at H
                     exact absurd H (by simp)
                   ·rw [if_neg c21] at H
                    exact absurd H (by simp)
                  ·rw [if_neg c20] at H
                   exact absurd H (by simp)
                 ·rw [if_neg c19] at H
                  exact absurd H (by simp)
                ·rw [if_neg c17] at H
                 have c17b0 : decide (0 < x8_3) = false := decide_eq_false c17
                 clear c17
                 have H' := Aside0.mk H
                 clear H
                 obtain ⟨i037, hi037, _, hsz37, _⟩ := info_parts info5
                 obtain ⟨A37, hcut37, hA37, hC37⟩ := print_drop_of (P := Try.prog) (Value.int .u8) 0 23 5 .i64 Try.underlying23 hi037 hsz37 A0 c0 l0 x24_2 (of_decide_eq_true (by first | (with_reducible assumption) | assumption)) (of_decide_eq_true (by first | (with_reducible assumption) | assumption)) HC0.out
                 have HR321 := Aside0.mk (Kd.C_of_reads (h1 := fun _ => rfl) (hA37 _ (Kd.reads_of_C HR0.out)))
                 have HC321 := Aside0.mk hC37
                 clear hA37 hC37 hi037 hsz37
                 obtain ⟨i038, hi038, _, hsz38, _⟩ := info_parts info5
                 obtain ⟨A38, hcut38, hA38, hC38⟩ := print_drop_of (P := Try.prog) (Value.int .u8) 0 23 5 .i64 Try.underlying23 hi038 hsz38 A1 c1 l1 x29_3 (of_decide_eq_true (by first | (with_reducible assumption) | assumption)) (of_decide_eq_true (by first | (with_reducible assumption) | assumption)) HC1.out
                 have HR322 := Aside0.mk (Kd.C_of_reads (h1 := fun _ => rfl) (hA38 _ (Kd.reads_of_C HR1.out)))
                 have HC322 := Aside0.mk hC38
                 clear hA38 hC38 hi038 hsz38
                 go_wp2_with (first | (go_at_call 18; (try rw [show l0.length - (x24_2 : Int).toNat = (l0.drop (x24_2 : Int).toNat).length from List.length_drop.symm]); (try rw [show l1.length - (x29_3 : Int).toNat = (l1.drop (x29_3 : Int).toNat).length from List.length_drop.symm]); (with_reducible refine (sapperref13_Common.calls k3 _ _ (l0.drop (x24_2 : Int).toNat) _ _ (l1.drop (x29_3 : Int).toNat) t323 _ ?side1 ?side2 ?side3 ?side4 A12.out).mono ?_); (case side1 => repeat (first | exact HR321.out | (with_reducible first|refine Qd ?_ _|refine Qe ?_ _|refine Qf ?_))); (case side2 => exact HC321.out); (case side3 => repeat (first | exact HR322.out | (with_reducible first|refine Qd ?_ _|refine Qe ?_ _|refine Qf ?_))); (case side4 => exact HC322.out); rintro e w' ⟨rfl, ⟨nd, rfl⟩⟩; (try first | exact ⟨rfl, _, World.drewN_drewN _ _ _⟩ | exact ⟨rfl, _, Eq.trans (World.drewN_drewN _ _ _) (congrArg (World.drewN _) (Nat.add_assoc _ _ _))⟩)))
                 repeat (go_quiet (first | (go_at_call 18; (try rw [show l0.length - (x24_2 : Int).toNat = (l0.drop (x24_2 : Int).toNat).length from List.length_drop.symm]); (try rw [show l1.length - (x29_3 : Int).toNat = (l1.drop (x29_3 : Int).toNat).length from List.length_drop.symm]); (with_reducible refine (sapperref13_Common.calls k3 _ _ (l0.drop (x24_2 : Int).toNat) _ _ (l1.drop (x29_3 : Int).toNat) t323 _ ?side1 ?side2 ?side3 ?side4 A12.out).mono ?_); (case side1 => repeat (first | exact HR321.out | (with_reducible first|refine Qd ?_ _|refine Qe ?_ _|refine Qf ?_))); (case side2 => exact HC321.out); (case side3 => repeat (first | exact HR322.out | (with_reducible first|refine Qd ?_ _|refine Qe ?_ _|refine Qf ?_))); (case side4 => exact HC322.out); rintro e w' ⟨rfl, ⟨nd, rfl⟩⟩; (try first | exact ⟨rfl, _, World.drewN_drewN _ _ _⟩ | exact ⟨rfl, _, Eq.trans (World.drewN_drewN _ _ _) (congrArg (World.drewN _) (Nat.add_assoc _ _ _))⟩))); try go_wp2_with (first | (go_at_call 18; (try rw [show l0.length - (x24_2 : Int).toNat = (l0.drop (x24_2 : Int).toNat).length from List.length_drop.symm]); (try rw [show l1.length - (x29_3 : Int).toNat = (l1.drop (x29_3 : Int).toNat).length from List.length_drop.symm]); (with_reducible refine (sapperref13_Common.calls k3 _ _ (l0.drop (x24_2 : Int).toNat) _ _ (l1.drop (x29_3 : Int).toNat) t323 _ ?side1 ?side2 ?side3 ?side4 A12.out).mono ?_); (case side1 => repeat (first | exact HR321.out | (with_reducible first|refine Qd ?_ _|refine Qe ?_ _|refine Qf ?_))); (case side2 => exact HC321.out); (case side3 => repeat (first | exact HR322.out | (with_reducible first|refine Qd ?_ _|refine Qe ?_ _|refine Qf ?_))); (case side4 => exact HC322.out); rintro e w' ⟨rfl, ⟨nd, rfl⟩⟩; (try first | exact ⟨rfl, _, World.drewN_drewN _ _ _⟩ | exact ⟨rfl, _, Eq.trans (World.drewN_drewN _ _ _) (congrArg (World.drewN _) (Nat.add_assoc _ _ _))⟩))))
                 go_roundg k3
                 case measure => have := HJ2.out; have := HK2.out; have := HK3.out; omega
                 case rel => exact ⟨(x8_3), (x9_3), (x10_3), (wrap64 (x29_3 + 1)), (by first | rfl | (simp; done) | (simp [*]; done)), (by first | rfl | (simp; done) | (simp [*]; done)), (by first | rfl | (simp; done) | (simp [*]; done)), (by first | rfl | (simp; done) | (simp [*]; done)), H', ⟨by have := HJ2.out; have := HK2.out; have := HK3.out; omega⟩, by repeat (first | exact Drawn0.refl _ | apply Drawn0.step)⟩
               ·rw [if_neg c16] at H
                have c16b0 : (t323 == x8_3) = false := beq_eq_false_iff_ne.mpr c16
                have c16b1 : (t323 != x8_3) = true := bne_iff_ne.mpr c16
                have H' := Aside0.mk H
                clear H
                obtain ⟨i039, hi039, _, hsz39, _⟩ := info_parts info5
                obtain ⟨A39, hcut39, hA39, hC39⟩ := print_drop_of (P := Try.prog) (Value.int .u8) 0 23 5 .i64 Try.underlying23 hi039 hsz39 A0 c0 l0 x24_2 (of_decide_eq_true (by first | (with_reducible assumption) | assumption)) (of_decide_eq_true (by first | (with_reducible assumption) | assumption)) HC0.out
                have HR321 := Aside0.mk (Kd.C_of_reads (h1 := fun _ => rfl) (hA39 _ (Kd.reads_of_C HR0.out)))
                have HC321 := Aside0.mk hC39
                clear hA39 hC39 hi039 hsz39
                obtain ⟨i040, hi040, _, hsz40, _⟩ := info_parts info5
                obtain ⟨A40, hcut40, hA40, hC40⟩ := print_drop_of (P := Try.prog) (Value.int .u8) 0 23 5 .i64 Try.underlying23 hi040 hsz40 A1 c1 l1 x29_3 (of_decide_eq_true (by first | (with_reducible assumption) | assumption)) (of_decide_eq_true (by first | (with_reducible assumption) | assumption)) HC1.out
                have HR322 := Aside0.mk (Kd.C_of_reads (h1 := fun _ => rfl) (hA40 _ (Kd.reads_of_C HR1.out)))
                have HC322 := Aside0.mk hC40
                clear hA40 hC40 hi040 hsz40
                go_wp2_with (first | (go_at_call 18; (try rw [show l0.length - (x24_2 : Int).toNat = (l0.drop (x24_2 : Int).toNat).length from List.length_drop.symm]); (try rw [show l1.length - (x29_3 : Int).toNat = (l1.drop (x29_3 : Int).toNat).length from List.length_drop.symm]); (with_reducible refine (sapperref13_Common.calls k3 _ _ (l0.drop (x24_2 : Int).toNat) _ _ (l1.drop (x29_3 : Int).toNat) t323 _ ?side1 ?side2 ?side3 ?side4 A12.out).mono ?_); (case side1 => repeat (first | exact HR321.out | (with_reducible first|refine Qd ?_ _|refine Qe ?_ _|refine Qf ?_))); (case side2 => exact HC321.out); (case side3 => repeat (first | exact HR322.out | (with_reducible first|refine Qd ?_ _|refine Qe ?_ _|refine Qf ?_))); (case side4 => exact HC322.out); rintro e w' ⟨rfl, ⟨nd, rfl⟩⟩; (try first | exact ⟨rfl, _, World.drewN_drewN _ _ _⟩ | exact ⟨rfl, _, Eq.trans (World.drewN_drewN _ _ _) (congrArg (World.drewN _) (Nat.add_assoc _ _ _))⟩)))
                repeat (go_quiet (first | (go_at_call 18; (try rw [show l0.length - (x24_2 : Int).toNat = (l0.drop (x24_2 : Int).toNat).length from List.length_drop.symm]); (try rw [show l1.length - (x29_3 : Int).toNat = (l1.drop (x29_3 : Int).toNat).length from List.length_drop.symm]); (with_reducible refine (sapperref13_Common.calls k3 _ _ (l0.drop (x24_2 : Int).toNat) _ _ (l1.drop (x29_3 : Int).toNat) t323 _ ?side1 ?side2 ?side3 ?side4 A12.out).mono ?_); (case side1 => repeat (first | exact HR321.out | (with_reducible first|refine Qd ?_ _|refine Qe ?_ _|refine Qf ?_))); (case side2 => exact HC321.out); (case side3 => repeat (first | exact HR322.out | (with_reducible first|refine Qd ?_ _|refine Qe ?_ _|refine Qf ?_))); (case side4 => exact HC322.out); rintro e w' ⟨rfl, ⟨nd, rfl⟩⟩; (try first | exact ⟨rfl, _, World.drewN_drewN _ _ _⟩ | exact ⟨rfl, _, Eq.trans (World.drewN_drewN _ _ _) (congrArg (World.drewN _) (Nat.add_assoc _ _ _))⟩))); try go_wp2_with (first | (go_at_call 18; (try rw [show l0.length - (x24_2 : Int).toNat = (l0.drop (x24_2 : Int).toNat).length from List.length_drop.symm]); (try rw [show l1.length - (x29_3 : Int).toNat = (l1.drop (x29_3 : Int).toNat).length from List.length_drop.symm]); (with_reducible refine (sapperref13_Common.calls k3 _ _ (l0.drop (x24_2 : Int).toNat) _ _ (l1.drop (x29_3 : Int).toNat) t323 _ ?side1 ?side2 ?side3 ?side4 A12.out).mono ?_); (case side1 => repeat (first | exact HR321.out | (with_reducible first|refine Qd ?_ _|refine Qe ?_ _|refine Qf ?_))); (case side2 => exact HC321.out); (case side3 => repeat (first | exact HR322.out | (with_reducible first|refine Qd ?_ _|refine Qe ?_ _|refine Qf ?_))); (case side4 => exact HC322.out); rintro e w' ⟨rfl, ⟨nd, rfl⟩⟩; (try first | exact ⟨rfl, _, World.drewN_drewN _ _ _⟩ | exact ⟨rfl, _, Eq.trans (World.drewN_drewN _ _ _) (congrArg (World.drewN _) (Nat.add_assoc _ _ _))⟩))))
                go_roundg k3
                case measure => have := HJ2.out; have := HK2.out; have := HK3.out; omega
                case rel => exact ⟨(x8_3), (x9_3), (x10_3), (wrap64 (x29_3 + 1)), (by first | rfl | (simp; done) | (simp [*]; done)), (by first | rfl | (simp; done) | (simp [*]; done)), (by first | rfl | (simp; done) | (simp [*]; done)), (by first | rfl | (simp; done) | (simp [*]; done)), H', ⟨by have := HJ2.out; have := HK2.out; have := HK3.out; omega⟩, by repeat (first | exact Drawn0.refl _ | apply Drawn0.step)⟩
             ·rw [if_neg c11] at H
              exact absurd H (by simp)
            ·rw [if_neg c10] at H
             exact absurd H (by simp)
           ·rw [if_neg c9] at H
            exact absurd H (by simp)
          ·rw [if_neg c8] at H
           exact absurd H (by simp)
         ·rw [if_neg c7] at H
          have c7b0 : decide (x29_3 < (l1.length : Int)) = false := decide_eq_false c7
          clear c7
          have H' := Aside0.mk H
          clear H
          go_wp2
          repeat (go_quiet (fail); try go_wp2)
          go_roundg k3
          case measure => have := HJ2.out; have := HK2.out; have := HK3.out; omega
          case rel => exact ⟨(x8_3), (x9_3), (x10_3), (wrap64 (x24_2 + 1)), (by first | rfl | (simp; done) | (simp [*]; done)), (by first | rfl | (simp; done) | (simp [*]; done)), (by first | rfl | (simp; done) | (simp [*]; done)), (by first | rfl | (simp; done) | (simp [*]; done)), H', ⟨by have := HJ2.out; have := HK2.out; have := HK3.out; omega⟩, by repeat (first | exact Drawn0.refl _ | apply Drawn0.step)⟩
      ·rw [if_neg c6] at H
       have c6b0 : decide (x24_2 < (l0.length : Int)) = false := decide_eq_false c6
       clear c6
       simp only [Option.some.injEq, Prod.mk.injEq] at H
       obtain ⟨rfl, rfl, rfl, rfl⟩ := H
       go_wp2
       repeat (go_quiet (fail); try go_wp2)
       refine bodyPost_ret (results_list (rs := [.tmp 4, .tmp 5, .tmp 6, .tmp 7]) rfl (by simp) (.tmp (.tmp (.tmp (.tmp .nil))))) rfl ?_
       exact ⟨by first | rfl | (simp; done) | (simp [*]; done), by repeat (first | exact Drawn0.refl _ | apply Drawn0.step)⟩

end Go.Proofs.Ythcnnfahlhklgaa.X
