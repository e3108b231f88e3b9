-- Printed by wip/xprint.py of this repo (a wrapper of the session's own round the print).
import Derived.Test.YtphchkkicpnehaaXx0
import Derived.Test.YtphchkkicpnehaaXBA
import Derived.Test.YtphchkkicpnehaaXx50
namespace Go.Proofs.Ytphchkkicpnehaa.X
open Go.RowKit Go.Proofs.YtphchkkicpnehaaW.PrintWords Go.Proofs.YtphchkkicpnehaaW.PrintLast Go.Proofs.YtphchkkicpnehaaW.PrintMore
attribute [local go_sem] ptrOf_eql ptrOf_neq ptrOf_eqg ptrOf_neg str_leq str_geq str_gtr max2_int min2_int max_two min_two max_three min_three max_four min_four   -- for this text's walks alone
set_option linter.unusedVariables false
set_option linter.unusedSimpArgs false

/-! ### sapperref14_Matches: function 38 -/
mutual
def sapperref14_Matches.l0 : Nat → List Int → List Int → Int → Int → List (S52) → Int → Option ((List (S52)))
 | 0, _, _, _, _, _, _ => none
 | k + 1, x0, x1, x2, x3, x9, x10 => if x10 < (x1.length : Int) then (sapperref14_Matches.l1 k x0 x1 x2 x3 x9 x10 0) else (some x9)
def sapperref14_Matches.l1 : Nat → List Int → List Int → Int → Int → List (S52) → Int → Int → Option ((List (S52)))
 | 0, _, _, _, _, _, _, _ => none
 | k + 1, x0, x1, x2, x3, x9, x10, x11 => if x11 < (x0.length : Int) then (if x11 > 0 then (if x10 > 0 then (if 0 ≤ (wrap64 (x11 - 1)) then (if (wrap64 (x11 - 1)) < (x0.length : Int) then (if 0 ≤ (wrap64 (x10 - 1)) then (if (wrap64 (x10 - 1)) < (x1.length : Int) then (sapperref14_Matches.j2 k x0 x1 x2 x3 x9 x10 x11 ((rd x0 (wrap64 (x11 - 1))) == (rd x1 (wrap64 (x10 - 1))))) else (none)) else (none)) else (none)) else (none)) else (sapperref14_Matches.j2 k x0 x1 x2 x3 x9 x10 x11 false)) else (sapperref14_Matches.j2 k x0 x1 x2 x3 x9 x10 x11 false)) else (sapperref14_Matches.l0 k x0 x1 x2 x3 x9 (wrap64 (x10 + 1)))
def sapperref14_Matches.j2 : Nat → List Int → List Int → Int → Int → List (S52) → Int → Int → Bool → Option ((List (S52)))
 | 0, _, _, _, _, _, _, _, _ => none
 | k + 1, x0, x1, x2, x3, x9, x10, x11, x43 => if x43 = true then (sapperref14_Matches.l1 k x0 x1 x2 x3 x9 x10 (wrap64 (x11 + 1))) else (if 0 ≤ x10 then (if x10 ≤ (x1.length : Int) then ((sapperref14_common.f k x0 (x1.drop (x10 : Int).toNat) x11).bind fun t462 => (if t462 ≥ x2 then (if t462 > 0 then (if (x9.length : Int) < x3 then (if x9.length < 5864062014805 then (sapperref14_Matches.l1 k x0 x1 x2 x3 (x9 ++ [(⟨x11, x10, t462⟩ : S52)]) x10 (wrap64 (x11 + 1))) else (none)) else (sapperref14_Matches.l1 k x0 x1 x2 x3 x9 x10 (wrap64 (x11 + 1)))) else (sapperref14_Matches.l1 k x0 x1 x2 x3 x9 x10 (wrap64 (x11 + 1)))) else (sapperref14_Matches.l1 k x0 x1 x2 x3 x9 x10 (wrap64 (x11 + 1))))) else (none)) else (none))
end
def sapperref14_Matches.f (k : Nat) (l0 : List Int) (l1 : List Int) (a2 : Int) (a3 : Int) : Option ((List (S52))) := sapperref14_Matches.l0 k l0 l1 a2 a3 ([] : List (S52)) 0
theorem sapperref14_Matches.mono_l : ∀ k, (∀ y0 y1 y2 y3 y4 y5, LeO (sapperref14_Matches.l0 k y0 y1 y2 y3 y4 y5) (sapperref14_Matches.l0 (k + 1) y0 y1 y2 y3 y4 y5)) ∧ (∀ y0 y1 y2 y3 y4 y5 y6, LeO (sapperref14_Matches.l1 k y0 y1 y2 y3 y4 y5 y6) (sapperref14_Matches.l1 (k + 1) y0 y1 y2 y3 y4 y5 y6)) ∧ (∀ y0 y1 y2 y3 y4 y5 y6 y7, LeO (sapperref14_Matches.j2 k y0 y1 y2 y3 y4 y5 y6 y7) (sapperref14_Matches.j2 (k + 1) y0 y1 y2 y3 y4 y5 y6 y7))
 | 0 => ⟨fun _ _ _ _ _ _ r h => by simp [sapperref14_Matches.l0] at h, fun _ _ _ _ _ _ _ r h => by simp [sapperref14_Matches.l1] at h, fun _ _ _ _ _ _ _ _ r h => by simp [sapperref14_Matches.j2] at h⟩
 | k + 1 => by
  obtain ⟨ih0, ih1, ih2⟩ := sapperref14_Matches.mono_l k
  refine ⟨?_, ?_, ?_⟩
  intro y0 y1 y2 y3 y4 y5; unfold sapperref14_Matches.l0; rotate_left
  intro y0 y1 y2 y3 y4 y5 y6; unfold sapperref14_Matches.l1; rotate_left
  intro y0 y1 y2 y3 y4 y5 y6 y7; unfold sapperref14_Matches.j2; rotate_left
  all_goals
   repeat' first
   | (with_reducible exact ih0 _ _ _ _ _ _)
   | (with_reducible exact ih1 _ _ _ _ _ _ _)
   | (with_reducible exact ih2 _ _ _ _ _ _ _ _)
   | (with_reducible exact sapperref14_common.mono _ _ _ _)
   | (with_reducible exact LeO.refl _)
   | (with_reducible exact LeO.none _)
   | (with_reducible refine LeO.ite ?_ ?_)
   | (with_reducible refine LeO.bind ?_ (fun _ => ?_))
   | exact ih0 _ _ _ _ _ _
   | exact ih1 _ _ _ _ _ _ _
   | exact ih2 _ _ _ _ _ _ _ _
   | exact sapperref14_common.mono _ _ _ _
   | exact LeO.none _
   | refine LeO.ite ?_ ?_
   | refine LeO.bind ?_ (fun _ => ?_)
theorem sapperref14_Matches.mono : ∀ a0 a1 a2 a3 k, LeO (sapperref14_Matches.f k a0 a1 a2 a3) (sapperref14_Matches.f (k + 1) a0 a1 a2 a3) := by
 intro a0 a1 a2 a3 k
 obtain ⟨ih0, ih1, ih2⟩ := sapperref14_Matches.mono_l k
 unfold sapperref14_Matches.f
 repeat' first
   | (with_reducible exact ih0 _ _ _ _ _ _)
   | (with_reducible exact ih1 _ _ _ _ _ _ _)
   | (with_reducible exact ih2 _ _ _ _ _ _ _ _)
   | (with_reducible exact sapperref14_common.mono _ _ _ _)
   | (with_reducible exact LeO.refl _)
   | (with_reducible exact LeO.none _)
   | (with_reducible refine LeO.ite ?_ ?_)
   | (with_reducible refine LeO.bind ?_ (fun _ => ?_))
   | exact ih0 _ _ _ _ _ _
   | exact ih1 _ _ _ _ _ _ _
   | exact ih2 _ _ _ _ _ _ _ _
   | exact sapperref14_common.mono _ _ _ _
   | exact LeO.none _
   | refine LeO.ite ?_ ?_
   | refine LeO.bind ?_ (fun _ => ?_)
set_option maxHeartbeats 8000000 in
set_option maxRecDepth 100000 in
theorem sapperref14_Matches.calls (k : Nat) (A0 : Option Addr) (c0 : Nat) (l0 : List Int) (A1 : Option Addr) (c1 : Nat) (l1 : List Int) (a2 : Int) (a3 : Int) (r : List (S52)) (w : World) (hr0 : Kd.C (Kd.int .u8) w A0 l0.length l0) (hc0 : l0.length ≤ c0) (hr1 : Kd.C (Kd.int .u8) w A1 l1.length l1) (hc1 : l1.length ≤ c1) (h : sapperref14_Matches.f k l0 l1 a2 a3 = some r) :
  Calls Try.prog 38 #[.slice A0 l0.length c0, .slice A1 l1.length c1, .int .i64 a2, .int .i64 a3] w fun e w' => ∃ v0_ : Value, e = .returned (v0_) ∧ Kd.R k52 52 w' w.heap.size (fun _ => True) v0_ r ∧ Below w.heap.size w w' := by
 have hu52 := Try.underlying52
 have HR0 := Aside0.mk hr0
 have HC0 := Aside0.mk hc0
 clear hr0 hc0
 have HR1 := Aside0.mk hr1
 have HC1 := Aside0.mk hc1
 clear hr1 hc1
 have HB := Aside0.mk (Below.refl w.heap.size w)
 have H : (sapperref14_Matches.l0 k l0 l1 a2 a3 ([] : List (S52)) 0) = some r := h
 clear h
 have H' := Aside0.mk H
 clear H
 go_enter Try.func38, Try.ntmps38
 go_wp2
 repeat (go_quiet (fail); try go_wp2)
 go_loopg [9, 10] k (fun kq v9 v10 w' => ∃ (x9_1 : List (S52)) (x10_1 : Int), v10 = .int .i64 x10_1 ∧ Aside0 (sapperref14_Matches.l0 kq l0 l1 a2 a3 x9_1 x10_1 = some r) ∧ Aside0 (kq ≤ k) ∧ Aside0 (Kd.R k52 52 w' w.heap.size (fun _ => True) v9 x9_1) ∧ Aside0 (Below w.heap.size w w'))
 case atStart => exact ⟨(([] : List (S52))), (0), (by first | rfl | (simp; done) | (simp [*]; done)), H', ⟨Nat.le_refl _⟩, ⟨by first | exact Kd.R_nil _ _ _ _ _ | exact Kd.N_nil _ _ _ _ _ | exact Kd.V_nil _ _ _ _ _ | exact Kd.Q_nil _ _ _ _ _ | exact Kd.S_nil _ _ _ _ _⟩, ⟨by repeat first|(with_reducible first|exact HB.out|apply Qg|apply Qh|apply Qi)|exact HB.out⟩⟩
 case round =>
  clear H'
  try clear c1
  try clear p2
  try clear c3
  obtain ⟨x9_1, x10_1, rfl, HA, HK1, HO_9, HB⟩ := hrel
  cases gk with
  | zero => exact absurd HA.out (by simp [sapperref14_Matches.l0])
  | succ k1 =>
   have H := HA.out
   clear HA
   simp only [sapperref14_Matches.l0] at H
   by_cases c5 : x10_1 < (l1.length : Int)
   ·rw [if_pos c5] at H
    have c5b0 : decide (x10_1 < (l1.length : Int)) = true := decide_eq_true c5
    clear c5
    have H' := Aside0.mk H
    clear H
    go_wp2
    repeat (go_quiet (fail); try go_wp2)
    go_loopg [9, 11] k1 (fun kq v9 v11 w' => ∃ (x9_2 : List (S52)) (x11_2 : Int), v11 = .int .i64 x11_2 ∧ Aside0 (sapperref14_Matches.l1 kq l0 l1 a2 a3 x9_2 x10_1 x11_2 = some r) ∧ Aside0 (kq ≤ k1) ∧ Aside0 (Kd.R k52 52 w' w.heap.size (fun _ => True) v9 x9_2) ∧ Aside0 (Below w.heap.size w w'))
    case atStart => exact ⟨(x9_1), (0), (by first | rfl | (simp; done) | (simp [*]; done)), H', ⟨Nat.le_refl _⟩, ⟨by (with_reducible repeat first|apply Qa|apply Qb|apply Qc); exact HO_9.out⟩, ⟨by repeat first|(with_reducible first|exact HB.out|apply Qg|apply Qh|apply Qi)|exact HB.out⟩⟩
    case round =>
     clear H'
     try clear c1
     try clear p2
     try clear c3
     try clear c5
     try clear c5b0
     try clear p2
     obtain ⟨x9_2, x11_2, rfl, HA, HK2, HO_9, HB⟩ := hrel
     cases gk with
     | zero => exact absurd HA.out (by simp [sapperref14_Matches.l1])
     | succ k2 =>
      have H := HA.out
      clear HA
      simp only [sapperref14_Matches.l1] at H
      by_cases c6 : x11_2 < (l0.length : Int)
      ·rw [if_pos c6] at H
       have c6b0 : decide (x11_2 < (l0.length : Int)) = true := decide_eq_true c6
       clear c6
       have HC7 := Aside0.mk H
       clear H
       go_upto_region 8 with (fail)
       repeat (go_quiet (fail); go_upto_region 8 with (fail))
       go_cut [43] (fun v43 wc => ∃ (kq : Nat) (x43_6 : Bool), v43 = .bool x43_6 ∧ Aside0 (sapperref14_Matches.j2 kq l0 l1 a2 a3 x9_2 x10_1 x11_2 x43_6 = some r) ∧ Aside0 (kq ≤ k2) ∧ Aside0 (Kd.R k52 52 wc w.heap.size (fun _ => True) u9 x9_2) ∧ Aside0 (Below w.heap.size w wc))
       case first =>
        have H := HC7.out
        clear HC7
        by_cases c8 : x11_2 > 0
        ·rw [if_pos c8] at H
         have c8b0 : decide (0 < x11_2) = true := decide_eq_true c8
         clear c8
         (first | rw [c8b0] | rw [c8b1] | (simp only [i64_w, i32_w]; rw [c8b0]) | skip)
         by_cases c9 : x10_1 > 0
         ·rw [if_pos c9] at H
          have c9b0 : decide (0 < x10_1) = true := decide_eq_true c9
          clear c9
          obtain ⟨ji10, hji10⟩ : ∃ j_ : Int, (wrap64 (x11_2 - 1)) = j_ := ⟨_, rfl⟩
          replace H : (if 0 ≤ (ji10) then (if (ji10) < (l0.length : Int) then (if 0 ≤ (wrap64 (x10_1 - 1)) then (if (wrap64 (x10_1 - 1)) < (l1.length : Int) then (sapperref14_Matches.j2 k2 l0 l1 a2 a3 x9_2 x10_1 x11_2 ((rd l0 (ji10)) == (rd l1 (wrap64 (x10_1 - 1))))) else (none)) else (none)) else (none)) else (none)) = some r := by first | (rw [hji10] at H; exact H) | (simp only [hji10] at H ⊢; exact H)
          have hji10w : (IntKind.i64.wrap (x11_2 - 1)) = ji10 := (i64_w _).trans hji10
          by_cases c11 : 0 ≤ (ji10)
          ·rw [if_pos c11] at H
           have c11b0 : decide (0 ≤ (ji10)) = true := decide_eq_true c11
           clear c11
           by_cases c12 : (ji10) < (l0.length : Int)
           ·rw [if_pos c12] at H
            have c12b0 : decide ((ji10) < (l0.length : Int)) = true := decide_eq_true c12
            clear c12
            obtain ⟨ji13, hji13⟩ : ∃ j_ : Int, (wrap64 (x10_1 - 1)) = j_ := ⟨_, rfl⟩
            replace H : (if 0 ≤ (ji13) then (if (ji13) < (l1.length : Int) then (sapperref14_Matches.j2 k2 l0 l1 a2 a3 x9_2 x10_1 x11_2 ((rd l0 (ji10)) == (rd l1 (ji13)))) else (none)) else (none)) = some r := by first | (rw [hji13] at H; exact H) | (simp only [hji13] at H ⊢; exact H)
            have hji13w : (IntKind.i64.wrap (x10_1 - 1)) = ji13 := (i64_w _).trans hji13
            by_cases c14 : 0 ≤ (ji13)
            ·rw [if_pos c14] at H
             have c14b0 : decide (0 ≤ (ji13)) = true := decide_eq_true c14
             clear c14
             by_cases c15 : (ji13) < (l1.length : Int)
             ·rw [if_pos c15] at H
              have c15b0 : decide ((ji13) < (l1.length : Int)) = true := decide_eq_true c15
              clear c15
              have H' := Aside0.mk H
              clear H
              have p459 : 0 ≤ ((ji10) : Int) := Qt
              have q459 : (ji10) < (l0.length : Int) := Qt
              obtain ⟨ad459, e459, hx459_0⟩ := Kd.at_int HR0.out (ji10) p459 q459
              cases e459
              replace hx459_0 := (HB.out.cell (World.block_lt_of_cell? w _ hx459_0)).trans hx459_0
              replace p459 := eq_true p459
              replace q459 := eq_true q459
              have p460 : 0 ≤ ((ji13) : Int) := Qt
              have q460 : (ji13) < (l1.length : Int) := Qt
              obtain ⟨ad460, e460, hx460_0⟩ := Kd.at_int HR1.out (ji13) p460 q460
              cases e460
              replace hx460_0 := (HB.out.cell (World.block_lt_of_cell? w _ hx460_0)).trans hx460_0
              replace p460 := eq_true p460
              replace q460 := eq_true q460
              go_wp2
              repeat (go_quiet (fail); try go_wp2)
              go_meet
              case rel => exact ⟨_, (((rd l0 (ji10)) == (rd l1 (ji13)))), (by first | rfl | (simp; done) | (simp only [← hji10, ← hji13] <;> (first | rfl | simp)) | (simp [*]; done)), H', ⟨by have := HK1.out; have := HK2.out; first | omega | exact Nat.le_refl _⟩, ⟨by (with_reducible repeat first|apply Qa|apply Qb|apply Qc); exact HO_9.out⟩, ⟨by repeat first|(with_reducible first|exact HB.out|apply Qg|apply Qh|apply Qi)|exact HB.out⟩⟩
             ·rw [if_neg c15] at H
              exact absurd H (by simp)
            ·rw [if_neg c14] at H
             exact absurd H (by simp)
           ·rw [if_neg c12] at H
            exact absurd H (by simp)
          ·rw [if_neg c11] at H
           exact absurd H (by simp)
         ·rw [if_neg c9] at H
          have c9b0 : decide (0 < x10_1) = false := decide_eq_false c9
          clear c9
          have H' := Aside0.mk H
          clear H
          go_wp2
          repeat (go_quiet (fail); try go_wp2)
          go_meet
          case rel => exact ⟨_, (false), (by first | rfl | (simp; done) | (simp [*]; done)), H', ⟨by have := HK1.out; have := HK2.out; first | omega | exact Nat.le_refl _⟩, ⟨by (with_reducible repeat first|apply Qa|apply Qb|apply Qc); exact HO_9.out⟩, ⟨by repeat first|(with_reducible first|exact HB.out|apply Qg|apply Qh|apply Qi)|exact HB.out⟩⟩
        ·rw [if_neg c8] at H
         have c8b0 : decide (0 < x11_2) = false := decide_eq_false c8
         clear c8
         (first | rw [c8b0] | rw [c8b1] | (simp only [i64_w, i32_w]; rw [c8b0]) | skip)
         have H' := Aside0.mk H
         clear H
         go_wp2
         repeat (go_quiet (fail); try go_wp2)
         go_meet
         case rel => exact ⟨_, (false), (by first | rfl | (simp; done) | (simp [*]; done)), H', ⟨by have := HK1.out; have := HK2.out; first | omega | exact Nat.le_refl _⟩, ⟨by (with_reducible repeat first|apply Qa|apply Qb|apply Qc); exact HO_9.out⟩, ⟨by repeat first|(with_reducible first|exact HB.out|apply Qg|apply Qh|apply Qi)|exact HB.out⟩⟩
       case rest =>
        clear HC7
        try clear c1
        try clear p2
        try clear c3
        try clear p4
        try clear q4
        try clear hx4
        try clear c5
        try clear c5b0
        try clear c6
        try clear c6b0
        try clear p6
        try clear c8
        try clear c8b0
        try clear c9
        try clear c9b0
        try clear c11
        try clear c11b0
        try clear c12
        try clear c12b0
        try clear c14
        try clear c14b0
        try clear c15
        try clear c15b0
        try clear hx459_0
        try clear hx460_0
        try clear p2
        try clear p459
        try clear p460
        try clear q459
        try clear q460
        obtain ⟨kq, x43_6, rfl, HA, HJ6, HO_9, HB⟩ := hcut
        cases kq with
        | zero => exact absurd HA.out (by simp [sapperref14_Matches.j2])
        | succ kj6 =>
         have H := HA.out
         clear HA
         simp only [sapperref14_Matches.j2] at H
         by_cases c16 : x43_6 = true
         ·subst c16
          have H1 : (sapperref14_Matches.l1 kj6 l0 l1 a2 a3 x9_2 x10_1 (wrap64 (x11_2 + 1))) = some r := by rw [if_pos rfl] at H; exact H
          clear H
          have H := H1
          clear H1
          have H' := Aside0.mk H
          clear H
          go_wp2
          repeat (go_quiet (fail); try go_wp2)
          go_roundg kj6
          case measure => have := HK1.out; have := HK2.out; have := HJ6.out; omega
          case rel => exact ⟨(x9_2), (wrap64 (x11_2 + 1)), (by first | rfl | (simp; done) | (simp [*]; done)), H', ⟨by have := HK1.out; have := HK2.out; have := HJ6.out; omega⟩, ⟨by (with_reducible repeat first|apply Qa|apply Qb|apply Qc); exact HO_9.out⟩, ⟨by repeat first|(with_reducible first|exact HB.out|apply Qg|apply Qh|apply Qi)|exact HB.out⟩⟩
         ·replace c16 := Bool.eq_false_iff.mpr c16
          subst c16
          have H1 : (if 0 ≤ x10_1 then (if x10_1 ≤ (l1.length : Int) then ((sapperref14_common.f kj6 l0 (l1.drop (x10_1 : Int).toNat) x11_2).bind fun t462 => (if t462 ≥ a2 then (if t462 > 0 then (if (x9_2.length : Int) < a3 then (if x9_2.length < 5864062014805 then (sapperref14_Matches.l1 kj6 l0 l1 a2 a3 (x9_2 ++ [(⟨x11_2, x10_1, t462⟩ : S52)]) x10_1 (wrap64 (x11_2 + 1))) else (none)) else (sapperref14_Matches.l1 kj6 l0 l1 a2 a3 x9_2 x10_1 (wrap64 (x11_2 + 1)))) else (sapperref14_Matches.l1 kj6 l0 l1 a2 a3 x9_2 x10_1 (wrap64 (x11_2 + 1)))) else (sapperref14_Matches.l1 kj6 l0 l1 a2 a3 x9_2 x10_1 (wrap64 (x11_2 + 1))))) else (none)) else (none)) = some r := by rw [if_neg (show ¬ (false = true) by decide)] at H; exact H
          clear H
          have H := H1
          clear H1
          by_cases c17 : 0 ≤ x10_1
          ·rw [if_pos c17] at H
           have c17b0 := eq_true c17
           have c17b1 : decide (0 ≤ x10_1) = true := decide_eq_true c17
           clear c17
           by_cases c18 : x10_1 ≤ (l1.length : Int)
           ·rw [if_pos c18] at H
            have c18b0 := eq_true c18
            have c18b1 : decide (x10_1 ≤ (l1.length : Int)) = true := decide_eq_true c18
            clear c18
            replace H := Option.bind_eq_some_iff.mp H
            obtain ⟨t462, A190, H⟩ := H
            replace H : (if t462 ≥ a2 then (if t462 > 0 then (if (x9_2.length : Int) < a3 then (if x9_2.length < 5864062014805 then (sapperref14_Matches.l1 kj6 l0 l1 a2 a3 (x9_2 ++ [(⟨x11_2, x10_1, t462⟩ : S52)]) x10_1 (wrap64 (x11_2 + 1))) else (none)) else (sapperref14_Matches.l1 kj6 l0 l1 a2 a3 x9_2 x10_1 (wrap64 (x11_2 + 1)))) else (sapperref14_Matches.l1 kj6 l0 l1 a2 a3 x9_2 x10_1 (wrap64 (x11_2 + 1)))) else (sapperref14_Matches.l1 kj6 l0 l1 a2 a3 x9_2 x10_1 (wrap64 (x11_2 + 1)))) = some r := H
            have A19 := Aside0.mk A190
            clear A190
            by_cases c20 : t462 ≥ a2
            ·rw [if_pos c20] at H
             have c20b0 : decide (a2 ≤ t462) = true := decide_eq_true c20
             clear c20
             by_cases c21 : t462 > 0
             ·rw [if_pos c21] at H
              have c21b0 : decide (0 < t462) = true := decide_eq_true c21
              clear c21
              by_cases c22 : (x9_2.length : Int) < a3
              ·rw [if_pos c22] at H
               have c22b0 : decide ((x9_2.length : Int) < a3) = true := decide_eq_true c22
               clear c22
               by_cases c23 : x9_2.length < 5864062014805
               ·rw [if_pos c23] at H
                have LMc23 := Aside0.mk c23
                clear c23
                obtain ⟨y463, hy463⟩ : ∃ y_ : List (S52), y_ = (x9_2 ++ [(⟨x11_2, x10_1, t462⟩ : S52)]) := ⟨_, rfl⟩
                replace H : (sapperref14_Matches.l1 kj6 l0 l1 a2 a3 y463 x10_1 (wrap64 (x11_2 + 1))) = some r := by first | (rw [hy463]; with_reducible exact H) | (have H2_ := (Option.bind_some _ _).symm.trans H; rw [hy463]; with_reducible exact H2_) | (have H2_ := (Option.bind_some _ _).symm.trans H; with_reducible exact H2_) | with_reducible exact H | (rw [hy463]; exact H) | exact H
                have Ny463 := Aside0.mk hy463
                clear hy463
                have H' := Aside0.mk H
                clear H
                obtain ⟨i024, hi024, _, hsz24, _⟩ := info_parts info5
                obtain ⟨A24, hcut24, hA24, hC24⟩ := print_drop_of (P := Try.prog) (Value.int .u8) 0 22 5 .i64 Try.underlying22 hi024 hsz24 A1 c1 l1 x10_1 (Qt) (Qt) HC1.out
                have HR461 := Aside0.mk (Kd.C_of_reads (h1 := fun _ => rfl) (hA24 _ (Kd.reads_of_C HR1.out)))
                have HC461 := Aside0.mk hC24
                clear hA24 hC24 hi024 hsz24
                go_wp2_with (first | (go_at_call 48; (try rw [show l1.length - (x10_1 : Int).toNat = (l1.drop (x10_1 : Int).toNat).length from List.length_drop.symm]); (with_reducible refine (sapperref14_common.calls kj6 _ _ l0 _ _ (l1.drop (x10_1 : Int).toNat) x11_2 t462 _ ?side1 ?side2 ?side3 ?side4 A19.out).mono ?_); (case side1 => repeat (first | exact (Kd.C_below HR0.out HB.out) | (with_reducible first|refine Qd ?_ _|refine Qe ?_ _|refine Qf ?_))); (case side2 => exact HC0.out); (case side3 => repeat (first | exact (Kd.C_below HR461.out HB.out) | (with_reducible first|refine Qd ?_ _|refine Qe ?_ _|refine Qf ?_))); (case side4 => exact HC461.out); rintro e w' ⟨rfl, ⟨nd, rfl⟩⟩; (try first | exact ⟨rfl, _, World.drewN_drewN _ _ _⟩ | exact ⟨rfl, _, Eq.trans (World.drewN_drewN _ _ _) (congrArg (World.drewN _) (Nat.add_assoc _ _ _))⟩); obtain ⟨Ao25, co25, eo25⟩ := Kd.R_slice HO_9.out; subst eo25) | ((with_reducible refine gate_builtin (b := .append) (xs := #[.tmp 63, .tmp 68]) rfl ?_); (try (refine gate_guard (by rfl) ?_; dsimp only)); at_builtin; refine Kd.R_append k52 (w0 := w) w.heap.size rfl (.tmp 63) (.tmp 68) 48 52 (.agg #[(.int .i64 0), (.int .i64 0), (.int .i64 0)]) 24 rfl Try.underlying48 info52 rfl (by decide) (by omega) (.slice Ao25 x9_2.length co25) x9_2 (⟨x11_2, x10_1, t462⟩ : S52) [.int .i64 x11_2, .int .i64 x10_1, .int .i64 t462] (fun _ => True) (fun _ => False) rfl rfl ?aP (fun _ hk => hk.elim) ?aF ?aO ?aB ?aS ?aL ?_; (case aP => exact k52_mkM _ _ _ (⟨x11_2, x10_1, t462⟩ : S52)); (case aB => exact (by repeat first|(with_reducible first|exact HB.out|apply Qg|apply Qh|apply Qi)|exact HB.out)); (case aF => exact (fun _ _ => trivial)); (case aO => exact (by (with_reducible repeat first|apply Qa|apply Qb|apply Qc); exact HO_9.out)); (case aS => exact (below_size (by repeat first|(with_reducible first|exact HB.out|apply Qg|apply Qh|apply Qi)|exact HB.out))); (case aL => have := LMc23.out; omega); intro v464 w26 ho hb hg hat; rw [← Ny463.out] at ho; have n0_ := Aside0.mk (hb); have n1_ := Aside0.mk (ho); clear HB; clear HO_9; have HB := n0_; have HO465 := n1_; clear n0_ n1_; clear ho hb hg hat))
                repeat (go_quiet (first | (go_at_call 48; (try rw [show l1.length - (x10_1 : Int).toNat = (l1.drop (x10_1 : Int).toNat).length from List.length_drop.symm]); (with_reducible refine (sapperref14_common.calls kj6 _ _ l0 _ _ (l1.drop (x10_1 : Int).toNat) x11_2 t462 _ ?side1 ?side2 ?side3 ?side4 A19.out).mono ?_); (case side1 => repeat (first | exact (Kd.C_below HR0.out HB.out) | (with_reducible first|refine Qd ?_ _|refine Qe ?_ _|refine Qf ?_))); (case side2 => exact HC0.out); (case side3 => repeat (first | exact (Kd.C_below HR461.out HB.out) | (with_reducible first|refine Qd ?_ _|refine Qe ?_ _|refine Qf ?_))); (case side4 => exact HC461.out); rintro e w' ⟨rfl, ⟨nd, rfl⟩⟩; (try first | exact ⟨rfl, _, World.drewN_drewN _ _ _⟩ | exact ⟨rfl, _, Eq.trans (World.drewN_drewN _ _ _) (congrArg (World.drewN _) (Nat.add_assoc _ _ _))⟩); obtain ⟨Ao25, co25, eo25⟩ := Kd.R_slice HO_9.out; subst eo25) | ((with_reducible refine gate_builtin (b := .append) (xs := #[.tmp 63, .tmp 68]) rfl ?_); (try (refine gate_guard (by rfl) ?_; dsimp only)); at_builtin; refine Kd.R_append k52 (w0 := w) w.heap.size rfl (.tmp 63) (.tmp 68) 48 52 (.agg #[(.int .i64 0), (.int .i64 0), (.int .i64 0)]) 24 rfl Try.underlying48 info52 rfl (by decide) (by omega) (.slice Ao25 x9_2.length co25) x9_2 (⟨x11_2, x10_1, t462⟩ : S52) [.int .i64 x11_2, .int .i64 x10_1, .int .i64 t462] (fun _ => True) (fun _ => False) rfl rfl ?aP (fun _ hk => hk.elim) ?aF ?aO ?aB ?aS ?aL ?_; (case aP => exact k52_mkM _ _ _ (⟨x11_2, x10_1, t462⟩ : S52)); (case aB => exact (by repeat first|(with_reducible first|exact HB.out|apply Qg|apply Qh|apply Qi)|exact HB.out)); (case aF => exact (fun _ _ => trivial)); (case aO => exact (by (with_reducible repeat first|apply Qa|apply Qb|apply Qc); exact HO_9.out)); (case aS => exact (below_size (by repeat first|(with_reducible first|exact HB.out|apply Qg|apply Qh|apply Qi)|exact HB.out))); (case aL => have := LMc23.out; omega); intro v464 w26 ho hb hg hat; rw [← Ny463.out] at ho; have n0_ := Aside0.mk (hb); have n1_ := Aside0.mk (ho); clear HB; clear HO_9; have HB := n0_; have HO465 := n1_; clear n0_ n1_; clear ho hb hg hat)); try go_wp2_with (first | (go_at_call 48; (try rw [show l1.length - (x10_1 : Int).toNat = (l1.drop (x10_1 : Int).toNat).length from List.length_drop.symm]); (with_reducible refine (sapperref14_common.calls kj6 _ _ l0 _ _ (l1.drop (x10_1 : Int).toNat) x11_2 t462 _ ?side1 ?side2 ?side3 ?side4 A19.out).mono ?_); (case side1 => repeat (first | exact (Kd.C_below HR0.out HB.out) | (with_reducible first|refine Qd ?_ _|refine Qe ?_ _|refine Qf ?_))); (case side2 => exact HC0.out); (case side3 => repeat (first | exact (Kd.C_below HR461.out HB.out) | (with_reducible first|refine Qd ?_ _|refine Qe ?_ _|refine Qf ?_))); (case side4 => exact HC461.out); rintro e w' ⟨rfl, ⟨nd, rfl⟩⟩; (try first | exact ⟨rfl, _, World.drewN_drewN _ _ _⟩ | exact ⟨rfl, _, Eq.trans (World.drewN_drewN _ _ _) (congrArg (World.drewN _) (Nat.add_assoc _ _ _))⟩); obtain ⟨Ao25, co25, eo25⟩ := Kd.R_slice HO_9.out; subst eo25) | ((with_reducible refine gate_builtin (b := .append) (xs := #[.tmp 63, .tmp 68]) rfl ?_); (try (refine gate_guard (by rfl) ?_; dsimp only)); at_builtin; refine Kd.R_append k52 (w0 := w) w.heap.size rfl (.tmp 63) (.tmp 68) 48 52 (.agg #[(.int .i64 0), (.int .i64 0), (.int .i64 0)]) 24 rfl Try.underlying48 info52 rfl (by decide) (by omega) (.slice Ao25 x9_2.length co25) x9_2 (⟨x11_2, x10_1, t462⟩ : S52) [.int .i64 x11_2, .int .i64 x10_1, .int .i64 t462] (fun _ => True) (fun _ => False) rfl rfl ?aP (fun _ hk => hk.elim) ?aF ?aO ?aB ?aS ?aL ?_; (case aP => exact k52_mkM _ _ _ (⟨x11_2, x10_1, t462⟩ : S52)); (case aB => exact (by repeat first|(with_reducible first|exact HB.out|apply Qg|apply Qh|apply Qi)|exact HB.out)); (case aF => exact (fun _ _ => trivial)); (case aO => exact (by (with_reducible repeat first|apply Qa|apply Qb|apply Qc); exact HO_9.out)); (case aS => exact (below_size (by repeat first|(with_reducible first|exact HB.out|apply Qg|apply Qh|apply Qi)|exact HB.out))); (case aL => have := LMc23.out; omega); intro v464 w26 ho hb hg hat; rw [← Ny463.out] at ho; have n0_ := Aside0.mk (hb); have n1_ := Aside0.mk (ho); clear HB; clear HO_9; have HB := n0_; have HO465 := n1_; clear n0_ n1_; clear ho hb hg hat)))
                go_roundg kj6
                case measure => have := HK1.out; have := HK2.out; have := HJ6.out; omega
                case rel => exact ⟨(y463), (wrap64 (x11_2 + 1)), (by first | rfl | (simp; done) | (simp [*]; done)), H', ⟨by have := HK1.out; have := HK2.out; have := HJ6.out; omega⟩, ⟨by (with_reducible repeat first|apply Qa|apply Qb|apply Qc); exact HO465.out⟩, ⟨by repeat first|(with_reducible first|exact HB.out|apply Qg|apply Qh|apply Qi)|exact HB.out⟩⟩
               ·rw [if_neg c23] at H
                exact absurd H (by simp)
              ·rw [if_neg c22] at H
               have c22b0 : decide ((x9_2.length : Int) < a3) = false := decide_eq_false c22
               clear c22
               have H' := Aside0.mk H
               clear H
               obtain ⟨i027, hi027, _, hsz27, _⟩ := info_parts info5
               obtain ⟨A27, hcut27, hA27, hC27⟩ := print_drop_of (P := Try.prog) (Value.int .u8) 0 22 5 .i64 Try.underlying22 hi027 hsz27 A1 c1 l1 x10_1 (Qt) (Qt) HC1.out
               have HR461 := Aside0.mk (Kd.C_of_reads (h1 := fun _ => rfl) (hA27 _ (Kd.reads_of_C HR1.out)))
               have HC461 := Aside0.mk hC27
               clear hA27 hC27 hi027 hsz27
               go_wp2_with (first | (go_at_call 48; (try rw [show l1.length - (x10_1 : Int).toNat = (l1.drop (x10_1 : Int).toNat).length from List.length_drop.symm]); (with_reducible refine (sapperref14_common.calls kj6 _ _ l0 _ _ (l1.drop (x10_1 : Int).toNat) x11_2 t462 _ ?side1 ?side2 ?side3 ?side4 A19.out).mono ?_); (case side1 => repeat (first | exact (Kd.C_below HR0.out HB.out) | (with_reducible first|refine Qd ?_ _|refine Qe ?_ _|refine Qf ?_))); (case side2 => exact HC0.out); (case side3 => repeat (first | exact (Kd.C_below HR461.out HB.out) | (with_reducible first|refine Qd ?_ _|refine Qe ?_ _|refine Qf ?_))); (case side4 => exact HC461.out); rintro e w' ⟨rfl, ⟨nd, rfl⟩⟩; (try first | exact ⟨rfl, _, World.drewN_drewN _ _ _⟩ | exact ⟨rfl, _, Eq.trans (World.drewN_drewN _ _ _) (congrArg (World.drewN _) (Nat.add_assoc _ _ _))⟩); obtain ⟨Ao28, co28, eo28⟩ := Kd.R_slice HO_9.out; subst eo28))
               repeat (go_quiet (first | (go_at_call 48; (try rw [show l1.length - (x10_1 : Int).toNat = (l1.drop (x10_1 : Int).toNat).length from List.length_drop.symm]); (with_reducible refine (sapperref14_common.calls kj6 _ _ l0 _ _ (l1.drop (x10_1 : Int).toNat) x11_2 t462 _ ?side1 ?side2 ?side3 ?side4 A19.out).mono ?_); (case side1 => repeat (first | exact (Kd.C_below HR0.out HB.out) | (with_reducible first|refine Qd ?_ _|refine Qe ?_ _|refine Qf ?_))); (case side2 => exact HC0.out); (case side3 => repeat (first | exact (Kd.C_below HR461.out HB.out) | (with_reducible first|refine Qd ?_ _|refine Qe ?_ _|refine Qf ?_))); (case side4 => exact HC461.out); rintro e w' ⟨rfl, ⟨nd, rfl⟩⟩; (try first | exact ⟨rfl, _, World.drewN_drewN _ _ _⟩ | exact ⟨rfl, _, Eq.trans (World.drewN_drewN _ _ _) (congrArg (World.drewN _) (Nat.add_assoc _ _ _))⟩); obtain ⟨Ao28, co28, eo28⟩ := Kd.R_slice HO_9.out; subst eo28)); try go_wp2_with (first | (go_at_call 48; (try rw [show l1.length - (x10_1 : Int).toNat = (l1.drop (x10_1 : Int).toNat).length from List.length_drop.symm]); (with_reducible refine (sapperref14_common.calls kj6 _ _ l0 _ _ (l1.drop (x10_1 : Int).toNat) x11_2 t462 _ ?side1 ?side2 ?side3 ?side4 A19.out).mono ?_); (case side1 => repeat (first | exact (Kd.C_below HR0.out HB.out) | (with_reducible first|refine Qd ?_ _|refine Qe ?_ _|refine Qf ?_))); (case side2 => exact HC0.out); (case side3 => repeat (first | exact (Kd.C_below HR461.out HB.out) | (with_reducible first|refine Qd ?_ _|refine Qe ?_ _|refine Qf ?_))); (case side4 => exact HC461.out); rintro e w' ⟨rfl, ⟨nd, rfl⟩⟩; (try first | exact ⟨rfl, _, World.drewN_drewN _ _ _⟩ | exact ⟨rfl, _, Eq.trans (World.drewN_drewN _ _ _) (congrArg (World.drewN _) (Nat.add_assoc _ _ _))⟩); obtain ⟨Ao28, co28, eo28⟩ := Kd.R_slice HO_9.out; subst eo28)))
               go_roundg kj6
               case measure => have := HK1.out; have := HK2.out; have := HJ6.out; omega
               case rel => exact ⟨(x9_2), (wrap64 (x11_2 + 1)), (by first | rfl | (simp; done) | (simp [*]; done)), H', ⟨by have := HK1.out; have := HK2.out; have := HJ6.out; omega⟩, ⟨by (with_reducible repeat first|apply Qa|apply Qb|apply Qc); exact HO_9.out⟩, ⟨by repeat first|(with_reducible first|exact HB.out|apply Qg|apply Qh|apply Qi)|exact HB.out⟩⟩
             ·rw [if_neg c21] at H
              have c21b0 : decide (0 < t462) = false := decide_eq_false c21
              clear c21
              have H' := Aside0.mk H
              clear H
              obtain ⟨i029, hi029, _, hsz29, _⟩ := info_parts info5
              obtain ⟨A29, hcut29, hA29, hC29⟩ := print_drop_of (P := Try.prog) (Value.int .u8) 0 22 5 .i64 Try.underlying22 hi029 hsz29 A1 c1 l1 x10_1 (Qt) (Qt) HC1.out
              have HR461 := Aside0.mk (Kd.C_of_reads (h1 := fun _ => rfl) (hA29 _ (Kd.reads_of_C HR1.out)))
              have HC461 := Aside0.mk hC29
              clear hA29 hC29 hi029 hsz29
              go_wp2_with (first | (go_at_call 48; (try rw [show l1.length - (x10_1 : Int).toNat = (l1.drop (x10_1 : Int).toNat).length from List.length_drop.symm]); (with_reducible refine (sapperref14_common.calls kj6 _ _ l0 _ _ (l1.drop (x10_1 : Int).toNat) x11_2 t462 _ ?side1 ?side2 ?side3 ?side4 A19.out).mono ?_); (case side1 => repeat (first | exact (Kd.C_below HR0.out HB.out) | (with_reducible first|refine Qd ?_ _|refine Qe ?_ _|refine Qf ?_))); (case side2 => exact HC0.out); (case side3 => repeat (first | exact (Kd.C_below HR461.out HB.out) | (with_reducible first|refine Qd ?_ _|refine Qe ?_ _|refine Qf ?_))); (case side4 => exact HC461.out); rintro e w' ⟨rfl, ⟨nd, rfl⟩⟩; (try first | exact ⟨rfl, _, World.drewN_drewN _ _ _⟩ | exact ⟨rfl, _, Eq.trans (World.drewN_drewN _ _ _) (congrArg (World.drewN _) (Nat.add_assoc _ _ _))⟩)))
              repeat (go_quiet (first | (go_at_call 48; (try rw [show l1.length - (x10_1 : Int).toNat = (l1.drop (x10_1 : Int).toNat).length from List.length_drop.symm]); (with_reducible refine (sapperref14_common.calls kj6 _ _ l0 _ _ (l1.drop (x10_1 : Int).toNat) x11_2 t462 _ ?side1 ?side2 ?side3 ?side4 A19.out).mono ?_); (case side1 => repeat (first | exact (Kd.C_below HR0.out HB.out) | (with_reducible first|refine Qd ?_ _|refine Qe ?_ _|refine Qf ?_))); (case side2 => exact HC0.out); (case side3 => repeat (first | exact (Kd.C_below HR461.out HB.out) | (with_reducible first|refine Qd ?_ _|refine Qe ?_ _|refine Qf ?_))); (case side4 => exact HC461.out); rintro e w' ⟨rfl, ⟨nd, rfl⟩⟩; (try first | exact ⟨rfl, _, World.drewN_drewN _ _ _⟩ | exact ⟨rfl, _, Eq.trans (World.drewN_drewN _ _ _) (congrArg (World.drewN _) (Nat.add_assoc _ _ _))⟩))); try go_wp2_with (first | (go_at_call 48; (try rw [show l1.length - (x10_1 : Int).toNat = (l1.drop (x10_1 : Int).toNat).length from List.length_drop.symm]); (with_reducible refine (sapperref14_common.calls kj6 _ _ l0 _ _ (l1.drop (x10_1 : Int).toNat) x11_2 t462 _ ?side1 ?side2 ?side3 ?side4 A19.out).mono ?_); (case side1 => repeat (first | exact (Kd.C_below HR0.out HB.out) | (with_reducible first|refine Qd ?_ _|refine Qe ?_ _|refine Qf ?_))); (case side2 => exact HC0.out); (case side3 => repeat (first | exact (Kd.C_below HR461.out HB.out) | (with_reducible first|refine Qd ?_ _|refine Qe ?_ _|refine Qf ?_))); (case side4 => exact HC461.out); rintro e w' ⟨rfl, ⟨nd, rfl⟩⟩; (try first | exact ⟨rfl, _, World.drewN_drewN _ _ _⟩ | exact ⟨rfl, _, Eq.trans (World.drewN_drewN _ _ _) (congrArg (World.drewN _) (Nat.add_assoc _ _ _))⟩))))
              go_roundg kj6
              case measure => have := HK1.out; have := HK2.out; have := HJ6.out; omega
              case rel => exact ⟨(x9_2), (wrap64 (x11_2 + 1)), (by first | rfl | (simp; done) | (simp [*]; done)), H', ⟨by have := HK1.out; have := HK2.out; have := HJ6.out; omega⟩, ⟨by (with_reducible repeat first|apply Qa|apply Qb|apply Qc); exact HO_9.out⟩, ⟨by repeat first|(with_reducible first|exact HB.out|apply Qg|apply Qh|apply Qi)|exact HB.out⟩⟩
            ·rw [if_neg c20] at H
             have c20b0 : decide (a2 ≤ t462) = false := decide_eq_false c20
             clear c20
             have H' := Aside0.mk H
             clear H
             obtain ⟨i030, hi030, _, hsz30, _⟩ := info_parts info5
             obtain ⟨A30, hcut30, hA30, hC30⟩ := print_drop_of (P := Try.prog) (Value.int .u8) 0 22 5 .i64 Try.underlying22 hi030 hsz30 A1 c1 l1 x10_1 (Qt) (Qt) HC1.out
             have HR461 := Aside0.mk (Kd.C_of_reads (h1 := fun _ => rfl) (hA30 _ (Kd.reads_of_C HR1.out)))
             have HC461 := Aside0.mk hC30
             clear hA30 hC30 hi030 hsz30
             go_wp2_with (first | (go_at_call 48; (try rw [show l1.length - (x10_1 : Int).toNat = (l1.drop (x10_1 : Int).toNat).length from List.length_drop.symm]); (with_reducible refine (sapperref14_common.calls kj6 _ _ l0 _ _ (l1.drop (x10_1 : Int).toNat) x11_2 t462 _ ?side1 ?side2 ?side3 ?side4 A19.out).mono ?_); (case side1 => repeat (first | exact (Kd.C_below HR0.out HB.out) | (with_reducible first|refine Qd ?_ _|refine Qe ?_ _|refine Qf ?_))); (case side2 => exact HC0.out); (case side3 => repeat (first | exact (Kd.C_below HR461.out HB.out) | (with_reducible first|refine Qd ?_ _|refine Qe ?_ _|refine Qf ?_))); (case side4 => exact HC461.out); rintro e w' ⟨rfl, ⟨nd, rfl⟩⟩; (try first | exact ⟨rfl, _, World.drewN_drewN _ _ _⟩ | exact ⟨rfl, _, Eq.trans (World.drewN_drewN _ _ _) (congrArg (World.drewN _) (Nat.add_assoc _ _ _))⟩)))
             repeat (go_quiet (first | (go_at_call 48; (try rw [show l1.length - (x10_1 : Int).toNat = (l1.drop (x10_1 : Int).toNat).length from List.length_drop.symm]); (with_reducible refine (sapperref14_common.calls kj6 _ _ l0 _ _ (l1.drop (x10_1 : Int).toNat) x11_2 t462 _ ?side1 ?side2 ?side3 ?side4 A19.out).mono ?_); (case side1 => repeat (first | exact (Kd.C_below HR0.out HB.out) | (with_reducible first|refine Qd ?_ _|refine Qe ?_ _|refine Qf ?_))); (case side2 => exact HC0.out); (case side3 => repeat (first | exact (Kd.C_below HR461.out HB.out) | (with_reducible first|refine Qd ?_ _|refine Qe ?_ _|refine Qf ?_))); (case side4 => exact HC461.out); rintro e w' ⟨rfl, ⟨nd, rfl⟩⟩; (try first | exact ⟨rfl, _, World.drewN_drewN _ _ _⟩ | exact ⟨rfl, _, Eq.trans (World.drewN_drewN _ _ _) (congrArg (World.drewN _) (Nat.add_assoc _ _ _))⟩))); try go_wp2_with (first | (go_at_call 48; (try rw [show l1.length - (x10_1 : Int).toNat = (l1.drop (x10_1 : Int).toNat).length from List.length_drop.symm]); (with_reducible refine (sapperref14_common.calls kj6 _ _ l0 _ _ (l1.drop (x10_1 : Int).toNat) x11_2 t462 _ ?side1 ?side2 ?side3 ?side4 A19.out).mono ?_); (case side1 => repeat (first | exact (Kd.C_below HR0.out HB.out) | (with_reducible first|refine Qd ?_ _|refine Qe ?_ _|refine Qf ?_))); (case side2 => exact HC0.out); (case side3 => repeat (first | exact (Kd.C_below HR461.out HB.out) | (with_reducible first|refine Qd ?_ _|refine Qe ?_ _|refine Qf ?_))); (case side4 => exact HC461.out); rintro e w' ⟨rfl, ⟨nd, rfl⟩⟩; (try first | exact ⟨rfl, _, World.drewN_drewN _ _ _⟩ | exact ⟨rfl, _, Eq.trans (World.drewN_drewN _ _ _) (congrArg (World.drewN _) (Nat.add_assoc _ _ _))⟩))))
             go_roundg kj6
             case measure => have := HK1.out; have := HK2.out; have := HJ6.out; omega
             case rel => exact ⟨(x9_2), (wrap64 (x11_2 + 1)), (by first | rfl | (simp; done) | (simp [*]; done)), H', ⟨by have := HK1.out; have := HK2.out; have := HJ6.out; omega⟩, ⟨by (with_reducible repeat first|apply Qa|apply Qb|apply Qc); exact HO_9.out⟩, ⟨by repeat first|(with_reducible first|exact HB.out|apply Qg|apply Qh|apply Qi)|exact HB.out⟩⟩
           ·rw [if_neg c18] at H
            exact absurd H (by simp)
          ·rw [if_neg c17] at H
           exact absurd H (by simp)
      ·rw [if_neg c6] at H
       have c6b0 : decide (x11_2 < (l0.length : Int)) = false := decide_eq_false c6
       clear c6
       have H' := Aside0.mk H
       clear H
       go_wp2
       repeat (go_quiet (fail); try go_wp2)
       go_roundg k2
       case measure => have := HK1.out; have := HK2.out; omega
       case rel => exact ⟨(x9_2), (wrap64 (x10_1 + 1)), (by first | rfl | (simp; done) | (simp [*]; done)), H', ⟨by have := HK1.out; have := HK2.out; omega⟩, ⟨by (with_reducible repeat first|apply Qa|apply Qb|apply Qc); exact HO_9.out⟩, ⟨by repeat first|(with_reducible first|exact HB.out|apply Qg|apply Qh|apply Qi)|exact HB.out⟩⟩
   ·rw [if_neg c5] at H
    have c5b0 : decide (x10_1 < (l1.length : Int)) = false := decide_eq_false c5
    clear c5
    obtain rfl := Option.some.inj H
    go_wp2
    repeat (go_quiet (fail); try go_wp2)
    go_ret
    exact ⟨_, by first | rfl | (simp [errW_none, errW_some] <;> rfl) | (simp [*, errW_none, errW_some] <;> rfl), by (with_reducible repeat first|apply Qa|apply Qb|apply Qc); exact HO_9.out, by repeat first|(with_reducible first|exact HB.out|apply Qg|apply Qh|apply Qi)|exact HB.out⟩

end Go.Proofs.Ytphchkkicpnehaa.X
