-- Printed by wip/xprint.py of this repo (a wrapper of the session's own round the print).
import Derived.Test.YthcnnfahlhklgaaXx0
import Derived.Test.YthcnnfahlhklgaaXBA
import Derived.Test.YthcnnfahlhklgaaXx14
namespace Go.Proofs.Ythcnnfahlhklgaa.X
open Go.RowKit Go.Proofs.YthcnnfahlhklgaaW.PrintWords Go.Proofs.YthcnnfahlhklgaaW.PrintLast Go.Proofs.YthcnnfahlhklgaaW.PrintMore
attribute [local go_sem] ptrOf_eql ptrOf_neq ptrOf_eqg ptrOf_neg str_leq str_geq str_gtr max2_int min2_int max_two min_two max_three min_three max_four min_four   -- for this text's walks alone
set_option linter.unusedVariables false
set_option linter.unusedSimpArgs false

/-! ### suffix_Index_Repeat: function 41 -/
mutual
def suffix_Index_Repeat.l0 : Nat → List (S82) → Int → Int → List Int → Int → Int → Option (Int × Int)
 | 0, _, _, _, _, _, _ => none
 | k + 1, x0, x4, x5, x16, x17, x18 => if x18 < x17 then (if 0 ≤ x18 then (if x18 < (x16.length : Int) then (if (rd x16 x18) > x4 then (suffix_Index_Repeat.l0 k x0 (rd x16 x18) x18 x16 x17 (wrap64 (x18 + 1))) else (suffix_Index_Repeat.l0 k x0 x4 x5 x16 x17 (wrap64 (x18 + 1)))) else (none)) else (none)) else (if x4 = 0 then (some (0, 0)) else (if 0 < (x0.length : Int) then (if 0 ≤ (wrap64 (x5 - 1)) then (if (wrap64 (x5 - 1)) < (((rd_T82 x0 0).f2).length : Int) then (suffix_Index_Repeat.l1 k x0 x4 (rd ((rd_T82 x0 0).f2) (wrap64 (x5 - 1))) x5) else (none)) else (none)) else (none)))
def suffix_Index_Repeat.l1 : Nat → List (S82) → Int → Int → Int → Option (Int × Int)
 | 0, _, _, _, _ => none
 | k + 1, x0, x4, x8, x9 => if 0 < (x0.length : Int) then (if x9 < (((rd_T82 x0 0).f4).length : Int) then (if 0 ≤ x9 then (if (rd ((rd_T82 x0 0).f4) x9) ≥ x4 then (if x9 < (((rd_T82 x0 0).f2).length : Int) then (suffix_Index_Repeat.l1 k x0 x4 (mn x8 (rd ((rd_T82 x0 0).f2) x9)) (wrap64 (x9 + 1))) else (none)) else (some (x8, x4))) else (none)) else (some (x8, x4))) else (none)
end
def suffix_Index_Repeat.f (k : Nat) (l0 : List (S82)) : Option (Int × Int) := (suffix_Index_is.f l0).bind fun t395 => (if t395 = true then (if 0 < (l0.length : Int) then (suffix_Index_Repeat.l0 k l0 0 0 ((rd_T82 l0 0).f4) (((rd_T82 l0 0).f4).length : Int) 0) else (none)) else (some (0, 0)))
theorem suffix_Index_Repeat.mono_l : ∀ k, (∀ y0 y1 y2 y3 y4 y5, LeO (suffix_Index_Repeat.l0 k y0 y1 y2 y3 y4 y5) (suffix_Index_Repeat.l0 (k + 1) y0 y1 y2 y3 y4 y5)) ∧ (∀ y0 y1 y2 y3, LeO (suffix_Index_Repeat.l1 k y0 y1 y2 y3) (suffix_Index_Repeat.l1 (k + 1) y0 y1 y2 y3))
 | 0 => ⟨fun _ _ _ _ _ _ r h => by simp [suffix_Index_Repeat.l0] at h, fun _ _ _ _ r h => by simp [suffix_Index_Repeat.l1] at h⟩
 | k + 1 => by
  obtain ⟨ih0, ih1⟩ := suffix_Index_Repeat.mono_l k
  refine ⟨?_, ?_⟩
  intro y0 y1 y2 y3 y4 y5; unfold suffix_Index_Repeat.l0; rotate_left
  intro y0 y1 y2 y3; unfold suffix_Index_Repeat.l1; rotate_left
  all_goals
   repeat' first
   | (with_reducible exact ih0 _ _ _ _ _ _)
   | (with_reducible exact ih1 _ _ _ _)
   | (with_reducible exact LeO.refl _)
   | (with_reducible exact LeO.none _)
   | (with_reducible refine LeO.ite ?_ ?_)
   | (with_reducible refine LeO.bind ?_ (fun _ => ?_))
   | exact ih0 _ _ _ _ _ _
   | exact ih1 _ _ _ _
   | exact LeO.none _
   | refine LeO.ite ?_ ?_
   | refine LeO.bind ?_ (fun _ => ?_)
theorem suffix_Index_Repeat.mono : ∀ a0 k, LeO (suffix_Index_Repeat.f k a0) (suffix_Index_Repeat.f (k + 1) a0) := by
 intro a0 k
 obtain ⟨ih0, ih1⟩ := suffix_Index_Repeat.mono_l k
 unfold suffix_Index_Repeat.f
 repeat' first
   | (with_reducible exact ih0 _ _ _ _ _ _)
   | (with_reducible exact ih1 _ _ _ _)
   | (with_reducible exact LeO.refl _)
   | (with_reducible exact LeO.none _)
   | (with_reducible refine LeO.ite ?_ ?_)
   | (with_reducible refine LeO.bind ?_ (fun _ => ?_))
   | exact ih0 _ _ _ _ _ _
   | exact ih1 _ _ _ _
   | exact LeO.none _
   | refine LeO.ite ?_ ?_
   | refine LeO.bind ?_ (fun _ => ?_)
set_option maxHeartbeats 8000000 in
set_option maxRecDepth 100000 in
theorem suffix_Index_Repeat.calls (k : Nat) (A0 : Option Addr) (c0 : Nat) (l0 : List (S82)) (r1 : Int) (r2 : Int) (w : World) (hr0 : Kd.C k82 w A0 l0.length l0) (hc0 : l0.length ≤ c0) (h : suffix_Index_Repeat.f k l0 = some (r1, r2)) :
  Calls Try.prog 41 #[ptrOf (.slice A0 l0.length c0)] w fun e w' => e = .returned (.tuple #[.int .i64 r1, .int .i64 r2]) ∧ Below w.heap.size w w' := by
 have HR0 := Aside0.mk hr0
 have HC0 := Aside0.mk hc0
 clear hr0 hc0
 have HB := Aside0.mk (Below.refl w.heap.size w)
 have H : ((suffix_Index_is.f l0).bind fun t395 => (if t395 = true then (if 0 < (l0.length : Int) then (suffix_Index_Repeat.l0 k l0 0 0 ((rd_T82 l0 0).f4) (((rd_T82 l0 0).f4).length : Int) 0) else (none)) else (some (0, 0)))) = some (r1, r2) := h
 clear h
 replace H := Option.bind_eq_some_iff.mp H
 obtain ⟨t395, A20, H⟩ := H
 replace H : (if t395 = true then (if 0 < (l0.length : Int) then (suffix_Index_Repeat.l0 k l0 0 0 ((rd_T82 l0 0).f4) (((rd_T82 l0 0).f4).length : Int) 0) else (none)) else (some (0, 0))) = some (r1, r2) := H
 have A2 := Aside0.mk A20
 clear A20
 by_cases c3 : t395 = true
 ·subst c3
  have H1 : (if 0 < (l0.length : Int) then (suffix_Index_Repeat.l0 k l0 0 0 ((rd_T82 l0 0).f4) (((rd_T82 l0 0).f4).length : Int) 0) else (none)) = some (r1, r2) := by rw [if_pos rfl] at H; exact H
  clear H
  have H := H1
  clear H1
  by_cases c4 : 0 < (l0.length : Int)
  ·rw [if_pos c4] at H
   have c4b0 : decide (0 < (l0.length : Int)) = true := decide_eq_true c4
   have c4b1 : decide (0 < l0.length) = true := decide_eq_true (by omega)
   clear c4
   have H' := Aside0.mk H
   clear H
   go_enter Try.func41, Try.ntmps41
   go_wp2_with (first | (refine gate_callee (f := 54) rfl ?_; refine goesL_ (some 11) rfl rfl Try.func54 (by kernel_rfl) rfl #[ptrOf (.slice A0 l0.length c0)] rfl (by (try simp only [List.map_toArray, List.map_cons, List.map_nil]); first | done | rfl | (simp only [*]; done) | (simp only [*]; rfl) | (simp only [List.length_drop, List.length_take]; rfl)) ?_; (with_reducible refine (suffix_Index_is.calls _ _ l0 true _ ?side1 ?side2 A2.out).mono ?_); (case side1 => exact HR0.out); (case side2 => exact HC0.out); rintro e w' ⟨rfl, ⟨nd, rfl⟩⟩; refine ⟨_, rfl, ?_⟩; have p396 : 0 ≤ (0 : Int) := (by omega); have q396 : 0 < (l0.length : Int) := Qt; obtain ⟨ad396, A396_1, c396_1, A396_2, c396_2, A396_3, c396_3, A396_4, c396_4, e396, hx396_0, hx396_1, hx396_2, hx396_3, hx396_4, hl396_1, hi396_1, hl396_2, hi396_2, hl396_3, hi396_3, hl396_4, hi396_4⟩ := at_T82 HR0.out 0 p396 q396; cases e396; have qi396 : (0 < l0.length) = True := eq_true (by omega); (try rw [show ((0 : Int)).toNat = 0 from rfl] at hx396_0); (try rw [show 0 * 5 = 0 from rfl] at hx396_0); (try rw [Addr.add_zero'] at hx396_0); (try rw [show ((0 : Int)).toNat = 0 from rfl] at hx396_1); (try rw [show 0 * 5 = 0 from rfl] at hx396_1); (try rw [Addr.add_zero'] at hx396_1); (try rw [show ((0 : Int)).toNat = 0 from rfl] at hx396_2); (try rw [show 0 * 5 = 0 from rfl] at hx396_2); (try rw [Addr.add_zero'] at hx396_2); (try rw [show ((0 : Int)).toNat = 0 from rfl] at hx396_3); (try rw [show 0 * 5 = 0 from rfl] at hx396_3); (try rw [Addr.add_zero'] at hx396_3); (try rw [show ((0 : Int)).toNat = 0 from rfl] at hx396_4); (try rw [show 0 * 5 = 0 from rfl] at hx396_4); (try rw [Addr.add_zero'] at hx396_4); have HR396_1 := Aside0.mk hi396_1; have HC396_1 := Aside0.mk hl396_1; clear hi396_1 hl396_1; have HR396_2 := Aside0.mk hi396_2; have HC396_2 := Aside0.mk hl396_2; clear hi396_2 hl396_2; have HR396_3 := Aside0.mk hi396_3; have HC396_3 := Aside0.mk hl396_3; clear hi396_3 hl396_3; have HR396_4 := Aside0.mk hi396_4; have HC396_4 := Aside0.mk hl396_4; clear hi396_4 hl396_4; replace p396 := eq_true p396; replace q396 := eq_true q396; have hpt396 : ptrOf (.slice (some ad396) l0.length c0) = .pointer (some ad396) := ptrOf_pos _ _ _ (Qt)))
   (try rw [hpt396])
   go_loopg [4, 5, 18] k (fun kq v4 v5 v18 w' => ∃ (x4_1 : Int) (x5_1 : Int) (x18_1 : Int), v4 = .int .i64 x4_1 ∧ v5 = .int .i64 x5_1 ∧ v18 = .int .i64 x18_1 ∧ Aside0 (suffix_Index_Repeat.l0 kq l0 x4_1 x5_1 ((rd_T82 l0 0).f4) (((rd_T82 l0 0).f4).length : Int) x18_1 = some (r1, r2)) ∧ Aside0 (kq ≤ k) ∧ Aside0 (Below w.heap.size w w'))
   case atStart => exact ⟨(0), (0), (0), (by first | rfl | (simp; done) | (simp [*]; done)), (by first | rfl | (simp; done) | (simp [*]; done)), (by first | rfl | (simp; done) | (simp [*]; done)), H', ⟨Nat.le_refl _⟩, ⟨by repeat first|(with_reducible first|exact HB.out|apply Qg|apply Qh|apply Qi)|exact HB.out⟩⟩
   case round =>
    clear H'
    try clear p2
    try clear c3
    try clear p3
    try clear q3
    try clear hx3
    try clear qi3
    try clear c4
    try clear c4b0
    try clear c4b1
    try clear hx396_0
    try clear hx396_1
    try clear hx396_2
    try clear hx396_3
    try clear hx396_4
    try clear p396
    try clear q396
    obtain ⟨x4_1, x5_1, x18_1, rfl, rfl, rfl, HA, HK1, HB⟩ := hrel
    cases gk with
    | zero => exact absurd HA.out (by simp [suffix_Index_Repeat.l0])
    | succ k1 =>
     have H := HA.out
     clear HA
     simp only [suffix_Index_Repeat.l0] at H
     by_cases c5 : x18_1 < (((rd_T82 l0 0).f4).length : Int)
     ·rw [if_pos c5] at H
      have c5b0 : decide (x18_1 < (((rd_T82 l0 0).f4).length : Int)) = true := decide_eq_true c5
      clear c5
      by_cases c6 : 0 ≤ x18_1
      ·rw [if_pos c6] at H
       have c6b0 : decide (0 ≤ x18_1) = true := decide_eq_true c6
       clear c6
       by_cases c7 : x18_1 < (((rd_T82 l0 0).f4).length : Int)
       ·rw [if_pos c7] at H
        have c7b0 : decide (x18_1 < (((rd_T82 l0 0).f4).length : Int)) = true := decide_eq_true c7
        clear c7
        by_cases c8 : (rd ((rd_T82 l0 0).f4) x18_1) > x4_1
        ·rw [if_pos c8] at H
         have c8b0 : decide (x4_1 < (rd ((rd_T82 l0 0).f4) x18_1)) = true := decide_eq_true c8
         clear c8
         have H' := Aside0.mk H
         clear H
         have p397 : 0 ≤ (x18_1 : Int) := Qt
         have q397 : x18_1 < (((rd_T82 l0 0).f4).length : Int) := Qt
         obtain ⟨ad397, e397, hx397_0⟩ := Kd.at_int HR396_4.out x18_1 p397 q397
         cases e397
         replace hx397_0 := (HB.out.cell (World.block_lt_of_cell? w _ hx397_0)).trans hx397_0
         replace p397 := eq_true p397
         replace q397 := eq_true q397
         go_wp2
         go_roundg k1
         case measure => have := HK1.out; omega
         case rel => exact ⟨(rd ((rd_T82 l0 0).f4) x18_1), (x18_1), (wrap64 (x18_1 + 1)), (rfl), (rfl), (rfl), H', ⟨by have := HK1.out; omega⟩, ⟨HB.out⟩⟩
        ·rw [if_neg c8] at H
         have c8b0 : decide (x4_1 < (rd ((rd_T82 l0 0).f4) x18_1)) = false := decide_eq_false c8
         clear c8
         have H' := Aside0.mk H
         clear H
         have p397 : 0 ≤ (x18_1 : Int) := Qt
         have q397 : x18_1 < (((rd_T82 l0 0).f4).length : Int) := Qt
         obtain ⟨ad397, e397, hx397_0⟩ := Kd.at_int HR396_4.out x18_1 p397 q397
         cases e397
         replace hx397_0 := (HB.out.cell (World.block_lt_of_cell? w _ hx397_0)).trans hx397_0
         replace p397 := eq_true p397
         replace q397 := eq_true q397
         go_wp2
         go_roundg k1
         case measure => have := HK1.out; omega
         case rel => exact ⟨(x4_1), (x5_1), (wrap64 (x18_1 + 1)), (rfl), (rfl), (rfl), H', ⟨by have := HK1.out; omega⟩, ⟨HB.out⟩⟩
       ·rw [if_neg c7] at H
        exact absurd H (by simp)
      ·rw [if_neg c6] at H
       exact absurd H (by simp)
     ·rw [if_neg c5] at H
      have c5b0 : decide (x18_1 < (((rd_T82 l0 0).f4).length : Int)) = false := decide_eq_false c5
      clear c5
      by_cases c9 : x4_1 = 0
      ·rw [if_pos c9] at H
       have c9b0 : (x4_1 == 0) = true := beq_iff_eq.mpr c9
       have c9b1 : (x4_1 != 0) = false := bne_eq_false_iff_eq.mpr c9
       clear c9
       simp only [Option.some.injEq, Prod.mk.injEq] at H
       obtain ⟨rfl, rfl⟩ := H
       go_wp2
       go_ret2
       exact ⟨rfl, HB.out⟩
      ·rw [if_neg c9] at H
       have c9b0 : (x4_1 == 0) = false := beq_eq_false_iff_ne.mpr c9
       have c9b1 : (x4_1 != 0) = true := bne_iff_ne.mpr c9
       by_cases c10 : 0 < (l0.length : Int)
       ·rw [if_pos c10] at H
        have c10b0 : decide (0 < (l0.length : Int)) = true := decide_eq_true c10
        have c10b1 : decide (0 < l0.length) = true := decide_eq_true (by omega)
        clear c10
        obtain ⟨ji11, hji11⟩ : ∃ j_ : Int, (wrap64 (x5_1 - 1)) = j_ := ⟨_, rfl⟩
        replace H : (if 0 ≤ (ji11) then (if (ji11) < (((rd_T82 l0 0).f2).length : Int) then (suffix_Index_Repeat.l1 k1 l0 x4_1 (rd ((rd_T82 l0 0).f2) (ji11)) x5_1) else (none)) else (none)) = some (r1, r2) := by first | (rw [hji11] at H; exact H) | (simp only [hji11] at H ⊢; exact H)
        have hji11w : (IntKind.i64.wrap (x5_1 - 1)) = ji11 := (i64_w _).trans hji11
        by_cases c12 : 0 ≤ (ji11)
        ·rw [if_pos c12] at H
         have c12b0 : decide (0 ≤ (ji11)) = true := decide_eq_true c12
         clear c12
         by_cases c13 : (ji11) < (((rd_T82 l0 0).f2).length : Int)
         ·rw [if_pos c13] at H
          have c13b0 : decide ((ji11) < (((rd_T82 l0 0).f2).length : Int)) = true := decide_eq_true c13
          clear c13
          have H' := Aside0.mk H
          clear H
          have p398 : 0 ≤ (0 : Int) := (by omega)
          have q398 : 0 < (l0.length : Int) := Qt
          obtain ⟨ad398, A398_1, c398_1, A398_2, c398_2, A398_3, c398_3, A398_4, c398_4, e398, hx398_0, hx398_1, hx398_2, hx398_3, hx398_4, hl398_1, hi398_1, hl398_2, hi398_2, hl398_3, hi398_3, hl398_4, hi398_4⟩ := at_T82 HR0.out 0 p398 q398
          obtain rfl : ad396 = ad398 := (by injection e398)
          have qi398 : (0 < l0.length) = True := eq_true (by omega)
          (try rw [show ((0 : Int)).toNat = 0 from rfl] at hx398_0)
          (try rw [show 0 * 5 = 0 from rfl] at hx398_0)
          (try rw [Addr.add_zero'] at hx398_0)
          (try rw [show ((0 : Int)).toNat = 0 from rfl] at hx398_1)
          (try rw [show 0 * 5 = 0 from rfl] at hx398_1)
          (try rw [Addr.add_zero'] at hx398_1)
          (try rw [show ((0 : Int)).toNat = 0 from rfl] at hx398_2)
          (try rw [show 0 * 5 = 0 from rfl] at hx398_2)
          (try rw [Addr.add_zero'] at hx398_2)
          (try rw [show ((0 : Int)).toNat = 0 from rfl] at hx398_3)
          (try rw [show 0 * 5 = 0 from rfl] at hx398_3)
          (try rw [Addr.add_zero'] at hx398_3)
          (try rw [show ((0 : Int)).toNat = 0 from rfl] at hx398_4)
          (try rw [show 0 * 5 = 0 from rfl] at hx398_4)
          (try rw [Addr.add_zero'] at hx398_4)
          replace hx398_0 := (HB.out.cell (World.block_lt_of_cell? w _ hx398_0)).trans hx398_0
          replace hx398_1 := (HB.out.cell (World.block_lt_of_cell? w _ hx398_1)).trans hx398_1
          replace hx398_2 := (HB.out.cell (World.block_lt_of_cell? w _ hx398_2)).trans hx398_2
          replace hx398_3 := (HB.out.cell (World.block_lt_of_cell? w _ hx398_3)).trans hx398_3
          replace hx398_4 := (HB.out.cell (World.block_lt_of_cell? w _ hx398_4)).trans hx398_4
          have HR398_1 := Aside0.mk hi398_1
          have HC398_1 := Aside0.mk hl398_1
          clear hi398_1 hl398_1
          have HR398_2 := Aside0.mk hi398_2
          have HC398_2 := Aside0.mk hl398_2
          clear hi398_2 hl398_2
          have HR398_3 := Aside0.mk hi398_3
          have HC398_3 := Aside0.mk hl398_3
          clear hi398_3 hl398_3
          have HR398_4 := Aside0.mk hi398_4
          have HC398_4 := Aside0.mk hl398_4
          clear hi398_4 hl398_4
          replace p398 := eq_true p398
          replace q398 := eq_true q398
          have hpt398 : ptrOf (.slice (some ad396) l0.length c0) = .pointer (some ad396) := ptrOf_pos _ _ _ (Qt)
          have p399 : 0 ≤ ((ji11) : Int) := Qt
          have q399 : (ji11) < (((rd_T82 l0 0).f2).length : Int) := Qt
          obtain ⟨ad399, e399, hx399_0⟩ := Kd.at_int HR398_2.out (ji11) p399 q399
          cases e399
          replace hx399_0 := (HB.out.cell (World.block_lt_of_cell? w _ hx399_0)).trans hx399_0
          replace p399 := eq_true p399
          replace q399 := eq_true q399
          go_wp2
          (try rw [hpt396])
          go_loopg [8, 9] k1 (fun kq v8 v9 w' => ∃ (x8_2 : Int) (x9_2 : Int), v8 = .int .i64 x8_2 ∧ v9 = .int .i64 x9_2 ∧ Aside0 (suffix_Index_Repeat.l1 kq l0 x4_1 x8_2 x9_2 = some (r1, r2)) ∧ Aside0 (kq ≤ k1) ∧ Aside0 (Below w.heap.size w w'))
          case atStart => exact ⟨(rd ((rd_T82 l0 0).f2) (ji11)), (x5_1), (by first | rfl | (simp; done) | (simp only [← hji11] <;> (first | rfl | simp)) | (simp [*]; done)), (rfl), H', ⟨Nat.le_refl _⟩, ⟨HB.out⟩⟩
          case round =>
           clear H'
           try clear c1
           try clear p2
           try clear c3
           try clear p3
           try clear q3
           try clear hx3
           try clear qi3
           try clear c4
           try clear c4b0
           try clear c4b1
           try clear c5
           try clear c5b0
           try clear c6
           try clear c6b0
           try clear p6
           try clear c7
           try clear c7b0
           try clear c8
           try clear c8b0
           try clear c9
           try clear c9b0
           try clear c9b1
           try clear c10
           try clear c10b0
           try clear c10b1
           try clear c12
           try clear c12b0
           try clear c13
           try clear c13b0
           try clear hx396_0
           try clear hx396_1
           try clear hx396_2
           try clear hx396_3
           try clear hx396_4
           try clear hx397_0
           try clear hx398_0
           try clear hx398_1
           try clear hx398_2
           try clear hx398_3
           try clear hx398_4
           try clear hx399_0
           try clear p2
           try clear p3
           try clear p396
           try clear p397
           try clear p398
           try clear p399
           try clear q3
           try clear q396
           try clear q397
           try clear q398
           try clear q399
           obtain ⟨x8_2, x9_2, rfl, rfl, HA, HK2, HB⟩ := hrel
           cases gk with
           | zero => exact absurd HA.out (by simp [suffix_Index_Repeat.l1])
           | succ k2 =>
            have H := HA.out
            clear HA
            simp only [suffix_Index_Repeat.l1] at H
            by_cases c14 : 0 < (l0.length : Int)
            ·rw [if_pos c14] at H
             have c14b0 : decide (0 < (l0.length : Int)) = true := decide_eq_true c14
             have c14b1 : decide (0 < l0.length) = true := decide_eq_true (by omega)
             clear c14
             by_cases c15 : x9_2 < (((rd_T82 l0 0).f4).length : Int)
             ·rw [if_pos c15] at H
              have c15b0 : decide (x9_2 < (((rd_T82 l0 0).f4).length : Int)) = true := decide_eq_true c15
              clear c15
              by_cases c16 : 0 ≤ x9_2
              ·rw [if_pos c16] at H
               have c16b0 : decide (0 ≤ x9_2) = true := decide_eq_true c16
               clear c16
               by_cases c17 : (rd ((rd_T82 l0 0).f4) x9_2) ≥ x4_1
               ·rw [if_pos c17] at H
                have c17b0 : decide (x4_1 ≤ (rd ((rd_T82 l0 0).f4) x9_2)) = true := decide_eq_true c17
                clear c17
                by_cases c18 : x9_2 < (((rd_T82 l0 0).f2).length : Int)
                ·rw [if_pos c18] at H
                 have c18b0 : decide (x9_2 < (((rd_T82 l0 0).f2).length : Int)) = true := decide_eq_true c18
                 clear c18
                 obtain ⟨ji19, hji19⟩ : ∃ j_ : Int, (mn x8_2 (rd ((rd_T82 l0 0).f2) x9_2)) = j_ := ⟨_, rfl⟩
                 replace H : (suffix_Index_Repeat.l1 k2 l0 x4_1 ji19 (wrap64 (x9_2 + 1))) = some (r1, r2) := by first | (rw [hji19] at H; exact H) | (simp only [hji19] at H ⊢; exact H)
                 have hji19_ : (if (rd ((rd_T82 l0 0).f2) x9_2) < x8_2 then (rd ((rd_T82 l0 0).f2) x9_2) else x8_2) = ji19 := hji19
                 have H' := Aside0.mk H
                 clear H
                 have p400 : 0 ≤ (0 : Int) := (by omega)
                 have q400 : 0 < (l0.length : Int) := Qt
                 obtain ⟨ad400, A400_1, c400_1, A400_2, c400_2, A400_3, c400_3, A400_4, c400_4, e400, hx400_0, hx400_1, hx400_2, hx400_3, hx400_4, hl400_1, hi400_1, hl400_2, hi400_2, hl400_3, hi400_3, hl400_4, hi400_4⟩ := at_T82 HR0.out 0 p400 q400
                 obtain rfl : ad396 = ad400 := (by injection e400)
                 have qi400 : (0 < l0.length) = True := eq_true (by omega)
                 (try rw [show ((0 : Int)).toNat = 0 from rfl] at hx400_0)
                 (try rw [show 0 * 5 = 0 from rfl] at hx400_0)
                 (try rw [Addr.add_zero'] at hx400_0)
                 (try rw [show ((0 : Int)).toNat = 0 from rfl] at hx400_1)
                 (try rw [show 0 * 5 = 0 from rfl] at hx400_1)
                 (try rw [Addr.add_zero'] at hx400_1)
                 (try rw [show ((0 : Int)).toNat = 0 from rfl] at hx400_2)
                 (try rw [show 0 * 5 = 0 from rfl] at hx400_2)
                 (try rw [Addr.add_zero'] at hx400_2)
                 (try rw [show ((0 : Int)).toNat = 0 from rfl] at hx400_3)
                 (try rw [show 0 * 5 = 0 from rfl] at hx400_3)
                 (try rw [Addr.add_zero'] at hx400_3)
                 (try rw [show ((0 : Int)).toNat = 0 from rfl] at hx400_4)
                 (try rw [show 0 * 5 = 0 from rfl] at hx400_4)
                 (try rw [Addr.add_zero'] at hx400_4)
                 replace hx400_0 := (HB.out.cell (World.block_lt_of_cell? w _ hx400_0)).trans hx400_0
                 replace hx400_1 := (HB.out.cell (World.block_lt_of_cell? w _ hx400_1)).trans hx400_1
                 replace hx400_2 := (HB.out.cell (World.block_lt_of_cell? w _ hx400_2)).trans hx400_2
                 replace hx400_3 := (HB.out.cell (World.block_lt_of_cell? w _ hx400_3)).trans hx400_3
                 replace hx400_4 := (HB.out.cell (World.block_lt_of_cell? w _ hx400_4)).trans hx400_4
                 have HR400_1 := Aside0.mk hi400_1
                 have HC400_1 := Aside0.mk hl400_1
                 clear hi400_1 hl400_1
                 have HR400_2 := Aside0.mk hi400_2
                 have HC400_2 := Aside0.mk hl400_2
                 clear hi400_2 hl400_2
                 have HR400_3 := Aside0.mk hi400_3
                 have HC400_3 := Aside0.mk hl400_3
                 clear hi400_3 hl400_3
                 have HR400_4 := Aside0.mk hi400_4
                 have HC400_4 := Aside0.mk hl400_4
                 clear hi400_4 hl400_4
                 replace p400 := eq_true p400
                 replace q400 := eq_true q400
                 have hpt400 : ptrOf (.slice (some ad396) l0.length c0) = .pointer (some ad396) := ptrOf_pos _ _ _ (Qt)
                 have p401 : 0 ≤ (0 : Int) := (by omega)
                 have q401 : 0 < (l0.length : Int) := Qt
                 obtain ⟨ad401, A401_1, c401_1, A401_2, c401_2, A401_3, c401_3, A401_4, c401_4, e401, hx401_0, hx401_1, hx401_2, hx401_3, hx401_4, hl401_1, hi401_1, hl401_2, hi401_2, hl401_3, hi401_3, hl401_4, hi401_4⟩ := at_T82 HR0.out 0 p401 q401
                 obtain rfl : ad396 = ad401 := (by injection e401)
                 have qi401 : (0 < l0.length) = True := eq_true (by omega)
                 (try rw [show ((0 : Int)).toNat = 0 from rfl] at hx401_0)
                 (try rw [show 0 * 5 = 0 from rfl] at hx401_0)
                 (try rw [Addr.add_zero'] at hx401_0)
                 (try rw [show ((0 : Int)).toNat = 0 from rfl] at hx401_1)
                 (try rw [show 0 * 5 = 0 from rfl] at hx401_1)
                 (try rw [Addr.add_zero'] at hx401_1)
                 (try rw [show ((0 : Int)).toNat = 0 from rfl] at hx401_2)
                 (try rw [show 0 * 5 = 0 from rfl] at hx401_2)
                 (try rw [Addr.add_zero'] at hx401_2)
                 (try rw [show ((0 : Int)).toNat = 0 from rfl] at hx401_3)
                 (try rw [show 0 * 5 = 0 from rfl] at hx401_3)
                 (try rw [Addr.add_zero'] at hx401_3)
                 (try rw [show ((0 : Int)).toNat = 0 from rfl] at hx401_4)
                 (try rw [show 0 * 5 = 0 from rfl] at hx401_4)
                 (try rw [Addr.add_zero'] at hx401_4)
                 replace hx401_0 := (HB.out.cell (World.block_lt_of_cell? w _ hx401_0)).trans hx401_0
                 replace hx401_1 := (HB.out.cell (World.block_lt_of_cell? w _ hx401_1)).trans hx401_1
                 replace hx401_2 := (HB.out.cell (World.block_lt_of_cell? w _ hx401_2)).trans hx401_2
                 replace hx401_3 := (HB.out.cell (World.block_lt_of_cell? w _ hx401_3)).trans hx401_3
                 replace hx401_4 := (HB.out.cell (World.block_lt_of_cell? w _ hx401_4)).trans hx401_4
                 have HR401_1 := Aside0.mk hi401_1
                 have HC401_1 := Aside0.mk hl401_1
                 clear hi401_1 hl401_1
                 have HR401_2 := Aside0.mk hi401_2
                 have HC401_2 := Aside0.mk hl401_2
                 clear hi401_2 hl401_2
                 have HR401_3 := Aside0.mk hi401_3
                 have HC401_3 := Aside0.mk hl401_3
                 clear hi401_3 hl401_3
                 have HR401_4 := Aside0.mk hi401_4
                 have HC401_4 := Aside0.mk hl401_4
                 clear hi401_4 hl401_4
                 replace p401 := eq_true p401
                 replace q401 := eq_true q401
                 have ea_ := Option.some.inj (hx400_1.symm.trans hx401_1)
                 injection ea_ with ea_ en_ ec_
                 subst ea_
                 subst ec_
                 clear en_
                 have ea_ := Option.some.inj (hx400_2.symm.trans hx401_2)
                 injection ea_ with ea_ en_ ec_
                 subst ea_
                 subst ec_
                 clear en_
                 have ea_ := Option.some.inj (hx400_3.symm.trans hx401_3)
                 injection ea_ with ea_ en_ ec_
                 subst ea_
                 subst ec_
                 clear en_
                 have ea_ := Option.some.inj (hx400_4.symm.trans hx401_4)
                 injection ea_ with ea_ en_ ec_
                 subst ea_
                 subst ec_
                 clear en_
                 have hpt401 : ptrOf (.slice (some ad396) l0.length c0) = .pointer (some ad396) := ptrOf_pos _ _ _ (Qt)
                 have p402 : 0 ≤ (x9_2 : Int) := Qt
                 have q402 : x9_2 < (((rd_T82 l0 0).f4).length : Int) := Qt
                 obtain ⟨ad402, e402, hx402_0⟩ := Kd.at_int HR401_4.out x9_2 p402 q402
                 cases e402
                 replace hx402_0 := (HB.out.cell (World.block_lt_of_cell? w _ hx402_0)).trans hx402_0
                 replace p402 := eq_true p402
                 replace q402 := eq_true q402
                 have p403 : 0 ≤ (0 : Int) := (by omega)
                 have q403 : 0 < (l0.length : Int) := Qt
                 obtain ⟨ad403, A403_1, c403_1, A403_2, c403_2, A403_3, c403_3, A403_4, c403_4, e403, hx403_0, hx403_1, hx403_2, hx403_3, hx403_4, hl403_1, hi403_1, hl403_2, hi403_2, hl403_3, hi403_3, hl403_4, hi403_4⟩ := at_T82 HR0.out 0 p403 q403
                 obtain rfl : ad396 = ad403 := (by injection e403)
                 have qi403 : (0 < l0.length) = True := eq_true (by omega)
                 (try rw [show ((0 : Int)).toNat = 0 from rfl] at hx403_0)
                 (try rw [show 0 * 5 = 0 from rfl] at hx403_0)
                 (try rw [Addr.add_zero'] at hx403_0)
                 (try rw [show ((0 : Int)).toNat = 0 from rfl] at hx403_1)
                 (try rw [show 0 * 5 = 0 from rfl] at hx403_1)
                 (try rw [Addr.add_zero'] at hx403_1)
                 (try rw [show ((0 : Int)).toNat = 0 from rfl] at hx403_2)
                 (try rw [show 0 * 5 = 0 from rfl] at hx403_2)
                 (try rw [Addr.add_zero'] at hx403_2)
                 (try rw [show ((0 : Int)).toNat = 0 from rfl] at hx403_3)
                 (try rw [show 0 * 5 = 0 from rfl] at hx403_3)
                 (try rw [Addr.add_zero'] at hx403_3)
                 (try rw [show ((0 : Int)).toNat = 0 from rfl] at hx403_4)
                 (try rw [show 0 * 5 = 0 from rfl] at hx403_4)
                 (try rw [Addr.add_zero'] at hx403_4)
                 replace hx403_0 := (HB.out.cell (World.block_lt_of_cell? w _ hx403_0)).trans hx403_0
                 replace hx403_1 := (HB.out.cell (World.block_lt_of_cell? w _ hx403_1)).trans hx403_1
                 replace hx403_2 := (HB.out.cell (World.block_lt_of_cell? w _ hx403_2)).trans hx403_2
                 replace hx403_3 := (HB.out.cell (World.block_lt_of_cell? w _ hx403_3)).trans hx403_3
                 replace hx403_4 := (HB.out.cell (World.block_lt_of_cell? w _ hx403_4)).trans hx403_4
                 have HR403_1 := Aside0.mk hi403_1
                 have HC403_1 := Aside0.mk hl403_1
                 clear hi403_1 hl403_1
                 have HR403_2 := Aside0.mk hi403_2
                 have HC403_2 := Aside0.mk hl403_2
                 clear hi403_2 hl403_2
                 have HR403_3 := Aside0.mk hi403_3
                 have HC403_3 := Aside0.mk hl403_3
                 clear hi403_3 hl403_3
                 have HR403_4 := Aside0.mk hi403_4
                 have HC403_4 := Aside0.mk hl403_4
                 clear hi403_4 hl403_4
                 replace p403 := eq_true p403
                 replace q403 := eq_true q403
                 have ea_ := Option.some.inj (hx400_1.symm.trans hx403_1)
                 injection ea_ with ea_ en_ ec_
                 subst ea_
                 subst ec_
                 clear en_
                 have ea_ := Option.some.inj (hx400_2.symm.trans hx403_2)
                 injection ea_ with ea_ en_ ec_
                 subst ea_
                 subst ec_
                 clear en_
                 have ea_ := Option.some.inj (hx400_3.symm.trans hx403_3)
                 injection ea_ with ea_ en_ ec_
                 subst ea_
                 subst ec_
                 clear en_
                 have ea_ := Option.some.inj (hx400_4.symm.trans hx403_4)
                 injection ea_ with ea_ en_ ec_
                 subst ea_
                 subst ec_
                 clear en_
                 have hpt403 : ptrOf (.slice (some ad396) l0.length c0) = .pointer (some ad396) := ptrOf_pos _ _ _ (Qt)
                 have p404 : 0 ≤ (x9_2 : Int) := Qt
                 have q404 : x9_2 < (((rd_T82 l0 0).f2).length : Int) := Qt
                 obtain ⟨ad404, e404, hx404_0⟩ := Kd.at_int HR403_2.out x9_2 p404 q404
                 cases e404
                 replace hx404_0 := (HB.out.cell (World.block_lt_of_cell? w _ hx404_0)).trans hx404_0
                 replace p404 := eq_true p404
                 replace q404 := eq_true q404
                 go_wp2
                 go_roundg k2
                 case measure => have := HK1.out; have := HK2.out; omega
                 case rel => exact ⟨(ji19), (wrap64 (x9_2 + 1)), (by first | rfl | (simp; done) | (simp only [← hji19] <;> (first | rfl | simp)) | (simp [*]; done)), (rfl), H', ⟨by have := HK1.out; have := HK2.out; omega⟩, ⟨HB.out⟩⟩
                ·rw [if_neg c18] at H
                 exact absurd H (by simp)
               ·rw [if_neg c17] at H
                have c17b0 : decide (x4_1 ≤ (rd ((rd_T82 l0 0).f4) x9_2)) = false := decide_eq_false c17
                clear c17
                simp only [Option.some.injEq, Prod.mk.injEq] at H
                obtain ⟨rfl, rfl⟩ := H
                have p400 : 0 ≤ (0 : Int) := (by omega)
                have q400 : 0 < (l0.length : Int) := Qt
                obtain ⟨ad400, A400_1, c400_1, A400_2, c400_2, A400_3, c400_3, A400_4, c400_4, e400, hx400_0, hx400_1, hx400_2, hx400_3, hx400_4, hl400_1, hi400_1, hl400_2, hi400_2, hl400_3, hi400_3, hl400_4, hi400_4⟩ := at_T82 HR0.out 0 p400 q400
                obtain rfl : ad396 = ad400 := (by injection e400)
                have qi400 : (0 < l0.length) = True := eq_true (by omega)
                (try rw [show ((0 : Int)).toNat = 0 from rfl] at hx400_0)
                (try rw [show 0 * 5 = 0 from rfl] at hx400_0)
                (try rw [Addr.add_zero'] at hx400_0)
                (try rw [show ((0 : Int)).toNat = 0 from rfl] at hx400_1)
                (try rw [show 0 * 5 = 0 from rfl] at hx400_1)
                (try rw [Addr.add_zero'] at hx400_1)
                (try rw [show ((0 : Int)).toNat = 0 from rfl] at hx400_2)
                (try rw [show 0 * 5 = 0 from rfl] at hx400_2)
                (try rw [Addr.add_zero'] at hx400_2)
                (try rw [show ((0 : Int)).toNat = 0 from rfl] at hx400_3)
                (try rw [show 0 * 5 = 0 from rfl] at hx400_3)
                (try rw [Addr.add_zero'] at hx400_3)
                (try rw [show ((0 : Int)).toNat = 0 from rfl] at hx400_4)
                (try rw [show 0 * 5 = 0 from rfl] at hx400_4)
                (try rw [Addr.add_zero'] at hx400_4)
                replace hx400_0 := (HB.out.cell (World.block_lt_of_cell? w _ hx400_0)).trans hx400_0
                replace hx400_1 := (HB.out.cell (World.block_lt_of_cell? w _ hx400_1)).trans hx400_1
                replace hx400_2 := (HB.out.cell (World.block_lt_of_cell? w _ hx400_2)).trans hx400_2
                replace hx400_3 := (HB.out.cell (World.block_lt_of_cell? w _ hx400_3)).trans hx400_3
                replace hx400_4 := (HB.out.cell (World.block_lt_of_cell? w _ hx400_4)).trans hx400_4
                have HR400_1 := Aside0.mk hi400_1
                have HC400_1 := Aside0.mk hl400_1
                clear hi400_1 hl400_1
                have HR400_2 := Aside0.mk hi400_2
                have HC400_2 := Aside0.mk hl400_2
                clear hi400_2 hl400_2
                have HR400_3 := Aside0.mk hi400_3
                have HC400_3 := Aside0.mk hl400_3
                clear hi400_3 hl400_3
                have HR400_4 := Aside0.mk hi400_4
                have HC400_4 := Aside0.mk hl400_4
                clear hi400_4 hl400_4
                replace p400 := eq_true p400
                replace q400 := eq_true q400
                have hpt400 : ptrOf (.slice (some ad396) l0.length c0) = .pointer (some ad396) := ptrOf_pos _ _ _ (Qt)
                have p401 : 0 ≤ (0 : Int) := (by omega)
                have q401 : 0 < (l0.length : Int) := Qt
                obtain ⟨ad401, A401_1, c401_1, A401_2, c401_2, A401_3, c401_3, A401_4, c401_4, e401, hx401_0, hx401_1, hx401_2, hx401_3, hx401_4, hl401_1, hi401_1, hl401_2, hi401_2, hl401_3, hi401_3, hl401_4, hi401_4⟩ := at_T82 HR0.out 0 p401 q401
                obtain rfl : ad396 = ad401 := (by injection e401)
                have qi401 : (0 < l0.length) = True := eq_true (by omega)
                (try rw [show ((0 : Int)).toNat = 0 from rfl] at hx401_0)
                (try rw [show 0 * 5 = 0 from rfl] at hx401_0)
                (try rw [Addr.add_zero'] at hx401_0)
                (try rw [show ((0 : Int)).toNat = 0 from rfl] at hx401_1)
                (try rw [show 0 * 5 = 0 from rfl] at hx401_1)
                (try rw [Addr.add_zero'] at hx401_1)
                (try rw [show ((0 : Int)).toNat = 0 from rfl] at hx401_2)
                (try rw [show 0 * 5 = 0 from rfl] at hx401_2)
                (try rw [Addr.add_zero'] at hx401_2)
                (try rw [show ((0 : Int)).toNat = 0 from rfl] at hx401_3)
                (try rw [show 0 * 5 = 0 from rfl] at hx401_3)
                (try rw [Addr.add_zero'] at hx401_3)
                (try rw [show ((0 : Int)).toNat = 0 from rfl] at hx401_4)
                (try rw [show 0 * 5 = 0 from rfl] at hx401_4)
                (try rw [Addr.add_zero'] at hx401_4)
                replace hx401_0 := (HB.out.cell (World.block_lt_of_cell? w _ hx401_0)).trans hx401_0
                replace hx401_1 := (HB.out.cell (World.block_lt_of_cell? w _ hx401_1)).trans hx401_1
                replace hx401_2 := (HB.out.cell (World.block_lt_of_cell? w _ hx401_2)).trans hx401_2
                replace hx401_3 := (HB.out.cell (World.block_lt_of_cell? w _ hx401_3)).trans hx401_3
                replace hx401_4 := (HB.out.cell (World.block_lt_of_cell? w _ hx401_4)).trans hx401_4
                have HR401_1 := Aside0.mk hi401_1
                have HC401_1 := Aside0.mk hl401_1
                clear hi401_1 hl401_1
                have HR401_2 := Aside0.mk hi401_2
                have HC401_2 := Aside0.mk hl401_2
                clear hi401_2 hl401_2
                have HR401_3 := Aside0.mk hi401_3
                have HC401_3 := Aside0.mk hl401_3
                clear hi401_3 hl401_3
                have HR401_4 := Aside0.mk hi401_4
                have HC401_4 := Aside0.mk hl401_4
                clear hi401_4 hl401_4
                replace p401 := eq_true p401
                replace q401 := eq_true q401
                have ea_ := Option.some.inj (hx400_1.symm.trans hx401_1)
                injection ea_ with ea_ en_ ec_
                subst ea_
                subst ec_
                clear en_
                have ea_ := Option.some.inj (hx400_2.symm.trans hx401_2)
                injection ea_ with ea_ en_ ec_
                subst ea_
                subst ec_
                clear en_
                have ea_ := Option.some.inj (hx400_3.symm.trans hx401_3)
                injection ea_ with ea_ en_ ec_
                subst ea_
                subst ec_
                clear en_
                have ea_ := Option.some.inj (hx400_4.symm.trans hx401_4)
                injection ea_ with ea_ en_ ec_
                subst ea_
                subst ec_
                clear en_
                have hpt401 : ptrOf (.slice (some ad396) l0.length c0) = .pointer (some ad396) := ptrOf_pos _ _ _ (Qt)
                have p402 : 0 ≤ (x9_2 : Int) := Qt
                have q402 : x9_2 < (((rd_T82 l0 0).f4).length : Int) := Qt
                obtain ⟨ad402, e402, hx402_0⟩ := Kd.at_int HR401_4.out x9_2 p402 q402
                cases e402
                replace hx402_0 := (HB.out.cell (World.block_lt_of_cell? w _ hx402_0)).trans hx402_0
                replace p402 := eq_true p402
                replace q402 := eq_true q402
                go_wp2
                go_ret2
                exact ⟨by first | rfl | (simp [errW_none, errW_some] <;> rfl) | (simp only [← hji11]; first | rfl | (simp [errW_none, errW_some] <;> rfl)) | (simp [*, errW_none, errW_some] <;> rfl), HB.out⟩
              ·rw [if_neg c16] at H
               exact absurd H (by simp)
             ·rw [if_neg c15] at H
              have c15b0 : decide (x9_2 < (((rd_T82 l0 0).f4).length : Int)) = false := decide_eq_false c15
              clear c15
              simp only [Option.some.injEq, Prod.mk.injEq] at H
              obtain ⟨rfl, rfl⟩ := H
              have p400 : 0 ≤ (0 : Int) := (by omega)
              have q400 : 0 < (l0.length : Int) := Qt
              obtain ⟨ad400, A400_1, c400_1, A400_2, c400_2, A400_3, c400_3, A400_4, c400_4, e400, hx400_0, hx400_1, hx400_2, hx400_3, hx400_4, hl400_1, hi400_1, hl400_2, hi400_2, hl400_3, hi400_3, hl400_4, hi400_4⟩ := at_T82 HR0.out 0 p400 q400
              obtain rfl : ad396 = ad400 := (by injection e400)
              have qi400 : (0 < l0.length) = True := eq_true (by omega)
              (try rw [show ((0 : Int)).toNat = 0 from rfl] at hx400_0)
              (try rw [show 0 * 5 = 0 from rfl] at hx400_0)
              (try rw [Addr.add_zero'] at hx400_0)
              (try rw [show ((0 : Int)).toNat = 0 from rfl] at hx400_1)
              (try rw [show 0 * 5 = 0 from rfl] at hx400_1)
              (try rw [Addr.add_zero'] at hx400_1)
              (try rw [show ((0 : Int)).toNat = 0 from rfl] at hx400_2)
              (try rw [show 0 * 5 = 0 from rfl] at hx400_2)
              (try rw [Addr.add_zero'] at hx400_2)
              (try rw [show ((0 : Int)).toNat = 0 from rfl] at hx400_3)
              (try rw [show 0 * 5 = 0 from rfl] at hx400_3)
              (try rw [Addr.add_zero'] at hx400_3)
              (try rw [show ((0 : Int)).toNat = 0 from rfl] at hx400_4)
              (try rw [show 0 * 5 = 0 from rfl] at hx400_4)
              (try rw [Addr.add_zero'] at hx400_4)
              replace hx400_0 := (HB.out.cell (World.block_lt_of_cell? w _ hx400_0)).trans hx400_0
              replace hx400_1 := (HB.out.cell (World.block_lt_of_cell? w _ hx400_1)).trans hx400_1
              replace hx400_2 := (HB.out.cell (World.block_lt_of_cell? w _ hx400_2)).trans hx400_2
              replace hx400_3 := (HB.out.cell (World.block_lt_of_cell? w _ hx400_3)).trans hx400_3
              replace hx400_4 := (HB.out.cell (World.block_lt_of_cell? w _ hx400_4)).trans hx400_4
              have HR400_1 := Aside0.mk hi400_1
              have HC400_1 := Aside0.mk hl400_1
              clear hi400_1 hl400_1
              have HR400_2 := Aside0.mk hi400_2
              have HC400_2 := Aside0.mk hl400_2
              clear hi400_2 hl400_2
              have HR400_3 := Aside0.mk hi400_3
              have HC400_3 := Aside0.mk hl400_3
              clear hi400_3 hl400_3
              have HR400_4 := Aside0.mk hi400_4
              have HC400_4 := Aside0.mk hl400_4
              clear hi400_4 hl400_4
              replace p400 := eq_true p400
              replace q400 := eq_true q400
              have hpt400 : ptrOf (.slice (some ad396) l0.length c0) = .pointer (some ad396) := ptrOf_pos _ _ _ (Qt)
              go_wp2
              go_ret2
              exact ⟨by first | rfl | (simp [errW_none, errW_some] <;> rfl) | (simp only [← hji11]; first | rfl | (simp [errW_none, errW_some] <;> rfl)) | (simp [*, errW_none, errW_some] <;> rfl), HB.out⟩
            ·rw [if_neg c14] at H
             exact absurd H (by simp)
         ·rw [if_neg c13] at H
          exact absurd H (by simp)
        ·rw [if_neg c12] at H
         exact absurd H (by simp)
       ·rw [if_neg c10] at H
        exact absurd H (by simp)
  ·rw [if_neg c4] at H
   exact absurd H (by simp)
 ·replace c3 := Bool.eq_false_iff.mpr c3
  subst c3
  have H1 : (some (0, 0)) = some (r1, r2) := by rw [if_neg (show ¬ (false = true) by decide)] at H; exact H
  clear H
  have H := H1
  clear H1
  simp only [Option.some.injEq, Prod.mk.injEq] at H
  obtain ⟨rfl, rfl⟩ := H
  go_enter Try.func41, Try.ntmps41
  go_wp2_with (first | (refine gate_callee (f := 54) rfl ?_; refine goesL_ (some 11) rfl rfl Try.func54 (by kernel_rfl) rfl #[ptrOf (.slice A0 l0.length c0)] rfl (by (try simp only [List.map_toArray, List.map_cons, List.map_nil]); first | done | rfl | (simp only [*]; done) | (simp only [*]; rfl) | (simp only [List.length_drop, List.length_take]; rfl)) ?_; (with_reducible refine (suffix_Index_is.calls _ _ l0 false _ ?side1 ?side2 A2.out).mono ?_); (case side1 => exact HR0.out); (case side2 => exact HC0.out); rintro e w' ⟨rfl, ⟨nd, rfl⟩⟩; refine ⟨_, rfl, ?_⟩))
  go_ret2
  exact ⟨by first | rfl | (simp [errW_none, errW_some] <;> rfl) | (simp [*, errW_none, errW_some] <;> rfl), by repeat first|(with_reducible first|exact HB.out|apply Qg|apply Qh|apply Qi)|exact HB.out⟩

end Go.Proofs.Ythcnnfahlhklgaa.X
