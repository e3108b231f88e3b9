-- Printed by wip/xprint.py of this repo (a wrapper of the session's own round the print).
import Derived.Test.YthcnnfahlhklgaaXx0
import Derived.Test.YthcnnfahlhklgaaXBA
import Derived.Test.YthcnnfahlhklgaaXx27
namespace Go.Proofs.Ythcnnfahlhklgaa.X
open Go.RowKit Go.Proofs.YthcnnfahlhklgaaW.PrintWords Go.Proofs.YthcnnfahlhklgaaW.PrintLast Go.Proofs.YthcnnfahlhklgaaW.PrintMore
attribute [local go_sem] ptrOf_eql ptrOf_neq ptrOf_eqg ptrOf_neg str_leq str_geq str_gtr max2_int min2_int max_two min_two max_three min_three max_four min_four   -- for this text's walks alone
set_option linter.unusedVariables false
set_option linter.unusedSimpArgs false

/-! ### suffix_Index_Rank: function 32 -/
def suffix_Index_Rank.f (k : Nat) (l0 : List (S82)) (a1 : Int) : Option (Int × Int) := (suffix_Index_place.f k l0 (([a1] : List Int))).bind fun t340 => (if t340 = 0 then (if 0 < (l0.length : Int) then (if 0 ≤ a1 then (if a1 < (((rd_T82 l0 0).f3).length : Int) then (some (rd ((rd_T82 l0 0).f3) a1, 0)) else (none)) else (none)) else (none)) else (some (0, t340)))
theorem suffix_Index_Rank.mono : ∀ a0 a1 k, LeO (suffix_Index_Rank.f k a0 a1) (suffix_Index_Rank.f (k + 1) a0 a1) := by
 intro a0 a1 k
 unfold suffix_Index_Rank.f
 repeat' first
   | (with_reducible exact suffix_Index_place.mono _ _ _)
   | (with_reducible exact LeO.refl _)
   | (with_reducible exact LeO.none _)
   | (with_reducible refine LeO.ite ?_ ?_)
   | (with_reducible refine LeO.bind ?_ (fun _ => ?_))
   | exact suffix_Index_place.mono _ _ _
   | exact LeO.none _
   | refine LeO.ite ?_ ?_
   | refine LeO.bind ?_ (fun _ => ?_)
set_option maxHeartbeats 8000000 in
set_option maxRecDepth 100000 in
theorem suffix_Index_Rank.calls (k : Nat) (A0 : Option Addr) (c0 : Nat) (l0 : List (S82)) (a1 : Int) (r1 : Int) (r2 : Int) (w : World) (hr0 : Kd.C k82 w A0 l0.length l0) (hc0 : l0.length ≤ c0) (h : suffix_Index_Rank.f k l0 a1 = some (r1, r2)) :
  Calls Try.prog 32 #[ptrOf (.slice A0 l0.length c0), .int .i64 a1] w fun e w' => e = .returned (.tuple #[.int .i64 r1, .int .i64 r2]) ∧ Below w.heap.size w w' := by
 have HR0 := Aside0.mk hr0
 have HC0 := Aside0.mk hc0
 clear hr0 hc0
 have HB := Aside0.mk (Below.refl w.heap.size w)
 have H : ((suffix_Index_place.f k l0 (([a1] : List Int))).bind fun t340 => (if t340 = 0 then (if 0 < (l0.length : Int) then (if 0 ≤ a1 then (if a1 < (((rd_T82 l0 0).f3).length : Int) then (some (rd ((rd_T82 l0 0).f3) a1, 0)) else (none)) else (none)) else (none)) else (some (0, t340)))) = some (r1, r2) := h
 clear h
 obtain ⟨y337, hy337⟩ : ∃ y_ : List Int, y_ = (([a1] : List Int)) := ⟨_, rfl⟩
 replace H : ((suffix_Index_place.f k l0 y337).bind fun t340 => (if t340 = 0 then (if 0 < (l0.length : Int) then (if 0 ≤ a1 then (if a1 < (((rd_T82 l0 0).f3).length : Int) then (some (rd ((rd_T82 l0 0).f3) a1, 0)) else (none)) else (none)) else (none)) else (some (0, t340)))) = some (r1, r2) := by first | (rw [hy337]; with_reducible exact H) | (have H2_ := (Option.bind_some _ _).symm.trans H; rw [hy337]; with_reducible exact H2_) | (have H2_ := (Option.bind_some _ _).symm.trans H; with_reducible exact H2_) | with_reducible exact H | (rw [hy337]; exact H) | exact H
 have Ny337 := Aside0.mk hy337
 clear hy337
 replace H := Option.bind_eq_some_iff.mp H
 obtain ⟨t340, A30, H⟩ := H
 replace H : (if t340 = 0 then (if 0 < (l0.length : Int) then (if 0 ≤ a1 then (if a1 < (((rd_T82 l0 0).f3).length : Int) then (some (rd ((rd_T82 l0 0).f3) a1, 0)) else (none)) else (none)) else (none)) else (some (0, t340))) = some (r1, r2) := H
 have A3 := Aside0.mk A30
 clear A30
 by_cases c4 : t340 = 0
 ·rw [if_pos c4] at H
  have c4b0 : (t340 == 0) = true := beq_iff_eq.mpr c4
  have c4b1 : (t340 != 0) = false := bne_eq_false_iff_eq.mpr c4
  clear c4
  by_cases c5 : 0 < (l0.length : Int)
  ·rw [if_pos c5] at H
   have c5b0 : decide (0 < (l0.length : Int)) = true := decide_eq_true c5
   have c5b1 : decide (0 < l0.length) = true := decide_eq_true (by omega)
   clear c5
   by_cases c6 : 0 ≤ a1
   ·rw [if_pos c6] at H
    have c6b0 : decide (0 ≤ a1) = true := decide_eq_true c6
    clear c6
    by_cases c7 : a1 < (((rd_T82 l0 0).f3).length : Int)
    ·rw [if_pos c7] at H
     have c7b0 : decide (a1 < (((rd_T82 l0 0).f3).length : Int)) = true := decide_eq_true c7
     clear c7
     simp only [Option.some.injEq, Prod.mk.injEq] at H
     obtain ⟨rfl, rfl⟩ := H
     go_enter Try.func32, Try.ntmps32
     go_wp2_with (first | (refine gate_dst (N := 9) rfl ?_; refine Kd.R_lit (Kd.int .i64) _ 3 ?hg (N := 9) ?hd (xs := ([a1] : List Int)) (inner := [.int .i64 a1]) (ok := fun _ => True) (okp := fun _ => True) ?hr ?hp (fun _ hk => hk) trivial (Below.refl _ _) (Nat.le_refl _) (by simp) ?_; (case hd => rfl); (case hg => rfl); (case hr => first | (go_simp; done) | (go_simp; rfl)); (case hp => exact (Reps.one (show Kd.M (Kd.int .i64) _ _ _ a1 [.int .i64 a1] from rfl) (Reps.none _ _))); intro v338 w8 ho9 hb hg_ hnew_; clear hg_ hnew_; (first | rw [← Ny337.out] at ho9 | (simp only [Int.reduceToNat] at ho9; rw [← Ny337.out] at ho9)); have n0_ := Aside0.mk (Kd.R_lower ho9 (below_size HB.out)); have n1_ := Aside0.mk (below_step HB.out hb); clear HB; have HO339 := n0_; have HB := n1_; clear n0_ n1_; clear hb ho9; obtain ⟨Ao10, co10, eo10⟩ := Kd.R_slice HO339.out; subst eo10) | (refine gate_callee (f := 52) rfl ?_; refine goesL_ (some 10) rfl rfl Try.func52 (by kernel_rfl) rfl #[ptrOf (.slice A0 l0.length c0), .slice Ao10 y337.length co10] rfl (by (try simp only [List.map_toArray, List.map_cons, List.map_nil]); first | done | rfl | (simp only [*]; done) | (simp only [*]; rfl) | (simp only [List.length_drop, List.length_take]; rfl)) ?_; (with_reducible refine (suffix_Index_place.calls k _ _ l0 _ _ y337 t340 _ ?side1 ?side2 ?side3 ?side4 A3.out).mono ?_); (case side1 => exact (Kd.C_below HR0.out HB.out)); (case side2 => exact HC0.out); (case side3 => exact (Kd.R_reads' HO339.out).2.2); (case side4 => exact (Kd.R_reads' HO339.out).2.1); rintro e w' ⟨rfl, ⟨nd, rfl⟩⟩; refine ⟨_, rfl, ?_⟩; have p341 : 0 ≤ (0 : Int) := (by omega); have q341 : 0 < (l0.length : Int) := Qt; obtain ⟨ad341, A341_1, c341_1, A341_2, c341_2, A341_3, c341_3, A341_4, c341_4, e341, hx341_0, hx341_1, hx341_2, hx341_3, hx341_4, hl341_1, hi341_1, hl341_2, hi341_2, hl341_3, hi341_3, hl341_4, hi341_4⟩ := at_T82 HR0.out 0 p341 q341; cases e341; have qi341 : (0 < l0.length) = True := eq_true (by omega); (try rw [show ((0 : Int)).toNat = 0 from rfl] at hx341_0); (try rw [show 0 * 5 = 0 from rfl] at hx341_0); (try rw [Addr.add_zero'] at hx341_0); (try rw [show ((0 : Int)).toNat = 0 from rfl] at hx341_1); (try rw [show 0 * 5 = 0 from rfl] at hx341_1); (try rw [Addr.add_zero'] at hx341_1); (try rw [show ((0 : Int)).toNat = 0 from rfl] at hx341_2); (try rw [show 0 * 5 = 0 from rfl] at hx341_2); (try rw [Addr.add_zero'] at hx341_2); (try rw [show ((0 : Int)).toNat = 0 from rfl] at hx341_3); (try rw [show 0 * 5 = 0 from rfl] at hx341_3); (try rw [Addr.add_zero'] at hx341_3); (try rw [show ((0 : Int)).toNat = 0 from rfl] at hx341_4); (try rw [show 0 * 5 = 0 from rfl] at hx341_4); (try rw [Addr.add_zero'] at hx341_4); replace hx341_0 := (HB.out.cell (World.block_lt_of_cell? w _ hx341_0)).trans hx341_0; replace hx341_1 := (HB.out.cell (World.block_lt_of_cell? w _ hx341_1)).trans hx341_1; replace hx341_2 := (HB.out.cell (World.block_lt_of_cell? w _ hx341_2)).trans hx341_2; replace hx341_3 := (HB.out.cell (World.block_lt_of_cell? w _ hx341_3)).trans hx341_3; replace hx341_4 := (HB.out.cell (World.block_lt_of_cell? w _ hx341_4)).trans hx341_4; have HR341_1 := Aside0.mk hi341_1; have HC341_1 := Aside0.mk hl341_1; clear hi341_1 hl341_1; have HR341_2 := Aside0.mk hi341_2; have HC341_2 := Aside0.mk hl341_2; clear hi341_2 hl341_2; have HR341_3 := Aside0.mk hi341_3; have HC341_3 := Aside0.mk hl341_3; clear hi341_3 hl341_3; have HR341_4 := Aside0.mk hi341_4; have HC341_4 := Aside0.mk hl341_4; clear hi341_4 hl341_4; replace p341 := eq_true p341; replace q341 := eq_true q341; have hpt341 : ptrOf (.slice (some ad341) l0.length c0) = .pointer (some ad341) := ptrOf_pos _ _ _ (Qt); have p342 : 0 ≤ (a1 : Int) := Qt; have q342 : a1 < (((rd_T82 l0 0).f3).length : Int) := Qt; obtain ⟨ad342, e342, hx342_0⟩ := Kd.at_int HR341_3.out a1 p342 q342; cases e342; replace hx342_0 := (HB.out.cell (World.block_lt_of_cell? w _ hx342_0)).trans hx342_0; replace p342 := eq_true p342; replace q342 := eq_true q342))
     go_ret2
     exact ⟨by first | rfl | (simp [errW_none, errW_some] <;> rfl) | (simp [*, errW_none, errW_some] <;> rfl), by repeat first|(with_reducible first|exact HB.out|apply Qg|apply Qh|apply Qi)|exact HB.out⟩
    ·rw [if_neg c7] at H
     exact absurd H (by simp)
   ·rw [if_neg c6] at H
    exact absurd H (by simp)
  ·rw [if_neg c5] at H
   exact absurd H (by simp)
 ·rw [if_neg c4] at H
  have c4b0 : (t340 == 0) = false := beq_eq_false_iff_ne.mpr c4
  have c4b1 : (t340 != 0) = true := bne_iff_ne.mpr c4
  simp only [Option.some.injEq, Prod.mk.injEq] at H
  obtain ⟨rfl, rfl⟩ := H
  go_enter Try.func32, Try.ntmps32
  go_wp2_with (first | (refine gate_dst (N := 9) rfl ?_; refine Kd.R_lit (Kd.int .i64) _ 3 ?hg (N := 9) ?hd (xs := ([a1] : List Int)) (inner := [.int .i64 a1]) (ok := fun _ => True) (okp := fun _ => True) ?hr ?hp (fun _ hk => hk) trivial (Below.refl _ _) (Nat.le_refl _) (by simp) ?_; (case hd => rfl); (case hg => rfl); (case hr => first | (go_simp; done) | (go_simp; rfl)); (case hp => exact (Reps.one (show Kd.M (Kd.int .i64) _ _ _ a1 [.int .i64 a1] from rfl) (Reps.none _ _))); intro v338 w11 ho12 hb hg_ hnew_; clear hg_ hnew_; (first | rw [← Ny337.out] at ho12 | (simp only [Int.reduceToNat] at ho12; rw [← Ny337.out] at ho12)); have n0_ := Aside0.mk (Kd.R_lower ho12 (below_size HB.out)); have n1_ := Aside0.mk (below_step HB.out hb); clear HB; have HO339 := n0_; have HB := n1_; clear n0_ n1_; clear hb ho12; obtain ⟨Ao13, co13, eo13⟩ := Kd.R_slice HO339.out; subst eo13) | (refine gate_callee (f := 52) rfl ?_; refine goesL_ (some 10) rfl rfl Try.func52 (by kernel_rfl) rfl #[ptrOf (.slice A0 l0.length c0), .slice Ao13 y337.length co13] rfl (by (try simp only [List.map_toArray, List.map_cons, List.map_nil]); first | done | rfl | (simp only [*]; done) | (simp only [*]; rfl) | (simp only [List.length_drop, List.length_take]; rfl)) ?_; (with_reducible refine (suffix_Index_place.calls k _ _ l0 _ _ y337 t340 _ ?side1 ?side2 ?side3 ?side4 A3.out).mono ?_); (case side1 => exact (Kd.C_below HR0.out HB.out)); (case side2 => exact HC0.out); (case side3 => exact (Kd.R_reads' HO339.out).2.2); (case side4 => exact (Kd.R_reads' HO339.out).2.1); rintro e w' ⟨rfl, ⟨nd, rfl⟩⟩; refine ⟨_, rfl, ?_⟩))
  go_ret2
  exact ⟨by first | rfl | (simp [errW_none, errW_some] <;> rfl) | (simp [*, errW_none, errW_some] <;> rfl), by repeat first|(with_reducible first|exact HB.out|apply Qg|apply Qh|apply Qi)|exact HB.out⟩

end Go.Proofs.Ythcnnfahlhklgaa.X
