-- Printed by wip/xprint.py of this repo (a wrapper of the session's own round the print).
import Derived.Test.YthcnnfahlhklgaaXx0
import Derived.Test.YthcnnfahlhklgaaXBA
import Derived.Test.YthcnnfahlhklgaaXx24
namespace Go.Proofs.Ythcnnfahlhklgaa.X
open Go.RowKit Go.Proofs.YthcnnfahlhklgaaW.PrintWords Go.Proofs.YthcnnfahlhklgaaW.PrintLast Go.Proofs.YthcnnfahlhklgaaW.PrintMore
attribute [local go_sem] ptrOf_eql ptrOf_neq ptrOf_eqg ptrOf_neg str_leq str_geq str_gtr max2_int min2_int max_two min_two max_three min_three max_four min_four   -- for this text's walks alone
set_option linter.unusedVariables false
set_option linter.unusedSimpArgs false

/-! ### sapperref13_Turn: function 34 -/
def sapperref13_Turn.l0 : Nat → List Int → List Int → Int → List Int → Int → Int → Option (List Int × Int × Int)
 | 0, _, _, _, _, _, _ => none
 | k + 1, x0, x6, x7, x18, x20, x21 => if x21 < x20 then (if 0 ≤ x21 then (if x21 < (x18.length : Int) then (if (rd x18 x21) = 0 then (sapperref13_Turn.l0 k x0 x6 x21 x18 x20 (wrap64 (x21 + 1))) else (if 0 ≤ (wrap64 ((rd x18 x21) - 1)) then (if (wrap64 ((rd x18 x21) - 1)) < (x0.length : Int) then (if x6.length < 140737488355328 then (sapperref13_Turn.l0 k x0 (x6 ++ [rd x0 (wrap64 ((rd x18 x21) - 1))]) x7 x18 x20 (wrap64 (x21 + 1))) else (none)) else (none)) else (none))) else (none)) else (none)) else (some (x6, x7, 0))
def sapperref13_Turn.f (k : Nat) (l0 : List Int) : Option (List Int × Int × Int) := if (l0.length : Int) > 16777216 then (some (([] : List Int), 0, 130)) else ((some (([(l0.length : Int)] : List Int) : List Int)).bind fun y328 => ((sapperref13_Array.f k l0).bind fun t331 => (if y328.length + t331.length < 17592186044416 then ((some (y328 ++ t331 : List Int)).bind fun y334 => (sapperref13_Turn.l0 k l0 ([] : List Int) 0 y334 (y334.length : Int) 0)) else (none))))
theorem sapperref13_Turn.mono_l : ∀ k, (∀ y0 y1 y2 y3 y4 y5, LeO (sapperref13_Turn.l0 k y0 y1 y2 y3 y4 y5) (sapperref13_Turn.l0 (k + 1) y0 y1 y2 y3 y4 y5))
 | 0 => fun _ _ _ _ _ _ r h => by simp [sapperref13_Turn.l0] at h
 | k + 1 => by
  have ih0 := sapperref13_Turn.mono_l k
  ·intro y0 y1 y2 y3 y4 y5
   unfold sapperref13_Turn.l0
   repeat' first
   | (with_reducible exact ih0 _ _ _ _ _ _)
   | (with_reducible exact sapperref13_Array.mono _ _)
   | (with_reducible exact LeO.refl _)
   | (with_reducible exact LeO.none _)
   | (with_reducible refine LeO.ite ?_ ?_)
   | (with_reducible refine LeO.bind ?_ (fun _ => ?_))
   | exact ih0 _ _ _ _ _ _
   | exact sapperref13_Array.mono _ _
   | exact LeO.none _
   | refine LeO.ite ?_ ?_
   | refine LeO.bind ?_ (fun _ => ?_)
theorem sapperref13_Turn.mono : ∀ a0 k, LeO (sapperref13_Turn.f k a0) (sapperref13_Turn.f (k + 1) a0) := by
 intro a0 k
 have ih0 := sapperref13_Turn.mono_l k
 unfold sapperref13_Turn.f
 repeat' first
   | (with_reducible exact ih0 _ _ _ _ _ _)
   | (with_reducible exact sapperref13_Array.mono _ _)
   | (with_reducible exact LeO.refl _)
   | (with_reducible exact LeO.none _)
   | (with_reducible refine LeO.ite ?_ ?_)
   | (with_reducible refine LeO.bind ?_ (fun _ => ?_))
   | exact ih0 _ _ _ _ _ _
   | exact sapperref13_Array.mono _ _
   | exact LeO.none _
   | refine LeO.ite ?_ ?_
   | refine LeO.bind ?_ (fun _ => ?_)
set_option maxHeartbeats 8000000 in
set_option maxRecDepth 100000 in
theorem sapperref13_Turn.calls (k : Nat) (A0 : Option Addr) (c0 : Nat) (l0 : List Int) (r1 : List Int) (r2 : Int) (r3 : Int) (w : World) (hr0 : Kd.C (Kd.int .u8) w A0 l0.length l0) (hc0 : l0.length ≤ c0) (h : sapperref13_Turn.f k l0 = some (r1, r2, r3)) :
  Calls Try.prog 34 #[.slice A0 l0.length c0] w fun e w' => ∃ v0_ : Value, e = .returned (.tuple #[v0_, .int .i64 r2, .int .i64 r3]) ∧ Kd.R (Kd.int .u8) 5 w' w.heap.size (fun _ => True) v0_ r1 ∧ Below w.heap.size w w' := by
 have HR0 := Aside0.mk hr0
 have HC0 := Aside0.mk hc0
 clear hr0 hc0
 have HB := Aside0.mk (Below.refl w.heap.size w)
 have H : (if (l0.length : Int) > 16777216 then (some (([] : List Int), 0, 130)) else ((some (([(l0.length : Int)] : List Int) : List Int)).bind fun y328 => ((sapperref13_Array.f k l0).bind fun t331 => (if y328.length + t331.length < 17592186044416 then ((some (y328 ++ t331 : List Int)).bind fun y334 => (sapperref13_Turn.l0 k l0 ([] : List Int) 0 y334 (y334.length : Int) 0)) else (none))))) = some (r1, r2, r3) := h
 clear h
 by_cases c2 : (l0.length : Int) > 16777216
 ·rw [if_pos c2] at H
  have c2b0 : decide (16777216 < (l0.length : Int)) = true := decide_eq_true c2
  have c2b1 : decide (16777216 < l0.length) = true := decide_eq_true (by omega)
  clear c2
  simp only [Option.some.injEq, Prod.mk.injEq] at H
  obtain ⟨rfl, rfl, rfl⟩ := H
  go_enter Try.func34, Try.ntmps34
  go_wp2
  go_ret3
  exact ⟨_, by first | rfl | (simp [errW_none, errW_some] <;> rfl) | (simp [*, errW_none, errW_some] <;> rfl), by first | exact Kd.R_nil _ _ _ _ _ | exact Kd.N_nil _ _ _ _ _ | exact Kd.V_nil _ _ _ _ _ | exact Kd.Q_nil _ _ _ _ _ | exact Kd.S_nil _ _ _ _ _, by repeat first|(with_reducible first|exact HB.out|apply Qg|apply Qh|apply Qi)|exact HB.out⟩
 ·rw [if_neg c2] at H
  have c2b0 : decide (16777216 < (l0.length : Int)) = false := decide_eq_false c2
  have c2b1 : decide (16777216 < l0.length) = false := decide_eq_false (by omega)
  clear c2
  obtain ⟨y328, hy328⟩ : ∃ y_ : List Int, y_ = (([(l0.length : Int)] : List Int)) := ⟨_, rfl⟩
  replace H : ((sapperref13_Array.f k l0).bind fun t331 => (if y328.length + t331.length < 17592186044416 then ((some (y328 ++ t331 : List Int)).bind fun y334 => (sapperref13_Turn.l0 k l0 ([] : List Int) 0 y334 (y334.length : Int) 0)) else (none))) = some (r1, r2, r3) := by first | (rw [hy328]; with_reducible exact H) | (have H2_ := (Option.bind_some _ _).symm.trans H; rw [hy328]; with_reducible exact H2_) | (have H2_ := (Option.bind_some _ _).symm.trans H; with_reducible exact H2_) | with_reducible exact H | (rw [hy328]; exact H) | exact H
  have Ny328 := Aside0.mk hy328
  clear hy328
  replace H := Option.bind_eq_some_iff.mp H
  obtain ⟨t331, A30, H⟩ := H
  replace H : (if y328.length + t331.length < 17592186044416 then ((some (y328 ++ t331 : List Int)).bind fun y334 => (sapperref13_Turn.l0 k l0 ([] : List Int) 0 y334 (y334.length : Int) 0)) else (none)) = some (r1, r2, r3) := H
  have A3 := Aside0.mk A30
  clear A30
  by_cases c4 : y328.length + t331.length < 17592186044416
  ·rw [if_pos c4] at H
   have LMc4 := Aside0.mk c4
   clear c4
   obtain ⟨y334, hy334⟩ : ∃ y_ : List Int, y_ = (y328 ++ t331) := ⟨_, rfl⟩
   replace H : (sapperref13_Turn.l0 k l0 ([] : List Int) 0 y334 (y334.length : Int) 0) = some (r1, r2, r3) := by first | (rw [hy334]; with_reducible exact H) | (have H2_ := (Option.bind_some _ _).symm.trans H; rw [hy334]; with_reducible exact H2_) | (have H2_ := (Option.bind_some _ _).symm.trans H; with_reducible exact H2_) | with_reducible exact H | (rw [hy334]; exact H) | exact H
   have Ny334 := Aside0.mk hy334
   clear hy334
   have H' := Aside0.mk H
   clear H
   go_enter Try.func34, Try.ntmps34
   go_wp2_with (first | ((with_reducible refine gate_dst (N := 15) rfl ?_); refine Kd.R_lit (Kd.int .i64) _ 3 ?hg (N := 15) ?hd (xs := ([(l0.length : Int)] : List Int)) (inner := [.int .i64 (l0.length : Int)]) (ok := fun _ => True) (okp := fun _ => True) ?hr ?hp (fun _ hk => hk) trivial (Below.refl _ _) (Nat.le_refl _) (by simp) ?_; (case hd => rfl); (case hg => rfl); (case hr => first | (go_simp; done) | (go_simp; rfl)); (case hp => exact (Reps.one (show Kd.M (Kd.int .i64) _ _ _ (l0.length : Int) [.int .i64 (l0.length : Int)] from rfl) (Reps.none _ _))); intro v329 w5 ho6 hb hg_ hnew_; clear hg_ hnew_; (first | rw [← Ny328.out] at ho6 | (simp only [Int.reduceToNat] at ho6; rw [← Ny328.out] at ho6)); have n0_ := Aside0.mk (Kd.R_lower ho6 (below_size (by repeat first|(with_reducible first|exact HB.out|apply Qg|apply Qh|apply Qi)|exact HB.out))); have n1_ := Aside0.mk (below_step (by repeat first|(with_reducible first|exact HB.out|apply Qg|apply Qh|apply Qi)|exact HB.out) hb); clear HB; have HO330 := n0_; have HB := n1_; clear n0_ n1_; clear hb ho6) | ((with_reducible refine gate_callee (f := 28) rfl ?_); refine goesL_ (some 17) rfl rfl Try.func28 (by kernel_rfl) rfl #[.slice A0 l0.length c0] rfl (by (try simp only [List.map_toArray, List.map_cons, List.map_nil]); first | done | rfl | (simp only [List.length_drop, List.length_take]; rfl)) ?_; (with_reducible refine (sapperref13_Array.calls k _ _ l0 t331 _ ?side1 ?side2 A3.out).mono ?_); (case side1 => repeat (first | exact (Kd.C_below HR0.out HB.out) | (with_reducible first|refine Qd ?_ _|refine Qe ?_ _|refine Qf ?_))); (case side2 => exact HC0.out); rintro e w7 ⟨v332, rfl, ho0, hb⟩; refine ⟨_, rfl, ?_⟩; have n0_ := Aside0.mk (Kd.R_elder' (by (with_reducible repeat first|apply Qa|apply Qb|apply Qc); exact HO330.out) (Kd.R_base ho0) hb); have n1_ := Aside0.mk (Kd.R_lower (Kd.R_new' ho0 (Kd.R_lt (by (with_reducible repeat first|apply Qa|apply Qb|apply Qc); exact HO330.out))) (below_size (by repeat first|(with_reducible first|exact HB.out|apply Qg|apply Qh|apply Qi)|exact HB.out))); have n2_ := Aside0.mk (below_step (by repeat first|(with_reducible first|exact HB.out|apply Qg|apply Qh|apply Qi)|exact HB.out) hb); clear HO330; clear HB; have HO330 := n0_; have HO333 := n1_; have HB := n2_; clear n0_ n1_ n2_; (try clear hb); (try clear hb2); (try clear hk); (try clear hi); (try clear ho0); obtain ⟨Ao9, co9, eo9⟩ := Kd.R_slice HO333.out; subst eo9) | ((with_reducible refine gate_builtin (b := .append) (xs := #[.tmp 15, .tmp 17]) rfl ?_); at_builtin; refine Kd.R_append_rows (Kd.int .i64) (w0 := w) w.heap.size rfl (.tmp 15) (.tmp 17) 34 3 (.int .i64 0) 8 rfl Try.underlying34 info3 rfl (by decide) (by omega) v329 y328 t331 _ _ _ (fun k_ => some k_ ≠ (.slice Ao9 t331.length co9 : Value).ownBlock) (fun _ => False) rfl rfl ?aO ?aR (fun _ _ h => h) (fun _ h => h.elim) ?aF ?aB ?aS ?aL ?_; (case aR => repeat (first | exact (Kd.R_reads' HO333.out).2.2 | (with_reducible first|refine Qd ?_ _|refine Qe ?_ _|refine Qf ?_))); (case aB => exact (by repeat first|(with_reducible first|exact HB.out|apply Qg|apply Qh|apply Qi)|exact HB.out)); (case aF => exact (fun k_ hk => Kd.fresh' (Kd.R_lt (by (with_reducible repeat first|apply Qa|apply Qb|apply Qc); exact HO333.out)) k_ hk)); (case aO => exact (by (with_reducible repeat first|apply Qa|apply Qb|apply Qc); exact Kd.R_mono HO330.out (fun _ hk => hk.2))); (case aS => exact (below_size (by repeat first|(with_reducible first|exact HB.out|apply Qg|apply Qh|apply Qi)|exact HB.out))); (case aL => have := LMc4.out; omega); intro v335 w8 ho hb hg hat; rw [← Ny334.out] at ho; have n0_ := Aside0.mk (Kd.R_after (ok := (fun _ => True)) (by (with_reducible repeat first|apply Qa|apply Qb|apply Qc); exact HO333.out) hg hat); have n1_ := Aside0.mk (hb); have n2_ := Aside0.mk (ho); clear HO333; clear HB; clear HO330; have HO333 := n0_; have HB := n1_; have HO336 := n2_; clear n0_ n1_ n2_; clear ho hb hg hat; obtain ⟨Ao10, co10, eo10⟩ := Kd.R_slice HO336.out; subst eo10))
   go_loopg [6, 7, 21] k (fun kq v6 v7 v21 w' => ∃ (x6_1 : List Int) (x7_1 : Int) (x21_1 : Int), v7 = .int .i64 x7_1 ∧ v21 = .int .i64 x21_1 ∧ Aside0 (sapperref13_Turn.l0 kq l0 x6_1 x7_1 y334 (y334.length : Int) x21_1 = some (r1, r2, r3)) ∧ Aside0 (kq ≤ k) ∧ Aside0 (Kd.R (Kd.int .u8) 5 w' w.heap.size (fun _ => True) v6 x6_1) ∧ Aside0 (Kd.R (Kd.int .i64) 3 w' w.heap.size (fun _ => True) (.slice Ao10 y334.length co10) y334) ∧ Aside0 (Below w.heap.size w w'))
   case atStart => exact ⟨(([] : List Int)), (0), (0), (by first | rfl | (simp; done) | (simp [*]; done)), (by first | rfl | (simp; done) | (simp [*]; done)), H', ⟨Nat.le_refl _⟩, ⟨by first | exact Kd.R_nil _ _ _ _ _ | exact Kd.N_nil _ _ _ _ _ | exact Kd.V_nil _ _ _ _ _ | exact Kd.Q_nil _ _ _ _ _ | exact Kd.S_nil _ _ _ _ _⟩, ⟨by (with_reducible repeat first|apply Qa|apply Qb|apply Qc); exact Kd.R_mono HO336.out (fun _ hk => trivial)⟩, ⟨by repeat first|(with_reducible first|exact HB.out|apply Qg|apply Qh|apply Qi)|exact HB.out⟩⟩
   case round =>
    clear H'
    try clear c2
    try clear c2b0
    try clear c2b1
    try clear p2
    try clear c3
    try clear c4
    obtain ⟨x6_1, x7_1, x21_1, rfl, rfl, HA, HK1, HO_6, HO_18, HB⟩ := hrel
    cases gk with
    | zero => exact absurd HA.out (by simp [sapperref13_Turn.l0])
    | succ k1 =>
     have H := HA.out
     clear HA
     simp only [sapperref13_Turn.l0] at H
     by_cases c11 : x21_1 < (y334.length : Int)
     ·rw [if_pos c11] at H
      have c11b0 : decide (x21_1 < (y334.length : Int)) = true := decide_eq_true c11
      clear c11
      by_cases c12 : 0 ≤ x21_1
      ·rw [if_pos c12] at H
       have c12b0 : decide (0 ≤ x21_1) = true := decide_eq_true c12
       clear c12
       by_cases c13 : x21_1 < (y334.length : Int)
       ·rw [if_pos c13] at H
        have c13b0 : decide (x21_1 < (y334.length : Int)) = true := decide_eq_true c13
        clear c13
        by_cases c14 : (rd y334 x21_1) = 0
        ·rw [if_pos c14] at H
         have c14b0 : ((rd y334 x21_1) == 0) = true := beq_iff_eq.mpr c14
         have c14b1 : ((rd y334 x21_1) != 0) = false := bne_eq_false_iff_eq.mpr c14
         clear c14
         have H' := Aside0.mk H
         clear H
         have p337 : 0 ≤ (x21_1 : Int) := Qt
         have q337 : x21_1 < (y334.length : Int) := Qt
         obtain ⟨ad337, e337, hx337_0⟩ := Kd.at_int (Kd.R_reads' HO_18.out).2.2 x21_1 p337 q337
         cases e337
         replace p337 := eq_true p337
         replace q337 := eq_true q337
         go_wp2
         go_roundg k1
         case measure => have := HK1.out; omega
         case rel => exact ⟨(x6_1), (x21_1), (wrap64 (x21_1 + 1)), (by first | rfl | (simp; done) | (simp [*]; done)), (by first | rfl | (simp; done) | (simp [*]; done)), H', ⟨by have := HK1.out; omega⟩, ⟨by (with_reducible repeat first|apply Qa|apply Qb|apply Qc); exact HO_6.out⟩, ⟨by (with_reducible repeat first|apply Qa|apply Qb|apply Qc); exact HO_18.out⟩, ⟨by repeat first|(with_reducible first|exact HB.out|apply Qg|apply Qh|apply Qi)|exact HB.out⟩⟩
        ·rw [if_neg c14] at H
         have c14b0 : ((rd y334 x21_1) == 0) = false := beq_eq_false_iff_ne.mpr c14
         have c14b1 : ((rd y334 x21_1) != 0) = true := bne_iff_ne.mpr c14
         obtain ⟨ji15, hji15⟩ : ∃ j_ : Int, (wrap64 ((rd y334 x21_1) - 1)) = j_ := ⟨_, rfl⟩
         replace H : (if 0 ≤ (ji15) then (if (ji15) < (l0.length : Int) then (if x6_1.length < 140737488355328 then (sapperref13_Turn.l0 k1 l0 (x6_1 ++ [rd l0 (ji15)]) x7_1 y334 (y334.length : Int) (wrap64 (x21_1 + 1))) else (none)) else (none)) else (none)) = some (r1, r2, r3) := by first | (rw [hji15] at H; exact H) | (simp only [hji15] at H ⊢; exact H)
         have hji15w : (IntKind.i64.wrap ((rd y334 x21_1) - 1)) = ji15 := (i64_w _).trans hji15
         by_cases c16 : 0 ≤ (ji15)
         ·rw [if_pos c16] at H
          have c16b0 : decide (0 ≤ (ji15)) = true := decide_eq_true c16
          clear c16
          by_cases c17 : (ji15) < (l0.length : Int)
          ·rw [if_pos c17] at H
           have c17b0 : decide ((ji15) < (l0.length : Int)) = true := decide_eq_true c17
           clear c17
           by_cases c18 : x6_1.length < 140737488355328
           ·rw [if_pos c18] at H
            have LMc18 := Aside0.mk c18
            clear c18
            obtain ⟨y339, hy339⟩ : ∃ y_ : List Int, y_ = (x6_1 ++ [rd l0 (ji15)]) := ⟨_, rfl⟩
            replace H : (sapperref13_Turn.l0 k1 l0 y339 x7_1 y334 (y334.length : Int) (wrap64 (x21_1 + 1))) = some (r1, r2, r3) := by first | (rw [hy339]; with_reducible exact H) | (have H2_ := (Option.bind_some _ _).symm.trans H; rw [hy339]; with_reducible exact H2_) | (have H2_ := (Option.bind_some _ _).symm.trans H; with_reducible exact H2_) | with_reducible exact H | (rw [hy339]; exact H) | exact H
            have Ny339 := Aside0.mk hy339
            clear hy339
            have H' := Aside0.mk H
            clear H
            have p337 : 0 ≤ (x21_1 : Int) := Qt
            have q337 : x21_1 < (y334.length : Int) := Qt
            obtain ⟨ad337, e337, hx337_0⟩ := Kd.at_int (Kd.R_reads' HO_18.out).2.2 x21_1 p337 q337
            cases e337
            replace p337 := eq_true p337
            replace q337 := eq_true q337
            have p338 : 0 ≤ ((ji15) : Int) := Qt
            have q338 : (ji15) < (l0.length : Int) := Qt
            obtain ⟨ad338, e338, hx338_0⟩ := Kd.at_int HR0.out (ji15) p338 q338
            cases e338
            replace hx338_0 := (HB.out.cell (World.block_lt_of_cell? w _ hx338_0)).trans hx338_0
            replace p338 := eq_true p338
            replace q338 := eq_true q338
            go_wp2_with (first | ((with_reducible refine gate_builtin (b := .append) (xs := #[.tmp 29, .tmp 35]) rfl ?_); at_builtin; refine Kd.R_append (Kd.int .u8) (w0 := w) w.heap.size rfl (.tmp 29) (.tmp 35) 23 5 (.int .u8 0) 1 rfl Try.underlying23 info5 rfl (by decide) (by omega) u6 x6_1 (rd l0 (ji15)) [.int .u8 (rd l0 (ji15))] (fun _ => True) (fun _ => False) rfl rfl ?aP (fun _ hk => hk.elim) ?aF ?aO ?aB ?aS ?aL ?_; (case aP => exact rfl); (case aB => exact (by repeat first|(with_reducible first|exact HB.out|apply Qg|apply Qh|apply Qi)|exact HB.out)); (case aF => exact (fun _ _ => trivial)); (case aO => exact (by (with_reducible repeat first|apply Qa|apply Qb|apply Qc); exact HO_6.out)); (case aS => exact (below_size (by repeat first|(with_reducible first|exact HB.out|apply Qg|apply Qh|apply Qi)|exact HB.out))); (case aL => have := LMc18.out; omega); intro v340 w19 ho hb hg hat; rw [← Ny339.out] at ho; have n0_ := Aside0.mk (Kd.R_over' (by (with_reducible repeat first|apply Qa|apply Qb|apply Qc); exact HO_18.out) (Kd.R_typed (by (with_reducible repeat first|apply Qa|apply Qb|apply Qc); exact HO_6.out)) (by decide) hg); have n1_ := Aside0.mk (hb); have n2_ := Aside0.mk (ho); clear HO_18; clear HB; clear HO_6; have HO_18 := n0_; have HB := n1_; have HO341 := n2_; clear n0_ n1_ n2_; clear ho hb hg hat))
            go_roundg k1
            case measure => have := HK1.out; omega
            case rel => exact ⟨(y339), (x7_1), (wrap64 (x21_1 + 1)), (by first | rfl | (simp; done) | (simp [*]; done)), (by first | rfl | (simp; done) | (simp [*]; done)), H', ⟨by have := HK1.out; omega⟩, ⟨by (with_reducible repeat first|apply Qa|apply Qb|apply Qc); exact HO341.out⟩, ⟨by (with_reducible repeat first|apply Qa|apply Qb|apply Qc); exact HO_18.out⟩, ⟨by repeat first|(with_reducible first|exact HB.out|apply Qg|apply Qh|apply Qi)|exact HB.out⟩⟩
           ·rw [if_neg c18] at H
            exact absurd H (by simp)
          ·rw [if_neg c17] at H
           exact absurd H (by simp)
         ·rw [if_neg c16] at H
          exact absurd H (by simp)
       ·rw [if_neg c13] at H
        exact absurd H (by simp)
      ·rw [if_neg c12] at H
       exact absurd H (by simp)
     ·rw [if_neg c11] at H
      have c11b0 : decide (x21_1 < (y334.length : Int)) = false := decide_eq_false c11
      clear c11
      simp only [Option.some.injEq, Prod.mk.injEq] at H
      obtain ⟨rfl, rfl, rfl⟩ := H
      go_wp2
      go_ret3
      exact ⟨_, by first | rfl | (simp [errW_none, errW_some] <;> rfl) | (simp [*, errW_none, errW_some] <;> rfl), by (with_reducible repeat first|apply Qa|apply Qb|apply Qc); exact HO_6.out, by repeat first|(with_reducible first|exact HB.out|apply Qg|apply Qh|apply Qi)|exact HB.out⟩
  ·rw [if_neg c4] at H
   exact absurd H (by simp)

end Go.Proofs.Ythcnnfahlhklgaa.X
