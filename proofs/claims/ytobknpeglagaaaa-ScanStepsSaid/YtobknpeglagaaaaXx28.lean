-- Printed by wip/xprint.py of this repo (a wrapper of the session's own round the print).
import Derived.Test.YtobknpeglagaaaaXY
import Derived.Test.YtobknpeglagaaaaXx17
import Derived.Test.YtobknpeglagaaaaXx20
import Derived.Test.YtobknpeglagaaaaXx21
import Derived.Test.YtobknpeglagaaaaXx23
import Derived.Test.YtobknpeglagaaaaXx27
namespace Go.Proofs.Ytobknpeglagaaaa.X
open Go.RowKit Go.Proofs.YtobknpeglagaaaaW.PrintWords Go.Proofs.YtobknpeglagaaaaW.PrintLast Go.Proofs.YtobknpeglagaaaaW.PrintMore
attribute [local go_sem] ptrOf_eql ptrOf_neq ptrOf_eqg ptrOf_neg str_leq str_geq str_gtr max2_int min2_int max_two min_two max_three min_three max_four min_four   -- for this text's walks alone
set_option linter.unusedVariables false
set_option linter.unusedSimpArgs false

/-! ### find_Longest: function 42 -/
def find_Longest.l0 : Nat → List (S48) → Int → Int → Int → Int → Option (Int × Int × Int)
 | 0, _, _, _, _, _ => none
 | k + 1, x0, x7, x9, x10, x11 => if x11 < x9 then ((suffix_Index_At.f k x0 x11).bind fun bt304 => (find_Longest.l0 k x0 x7 x9 (mn x10 bt304.1) (wrap64 (x11 + 1)))) else (some (x10, x7, 0))
def find_Longest.f (k : Nat) (l0 : List (S48)) (l1 : List Int) : Option (Int × Int × Int) := (find_made.f k l0).bind fun t298 => (if t298 = true then ((find_most.f k l0 l1).bind fun t299 => (if t299 = 0 then (some (0, 0, 0)) else (if 0 ≤ t299 then (if t299 ≤ (l1.length : Int) then ((find_bounds.f k l0 (l1.take (t299 : Int).toNat)).bind fun bt301 => ((suffix_Index_Len.f l0).bind fun t303 => (find_Longest.l0 k l0 t299 bt301.2 t303 bt301.1))) else (none)) else (none)))) else (some (0, 0, 2)))
theorem find_Longest.mono_l : ∀ k, (∀ y0 y1 y2 y3 y4, LeO (find_Longest.l0 k y0 y1 y2 y3 y4) (find_Longest.l0 (k + 1) y0 y1 y2 y3 y4))
 | 0 => fun _ _ _ _ _ r h => by simp [find_Longest.l0] at h
 | k + 1 => by
  have ih0 := find_Longest.mono_l k
  ·intro y0 y1 y2 y3 y4
   unfold find_Longest.l0
   repeat' first
   | (with_reducible exact ih0 _ _ _ _ _)
   | (with_reducible exact find_bounds.mono _ _ _)
   | (with_reducible exact find_made.mono _ _)
   | (with_reducible exact find_most.mono _ _ _)
   | (with_reducible exact suffix_Index_At.mono _ _ _)
   | (with_reducible exact LeO.refl _)
   | (with_reducible exact LeO.none _)
   | (with_reducible refine LeO.ite ?_ ?_)
   | (with_reducible refine LeO.bind ?_ (fun _ => ?_))
   | exact ih0 _ _ _ _ _
   | exact find_bounds.mono _ _ _
   | exact find_made.mono _ _
   | exact find_most.mono _ _ _
   | exact suffix_Index_At.mono _ _ _
   | exact LeO.none _
   | refine LeO.ite ?_ ?_
   | refine LeO.bind ?_ (fun _ => ?_)
theorem find_Longest.mono : ∀ a0 a1 k, LeO (find_Longest.f k a0 a1) (find_Longest.f (k + 1) a0 a1) := by
 intro a0 a1 k
 have ih0 := find_Longest.mono_l k
 unfold find_Longest.f
 repeat' first
   | (with_reducible exact ih0 _ _ _ _ _)
   | (with_reducible exact find_bounds.mono _ _ _)
   | (with_reducible exact find_made.mono _ _)
   | (with_reducible exact find_most.mono _ _ _)
   | (with_reducible exact suffix_Index_At.mono _ _ _)
   | (with_reducible exact LeO.refl _)
   | (with_reducible exact LeO.none _)
   | (with_reducible refine LeO.ite ?_ ?_)
   | (with_reducible refine LeO.bind ?_ (fun _ => ?_))
   | exact ih0 _ _ _ _ _
   | exact find_bounds.mono _ _ _
   | exact find_made.mono _ _
   | exact find_most.mono _ _ _
   | exact suffix_Index_At.mono _ _ _
   | exact LeO.none _
   | refine LeO.ite ?_ ?_
   | refine LeO.bind ?_ (fun _ => ?_)
set_option maxHeartbeats 8000000 in
set_option maxRecDepth 100000 in
theorem find_Longest.calls (k : Nat) (A0 : Option Addr) (c0 : Nat) (l0 : List (S48)) (A1 : Option Addr) (c1 : Nat) (l1 : List Int) (r1 : Int) (r2 : Int) (r3 : Int) (w : World) (hr0 : Kd.C k48 w A0 l0.length l0) (hc0 : l0.length ≤ c0) (hr1 : Kd.C (Kd.int .u8) w A1 l1.length l1) (hc1 : l1.length ≤ c1) (h : find_Longest.f k l0 l1 = some (r1, r2, r3)) :
  Calls Try.prog 42 #[ptrOf (.slice A0 l0.length c0), .slice A1 l1.length c1] w fun e w' => e = .returned (.tuple #[.int .i64 r1, .int .i64 r2, .int .i64 r3]) ∧ Below w.heap.size w w' := by
 have HR0 := Aside0.mk hr0; have HC0 := Aside0.mk hc0; clear hr0 hc0; have HR1 := Aside0.mk hr1; have HC1 := Aside0.mk hc1; clear hr1 hc1; have HB := Aside0.mk (Below.refl w.heap.size w); have H : ((find_made.f k l0).bind fun t298 => (if t298 = true then ((find_most.f k l0 l1).bind fun t299 => (if t299 = 0 then (some (0, 0, 0)) else (if 0 ≤ t299 then (if t299 ≤ (l1.length : Int) then ((find_bounds.f k l0 (l1.take (t299 : Int).toNat)).bind fun bt301 => ((suffix_Index_Len.f l0).bind fun t303 => (find_Longest.l0 k l0 t299 bt301.2 t303 bt301.1))) else (none)) else (none)))) else (some (0, 0, 2)))) = some (r1, r2, r3) := h; clear h; replace H := Option.bind_eq_some_iff.mp H; obtain ⟨t298, A30, H⟩ := H; replace H : (if t298 = true then ((find_most.f k l0 l1).bind fun t299 => (if t299 = 0 then (some (0, 0, 0)) else (if 0 ≤ t299 then (if t299 ≤ (l1.length : Int) then ((find_bounds.f k l0 (l1.take (t299 : Int).toNat)).bind fun bt301 => ((suffix_Index_Len.f l0).bind fun t303 => (find_Longest.l0 k l0 t299 bt301.2 t303 bt301.1))) else (none)) else (none)))) else (some (0, 0, 2))) = some (r1, r2, r3) := H; have A3 := Aside0.mk A30; clear A30
 by_cases c4 : t298 = true
 ·subst c4
  have H1 : ((find_most.f k l0 l1).bind fun t299 => (if t299 = 0 then (some (0, 0, 0)) else (if 0 ≤ t299 then (if t299 ≤ (l1.length : Int) then ((find_bounds.f k l0 (l1.take (t299 : Int).toNat)).bind fun bt301 => ((suffix_Index_Len.f l0).bind fun t303 => (find_Longest.l0 k l0 t299 bt301.2 t303 bt301.1))) else (none)) else (none)))) = some (r1, r2, r3) := by rw [if_pos rfl] at H; exact H
  clear H; have H := H1; clear H1; replace H := Option.bind_eq_some_iff.mp H; obtain ⟨t299, A50, H⟩ := H; replace H : (if t299 = 0 then (some (0, 0, 0)) else (if 0 ≤ t299 then (if t299 ≤ (l1.length : Int) then ((find_bounds.f k l0 (l1.take (t299 : Int).toNat)).bind fun bt301 => ((suffix_Index_Len.f l0).bind fun t303 => (find_Longest.l0 k l0 t299 bt301.2 t303 bt301.1))) else (none)) else (none))) = some (r1, r2, r3) := H; have A5 := Aside0.mk A50; clear A50
  by_cases c6 : t299 = 0
  ·rw [if_pos c6] at H
   have c6b0 : (t299 == 0) = true := beq_iff_eq.mpr c6; have c6b1 : (t299 != 0) = false := bne_eq_false_iff_eq.mpr c6; clear c6; simp only [Option.some.injEq, Prod.mk.injEq] at H; obtain ⟨rfl, rfl, rfl⟩ := H
   go_enter Try.func42, Try.ntmps42
   go_wp2_with (first | ((with_reducible refine gate_callee (f := 40) rfl ?_); refine goesL_ (some 15) rfl rfl Try.func40 (by kernel_rfl) rfl #[ptrOf (.slice A0 l0.length c0)] rfl (by (try simp only [List.map_toArray, List.map_cons, List.map_nil]); first | done | rfl | (simp only [List.length_drop, List.length_take]; rfl)) ?_; (with_reducible refine (find_made.calls k _ _ l0 true _ ?side1 ?side2 A3.out).mono ?_); (case side1 => repeat (first | exact HR0.out | (with_reducible first|refine Qd ?_ _|refine Qe ?_ _|refine Qf ?_))); (case side2 => exact HC0.out); rintro e w7 ⟨rfl, hb⟩; refine ⟨_, rfl, ?_⟩; have n0_ := Aside0.mk (below_step (by repeat first|(with_reducible first|exact HB.out|apply Qg|apply Qh|apply Qi)|exact HB.out) hb); clear HB; have HB := n0_; clear n0_; (try clear hb); (try clear hb2); (try clear hk); (try clear hi)) | ((with_reducible refine gate_callee (f := 51) rfl ?_); refine goesL_ (some 19) rfl rfl Try.func51 (by kernel_rfl) rfl #[ptrOf (.slice A0 l0.length c0), .slice A1 l1.length c1] rfl (by (try simp only [List.map_toArray, List.map_cons, List.map_nil]); first | done | rfl | (simp only [List.length_drop, List.length_take]; rfl)) ?_; (with_reducible refine (find_most.calls k _ _ l0 _ _ l1 t299 _ ?side1 ?side2 ?side3 ?side4 A5.out).mono ?_); (case side1 => repeat (first | exact (Kd.C_below HR0.out HB.out) | (with_reducible first|refine Qd ?_ _|refine Qe ?_ _|refine Qf ?_))); (case side2 => exact HC0.out); (case side3 => repeat (first | exact (Kd.C_below HR1.out HB.out) | (with_reducible first|refine Qd ?_ _|refine Qe ?_ _|refine Qf ?_))); (case side4 => exact HC1.out); rintro e w8 ⟨rfl, hb⟩; refine ⟨_, rfl, ?_⟩; have n0_ := Aside0.mk (below_step (by repeat first|(with_reducible first|exact HB.out|apply Qg|apply Qh|apply Qi)|exact HB.out) hb); clear HB; have HB := n0_; clear n0_; (try clear hb); (try clear hb2); (try clear hk); (try clear hi)))
   go_ret3
   exact ⟨by first | rfl | (simp [errW_none, errW_some] <;> rfl) | (simp [*, errW_none, errW_some] <;> rfl), by repeat first|(with_reducible first|exact HB.out|apply Qg|apply Qh|apply Qi)|exact HB.out⟩
  ·rw [if_neg c6] at H
   have c6b0 : (t299 == 0) = false := beq_eq_false_iff_ne.mpr c6; have c6b1 : (t299 != 0) = true := bne_iff_ne.mpr c6
   by_cases c9 : 0 ≤ t299
   ·rw [if_pos c9] at H
    have c9b0 := eq_true c9; have c9b1 : decide (0 ≤ t299) = true := decide_eq_true c9; clear c9
    by_cases c10 : t299 ≤ (l1.length : Int)
    ·rw [if_pos c10] at H
     have c10b0 := eq_true c10; have c10b1 : decide (t299 ≤ (l1.length : Int)) = true := decide_eq_true c10; clear c10; replace H := Option.bind_eq_some_iff.mp H; obtain ⟨⟨t301, t302⟩, A110, H⟩ := H; replace H : ((suffix_Index_Len.f l0).bind fun t303 => (find_Longest.l0 k l0 t299 t302 t303 t301)) = some (r1, r2, r3) := H; have A11 := Aside0.mk A110; clear A110; replace H := Option.bind_eq_some_iff.mp H; obtain ⟨t303, A120, H⟩ := H; replace H : (find_Longest.l0 k l0 t299 t302 t303 t301) = some (r1, r2, r3) := H; have A12 := Aside0.mk A120; clear A120; have H' := Aside0.mk H; clear H
     go_enter Try.func42, Try.ntmps42
     go_wp2_with (first | ((with_reducible refine gate_callee (f := 40) rfl ?_); refine goesL_ (some 15) rfl rfl Try.func40 (by kernel_rfl) rfl #[ptrOf (.slice A0 l0.length c0)] rfl (by (try simp only [List.map_toArray, List.map_cons, List.map_nil]); first | done | rfl | (simp only [List.length_drop, List.length_take]; rfl)) ?_; (with_reducible refine (find_made.calls k _ _ l0 true _ ?side1 ?side2 A3.out).mono ?_); (case side1 => repeat (first | exact HR0.out | (with_reducible first|refine Qd ?_ _|refine Qe ?_ _|refine Qf ?_))); (case side2 => exact HC0.out); rintro e w13 ⟨rfl, hb⟩; refine ⟨_, rfl, ?_⟩; have n0_ := Aside0.mk (below_step (by repeat first|(with_reducible first|exact HB.out|apply Qg|apply Qh|apply Qi)|exact HB.out) hb); clear HB; have HB := n0_; clear n0_; (try clear hb); (try clear hb2); (try clear hk); (try clear hi)) | ((with_reducible refine gate_callee (f := 51) rfl ?_); refine goesL_ (some 19) rfl rfl Try.func51 (by kernel_rfl) rfl #[ptrOf (.slice A0 l0.length c0), .slice A1 l1.length c1] rfl (by (try simp only [List.map_toArray, List.map_cons, List.map_nil]); first | done | rfl | (simp only [List.length_drop, List.length_take]; rfl)) ?_; (with_reducible refine (find_most.calls k _ _ l0 _ _ l1 t299 _ ?side1 ?side2 ?side3 ?side4 A5.out).mono ?_); (case side1 => repeat (first | exact (Kd.C_below HR0.out HB.out) | (with_reducible first|refine Qd ?_ _|refine Qe ?_ _|refine Qf ?_))); (case side2 => exact HC0.out); (case side3 => repeat (first | exact (Kd.C_below HR1.out HB.out) | (with_reducible first|refine Qd ?_ _|refine Qe ?_ _|refine Qf ?_))); (case side4 => exact HC1.out); rintro e w14 ⟨rfl, hb⟩; refine ⟨_, rfl, ?_⟩; have n0_ := Aside0.mk (below_step (by repeat first|(with_reducible first|exact HB.out|apply Qg|apply Qh|apply Qi)|exact HB.out) hb); clear HB; have HB := n0_; clear n0_; (try clear hb); (try clear hb2); (try clear hk); (try clear hi); obtain ⟨i015, hi015, _, hsz15, _⟩ := info_parts info5; obtain ⟨hcut15, hA15, hC15⟩ := print_take_of (P := Try.prog) (Value.int .u8) 0 23 5 .i64 Try.underlying23 hi015 hsz15 A1 c1 l1 t299 (Qt) (Qt) HC1.out; have HR300 := Aside0.mk (Kd.C_of_reads (h1 := fun _ => rfl) (hA15 _ (Kd.reads_of_C HR1.out))); have HC300 := Aside0.mk hC15; clear hA15 hC15 hi015 hsz15) | ((with_reducible refine gate_callee (f := 41) rfl ?_); refine goesL_ (some 27) rfl rfl Try.func41 (by kernel_rfl) rfl #[ptrOf (.slice A0 l0.length c0), .slice A1 (l1.take (t299 : Int).toNat).length c1] rfl (by (try simp only [List.map_toArray, List.map_cons, List.map_nil]); first | done | (rw [show (l1.take (t299 : Int).toNat).length = t299.toNat from (by rw [List.length_take]; have h_ : (t299 : Int) ≤ (l1.length : Int) := Qt; omega)] <;> rfl) | rfl | (simp only [List.length_drop, List.length_take]; rfl)) ?_; (with_reducible refine (find_bounds.calls k _ _ l0 _ _ (l1.take (t299 : Int).toNat) t301 t302 _ ?side1 ?side2 ?side3 ?side4 A11.out).mono ?_); (case side1 => repeat (first | exact (Kd.C_below HR0.out HB.out) | (with_reducible first|refine Qd ?_ _|refine Qe ?_ _|refine Qf ?_))); (case side2 => exact HC0.out); (case side3 => repeat (first | exact (Kd.C_below HR300.out HB.out) | (with_reducible first|refine Qd ?_ _|refine Qe ?_ _|refine Qf ?_))); (case side4 => exact HC300.out); rintro e w16 ⟨rfl, hb⟩; refine ⟨_, rfl, ?_⟩; have n0_ := Aside0.mk (below_step (by repeat first|(with_reducible first|exact HB.out|apply Qg|apply Qh|apply Qi)|exact HB.out) hb); clear HB; have HB := n0_; clear n0_; (try clear hb); (try clear hb2); (try clear hk); (try clear hi)) | ((with_reducible refine gate_callee (f := 29) rfl ?_); refine goesL_ (some 31) rfl rfl Try.func29 (by kernel_rfl) rfl #[ptrOf (.slice A0 l0.length c0)] rfl (by (try simp only [List.map_toArray, List.map_cons, List.map_nil]); first | done | rfl | (simp only [List.length_drop, List.length_take]; rfl)) ?_; (with_reducible refine (suffix_Index_Len.calls _ _ l0 t303 _ ?side1 ?side2 A12.out).mono ?_); (case side1 => repeat (first | exact (Kd.C_below HR0.out HB.out) | (with_reducible first|refine Qd ?_ _|refine Qe ?_ _|refine Qf ?_))); (case side2 => exact HC0.out); rintro e w' ⟨rfl, ⟨nd, rfl⟩⟩; refine ⟨_, rfl, ?_⟩))
     go_loopg [10, 11] k (fun kq v10 v11 w' => ∃ (x10_1 : Int) (x11_1 : Int), v10 = .int .i64 x10_1 ∧ v11 = .int .i64 x11_1 ∧ Aside0 (find_Longest.l0 kq l0 t299 t302 x10_1 x11_1 = some (r1, r2, r3)) ∧ Aside0 (kq ≤ k) ∧ Aside0 (Below w.heap.size w w'))
     case atStart => exact ⟨(t303), (t301), (by first | rfl | (simp; done) | (simp [*]; done)), (by first | rfl | (simp; done) | (simp [*]; done)), H', ⟨Nat.le_refl _⟩, ⟨by repeat first|(with_reducible first|exact HB.out|apply Qg|apply Qh|apply Qi)|exact HB.out⟩⟩
     case round =>
      clear H'; (try clear c1); (try clear c2); (try clear p2); (try clear c4); (try clear c5); (try clear c6); (try clear c6b0); (try clear c6b1); (try clear c9); (try clear c9b0); (try clear c9b1); (try clear c10); (try clear c10b0); (try clear c10b1); obtain ⟨x10_1, x11_1, rfl, rfl, HA, HK1, HB⟩ := hrel
      cases gk with
      | zero => exact absurd HA.out (by simp [find_Longest.l0])
      | succ k1 =>
       have H := HA.out; clear HA; simp only [find_Longest.l0] at H
       by_cases c17 : x11_1 < t302
       ·rw [if_pos c17] at H
        have c17b0 : decide (x11_1 < t302) = true := decide_eq_true c17; clear c17; replace H := Option.bind_eq_some_iff.mp H; obtain ⟨⟨t304, t305⟩, A180, H⟩ := H; replace H : (find_Longest.l0 k1 l0 t299 t302 (mn x10_1 t304) (wrap64 (x11_1 + 1))) = some (r1, r2, r3) := H; have A18 := Aside0.mk A180; clear A180; obtain ⟨ji19, hji19⟩ : ∃ j_ : Int, (mn x10_1 t304) = j_ := ⟨_, rfl⟩
        replace H : (find_Longest.l0 k1 l0 t299 t302 ji19 (wrap64 (x11_1 + 1))) = some (r1, r2, r3) := by first | (rw [hji19] at H; exact H) | (simp only [hji19] at H ⊢; exact H)
        (try rw [hji19] at A18); have hji19_ : (if t304 < x10_1 then t304 else x10_1) = ji19 := hji19; have H' := Aside0.mk H; clear H
        go_wp2_with (first | ((with_reducible refine gate_callee (f := 46) rfl ?_); refine goesL_ (some 41) rfl rfl Try.func46 (by kernel_rfl) rfl #[ptrOf (.slice A0 l0.length c0), .int .i64 x11_1] rfl (by (try simp only [List.map_toArray, List.map_cons, List.map_nil]); first | done | rfl | (simp only [List.length_drop, List.length_take]; rfl)) ?_; (with_reducible refine (suffix_Index_At.calls k1 _ _ l0 x11_1 t304 t305 _ ?side1 ?side2 A18.out).mono ?_); (case side1 => repeat (first | exact (Kd.C_below HR0.out HB.out) | (with_reducible first|refine Qd ?_ _|refine Qe ?_ _|refine Qf ?_))); (case side2 => exact HC0.out); rintro e w20 ⟨rfl, hb⟩; refine ⟨_, rfl, ?_⟩; have n0_ := Aside0.mk (below_step (by repeat first|(with_reducible first|exact HB.out|apply Qg|apply Qh|apply Qi)|exact HB.out) hb); clear HB; have HB := n0_; clear n0_; (try clear hb); (try clear hb2); (try clear hk); (try clear hi)))
        go_roundg k1
        case measure => have := HK1.out; omega
        case rel => exact ⟨(ji19), (wrap64 (x11_1 + 1)), (by first | rfl | (simp; done) | (simp only [← hji19] <;> (first | rfl | simp)) | (simp [*]; done)), (rfl), H', ⟨by have := HK1.out; omega⟩, ⟨HB.out⟩⟩
       ·rw [if_neg c17] at H
        have c17b0 : decide (x11_1 < t302) = false := decide_eq_false c17; clear c17; simp only [Option.some.injEq, Prod.mk.injEq] at H; obtain ⟨rfl, rfl, rfl⟩ := H
        go_wp2
        go_ret3
        exact ⟨rfl, HB.out⟩
    (· (rw [if_neg c10] at H; exact absurd H (by simp)))
   (· (rw [if_neg c9] at H; exact absurd H (by simp)))
 ·replace c4 := Bool.eq_false_iff.mpr c4
  subst c4
  have H1 : (some (0, 0, 2)) = some (r1, r2, r3) := by rw [if_neg (show ¬ (false = true) by decide)] at H; exact H
  clear H; have H := H1; clear H1; simp only [Option.some.injEq, Prod.mk.injEq] at H; obtain ⟨rfl, rfl, rfl⟩ := H
  go_enter Try.func42, Try.ntmps42
  go_wp2_with (first | ((with_reducible refine gate_callee (f := 40) rfl ?_); refine goesL_ (some 15) rfl rfl Try.func40 (by kernel_rfl) rfl #[ptrOf (.slice A0 l0.length c0)] rfl (by (try simp only [List.map_toArray, List.map_cons, List.map_nil]); first | done | rfl | (simp only [List.length_drop, List.length_take]; rfl)) ?_; (with_reducible refine (find_made.calls k _ _ l0 false _ ?side1 ?side2 A3.out).mono ?_); (case side1 => repeat (first | exact HR0.out | (with_reducible first|refine Qd ?_ _|refine Qe ?_ _|refine Qf ?_))); (case side2 => exact HC0.out); rintro e w21 ⟨rfl, hb⟩; refine ⟨_, rfl, ?_⟩; have n0_ := Aside0.mk (below_step (by repeat first|(with_reducible first|exact HB.out|apply Qg|apply Qh|apply Qi)|exact HB.out) hb); clear HB; have HB := n0_; clear n0_; (try clear hb); (try clear hb2); (try clear hk); (try clear hi)))
  go_ret3
  exact ⟨rfl, HB.out⟩

end Go.Proofs.Ytobknpeglagaaaa.X
