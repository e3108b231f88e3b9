-- Printed by wip/xprint.py of this repo (a wrapper of the session's own round the print).
import Derived.Test.YthcnnfahlhklgaaXx0
import Derived.Test.YthcnnfahlhklgaaXBA
import Derived.Test.YthcnnfahlhklgaaXM
import Derived.Test.YthcnnfahlhklgaaXx19
import Derived.Test.YthcnnfahlhklgaaXx23
import Derived.Test.YthcnnfahlhklgaaXx25
namespace Go.Proofs.Ythcnnfahlhklgaa.X
open Go.RowKit Go.Proofs.YthcnnfahlhklgaaW.PrintWords Go.Proofs.YthcnnfahlhklgaaW.PrintLast Go.Proofs.YthcnnfahlhklgaaW.PrintMore
attribute [local go_sem] ptrOf_eql ptrOf_neq ptrOf_eqg ptrOf_neg str_leq str_geq str_gtr max2_int min2_int max_two min_two max_three min_three max_four min_four   -- for this text's walks alone
set_option linter.unusedVariables false
set_option linter.unusedSimpArgs false

/-! ### sapperlaw13_SuffixShares: function 12 -/
def sapperlaw13_SuffixShares.j0 : Nat → Bool → Option (Bool)
 | 0, _ => none
 | k + 1, x68 => if x68 = true then (some false) else ((suffix_Shared.f k (([98, 97, 110, 97, 110, 97] : List Int)) (([110, 97, 98] : List Int))).bind fun bt344 => (if bt344.1 = 2 then (if bt344.2.1 = 0 then (if bt344.2.2.1 = 2 then (if bt344.2.2.2 = 0 then ((sapperlaw13_lives.f k).bind fun t348 => (some t348)) else (some false)) else (some false)) else (some false)) else (some false)))
def sapperlaw13_SuffixShares.f (k : Nat) (l0 : List Int) (l1 : List Int) : Option (Bool) := (suffix_Shared.f k l0 l1).bind fun bt326 => ((sapperref13_Shared.f k l0 l1).bind fun bt330 => ((suffix_Shared.f k l1 l0).bind fun bt334 => (if bt326.1 = bt330.1 then (if bt326.2.1 = bt330.2.1 then (if bt326.2.2.1 = bt330.2.2.1 then (if bt326.2.2.2 = bt330.2.2.2 then (if bt334.2.2.1 = bt326.2.2.1 then (sapperlaw13_SuffixShares.j0 k (bt334.2.2.2 != bt326.2.2.2)) else (sapperlaw13_SuffixShares.j0 k true)) else (sapperlaw13_SuffixShares.j0 k true)) else (sapperlaw13_SuffixShares.j0 k true)) else (sapperlaw13_SuffixShares.j0 k true)) else (sapperlaw13_SuffixShares.j0 k true))))
theorem sapperlaw13_SuffixShares.mono_l : ∀ k, (∀ y0, LeO (sapperlaw13_SuffixShares.j0 k y0) (sapperlaw13_SuffixShares.j0 (k + 1) y0))
 | 0 => fun _ r h => by simp [sapperlaw13_SuffixShares.j0] at h
 | k + 1 => by
  have ih0 := sapperlaw13_SuffixShares.mono_l k
  ·intro y0
   unfold sapperlaw13_SuffixShares.j0
   repeat' first
   | (with_reducible exact ih0 _)
   | (with_reducible exact sapperlaw13_lives.mono _)
   | (with_reducible exact sapperref13_Shared.mono _ _ _)
   | (with_reducible exact suffix_Shared.mono _ _ _)
   | (with_reducible exact LeO.refl _)
   | (with_reducible exact LeO.none _)
   | (with_reducible refine LeO.ite ?_ ?_)
   | (with_reducible refine LeO.bind ?_ (fun _ => ?_))
   | exact ih0 _
   | exact sapperlaw13_lives.mono _
   | exact sapperref13_Shared.mono _ _ _
   | exact suffix_Shared.mono _ _ _
   | exact LeO.none _
   | refine LeO.ite ?_ ?_
   | refine LeO.bind ?_ (fun _ => ?_)
theorem sapperlaw13_SuffixShares.mono : ∀ a0 a1 k, LeO (sapperlaw13_SuffixShares.f k a0 a1) (sapperlaw13_SuffixShares.f (k + 1) a0 a1) := by
 intro a0 a1 k
 have ih0 := sapperlaw13_SuffixShares.mono_l k
 unfold sapperlaw13_SuffixShares.f
 repeat' first
   | (with_reducible exact ih0 _)
   | (with_reducible exact sapperlaw13_lives.mono _)
   | (with_reducible exact sapperref13_Shared.mono _ _ _)
   | (with_reducible exact suffix_Shared.mono _ _ _)
   | (with_reducible exact LeO.refl _)
   | (with_reducible exact LeO.none _)
   | (with_reducible refine LeO.ite ?_ ?_)
   | (with_reducible refine LeO.bind ?_ (fun _ => ?_))
   | exact ih0 _
   | exact sapperlaw13_lives.mono _
   | exact sapperref13_Shared.mono _ _ _
   | exact suffix_Shared.mono _ _ _
   | exact LeO.none _
   | refine LeO.ite ?_ ?_
   | refine LeO.bind ?_ (fun _ => ?_)
set_option maxHeartbeats 8000000 in
set_option maxRecDepth 100000 in
theorem sapperlaw13_SuffixShares.calls (k : Nat) (A0 : Option Addr) (c0 : Nat) (l0 : List Int) (A1 : Option Addr) (c1 : Nat) (l1 : List Int) (r : Bool) (w : World) (hr0 : Kd.C (Kd.int .u8) w A0 l0.length l0) (hc0 : l0.length ≤ c0) (hr1 : Kd.C (Kd.int .u8) w A1 l1.length l1) (hc1 : l1.length ≤ c1) (h : sapperlaw13_SuffixShares.f k l0 l1 = some r) :
  Calls Try.prog 12 #[.slice A0 l0.length c0, .slice A1 l1.length c1] w fun e w' => e = .returned (.bool r) ∧ Below w.heap.size w w' := by
 have HR0 := Aside0.mk hr0
 have HC0 := Aside0.mk hc0
 clear hr0 hc0
 have HR1 := Aside0.mk hr1
 have HC1 := Aside0.mk hc1
 clear hr1 hc1
 have HB := Aside0.mk (Below.refl w.heap.size w)
 have H : ((suffix_Shared.f k l0 l1).bind fun bt326 => ((sapperref13_Shared.f k l0 l1).bind fun bt330 => ((suffix_Shared.f k l1 l0).bind fun bt334 => (if bt326.1 = bt330.1 then (if bt326.2.1 = bt330.2.1 then (if bt326.2.2.1 = bt330.2.2.1 then (if bt326.2.2.2 = bt330.2.2.2 then (if bt334.2.2.1 = bt326.2.2.1 then (sapperlaw13_SuffixShares.j0 k (bt334.2.2.2 != bt326.2.2.2)) else (sapperlaw13_SuffixShares.j0 k true)) else (sapperlaw13_SuffixShares.j0 k true)) else (sapperlaw13_SuffixShares.j0 k true)) else (sapperlaw13_SuffixShares.j0 k true)) else (sapperlaw13_SuffixShares.j0 k true))))) = some r := h
 clear h
 replace H := Option.bind_eq_some_iff.mp H
 obtain ⟨⟨t326, t327, t328, t329⟩, A30, H⟩ := H
 replace H : ((sapperref13_Shared.f k l0 l1).bind fun bt330 => ((suffix_Shared.f k l1 l0).bind fun bt334 => (if t326 = bt330.1 then (if t327 = bt330.2.1 then (if t328 = bt330.2.2.1 then (if t329 = bt330.2.2.2 then (if bt334.2.2.1 = t328 then (sapperlaw13_SuffixShares.j0 k (bt334.2.2.2 != t329)) else (sapperlaw13_SuffixShares.j0 k true)) else (sapperlaw13_SuffixShares.j0 k true)) else (sapperlaw13_SuffixShares.j0 k true)) else (sapperlaw13_SuffixShares.j0 k true)) else (sapperlaw13_SuffixShares.j0 k true)))) = some r := H
 have A3 := Aside0.mk A30
 clear A30
 replace H := Option.bind_eq_some_iff.mp H
 obtain ⟨⟨t330, t331, t332, t333⟩, A40, H⟩ := H
 replace H : ((suffix_Shared.f k l1 l0).bind fun bt334 => (if t326 = t330 then (if t327 = t331 then (if t328 = t332 then (if t329 = t333 then (if bt334.2.2.1 = t328 then (sapperlaw13_SuffixShares.j0 k (bt334.2.2.2 != t329)) else (sapperlaw13_SuffixShares.j0 k true)) else (sapperlaw13_SuffixShares.j0 k true)) else (sapperlaw13_SuffixShares.j0 k true)) else (sapperlaw13_SuffixShares.j0 k true)) else (sapperlaw13_SuffixShares.j0 k true))) = some r := H
 have A4 := Aside0.mk A40
 clear A40
 replace H := Option.bind_eq_some_iff.mp H
 obtain ⟨⟨t334, t335, t336, t337⟩, A50, H⟩ := H
 replace H : (if t326 = t330 then (if t327 = t331 then (if t328 = t332 then (if t329 = t333 then (if t336 = t328 then (sapperlaw13_SuffixShares.j0 k (t337 != t329)) else (sapperlaw13_SuffixShares.j0 k true)) else (sapperlaw13_SuffixShares.j0 k true)) else (sapperlaw13_SuffixShares.j0 k true)) else (sapperlaw13_SuffixShares.j0 k true)) else (sapperlaw13_SuffixShares.j0 k true)) = some r := H
 have A5 := Aside0.mk A50
 clear A50
 have HC6 := Aside0.mk H
 clear H
 go_enter Try.func12, Try.ntmps12
 go_upto_region 4 with (first | ((with_reducible refine gate_callee (f := 45) rfl ?_); refine goesL_ (some 20) rfl rfl Try.func45 (by kernel_rfl) rfl #[.slice A0 l0.length c0, .slice A1 l1.length c1] rfl (by (try simp only [List.map_toArray, List.map_cons, List.map_nil]); first | done | rfl | (simp only [List.length_drop, List.length_take]; rfl)) ?_; (with_reducible refine (suffix_Shared.calls k _ _ l0 _ _ l1 t326 t327 t328 t329 _ ?side1 ?side2 ?side3 ?side4 A3.out).mono ?_); (case side1 => repeat (first | exact HR0.out | (with_reducible first|refine Qd ?_ _|refine Qe ?_ _|refine Qf ?_))); (case side2 => exact HC0.out); (case side3 => repeat (first | exact HR1.out | (with_reducible first|refine Qd ?_ _|refine Qe ?_ _|refine Qf ?_))); (case side4 => exact HC1.out); rintro e w7 ⟨rfl, hb⟩; refine ⟨_, rfl, ?_⟩; have n0_ := Aside0.mk (below_step (by repeat first|(with_reducible first|exact HB.out|apply Qg|apply Qh|apply Qi)|exact HB.out) hb); clear HB; have HB := n0_; clear n0_; (try clear hb); (try clear hb2); (try clear hk); (try clear hi)) | ((with_reducible refine gate_callee (f := 46) rfl ?_); refine goesL_ (some 28) rfl rfl Try.func46 (by kernel_rfl) rfl #[.slice A0 l0.length c0, .slice A1 l1.length c1] rfl (by (try simp only [List.map_toArray, List.map_cons, List.map_nil]); first | done | rfl | (simp only [List.length_drop, List.length_take]; rfl)) ?_; (with_reducible refine (sapperref13_Shared.calls k _ _ l0 _ _ l1 t330 t331 t332 t333 _ ?side1 ?side2 ?side3 ?side4 A4.out).mono ?_); (case side1 => repeat (first | exact (Kd.C_below HR0.out HB.out) | (with_reducible first|refine Qd ?_ _|refine Qe ?_ _|refine Qf ?_))); (case side2 => exact HC0.out); (case side3 => repeat (first | exact (Kd.C_below HR1.out HB.out) | (with_reducible first|refine Qd ?_ _|refine Qe ?_ _|refine Qf ?_))); (case side4 => exact HC1.out); rintro e w' ⟨rfl, ⟨nd, rfl⟩⟩; refine ⟨_, rfl, ?_⟩) | ((with_reducible refine gate_callee (f := 45) rfl ?_); refine goesL_ (some 36) rfl rfl Try.func45 (by kernel_rfl) rfl #[.slice A1 l1.length c1, .slice A0 l0.length c0] rfl (by (try simp only [List.map_toArray, List.map_cons, List.map_nil]); first | done | rfl | (simp only [List.length_drop, List.length_take]; rfl)) ?_; (with_reducible refine (suffix_Shared.calls k _ _ l1 _ _ l0 t334 t335 t336 t337 _ ?side1 ?side2 ?side3 ?side4 A5.out).mono ?_); (case side1 => repeat (first | exact (Kd.C_below HR1.out (by repeat first|(with_reducible first|exact HB.out|apply Qg|apply Qh|apply Qi)|exact HB.out)) | (with_reducible first|refine Qd ?_ _|refine Qe ?_ _|refine Qf ?_))); (case side2 => exact HC1.out); (case side3 => repeat (first | exact (Kd.C_below HR0.out (by repeat first|(with_reducible first|exact HB.out|apply Qg|apply Qh|apply Qi)|exact HB.out)) | (with_reducible first|refine Qd ?_ _|refine Qe ?_ _|refine Qf ?_))); (case side4 => exact HC0.out); rintro e w8 ⟨rfl, hb⟩; refine ⟨_, rfl, ?_⟩; have n0_ := Aside0.mk (below_step (by repeat first|(with_reducible first|exact HB.out|apply Qg|apply Qh|apply Qi)|exact HB.out) hb); clear HB; have HB := n0_; clear n0_; (try clear hb); (try clear hb2); (try clear hk); (try clear hi)))
 (try simp only [Act.put, List.setIfInBounds_toArray, List.set_cons_zero, List.set_cons_succ])
 go_cut [68] (fun v68 wc => ∃ (kq : Nat) (x68_5 : Bool), v68 = .bool x68_5 ∧ Aside0 (sapperlaw13_SuffixShares.j0 kq x68_5 = some r) ∧ Aside0 (kq ≤ k) ∧ Aside0 (Below w.heap.size w wc))
 case first =>
  have H := HC6.out
  clear HC6
  by_cases c9 : t326 = t330
  ·rw [if_pos c9] at H
   have c9b0 : (t326 == t330) = true := beq_iff_eq.mpr c9
   have c9b1 : (t326 != t330) = false := bne_eq_false_iff_eq.mpr c9
   clear c9
   (first | rw [c9b0] | rw [c9b1] | (simp only [i64_w, i32_w]; rw [c9b0]) | skip)
   by_cases c10 : t327 = t331
   ·rw [if_pos c10] at H
    have c10b0 : (t327 == t331) = true := beq_iff_eq.mpr c10
    have c10b1 : (t327 != t331) = false := bne_eq_false_iff_eq.mpr c10
    clear c10
    by_cases c11 : t328 = t332
    ·rw [if_pos c11] at H
     have c11b0 : (t328 == t332) = true := beq_iff_eq.mpr c11
     have c11b1 : (t328 != t332) = false := bne_eq_false_iff_eq.mpr c11
     clear c11
     by_cases c12 : t329 = t333
     ·rw [if_pos c12] at H
      have c12b0 : (t329 == t333) = true := beq_iff_eq.mpr c12
      have c12b1 : (t329 != t333) = false := bne_eq_false_iff_eq.mpr c12
      clear c12
      by_cases c13 : t336 = t328
      ·rw [if_pos c13] at H
       have c13b0 : (t336 == t328) = true := beq_iff_eq.mpr c13
       have c13b1 : (t336 != t328) = false := bne_eq_false_iff_eq.mpr c13
       clear c13
       have H' := Aside0.mk H
       clear H
       go_wp2
       go_meet
       case rel => exact ⟨_, ((t337 != t329)), (by first | rfl | (simp; done) | (simp [*]; done)), H', ⟨by first | omega | exact Nat.le_refl _⟩, ⟨by repeat first|(with_reducible first|exact HB.out|apply Qg|apply Qh|apply Qi)|exact HB.out⟩⟩
      ·rw [if_neg c13] at H
       have c13b0 : (t336 == t328) = false := beq_eq_false_iff_ne.mpr c13
       have c13b1 : (t336 != t328) = true := bne_iff_ne.mpr c13
       have H' := Aside0.mk H
       clear H
       go_wp2
       go_meet
       case rel => exact ⟨_, (true), (by first | rfl | (simp; done) | (simp [*]; done)), H', ⟨by first | omega | exact Nat.le_refl _⟩, ⟨by repeat first|(with_reducible first|exact HB.out|apply Qg|apply Qh|apply Qi)|exact HB.out⟩⟩
     ·rw [if_neg c12] at H
      have c12b0 : (t329 == t333) = false := beq_eq_false_iff_ne.mpr c12
      have c12b1 : (t329 != t333) = true := bne_iff_ne.mpr c12
      have H' := Aside0.mk H
      clear H
      go_wp2
      go_meet
      case rel => exact ⟨_, (true), (by first | rfl | (simp; done) | (simp [*]; done)), H', ⟨by first | omega | exact Nat.le_refl _⟩, ⟨by repeat first|(with_reducible first|exact HB.out|apply Qg|apply Qh|apply Qi)|exact HB.out⟩⟩
    ·rw [if_neg c11] at H
     have c11b0 : (t328 == t332) = false := beq_eq_false_iff_ne.mpr c11
     have c11b1 : (t328 != t332) = true := bne_iff_ne.mpr c11
     have H' := Aside0.mk H
     clear H
     go_wp2
     go_meet
     case rel => exact ⟨_, (true), (by first | rfl | (simp; done) | (simp [*]; done)), H', ⟨by first | omega | exact Nat.le_refl _⟩, ⟨by repeat first|(with_reducible first|exact HB.out|apply Qg|apply Qh|apply Qi)|exact HB.out⟩⟩
   ·rw [if_neg c10] at H
    have c10b0 : (t327 == t331) = false := beq_eq_false_iff_ne.mpr c10
    have c10b1 : (t327 != t331) = true := bne_iff_ne.mpr c10
    have H' := Aside0.mk H
    clear H
    go_wp2
    go_meet
    case rel => exact ⟨_, (true), (by first | rfl | (simp; done) | (simp [*]; done)), H', ⟨by first | omega | exact Nat.le_refl _⟩, ⟨by repeat first|(with_reducible first|exact HB.out|apply Qg|apply Qh|apply Qi)|exact HB.out⟩⟩
  ·rw [if_neg c9] at H
   have c9b0 : (t326 == t330) = false := beq_eq_false_iff_ne.mpr c9
   have c9b1 : (t326 != t330) = true := bne_iff_ne.mpr c9
   (first | rw [c9b0] | rw [c9b1] | (simp only [i64_w, i32_w]; rw [c9b0]) | skip)
   have H' := Aside0.mk H
   clear H
   go_wp2
   go_meet
   case rel => exact ⟨_, (true), (by first | rfl | (simp; done) | (simp [*]; done)), H', ⟨by first | omega | exact Nat.le_refl _⟩, ⟨by repeat first|(with_reducible first|exact HB.out|apply Qg|apply Qh|apply Qi)|exact HB.out⟩⟩
 case rest =>
  clear HC6
  try clear c1
  try clear p2
  try clear c4
  try clear c9
  try clear c9b0
  try clear c9b1
  try clear c10
  try clear c10b0
  try clear c10b1
  try clear c11
  try clear c11b0
  try clear c11b1
  try clear c12
  try clear c12b0
  try clear c12b1
  try clear c13
  try clear c13b0
  try clear c13b1
  obtain ⟨kq, x68_5, rfl, HA, HJ5, HB⟩ := hcut
  cases kq with
  | zero => exact absurd HA.out (by simp [sapperlaw13_SuffixShares.j0])
  | succ kj5 =>
   have H := HA.out
   clear HA
   simp only [sapperlaw13_SuffixShares.j0] at H
   by_cases c14 : x68_5 = true
   ·subst c14
    have H1 : (some false) = some r := by rw [if_pos rfl] at H; exact H
    clear H
    have H := H1
    clear H1
    obtain rfl := Option.some.inj H
    go_wp2
    go_ret
    exact ⟨by first | rfl | (simp [errW_none, errW_some] <;> rfl) | (simp [*, errW_none, errW_some] <;> rfl), by repeat first|(with_reducible first|exact HB.out|apply Qg|apply Qh|apply Qi)|exact HB.out⟩
   ·replace c14 := Bool.eq_false_iff.mpr c14
    subst c14
    have H1 : ((suffix_Shared.f kj5 (([98, 97, 110, 97, 110, 97] : List Int)) (([110, 97, 98] : List Int))).bind fun bt344 => (if bt344.1 = 2 then (if bt344.2.1 = 0 then (if bt344.2.2.1 = 2 then (if bt344.2.2.2 = 0 then ((sapperlaw13_lives.f kj5).bind fun t348 => (some t348)) else (some false)) else (some false)) else (some false)) else (some false))) = some r := by rw [if_neg (show ¬ (false = true) by decide)] at H; exact H
    clear H
    have H := H1
    clear H1
    obtain ⟨y338, hy338⟩ : ∃ y_ : List Int, y_ = (([98, 97, 110, 97, 110, 97] : List Int)) := ⟨_, rfl⟩
    replace H : ((suffix_Shared.f kj5 y338 (([110, 97, 98] : List Int))).bind fun bt344 => (if bt344.1 = 2 then (if bt344.2.1 = 0 then (if bt344.2.2.1 = 2 then (if bt344.2.2.2 = 0 then ((sapperlaw13_lives.f kj5).bind fun t348 => (some t348)) else (some false)) else (some false)) else (some false)) else (some false))) = some r := by first | (rw [hy338]; with_reducible exact H) | (have H2_ := (Option.bind_some _ _).symm.trans H; rw [hy338]; with_reducible exact H2_) | (have H2_ := (Option.bind_some _ _).symm.trans H; with_reducible exact H2_) | with_reducible exact H | (rw [hy338]; exact H) | exact H
    have Ny338 := Aside0.mk hy338
    clear hy338
    obtain ⟨y341, hy341⟩ : ∃ y_ : List Int, y_ = (([110, 97, 98] : List Int)) := ⟨_, rfl⟩
    replace H : ((suffix_Shared.f kj5 y338 y341).bind fun bt344 => (if bt344.1 = 2 then (if bt344.2.1 = 0 then (if bt344.2.2.1 = 2 then (if bt344.2.2.2 = 0 then ((sapperlaw13_lives.f kj5).bind fun t348 => (some t348)) else (some false)) else (some false)) else (some false)) else (some false))) = some r := by first | (rw [hy341]; with_reducible exact H) | (have H2_ := (Option.bind_some _ _).symm.trans H; rw [hy341]; with_reducible exact H2_) | (have H2_ := (Option.bind_some _ _).symm.trans H; with_reducible exact H2_) | with_reducible exact H | (rw [hy341]; exact H) | exact H
    have Ny341 := Aside0.mk hy341
    clear hy341
    replace H := Option.bind_eq_some_iff.mp H
    obtain ⟨⟨t344, t345, t346, t347⟩, A150, H⟩ := H
    replace H : (if t344 = 2 then (if t345 = 0 then (if t346 = 2 then (if t347 = 0 then ((sapperlaw13_lives.f kj5).bind fun t348 => (some t348)) else (some false)) else (some false)) else (some false)) else (some false)) = some r := H
    have A15 := Aside0.mk A150
    clear A150
    by_cases c16 : t344 = 2
    ·rw [if_pos c16] at H
     have c16b0 : (t344 == 2) = true := beq_iff_eq.mpr c16
     have c16b1 : (t344 != 2) = false := bne_eq_false_iff_eq.mpr c16
     clear c16
     by_cases c17 : t345 = 0
     ·rw [if_pos c17] at H
      have c17b0 : (t345 == 0) = true := beq_iff_eq.mpr c17
      have c17b1 : (t345 != 0) = false := bne_eq_false_iff_eq.mpr c17
      clear c17
      by_cases c18 : t346 = 2
      ·rw [if_pos c18] at H
       have c18b0 : (t346 == 2) = true := beq_iff_eq.mpr c18
       have c18b1 : (t346 != 2) = false := bne_eq_false_iff_eq.mpr c18
       clear c18
       by_cases c19 : t347 = 0
       ·rw [if_pos c19] at H
        have c19b0 : (t347 == 0) = true := beq_iff_eq.mpr c19
        have c19b1 : (t347 != 0) = false := bne_eq_false_iff_eq.mpr c19
        clear c19
        replace H := Option.bind_eq_some_iff.mp H
        obtain ⟨t348, A200, H⟩ := H
        replace H : (some t348) = some r := H
        have A20 := Aside0.mk A200
        clear A200
        obtain rfl := Option.some.inj H
        have kc := fun (w : World) (C : Array Value) (n c : Nat) => Lib.run_convert_bytes_const (P := Try.prog) w 23 5 C n c Try.underlying23 Try.underlying5
        have hsz_ : ∀ O : Obj, (wc.alloc O).heap.size = wc.heap.size + 1 := fun O => Array.size_push _
        have kc2 := fun (O : Obj) (C : Array Value) (n c : Nat) => kc (wc.alloc O) C n c
        simp only [hsz_] at kc2
        go_wp2_with (fail)
        refine (suffix_Shared.calls kj5 (some ⟨wc.heap.size, 0, none⟩) 6 [98, 97, 110, 97, 110, 97] (some ⟨wc.heap.size + 1, 0, none⟩) 3 [110, 97, 98] t344 t345 t346 t347 _ ?s1 ?s2 ?s3 ?s4 (by rw [← Ny338.out, ← Ny341.out]; exact A15.out)).mono ?_
        case s1 => exact Kd.C_alloc (C_marked wc [98, 97, 110, 97, 110, 97] 5 (6, 7) (by decide)) _
        case s2 => exact Nat.le_refl _
        case s3 => (have h_ := C_marked (wc.alloc (.cells (([98, 97, 110, 97, 110, 97] : List Int).map (Value.int .u8)).toArray 5 (6, 7))) [110, 97, 98] 5 (3, 4) (by decide); rw [hsz_] at h_; exact h_)
        case s4 => exact Nat.le_refl _
        rintro e wq ⟨rfl, hb⟩
        have n0_ := Aside0.mk (below_step (by repeat (first | (with_reducible first | exact HB.out | apply below_alloc) | exact HB.out)) hb)
        clear HB hb
        have HB := n0_
        clear n0_
        go_wp2_with (first | (go_at_call 15; (with_reducible refine (sapperlaw13_lives.calls kj5 t348 _ A20.out).mono ?_); rintro e wl ⟨rfl, hb⟩; have n1_ := Aside0.mk (below_step HB.out hb); clear HB hb; have HB := n1_; clear n1_))
        go_ret
        exact ⟨by first | rfl | (simp [errW_none, errW_some] <;> rfl) | (simp [*, errW_none, errW_some] <;> rfl), by repeat first|(with_reducible first|exact HB.out|apply Qg|apply Qh|apply Qi)|exact HB.out⟩
       ·rw [if_neg c19] at H
        have c19b0 : (t347 == 0) = false := beq_eq_false_iff_ne.mpr c19
        have c19b1 : (t347 != 0) = true := bne_iff_ne.mpr c19
        obtain rfl := Option.some.inj H
        have kc := fun (w : World) (C : Array Value) (n c : Nat) => Lib.run_convert_bytes_const (P := Try.prog) w 23 5 C n c Try.underlying23 Try.underlying5
        have hsz_ : ∀ O : Obj, (wc.alloc O).heap.size = wc.heap.size + 1 := fun O => Array.size_push _
        have kc2 := fun (O : Obj) (C : Array Value) (n c : Nat) => kc (wc.alloc O) C n c
        simp only [hsz_] at kc2
        go_wp2_with (fail)
        refine (suffix_Shared.calls kj5 (some ⟨wc.heap.size, 0, none⟩) 6 [98, 97, 110, 97, 110, 97] (some ⟨wc.heap.size + 1, 0, none⟩) 3 [110, 97, 98] t344 t345 t346 t347 _ ?s1 ?s2 ?s3 ?s4 (by rw [← Ny338.out, ← Ny341.out]; exact A15.out)).mono ?_
        case s1 => exact Kd.C_alloc (C_marked wc [98, 97, 110, 97, 110, 97] 5 (6, 7) (by decide)) _
        case s2 => exact Nat.le_refl _
        case s3 => (have h_ := C_marked (wc.alloc (.cells (([98, 97, 110, 97, 110, 97] : List Int).map (Value.int .u8)).toArray 5 (6, 7))) [110, 97, 98] 5 (3, 4) (by decide); rw [hsz_] at h_; exact h_)
        case s4 => exact Nat.le_refl _
        rintro e wq ⟨rfl, hb⟩
        have n0_ := Aside0.mk (below_step (by repeat (first | (with_reducible first | exact HB.out | apply below_alloc) | exact HB.out)) hb)
        clear HB hb
        have HB := n0_
        clear n0_
        go_wp2
        go_ret
        exact ⟨by first | rfl | (simp [errW_none, errW_some] <;> rfl) | (simp [*, errW_none, errW_some] <;> rfl), by repeat first|(with_reducible first|exact HB.out|apply Qg|apply Qh|apply Qi)|exact HB.out⟩
      ·rw [if_neg c18] at H
       have c18b0 : (t346 == 2) = false := beq_eq_false_iff_ne.mpr c18
       have c18b1 : (t346 != 2) = true := bne_iff_ne.mpr c18
       obtain rfl := Option.some.inj H
       have kc := fun (w : World) (C : Array Value) (n c : Nat) => Lib.run_convert_bytes_const (P := Try.prog) w 23 5 C n c Try.underlying23 Try.underlying5
       have hsz_ : ∀ O : Obj, (wc.alloc O).heap.size = wc.heap.size + 1 := fun O => Array.size_push _
       have kc2 := fun (O : Obj) (C : Array Value) (n c : Nat) => kc (wc.alloc O) C n c
       simp only [hsz_] at kc2
       go_wp2_with (fail)
       refine (suffix_Shared.calls kj5 (some ⟨wc.heap.size, 0, none⟩) 6 [98, 97, 110, 97, 110, 97] (some ⟨wc.heap.size + 1, 0, none⟩) 3 [110, 97, 98] t344 t345 t346 t347 _ ?s1 ?s2 ?s3 ?s4 (by rw [← Ny338.out, ← Ny341.out]; exact A15.out)).mono ?_
       case s1 => exact Kd.C_alloc (C_marked wc [98, 97, 110, 97, 110, 97] 5 (6, 7) (by decide)) _
       case s2 => exact Nat.le_refl _
       case s3 => (have h_ := C_marked (wc.alloc (.cells (([98, 97, 110, 97, 110, 97] : List Int).map (Value.int .u8)).toArray 5 (6, 7))) [110, 97, 98] 5 (3, 4) (by decide); rw [hsz_] at h_; exact h_)
       case s4 => exact Nat.le_refl _
       rintro e wq ⟨rfl, hb⟩
       have n0_ := Aside0.mk (below_step (by repeat (first | (with_reducible first | exact HB.out | apply below_alloc) | exact HB.out)) hb)
       clear HB hb
       have HB := n0_
       clear n0_
       go_wp2
       go_ret
       exact ⟨by first | rfl | (simp [errW_none, errW_some] <;> rfl) | (simp [*, errW_none, errW_some] <;> rfl), by repeat first|(with_reducible first|exact HB.out|apply Qg|apply Qh|apply Qi)|exact HB.out⟩
     ·rw [if_neg c17] at H
      have c17b0 : (t345 == 0) = false := beq_eq_false_iff_ne.mpr c17
      have c17b1 : (t345 != 0) = true := bne_iff_ne.mpr c17
      obtain rfl := Option.some.inj H
      have kc := fun (w : World) (C : Array Value) (n c : Nat) => Lib.run_convert_bytes_const (P := Try.prog) w 23 5 C n c Try.underlying23 Try.underlying5
      have hsz_ : ∀ O : Obj, (wc.alloc O).heap.size = wc.heap.size + 1 := fun O => Array.size_push _
      have kc2 := fun (O : Obj) (C : Array Value) (n c : Nat) => kc (wc.alloc O) C n c
      simp only [hsz_] at kc2
      go_wp2_with (fail)
      refine (suffix_Shared.calls kj5 (some ⟨wc.heap.size, 0, none⟩) 6 [98, 97, 110, 97, 110, 97] (some ⟨wc.heap.size + 1, 0, none⟩) 3 [110, 97, 98] t344 t345 t346 t347 _ ?s1 ?s2 ?s3 ?s4 (by rw [← Ny338.out, ← Ny341.out]; exact A15.out)).mono ?_
      case s1 => exact Kd.C_alloc (C_marked wc [98, 97, 110, 97, 110, 97] 5 (6, 7) (by decide)) _
      case s2 => exact Nat.le_refl _
      case s3 => (have h_ := C_marked (wc.alloc (.cells (([98, 97, 110, 97, 110, 97] : List Int).map (Value.int .u8)).toArray 5 (6, 7))) [110, 97, 98] 5 (3, 4) (by decide); rw [hsz_] at h_; exact h_)
      case s4 => exact Nat.le_refl _
      rintro e wq ⟨rfl, hb⟩
      have n0_ := Aside0.mk (below_step (by repeat (first | (with_reducible first | exact HB.out | apply below_alloc) | exact HB.out)) hb)
      clear HB hb
      have HB := n0_
      clear n0_
      go_wp2
      go_ret
      exact ⟨by first | rfl | (simp [errW_none, errW_some] <;> rfl) | (simp [*, errW_none, errW_some] <;> rfl), by repeat first|(with_reducible first|exact HB.out|apply Qg|apply Qh|apply Qi)|exact HB.out⟩
    ·rw [if_neg c16] at H
     have c16b0 : (t344 == 2) = false := beq_eq_false_iff_ne.mpr c16
     have c16b1 : (t344 != 2) = true := bne_iff_ne.mpr c16
     obtain rfl := Option.some.inj H
     have kc := fun (w : World) (C : Array Value) (n c : Nat) => Lib.run_convert_bytes_const (P := Try.prog) w 23 5 C n c Try.underlying23 Try.underlying5
     have hsz_ : ∀ O : Obj, (wc.alloc O).heap.size = wc.heap.size + 1 := fun O => Array.size_push _
     have kc2 := fun (O : Obj) (C : Array Value) (n c : Nat) => kc (wc.alloc O) C n c
     simp only [hsz_] at kc2
     go_wp2_with (fail)
     refine (suffix_Shared.calls kj5 (some ⟨wc.heap.size, 0, none⟩) 6 [98, 97, 110, 97, 110, 97] (some ⟨wc.heap.size + 1, 0, none⟩) 3 [110, 97, 98] t344 t345 t346 t347 _ ?s1 ?s2 ?s3 ?s4 (by rw [← Ny338.out, ← Ny341.out]; exact A15.out)).mono ?_
     case s1 => exact Kd.C_alloc (C_marked wc [98, 97, 110, 97, 110, 97] 5 (6, 7) (by decide)) _
     case s2 => exact Nat.le_refl _
     case s3 => (have h_ := C_marked (wc.alloc (.cells (([98, 97, 110, 97, 110, 97] : List Int).map (Value.int .u8)).toArray 5 (6, 7))) [110, 97, 98] 5 (3, 4) (by decide); rw [hsz_] at h_; exact h_)
     case s4 => exact Nat.le_refl _
     rintro e wq ⟨rfl, hb⟩
     have n0_ := Aside0.mk (below_step (by repeat (first | (with_reducible first | exact HB.out | apply below_alloc) | exact HB.out)) hb)
     clear HB hb
     have HB := n0_
     clear n0_
     go_wp2
     go_ret
     exact ⟨by first | rfl | (simp [errW_none, errW_some] <;> rfl) | (simp [*, errW_none, errW_some] <;> rfl), by repeat first|(with_reducible first|exact HB.out|apply Qg|apply Qh|apply Qi)|exact HB.out⟩

/-- THE ONE PURE STATEMENT of sapperlaw13_SuffixShares: yours. -/
def sapperlaw13_SuffixShares.Pure : Prop := ∀ (l0 : List Int) (l1 : List Int), l0.length ≤ maxLen → l0.length * 1 ≤ 140737488351232 → (∀ x ∈ l0, (Lit.int .u8 x).wf = true) → l1.length ≤ maxLen → l1.length * 1 ≤ 140737488351232 → (∀ x ∈ l1, (Lit.int .u8 x).wf = true) → ∃ k, sapperlaw13_SuffixShares.f k l0 l1 = some true
theorem sapperlaw13_SuffixShares.walk (P : sapperlaw13_SuffixShares.Pure) (a0 : Option Addr) (len0 cap0 : Nat) (z0 : List Int) (a1 : Option Addr) (len1 cap1 : Nat) (z1 : List Int) (w : World) (w0 : (a0 = none ∧ len0 = 0 ∧ cap0 = 0 ∧ z0 = []) ∨ ∃ x, a0 = some x ∧ len0 ≤ cap0 ∧ cap0 ≤ maxLen ∧ z0.length = cap0 ∧ (∀ i, i < z0.length → w.cell? (x.add i) = some (.int .u8 (z0.getD i 0))) ∧ ∀ n ∈ z0, (Lit.int .u8 n).wf = true) (y0 : len0 * 1 ≤ 140737488351232) (w1 : (a1 = none ∧ len1 = 0 ∧ cap1 = 0 ∧ z1 = []) ∨ ∃ x, a1 = some x ∧ len1 ≤ cap1 ∧ cap1 ≤ maxLen ∧ z1.length = cap1 ∧ (∀ i, i < z1.length → w.cell? (x.add i) = some (.int .u8 (z1.getD i 0))) ∧ ∀ n ∈ z1, (Lit.int .u8 n).wf = true) (y1 : len1 * 1 ≤ 140737488351232) :
  Calls Try.prog 12 #[.slice a0 len0 cap0, .slice a1 len1 cap1] w fun e w' => e = .returned (.bool true) ∧ Below w.heap.size w w' := by
 obtain ⟨l0, rfl, hr0, hm0, hw0, hc0⟩ := ReadsInt.ofRowC w0
 obtain ⟨l1, rfl, hr1, hm1, hw1, hc1⟩ := ReadsInt.ofRowC w1
 obtain ⟨k, h⟩ := P l0 l1 hm0 y0 hw0 hm1 y1 hw1
 refine (sapperlaw13_SuffixShares.calls k _ _ l0 _ _ l1 true w (Kd.C_of_reads (d := (0 : Int)) (h1 := fun _ => rfl) hr0) hc0 (Kd.C_of_reads (d := (0 : Int)) (h1 := fun _ => rfl) hr1) hc1 h).mono ?_
 rintro e w' ⟨rfl, hd⟩
 exact ⟨rfl, hd⟩

end Go.Proofs.Ythcnnfahlhklgaa.X
