-- Printed by wip/xprint.py of this repo (a wrapper of the session's own round the print).
import Derived.Test.YthcnnfahlhklgaaXx0
import Derived.Test.YthcnnfahlhklgaaXBA
import Derived.Test.YthcnnfahlhklgaaXx13
import Derived.Test.YthcnnfahlhklgaaXx16
import Derived.Test.YthcnnfahlhklgaaXx17
import Derived.Test.YthcnnfahlhklgaaXx18
import Derived.Test.YthcnnfahlhklgaaXx19
import Derived.Test.YthcnnfahlhklgaaXx20
import Derived.Test.YthcnnfahlhklgaaXx21
import Derived.Test.YthcnnfahlhklgaaXx22
import Derived.Test.YthcnnfahlhklgaaXx23
import Derived.Test.YthcnnfahlhklgaaXx25
import Derived.Test.YthcnnfahlhklgaaXx26
import Derived.Test.YthcnnfahlhklgaaXx28
import Derived.Test.YthcnnfahlhklgaaXx29
import Derived.Test.YthcnnfahlhklgaaXx30
import Derived.Test.YthcnnfahlhklgaaXx32
import Derived.Test.YthcnnfahlhklgaaXx33
import Derived.Test.YthcnnfahlhklgaaXx34
import Derived.Test.YthcnnfahlhklgaaXx35
import Derived.Test.YthcnnfahlhklgaaXx36
namespace Go.Proofs.Ythcnnfahlhklgaa.X
open Go.RowKit Go.Proofs.YthcnnfahlhklgaaW.PrintWords Go.Proofs.YthcnnfahlhklgaaW.PrintLast Go.Proofs.YthcnnfahlhklgaaW.PrintMore
attribute [local go_sem] ptrOf_eql ptrOf_neq ptrOf_eqg ptrOf_neg str_leq str_geq str_gtr max2_int min2_int max_two min_two max_three min_three max_four min_four   -- for this text's walks alone
set_option linter.unusedVariables false
set_option linter.unusedSimpArgs false

/-! ### sapperlaw13_SuffixIndexes: function 11 -/
mutual
def sapperlaw13_SuffixIndexes.j0 : Nat → List Int → Int → List Int → List Int → List (S82) → Bool → Option (Bool)
 | 0, _, _, _, _, _, _ => none
 | k + 1, x0, x1, x2, x7, x9, x55 => if x55 = true then (some false) else (sapperlaw13_SuffixIndexes.l0 k x0 x1 x2 x7 x9 (x7.length : Int) 0)
def sapperlaw13_SuffixIndexes.l0 : Nat → List Int → Int → List Int → List Int → List (S82) → Int → Int → Option (Bool)
 | 0, _, _, _, _, _, _, _ => none
 | k + 1, x0, x1, x2, x7, x9, x57, x58 => if x58 < x57 then (if 0 ≤ x58 then (if x58 < (x7.length : Int) then (sapperlaw13_SuffixIndexes.l0 k x0 x1 x2 (x7.set (x58 : Int).toNat 7) x9 x57 (wrap64 (x58 + 1))) else (none)) else (none)) else ((sapperref13_Array.f k x0).bind fun t430 => ((suffix_Index_Len.f x9).bind fun t433 => (if t433 = (x0.length : Int) then ((suffix_Index_Data.f x9).bind fun t434 => ((sapperref01_Same.f t434 x0).bind fun t437 => (if t437 = true then ((suffix_Index_Array.f x9).bind fun t438 => ((sapperlaw13_same.f k t438 t430).bind fun t441 => (if t441 = true then ((suffix_Index_Lcp.f x9).bind fun t442 => ((sapperref13_Lcp.f k x0).bind fun t445 => ((sapperlaw13_same.f k t442 t445).bind fun t448 => (if t448 = true then ((sapperlaw13_own.f k x9).bind fun t449 => (sapperlaw13_SuffixIndexes.j2 k x0 x1 x2 x9 t430 (!t449))) else (sapperlaw13_SuffixIndexes.j2 k x0 x1 x2 x9 t430 true))))) else (sapperlaw13_SuffixIndexes.j2 k x0 x1 x2 x9 t430 true)))) else (sapperlaw13_SuffixIndexes.j2 k x0 x1 x2 x9 t430 true)))) else (sapperlaw13_SuffixIndexes.j2 k x0 x1 x2 x9 t430 true))))
def sapperlaw13_SuffixIndexes.j2 : Nat → List Int → Int → List Int → List (S82) → List Int → Bool → Option (Bool)
 | 0, _, _, _, _, _, _ => none
 | k + 1, x0, x1, x2, x9, x12, x98 => if x98 = true then (some false) else ((suffix_Index_Repeat.f k x9).bind fun bt450 => ((sapperref13_Repeat.f k x0).bind fun bt452 => (if bt450.1 = bt452.1 then (sapperlaw13_SuffixIndexes.j3 k x0 x1 x2 x9 x12 (bt450.2 != bt452.2)) else (sapperlaw13_SuffixIndexes.j3 k x0 x1 x2 x9 x12 true))))
def sapperlaw13_SuffixIndexes.j3 : Nat → List Int → Int → List Int → List (S82) → List Int → Bool → Option (Bool)
 | 0, _, _, _, _, _, _ => none
 | k + 1, x0, x1, x2, x9, x12, x116 => if x116 = true then (some false) else ((suffix_Index_At.f k x9 x1).bind fun bt454 => ((suffix_Index_Rank.f k x9 x1).bind fun bt456 => ((suffix_Index_Compare.f k x9 x1 x2).bind fun bt458 => (if x1 < 0 then (sapperlaw13_SuffixIndexes.j4 k x0 x1 x2 bt454.2 x12 bt454.1 bt456.1 bt456.2 bt458.1 bt458.2.1 bt458.2.2 true) else (sapperlaw13_SuffixIndexes.j4 k x0 x1 x2 bt454.2 x12 bt454.1 bt456.1 bt456.2 bt458.1 bt458.2.1 bt458.2.2 (decide (x1 ≥ (x0.length : Int))))))))
def sapperlaw13_SuffixIndexes.j4 : Nat → List Int → Int → List Int → Int → List Int → Int → Int → Int → Int → Int → Int → Bool → Option (Bool)
 | 0, _, _, _, _, _, _, _, _, _, _, _, _ => none
 | k + 1, x0, x1, x2, x10, x12, x17, x18, x19, x20, x21, x22, x144 => if x144 = true then (if x17 = 0 then (if x18 = 0 then (if x20 = 0 then (if x21 = 0 then (if x10 = 132 then (if x19 = 132 then (if x22 = 132 then ((sapperlaw13_lives.f k).bind fun t461 => (some t461)) else (some false)) else (some false)) else (some false)) else (some false)) else (some false)) else (some false)) else (some false)) else (if 0 ≤ x1 then (if x1 ≤ (x0.length : Int) then ((sapperref13_Compare.f k (x0.drop (x1 : Int).toNat) x2).bind fun bt463 => (if x1 < (x12.length : Int) then (if x17 = (rd x12 x1) then (if x10 = 0 then (if x19 = 0 then (if x18 < 0 then (some false) else (if x18 ≥ (x0.length : Int) then (some false) else (if 0 ≤ x18 then (if x18 < (x12.length : Int) then (if (rd x12 x18) = x1 then (if x20 = bt463.1 then (if x21 = bt463.2 then (if x22 = 0 then ((sapperlaw13_lives.f k).bind fun t467 => (some t467)) else (some false)) else (some false)) else (some false)) else (some false)) else (none)) else (none)))) else (some false)) else (some false)) else (some false)) else (none))) else (none)) else (none))
end
def sapperlaw13_SuffixIndexes.f (k : Nat) (l0 : List Int) (a1 : Int) (l2 : List Int) : Option (Bool) := (sapperref01_Lend.f l0).bind fun t417 => (if 0 ≤ (l0.length : Int) then (if (l0.length : Int) ≤ (t417.length : Int) then ((suffix_New.f k (t417.take ((l0.length : Int) : Int).toNat)).bind fun bt424 => (if (l0.length : Int) > 16777216 then (if (bt424.1.length : Int) = 0 then (some (bt424.2 == 130)) else (some false)) else (if bt424.2 = 0 then (if (bt424.1.length : Int) = 0 then (sapperlaw13_SuffixIndexes.j0 k l0 a1 l2 t417 bt424.1 true) else ((sapperref01_Kept.f t417 l0).bind fun t428 => (sapperlaw13_SuffixIndexes.j0 k l0 a1 l2 t417 bt424.1 (!t428)))) else (sapperlaw13_SuffixIndexes.j0 k l0 a1 l2 t417 bt424.1 true)))) else (none)) else (none))
theorem sapperlaw13_SuffixIndexes.mono_l : ∀ k, (∀ y0 y1 y2 y3 y4 y5, LeO (sapperlaw13_SuffixIndexes.j0 k y0 y1 y2 y3 y4 y5) (sapperlaw13_SuffixIndexes.j0 (k + 1) y0 y1 y2 y3 y4 y5)) ∧ (∀ y0 y1 y2 y3 y4 y5 y6, LeO (sapperlaw13_SuffixIndexes.l0 k y0 y1 y2 y3 y4 y5 y6) (sapperlaw13_SuffixIndexes.l0 (k + 1) y0 y1 y2 y3 y4 y5 y6)) ∧ (∀ y0 y1 y2 y3 y4 y5, LeO (sapperlaw13_SuffixIndexes.j2 k y0 y1 y2 y3 y4 y5) (sapperlaw13_SuffixIndexes.j2 (k + 1) y0 y1 y2 y3 y4 y5)) ∧ (∀ y0 y1 y2 y3 y4 y5, LeO (sapperlaw13_SuffixIndexes.j3 k y0 y1 y2 y3 y4 y5) (sapperlaw13_SuffixIndexes.j3 (k + 1) y0 y1 y2 y3 y4 y5)) ∧ (∀ y0 y1 y2 y3 y4 y5 y6 y7 y8 y9 y10 y11, LeO (sapperlaw13_SuffixIndexes.j4 k y0 y1 y2 y3 y4 y5 y6 y7 y8 y9 y10 y11) (sapperlaw13_SuffixIndexes.j4 (k + 1) y0 y1 y2 y3 y4 y5 y6 y7 y8 y9 y10 y11))
 | 0 => ⟨fun _ _ _ _ _ _ r h => by simp [sapperlaw13_SuffixIndexes.j0] at h, fun _ _ _ _ _ _ _ r h => by simp [sapperlaw13_SuffixIndexes.l0] at h, fun _ _ _ _ _ _ r h => by simp [sapperlaw13_SuffixIndexes.j2] at h, fun _ _ _ _ _ _ r h => by simp [sapperlaw13_SuffixIndexes.j3] at h, fun _ _ _ _ _ _ _ _ _ _ _ _ r h => by simp [sapperlaw13_SuffixIndexes.j4] at h⟩
 | k + 1 => by
  obtain ⟨ih0, ih1, ih2, ih3, ih4⟩ := sapperlaw13_SuffixIndexes.mono_l k
  refine ⟨?_, ?_, ?_, ?_, ?_⟩
  intro y0 y1 y2 y3 y4 y5; unfold sapperlaw13_SuffixIndexes.j0; rotate_left
  intro y0 y1 y2 y3 y4 y5 y6; unfold sapperlaw13_SuffixIndexes.l0; rotate_left
  intro y0 y1 y2 y3 y4 y5; unfold sapperlaw13_SuffixIndexes.j2; rotate_left
  intro y0 y1 y2 y3 y4 y5; unfold sapperlaw13_SuffixIndexes.j3; rotate_left
  intro y0 y1 y2 y3 y4 y5 y6 y7 y8 y9 y10 y11; unfold sapperlaw13_SuffixIndexes.j4; rotate_left
  all_goals
   repeat' first
   | (with_reducible exact ih0 _ _ _ _ _ _)
   | (with_reducible exact ih1 _ _ _ _ _ _ _)
   | (with_reducible exact ih2 _ _ _ _ _ _)
   | (with_reducible exact ih3 _ _ _ _ _ _)
   | (with_reducible exact ih4 _ _ _ _ _ _ _ _ _ _ _ _)
   | (with_reducible exact sapperlaw13_lives.mono _)
   | (with_reducible exact sapperlaw13_own.mono _ _)
   | (with_reducible exact sapperlaw13_same.mono _ _ _)
   | (with_reducible exact sapperref13_Array.mono _ _)
   | (with_reducible exact sapperref13_Compare.mono _ _ _)
   | (with_reducible exact sapperref13_Lcp.mono _ _)
   | (with_reducible exact sapperref13_Repeat.mono _ _)
   | (with_reducible exact suffix_Index_At.mono _ _ _)
   | (with_reducible exact suffix_Index_Compare.mono _ _ _ _)
   | (with_reducible exact suffix_Index_Rank.mono _ _ _)
   | (with_reducible exact suffix_Index_Repeat.mono _ _)
   | (with_reducible exact suffix_New.mono _ _)
   | (with_reducible exact LeO.refl _)
   | (with_reducible exact LeO.none _)
   | (with_reducible refine LeO.ite ?_ ?_)
   | (with_reducible refine LeO.bind ?_ (fun _ => ?_))
   | exact ih0 _ _ _ _ _ _
   | exact ih1 _ _ _ _ _ _ _
   | exact ih2 _ _ _ _ _ _
   | exact ih3 _ _ _ _ _ _
   | exact ih4 _ _ _ _ _ _ _ _ _ _ _ _
   | exact sapperlaw13_lives.mono _
   | exact sapperlaw13_own.mono _ _
   | exact sapperlaw13_same.mono _ _ _
   | exact sapperref13_Array.mono _ _
   | exact sapperref13_Compare.mono _ _ _
   | exact sapperref13_Lcp.mono _ _
   | exact sapperref13_Repeat.mono _ _
   | exact suffix_Index_At.mono _ _ _
   | exact suffix_Index_Compare.mono _ _ _ _
   | exact suffix_Index_Rank.mono _ _ _
   | exact suffix_Index_Repeat.mono _ _
   | exact suffix_New.mono _ _
   | exact LeO.none _
   | refine LeO.ite ?_ ?_
   | refine LeO.bind ?_ (fun _ => ?_)
theorem sapperlaw13_SuffixIndexes.mono : ∀ a0 a1 a2 k, LeO (sapperlaw13_SuffixIndexes.f k a0 a1 a2) (sapperlaw13_SuffixIndexes.f (k + 1) a0 a1 a2) := by
 intro a0 a1 a2 k
 obtain ⟨ih0, ih1, ih2, ih3, ih4⟩ := sapperlaw13_SuffixIndexes.mono_l k
 unfold sapperlaw13_SuffixIndexes.f
 repeat' first
   | (with_reducible exact ih0 _ _ _ _ _ _)
   | (with_reducible exact ih1 _ _ _ _ _ _ _)
   | (with_reducible exact ih2 _ _ _ _ _ _)
   | (with_reducible exact ih3 _ _ _ _ _ _)
   | (with_reducible exact ih4 _ _ _ _ _ _ _ _ _ _ _ _)
   | (with_reducible exact sapperlaw13_lives.mono _)
   | (with_reducible exact sapperlaw13_own.mono _ _)
   | (with_reducible exact sapperlaw13_same.mono _ _ _)
   | (with_reducible exact sapperref13_Array.mono _ _)
   | (with_reducible exact sapperref13_Compare.mono _ _ _)
   | (with_reducible exact sapperref13_Lcp.mono _ _)
   | (with_reducible exact sapperref13_Repeat.mono _ _)
   | (with_reducible exact suffix_Index_At.mono _ _ _)
   | (with_reducible exact suffix_Index_Compare.mono _ _ _ _)
   | (with_reducible exact suffix_Index_Rank.mono _ _ _)
   | (with_reducible exact suffix_Index_Repeat.mono _ _)
   | (with_reducible exact suffix_New.mono _ _)
   | (with_reducible exact LeO.refl _)
   | (with_reducible exact LeO.none _)
   | (with_reducible refine LeO.ite ?_ ?_)
   | (with_reducible refine LeO.bind ?_ (fun _ => ?_))
   | exact ih0 _ _ _ _ _ _
   | exact ih1 _ _ _ _ _ _ _
   | exact ih2 _ _ _ _ _ _
   | exact ih3 _ _ _ _ _ _
   | exact ih4 _ _ _ _ _ _ _ _ _ _ _ _
   | exact sapperlaw13_lives.mono _
   | exact sapperlaw13_own.mono _ _
   | exact sapperlaw13_same.mono _ _ _
   | exact sapperref13_Array.mono _ _
   | exact sapperref13_Compare.mono _ _ _
   | exact sapperref13_Lcp.mono _ _
   | exact sapperref13_Repeat.mono _ _
   | exact suffix_Index_At.mono _ _ _
   | exact suffix_Index_Compare.mono _ _ _ _
   | exact suffix_Index_Rank.mono _ _ _
   | exact suffix_Index_Repeat.mono _ _
   | exact suffix_New.mono _ _
   | exact LeO.none _
   | refine LeO.ite ?_ ?_
   | refine LeO.bind ?_ (fun _ => ?_)
set_option maxHeartbeats 8000000 in
set_option maxRecDepth 100000 in
theorem sapperlaw13_SuffixIndexes.calls (k : Nat) (A0 : Option Addr) (c0 : Nat) (l0 : List Int) (a1 : Int) (A2 : Option Addr) (c2 : Nat) (l2 : List Int) (r : Bool) (w : World) (hr0 : Kd.C (Kd.int .u8) w A0 l0.length l0) (hc0 : l0.length ≤ c0) (hr2 : Kd.C (Kd.int .u8) w A2 l2.length l2) (hc2 : l2.length ≤ c2) (h : sapperlaw13_SuffixIndexes.f k l0 a1 l2 = some r) :
  Calls Try.prog 11 #[.slice A0 l0.length c0, .int .i64 a1, .slice A2 l2.length c2] w fun e w' => e = .returned (.bool r) ∧ Below w.heap.size w w' := by
 have HR0 := Aside0.mk hr0
 have HC0 := Aside0.mk hc0
 clear hr0 hc0
 have HR2 := Aside0.mk hr2
 have HC2 := Aside0.mk hc2
 clear hr2 hc2
 have HB := Aside0.mk (Below.refl w.heap.size w)
 have H : ((sapperref01_Lend.f l0).bind fun t417 => (if 0 ≤ (l0.length : Int) then (if (l0.length : Int) ≤ (t417.length : Int) then ((suffix_New.f k (t417.take ((l0.length : Int) : Int).toNat)).bind fun bt424 => (if (l0.length : Int) > 16777216 then (if (bt424.1.length : Int) = 0 then (some (bt424.2 == 130)) else (some false)) else (if bt424.2 = 0 then (if (bt424.1.length : Int) = 0 then (sapperlaw13_SuffixIndexes.j0 k l0 a1 l2 t417 bt424.1 true) else ((sapperref01_Kept.f t417 l0).bind fun t428 => (sapperlaw13_SuffixIndexes.j0 k l0 a1 l2 t417 bt424.1 (!t428)))) else (sapperlaw13_SuffixIndexes.j0 k l0 a1 l2 t417 bt424.1 true)))) else (none)) else (none))) = some r := h
 clear h
 replace H := Option.bind_eq_some_iff.mp H
 obtain ⟨t417, A40, H⟩ := H
 replace H : (if 0 ≤ (l0.length : Int) then (if (l0.length : Int) ≤ (t417.length : Int) then ((suffix_New.f k (t417.take ((l0.length : Int) : Int).toNat)).bind fun bt424 => (if (l0.length : Int) > 16777216 then (if (bt424.1.length : Int) = 0 then (some (bt424.2 == 130)) else (some false)) else (if bt424.2 = 0 then (if (bt424.1.length : Int) = 0 then (sapperlaw13_SuffixIndexes.j0 k l0 a1 l2 t417 bt424.1 true) else ((sapperref01_Kept.f t417 l0).bind fun t428 => (sapperlaw13_SuffixIndexes.j0 k l0 a1 l2 t417 bt424.1 (!t428)))) else (sapperlaw13_SuffixIndexes.j0 k l0 a1 l2 t417 bt424.1 true)))) else (none)) else (none)) = some r := H
 have A4 := Aside0.mk A40
 clear A40
 by_cases c5 : 0 ≤ (l0.length : Int)
 ·rw [if_pos c5] at H
  have c5b0 := eq_true c5
  have c5b1 : decide (0 ≤ (l0.length : Int)) = true := decide_eq_true c5
  clear c5
  by_cases c6 : (l0.length : Int) ≤ (t417.length : Int)
  ·rw [if_pos c6] at H
   have c6b0 := eq_true c6
   have c6b1 : decide ((l0.length : Int) ≤ (t417.length : Int)) = true := decide_eq_true c6
   clear c6
   obtain ⟨y420, hy420⟩ : ∃ y_ : List Int, y_ = (t417.take ((l0.length : Int) : Int).toNat) := ⟨_, rfl⟩
   replace H : ((suffix_New.f k y420).bind fun bt424 => (if (l0.length : Int) > 16777216 then (if (bt424.1.length : Int) = 0 then (some (bt424.2 == 130)) else (some false)) else (if bt424.2 = 0 then (if (bt424.1.length : Int) = 0 then (sapperlaw13_SuffixIndexes.j0 k l0 a1 l2 t417 bt424.1 true) else ((sapperref01_Kept.f t417 l0).bind fun t428 => (sapperlaw13_SuffixIndexes.j0 k l0 a1 l2 t417 bt424.1 (!t428)))) else (sapperlaw13_SuffixIndexes.j0 k l0 a1 l2 t417 bt424.1 true)))) = some r := by first | (rw [hy420]; with_reducible exact H) | (have H2_ := (Option.bind_some _ _).symm.trans H; rw [hy420]; with_reducible exact H2_) | (have H2_ := (Option.bind_some _ _).symm.trans H; with_reducible exact H2_) | with_reducible exact H | (rw [hy420]; exact H) | exact H
   have Ny420 := Aside0.mk hy420
   clear hy420
   replace H := Option.bind_eq_some_iff.mp H
   obtain ⟨⟨t424, t425⟩, A70, H⟩ := H
   replace H : (if (l0.length : Int) > 16777216 then (if (t424.length : Int) = 0 then (some (t425 == 130)) else (some false)) else (if t425 = 0 then (if (t424.length : Int) = 0 then (sapperlaw13_SuffixIndexes.j0 k l0 a1 l2 t417 t424 true) else ((sapperref01_Kept.f t417 l0).bind fun t428 => (sapperlaw13_SuffixIndexes.j0 k l0 a1 l2 t417 t424 (!t428)))) else (sapperlaw13_SuffixIndexes.j0 k l0 a1 l2 t417 t424 true))) = some r := H
   have A7 := Aside0.mk A70
   clear A70
   by_cases c8 : (l0.length : Int) > 16777216
   ·rw [if_pos c8] at H
    have c8b0 : decide (16777216 < (l0.length : Int)) = true := decide_eq_true c8
    have c8b1 : decide (16777216 < l0.length) = true := decide_eq_true (by omega)
    clear c8
    by_cases c9 : (t424.length : Int) = 0
    ·rw [if_pos c9] at H
     have c9b0 : ((t424.length : Int) == 0) = true := beq_iff_eq.mpr c9
     have c9b1 : ((t424.length : Int) != 0) = false := bne_eq_false_iff_eq.mpr c9
     clear c9
     obtain rfl := Option.some.inj H
     go_enter Try.func11, Try.ntmps11
     go_wp2_with (first | ((with_reducible refine gate_callee (f := 22) rfl ?_); refine goesL_ (some 27) rfl rfl Try.func22 (by kernel_rfl) rfl #[.slice A0 l0.length c0] rfl (by (try simp only [List.map_toArray, List.map_cons, List.map_nil]); first | done | rfl | (simp only [List.length_drop, List.length_take]; rfl)) ?_; (with_reducible refine (sapperref01_Lend.calls _ _ l0 t417 _ ?side1 ?side2 A4.out).mono ?_); (case side1 => exact HR0.out); (case side2 => exact HC0.out); rintro e w10 ⟨v418, rfl, ho0, hb⟩; refine ⟨_, rfl, ?_⟩; have n0_ := Aside0.mk (Kd.R_lower ho0 (below_size (by repeat first|(with_reducible first|exact HB.out|apply Qg|apply Qh|apply Qi)|exact HB.out))); have n1_ := Aside0.mk (below_step (by repeat first|(with_reducible first|exact HB.out|apply Qg|apply Qh|apply Qi)|exact HB.out) hb); clear HB; have HO419 := n0_; have HB := n1_; clear n0_ n1_; obtain ⟨Ao12, co12, eo12⟩ := Kd.R_slice HO419.out; subst eo12; have q11 : ((l0.length : Int) : Int) ≤ ((t417.length : Int) : Int) := Qt; obtain ⟨i011, hi011, _, hsz11, _⟩ := info_parts info5; have hroom11 : t417.length ≤ co12 := (Kd.R_reads' HO419.out).2.1; have hC11 : Kd.C (Kd.int .u8) _ Ao12 t417.length t417 := (Kd.R_reads' HO419.out).2.2; have hcut11 := cut_to (P := Try.prog) 23 5 .i64 Try.underlying23 hi011 Ao12 t417.length co12 (l0.length : Int) (Qt) q11 hroom11; have hr11 := Kd.C_take (m := ((l0.length : Int) : Int).toNat) hC11 (by omega); have hy11 : y420.length = ((l0.length : Int) : Int).toNat := (by rw [Ny420.out, List.length_take]; omega); rw [← Ny420.out] at hr11; rw [← hy11] at hcut11; have HR423 := Aside0.mk hr11; have HC423 := Aside0.mk (show y420.length ≤ co12 from by omega); clear hr11 hC11 hroom11 hi011 hsz11; have KY11 := Aside0.mk hy11; clear hy11; have hpc11 : cutOf (.slice Ao12 t417.length co12) l0.length = .slice Ao12 y420.length co12 := (by rw [KY11.out, Int.toNat_natCast]; rfl); have KL11 := Aside0.mk (show ((l0.length : Int) : Int).toNat ≤ t417.length from by omega); replace q11 := eq_true q11) | ((with_reducible refine gate_callee (f := 16) rfl ?_); refine goesL_ (some 32) rfl rfl Try.func16 (by kernel_rfl) rfl #[.slice Ao12 y420.length co12] rfl (by (try simp only [List.map_toArray, List.map_cons, List.map_nil]); first | done | rfl | (simp only [List.length_drop, List.length_take]; rfl)) ?_; (with_reducible refine (suffix_New.calls k _ _ y420 t424 t425 _ ?side1 ?side2 A7.out).mono ?_); (case side1 => repeat (first | exact (by repeat (first | (with_reducible exact HR423.out))))); (case side2 => exact HC423.out); rintro e w13 ⟨v426, rfl, ho0, hb⟩; refine ⟨_, rfl, ?_⟩; have n1_ := Aside0.mk (Kd.S_lower (Kd.S_new' ho0 (Kd.R_lt (by (with_reducible repeat first|apply Qa|apply Qb|apply Qc); exact HO419.out))) (below_size (by repeat first|(with_reducible first|exact HB.out|apply Qg|apply Qh|apply Qi)|exact HB.out))); have n3_ := Aside0.mk (below_step (by repeat first|(with_reducible first|exact HB.out|apply Qg|apply Qh|apply Qi)|exact HB.out) hb); clear HB; have HO427 := n1_; have HB := n3_; clear n1_ n3_; obtain ⟨Ao14, co14, eo14⟩ := Kd.S_slice HO427.out; subst eo14))
     go_ret
     exact ⟨rfl, by repeat first|(with_reducible first|exact HB.out|apply Qg|apply Qh|apply Qi)|exact HB.out⟩
    ·rw [if_neg c9] at H
     have c9b0 : ((t424.length : Int) == 0) = false := beq_eq_false_iff_ne.mpr c9
     have c9b1 : ((t424.length : Int) != 0) = true := bne_iff_ne.mpr c9
     have c9b2 : ¬ (t424 = []) := fun h_ => c9 (by rw [h_]; rfl)
     obtain rfl := Option.some.inj H
     go_enter Try.func11, Try.ntmps11
     go_wp2_with (first | ((with_reducible refine gate_callee (f := 22) rfl ?_); refine goesL_ (some 27) rfl rfl Try.func22 (by kernel_rfl) rfl #[.slice A0 l0.length c0] rfl (by (try simp only [List.map_toArray, List.map_cons, List.map_nil]); first | done | rfl | (simp only [List.length_drop, List.length_take]; rfl)) ?_; (with_reducible refine (sapperref01_Lend.calls _ _ l0 t417 _ ?side1 ?side2 A4.out).mono ?_); (case side1 => exact HR0.out); (case side2 => exact HC0.out); rintro e w15 ⟨v418, rfl, ho0, hb⟩; refine ⟨_, rfl, ?_⟩; have n0_ := Aside0.mk (Kd.R_lower ho0 (below_size (by repeat first|(with_reducible first|exact HB.out|apply Qg|apply Qh|apply Qi)|exact HB.out))); have n1_ := Aside0.mk (below_step (by repeat first|(with_reducible first|exact HB.out|apply Qg|apply Qh|apply Qi)|exact HB.out) hb); clear HB; have HO419 := n0_; have HB := n1_; clear n0_ n1_; obtain ⟨Ao17, co17, eo17⟩ := Kd.R_slice HO419.out; subst eo17; have q16 : ((l0.length : Int) : Int) ≤ ((t417.length : Int) : Int) := Qt; obtain ⟨i016, hi016, _, hsz16, _⟩ := info_parts info5; have hroom16 : t417.length ≤ co17 := (Kd.R_reads' HO419.out).2.1; have hC16 : Kd.C (Kd.int .u8) _ Ao17 t417.length t417 := (Kd.R_reads' HO419.out).2.2; have hcut16 := cut_to (P := Try.prog) 23 5 .i64 Try.underlying23 hi016 Ao17 t417.length co17 (l0.length : Int) (Qt) q16 hroom16; have hr16 := Kd.C_take (m := ((l0.length : Int) : Int).toNat) hC16 (by omega); have hy16 : y420.length = ((l0.length : Int) : Int).toNat := (by rw [Ny420.out, List.length_take]; omega); rw [← Ny420.out] at hr16; rw [← hy16] at hcut16; have HR423 := Aside0.mk hr16; have HC423 := Aside0.mk (show y420.length ≤ co17 from by omega); clear hr16 hC16 hroom16 hi016 hsz16; have KY16 := Aside0.mk hy16; clear hy16; have hpc16 : cutOf (.slice Ao17 t417.length co17) l0.length = .slice Ao17 y420.length co17 := (by rw [KY16.out, Int.toNat_natCast]; rfl); have KL16 := Aside0.mk (show ((l0.length : Int) : Int).toNat ≤ t417.length from by omega); replace q16 := eq_true q16) | ((with_reducible refine gate_callee (f := 16) rfl ?_); refine goesL_ (some 32) rfl rfl Try.func16 (by kernel_rfl) rfl #[.slice Ao17 y420.length co17] rfl (by (try simp only [List.map_toArray, List.map_cons, List.map_nil]); first | done | rfl | (simp only [List.length_drop, List.length_take]; rfl)) ?_; (with_reducible refine (suffix_New.calls k _ _ y420 t424 t425 _ ?side1 ?side2 A7.out).mono ?_); (case side1 => repeat (first | exact (by repeat (first | (with_reducible exact HR423.out))))); (case side2 => exact HC423.out); rintro e w18 ⟨v426, rfl, ho0, hb⟩; refine ⟨_, rfl, ?_⟩; have n1_ := Aside0.mk (Kd.S_lower (Kd.S_new' ho0 (Kd.R_lt (by (with_reducible repeat first|apply Qa|apply Qb|apply Qc); exact HO419.out))) (below_size (by repeat first|(with_reducible first|exact HB.out|apply Qg|apply Qh|apply Qi)|exact HB.out))); have n3_ := Aside0.mk (below_step (by repeat first|(with_reducible first|exact HB.out|apply Qg|apply Qh|apply Qi)|exact HB.out) hb); clear HB; have HO427 := n1_; have HB := n3_; clear n1_ n3_; obtain ⟨Ao19, co19, eo19⟩ := Kd.S_slice HO427.out; subst eo19))
     go_ret
     exact ⟨rfl, by repeat first|(with_reducible first|exact HB.out|apply Qg|apply Qh|apply Qi)|exact HB.out⟩
   ·rw [if_neg c8] at H
    have c8b0 : decide (16777216 < (l0.length : Int)) = false := decide_eq_false c8
    have c8b1 : decide (16777216 < l0.length) = false := decide_eq_false (by omega)
    clear c8
    have HC20 := Aside0.mk H
    clear H
    go_enter Try.func11, Try.ntmps11
    go_upto_region 5 with (first | ((with_reducible refine gate_callee (f := 22) rfl ?_); refine goesL_ (some 27) rfl rfl Try.func22 (by kernel_rfl) rfl #[.slice A0 l0.length c0] rfl (by (try simp only [List.map_toArray, List.map_cons, List.map_nil]); first | done | rfl | (simp only [List.length_drop, List.length_take]; rfl)) ?_; (with_reducible refine (sapperref01_Lend.calls _ _ l0 t417 _ ?side1 ?side2 A4.out).mono ?_); (case side1 => exact HR0.out); (case side2 => exact HC0.out); rintro e w21 ⟨v418, rfl, ho0, hb⟩; refine ⟨_, rfl, ?_⟩; have n0_ := Aside0.mk (Kd.R_lower ho0 (below_size (by repeat first|(with_reducible first|exact HB.out|apply Qg|apply Qh|apply Qi)|exact HB.out))); have n1_ := Aside0.mk (below_step (by repeat first|(with_reducible first|exact HB.out|apply Qg|apply Qh|apply Qi)|exact HB.out) hb); clear HB; have HO419 := n0_; have HB := n1_; clear n0_ n1_; obtain ⟨Ao23, co23, eo23⟩ := Kd.R_slice HO419.out; subst eo23; have q22 : ((l0.length : Int) : Int) ≤ ((t417.length : Int) : Int) := Qt; obtain ⟨i022, hi022, _, hsz22, _⟩ := info_parts info5; have hroom22 : t417.length ≤ co23 := (Kd.R_reads' HO419.out).2.1; have hC22 : Kd.C (Kd.int .u8) _ Ao23 t417.length t417 := (Kd.R_reads' HO419.out).2.2; have hcut22 := cut_to (P := Try.prog) 23 5 .i64 Try.underlying23 hi022 Ao23 t417.length co23 (l0.length : Int) (Qt) q22 hroom22; have hr22 := Kd.C_take (m := ((l0.length : Int) : Int).toNat) hC22 (by omega); have hy22 : y420.length = ((l0.length : Int) : Int).toNat := (by rw [Ny420.out, List.length_take]; omega); rw [← Ny420.out] at hr22; rw [← hy22] at hcut22; have HR423 := Aside0.mk hr22; have HC423 := Aside0.mk (show y420.length ≤ co23 from by omega); clear hr22 hC22 hroom22 hi022 hsz22; have KY22 := Aside0.mk hy22; clear hy22; have hpc22 : cutOf (.slice Ao23 t417.length co23) l0.length = .slice Ao23 y420.length co23 := (by rw [KY22.out, Int.toNat_natCast]; rfl); have KL22 := Aside0.mk (show ((l0.length : Int) : Int).toNat ≤ t417.length from by omega); replace q22 := eq_true q22) | ((with_reducible refine gate_callee (f := 16) rfl ?_); refine goesL_ (some 32) rfl rfl Try.func16 (by kernel_rfl) rfl #[.slice Ao23 y420.length co23] rfl (by (try simp only [List.map_toArray, List.map_cons, List.map_nil]); first | done | rfl | (simp only [List.length_drop, List.length_take]; rfl)) ?_; (with_reducible refine (suffix_New.calls k _ _ y420 t424 t425 _ ?side1 ?side2 A7.out).mono ?_); (case side1 => repeat (first | exact (by repeat (first | (with_reducible exact HR423.out))))); (case side2 => exact HC423.out); rintro e w24 ⟨v426, rfl, ho0, hb⟩; refine ⟨_, rfl, ?_⟩; have n0_ := Aside0.mk (Kd.R_below (by (with_reducible repeat first|apply Qa|apply Qb|apply Qc); exact HO419.out) hb); have n1_ := Aside0.mk (Kd.S_lower (Kd.S_new' ho0 (Kd.R_lt (by (with_reducible repeat first|apply Qa|apply Qb|apply Qc); exact HO419.out))) (below_size (by repeat first|(with_reducible first|exact HB.out|apply Qg|apply Qh|apply Qi)|exact HB.out))); have n2_ := Aside0.mk (Kd.C_below (by repeat (first | (with_reducible exact HR423.out))) hb); have n3_ := Aside0.mk (below_step (by repeat first|(with_reducible first|exact HB.out|apply Qg|apply Qh|apply Qi)|exact HB.out) hb); clear HO419; clear HR423; clear HB; have HO419 := n0_; have HO427 := n1_; have HR423 := n2_; have HB := n3_; clear n0_ n1_ n2_ n3_))
    (try simp only [Act.put, List.setIfInBounds_toArray, List.set_cons_zero, List.set_cons_succ])
    go_cut [55] (fun v55 wc => ∃ (kq : Nat) (x55_19 : Bool), v55 = .bool x55_19 ∧ Aside0 (sapperlaw13_SuffixIndexes.j0 kq l0 a1 l2 t417 t424 x55_19 = some r) ∧ Aside0 (kq ≤ k) ∧ Aside0 (Kd.R (Kd.int .u8) 5 wc w.heap.size (fun _ => True) (.slice Ao23 t417.length co23) t417) ∧ Aside0 (Kd.S k82 82 wc w.heap.size (fun k_ => some k_ ≠ ((.slice Ao23 t417.length co23) : Value).ownBlock) v426 t424) ∧ Aside0 (Kd.C (Kd.int .u8) wc Ao23 y420.length y420) ∧ Aside0 (Below w.heap.size w wc))
    case first => as_aux_lemma =>
     have H := HC20.out
     clear HC20
     by_cases c25 : t425 = 0
     ·rw [if_pos c25] at H
      have c25b0 : (t425 == 0) = true := beq_iff_eq.mpr c25
      have c25b1 : (t425 != 0) = false := bne_eq_false_iff_eq.mpr c25
      clear c25
      (first | rw [c25b0] | rw [c25b1] | (simp only [i64_w, i32_w]; rw [c25b0]) | skip)
      by_cases c26 : (t424.length : Int) = 0
      ·rw [if_pos c26] at H
       have c26b0 : ((t424.length : Int) == 0) = true := beq_iff_eq.mpr c26
       have c26b1 : ((t424.length : Int) != 0) = false := bne_eq_false_iff_eq.mpr c26
       clear c26
       have H' := Aside0.mk H
       clear H
       obtain ⟨Ao27, co27, eo27⟩ := Kd.S_slice HO427.out
       subst eo27
       go_wp2
       go_meet
       case rel => exact ⟨_, (true), (by first | rfl | (simp; done) | (simp [*]; done)), H', ⟨by first | omega | exact Nat.le_refl _⟩, ⟨by (with_reducible repeat first|apply Qa|apply Qb|apply Qc); exact HO419.out⟩, ⟨by (with_reducible repeat (first | apply Kd.S_alloc | apply Kd.S_drewN | apply Kd.S_drew)); exact Kd.S_mono HO427.out (fun _ hk => hk.2)⟩, ⟨by repeat (first | (with_reducible exact HR423.out))⟩, ⟨by repeat first|(with_reducible first|exact HB.out|apply Qg|apply Qh|apply Qi)|exact HB.out⟩⟩
      ·rw [if_neg c26] at H
       have c26b0 : ((t424.length : Int) == 0) = false := beq_eq_false_iff_ne.mpr c26
       have c26b1 : ((t424.length : Int) != 0) = true := bne_iff_ne.mpr c26
       have c26b2 : ¬ (t424 = []) := fun h_ => c26 (by rw [h_]; rfl)
       replace H := Option.bind_eq_some_iff.mp H
       obtain ⟨t428, A280, H⟩ := H
       replace H : (sapperlaw13_SuffixIndexes.j0 k l0 a1 l2 t417 t424 (!t428)) = some r := H
       have A28 := Aside0.mk A280
       clear A280
       have H' := Aside0.mk H
       clear H
       obtain ⟨Ao29, co29, eo29⟩ := Kd.S_slice HO427.out
       subst eo29
       go_wp2_with (first | (go_at_call 27; (with_reducible refine (sapperref01_Kept.calls _ _ t417 _ _ l0 t428 _ ?side1 ?side2 ?side3 ?side4 A28.out).mono ?_); (case side1 => exact (Kd.R_reads' HO419.out).2.2); (case side2 => exact (Kd.R_reads' HO419.out).2.1); (case side3 => exact (Kd.C_below HR0.out HB.out)); (case side4 => exact HC0.out); rintro e w30 ⟨rfl, hb⟩; have n0_ := Aside0.mk (Kd.R_below (by (with_reducible repeat first|apply Qa|apply Qb|apply Qc); exact HO419.out) hb); have n1_ := Aside0.mk (Kd.S_below (by (with_reducible repeat (first | apply Kd.S_alloc | apply Kd.S_drewN | apply Kd.S_drew)); exact HO427.out) hb); have n2_ := Aside0.mk (Kd.C_below (by repeat (first | (with_reducible exact HR423.out))) hb); have n3_ := Aside0.mk (below_step (by repeat first|(with_reducible first|exact HB.out|apply Qg|apply Qh|apply Qi)|exact HB.out) hb); clear HO419; clear HO427; clear HR423; clear HB; have HO419 := n0_; have HO427 := n1_; have HR423 := n2_; have HB := n3_; clear n0_ n1_ n2_ n3_))
       go_meet
       case rel => exact ⟨_, (!t428), (by first | rfl | (simp; done) | (simp [*]; done)), H', ⟨by first | omega | exact Nat.le_refl _⟩, ⟨by (with_reducible repeat first|apply Qa|apply Qb|apply Qc); exact HO419.out⟩, ⟨by (with_reducible repeat (first | apply Kd.S_alloc | apply Kd.S_drewN | apply Kd.S_drew)); exact Kd.S_mono HO427.out (fun _ hk => hk.2)⟩, ⟨by repeat (first | (with_reducible exact HR423.out))⟩, ⟨by repeat first|(with_reducible first|exact HB.out|apply Qg|apply Qh|apply Qi)|exact HB.out⟩⟩
     ·rw [if_neg c25] at H
      have c25b0 : (t425 == 0) = false := beq_eq_false_iff_ne.mpr c25
      have c25b1 : (t425 != 0) = true := bne_iff_ne.mpr c25
      (first | rw [c25b0] | rw [c25b1] | (simp only [i64_w, i32_w]; rw [c25b0]) | skip)
      have H' := Aside0.mk H
      clear H
      go_wp2
      go_meet
      case rel => exact ⟨_, (true), (by first | rfl | (simp; done) | (simp [*]; done)), H', ⟨by first | omega | exact Nat.le_refl _⟩, ⟨by (with_reducible repeat first|apply Qa|apply Qb|apply Qc); exact HO419.out⟩, ⟨by (with_reducible repeat (first | apply Kd.S_alloc | apply Kd.S_drewN | apply Kd.S_drew)); exact Kd.S_mono HO427.out (fun _ hk => hk.2)⟩, ⟨by repeat (first | (with_reducible exact HR423.out))⟩, ⟨by repeat first|(with_reducible first|exact HB.out|apply Qg|apply Qh|apply Qi)|exact HB.out⟩⟩
    case rest => as_aux_lemma =>
     clear HC20
     obtain ⟨kq, x55_19, rfl, HA, HJ19, HO_7, HO_9, HR423, HB⟩ := hcut
     cases kq with
     | zero => exact absurd HA.out (by simp [sapperlaw13_SuffixIndexes.j0])
     | succ kj19 =>
      have H := HA.out
      clear HA
      simp only [sapperlaw13_SuffixIndexes.j0] at H
      by_cases c31 : x55_19 = true
      ·subst c31
       have H1 : (some false) = some r := by rw [if_pos rfl] at H; exact H
       clear H
       have H := H1
       clear H1
       obtain rfl := Option.some.inj H
       go_wp2
       go_ret
       exact ⟨rfl, by repeat first|(with_reducible first|exact HB.out|apply Qg|apply Qh|apply Qi)|exact HB.out⟩
      ·replace c31 := Bool.eq_false_iff.mpr c31
       subst c31
       have H1 : (sapperlaw13_SuffixIndexes.l0 kj19 l0 a1 l2 t417 t424 (t417.length : Int) 0) = some r := by rw [if_neg (show ¬ (false = true) by decide)] at H; exact H
       clear H
       have H := H1
       clear H1
       have H' := Aside0.mk H
       clear H
       go_wp2
       go_loopg [58] kj19 (fun kq v58 w' => ∃ (x7_2 : List Int) (x58_2 : Int), v58 = .int .i64 x58_2 ∧ Aside0 (sapperlaw13_SuffixIndexes.l0 kq l0 a1 l2 x7_2 t424 (t417.length : Int) x58_2 = some r) ∧ Aside0 (kq ≤ kj19) ∧ Aside0 (Kd.R (Kd.int .u8) 5 w' w.heap.size (fun _ => True) (.slice Ao23 t417.length co23) x7_2) ∧ Aside0 (Kd.S k82 82 w' w.heap.size (fun k_ => some k_ ≠ ((.slice Ao23 t417.length co23) : Value).ownBlock) v426 t424) ∧ Aside0 (Below w.heap.size w w'))
       case atStart => exact ⟨(t417), (0), (by first | rfl | (simp; done) | (simp [*]; done)), H', ⟨Nat.le_refl _⟩, ⟨by (with_reducible repeat first|apply Qa|apply Qb|apply Qc); exact HO_7.out⟩, ⟨by (with_reducible repeat (first | apply Kd.S_alloc | apply Kd.S_drewN | apply Kd.S_drew)); exact HO_9.out⟩, ⟨by repeat first|(with_reducible first|exact HB.out|apply Qg|apply Qh|apply Qi)|exact HB.out⟩⟩
       case round => as_aux_lemma =>
        clear H'
        obtain ⟨x7_2, x58_2, rfl, HA, HK2, HO_7, HO_9, HB⟩ := hrel
        have hl7_2 := (Kd.R_reads' HO_7.out).1
        rw [hl7_2] at HO_7
        (try simp only [hl7_2])
        (try simp only [hl7_2] at HO_9)
        cases gk with
        | zero => exact absurd HA.out (by simp [sapperlaw13_SuffixIndexes.l0])
        | succ k2 =>
         have H := HA.out
         clear HA
         simp only [sapperlaw13_SuffixIndexes.l0] at H
         by_cases c32 : x58_2 < (t417.length : Int)
         ·rw [if_pos c32] at H
          have c32b0 : decide (x58_2 < (t417.length : Int)) = true := decide_eq_true c32
          clear c32
          by_cases c33 : 0 ≤ x58_2
          ·rw [if_pos c33] at H
           have c33b0 : decide (0 ≤ x58_2) = true := decide_eq_true c33
           clear c33
           by_cases c34 : x58_2 < (x7_2.length : Int)
           ·rw [if_pos c34] at H
            have c34b0 : decide (x58_2 < (x7_2.length : Int)) = true := decide_eq_true c34
            clear c34
            obtain ⟨y429, hy429⟩ : ∃ y_ : List Int, y_ = (x7_2.set (x58_2 : Int).toNat 7) := ⟨_, rfl⟩
            replace H : (sapperlaw13_SuffixIndexes.l0 k2 l0 a1 l2 y429 t424 (t417.length : Int) (wrap64 (x58_2 + 1))) = some r := by first | (rw [hy429]; with_reducible exact H) | (have H2_ := (Option.bind_some _ _).symm.trans H; rw [hy429]; with_reducible exact H2_) | (have H2_ := (Option.bind_some _ _).symm.trans H; with_reducible exact H2_) | with_reducible exact H | (rw [hy429]; exact H) | exact H
            have Ny429 := Aside0.mk hy429
            clear hy429
            have H' := Aside0.mk H
            clear H
            have p35 : 0 ≤ (x58_2 : Int) := Qt
            have q35 : (x58_2 : Int) < ((x7_2.length : Int) : Int) := Qt
            obtain ⟨go35, co35, eo35, gb35, gl35, cl35, HG35⟩ := Kd.R_form HO_7.out (by omega)
            (first | cases eo35 | (injection eo35 with ea_ en_ ec_; (first | subst ea_ | (injection ea_ with ea_; subst ea_)); subst ec_; clear en_))
            have GB35 := Aside0.mk gb35
            have GG35 := Aside0.mk HG35
            clear gb35 gl35 HG35
            obtain ⟨hx35_0, hf35_0⟩ := Kd.R_celln 0 HO_7.out (x58_2 : Int) p35 q35
            replace p35 := eq_true p35
            replace q35 := eq_true q35
            have HP36 := Kd.R_putg HO_7.out (x58_2 : Int) 7
            go_wp2_with (first | ((with_reducible refine gate_store (t := 5) (p := 63) rfl ?_); refine store_event (t := 5) (p := 63) (v := ?vo_w37) (w1 := (wr.setCell ⟨go35, (x58_2 : Int).toNat, none⟩ (.int .u8 7))) ?hg ?ho ?hn ?hr ?_; (case ho => rfl); (case hg => rfl); (case hn => rfl); (case hr => first | (go_simp; done) | (go_simp; rfl)); intro w37 hw; have hg : wr.grownBy w37 (some go35) := (by rw [hw]; exact HP36.2); have hp_ : Kd.R (Kd.int .u8) 5 w37 w.heap.size (fun _ => True) (.slice (some ⟨go35, 0, none⟩) x7_2.length co23) y429 := (by rw [hw, Ny429.out]; exact HP36.1); clear HP36; have n0_ := Aside0.mk (hp_); have n1_ := Aside0.mk (Kd.S_after (v := (.slice (some ⟨go35, 0, none⟩) x7_2.length co23)) (v1 := (.slice (some ⟨go35, 0, none⟩) x7_2.length co23)) (ok := (fun _ => True)) (by (with_reducible repeat (first | apply Kd.S_alloc | apply Kd.S_drewN | apply Kd.S_drew)); exact Kd.S_mono HO_9.out (fun _ hk => ⟨trivial, hk⟩)) hg (.inl rfl)); have n2_ := Aside0.mk ((by rw [hw]; exact below_set (HB.out) GB35.out : Below w.heap.size w w37)); clear HO_7; clear HO_9; clear HB; have HO_7 := n0_; have HO_9 := n1_; have HB := n2_; clear n0_ n1_ n2_; clear hg hw hp_))
            (try simp only [← hl7_2])
            go_roundg k2
            case measure => have := HJ19.out; have := HK2.out; omega
            case rel => exact ⟨(y429), (wrap64 (x58_2 + 1)), (by first | rfl | (simp; done) | (simp [*]; done)), H', ⟨by have := HJ19.out; have := HK2.out; omega⟩, ⟨by (try simp only [hl7_2]); (with_reducible repeat first|apply Qa|apply Qb|apply Qc); exact HO_7.out⟩, ⟨by (try simp only [hl7_2]); (with_reducible repeat (first | apply Kd.S_alloc | apply Kd.S_drewN | apply Kd.S_drew)); exact Kd.S_mono HO_9.out (fun _ hk => hk.2)⟩, ⟨by repeat first|(with_reducible first|exact HB.out|apply Qg|apply Qh|apply Qi)|exact HB.out⟩⟩
           ·rw [if_neg c34] at H
            exact absurd H (by simp)
          ·rw [if_neg c33] at H
           exact absurd H (by simp)
         ·rw [if_neg c32] at H
          have c32b0 : decide (x58_2 < (t417.length : Int)) = false := decide_eq_false c32
          (try rw [hl7_2] at c32b0)
          clear c32
          replace H := Option.bind_eq_some_iff.mp H
          obtain ⟨t430, A380, H⟩ := H
          replace H : ((suffix_Index_Len.f t424).bind fun t433 => (if t433 = (l0.length : Int) then ((suffix_Index_Data.f t424).bind fun t434 => ((sapperref01_Same.f t434 l0).bind fun t437 => (if t437 = true then ((suffix_Index_Array.f t424).bind fun t438 => ((sapperlaw13_same.f k2 t438 t430).bind fun t441 => (if t441 = true then ((suffix_Index_Lcp.f t424).bind fun t442 => ((sapperref13_Lcp.f k2 l0).bind fun t445 => ((sapperlaw13_same.f k2 t442 t445).bind fun t448 => (if t448 = true then ((sapperlaw13_own.f k2 t424).bind fun t449 => (sapperlaw13_SuffixIndexes.j2 k2 l0 a1 l2 t424 t430 (!t449))) else (sapperlaw13_SuffixIndexes.j2 k2 l0 a1 l2 t424 t430 true))))) else (sapperlaw13_SuffixIndexes.j2 k2 l0 a1 l2 t424 t430 true)))) else (sapperlaw13_SuffixIndexes.j2 k2 l0 a1 l2 t424 t430 true)))) else (sapperlaw13_SuffixIndexes.j2 k2 l0 a1 l2 t424 t430 true))) = some r := H
          have A38 := Aside0.mk A380
          clear A380
          have HC39 := Aside0.mk H
          clear H
          go_upto_region 13 with (first | ((with_reducible refine gate_callee (f := 28) rfl ?_); refine goesL_ (some 66) rfl rfl Try.func28 (by kernel_rfl) rfl #[.slice A0 l0.length c0] rfl (by (try simp only [List.map_toArray, List.map_cons, List.map_nil]); first | done | rfl | (simp only [List.length_drop, List.length_take]; rfl)) ?_; (with_reducible refine (sapperref13_Array.calls k2 _ _ l0 t430 _ ?side1 ?side2 A38.out).mono ?_); (case side1 => exact (Kd.C_below HR0.out HB.out)); (case side2 => exact HC0.out); rintro e w40 ⟨v431, rfl, ho0, hb⟩; refine ⟨_, rfl, ?_⟩; have n0_ := Aside0.mk (Kd.R_below (by (with_reducible repeat first|apply Qa|apply Qb|apply Qc); exact HO_7.out) hb); have n1_ := Aside0.mk (Kd.S_elder' (by (with_reducible repeat (first | apply Kd.S_alloc | apply Kd.S_drewN | apply Kd.S_drew)); exact HO_9.out) (Kd.R_base ho0) hb); have n2_ := Aside0.mk (Kd.R_lower ho0 (below_size (by repeat first|(with_reducible first|exact HB.out|apply Qg|apply Qh|apply Qi)|exact HB.out))); have n3_ := Aside0.mk (below_step (by repeat first|(with_reducible first|exact HB.out|apply Qg|apply Qh|apply Qi)|exact HB.out) hb); clear HO_7; clear HO_9; clear HB; have HO_7 := n0_; have HO_9 := n1_; have HO432 := n2_; have HB := n3_; clear n0_ n1_ n2_ n3_))
          (try simp only [Act.put, List.setIfInBounds_toArray, List.set_cons_zero, List.set_cons_succ])
          go_cut [98] (fun v98 wc => ∃ (kq : Nat) (x98_38 : Bool), v98 = .bool x98_38 ∧ Aside0 (sapperlaw13_SuffixIndexes.j2 kq l0 a1 l2 t424 t430 x98_38 = some r) ∧ Aside0 (kq ≤ k2) ∧ Aside0 (Kd.S k82 82 wc w.heap.size (fun k_ => some k_ ≠ (v431 : Value).ownBlock) v426 t424) ∧ Aside0 (Kd.R (Kd.int .i64) 3 wc w.heap.size (fun _ => True) v431 t430) ∧ Aside0 (Below w.heap.size w wc))
          case first => as_aux_lemma =>
           have H := HC39.out
           clear HC39
           replace H := Option.bind_eq_some_iff.mp H
           obtain ⟨t433, A410, H⟩ := H
           replace H : (if t433 = (l0.length : Int) then ((suffix_Index_Data.f t424).bind fun t434 => ((sapperref01_Same.f t434 l0).bind fun t437 => (if t437 = true then ((suffix_Index_Array.f t424).bind fun t438 => ((sapperlaw13_same.f k2 t438 t430).bind fun t441 => (if t441 = true then ((suffix_Index_Lcp.f t424).bind fun t442 => ((sapperref13_Lcp.f k2 l0).bind fun t445 => ((sapperlaw13_same.f k2 t442 t445).bind fun t448 => (if t448 = true then ((sapperlaw13_own.f k2 t424).bind fun t449 => (sapperlaw13_SuffixIndexes.j2 k2 l0 a1 l2 t424 t430 (!t449))) else (sapperlaw13_SuffixIndexes.j2 k2 l0 a1 l2 t424 t430 true))))) else (sapperlaw13_SuffixIndexes.j2 k2 l0 a1 l2 t424 t430 true)))) else (sapperlaw13_SuffixIndexes.j2 k2 l0 a1 l2 t424 t430 true)))) else (sapperlaw13_SuffixIndexes.j2 k2 l0 a1 l2 t424 t430 true)) = some r := H
           have A41 := Aside0.mk A410
           clear A410
           by_cases c42 : t433 = (l0.length : Int)
           ·rw [if_pos c42] at H
            have c42b0 : (t433 == (l0.length : Int)) = true := beq_iff_eq.mpr c42
            have c42b1 : (t433 != (l0.length : Int)) = false := bne_eq_false_iff_eq.mpr c42
            clear c42
            (first | rw [c42b0] | rw [c42b1] | (simp only [i64_w, i32_w]; rw [c42b0]) | skip)
            replace H := Option.bind_eq_some_iff.mp H
            obtain ⟨t434, A430, H⟩ := H
            replace H : ((sapperref01_Same.f t434 l0).bind fun t437 => (if t437 = true then ((suffix_Index_Array.f t424).bind fun t438 => ((sapperlaw13_same.f k2 t438 t430).bind fun t441 => (if t441 = true then ((suffix_Index_Lcp.f t424).bind fun t442 => ((sapperref13_Lcp.f k2 l0).bind fun t445 => ((sapperlaw13_same.f k2 t442 t445).bind fun t448 => (if t448 = true then ((sapperlaw13_own.f k2 t424).bind fun t449 => (sapperlaw13_SuffixIndexes.j2 k2 l0 a1 l2 t424 t430 (!t449))) else (sapperlaw13_SuffixIndexes.j2 k2 l0 a1 l2 t424 t430 true))))) else (sapperlaw13_SuffixIndexes.j2 k2 l0 a1 l2 t424 t430 true)))) else (sapperlaw13_SuffixIndexes.j2 k2 l0 a1 l2 t424 t430 true))) = some r := H
            have A43 := Aside0.mk A430
            clear A430
            replace H := Option.bind_eq_some_iff.mp H
            obtain ⟨t437, A440, H⟩ := H
            replace H : (if t437 = true then ((suffix_Index_Array.f t424).bind fun t438 => ((sapperlaw13_same.f k2 t438 t430).bind fun t441 => (if t441 = true then ((suffix_Index_Lcp.f t424).bind fun t442 => ((sapperref13_Lcp.f k2 l0).bind fun t445 => ((sapperlaw13_same.f k2 t442 t445).bind fun t448 => (if t448 = true then ((sapperlaw13_own.f k2 t424).bind fun t449 => (sapperlaw13_SuffixIndexes.j2 k2 l0 a1 l2 t424 t430 (!t449))) else (sapperlaw13_SuffixIndexes.j2 k2 l0 a1 l2 t424 t430 true))))) else (sapperlaw13_SuffixIndexes.j2 k2 l0 a1 l2 t424 t430 true)))) else (sapperlaw13_SuffixIndexes.j2 k2 l0 a1 l2 t424 t430 true)) = some r := H
            have A44 := Aside0.mk A440
            clear A440
            by_cases c45 : t437 = true
            ·subst c45
             have H1 : ((suffix_Index_Array.f t424).bind fun t438 => ((sapperlaw13_same.f k2 t438 t430).bind fun t441 => (if t441 = true then ((suffix_Index_Lcp.f t424).bind fun t442 => ((sapperref13_Lcp.f k2 l0).bind fun t445 => ((sapperlaw13_same.f k2 t442 t445).bind fun t448 => (if t448 = true then ((sapperlaw13_own.f k2 t424).bind fun t449 => (sapperlaw13_SuffixIndexes.j2 k2 l0 a1 l2 t424 t430 (!t449))) else (sapperlaw13_SuffixIndexes.j2 k2 l0 a1 l2 t424 t430 true))))) else (sapperlaw13_SuffixIndexes.j2 k2 l0 a1 l2 t424 t430 true)))) = some r := by rw [if_pos rfl] at H; exact H
             clear H
             have H := H1
             clear H1
             replace H := Option.bind_eq_some_iff.mp H
             obtain ⟨t438, A460, H⟩ := H
             replace H : ((sapperlaw13_same.f k2 t438 t430).bind fun t441 => (if t441 = true then ((suffix_Index_Lcp.f t424).bind fun t442 => ((sapperref13_Lcp.f k2 l0).bind fun t445 => ((sapperlaw13_same.f k2 t442 t445).bind fun t448 => (if t448 = true then ((sapperlaw13_own.f k2 t424).bind fun t449 => (sapperlaw13_SuffixIndexes.j2 k2 l0 a1 l2 t424 t430 (!t449))) else (sapperlaw13_SuffixIndexes.j2 k2 l0 a1 l2 t424 t430 true))))) else (sapperlaw13_SuffixIndexes.j2 k2 l0 a1 l2 t424 t430 true))) = some r := H
             have A46 := Aside0.mk A460
             clear A460
             replace H := Option.bind_eq_some_iff.mp H
             obtain ⟨t441, A470, H⟩ := H
             replace H : (if t441 = true then ((suffix_Index_Lcp.f t424).bind fun t442 => ((sapperref13_Lcp.f k2 l0).bind fun t445 => ((sapperlaw13_same.f k2 t442 t445).bind fun t448 => (if t448 = true then ((sapperlaw13_own.f k2 t424).bind fun t449 => (sapperlaw13_SuffixIndexes.j2 k2 l0 a1 l2 t424 t430 (!t449))) else (sapperlaw13_SuffixIndexes.j2 k2 l0 a1 l2 t424 t430 true))))) else (sapperlaw13_SuffixIndexes.j2 k2 l0 a1 l2 t424 t430 true)) = some r := H
             have A47 := Aside0.mk A470
             clear A470
             by_cases c48 : t441 = true
             ·subst c48
              have H1 : ((suffix_Index_Lcp.f t424).bind fun t442 => ((sapperref13_Lcp.f k2 l0).bind fun t445 => ((sapperlaw13_same.f k2 t442 t445).bind fun t448 => (if t448 = true then ((sapperlaw13_own.f k2 t424).bind fun t449 => (sapperlaw13_SuffixIndexes.j2 k2 l0 a1 l2 t424 t430 (!t449))) else (sapperlaw13_SuffixIndexes.j2 k2 l0 a1 l2 t424 t430 true))))) = some r := by rw [if_pos rfl] at H; exact H
              clear H
              have H := H1
              clear H1
              replace H := Option.bind_eq_some_iff.mp H
              obtain ⟨t442, A490, H⟩ := H
              replace H : ((sapperref13_Lcp.f k2 l0).bind fun t445 => ((sapperlaw13_same.f k2 t442 t445).bind fun t448 => (if t448 = true then ((sapperlaw13_own.f k2 t424).bind fun t449 => (sapperlaw13_SuffixIndexes.j2 k2 l0 a1 l2 t424 t430 (!t449))) else (sapperlaw13_SuffixIndexes.j2 k2 l0 a1 l2 t424 t430 true)))) = some r := H
              have A49 := Aside0.mk A490
              clear A490
              replace H := Option.bind_eq_some_iff.mp H
              obtain ⟨t445, A500, H⟩ := H
              replace H : ((sapperlaw13_same.f k2 t442 t445).bind fun t448 => (if t448 = true then ((sapperlaw13_own.f k2 t424).bind fun t449 => (sapperlaw13_SuffixIndexes.j2 k2 l0 a1 l2 t424 t430 (!t449))) else (sapperlaw13_SuffixIndexes.j2 k2 l0 a1 l2 t424 t430 true))) = some r := H
              have A50 := Aside0.mk A500
              clear A500
              replace H := Option.bind_eq_some_iff.mp H
              obtain ⟨t448, A510, H⟩ := H
              replace H : (if t448 = true then ((sapperlaw13_own.f k2 t424).bind fun t449 => (sapperlaw13_SuffixIndexes.j2 k2 l0 a1 l2 t424 t430 (!t449))) else (sapperlaw13_SuffixIndexes.j2 k2 l0 a1 l2 t424 t430 true)) = some r := H
              have A51 := Aside0.mk A510
              clear A510
              by_cases c52 : t448 = true
              ·subst c52
               have H1 : ((sapperlaw13_own.f k2 t424).bind fun t449 => (sapperlaw13_SuffixIndexes.j2 k2 l0 a1 l2 t424 t430 (!t449))) = some r := by rw [if_pos rfl] at H; exact H
               clear H
               have H := H1
               clear H1
               replace H := Option.bind_eq_some_iff.mp H
               obtain ⟨t449, A530, H⟩ := H
               replace H : (sapperlaw13_SuffixIndexes.j2 k2 l0 a1 l2 t424 t430 (!t449)) = some r := H
               have A53 := Aside0.mk A530
               clear A530
               have H' := Aside0.mk H
               clear H
               obtain ⟨Ao54, co54, eo54⟩ := Kd.S_slice HO_9.out
               subst eo54
               go_wp2_with (first | ((with_reducible refine gate_callee (f := 30) rfl ?_); refine goesL_ (some 68) rfl rfl Try.func30 (by kernel_rfl) rfl #[ptrOf (.slice Ao54 t424.length co54)] rfl (by (try simp only [List.map_toArray, List.map_cons, List.map_nil]); first | done | rfl | (simp only [List.length_drop, List.length_take]; rfl)) ?_; (with_reducible refine (suffix_Index_Len.calls _ _ t424 t433 _ ?side1 ?side2 A41.out).mono ?_); (case side1 => exact (Kd.S_reads' HO_9.out).2.2); (case side2 => exact (Kd.S_reads' HO_9.out).2.1); rintro e w' ⟨rfl, ⟨nd, rfl⟩⟩; refine ⟨_, rfl, ?_⟩) | (go_at_call 39; (with_reducible refine (suffix_Index_Data.calls _ _ t424 t434 _ ?side1 ?side2 A43.out).mono ?_); (case side1 => exact (Kd.S_reads' HO_9.out).2.2); (case side2 => exact (Kd.S_reads' HO_9.out).2.1); rintro e w55 ⟨v435, rfl, ho0, hb⟩; have n1_ := Aside0.mk (Kd.S_elder' (by (with_reducible repeat (first | apply Kd.S_alloc | apply Kd.S_drewN | apply Kd.S_drew)); exact HO_9.out) (Kd.R_base ho0) hb); have n2_ := Aside0.mk (Kd.R_below (by (with_reducible repeat first|apply Qa|apply Qb|apply Qc); exact HO432.out) hb); have n3_ := Aside0.mk (Kd.R_lower (Kd.R_new' ho0 (Kd.R_lt (by (with_reducible repeat first|apply Qa|apply Qb|apply Qc); exact HO_7.out))) (below_size (by repeat first|(with_reducible first|exact HB.out|apply Qg|apply Qh|apply Qi)|exact HB.out))); have n4_ := Aside0.mk (below_step (by repeat first|(with_reducible first|exact HB.out|apply Qg|apply Qh|apply Qi)|exact HB.out) hb); clear HO_9; clear HO432; clear HB; have HO_9 := n1_; have HO432 := n2_; have HO436 := n3_; have HB := n4_; clear n1_ n2_ n3_ n4_; obtain ⟨Ao56, co56, eo56⟩ := Kd.R_slice HO436.out; subst eo56) | (go_at_call 35; (with_reducible refine (sapperref01_Same.calls _ _ t434 _ _ l0 true _ ?side1 ?side2 ?side3 ?side4 A44.out).mono ?_); (case side1 => exact (Kd.R_reads' HO436.out).2.2); (case side2 => exact (Kd.R_reads' HO436.out).2.1); (case side3 => exact (Kd.C_below HR0.out HB.out)); (case side4 => exact HC0.out); rintro e w' ⟨rfl, ⟨nd, rfl⟩⟩) | (go_at_call 21; (with_reducible refine (suffix_Index_Array.calls _ _ t424 t438 _ ?side1 ?side2 A46.out).mono ?_); (case side1 => exact (Kd.S_reads' HO_9.out).2.2); (case side2 => exact (Kd.S_reads' HO_9.out).2.1); rintro e w57 ⟨v439, rfl, ho0, hb⟩; have n1_ := Aside0.mk (Kd.S_elder' (by (with_reducible repeat (first | apply Kd.S_alloc | apply Kd.S_drewN | apply Kd.S_drew)); exact HO_9.out) (Kd.R_base ho0) hb); have n2_ := Aside0.mk (Kd.R_elder' (by (with_reducible repeat first|apply Qa|apply Qb|apply Qc); exact HO432.out) (Kd.R_base ho0) hb); have n4_ := Aside0.mk (Kd.R_lower (Kd.R_new' ho0 (Kd.R_lt (by (with_reducible repeat first|apply Qa|apply Qb|apply Qc); exact HO432.out))) (below_size (by repeat first|(with_reducible first|exact HB.out|apply Qg|apply Qh|apply Qi)|exact HB.out))); have n5_ := Aside0.mk (below_step (by repeat first|(with_reducible first|exact HB.out|apply Qg|apply Qh|apply Qi)|exact HB.out) hb); clear HO_9; clear HO432; clear HB; have HO_9 := n1_; have HO432 := n2_; have HO440 := n4_; have HB := n5_; clear n1_ n2_ n4_ n5_; obtain ⟨Ao58, co58, eo58⟩ := Kd.R_slice HO440.out; subst eo58; obtain ⟨Ao59, co59, eo59⟩ := Kd.R_slice HO432.out; subst eo59) | (go_at_call 26; (with_reducible refine (sapperlaw13_same.calls k2 _ _ t438 _ _ t430 true _ ?side1 ?side2 ?side3 ?side4 A47.out).mono ?_); (case side1 => exact (Kd.R_reads' HO440.out).2.2); (case side2 => exact (Kd.R_reads' HO440.out).2.1); (case side3 => exact (Kd.R_reads' HO432.out).2.2); (case side4 => exact (Kd.R_reads' HO432.out).2.1); rintro e w' ⟨rfl, ⟨nd, rfl⟩⟩) | (go_at_call 20; (with_reducible refine (suffix_Index_Lcp.calls _ _ t424 t442 _ ?side1 ?side2 A49.out).mono ?_); (case side1 => exact (Kd.S_reads' HO_9.out).2.2); (case side2 => exact (Kd.S_reads' HO_9.out).2.1); rintro e w60 ⟨v443, rfl, ho0, hb⟩; have n1_ := Aside0.mk (Kd.S_elder' (by (with_reducible repeat (first | apply Kd.S_alloc | apply Kd.S_drewN | apply Kd.S_drew)); exact HO_9.out) (Kd.R_base ho0) hb); have n2_ := Aside0.mk (Kd.R_elder' (by (with_reducible repeat first|apply Qa|apply Qb|apply Qc); exact HO432.out) (Kd.R_base ho0) hb); have n4_ := Aside0.mk (Kd.R_elder' (by (with_reducible repeat first|apply Qa|apply Qb|apply Qc); exact HO440.out) (Kd.R_base ho0) hb); have n5_ := Aside0.mk (Kd.R_lower (Kd.R_new' (Kd.R_new' ho0 (Kd.R_lt (by (with_reducible repeat first|apply Qa|apply Qb|apply Qc); exact HO432.out))) (Kd.R_lt (by (with_reducible repeat first|apply Qa|apply Qb|apply Qc); exact HO440.out))) (below_size (by repeat first|(with_reducible first|exact HB.out|apply Qg|apply Qh|apply Qi)|exact HB.out))); have n6_ := Aside0.mk (below_step (by repeat first|(with_reducible first|exact HB.out|apply Qg|apply Qh|apply Qi)|exact HB.out) hb); clear HO_9; clear HO432; clear HO440; clear HB; have HO_9 := n1_; have HO432 := n2_; have HO440 := n4_; have HO444 := n5_; have HB := n6_; clear n1_ n2_ n4_ n5_ n6_) | (go_at_call 29; (with_reducible refine (sapperref13_Lcp.calls k2 _ _ l0 t445 _ ?side1 ?side2 A50.out).mono ?_); (case side1 => exact (Kd.C_below HR0.out HB.out)); (case side2 => exact HC0.out); rintro e w61 ⟨v446, rfl, ho0, hb⟩; have n1_ := Aside0.mk (Kd.S_elder' (by (with_reducible repeat (first | apply Kd.S_alloc | apply Kd.S_drewN | apply Kd.S_drew)); exact HO_9.out) (Kd.R_base ho0) hb); have n2_ := Aside0.mk (Kd.R_elder' (by (with_reducible repeat first|apply Qa|apply Qb|apply Qc); exact HO432.out) (Kd.R_base ho0) hb); have n5_ := Aside0.mk (Kd.R_elder' (by (with_reducible repeat first|apply Qa|apply Qb|apply Qc); exact HO444.out) (Kd.R_base ho0) hb); have n6_ := Aside0.mk (Kd.R_lower (Kd.R_new' (Kd.R_new' (Kd.R_new' ho0 (Kd.R_lt (by (with_reducible repeat first|apply Qa|apply Qb|apply Qc); exact HO432.out))) (Kd.R_lt (by (with_reducible repeat first|apply Qa|apply Qb|apply Qc); exact HO440.out))) (Kd.R_lt (by (with_reducible repeat first|apply Qa|apply Qb|apply Qc); exact HO444.out))) (below_size (by repeat first|(with_reducible first|exact HB.out|apply Qg|apply Qh|apply Qi)|exact HB.out))); have n7_ := Aside0.mk (below_step (by repeat first|(with_reducible first|exact HB.out|apply Qg|apply Qh|apply Qi)|exact HB.out) hb); clear HO_9; clear HO432; clear HO444; clear HB; have HO_9 := n1_; have HO432 := n2_; have HO444 := n5_; have HO447 := n6_; have HB := n7_; clear n1_ n2_ n5_ n6_ n7_; obtain ⟨Ao62, co62, eo62⟩ := Kd.R_slice HO444.out; subst eo62; obtain ⟨Ao63, co63, eo63⟩ := Kd.R_slice HO447.out; subst eo63) | (go_at_call 26; (with_reducible refine (sapperlaw13_same.calls k2 _ _ t442 _ _ t445 true _ ?side1 ?side2 ?side3 ?side4 A51.out).mono ?_); (case side1 => exact (Kd.R_reads' HO444.out).2.2); (case side2 => exact (Kd.R_reads' HO444.out).2.1); (case side3 => exact (Kd.R_reads' HO447.out).2.2); (case side4 => exact (Kd.R_reads' HO447.out).2.1); rintro e w' ⟨rfl, ⟨nd, rfl⟩⟩) | (go_at_call 40; (with_reducible refine (sapperlaw13_own.calls k2 _ _ t424 t449 _ ?side1 ?side2 A53.out).mono ?_); (case side1 => exact (Kd.S_reads' HO_9.out).2.2); (case side2 => exact (Kd.S_reads' HO_9.out).2.1); rintro e w64 ⟨rfl, hb⟩; have n1_ := Aside0.mk (Kd.S_below (by (with_reducible repeat (first | apply Kd.S_alloc | apply Kd.S_drewN | apply Kd.S_drew)); exact HO_9.out) hb); have n2_ := Aside0.mk (Kd.R_below (by (with_reducible repeat first|apply Qa|apply Qb|apply Qc); exact HO432.out) hb); have n7_ := Aside0.mk (below_step (by repeat first|(with_reducible first|exact HB.out|apply Qg|apply Qh|apply Qi)|exact HB.out) hb); clear HO_9; clear HO432; clear HB; have HO_9 := n1_; have HO432 := n2_; have HB := n7_; clear n1_ n2_ n7_))
               go_meet
               case rel => exact ⟨_, (!t449), (by first | rfl | (simp; done) | (simp [*]; done)), H', ⟨by have := HJ19.out; have := HK2.out; first | omega | exact Nat.le_refl _⟩, ⟨by (try simp only [hl7_2]); (with_reducible repeat (first | apply Kd.S_alloc | apply Kd.S_drewN | apply Kd.S_drew)); exact Kd.S_mono HO_9.out (fun _ hk => hk.1.1.1.1.2)⟩, ⟨by (try simp only [hl7_2]); (with_reducible repeat first|apply Qa|apply Qb|apply Qc); exact Kd.R_mono HO432.out (fun _ hk => trivial)⟩, ⟨by repeat first|(with_reducible first|exact HB.out|apply Qg|apply Qh|apply Qi)|exact HB.out⟩⟩
              ·replace c52 := Bool.eq_false_iff.mpr c52
               subst c52
               have H1 : (sapperlaw13_SuffixIndexes.j2 k2 l0 a1 l2 t424 t430 true) = some r := by rw [if_neg (show ¬ (false = true) by decide)] at H; exact H
               clear H
               have H := H1
               clear H1
               have H' := Aside0.mk H
               clear H
               obtain ⟨Ao65, co65, eo65⟩ := Kd.S_slice HO_9.out
               subst eo65
               go_wp2_with (first | ((with_reducible refine gate_callee (f := 30) rfl ?_); refine goesL_ (some 68) rfl rfl Try.func30 (by kernel_rfl) rfl #[ptrOf (.slice Ao65 t424.length co65)] rfl (by (try simp only [List.map_toArray, List.map_cons, List.map_nil]); first | done | rfl | (simp only [List.length_drop, List.length_take]; rfl)) ?_; (with_reducible refine (suffix_Index_Len.calls _ _ t424 t433 _ ?side1 ?side2 A41.out).mono ?_); (case side1 => exact (Kd.S_reads' HO_9.out).2.2); (case side2 => exact (Kd.S_reads' HO_9.out).2.1); rintro e w' ⟨rfl, ⟨nd, rfl⟩⟩; refine ⟨_, rfl, ?_⟩) | (go_at_call 39; (with_reducible refine (suffix_Index_Data.calls _ _ t424 t434 _ ?side1 ?side2 A43.out).mono ?_); (case side1 => exact (Kd.S_reads' HO_9.out).2.2); (case side2 => exact (Kd.S_reads' HO_9.out).2.1); rintro e w66 ⟨v435, rfl, ho0, hb⟩; have n1_ := Aside0.mk (Kd.S_elder' (by (with_reducible repeat (first | apply Kd.S_alloc | apply Kd.S_drewN | apply Kd.S_drew)); exact HO_9.out) (Kd.R_base ho0) hb); have n2_ := Aside0.mk (Kd.R_below (by (with_reducible repeat first|apply Qa|apply Qb|apply Qc); exact HO432.out) hb); have n3_ := Aside0.mk (Kd.R_lower (Kd.R_new' ho0 (Kd.R_lt (by (with_reducible repeat first|apply Qa|apply Qb|apply Qc); exact HO_7.out))) (below_size (by repeat first|(with_reducible first|exact HB.out|apply Qg|apply Qh|apply Qi)|exact HB.out))); have n4_ := Aside0.mk (below_step (by repeat first|(with_reducible first|exact HB.out|apply Qg|apply Qh|apply Qi)|exact HB.out) hb); clear HO_9; clear HO432; clear HB; have HO_9 := n1_; have HO432 := n2_; have HO436 := n3_; have HB := n4_; clear n1_ n2_ n3_ n4_; obtain ⟨Ao67, co67, eo67⟩ := Kd.R_slice HO436.out; subst eo67) | (go_at_call 35; (with_reducible refine (sapperref01_Same.calls _ _ t434 _ _ l0 true _ ?side1 ?side2 ?side3 ?side4 A44.out).mono ?_); (case side1 => exact (Kd.R_reads' HO436.out).2.2); (case side2 => exact (Kd.R_reads' HO436.out).2.1); (case side3 => exact (Kd.C_below HR0.out HB.out)); (case side4 => exact HC0.out); rintro e w' ⟨rfl, ⟨nd, rfl⟩⟩) | (go_at_call 21; (with_reducible refine (suffix_Index_Array.calls _ _ t424 t438 _ ?side1 ?side2 A46.out).mono ?_); (case side1 => exact (Kd.S_reads' HO_9.out).2.2); (case side2 => exact (Kd.S_reads' HO_9.out).2.1); rintro e w68 ⟨v439, rfl, ho0, hb⟩; have n1_ := Aside0.mk (Kd.S_elder' (by (with_reducible repeat (first | apply Kd.S_alloc | apply Kd.S_drewN | apply Kd.S_drew)); exact HO_9.out) (Kd.R_base ho0) hb); have n2_ := Aside0.mk (Kd.R_elder' (by (with_reducible repeat first|apply Qa|apply Qb|apply Qc); exact HO432.out) (Kd.R_base ho0) hb); have n4_ := Aside0.mk (Kd.R_lower (Kd.R_new' ho0 (Kd.R_lt (by (with_reducible repeat first|apply Qa|apply Qb|apply Qc); exact HO432.out))) (below_size (by repeat first|(with_reducible first|exact HB.out|apply Qg|apply Qh|apply Qi)|exact HB.out))); have n5_ := Aside0.mk (below_step (by repeat first|(with_reducible first|exact HB.out|apply Qg|apply Qh|apply Qi)|exact HB.out) hb); clear HO_9; clear HO432; clear HB; have HO_9 := n1_; have HO432 := n2_; have HO440 := n4_; have HB := n5_; clear n1_ n2_ n4_ n5_; obtain ⟨Ao69, co69, eo69⟩ := Kd.R_slice HO440.out; subst eo69; obtain ⟨Ao70, co70, eo70⟩ := Kd.R_slice HO432.out; subst eo70) | (go_at_call 26; (with_reducible refine (sapperlaw13_same.calls k2 _ _ t438 _ _ t430 true _ ?side1 ?side2 ?side3 ?side4 A47.out).mono ?_); (case side1 => exact (Kd.R_reads' HO440.out).2.2); (case side2 => exact (Kd.R_reads' HO440.out).2.1); (case side3 => exact (Kd.R_reads' HO432.out).2.2); (case side4 => exact (Kd.R_reads' HO432.out).2.1); rintro e w' ⟨rfl, ⟨nd, rfl⟩⟩) | (go_at_call 20; (with_reducible refine (suffix_Index_Lcp.calls _ _ t424 t442 _ ?side1 ?side2 A49.out).mono ?_); (case side1 => exact (Kd.S_reads' HO_9.out).2.2); (case side2 => exact (Kd.S_reads' HO_9.out).2.1); rintro e w71 ⟨v443, rfl, ho0, hb⟩; have n1_ := Aside0.mk (Kd.S_elder' (by (with_reducible repeat (first | apply Kd.S_alloc | apply Kd.S_drewN | apply Kd.S_drew)); exact HO_9.out) (Kd.R_base ho0) hb); have n2_ := Aside0.mk (Kd.R_elder' (by (with_reducible repeat first|apply Qa|apply Qb|apply Qc); exact HO432.out) (Kd.R_base ho0) hb); have n4_ := Aside0.mk (Kd.R_elder' (by (with_reducible repeat first|apply Qa|apply Qb|apply Qc); exact HO440.out) (Kd.R_base ho0) hb); have n5_ := Aside0.mk (Kd.R_lower (Kd.R_new' (Kd.R_new' ho0 (Kd.R_lt (by (with_reducible repeat first|apply Qa|apply Qb|apply Qc); exact HO432.out))) (Kd.R_lt (by (with_reducible repeat first|apply Qa|apply Qb|apply Qc); exact HO440.out))) (below_size (by repeat first|(with_reducible first|exact HB.out|apply Qg|apply Qh|apply Qi)|exact HB.out))); have n6_ := Aside0.mk (below_step (by repeat first|(with_reducible first|exact HB.out|apply Qg|apply Qh|apply Qi)|exact HB.out) hb); clear HO_9; clear HO432; clear HO440; clear HB; have HO_9 := n1_; have HO432 := n2_; have HO440 := n4_; have HO444 := n5_; have HB := n6_; clear n1_ n2_ n4_ n5_ n6_) | (go_at_call 29; (with_reducible refine (sapperref13_Lcp.calls k2 _ _ l0 t445 _ ?side1 ?side2 A50.out).mono ?_); (case side1 => exact (Kd.C_below HR0.out HB.out)); (case side2 => exact HC0.out); rintro e w72 ⟨v446, rfl, ho0, hb⟩; have n1_ := Aside0.mk (Kd.S_elder' (by (with_reducible repeat (first | apply Kd.S_alloc | apply Kd.S_drewN | apply Kd.S_drew)); exact HO_9.out) (Kd.R_base ho0) hb); have n2_ := Aside0.mk (Kd.R_elder' (by (with_reducible repeat first|apply Qa|apply Qb|apply Qc); exact HO432.out) (Kd.R_base ho0) hb); have n5_ := Aside0.mk (Kd.R_elder' (by (with_reducible repeat first|apply Qa|apply Qb|apply Qc); exact HO444.out) (Kd.R_base ho0) hb); have n6_ := Aside0.mk (Kd.R_lower (Kd.R_new' (Kd.R_new' (Kd.R_new' ho0 (Kd.R_lt (by (with_reducible repeat first|apply Qa|apply Qb|apply Qc); exact HO432.out))) (Kd.R_lt (by (with_reducible repeat first|apply Qa|apply Qb|apply Qc); exact HO440.out))) (Kd.R_lt (by (with_reducible repeat first|apply Qa|apply Qb|apply Qc); exact HO444.out))) (below_size (by repeat first|(with_reducible first|exact HB.out|apply Qg|apply Qh|apply Qi)|exact HB.out))); have n7_ := Aside0.mk (below_step (by repeat first|(with_reducible first|exact HB.out|apply Qg|apply Qh|apply Qi)|exact HB.out) hb); clear HO_9; clear HO432; clear HO444; clear HB; have HO_9 := n1_; have HO432 := n2_; have HO444 := n5_; have HO447 := n6_; have HB := n7_; clear n1_ n2_ n5_ n6_ n7_; obtain ⟨Ao73, co73, eo73⟩ := Kd.R_slice HO444.out; subst eo73; obtain ⟨Ao74, co74, eo74⟩ := Kd.R_slice HO447.out; subst eo74) | (go_at_call 26; (with_reducible refine (sapperlaw13_same.calls k2 _ _ t442 _ _ t445 false _ ?side1 ?side2 ?side3 ?side4 A51.out).mono ?_); (case side1 => exact (Kd.R_reads' HO444.out).2.2); (case side2 => exact (Kd.R_reads' HO444.out).2.1); (case side3 => exact (Kd.R_reads' HO447.out).2.2); (case side4 => exact (Kd.R_reads' HO447.out).2.1); rintro e w' ⟨rfl, ⟨nd, rfl⟩⟩))
               go_meet
               case rel => exact ⟨_, (true), (by first | rfl | (simp; done) | (simp [*]; done)), H', ⟨by have := HJ19.out; have := HK2.out; first | omega | exact Nat.le_refl _⟩, ⟨by (try simp only [hl7_2]); (with_reducible repeat (first | apply Kd.S_alloc | apply Kd.S_drewN | apply Kd.S_drew)); exact Kd.S_mono HO_9.out (fun _ hk => hk.1.1.1.1.2)⟩, ⟨by (try simp only [hl7_2]); (with_reducible repeat first|apply Qa|apply Qb|apply Qc); exact Kd.R_mono HO432.out (fun _ hk => trivial)⟩, ⟨by repeat first|(with_reducible first|exact HB.out|apply Qg|apply Qh|apply Qi)|exact HB.out⟩⟩
             ·replace c48 := Bool.eq_false_iff.mpr c48
              subst c48
              have H1 : (sapperlaw13_SuffixIndexes.j2 k2 l0 a1 l2 t424 t430 true) = some r := by rw [if_neg (show ¬ (false = true) by decide)] at H; exact H
              clear H
              have H := H1
              clear H1
              have H' := Aside0.mk H
              clear H
              obtain ⟨Ao75, co75, eo75⟩ := Kd.S_slice HO_9.out
              subst eo75
              go_wp2_with (first | ((with_reducible refine gate_callee (f := 30) rfl ?_); refine goesL_ (some 68) rfl rfl Try.func30 (by kernel_rfl) rfl #[ptrOf (.slice Ao75 t424.length co75)] rfl (by (try simp only [List.map_toArray, List.map_cons, List.map_nil]); first | done | rfl | (simp only [List.length_drop, List.length_take]; rfl)) ?_; (with_reducible refine (suffix_Index_Len.calls _ _ t424 t433 _ ?side1 ?side2 A41.out).mono ?_); (case side1 => exact (Kd.S_reads' HO_9.out).2.2); (case side2 => exact (Kd.S_reads' HO_9.out).2.1); rintro e w' ⟨rfl, ⟨nd, rfl⟩⟩; refine ⟨_, rfl, ?_⟩) | (go_at_call 39; (with_reducible refine (suffix_Index_Data.calls _ _ t424 t434 _ ?side1 ?side2 A43.out).mono ?_); (case side1 => exact (Kd.S_reads' HO_9.out).2.2); (case side2 => exact (Kd.S_reads' HO_9.out).2.1); rintro e w76 ⟨v435, rfl, ho0, hb⟩; have n1_ := Aside0.mk (Kd.S_elder' (by (with_reducible repeat (first | apply Kd.S_alloc | apply Kd.S_drewN | apply Kd.S_drew)); exact HO_9.out) (Kd.R_base ho0) hb); have n2_ := Aside0.mk (Kd.R_below (by (with_reducible repeat first|apply Qa|apply Qb|apply Qc); exact HO432.out) hb); have n3_ := Aside0.mk (Kd.R_lower (Kd.R_new' ho0 (Kd.R_lt (by (with_reducible repeat first|apply Qa|apply Qb|apply Qc); exact HO_7.out))) (below_size (by repeat first|(with_reducible first|exact HB.out|apply Qg|apply Qh|apply Qi)|exact HB.out))); have n4_ := Aside0.mk (below_step (by repeat first|(with_reducible first|exact HB.out|apply Qg|apply Qh|apply Qi)|exact HB.out) hb); clear HO_9; clear HO432; clear HB; have HO_9 := n1_; have HO432 := n2_; have HO436 := n3_; have HB := n4_; clear n1_ n2_ n3_ n4_; obtain ⟨Ao77, co77, eo77⟩ := Kd.R_slice HO436.out; subst eo77) | (go_at_call 35; (with_reducible refine (sapperref01_Same.calls _ _ t434 _ _ l0 true _ ?side1 ?side2 ?side3 ?side4 A44.out).mono ?_); (case side1 => exact (Kd.R_reads' HO436.out).2.2); (case side2 => exact (Kd.R_reads' HO436.out).2.1); (case side3 => exact (Kd.C_below HR0.out HB.out)); (case side4 => exact HC0.out); rintro e w' ⟨rfl, ⟨nd, rfl⟩⟩) | (go_at_call 21; (with_reducible refine (suffix_Index_Array.calls _ _ t424 t438 _ ?side1 ?side2 A46.out).mono ?_); (case side1 => exact (Kd.S_reads' HO_9.out).2.2); (case side2 => exact (Kd.S_reads' HO_9.out).2.1); rintro e w78 ⟨v439, rfl, ho0, hb⟩; have n1_ := Aside0.mk (Kd.S_elder' (by (with_reducible repeat (first | apply Kd.S_alloc | apply Kd.S_drewN | apply Kd.S_drew)); exact HO_9.out) (Kd.R_base ho0) hb); have n2_ := Aside0.mk (Kd.R_elder' (by (with_reducible repeat first|apply Qa|apply Qb|apply Qc); exact HO432.out) (Kd.R_base ho0) hb); have n4_ := Aside0.mk (Kd.R_lower (Kd.R_new' ho0 (Kd.R_lt (by (with_reducible repeat first|apply Qa|apply Qb|apply Qc); exact HO432.out))) (below_size (by repeat first|(with_reducible first|exact HB.out|apply Qg|apply Qh|apply Qi)|exact HB.out))); have n5_ := Aside0.mk (below_step (by repeat first|(with_reducible first|exact HB.out|apply Qg|apply Qh|apply Qi)|exact HB.out) hb); clear HO_9; clear HO432; clear HB; have HO_9 := n1_; have HO432 := n2_; have HO440 := n4_; have HB := n5_; clear n1_ n2_ n4_ n5_; obtain ⟨Ao79, co79, eo79⟩ := Kd.R_slice HO440.out; subst eo79; obtain ⟨Ao80, co80, eo80⟩ := Kd.R_slice HO432.out; subst eo80) | (go_at_call 26; (with_reducible refine (sapperlaw13_same.calls k2 _ _ t438 _ _ t430 false _ ?side1 ?side2 ?side3 ?side4 A47.out).mono ?_); (case side1 => exact (Kd.R_reads' HO440.out).2.2); (case side2 => exact (Kd.R_reads' HO440.out).2.1); (case side3 => exact (Kd.R_reads' HO432.out).2.2); (case side4 => exact (Kd.R_reads' HO432.out).2.1); rintro e w' ⟨rfl, ⟨nd, rfl⟩⟩))
              go_meet
              case rel => exact ⟨_, (true), (by first | rfl | (simp; done) | (simp [*]; done)), H', ⟨by have := HJ19.out; have := HK2.out; first | omega | exact Nat.le_refl _⟩, ⟨by (try simp only [hl7_2]); (with_reducible repeat (first | apply Kd.S_alloc | apply Kd.S_drewN | apply Kd.S_drew)); exact Kd.S_mono HO_9.out (fun _ hk => hk.1.1.2)⟩, ⟨by (try simp only [hl7_2]); (with_reducible repeat first|apply Qa|apply Qb|apply Qc); exact Kd.R_mono HO432.out (fun _ hk => trivial)⟩, ⟨by repeat first|(with_reducible first|exact HB.out|apply Qg|apply Qh|apply Qi)|exact HB.out⟩⟩
            ·replace c45 := Bool.eq_false_iff.mpr c45
             subst c45
             have H1 : (sapperlaw13_SuffixIndexes.j2 k2 l0 a1 l2 t424 t430 true) = some r := by rw [if_neg (show ¬ (false = true) by decide)] at H; exact H
             clear H
             have H := H1
             clear H1
             have H' := Aside0.mk H
             clear H
             obtain ⟨Ao81, co81, eo81⟩ := Kd.S_slice HO_9.out
             subst eo81
             go_wp2_with (first | ((with_reducible refine gate_callee (f := 30) rfl ?_); refine goesL_ (some 68) rfl rfl Try.func30 (by kernel_rfl) rfl #[ptrOf (.slice Ao81 t424.length co81)] rfl (by (try simp only [List.map_toArray, List.map_cons, List.map_nil]); first | done | rfl | (simp only [List.length_drop, List.length_take]; rfl)) ?_; (with_reducible refine (suffix_Index_Len.calls _ _ t424 t433 _ ?side1 ?side2 A41.out).mono ?_); (case side1 => exact (Kd.S_reads' HO_9.out).2.2); (case side2 => exact (Kd.S_reads' HO_9.out).2.1); rintro e w' ⟨rfl, ⟨nd, rfl⟩⟩; refine ⟨_, rfl, ?_⟩) | (go_at_call 39; (with_reducible refine (suffix_Index_Data.calls _ _ t424 t434 _ ?side1 ?side2 A43.out).mono ?_); (case side1 => exact (Kd.S_reads' HO_9.out).2.2); (case side2 => exact (Kd.S_reads' HO_9.out).2.1); rintro e w82 ⟨v435, rfl, ho0, hb⟩; have n1_ := Aside0.mk (Kd.S_elder' (by (with_reducible repeat (first | apply Kd.S_alloc | apply Kd.S_drewN | apply Kd.S_drew)); exact HO_9.out) (Kd.R_base ho0) hb); have n2_ := Aside0.mk (Kd.R_below (by (with_reducible repeat first|apply Qa|apply Qb|apply Qc); exact HO432.out) hb); have n3_ := Aside0.mk (Kd.R_lower (Kd.R_new' ho0 (Kd.R_lt (by (with_reducible repeat first|apply Qa|apply Qb|apply Qc); exact HO_7.out))) (below_size (by repeat first|(with_reducible first|exact HB.out|apply Qg|apply Qh|apply Qi)|exact HB.out))); have n4_ := Aside0.mk (below_step (by repeat first|(with_reducible first|exact HB.out|apply Qg|apply Qh|apply Qi)|exact HB.out) hb); clear HO_9; clear HO432; clear HB; have HO_9 := n1_; have HO432 := n2_; have HO436 := n3_; have HB := n4_; clear n1_ n2_ n3_ n4_; obtain ⟨Ao83, co83, eo83⟩ := Kd.R_slice HO436.out; subst eo83) | (go_at_call 35; (with_reducible refine (sapperref01_Same.calls _ _ t434 _ _ l0 false _ ?side1 ?side2 ?side3 ?side4 A44.out).mono ?_); (case side1 => exact (Kd.R_reads' HO436.out).2.2); (case side2 => exact (Kd.R_reads' HO436.out).2.1); (case side3 => exact (Kd.C_below HR0.out HB.out)); (case side4 => exact HC0.out); rintro e w' ⟨rfl, ⟨nd, rfl⟩⟩))
             go_meet
             case rel => exact ⟨_, (true), (by first | rfl | (simp; done) | (simp [*]; done)), H', ⟨by have := HJ19.out; have := HK2.out; first | omega | exact Nat.le_refl _⟩, ⟨by (try simp only [hl7_2]); (with_reducible repeat (first | apply Kd.S_alloc | apply Kd.S_drewN | apply Kd.S_drew)); exact Kd.S_mono HO_9.out (fun _ hk => hk.1.2)⟩, ⟨by (try simp only [hl7_2]); (with_reducible repeat first|apply Qa|apply Qb|apply Qc); exact HO432.out⟩, ⟨by repeat first|(with_reducible first|exact HB.out|apply Qg|apply Qh|apply Qi)|exact HB.out⟩⟩
           ·rw [if_neg c42] at H
            have c42b0 : (t433 == (l0.length : Int)) = false := beq_eq_false_iff_ne.mpr c42
            have c42b1 : (t433 != (l0.length : Int)) = true := bne_iff_ne.mpr c42
            (first | rw [c42b0] | rw [c42b1] | (simp only [i64_w, i32_w]; rw [c42b0]) | skip)
            have H' := Aside0.mk H
            clear H
            obtain ⟨Ao84, co84, eo84⟩ := Kd.S_slice HO_9.out
            subst eo84
            go_wp2_with (first | ((with_reducible refine gate_callee (f := 30) rfl ?_); refine goesL_ (some 68) rfl rfl Try.func30 (by kernel_rfl) rfl #[ptrOf (.slice Ao84 t424.length co84)] rfl (by (try simp only [List.map_toArray, List.map_cons, List.map_nil]); first | done | rfl | (simp only [List.length_drop, List.length_take]; rfl)) ?_; (with_reducible refine (suffix_Index_Len.calls _ _ t424 t433 _ ?side1 ?side2 A41.out).mono ?_); (case side1 => exact (Kd.S_reads' HO_9.out).2.2); (case side2 => exact (Kd.S_reads' HO_9.out).2.1); rintro e w' ⟨rfl, ⟨nd, rfl⟩⟩; refine ⟨_, rfl, ?_⟩))
            go_meet
            case rel => exact ⟨_, (true), (by first | rfl | (simp; done) | (simp [*]; done)), H', ⟨by have := HJ19.out; have := HK2.out; first | omega | exact Nat.le_refl _⟩, ⟨by (try simp only [hl7_2]); (with_reducible repeat (first | apply Kd.S_alloc | apply Kd.S_drewN | apply Kd.S_drew)); exact Kd.S_mono HO_9.out (fun _ hk => hk.2)⟩, ⟨by (try simp only [hl7_2]); (with_reducible repeat first|apply Qa|apply Qb|apply Qc); exact HO432.out⟩, ⟨by repeat first|(with_reducible first|exact HB.out|apply Qg|apply Qh|apply Qi)|exact HB.out⟩⟩
          case rest => as_aux_lemma =>
           clear HC39
           obtain ⟨kq, x98_38, rfl, HA, HJ38, HO_9, HO_12, HB⟩ := hcut
           cases kq with
           | zero => exact absurd HA.out (by simp [sapperlaw13_SuffixIndexes.j2])
           | succ kj38 =>
            have H := HA.out
            clear HA
            simp only [sapperlaw13_SuffixIndexes.j2] at H
            by_cases c85 : x98_38 = true
            ·subst c85
             have H1 : (some false) = some r := by rw [if_pos rfl] at H; exact H
             clear H
             have H := H1
             clear H1
             obtain rfl := Option.some.inj H
             go_wp2
             go_ret
             exact ⟨rfl, by repeat first|(with_reducible first|exact HB.out|apply Qg|apply Qh|apply Qi)|exact HB.out⟩
            ·replace c85 := Bool.eq_false_iff.mpr c85
             subst c85
             have H1 : ((suffix_Index_Repeat.f kj38 t424).bind fun bt450 => ((sapperref13_Repeat.f kj38 l0).bind fun bt452 => (if bt450.1 = bt452.1 then (sapperlaw13_SuffixIndexes.j3 kj38 l0 a1 l2 t424 t430 (bt450.2 != bt452.2)) else (sapperlaw13_SuffixIndexes.j3 kj38 l0 a1 l2 t424 t430 true)))) = some r := by rw [if_neg (show ¬ (false = true) by decide)] at H; exact H
             clear H
             have H := H1
             clear H1
             replace H := Option.bind_eq_some_iff.mp H
             obtain ⟨⟨t450, t451⟩, A860, H⟩ := H
             replace H : ((sapperref13_Repeat.f kj38 l0).bind fun bt452 => (if t450 = bt452.1 then (sapperlaw13_SuffixIndexes.j3 kj38 l0 a1 l2 t424 t430 (t451 != bt452.2)) else (sapperlaw13_SuffixIndexes.j3 kj38 l0 a1 l2 t424 t430 true))) = some r := H
             have A86 := Aside0.mk A860
             clear A860
             replace H := Option.bind_eq_some_iff.mp H
             obtain ⟨⟨t452, t453⟩, A870, H⟩ := H
             replace H : (if t450 = t452 then (sapperlaw13_SuffixIndexes.j3 kj38 l0 a1 l2 t424 t430 (t451 != t453)) else (sapperlaw13_SuffixIndexes.j3 kj38 l0 a1 l2 t424 t430 true)) = some r := H
             have A87 := Aside0.mk A870
             clear A870
             have HC88 := Aside0.mk H
             clear H
             obtain ⟨Ao89, co89, eo89⟩ := Kd.S_slice HO_9.out
             subst eo89
             go_upto_region 17 with (first | ((with_reducible refine gate_callee (f := 41) rfl ?_); refine goesL_ (some 101) rfl rfl Try.func41 (by kernel_rfl) rfl #[ptrOf (.slice Ao89 t424.length co89)] rfl (by (try simp only [List.map_toArray, List.map_cons, List.map_nil]); first | done | rfl | (simp only [List.length_drop, List.length_take]; rfl)) ?_; (with_reducible refine (suffix_Index_Repeat.calls kj38 _ _ t424 t450 t451 _ ?side1 ?side2 A86.out).mono ?_); (case side1 => exact (Kd.S_reads' HO_9.out).2.2); (case side2 => exact (Kd.S_reads' HO_9.out).2.1); rintro e w90 ⟨rfl, hb⟩; refine ⟨_, rfl, ?_⟩; have n0_ := Aside0.mk (Kd.S_below (by (with_reducible repeat (first | apply Kd.S_alloc | apply Kd.S_drewN | apply Kd.S_drew)); exact HO_9.out) hb); have n1_ := Aside0.mk (Kd.R_below (by (with_reducible repeat first|apply Qa|apply Qb|apply Qc); exact HO_12.out) hb); have n2_ := Aside0.mk (below_step (by repeat first|(with_reducible first|exact HB.out|apply Qg|apply Qh|apply Qi)|exact HB.out) hb); clear HO_9; clear HO_12; clear HB; have HO_9 := n0_; have HO_12 := n1_; have HB := n2_; clear n0_ n1_ n2_) | ((with_reducible refine gate_callee (f := 42) rfl ?_); refine goesL_ (some 106) rfl rfl Try.func42 (by kernel_rfl) rfl #[.slice A0 l0.length c0] rfl (by (try simp only [List.map_toArray, List.map_cons, List.map_nil]); first | done | rfl | (simp only [List.length_drop, List.length_take]; rfl)) ?_; (with_reducible refine (sapperref13_Repeat.calls kj38 _ _ l0 t452 t453 _ ?side1 ?side2 A87.out).mono ?_); (case side1 => exact (Kd.C_below HR0.out HB.out)); (case side2 => exact HC0.out); rintro e w91 ⟨rfl, hb⟩; refine ⟨_, rfl, ?_⟩; have n0_ := Aside0.mk (Kd.S_below (by (with_reducible repeat (first | apply Kd.S_alloc | apply Kd.S_drewN | apply Kd.S_drew)); exact HO_9.out) hb); have n1_ := Aside0.mk (Kd.R_below (by (with_reducible repeat first|apply Qa|apply Qb|apply Qc); exact HO_12.out) hb); have n2_ := Aside0.mk (below_step (by repeat first|(with_reducible first|exact HB.out|apply Qg|apply Qh|apply Qi)|exact HB.out) hb); clear HO_9; clear HO_12; clear HB; have HO_9 := n0_; have HO_12 := n1_; have HB := n2_; clear n0_ n1_ n2_))
             (try simp only [Act.put, List.setIfInBounds_toArray, List.set_cons_zero, List.set_cons_succ])
             go_cut [116] (fun v116 wc => ∃ (kq : Nat) (x116_87 : Bool), v116 = .bool x116_87 ∧ Aside0 (sapperlaw13_SuffixIndexes.j3 kq l0 a1 l2 t424 t430 x116_87 = some r) ∧ Aside0 (kq ≤ kj38) ∧ Aside0 (Kd.S k82 82 wc w.heap.size (fun k_ => some k_ ≠ (v431 : Value).ownBlock) (.slice Ao89 t424.length co89) t424) ∧ Aside0 (Kd.R (Kd.int .i64) 3 wc w.heap.size (fun _ => True) v431 t430) ∧ Aside0 (Below w.heap.size w wc))
             case first => as_aux_lemma =>
              have H := HC88.out
              clear HC88
              by_cases c92 : t450 = t452
              ·rw [if_pos c92] at H
               have c92b0 : (t450 == t452) = true := beq_iff_eq.mpr c92
               have c92b1 : (t450 != t452) = false := bne_eq_false_iff_eq.mpr c92
               clear c92
               (first | rw [c92b0] | rw [c92b1] | (simp only [i64_w, i32_w]; rw [c92b0]) | skip)
               have H' := Aside0.mk H
               clear H
               go_wp2
               go_meet
               case rel => exact ⟨_, ((t451 != t453)), (by first | rfl | (simp; done) | (simp [*]; done)), H', ⟨by have := HJ19.out; have := HK2.out; have := HJ38.out; first | omega | exact Nat.le_refl _⟩, ⟨by (try simp only [hl7_2]); (with_reducible repeat (first | apply Kd.S_alloc | apply Kd.S_drewN | apply Kd.S_drew)); exact HO_9.out⟩, ⟨by (try simp only [hl7_2]); (with_reducible repeat first|apply Qa|apply Qb|apply Qc); exact HO_12.out⟩, ⟨by repeat first|(with_reducible first|exact HB.out|apply Qg|apply Qh|apply Qi)|exact HB.out⟩⟩
              ·rw [if_neg c92] at H
               have c92b0 : (t450 == t452) = false := beq_eq_false_iff_ne.mpr c92
               have c92b1 : (t450 != t452) = true := bne_iff_ne.mpr c92
               (first | rw [c92b0] | rw [c92b1] | (simp only [i64_w, i32_w]; rw [c92b0]) | skip)
               have H' := Aside0.mk H
               clear H
               go_wp2
               go_meet
               case rel => exact ⟨_, (true), (by first | rfl | (simp; done) | (simp [*]; done)), H', ⟨by have := HJ19.out; have := HK2.out; have := HJ38.out; first | omega | exact Nat.le_refl _⟩, ⟨by (try simp only [hl7_2]); (with_reducible repeat (first | apply Kd.S_alloc | apply Kd.S_drewN | apply Kd.S_drew)); exact HO_9.out⟩, ⟨by (try simp only [hl7_2]); (with_reducible repeat first|apply Qa|apply Qb|apply Qc); exact HO_12.out⟩, ⟨by repeat first|(with_reducible first|exact HB.out|apply Qg|apply Qh|apply Qi)|exact HB.out⟩⟩
             case rest => as_aux_lemma =>
              clear HC88
              obtain ⟨kq, x116_87, rfl, HA, HJ87, HO_9, HO_12, HB⟩ := hcut
              cases kq with
              | zero => exact absurd HA.out (by simp [sapperlaw13_SuffixIndexes.j3])
              | succ kj87 =>
               have H := HA.out
               clear HA
               simp only [sapperlaw13_SuffixIndexes.j3] at H
               by_cases c93 : x116_87 = true
               ·subst c93
                have H1 : (some false) = some r := by rw [if_pos rfl] at H; exact H
                clear H
                have H := H1
                clear H1
                obtain rfl := Option.some.inj H
                go_wp2
                go_ret
                exact ⟨rfl, by repeat first|(with_reducible first|exact HB.out|apply Qg|apply Qh|apply Qi)|exact HB.out⟩
               ·replace c93 := Bool.eq_false_iff.mpr c93
                subst c93
                have H1 : ((suffix_Index_At.f kj87 t424 a1).bind fun bt454 => ((suffix_Index_Rank.f kj87 t424 a1).bind fun bt456 => ((suffix_Index_Compare.f kj87 t424 a1 l2).bind fun bt458 => (if a1 < 0 then (sapperlaw13_SuffixIndexes.j4 kj87 l0 a1 l2 bt454.2 t430 bt454.1 bt456.1 bt456.2 bt458.1 bt458.2.1 bt458.2.2 true) else (sapperlaw13_SuffixIndexes.j4 kj87 l0 a1 l2 bt454.2 t430 bt454.1 bt456.1 bt456.2 bt458.1 bt458.2.1 bt458.2.2 (decide (a1 ≥ (l0.length : Int)))))))) = some r := by rw [if_neg (show ¬ (false = true) by decide)] at H; exact H
                clear H
                have H := H1
                clear H1
                replace H := Option.bind_eq_some_iff.mp H
                obtain ⟨⟨t454, t455⟩, A940, H⟩ := H
                replace H : ((suffix_Index_Rank.f kj87 t424 a1).bind fun bt456 => ((suffix_Index_Compare.f kj87 t424 a1 l2).bind fun bt458 => (if a1 < 0 then (sapperlaw13_SuffixIndexes.j4 kj87 l0 a1 l2 t455 t430 t454 bt456.1 bt456.2 bt458.1 bt458.2.1 bt458.2.2 true) else (sapperlaw13_SuffixIndexes.j4 kj87 l0 a1 l2 t455 t430 t454 bt456.1 bt456.2 bt458.1 bt458.2.1 bt458.2.2 (decide (a1 ≥ (l0.length : Int))))))) = some r := H
                have A94 := Aside0.mk A940
                clear A940
                replace H := Option.bind_eq_some_iff.mp H
                obtain ⟨⟨t456, t457⟩, A950, H⟩ := H
                replace H : ((suffix_Index_Compare.f kj87 t424 a1 l2).bind fun bt458 => (if a1 < 0 then (sapperlaw13_SuffixIndexes.j4 kj87 l0 a1 l2 t455 t430 t454 t456 t457 bt458.1 bt458.2.1 bt458.2.2 true) else (sapperlaw13_SuffixIndexes.j4 kj87 l0 a1 l2 t455 t430 t454 t456 t457 bt458.1 bt458.2.1 bt458.2.2 (decide (a1 ≥ (l0.length : Int)))))) = some r := H
                have A95 := Aside0.mk A950
                clear A950
                replace H := Option.bind_eq_some_iff.mp H
                obtain ⟨⟨t458, t459, t460⟩, A960, H⟩ := H
                replace H : (if a1 < 0 then (sapperlaw13_SuffixIndexes.j4 kj87 l0 a1 l2 t455 t430 t454 t456 t457 t458 t459 t460 true) else (sapperlaw13_SuffixIndexes.j4 kj87 l0 a1 l2 t455 t430 t454 t456 t457 t458 t459 t460 (decide (a1 ≥ (l0.length : Int))))) = some r := H
                have A96 := Aside0.mk A960
                clear A960
                have HC97 := Aside0.mk H
                clear H
                go_upto_region 22 with (first | ((with_reducible refine gate_callee (f := 31) rfl ?_); refine goesL_ (some 120) rfl rfl Try.func31 (by kernel_rfl) rfl #[ptrOf (.slice Ao89 t424.length co89), .int .i64 a1] rfl (by (try simp only [List.map_toArray, List.map_cons, List.map_nil]); first | done | rfl | (simp only [List.length_drop, List.length_take]; rfl)) ?_; (with_reducible refine (suffix_Index_At.calls kj87 _ _ t424 a1 t454 t455 _ ?side1 ?side2 A94.out).mono ?_); (case side1 => exact (Kd.S_reads' HO_9.out).2.2); (case side2 => exact (Kd.S_reads' HO_9.out).2.1); rintro e w98 ⟨rfl, hb⟩; refine ⟨_, rfl, ?_⟩; have n0_ := Aside0.mk (Kd.S_below (by (with_reducible repeat (first | apply Kd.S_alloc | apply Kd.S_drewN | apply Kd.S_drew)); exact HO_9.out) hb); have n1_ := Aside0.mk (Kd.R_below (by (with_reducible repeat first|apply Qa|apply Qb|apply Qc); exact HO_12.out) hb); have n2_ := Aside0.mk (below_step (by repeat first|(with_reducible first|exact HB.out|apply Qg|apply Qh|apply Qi)|exact HB.out) hb); clear HO_9; clear HO_12; clear HB; have HO_9 := n0_; have HO_12 := n1_; have HB := n2_; clear n0_ n1_ n2_) | ((with_reducible refine gate_callee (f := 32) rfl ?_); refine goesL_ (some 126) rfl rfl Try.func32 (by kernel_rfl) rfl #[ptrOf (.slice Ao89 t424.length co89), .int .i64 a1] rfl (by (try simp only [List.map_toArray, List.map_cons, List.map_nil]); first | done | rfl | (simp only [List.length_drop, List.length_take]; rfl)) ?_; (with_reducible refine (suffix_Index_Rank.calls kj87 _ _ t424 a1 t456 t457 _ ?side1 ?side2 A95.out).mono ?_); (case side1 => exact (Kd.S_reads' HO_9.out).2.2); (case side2 => exact (Kd.S_reads' HO_9.out).2.1); rintro e w99 ⟨rfl, hb⟩; refine ⟨_, rfl, ?_⟩; have n0_ := Aside0.mk (Kd.S_below (by (with_reducible repeat (first | apply Kd.S_alloc | apply Kd.S_drewN | apply Kd.S_drew)); exact HO_9.out) hb); have n1_ := Aside0.mk (Kd.R_below (by (with_reducible repeat first|apply Qa|apply Qb|apply Qc); exact HO_12.out) hb); have n2_ := Aside0.mk (below_step (by repeat first|(with_reducible first|exact HB.out|apply Qg|apply Qh|apply Qi)|exact HB.out) hb); clear HO_9; clear HO_12; clear HB; have HO_9 := n0_; have HO_12 := n1_; have HB := n2_; clear n0_ n1_ n2_) | ((with_reducible refine gate_callee (f := 43) rfl ?_); refine goesL_ (some 133) rfl rfl Try.func43 (by kernel_rfl) rfl #[ptrOf (.slice Ao89 t424.length co89), .int .i64 a1, .slice A2 l2.length c2] rfl (by (try simp only [List.map_toArray, List.map_cons, List.map_nil]); first | done | rfl | (simp only [List.length_drop, List.length_take]; rfl)) ?_; (with_reducible refine (suffix_Index_Compare.calls kj87 _ _ t424 a1 _ _ l2 t458 t459 t460 _ ?side1 ?side2 ?side3 ?side4 A96.out).mono ?_); (case side1 => exact (Kd.S_reads' HO_9.out).2.2); (case side2 => exact (Kd.S_reads' HO_9.out).2.1); (case side3 => exact (Kd.C_below HR2.out HB.out)); (case side4 => exact HC2.out); rintro e w100 ⟨rfl, hb⟩; refine ⟨_, rfl, ?_⟩; have n1_ := Aside0.mk (Kd.R_below (by (with_reducible repeat first|apply Qa|apply Qb|apply Qc); exact HO_12.out) hb); have n2_ := Aside0.mk (below_step (by repeat first|(with_reducible first|exact HB.out|apply Qg|apply Qh|apply Qi)|exact HB.out) hb); clear HO_12; clear HB; have HO_12 := n1_; have HB := n2_; clear n1_ n2_))
                (try simp only [Act.put, List.setIfInBounds_toArray, List.set_cons_zero, List.set_cons_succ])
                go_cut [144] (fun v144 wc => ∃ (kq : Nat) (x144_96 : Bool), v144 = .bool x144_96 ∧ Aside0 (sapperlaw13_SuffixIndexes.j4 kq l0 a1 l2 t455 t430 t454 t456 t457 t458 t459 t460 x144_96 = some r) ∧ Aside0 (kq ≤ kj87) ∧ Aside0 (Kd.R (Kd.int .i64) 3 wc w.heap.size (fun _ => True) v431 t430) ∧ Aside0 (Below w.heap.size w wc))
                case first => as_aux_lemma =>
                 have H := HC97.out
                 clear HC97
                 by_cases c101 : a1 < 0
                 ·rw [if_pos c101] at H
                  have c101b0 : decide (a1 < 0) = true := decide_eq_true c101
                  clear c101
                  (first | rw [c101b0] | rw [c101b1] | (simp only [i64_w, i32_w]; rw [c101b0]) | skip)
                  have H' := Aside0.mk H
                  clear H
                  go_wp2
                  go_meet
                  case rel => exact ⟨_, (true), (by first | rfl | (simp; done) | (simp [*]; done)), H', ⟨by have := HJ19.out; have := HK2.out; have := HJ38.out; have := HJ87.out; first | omega | exact Nat.le_refl _⟩, ⟨by (try simp only [hl7_2]); (with_reducible repeat first|apply Qa|apply Qb|apply Qc); exact HO_12.out⟩, ⟨by repeat first|(with_reducible first|exact HB.out|apply Qg|apply Qh|apply Qi)|exact HB.out⟩⟩
                 ·rw [if_neg c101] at H
                  have c101b0 : decide (a1 < 0) = false := decide_eq_false c101
                  clear c101
                  (first | rw [c101b0] | rw [c101b1] | (simp only [i64_w, i32_w]; rw [c101b0]) | skip)
                  have H' := Aside0.mk H
                  clear H
                  go_wp2
                  go_meet
                  case rel => exact ⟨_, (decide (a1 ≥ (l0.length : Int))), (by first | rfl | (simp; done) | (simp [*]; done)), H', ⟨by have := HJ19.out; have := HK2.out; have := HJ38.out; have := HJ87.out; first | omega | exact Nat.le_refl _⟩, ⟨by (try simp only [hl7_2]); (with_reducible repeat first|apply Qa|apply Qb|apply Qc); exact HO_12.out⟩, ⟨by repeat first|(with_reducible first|exact HB.out|apply Qg|apply Qh|apply Qi)|exact HB.out⟩⟩
                case rest => as_aux_lemma =>
                 clear HC97
                 obtain ⟨kq, x144_96, rfl, HA, HJ96, HO_12, HB⟩ := hcut
                 cases kq with
                 | zero => exact absurd HA.out (by simp [sapperlaw13_SuffixIndexes.j4])
                 | succ kj96 =>
                  have H := HA.out
                  clear HA
                  simp only [sapperlaw13_SuffixIndexes.j4] at H
                  by_cases c102 : x144_96 = true
                  ·subst c102
                   have H1 : (if t454 = 0 then (if t456 = 0 then (if t458 = 0 then (if t459 = 0 then (if t455 = 132 then (if t457 = 132 then (if t460 = 132 then ((sapperlaw13_lives.f kj96).bind fun t461 => (some t461)) else (some false)) else (some false)) else (some false)) else (some false)) else (some false)) else (some false)) else (some false)) = some r := by rw [if_pos rfl] at H; exact H
                   clear H
                   have H := H1
                   clear H1
                   by_cases c103 : t454 = 0
                   ·rw [if_pos c103] at H
                    have c103b0 : (t454 == 0) = true := beq_iff_eq.mpr c103
                    have c103b1 : (t454 != 0) = false := bne_eq_false_iff_eq.mpr c103
                    clear c103
                    by_cases c104 : t456 = 0
                    ·rw [if_pos c104] at H
                     have c104b0 : (t456 == 0) = true := beq_iff_eq.mpr c104
                     have c104b1 : (t456 != 0) = false := bne_eq_false_iff_eq.mpr c104
                     clear c104
                     by_cases c105 : t458 = 0
                     ·rw [if_pos c105] at H
                      have c105b0 : (t458 == 0) = true := beq_iff_eq.mpr c105
                      have c105b1 : (t458 != 0) = false := bne_eq_false_iff_eq.mpr c105
                      clear c105
                      by_cases c106 : t459 = 0
                      ·rw [if_pos c106] at H
                       have c106b0 : (t459 == 0) = true := beq_iff_eq.mpr c106
                       have c106b1 : (t459 != 0) = false := bne_eq_false_iff_eq.mpr c106
                       clear c106
                       by_cases c107 : t455 = 132
                       ·rw [if_pos c107] at H
                        have c107b0 : (t455 == 132) = true := beq_iff_eq.mpr c107
                        have c107b1 : (t455 != 132) = false := bne_eq_false_iff_eq.mpr c107
                        clear c107
                        by_cases c108 : t457 = 132
                        ·rw [if_pos c108] at H
                         have c108b0 : (t457 == 132) = true := beq_iff_eq.mpr c108
                         have c108b1 : (t457 != 132) = false := bne_eq_false_iff_eq.mpr c108
                         clear c108
                         by_cases c109 : t460 = 132
                         ·rw [if_pos c109] at H
                          have c109b0 : (t460 == 132) = true := beq_iff_eq.mpr c109
                          have c109b1 : (t460 != 132) = false := bne_eq_false_iff_eq.mpr c109
                          clear c109
                          replace H := Option.bind_eq_some_iff.mp H
                          obtain ⟨t461, A1100, H⟩ := H
                          replace H : (some t461) = some r := H
                          have A110 := Aside0.mk A1100
                          clear A1100
                          obtain rfl := Option.some.inj H
                          go_wp2_with (first | (go_at_call 15; (with_reducible refine (sapperlaw13_lives.calls kj96  t461 _ A110.out).mono ?_); rintro e w111 ⟨rfl, hb⟩; have n1_ := Aside0.mk (below_step (by repeat first|(with_reducible first|exact HB.out|apply Qg|apply Qh|apply Qi)|exact HB.out) hb); clear HB; have HB := n1_; clear n1_))
                          go_ret
                          exact ⟨rfl, by repeat first|(with_reducible first|exact HB.out|apply Qg|apply Qh|apply Qi)|exact HB.out⟩
                         ·rw [if_neg c109] at H
                          have c109b0 : (t460 == 132) = false := beq_eq_false_iff_ne.mpr c109
                          have c109b1 : (t460 != 132) = true := bne_iff_ne.mpr c109
                          obtain rfl := Option.some.inj H
                          go_wp2
                          go_ret
                          exact ⟨rfl, by repeat first|(with_reducible first|exact HB.out|apply Qg|apply Qh|apply Qi)|exact HB.out⟩
                        ·rw [if_neg c108] at H
                         have c108b0 : (t457 == 132) = false := beq_eq_false_iff_ne.mpr c108
                         have c108b1 : (t457 != 132) = true := bne_iff_ne.mpr c108
                         obtain rfl := Option.some.inj H
                         go_wp2
                         go_ret
                         exact ⟨rfl, by repeat first|(with_reducible first|exact HB.out|apply Qg|apply Qh|apply Qi)|exact HB.out⟩
                       ·rw [if_neg c107] at H
                        have c107b0 : (t455 == 132) = false := beq_eq_false_iff_ne.mpr c107
                        have c107b1 : (t455 != 132) = true := bne_iff_ne.mpr c107
                        obtain rfl := Option.some.inj H
                        go_wp2
                        go_ret
                        exact ⟨rfl, by repeat first|(with_reducible first|exact HB.out|apply Qg|apply Qh|apply Qi)|exact HB.out⟩
                      ·rw [if_neg c106] at H
                       have c106b0 : (t459 == 0) = false := beq_eq_false_iff_ne.mpr c106
                       have c106b1 : (t459 != 0) = true := bne_iff_ne.mpr c106
                       obtain rfl := Option.some.inj H
                       go_wp2
                       go_ret
                       exact ⟨rfl, by repeat first|(with_reducible first|exact HB.out|apply Qg|apply Qh|apply Qi)|exact HB.out⟩
                     ·rw [if_neg c105] at H
                      have c105b0 : (t458 == 0) = false := beq_eq_false_iff_ne.mpr c105
                      have c105b1 : (t458 != 0) = true := bne_iff_ne.mpr c105
                      obtain rfl := Option.some.inj H
                      go_wp2
                      go_ret
                      exact ⟨rfl, by repeat first|(with_reducible first|exact HB.out|apply Qg|apply Qh|apply Qi)|exact HB.out⟩
                    ·rw [if_neg c104] at H
                     have c104b0 : (t456 == 0) = false := beq_eq_false_iff_ne.mpr c104
                     have c104b1 : (t456 != 0) = true := bne_iff_ne.mpr c104
                     obtain rfl := Option.some.inj H
                     go_wp2
                     go_ret
                     exact ⟨rfl, by repeat first|(with_reducible first|exact HB.out|apply Qg|apply Qh|apply Qi)|exact HB.out⟩
                   ·rw [if_neg c103] at H
                    have c103b0 : (t454 == 0) = false := beq_eq_false_iff_ne.mpr c103
                    have c103b1 : (t454 != 0) = true := bne_iff_ne.mpr c103
                    obtain rfl := Option.some.inj H
                    go_wp2
                    go_ret
                    exact ⟨rfl, by repeat first|(with_reducible first|exact HB.out|apply Qg|apply Qh|apply Qi)|exact HB.out⟩
                  ·replace c102 := Bool.eq_false_iff.mpr c102
                   subst c102
                   have H1 : (if 0 ≤ a1 then (if a1 ≤ (l0.length : Int) then ((sapperref13_Compare.f kj96 (l0.drop (a1 : Int).toNat) l2).bind fun bt463 => (if a1 < (t430.length : Int) then (if t454 = (rd t430 a1) then (if t455 = 0 then (if t457 = 0 then (if t456 < 0 then (some false) else (if t456 ≥ (l0.length : Int) then (some false) else (if 0 ≤ t456 then (if t456 < (t430.length : Int) then (if (rd t430 t456) = a1 then (if t458 = bt463.1 then (if t459 = bt463.2 then (if t460 = 0 then ((sapperlaw13_lives.f kj96).bind fun t467 => (some t467)) else (some false)) else (some false)) else (some false)) else (some false)) else (none)) else (none)))) else (some false)) else (some false)) else (some false)) else (none))) else (none)) else (none)) = some r := by rw [if_neg (show ¬ (false = true) by decide)] at H; exact H
                   clear H
                   have H := H1
                   clear H1
                   by_cases c112 : 0 ≤ a1
                   ·rw [if_pos c112] at H
                    have c112b0 := eq_true c112
                    have c112b1 : decide (0 ≤ a1) = true := decide_eq_true c112
                    clear c112
                    by_cases c113 : a1 ≤ (l0.length : Int)
                    ·rw [if_pos c113] at H
                     have c113b0 := eq_true c113
                     have c113b1 : decide (a1 ≤ (l0.length : Int)) = true := decide_eq_true c113
                     clear c113
                     replace H := Option.bind_eq_some_iff.mp H
                     obtain ⟨⟨t463, t464⟩, A1140, H⟩ := H
                     replace H : (if a1 < (t430.length : Int) then (if t454 = (rd t430 a1) then (if t455 = 0 then (if t457 = 0 then (if t456 < 0 then (some false) else (if t456 ≥ (l0.length : Int) then (some false) else (if 0 ≤ t456 then (if t456 < (t430.length : Int) then (if (rd t430 t456) = a1 then (if t458 = t463 then (if t459 = t464 then (if t460 = 0 then ((sapperlaw13_lives.f kj96).bind fun t467 => (some t467)) else (some false)) else (some false)) else (some false)) else (some false)) else (none)) else (none)))) else (some false)) else (some false)) else (some false)) else (none)) = some r := H
                     have A114 := Aside0.mk A1140
                     clear A1140
                     by_cases c115 : a1 < (t430.length : Int)
                     ·rw [if_pos c115] at H
                      have c115b0 : decide (a1 < (t430.length : Int)) = true := decide_eq_true c115
                      clear c115
                      by_cases c116 : t454 = (rd t430 a1)
                      ·rw [if_pos c116] at H
                       have c116b0 : (t454 == (rd t430 a1)) = true := beq_iff_eq.mpr c116
                       have c116b1 : (t454 != (rd t430 a1)) = false := bne_eq_false_iff_eq.mpr c116
                       clear c116
                       by_cases c117 : t455 = 0
                       ·rw [if_pos c117] at H
                        have c117b0 : (t455 == 0) = true := beq_iff_eq.mpr c117
                        have c117b1 : (t455 != 0) = false := bne_eq_false_iff_eq.mpr c117
                        clear c117
                        by_cases c118 : t457 = 0
                        ·rw [if_pos c118] at H
                         have c118b0 : (t457 == 0) = true := beq_iff_eq.mpr c118
                         have c118b1 : (t457 != 0) = false := bne_eq_false_iff_eq.mpr c118
                         clear c118
                         by_cases c119 : t456 < 0
                         ·rw [if_pos c119] at H
                          have c119b0 : decide (t456 < 0) = true := decide_eq_true c119
                          clear c119
                          obtain rfl := Option.some.inj H
                          obtain ⟨i0120, hi0120, _, hsz120, _⟩ := info_parts info5
                          obtain ⟨A120, hcut120, hA120, hC120⟩ := print_drop_of (P := Try.prog) (Value.int .u8) 0 23 5 .i64 Try.underlying23 hi0120 hsz120 A0 c0 l0 a1 (Qt) (Qt) HC0.out
                          have HR462 := Aside0.mk (Kd.C_of_reads (h1 := fun _ => rfl) (hA120 _ (Kd.reads_of_C HR0.out)))
                          have HC462 := Aside0.mk hC120
                          clear hA120 hC120 hi0120 hsz120
                          go_wp2_with (first | ((with_reducible refine gate_callee (f := 44) rfl ?_); refine goesL_ (some 179) rfl rfl Try.func44 (by kernel_rfl) rfl #[.slice A120 (l0.drop (a1 : Int).toNat).length (c0 - a1.toNat), .slice A2 l2.length c2] rfl (by (try simp only [List.map_toArray, List.map_cons, List.map_nil]); first | done | (rw [show (l0.drop (a1 : Int).toNat).length = (l0.length - a1.toNat) from List.length_drop] <;> rfl) | rfl | (simp only [List.length_drop, List.length_take]; rfl)) ?_; (with_reducible refine (sapperref13_Compare.calls kj96 _ _ (l0.drop (a1 : Int).toNat) _ _ l2 t463 t464 _ ?side1 ?side2 ?side3 ?side4 A114.out).mono ?_); (case side1 => exact (Kd.C_below HR462.out HB.out)); (case side2 => exact HC462.out); (case side3 => exact (Kd.C_below HR2.out HB.out)); (case side4 => exact HC2.out); rintro e w' ⟨rfl, ⟨nd, rfl⟩⟩; refine ⟨_, rfl, ?_⟩; obtain ⟨Ao121, co121, eo121⟩ := Kd.R_slice HO_12.out; subst eo121; have p465 : 0 ≤ (a1 : Int) := Qt; have q465 : a1 < (t430.length : Int) := Qt; obtain ⟨ad465, e465, hx465_0⟩ := Kd.at_int (Kd.R_reads' HO_12.out).2.2 a1 p465 q465; cases e465; replace p465 := eq_true p465; replace q465 := eq_true q465))
                          go_ret
                          exact ⟨rfl, by repeat first|(with_reducible first|exact HB.out|apply Qg|apply Qh|apply Qi)|exact HB.out⟩
                         ·rw [if_neg c119] at H
                          have c119b0 : decide (t456 < 0) = false := decide_eq_false c119
                          clear c119
                          by_cases c122 : t456 ≥ (l0.length : Int)
                          ·rw [if_pos c122] at H
                           have c122b0 : decide ((l0.length : Int) ≤ t456) = true := decide_eq_true c122
                           clear c122
                           obtain rfl := Option.some.inj H
                           obtain ⟨i0123, hi0123, _, hsz123, _⟩ := info_parts info5
                           obtain ⟨A123, hcut123, hA123, hC123⟩ := print_drop_of (P := Try.prog) (Value.int .u8) 0 23 5 .i64 Try.underlying23 hi0123 hsz123 A0 c0 l0 a1 (Qt) (Qt) HC0.out
                           have HR462 := Aside0.mk (Kd.C_of_reads (h1 := fun _ => rfl) (hA123 _ (Kd.reads_of_C HR0.out)))
                           have HC462 := Aside0.mk hC123
                           clear hA123 hC123 hi0123 hsz123
                           go_wp2_with (first | ((with_reducible refine gate_callee (f := 44) rfl ?_); refine goesL_ (some 179) rfl rfl Try.func44 (by kernel_rfl) rfl #[.slice A123 (l0.drop (a1 : Int).toNat).length (c0 - a1.toNat), .slice A2 l2.length c2] rfl (by (try simp only [List.map_toArray, List.map_cons, List.map_nil]); first | done | (rw [show (l0.drop (a1 : Int).toNat).length = (l0.length - a1.toNat) from List.length_drop] <;> rfl) | rfl | (simp only [List.length_drop, List.length_take]; rfl)) ?_; (with_reducible refine (sapperref13_Compare.calls kj96 _ _ (l0.drop (a1 : Int).toNat) _ _ l2 t463 t464 _ ?side1 ?side2 ?side3 ?side4 A114.out).mono ?_); (case side1 => exact (Kd.C_below HR462.out HB.out)); (case side2 => exact HC462.out); (case side3 => exact (Kd.C_below HR2.out HB.out)); (case side4 => exact HC2.out); rintro e w' ⟨rfl, ⟨nd, rfl⟩⟩; refine ⟨_, rfl, ?_⟩; obtain ⟨Ao124, co124, eo124⟩ := Kd.R_slice HO_12.out; subst eo124; have p465 : 0 ≤ (a1 : Int) := Qt; have q465 : a1 < (t430.length : Int) := Qt; obtain ⟨ad465, e465, hx465_0⟩ := Kd.at_int (Kd.R_reads' HO_12.out).2.2 a1 p465 q465; cases e465; replace p465 := eq_true p465; replace q465 := eq_true q465))
                           go_ret
                           exact ⟨rfl, by repeat first|(with_reducible first|exact HB.out|apply Qg|apply Qh|apply Qi)|exact HB.out⟩
                          ·rw [if_neg c122] at H
                           have c122b0 : decide ((l0.length : Int) ≤ t456) = false := decide_eq_false c122
                           clear c122
                           by_cases c125 : 0 ≤ t456
                           ·rw [if_pos c125] at H
                            have c125b0 : decide (0 ≤ t456) = true := decide_eq_true c125
                            clear c125
                            by_cases c126 : t456 < (t430.length : Int)
                            ·rw [if_pos c126] at H
                             have c126b0 : decide (t456 < (t430.length : Int)) = true := decide_eq_true c126
                             clear c126
                             by_cases c127 : (rd t430 t456) = a1
                             ·rw [if_pos c127] at H
                              have c127b0 : ((rd t430 t456) == a1) = true := beq_iff_eq.mpr c127
                              have c127b1 : ((rd t430 t456) != a1) = false := bne_eq_false_iff_eq.mpr c127
                              clear c127
                              by_cases c128 : t458 = t463
                              ·rw [if_pos c128] at H
                               have c128b0 : (t458 == t463) = true := beq_iff_eq.mpr c128
                               have c128b1 : (t458 != t463) = false := bne_eq_false_iff_eq.mpr c128
                               clear c128
                               by_cases c129 : t459 = t464
                               ·rw [if_pos c129] at H
                                have c129b0 : (t459 == t464) = true := beq_iff_eq.mpr c129
                                have c129b1 : (t459 != t464) = false := bne_eq_false_iff_eq.mpr c129
                                clear c129
                                by_cases c130 : t460 = 0
                                ·rw [if_pos c130] at H
                                 have c130b0 : (t460 == 0) = true := beq_iff_eq.mpr c130
                                 have c130b1 : (t460 != 0) = false := bne_eq_false_iff_eq.mpr c130
                                 clear c130
                                 replace H := Option.bind_eq_some_iff.mp H
                                 obtain ⟨t467, A1310, H⟩ := H
                                 replace H : (some t467) = some r := H
                                 have A131 := Aside0.mk A1310
                                 clear A1310
                                 obtain rfl := Option.some.inj H
                                 obtain ⟨i0132, hi0132, _, hsz132, _⟩ := info_parts info5
                                 obtain ⟨A132, hcut132, hA132, hC132⟩ := print_drop_of (P := Try.prog) (Value.int .u8) 0 23 5 .i64 Try.underlying23 hi0132 hsz132 A0 c0 l0 a1 (Qt) (Qt) HC0.out
                                 have HR462 := Aside0.mk (Kd.C_of_reads (h1 := fun _ => rfl) (hA132 _ (Kd.reads_of_C HR0.out)))
                                 have HC462 := Aside0.mk hC132
                                 clear hA132 hC132 hi0132 hsz132
                                 go_wp2_with (first | ((with_reducible refine gate_callee (f := 44) rfl ?_); refine goesL_ (some 179) rfl rfl Try.func44 (by kernel_rfl) rfl #[.slice A132 (l0.drop (a1 : Int).toNat).length (c0 - a1.toNat), .slice A2 l2.length c2] rfl (by (try simp only [List.map_toArray, List.map_cons, List.map_nil]); first | done | (rw [show (l0.drop (a1 : Int).toNat).length = (l0.length - a1.toNat) from List.length_drop] <;> rfl) | rfl | (simp only [List.length_drop, List.length_take]; rfl)) ?_; (with_reducible refine (sapperref13_Compare.calls kj96 _ _ (l0.drop (a1 : Int).toNat) _ _ l2 t463 t464 _ ?side1 ?side2 ?side3 ?side4 A114.out).mono ?_); (case side1 => exact (Kd.C_below HR462.out HB.out)); (case side2 => exact HC462.out); (case side3 => exact (Kd.C_below HR2.out HB.out)); (case side4 => exact HC2.out); rintro e w' ⟨rfl, ⟨nd, rfl⟩⟩; refine ⟨_, rfl, ?_⟩; obtain ⟨Ao133, co133, eo133⟩ := Kd.R_slice HO_12.out; subst eo133; have p465 : 0 ≤ (a1 : Int) := Qt; have q465 : a1 < (t430.length : Int) := Qt; obtain ⟨ad465, e465, hx465_0⟩ := Kd.at_int (Kd.R_reads' HO_12.out).2.2 a1 p465 q465; cases e465; replace p465 := eq_true p465; replace q465 := eq_true q465; have p466 : 0 ≤ (t456 : Int) := Qt; have q466 : t456 < (t430.length : Int) := Qt; obtain ⟨ad466, e466, hx466_0⟩ := Kd.at_int (Kd.R_reads' HO_12.out).2.2 t456 p466 q466; obtain rfl : ad465 = ad466 := (by injection e466); replace p466 := eq_true p466; replace q466 := eq_true q466) | ((with_reducible refine gate_callee (f := 15) rfl ?_); refine goesL_ (some 228) rfl rfl Try.func15 (by kernel_rfl) rfl #[] rfl (by (try simp only [List.map_toArray, List.map_cons, List.map_nil]); first | done | rfl | (simp only [List.length_drop, List.length_take]; rfl)) ?_; (with_reducible refine (sapperlaw13_lives.calls kj96  t467 _ A131.out).mono ?_); rintro e w134 ⟨rfl, hb⟩; refine ⟨_, rfl, ?_⟩; have n1_ := Aside0.mk (below_step (by repeat first|(with_reducible first|exact HB.out|apply Qg|apply Qh|apply Qi)|exact HB.out) hb); clear HB; have HB := n1_; clear n1_))
                                 go_ret
                                 exact ⟨rfl, by repeat first|(with_reducible first|exact HB.out|apply Qg|apply Qh|apply Qi)|exact HB.out⟩
                                ·rw [if_neg c130] at H
                                 have c130b0 : (t460 == 0) = false := beq_eq_false_iff_ne.mpr c130
                                 have c130b1 : (t460 != 0) = true := bne_iff_ne.mpr c130
                                 obtain rfl := Option.some.inj H
                                 obtain ⟨i0135, hi0135, _, hsz135, _⟩ := info_parts info5
                                 obtain ⟨A135, hcut135, hA135, hC135⟩ := print_drop_of (P := Try.prog) (Value.int .u8) 0 23 5 .i64 Try.underlying23 hi0135 hsz135 A0 c0 l0 a1 (Qt) (Qt) HC0.out
                                 have HR462 := Aside0.mk (Kd.C_of_reads (h1 := fun _ => rfl) (hA135 _ (Kd.reads_of_C HR0.out)))
                                 have HC462 := Aside0.mk hC135
                                 clear hA135 hC135 hi0135 hsz135
                                 go_wp2_with (first | ((with_reducible refine gate_callee (f := 44) rfl ?_); refine goesL_ (some 179) rfl rfl Try.func44 (by kernel_rfl) rfl #[.slice A135 (l0.drop (a1 : Int).toNat).length (c0 - a1.toNat), .slice A2 l2.length c2] rfl (by (try simp only [List.map_toArray, List.map_cons, List.map_nil]); first | done | (rw [show (l0.drop (a1 : Int).toNat).length = (l0.length - a1.toNat) from List.length_drop] <;> rfl) | rfl | (simp only [List.length_drop, List.length_take]; rfl)) ?_; (with_reducible refine (sapperref13_Compare.calls kj96 _ _ (l0.drop (a1 : Int).toNat) _ _ l2 t463 t464 _ ?side1 ?side2 ?side3 ?side4 A114.out).mono ?_); (case side1 => exact (Kd.C_below HR462.out HB.out)); (case side2 => exact HC462.out); (case side3 => exact (Kd.C_below HR2.out HB.out)); (case side4 => exact HC2.out); rintro e w' ⟨rfl, ⟨nd, rfl⟩⟩; refine ⟨_, rfl, ?_⟩; obtain ⟨Ao136, co136, eo136⟩ := Kd.R_slice HO_12.out; subst eo136; have p465 : 0 ≤ (a1 : Int) := Qt; have q465 : a1 < (t430.length : Int) := Qt; obtain ⟨ad465, e465, hx465_0⟩ := Kd.at_int (Kd.R_reads' HO_12.out).2.2 a1 p465 q465; cases e465; replace p465 := eq_true p465; replace q465 := eq_true q465; have p466 : 0 ≤ (t456 : Int) := Qt; have q466 : t456 < (t430.length : Int) := Qt; obtain ⟨ad466, e466, hx466_0⟩ := Kd.at_int (Kd.R_reads' HO_12.out).2.2 t456 p466 q466; obtain rfl : ad465 = ad466 := (by injection e466); replace p466 := eq_true p466; replace q466 := eq_true q466))
                                 go_ret
                                 exact ⟨rfl, by repeat first|(with_reducible first|exact HB.out|apply Qg|apply Qh|apply Qi)|exact HB.out⟩
                               ·rw [if_neg c129] at H
                                have c129b0 : (t459 == t464) = false := beq_eq_false_iff_ne.mpr c129
                                have c129b1 : (t459 != t464) = true := bne_iff_ne.mpr c129
                                obtain rfl := Option.some.inj H
                                obtain ⟨i0137, hi0137, _, hsz137, _⟩ := info_parts info5
                                obtain ⟨A137, hcut137, hA137, hC137⟩ := print_drop_of (P := Try.prog) (Value.int .u8) 0 23 5 .i64 Try.underlying23 hi0137 hsz137 A0 c0 l0 a1 (Qt) (Qt) HC0.out
                                have HR462 := Aside0.mk (Kd.C_of_reads (h1 := fun _ => rfl) (hA137 _ (Kd.reads_of_C HR0.out)))
                                have HC462 := Aside0.mk hC137
                                clear hA137 hC137 hi0137 hsz137
                                go_wp2_with (first | ((with_reducible refine gate_callee (f := 44) rfl ?_); refine goesL_ (some 179) rfl rfl Try.func44 (by kernel_rfl) rfl #[.slice A137 (l0.drop (a1 : Int).toNat).length (c0 - a1.toNat), .slice A2 l2.length c2] rfl (by (try simp only [List.map_toArray, List.map_cons, List.map_nil]); first | done | (rw [show (l0.drop (a1 : Int).toNat).length = (l0.length - a1.toNat) from List.length_drop] <;> rfl) | rfl | (simp only [List.length_drop, List.length_take]; rfl)) ?_; (with_reducible refine (sapperref13_Compare.calls kj96 _ _ (l0.drop (a1 : Int).toNat) _ _ l2 t463 t464 _ ?side1 ?side2 ?side3 ?side4 A114.out).mono ?_); (case side1 => exact (Kd.C_below HR462.out HB.out)); (case side2 => exact HC462.out); (case side3 => exact (Kd.C_below HR2.out HB.out)); (case side4 => exact HC2.out); rintro e w' ⟨rfl, ⟨nd, rfl⟩⟩; refine ⟨_, rfl, ?_⟩; obtain ⟨Ao138, co138, eo138⟩ := Kd.R_slice HO_12.out; subst eo138; have p465 : 0 ≤ (a1 : Int) := Qt; have q465 : a1 < (t430.length : Int) := Qt; obtain ⟨ad465, e465, hx465_0⟩ := Kd.at_int (Kd.R_reads' HO_12.out).2.2 a1 p465 q465; cases e465; replace p465 := eq_true p465; replace q465 := eq_true q465; have p466 : 0 ≤ (t456 : Int) := Qt; have q466 : t456 < (t430.length : Int) := Qt; obtain ⟨ad466, e466, hx466_0⟩ := Kd.at_int (Kd.R_reads' HO_12.out).2.2 t456 p466 q466; obtain rfl : ad465 = ad466 := (by injection e466); replace p466 := eq_true p466; replace q466 := eq_true q466))
                                go_ret
                                exact ⟨rfl, by repeat first|(with_reducible first|exact HB.out|apply Qg|apply Qh|apply Qi)|exact HB.out⟩
                              ·rw [if_neg c128] at H
                               have c128b0 : (t458 == t463) = false := beq_eq_false_iff_ne.mpr c128
                               have c128b1 : (t458 != t463) = true := bne_iff_ne.mpr c128
                               obtain rfl := Option.some.inj H
                               obtain ⟨i0139, hi0139, _, hsz139, _⟩ := info_parts info5
                               obtain ⟨A139, hcut139, hA139, hC139⟩ := print_drop_of (P := Try.prog) (Value.int .u8) 0 23 5 .i64 Try.underlying23 hi0139 hsz139 A0 c0 l0 a1 (Qt) (Qt) HC0.out
                               have HR462 := Aside0.mk (Kd.C_of_reads (h1 := fun _ => rfl) (hA139 _ (Kd.reads_of_C HR0.out)))
                               have HC462 := Aside0.mk hC139
                               clear hA139 hC139 hi0139 hsz139
                               go_wp2_with (first | ((with_reducible refine gate_callee (f := 44) rfl ?_); refine goesL_ (some 179) rfl rfl Try.func44 (by kernel_rfl) rfl #[.slice A139 (l0.drop (a1 : Int).toNat).length (c0 - a1.toNat), .slice A2 l2.length c2] rfl (by (try simp only [List.map_toArray, List.map_cons, List.map_nil]); first | done | (rw [show (l0.drop (a1 : Int).toNat).length = (l0.length - a1.toNat) from List.length_drop] <;> rfl) | rfl | (simp only [List.length_drop, List.length_take]; rfl)) ?_; (with_reducible refine (sapperref13_Compare.calls kj96 _ _ (l0.drop (a1 : Int).toNat) _ _ l2 t463 t464 _ ?side1 ?side2 ?side3 ?side4 A114.out).mono ?_); (case side1 => exact (Kd.C_below HR462.out HB.out)); (case side2 => exact HC462.out); (case side3 => exact (Kd.C_below HR2.out HB.out)); (case side4 => exact HC2.out); rintro e w' ⟨rfl, ⟨nd, rfl⟩⟩; refine ⟨_, rfl, ?_⟩; obtain ⟨Ao140, co140, eo140⟩ := Kd.R_slice HO_12.out; subst eo140; have p465 : 0 ≤ (a1 : Int) := Qt; have q465 : a1 < (t430.length : Int) := Qt; obtain ⟨ad465, e465, hx465_0⟩ := Kd.at_int (Kd.R_reads' HO_12.out).2.2 a1 p465 q465; cases e465; replace p465 := eq_true p465; replace q465 := eq_true q465; have p466 : 0 ≤ (t456 : Int) := Qt; have q466 : t456 < (t430.length : Int) := Qt; obtain ⟨ad466, e466, hx466_0⟩ := Kd.at_int (Kd.R_reads' HO_12.out).2.2 t456 p466 q466; obtain rfl : ad465 = ad466 := (by injection e466); replace p466 := eq_true p466; replace q466 := eq_true q466))
                               go_ret
                               exact ⟨rfl, by repeat first|(with_reducible first|exact HB.out|apply Qg|apply Qh|apply Qi)|exact HB.out⟩
                             ·rw [if_neg c127] at H
                              have c127b0 : ((rd t430 t456) == a1) = false := beq_eq_false_iff_ne.mpr c127
                              have c127b1 : ((rd t430 t456) != a1) = true := bne_iff_ne.mpr c127
                              obtain rfl := Option.some.inj H
                              obtain ⟨i0141, hi0141, _, hsz141, _⟩ := info_parts info5
                              obtain ⟨A141, hcut141, hA141, hC141⟩ := print_drop_of (P := Try.prog) (Value.int .u8) 0 23 5 .i64 Try.underlying23 hi0141 hsz141 A0 c0 l0 a1 (Qt) (Qt) HC0.out
                              have HR462 := Aside0.mk (Kd.C_of_reads (h1 := fun _ => rfl) (hA141 _ (Kd.reads_of_C HR0.out)))
                              have HC462 := Aside0.mk hC141
                              clear hA141 hC141 hi0141 hsz141
                              go_wp2_with (first | ((with_reducible refine gate_callee (f := 44) rfl ?_); refine goesL_ (some 179) rfl rfl Try.func44 (by kernel_rfl) rfl #[.slice A141 (l0.drop (a1 : Int).toNat).length (c0 - a1.toNat), .slice A2 l2.length c2] rfl (by (try simp only [List.map_toArray, List.map_cons, List.map_nil]); first | done | (rw [show (l0.drop (a1 : Int).toNat).length = (l0.length - a1.toNat) from List.length_drop] <;> rfl) | rfl | (simp only [List.length_drop, List.length_take]; rfl)) ?_; (with_reducible refine (sapperref13_Compare.calls kj96 _ _ (l0.drop (a1 : Int).toNat) _ _ l2 t463 t464 _ ?side1 ?side2 ?side3 ?side4 A114.out).mono ?_); (case side1 => exact (Kd.C_below HR462.out HB.out)); (case side2 => exact HC462.out); (case side3 => exact (Kd.C_below HR2.out HB.out)); (case side4 => exact HC2.out); rintro e w' ⟨rfl, ⟨nd, rfl⟩⟩; refine ⟨_, rfl, ?_⟩; obtain ⟨Ao142, co142, eo142⟩ := Kd.R_slice HO_12.out; subst eo142; have p465 : 0 ≤ (a1 : Int) := Qt; have q465 : a1 < (t430.length : Int) := Qt; obtain ⟨ad465, e465, hx465_0⟩ := Kd.at_int (Kd.R_reads' HO_12.out).2.2 a1 p465 q465; cases e465; replace p465 := eq_true p465; replace q465 := eq_true q465; have p466 : 0 ≤ (t456 : Int) := Qt; have q466 : t456 < (t430.length : Int) := Qt; obtain ⟨ad466, e466, hx466_0⟩ := Kd.at_int (Kd.R_reads' HO_12.out).2.2 t456 p466 q466; obtain rfl : ad465 = ad466 := (by injection e466); replace p466 := eq_true p466; replace q466 := eq_true q466))
                              go_ret
                              exact ⟨rfl, by repeat first|(with_reducible first|exact HB.out|apply Qg|apply Qh|apply Qi)|exact HB.out⟩
                            ·rw [if_neg c126] at H
                             exact absurd H (by simp)
                           ·rw [if_neg c125] at H
                            exact absurd H (by simp)
                        ·rw [if_neg c118] at H
                         have c118b0 : (t457 == 0) = false := beq_eq_false_iff_ne.mpr c118
                         have c118b1 : (t457 != 0) = true := bne_iff_ne.mpr c118
                         obtain rfl := Option.some.inj H
                         obtain ⟨i0143, hi0143, _, hsz143, _⟩ := info_parts info5
                         obtain ⟨A143, hcut143, hA143, hC143⟩ := print_drop_of (P := Try.prog) (Value.int .u8) 0 23 5 .i64 Try.underlying23 hi0143 hsz143 A0 c0 l0 a1 (Qt) (Qt) HC0.out
                         have HR462 := Aside0.mk (Kd.C_of_reads (h1 := fun _ => rfl) (hA143 _ (Kd.reads_of_C HR0.out)))
                         have HC462 := Aside0.mk hC143
                         clear hA143 hC143 hi0143 hsz143
                         go_wp2_with (first | ((with_reducible refine gate_callee (f := 44) rfl ?_); refine goesL_ (some 179) rfl rfl Try.func44 (by kernel_rfl) rfl #[.slice A143 (l0.drop (a1 : Int).toNat).length (c0 - a1.toNat), .slice A2 l2.length c2] rfl (by (try simp only [List.map_toArray, List.map_cons, List.map_nil]); first | done | (rw [show (l0.drop (a1 : Int).toNat).length = (l0.length - a1.toNat) from List.length_drop] <;> rfl) | rfl | (simp only [List.length_drop, List.length_take]; rfl)) ?_; (with_reducible refine (sapperref13_Compare.calls kj96 _ _ (l0.drop (a1 : Int).toNat) _ _ l2 t463 t464 _ ?side1 ?side2 ?side3 ?side4 A114.out).mono ?_); (case side1 => exact (Kd.C_below HR462.out HB.out)); (case side2 => exact HC462.out); (case side3 => exact (Kd.C_below HR2.out HB.out)); (case side4 => exact HC2.out); rintro e w' ⟨rfl, ⟨nd, rfl⟩⟩; refine ⟨_, rfl, ?_⟩; obtain ⟨Ao144, co144, eo144⟩ := Kd.R_slice HO_12.out; subst eo144; have p465 : 0 ≤ (a1 : Int) := Qt; have q465 : a1 < (t430.length : Int) := Qt; obtain ⟨ad465, e465, hx465_0⟩ := Kd.at_int (Kd.R_reads' HO_12.out).2.2 a1 p465 q465; cases e465; replace p465 := eq_true p465; replace q465 := eq_true q465))
                         go_ret
                         exact ⟨rfl, by repeat first|(with_reducible first|exact HB.out|apply Qg|apply Qh|apply Qi)|exact HB.out⟩
                       ·rw [if_neg c117] at H
                        have c117b0 : (t455 == 0) = false := beq_eq_false_iff_ne.mpr c117
                        have c117b1 : (t455 != 0) = true := bne_iff_ne.mpr c117
                        obtain rfl := Option.some.inj H
                        obtain ⟨i0145, hi0145, _, hsz145, _⟩ := info_parts info5
                        obtain ⟨A145, hcut145, hA145, hC145⟩ := print_drop_of (P := Try.prog) (Value.int .u8) 0 23 5 .i64 Try.underlying23 hi0145 hsz145 A0 c0 l0 a1 (Qt) (Qt) HC0.out
                        have HR462 := Aside0.mk (Kd.C_of_reads (h1 := fun _ => rfl) (hA145 _ (Kd.reads_of_C HR0.out)))
                        have HC462 := Aside0.mk hC145
                        clear hA145 hC145 hi0145 hsz145
                        go_wp2_with (first | ((with_reducible refine gate_callee (f := 44) rfl ?_); refine goesL_ (some 179) rfl rfl Try.func44 (by kernel_rfl) rfl #[.slice A145 (l0.drop (a1 : Int).toNat).length (c0 - a1.toNat), .slice A2 l2.length c2] rfl (by (try simp only [List.map_toArray, List.map_cons, List.map_nil]); first | done | (rw [show (l0.drop (a1 : Int).toNat).length = (l0.length - a1.toNat) from List.length_drop] <;> rfl) | rfl | (simp only [List.length_drop, List.length_take]; rfl)) ?_; (with_reducible refine (sapperref13_Compare.calls kj96 _ _ (l0.drop (a1 : Int).toNat) _ _ l2 t463 t464 _ ?side1 ?side2 ?side3 ?side4 A114.out).mono ?_); (case side1 => exact (Kd.C_below HR462.out HB.out)); (case side2 => exact HC462.out); (case side3 => exact (Kd.C_below HR2.out HB.out)); (case side4 => exact HC2.out); rintro e w' ⟨rfl, ⟨nd, rfl⟩⟩; refine ⟨_, rfl, ?_⟩; obtain ⟨Ao146, co146, eo146⟩ := Kd.R_slice HO_12.out; subst eo146; have p465 : 0 ≤ (a1 : Int) := Qt; have q465 : a1 < (t430.length : Int) := Qt; obtain ⟨ad465, e465, hx465_0⟩ := Kd.at_int (Kd.R_reads' HO_12.out).2.2 a1 p465 q465; cases e465; replace p465 := eq_true p465; replace q465 := eq_true q465))
                        go_ret
                        exact ⟨rfl, by repeat first|(with_reducible first|exact HB.out|apply Qg|apply Qh|apply Qi)|exact HB.out⟩
                      ·rw [if_neg c116] at H
                       have c116b0 : (t454 == (rd t430 a1)) = false := beq_eq_false_iff_ne.mpr c116
                       have c116b1 : (t454 != (rd t430 a1)) = true := bne_iff_ne.mpr c116
                       obtain rfl := Option.some.inj H
                       obtain ⟨i0147, hi0147, _, hsz147, _⟩ := info_parts info5
                       obtain ⟨A147, hcut147, hA147, hC147⟩ := print_drop_of (P := Try.prog) (Value.int .u8) 0 23 5 .i64 Try.underlying23 hi0147 hsz147 A0 c0 l0 a1 (Qt) (Qt) HC0.out
                       have HR462 := Aside0.mk (Kd.C_of_reads (h1 := fun _ => rfl) (hA147 _ (Kd.reads_of_C HR0.out)))
                       have HC462 := Aside0.mk hC147
                       clear hA147 hC147 hi0147 hsz147
                       go_wp2_with (first | ((with_reducible refine gate_callee (f := 44) rfl ?_); refine goesL_ (some 179) rfl rfl Try.func44 (by kernel_rfl) rfl #[.slice A147 (l0.drop (a1 : Int).toNat).length (c0 - a1.toNat), .slice A2 l2.length c2] rfl (by (try simp only [List.map_toArray, List.map_cons, List.map_nil]); first | done | (rw [show (l0.drop (a1 : Int).toNat).length = (l0.length - a1.toNat) from List.length_drop] <;> rfl) | rfl | (simp only [List.length_drop, List.length_take]; rfl)) ?_; (with_reducible refine (sapperref13_Compare.calls kj96 _ _ (l0.drop (a1 : Int).toNat) _ _ l2 t463 t464 _ ?side1 ?side2 ?side3 ?side4 A114.out).mono ?_); (case side1 => exact (Kd.C_below HR462.out HB.out)); (case side2 => exact HC462.out); (case side3 => exact (Kd.C_below HR2.out HB.out)); (case side4 => exact HC2.out); rintro e w' ⟨rfl, ⟨nd, rfl⟩⟩; refine ⟨_, rfl, ?_⟩; obtain ⟨Ao148, co148, eo148⟩ := Kd.R_slice HO_12.out; subst eo148; have p465 : 0 ≤ (a1 : Int) := Qt; have q465 : a1 < (t430.length : Int) := Qt; obtain ⟨ad465, e465, hx465_0⟩ := Kd.at_int (Kd.R_reads' HO_12.out).2.2 a1 p465 q465; cases e465; replace p465 := eq_true p465; replace q465 := eq_true q465))
                       go_ret
                       exact ⟨rfl, by repeat first|(with_reducible first|exact HB.out|apply Qg|apply Qh|apply Qi)|exact HB.out⟩
                     ·rw [if_neg c115] at H
                      exact absurd H (by simp)
                    ·rw [if_neg c113] at H
                     exact absurd H (by simp)
                   ·rw [if_neg c112] at H
                    exact absurd H (by simp)
  ·rw [if_neg c6] at H
   exact absurd H (by simp)
 ·rw [if_neg c5] at H
  exact absurd H (by simp)

/-- THE ONE PURE STATEMENT of sapperlaw13_SuffixIndexes: yours. -/
def sapperlaw13_SuffixIndexes.Pure : Prop := ∀ (l0 : List Int) (a1 : Int) (l2 : List Int), l0.length ≤ maxLen → l0.length * 1 ≤ 140737488351232 → (∀ x ∈ l0, (Lit.int .u8 x).wf = true) → (Lit.int .i64 a1).wf = true → l2.length ≤ maxLen → l2.length * 1 ≤ 140737488351232 → (∀ x ∈ l2, (Lit.int .u8 x).wf = true) → ∃ k, sapperlaw13_SuffixIndexes.f k l0 a1 l2 = some true
theorem sapperlaw13_SuffixIndexes.walk (P : sapperlaw13_SuffixIndexes.Pure) (a0 : Option Addr) (len0 cap0 : Nat) (z0 : List Int) (a1 : Int) (a2 : Option Addr) (len2 cap2 : Nat) (z2 : List Int) (w : World) (w0 : (a0 = none ∧ len0 = 0 ∧ cap0 = 0 ∧ z0 = []) ∨ ∃ x, a0 = some x ∧ len0 ≤ cap0 ∧ cap0 ≤ maxLen ∧ z0.length = cap0 ∧ (∀ i, i < z0.length → w.cell? (x.add i) = some (.int .u8 (z0.getD i 0))) ∧ ∀ n ∈ z0, (Lit.int .u8 n).wf = true) (y0 : len0 * 1 ≤ 140737488351232) (w1 : (Lit.int .i64 a1).wf = true) (w2 : (a2 = none ∧ len2 = 0 ∧ cap2 = 0 ∧ z2 = []) ∨ ∃ x, a2 = some x ∧ len2 ≤ cap2 ∧ cap2 ≤ maxLen ∧ z2.length = cap2 ∧ (∀ i, i < z2.length → w.cell? (x.add i) = some (.int .u8 (z2.getD i 0))) ∧ ∀ n ∈ z2, (Lit.int .u8 n).wf = true) (y2 : len2 * 1 ≤ 140737488351232) :
  Calls Try.prog 11 #[.slice a0 len0 cap0, .int .i64 a1, .slice a2 len2 cap2] w fun e w' => e = .returned (.bool true) ∧ Below w.heap.size w w' := by
 obtain ⟨l0, rfl, hr0, hm0, hw0, hc0⟩ := ReadsInt.ofRowC w0
 obtain ⟨l2, rfl, hr2, hm2, hw2, hc2⟩ := ReadsInt.ofRowC w2
 obtain ⟨k, h⟩ := P l0 a1 l2 hm0 y0 hw0 w1 hm2 y2 hw2
 refine (sapperlaw13_SuffixIndexes.calls k _ _ l0 a1 _ _ l2 true w (Kd.C_of_reads (d := (0 : Int)) (h1 := fun _ => rfl) hr0) hc0 (Kd.C_of_reads (d := (0 : Int)) (h1 := fun _ => rfl) hr2) hc2 h).mono ?_
 rintro e w' ⟨rfl, hd⟩
 exact ⟨rfl, hd⟩

end Go.Proofs.Ythcnnfahlhklgaa.X
