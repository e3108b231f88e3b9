-- Printed by wip/xprint.py of this repo (a wrapper of the session's own round the print).
import Derived.Test.YthcnnfahlhklgaaXx0
import Derived.Test.YthcnnfahlhklgaaXx13
import Derived.Test.YthcnnfahlhklgaaXx16
import Derived.Test.YthcnnfahlhklgaaXx17
import Derived.Test.YthcnnfahlhklgaaXx19
import Derived.Test.YthcnnfahlhklgaaXx37
import Derived.Test.YthcnnfahlhklgaaXx38
import Derived.Test.YthcnnfahlhklgaaXx39
namespace Go.Proofs.Ythcnnfahlhklgaa.X
open Go.RowKit Go.Proofs.YthcnnfahlhklgaaW.PrintWords Go.Proofs.YthcnnfahlhklgaaW.PrintLast Go.Proofs.YthcnnfahlhklgaaW.PrintMore
attribute [local go_sem] ptrOf_eql ptrOf_neq ptrOf_eqg ptrOf_neg str_leq str_geq str_gtr max2_int min2_int max_two min_two max_three min_three max_four min_four   -- for this text's walks alone
set_option linter.unusedVariables false
set_option linter.unusedSimpArgs false

/-! ### sapperlaw13_SuffixOrders: function 8 -/
mutual
def sapperlaw13_SuffixOrders.j0 : Nat → List Int → List (S82) → Bool → Option (Bool)
 | 0, _, _, _ => none
 | k + 1, x0, x3, x42 => if x42 = true then (some false) else ((suffix_Index_Array.f x3).bind fun t488 => ((suffix_Index_Lcp.f x3).bind fun t491 => (if (t488.length : Int) = (x0.length : Int) then (sapperlaw13_SuffixOrders.j1 k x0 x3 t488 t491 ((t491.length : Int) != (x0.length : Int))) else (sapperlaw13_SuffixOrders.j1 k x0 x3 t488 t491 true))))
def sapperlaw13_SuffixOrders.j1 : Nat → List Int → List (S82) → List Int → List Int → Bool → Option (Bool)
 | 0, _, _, _, _, _ => none
 | k + 1, x0, x3, x5, x6, x58 => if x58 = true then (some false) else (sapperlaw13_SuffixOrders.l0 k x0 x3 x5 x6 (x5.length : Int) 0)
def sapperlaw13_SuffixOrders.l0 : Nat → List Int → List (S82) → List Int → List Int → Int → Int → Option (Bool)
 | 0, _, _, _, _, _, _ => none
 | k + 1, x0, x3, x5, x6, x60, x61 => if x61 < x60 then (if 0 ≤ x61 then (if x61 < (x5.length : Int) then ((suffix_Index_At.f k x3 x61).bind fun bt496 => ((suffix_Index_Rank.f k x3 (rd x5 x61)).bind fun bt498 => (if bt496.2 = 0 then (if bt498.2 = 0 then (if bt496.1 = (rd x5 x61) then (if bt498.1 = x61 then (if (rd x5 x61) < 0 then (sapperlaw13_SuffixOrders.j3 k x0 x3 x5 x6 x61 (rd x5 x61) x60 x61 true) else (sapperlaw13_SuffixOrders.j3 k x0 x3 x5 x6 x61 (rd x5 x61) x60 x61 (decide ((rd x5 x61) ≥ (x0.length : Int))))) else (sapperlaw13_SuffixOrders.j3 k x0 x3 x5 x6 x61 (rd x5 x61) x60 x61 true)) else (sapperlaw13_SuffixOrders.j3 k x0 x3 x5 x6 x61 (rd x5 x61) x60 x61 true)) else (sapperlaw13_SuffixOrders.j3 k x0 x3 x5 x6 x61 (rd x5 x61) x60 x61 true)) else (sapperlaw13_SuffixOrders.j3 k x0 x3 x5 x6 x61 (rd x5 x61) x60 x61 true)))) else (none)) else (none)) else ((sapperlaw13_lives.f k).bind fun t494 => (some t494))
def sapperlaw13_SuffixOrders.j3 : Nat → List Int → List (S82) → List Int → List Int → Int → Int → Int → Int → Bool → Option (Bool)
 | 0, _, _, _, _, _, _, _, _, _ => none
 | k + 1, x0, x3, x5, x6, x7, x8, x60, x61, x103 => if x103 = true then (some false) else (if x7 = 0 then (if 0 < (x6.length : Int) then (if (rd x6 0) = 0 then (sapperlaw13_SuffixOrders.l0 k x0 x3 x5 x6 x60 (wrap64 (x61 + 1))) else (some false)) else (none)) else (if 0 ≤ (wrap64 (x7 - 1)) then (if (wrap64 (x7 - 1)) < (x5.length : Int) then (if 0 ≤ x7 then (if x7 < (x6.length : Int) then (if (rd x6 x7) < 0 then (sapperlaw13_SuffixOrders.j4 k x0 x3 x5 x6 (rd x5 (wrap64 (x7 - 1))) x8 (rd x6 x7) x60 x61 true) else (if (wrap64 ((rd x5 (wrap64 (x7 - 1))) + (rd x6 x7))) > (x0.length : Int) then (sapperlaw13_SuffixOrders.j4 k x0 x3 x5 x6 (rd x5 (wrap64 (x7 - 1))) x8 (rd x6 x7) x60 x61 true) else (if (wrap64 (x8 + (rd x6 x7))) > (x0.length : Int) then (sapperlaw13_SuffixOrders.j4 k x0 x3 x5 x6 (rd x5 (wrap64 (x7 - 1))) x8 (rd x6 x7) x60 x61 true) else (if 0 ≤ (rd x5 (wrap64 (x7 - 1))) then (if (rd x5 (wrap64 (x7 - 1))) ≤ (wrap64 ((rd x5 (wrap64 (x7 - 1))) + (rd x6 x7))) then (if (wrap64 ((rd x5 (wrap64 (x7 - 1))) + (rd x6 x7))) ≤ (x0.length : Int) then (if 0 ≤ x8 then (if x8 ≤ (wrap64 (x8 + (rd x6 x7))) then (if (wrap64 (x8 + (rd x6 x7))) ≤ (x0.length : Int) then (sapperlaw13_SuffixOrders.j4 k x0 x3 x5 x6 (rd x5 (wrap64 (x7 - 1))) x8 (rd x6 x7) x60 x61 ((strOfNums ((x0.take ((wrap64 ((rd x5 (wrap64 (x7 - 1))) + (rd x6 x7))) : Int).toNat).drop ((rd x5 (wrap64 (x7 - 1))) : Int).toNat)).toList != (strOfNums ((x0.take ((wrap64 (x8 + (rd x6 x7))) : Int).toNat).drop (x8 : Int).toNat)).toList)) else (none)) else (none)) else (none)) else (none)) else (none)) else (none))))) else (none)) else (none)) else (none)) else (none)))
def sapperlaw13_SuffixOrders.j4 : Nat → List Int → List (S82) → List Int → List Int → Int → Int → Int → Int → Int → Bool → Option (Bool)
 | 0, _, _, _, _, _, _, _, _, _, _ => none
 | k + 1, x0, x3, x5, x6, x13, x14, x15, x60, x61, x154 => if x154 = true then (some false) else (if (wrap64 (x13 + x15)) < (x0.length : Int) then (if (wrap64 (x14 + x15)) = (x0.length : Int) then (some false) else (if 0 ≤ (wrap64 (x13 + x15)) then (if 0 ≤ (wrap64 (x14 + x15)) then (if (wrap64 (x14 + x15)) < (x0.length : Int) then (if (rd x0 (wrap64 (x13 + x15))) ≥ (rd x0 (wrap64 (x14 + x15))) then (some false) else (sapperlaw13_SuffixOrders.l0 k x0 x3 x5 x6 x60 (wrap64 (x61 + 1)))) else (none)) else (none)) else (none))) else (sapperlaw13_SuffixOrders.l0 k x0 x3 x5 x6 x60 (wrap64 (x61 + 1))))
end
def sapperlaw13_SuffixOrders.f (k : Nat) (l0 : List Int) : Option (Bool) := (suffix_New.f k l0).bind fun bt483 => (if (l0.length : Int) > 16777216 then (if (bt483.1.length : Int) = 0 then (some (bt483.2 == 130)) else (some false)) else (if bt483.2 = 0 then (if (bt483.1.length : Int) = 0 then (sapperlaw13_SuffixOrders.j0 k l0 bt483.1 true) else ((suffix_Index_Len.f bt483.1).bind fun t487 => (sapperlaw13_SuffixOrders.j0 k l0 bt483.1 (t487 != (l0.length : Int))))) else (sapperlaw13_SuffixOrders.j0 k l0 bt483.1 true)))
theorem sapperlaw13_SuffixOrders.mono_l : ∀ k, (∀ y0 y1 y2, LeO (sapperlaw13_SuffixOrders.j0 k y0 y1 y2) (sapperlaw13_SuffixOrders.j0 (k + 1) y0 y1 y2)) ∧ (∀ y0 y1 y2 y3 y4, LeO (sapperlaw13_SuffixOrders.j1 k y0 y1 y2 y3 y4) (sapperlaw13_SuffixOrders.j1 (k + 1) y0 y1 y2 y3 y4)) ∧ (∀ y0 y1 y2 y3 y4 y5, LeO (sapperlaw13_SuffixOrders.l0 k y0 y1 y2 y3 y4 y5) (sapperlaw13_SuffixOrders.l0 (k + 1) y0 y1 y2 y3 y4 y5)) ∧ (∀ y0 y1 y2 y3 y4 y5 y6 y7 y8, LeO (sapperlaw13_SuffixOrders.j3 k y0 y1 y2 y3 y4 y5 y6 y7 y8) (sapperlaw13_SuffixOrders.j3 (k + 1) y0 y1 y2 y3 y4 y5 y6 y7 y8)) ∧ (∀ y0 y1 y2 y3 y4 y5 y6 y7 y8 y9, LeO (sapperlaw13_SuffixOrders.j4 k y0 y1 y2 y3 y4 y5 y6 y7 y8 y9) (sapperlaw13_SuffixOrders.j4 (k + 1) y0 y1 y2 y3 y4 y5 y6 y7 y8 y9))
 | 0 => ⟨fun _ _ _ r h => by simp [sapperlaw13_SuffixOrders.j0] at h, fun _ _ _ _ _ r h => by simp [sapperlaw13_SuffixOrders.j1] at h, fun _ _ _ _ _ _ r h => by simp [sapperlaw13_SuffixOrders.l0] at h, fun _ _ _ _ _ _ _ _ _ r h => by simp [sapperlaw13_SuffixOrders.j3] at h, fun _ _ _ _ _ _ _ _ _ _ r h => by simp [sapperlaw13_SuffixOrders.j4] at h⟩
 | k + 1 => by
  obtain ⟨ih0, ih1, ih2, ih3, ih4⟩ := sapperlaw13_SuffixOrders.mono_l k
  refine ⟨?_, ?_, ?_, ?_, ?_⟩
  ·intro y0 y1 y2
   unfold sapperlaw13_SuffixOrders.j0
   repeat' first
   | (with_reducible exact ih0 _ _ _)
   | (with_reducible exact ih1 _ _ _ _ _)
   | (with_reducible exact ih2 _ _ _ _ _ _)
   | (with_reducible exact ih3 _ _ _ _ _ _ _ _ _)
   | (with_reducible exact ih4 _ _ _ _ _ _ _ _ _ _)
   | (with_reducible exact sapperlaw13_lives.mono _)
   | (with_reducible exact suffix_Index_At.mono _ _ _)
   | (with_reducible exact suffix_Index_Rank.mono _ _ _)
   | (with_reducible exact suffix_New.mono _ _)
   | (with_reducible exact LeO.refl _)
   | (with_reducible exact LeO.none _)
   | (with_reducible refine LeO.ite ?_ ?_)
   | (with_reducible refine LeO.bind ?_ (fun _ => ?_))
   | exact ih0 _ _ _
   | exact ih1 _ _ _ _ _
   | exact ih2 _ _ _ _ _ _
   | exact ih3 _ _ _ _ _ _ _ _ _
   | exact ih4 _ _ _ _ _ _ _ _ _ _
   | exact sapperlaw13_lives.mono _
   | exact suffix_Index_At.mono _ _ _
   | exact suffix_Index_Rank.mono _ _ _
   | exact suffix_New.mono _ _
   | exact LeO.none _
   | refine LeO.ite ?_ ?_
   | refine LeO.bind ?_ (fun _ => ?_)
  ·intro y0 y1 y2 y3 y4
   unfold sapperlaw13_SuffixOrders.j1
   repeat' first
   | (with_reducible exact ih0 _ _ _)
   | (with_reducible exact ih1 _ _ _ _ _)
   | (with_reducible exact ih2 _ _ _ _ _ _)
   | (with_reducible exact ih3 _ _ _ _ _ _ _ _ _)
   | (with_reducible exact ih4 _ _ _ _ _ _ _ _ _ _)
   | (with_reducible exact sapperlaw13_lives.mono _)
   | (with_reducible exact suffix_Index_At.mono _ _ _)
   | (with_reducible exact suffix_Index_Rank.mono _ _ _)
   | (with_reducible exact suffix_New.mono _ _)
   | (with_reducible exact LeO.refl _)
   | (with_reducible exact LeO.none _)
   | (with_reducible refine LeO.ite ?_ ?_)
   | (with_reducible refine LeO.bind ?_ (fun _ => ?_))
   | exact ih0 _ _ _
   | exact ih1 _ _ _ _ _
   | exact ih2 _ _ _ _ _ _
   | exact ih3 _ _ _ _ _ _ _ _ _
   | exact ih4 _ _ _ _ _ _ _ _ _ _
   | exact sapperlaw13_lives.mono _
   | exact suffix_Index_At.mono _ _ _
   | exact suffix_Index_Rank.mono _ _ _
   | exact suffix_New.mono _ _
   | exact LeO.none _
   | refine LeO.ite ?_ ?_
   | refine LeO.bind ?_ (fun _ => ?_)
  ·intro y0 y1 y2 y3 y4 y5
   unfold sapperlaw13_SuffixOrders.l0
   repeat' first
   | (with_reducible exact ih0 _ _ _)
   | (with_reducible exact ih1 _ _ _ _ _)
   | (with_reducible exact ih2 _ _ _ _ _ _)
   | (with_reducible exact ih3 _ _ _ _ _ _ _ _ _)
   | (with_reducible exact ih4 _ _ _ _ _ _ _ _ _ _)
   | (with_reducible exact sapperlaw13_lives.mono _)
   | (with_reducible exact suffix_Index_At.mono _ _ _)
   | (with_reducible exact suffix_Index_Rank.mono _ _ _)
   | (with_reducible exact suffix_New.mono _ _)
   | (with_reducible exact LeO.refl _)
   | (with_reducible exact LeO.none _)
   | (with_reducible refine LeO.ite ?_ ?_)
   | (with_reducible refine LeO.bind ?_ (fun _ => ?_))
   | exact ih0 _ _ _
   | exact ih1 _ _ _ _ _
   | exact ih2 _ _ _ _ _ _
   | exact ih3 _ _ _ _ _ _ _ _ _
   | exact ih4 _ _ _ _ _ _ _ _ _ _
   | exact sapperlaw13_lives.mono _
   | exact suffix_Index_At.mono _ _ _
   | exact suffix_Index_Rank.mono _ _ _
   | exact suffix_New.mono _ _
   | exact LeO.none _
   | refine LeO.ite ?_ ?_
   | refine LeO.bind ?_ (fun _ => ?_)
  ·intro y0 y1 y2 y3 y4 y5 y6 y7 y8
   unfold sapperlaw13_SuffixOrders.j3
   repeat' first
   | (with_reducible exact ih0 _ _ _)
   | (with_reducible exact ih1 _ _ _ _ _)
   | (with_reducible exact ih2 _ _ _ _ _ _)
   | (with_reducible exact ih3 _ _ _ _ _ _ _ _ _)
   | (with_reducible exact ih4 _ _ _ _ _ _ _ _ _ _)
   | (with_reducible exact sapperlaw13_lives.mono _)
   | (with_reducible exact suffix_Index_At.mono _ _ _)
   | (with_reducible exact suffix_Index_Rank.mono _ _ _)
   | (with_reducible exact suffix_New.mono _ _)
   | (with_reducible exact LeO.refl _)
   | (with_reducible exact LeO.none _)
   | (with_reducible refine LeO.ite ?_ ?_)
   | (with_reducible refine LeO.bind ?_ (fun _ => ?_))
   | exact ih0 _ _ _
   | exact ih1 _ _ _ _ _
   | exact ih2 _ _ _ _ _ _
   | exact ih3 _ _ _ _ _ _ _ _ _
   | exact ih4 _ _ _ _ _ _ _ _ _ _
   | exact sapperlaw13_lives.mono _
   | exact suffix_Index_At.mono _ _ _
   | exact suffix_Index_Rank.mono _ _ _
   | exact suffix_New.mono _ _
   | exact LeO.none _
   | refine LeO.ite ?_ ?_
   | refine LeO.bind ?_ (fun _ => ?_)
  ·intro y0 y1 y2 y3 y4 y5 y6 y7 y8 y9
   unfold sapperlaw13_SuffixOrders.j4
   repeat' first
   | (with_reducible exact ih0 _ _ _)
   | (with_reducible exact ih1 _ _ _ _ _)
   | (with_reducible exact ih2 _ _ _ _ _ _)
   | (with_reducible exact ih3 _ _ _ _ _ _ _ _ _)
   | (with_reducible exact ih4 _ _ _ _ _ _ _ _ _ _)
   | (with_reducible exact sapperlaw13_lives.mono _)
   | (with_reducible exact suffix_Index_At.mono _ _ _)
   | (with_reducible exact suffix_Index_Rank.mono _ _ _)
   | (with_reducible exact suffix_New.mono _ _)
   | (with_reducible exact LeO.refl _)
   | (with_reducible exact LeO.none _)
   | (with_reducible refine LeO.ite ?_ ?_)
   | (with_reducible refine LeO.bind ?_ (fun _ => ?_))
   | exact ih0 _ _ _
   | exact ih1 _ _ _ _ _
   | exact ih2 _ _ _ _ _ _
   | exact ih3 _ _ _ _ _ _ _ _ _
   | exact ih4 _ _ _ _ _ _ _ _ _ _
   | exact sapperlaw13_lives.mono _
   | exact suffix_Index_At.mono _ _ _
   | exact suffix_Index_Rank.mono _ _ _
   | exact suffix_New.mono _ _
   | exact LeO.none _
   | refine LeO.ite ?_ ?_
   | refine LeO.bind ?_ (fun _ => ?_)
theorem sapperlaw13_SuffixOrders.mono : ∀ a0 k, LeO (sapperlaw13_SuffixOrders.f k a0) (sapperlaw13_SuffixOrders.f (k + 1) a0) := by
 intro a0 k
 obtain ⟨ih0, ih1, ih2, ih3, ih4⟩ := sapperlaw13_SuffixOrders.mono_l k
 unfold sapperlaw13_SuffixOrders.f
 repeat' first
   | (with_reducible exact ih0 _ _ _)
   | (with_reducible exact ih1 _ _ _ _ _)
   | (with_reducible exact ih2 _ _ _ _ _ _)
   | (with_reducible exact ih3 _ _ _ _ _ _ _ _ _)
   | (with_reducible exact ih4 _ _ _ _ _ _ _ _ _ _)
   | (with_reducible exact sapperlaw13_lives.mono _)
   | (with_reducible exact suffix_Index_At.mono _ _ _)
   | (with_reducible exact suffix_Index_Rank.mono _ _ _)
   | (with_reducible exact suffix_New.mono _ _)
   | (with_reducible exact LeO.refl _)
   | (with_reducible exact LeO.none _)
   | (with_reducible refine LeO.ite ?_ ?_)
   | (with_reducible refine LeO.bind ?_ (fun _ => ?_))
   | exact ih0 _ _ _
   | exact ih1 _ _ _ _ _
   | exact ih2 _ _ _ _ _ _
   | exact ih3 _ _ _ _ _ _ _ _ _
   | exact ih4 _ _ _ _ _ _ _ _ _ _
   | exact sapperlaw13_lives.mono _
   | exact suffix_Index_At.mono _ _ _
   | exact suffix_Index_Rank.mono _ _ _
   | exact suffix_New.mono _ _
   | exact LeO.none _
   | refine LeO.ite ?_ ?_
   | refine LeO.bind ?_ (fun _ => ?_)
set_option maxHeartbeats 8000000 in
set_option maxRecDepth 100000 in
theorem sapperlaw13_SuffixOrders.calls (k : Nat) (A0 : Option Addr) (c0 : Nat) (l0 : List Int) (r : Bool) (w : World) (hr0 : Kd.C (Kd.int .u8) w A0 l0.length l0) (hc0 : l0.length ≤ c0) (h : sapperlaw13_SuffixOrders.f k l0 = some r) :
  Calls Try.prog 8 #[.slice A0 l0.length c0] w fun e w' => e = .returned (.bool r) ∧ Below w.heap.size w w' := by
 have HR0 := Aside0.mk hr0
 have HC0 := Aside0.mk hc0
 clear hr0 hc0
 have HB := Aside0.mk (Below.refl w.heap.size w)
 have H : ((suffix_New.f k l0).bind fun bt483 => (if (l0.length : Int) > 16777216 then (if (bt483.1.length : Int) = 0 then (some (bt483.2 == 130)) else (some false)) else (if bt483.2 = 0 then (if (bt483.1.length : Int) = 0 then (sapperlaw13_SuffixOrders.j0 k l0 bt483.1 true) else ((suffix_Index_Len.f bt483.1).bind fun t487 => (sapperlaw13_SuffixOrders.j0 k l0 bt483.1 (t487 != (l0.length : Int))))) else (sapperlaw13_SuffixOrders.j0 k l0 bt483.1 true)))) = some r := h
 clear h
 replace H := Option.bind_eq_some_iff.mp H
 obtain ⟨⟨t483, t484⟩, A20, H⟩ := H
 replace H : (if (l0.length : Int) > 16777216 then (if (t483.length : Int) = 0 then (some (t484 == 130)) else (some false)) else (if t484 = 0 then (if (t483.length : Int) = 0 then (sapperlaw13_SuffixOrders.j0 k l0 t483 true) else ((suffix_Index_Len.f t483).bind fun t487 => (sapperlaw13_SuffixOrders.j0 k l0 t483 (t487 != (l0.length : Int))))) else (sapperlaw13_SuffixOrders.j0 k l0 t483 true))) = some r := H
 have A2 := Aside0.mk A20
 clear A20
 by_cases c3 : (l0.length : Int) > 16777216
 ·rw [if_pos c3] at H
  have c3b0 : decide (16777216 < (l0.length : Int)) = true := decide_eq_true c3
  have c3b1 : decide (16777216 < l0.length) = true := decide_eq_true (by omega)
  clear c3
  by_cases c4 : (t483.length : Int) = 0
  ·rw [if_pos c4] at H
   have c4b0 : ((t483.length : Int) == 0) = true := beq_iff_eq.mpr c4
   have c4b1 : ((t483.length : Int) != 0) = false := bne_eq_false_iff_eq.mpr c4
   clear c4
   obtain rfl := Option.some.inj H
   go_enter Try.func8, Try.ntmps8
   go_wp2_with (first | (go_at_call 16; (with_reducible refine (suffix_New.calls k _ _ l0 t483 t484 _ ?side1 ?side2 A2.out).mono ?_); (case side1 => repeat (first | exact HR0.out | (with_reducible refine Kd.C_alloc ?_ _) | (with_reducible refine Kd.C_drewN ?_ _) | (with_reducible refine Kd.C_drew ?_))); (case side2 => exact HC0.out); rintro e w5 ⟨v485, rfl, ho0, hb⟩; have n0_ := Aside0.mk (Kd.S_lower ho0 (below_size (by repeat (first | (with_reducible first | exact HB.out | apply below_alloc | apply pw_below_drewN | apply below_drew1) | exact HB.out)))); have n1_ := Aside0.mk (below_step (by repeat (first | (with_reducible first | exact HB.out | apply below_alloc | apply pw_below_drewN | apply below_drew1) | exact HB.out)) hb); clear HB; have HO486 := n0_; have HB := n1_; clear n0_ n1_; (try clear hb); (try clear hb2); (try clear hk); (try clear hi); (try clear ho0); obtain ⟨Ao6, co6, eo6⟩ := Kd.S_slice HO486.out; subst eo6))
   repeat (go_quiet (first | (go_at_call 16; (with_reducible refine (suffix_New.calls k _ _ l0 t483 t484 _ ?side1 ?side2 A2.out).mono ?_); (case side1 => repeat (first | exact HR0.out | (with_reducible refine Kd.C_alloc ?_ _) | (with_reducible refine Kd.C_drewN ?_ _) | (with_reducible refine Kd.C_drew ?_))); (case side2 => exact HC0.out); rintro e w5 ⟨v485, rfl, ho0, hb⟩; have n0_ := Aside0.mk (Kd.S_lower ho0 (below_size (by repeat (first | (with_reducible first | exact HB.out | apply below_alloc | apply pw_below_drewN | apply below_drew1) | exact HB.out)))); have n1_ := Aside0.mk (below_step (by repeat (first | (with_reducible first | exact HB.out | apply below_alloc | apply pw_below_drewN | apply below_drew1) | exact HB.out)) hb); clear HB; have HO486 := n0_; have HB := n1_; clear n0_ n1_; (try clear hb); (try clear hb2); (try clear hk); (try clear hi); (try clear ho0); obtain ⟨Ao6, co6, eo6⟩ := Kd.S_slice HO486.out; subst eo6)); try go_wp2_with (first | (go_at_call 16; (with_reducible refine (suffix_New.calls k _ _ l0 t483 t484 _ ?side1 ?side2 A2.out).mono ?_); (case side1 => repeat (first | exact HR0.out | (with_reducible refine Kd.C_alloc ?_ _) | (with_reducible refine Kd.C_drewN ?_ _) | (with_reducible refine Kd.C_drew ?_))); (case side2 => exact HC0.out); rintro e w5 ⟨v485, rfl, ho0, hb⟩; have n0_ := Aside0.mk (Kd.S_lower ho0 (below_size (by repeat (first | (with_reducible first | exact HB.out | apply below_alloc | apply pw_below_drewN | apply below_drew1) | exact HB.out)))); have n1_ := Aside0.mk (below_step (by repeat (first | (with_reducible first | exact HB.out | apply below_alloc | apply pw_below_drewN | apply below_drew1) | exact HB.out)) hb); clear HB; have HO486 := n0_; have HB := n1_; clear n0_ n1_; (try clear hb); (try clear hb2); (try clear hk); (try clear hi); (try clear ho0); obtain ⟨Ao6, co6, eo6⟩ := Kd.S_slice HO486.out; subst eo6)))
   go_ret
   exact ⟨by first | rfl | (simp [errW_none, errW_some] <;> rfl) | (simp [*, errW_none, errW_some] <;> rfl), by repeat (first | (with_reducible first | exact HB.out | apply below_alloc | apply pw_below_drewN | apply below_drew1) | exact HB.out)⟩
  ·rw [if_neg c4] at H
   have c4b0 : ((t483.length : Int) == 0) = false := beq_eq_false_iff_ne.mpr c4
   have c4b1 : ((t483.length : Int) != 0) = true := bne_iff_ne.mpr c4
   have c4b2 : ¬ (t483 = []) := fun h_ => c4 (by rw [h_]; rfl)
   obtain rfl := Option.some.inj H
   go_enter Try.func8, Try.ntmps8
   go_wp2_with (first | (go_at_call 16; (with_reducible refine (suffix_New.calls k _ _ l0 t483 t484 _ ?side1 ?side2 A2.out).mono ?_); (case side1 => repeat (first | exact HR0.out | (with_reducible refine Kd.C_alloc ?_ _) | (with_reducible refine Kd.C_drewN ?_ _) | (with_reducible refine Kd.C_drew ?_))); (case side2 => exact HC0.out); rintro e w7 ⟨v485, rfl, ho0, hb⟩; have n0_ := Aside0.mk (Kd.S_lower ho0 (below_size (by repeat (first | (with_reducible first | exact HB.out | apply below_alloc | apply pw_below_drewN | apply below_drew1) | exact HB.out)))); have n1_ := Aside0.mk (below_step (by repeat (first | (with_reducible first | exact HB.out | apply below_alloc | apply pw_below_drewN | apply below_drew1) | exact HB.out)) hb); clear HB; have HO486 := n0_; have HB := n1_; clear n0_ n1_; (try clear hb); (try clear hb2); (try clear hk); (try clear hi); (try clear ho0); obtain ⟨Ao8, co8, eo8⟩ := Kd.S_slice HO486.out; subst eo8))
   repeat (go_quiet (first | (go_at_call 16; (with_reducible refine (suffix_New.calls k _ _ l0 t483 t484 _ ?side1 ?side2 A2.out).mono ?_); (case side1 => repeat (first | exact HR0.out | (with_reducible refine Kd.C_alloc ?_ _) | (with_reducible refine Kd.C_drewN ?_ _) | (with_reducible refine Kd.C_drew ?_))); (case side2 => exact HC0.out); rintro e w7 ⟨v485, rfl, ho0, hb⟩; have n0_ := Aside0.mk (Kd.S_lower ho0 (below_size (by repeat (first | (with_reducible first | exact HB.out | apply below_alloc | apply pw_below_drewN | apply below_drew1) | exact HB.out)))); have n1_ := Aside0.mk (below_step (by repeat (first | (with_reducible first | exact HB.out | apply below_alloc | apply pw_below_drewN | apply below_drew1) | exact HB.out)) hb); clear HB; have HO486 := n0_; have HB := n1_; clear n0_ n1_; (try clear hb); (try clear hb2); (try clear hk); (try clear hi); (try clear ho0); obtain ⟨Ao8, co8, eo8⟩ := Kd.S_slice HO486.out; subst eo8)); try go_wp2_with (first | (go_at_call 16; (with_reducible refine (suffix_New.calls k _ _ l0 t483 t484 _ ?side1 ?side2 A2.out).mono ?_); (case side1 => repeat (first | exact HR0.out | (with_reducible refine Kd.C_alloc ?_ _) | (with_reducible refine Kd.C_drewN ?_ _) | (with_reducible refine Kd.C_drew ?_))); (case side2 => exact HC0.out); rintro e w7 ⟨v485, rfl, ho0, hb⟩; have n0_ := Aside0.mk (Kd.S_lower ho0 (below_size (by repeat (first | (with_reducible first | exact HB.out | apply below_alloc | apply pw_below_drewN | apply below_drew1) | exact HB.out)))); have n1_ := Aside0.mk (below_step (by repeat (first | (with_reducible first | exact HB.out | apply below_alloc | apply pw_below_drewN | apply below_drew1) | exact HB.out)) hb); clear HB; have HO486 := n0_; have HB := n1_; clear n0_ n1_; (try clear hb); (try clear hb2); (try clear hk); (try clear hi); (try clear ho0); obtain ⟨Ao8, co8, eo8⟩ := Kd.S_slice HO486.out; subst eo8)))
   go_ret
   exact ⟨by first | rfl | (simp [errW_none, errW_some] <;> rfl) | (simp [*, errW_none, errW_some] <;> rfl), by repeat (first | (with_reducible first | exact HB.out | apply below_alloc | apply pw_below_drewN | apply below_drew1) | exact HB.out)⟩
 ·rw [if_neg c3] at H
  have c3b0 : decide (16777216 < (l0.length : Int)) = false := decide_eq_false c3
  have c3b1 : decide (16777216 < l0.length) = false := decide_eq_false (by omega)
  clear c3
  have HC9 := Aside0.mk H
  clear H
  go_enter Try.func8, Try.ntmps8
  go_upto_region 4 with (first | (go_at_call 16; (with_reducible refine (suffix_New.calls k _ _ l0 t483 t484 _ ?side1 ?side2 A2.out).mono ?_); (case side1 => repeat (first | exact HR0.out | (with_reducible refine Kd.C_alloc ?_ _) | (with_reducible refine Kd.C_drewN ?_ _) | (with_reducible refine Kd.C_drew ?_))); (case side2 => exact HC0.out); rintro e w10 ⟨v485, rfl, ho0, hb⟩; have n0_ := Aside0.mk (Kd.S_lower ho0 (below_size (by repeat (first | (with_reducible first | exact HB.out | apply below_alloc | apply pw_below_drewN | apply below_drew1) | exact HB.out)))); have n1_ := Aside0.mk (below_step (by repeat (first | (with_reducible first | exact HB.out | apply below_alloc | apply pw_below_drewN | apply below_drew1) | exact HB.out)) hb); clear HB; have HO486 := n0_; have HB := n1_; clear n0_ n1_; (try clear hb); (try clear hb2); (try clear hk); (try clear hi); (try clear ho0)))
  repeat (go_quiet (first | (go_at_call 16; (with_reducible refine (suffix_New.calls k _ _ l0 t483 t484 _ ?side1 ?side2 A2.out).mono ?_); (case side1 => repeat (first | exact HR0.out | (with_reducible refine Kd.C_alloc ?_ _) | (with_reducible refine Kd.C_drewN ?_ _) | (with_reducible refine Kd.C_drew ?_))); (case side2 => exact HC0.out); rintro e w10 ⟨v485, rfl, ho0, hb⟩; have n0_ := Aside0.mk (Kd.S_lower ho0 (below_size (by repeat (first | (with_reducible first | exact HB.out | apply below_alloc | apply pw_below_drewN | apply below_drew1) | exact HB.out)))); have n1_ := Aside0.mk (below_step (by repeat (first | (with_reducible first | exact HB.out | apply below_alloc | apply pw_below_drewN | apply below_drew1) | exact HB.out)) hb); clear HB; have HO486 := n0_; have HB := n1_; clear n0_ n1_; (try clear hb); (try clear hb2); (try clear hk); (try clear hi); (try clear ho0))); go_upto_region 4 with (first | (go_at_call 16; (with_reducible refine (suffix_New.calls k _ _ l0 t483 t484 _ ?side1 ?side2 A2.out).mono ?_); (case side1 => repeat (first | exact HR0.out | (with_reducible refine Kd.C_alloc ?_ _) | (with_reducible refine Kd.C_drewN ?_ _) | (with_reducible refine Kd.C_drew ?_))); (case side2 => exact HC0.out); rintro e w10 ⟨v485, rfl, ho0, hb⟩; have n0_ := Aside0.mk (Kd.S_lower ho0 (below_size (by repeat (first | (with_reducible first | exact HB.out | apply below_alloc | apply pw_below_drewN | apply below_drew1) | exact HB.out)))); have n1_ := Aside0.mk (below_step (by repeat (first | (with_reducible first | exact HB.out | apply below_alloc | apply pw_below_drewN | apply below_drew1) | exact HB.out)) hb); clear HB; have HO486 := n0_; have HB := n1_; clear n0_ n1_; (try clear hb); (try clear hb2); (try clear hk); (try clear hi); (try clear ho0))))
  (try simp only [Act.put, List.setIfInBounds_toArray, List.set_cons_zero, List.set_cons_succ])
  go_cut [42] (fun v42 wc => ∃ (kq : Nat) (x42_8 : Bool), v42 = .bool x42_8 ∧ Aside0 (sapperlaw13_SuffixOrders.j0 kq l0 t483 x42_8 = some r) ∧ Aside0 (kq ≤ k) ∧ Aside0 (Kd.S k82 82 wc w.heap.size (fun _ => True) v485 t483) ∧ Aside0 (Below w.heap.size w wc))
  case first => as_aux_lemma =>
   have H := HC9.out
   clear HC9
   by_cases c11 : t484 = 0
   ·rw [if_pos c11] at H
    have c11b0 : (t484 == 0) = true := beq_iff_eq.mpr c11
    have c11b1 : (t484 != 0) = false := bne_eq_false_iff_eq.mpr c11
    clear c11
    (first | rw [c11b0] | rw [c11b1] | (simp only [i64_w, i32_w]; rw [c11b0]) | skip)
    by_cases c12 : (t483.length : Int) = 0
    ·rw [if_pos c12] at H
     have c12b0 : ((t483.length : Int) == 0) = true := beq_iff_eq.mpr c12
     have c12b1 : ((t483.length : Int) != 0) = false := bne_eq_false_iff_eq.mpr c12
     clear c12
     have H' := Aside0.mk H
     clear H
     obtain ⟨Ao13, co13, eo13⟩ := Kd.S_slice HO486.out
     subst eo13
     go_wp2
     repeat (go_quiet (fail); try go_wp2)
     go_meet
     case rel => exact ⟨_, (true), (by first | rfl | (simp; done) | (simp [*]; done)), H', ⟨by first | omega | exact Nat.le_refl _⟩, ⟨by (with_reducible repeat (first | apply Kd.S_alloc | apply Kd.S_drewN | apply Kd.S_drew)); exact HO486.out⟩, ⟨by repeat (first | (with_reducible first | exact HB.out | apply below_alloc | apply pw_below_drewN | apply below_drew1) | exact HB.out)⟩⟩
    ·rw [if_neg c12] at H
     have c12b0 : ((t483.length : Int) == 0) = false := beq_eq_false_iff_ne.mpr c12
     have c12b1 : ((t483.length : Int) != 0) = true := bne_iff_ne.mpr c12
     have c12b2 : ¬ (t483 = []) := fun h_ => c12 (by rw [h_]; rfl)
     replace H := Option.bind_eq_some_iff.mp H
     obtain ⟨t487, A140, H⟩ := H
     replace H : (sapperlaw13_SuffixOrders.j0 k l0 t483 (t487 != (l0.length : Int))) = some r := H
     have A14 := Aside0.mk A140
     clear A140
     have H' := Aside0.mk H
     clear H
     obtain ⟨Ao15, co15, eo15⟩ := Kd.S_slice HO486.out
     subst eo15
     go_wp2_with (first | (go_at_call 30; (with_reducible refine (suffix_Index_Len.calls _ _ t483 t487 _ ?side1 ?side2 A14.out).mono ?_); (case side1 => repeat (first | exact (Kd.S_reads' HO486.out).2.2 | (with_reducible refine Kd.C_alloc ?_ _) | (with_reducible refine Kd.C_drewN ?_ _) | (with_reducible refine Kd.C_drew ?_))); (case side2 => exact (Kd.S_reads' HO486.out).2.1); rintro e w' ⟨rfl, ⟨nd, rfl⟩⟩; (try first | exact ⟨rfl, _, World.drewN_drewN _ _ _⟩ | exact ⟨rfl, _, Eq.trans (World.drewN_drewN _ _ _) (congrArg (World.drewN _) (Nat.add_assoc _ _ _))⟩)))
     repeat (go_quiet (first | (go_at_call 30; (with_reducible refine (suffix_Index_Len.calls _ _ t483 t487 _ ?side1 ?side2 A14.out).mono ?_); (case side1 => repeat (first | exact (Kd.S_reads' HO486.out).2.2 | (with_reducible refine Kd.C_alloc ?_ _) | (with_reducible refine Kd.C_drewN ?_ _) | (with_reducible refine Kd.C_drew ?_))); (case side2 => exact (Kd.S_reads' HO486.out).2.1); rintro e w' ⟨rfl, ⟨nd, rfl⟩⟩; (try first | exact ⟨rfl, _, World.drewN_drewN _ _ _⟩ | exact ⟨rfl, _, Eq.trans (World.drewN_drewN _ _ _) (congrArg (World.drewN _) (Nat.add_assoc _ _ _))⟩))); try go_wp2_with (first | (go_at_call 30; (with_reducible refine (suffix_Index_Len.calls _ _ t483 t487 _ ?side1 ?side2 A14.out).mono ?_); (case side1 => repeat (first | exact (Kd.S_reads' HO486.out).2.2 | (with_reducible refine Kd.C_alloc ?_ _) | (with_reducible refine Kd.C_drewN ?_ _) | (with_reducible refine Kd.C_drew ?_))); (case side2 => exact (Kd.S_reads' HO486.out).2.1); rintro e w' ⟨rfl, ⟨nd, rfl⟩⟩; (try first | exact ⟨rfl, _, World.drewN_drewN _ _ _⟩ | exact ⟨rfl, _, Eq.trans (World.drewN_drewN _ _ _) (congrArg (World.drewN _) (Nat.add_assoc _ _ _))⟩))))
     go_meet
     case rel => exact ⟨_, ((t487 != (l0.length : Int))), (by first | rfl | (simp; done) | (simp [*]; done)), H', ⟨by first | omega | exact Nat.le_refl _⟩, ⟨by (with_reducible repeat (first | apply Kd.S_alloc | apply Kd.S_drewN | apply Kd.S_drew)); exact HO486.out⟩, ⟨by repeat (first | (with_reducible first | exact HB.out | apply below_alloc | apply pw_below_drewN | apply below_drew1) | exact HB.out)⟩⟩
   ·rw [if_neg c11] at H
    have c11b0 : (t484 == 0) = false := beq_eq_false_iff_ne.mpr c11
    have c11b1 : (t484 != 0) = true := bne_iff_ne.mpr c11
    (first | rw [c11b0] | rw [c11b1] | (simp only [i64_w, i32_w]; rw [c11b0]) | skip)
    have H' := Aside0.mk H
    clear H
    go_wp2
    repeat (go_quiet (fail); try go_wp2)
    go_meet
    case rel => exact ⟨_, (true), (by first | rfl | (simp; done) | (simp [*]; done)), H', ⟨by first | omega | exact Nat.le_refl _⟩, ⟨by (with_reducible repeat (first | apply Kd.S_alloc | apply Kd.S_drewN | apply Kd.S_drew)); exact HO486.out⟩, ⟨by repeat (first | (with_reducible first | exact HB.out | apply below_alloc | apply pw_below_drewN | apply below_drew1) | exact HB.out)⟩⟩
  case rest => as_aux_lemma =>
   clear HC9
   try clear c1
   try clear p2
   try clear c3
   try clear c3b0
   try clear c3b1
   try clear c4
   try clear c4b0
   try clear c4b1
   try clear c4b2
   try clear c8
   try clear c11
   try clear c11b0
   try clear c11b1
   try clear c12
   try clear c12b0
   try clear c12b1
   try clear c12b2
   obtain ⟨kq, x42_8, rfl, HA, HJ8, HO_3, HB⟩ := hcut
   cases kq with
   | zero => exact absurd HA.out (by simp [sapperlaw13_SuffixOrders.j0])
   | succ kj8 =>
    have H := HA.out
    clear HA
    simp only [sapperlaw13_SuffixOrders.j0] at H
    by_cases c16 : x42_8 = true
    ·subst c16
     have H1 : (some false) = some r := by rw [if_pos rfl] at H; exact H
     clear H
     have H := H1
     clear H1
     obtain rfl := Option.some.inj H
     go_wp2
     repeat (go_quiet (fail); try go_wp2)
     go_ret
     exact ⟨by first | rfl | (simp [errW_none, errW_some] <;> rfl) | (simp [*, errW_none, errW_some] <;> rfl), by repeat (first | (with_reducible first | exact HB.out | apply below_alloc | apply pw_below_drewN | apply below_drew1) | exact HB.out)⟩
    ·replace c16 := Bool.eq_false_iff.mpr c16
     subst c16
     have H1 : ((suffix_Index_Array.f t483).bind fun t488 => ((suffix_Index_Lcp.f t483).bind fun t491 => (if (t488.length : Int) = (l0.length : Int) then (sapperlaw13_SuffixOrders.j1 kj8 l0 t483 t488 t491 ((t491.length : Int) != (l0.length : Int))) else (sapperlaw13_SuffixOrders.j1 kj8 l0 t483 t488 t491 true)))) = some r := by rw [if_neg (show ¬ (false = true) by decide)] at H; exact H
     clear H
     have H := H1
     clear H1
     replace H := Option.bind_eq_some_iff.mp H
     obtain ⟨t488, A170, H⟩ := H
     replace H : ((suffix_Index_Lcp.f t483).bind fun t491 => (if (t488.length : Int) = (l0.length : Int) then (sapperlaw13_SuffixOrders.j1 kj8 l0 t483 t488 t491 ((t491.length : Int) != (l0.length : Int))) else (sapperlaw13_SuffixOrders.j1 kj8 l0 t483 t488 t491 true))) = some r := H
     have A17 := Aside0.mk A170
     clear A170
     replace H := Option.bind_eq_some_iff.mp H
     obtain ⟨t491, A180, H⟩ := H
     replace H : (if (t488.length : Int) = (l0.length : Int) then (sapperlaw13_SuffixOrders.j1 kj8 l0 t483 t488 t491 ((t491.length : Int) != (l0.length : Int))) else (sapperlaw13_SuffixOrders.j1 kj8 l0 t483 t488 t491 true)) = some r := H
     have A18 := Aside0.mk A180
     clear A180
     have HC19 := Aside0.mk H
     clear H
     obtain ⟨Ao20, co20, eo20⟩ := Kd.S_slice HO_3.out
     subst eo20
     go_upto_region 7 with (first | (go_at_call 21; (with_reducible refine (suffix_Index_Array.calls _ _ t483 t488 _ ?side1 ?side2 A17.out).mono ?_); (case side1 => repeat (first | exact (Kd.S_reads' HO_3.out).2.2 | (with_reducible refine Kd.C_alloc ?_ _) | (with_reducible refine Kd.C_drewN ?_ _) | (with_reducible refine Kd.C_drew ?_))); (case side2 => exact (Kd.S_reads' HO_3.out).2.1); rintro e w21 ⟨v489, rfl, ho0, hb⟩; have n0_ := Aside0.mk (Kd.S_elder' (by (with_reducible repeat (first | apply Kd.S_alloc | apply Kd.S_drewN | apply Kd.S_drew)); exact HO_3.out) (Kd.R_base ho0) hb); have n1_ := Aside0.mk (Kd.R_lower ho0 (below_size (by repeat (first | (with_reducible first | exact HB.out | apply below_alloc | apply pw_below_drewN | apply below_drew1) | exact HB.out)))); have n2_ := Aside0.mk (below_step (by repeat (first | (with_reducible first | exact HB.out | apply below_alloc | apply pw_below_drewN | apply below_drew1) | exact HB.out)) hb); clear HO_3; clear HB; have HO_3 := n0_; have HO490 := n1_; have HB := n2_; clear n0_ n1_ n2_; (try clear hb); (try clear hb2); (try clear hk); (try clear hi); (try clear ho0)) | (go_at_call 20; (with_reducible refine (suffix_Index_Lcp.calls _ _ t483 t491 _ ?side1 ?side2 A18.out).mono ?_); (case side1 => repeat (first | exact (Kd.S_reads' HO_3.out).2.2 | (with_reducible refine Kd.C_alloc ?_ _) | (with_reducible refine Kd.C_drewN ?_ _) | (with_reducible refine Kd.C_drew ?_))); (case side2 => exact (Kd.S_reads' HO_3.out).2.1); rintro e w22 ⟨v492, rfl, ho0, hb⟩; have n0_ := Aside0.mk (Kd.S_elder' (by (with_reducible repeat (first | apply Kd.S_alloc | apply Kd.S_drewN | apply Kd.S_drew)); exact HO_3.out) (Kd.R_base ho0) hb); have n1_ := Aside0.mk (Kd.R_elder' (by (with_reducible repeat (first | apply Kd.R_alloc | apply Kd.R_drewN | apply Kd.R_drew)); exact HO490.out) (Kd.R_base ho0) hb); have n2_ := Aside0.mk (Kd.R_lower (Kd.R_new' ho0 (Kd.R_lt (by (with_reducible repeat (first | apply Kd.R_alloc | apply Kd.R_drewN | apply Kd.R_drew)); exact HO490.out))) (below_size (by repeat (first | (with_reducible first | exact HB.out | apply below_alloc | apply pw_below_drewN | apply below_drew1) | exact HB.out)))); have n3_ := Aside0.mk (below_step (by repeat (first | (with_reducible first | exact HB.out | apply below_alloc | apply pw_below_drewN | apply below_drew1) | exact HB.out)) hb); clear HO_3; clear HO490; clear HB; have HO_3 := n0_; have HO490 := n1_; have HO493 := n2_; have HB := n3_; clear n0_ n1_ n2_ n3_; (try clear hb); (try clear hb2); (try clear hk); (try clear hi); (try clear ho0)))
     repeat (go_quiet (first | (go_at_call 21; (with_reducible refine (suffix_Index_Array.calls _ _ t483 t488 _ ?side1 ?side2 A17.out).mono ?_); (case side1 => repeat (first | exact (Kd.S_reads' HO_3.out).2.2 | (with_reducible refine Kd.C_alloc ?_ _) | (with_reducible refine Kd.C_drewN ?_ _) | (with_reducible refine Kd.C_drew ?_))); (case side2 => exact (Kd.S_reads' HO_3.out).2.1); rintro e w21 ⟨v489, rfl, ho0, hb⟩; have n0_ := Aside0.mk (Kd.S_elder' (by (with_reducible repeat (first | apply Kd.S_alloc | apply Kd.S_drewN | apply Kd.S_drew)); exact HO_3.out) (Kd.R_base ho0) hb); have n1_ := Aside0.mk (Kd.R_lower ho0 (below_size (by repeat (first | (with_reducible first | exact HB.out | apply below_alloc | apply pw_below_drewN | apply below_drew1) | exact HB.out)))); have n2_ := Aside0.mk (below_step (by repeat (first | (with_reducible first | exact HB.out | apply below_alloc | apply pw_below_drewN | apply below_drew1) | exact HB.out)) hb); clear HO_3; clear HB; have HO_3 := n0_; have HO490 := n1_; have HB := n2_; clear n0_ n1_ n2_; (try clear hb); (try clear hb2); (try clear hk); (try clear hi); (try clear ho0)) | (go_at_call 20; (with_reducible refine (suffix_Index_Lcp.calls _ _ t483 t491 _ ?side1 ?side2 A18.out).mono ?_); (case side1 => repeat (first | exact (Kd.S_reads' HO_3.out).2.2 | (with_reducible refine Kd.C_alloc ?_ _) | (with_reducible refine Kd.C_drewN ?_ _) | (with_reducible refine Kd.C_drew ?_))); (case side2 => exact (Kd.S_reads' HO_3.out).2.1); rintro e w22 ⟨v492, rfl, ho0, hb⟩; have n0_ := Aside0.mk (Kd.S_elder' (by (with_reducible repeat (first | apply Kd.S_alloc | apply Kd.S_drewN | apply Kd.S_drew)); exact HO_3.out) (Kd.R_base ho0) hb); have n1_ := Aside0.mk (Kd.R_elder' (by (with_reducible repeat (first | apply Kd.R_alloc | apply Kd.R_drewN | apply Kd.R_drew)); exact HO490.out) (Kd.R_base ho0) hb); have n2_ := Aside0.mk (Kd.R_lower (Kd.R_new' ho0 (Kd.R_lt (by (with_reducible repeat (first | apply Kd.R_alloc | apply Kd.R_drewN | apply Kd.R_drew)); exact HO490.out))) (below_size (by repeat (first | (with_reducible first | exact HB.out | apply below_alloc | apply pw_below_drewN | apply below_drew1) | exact HB.out)))); have n3_ := Aside0.mk (below_step (by repeat (first | (with_reducible first | exact HB.out | apply below_alloc | apply pw_below_drewN | apply below_drew1) | exact HB.out)) hb); clear HO_3; clear HO490; clear HB; have HO_3 := n0_; have HO490 := n1_; have HO493 := n2_; have HB := n3_; clear n0_ n1_ n2_ n3_; (try clear hb); (try clear hb2); (try clear hk); (try clear hi); (try clear ho0))); go_upto_region 7 with (first | (go_at_call 21; (with_reducible refine (suffix_Index_Array.calls _ _ t483 t488 _ ?side1 ?side2 A17.out).mono ?_); (case side1 => repeat (first | exact (Kd.S_reads' HO_3.out).2.2 | (with_reducible refine Kd.C_alloc ?_ _) | (with_reducible refine Kd.C_drewN ?_ _) | (with_reducible refine Kd.C_drew ?_))); (case side2 => exact (Kd.S_reads' HO_3.out).2.1); rintro e w21 ⟨v489, rfl, ho0, hb⟩; have n0_ := Aside0.mk (Kd.S_elder' (by (with_reducible repeat (first | apply Kd.S_alloc | apply Kd.S_drewN | apply Kd.S_drew)); exact HO_3.out) (Kd.R_base ho0) hb); have n1_ := Aside0.mk (Kd.R_lower ho0 (below_size (by repeat (first | (with_reducible first | exact HB.out | apply below_alloc | apply pw_below_drewN | apply below_drew1) | exact HB.out)))); have n2_ := Aside0.mk (below_step (by repeat (first | (with_reducible first | exact HB.out | apply below_alloc | apply pw_below_drewN | apply below_drew1) | exact HB.out)) hb); clear HO_3; clear HB; have HO_3 := n0_; have HO490 := n1_; have HB := n2_; clear n0_ n1_ n2_; (try clear hb); (try clear hb2); (try clear hk); (try clear hi); (try clear ho0)) | (go_at_call 20; (with_reducible refine (suffix_Index_Lcp.calls _ _ t483 t491 _ ?side1 ?side2 A18.out).mono ?_); (case side1 => repeat (first | exact (Kd.S_reads' HO_3.out).2.2 | (with_reducible refine Kd.C_alloc ?_ _) | (with_reducible refine Kd.C_drewN ?_ _) | (with_reducible refine Kd.C_drew ?_))); (case side2 => exact (Kd.S_reads' HO_3.out).2.1); rintro e w22 ⟨v492, rfl, ho0, hb⟩; have n0_ := Aside0.mk (Kd.S_elder' (by (with_reducible repeat (first | apply Kd.S_alloc | apply Kd.S_drewN | apply Kd.S_drew)); exact HO_3.out) (Kd.R_base ho0) hb); have n1_ := Aside0.mk (Kd.R_elder' (by (with_reducible repeat (first | apply Kd.R_alloc | apply Kd.R_drewN | apply Kd.R_drew)); exact HO490.out) (Kd.R_base ho0) hb); have n2_ := Aside0.mk (Kd.R_lower (Kd.R_new' ho0 (Kd.R_lt (by (with_reducible repeat (first | apply Kd.R_alloc | apply Kd.R_drewN | apply Kd.R_drew)); exact HO490.out))) (below_size (by repeat (first | (with_reducible first | exact HB.out | apply below_alloc | apply pw_below_drewN | apply below_drew1) | exact HB.out)))); have n3_ := Aside0.mk (below_step (by repeat (first | (with_reducible first | exact HB.out | apply below_alloc | apply pw_below_drewN | apply below_drew1) | exact HB.out)) hb); clear HO_3; clear HO490; clear HB; have HO_3 := n0_; have HO490 := n1_; have HO493 := n2_; have HB := n3_; clear n0_ n1_ n2_ n3_; (try clear hb); (try clear hb2); (try clear hk); (try clear hi); (try clear ho0))))
     (try simp only [Act.put, List.setIfInBounds_toArray, List.set_cons_zero, List.set_cons_succ])
     go_cut [58] (fun v58 wc => ∃ (kq : Nat) (x58_18 : Bool), v58 = .bool x58_18 ∧ Aside0 (sapperlaw13_SuffixOrders.j1 kq l0 t483 t488 t491 x58_18 = some r) ∧ Aside0 (kq ≤ kj8) ∧ Aside0 (Kd.S k82 82 wc w.heap.size (fun k_ => some k_ ≠ (v489 : Value).ownBlock ∧ some k_ ≠ (v492 : Value).ownBlock) (.slice Ao20 t483.length co20) t483) ∧ Aside0 (Kd.R (Kd.int .i64) 3 wc w.heap.size (fun k_ => some k_ ≠ (v492 : Value).ownBlock) v489 t488) ∧ Aside0 (Kd.R (Kd.int .i64) 3 wc w.heap.size (fun k_ => some k_ ≠ (v489 : Value).ownBlock) v492 t491) ∧ Aside0 (Below w.heap.size w wc))
     case first => as_aux_lemma =>
      have H := HC19.out
      clear HC19
      by_cases c23 : (t488.length : Int) = (l0.length : Int)
      ·rw [if_pos c23] at H
       have c23b0 : ((t488.length : Int) == (l0.length : Int)) = true := beq_iff_eq.mpr c23
       have c23b1 : ((t488.length : Int) != (l0.length : Int)) = false := bne_eq_false_iff_eq.mpr c23
       have c23b2 : (t488.length == l0.length) = true := by first | simpa using c23 | (simp at c23 ⊢; omega)
       clear c23
       (first | rw [c23b0] | rw [c23b1] | (simp only [i64_w, i32_w]; rw [c23b0]) | skip)
       have H' := Aside0.mk H
       clear H
       obtain ⟨Ao24, co24, eo24⟩ := Kd.R_slice HO490.out
       subst eo24
       obtain ⟨Ao25, co25, eo25⟩ := Kd.R_slice HO493.out
       subst eo25
       go_wp2
       repeat (go_quiet (fail); try go_wp2)
       go_meet
       case rel => exact ⟨_, (((t491.length : Int) != (l0.length : Int))), (by first | rfl | (simp; done) | (simp [*]; done)), H', ⟨by have := HJ8.out; first | omega | exact Nat.le_refl _⟩, ⟨by (with_reducible repeat (first | apply Kd.S_alloc | apply Kd.S_drewN | apply Kd.S_drew)); exact Kd.S_mono HO_3.out (fun _ hk => ⟨hk.1.2, hk.2⟩)⟩, ⟨by (with_reducible repeat (first | apply Kd.R_alloc | apply Kd.R_drewN | apply Kd.R_drew)); exact Kd.R_mono HO490.out (fun _ hk => hk.2)⟩, ⟨by (with_reducible repeat (first | apply Kd.R_alloc | apply Kd.R_drewN | apply Kd.R_drew)); exact Kd.R_mono HO493.out (fun _ hk => hk.2)⟩, ⟨by repeat (first | (with_reducible first | exact HB.out | apply below_alloc | apply pw_below_drewN | apply below_drew1) | exact HB.out)⟩⟩
      ·rw [if_neg c23] at H
       have c23b0 : ((t488.length : Int) == (l0.length : Int)) = false := beq_eq_false_iff_ne.mpr c23
       have c23b1 : ((t488.length : Int) != (l0.length : Int)) = true := bne_iff_ne.mpr c23
       have c23b2 : (t488.length == l0.length) = false := by first | simpa using c23 | (simp at c23 ⊢; omega)
       (first | rw [c23b0] | rw [c23b1] | (simp only [i64_w, i32_w]; rw [c23b0]) | skip)
       have H' := Aside0.mk H
       clear H
       obtain ⟨Ao26, co26, eo26⟩ := Kd.R_slice HO490.out
       subst eo26
       go_wp2
       repeat (go_quiet (fail); try go_wp2)
       go_meet
       case rel => exact ⟨_, (true), (by first | rfl | (simp; done) | (simp [*]; done)), H', ⟨by have := HJ8.out; first | omega | exact Nat.le_refl _⟩, ⟨by (with_reducible repeat (first | apply Kd.S_alloc | apply Kd.S_drewN | apply Kd.S_drew)); exact Kd.S_mono HO_3.out (fun _ hk => ⟨hk.1.2, hk.2⟩)⟩, ⟨by (with_reducible repeat (first | apply Kd.R_alloc | apply Kd.R_drewN | apply Kd.R_drew)); exact Kd.R_mono HO490.out (fun _ hk => hk.2)⟩, ⟨by (with_reducible repeat (first | apply Kd.R_alloc | apply Kd.R_drewN | apply Kd.R_drew)); exact Kd.R_mono HO493.out (fun _ hk => hk.2)⟩, ⟨by repeat (first | (with_reducible first | exact HB.out | apply below_alloc | apply pw_below_drewN | apply below_drew1) | exact HB.out)⟩⟩
     case rest => as_aux_lemma =>
      clear HC19
      try clear c1
      try clear c2
      try clear p2
      try clear c3
      try clear c3b0
      try clear c3b1
      try clear c4
      try clear c4b0
      try clear c4b1
      try clear c4b2
      try clear c8
      try clear c11
      try clear c11b0
      try clear c11b1
      try clear c12
      try clear c12b0
      try clear c12b1
      try clear c12b2
      try clear c16
      try clear c23
      try clear c23b0
      try clear c23b1
      try clear c23b2
      try clear p2
      obtain ⟨kq, x58_18, rfl, HA, HJ18, HO_3, HO_5, HO_6, HB⟩ := hcut
      cases kq with
      | zero => exact absurd HA.out (by simp [sapperlaw13_SuffixOrders.j1])
      | succ kj18 =>
       have H := HA.out
       clear HA
       simp only [sapperlaw13_SuffixOrders.j1] at H
       by_cases c27 : x58_18 = true
       ·subst c27
        have H1 : (some false) = some r := by rw [if_pos rfl] at H; exact H
        clear H
        have H := H1
        clear H1
        obtain rfl := Option.some.inj H
        go_wp2
        repeat (go_quiet (fail); try go_wp2)
        go_ret
        exact ⟨by first | rfl | (simp [errW_none, errW_some] <;> rfl) | (simp [*, errW_none, errW_some] <;> rfl), by repeat (first | (with_reducible first | exact HB.out | apply below_alloc | apply pw_below_drewN | apply below_drew1) | exact HB.out)⟩
       ·replace c27 := Bool.eq_false_iff.mpr c27
        subst c27
        have H1 : (sapperlaw13_SuffixOrders.l0 kj18 l0 t483 t488 t491 (t488.length : Int) 0) = some r := by rw [if_neg (show ¬ (false = true) by decide)] at H; exact H
        clear H
        have H := H1
        clear H1
        have H' := Aside0.mk H
        clear H
        obtain ⟨Ao28, co28, eo28⟩ := Kd.R_slice HO_5.out
        subst eo28
        go_wp2
        repeat (go_quiet (fail); try go_wp2)
        go_loopg [61] kj18 (fun kq v61 w' => ∃ (x61_3 : Int), v61 = .int .i64 x61_3 ∧ Aside0 (sapperlaw13_SuffixOrders.l0 kq l0 t483 t488 t491 (t488.length : Int) x61_3 = some r) ∧ Aside0 (kq ≤ kj18) ∧ Aside0 (Kd.S k82 82 w' w.heap.size (fun k_ => some k_ ≠ ((.slice Ao28 t488.length co28) : Value).ownBlock ∧ some k_ ≠ (v492 : Value).ownBlock) (.slice Ao20 t483.length co20) t483) ∧ Aside0 (Kd.R (Kd.int .i64) 3 w' w.heap.size (fun k_ => some k_ ≠ (v492 : Value).ownBlock) (.slice Ao28 t488.length co28) t488) ∧ Aside0 (Kd.R (Kd.int .i64) 3 w' w.heap.size (fun k_ => some k_ ≠ ((.slice Ao28 t488.length co28) : Value).ownBlock) v492 t491) ∧ Aside0 (Below w.heap.size w w'))
        case atStart => exact ⟨(0), (by first | rfl | (simp; done) | (simp [*]; done)), H', ⟨Nat.le_refl _⟩, ⟨by (with_reducible repeat (first | apply Kd.S_alloc | apply Kd.S_drewN | apply Kd.S_drew)); exact HO_3.out⟩, ⟨by (with_reducible repeat (first | apply Kd.R_alloc | apply Kd.R_drewN | apply Kd.R_drew)); exact HO_5.out⟩, ⟨by (with_reducible repeat (first | apply Kd.R_alloc | apply Kd.R_drewN | apply Kd.R_drew)); exact HO_6.out⟩, ⟨by repeat (first | (with_reducible first | exact HB.out | apply below_alloc | apply pw_below_drewN | apply below_drew1) | exact HB.out)⟩⟩
        case round => as_aux_lemma =>
         clear H'
         try clear c1
         try clear c2
         try clear p2
         try clear c3
         try clear c3b0
         try clear c3b1
         try clear c4
         try clear c4b0
         try clear c4b1
         try clear c4b2
         try clear c8
         try clear c11
         try clear c11b0
         try clear c11b1
         try clear c12
         try clear c12b0
         try clear c12b1
         try clear c12b2
         try clear c16
         try clear c23
         try clear c23b0
         try clear c23b1
         try clear c23b2
         try clear c27
         try clear p2
         obtain ⟨x61_3, rfl, HA, HK3, HO_3, HO_5, HO_6, HB⟩ := hrel
         cases gk with
         | zero => exact absurd HA.out (by simp [sapperlaw13_SuffixOrders.l0])
         | succ k3 =>
          have H := HA.out
          clear HA
          simp only [sapperlaw13_SuffixOrders.l0] at H
          by_cases c29 : x61_3 < (t488.length : Int)
          ·rw [if_pos c29] at H
           have c29b0 : decide (x61_3 < (t488.length : Int)) = true := decide_eq_true c29
           clear c29
           by_cases c30 : 0 ≤ x61_3
           ·rw [if_pos c30] at H
            have c30b0 : decide (0 ≤ x61_3) = true := decide_eq_true c30
            clear c30
            by_cases c31 : x61_3 < (t488.length : Int)
            ·rw [if_pos c31] at H
             have c31b0 : decide (x61_3 < (t488.length : Int)) = true := decide_eq_true c31
             clear c31
             replace H := Option.bind_eq_some_iff.mp H
             obtain ⟨⟨t496, t497⟩, A320, H⟩ := H
             replace H : ((suffix_Index_Rank.f k3 t483 (rd t488 x61_3)).bind fun bt498 => (if t497 = 0 then (if bt498.2 = 0 then (if t496 = (rd t488 x61_3) then (if bt498.1 = x61_3 then (if (rd t488 x61_3) < 0 then (sapperlaw13_SuffixOrders.j3 k3 l0 t483 t488 t491 x61_3 (rd t488 x61_3) (t488.length : Int) x61_3 true) else (sapperlaw13_SuffixOrders.j3 k3 l0 t483 t488 t491 x61_3 (rd t488 x61_3) (t488.length : Int) x61_3 (decide ((rd t488 x61_3) ≥ (l0.length : Int))))) else (sapperlaw13_SuffixOrders.j3 k3 l0 t483 t488 t491 x61_3 (rd t488 x61_3) (t488.length : Int) x61_3 true)) else (sapperlaw13_SuffixOrders.j3 k3 l0 t483 t488 t491 x61_3 (rd t488 x61_3) (t488.length : Int) x61_3 true)) else (sapperlaw13_SuffixOrders.j3 k3 l0 t483 t488 t491 x61_3 (rd t488 x61_3) (t488.length : Int) x61_3 true)) else (sapperlaw13_SuffixOrders.j3 k3 l0 t483 t488 t491 x61_3 (rd t488 x61_3) (t488.length : Int) x61_3 true))) = some r := H
             have A32 := Aside0.mk A320
             clear A320
             replace H := Option.bind_eq_some_iff.mp H
             obtain ⟨⟨t498, t499⟩, A330, H⟩ := H
             replace H : (if t497 = 0 then (if t499 = 0 then (if t496 = (rd t488 x61_3) then (if t498 = x61_3 then (if (rd t488 x61_3) < 0 then (sapperlaw13_SuffixOrders.j3 k3 l0 t483 t488 t491 x61_3 (rd t488 x61_3) (t488.length : Int) x61_3 true) else (sapperlaw13_SuffixOrders.j3 k3 l0 t483 t488 t491 x61_3 (rd t488 x61_3) (t488.length : Int) x61_3 (decide ((rd t488 x61_3) ≥ (l0.length : Int))))) else (sapperlaw13_SuffixOrders.j3 k3 l0 t483 t488 t491 x61_3 (rd t488 x61_3) (t488.length : Int) x61_3 true)) else (sapperlaw13_SuffixOrders.j3 k3 l0 t483 t488 t491 x61_3 (rd t488 x61_3) (t488.length : Int) x61_3 true)) else (sapperlaw13_SuffixOrders.j3 k3 l0 t483 t488 t491 x61_3 (rd t488 x61_3) (t488.length : Int) x61_3 true)) else (sapperlaw13_SuffixOrders.j3 k3 l0 t483 t488 t491 x61_3 (rd t488 x61_3) (t488.length : Int) x61_3 true)) = some r := H
             have A33 := Aside0.mk A330
             clear A330
             have HC34 := Aside0.mk H
             clear H
             have p495 : 0 ≤ (x61_3 : Int) := of_decide_eq_true (by first | (with_reducible assumption) | assumption)
             have q495 : x61_3 < (t488.length : Int) := of_decide_eq_true (by first | (with_reducible assumption) | assumption)
             obtain ⟨ad495, e495, hx495_0⟩ := Kd.at_int (Kd.R_reads' HO_5.out).2.2 x61_3 p495 q495
             cases e495
             replace p495 := eq_true p495
             replace q495 := eq_true q495
             go_upto_region 14 with (first | (go_at_call 31; (with_reducible refine (suffix_Index_At.calls k3 _ _ t483 x61_3 t496 t497 _ ?side1 ?side2 A32.out).mono ?_); (case side1 => repeat (first | exact (Kd.S_reads' HO_3.out).2.2 | (with_reducible refine Kd.C_alloc ?_ _) | (with_reducible refine Kd.C_drewN ?_ _) | (with_reducible refine Kd.C_drew ?_))); (case side2 => exact (Kd.S_reads' HO_3.out).2.1); rintro e w35 ⟨rfl, hb⟩; have n0_ := Aside0.mk (Kd.S_below (by (with_reducible repeat (first | apply Kd.S_alloc | apply Kd.S_drewN | apply Kd.S_drew)); exact HO_3.out) hb); have n1_ := Aside0.mk (Kd.R_below (by (with_reducible repeat (first | apply Kd.R_alloc | apply Kd.R_drewN | apply Kd.R_drew)); exact HO_5.out) hb); have n2_ := Aside0.mk (Kd.R_below (by (with_reducible repeat (first | apply Kd.R_alloc | apply Kd.R_drewN | apply Kd.R_drew)); exact HO_6.out) hb); have n3_ := Aside0.mk (below_step (by repeat (first | (with_reducible first | exact HB.out | apply below_alloc | apply pw_below_drewN | apply below_drew1) | exact HB.out)) hb); clear HO_3; clear HO_5; clear HO_6; clear HB; have HO_3 := n0_; have HO_5 := n1_; have HO_6 := n2_; have HB := n3_; clear n0_ n1_ n2_ n3_; (try clear hb); (try clear hb2); (try clear hk); (try clear hi)) | (go_at_call 32; (with_reducible refine (suffix_Index_Rank.calls k3 _ _ t483 (rd t488 x61_3) t498 t499 _ ?side1 ?side2 A33.out).mono ?_); (case side1 => repeat (first | exact (Kd.S_reads' HO_3.out).2.2 | (with_reducible refine Kd.C_alloc ?_ _) | (with_reducible refine Kd.C_drewN ?_ _) | (with_reducible refine Kd.C_drew ?_))); (case side2 => exact (Kd.S_reads' HO_3.out).2.1); rintro e w36 ⟨rfl, hb⟩; have n0_ := Aside0.mk (Kd.S_below (by (with_reducible repeat (first | apply Kd.S_alloc | apply Kd.S_drewN | apply Kd.S_drew)); exact HO_3.out) hb); have n1_ := Aside0.mk (Kd.R_below (by (with_reducible repeat (first | apply Kd.R_alloc | apply Kd.R_drewN | apply Kd.R_drew)); exact HO_5.out) hb); have n2_ := Aside0.mk (Kd.R_below (by (with_reducible repeat (first | apply Kd.R_alloc | apply Kd.R_drewN | apply Kd.R_drew)); exact HO_6.out) hb); have n3_ := Aside0.mk (below_step (by repeat (first | (with_reducible first | exact HB.out | apply below_alloc | apply pw_below_drewN | apply below_drew1) | exact HB.out)) hb); clear HO_3; clear HO_5; clear HO_6; clear HB; have HO_3 := n0_; have HO_5 := n1_; have HO_6 := n2_; have HB := n3_; clear n0_ n1_ n2_ n3_; (try clear hb); (try clear hb2); (try clear hk); (try clear hi)))
             repeat (go_quiet (first | (go_at_call 31; (with_reducible refine (suffix_Index_At.calls k3 _ _ t483 x61_3 t496 t497 _ ?side1 ?side2 A32.out).mono ?_); (case side1 => repeat (first | exact (Kd.S_reads' HO_3.out).2.2 | (with_reducible refine Kd.C_alloc ?_ _) | (with_reducible refine Kd.C_drewN ?_ _) | (with_reducible refine Kd.C_drew ?_))); (case side2 => exact (Kd.S_reads' HO_3.out).2.1); rintro e w35 ⟨rfl, hb⟩; have n0_ := Aside0.mk (Kd.S_below (by (with_reducible repeat (first | apply Kd.S_alloc | apply Kd.S_drewN | apply Kd.S_drew)); exact HO_3.out) hb); have n1_ := Aside0.mk (Kd.R_below (by (with_reducible repeat (first | apply Kd.R_alloc | apply Kd.R_drewN | apply Kd.R_drew)); exact HO_5.out) hb); have n2_ := Aside0.mk (Kd.R_below (by (with_reducible repeat (first | apply Kd.R_alloc | apply Kd.R_drewN | apply Kd.R_drew)); exact HO_6.out) hb); have n3_ := Aside0.mk (below_step (by repeat (first | (with_reducible first | exact HB.out | apply below_alloc | apply pw_below_drewN | apply below_drew1) | exact HB.out)) hb); clear HO_3; clear HO_5; clear HO_6; clear HB; have HO_3 := n0_; have HO_5 := n1_; have HO_6 := n2_; have HB := n3_; clear n0_ n1_ n2_ n3_; (try clear hb); (try clear hb2); (try clear hk); (try clear hi)) | (go_at_call 32; (with_reducible refine (suffix_Index_Rank.calls k3 _ _ t483 (rd t488 x61_3) t498 t499 _ ?side1 ?side2 A33.out).mono ?_); (case side1 => repeat (first | exact (Kd.S_reads' HO_3.out).2.2 | (with_reducible refine Kd.C_alloc ?_ _) | (with_reducible refine Kd.C_drewN ?_ _) | (with_reducible refine Kd.C_drew ?_))); (case side2 => exact (Kd.S_reads' HO_3.out).2.1); rintro e w36 ⟨rfl, hb⟩; have n0_ := Aside0.mk (Kd.S_below (by (with_reducible repeat (first | apply Kd.S_alloc | apply Kd.S_drewN | apply Kd.S_drew)); exact HO_3.out) hb); have n1_ := Aside0.mk (Kd.R_below (by (with_reducible repeat (first | apply Kd.R_alloc | apply Kd.R_drewN | apply Kd.R_drew)); exact HO_5.out) hb); have n2_ := Aside0.mk (Kd.R_below (by (with_reducible repeat (first | apply Kd.R_alloc | apply Kd.R_drewN | apply Kd.R_drew)); exact HO_6.out) hb); have n3_ := Aside0.mk (below_step (by repeat (first | (with_reducible first | exact HB.out | apply below_alloc | apply pw_below_drewN | apply below_drew1) | exact HB.out)) hb); clear HO_3; clear HO_5; clear HO_6; clear HB; have HO_3 := n0_; have HO_5 := n1_; have HO_6 := n2_; have HB := n3_; clear n0_ n1_ n2_ n3_; (try clear hb); (try clear hb2); (try clear hk); (try clear hi))); go_upto_region 14 with (first | (go_at_call 31; (with_reducible refine (suffix_Index_At.calls k3 _ _ t483 x61_3 t496 t497 _ ?side1 ?side2 A32.out).mono ?_); (case side1 => repeat (first | exact (Kd.S_reads' HO_3.out).2.2 | (with_reducible refine Kd.C_alloc ?_ _) | (with_reducible refine Kd.C_drewN ?_ _) | (with_reducible refine Kd.C_drew ?_))); (case side2 => exact (Kd.S_reads' HO_3.out).2.1); rintro e w35 ⟨rfl, hb⟩; have n0_ := Aside0.mk (Kd.S_below (by (with_reducible repeat (first | apply Kd.S_alloc | apply Kd.S_drewN | apply Kd.S_drew)); exact HO_3.out) hb); have n1_ := Aside0.mk (Kd.R_below (by (with_reducible repeat (first | apply Kd.R_alloc | apply Kd.R_drewN | apply Kd.R_drew)); exact HO_5.out) hb); have n2_ := Aside0.mk (Kd.R_below (by (with_reducible repeat (first | apply Kd.R_alloc | apply Kd.R_drewN | apply Kd.R_drew)); exact HO_6.out) hb); have n3_ := Aside0.mk (below_step (by repeat (first | (with_reducible first | exact HB.out | apply below_alloc | apply pw_below_drewN | apply below_drew1) | exact HB.out)) hb); clear HO_3; clear HO_5; clear HO_6; clear HB; have HO_3 := n0_; have HO_5 := n1_; have HO_6 := n2_; have HB := n3_; clear n0_ n1_ n2_ n3_; (try clear hb); (try clear hb2); (try clear hk); (try clear hi)) | (go_at_call 32; (with_reducible refine (suffix_Index_Rank.calls k3 _ _ t483 (rd t488 x61_3) t498 t499 _ ?side1 ?side2 A33.out).mono ?_); (case side1 => repeat (first | exact (Kd.S_reads' HO_3.out).2.2 | (with_reducible refine Kd.C_alloc ?_ _) | (with_reducible refine Kd.C_drewN ?_ _) | (with_reducible refine Kd.C_drew ?_))); (case side2 => exact (Kd.S_reads' HO_3.out).2.1); rintro e w36 ⟨rfl, hb⟩; have n0_ := Aside0.mk (Kd.S_below (by (with_reducible repeat (first | apply Kd.S_alloc | apply Kd.S_drewN | apply Kd.S_drew)); exact HO_3.out) hb); have n1_ := Aside0.mk (Kd.R_below (by (with_reducible repeat (first | apply Kd.R_alloc | apply Kd.R_drewN | apply Kd.R_drew)); exact HO_5.out) hb); have n2_ := Aside0.mk (Kd.R_below (by (with_reducible repeat (first | apply Kd.R_alloc | apply Kd.R_drewN | apply Kd.R_drew)); exact HO_6.out) hb); have n3_ := Aside0.mk (below_step (by repeat (first | (with_reducible first | exact HB.out | apply below_alloc | apply pw_below_drewN | apply below_drew1) | exact HB.out)) hb); clear HO_3; clear HO_5; clear HO_6; clear HB; have HO_3 := n0_; have HO_5 := n1_; have HO_6 := n2_; have HB := n3_; clear n0_ n1_ n2_ n3_; (try clear hb); (try clear hb2); (try clear hk); (try clear hi))))
             (try simp only [Act.put, List.setIfInBounds_toArray, List.set_cons_zero, List.set_cons_succ])
             go_cut [103] (fun v103 wc => ∃ (kq : Nat) (x103_33 : Bool), v103 = .bool x103_33 ∧ Aside0 (sapperlaw13_SuffixOrders.j3 kq l0 t483 t488 t491 x61_3 (rd t488 x61_3) (t488.length : Int) x61_3 x103_33 = some r) ∧ Aside0 (kq ≤ k3) ∧ Aside0 (Kd.S k82 82 wc w.heap.size (fun k_ => some k_ ≠ ((.slice (some ad495) t488.length co28) : Value).ownBlock ∧ some k_ ≠ (v492 : Value).ownBlock) (.slice Ao20 t483.length co20) t483) ∧ Aside0 (Kd.R (Kd.int .i64) 3 wc w.heap.size (fun k_ => some k_ ≠ (v492 : Value).ownBlock) (.slice (some ad495) t488.length co28) t488) ∧ Aside0 (Kd.R (Kd.int .i64) 3 wc w.heap.size (fun k_ => some k_ ≠ ((.slice (some ad495) t488.length co28) : Value).ownBlock) v492 t491) ∧ Aside0 (Below w.heap.size w wc))
             case first => as_aux_lemma =>
              have H := HC34.out
              clear HC34
              by_cases c37 : t497 = 0
              ·rw [if_pos c37] at H
               have c37b0 : (t497 == 0) = true := beq_iff_eq.mpr c37
               have c37b1 : (t497 != 0) = false := bne_eq_false_iff_eq.mpr c37
               clear c37
               (first | rw [c37b0] | rw [c37b1] | (simp only [i64_w, i32_w]; rw [c37b0]) | skip)
               by_cases c38 : t499 = 0
               ·rw [if_pos c38] at H
                have c38b0 : (t499 == 0) = true := beq_iff_eq.mpr c38
                have c38b1 : (t499 != 0) = false := bne_eq_false_iff_eq.mpr c38
                clear c38
                by_cases c39 : t496 = (rd t488 x61_3)
                ·rw [if_pos c39] at H
                 have c39b0 : (t496 == (rd t488 x61_3)) = true := beq_iff_eq.mpr c39
                 have c39b1 : (t496 != (rd t488 x61_3)) = false := bne_eq_false_iff_eq.mpr c39
                 clear c39
                 by_cases c40 : t498 = x61_3
                 ·rw [if_pos c40] at H
                  have c40b0 : (t498 == x61_3) = true := beq_iff_eq.mpr c40
                  have c40b1 : (t498 != x61_3) = false := bne_eq_false_iff_eq.mpr c40
                  clear c40
                  by_cases c41 : (rd t488 x61_3) < 0
                  ·rw [if_pos c41] at H
                   have c41b0 : decide ((rd t488 x61_3) < 0) = true := decide_eq_true c41
                   clear c41
                   have H' := Aside0.mk H
                   clear H
                   go_wp2
                   repeat (go_quiet (fail); try go_wp2)
                   go_meet
                   case rel => exact ⟨_, (true), (by first | rfl | (simp; done) | (simp [*]; done)), H', ⟨by have := HJ8.out; have := HJ18.out; have := HK3.out; first | omega | exact Nat.le_refl _⟩, ⟨by (with_reducible repeat (first | apply Kd.S_alloc | apply Kd.S_drewN | apply Kd.S_drew)); exact HO_3.out⟩, ⟨by (with_reducible repeat (first | apply Kd.R_alloc | apply Kd.R_drewN | apply Kd.R_drew)); exact HO_5.out⟩, ⟨by (with_reducible repeat (first | apply Kd.R_alloc | apply Kd.R_drewN | apply Kd.R_drew)); exact HO_6.out⟩, ⟨by repeat (first | (with_reducible first | exact HB.out | apply below_alloc | apply pw_below_drewN | apply below_drew1) | exact HB.out)⟩⟩
                  ·rw [if_neg c41] at H
                   have c41b0 : decide ((rd t488 x61_3) < 0) = false := decide_eq_false c41
                   clear c41
                   have H' := Aside0.mk H
                   clear H
                   go_wp2
                   repeat (go_quiet (fail); try go_wp2)
                   go_meet
                   case rel => exact ⟨_, (decide ((rd t488 x61_3) ≥ (l0.length : Int))), (by first | rfl | (simp; done) | (simp [*]; done)), H', ⟨by have := HJ8.out; have := HJ18.out; have := HK3.out; first | omega | exact Nat.le_refl _⟩, ⟨by (with_reducible repeat (first | apply Kd.S_alloc | apply Kd.S_drewN | apply Kd.S_drew)); exact HO_3.out⟩, ⟨by (with_reducible repeat (first | apply Kd.R_alloc | apply Kd.R_drewN | apply Kd.R_drew)); exact HO_5.out⟩, ⟨by (with_reducible repeat (first | apply Kd.R_alloc | apply Kd.R_drewN | apply Kd.R_drew)); exact HO_6.out⟩, ⟨by repeat (first | (with_reducible first | exact HB.out | apply below_alloc | apply pw_below_drewN | apply below_drew1) | exact HB.out)⟩⟩
                 ·rw [if_neg c40] at H
                  have c40b0 : (t498 == x61_3) = false := beq_eq_false_iff_ne.mpr c40
                  have c40b1 : (t498 != x61_3) = true := bne_iff_ne.mpr c40
                  have H' := Aside0.mk H
                  clear H
                  go_wp2
                  repeat (go_quiet (fail); try go_wp2)
                  go_meet
                  case rel => exact ⟨_, (true), (by first | rfl | (simp; done) | (simp [*]; done)), H', ⟨by have := HJ8.out; have := HJ18.out; have := HK3.out; first | omega | exact Nat.le_refl _⟩, ⟨by (with_reducible repeat (first | apply Kd.S_alloc | apply Kd.S_drewN | apply Kd.S_drew)); exact HO_3.out⟩, ⟨by (with_reducible repeat (first | apply Kd.R_alloc | apply Kd.R_drewN | apply Kd.R_drew)); exact HO_5.out⟩, ⟨by (with_reducible repeat (first | apply Kd.R_alloc | apply Kd.R_drewN | apply Kd.R_drew)); exact HO_6.out⟩, ⟨by repeat (first | (with_reducible first | exact HB.out | apply below_alloc | apply pw_below_drewN | apply below_drew1) | exact HB.out)⟩⟩
                ·rw [if_neg c39] at H
                 have c39b0 : (t496 == (rd t488 x61_3)) = false := beq_eq_false_iff_ne.mpr c39
                 have c39b1 : (t496 != (rd t488 x61_3)) = true := bne_iff_ne.mpr c39
                 have H' := Aside0.mk H
                 clear H
                 go_wp2
                 repeat (go_quiet (fail); try go_wp2)
                 go_meet
                 case rel => exact ⟨_, (true), (by first | rfl | (simp; done) | (simp [*]; done)), H', ⟨by have := HJ8.out; have := HJ18.out; have := HK3.out; first | omega | exact Nat.le_refl _⟩, ⟨by (with_reducible repeat (first | apply Kd.S_alloc | apply Kd.S_drewN | apply Kd.S_drew)); exact HO_3.out⟩, ⟨by (with_reducible repeat (first | apply Kd.R_alloc | apply Kd.R_drewN | apply Kd.R_drew)); exact HO_5.out⟩, ⟨by (with_reducible repeat (first | apply Kd.R_alloc | apply Kd.R_drewN | apply Kd.R_drew)); exact HO_6.out⟩, ⟨by repeat (first | (with_reducible first | exact HB.out | apply below_alloc | apply pw_below_drewN | apply below_drew1) | exact HB.out)⟩⟩
               ·rw [if_neg c38] at H
                have c38b0 : (t499 == 0) = false := beq_eq_false_iff_ne.mpr c38
                have c38b1 : (t499 != 0) = true := bne_iff_ne.mpr c38
                have H' := Aside0.mk H
                clear H
                go_wp2
                repeat (go_quiet (fail); try go_wp2)
                go_meet
                case rel => exact ⟨_, (true), (by first | rfl | (simp; done) | (simp [*]; done)), H', ⟨by have := HJ8.out; have := HJ18.out; have := HK3.out; first | omega | exact Nat.le_refl _⟩, ⟨by (with_reducible repeat (first | apply Kd.S_alloc | apply Kd.S_drewN | apply Kd.S_drew)); exact HO_3.out⟩, ⟨by (with_reducible repeat (first | apply Kd.R_alloc | apply Kd.R_drewN | apply Kd.R_drew)); exact HO_5.out⟩, ⟨by (with_reducible repeat (first | apply Kd.R_alloc | apply Kd.R_drewN | apply Kd.R_drew)); exact HO_6.out⟩, ⟨by repeat (first | (with_reducible first | exact HB.out | apply below_alloc | apply pw_below_drewN | apply below_drew1) | exact HB.out)⟩⟩
              ·rw [if_neg c37] at H
               have c37b0 : (t497 == 0) = false := beq_eq_false_iff_ne.mpr c37
               have c37b1 : (t497 != 0) = true := bne_iff_ne.mpr c37
               (first | rw [c37b0] | rw [c37b1] | (simp only [i64_w, i32_w]; rw [c37b0]) | skip)
               have H' := Aside0.mk H
               clear H
               go_wp2
               repeat (go_quiet (fail); try go_wp2)
               go_meet
               case rel => exact ⟨_, (true), (by first | rfl | (simp; done) | (simp [*]; done)), H', ⟨by have := HJ8.out; have := HJ18.out; have := HK3.out; first | omega | exact Nat.le_refl _⟩, ⟨by (with_reducible repeat (first | apply Kd.S_alloc | apply Kd.S_drewN | apply Kd.S_drew)); exact HO_3.out⟩, ⟨by (with_reducible repeat (first | apply Kd.R_alloc | apply Kd.R_drewN | apply Kd.R_drew)); exact HO_5.out⟩, ⟨by (with_reducible repeat (first | apply Kd.R_alloc | apply Kd.R_drewN | apply Kd.R_drew)); exact HO_6.out⟩, ⟨by repeat (first | (with_reducible first | exact HB.out | apply below_alloc | apply pw_below_drewN | apply below_drew1) | exact HB.out)⟩⟩
             case rest => as_aux_lemma =>
              clear HC34
              try clear c1
              try clear c2
              try clear p2
              try clear c3
              try clear c3b0
              try clear c3b1
              try clear c4
              try clear c4b0
              try clear c4b1
              try clear c4b2
              try clear p4
              try clear q4
              try clear hx4
              try clear c8
              try clear c11
              try clear c11b0
              try clear c11b1
              try clear c12
              try clear c12b0
              try clear c12b1
              try clear c12b2
              try clear c16
              try clear c23
              try clear c23b0
              try clear c23b1
              try clear c23b2
              try clear c27
              try clear c29
              try clear c29b0
              try clear c30
              try clear c30b0
              try clear c31
              try clear c31b0
              try clear c37
              try clear c37b0
              try clear c37b1
              try clear c38
              try clear c38b0
              try clear c38b1
              try clear c39
              try clear c39b0
              try clear c39b1
              try clear c40
              try clear c40b0
              try clear c40b1
              try clear c41
              try clear c41b0
              try clear hx495_0
              try clear p2
              try clear p495
              try clear q495
              obtain ⟨kq, x103_33, rfl, HA, HJ33, HO_3, HO_5, HO_6, HB⟩ := hcut
              cases kq with
              | zero => exact absurd HA.out (by simp [sapperlaw13_SuffixOrders.j3])
              | succ kj33 =>
               have H := HA.out
               clear HA
               simp only [sapperlaw13_SuffixOrders.j3] at H
               by_cases c42 : x103_33 = true
               ·subst c42
                have H1 : (some false) = some r := by rw [if_pos rfl] at H; exact H
                clear H
                have H := H1
                clear H1
                obtain rfl := Option.some.inj H
                go_wp2
                repeat (go_quiet (fail); try go_wp2)
                go_ret
                exact ⟨by first | rfl | (simp [errW_none, errW_some] <;> rfl) | (simp [*, errW_none, errW_some] <;> rfl), by repeat (first | (with_reducible first | exact HB.out | apply below_alloc | apply pw_below_drewN | apply below_drew1) | exact HB.out)⟩
               ·replace c42 := Bool.eq_false_iff.mpr c42
                subst c42
                have H1 : (if x61_3 = 0 then (if 0 < (t491.length : Int) then (if (rd t491 0) = 0 then (sapperlaw13_SuffixOrders.l0 kj33 l0 t483 t488 t491 (t488.length : Int) (wrap64 (x61_3 + 1))) else (some false)) else (none)) else (if 0 ≤ (wrap64 (x61_3 - 1)) then (if (wrap64 (x61_3 - 1)) < (t488.length : Int) then (if 0 ≤ x61_3 then (if x61_3 < (t491.length : Int) then (if (rd t491 x61_3) < 0 then (sapperlaw13_SuffixOrders.j4 kj33 l0 t483 t488 t491 (rd t488 (wrap64 (x61_3 - 1))) (rd t488 x61_3) (rd t491 x61_3) (t488.length : Int) x61_3 true) else (if (wrap64 ((rd t488 (wrap64 (x61_3 - 1))) + (rd t491 x61_3))) > (l0.length : Int) then (sapperlaw13_SuffixOrders.j4 kj33 l0 t483 t488 t491 (rd t488 (wrap64 (x61_3 - 1))) (rd t488 x61_3) (rd t491 x61_3) (t488.length : Int) x61_3 true) else (if (wrap64 ((rd t488 x61_3) + (rd t491 x61_3))) > (l0.length : Int) then (sapperlaw13_SuffixOrders.j4 kj33 l0 t483 t488 t491 (rd t488 (wrap64 (x61_3 - 1))) (rd t488 x61_3) (rd t491 x61_3) (t488.length : Int) x61_3 true) else (if 0 ≤ (rd t488 (wrap64 (x61_3 - 1))) then (if (rd t488 (wrap64 (x61_3 - 1))) ≤ (wrap64 ((rd t488 (wrap64 (x61_3 - 1))) + (rd t491 x61_3))) then (if (wrap64 ((rd t488 (wrap64 (x61_3 - 1))) + (rd t491 x61_3))) ≤ (l0.length : Int) then (if 0 ≤ (rd t488 x61_3) then (if (rd t488 x61_3) ≤ (wrap64 ((rd t488 x61_3) + (rd t491 x61_3))) then (if (wrap64 ((rd t488 x61_3) + (rd t491 x61_3))) ≤ (l0.length : Int) then (sapperlaw13_SuffixOrders.j4 kj33 l0 t483 t488 t491 (rd t488 (wrap64 (x61_3 - 1))) (rd t488 x61_3) (rd t491 x61_3) (t488.length : Int) x61_3 ((strOfNums ((l0.take ((wrap64 ((rd t488 (wrap64 (x61_3 - 1))) + (rd t491 x61_3))) : Int).toNat).drop ((rd t488 (wrap64 (x61_3 - 1))) : Int).toNat)).toList != (strOfNums ((l0.take ((wrap64 ((rd t488 x61_3) + (rd t491 x61_3))) : Int).toNat).drop ((rd t488 x61_3) : Int).toNat)).toList)) else (none)) else (none)) else (none)) else (none)) else (none)) else (none))))) else (none)) else (none)) else (none)) else (none))) = some r := by rw [if_neg (show ¬ (false = true) by decide)] at H; exact H
                clear H
                have H := H1
                clear H1
                by_cases c43 : x61_3 = 0
                ·rw [if_pos c43] at H
                 have c43b0 : (x61_3 == 0) = true := beq_iff_eq.mpr c43
                 have c43b1 : (x61_3 != 0) = false := bne_eq_false_iff_eq.mpr c43
                 clear c43
                 by_cases c44 : 0 < (t491.length : Int)
                 ·rw [if_pos c44] at H
                  have c44b0 : decide (0 < (t491.length : Int)) = true := decide_eq_true c44
                  have c44b1 : decide (0 < t491.length) = true := decide_eq_true (by omega)
                  clear c44
                  by_cases c45 : (rd t491 0) = 0
                  ·rw [if_pos c45] at H
                   have c45b0 : ((rd t491 0) == 0) = true := beq_iff_eq.mpr c45
                   have c45b1 : ((rd t491 0) != 0) = false := bne_eq_false_iff_eq.mpr c45
                   clear c45
                   have H' := Aside0.mk H
                   clear H
                   obtain ⟨Ao46, co46, eo46⟩ := Kd.R_slice HO_6.out
                   subst eo46
                   have p500 : 0 ≤ (0 : Int) := (by omega)
                   have q500 : 0 < (t491.length : Int) := of_decide_eq_true (by first | (with_reducible assumption) | assumption)
                   obtain ⟨ad500, e500, hx500_0⟩ := Kd.at_int (Kd.R_reads' HO_6.out).2.2 0 p500 q500
                   cases e500
                   have qi500 : (0 < t491.length) = True := eq_true (by omega)
                   (try rw [show ((0 : Int)).toNat = 0 from rfl] at hx500_0)
                   (try rw [Addr.add_zero'] at hx500_0)
                   replace p500 := eq_true p500
                   replace q500 := eq_true q500
                   go_wp2
                   repeat (go_quiet (fail); try go_wp2)
                   go_roundg kj33
                   case measure => have := HJ8.out; have := HJ18.out; have := HK3.out; have := HJ33.out; omega
                   case rel => exact ⟨(wrap64 (x61_3 + 1)), (by first | rfl | (simp; done) | (simp [*]; done)), H', ⟨by have := HJ8.out; have := HJ18.out; have := HK3.out; have := HJ33.out; omega⟩, ⟨by (with_reducible repeat (first | apply Kd.S_alloc | apply Kd.S_drewN | apply Kd.S_drew)); exact HO_3.out⟩, ⟨by (with_reducible repeat (first | apply Kd.R_alloc | apply Kd.R_drewN | apply Kd.R_drew)); exact HO_5.out⟩, ⟨by (with_reducible repeat (first | apply Kd.R_alloc | apply Kd.R_drewN | apply Kd.R_drew)); exact HO_6.out⟩, ⟨by repeat (first | (with_reducible first | exact HB.out | apply below_alloc | apply pw_below_drewN | apply below_drew1) | exact HB.out)⟩⟩
                  ·rw [if_neg c45] at H
                   have c45b0 : ((rd t491 0) == 0) = false := beq_eq_false_iff_ne.mpr c45
                   have c45b1 : ((rd t491 0) != 0) = true := bne_iff_ne.mpr c45
                   obtain rfl := Option.some.inj H
                   obtain ⟨Ao47, co47, eo47⟩ := Kd.R_slice HO_6.out
                   subst eo47
                   have p500 : 0 ≤ (0 : Int) := (by omega)
                   have q500 : 0 < (t491.length : Int) := of_decide_eq_true (by first | (with_reducible assumption) | assumption)
                   obtain ⟨ad500, e500, hx500_0⟩ := Kd.at_int (Kd.R_reads' HO_6.out).2.2 0 p500 q500
                   cases e500
                   have qi500 : (0 < t491.length) = True := eq_true (by omega)
                   (try rw [show ((0 : Int)).toNat = 0 from rfl] at hx500_0)
                   (try rw [Addr.add_zero'] at hx500_0)
                   replace p500 := eq_true p500
                   replace q500 := eq_true q500
                   go_wp2
                   repeat (go_quiet (fail); try go_wp2)
                   go_ret
                   exact ⟨by first | rfl | (simp [errW_none, errW_some] <;> rfl) | (simp [*, errW_none, errW_some] <;> rfl), by repeat (first | (with_reducible first | exact HB.out | apply below_alloc | apply pw_below_drewN | apply below_drew1) | exact HB.out)⟩
                 ·rw [if_neg c44] at H
                  exact absurd H (by simp)
                ·rw [if_neg c43] at H
                 have c43b0 : (x61_3 == 0) = false := beq_eq_false_iff_ne.mpr c43
                 have c43b1 : (x61_3 != 0) = true := bne_iff_ne.mpr c43
                 obtain ⟨ji48, hji48⟩ : ∃ j_ : Int, (wrap64 (x61_3 - 1)) = j_ := ⟨_, rfl⟩
                 replace H : (if 0 ≤ (ji48) then (if (ji48) < (t488.length : Int) then (if 0 ≤ x61_3 then (if x61_3 < (t491.length : Int) then (if (rd t491 x61_3) < 0 then (sapperlaw13_SuffixOrders.j4 kj33 l0 t483 t488 t491 (rd t488 (ji48)) (rd t488 x61_3) (rd t491 x61_3) (t488.length : Int) x61_3 true) else (if (wrap64 ((rd t488 (ji48)) + (rd t491 x61_3))) > (l0.length : Int) then (sapperlaw13_SuffixOrders.j4 kj33 l0 t483 t488 t491 (rd t488 (ji48)) (rd t488 x61_3) (rd t491 x61_3) (t488.length : Int) x61_3 true) else (if (wrap64 ((rd t488 x61_3) + (rd t491 x61_3))) > (l0.length : Int) then (sapperlaw13_SuffixOrders.j4 kj33 l0 t483 t488 t491 (rd t488 (ji48)) (rd t488 x61_3) (rd t491 x61_3) (t488.length : Int) x61_3 true) else (if 0 ≤ (rd t488 (ji48)) then (if (rd t488 (ji48)) ≤ (wrap64 ((rd t488 (ji48)) + (rd t491 x61_3))) then (if (wrap64 ((rd t488 (ji48)) + (rd t491 x61_3))) ≤ (l0.length : Int) then (if 0 ≤ (rd t488 x61_3) then (if (rd t488 x61_3) ≤ (wrap64 ((rd t488 x61_3) + (rd t491 x61_3))) then (if (wrap64 ((rd t488 x61_3) + (rd t491 x61_3))) ≤ (l0.length : Int) then (sapperlaw13_SuffixOrders.j4 kj33 l0 t483 t488 t491 (rd t488 (ji48)) (rd t488 x61_3) (rd t491 x61_3) (t488.length : Int) x61_3 ((strOfNums ((l0.take ((wrap64 ((rd t488 (ji48)) + (rd t491 x61_3))) : Int).toNat).drop ((rd t488 (ji48)) : Int).toNat)).toList != (strOfNums ((l0.take ((wrap64 ((rd t488 x61_3) + (rd t491 x61_3))) : Int).toNat).drop ((rd t488 x61_3) : Int).toNat)).toList)) else (none)) else (none)) else (none)) else (none)) else (none)) else (none))))) else (none)) else (none)) else (none)) else (none)) = some r := by first | (rw [hji48] at H; exact H) | (simp only [hji48] at H ⊢; exact H)
                 have hji48w : (IntKind.i64.wrap (x61_3 - 1)) = ji48 := (i64_w _).trans hji48
                 by_cases c49 : 0 ≤ (ji48)
                 ·rw [if_pos c49] at H
                  have c49b0 : decide (0 ≤ (ji48)) = true := decide_eq_true c49
                  clear c49
                  by_cases c50 : (ji48) < (t488.length : Int)
                  ·rw [if_pos c50] at H
                   have c50b0 : decide ((ji48) < (t488.length : Int)) = true := decide_eq_true c50
                   clear c50
                   by_cases c51 : 0 ≤ x61_3
                   ·rw [if_pos c51] at H
                    have c51b0 : decide (0 ≤ x61_3) = true := decide_eq_true c51
                    clear c51
                    by_cases c52 : x61_3 < (t491.length : Int)
                    ·rw [if_pos c52] at H
                     have c52b0 : decide (x61_3 < (t491.length : Int)) = true := decide_eq_true c52
                     clear c52
                     have HC53 := Aside0.mk H
                     clear H
                     have p501 : 0 ≤ ((ji48) : Int) := of_decide_eq_true (by first | (with_reducible assumption) | assumption)
                     have q501 : (ji48) < (t488.length : Int) := of_decide_eq_true (by first | (with_reducible assumption) | assumption)
                     obtain ⟨ad501, e501, hx501_0⟩ := Kd.at_int (Kd.R_reads' HO_5.out).2.2 (ji48) p501 q501
                     obtain rfl : ad495 = ad501 := (by injection e501)
                     replace p501 := eq_true p501
                     replace q501 := eq_true q501
                     obtain ⟨Ao54, co54, eo54⟩ := Kd.R_slice HO_6.out
                     subst eo54
                     have p502 : 0 ≤ (x61_3 : Int) := of_decide_eq_true (by first | (with_reducible assumption) | assumption)
                     have q502 : x61_3 < (t491.length : Int) := of_decide_eq_true (by first | (with_reducible assumption) | assumption)
                     obtain ⟨ad502, e502, hx502_0⟩ := Kd.at_int (Kd.R_reads' HO_6.out).2.2 x61_3 p502 q502
                     cases e502
                     replace p502 := eq_true p502
                     replace q502 := eq_true q502
                     go_upto_region 21 with (fail)
                     repeat (go_quiet (fail); go_upto_region 21 with (fail))
                     go_cut [154] (fun v154 wc => ∃ (kq : Nat) (x154_52 : Bool), v154 = .bool x154_52 ∧ Aside0 (sapperlaw13_SuffixOrders.j4 kq l0 t483 t488 t491 (rd t488 (ji48)) (rd t488 x61_3) (rd t491 x61_3) (t488.length : Int) x61_3 x154_52 = some r) ∧ Aside0 (kq ≤ kj33) ∧ Aside0 (Kd.S k82 82 wc w.heap.size (fun k_ => some k_ ≠ ((.slice (some ad495) t488.length co28) : Value).ownBlock ∧ some k_ ≠ ((.slice (some ad502) t491.length co54) : Value).ownBlock) (.slice Ao20 t483.length co20) t483) ∧ Aside0 (Kd.R (Kd.int .i64) 3 wc w.heap.size (fun k_ => some k_ ≠ ((.slice (some ad502) t491.length co54) : Value).ownBlock) (.slice (some ad495) t488.length co28) t488) ∧ Aside0 (Kd.R (Kd.int .i64) 3 wc w.heap.size (fun k_ => some k_ ≠ ((.slice (some ad495) t488.length co28) : Value).ownBlock) (.slice (some ad502) t491.length co54) t491) ∧ Aside0 (Below w.heap.size w wc))
                     case first => as_aux_lemma =>
                      have H := HC53.out
                      clear HC53
                      by_cases c55 : (rd t491 x61_3) < 0
                      ·rw [if_pos c55] at H
                       have c55b0 : decide ((rd t491 x61_3) < 0) = true := decide_eq_true c55
                       clear c55
                       (first | rw [c55b0] | rw [c55b1] | (simp only [i64_w, i32_w]; rw [c55b0]) | skip)
                       have H' := Aside0.mk H
                       clear H
                       go_wp2
                       repeat (go_quiet (fail); try go_wp2)
                       go_meet
                       case rel => exact ⟨_, (true), (by first | rfl | (simp; done) | (simp [*]; done)), H', ⟨by have := HJ8.out; have := HJ18.out; have := HK3.out; have := HJ33.out; first | omega | exact Nat.le_refl _⟩, ⟨by (with_reducible repeat (first | apply Kd.S_alloc | apply Kd.S_drewN | apply Kd.S_drew)); exact HO_3.out⟩, ⟨by (with_reducible repeat (first | apply Kd.R_alloc | apply Kd.R_drewN | apply Kd.R_drew)); exact HO_5.out⟩, ⟨by (with_reducible repeat (first | apply Kd.R_alloc | apply Kd.R_drewN | apply Kd.R_drew)); exact HO_6.out⟩, ⟨by repeat (first | (with_reducible first | exact HB.out | apply below_alloc | apply pw_below_drewN | apply below_drew1) | exact HB.out)⟩⟩
                      ·rw [if_neg c55] at H
                       have c55b0 : decide ((rd t491 x61_3) < 0) = false := decide_eq_false c55
                       clear c55
                       (first | rw [c55b0] | rw [c55b1] | (simp only [i64_w, i32_w]; rw [c55b0]) | skip)
                       by_cases c56 : (wrap64 ((rd t488 (ji48)) + (rd t491 x61_3))) > (l0.length : Int)
                       ·rw [if_pos c56] at H
                        have c56b0 : decide ((l0.length : Int) < (wrap64 ((rd t488 (ji48)) + (rd t491 x61_3)))) = true := decide_eq_true c56
                        clear c56
                        have H' := Aside0.mk H
                        clear H
                        go_wp2
                        repeat (go_quiet (fail); try go_wp2)
                        go_meet
                        case rel => exact ⟨_, (true), (by first | rfl | (simp; done) | (simp [*]; done)), H', ⟨by have := HJ8.out; have := HJ18.out; have := HK3.out; have := HJ33.out; first | omega | exact Nat.le_refl _⟩, ⟨by (with_reducible repeat (first | apply Kd.S_alloc | apply Kd.S_drewN | apply Kd.S_drew)); exact HO_3.out⟩, ⟨by (with_reducible repeat (first | apply Kd.R_alloc | apply Kd.R_drewN | apply Kd.R_drew)); exact HO_5.out⟩, ⟨by (with_reducible repeat (first | apply Kd.R_alloc | apply Kd.R_drewN | apply Kd.R_drew)); exact HO_6.out⟩, ⟨by repeat (first | (with_reducible first | exact HB.out | apply below_alloc | apply pw_below_drewN | apply below_drew1) | exact HB.out)⟩⟩
                       ·rw [if_neg c56] at H
                        have c56b0 : decide ((l0.length : Int) < (wrap64 ((rd t488 (ji48)) + (rd t491 x61_3)))) = false := decide_eq_false c56
                        clear c56
                        by_cases c57 : (wrap64 ((rd t488 x61_3) + (rd t491 x61_3))) > (l0.length : Int)
                        ·rw [if_pos c57] at H
                         have c57b0 : decide ((l0.length : Int) < (wrap64 ((rd t488 x61_3) + (rd t491 x61_3)))) = true := decide_eq_true c57
                         clear c57
                         have H' := Aside0.mk H
                         clear H
                         go_wp2
                         repeat (go_quiet (fail); try go_wp2)
                         go_meet
                         case rel => exact ⟨_, (true), (by first | rfl | (simp; done) | (simp [*]; done)), H', ⟨by have := HJ8.out; have := HJ18.out; have := HK3.out; have := HJ33.out; first | omega | exact Nat.le_refl _⟩, ⟨by (with_reducible repeat (first | apply Kd.S_alloc | apply Kd.S_drewN | apply Kd.S_drew)); exact HO_3.out⟩, ⟨by (with_reducible repeat (first | apply Kd.R_alloc | apply Kd.R_drewN | apply Kd.R_drew)); exact HO_5.out⟩, ⟨by (with_reducible repeat (first | apply Kd.R_alloc | apply Kd.R_drewN | apply Kd.R_drew)); exact HO_6.out⟩, ⟨by repeat (first | (with_reducible first | exact HB.out | apply below_alloc | apply pw_below_drewN | apply below_drew1) | exact HB.out)⟩⟩
                        ·rw [if_neg c57] at H
                         have c57b0 : decide ((l0.length : Int) < (wrap64 ((rd t488 x61_3) + (rd t491 x61_3)))) = false := decide_eq_false c57
                         clear c57
                         by_cases c58 : 0 ≤ (rd t488 (ji48))
                         ·rw [if_pos c58] at H
                          have c58b0 := eq_true c58
                          have c58b1 : decide (0 ≤ (rd t488 (ji48))) = true := decide_eq_true c58
                          clear c58
                          by_cases c59 : (rd t488 (ji48)) ≤ (wrap64 ((rd t488 (ji48)) + (rd t491 x61_3)))
                          ·rw [if_pos c59] at H
                           have c59b0 := eq_true c59
                           have c59b1 : decide ((rd t488 (ji48)) ≤ (wrap64 ((rd t488 (ji48)) + (rd t491 x61_3)))) = true := decide_eq_true c59
                           by_cases c60 : (wrap64 ((rd t488 (ji48)) + (rd t491 x61_3))) ≤ (l0.length : Int)
                           ·rw [if_pos c60] at H
                            have c60b0 := eq_true c60
                            have c60b1 : decide ((wrap64 ((rd t488 (ji48)) + (rd t491 x61_3))) ≤ (l0.length : Int)) = true := decide_eq_true c60
                            by_cases c61 : 0 ≤ (rd t488 x61_3)
                            ·rw [if_pos c61] at H
                             have c61b0 := eq_true c61
                             have c61b1 : decide (0 ≤ (rd t488 x61_3)) = true := decide_eq_true c61
                             clear c61
                             by_cases c62 : (rd t488 x61_3) ≤ (wrap64 ((rd t488 x61_3) + (rd t491 x61_3)))
                             ·rw [if_pos c62] at H
                              have c62b0 := eq_true c62
                              have c62b1 : decide ((rd t488 x61_3) ≤ (wrap64 ((rd t488 x61_3) + (rd t491 x61_3)))) = true := decide_eq_true c62
                              by_cases c63 : (wrap64 ((rd t488 x61_3) + (rd t491 x61_3))) ≤ (l0.length : Int)
                              ·rw [if_pos c63] at H
                               have c63b0 := eq_true c63
                               have c63b1 : decide ((wrap64 ((rd t488 x61_3) + (rd t491 x61_3))) ≤ (l0.length : Int)) = true := decide_eq_true c63
                               have H' := Aside0.mk H
                               clear H
                               obtain ⟨i064, hi064, _, hsz64, _⟩ := info_parts info5
                               obtain ⟨A64, hcut64, hA64, hC64⟩ := print_mid_of (P := Try.prog) (Value.int .u8) 0 23 5 .i64 .i64 Try.underlying23 hi064 hsz64 A0 c0 l0 (rd t488 (ji48)) (wrap64 ((rd t488 (ji48)) + (rd t491 x61_3))) (of_decide_eq_true (by first | (with_reducible assumption) | assumption)) (by first | omega | exact of_decide_eq_true (by first | (with_reducible assumption) | assumption)) (of_decide_eq_true (by first | (with_reducible assumption) | assumption)) HC0.out
                               (try (have hws2 := i64_w ((rd t488 (ji48)) + (rd t491 x61_3))))
                               have HR503 := Aside0.mk (Kd.C_of_reads (h1 := fun _ => rfl) (hA64 _ (Kd.reads_of_C HR0.out)))
                               have HC503 := Aside0.mk hC64
                               clear hA64 hC64 hi064 hsz64
                               have hcv65 := Kd.C_string (P := Try.prog) (A := A64) (c := (c0 - (rd t488 (ji48)).toNat)) Try.underlying23 Try.underlying5 Try.underlying9 (Kd.C_below HR503.out HB.out)
                               (try (have hcv65k := C_string0 (P := Try.prog) (A := A64) (c := (c0 - (rd t488 (ji48)).toNat)) Try.underlying23 Try.underlying5 Try.underlying9 (Kd.C_below HR503.out HB.out)))
                               (try (have hcv65n := C_string1 (P := Try.prog) (A := A64) (c := (c0 - (rd t488 (ji48)).toNat)) Try.underlying23 Try.underlying5 Try.underlying9 (Kd.C_below HR503.out HB.out)))
                               (try (have hcv65m := C_string2 (P := Try.prog) (A := A64) (c := (c0 - (rd t488 (ji48)).toNat)) Try.underlying23 Try.underlying5 Try.underlying9 (Kd.C_below HR503.out HB.out)))
                               obtain ⟨i066, hi066, _, hsz66, _⟩ := info_parts info5
                               obtain ⟨A66, hcut66, hA66, hC66⟩ := print_mid_of (P := Try.prog) (Value.int .u8) 0 23 5 .i64 .i64 Try.underlying23 hi066 hsz66 A0 c0 l0 (rd t488 x61_3) (wrap64 ((rd t488 x61_3) + (rd t491 x61_3))) (of_decide_eq_true (by first | (with_reducible assumption) | assumption)) (by first | omega | exact of_decide_eq_true (by first | (with_reducible assumption) | assumption)) (of_decide_eq_true (by first | (with_reducible assumption) | assumption)) HC0.out
                               (try (have hws3 := i64_w ((rd t488 x61_3) + (rd t491 x61_3))))
                               have HR504 := Aside0.mk (Kd.C_of_reads (h1 := fun _ => rfl) (hA66 _ (Kd.reads_of_C HR0.out)))
                               have HC504 := Aside0.mk hC66
                               clear hA66 hC66 hi066 hsz66
                               have hcv67 := Kd.C_string (P := Try.prog) (A := A66) (c := (c0 - (rd t488 x61_3).toNat)) Try.underlying23 Try.underlying5 Try.underlying9 (Kd.C_below HR504.out HB.out)
                               (try (have hcv67k := C_string0 (P := Try.prog) (A := A66) (c := (c0 - (rd t488 x61_3).toNat)) Try.underlying23 Try.underlying5 Try.underlying9 (Kd.C_below HR504.out HB.out)))
                               (try (have hcv67n := C_string1 (P := Try.prog) (A := A66) (c := (c0 - (rd t488 x61_3).toNat)) Try.underlying23 Try.underlying5 Try.underlying9 (Kd.C_below HR504.out HB.out)))
                               (try (have hcv67m := C_string2 (P := Try.prog) (A := A66) (c := (c0 - (rd t488 x61_3).toNat)) Try.underlying23 Try.underlying5 Try.underlying9 (Kd.C_below HR504.out HB.out)))
                               go_wp2
                               repeat (go_quiet (fail); try go_wp2)
                               go_meet
                               case rel => exact ⟨_, (((strOfNums ((l0.take ((wrap64 ((rd t488 (ji48)) + (rd t491 x61_3))) : Int).toNat).drop ((rd t488 (ji48)) : Int).toNat)).toList != (strOfNums ((l0.take ((wrap64 ((rd t488 x61_3) + (rd t491 x61_3))) : Int).toNat).drop ((rd t488 x61_3) : Int).toNat)).toList)), (by first | rfl | (simp; done) | (simp only [← hji48] <;> (first | rfl | simp)) | (simp [*]; done)), H', ⟨by have := HJ8.out; have := HJ18.out; have := HK3.out; have := HJ33.out; first | omega | exact Nat.le_refl _⟩, ⟨by (with_reducible repeat (first | apply Kd.S_alloc | apply Kd.S_drewN | apply Kd.S_drew)); exact HO_3.out⟩, ⟨by (with_reducible repeat (first | apply Kd.R_alloc | apply Kd.R_drewN | apply Kd.R_drew)); exact HO_5.out⟩, ⟨by (with_reducible repeat (first | apply Kd.R_alloc | apply Kd.R_drewN | apply Kd.R_drew)); exact HO_6.out⟩, ⟨by repeat (first | (with_reducible first | exact HB.out | apply below_alloc | apply pw_below_drewN | apply below_drew1) | exact HB.out)⟩⟩
                              ·rw [if_neg c63] at H
                               exact absurd H (by simp)
                             ·rw [if_neg c62] at H
                              exact absurd H (by simp)
                            ·rw [if_neg c61] at H
                             exact absurd H (by simp)
                           ·rw [if_neg c60] at H
                            exact absurd H (by simp)
                          ·rw [if_neg c59] at H
                           exact absurd H (by simp)
                         ·rw [if_neg c58] at H
                          exact absurd H (by simp)
                     case rest => as_aux_lemma =>
                      clear HC53
                      try clear c1
                      try clear c2
                      try clear p2
                      try clear c3
                      try clear c3b0
                      try clear c3b1
                      try clear c4
                      try clear c4b0
                      try clear c4b1
                      try clear c4b2
                      try clear p4
                      try clear q4
                      try clear hx4
                      try clear c5
                      try clear p5
                      try clear q5
                      try clear hx5
                      try clear qi5
                      try clear c6
                      try clear p6
                      try clear hcv6
                      try clear c8
                      try clear c11
                      try clear c11b0
                      try clear c11b1
                      try clear c12
                      try clear c12b0
                      try clear c12b1
                      try clear c12b2
                      try clear c16
                      try clear c23
                      try clear c23b0
                      try clear c23b1
                      try clear c23b2
                      try clear c27
                      try clear c29
                      try clear c29b0
                      try clear c30
                      try clear c30b0
                      try clear c31
                      try clear c31b0
                      try clear c37
                      try clear c37b0
                      try clear c37b1
                      try clear c38
                      try clear c38b0
                      try clear c38b1
                      try clear c39
                      try clear c39b0
                      try clear c39b1
                      try clear c40
                      try clear c40b0
                      try clear c40b1
                      try clear c41
                      try clear c41b0
                      try clear c42
                      try clear c43
                      try clear c43b0
                      try clear c43b1
                      try clear c44
                      try clear c44b0
                      try clear c44b1
                      try clear c45
                      try clear c45b0
                      try clear c45b1
                      try clear c49
                      try clear c49b0
                      try clear p49
                      try clear q49
                      try clear hx49
                      try clear c50
                      try clear c50b0
                      try clear p50
                      try clear q50
                      try clear hx50
                      try clear qi50
                      try clear c51
                      try clear c51b0
                      try clear c52
                      try clear c52b0
                      try clear c55
                      try clear c55b0
                      try clear c56
                      try clear c56b0
                      try clear c57
                      try clear c57b0
                      try clear c58
                      try clear c58b0
                      try clear c58b1
                      try clear c59
                      try clear c59b0
                      try clear c59b1
                      try clear c60
                      try clear c60b0
                      try clear c60b1
                      try clear c61
                      try clear c61b0
                      try clear c61b1
                      try clear c62
                      try clear c62b0
                      try clear c62b1
                      try clear c63
                      try clear c63b0
                      try clear c63b1
                      try clear p64
                      try clear hcv65
                      try clear hcv67
                      try clear hx495_0
                      try clear hx500_0
                      try clear hx501_0
                      try clear hx502_0
                      try clear p2
                      try clear p4
                      try clear p495
                      try clear p500
                      try clear p501
                      try clear p502
                      try clear q4
                      try clear q495
                      try clear q500
                      try clear q501
                      try clear q502
                      obtain ⟨kq, x154_52, rfl, HA, HJ52, HO_3, HO_5, HO_6, HB⟩ := hcut
                      cases kq with
                      | zero => exact absurd HA.out (by simp [sapperlaw13_SuffixOrders.j4])
                      | succ kj52 =>
                       have H := HA.out
                       clear HA
                       simp only [sapperlaw13_SuffixOrders.j4] at H
                       by_cases c68 : x154_52 = true
                       ·subst c68
                        have H1 : (some false) = some r := by rw [if_pos rfl] at H; exact H
                        clear H
                        have H := H1
                        clear H1
                        obtain rfl := Option.some.inj H
                        go_wp2
                        repeat (go_quiet (fail); try go_wp2)
                        go_ret
                        exact ⟨by first | rfl | (simp [errW_none, errW_some] <;> rfl) | (simp only [← hji48]; first | rfl | (simp [errW_none, errW_some] <;> rfl)) | (simp [*, errW_none, errW_some] <;> rfl), by repeat (first | (with_reducible first | exact HB.out | apply below_alloc | apply pw_below_drewN | apply below_drew1) | exact HB.out)⟩
                       ·replace c68 := Bool.eq_false_iff.mpr c68
                        subst c68
                        have H1 : (if (wrap64 ((rd t488 (ji48)) + (rd t491 x61_3))) < (l0.length : Int) then (if (wrap64 ((rd t488 x61_3) + (rd t491 x61_3))) = (l0.length : Int) then (some false) else (if 0 ≤ (wrap64 ((rd t488 (ji48)) + (rd t491 x61_3))) then (if 0 ≤ (wrap64 ((rd t488 x61_3) + (rd t491 x61_3))) then (if (wrap64 ((rd t488 x61_3) + (rd t491 x61_3))) < (l0.length : Int) then (if (rd l0 (wrap64 ((rd t488 (ji48)) + (rd t491 x61_3)))) ≥ (rd l0 (wrap64 ((rd t488 x61_3) + (rd t491 x61_3)))) then (some false) else (sapperlaw13_SuffixOrders.l0 kj52 l0 t483 t488 t491 (t488.length : Int) (wrap64 (x61_3 + 1)))) else (none)) else (none)) else (none))) else (sapperlaw13_SuffixOrders.l0 kj52 l0 t483 t488 t491 (t488.length : Int) (wrap64 (x61_3 + 1)))) = some r := by rw [if_neg (show ¬ (false = true) by decide)] at H; exact H
                        clear H
                        have H := H1
                        clear H1
                        by_cases c69 : (wrap64 ((rd t488 (ji48)) + (rd t491 x61_3))) < (l0.length : Int)
                        ·rw [if_pos c69] at H
                         have c69b0 : decide ((wrap64 ((rd t488 (ji48)) + (rd t491 x61_3))) < (l0.length : Int)) = true := decide_eq_true c69
                         clear c69
                         by_cases c70 : (wrap64 ((rd t488 x61_3) + (rd t491 x61_3))) = (l0.length : Int)
                         ·rw [if_pos c70] at H
                          have c70b0 : ((wrap64 ((rd t488 x61_3) + (rd t491 x61_3))) == (l0.length : Int)) = true := beq_iff_eq.mpr c70
                          have c70b1 : ((wrap64 ((rd t488 x61_3) + (rd t491 x61_3))) != (l0.length : Int)) = false := bne_eq_false_iff_eq.mpr c70
                          clear c70
                          obtain rfl := Option.some.inj H
                          go_wp2
                          repeat (go_quiet (fail); try go_wp2)
                          go_ret
                          exact ⟨by first | rfl | (simp [errW_none, errW_some] <;> rfl) | (simp only [← hji48]; first | rfl | (simp [errW_none, errW_some] <;> rfl)) | (simp [*, errW_none, errW_some] <;> rfl), by repeat (first | (with_reducible first | exact HB.out | apply below_alloc | apply pw_below_drewN | apply below_drew1) | exact HB.out)⟩
                         ·rw [if_neg c70] at H
                          have c70b0 : ((wrap64 ((rd t488 x61_3) + (rd t491 x61_3))) == (l0.length : Int)) = false := beq_eq_false_iff_ne.mpr c70
                          have c70b1 : ((wrap64 ((rd t488 x61_3) + (rd t491 x61_3))) != (l0.length : Int)) = true := bne_iff_ne.mpr c70
                          obtain ⟨ji71, hji71⟩ : ∃ j_ : Int, (wrap64 ((rd t488 (ji48)) + (rd t491 x61_3))) = j_ := ⟨_, rfl⟩
                          replace H : (if 0 ≤ (ji71) then (if 0 ≤ (wrap64 ((rd t488 x61_3) + (rd t491 x61_3))) then (if (wrap64 ((rd t488 x61_3) + (rd t491 x61_3))) < (l0.length : Int) then (if (rd l0 (ji71)) ≥ (rd l0 (wrap64 ((rd t488 x61_3) + (rd t491 x61_3)))) then (some false) else (sapperlaw13_SuffixOrders.l0 kj52 l0 t483 t488 t491 (t488.length : Int) (wrap64 (x61_3 + 1)))) else (none)) else (none)) else (none)) = some r := by first | (rw [hji71] at H; exact H) | (simp only [hji71] at H ⊢; exact H)
                          (try rw [hji71] at c69b0)
                          have hji71w : (IntKind.i64.wrap ((rd t488 (ji48)) + (rd t491 x61_3))) = ji71 := (i64_w _).trans hji71
                          by_cases c72 : 0 ≤ (ji71)
                          ·rw [if_pos c72] at H
                           have c72b0 : decide (0 ≤ (ji71)) = true := decide_eq_true c72
                           clear c72
                           obtain ⟨ji73, hji73⟩ : ∃ j_ : Int, (wrap64 ((rd t488 x61_3) + (rd t491 x61_3))) = j_ := ⟨_, rfl⟩
                           replace H : (if 0 ≤ (ji73) then (if (ji73) < (l0.length : Int) then (if (rd l0 (ji71)) ≥ (rd l0 (ji73)) then (some false) else (sapperlaw13_SuffixOrders.l0 kj52 l0 t483 t488 t491 (t488.length : Int) (wrap64 (x61_3 + 1)))) else (none)) else (none)) = some r := by first | (rw [hji73] at H; exact H) | (simp only [hji73] at H ⊢; exact H)
                           (try rw [hji73] at c70b0)
                           (try rw [hji73] at c70b1)
                           have hji73w : (IntKind.i64.wrap ((rd t488 x61_3) + (rd t491 x61_3))) = ji73 := (i64_w _).trans hji73
                           by_cases c74 : 0 ≤ (ji73)
                           ·rw [if_pos c74] at H
                            have c74b0 : decide (0 ≤ (ji73)) = true := decide_eq_true c74
                            clear c74
                            by_cases c75 : (ji73) < (l0.length : Int)
                            ·rw [if_pos c75] at H
                             have c75b0 : decide ((ji73) < (l0.length : Int)) = true := decide_eq_true c75
                             clear c75
                             by_cases c76 : (rd l0 (ji71)) ≥ (rd l0 (ji73))
                             ·rw [if_pos c76] at H
                              have c76b0 : decide ((rd l0 (ji73)) ≤ (rd l0 (ji71))) = true := decide_eq_true c76
                              clear c76
                              obtain rfl := Option.some.inj H
                              have p505 : 0 ≤ ((ji71) : Int) := of_decide_eq_true (by first | (with_reducible assumption) | assumption)
                              have q505 : (ji71) < (l0.length : Int) := of_decide_eq_true (by first | (with_reducible assumption) | assumption)
                              obtain ⟨ad505, e505, hx505_0⟩ := Kd.at_int HR0.out (ji71) p505 q505
                              cases e505
                              replace hx505_0 := (HB.out.cell (World.block_lt_of_cell? w _ hx505_0)).trans hx505_0
                              replace p505 := eq_true p505
                              replace q505 := eq_true q505
                              have p506 : 0 ≤ ((ji73) : Int) := of_decide_eq_true (by first | (with_reducible assumption) | assumption)
                              have q506 : (ji73) < (l0.length : Int) := of_decide_eq_true (by first | (with_reducible assumption) | assumption)
                              obtain ⟨ad506, e506, hx506_0⟩ := Kd.at_int HR0.out (ji73) p506 q506
                              obtain rfl : ad505 = ad506 := (by injection e506)
                              replace hx506_0 := (HB.out.cell (World.block_lt_of_cell? w _ hx506_0)).trans hx506_0
                              replace p506 := eq_true p506
                              replace q506 := eq_true q506
                              go_wp2
                              repeat (go_quiet (fail); try go_wp2)
                              go_ret
                              exact ⟨by first | rfl | (simp [errW_none, errW_some] <;> rfl) | (simp only [← hji48, ← hji71, ← hji73]; first | rfl | (simp [errW_none, errW_some] <;> rfl)) | (simp [*, errW_none, errW_some] <;> rfl), by repeat (first | (with_reducible first | exact HB.out | apply below_alloc | apply pw_below_drewN | apply below_drew1) | exact HB.out)⟩
                             ·rw [if_neg c76] at H
                              have c76b0 : decide ((rd l0 (ji73)) ≤ (rd l0 (ji71))) = false := decide_eq_false c76
                              clear c76
                              have H' := Aside0.mk H
                              clear H
                              have p505 : 0 ≤ ((ji71) : Int) := of_decide_eq_true (by first | (with_reducible assumption) | assumption)
                              have q505 : (ji71) < (l0.length : Int) := of_decide_eq_true (by first | (with_reducible assumption) | assumption)
                              obtain ⟨ad505, e505, hx505_0⟩ := Kd.at_int HR0.out (ji71) p505 q505
                              cases e505
                              replace hx505_0 := (HB.out.cell (World.block_lt_of_cell? w _ hx505_0)).trans hx505_0
                              replace p505 := eq_true p505
                              replace q505 := eq_true q505
                              have p506 : 0 ≤ ((ji73) : Int) := of_decide_eq_true (by first | (with_reducible assumption) | assumption)
                              have q506 : (ji73) < (l0.length : Int) := of_decide_eq_true (by first | (with_reducible assumption) | assumption)
                              obtain ⟨ad506, e506, hx506_0⟩ := Kd.at_int HR0.out (ji73) p506 q506
                              obtain rfl : ad505 = ad506 := (by injection e506)
                              replace hx506_0 := (HB.out.cell (World.block_lt_of_cell? w _ hx506_0)).trans hx506_0
                              replace p506 := eq_true p506
                              replace q506 := eq_true q506
                              go_wp2
                              repeat (go_quiet (fail); try go_wp2)
                              go_roundg kj52
                              case measure => have := HJ8.out; have := HJ18.out; have := HK3.out; have := HJ33.out; have := HJ52.out; omega
                              case rel => exact ⟨(wrap64 (x61_3 + 1)), (by first | rfl | (simp; done) | (simp [*]; done)), H', ⟨by have := HJ8.out; have := HJ18.out; have := HK3.out; have := HJ33.out; have := HJ52.out; omega⟩, ⟨by (with_reducible repeat (first | apply Kd.S_alloc | apply Kd.S_drewN | apply Kd.S_drew)); exact HO_3.out⟩, ⟨by (with_reducible repeat (first | apply Kd.R_alloc | apply Kd.R_drewN | apply Kd.R_drew)); exact HO_5.out⟩, ⟨by (with_reducible repeat (first | apply Kd.R_alloc | apply Kd.R_drewN | apply Kd.R_drew)); exact HO_6.out⟩, ⟨by repeat (first | (with_reducible first | exact HB.out | apply below_alloc | apply pw_below_drewN | apply below_drew1) | exact HB.out)⟩⟩
                            ·rw [if_neg c75] at H
                             exact absurd H (by simp)
                           ·rw [if_neg c74] at H
                            exact absurd H (by simp)
                          ·rw [if_neg c72] at H
                           exact absurd H (by simp)
                        ·rw [if_neg c69] at H
                         have c69b0 : decide ((wrap64 ((rd t488 (ji48)) + (rd t491 x61_3))) < (l0.length : Int)) = false := decide_eq_false c69
                         clear c69
                         have H' := Aside0.mk H
                         clear H
                         go_wp2
                         repeat (go_quiet (fail); try go_wp2)
                         go_roundg kj52
                         case measure => have := HJ8.out; have := HJ18.out; have := HK3.out; have := HJ33.out; have := HJ52.out; omega
                         case rel => exact ⟨(wrap64 (x61_3 + 1)), (by first | rfl | (simp; done) | (simp [*]; done)), H', ⟨by have := HJ8.out; have := HJ18.out; have := HK3.out; have := HJ33.out; have := HJ52.out; omega⟩, ⟨by (with_reducible repeat (first | apply Kd.S_alloc | apply Kd.S_drewN | apply Kd.S_drew)); exact HO_3.out⟩, ⟨by (with_reducible repeat (first | apply Kd.R_alloc | apply Kd.R_drewN | apply Kd.R_drew)); exact HO_5.out⟩, ⟨by (with_reducible repeat (first | apply Kd.R_alloc | apply Kd.R_drewN | apply Kd.R_drew)); exact HO_6.out⟩, ⟨by repeat (first | (with_reducible first | exact HB.out | apply below_alloc | apply pw_below_drewN | apply below_drew1) | exact HB.out)⟩⟩
                    ·rw [if_neg c52] at H
                     exact absurd H (by simp)
                   ·rw [if_neg c51] at H
                    exact absurd H (by simp)
                  ·rw [if_neg c50] at H
                   exact absurd H (by simp)
                 ·rw [if_neg c49] at H
                  exact absurd H (by simp)
            ·rw [if_neg c31] at H
             exact absurd H (by simp)
           ·rw [if_neg c30] at H
            exact absurd H (by simp)
          ·rw [if_neg c29] at H
           have c29b0 : decide (x61_3 < (t488.length : Int)) = false := decide_eq_false c29
           clear c29
           replace H := Option.bind_eq_some_iff.mp H
           obtain ⟨t494, A770, H⟩ := H
           replace H : (some t494) = some r := H
           have A77 := Aside0.mk A770
           clear A770
           obtain rfl := Option.some.inj H
           go_wp2_with (first | (go_at_call 15; (with_reducible refine (sapperlaw13_lives.calls k3  t494 _ A77.out).mono ?_); rintro e w78 ⟨rfl, hb⟩; have n0_ := Aside0.mk (Kd.S_below (by (with_reducible repeat (first | apply Kd.S_alloc | apply Kd.S_drewN | apply Kd.S_drew)); exact HO_3.out) hb); have n1_ := Aside0.mk (Kd.R_below (by (with_reducible repeat (first | apply Kd.R_alloc | apply Kd.R_drewN | apply Kd.R_drew)); exact HO_5.out) hb); have n2_ := Aside0.mk (Kd.R_below (by (with_reducible repeat (first | apply Kd.R_alloc | apply Kd.R_drewN | apply Kd.R_drew)); exact HO_6.out) hb); have n3_ := Aside0.mk (below_step (by repeat (first | (with_reducible first | exact HB.out | apply below_alloc | apply pw_below_drewN | apply below_drew1) | exact HB.out)) hb); clear HO_3; clear HO_5; clear HO_6; clear HB; have HO_3 := n0_; have HO_5 := n1_; have HO_6 := n2_; have HB := n3_; clear n0_ n1_ n2_ n3_; (try clear hb); (try clear hb2); (try clear hk); (try clear hi)))
           repeat (go_quiet (first | (go_at_call 15; (with_reducible refine (sapperlaw13_lives.calls k3  t494 _ A77.out).mono ?_); rintro e w78 ⟨rfl, hb⟩; have n0_ := Aside0.mk (Kd.S_below (by (with_reducible repeat (first | apply Kd.S_alloc | apply Kd.S_drewN | apply Kd.S_drew)); exact HO_3.out) hb); have n1_ := Aside0.mk (Kd.R_below (by (with_reducible repeat (first | apply Kd.R_alloc | apply Kd.R_drewN | apply Kd.R_drew)); exact HO_5.out) hb); have n2_ := Aside0.mk (Kd.R_below (by (with_reducible repeat (first | apply Kd.R_alloc | apply Kd.R_drewN | apply Kd.R_drew)); exact HO_6.out) hb); have n3_ := Aside0.mk (below_step (by repeat (first | (with_reducible first | exact HB.out | apply below_alloc | apply pw_below_drewN | apply below_drew1) | exact HB.out)) hb); clear HO_3; clear HO_5; clear HO_6; clear HB; have HO_3 := n0_; have HO_5 := n1_; have HO_6 := n2_; have HB := n3_; clear n0_ n1_ n2_ n3_; (try clear hb); (try clear hb2); (try clear hk); (try clear hi))); try go_wp2_with (first | (go_at_call 15; (with_reducible refine (sapperlaw13_lives.calls k3  t494 _ A77.out).mono ?_); rintro e w78 ⟨rfl, hb⟩; have n0_ := Aside0.mk (Kd.S_below (by (with_reducible repeat (first | apply Kd.S_alloc | apply Kd.S_drewN | apply Kd.S_drew)); exact HO_3.out) hb); have n1_ := Aside0.mk (Kd.R_below (by (with_reducible repeat (first | apply Kd.R_alloc | apply Kd.R_drewN | apply Kd.R_drew)); exact HO_5.out) hb); have n2_ := Aside0.mk (Kd.R_below (by (with_reducible repeat (first | apply Kd.R_alloc | apply Kd.R_drewN | apply Kd.R_drew)); exact HO_6.out) hb); have n3_ := Aside0.mk (below_step (by repeat (first | (with_reducible first | exact HB.out | apply below_alloc | apply pw_below_drewN | apply below_drew1) | exact HB.out)) hb); clear HO_3; clear HO_5; clear HO_6; clear HB; have HO_3 := n0_; have HO_5 := n1_; have HO_6 := n2_; have HB := n3_; clear n0_ n1_ n2_ n3_; (try clear hb); (try clear hb2); (try clear hk); (try clear hi))))
           go_ret
           exact ⟨by first | rfl | (simp [errW_none, errW_some] <;> rfl) | (simp [*, errW_none, errW_some] <;> rfl), by repeat (first | (with_reducible first | exact HB.out | apply below_alloc | apply pw_below_drewN | apply below_drew1) | exact HB.out)⟩

/-- THE ONE PURE STATEMENT of sapperlaw13_SuffixOrders: yours. -/
def sapperlaw13_SuffixOrders.Pure : Prop := ∀ (l0 : List Int), l0.length ≤ maxLen → l0.length * 1 ≤ 140737488351232 → (∀ x ∈ l0, (Lit.int .u8 x).wf = true) → ∃ k, sapperlaw13_SuffixOrders.f k l0 = some true
theorem sapperlaw13_SuffixOrders.walk (P : sapperlaw13_SuffixOrders.Pure) (a0 : Option Addr) (len0 cap0 : Nat) (z0 : List Int) (w : World) (w0 : (a0 = none ∧ len0 = 0 ∧ cap0 = 0 ∧ z0 = []) ∨ ∃ x, a0 = some x ∧ len0 ≤ cap0 ∧ cap0 ≤ maxLen ∧ z0.length = cap0 ∧ (∀ i, i < z0.length → w.cell? (x.add i) = some (.int .u8 (z0.getD i 0))) ∧ ∀ n ∈ z0, (Lit.int .u8 n).wf = true) (y0 : len0 * 1 ≤ 140737488351232) :
  Calls Try.prog 8 #[.slice a0 len0 cap0] w fun e w' => e = .returned (.bool true) ∧ Below w.heap.size w w' := by
 obtain ⟨l0, rfl, hr0, hm0, hw0, hc0⟩ := ReadsInt.ofRowC w0
 obtain ⟨k, h⟩ := P l0 hm0 y0 hw0
 refine (sapperlaw13_SuffixOrders.calls k _ _ l0 true w (Kd.C_of_reads (d := (0 : Int)) (h1 := fun _ => rfl) hr0) hc0 h).mono ?_
 rintro e w' ⟨rfl, hd⟩
 exact ⟨rfl, hd⟩

end Go.Proofs.Ythcnnfahlhklgaa.X
