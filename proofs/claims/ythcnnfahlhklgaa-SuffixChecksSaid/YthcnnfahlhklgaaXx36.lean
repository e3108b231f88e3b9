-- Printed by wip/xprint.py of this repo (a wrapper of the session's own round the print).
import Derived.Test.YthcnnfahlhklgaaXx0
import Derived.Test.YthcnnfahlhklgaaXx16
import Derived.Test.YthcnnfahlhklgaaXx17
import Derived.Test.YthcnnfahlhklgaaXx18
import Derived.Test.YthcnnfahlhklgaaXx19
import Derived.Test.YthcnnfahlhklgaaXx28
import Derived.Test.YthcnnfahlhklgaaXx29
import Derived.Test.YthcnnfahlhklgaaXx30
import Derived.Test.YthcnnfahlhklgaaXx31
import Derived.Test.YthcnnfahlhklgaaXx32
import Derived.Test.YthcnnfahlhklgaaXx34
import Derived.Test.YthcnnfahlhklgaaXx35
namespace Go.Proofs.Ythcnnfahlhklgaa.X
open Go.RowKit Go.Proofs.YthcnnfahlhklgaaW.PrintWords Go.Proofs.YthcnnfahlhklgaaW.PrintLast Go.Proofs.YthcnnfahlhklgaaW.PrintMore
attribute [local go_sem] ptrOf_eql ptrOf_neq ptrOf_eqg ptrOf_neg str_leq str_geq str_gtr max2_int min2_int max_two min_two max_three min_three max_four min_four   -- for this text's walks alone
set_option linter.unusedVariables false
set_option linter.unusedSimpArgs false

/-! ### sapperlaw13_SuffixChecks: function 7 -/
mutual
def sapperlaw13_SuffixChecks.j0 : Nat → List Int → List Int → Int → List (S82) → Bool → Option (Bool)
 | 0, _, _, _, _, _ => none
 | k + 1, x0, x5, x11, x12, x91 => if x91 = true then (some false) else (sapperlaw13_SuffixChecks.l0 k x0 x5 x11 x12 (x5.length : Int) 0)
def sapperlaw13_SuffixChecks.l0 : Nat → List Int → List Int → Int → List (S82) → Int → Int → Option (Bool)
 | 0, _, _, _, _, _, _ => none
 | k + 1, x0, x5, x11, x12, x93, x94 => if x94 < x93 then (if 0 ≤ x94 then (if x94 < (x5.length : Int) then (sapperlaw13_SuffixChecks.l0 k x0 (x5.set (x94 : Int).toNat 0) x11 x12 x93 (wrap64 (x94 + 1))) else (none)) else (none)) else (if x11 = 0 then ((suffix_Index_Array.f x12).bind fun t453 => ((sapperref13_Array.f k x0).bind fun t456 => ((sapperlaw13_same.f k t453 t456).bind fun t459 => (if t459 = true then ((suffix_Index_Lcp.f x12).bind fun t460 => ((sapperref13_Lcp.f k x0).bind fun t463 => ((sapperlaw13_same.f k t460 t463).bind fun t466 => (if t466 = true then ((sapperlaw13_lives.f k).bind fun t467 => (some t467)) else (some false))))) else (some false))))) else ((sapperlaw13_lives.f k).bind fun t468 => (some t468)))
end
def sapperlaw13_SuffixChecks.f (k : Nat) (l0 : List Int) (l1 : List Int) : Option (Bool) := (some (([] : List Int) : List Int)).bind fun y410 => (if y410.length + l1.length < 17592186044416 then ((some (y410 ++ l1 : List Int)).bind fun y413 => ((some (([71, 72] : List Int) : List Int)).bind fun y416 => (if y413.length + y416.length < 17592186044416 then ((some (y413 ++ y416 : List Int)).bind fun y419 => ((sapperref01_Lend.f l0).bind fun t422 => (if 0 ≤ (l0.length : Int) then (if (l0.length : Int) ≤ (t422.length : Int) then ((some (t422.take ((l0.length : Int) : Int).toNat : List Int)).bind fun y425 => (if 0 ≤ (l1.length : Int) then (if (l1.length : Int) ≤ (y419.length : Int) then ((suffix_Check.f k y425 (y419.take ((l1.length : Int) : Int).toNat)).bind fun bt433 => ((sapperref13_Check.f k l0 l1).bind fun bt435 => ((suffix_Load.f k y425 (y419.take ((l1.length : Int) : Int).toNat)).bind fun bt441 => (if bt433.1 = bt435.1 then (if bt433.2 = bt435.2 then (if bt441.2 = bt435.2 then (if (((bt441.1.length : Int) == 0) != (bt435.2 != 0)) = true then (sapperlaw13_SuffixChecks.j0 k l0 y419 bt435.2 bt441.1 true) else ((sapperlaw13_same.f k (y419.take ((l1.length : Int) : Int).toNat) l1).bind fun t449 => (if t449 = true then (if (l1.length : Int) < (y419.length : Int) then (if (rd y419 (l1.length : Int)) = 71 then ((sapperref01_Kept.f t422 l0).bind fun t451 => (sapperlaw13_SuffixChecks.j0 k l0 y419 bt435.2 bt441.1 (!t451))) else (sapperlaw13_SuffixChecks.j0 k l0 y419 bt435.2 bt441.1 true)) else (none)) else (sapperlaw13_SuffixChecks.j0 k l0 y419 bt435.2 bt441.1 true)))) else (sapperlaw13_SuffixChecks.j0 k l0 y419 bt435.2 bt441.1 true)) else (sapperlaw13_SuffixChecks.j0 k l0 y419 bt435.2 bt441.1 true)) else (sapperlaw13_SuffixChecks.j0 k l0 y419 bt435.2 bt441.1 true))))) else (none)) else (none))) else (none)) else (none)))) else (none)))) else (none))
theorem sapperlaw13_SuffixChecks.mono_l : ∀ k, (∀ y0 y1 y2 y3 y4, LeO (sapperlaw13_SuffixChecks.j0 k y0 y1 y2 y3 y4) (sapperlaw13_SuffixChecks.j0 (k + 1) y0 y1 y2 y3 y4)) ∧ (∀ y0 y1 y2 y3 y4 y5, LeO (sapperlaw13_SuffixChecks.l0 k y0 y1 y2 y3 y4 y5) (sapperlaw13_SuffixChecks.l0 (k + 1) y0 y1 y2 y3 y4 y5))
 | 0 => ⟨fun _ _ _ _ _ r h => by simp [sapperlaw13_SuffixChecks.j0] at h, fun _ _ _ _ _ _ r h => by simp [sapperlaw13_SuffixChecks.l0] at h⟩
 | k + 1 => by
  obtain ⟨ih0, ih1⟩ := sapperlaw13_SuffixChecks.mono_l k
  refine ⟨?_, ?_⟩
  ·intro y0 y1 y2 y3 y4
   unfold sapperlaw13_SuffixChecks.j0
   repeat' first
   | (with_reducible exact ih0 _ _ _ _ _)
   | (with_reducible exact ih1 _ _ _ _ _ _)
   | (with_reducible exact sapperlaw13_lives.mono _)
   | (with_reducible exact sapperlaw13_same.mono _ _ _)
   | (with_reducible exact sapperref13_Array.mono _ _)
   | (with_reducible exact sapperref13_Check.mono _ _ _)
   | (with_reducible exact sapperref13_Lcp.mono _ _)
   | (with_reducible exact suffix_Check.mono _ _ _)
   | (with_reducible exact suffix_Load.mono _ _ _)
   | (with_reducible exact LeO.refl _)
   | (with_reducible exact LeO.none _)
   | (with_reducible refine LeO.ite ?_ ?_)
   | (with_reducible refine LeO.bind ?_ (fun _ => ?_))
   | exact ih0 _ _ _ _ _
   | exact ih1 _ _ _ _ _ _
   | exact sapperlaw13_lives.mono _
   | exact sapperlaw13_same.mono _ _ _
   | exact sapperref13_Array.mono _ _
   | exact sapperref13_Check.mono _ _ _
   | exact sapperref13_Lcp.mono _ _
   | exact suffix_Check.mono _ _ _
   | exact suffix_Load.mono _ _ _
   | exact LeO.none _
   | refine LeO.ite ?_ ?_
   | refine LeO.bind ?_ (fun _ => ?_)
  ·intro y0 y1 y2 y3 y4 y5
   unfold sapperlaw13_SuffixChecks.l0
   repeat' first
   | (with_reducible exact ih0 _ _ _ _ _)
   | (with_reducible exact ih1 _ _ _ _ _ _)
   | (with_reducible exact sapperlaw13_lives.mono _)
   | (with_reducible exact sapperlaw13_same.mono _ _ _)
   | (with_reducible exact sapperref13_Array.mono _ _)
   | (with_reducible exact sapperref13_Check.mono _ _ _)
   | (with_reducible exact sapperref13_Lcp.mono _ _)
   | (with_reducible exact suffix_Check.mono _ _ _)
   | (with_reducible exact suffix_Load.mono _ _ _)
   | (with_reducible exact LeO.refl _)
   | (with_reducible exact LeO.none _)
   | (with_reducible refine LeO.ite ?_ ?_)
   | (with_reducible refine LeO.bind ?_ (fun _ => ?_))
   | exact ih0 _ _ _ _ _
   | exact ih1 _ _ _ _ _ _
   | exact sapperlaw13_lives.mono _
   | exact sapperlaw13_same.mono _ _ _
   | exact sapperref13_Array.mono _ _
   | exact sapperref13_Check.mono _ _ _
   | exact sapperref13_Lcp.mono _ _
   | exact suffix_Check.mono _ _ _
   | exact suffix_Load.mono _ _ _
   | exact LeO.none _
   | refine LeO.ite ?_ ?_
   | refine LeO.bind ?_ (fun _ => ?_)
theorem sapperlaw13_SuffixChecks.mono : ∀ a0 a1 k, LeO (sapperlaw13_SuffixChecks.f k a0 a1) (sapperlaw13_SuffixChecks.f (k + 1) a0 a1) := by
 intro a0 a1 k
 obtain ⟨ih0, ih1⟩ := sapperlaw13_SuffixChecks.mono_l k
 unfold sapperlaw13_SuffixChecks.f
 repeat' first
   | (with_reducible exact ih0 _ _ _ _ _)
   | (with_reducible exact ih1 _ _ _ _ _ _)
   | (with_reducible exact sapperlaw13_lives.mono _)
   | (with_reducible exact sapperlaw13_same.mono _ _ _)
   | (with_reducible exact sapperref13_Array.mono _ _)
   | (with_reducible exact sapperref13_Check.mono _ _ _)
   | (with_reducible exact sapperref13_Lcp.mono _ _)
   | (with_reducible exact suffix_Check.mono _ _ _)
   | (with_reducible exact suffix_Load.mono _ _ _)
   | (with_reducible exact LeO.refl _)
   | (with_reducible exact LeO.none _)
   | (with_reducible refine LeO.ite ?_ ?_)
   | (with_reducible refine LeO.bind ?_ (fun _ => ?_))
   | exact ih0 _ _ _ _ _
   | exact ih1 _ _ _ _ _ _
   | exact sapperlaw13_lives.mono _
   | exact sapperlaw13_same.mono _ _ _
   | exact sapperref13_Array.mono _ _
   | exact sapperref13_Check.mono _ _ _
   | exact sapperref13_Lcp.mono _ _
   | exact suffix_Check.mono _ _ _
   | exact suffix_Load.mono _ _ _
   | exact LeO.none _
   | refine LeO.ite ?_ ?_
   | refine LeO.bind ?_ (fun _ => ?_)
set_option maxHeartbeats 8000000 in
set_option maxRecDepth 100000 in
theorem sapperlaw13_SuffixChecks.calls (k : Nat) (A0 : Option Addr) (c0 : Nat) (l0 : List Int) (A1 : Option Addr) (c1 : Nat) (l1 : List Int) (r : Bool) (w : World) (hr0 : Kd.C (Kd.int .u8) w A0 l0.length l0) (hc0 : l0.length ≤ c0) (hr1 : Kd.C (Kd.int .i64) w A1 l1.length l1) (hc1 : l1.length ≤ c1) (h : sapperlaw13_SuffixChecks.f k l0 l1 = some r) :
  Calls Try.prog 7 #[.slice A0 l0.length c0, .slice A1 l1.length c1] w fun e w' => e = .returned (.bool r) ∧ Below w.heap.size w w' := by
 have HR0 := Aside0.mk hr0
 have HC0 := Aside0.mk hc0
 clear hr0 hc0
 have HR1 := Aside0.mk hr1
 have HC1 := Aside0.mk hc1
 clear hr1 hc1
 have HB := Aside0.mk (Below.refl w.heap.size w)
 have H : ((some (([] : List Int) : List Int)).bind fun y410 => (if y410.length + l1.length < 17592186044416 then ((some (y410 ++ l1 : List Int)).bind fun y413 => ((some (([71, 72] : List Int) : List Int)).bind fun y416 => (if y413.length + y416.length < 17592186044416 then ((some (y413 ++ y416 : List Int)).bind fun y419 => ((sapperref01_Lend.f l0).bind fun t422 => (if 0 ≤ (l0.length : Int) then (if (l0.length : Int) ≤ (t422.length : Int) then ((some (t422.take ((l0.length : Int) : Int).toNat : List Int)).bind fun y425 => (if 0 ≤ (l1.length : Int) then (if (l1.length : Int) ≤ (y419.length : Int) then ((suffix_Check.f k y425 (y419.take ((l1.length : Int) : Int).toNat)).bind fun bt433 => ((sapperref13_Check.f k l0 l1).bind fun bt435 => ((suffix_Load.f k y425 (y419.take ((l1.length : Int) : Int).toNat)).bind fun bt441 => (if bt433.1 = bt435.1 then (if bt433.2 = bt435.2 then (if bt441.2 = bt435.2 then (if (((bt441.1.length : Int) == 0) != (bt435.2 != 0)) = true then (sapperlaw13_SuffixChecks.j0 k l0 y419 bt435.2 bt441.1 true) else ((sapperlaw13_same.f k (y419.take ((l1.length : Int) : Int).toNat) l1).bind fun t449 => (if t449 = true then (if (l1.length : Int) < (y419.length : Int) then (if (rd y419 (l1.length : Int)) = 71 then ((sapperref01_Kept.f t422 l0).bind fun t451 => (sapperlaw13_SuffixChecks.j0 k l0 y419 bt435.2 bt441.1 (!t451))) else (sapperlaw13_SuffixChecks.j0 k l0 y419 bt435.2 bt441.1 true)) else (none)) else (sapperlaw13_SuffixChecks.j0 k l0 y419 bt435.2 bt441.1 true)))) else (sapperlaw13_SuffixChecks.j0 k l0 y419 bt435.2 bt441.1 true)) else (sapperlaw13_SuffixChecks.j0 k l0 y419 bt435.2 bt441.1 true)) else (sapperlaw13_SuffixChecks.j0 k l0 y419 bt435.2 bt441.1 true))))) else (none)) else (none))) else (none)) else (none)))) else (none)))) else (none))) = some r := h
 clear h
 obtain ⟨y410, hy410⟩ : ∃ y_ : List Int, y_ = (([] : List Int)) := ⟨_, rfl⟩
 replace H : (if y410.length + l1.length < 17592186044416 then ((some (y410 ++ l1 : List Int)).bind fun y413 => ((some (([71, 72] : List Int) : List Int)).bind fun y416 => (if y413.length + y416.length < 17592186044416 then ((some (y413 ++ y416 : List Int)).bind fun y419 => ((sapperref01_Lend.f l0).bind fun t422 => (if 0 ≤ (l0.length : Int) then (if (l0.length : Int) ≤ (t422.length : Int) then ((some (t422.take ((l0.length : Int) : Int).toNat : List Int)).bind fun y425 => (if 0 ≤ (l1.length : Int) then (if (l1.length : Int) ≤ (y419.length : Int) then ((suffix_Check.f k y425 (y419.take ((l1.length : Int) : Int).toNat)).bind fun bt433 => ((sapperref13_Check.f k l0 l1).bind fun bt435 => ((suffix_Load.f k y425 (y419.take ((l1.length : Int) : Int).toNat)).bind fun bt441 => (if bt433.1 = bt435.1 then (if bt433.2 = bt435.2 then (if bt441.2 = bt435.2 then (if (((bt441.1.length : Int) == 0) != (bt435.2 != 0)) = true then (sapperlaw13_SuffixChecks.j0 k l0 y419 bt435.2 bt441.1 true) else ((sapperlaw13_same.f k (y419.take ((l1.length : Int) : Int).toNat) l1).bind fun t449 => (if t449 = true then (if (l1.length : Int) < (y419.length : Int) then (if (rd y419 (l1.length : Int)) = 71 then ((sapperref01_Kept.f t422 l0).bind fun t451 => (sapperlaw13_SuffixChecks.j0 k l0 y419 bt435.2 bt441.1 (!t451))) else (sapperlaw13_SuffixChecks.j0 k l0 y419 bt435.2 bt441.1 true)) else (none)) else (sapperlaw13_SuffixChecks.j0 k l0 y419 bt435.2 bt441.1 true)))) else (sapperlaw13_SuffixChecks.j0 k l0 y419 bt435.2 bt441.1 true)) else (sapperlaw13_SuffixChecks.j0 k l0 y419 bt435.2 bt441.1 true)) else (sapperlaw13_SuffixChecks.j0 k l0 y419 bt435.2 bt441.1 true))))) else (none)) else (none))) else (none)) else (none)))) else (none)))) else (none)) = some r := by first | (rw [hy410]; with_reducible exact H) | (have H2_ := (Option.bind_some _ _).symm.trans H; rw [hy410]; with_reducible exact H2_) | (have H2_ := (Option.bind_some _ _).symm.trans H; with_reducible exact H2_) | with_reducible exact H | (rw [hy410]; exact H) | exact H
 have Ny410 := Aside0.mk hy410
 clear hy410
 by_cases c3 : y410.length + l1.length < 17592186044416
 ·rw [if_pos c3] at H
  have LMc3 := Aside0.mk c3
  clear c3
  obtain ⟨y413, hy413⟩ : ∃ y_ : List Int, y_ = (y410 ++ l1) := ⟨_, rfl⟩
  replace H : ((some (([71, 72] : List Int) : List Int)).bind fun y416 => (if y413.length + y416.length < 17592186044416 then ((some (y413 ++ y416 : List Int)).bind fun y419 => ((sapperref01_Lend.f l0).bind fun t422 => (if 0 ≤ (l0.length : Int) then (if (l0.length : Int) ≤ (t422.length : Int) then ((some (t422.take ((l0.length : Int) : Int).toNat : List Int)).bind fun y425 => (if 0 ≤ (l1.length : Int) then (if (l1.length : Int) ≤ (y419.length : Int) then ((suffix_Check.f k y425 (y419.take ((l1.length : Int) : Int).toNat)).bind fun bt433 => ((sapperref13_Check.f k l0 l1).bind fun bt435 => ((suffix_Load.f k y425 (y419.take ((l1.length : Int) : Int).toNat)).bind fun bt441 => (if bt433.1 = bt435.1 then (if bt433.2 = bt435.2 then (if bt441.2 = bt435.2 then (if (((bt441.1.length : Int) == 0) != (bt435.2 != 0)) = true then (sapperlaw13_SuffixChecks.j0 k l0 y419 bt435.2 bt441.1 true) else ((sapperlaw13_same.f k (y419.take ((l1.length : Int) : Int).toNat) l1).bind fun t449 => (if t449 = true then (if (l1.length : Int) < (y419.length : Int) then (if (rd y419 (l1.length : Int)) = 71 then ((sapperref01_Kept.f t422 l0).bind fun t451 => (sapperlaw13_SuffixChecks.j0 k l0 y419 bt435.2 bt441.1 (!t451))) else (sapperlaw13_SuffixChecks.j0 k l0 y419 bt435.2 bt441.1 true)) else (none)) else (sapperlaw13_SuffixChecks.j0 k l0 y419 bt435.2 bt441.1 true)))) else (sapperlaw13_SuffixChecks.j0 k l0 y419 bt435.2 bt441.1 true)) else (sapperlaw13_SuffixChecks.j0 k l0 y419 bt435.2 bt441.1 true)) else (sapperlaw13_SuffixChecks.j0 k l0 y419 bt435.2 bt441.1 true))))) else (none)) else (none))) else (none)) else (none)))) else (none))) = some r := by first | (rw [hy413]; with_reducible exact H) | (have H2_ := (Option.bind_some _ _).symm.trans H; rw [hy413]; with_reducible exact H2_) | (have H2_ := (Option.bind_some _ _).symm.trans H; with_reducible exact H2_) | with_reducible exact H | (rw [hy413]; exact H) | exact H
  have Ny413 := Aside0.mk hy413
  clear hy413
  obtain ⟨y416, hy416⟩ : ∃ y_ : List Int, y_ = (([71, 72] : List Int)) := ⟨_, rfl⟩
  replace H : (if y413.length + y416.length < 17592186044416 then ((some (y413 ++ y416 : List Int)).bind fun y419 => ((sapperref01_Lend.f l0).bind fun t422 => (if 0 ≤ (l0.length : Int) then (if (l0.length : Int) ≤ (t422.length : Int) then ((some (t422.take ((l0.length : Int) : Int).toNat : List Int)).bind fun y425 => (if 0 ≤ (l1.length : Int) then (if (l1.length : Int) ≤ (y419.length : Int) then ((suffix_Check.f k y425 (y419.take ((l1.length : Int) : Int).toNat)).bind fun bt433 => ((sapperref13_Check.f k l0 l1).bind fun bt435 => ((suffix_Load.f k y425 (y419.take ((l1.length : Int) : Int).toNat)).bind fun bt441 => (if bt433.1 = bt435.1 then (if bt433.2 = bt435.2 then (if bt441.2 = bt435.2 then (if (((bt441.1.length : Int) == 0) != (bt435.2 != 0)) = true then (sapperlaw13_SuffixChecks.j0 k l0 y419 bt435.2 bt441.1 true) else ((sapperlaw13_same.f k (y419.take ((l1.length : Int) : Int).toNat) l1).bind fun t449 => (if t449 = true then (if (l1.length : Int) < (y419.length : Int) then (if (rd y419 (l1.length : Int)) = 71 then ((sapperref01_Kept.f t422 l0).bind fun t451 => (sapperlaw13_SuffixChecks.j0 k l0 y419 bt435.2 bt441.1 (!t451))) else (sapperlaw13_SuffixChecks.j0 k l0 y419 bt435.2 bt441.1 true)) else (none)) else (sapperlaw13_SuffixChecks.j0 k l0 y419 bt435.2 bt441.1 true)))) else (sapperlaw13_SuffixChecks.j0 k l0 y419 bt435.2 bt441.1 true)) else (sapperlaw13_SuffixChecks.j0 k l0 y419 bt435.2 bt441.1 true)) else (sapperlaw13_SuffixChecks.j0 k l0 y419 bt435.2 bt441.1 true))))) else (none)) else (none))) else (none)) else (none)))) else (none)) = some r := by first | (rw [hy416]; with_reducible exact H) | (have H2_ := (Option.bind_some _ _).symm.trans H; rw [hy416]; with_reducible exact H2_) | (have H2_ := (Option.bind_some _ _).symm.trans H; with_reducible exact H2_) | with_reducible exact H | (rw [hy416]; exact H) | exact H
  have Ny416 := Aside0.mk hy416
  clear hy416
  by_cases c4 : y413.length + y416.length < 17592186044416
  ·rw [if_pos c4] at H
   have LMc4 := Aside0.mk c4
   clear c4
   obtain ⟨y419, hy419⟩ : ∃ y_ : List Int, y_ = (y413 ++ y416) := ⟨_, rfl⟩
   replace H : ((sapperref01_Lend.f l0).bind fun t422 => (if 0 ≤ (l0.length : Int) then (if (l0.length : Int) ≤ (t422.length : Int) then ((some (t422.take ((l0.length : Int) : Int).toNat : List Int)).bind fun y425 => (if 0 ≤ (l1.length : Int) then (if (l1.length : Int) ≤ (y419.length : Int) then ((suffix_Check.f k y425 (y419.take ((l1.length : Int) : Int).toNat)).bind fun bt433 => ((sapperref13_Check.f k l0 l1).bind fun bt435 => ((suffix_Load.f k y425 (y419.take ((l1.length : Int) : Int).toNat)).bind fun bt441 => (if bt433.1 = bt435.1 then (if bt433.2 = bt435.2 then (if bt441.2 = bt435.2 then (if (((bt441.1.length : Int) == 0) != (bt435.2 != 0)) = true then (sapperlaw13_SuffixChecks.j0 k l0 y419 bt435.2 bt441.1 true) else ((sapperlaw13_same.f k (y419.take ((l1.length : Int) : Int).toNat) l1).bind fun t449 => (if t449 = true then (if (l1.length : Int) < (y419.length : Int) then (if (rd y419 (l1.length : Int)) = 71 then ((sapperref01_Kept.f t422 l0).bind fun t451 => (sapperlaw13_SuffixChecks.j0 k l0 y419 bt435.2 bt441.1 (!t451))) else (sapperlaw13_SuffixChecks.j0 k l0 y419 bt435.2 bt441.1 true)) else (none)) else (sapperlaw13_SuffixChecks.j0 k l0 y419 bt435.2 bt441.1 true)))) else (sapperlaw13_SuffixChecks.j0 k l0 y419 bt435.2 bt441.1 true)) else (sapperlaw13_SuffixChecks.j0 k l0 y419 bt435.2 bt441.1 true)) else (sapperlaw13_SuffixChecks.j0 k l0 y419 bt435.2 bt441.1 true))))) else (none)) else (none))) else (none)) else (none))) = some r := by first | (rw [hy419]; with_reducible exact H) | (have H2_ := (Option.bind_some _ _).symm.trans H; rw [hy419]; with_reducible exact H2_) | (have H2_ := (Option.bind_some _ _).symm.trans H; with_reducible exact H2_) | with_reducible exact H | (rw [hy419]; exact H) | exact H
   have Ny419 := Aside0.mk hy419
   clear hy419
   replace H := Option.bind_eq_some_iff.mp H
   obtain ⟨t422, A50, H⟩ := H
   replace H : (if 0 ≤ (l0.length : Int) then (if (l0.length : Int) ≤ (t422.length : Int) then ((some (t422.take ((l0.length : Int) : Int).toNat : List Int)).bind fun y425 => (if 0 ≤ (l1.length : Int) then (if (l1.length : Int) ≤ (y419.length : Int) then ((suffix_Check.f k y425 (y419.take ((l1.length : Int) : Int).toNat)).bind fun bt433 => ((sapperref13_Check.f k l0 l1).bind fun bt435 => ((suffix_Load.f k y425 (y419.take ((l1.length : Int) : Int).toNat)).bind fun bt441 => (if bt433.1 = bt435.1 then (if bt433.2 = bt435.2 then (if bt441.2 = bt435.2 then (if (((bt441.1.length : Int) == 0) != (bt435.2 != 0)) = true then (sapperlaw13_SuffixChecks.j0 k l0 y419 bt435.2 bt441.1 true) else ((sapperlaw13_same.f k (y419.take ((l1.length : Int) : Int).toNat) l1).bind fun t449 => (if t449 = true then (if (l1.length : Int) < (y419.length : Int) then (if (rd y419 (l1.length : Int)) = 71 then ((sapperref01_Kept.f t422 l0).bind fun t451 => (sapperlaw13_SuffixChecks.j0 k l0 y419 bt435.2 bt441.1 (!t451))) else (sapperlaw13_SuffixChecks.j0 k l0 y419 bt435.2 bt441.1 true)) else (none)) else (sapperlaw13_SuffixChecks.j0 k l0 y419 bt435.2 bt441.1 true)))) else (sapperlaw13_SuffixChecks.j0 k l0 y419 bt435.2 bt441.1 true)) else (sapperlaw13_SuffixChecks.j0 k l0 y419 bt435.2 bt441.1 true)) else (sapperlaw13_SuffixChecks.j0 k l0 y419 bt435.2 bt441.1 true))))) else (none)) else (none))) else (none)) else (none)) = some r := H
   have A5 := Aside0.mk A50
   clear A50
   by_cases c6 : 0 ≤ (l0.length : Int)
   ·rw [if_pos c6] at H
    have c6b0 := eq_true c6
    have c6b1 : decide (0 ≤ (l0.length : Int)) = true := decide_eq_true c6
    clear c6
    by_cases c7 : (l0.length : Int) ≤ (t422.length : Int)
    ·rw [if_pos c7] at H
     have c7b0 := eq_true c7
     have c7b1 : decide ((l0.length : Int) ≤ (t422.length : Int)) = true := decide_eq_true c7
     clear c7
     obtain ⟨y425, hy425⟩ : ∃ y_ : List Int, y_ = (t422.take ((l0.length : Int) : Int).toNat) := ⟨_, rfl⟩
     replace H : (if 0 ≤ (l1.length : Int) then (if (l1.length : Int) ≤ (y419.length : Int) then ((suffix_Check.f k y425 (y419.take ((l1.length : Int) : Int).toNat)).bind fun bt433 => ((sapperref13_Check.f k l0 l1).bind fun bt435 => ((suffix_Load.f k y425 (y419.take ((l1.length : Int) : Int).toNat)).bind fun bt441 => (if bt433.1 = bt435.1 then (if bt433.2 = bt435.2 then (if bt441.2 = bt435.2 then (if (((bt441.1.length : Int) == 0) != (bt435.2 != 0)) = true then (sapperlaw13_SuffixChecks.j0 k l0 y419 bt435.2 bt441.1 true) else ((sapperlaw13_same.f k (y419.take ((l1.length : Int) : Int).toNat) l1).bind fun t449 => (if t449 = true then (if (l1.length : Int) < (y419.length : Int) then (if (rd y419 (l1.length : Int)) = 71 then ((sapperref01_Kept.f t422 l0).bind fun t451 => (sapperlaw13_SuffixChecks.j0 k l0 y419 bt435.2 bt441.1 (!t451))) else (sapperlaw13_SuffixChecks.j0 k l0 y419 bt435.2 bt441.1 true)) else (none)) else (sapperlaw13_SuffixChecks.j0 k l0 y419 bt435.2 bt441.1 true)))) else (sapperlaw13_SuffixChecks.j0 k l0 y419 bt435.2 bt441.1 true)) else (sapperlaw13_SuffixChecks.j0 k l0 y419 bt435.2 bt441.1 true)) else (sapperlaw13_SuffixChecks.j0 k l0 y419 bt435.2 bt441.1 true))))) else (none)) else (none)) = some r := by first | (rw [hy425]; with_reducible exact H) | (have H2_ := (Option.bind_some _ _).symm.trans H; rw [hy425]; with_reducible exact H2_) | (have H2_ := (Option.bind_some _ _).symm.trans H; with_reducible exact H2_) | with_reducible exact H | (rw [hy425]; exact H) | exact H
     have Ny425 := Aside0.mk hy425
     clear hy425
     by_cases c8 : 0 ≤ (l1.length : Int)
     ·rw [if_pos c8] at H
      have c8b0 := eq_true c8
      have c8b1 : decide (0 ≤ (l1.length : Int)) = true := decide_eq_true c8
      clear c8
      by_cases c9 : (l1.length : Int) ≤ (y419.length : Int)
      ·rw [if_pos c9] at H
       have c9b0 := eq_true c9
       have c9b1 : decide ((l1.length : Int) ≤ (y419.length : Int)) = true := decide_eq_true c9
       clear c9
       obtain ⟨y429, hy429⟩ : ∃ y_ : List Int, y_ = (y419.take ((l1.length : Int) : Int).toNat) := ⟨_, rfl⟩
       replace H : ((suffix_Check.f k y425 y429).bind fun bt433 => ((sapperref13_Check.f k l0 l1).bind fun bt435 => ((suffix_Load.f k y425 (y419.take ((l1.length : Int) : Int).toNat)).bind fun bt441 => (if bt433.1 = bt435.1 then (if bt433.2 = bt435.2 then (if bt441.2 = bt435.2 then (if (((bt441.1.length : Int) == 0) != (bt435.2 != 0)) = true then (sapperlaw13_SuffixChecks.j0 k l0 y419 bt435.2 bt441.1 true) else ((sapperlaw13_same.f k (y419.take ((l1.length : Int) : Int).toNat) l1).bind fun t449 => (if t449 = true then (if (l1.length : Int) < (y419.length : Int) then (if (rd y419 (l1.length : Int)) = 71 then ((sapperref01_Kept.f t422 l0).bind fun t451 => (sapperlaw13_SuffixChecks.j0 k l0 y419 bt435.2 bt441.1 (!t451))) else (sapperlaw13_SuffixChecks.j0 k l0 y419 bt435.2 bt441.1 true)) else (none)) else (sapperlaw13_SuffixChecks.j0 k l0 y419 bt435.2 bt441.1 true)))) else (sapperlaw13_SuffixChecks.j0 k l0 y419 bt435.2 bt441.1 true)) else (sapperlaw13_SuffixChecks.j0 k l0 y419 bt435.2 bt441.1 true)) else (sapperlaw13_SuffixChecks.j0 k l0 y419 bt435.2 bt441.1 true))))) = some r := by first | (rw [hy429]; with_reducible exact H) | (have H2_ := (Option.bind_some _ _).symm.trans H; rw [hy429]; with_reducible exact H2_) | (have H2_ := (Option.bind_some _ _).symm.trans H; with_reducible exact H2_) | with_reducible exact H | (rw [hy429]; exact H) | exact H
       have Ny429 := Aside0.mk hy429
       clear hy429
       replace H := Option.bind_eq_some_iff.mp H
       obtain ⟨⟨t433, t434⟩, A100, H⟩ := H
       replace H : ((sapperref13_Check.f k l0 l1).bind fun bt435 => ((suffix_Load.f k y425 (y419.take ((l1.length : Int) : Int).toNat)).bind fun bt441 => (if t433 = bt435.1 then (if t434 = bt435.2 then (if bt441.2 = bt435.2 then (if (((bt441.1.length : Int) == 0) != (bt435.2 != 0)) = true then (sapperlaw13_SuffixChecks.j0 k l0 y419 bt435.2 bt441.1 true) else ((sapperlaw13_same.f k (y419.take ((l1.length : Int) : Int).toNat) l1).bind fun t449 => (if t449 = true then (if (l1.length : Int) < (y419.length : Int) then (if (rd y419 (l1.length : Int)) = 71 then ((sapperref01_Kept.f t422 l0).bind fun t451 => (sapperlaw13_SuffixChecks.j0 k l0 y419 bt435.2 bt441.1 (!t451))) else (sapperlaw13_SuffixChecks.j0 k l0 y419 bt435.2 bt441.1 true)) else (none)) else (sapperlaw13_SuffixChecks.j0 k l0 y419 bt435.2 bt441.1 true)))) else (sapperlaw13_SuffixChecks.j0 k l0 y419 bt435.2 bt441.1 true)) else (sapperlaw13_SuffixChecks.j0 k l0 y419 bt435.2 bt441.1 true)) else (sapperlaw13_SuffixChecks.j0 k l0 y419 bt435.2 bt441.1 true)))) = some r := H
       have A10 := Aside0.mk A100
       clear A100
       replace H := Option.bind_eq_some_iff.mp H
       obtain ⟨⟨t435, t436⟩, A110, H⟩ := H
       replace H : ((suffix_Load.f k y425 (y419.take ((l1.length : Int) : Int).toNat)).bind fun bt441 => (if t433 = t435 then (if t434 = t436 then (if bt441.2 = t436 then (if (((bt441.1.length : Int) == 0) != (t436 != 0)) = true then (sapperlaw13_SuffixChecks.j0 k l0 y419 t436 bt441.1 true) else ((sapperlaw13_same.f k (y419.take ((l1.length : Int) : Int).toNat) l1).bind fun t449 => (if t449 = true then (if (l1.length : Int) < (y419.length : Int) then (if (rd y419 (l1.length : Int)) = 71 then ((sapperref01_Kept.f t422 l0).bind fun t451 => (sapperlaw13_SuffixChecks.j0 k l0 y419 t436 bt441.1 (!t451))) else (sapperlaw13_SuffixChecks.j0 k l0 y419 t436 bt441.1 true)) else (none)) else (sapperlaw13_SuffixChecks.j0 k l0 y419 t436 bt441.1 true)))) else (sapperlaw13_SuffixChecks.j0 k l0 y419 t436 bt441.1 true)) else (sapperlaw13_SuffixChecks.j0 k l0 y419 t436 bt441.1 true)) else (sapperlaw13_SuffixChecks.j0 k l0 y419 t436 bt441.1 true))) = some r := H
       have A11 := Aside0.mk A110
       clear A110
       have c12b0 := eq_true (of_decide_eq_true (by first | (with_reducible assumption) | assumption) : 0 ≤ (l1.length : Int))
       have c13b0 := eq_true (of_decide_eq_true (by first | (with_reducible assumption) | assumption) : (l1.length : Int) ≤ (y419.length : Int))
       replace H : ((suffix_Load.f k y425 y429).bind fun bt441 => (if t433 = t435 then (if t434 = t436 then (if bt441.2 = t436 then (if (((bt441.1.length : Int) == 0) != (t436 != 0)) = true then (sapperlaw13_SuffixChecks.j0 k l0 y419 t436 bt441.1 true) else ((sapperlaw13_same.f k (y419.take ((l1.length : Int) : Int).toNat) l1).bind fun t449 => (if t449 = true then (if (l1.length : Int) < (y419.length : Int) then (if (rd y419 (l1.length : Int)) = 71 then ((sapperref01_Kept.f t422 l0).bind fun t451 => (sapperlaw13_SuffixChecks.j0 k l0 y419 t436 bt441.1 (!t451))) else (sapperlaw13_SuffixChecks.j0 k l0 y419 t436 bt441.1 true)) else (none)) else (sapperlaw13_SuffixChecks.j0 k l0 y419 t436 bt441.1 true)))) else (sapperlaw13_SuffixChecks.j0 k l0 y419 t436 bt441.1 true)) else (sapperlaw13_SuffixChecks.j0 k l0 y419 t436 bt441.1 true)) else (sapperlaw13_SuffixChecks.j0 k l0 y419 t436 bt441.1 true))) = some r := by first | (rw [Ny429.out]; with_reducible exact H) | (have H2_ := (Option.bind_some _ _).symm.trans H; rw [Ny429.out]; with_reducible exact H2_) | (have H2_ := (Option.bind_some _ _).symm.trans H; with_reducible exact H2_) | with_reducible exact H | (rw [Ny429.out]; exact H) | exact H
       replace H := Option.bind_eq_some_iff.mp H
       obtain ⟨⟨t441, t442⟩, A140, H⟩ := H
       replace H : (if t433 = t435 then (if t434 = t436 then (if t442 = t436 then (if (((t441.length : Int) == 0) != (t436 != 0)) = true then (sapperlaw13_SuffixChecks.j0 k l0 y419 t436 t441 true) else ((sapperlaw13_same.f k (y419.take ((l1.length : Int) : Int).toNat) l1).bind fun t449 => (if t449 = true then (if (l1.length : Int) < (y419.length : Int) then (if (rd y419 (l1.length : Int)) = 71 then ((sapperref01_Kept.f t422 l0).bind fun t451 => (sapperlaw13_SuffixChecks.j0 k l0 y419 t436 t441 (!t451))) else (sapperlaw13_SuffixChecks.j0 k l0 y419 t436 t441 true)) else (none)) else (sapperlaw13_SuffixChecks.j0 k l0 y419 t436 t441 true)))) else (sapperlaw13_SuffixChecks.j0 k l0 y419 t436 t441 true)) else (sapperlaw13_SuffixChecks.j0 k l0 y419 t436 t441 true)) else (sapperlaw13_SuffixChecks.j0 k l0 y419 t436 t441 true)) = some r := H
       have A14 := Aside0.mk A140
       clear A140
       have HC15 := Aside0.mk H
       clear H
       go_enter Try.func7, Try.ntmps7
       go_upto_region 6 with (first | ((with_reducible refine gate_dst (N := 15) rfl ?_); (try (refine gate_guard (by rfl) ?_; dsimp only)); refine Kd.R_lit (Kd.int .i64) _ 3 ?hg (N := 15) ?hd (xs := ([] : List Int)) (inner := []) (ok := fun _ => True) (okp := fun _ => True) ?hr ?hp (fun _ hk => hk) trivial (Below.refl _ _) (Nat.le_refl _) (by simp) ?_; (case hd => rfl); (case hg => rfl); (case hr => first | (go_simp; done) | (go_simp; rfl)); (case hp => exact (Reps.none _ _)); intro v411 w16 ho17 hb hg_ hnew_; clear hg_ hnew_; (first | rw [← Ny410.out] at ho17 | (simp only [Int.reduceToNat] at ho17; rw [← Ny410.out] at ho17)); have n0_ := Aside0.mk (Kd.R_lower ho17 (below_size (by repeat (first | (with_reducible first | exact HB.out | apply below_alloc | apply pw_below_drewN | apply below_drew1) | exact HB.out)))); have n1_ := Aside0.mk (below_step (by repeat (first | (with_reducible first | exact HB.out | apply below_alloc | apply pw_below_drewN | apply below_drew1) | exact HB.out)) hb); clear HB; have HO412 := n0_; have HB := n1_; clear n0_ n1_; clear hb ho17) | ((with_reducible refine gate_builtin (b := .append) (xs := #[.tmp 15, .tmp 16]) rfl ?_); (try (refine gate_guard (by rfl) ?_; dsimp only)); at_builtin; refine Kd.R_append_rows (Kd.int .i64) (w0 := w) w.heap.size rfl (.tmp 15) (.tmp 16) 34 3 (.int .i64 0) 8 rfl Try.underlying34 info3 rfl (by decide) (by omega) v411 y410 l1 _ _ _ (fun _ => True) (fun _ => False) rfl rfl ?aO ?aR (fun _ _ h => h) (fun _ h => h.elim) ?aF ?aB ?aS ?aL ?_; (case aR => repeat (first | exact (Kd.C_below HR1.out HB.out) | (with_reducible refine Kd.C_alloc ?_ _) | (with_reducible refine Kd.C_drewN ?_ _) | (with_reducible refine Kd.C_drew ?_))); (case aB => exact (by repeat (first | (with_reducible first | exact HB.out | apply below_alloc | apply pw_below_drewN | apply below_drew1) | exact HB.out))); (case aF => exact (fun _ _ => trivial)); (case aO => exact (by (with_reducible repeat (first | apply Kd.R_alloc | apply Kd.R_drewN | apply Kd.R_drew)); exact HO412.out)); (case aS => exact (below_size (by repeat (first | (with_reducible first | exact HB.out | apply below_alloc | apply pw_below_drewN | apply below_drew1) | exact HB.out)))); (case aL => have := LMc3.out; omega); intro v414 w18 ho hb hg hat; rw [← Ny413.out] at ho; have n0_ := Aside0.mk (hb); have n1_ := Aside0.mk (ho); clear HB; clear HO412; have HB := n0_; have HO415 := n1_; clear n0_ n1_; clear ho hb hg hat) | ((with_reducible refine gate_dst (N := 18) rfl ?_); (try (refine gate_guard (by rfl) ?_; dsimp only)); refine Kd.R_lit (Kd.int .i64) _ 3 ?hg (N := 18) ?hd (xs := ([71, 72] : List Int)) (inner := [.int .i64 71, .int .i64 72]) (ok := fun _ => True) (okp := fun _ => True) ?hr ?hp (fun _ hk => hk) trivial (Below.refl _ _) (Nat.le_refl _) (by simp) ?_; (case hd => rfl); (case hg => rfl); (case hr => first | (go_simp; done) | (go_simp; rfl)); (case hp => exact (Reps.one (show Kd.M (Kd.int .i64) _ _ _ 71 [.int .i64 71] from rfl) (Reps.one (show Kd.M (Kd.int .i64) _ _ _ 72 [.int .i64 72] from rfl) (Reps.none _ _)))); intro v417 w19 ho20 hb hg_ hnew_; clear hg_ hnew_; (first | rw [← Ny416.out] at ho20 | (simp only [Int.reduceToNat] at ho20; rw [← Ny416.out] at ho20)); have n0_ := Aside0.mk (Kd.R_elder' (by (with_reducible repeat (first | apply Kd.R_alloc | apply Kd.R_drewN | apply Kd.R_drew)); exact HO415.out) (Kd.R_base ho20) hb); have n1_ := Aside0.mk (Kd.R_lower (Kd.R_new' ho20 (Kd.R_lt (by (with_reducible repeat (first | apply Kd.R_alloc | apply Kd.R_drewN | apply Kd.R_drew)); exact HO415.out))) (below_size (by repeat (first | (with_reducible first | exact HB.out | apply below_alloc | apply pw_below_drewN | apply below_drew1) | exact HB.out)))); have n2_ := Aside0.mk (below_step (by repeat (first | (with_reducible first | exact HB.out | apply below_alloc | apply pw_below_drewN | apply below_drew1) | exact HB.out)) hb); clear HO415; clear HB; have HO415 := n0_; have HO418 := n1_; have HB := n2_; clear n0_ n1_ n2_; clear hb ho20; obtain ⟨Ao22, co22, eo22⟩ := Kd.R_slice HO418.out; subst eo22) | ((with_reducible refine gate_builtin (b := .append) (xs := #[.tmp 17, .tmp 18]) rfl ?_); (try (refine gate_guard (by rfl) ?_; dsimp only)); at_builtin; refine Kd.R_append_rows (Kd.int .i64) (w0 := w) w.heap.size rfl (.tmp 17) (.tmp 18) 34 3 (.int .i64 0) 8 rfl Try.underlying34 info3 rfl (by decide) (by omega) v414 y413 y416 _ _ _ (fun k_ => some k_ ≠ (.slice Ao22 y416.length co22 : Value).ownBlock) (fun _ => False) rfl rfl ?aO ?aR (fun _ _ h => h) (fun _ h => h.elim) ?aF ?aB ?aS ?aL ?_; (case aR => repeat (first | exact (Kd.R_reads' HO418.out).2.2 | (with_reducible refine Kd.C_alloc ?_ _) | (with_reducible refine Kd.C_drewN ?_ _) | (with_reducible refine Kd.C_drew ?_))); (case aB => exact (by repeat (first | (with_reducible first | exact HB.out | apply below_alloc | apply pw_below_drewN | apply below_drew1) | exact HB.out))); (case aF => exact (fun k_ hk => Kd.fresh' (Kd.R_lt (by (with_reducible repeat (first | apply Kd.R_alloc | apply Kd.R_drewN | apply Kd.R_drew)); exact HO418.out)) k_ hk)); (case aO => exact (by (with_reducible repeat (first | apply Kd.R_alloc | apply Kd.R_drewN | apply Kd.R_drew)); exact Kd.R_mono HO415.out (fun _ hk => hk.2))); (case aS => exact (below_size (by repeat (first | (with_reducible first | exact HB.out | apply below_alloc | apply pw_below_drewN | apply below_drew1) | exact HB.out)))); (case aL => have := LMc4.out; omega); intro v420 w21 ho hb hg hat; rw [← Ny419.out] at ho; have n0_ := Aside0.mk (Kd.R_after (ok := (fun _ => True)) (by (with_reducible repeat (first | apply Kd.R_alloc | apply Kd.R_drewN | apply Kd.R_drew)); exact HO418.out) hg hat); have n1_ := Aside0.mk (hb); have n2_ := Aside0.mk (ho); clear HO418; clear HB; clear HO415; have HO418 := n0_; have HB := n1_; have HO421 := n2_; clear n0_ n1_ n2_; clear ho hb hg hat) | ((with_reducible refine gate_callee (f := 22) rfl ?_); refine goesL_ (some 22) rfl rfl Try.func22 (by kernel_rfl) rfl #[.slice A0 l0.length c0] rfl (by (try simp only [List.map_toArray, List.map_cons, List.map_nil]); first | done | rfl | (simp only [List.length_drop, List.length_take]; rfl)) ?_; (with_reducible refine (sapperref01_Lend.calls _ _ l0 t422 _ ?side1 ?side2 A5.out).mono ?_); (case side1 => repeat (first | exact (Kd.C_below HR0.out HB.out) | (with_reducible refine Kd.C_alloc ?_ _) | (with_reducible refine Kd.C_drewN ?_ _) | (with_reducible refine Kd.C_drew ?_))); (case side2 => exact HC0.out); rintro e w23 ⟨v423, rfl, ho0, hb⟩; refine ⟨_, rfl, ?_⟩; have n0_ := Aside0.mk (Kd.R_below (by (with_reducible repeat (first | apply Kd.R_alloc | apply Kd.R_drewN | apply Kd.R_drew)); exact HO418.out) hb); have n1_ := Aside0.mk (Kd.R_below (by (with_reducible repeat (first | apply Kd.R_alloc | apply Kd.R_drewN | apply Kd.R_drew)); exact HO421.out) hb); have n2_ := Aside0.mk (Kd.R_lower ho0 (below_size (by repeat (first | (with_reducible first | exact HB.out | apply below_alloc | apply pw_below_drewN | apply below_drew1) | exact HB.out)))); have n3_ := Aside0.mk (below_step (by repeat (first | (with_reducible first | exact HB.out | apply below_alloc | apply pw_below_drewN | apply below_drew1) | exact HB.out)) hb); clear HO418; clear HO421; clear HB; have HO418 := n0_; have HO421 := n1_; have HO424 := n2_; have HB := n3_; clear n0_ n1_ n2_ n3_; (try clear hb); (try clear hb2); (try clear hk); (try clear hi); (try clear ho0); obtain ⟨Ao25, co25, eo25⟩ := Kd.R_slice HO424.out; subst eo25; have q24 : ((l0.length : Int) : Int) ≤ ((t422.length : Int) : Int) := of_decide_eq_true (by first | (with_reducible assumption) | assumption); obtain ⟨i024, hi024, _, hsz24, _⟩ := info_parts info5; have hroom24 : t422.length ≤ co25 := (Kd.R_reads' HO424.out).2.1; have hC24 : Kd.C (Kd.int .u8) _ Ao25 t422.length t422 := (Kd.R_reads' HO424.out).2.2; have hcut24 := cut_to (P := Try.prog) 23 5 .i64 Try.underlying23 hi024 Ao25 t422.length co25 (l0.length : Int) (of_decide_eq_true (by first | (with_reducible assumption) | assumption)) q24 hroom24; have hr24 := Kd.C_take (m := ((l0.length : Int) : Int).toNat) hC24 (by omega); have hy24 : y425.length = ((l0.length : Int) : Int).toNat := (by rw [Ny425.out, List.length_take]; omega); rw [← Ny425.out] at hr24; rw [← hy24] at hcut24; have HR428 := Aside0.mk hr24; have HC428 := Aside0.mk (show y425.length ≤ co25 from by omega); clear hr24 hC24 hroom24 hi024 hsz24; have KY24 := Aside0.mk hy24; clear hy24; have hpc24 : cutOf (.slice Ao25 t422.length co25) l0.length = .slice Ao25 y425.length co25 := (by rw [KY24.out, Int.toNat_natCast]; rfl); have KL24 := Aside0.mk (show ((l0.length : Int) : Int).toNat ≤ t422.length from by omega); replace q24 := eq_true q24; obtain ⟨Ao27, co27, eo27⟩ := Kd.R_slice HO421.out; subst eo27; have q26 : ((l1.length : Int) : Int) ≤ ((y419.length : Int) : Int) := of_decide_eq_true (by first | (with_reducible assumption) | assumption); obtain ⟨i026, hi026, _, hsz26, _⟩ := info_parts info3; have hroom26 : y419.length ≤ co27 := (Kd.R_reads' HO421.out).2.1; have hC26 : Kd.C (Kd.int .i64) _ Ao27 y419.length y419 := (Kd.R_reads' HO421.out).2.2; have hcut26 := cut_to (P := Try.prog) 34 3 .i64 Try.underlying34 hi026 Ao27 y419.length co27 (l1.length : Int) (of_decide_eq_true (by first | (with_reducible assumption) | assumption)) q26 hroom26; have hr26 := Kd.C_take (m := ((l1.length : Int) : Int).toNat) hC26 (by omega); have hy26 : y429.length = ((l1.length : Int) : Int).toNat := (by rw [Ny429.out, List.length_take]; omega); rw [← Ny429.out] at hr26; rw [← hy26] at hcut26; have HR432 := Aside0.mk hr26; have HC432 := Aside0.mk (show y429.length ≤ co27 from by omega); clear hr26 hC26 hroom26 hi026 hsz26; have KY26 := Aside0.mk hy26; clear hy26; have KL26 := Aside0.mk (show ((l1.length : Int) : Int).toNat ≤ y419.length from by omega); replace q26 := eq_true q26) | ((with_reducible refine gate_callee (f := 23) rfl ?_); refine goesL_ (some 31) rfl rfl Try.func23 (by kernel_rfl) rfl #[.slice Ao25 y425.length co25, .slice Ao27 y429.length co27] rfl (by (try simp only [List.map_toArray, List.map_cons, List.map_nil]); first | done | rfl | (simp only [List.length_drop, List.length_take]; rfl)) ?_; (with_reducible refine (suffix_Check.calls k _ _ y425 _ _ y429 t433 t434 _ ?side1 ?side2 ?side3 ?side4 A10.out).mono ?_); (case side1 => repeat (first | exact (by repeat (first | (with_reducible exact HR428.out) | (with_reducible refine Kd.C_alloc ?_ _) | (with_reducible refine Kd.C_drewN ?_ _) | (with_reducible refine Kd.C_drew ?_) | exact HR428.out)) | (with_reducible refine Kd.C_alloc ?_ _) | (with_reducible refine Kd.C_drewN ?_ _) | (with_reducible refine Kd.C_drew ?_))); (case side2 => exact HC428.out); (case side3 => repeat (first | exact (by repeat (first | (with_reducible exact HR432.out) | (with_reducible refine Kd.C_alloc ?_ _) | (with_reducible refine Kd.C_drewN ?_ _) | (with_reducible refine Kd.C_drew ?_) | exact HR432.out)) | (with_reducible refine Kd.C_alloc ?_ _) | (with_reducible refine Kd.C_drewN ?_ _) | (with_reducible refine Kd.C_drew ?_))); (case side4 => exact HC432.out); rintro e w28 ⟨rfl, hb⟩; refine ⟨_, rfl, ?_⟩; have n0_ := Aside0.mk (Kd.R_below (by (with_reducible repeat (first | apply Kd.R_alloc | apply Kd.R_drewN | apply Kd.R_drew)); exact HO418.out) hb); have n1_ := Aside0.mk (Kd.R_below (by (with_reducible repeat (first | apply Kd.R_alloc | apply Kd.R_drewN | apply Kd.R_drew)); exact HO421.out) hb); have n2_ := Aside0.mk (Kd.R_below (by (with_reducible repeat (first | apply Kd.R_alloc | apply Kd.R_drewN | apply Kd.R_drew)); exact HO424.out) hb); have n3_ := Aside0.mk (Kd.C_below (by repeat (first | (with_reducible exact HR428.out) | (with_reducible refine Kd.C_alloc ?_ _) | (with_reducible refine Kd.C_drewN ?_ _) | (with_reducible refine Kd.C_drew ?_) | exact HR428.out)) hb); have n4_ := Aside0.mk (Kd.C_below (by repeat (first | (with_reducible exact HR432.out) | (with_reducible refine Kd.C_alloc ?_ _) | (with_reducible refine Kd.C_drewN ?_ _) | (with_reducible refine Kd.C_drew ?_) | exact HR432.out)) hb); have n5_ := Aside0.mk (below_step (by repeat (first | (with_reducible first | exact HB.out | apply below_alloc | apply pw_below_drewN | apply below_drew1) | exact HB.out)) hb); clear HO418; clear HO421; clear HO424; clear HR428; clear HR432; clear HB; have HO418 := n0_; have HO421 := n1_; have HO424 := n2_; have HR428 := n3_; have HR432 := n4_; have HB := n5_; clear n0_ n1_ n2_ n3_ n4_ n5_; (try clear hb); (try clear hb2); (try clear hk); (try clear hi)) | ((with_reducible refine gate_callee (f := 24) rfl ?_); refine goesL_ (some 37) rfl rfl Try.func24 (by kernel_rfl) rfl #[.slice A0 l0.length c0, .slice A1 l1.length c1] rfl (by (try simp only [List.map_toArray, List.map_cons, List.map_nil]); first | done | rfl | (simp only [List.length_drop, List.length_take]; rfl)) ?_; (with_reducible refine (sapperref13_Check.calls k _ _ l0 _ _ l1 t435 t436 _ ?side1 ?side2 ?side3 ?side4 A11.out).mono ?_); (case side1 => repeat (first | exact (Kd.C_below HR0.out HB.out) | (with_reducible refine Kd.C_alloc ?_ _) | (with_reducible refine Kd.C_drewN ?_ _) | (with_reducible refine Kd.C_drew ?_))); (case side2 => exact HC0.out); (case side3 => repeat (first | exact (Kd.C_below HR1.out HB.out) | (with_reducible refine Kd.C_alloc ?_ _) | (with_reducible refine Kd.C_drewN ?_ _) | (with_reducible refine Kd.C_drew ?_))); (case side4 => exact HC1.out); rintro e w29 ⟨rfl, hb⟩; refine ⟨_, rfl, ?_⟩; have n0_ := Aside0.mk (Kd.R_below (by (with_reducible repeat (first | apply Kd.R_alloc | apply Kd.R_drewN | apply Kd.R_drew)); exact HO418.out) hb); have n1_ := Aside0.mk (Kd.R_below (by (with_reducible repeat (first | apply Kd.R_alloc | apply Kd.R_drewN | apply Kd.R_drew)); exact HO421.out) hb); have n2_ := Aside0.mk (Kd.R_below (by (with_reducible repeat (first | apply Kd.R_alloc | apply Kd.R_drewN | apply Kd.R_drew)); exact HO424.out) hb); have n3_ := Aside0.mk (Kd.C_below (by repeat (first | (with_reducible exact HR428.out) | (with_reducible refine Kd.C_alloc ?_ _) | (with_reducible refine Kd.C_drewN ?_ _) | (with_reducible refine Kd.C_drew ?_) | exact HR428.out)) hb); have n4_ := Aside0.mk (Kd.C_below (by repeat (first | (with_reducible exact HR432.out) | (with_reducible refine Kd.C_alloc ?_ _) | (with_reducible refine Kd.C_drewN ?_ _) | (with_reducible refine Kd.C_drew ?_) | exact HR432.out)) hb); have n5_ := Aside0.mk (below_step (by repeat (first | (with_reducible first | exact HB.out | apply below_alloc | apply pw_below_drewN | apply below_drew1) | exact HB.out)) hb); clear HO418; clear HO421; clear HO424; clear HR428; clear HR432; clear HB; have HO418 := n0_; have HO421 := n1_; have HO424 := n2_; have HR428 := n3_; have HR432 := n4_; have HB := n5_; clear n0_ n1_ n2_ n3_ n4_ n5_; (try clear hb); (try clear hb2); (try clear hk); (try clear hi); have q30 : ((l1.length : Int) : Int) ≤ ((y419.length : Int) : Int) := of_decide_eq_true (by first | (with_reducible assumption) | assumption); obtain ⟨i030, hi030, _, hsz30, _⟩ := info_parts info3; have hroom30 : y419.length ≤ co27 := (Kd.R_reads' HO421.out).2.1; have hC30 : Kd.C (Kd.int .i64) _ Ao27 y419.length y419 := (Kd.R_reads' HO421.out).2.2; have hcut30 := cut_to (P := Try.prog) 34 3 .i64 Try.underlying34 hi030 Ao27 y419.length co27 (l1.length : Int) (of_decide_eq_true (by first | (with_reducible assumption) | assumption)) q30 hroom30; have hr30 := Kd.C_take (m := ((l1.length : Int) : Int).toNat) hC30 (by omega); have hy30 : y429.length = ((l1.length : Int) : Int).toNat := (by rw [Ny429.out, List.length_take]; omega); rw [← Ny429.out] at hr30; rw [← hy30] at hcut30; have HR440 := Aside0.mk hr30; have HC440 := Aside0.mk (show y429.length ≤ co27 from by omega); clear hr30 hC30 hroom30 hi030 hsz30; have KY30 := Aside0.mk hy30; clear hy30; have KL30 := Aside0.mk (show ((l1.length : Int) : Int).toNat ≤ y419.length from by omega); replace q30 := eq_true q30) | ((with_reducible refine gate_callee (f := 25) rfl ?_); refine goesL_ (some 46) rfl rfl Try.func25 (by kernel_rfl) rfl #[.slice Ao25 y425.length co25, .slice Ao27 y429.length co27] rfl (by (try simp only [List.map_toArray, List.map_cons, List.map_nil]); first | done | rfl | (simp only [List.length_drop, List.length_take]; rfl)) ?_; (with_reducible refine (suffix_Load.calls k _ _ y425 _ _ y429 t441 t442 _ ?side1 ?side2 ?side3 ?side4 A14.out).mono ?_); (case side1 => repeat (first | exact (by repeat (first | (with_reducible exact HR428.out) | (with_reducible refine Kd.C_alloc ?_ _) | (with_reducible refine Kd.C_drewN ?_ _) | (with_reducible refine Kd.C_drew ?_) | exact HR428.out)) | (with_reducible refine Kd.C_alloc ?_ _) | (with_reducible refine Kd.C_drewN ?_ _) | (with_reducible refine Kd.C_drew ?_))); (case side2 => exact HC428.out); (case side3 => repeat (first | exact (by repeat (first | (with_reducible exact HR440.out) | (with_reducible refine Kd.C_alloc ?_ _) | (with_reducible refine Kd.C_drewN ?_ _) | (with_reducible refine Kd.C_drew ?_) | exact HR440.out)) | (with_reducible refine Kd.C_alloc ?_ _) | (with_reducible refine Kd.C_drewN ?_ _) | (with_reducible refine Kd.C_drew ?_))); (case side4 => exact HC440.out); rintro e w31 ⟨v443, rfl, ho0, hb⟩; refine ⟨_, rfl, ?_⟩; have n0_ := Aside0.mk (Kd.R_below (by (with_reducible repeat (first | apply Kd.R_alloc | apply Kd.R_drewN | apply Kd.R_drew)); exact HO418.out) hb); have n1_ := Aside0.mk (Kd.R_below (by (with_reducible repeat (first | apply Kd.R_alloc | apply Kd.R_drewN | apply Kd.R_drew)); exact HO421.out) hb); have n2_ := Aside0.mk (Kd.R_below (by (with_reducible repeat (first | apply Kd.R_alloc | apply Kd.R_drewN | apply Kd.R_drew)); exact HO424.out) hb); have n3_ := Aside0.mk (Kd.S_lower (Kd.S_new' (Kd.S_new' (Kd.S_new' ho0 (Kd.R_lt (by (with_reducible repeat (first | apply Kd.R_alloc | apply Kd.R_drewN | apply Kd.R_drew)); exact HO418.out))) (Kd.R_lt (by (with_reducible repeat (first | apply Kd.R_alloc | apply Kd.R_drewN | apply Kd.R_drew)); exact HO421.out))) (Kd.R_lt (by (with_reducible repeat (first | apply Kd.R_alloc | apply Kd.R_drewN | apply Kd.R_drew)); exact HO424.out))) (below_size (by repeat (first | (with_reducible first | exact HB.out | apply below_alloc | apply pw_below_drewN | apply below_drew1) | exact HB.out)))); have n4_ := Aside0.mk (Kd.C_below (by repeat (first | (with_reducible exact HR428.out) | (with_reducible refine Kd.C_alloc ?_ _) | (with_reducible refine Kd.C_drewN ?_ _) | (with_reducible refine Kd.C_drew ?_) | exact HR428.out)) hb); have n5_ := Aside0.mk (Kd.C_below (by repeat (first | (with_reducible exact HR432.out) | (with_reducible refine Kd.C_alloc ?_ _) | (with_reducible refine Kd.C_drewN ?_ _) | (with_reducible refine Kd.C_drew ?_) | exact HR432.out)) hb); have n6_ := Aside0.mk (Kd.C_below (by repeat (first | (with_reducible exact HR440.out) | (with_reducible refine Kd.C_alloc ?_ _) | (with_reducible refine Kd.C_drewN ?_ _) | (with_reducible refine Kd.C_drew ?_) | exact HR440.out)) hb); have n7_ := Aside0.mk (below_step (by repeat (first | (with_reducible first | exact HB.out | apply below_alloc | apply pw_below_drewN | apply below_drew1) | exact HB.out)) hb); clear HO418; clear HO421; clear HO424; clear HR428; clear HR432; clear HR440; clear HB; have HO418 := n0_; have HO421 := n1_; have HO424 := n2_; have HO444 := n3_; have HR428 := n4_; have HR432 := n5_; have HR440 := n6_; have HB := n7_; clear n0_ n1_ n2_ n3_ n4_ n5_ n6_ n7_; (try clear hb); (try clear hb2); (try clear hk); (try clear hi); (try clear ho0)))
       (try simp only [Act.put, List.setIfInBounds_toArray, List.set_cons_zero, List.set_cons_succ])
       go_cut [91] (fun v91 wc => ∃ (kq : Nat) (x91_14 : Bool), v91 = .bool x91_14 ∧ Aside0 (sapperlaw13_SuffixChecks.j0 kq l0 y419 t436 t441 x91_14 = some r) ∧ Aside0 (kq ≤ k) ∧ Aside0 (Kd.R (Kd.int .i64) 3 wc w.heap.size (fun _ => True) (.slice Ao27 y419.length co27) y419) ∧ Aside0 (Kd.S k82 82 wc w.heap.size (fun k_ => some k_ ≠ ((.slice Ao27 y419.length co27) : Value).ownBlock) v443 t441) ∧ Aside0 (Kd.C (Kd.int .u8) wc Ao25 y425.length y425) ∧ Aside0 (Kd.C (Kd.int .i64) wc Ao27 y429.length y429) ∧ Aside0 (Kd.C (Kd.int .i64) wc Ao27 y429.length y429) ∧ Aside0 (Below w.heap.size w wc))
       case first =>
        have H := HC15.out
        clear HC15
        by_cases c32 : t433 = t435
        ·rw [if_pos c32] at H
         have c32b0 : (t433 == t435) = true := beq_iff_eq.mpr c32
         have c32b1 : (t433 != t435) = false := bne_eq_false_iff_eq.mpr c32
         clear c32
         (first | rw [c32b0] | rw [c32b1] | (simp only [i64_w, i32_w]; rw [c32b0]) | skip)
         by_cases c33 : t434 = t436
         ·rw [if_pos c33] at H
          have c33b0 : (t434 == t436) = true := beq_iff_eq.mpr c33
          have c33b1 : (t434 != t436) = false := bne_eq_false_iff_eq.mpr c33
          clear c33
          by_cases c34 : t442 = t436
          ·rw [if_pos c34] at H
           have c34b0 : (t442 == t436) = true := beq_iff_eq.mpr c34
           have c34b1 : (t442 != t436) = false := bne_eq_false_iff_eq.mpr c34
           clear c34
           by_cases c35 : (((t441.length : Int) == 0) != (t436 != 0)) = true
           ·rw [if_pos c35] at H
            have c35b0 : (((t441.length : Int) == 0) != (t436 != 0)) = true := c35
            (try (have c35b1 : decide (((t441.length : Int) == 0) = (t436 != 0)) = false := by simpa using c35))
            (try (have c35b2 : (((t441.length : Int) == 0) == (t436 != 0)) = false := by simpa using c35))
            (try (have c35b3 : ¬ (((t441.length : Int) == 0) = (t436 != 0)) := by simpa using c35))
            clear c35
            have H' := Aside0.mk H
            clear H
            obtain ⟨Ao36, co36, eo36⟩ := Kd.S_slice HO444.out
            subst eo36
            go_wp2
            go_meet
            case rel => exact ⟨_, (true), (by first | rfl | (simp; done) | (simp [*]; done)), H', ⟨by first | omega | exact Nat.le_refl _⟩, ⟨by (with_reducible repeat (first | apply Kd.R_alloc | apply Kd.R_drewN | apply Kd.R_drew)); exact Kd.R_mono HO421.out (fun _ hk => trivial)⟩, ⟨by (with_reducible repeat (first | apply Kd.S_alloc | apply Kd.S_drewN | apply Kd.S_drew)); exact Kd.S_mono HO444.out (fun _ hk => hk.1.2)⟩, ⟨by repeat (first | (with_reducible exact HR428.out) | (with_reducible refine Kd.C_alloc ?_ _) | (with_reducible refine Kd.C_drewN ?_ _) | (with_reducible refine Kd.C_drew ?_) | exact HR428.out)⟩, ⟨by repeat (first | (with_reducible exact HR432.out) | (with_reducible refine Kd.C_alloc ?_ _) | (with_reducible refine Kd.C_drewN ?_ _) | (with_reducible refine Kd.C_drew ?_) | exact HR432.out)⟩, ⟨by repeat (first | (with_reducible exact HR440.out) | (with_reducible refine Kd.C_alloc ?_ _) | (with_reducible refine Kd.C_drewN ?_ _) | (with_reducible refine Kd.C_drew ?_) | exact HR440.out)⟩, ⟨by repeat (first | (with_reducible first | exact HB.out | apply below_alloc | apply pw_below_drewN | apply below_drew1) | exact HB.out)⟩⟩
           ·rw [if_neg c35] at H
            have c35b0 : (((t441.length : Int) == 0) != (t436 != 0)) = false := by simpa using c35
            (try (have c35b1 : decide (((t441.length : Int) == 0) = (t436 != 0)) = true := by simpa using c35))
            (try (have c35b2 : (((t441.length : Int) == 0) == (t436 != 0)) = true := by simpa using c35))
            clear c35
            have c37b0 := eq_true (of_decide_eq_true (by first | (with_reducible assumption) | assumption) : 0 ≤ (l1.length : Int))
            have c38b0 := eq_true (of_decide_eq_true (by first | (with_reducible assumption) | assumption) : (l1.length : Int) ≤ (y419.length : Int))
            replace H : ((sapperlaw13_same.f k y429 l1).bind fun t449 => (if t449 = true then (if (l1.length : Int) < (y419.length : Int) then (if (rd y419 (l1.length : Int)) = 71 then ((sapperref01_Kept.f t422 l0).bind fun t451 => (sapperlaw13_SuffixChecks.j0 k l0 y419 t436 t441 (!t451))) else (sapperlaw13_SuffixChecks.j0 k l0 y419 t436 t441 true)) else (none)) else (sapperlaw13_SuffixChecks.j0 k l0 y419 t436 t441 true))) = some r := by first | (rw [Ny429.out]; with_reducible exact H) | (have H2_ := (Option.bind_some _ _).symm.trans H; rw [Ny429.out]; with_reducible exact H2_) | (have H2_ := (Option.bind_some _ _).symm.trans H; with_reducible exact H2_) | with_reducible exact H | (rw [Ny429.out]; exact H) | exact H
            replace H := Option.bind_eq_some_iff.mp H
            obtain ⟨t449, A390, H⟩ := H
            replace H : (if t449 = true then (if (l1.length : Int) < (y419.length : Int) then (if (rd y419 (l1.length : Int)) = 71 then ((sapperref01_Kept.f t422 l0).bind fun t451 => (sapperlaw13_SuffixChecks.j0 k l0 y419 t436 t441 (!t451))) else (sapperlaw13_SuffixChecks.j0 k l0 y419 t436 t441 true)) else (none)) else (sapperlaw13_SuffixChecks.j0 k l0 y419 t436 t441 true)) = some r := H
            have A39 := Aside0.mk A390
            clear A390
            by_cases c40 : t449 = true
            ·subst c40
             have H1 : (if (l1.length : Int) < (y419.length : Int) then (if (rd y419 (l1.length : Int)) = 71 then ((sapperref01_Kept.f t422 l0).bind fun t451 => (sapperlaw13_SuffixChecks.j0 k l0 y419 t436 t441 (!t451))) else (sapperlaw13_SuffixChecks.j0 k l0 y419 t436 t441 true)) else (none)) = some r := by rw [if_pos rfl] at H; exact H
             clear H
             have H := H1
             clear H1
             by_cases c41 : (l1.length : Int) < (y419.length : Int)
             ·rw [if_pos c41] at H
              have c41b0 : decide ((l1.length : Int) < (y419.length : Int)) = true := decide_eq_true c41
              have c41b1 : decide (l1.length < y419.length) = true := decide_eq_true (Int.ofNat_lt.mp c41)
              clear c41
              by_cases c42 : (rd y419 (l1.length : Int)) = 71
              ·rw [if_pos c42] at H
               have c42b0 : ((rd y419 (l1.length : Int)) == 71) = true := beq_iff_eq.mpr c42
               have c42b1 : ((rd y419 (l1.length : Int)) != 71) = false := bne_eq_false_iff_eq.mpr c42
               clear c42
               replace H := Option.bind_eq_some_iff.mp H
               obtain ⟨t451, A430, H⟩ := H
               replace H : (sapperlaw13_SuffixChecks.j0 k l0 y419 t436 t441 (!t451)) = some r := H
               have A43 := Aside0.mk A430
               clear A430
               have H' := Aside0.mk H
               clear H
               obtain ⟨Ao44, co44, eo44⟩ := Kd.S_slice HO444.out
               subst eo44
               have q45 : ((l1.length : Int) : Int) ≤ ((y419.length : Int) : Int) := of_decide_eq_true (by first | (with_reducible assumption) | assumption)
               obtain ⟨i045, hi045, _, hsz45, _⟩ := info_parts info3
               have hroom45 : y419.length ≤ co27 := (Kd.R_reads' HO421.out).2.1
               have hC45 : Kd.C (Kd.int .i64) _ Ao27 y419.length y419 := (Kd.R_reads' HO421.out).2.2
               have hcut45 := cut_to (P := Try.prog) 34 3 .i64 Try.underlying34 hi045 Ao27 y419.length co27 (l1.length : Int) (of_decide_eq_true (by first | (with_reducible assumption) | assumption)) q45 hroom45
               have hr45 := Kd.C_take (m := ((l1.length : Int) : Int).toNat) hC45 (by omega)
               have hy45 : y429.length = ((l1.length : Int) : Int).toNat := (by rw [Ny429.out, List.length_take]; omega)
               rw [← Ny429.out] at hr45
               rw [← hy45] at hcut45
               have HR448 := Aside0.mk hr45
               have HC448 := Aside0.mk (show y429.length ≤ co27 from by omega)
               clear hr45 hC45 hroom45 hi045 hsz45
               have KY45 := Aside0.mk hy45
               clear hy45
               have KL45 := Aside0.mk (show ((l1.length : Int) : Int).toNat ≤ y419.length from by omega)
               replace q45 := eq_true q45
               go_wp2_with (first | (go_at_call 26; (with_reducible refine (sapperlaw13_same.calls k _ _ y429 _ _ l1 true _ ?side1 ?side2 ?side3 ?side4 A39.out).mono ?_); (case side1 => repeat (first | exact (by repeat (first | (with_reducible exact HR448.out) | (with_reducible refine Kd.C_alloc ?_ _) | (with_reducible refine Kd.C_drewN ?_ _) | (with_reducible refine Kd.C_drew ?_) | exact HR448.out)) | (with_reducible refine Kd.C_alloc ?_ _) | (with_reducible refine Kd.C_drewN ?_ _) | (with_reducible refine Kd.C_drew ?_))); (case side2 => exact HC448.out); (case side3 => repeat (first | exact (Kd.C_below HR1.out HB.out) | (with_reducible refine Kd.C_alloc ?_ _) | (with_reducible refine Kd.C_drewN ?_ _) | (with_reducible refine Kd.C_drew ?_))); (case side4 => exact HC1.out); rintro e w' ⟨rfl, ⟨nd, rfl⟩⟩; have p450 : 0 ≤ ((l1.length : Int) : Int) := of_decide_eq_true (by first | (with_reducible assumption) | assumption); have q450 : (l1.length : Int) < (y419.length : Int) := of_decide_eq_true (by first | (with_reducible assumption) | assumption); obtain ⟨ad450, e450, hx450_0⟩ := Kd.at_int (Kd.R_reads' HO421.out).2.2 (l1.length : Int) p450 q450; cases e450; (try simp only [Go.IntWalk.toNatUp] at hx450_0); replace p450 := eq_true p450; replace q450 := eq_true q450) | (go_at_call 27; (with_reducible refine (sapperref01_Kept.calls _ _ t422 _ _ l0 t451 _ ?side1 ?side2 ?side3 ?side4 A43.out).mono ?_); (case side1 => repeat (first | exact (Kd.R_reads' HO424.out).2.2 | (with_reducible refine Kd.C_alloc ?_ _) | (with_reducible refine Kd.C_drewN ?_ _) | (with_reducible refine Kd.C_drew ?_))); (case side2 => exact (Kd.R_reads' HO424.out).2.1); (case side3 => repeat (first | exact (Kd.C_below HR0.out (by repeat (first | (with_reducible first | exact HB.out | apply below_alloc | apply pw_below_drewN | apply below_drew1) | exact HB.out))) | (with_reducible refine Kd.C_alloc ?_ _) | (with_reducible refine Kd.C_drewN ?_ _) | (with_reducible refine Kd.C_drew ?_))); (case side4 => exact HC0.out); rintro e w46 ⟨rfl, hb⟩; have n0_ := Aside0.mk (Kd.R_below (by (with_reducible repeat (first | apply Kd.R_alloc | apply Kd.R_drewN | apply Kd.R_drew)); exact HO418.out) hb); have n1_ := Aside0.mk (Kd.R_below (by (with_reducible repeat (first | apply Kd.R_alloc | apply Kd.R_drewN | apply Kd.R_drew)); exact HO421.out) hb); have n2_ := Aside0.mk (Kd.R_below (by (with_reducible repeat (first | apply Kd.R_alloc | apply Kd.R_drewN | apply Kd.R_drew)); exact HO424.out) hb); have n3_ := Aside0.mk (Kd.S_below (by (with_reducible repeat (first | apply Kd.S_alloc | apply Kd.S_drewN | apply Kd.S_drew)); exact HO444.out) hb); have n4_ := Aside0.mk (Kd.C_below (by repeat (first | (with_reducible exact HR428.out) | (with_reducible refine Kd.C_alloc ?_ _) | (with_reducible refine Kd.C_drewN ?_ _) | (with_reducible refine Kd.C_drew ?_) | exact HR428.out)) hb); have n5_ := Aside0.mk (Kd.C_below (by repeat (first | (with_reducible exact HR432.out) | (with_reducible refine Kd.C_alloc ?_ _) | (with_reducible refine Kd.C_drewN ?_ _) | (with_reducible refine Kd.C_drew ?_) | exact HR432.out)) hb); have n6_ := Aside0.mk (Kd.C_below (by repeat (first | (with_reducible exact HR440.out) | (with_reducible refine Kd.C_alloc ?_ _) | (with_reducible refine Kd.C_drewN ?_ _) | (with_reducible refine Kd.C_drew ?_) | exact HR440.out)) hb); have n7_ := Aside0.mk (Kd.C_below (by repeat (first | (with_reducible exact HR448.out) | (with_reducible refine Kd.C_alloc ?_ _) | (with_reducible refine Kd.C_drewN ?_ _) | (with_reducible refine Kd.C_drew ?_) | exact HR448.out)) hb); have n8_ := Aside0.mk (below_step (by repeat (first | (with_reducible first | exact HB.out | apply below_alloc | apply pw_below_drewN | apply below_drew1) | exact HB.out)) hb); clear HO418; clear HO421; clear HO424; clear HO444; clear HR428; clear HR432; clear HR440; clear HR448; clear HB; have HO418 := n0_; have HO421 := n1_; have HO424 := n2_; have HO444 := n3_; have HR428 := n4_; have HR432 := n5_; have HR440 := n6_; have HR448 := n7_; have HB := n8_; clear n0_ n1_ n2_ n3_ n4_ n5_ n6_ n7_ n8_; (try clear hb); (try clear hb2); (try clear hk); (try clear hi)))
               go_meet
               case rel => exact ⟨_, (!t451), (by first | rfl | (simp; done) | (simp [*]; done)), H', ⟨by first | omega | exact Nat.le_refl _⟩, ⟨by (with_reducible repeat (first | apply Kd.R_alloc | apply Kd.R_drewN | apply Kd.R_drew)); exact Kd.R_mono HO421.out (fun _ hk => trivial)⟩, ⟨by (with_reducible repeat (first | apply Kd.S_alloc | apply Kd.S_drewN | apply Kd.S_drew)); exact Kd.S_mono HO444.out (fun _ hk => hk.1.2)⟩, ⟨by repeat (first | (with_reducible exact HR428.out) | (with_reducible refine Kd.C_alloc ?_ _) | (with_reducible refine Kd.C_drewN ?_ _) | (with_reducible refine Kd.C_drew ?_) | exact HR428.out)⟩, ⟨by repeat (first | (with_reducible exact HR432.out) | (with_reducible refine Kd.C_alloc ?_ _) | (with_reducible refine Kd.C_drewN ?_ _) | (with_reducible refine Kd.C_drew ?_) | exact HR432.out)⟩, ⟨by repeat (first | (with_reducible exact HR440.out) | (with_reducible refine Kd.C_alloc ?_ _) | (with_reducible refine Kd.C_drewN ?_ _) | (with_reducible refine Kd.C_drew ?_) | exact HR440.out)⟩, ⟨by repeat (first | (with_reducible first | exact HB.out | apply below_alloc | apply pw_below_drewN | apply below_drew1) | exact HB.out)⟩⟩
              ·rw [if_neg c42] at H
               have c42b0 : ((rd y419 (l1.length : Int)) == 71) = false := beq_eq_false_iff_ne.mpr c42
               have c42b1 : ((rd y419 (l1.length : Int)) != 71) = true := bne_iff_ne.mpr c42
               have H' := Aside0.mk H
               clear H
               obtain ⟨Ao47, co47, eo47⟩ := Kd.S_slice HO444.out
               subst eo47
               have q48 : ((l1.length : Int) : Int) ≤ ((y419.length : Int) : Int) := of_decide_eq_true (by first | (with_reducible assumption) | assumption)
               obtain ⟨i048, hi048, _, hsz48, _⟩ := info_parts info3
               have hroom48 : y419.length ≤ co27 := (Kd.R_reads' HO421.out).2.1
               have hC48 : Kd.C (Kd.int .i64) _ Ao27 y419.length y419 := (Kd.R_reads' HO421.out).2.2
               have hcut48 := cut_to (P := Try.prog) 34 3 .i64 Try.underlying34 hi048 Ao27 y419.length co27 (l1.length : Int) (of_decide_eq_true (by first | (with_reducible assumption) | assumption)) q48 hroom48
               have hr48 := Kd.C_take (m := ((l1.length : Int) : Int).toNat) hC48 (by omega)
               have hy48 : y429.length = ((l1.length : Int) : Int).toNat := (by rw [Ny429.out, List.length_take]; omega)
               rw [← Ny429.out] at hr48
               rw [← hy48] at hcut48
               have HR448 := Aside0.mk hr48
               have HC448 := Aside0.mk (show y429.length ≤ co27 from by omega)
               clear hr48 hC48 hroom48 hi048 hsz48
               have KY48 := Aside0.mk hy48
               clear hy48
               have KL48 := Aside0.mk (show ((l1.length : Int) : Int).toNat ≤ y419.length from by omega)
               replace q48 := eq_true q48
               go_wp2_with (first | (go_at_call 26; (with_reducible refine (sapperlaw13_same.calls k _ _ y429 _ _ l1 true _ ?side1 ?side2 ?side3 ?side4 A39.out).mono ?_); (case side1 => repeat (first | exact (by repeat (first | (with_reducible exact HR448.out) | (with_reducible refine Kd.C_alloc ?_ _) | (with_reducible refine Kd.C_drewN ?_ _) | (with_reducible refine Kd.C_drew ?_) | exact HR448.out)) | (with_reducible refine Kd.C_alloc ?_ _) | (with_reducible refine Kd.C_drewN ?_ _) | (with_reducible refine Kd.C_drew ?_))); (case side2 => exact HC448.out); (case side3 => repeat (first | exact (Kd.C_below HR1.out HB.out) | (with_reducible refine Kd.C_alloc ?_ _) | (with_reducible refine Kd.C_drewN ?_ _) | (with_reducible refine Kd.C_drew ?_))); (case side4 => exact HC1.out); rintro e w' ⟨rfl, ⟨nd, rfl⟩⟩; have p450 : 0 ≤ ((l1.length : Int) : Int) := of_decide_eq_true (by first | (with_reducible assumption) | assumption); have q450 : (l1.length : Int) < (y419.length : Int) := of_decide_eq_true (by first | (with_reducible assumption) | assumption); obtain ⟨ad450, e450, hx450_0⟩ := Kd.at_int (Kd.R_reads' HO421.out).2.2 (l1.length : Int) p450 q450; cases e450; (try simp only [Go.IntWalk.toNatUp] at hx450_0); replace p450 := eq_true p450; replace q450 := eq_true q450))
               go_meet
               case rel => exact ⟨_, (true), (by first | rfl | (simp; done) | (simp [*]; done)), H', ⟨by first | omega | exact Nat.le_refl _⟩, ⟨by (with_reducible repeat (first | apply Kd.R_alloc | apply Kd.R_drewN | apply Kd.R_drew)); exact Kd.R_mono HO421.out (fun _ hk => trivial)⟩, ⟨by (with_reducible repeat (first | apply Kd.S_alloc | apply Kd.S_drewN | apply Kd.S_drew)); exact Kd.S_mono HO444.out (fun _ hk => hk.1.2)⟩, ⟨by repeat (first | (with_reducible exact HR428.out) | (with_reducible refine Kd.C_alloc ?_ _) | (with_reducible refine Kd.C_drewN ?_ _) | (with_reducible refine Kd.C_drew ?_) | exact HR428.out)⟩, ⟨by repeat (first | (with_reducible exact HR432.out) | (with_reducible refine Kd.C_alloc ?_ _) | (with_reducible refine Kd.C_drewN ?_ _) | (with_reducible refine Kd.C_drew ?_) | exact HR432.out)⟩, ⟨by repeat (first | (with_reducible exact HR440.out) | (with_reducible refine Kd.C_alloc ?_ _) | (with_reducible refine Kd.C_drewN ?_ _) | (with_reducible refine Kd.C_drew ?_) | exact HR440.out)⟩, ⟨by repeat (first | (with_reducible first | exact HB.out | apply below_alloc | apply pw_below_drewN | apply below_drew1) | exact HB.out)⟩⟩
             ·rw [if_neg c41] at H
              exact absurd H (by simp)
            ·replace c40 := Bool.eq_false_iff.mpr c40
             subst c40
             have H1 : (sapperlaw13_SuffixChecks.j0 k l0 y419 t436 t441 true) = some r := by rw [if_neg (show ¬ (false = true) by decide)] at H; exact H
             clear H
             have H := H1
             clear H1
             have H' := Aside0.mk H
             clear H
             obtain ⟨Ao49, co49, eo49⟩ := Kd.S_slice HO444.out
             subst eo49
             have q50 : ((l1.length : Int) : Int) ≤ ((y419.length : Int) : Int) := of_decide_eq_true (by first | (with_reducible assumption) | assumption)
             obtain ⟨i050, hi050, _, hsz50, _⟩ := info_parts info3
             have hroom50 : y419.length ≤ co27 := (Kd.R_reads' HO421.out).2.1
             have hC50 : Kd.C (Kd.int .i64) _ Ao27 y419.length y419 := (Kd.R_reads' HO421.out).2.2
             have hcut50 := cut_to (P := Try.prog) 34 3 .i64 Try.underlying34 hi050 Ao27 y419.length co27 (l1.length : Int) (of_decide_eq_true (by first | (with_reducible assumption) | assumption)) q50 hroom50
             have hr50 := Kd.C_take (m := ((l1.length : Int) : Int).toNat) hC50 (by omega)
             have hy50 : y429.length = ((l1.length : Int) : Int).toNat := (by rw [Ny429.out, List.length_take]; omega)
             rw [← Ny429.out] at hr50
             rw [← hy50] at hcut50
             have HR448 := Aside0.mk hr50
             have HC448 := Aside0.mk (show y429.length ≤ co27 from by omega)
             clear hr50 hC50 hroom50 hi050 hsz50
             have KY50 := Aside0.mk hy50
             clear hy50
             have KL50 := Aside0.mk (show ((l1.length : Int) : Int).toNat ≤ y419.length from by omega)
             replace q50 := eq_true q50
             go_wp2_with (first | (go_at_call 26; (with_reducible refine (sapperlaw13_same.calls k _ _ y429 _ _ l1 false _ ?side1 ?side2 ?side3 ?side4 A39.out).mono ?_); (case side1 => repeat (first | exact (by repeat (first | (with_reducible exact HR448.out) | (with_reducible refine Kd.C_alloc ?_ _) | (with_reducible refine Kd.C_drewN ?_ _) | (with_reducible refine Kd.C_drew ?_) | exact HR448.out)) | (with_reducible refine Kd.C_alloc ?_ _) | (with_reducible refine Kd.C_drewN ?_ _) | (with_reducible refine Kd.C_drew ?_))); (case side2 => exact HC448.out); (case side3 => repeat (first | exact (Kd.C_below HR1.out HB.out) | (with_reducible refine Kd.C_alloc ?_ _) | (with_reducible refine Kd.C_drewN ?_ _) | (with_reducible refine Kd.C_drew ?_))); (case side4 => exact HC1.out); rintro e w' ⟨rfl, ⟨nd, rfl⟩⟩))
             go_meet
             case rel => exact ⟨_, (true), (by first | rfl | (simp; done) | (simp [*]; done)), H', ⟨by first | omega | exact Nat.le_refl _⟩, ⟨by (with_reducible repeat (first | apply Kd.R_alloc | apply Kd.R_drewN | apply Kd.R_drew)); exact Kd.R_mono HO421.out (fun _ hk => trivial)⟩, ⟨by (with_reducible repeat (first | apply Kd.S_alloc | apply Kd.S_drewN | apply Kd.S_drew)); exact Kd.S_mono HO444.out (fun _ hk => hk.1.2)⟩, ⟨by repeat (first | (with_reducible exact HR428.out) | (with_reducible refine Kd.C_alloc ?_ _) | (with_reducible refine Kd.C_drewN ?_ _) | (with_reducible refine Kd.C_drew ?_) | exact HR428.out)⟩, ⟨by repeat (first | (with_reducible exact HR432.out) | (with_reducible refine Kd.C_alloc ?_ _) | (with_reducible refine Kd.C_drewN ?_ _) | (with_reducible refine Kd.C_drew ?_) | exact HR432.out)⟩, ⟨by repeat (first | (with_reducible exact HR440.out) | (with_reducible refine Kd.C_alloc ?_ _) | (with_reducible refine Kd.C_drewN ?_ _) | (with_reducible refine Kd.C_drew ?_) | exact HR440.out)⟩, ⟨by repeat (first | (with_reducible first | exact HB.out | apply below_alloc | apply pw_below_drewN | apply below_drew1) | exact HB.out)⟩⟩
          ·rw [if_neg c34] at H
           have c34b0 : (t442 == t436) = false := beq_eq_false_iff_ne.mpr c34
           have c34b1 : (t442 != t436) = true := bne_iff_ne.mpr c34
           have H' := Aside0.mk H
           clear H
           go_wp2
           go_meet
           case rel => exact ⟨_, (true), (by first | rfl | (simp; done) | (simp [*]; done)), H', ⟨by first | omega | exact Nat.le_refl _⟩, ⟨by (with_reducible repeat (first | apply Kd.R_alloc | apply Kd.R_drewN | apply Kd.R_drew)); exact Kd.R_mono HO421.out (fun _ hk => trivial)⟩, ⟨by (with_reducible repeat (first | apply Kd.S_alloc | apply Kd.S_drewN | apply Kd.S_drew)); exact Kd.S_mono HO444.out (fun _ hk => hk.1.2)⟩, ⟨by repeat (first | (with_reducible exact HR428.out) | (with_reducible refine Kd.C_alloc ?_ _) | (with_reducible refine Kd.C_drewN ?_ _) | (with_reducible refine Kd.C_drew ?_) | exact HR428.out)⟩, ⟨by repeat (first | (with_reducible exact HR432.out) | (with_reducible refine Kd.C_alloc ?_ _) | (with_reducible refine Kd.C_drewN ?_ _) | (with_reducible refine Kd.C_drew ?_) | exact HR432.out)⟩, ⟨by repeat (first | (with_reducible exact HR440.out) | (with_reducible refine Kd.C_alloc ?_ _) | (with_reducible refine Kd.C_drewN ?_ _) | (with_reducible refine Kd.C_drew ?_) | exact HR440.out)⟩, ⟨by repeat (first | (with_reducible first | exact HB.out | apply below_alloc | apply pw_below_drewN | apply below_drew1) | exact HB.out)⟩⟩
         ·rw [if_neg c33] at H
          have c33b0 : (t434 == t436) = false := beq_eq_false_iff_ne.mpr c33
          have c33b1 : (t434 != t436) = true := bne_iff_ne.mpr c33
          have H' := Aside0.mk H
          clear H
          go_wp2
          go_meet
          case rel => exact ⟨_, (true), (by first | rfl | (simp; done) | (simp [*]; done)), H', ⟨by first | omega | exact Nat.le_refl _⟩, ⟨by (with_reducible repeat (first | apply Kd.R_alloc | apply Kd.R_drewN | apply Kd.R_drew)); exact Kd.R_mono HO421.out (fun _ hk => trivial)⟩, ⟨by (with_reducible repeat (first | apply Kd.S_alloc | apply Kd.S_drewN | apply Kd.S_drew)); exact Kd.S_mono HO444.out (fun _ hk => hk.1.2)⟩, ⟨by repeat (first | (with_reducible exact HR428.out) | (with_reducible refine Kd.C_alloc ?_ _) | (with_reducible refine Kd.C_drewN ?_ _) | (with_reducible refine Kd.C_drew ?_) | exact HR428.out)⟩, ⟨by repeat (first | (with_reducible exact HR432.out) | (with_reducible refine Kd.C_alloc ?_ _) | (with_reducible refine Kd.C_drewN ?_ _) | (with_reducible refine Kd.C_drew ?_) | exact HR432.out)⟩, ⟨by repeat (first | (with_reducible exact HR440.out) | (with_reducible refine Kd.C_alloc ?_ _) | (with_reducible refine Kd.C_drewN ?_ _) | (with_reducible refine Kd.C_drew ?_) | exact HR440.out)⟩, ⟨by repeat (first | (with_reducible first | exact HB.out | apply below_alloc | apply pw_below_drewN | apply below_drew1) | exact HB.out)⟩⟩
        ·rw [if_neg c32] at H
         have c32b0 : (t433 == t435) = false := beq_eq_false_iff_ne.mpr c32
         have c32b1 : (t433 != t435) = true := bne_iff_ne.mpr c32
         (first | rw [c32b0] | rw [c32b1] | (simp only [i64_w, i32_w]; rw [c32b0]) | skip)
         have H' := Aside0.mk H
         clear H
         go_wp2
         go_meet
         case rel => exact ⟨_, (true), (by first | rfl | (simp; done) | (simp [*]; done)), H', ⟨by first | omega | exact Nat.le_refl _⟩, ⟨by (with_reducible repeat (first | apply Kd.R_alloc | apply Kd.R_drewN | apply Kd.R_drew)); exact Kd.R_mono HO421.out (fun _ hk => trivial)⟩, ⟨by (with_reducible repeat (first | apply Kd.S_alloc | apply Kd.S_drewN | apply Kd.S_drew)); exact Kd.S_mono HO444.out (fun _ hk => hk.1.2)⟩, ⟨by repeat (first | (with_reducible exact HR428.out) | (with_reducible refine Kd.C_alloc ?_ _) | (with_reducible refine Kd.C_drewN ?_ _) | (with_reducible refine Kd.C_drew ?_) | exact HR428.out)⟩, ⟨by repeat (first | (with_reducible exact HR432.out) | (with_reducible refine Kd.C_alloc ?_ _) | (with_reducible refine Kd.C_drewN ?_ _) | (with_reducible refine Kd.C_drew ?_) | exact HR432.out)⟩, ⟨by repeat (first | (with_reducible exact HR440.out) | (with_reducible refine Kd.C_alloc ?_ _) | (with_reducible refine Kd.C_drewN ?_ _) | (with_reducible refine Kd.C_drew ?_) | exact HR440.out)⟩, ⟨by repeat (first | (with_reducible first | exact HB.out | apply below_alloc | apply pw_below_drewN | apply below_drew1) | exact HB.out)⟩⟩
       case rest =>
        clear HC15
        try clear c1
        try clear c2
        try clear p2
        try clear q2
        try clear c3
        try clear q3
        try clear c4
        try clear p4
        try clear q4
        try clear hx4
        try clear q5
        try clear c6
        try clear c6b0
        try clear c6b1
        try clear c7
        try clear c7b0
        try clear c7b1
        try clear c8
        try clear c8b0
        try clear c8b1
        try clear c9
        try clear c9b0
        try clear c9b1
        try clear c12
        try clear c12b0
        try clear c13
        try clear c13b0
        try clear c22
        try clear c23
        try clear c24
        try clear q24
        try clear c25
        try clear q26
        try clear q30
        try clear c32
        try clear c32b0
        try clear c32b1
        try clear c33
        try clear c33b0
        try clear c33b1
        try clear c34
        try clear c34b0
        try clear c34b1
        try clear c35
        try clear c35b0
        try clear c35b1
        try clear c35b2
        try clear c37
        try clear c37b0
        try clear c38
        try clear c38b0
        try clear c40
        try clear c41
        try clear c41b0
        try clear c41b1
        try clear c42
        try clear c42b0
        try clear c42b1
        try clear p45
        try clear q45
        try clear hx45
        try clear q48
        try clear q50
        try clear hx450_0
        try clear p450
        try clear q24
        try clear q26
        try clear q30
        try clear q45
        try clear q450
        try clear q48
        try clear q50
        obtain ⟨kq, x91_14, rfl, HA, HJ14, HO_5, HO_12, HR428, HR432, HR440, HB⟩ := hcut
        cases kq with
        | zero => exact absurd HA.out (by simp [sapperlaw13_SuffixChecks.j0])
        | succ kj14 =>
         have H := HA.out
         clear HA
         simp only [sapperlaw13_SuffixChecks.j0] at H
         by_cases c51 : x91_14 = true
         ·subst c51
          have H1 : (some false) = some r := by rw [if_pos rfl] at H; exact H
          clear H
          have H := H1
          clear H1
          obtain rfl := Option.some.inj H
          go_wp2
          go_ret
          exact ⟨by first | rfl | (simp [errW_none, errW_some] <;> rfl) | (simp [*, errW_none, errW_some] <;> rfl), by repeat (first | (with_reducible first | exact HB.out | apply below_alloc | apply pw_below_drewN | apply below_drew1) | exact HB.out)⟩
         ·replace c51 := Bool.eq_false_iff.mpr c51
          subst c51
          have H1 : (sapperlaw13_SuffixChecks.l0 kj14 l0 y419 t436 t441 (y419.length : Int) 0) = some r := by rw [if_neg (show ¬ (false = true) by decide)] at H; exact H
          clear H
          have H := H1
          clear H1
          have H' := Aside0.mk H
          clear H
          go_wp2
          go_loopg [94] kj14 (fun kq v94 w' => ∃ (x5_2 : List Int) (x94_2 : Int), v94 = .int .i64 x94_2 ∧ Aside0 (sapperlaw13_SuffixChecks.l0 kq l0 x5_2 t436 t441 (y419.length : Int) x94_2 = some r) ∧ Aside0 (kq ≤ kj14) ∧ Aside0 (Kd.R (Kd.int .i64) 3 w' w.heap.size (fun _ => True) (.slice Ao27 y419.length co27) x5_2) ∧ Aside0 (Kd.S k82 82 w' w.heap.size (fun k_ => some k_ ≠ ((.slice Ao27 y419.length co27) : Value).ownBlock) v443 t441) ∧ Aside0 (Below w.heap.size w w'))
          case atStart => exact ⟨(y419), (0), (by first | rfl | (simp; done) | (simp [*]; done)), H', ⟨Nat.le_refl _⟩, ⟨by (with_reducible repeat (first | apply Kd.R_alloc | apply Kd.R_drewN | apply Kd.R_drew)); exact HO_5.out⟩, ⟨by (with_reducible repeat (first | apply Kd.S_alloc | apply Kd.S_drewN | apply Kd.S_drew)); exact HO_12.out⟩, ⟨by repeat (first | (with_reducible first | exact HB.out | apply below_alloc | apply pw_below_drewN | apply below_drew1) | exact HB.out)⟩⟩
          case round =>
           clear H'
           try clear c1
           try clear c2
           try clear p2
           try clear q2
           try clear c3
           try clear q3
           try clear c4
           try clear p4
           try clear q4
           try clear hx4
           try clear c5
           try clear q5
           try clear c6
           try clear c6b0
           try clear c6b1
           try clear c7
           try clear c7b0
           try clear c7b1
           try clear c8
           try clear c8b0
           try clear c8b1
           try clear c9
           try clear c9b0
           try clear c9b1
           try clear c12
           try clear c12b0
           try clear c13
           try clear c13b0
           try clear c22
           try clear c23
           try clear c24
           try clear q24
           try clear c25
           try clear q26
           try clear q30
           try clear c32
           try clear c32b0
           try clear c32b1
           try clear c33
           try clear c33b0
           try clear c33b1
           try clear c34
           try clear c34b0
           try clear c34b1
           try clear c35
           try clear c35b0
           try clear c35b1
           try clear c35b2
           try clear c37
           try clear c37b0
           try clear c38
           try clear c38b0
           try clear c40
           try clear c41
           try clear c41b0
           try clear c41b1
           try clear c42
           try clear c42b0
           try clear c42b1
           try clear p45
           try clear q45
           try clear hx45
           try clear q48
           try clear q50
           try clear c51
           try clear hx450_0
           try clear p2
           try clear p4
           try clear p45
           try clear p450
           try clear q2
           try clear q24
           try clear q26
           try clear q3
           try clear q30
           try clear q4
           try clear q45
           try clear q450
           try clear q48
           try clear q5
           try clear q50
           obtain ⟨x5_2, x94_2, rfl, HA, HK2, HO_5, HO_12, HB⟩ := hrel
           have hl5_2 := (Kd.R_reads' HO_5.out).1
           rw [hl5_2] at HO_5
           (try simp only [hl5_2])
           (try simp only [hl5_2] at HO_12)
           cases gk with
           | zero => exact absurd HA.out (by simp [sapperlaw13_SuffixChecks.l0])
           | succ k2 =>
            have H := HA.out
            clear HA
            simp only [sapperlaw13_SuffixChecks.l0] at H
            by_cases c52 : x94_2 < (y419.length : Int)
            ·rw [if_pos c52] at H
             have c52b0 : decide (x94_2 < (y419.length : Int)) = true := decide_eq_true c52
             clear c52
             by_cases c53 : 0 ≤ x94_2
             ·rw [if_pos c53] at H
              have c53b0 : decide (0 ≤ x94_2) = true := decide_eq_true c53
              clear c53
              by_cases c54 : x94_2 < (x5_2.length : Int)
              ·rw [if_pos c54] at H
               have c54b0 : decide (x94_2 < (x5_2.length : Int)) = true := decide_eq_true c54
               clear c54
               obtain ⟨y452, hy452⟩ : ∃ y_ : List Int, y_ = (x5_2.set (x94_2 : Int).toNat 0) := ⟨_, rfl⟩
               replace H : (sapperlaw13_SuffixChecks.l0 k2 l0 y452 t436 t441 (y419.length : Int) (wrap64 (x94_2 + 1))) = some r := by first | (rw [hy452]; with_reducible exact H) | (have H2_ := (Option.bind_some _ _).symm.trans H; rw [hy452]; with_reducible exact H2_) | (have H2_ := (Option.bind_some _ _).symm.trans H; with_reducible exact H2_) | with_reducible exact H | (rw [hy452]; exact H) | exact H
               have Ny452 := Aside0.mk hy452
               clear hy452
               have H' := Aside0.mk H
               clear H
               have p55 : 0 ≤ (x94_2 : Int) := of_decide_eq_true (by first | (with_reducible assumption) | assumption)
               have q55 : (x94_2 : Int) < ((x5_2.length : Int) : Int) := of_decide_eq_true (by first | (with_reducible assumption) | assumption)
               obtain ⟨go55, co55, eo55, gb55, gl55, cl55, HG55⟩ := Kd.R_form HO_5.out (by omega)
               (first | cases eo55 | (injection eo55 with ea_ en_ ec_; (first | subst ea_ | (injection ea_ with ea_; subst ea_)); subst ec_; clear en_))
               have GB55 := Aside0.mk gb55
               have GG55 := Aside0.mk HG55
               clear gb55 gl55 HG55
               obtain ⟨hx55_0, hf55_0⟩ := Kd.R_celln 0 HO_5.out (x94_2 : Int) p55 q55
               replace p55 := eq_true p55
               replace q55 := eq_true q55
               have HP56 := Kd.R_putg HO_5.out (x94_2 : Int) 0
               go_wp2_with (first | ((with_reducible refine gate_store (t := 3) (p := 99) rfl ?_); refine store_event (t := 3) (p := 99) (v := ?vo_w57) (w1 := (wr.setCell ⟨go55, (x94_2 : Int).toNat, none⟩ (.int .i64 0))) ?hg ?ho ?hn ?hr ?_; (case ho => rfl); (case hg => rfl); (case hn => rfl); (case hr => first | (go_simp; done) | (go_simp; rfl)); intro w57 hw; have hg : wr.grownBy w57 (some go55) := (by rw [hw]; exact HP56.2); have hp_ : Kd.R (Kd.int .i64) 3 w57 w.heap.size (fun _ => True) (.slice (some ⟨go55, 0, none⟩) x5_2.length co27) y452 := (by rw [hw, Ny452.out]; exact HP56.1); clear HP56; have n0_ := Aside0.mk (hp_); have n1_ := Aside0.mk (Kd.S_after (v := (.slice (some ⟨go55, 0, none⟩) x5_2.length co27)) (v1 := (.slice (some ⟨go55, 0, none⟩) x5_2.length co27)) (ok := (fun _ => True)) (by (with_reducible repeat (first | apply Kd.S_alloc | apply Kd.S_drewN | apply Kd.S_drew)); exact Kd.S_mono HO_12.out (fun _ hk => ⟨trivial, hk⟩)) hg (.inl rfl)); have n2_ := Aside0.mk ((by rw [hw]; exact below_set (HB.out) GB55.out : Below w.heap.size w w57)); clear HO_5; clear HO_12; clear HB; have HO_5 := n0_; have HO_12 := n1_; have HB := n2_; clear n0_ n1_ n2_; clear hg hw hp_))
               (try simp only [← hl5_2])
               go_roundg k2
               case measure => have := HJ14.out; have := HK2.out; omega
               case rel => exact ⟨(y452), (wrap64 (x94_2 + 1)), (by first | rfl | (simp; done) | (simp [*]; done)), H', ⟨by have := HJ14.out; have := HK2.out; omega⟩, ⟨by (try simp only [hl5_2]); (with_reducible repeat (first | apply Kd.R_alloc | apply Kd.R_drewN | apply Kd.R_drew)); exact HO_5.out⟩, ⟨by (try simp only [hl5_2]); (with_reducible repeat (first | apply Kd.S_alloc | apply Kd.S_drewN | apply Kd.S_drew)); exact Kd.S_mono HO_12.out (fun _ hk => hk.2)⟩, ⟨by repeat (first | (with_reducible first | exact HB.out | apply below_alloc | apply pw_below_drewN | apply below_drew1) | exact HB.out)⟩⟩
              ·rw [if_neg c54] at H
               exact absurd H (by simp)
             ·rw [if_neg c53] at H
              exact absurd H (by simp)
            ·rw [if_neg c52] at H
             have c52b0 : decide (x94_2 < (y419.length : Int)) = false := decide_eq_false c52
             (try rw [hl5_2] at c52b0)
             clear c52
             by_cases c58 : t436 = 0
             ·rw [if_pos c58] at H
              have c58b0 : (t436 == 0) = true := beq_iff_eq.mpr c58
              have c58b1 : (t436 != 0) = false := bne_eq_false_iff_eq.mpr c58
              clear c58
              replace H := Option.bind_eq_some_iff.mp H
              obtain ⟨t453, A590, H⟩ := H
              replace H : ((sapperref13_Array.f k2 l0).bind fun t456 => ((sapperlaw13_same.f k2 t453 t456).bind fun t459 => (if t459 = true then ((suffix_Index_Lcp.f t441).bind fun t460 => ((sapperref13_Lcp.f k2 l0).bind fun t463 => ((sapperlaw13_same.f k2 t460 t463).bind fun t466 => (if t466 = true then ((sapperlaw13_lives.f k2).bind fun t467 => (some t467)) else (some false))))) else (some false)))) = some r := H
              have A59 := Aside0.mk A590
              clear A590
              replace H := Option.bind_eq_some_iff.mp H
              obtain ⟨t456, A600, H⟩ := H
              replace H : ((sapperlaw13_same.f k2 t453 t456).bind fun t459 => (if t459 = true then ((suffix_Index_Lcp.f t441).bind fun t460 => ((sapperref13_Lcp.f k2 l0).bind fun t463 => ((sapperlaw13_same.f k2 t460 t463).bind fun t466 => (if t466 = true then ((sapperlaw13_lives.f k2).bind fun t467 => (some t467)) else (some false))))) else (some false))) = some r := H
              have A60 := Aside0.mk A600
              clear A600
              replace H := Option.bind_eq_some_iff.mp H
              obtain ⟨t459, A610, H⟩ := H
              replace H : (if t459 = true then ((suffix_Index_Lcp.f t441).bind fun t460 => ((sapperref13_Lcp.f k2 l0).bind fun t463 => ((sapperlaw13_same.f k2 t460 t463).bind fun t466 => (if t466 = true then ((sapperlaw13_lives.f k2).bind fun t467 => (some t467)) else (some false))))) else (some false)) = some r := H
              have A61 := Aside0.mk A610
              clear A610
              by_cases c62 : t459 = true
              ·subst c62
               have H1 : ((suffix_Index_Lcp.f t441).bind fun t460 => ((sapperref13_Lcp.f k2 l0).bind fun t463 => ((sapperlaw13_same.f k2 t460 t463).bind fun t466 => (if t466 = true then ((sapperlaw13_lives.f k2).bind fun t467 => (some t467)) else (some false))))) = some r := by rw [if_pos rfl] at H; exact H
               clear H
               have H := H1
               clear H1
               replace H := Option.bind_eq_some_iff.mp H
               obtain ⟨t460, A630, H⟩ := H
               replace H : ((sapperref13_Lcp.f k2 l0).bind fun t463 => ((sapperlaw13_same.f k2 t460 t463).bind fun t466 => (if t466 = true then ((sapperlaw13_lives.f k2).bind fun t467 => (some t467)) else (some false)))) = some r := H
               have A63 := Aside0.mk A630
               clear A630
               replace H := Option.bind_eq_some_iff.mp H
               obtain ⟨t463, A640, H⟩ := H
               replace H : ((sapperlaw13_same.f k2 t460 t463).bind fun t466 => (if t466 = true then ((sapperlaw13_lives.f k2).bind fun t467 => (some t467)) else (some false))) = some r := H
               have A64 := Aside0.mk A640
               clear A640
               replace H := Option.bind_eq_some_iff.mp H
               obtain ⟨t466, A650, H⟩ := H
               replace H : (if t466 = true then ((sapperlaw13_lives.f k2).bind fun t467 => (some t467)) else (some false)) = some r := H
               have A65 := Aside0.mk A650
               clear A650
               by_cases c66 : t466 = true
               ·subst c66
                have H1 : ((sapperlaw13_lives.f k2).bind fun t467 => (some t467)) = some r := by rw [if_pos rfl] at H; exact H
                clear H
                have H := H1
                clear H1
                replace H := Option.bind_eq_some_iff.mp H
                obtain ⟨t467, A670, H⟩ := H
                replace H : (some t467) = some r := H
                have A67 := Aside0.mk A670
                clear A670
                obtain rfl := Option.some.inj H
                obtain ⟨Ao68, co68, eo68⟩ := Kd.S_slice HO_12.out
                subst eo68
                go_wp2_with (first | (go_at_call 21; (with_reducible refine (suffix_Index_Array.calls _ _ t441 t453 _ ?side1 ?side2 A59.out).mono ?_); (case side1 => repeat (first | exact (Kd.S_reads' HO_12.out).2.2 | (with_reducible refine Kd.C_alloc ?_ _) | (with_reducible refine Kd.C_drewN ?_ _) | (with_reducible refine Kd.C_drew ?_))); (case side2 => exact (Kd.S_reads' HO_12.out).2.1); rintro e w69 ⟨v454, rfl, ho0, hb⟩; have n0_ := Aside0.mk (Kd.R_elder' (by (with_reducible repeat (first | apply Kd.R_alloc | apply Kd.R_drewN | apply Kd.R_drew)); exact HO_5.out) (Kd.R_base ho0) hb); have n1_ := Aside0.mk (Kd.S_elder' (by (with_reducible repeat (first | apply Kd.S_alloc | apply Kd.S_drewN | apply Kd.S_drew)); exact HO_12.out) (Kd.R_base ho0) hb); have n2_ := Aside0.mk (Kd.R_lower (Kd.R_new' ho0 (Kd.R_lt (by (with_reducible repeat (first | apply Kd.R_alloc | apply Kd.R_drewN | apply Kd.R_drew)); exact HO_5.out))) (below_size (by repeat (first | (with_reducible first | exact HB.out | apply below_alloc | apply pw_below_drewN | apply below_drew1) | exact HB.out)))); have n3_ := Aside0.mk (below_step (by repeat (first | (with_reducible first | exact HB.out | apply below_alloc | apply pw_below_drewN | apply below_drew1) | exact HB.out)) hb); clear HO_5; clear HO_12; clear HB; have HO_5 := n0_; have HO_12 := n1_; have HO455 := n2_; have HB := n3_; clear n0_ n1_ n2_ n3_; (try clear hb); (try clear hb2); (try clear hk); (try clear hi); (try clear ho0)) | (go_at_call 28; (with_reducible refine (sapperref13_Array.calls k2 _ _ l0 t456 _ ?side1 ?side2 A60.out).mono ?_); (case side1 => repeat (first | exact (Kd.C_below HR0.out HB.out) | (with_reducible refine Kd.C_alloc ?_ _) | (with_reducible refine Kd.C_drewN ?_ _) | (with_reducible refine Kd.C_drew ?_))); (case side2 => exact HC0.out); rintro e w70 ⟨v457, rfl, ho0, hb⟩; have n0_ := Aside0.mk (Kd.R_elder' (by (with_reducible repeat (first | apply Kd.R_alloc | apply Kd.R_drewN | apply Kd.R_drew)); exact HO_5.out) (Kd.R_base ho0) hb); have n1_ := Aside0.mk (Kd.S_elder' (by (with_reducible repeat (first | apply Kd.S_alloc | apply Kd.S_drewN | apply Kd.S_drew)); exact HO_12.out) (Kd.R_base ho0) hb); have n2_ := Aside0.mk (Kd.R_elder' (by (with_reducible repeat (first | apply Kd.R_alloc | apply Kd.R_drewN | apply Kd.R_drew)); exact HO455.out) (Kd.R_base ho0) hb); have n3_ := Aside0.mk (Kd.R_lower (Kd.R_new' (Kd.R_new' ho0 (Kd.R_lt (by (with_reducible repeat (first | apply Kd.R_alloc | apply Kd.R_drewN | apply Kd.R_drew)); exact HO_5.out))) (Kd.R_lt (by (with_reducible repeat (first | apply Kd.R_alloc | apply Kd.R_drewN | apply Kd.R_drew)); exact HO455.out))) (below_size (by repeat (first | (with_reducible first | exact HB.out | apply below_alloc | apply pw_below_drewN | apply below_drew1) | exact HB.out)))); have n4_ := Aside0.mk (below_step (by repeat (first | (with_reducible first | exact HB.out | apply below_alloc | apply pw_below_drewN | apply below_drew1) | exact HB.out)) hb); clear HO_5; clear HO_12; clear HO455; clear HB; have HO_5 := n0_; have HO_12 := n1_; have HO455 := n2_; have HO458 := n3_; have HB := n4_; clear n0_ n1_ n2_ n3_ n4_; (try clear hb); (try clear hb2); (try clear hk); (try clear hi); (try clear ho0); obtain ⟨Ao71, co71, eo71⟩ := Kd.R_slice HO455.out; subst eo71; obtain ⟨Ao72, co72, eo72⟩ := Kd.R_slice HO458.out; subst eo72) | (go_at_call 26; (with_reducible refine (sapperlaw13_same.calls k2 _ _ t453 _ _ t456 true _ ?side1 ?side2 ?side3 ?side4 A61.out).mono ?_); (case side1 => repeat (first | exact (Kd.R_reads' HO455.out).2.2 | (with_reducible refine Kd.C_alloc ?_ _) | (with_reducible refine Kd.C_drewN ?_ _) | (with_reducible refine Kd.C_drew ?_))); (case side2 => exact (Kd.R_reads' HO455.out).2.1); (case side3 => repeat (first | exact (Kd.R_reads' HO458.out).2.2 | (with_reducible refine Kd.C_alloc ?_ _) | (with_reducible refine Kd.C_drewN ?_ _) | (with_reducible refine Kd.C_drew ?_))); (case side4 => exact (Kd.R_reads' HO458.out).2.1); rintro e w' ⟨rfl, ⟨nd, rfl⟩⟩) | (go_at_call 20; (with_reducible refine (suffix_Index_Lcp.calls _ _ t441 t460 _ ?side1 ?side2 A63.out).mono ?_); (case side1 => repeat (first | exact (Kd.S_reads' HO_12.out).2.2 | (with_reducible refine Kd.C_alloc ?_ _) | (with_reducible refine Kd.C_drewN ?_ _) | (with_reducible refine Kd.C_drew ?_))); (case side2 => exact (Kd.S_reads' HO_12.out).2.1); rintro e w73 ⟨v461, rfl, ho0, hb⟩; have n0_ := Aside0.mk (Kd.R_elder' (by (with_reducible repeat (first | apply Kd.R_alloc | apply Kd.R_drewN | apply Kd.R_drew)); exact HO_5.out) (Kd.R_base ho0) hb); have n1_ := Aside0.mk (Kd.S_elder' (by (with_reducible repeat (first | apply Kd.S_alloc | apply Kd.S_drewN | apply Kd.S_drew)); exact HO_12.out) (Kd.R_base ho0) hb); have n2_ := Aside0.mk (Kd.R_elder' (by (with_reducible repeat (first | apply Kd.R_alloc | apply Kd.R_drewN | apply Kd.R_drew)); exact HO455.out) (Kd.R_base ho0) hb); have n3_ := Aside0.mk (Kd.R_elder' (by (with_reducible repeat (first | apply Kd.R_alloc | apply Kd.R_drewN | apply Kd.R_drew)); exact HO458.out) (Kd.R_base ho0) hb); have n4_ := Aside0.mk (Kd.R_lower (Kd.R_new' (Kd.R_new' (Kd.R_new' ho0 (Kd.R_lt (by (with_reducible repeat (first | apply Kd.R_alloc | apply Kd.R_drewN | apply Kd.R_drew)); exact HO_5.out))) (Kd.R_lt (by (with_reducible repeat (first | apply Kd.R_alloc | apply Kd.R_drewN | apply Kd.R_drew)); exact HO455.out))) (Kd.R_lt (by (with_reducible repeat (first | apply Kd.R_alloc | apply Kd.R_drewN | apply Kd.R_drew)); exact HO458.out))) (below_size (by repeat (first | (with_reducible first | exact HB.out | apply below_alloc | apply pw_below_drewN | apply below_drew1) | exact HB.out)))); have n5_ := Aside0.mk (below_step (by repeat (first | (with_reducible first | exact HB.out | apply below_alloc | apply pw_below_drewN | apply below_drew1) | exact HB.out)) hb); clear HO_5; clear HO_12; clear HO455; clear HO458; clear HB; have HO_5 := n0_; have HO_12 := n1_; have HO455 := n2_; have HO458 := n3_; have HO462 := n4_; have HB := n5_; clear n0_ n1_ n2_ n3_ n4_ n5_; (try clear hb); (try clear hb2); (try clear hk); (try clear hi); (try clear ho0)) | (go_at_call 29; (with_reducible refine (sapperref13_Lcp.calls k2 _ _ l0 t463 _ ?side1 ?side2 A64.out).mono ?_); (case side1 => repeat (first | exact (Kd.C_below HR0.out HB.out) | (with_reducible refine Kd.C_alloc ?_ _) | (with_reducible refine Kd.C_drewN ?_ _) | (with_reducible refine Kd.C_drew ?_))); (case side2 => exact HC0.out); rintro e w74 ⟨v464, rfl, ho0, hb⟩; have n0_ := Aside0.mk (Kd.R_elder' (by (with_reducible repeat (first | apply Kd.R_alloc | apply Kd.R_drewN | apply Kd.R_drew)); exact HO_5.out) (Kd.R_base ho0) hb); have n1_ := Aside0.mk (Kd.S_elder' (by (with_reducible repeat (first | apply Kd.S_alloc | apply Kd.S_drewN | apply Kd.S_drew)); exact HO_12.out) (Kd.R_base ho0) hb); have n2_ := Aside0.mk (Kd.R_elder' (by (with_reducible repeat (first | apply Kd.R_alloc | apply Kd.R_drewN | apply Kd.R_drew)); exact HO455.out) (Kd.R_base ho0) hb); have n3_ := Aside0.mk (Kd.R_elder' (by (with_reducible repeat (first | apply Kd.R_alloc | apply Kd.R_drewN | apply Kd.R_drew)); exact HO458.out) (Kd.R_base ho0) hb); have n4_ := Aside0.mk (Kd.R_elder' (by (with_reducible repeat (first | apply Kd.R_alloc | apply Kd.R_drewN | apply Kd.R_drew)); exact HO462.out) (Kd.R_base ho0) hb); have n5_ := Aside0.mk (Kd.R_lower (Kd.R_new' (Kd.R_new' (Kd.R_new' (Kd.R_new' ho0 (Kd.R_lt (by (with_reducible repeat (first | apply Kd.R_alloc | apply Kd.R_drewN | apply Kd.R_drew)); exact HO_5.out))) (Kd.R_lt (by (with_reducible repeat (first | apply Kd.R_alloc | apply Kd.R_drewN | apply Kd.R_drew)); exact HO455.out))) (Kd.R_lt (by (with_reducible repeat (first | apply Kd.R_alloc | apply Kd.R_drewN | apply Kd.R_drew)); exact HO458.out))) (Kd.R_lt (by (with_reducible repeat (first | apply Kd.R_alloc | apply Kd.R_drewN | apply Kd.R_drew)); exact HO462.out))) (below_size (by repeat (first | (with_reducible first | exact HB.out | apply below_alloc | apply pw_below_drewN | apply below_drew1) | exact HB.out)))); have n6_ := Aside0.mk (below_step (by repeat (first | (with_reducible first | exact HB.out | apply below_alloc | apply pw_below_drewN | apply below_drew1) | exact HB.out)) hb); clear HO_5; clear HO_12; clear HO455; clear HO458; clear HO462; clear HB; have HO_5 := n0_; have HO_12 := n1_; have HO455 := n2_; have HO458 := n3_; have HO462 := n4_; have HO465 := n5_; have HB := n6_; clear n0_ n1_ n2_ n3_ n4_ n5_ n6_; (try clear hb); (try clear hb2); (try clear hk); (try clear hi); (try clear ho0); obtain ⟨Ao75, co75, eo75⟩ := Kd.R_slice HO462.out; subst eo75; obtain ⟨Ao76, co76, eo76⟩ := Kd.R_slice HO465.out; subst eo76) | (go_at_call 26; (with_reducible refine (sapperlaw13_same.calls k2 _ _ t460 _ _ t463 true _ ?side1 ?side2 ?side3 ?side4 A65.out).mono ?_); (case side1 => repeat (first | exact (Kd.R_reads' HO462.out).2.2 | (with_reducible refine Kd.C_alloc ?_ _) | (with_reducible refine Kd.C_drewN ?_ _) | (with_reducible refine Kd.C_drew ?_))); (case side2 => exact (Kd.R_reads' HO462.out).2.1); (case side3 => repeat (first | exact (Kd.R_reads' HO465.out).2.2 | (with_reducible refine Kd.C_alloc ?_ _) | (with_reducible refine Kd.C_drewN ?_ _) | (with_reducible refine Kd.C_drew ?_))); (case side4 => exact (Kd.R_reads' HO465.out).2.1); rintro e w' ⟨rfl, ⟨nd, rfl⟩⟩) | ((with_reducible refine gate_callee (f := 15) rfl ?_); refine goesL_ (some 119) rfl rfl Try.func15 (by kernel_rfl) rfl #[] rfl (by (try simp only [List.map_toArray, List.map_cons, List.map_nil]); first | done | rfl | (simp only [List.length_drop, List.length_take]; rfl)) ?_; (with_reducible refine (sapperlaw13_lives.calls k2  t467 _ A67.out).mono ?_); rintro e w77 ⟨rfl, hb⟩; refine ⟨_, rfl, ?_⟩; have n0_ := Aside0.mk (Kd.R_below (by (with_reducible repeat (first | apply Kd.R_alloc | apply Kd.R_drewN | apply Kd.R_drew)); exact HO_5.out) hb); have n1_ := Aside0.mk (Kd.S_below (by (with_reducible repeat (first | apply Kd.S_alloc | apply Kd.S_drewN | apply Kd.S_drew)); exact HO_12.out) hb); have n2_ := Aside0.mk (Kd.R_below (by (with_reducible repeat (first | apply Kd.R_alloc | apply Kd.R_drewN | apply Kd.R_drew)); exact HO455.out) hb); have n3_ := Aside0.mk (Kd.R_below (by (with_reducible repeat (first | apply Kd.R_alloc | apply Kd.R_drewN | apply Kd.R_drew)); exact HO458.out) hb); have n4_ := Aside0.mk (Kd.R_below (by (with_reducible repeat (first | apply Kd.R_alloc | apply Kd.R_drewN | apply Kd.R_drew)); exact HO462.out) hb); have n5_ := Aside0.mk (Kd.R_below (by (with_reducible repeat (first | apply Kd.R_alloc | apply Kd.R_drewN | apply Kd.R_drew)); exact HO465.out) hb); have n6_ := Aside0.mk (below_step (by repeat (first | (with_reducible first | exact HB.out | apply below_alloc | apply pw_below_drewN | apply below_drew1) | exact HB.out)) hb); clear HO_5; clear HO_12; clear HO455; clear HO458; clear HO462; clear HO465; clear HB; have HO_5 := n0_; have HO_12 := n1_; have HO455 := n2_; have HO458 := n3_; have HO462 := n4_; have HO465 := n5_; have HB := n6_; clear n0_ n1_ n2_ n3_ n4_ n5_ n6_; (try clear hb); (try clear hb2); (try clear hk); (try clear hi)))
                go_ret
                exact ⟨by first | rfl | (simp [errW_none, errW_some] <;> rfl) | (simp [*, errW_none, errW_some] <;> rfl), by repeat (first | (with_reducible first | exact HB.out | apply below_alloc | apply pw_below_drewN | apply below_drew1) | exact HB.out)⟩
               ·replace c66 := Bool.eq_false_iff.mpr c66
                subst c66
                have H1 : (some false) = some r := by rw [if_neg (show ¬ (false = true) by decide)] at H; exact H
                clear H
                have H := H1
                clear H1
                obtain rfl := Option.some.inj H
                obtain ⟨Ao78, co78, eo78⟩ := Kd.S_slice HO_12.out
                subst eo78
                go_wp2_with (first | (go_at_call 21; (with_reducible refine (suffix_Index_Array.calls _ _ t441 t453 _ ?side1 ?side2 A59.out).mono ?_); (case side1 => repeat (first | exact (Kd.S_reads' HO_12.out).2.2 | (with_reducible refine Kd.C_alloc ?_ _) | (with_reducible refine Kd.C_drewN ?_ _) | (with_reducible refine Kd.C_drew ?_))); (case side2 => exact (Kd.S_reads' HO_12.out).2.1); rintro e w79 ⟨v454, rfl, ho0, hb⟩; have n0_ := Aside0.mk (Kd.R_elder' (by (with_reducible repeat (first | apply Kd.R_alloc | apply Kd.R_drewN | apply Kd.R_drew)); exact HO_5.out) (Kd.R_base ho0) hb); have n1_ := Aside0.mk (Kd.S_elder' (by (with_reducible repeat (first | apply Kd.S_alloc | apply Kd.S_drewN | apply Kd.S_drew)); exact HO_12.out) (Kd.R_base ho0) hb); have n2_ := Aside0.mk (Kd.R_lower (Kd.R_new' ho0 (Kd.R_lt (by (with_reducible repeat (first | apply Kd.R_alloc | apply Kd.R_drewN | apply Kd.R_drew)); exact HO_5.out))) (below_size (by repeat (first | (with_reducible first | exact HB.out | apply below_alloc | apply pw_below_drewN | apply below_drew1) | exact HB.out)))); have n3_ := Aside0.mk (below_step (by repeat (first | (with_reducible first | exact HB.out | apply below_alloc | apply pw_below_drewN | apply below_drew1) | exact HB.out)) hb); clear HO_5; clear HO_12; clear HB; have HO_5 := n0_; have HO_12 := n1_; have HO455 := n2_; have HB := n3_; clear n0_ n1_ n2_ n3_; (try clear hb); (try clear hb2); (try clear hk); (try clear hi); (try clear ho0)) | (go_at_call 28; (with_reducible refine (sapperref13_Array.calls k2 _ _ l0 t456 _ ?side1 ?side2 A60.out).mono ?_); (case side1 => repeat (first | exact (Kd.C_below HR0.out HB.out) | (with_reducible refine Kd.C_alloc ?_ _) | (with_reducible refine Kd.C_drewN ?_ _) | (with_reducible refine Kd.C_drew ?_))); (case side2 => exact HC0.out); rintro e w80 ⟨v457, rfl, ho0, hb⟩; have n0_ := Aside0.mk (Kd.R_elder' (by (with_reducible repeat (first | apply Kd.R_alloc | apply Kd.R_drewN | apply Kd.R_drew)); exact HO_5.out) (Kd.R_base ho0) hb); have n1_ := Aside0.mk (Kd.S_elder' (by (with_reducible repeat (first | apply Kd.S_alloc | apply Kd.S_drewN | apply Kd.S_drew)); exact HO_12.out) (Kd.R_base ho0) hb); have n2_ := Aside0.mk (Kd.R_elder' (by (with_reducible repeat (first | apply Kd.R_alloc | apply Kd.R_drewN | apply Kd.R_drew)); exact HO455.out) (Kd.R_base ho0) hb); have n3_ := Aside0.mk (Kd.R_lower (Kd.R_new' (Kd.R_new' ho0 (Kd.R_lt (by (with_reducible repeat (first | apply Kd.R_alloc | apply Kd.R_drewN | apply Kd.R_drew)); exact HO_5.out))) (Kd.R_lt (by (with_reducible repeat (first | apply Kd.R_alloc | apply Kd.R_drewN | apply Kd.R_drew)); exact HO455.out))) (below_size (by repeat (first | (with_reducible first | exact HB.out | apply below_alloc | apply pw_below_drewN | apply below_drew1) | exact HB.out)))); have n4_ := Aside0.mk (below_step (by repeat (first | (with_reducible first | exact HB.out | apply below_alloc | apply pw_below_drewN | apply below_drew1) | exact HB.out)) hb); clear HO_5; clear HO_12; clear HO455; clear HB; have HO_5 := n0_; have HO_12 := n1_; have HO455 := n2_; have HO458 := n3_; have HB := n4_; clear n0_ n1_ n2_ n3_ n4_; (try clear hb); (try clear hb2); (try clear hk); (try clear hi); (try clear ho0); obtain ⟨Ao81, co81, eo81⟩ := Kd.R_slice HO455.out; subst eo81; obtain ⟨Ao82, co82, eo82⟩ := Kd.R_slice HO458.out; subst eo82) | (go_at_call 26; (with_reducible refine (sapperlaw13_same.calls k2 _ _ t453 _ _ t456 true _ ?side1 ?side2 ?side3 ?side4 A61.out).mono ?_); (case side1 => repeat (first | exact (Kd.R_reads' HO455.out).2.2 | (with_reducible refine Kd.C_alloc ?_ _) | (with_reducible refine Kd.C_drewN ?_ _) | (with_reducible refine Kd.C_drew ?_))); (case side2 => exact (Kd.R_reads' HO455.out).2.1); (case side3 => repeat (first | exact (Kd.R_reads' HO458.out).2.2 | (with_reducible refine Kd.C_alloc ?_ _) | (with_reducible refine Kd.C_drewN ?_ _) | (with_reducible refine Kd.C_drew ?_))); (case side4 => exact (Kd.R_reads' HO458.out).2.1); rintro e w' ⟨rfl, ⟨nd, rfl⟩⟩) | (go_at_call 20; (with_reducible refine (suffix_Index_Lcp.calls _ _ t441 t460 _ ?side1 ?side2 A63.out).mono ?_); (case side1 => repeat (first | exact (Kd.S_reads' HO_12.out).2.2 | (with_reducible refine Kd.C_alloc ?_ _) | (with_reducible refine Kd.C_drewN ?_ _) | (with_reducible refine Kd.C_drew ?_))); (case side2 => exact (Kd.S_reads' HO_12.out).2.1); rintro e w83 ⟨v461, rfl, ho0, hb⟩; have n0_ := Aside0.mk (Kd.R_elder' (by (with_reducible repeat (first | apply Kd.R_alloc | apply Kd.R_drewN | apply Kd.R_drew)); exact HO_5.out) (Kd.R_base ho0) hb); have n1_ := Aside0.mk (Kd.S_elder' (by (with_reducible repeat (first | apply Kd.S_alloc | apply Kd.S_drewN | apply Kd.S_drew)); exact HO_12.out) (Kd.R_base ho0) hb); have n2_ := Aside0.mk (Kd.R_elder' (by (with_reducible repeat (first | apply Kd.R_alloc | apply Kd.R_drewN | apply Kd.R_drew)); exact HO455.out) (Kd.R_base ho0) hb); have n3_ := Aside0.mk (Kd.R_elder' (by (with_reducible repeat (first | apply Kd.R_alloc | apply Kd.R_drewN | apply Kd.R_drew)); exact HO458.out) (Kd.R_base ho0) hb); have n4_ := Aside0.mk (Kd.R_lower (Kd.R_new' (Kd.R_new' (Kd.R_new' ho0 (Kd.R_lt (by (with_reducible repeat (first | apply Kd.R_alloc | apply Kd.R_drewN | apply Kd.R_drew)); exact HO_5.out))) (Kd.R_lt (by (with_reducible repeat (first | apply Kd.R_alloc | apply Kd.R_drewN | apply Kd.R_drew)); exact HO455.out))) (Kd.R_lt (by (with_reducible repeat (first | apply Kd.R_alloc | apply Kd.R_drewN | apply Kd.R_drew)); exact HO458.out))) (below_size (by repeat (first | (with_reducible first | exact HB.out | apply below_alloc | apply pw_below_drewN | apply below_drew1) | exact HB.out)))); have n5_ := Aside0.mk (below_step (by repeat (first | (with_reducible first | exact HB.out | apply below_alloc | apply pw_below_drewN | apply below_drew1) | exact HB.out)) hb); clear HO_5; clear HO_12; clear HO455; clear HO458; clear HB; have HO_5 := n0_; have HO_12 := n1_; have HO455 := n2_; have HO458 := n3_; have HO462 := n4_; have HB := n5_; clear n0_ n1_ n2_ n3_ n4_ n5_; (try clear hb); (try clear hb2); (try clear hk); (try clear hi); (try clear ho0)) | (go_at_call 29; (with_reducible refine (sapperref13_Lcp.calls k2 _ _ l0 t463 _ ?side1 ?side2 A64.out).mono ?_); (case side1 => repeat (first | exact (Kd.C_below HR0.out HB.out) | (with_reducible refine Kd.C_alloc ?_ _) | (with_reducible refine Kd.C_drewN ?_ _) | (with_reducible refine Kd.C_drew ?_))); (case side2 => exact HC0.out); rintro e w84 ⟨v464, rfl, ho0, hb⟩; have n0_ := Aside0.mk (Kd.R_elder' (by (with_reducible repeat (first | apply Kd.R_alloc | apply Kd.R_drewN | apply Kd.R_drew)); exact HO_5.out) (Kd.R_base ho0) hb); have n1_ := Aside0.mk (Kd.S_elder' (by (with_reducible repeat (first | apply Kd.S_alloc | apply Kd.S_drewN | apply Kd.S_drew)); exact HO_12.out) (Kd.R_base ho0) hb); have n2_ := Aside0.mk (Kd.R_elder' (by (with_reducible repeat (first | apply Kd.R_alloc | apply Kd.R_drewN | apply Kd.R_drew)); exact HO455.out) (Kd.R_base ho0) hb); have n3_ := Aside0.mk (Kd.R_elder' (by (with_reducible repeat (first | apply Kd.R_alloc | apply Kd.R_drewN | apply Kd.R_drew)); exact HO458.out) (Kd.R_base ho0) hb); have n4_ := Aside0.mk (Kd.R_elder' (by (with_reducible repeat (first | apply Kd.R_alloc | apply Kd.R_drewN | apply Kd.R_drew)); exact HO462.out) (Kd.R_base ho0) hb); have n5_ := Aside0.mk (Kd.R_lower (Kd.R_new' (Kd.R_new' (Kd.R_new' (Kd.R_new' ho0 (Kd.R_lt (by (with_reducible repeat (first | apply Kd.R_alloc | apply Kd.R_drewN | apply Kd.R_drew)); exact HO_5.out))) (Kd.R_lt (by (with_reducible repeat (first | apply Kd.R_alloc | apply Kd.R_drewN | apply Kd.R_drew)); exact HO455.out))) (Kd.R_lt (by (with_reducible repeat (first | apply Kd.R_alloc | apply Kd.R_drewN | apply Kd.R_drew)); exact HO458.out))) (Kd.R_lt (by (with_reducible repeat (first | apply Kd.R_alloc | apply Kd.R_drewN | apply Kd.R_drew)); exact HO462.out))) (below_size (by repeat (first | (with_reducible first | exact HB.out | apply below_alloc | apply pw_below_drewN | apply below_drew1) | exact HB.out)))); have n6_ := Aside0.mk (below_step (by repeat (first | (with_reducible first | exact HB.out | apply below_alloc | apply pw_below_drewN | apply below_drew1) | exact HB.out)) hb); clear HO_5; clear HO_12; clear HO455; clear HO458; clear HO462; clear HB; have HO_5 := n0_; have HO_12 := n1_; have HO455 := n2_; have HO458 := n3_; have HO462 := n4_; have HO465 := n5_; have HB := n6_; clear n0_ n1_ n2_ n3_ n4_ n5_ n6_; (try clear hb); (try clear hb2); (try clear hk); (try clear hi); (try clear ho0); obtain ⟨Ao85, co85, eo85⟩ := Kd.R_slice HO462.out; subst eo85; obtain ⟨Ao86, co86, eo86⟩ := Kd.R_slice HO465.out; subst eo86) | (go_at_call 26; (with_reducible refine (sapperlaw13_same.calls k2 _ _ t460 _ _ t463 false _ ?side1 ?side2 ?side3 ?side4 A65.out).mono ?_); (case side1 => repeat (first | exact (Kd.R_reads' HO462.out).2.2 | (with_reducible refine Kd.C_alloc ?_ _) | (with_reducible refine Kd.C_drewN ?_ _) | (with_reducible refine Kd.C_drew ?_))); (case side2 => exact (Kd.R_reads' HO462.out).2.1); (case side3 => repeat (first | exact (Kd.R_reads' HO465.out).2.2 | (with_reducible refine Kd.C_alloc ?_ _) | (with_reducible refine Kd.C_drewN ?_ _) | (with_reducible refine Kd.C_drew ?_))); (case side4 => exact (Kd.R_reads' HO465.out).2.1); rintro e w' ⟨rfl, ⟨nd, rfl⟩⟩))
                go_ret
                exact ⟨by first | rfl | (simp [errW_none, errW_some] <;> rfl) | (simp [*, errW_none, errW_some] <;> rfl), by repeat (first | (with_reducible first | exact HB.out | apply below_alloc | apply pw_below_drewN | apply below_drew1) | exact HB.out)⟩
              ·replace c62 := Bool.eq_false_iff.mpr c62
               subst c62
               have H1 : (some false) = some r := by rw [if_neg (show ¬ (false = true) by decide)] at H; exact H
               clear H
               have H := H1
               clear H1
               obtain rfl := Option.some.inj H
               obtain ⟨Ao87, co87, eo87⟩ := Kd.S_slice HO_12.out
               subst eo87
               go_wp2_with (first | (go_at_call 21; (with_reducible refine (suffix_Index_Array.calls _ _ t441 t453 _ ?side1 ?side2 A59.out).mono ?_); (case side1 => repeat (first | exact (Kd.S_reads' HO_12.out).2.2 | (with_reducible refine Kd.C_alloc ?_ _) | (with_reducible refine Kd.C_drewN ?_ _) | (with_reducible refine Kd.C_drew ?_))); (case side2 => exact (Kd.S_reads' HO_12.out).2.1); rintro e w88 ⟨v454, rfl, ho0, hb⟩; have n0_ := Aside0.mk (Kd.R_elder' (by (with_reducible repeat (first | apply Kd.R_alloc | apply Kd.R_drewN | apply Kd.R_drew)); exact HO_5.out) (Kd.R_base ho0) hb); have n1_ := Aside0.mk (Kd.S_elder' (by (with_reducible repeat (first | apply Kd.S_alloc | apply Kd.S_drewN | apply Kd.S_drew)); exact HO_12.out) (Kd.R_base ho0) hb); have n2_ := Aside0.mk (Kd.R_lower (Kd.R_new' ho0 (Kd.R_lt (by (with_reducible repeat (first | apply Kd.R_alloc | apply Kd.R_drewN | apply Kd.R_drew)); exact HO_5.out))) (below_size (by repeat (first | (with_reducible first | exact HB.out | apply below_alloc | apply pw_below_drewN | apply below_drew1) | exact HB.out)))); have n3_ := Aside0.mk (below_step (by repeat (first | (with_reducible first | exact HB.out | apply below_alloc | apply pw_below_drewN | apply below_drew1) | exact HB.out)) hb); clear HO_5; clear HO_12; clear HB; have HO_5 := n0_; have HO_12 := n1_; have HO455 := n2_; have HB := n3_; clear n0_ n1_ n2_ n3_; (try clear hb); (try clear hb2); (try clear hk); (try clear hi); (try clear ho0)) | (go_at_call 28; (with_reducible refine (sapperref13_Array.calls k2 _ _ l0 t456 _ ?side1 ?side2 A60.out).mono ?_); (case side1 => repeat (first | exact (Kd.C_below HR0.out HB.out) | (with_reducible refine Kd.C_alloc ?_ _) | (with_reducible refine Kd.C_drewN ?_ _) | (with_reducible refine Kd.C_drew ?_))); (case side2 => exact HC0.out); rintro e w89 ⟨v457, rfl, ho0, hb⟩; have n0_ := Aside0.mk (Kd.R_elder' (by (with_reducible repeat (first | apply Kd.R_alloc | apply Kd.R_drewN | apply Kd.R_drew)); exact HO_5.out) (Kd.R_base ho0) hb); have n1_ := Aside0.mk (Kd.S_elder' (by (with_reducible repeat (first | apply Kd.S_alloc | apply Kd.S_drewN | apply Kd.S_drew)); exact HO_12.out) (Kd.R_base ho0) hb); have n2_ := Aside0.mk (Kd.R_elder' (by (with_reducible repeat (first | apply Kd.R_alloc | apply Kd.R_drewN | apply Kd.R_drew)); exact HO455.out) (Kd.R_base ho0) hb); have n3_ := Aside0.mk (Kd.R_lower (Kd.R_new' (Kd.R_new' ho0 (Kd.R_lt (by (with_reducible repeat (first | apply Kd.R_alloc | apply Kd.R_drewN | apply Kd.R_drew)); exact HO_5.out))) (Kd.R_lt (by (with_reducible repeat (first | apply Kd.R_alloc | apply Kd.R_drewN | apply Kd.R_drew)); exact HO455.out))) (below_size (by repeat (first | (with_reducible first | exact HB.out | apply below_alloc | apply pw_below_drewN | apply below_drew1) | exact HB.out)))); have n4_ := Aside0.mk (below_step (by repeat (first | (with_reducible first | exact HB.out | apply below_alloc | apply pw_below_drewN | apply below_drew1) | exact HB.out)) hb); clear HO_5; clear HO_12; clear HO455; clear HB; have HO_5 := n0_; have HO_12 := n1_; have HO455 := n2_; have HO458 := n3_; have HB := n4_; clear n0_ n1_ n2_ n3_ n4_; (try clear hb); (try clear hb2); (try clear hk); (try clear hi); (try clear ho0); obtain ⟨Ao90, co90, eo90⟩ := Kd.R_slice HO455.out; subst eo90; obtain ⟨Ao91, co91, eo91⟩ := Kd.R_slice HO458.out; subst eo91) | (go_at_call 26; (with_reducible refine (sapperlaw13_same.calls k2 _ _ t453 _ _ t456 false _ ?side1 ?side2 ?side3 ?side4 A61.out).mono ?_); (case side1 => repeat (first | exact (Kd.R_reads' HO455.out).2.2 | (with_reducible refine Kd.C_alloc ?_ _) | (with_reducible refine Kd.C_drewN ?_ _) | (with_reducible refine Kd.C_drew ?_))); (case side2 => exact (Kd.R_reads' HO455.out).2.1); (case side3 => repeat (first | exact (Kd.R_reads' HO458.out).2.2 | (with_reducible refine Kd.C_alloc ?_ _) | (with_reducible refine Kd.C_drewN ?_ _) | (with_reducible refine Kd.C_drew ?_))); (case side4 => exact (Kd.R_reads' HO458.out).2.1); rintro e w' ⟨rfl, ⟨nd, rfl⟩⟩))
               go_ret
               exact ⟨by first | rfl | (simp [errW_none, errW_some] <;> rfl) | (simp [*, errW_none, errW_some] <;> rfl), by repeat (first | (with_reducible first | exact HB.out | apply below_alloc | apply pw_below_drewN | apply below_drew1) | exact HB.out)⟩
             ·rw [if_neg c58] at H
              have c58b0 : (t436 == 0) = false := beq_eq_false_iff_ne.mpr c58
              have c58b1 : (t436 != 0) = true := bne_iff_ne.mpr c58
              replace H := Option.bind_eq_some_iff.mp H
              obtain ⟨t468, A920, H⟩ := H
              replace H : (some t468) = some r := H
              have A92 := Aside0.mk A920
              clear A920
              obtain rfl := Option.some.inj H
              go_wp2_with (first | ((with_reducible refine gate_callee (f := 15) rfl ?_); refine goesL_ (some 119) rfl rfl Try.func15 (by kernel_rfl) rfl #[] rfl (by (try simp only [List.map_toArray, List.map_cons, List.map_nil]); first | done | rfl | (simp only [List.length_drop, List.length_take]; rfl)) ?_; (with_reducible refine (sapperlaw13_lives.calls k2  t468 _ A92.out).mono ?_); rintro e w93 ⟨rfl, hb⟩; refine ⟨_, rfl, ?_⟩; have n0_ := Aside0.mk (Kd.R_below (by (with_reducible repeat (first | apply Kd.R_alloc | apply Kd.R_drewN | apply Kd.R_drew)); exact HO_5.out) hb); have n1_ := Aside0.mk (Kd.S_below (by (with_reducible repeat (first | apply Kd.S_alloc | apply Kd.S_drewN | apply Kd.S_drew)); exact HO_12.out) hb); have n2_ := Aside0.mk (below_step (by repeat (first | (with_reducible first | exact HB.out | apply below_alloc | apply pw_below_drewN | apply below_drew1) | exact HB.out)) hb); clear HO_5; clear HO_12; clear HB; have HO_5 := n0_; have HO_12 := n1_; have HB := n2_; clear n0_ n1_ n2_; (try clear hb); (try clear hb2); (try clear hk); (try clear hi)))
              go_ret
              exact ⟨by first | rfl | (simp [errW_none, errW_some] <;> rfl) | (simp [*, errW_none, errW_some] <;> rfl), by repeat (first | (with_reducible first | exact HB.out | apply below_alloc | apply pw_below_drewN | apply below_drew1) | exact HB.out)⟩
      ·rw [if_neg c9] at H
       exact absurd H (by simp)
     ·rw [if_neg c8] at H
      exact absurd H (by simp)
    ·rw [if_neg c7] at H
     exact absurd H (by simp)
   ·rw [if_neg c6] at H
    exact absurd H (by simp)
  ·rw [if_neg c4] at H
   exact absurd H (by simp)
 ·rw [if_neg c3] at H
  exact absurd H (by simp)

/-- THE ONE PURE STATEMENT of sapperlaw13_SuffixChecks: yours. -/
def sapperlaw13_SuffixChecks.Pure : Prop := ∀ (l0 : List Int) (l1 : List Int), l0.length ≤ maxLen → l0.length * 1 ≤ 140737488351232 → (∀ x ∈ l0, (Lit.int .u8 x).wf = true) → l1.length ≤ maxLen → l1.length * 8 ≤ 140737488351232 → (∀ x ∈ l1, (Lit.int .i64 x).wf = true) → ∃ k, sapperlaw13_SuffixChecks.f k l0 l1 = some true
theorem sapperlaw13_SuffixChecks.walk (P : sapperlaw13_SuffixChecks.Pure) (a0 : Option Addr) (len0 cap0 : Nat) (z0 : List Int) (a1 : Option Addr) (len1 cap1 : Nat) (z1 : List Int) (w : World) (w0 : (a0 = none ∧ len0 = 0 ∧ cap0 = 0 ∧ z0 = []) ∨ ∃ x, a0 = some x ∧ len0 ≤ cap0 ∧ cap0 ≤ maxLen ∧ z0.length = cap0 ∧ (∀ i, i < z0.length → w.cell? (x.add i) = some (.int .u8 (z0.getD i 0))) ∧ ∀ n ∈ z0, (Lit.int .u8 n).wf = true) (y0 : len0 * 1 ≤ 140737488351232) (w1 : (a1 = none ∧ len1 = 0 ∧ cap1 = 0 ∧ z1 = []) ∨ ∃ x, a1 = some x ∧ len1 ≤ cap1 ∧ cap1 ≤ maxLen ∧ z1.length = cap1 ∧ (∀ i, i < z1.length → w.cell? (x.add i) = some (.int .i64 (z1.getD i 0))) ∧ ∀ n ∈ z1, (Lit.int .i64 n).wf = true) (y1 : len1 * 8 ≤ 140737488351232) :
  Calls Try.prog 7 #[.slice a0 len0 cap0, .slice a1 len1 cap1] w fun e w' => e = .returned (.bool true) ∧ Below w.heap.size w w' := by
 obtain ⟨l0, rfl, hr0, hm0, hw0, hc0⟩ := ReadsInt.ofRowC w0
 obtain ⟨l1, rfl, hr1, hm1, hw1, hc1⟩ := ReadsInt.ofRowC w1
 obtain ⟨k, h⟩ := P l0 l1 hm0 y0 hw0 hm1 y1 hw1
 refine (sapperlaw13_SuffixChecks.calls k _ _ l0 _ _ l1 true w (Kd.C_of_reads (d := (0 : Int)) (h1 := fun _ => rfl) hr0) hc0 (Kd.C_of_reads (d := (0 : Int)) (h1 := fun _ => rfl) hr1) hc1 h).mono ?_
 rintro e w' ⟨rfl, hd⟩
 exact ⟨rfl, hd⟩

end Go.Proofs.Ythcnnfahlhklgaa.X
