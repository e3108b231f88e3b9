-- Printed by wip/xprint.py of this repo (a wrapper of the session's own round the print).
import Derived.Test.YtphchkkicpnehaaXx0
import Derived.Test.YtphchkkicpnehaaXx15
import Derived.Test.YtphchkkicpnehaaXx24
import Derived.Test.YtphchkkicpnehaaXx38
import Derived.Test.YtphchkkicpnehaaXx49
namespace Go.Proofs.Ytphchkkicpnehaa.X
open Go.RowKit Go.Proofs.YtphchkkicpnehaaW.PrintWords Go.Proofs.YtphchkkicpnehaaW.PrintLast Go.Proofs.YtphchkkicpnehaaW.PrintMore
attribute [local go_sem] ptrOf_eql ptrOf_neq ptrOf_eqg ptrOf_neg str_leq str_geq str_gtr max2_int min2_int max_two min_two max_three min_three max_four min_four   -- for this text's walks alone
set_option linter.unusedVariables false
set_option linter.unusedSimpArgs false

/-! ### sapperlaw14_FindNoLonger: function 9 -/
mutual
def sapperlaw14_FindNoLonger.j0 : Nat → List Int → List Int → List (S61) → Bool → Bool → Option (Bool)
 | 0, _, _, _, _, _ => none
 | k + 1, x0, x1, x5, x6, x25 => if x25 = true then (if x6 = true then ((sapperlaw14_awake.f k).bind fun t493 => (some t493)) else (some false)) else ((find_Longest.f k x5 x1).bind fun bt494 => (if bt494.2.2 = 0 then (if bt494.2.1 < 0 then (sapperlaw14_FindNoLonger.j1 k x0 x1 x5 bt494.1 bt494.2.1 true) else (if bt494.2.1 > (x1.length : Int) then (sapperlaw14_FindNoLonger.j1 k x0 x1 x5 bt494.1 bt494.2.1 true) else (if bt494.1 < 0 then (sapperlaw14_FindNoLonger.j1 k x0 x1 x5 bt494.1 bt494.2.1 true) else (if (wrap64 (bt494.1 + bt494.2.1)) > (x0.length : Int) then (sapperlaw14_FindNoLonger.j1 k x0 x1 x5 bt494.1 bt494.2.1 true) else ((sapperlaw14_awake.f k).bind fun t497 => (sapperlaw14_FindNoLonger.j1 k x0 x1 x5 bt494.1 bt494.2.1 (!t497))))))) else (sapperlaw14_FindNoLonger.j1 k x0 x1 x5 bt494.1 bt494.2.1 true)))
def sapperlaw14_FindNoLonger.j1 : Nat → List Int → List Int → List (S61) → Int → Int → Bool → Option (Bool)
 | 0, _, _, _, _, _, _ => none
 | k + 1, x0, x1, x5, x7, x8, x64 => if x64 = true then (some false) else (if 0 ≤ x7 then (if x7 ≤ (wrap64 (x7 + x8)) then (if (wrap64 (x7 + x8)) ≤ (x0.length : Int) then (if 0 ≤ x8 then (if x8 ≤ (x1.length : Int) then (if (strOfNums ((x0.take ((wrap64 (x7 + x8)) : Int).toNat).drop (x7 : Int).toNat)).toList = (strOfNums (x1.take (x8 : Int).toNat)).toList then (if x8 = 0 then (sapperlaw14_FindNoLonger.j2 k x0 x1 x5 x7 x8 (x7 != 0)) else (sapperlaw14_FindNoLonger.j2 k x0 x1 x5 x7 x8 false)) else (sapperlaw14_FindNoLonger.j2 k x0 x1 x5 x7 x8 true)) else (none)) else (none)) else (none)) else (none)) else (none))
def sapperlaw14_FindNoLonger.j2 : Nat → List Int → List Int → List (S61) → Int → Int → Bool → Option (Bool)
 | 0, _, _, _, _, _, _ => none
 | k + 1, x0, x1, x5, x7, x8, x84 => if x84 = true then (some false) else (sapperlaw14_FindNoLonger.l0 k x0 x1 x5 x7 x8 0)
def sapperlaw14_FindNoLonger.l0 : Nat → List Int → List Int → List (S61) → Int → Int → Int → Option (Bool)
 | 0, _, _, _, _, _, _ => none
 | k + 1, x0, x1, x5, x7, x8, x10 => if (wrap64 (x10 + x8)) < (x0.length : Int) then (sapperlaw14_FindNoLonger.j4 k x0 x1 x5 x7 x8 x10 (decide (x8 < (x1.length : Int)))) else (sapperlaw14_FindNoLonger.j4 k x0 x1 x5 x7 x8 x10 false)
def sapperlaw14_FindNoLonger.j4 : Nat → List Int → List Int → List (S61) → Int → Int → Int → Bool → Option (Bool)
 | 0, _, _, _, _, _, _, _ => none
 | k + 1, x0, x1, x5, x7, x8, x10, x96 => if x96 = true then (if 0 ≤ x10 then (if x10 ≤ (wrap64 ((wrap64 (x10 + x8)) + 1)) then (if (wrap64 ((wrap64 (x10 + x8)) + 1)) ≤ (x0.length : Int) then (if 0 ≤ (wrap64 (x8 + 1)) then (if (wrap64 (x8 + 1)) ≤ (x1.length : Int) then (if (strOfNums ((x0.take ((wrap64 ((wrap64 (x10 + x8)) + 1)) : Int).toNat).drop (x10 : Int).toNat)).toList = (strOfNums (x1.take ((wrap64 (x8 + 1)) : Int).toNat)).toList then (some false) else (sapperlaw14_FindNoLonger.l0 k x0 x1 x5 x7 x8 (wrap64 (x10 + 1)))) else (none)) else (none)) else (none)) else (none)) else (none)) else (sapperlaw14_FindNoLonger.l1 k x0 x1 x5 x7 x8 0)
def sapperlaw14_FindNoLonger.l1 : Nat → List Int → List Int → List (S61) → Int → Int → Int → Option (Bool)
 | 0, _, _, _, _, _, _ => none
 | k + 1, x0, x1, x5, x7, x8, x11 => if x11 < x7 then (if 0 ≤ x11 then (if x11 ≤ (wrap64 (x11 + x8)) then (if (wrap64 (x11 + x8)) ≤ (x0.length : Int) then (if 0 ≤ x8 then (if x8 ≤ (x1.length : Int) then (if (strOfNums ((x0.take ((wrap64 (x11 + x8)) : Int).toNat).drop (x11 : Int).toNat)).toList = (strOfNums (x1.take (x8 : Int).toNat)).toList then (some false) else (sapperlaw14_FindNoLonger.l1 k x0 x1 x5 x7 x8 (wrap64 (x11 + 1)))) else (none)) else (none)) else (none)) else (none)) else (none)) else ((find_Statistics.f k x5 x1).bind fun bt504 => (if bt504.2 = 0 then (if (bt504.1.length : Int) = (x1.length : Int) then (if (bt504.1.length : Int) > 0 then (if 0 < (bt504.1.length : Int) then (sapperlaw14_FindNoLonger.j6 k x1 bt504.1 ((rd bt504.1 0) != x8)) else (none)) else (sapperlaw14_FindNoLonger.j6 k x1 bt504.1 false)) else (sapperlaw14_FindNoLonger.j6 k x1 bt504.1 true)) else (sapperlaw14_FindNoLonger.j6 k x1 bt504.1 true)))
def sapperlaw14_FindNoLonger.j6 : Nat → List Int → List Int → Bool → Option (Bool)
 | 0, _, _, _ => none
 | k + 1, x1, x12, x156 => if x156 = true then (some false) else (sapperlaw14_FindNoLonger.l2 k x1 x12 1)
def sapperlaw14_FindNoLonger.l2 : Nat → List Int → List Int → Int → Option (Bool)
 | 0, _, _, _ => none
 | k + 1, x1, x12, x14 => if x14 < (x12.length : Int) then (if 0 ≤ x14 then (if 0 ≤ (wrap64 (x14 - 1)) then (if (wrap64 (x14 - 1)) < (x12.length : Int) then (if (rd x12 x14) < (wrap64 ((rd x12 (wrap64 (x14 - 1))) - 1)) then (some false) else (if (rd x12 x14) > (wrap64 ((x1.length : Int) - x14)) then (some false) else (sapperlaw14_FindNoLonger.l2 k x1 x12 (wrap64 (x14 + 1))))) else (none)) else (none)) else (none)) else (some true)
end
def sapperlaw14_FindNoLonger.f (k : Nat) (l0 : List Int) (l1 : List Int) : Option (Bool) := (sapperlaw14_index.f k l0).bind fun bt489 => (if bt489.2 = true then (sapperlaw14_FindNoLonger.j0 k l0 l1 bt489.1 bt489.2 ((bt489.1.length : Int) == 0)) else (sapperlaw14_FindNoLonger.j0 k l0 l1 bt489.1 bt489.2 true))
theorem sapperlaw14_FindNoLonger.mono_l : ∀ k, (∀ y0 y1 y2 y3 y4, LeO (sapperlaw14_FindNoLonger.j0 k y0 y1 y2 y3 y4) (sapperlaw14_FindNoLonger.j0 (k + 1) y0 y1 y2 y3 y4)) ∧ (∀ y0 y1 y2 y3 y4 y5, LeO (sapperlaw14_FindNoLonger.j1 k y0 y1 y2 y3 y4 y5) (sapperlaw14_FindNoLonger.j1 (k + 1) y0 y1 y2 y3 y4 y5)) ∧ (∀ y0 y1 y2 y3 y4 y5, LeO (sapperlaw14_FindNoLonger.j2 k y0 y1 y2 y3 y4 y5) (sapperlaw14_FindNoLonger.j2 (k + 1) y0 y1 y2 y3 y4 y5)) ∧ (∀ y0 y1 y2 y3 y4 y5, LeO (sapperlaw14_FindNoLonger.l0 k y0 y1 y2 y3 y4 y5) (sapperlaw14_FindNoLonger.l0 (k + 1) y0 y1 y2 y3 y4 y5)) ∧ (∀ y0 y1 y2 y3 y4 y5 y6, LeO (sapperlaw14_FindNoLonger.j4 k y0 y1 y2 y3 y4 y5 y6) (sapperlaw14_FindNoLonger.j4 (k + 1) y0 y1 y2 y3 y4 y5 y6)) ∧ (∀ y0 y1 y2 y3 y4 y5, LeO (sapperlaw14_FindNoLonger.l1 k y0 y1 y2 y3 y4 y5) (sapperlaw14_FindNoLonger.l1 (k + 1) y0 y1 y2 y3 y4 y5)) ∧ (∀ y0 y1 y2, LeO (sapperlaw14_FindNoLonger.j6 k y0 y1 y2) (sapperlaw14_FindNoLonger.j6 (k + 1) y0 y1 y2)) ∧ (∀ y0 y1 y2, LeO (sapperlaw14_FindNoLonger.l2 k y0 y1 y2) (sapperlaw14_FindNoLonger.l2 (k + 1) y0 y1 y2))
 | 0 => ⟨fun _ _ _ _ _ r h => by simp [sapperlaw14_FindNoLonger.j0] at h, fun _ _ _ _ _ _ r h => by simp [sapperlaw14_FindNoLonger.j1] at h, fun _ _ _ _ _ _ r h => by simp [sapperlaw14_FindNoLonger.j2] at h, fun _ _ _ _ _ _ r h => by simp [sapperlaw14_FindNoLonger.l0] at h, fun _ _ _ _ _ _ _ r h => by simp [sapperlaw14_FindNoLonger.j4] at h, fun _ _ _ _ _ _ r h => by simp [sapperlaw14_FindNoLonger.l1] at h, fun _ _ _ r h => by simp [sapperlaw14_FindNoLonger.j6] at h, fun _ _ _ r h => by simp [sapperlaw14_FindNoLonger.l2] at h⟩
 | k + 1 => by
  obtain ⟨ih0, ih1, ih2, ih3, ih4, ih5, ih6, ih7⟩ := sapperlaw14_FindNoLonger.mono_l k
  refine ⟨?_, ?_, ?_, ?_, ?_, ?_, ?_, ?_⟩
  ·intro y0 y1 y2 y3 y4
   unfold sapperlaw14_FindNoLonger.j0
   repeat' first
   | (with_reducible exact ih0 _ _ _ _ _)
   | (with_reducible exact ih1 _ _ _ _ _ _)
   | (with_reducible exact ih2 _ _ _ _ _ _)
   | (with_reducible exact ih3 _ _ _ _ _ _)
   | (with_reducible exact ih4 _ _ _ _ _ _ _)
   | (with_reducible exact ih5 _ _ _ _ _ _)
   | (with_reducible exact ih6 _ _ _)
   | (with_reducible exact ih7 _ _ _)
   | (with_reducible exact find_Longest.mono _ _ _)
   | (with_reducible exact find_Statistics.mono _ _ _)
   | (with_reducible exact sapperlaw14_awake.mono _)
   | (with_reducible exact sapperlaw14_index.mono _ _)
   | (with_reducible exact LeO.refl _)
   | (with_reducible exact LeO.none _)
   | (with_reducible refine LeO.ite ?_ ?_)
   | (with_reducible refine LeO.bind ?_ (fun _ => ?_))
   | exact ih0 _ _ _ _ _
   | exact ih1 _ _ _ _ _ _
   | exact ih2 _ _ _ _ _ _
   | exact ih3 _ _ _ _ _ _
   | exact ih4 _ _ _ _ _ _ _
   | exact ih5 _ _ _ _ _ _
   | exact ih6 _ _ _
   | exact ih7 _ _ _
   | exact find_Longest.mono _ _ _
   | exact find_Statistics.mono _ _ _
   | exact sapperlaw14_awake.mono _
   | exact sapperlaw14_index.mono _ _
   | exact LeO.none _
   | refine LeO.ite ?_ ?_
   | refine LeO.bind ?_ (fun _ => ?_)
  ·intro y0 y1 y2 y3 y4 y5
   unfold sapperlaw14_FindNoLonger.j1
   repeat' first
   | (with_reducible exact ih0 _ _ _ _ _)
   | (with_reducible exact ih1 _ _ _ _ _ _)
   | (with_reducible exact ih2 _ _ _ _ _ _)
   | (with_reducible exact ih3 _ _ _ _ _ _)
   | (with_reducible exact ih4 _ _ _ _ _ _ _)
   | (with_reducible exact ih5 _ _ _ _ _ _)
   | (with_reducible exact ih6 _ _ _)
   | (with_reducible exact ih7 _ _ _)
   | (with_reducible exact find_Longest.mono _ _ _)
   | (with_reducible exact find_Statistics.mono _ _ _)
   | (with_reducible exact sapperlaw14_awake.mono _)
   | (with_reducible exact sapperlaw14_index.mono _ _)
   | (with_reducible exact LeO.refl _)
   | (with_reducible exact LeO.none _)
   | (with_reducible refine LeO.ite ?_ ?_)
   | (with_reducible refine LeO.bind ?_ (fun _ => ?_))
   | exact ih0 _ _ _ _ _
   | exact ih1 _ _ _ _ _ _
   | exact ih2 _ _ _ _ _ _
   | exact ih3 _ _ _ _ _ _
   | exact ih4 _ _ _ _ _ _ _
   | exact ih5 _ _ _ _ _ _
   | exact ih6 _ _ _
   | exact ih7 _ _ _
   | exact find_Longest.mono _ _ _
   | exact find_Statistics.mono _ _ _
   | exact sapperlaw14_awake.mono _
   | exact sapperlaw14_index.mono _ _
   | exact LeO.none _
   | refine LeO.ite ?_ ?_
   | refine LeO.bind ?_ (fun _ => ?_)
  ·intro y0 y1 y2 y3 y4 y5
   unfold sapperlaw14_FindNoLonger.j2
   repeat' first
   | (with_reducible exact ih0 _ _ _ _ _)
   | (with_reducible exact ih1 _ _ _ _ _ _)
   | (with_reducible exact ih2 _ _ _ _ _ _)
   | (with_reducible exact ih3 _ _ _ _ _ _)
   | (with_reducible exact ih4 _ _ _ _ _ _ _)
   | (with_reducible exact ih5 _ _ _ _ _ _)
   | (with_reducible exact ih6 _ _ _)
   | (with_reducible exact ih7 _ _ _)
   | (with_reducible exact find_Longest.mono _ _ _)
   | (with_reducible exact find_Statistics.mono _ _ _)
   | (with_reducible exact sapperlaw14_awake.mono _)
   | (with_reducible exact sapperlaw14_index.mono _ _)
   | (with_reducible exact LeO.refl _)
   | (with_reducible exact LeO.none _)
   | (with_reducible refine LeO.ite ?_ ?_)
   | (with_reducible refine LeO.bind ?_ (fun _ => ?_))
   | exact ih0 _ _ _ _ _
   | exact ih1 _ _ _ _ _ _
   | exact ih2 _ _ _ _ _ _
   | exact ih3 _ _ _ _ _ _
   | exact ih4 _ _ _ _ _ _ _
   | exact ih5 _ _ _ _ _ _
   | exact ih6 _ _ _
   | exact ih7 _ _ _
   | exact find_Longest.mono _ _ _
   | exact find_Statistics.mono _ _ _
   | exact sapperlaw14_awake.mono _
   | exact sapperlaw14_index.mono _ _
   | exact LeO.none _
   | refine LeO.ite ?_ ?_
   | refine LeO.bind ?_ (fun _ => ?_)
  ·intro y0 y1 y2 y3 y4 y5
   unfold sapperlaw14_FindNoLonger.l0
   repeat' first
   | (with_reducible exact ih0 _ _ _ _ _)
   | (with_reducible exact ih1 _ _ _ _ _ _)
   | (with_reducible exact ih2 _ _ _ _ _ _)
   | (with_reducible exact ih3 _ _ _ _ _ _)
   | (with_reducible exact ih4 _ _ _ _ _ _ _)
   | (with_reducible exact ih5 _ _ _ _ _ _)
   | (with_reducible exact ih6 _ _ _)
   | (with_reducible exact ih7 _ _ _)
   | (with_reducible exact find_Longest.mono _ _ _)
   | (with_reducible exact find_Statistics.mono _ _ _)
   | (with_reducible exact sapperlaw14_awake.mono _)
   | (with_reducible exact sapperlaw14_index.mono _ _)
   | (with_reducible exact LeO.refl _)
   | (with_reducible exact LeO.none _)
   | (with_reducible refine LeO.ite ?_ ?_)
   | (with_reducible refine LeO.bind ?_ (fun _ => ?_))
   | exact ih0 _ _ _ _ _
   | exact ih1 _ _ _ _ _ _
   | exact ih2 _ _ _ _ _ _
   | exact ih3 _ _ _ _ _ _
   | exact ih4 _ _ _ _ _ _ _
   | exact ih5 _ _ _ _ _ _
   | exact ih6 _ _ _
   | exact ih7 _ _ _
   | exact find_Longest.mono _ _ _
   | exact find_Statistics.mono _ _ _
   | exact sapperlaw14_awake.mono _
   | exact sapperlaw14_index.mono _ _
   | exact LeO.none _
   | refine LeO.ite ?_ ?_
   | refine LeO.bind ?_ (fun _ => ?_)
  ·intro y0 y1 y2 y3 y4 y5 y6
   unfold sapperlaw14_FindNoLonger.j4
   repeat' first
   | (with_reducible exact ih0 _ _ _ _ _)
   | (with_reducible exact ih1 _ _ _ _ _ _)
   | (with_reducible exact ih2 _ _ _ _ _ _)
   | (with_reducible exact ih3 _ _ _ _ _ _)
   | (with_reducible exact ih4 _ _ _ _ _ _ _)
   | (with_reducible exact ih5 _ _ _ _ _ _)
   | (with_reducible exact ih6 _ _ _)
   | (with_reducible exact ih7 _ _ _)
   | (with_reducible exact find_Longest.mono _ _ _)
   | (with_reducible exact find_Statistics.mono _ _ _)
   | (with_reducible exact sapperlaw14_awake.mono _)
   | (with_reducible exact sapperlaw14_index.mono _ _)
   | (with_reducible exact LeO.refl _)
   | (with_reducible exact LeO.none _)
   | (with_reducible refine LeO.ite ?_ ?_)
   | (with_reducible refine LeO.bind ?_ (fun _ => ?_))
   | exact ih0 _ _ _ _ _
   | exact ih1 _ _ _ _ _ _
   | exact ih2 _ _ _ _ _ _
   | exact ih3 _ _ _ _ _ _
   | exact ih4 _ _ _ _ _ _ _
   | exact ih5 _ _ _ _ _ _
   | exact ih6 _ _ _
   | exact ih7 _ _ _
   | exact find_Longest.mono _ _ _
   | exact find_Statistics.mono _ _ _
   | exact sapperlaw14_awake.mono _
   | exact sapperlaw14_index.mono _ _
   | exact LeO.none _
   | refine LeO.ite ?_ ?_
   | refine LeO.bind ?_ (fun _ => ?_)
  ·intro y0 y1 y2 y3 y4 y5
   unfold sapperlaw14_FindNoLonger.l1
   repeat' first
   | (with_reducible exact ih0 _ _ _ _ _)
   | (with_reducible exact ih1 _ _ _ _ _ _)
   | (with_reducible exact ih2 _ _ _ _ _ _)
   | (with_reducible exact ih3 _ _ _ _ _ _)
   | (with_reducible exact ih4 _ _ _ _ _ _ _)
   | (with_reducible exact ih5 _ _ _ _ _ _)
   | (with_reducible exact ih6 _ _ _)
   | (with_reducible exact ih7 _ _ _)
   | (with_reducible exact find_Longest.mono _ _ _)
   | (with_reducible exact find_Statistics.mono _ _ _)
   | (with_reducible exact sapperlaw14_awake.mono _)
   | (with_reducible exact sapperlaw14_index.mono _ _)
   | (with_reducible exact LeO.refl _)
   | (with_reducible exact LeO.none _)
   | (with_reducible refine LeO.ite ?_ ?_)
   | (with_reducible refine LeO.bind ?_ (fun _ => ?_))
   | exact ih0 _ _ _ _ _
   | exact ih1 _ _ _ _ _ _
   | exact ih2 _ _ _ _ _ _
   | exact ih3 _ _ _ _ _ _
   | exact ih4 _ _ _ _ _ _ _
   | exact ih5 _ _ _ _ _ _
   | exact ih6 _ _ _
   | exact ih7 _ _ _
   | exact find_Longest.mono _ _ _
   | exact find_Statistics.mono _ _ _
   | exact sapperlaw14_awake.mono _
   | exact sapperlaw14_index.mono _ _
   | exact LeO.none _
   | refine LeO.ite ?_ ?_
   | refine LeO.bind ?_ (fun _ => ?_)
  ·intro y0 y1 y2
   unfold sapperlaw14_FindNoLonger.j6
   repeat' first
   | (with_reducible exact ih0 _ _ _ _ _)
   | (with_reducible exact ih1 _ _ _ _ _ _)
   | (with_reducible exact ih2 _ _ _ _ _ _)
   | (with_reducible exact ih3 _ _ _ _ _ _)
   | (with_reducible exact ih4 _ _ _ _ _ _ _)
   | (with_reducible exact ih5 _ _ _ _ _ _)
   | (with_reducible exact ih6 _ _ _)
   | (with_reducible exact ih7 _ _ _)
   | (with_reducible exact find_Longest.mono _ _ _)
   | (with_reducible exact find_Statistics.mono _ _ _)
   | (with_reducible exact sapperlaw14_awake.mono _)
   | (with_reducible exact sapperlaw14_index.mono _ _)
   | (with_reducible exact LeO.refl _)
   | (with_reducible exact LeO.none _)
   | (with_reducible refine LeO.ite ?_ ?_)
   | (with_reducible refine LeO.bind ?_ (fun _ => ?_))
   | exact ih0 _ _ _ _ _
   | exact ih1 _ _ _ _ _ _
   | exact ih2 _ _ _ _ _ _
   | exact ih3 _ _ _ _ _ _
   | exact ih4 _ _ _ _ _ _ _
   | exact ih5 _ _ _ _ _ _
   | exact ih6 _ _ _
   | exact ih7 _ _ _
   | exact find_Longest.mono _ _ _
   | exact find_Statistics.mono _ _ _
   | exact sapperlaw14_awake.mono _
   | exact sapperlaw14_index.mono _ _
   | exact LeO.none _
   | refine LeO.ite ?_ ?_
   | refine LeO.bind ?_ (fun _ => ?_)
  ·intro y0 y1 y2
   unfold sapperlaw14_FindNoLonger.l2
   repeat' first
   | (with_reducible exact ih0 _ _ _ _ _)
   | (with_reducible exact ih1 _ _ _ _ _ _)
   | (with_reducible exact ih2 _ _ _ _ _ _)
   | (with_reducible exact ih3 _ _ _ _ _ _)
   | (with_reducible exact ih4 _ _ _ _ _ _ _)
   | (with_reducible exact ih5 _ _ _ _ _ _)
   | (with_reducible exact ih6 _ _ _)
   | (with_reducible exact ih7 _ _ _)
   | (with_reducible exact find_Longest.mono _ _ _)
   | (with_reducible exact find_Statistics.mono _ _ _)
   | (with_reducible exact sapperlaw14_awake.mono _)
   | (with_reducible exact sapperlaw14_index.mono _ _)
   | (with_reducible exact LeO.refl _)
   | (with_reducible exact LeO.none _)
   | (with_reducible refine LeO.ite ?_ ?_)
   | (with_reducible refine LeO.bind ?_ (fun _ => ?_))
   | exact ih0 _ _ _ _ _
   | exact ih1 _ _ _ _ _ _
   | exact ih2 _ _ _ _ _ _
   | exact ih3 _ _ _ _ _ _
   | exact ih4 _ _ _ _ _ _ _
   | exact ih5 _ _ _ _ _ _
   | exact ih6 _ _ _
   | exact ih7 _ _ _
   | exact find_Longest.mono _ _ _
   | exact find_Statistics.mono _ _ _
   | exact sapperlaw14_awake.mono _
   | exact sapperlaw14_index.mono _ _
   | exact LeO.none _
   | refine LeO.ite ?_ ?_
   | refine LeO.bind ?_ (fun _ => ?_)
theorem sapperlaw14_FindNoLonger.mono : ∀ a0 a1 k, LeO (sapperlaw14_FindNoLonger.f k a0 a1) (sapperlaw14_FindNoLonger.f (k + 1) a0 a1) := by
 intro a0 a1 k
 obtain ⟨ih0, ih1, ih2, ih3, ih4, ih5, ih6, ih7⟩ := sapperlaw14_FindNoLonger.mono_l k
 unfold sapperlaw14_FindNoLonger.f
 repeat' first
   | (with_reducible exact ih0 _ _ _ _ _)
   | (with_reducible exact ih1 _ _ _ _ _ _)
   | (with_reducible exact ih2 _ _ _ _ _ _)
   | (with_reducible exact ih3 _ _ _ _ _ _)
   | (with_reducible exact ih4 _ _ _ _ _ _ _)
   | (with_reducible exact ih5 _ _ _ _ _ _)
   | (with_reducible exact ih6 _ _ _)
   | (with_reducible exact ih7 _ _ _)
   | (with_reducible exact find_Longest.mono _ _ _)
   | (with_reducible exact find_Statistics.mono _ _ _)
   | (with_reducible exact sapperlaw14_awake.mono _)
   | (with_reducible exact sapperlaw14_index.mono _ _)
   | (with_reducible exact LeO.refl _)
   | (with_reducible exact LeO.none _)
   | (with_reducible refine LeO.ite ?_ ?_)
   | (with_reducible refine LeO.bind ?_ (fun _ => ?_))
   | exact ih0 _ _ _ _ _
   | exact ih1 _ _ _ _ _ _
   | exact ih2 _ _ _ _ _ _
   | exact ih3 _ _ _ _ _ _
   | exact ih4 _ _ _ _ _ _ _
   | exact ih5 _ _ _ _ _ _
   | exact ih6 _ _ _
   | exact ih7 _ _ _
   | exact find_Longest.mono _ _ _
   | exact find_Statistics.mono _ _ _
   | exact sapperlaw14_awake.mono _
   | exact sapperlaw14_index.mono _ _
   | exact LeO.none _
   | refine LeO.ite ?_ ?_
   | refine LeO.bind ?_ (fun _ => ?_)
set_option maxHeartbeats 8000000 in
set_option maxRecDepth 100000 in
theorem sapperlaw14_FindNoLonger.calls (k : Nat) (A0 : Option Addr) (c0 : Nat) (l0 : List Int) (A1 : Option Addr) (c1 : Nat) (l1 : List Int) (r : Bool) (w : World) (hr0 : Kd.C (Kd.int .u8) w A0 l0.length l0) (hc0 : l0.length ≤ c0) (hr1 : Kd.C (Kd.int .u8) w A1 l1.length l1) (hc1 : l1.length ≤ c1) (h : sapperlaw14_FindNoLonger.f k l0 l1 = some r) :
  Calls Try.prog 9 #[.slice A0 l0.length c0, .slice A1 l1.length c1] w fun e w' => e = .returned (.bool r) ∧ Below w.heap.size w w' := by
 have HR0 := Aside0.mk hr0
 have HC0 := Aside0.mk hc0
 clear hr0 hc0
 have HR1 := Aside0.mk hr1
 have HC1 := Aside0.mk hc1
 clear hr1 hc1
 have HB := Aside0.mk (Below.refl w.heap.size w)
 have H : ((sapperlaw14_index.f k l0).bind fun bt489 => (if bt489.2 = true then (sapperlaw14_FindNoLonger.j0 k l0 l1 bt489.1 bt489.2 ((bt489.1.length : Int) == 0)) else (sapperlaw14_FindNoLonger.j0 k l0 l1 bt489.1 bt489.2 true))) = some r := h
 clear h
 replace H := Option.bind_eq_some_iff.mp H
 obtain ⟨⟨t489, t490⟩, A30, H⟩ := H
 replace H : (if t490 = true then (sapperlaw14_FindNoLonger.j0 k l0 l1 t489 t490 ((t489.length : Int) == 0)) else (sapperlaw14_FindNoLonger.j0 k l0 l1 t489 t490 true)) = some r := H
 have A3 := Aside0.mk A30
 clear A30
 have HC4 := Aside0.mk H
 clear H
 go_enter Try.func9, Try.ntmps9
 go_upto_region 2 with (first | (go_at_call 16; (with_reducible refine (sapperlaw14_index.calls k _ _ l0 t489 t490 _ ?side1 ?side2 A3.out).mono ?_); (case side1 => repeat (first | exact HR0.out | (with_reducible refine Kd.C_alloc ?_ _) | (with_reducible refine Kd.C_drewN ?_ _) | (with_reducible refine Kd.C_drew ?_))); (case side2 => exact HC0.out); rintro e w5 ⟨v491, rfl, ho0, hb⟩; have n0_ := Aside0.mk (Kd.S_lower ho0 (below_size (by repeat (first | (with_reducible first | exact HB.out | apply below_alloc | apply pw_below_drewN | apply below_drew1) | exact HB.out)))); have n1_ := Aside0.mk (below_step (by repeat (first | (with_reducible first | exact HB.out | apply below_alloc | apply pw_below_drewN | apply below_drew1) | exact HB.out)) hb); clear HB; have HO492 := n0_; have HB := n1_; clear n0_ n1_; (try clear hb); (try clear hb2); (try clear hk); (try clear hi); (try clear ho0)))
 repeat (go_quiet (first | (go_at_call 16; (with_reducible refine (sapperlaw14_index.calls k _ _ l0 t489 t490 _ ?side1 ?side2 A3.out).mono ?_); (case side1 => repeat (first | exact HR0.out | (with_reducible refine Kd.C_alloc ?_ _) | (with_reducible refine Kd.C_drewN ?_ _) | (with_reducible refine Kd.C_drew ?_))); (case side2 => exact HC0.out); rintro e w5 ⟨v491, rfl, ho0, hb⟩; have n0_ := Aside0.mk (Kd.S_lower ho0 (below_size (by repeat (first | (with_reducible first | exact HB.out | apply below_alloc | apply pw_below_drewN | apply below_drew1) | exact HB.out)))); have n1_ := Aside0.mk (below_step (by repeat (first | (with_reducible first | exact HB.out | apply below_alloc | apply pw_below_drewN | apply below_drew1) | exact HB.out)) hb); clear HB; have HO492 := n0_; have HB := n1_; clear n0_ n1_; (try clear hb); (try clear hb2); (try clear hk); (try clear hi); (try clear ho0))); go_upto_region 2 with (first | (go_at_call 16; (with_reducible refine (sapperlaw14_index.calls k _ _ l0 t489 t490 _ ?side1 ?side2 A3.out).mono ?_); (case side1 => repeat (first | exact HR0.out | (with_reducible refine Kd.C_alloc ?_ _) | (with_reducible refine Kd.C_drewN ?_ _) | (with_reducible refine Kd.C_drew ?_))); (case side2 => exact HC0.out); rintro e w5 ⟨v491, rfl, ho0, hb⟩; have n0_ := Aside0.mk (Kd.S_lower ho0 (below_size (by repeat (first | (with_reducible first | exact HB.out | apply below_alloc | apply pw_below_drewN | apply below_drew1) | exact HB.out)))); have n1_ := Aside0.mk (below_step (by repeat (first | (with_reducible first | exact HB.out | apply below_alloc | apply pw_below_drewN | apply below_drew1) | exact HB.out)) hb); clear HB; have HO492 := n0_; have HB := n1_; clear n0_ n1_; (try clear hb); (try clear hb2); (try clear hk); (try clear hi); (try clear ho0))))
 (try simp only [Act.put, List.setIfInBounds_toArray, List.set_cons_zero, List.set_cons_succ])
 go_cut [25] (fun v25 wc => ∃ (kq : Nat) (x25_3 : Bool), v25 = .bool x25_3 ∧ Aside0 (sapperlaw14_FindNoLonger.j0 kq l0 l1 t489 t490 x25_3 = some r) ∧ Aside0 (kq ≤ k) ∧ Aside0 (Kd.S k61 61 wc w.heap.size (fun _ => True) v491 t489) ∧ Aside0 (Below w.heap.size w wc))
 case first => as_aux_lemma =>
  have H := HC4.out
  clear HC4
  by_cases c6 : t490 = true
  ·subst c6
   have H1 : (sapperlaw14_FindNoLonger.j0 k l0 l1 t489 true ((t489.length : Int) == 0)) = some r := by rw [if_pos rfl] at H; exact H
   clear H
   have H := H1
   clear H1
   have H' := Aside0.mk H
   clear H
   obtain ⟨Ao7, co7, eo7⟩ := Kd.S_slice HO492.out
   subst eo7
   go_wp2
   repeat (go_quiet (fail); try go_wp2)
   go_meet
   case rel => exact ⟨_, (((t489.length : Int) == 0)), (by first | rfl | (simp; done) | (simp [*]; done)), H', ⟨by first | omega | exact Nat.le_refl _⟩, ⟨by (with_reducible repeat (first | apply Kd.S_alloc | apply Kd.S_drewN | apply Kd.S_drew)); exact HO492.out⟩, ⟨by repeat (first | (with_reducible first | exact HB.out | apply below_alloc | apply pw_below_drewN | apply below_drew1) | exact HB.out)⟩⟩
  ·replace c6 := Bool.eq_false_iff.mpr c6
   subst c6
   have H1 : (sapperlaw14_FindNoLonger.j0 k l0 l1 t489 false true) = some r := by rw [if_neg (show ¬ (false = true) by decide)] at H; exact H
   clear H
   have H := H1
   clear H1
   have H' := Aside0.mk H
   clear H
   go_wp2
   repeat (go_quiet (fail); try go_wp2)
   go_meet
   case rel => exact ⟨_, (true), (by first | rfl | (simp; done) | (simp [*]; done)), H', ⟨by first | omega | exact Nat.le_refl _⟩, ⟨by (with_reducible repeat (first | apply Kd.S_alloc | apply Kd.S_drewN | apply Kd.S_drew)); exact HO492.out⟩, ⟨by repeat (first | (with_reducible first | exact HB.out | apply below_alloc | apply pw_below_drewN | apply below_drew1) | exact HB.out)⟩⟩
 case rest => as_aux_lemma =>
  clear HC4
  try clear c1
  try clear p2
  try clear c6
  obtain ⟨kq, x25_3, rfl, HA, HJ3, HO_5, HB⟩ := hcut
  cases kq with
  | zero => exact absurd HA.out (by simp [sapperlaw14_FindNoLonger.j0])
  | succ kj3 =>
   have H := HA.out
   clear HA
   simp only [sapperlaw14_FindNoLonger.j0] at H
   by_cases c8 : x25_3 = true
   ·subst c8
    have H1 : (if t490 = true then ((sapperlaw14_awake.f kj3).bind fun t493 => (some t493)) else (some false)) = some r := by rw [if_pos rfl] at H; exact H
    clear H
    have H := H1
    clear H1
    by_cases c9 : t490 = true
    ·subst c9
     have H1 : ((sapperlaw14_awake.f kj3).bind fun t493 => (some t493)) = some r := by rw [if_pos rfl] at H; exact H
     clear H
     have H := H1
     clear H1
     replace H := Option.bind_eq_some_iff.mp H
     obtain ⟨t493, A100, H⟩ := H
     replace H : (some t493) = some r := H
     have A10 := Aside0.mk A100
     clear A100
     obtain rfl := Option.some.inj H
     go_wp2_with (first | (go_at_call 17; (with_reducible refine (sapperlaw14_awake.calls kj3  t493 _ A10.out).mono ?_); rintro e w11 ⟨rfl, hb⟩; have n0_ := Aside0.mk (Kd.S_below (by (with_reducible repeat (first | apply Kd.S_alloc | apply Kd.S_drewN | apply Kd.S_drew)); exact HO_5.out) hb); have n1_ := Aside0.mk (below_step (by repeat (first | (with_reducible first | exact HB.out | apply below_alloc | apply pw_below_drewN | apply below_drew1) | exact HB.out)) hb); clear HO_5; clear HB; have HO_5 := n0_; have HB := n1_; clear n0_ n1_; (try clear hb); (try clear hb2); (try clear hk); (try clear hi)))
     repeat (go_quiet (first | (go_at_call 17; (with_reducible refine (sapperlaw14_awake.calls kj3  t493 _ A10.out).mono ?_); rintro e w11 ⟨rfl, hb⟩; have n0_ := Aside0.mk (Kd.S_below (by (with_reducible repeat (first | apply Kd.S_alloc | apply Kd.S_drewN | apply Kd.S_drew)); exact HO_5.out) hb); have n1_ := Aside0.mk (below_step (by repeat (first | (with_reducible first | exact HB.out | apply below_alloc | apply pw_below_drewN | apply below_drew1) | exact HB.out)) hb); clear HO_5; clear HB; have HO_5 := n0_; have HB := n1_; clear n0_ n1_; (try clear hb); (try clear hb2); (try clear hk); (try clear hi))); try go_wp2_with (first | (go_at_call 17; (with_reducible refine (sapperlaw14_awake.calls kj3  t493 _ A10.out).mono ?_); rintro e w11 ⟨rfl, hb⟩; have n0_ := Aside0.mk (Kd.S_below (by (with_reducible repeat (first | apply Kd.S_alloc | apply Kd.S_drewN | apply Kd.S_drew)); exact HO_5.out) hb); have n1_ := Aside0.mk (below_step (by repeat (first | (with_reducible first | exact HB.out | apply below_alloc | apply pw_below_drewN | apply below_drew1) | exact HB.out)) hb); clear HO_5; clear HB; have HO_5 := n0_; have HB := n1_; clear n0_ n1_; (try clear hb); (try clear hb2); (try clear hk); (try clear hi))))
     go_ret
     exact ⟨by first | rfl | (simp [errW_none, errW_some] <;> rfl) | (simp [*, errW_none, errW_some] <;> rfl), by repeat (first | (with_reducible first | exact HB.out | apply below_alloc | apply pw_below_drewN | apply below_drew1) | exact HB.out)⟩
    ·replace c9 := Bool.eq_false_iff.mpr c9
     subst c9
     have H1 : (some false) = some r := by rw [if_neg (show ¬ (false = true) by decide)] at H; exact H
     clear H
     have H := H1
     clear H1
     obtain rfl := Option.some.inj H
     go_wp2
     repeat (go_quiet (fail); try go_wp2)
     go_ret
     exact ⟨by first | rfl | (simp [errW_none, errW_some] <;> rfl) | (simp [*, errW_none, errW_some] <;> rfl), by repeat (first | (with_reducible first | exact HB.out | apply below_alloc | apply pw_below_drewN | apply below_drew1) | exact HB.out)⟩
   ·replace c8 := Bool.eq_false_iff.mpr c8
    subst c8
    have H1 : ((find_Longest.f kj3 t489 l1).bind fun bt494 => (if bt494.2.2 = 0 then (if bt494.2.1 < 0 then (sapperlaw14_FindNoLonger.j1 kj3 l0 l1 t489 bt494.1 bt494.2.1 true) else (if bt494.2.1 > (l1.length : Int) then (sapperlaw14_FindNoLonger.j1 kj3 l0 l1 t489 bt494.1 bt494.2.1 true) else (if bt494.1 < 0 then (sapperlaw14_FindNoLonger.j1 kj3 l0 l1 t489 bt494.1 bt494.2.1 true) else (if (wrap64 (bt494.1 + bt494.2.1)) > (l0.length : Int) then (sapperlaw14_FindNoLonger.j1 kj3 l0 l1 t489 bt494.1 bt494.2.1 true) else ((sapperlaw14_awake.f kj3).bind fun t497 => (sapperlaw14_FindNoLonger.j1 kj3 l0 l1 t489 bt494.1 bt494.2.1 (!t497))))))) else (sapperlaw14_FindNoLonger.j1 kj3 l0 l1 t489 bt494.1 bt494.2.1 true))) = some r := by rw [if_neg (show ¬ (false = true) by decide)] at H; exact H
    clear H
    have H := H1
    clear H1
    replace H := Option.bind_eq_some_iff.mp H
    obtain ⟨⟨t494, t495, t496⟩, A120, H⟩ := H
    replace H : (if t496 = 0 then (if t495 < 0 then (sapperlaw14_FindNoLonger.j1 kj3 l0 l1 t489 t494 t495 true) else (if t495 > (l1.length : Int) then (sapperlaw14_FindNoLonger.j1 kj3 l0 l1 t489 t494 t495 true) else (if t494 < 0 then (sapperlaw14_FindNoLonger.j1 kj3 l0 l1 t489 t494 t495 true) else (if (wrap64 (t494 + t495)) > (l0.length : Int) then (sapperlaw14_FindNoLonger.j1 kj3 l0 l1 t489 t494 t495 true) else ((sapperlaw14_awake.f kj3).bind fun t497 => (sapperlaw14_FindNoLonger.j1 kj3 l0 l1 t489 t494 t495 (!t497))))))) else (sapperlaw14_FindNoLonger.j1 kj3 l0 l1 t489 t494 t495 true)) = some r := H
    have A12 := Aside0.mk A120
    clear A120
    have HC13 := Aside0.mk H
    clear H
    obtain ⟨Ao14, co14, eo14⟩ := Kd.S_slice HO_5.out
    subst eo14
    go_upto_region 5 with (first | (go_at_call 30; (with_reducible refine (find_Longest.calls kj3 _ _ t489 _ _ l1 t494 t495 t496 _ ?side1 ?side2 ?side3 ?side4 A12.out).mono ?_); (case side1 => repeat (first | exact (Kd.S_reads' HO_5.out).2.2 | (with_reducible refine Kd.C_alloc ?_ _) | (with_reducible refine Kd.C_drewN ?_ _) | (with_reducible refine Kd.C_drew ?_))); (case side2 => exact (Kd.S_reads' HO_5.out).2.1); (case side3 => repeat (first | exact (Kd.C_below HR1.out HB.out) | (with_reducible refine Kd.C_alloc ?_ _) | (with_reducible refine Kd.C_drewN ?_ _) | (with_reducible refine Kd.C_drew ?_))); (case side4 => exact HC1.out); rintro e w15 ⟨rfl, hb⟩; have n0_ := Aside0.mk (Kd.S_below (by (with_reducible repeat (first | apply Kd.S_alloc | apply Kd.S_drewN | apply Kd.S_drew)); exact HO_5.out) hb); have n1_ := Aside0.mk (below_step (by repeat (first | (with_reducible first | exact HB.out | apply below_alloc | apply pw_below_drewN | apply below_drew1) | exact HB.out)) hb); clear HO_5; clear HB; have HO_5 := n0_; have HB := n1_; clear n0_ n1_; (try clear hb); (try clear hb2); (try clear hk); (try clear hi)))
    repeat (go_quiet (first | (go_at_call 30; (with_reducible refine (find_Longest.calls kj3 _ _ t489 _ _ l1 t494 t495 t496 _ ?side1 ?side2 ?side3 ?side4 A12.out).mono ?_); (case side1 => repeat (first | exact (Kd.S_reads' HO_5.out).2.2 | (with_reducible refine Kd.C_alloc ?_ _) | (with_reducible refine Kd.C_drewN ?_ _) | (with_reducible refine Kd.C_drew ?_))); (case side2 => exact (Kd.S_reads' HO_5.out).2.1); (case side3 => repeat (first | exact (Kd.C_below HR1.out HB.out) | (with_reducible refine Kd.C_alloc ?_ _) | (with_reducible refine Kd.C_drewN ?_ _) | (with_reducible refine Kd.C_drew ?_))); (case side4 => exact HC1.out); rintro e w15 ⟨rfl, hb⟩; have n0_ := Aside0.mk (Kd.S_below (by (with_reducible repeat (first | apply Kd.S_alloc | apply Kd.S_drewN | apply Kd.S_drew)); exact HO_5.out) hb); have n1_ := Aside0.mk (below_step (by repeat (first | (with_reducible first | exact HB.out | apply below_alloc | apply pw_below_drewN | apply below_drew1) | exact HB.out)) hb); clear HO_5; clear HB; have HO_5 := n0_; have HB := n1_; clear n0_ n1_; (try clear hb); (try clear hb2); (try clear hk); (try clear hi))); go_upto_region 5 with (first | (go_at_call 30; (with_reducible refine (find_Longest.calls kj3 _ _ t489 _ _ l1 t494 t495 t496 _ ?side1 ?side2 ?side3 ?side4 A12.out).mono ?_); (case side1 => repeat (first | exact (Kd.S_reads' HO_5.out).2.2 | (with_reducible refine Kd.C_alloc ?_ _) | (with_reducible refine Kd.C_drewN ?_ _) | (with_reducible refine Kd.C_drew ?_))); (case side2 => exact (Kd.S_reads' HO_5.out).2.1); (case side3 => repeat (first | exact (Kd.C_below HR1.out HB.out) | (with_reducible refine Kd.C_alloc ?_ _) | (with_reducible refine Kd.C_drewN ?_ _) | (with_reducible refine Kd.C_drew ?_))); (case side4 => exact HC1.out); rintro e w15 ⟨rfl, hb⟩; have n0_ := Aside0.mk (Kd.S_below (by (with_reducible repeat (first | apply Kd.S_alloc | apply Kd.S_drewN | apply Kd.S_drew)); exact HO_5.out) hb); have n1_ := Aside0.mk (below_step (by repeat (first | (with_reducible first | exact HB.out | apply below_alloc | apply pw_below_drewN | apply below_drew1) | exact HB.out)) hb); clear HO_5; clear HB; have HO_5 := n0_; have HB := n1_; clear n0_ n1_; (try clear hb); (try clear hb2); (try clear hk); (try clear hi))))
    (try simp only [Act.put, List.setIfInBounds_toArray, List.set_cons_zero, List.set_cons_succ])
    go_cut [64] (fun v64 wc => ∃ (kq : Nat) (x64_12 : Bool), v64 = .bool x64_12 ∧ Aside0 (sapperlaw14_FindNoLonger.j1 kq l0 l1 t489 t494 t495 x64_12 = some r) ∧ Aside0 (kq ≤ kj3) ∧ Aside0 (Kd.S k61 61 wc w.heap.size (fun _ => True) (.slice Ao14 t489.length co14) t489) ∧ Aside0 (Below w.heap.size w wc))
    case first => as_aux_lemma =>
     have H := HC13.out
     clear HC13
     by_cases c16 : t496 = 0
     ·rw [if_pos c16] at H
      have c16b0 : (t496 == 0) = true := beq_iff_eq.mpr c16
      have c16b1 : (t496 != 0) = false := bne_eq_false_iff_eq.mpr c16
      clear c16
      (first | rw [c16b0] | rw [c16b1] | (simp only [i64_w, i32_w]; rw [c16b0]) | skip)
      by_cases c17 : t495 < 0
      ·rw [if_pos c17] at H
       have c17b0 : decide (t495 < 0) = true := decide_eq_true c17
       clear c17
       have H' := Aside0.mk H
       clear H
       go_wp2
       repeat (go_quiet (fail); try go_wp2)
       go_meet
       case rel => exact ⟨_, (true), (by first | rfl | (simp; done) | (simp [*]; done)), H', ⟨by have := HJ3.out; first | omega | exact Nat.le_refl _⟩, ⟨by (with_reducible repeat (first | apply Kd.S_alloc | apply Kd.S_drewN | apply Kd.S_drew)); exact HO_5.out⟩, ⟨by repeat (first | (with_reducible first | exact HB.out | apply below_alloc | apply pw_below_drewN | apply below_drew1) | exact HB.out)⟩⟩
      ·rw [if_neg c17] at H
       have c17b0 : decide (t495 < 0) = false := decide_eq_false c17
       clear c17
       by_cases c18 : t495 > (l1.length : Int)
       ·rw [if_pos c18] at H
        have c18b0 : decide ((l1.length : Int) < t495) = true := decide_eq_true c18
        clear c18
        have H' := Aside0.mk H
        clear H
        go_wp2
        repeat (go_quiet (fail); try go_wp2)
        go_meet
        case rel => exact ⟨_, (true), (by first | rfl | (simp; done) | (simp [*]; done)), H', ⟨by have := HJ3.out; first | omega | exact Nat.le_refl _⟩, ⟨by (with_reducible repeat (first | apply Kd.S_alloc | apply Kd.S_drewN | apply Kd.S_drew)); exact HO_5.out⟩, ⟨by repeat (first | (with_reducible first | exact HB.out | apply below_alloc | apply pw_below_drewN | apply below_drew1) | exact HB.out)⟩⟩
       ·rw [if_neg c18] at H
        have c18b0 : decide ((l1.length : Int) < t495) = false := decide_eq_false c18
        clear c18
        by_cases c19 : t494 < 0
        ·rw [if_pos c19] at H
         have c19b0 : decide (t494 < 0) = true := decide_eq_true c19
         clear c19
         have H' := Aside0.mk H
         clear H
         go_wp2
         repeat (go_quiet (fail); try go_wp2)
         go_meet
         case rel => exact ⟨_, (true), (by first | rfl | (simp; done) | (simp [*]; done)), H', ⟨by have := HJ3.out; first | omega | exact Nat.le_refl _⟩, ⟨by (with_reducible repeat (first | apply Kd.S_alloc | apply Kd.S_drewN | apply Kd.S_drew)); exact HO_5.out⟩, ⟨by repeat (first | (with_reducible first | exact HB.out | apply below_alloc | apply pw_below_drewN | apply below_drew1) | exact HB.out)⟩⟩
        ·rw [if_neg c19] at H
         have c19b0 : decide (t494 < 0) = false := decide_eq_false c19
         clear c19
         by_cases c20 : (wrap64 (t494 + t495)) > (l0.length : Int)
         ·rw [if_pos c20] at H
          have c20b0 : decide ((l0.length : Int) < (wrap64 (t494 + t495))) = true := decide_eq_true c20
          clear c20
          have H' := Aside0.mk H
          clear H
          go_wp2
          repeat (go_quiet (fail); try go_wp2)
          go_meet
          case rel => exact ⟨_, (true), (by first | rfl | (simp; done) | (simp [*]; done)), H', ⟨by have := HJ3.out; first | omega | exact Nat.le_refl _⟩, ⟨by (with_reducible repeat (first | apply Kd.S_alloc | apply Kd.S_drewN | apply Kd.S_drew)); exact HO_5.out⟩, ⟨by repeat (first | (with_reducible first | exact HB.out | apply below_alloc | apply pw_below_drewN | apply below_drew1) | exact HB.out)⟩⟩
         ·rw [if_neg c20] at H
          have c20b0 : decide ((l0.length : Int) < (wrap64 (t494 + t495))) = false := decide_eq_false c20
          clear c20
          replace H := Option.bind_eq_some_iff.mp H
          obtain ⟨t497, A210, H⟩ := H
          replace H : (sapperlaw14_FindNoLonger.j1 kj3 l0 l1 t489 t494 t495 (!t497)) = some r := H
          have A21 := Aside0.mk A210
          clear A210
          have H' := Aside0.mk H
          clear H
          go_wp2_with (first | (go_at_call 17; (with_reducible refine (sapperlaw14_awake.calls kj3  t497 _ A21.out).mono ?_); rintro e w22 ⟨rfl, hb⟩; have n0_ := Aside0.mk (Kd.S_below (by (with_reducible repeat (first | apply Kd.S_alloc | apply Kd.S_drewN | apply Kd.S_drew)); exact HO_5.out) hb); have n1_ := Aside0.mk (below_step (by repeat (first | (with_reducible first | exact HB.out | apply below_alloc | apply pw_below_drewN | apply below_drew1) | exact HB.out)) hb); clear HO_5; clear HB; have HO_5 := n0_; have HB := n1_; clear n0_ n1_; (try clear hb); (try clear hb2); (try clear hk); (try clear hi)))
          repeat (go_quiet (first | (go_at_call 17; (with_reducible refine (sapperlaw14_awake.calls kj3  t497 _ A21.out).mono ?_); rintro e w22 ⟨rfl, hb⟩; have n0_ := Aside0.mk (Kd.S_below (by (with_reducible repeat (first | apply Kd.S_alloc | apply Kd.S_drewN | apply Kd.S_drew)); exact HO_5.out) hb); have n1_ := Aside0.mk (below_step (by repeat (first | (with_reducible first | exact HB.out | apply below_alloc | apply pw_below_drewN | apply below_drew1) | exact HB.out)) hb); clear HO_5; clear HB; have HO_5 := n0_; have HB := n1_; clear n0_ n1_; (try clear hb); (try clear hb2); (try clear hk); (try clear hi))); try go_wp2_with (first | (go_at_call 17; (with_reducible refine (sapperlaw14_awake.calls kj3  t497 _ A21.out).mono ?_); rintro e w22 ⟨rfl, hb⟩; have n0_ := Aside0.mk (Kd.S_below (by (with_reducible repeat (first | apply Kd.S_alloc | apply Kd.S_drewN | apply Kd.S_drew)); exact HO_5.out) hb); have n1_ := Aside0.mk (below_step (by repeat (first | (with_reducible first | exact HB.out | apply below_alloc | apply pw_below_drewN | apply below_drew1) | exact HB.out)) hb); clear HO_5; clear HB; have HO_5 := n0_; have HB := n1_; clear n0_ n1_; (try clear hb); (try clear hb2); (try clear hk); (try clear hi))))
          go_meet
          case rel => exact ⟨_, (!t497), (by first | rfl | (simp; done) | (simp [*]; done)), H', ⟨by have := HJ3.out; first | omega | exact Nat.le_refl _⟩, ⟨by (with_reducible repeat (first | apply Kd.S_alloc | apply Kd.S_drewN | apply Kd.S_drew)); exact HO_5.out⟩, ⟨by repeat (first | (with_reducible first | exact HB.out | apply below_alloc | apply pw_below_drewN | apply below_drew1) | exact HB.out)⟩⟩
     ·rw [if_neg c16] at H
      have c16b0 : (t496 == 0) = false := beq_eq_false_iff_ne.mpr c16
      have c16b1 : (t496 != 0) = true := bne_iff_ne.mpr c16
      (first | rw [c16b0] | rw [c16b1] | (simp only [i64_w, i32_w]; rw [c16b0]) | skip)
      have H' := Aside0.mk H
      clear H
      go_wp2
      repeat (go_quiet (fail); try go_wp2)
      go_meet
      case rel => exact ⟨_, (true), (by first | rfl | (simp; done) | (simp [*]; done)), H', ⟨by have := HJ3.out; first | omega | exact Nat.le_refl _⟩, ⟨by (with_reducible repeat (first | apply Kd.S_alloc | apply Kd.S_drewN | apply Kd.S_drew)); exact HO_5.out⟩, ⟨by repeat (first | (with_reducible first | exact HB.out | apply below_alloc | apply pw_below_drewN | apply below_drew1) | exact HB.out)⟩⟩
    case rest => as_aux_lemma =>
     clear HC13
     try clear c1
     try clear c2
     try clear p2
     try clear c6
     try clear p6
     try clear c8
     try clear c9
     try clear c16
     try clear c16b0
     try clear c16b1
     try clear c17
     try clear c17b0
     try clear c18
     try clear c18b0
     try clear c19
     try clear c19b0
     try clear c20
     try clear c20b0
     try clear p2
     obtain ⟨kq, x64_12, rfl, HA, HJ12, HO_5, HB⟩ := hcut
     cases kq with
     | zero => exact absurd HA.out (by simp [sapperlaw14_FindNoLonger.j1])
     | succ kj12 =>
      have H := HA.out
      clear HA
      simp only [sapperlaw14_FindNoLonger.j1] at H
      by_cases c23 : x64_12 = true
      ·subst c23
       have H1 : (some false) = some r := by rw [if_pos rfl] at H; exact H
       clear H
       have H := H1
       clear H1
       obtain rfl := Option.some.inj H
       go_wp2
       repeat (go_quiet (fail); try go_wp2)
       go_ret
       exact ⟨by first | rfl | (simp [errW_none, errW_some] <;> rfl) | (simp [*, errW_none, errW_some] <;> rfl), by repeat (first | (with_reducible first | exact HB.out | apply below_alloc | apply pw_below_drewN | apply below_drew1) | exact HB.out)⟩
      ·replace c23 := Bool.eq_false_iff.mpr c23
       subst c23
       have H1 : (if 0 ≤ t494 then (if t494 ≤ (wrap64 (t494 + t495)) then (if (wrap64 (t494 + t495)) ≤ (l0.length : Int) then (if 0 ≤ t495 then (if t495 ≤ (l1.length : Int) then (if (strOfNums ((l0.take ((wrap64 (t494 + t495)) : Int).toNat).drop (t494 : Int).toNat)).toList = (strOfNums (l1.take (t495 : Int).toNat)).toList then (if t495 = 0 then (sapperlaw14_FindNoLonger.j2 kj12 l0 l1 t489 t494 t495 (t494 != 0)) else (sapperlaw14_FindNoLonger.j2 kj12 l0 l1 t489 t494 t495 false)) else (sapperlaw14_FindNoLonger.j2 kj12 l0 l1 t489 t494 t495 true)) else (none)) else (none)) else (none)) else (none)) else (none)) = some r := by rw [if_neg (show ¬ (false = true) by decide)] at H; exact H
       clear H
       have H := H1
       clear H1
       have HC24 := Aside0.mk H
       clear H
       go_upto_region 7 with (fail)
       repeat (go_quiet (fail); go_upto_region 7 with (fail))
       go_cut [84] (fun v84 wc => ∃ (kq : Nat) (x84_23 : Bool), v84 = .bool x84_23 ∧ Aside0 (sapperlaw14_FindNoLonger.j2 kq l0 l1 t489 t494 t495 x84_23 = some r) ∧ Aside0 (kq ≤ kj12) ∧ Aside0 (Kd.S k61 61 wc w.heap.size (fun _ => True) (.slice Ao14 t489.length co14) t489) ∧ Aside0 (Below w.heap.size w wc))
       case first => as_aux_lemma =>
        have H := HC24.out
        clear HC24
        by_cases c25 : 0 ≤ t494
        ·rw [if_pos c25] at H
         have c25b0 := eq_true c25
         have c25b1 : decide (0 ≤ t494) = true := decide_eq_true c25
         clear c25
         by_cases c26 : t494 ≤ (wrap64 (t494 + t495))
         ·rw [if_pos c26] at H
          have c26b0 := eq_true c26
          have c26b1 : decide (t494 ≤ (wrap64 (t494 + t495))) = true := decide_eq_true c26
          by_cases c27 : (wrap64 (t494 + t495)) ≤ (l0.length : Int)
          ·rw [if_pos c27] at H
           have c27b0 := eq_true c27
           have c27b1 : decide ((wrap64 (t494 + t495)) ≤ (l0.length : Int)) = true := decide_eq_true c27
           by_cases c28 : 0 ≤ t495
           ·rw [if_pos c28] at H
            have c28b0 := eq_true c28
            have c28b1 : decide (0 ≤ t495) = true := decide_eq_true c28
            clear c28
            by_cases c29 : t495 ≤ (l1.length : Int)
            ·rw [if_pos c29] at H
             have c29b0 := eq_true c29
             have c29b1 : decide (t495 ≤ (l1.length : Int)) = true := decide_eq_true c29
             clear c29
             by_cases c30 : (strOfNums ((l0.take ((wrap64 (t494 + t495)) : Int).toNat).drop (t494 : Int).toNat)).toList = (strOfNums (l1.take (t495 : Int).toNat)).toList
             ·rw [if_pos c30] at H
              have c30b0 : ((strOfNums ((l0.take ((wrap64 (t494 + t495)) : Int).toNat).drop (t494 : Int).toNat)).toList == (strOfNums (l1.take (t495 : Int).toNat)).toList) = true := beq_iff_eq.mpr c30
              have c30b1 : ((strOfNums ((l0.take ((wrap64 (t494 + t495)) : Int).toNat).drop (t494 : Int).toNat)).toList != (strOfNums (l1.take (t495 : Int).toNat)).toList) = false := bne_eq_false_iff_eq.mpr c30
              clear c30
              (first | rw [c30b0] | rw [c30b1] | (simp only [i64_w, i32_w]; rw [c30b0]) | skip)
              by_cases c31 : t495 = 0
              ·rw [if_pos c31] at H
               have c31b0 : (t495 == 0) = true := beq_iff_eq.mpr c31
               have c31b1 : (t495 != 0) = false := bne_eq_false_iff_eq.mpr c31
               clear c31
               have H' := Aside0.mk H
               clear H
               obtain ⟨i032, hi032, _, hsz32, _⟩ := info_parts info5
               obtain ⟨A32, hcut32, hA32, hC32⟩ := print_mid_of (P := Try.prog) (Value.int .u8) 0 22 5 .i64 .i64 Try.underlying22 hi032 hsz32 A0 c0 l0 t494 (wrap64 (t494 + t495)) (of_decide_eq_true (by first | (with_reducible assumption) | assumption)) (by first | omega | exact of_decide_eq_true (by first | (with_reducible assumption) | assumption)) (of_decide_eq_true (by first | (with_reducible assumption) | assumption)) HC0.out
               (try (have hws5 := i64_w (t494 + t495)))
               have HR498 := Aside0.mk (Kd.C_of_reads (h1 := fun _ => rfl) (hA32 _ (Kd.reads_of_C HR0.out)))
               have HC498 := Aside0.mk hC32
               clear hA32 hC32 hi032 hsz32
               have hcv33 := Kd.C_string (P := Try.prog) (A := A32) (c := (c0 - t494.toNat)) Try.underlying22 Try.underlying5 Try.underlying9 (Kd.C_below HR498.out HB.out)
               (try (have hcv33k := C_string0 (P := Try.prog) (A := A32) (c := (c0 - t494.toNat)) Try.underlying22 Try.underlying5 Try.underlying9 (Kd.C_below HR498.out HB.out)))
               (try (have hcv33n := C_string1 (P := Try.prog) (A := A32) (c := (c0 - t494.toNat)) Try.underlying22 Try.underlying5 Try.underlying9 (Kd.C_below HR498.out HB.out)))
               (try (have hcv33m := C_string2 (P := Try.prog) (A := A32) (c := (c0 - t494.toNat)) Try.underlying22 Try.underlying5 Try.underlying9 (Kd.C_below HR498.out HB.out)))
               obtain ⟨i034, hi034, _, hsz34, _⟩ := info_parts info5
               obtain ⟨hcut34, hA34, hC34⟩ := print_take_of (P := Try.prog) (Value.int .u8) 0 22 5 .i64 Try.underlying22 hi034 hsz34 A1 c1 l1 t495 (of_decide_eq_true (by first | (with_reducible assumption) | assumption)) (of_decide_eq_true (by first | (with_reducible assumption) | assumption)) HC1.out
               have HR499 := Aside0.mk (Kd.C_of_reads (h1 := fun _ => rfl) (hA34 _ (Kd.reads_of_C HR1.out)))
               have HC499 := Aside0.mk hC34
               clear hA34 hC34 hi034 hsz34
               have hcv35 := Kd.C_string (P := Try.prog) (A := A1) (c := c1) Try.underlying22 Try.underlying5 Try.underlying9 (Kd.C_below HR499.out HB.out)
               (try (have hcv35k := C_string0 (P := Try.prog) (A := A1) (c := c1) Try.underlying22 Try.underlying5 Try.underlying9 (Kd.C_below HR499.out HB.out)))
               (try (have hcv35n := C_string1 (P := Try.prog) (A := A1) (c := c1) Try.underlying22 Try.underlying5 Try.underlying9 (Kd.C_below HR499.out HB.out)))
               (try (have hcv35m := C_string2 (P := Try.prog) (A := A1) (c := c1) Try.underlying22 Try.underlying5 Try.underlying9 (Kd.C_below HR499.out HB.out)))
               go_wp2
               repeat (go_quiet (fail); try go_wp2)
               go_meet
               case rel => exact ⟨_, ((t494 != 0)), (by first | rfl | (simp; done) | (simp [*]; done)), H', ⟨by have := HJ3.out; have := HJ12.out; first | omega | exact Nat.le_refl _⟩, ⟨by (with_reducible repeat (first | apply Kd.S_alloc | apply Kd.S_drewN | apply Kd.S_drew)); exact HO_5.out⟩, ⟨by repeat (first | (with_reducible first | exact HB.out | apply below_alloc | apply pw_below_drewN | apply below_drew1) | exact HB.out)⟩⟩
              ·rw [if_neg c31] at H
               have c31b0 : (t495 == 0) = false := beq_eq_false_iff_ne.mpr c31
               have c31b1 : (t495 != 0) = true := bne_iff_ne.mpr c31
               have H' := Aside0.mk H
               clear H
               obtain ⟨i036, hi036, _, hsz36, _⟩ := info_parts info5
               obtain ⟨A36, hcut36, hA36, hC36⟩ := print_mid_of (P := Try.prog) (Value.int .u8) 0 22 5 .i64 .i64 Try.underlying22 hi036 hsz36 A0 c0 l0 t494 (wrap64 (t494 + t495)) (of_decide_eq_true (by first | (with_reducible assumption) | assumption)) (by first | omega | exact of_decide_eq_true (by first | (with_reducible assumption) | assumption)) (of_decide_eq_true (by first | (with_reducible assumption) | assumption)) HC0.out
               (try (have hws6 := i64_w (t494 + t495)))
               have HR498 := Aside0.mk (Kd.C_of_reads (h1 := fun _ => rfl) (hA36 _ (Kd.reads_of_C HR0.out)))
               have HC498 := Aside0.mk hC36
               clear hA36 hC36 hi036 hsz36
               have hcv37 := Kd.C_string (P := Try.prog) (A := A36) (c := (c0 - t494.toNat)) Try.underlying22 Try.underlying5 Try.underlying9 (Kd.C_below HR498.out HB.out)
               (try (have hcv37k := C_string0 (P := Try.prog) (A := A36) (c := (c0 - t494.toNat)) Try.underlying22 Try.underlying5 Try.underlying9 (Kd.C_below HR498.out HB.out)))
               (try (have hcv37n := C_string1 (P := Try.prog) (A := A36) (c := (c0 - t494.toNat)) Try.underlying22 Try.underlying5 Try.underlying9 (Kd.C_below HR498.out HB.out)))
               (try (have hcv37m := C_string2 (P := Try.prog) (A := A36) (c := (c0 - t494.toNat)) Try.underlying22 Try.underlying5 Try.underlying9 (Kd.C_below HR498.out HB.out)))
               obtain ⟨i038, hi038, _, hsz38, _⟩ := info_parts info5
               obtain ⟨hcut38, hA38, hC38⟩ := print_take_of (P := Try.prog) (Value.int .u8) 0 22 5 .i64 Try.underlying22 hi038 hsz38 A1 c1 l1 t495 (of_decide_eq_true (by first | (with_reducible assumption) | assumption)) (of_decide_eq_true (by first | (with_reducible assumption) | assumption)) HC1.out
               have HR499 := Aside0.mk (Kd.C_of_reads (h1 := fun _ => rfl) (hA38 _ (Kd.reads_of_C HR1.out)))
               have HC499 := Aside0.mk hC38
               clear hA38 hC38 hi038 hsz38
               have hcv39 := Kd.C_string (P := Try.prog) (A := A1) (c := c1) Try.underlying22 Try.underlying5 Try.underlying9 (Kd.C_below HR499.out HB.out)
               (try (have hcv39k := C_string0 (P := Try.prog) (A := A1) (c := c1) Try.underlying22 Try.underlying5 Try.underlying9 (Kd.C_below HR499.out HB.out)))
               (try (have hcv39n := C_string1 (P := Try.prog) (A := A1) (c := c1) Try.underlying22 Try.underlying5 Try.underlying9 (Kd.C_below HR499.out HB.out)))
               (try (have hcv39m := C_string2 (P := Try.prog) (A := A1) (c := c1) Try.underlying22 Try.underlying5 Try.underlying9 (Kd.C_below HR499.out HB.out)))
               go_wp2
               repeat (go_quiet (fail); try go_wp2)
               go_meet
               case rel => exact ⟨_, (false), (by first | rfl | (simp; done) | (simp [*]; done)), H', ⟨by have := HJ3.out; have := HJ12.out; first | omega | exact Nat.le_refl _⟩, ⟨by (with_reducible repeat (first | apply Kd.S_alloc | apply Kd.S_drewN | apply Kd.S_drew)); exact HO_5.out⟩, ⟨by repeat (first | (with_reducible first | exact HB.out | apply below_alloc | apply pw_below_drewN | apply below_drew1) | exact HB.out)⟩⟩
             ·rw [if_neg c30] at H
              have c30b0 : ((strOfNums ((l0.take ((wrap64 (t494 + t495)) : Int).toNat).drop (t494 : Int).toNat)).toList == (strOfNums (l1.take (t495 : Int).toNat)).toList) = false := beq_eq_false_iff_ne.mpr c30
              have c30b1 : ((strOfNums ((l0.take ((wrap64 (t494 + t495)) : Int).toNat).drop (t494 : Int).toNat)).toList != (strOfNums (l1.take (t495 : Int).toNat)).toList) = true := bne_iff_ne.mpr c30
              (first | rw [c30b0] | rw [c30b1] | (simp only [i64_w, i32_w]; rw [c30b0]) | skip)
              have H' := Aside0.mk H
              clear H
              obtain ⟨i040, hi040, _, hsz40, _⟩ := info_parts info5
              obtain ⟨A40, hcut40, hA40, hC40⟩ := print_mid_of (P := Try.prog) (Value.int .u8) 0 22 5 .i64 .i64 Try.underlying22 hi040 hsz40 A0 c0 l0 t494 (wrap64 (t494 + t495)) (of_decide_eq_true (by first | (with_reducible assumption) | assumption)) (by first | omega | exact of_decide_eq_true (by first | (with_reducible assumption) | assumption)) (of_decide_eq_true (by first | (with_reducible assumption) | assumption)) HC0.out
              (try (have hws7 := i64_w (t494 + t495)))
              have HR498 := Aside0.mk (Kd.C_of_reads (h1 := fun _ => rfl) (hA40 _ (Kd.reads_of_C HR0.out)))
              have HC498 := Aside0.mk hC40
              clear hA40 hC40 hi040 hsz40
              have hcv41 := Kd.C_string (P := Try.prog) (A := A40) (c := (c0 - t494.toNat)) Try.underlying22 Try.underlying5 Try.underlying9 (Kd.C_below HR498.out HB.out)
              (try (have hcv41k := C_string0 (P := Try.prog) (A := A40) (c := (c0 - t494.toNat)) Try.underlying22 Try.underlying5 Try.underlying9 (Kd.C_below HR498.out HB.out)))
              (try (have hcv41n := C_string1 (P := Try.prog) (A := A40) (c := (c0 - t494.toNat)) Try.underlying22 Try.underlying5 Try.underlying9 (Kd.C_below HR498.out HB.out)))
              (try (have hcv41m := C_string2 (P := Try.prog) (A := A40) (c := (c0 - t494.toNat)) Try.underlying22 Try.underlying5 Try.underlying9 (Kd.C_below HR498.out HB.out)))
              obtain ⟨i042, hi042, _, hsz42, _⟩ := info_parts info5
              obtain ⟨hcut42, hA42, hC42⟩ := print_take_of (P := Try.prog) (Value.int .u8) 0 22 5 .i64 Try.underlying22 hi042 hsz42 A1 c1 l1 t495 (of_decide_eq_true (by first | (with_reducible assumption) | assumption)) (of_decide_eq_true (by first | (with_reducible assumption) | assumption)) HC1.out
              have HR499 := Aside0.mk (Kd.C_of_reads (h1 := fun _ => rfl) (hA42 _ (Kd.reads_of_C HR1.out)))
              have HC499 := Aside0.mk hC42
              clear hA42 hC42 hi042 hsz42
              have hcv43 := Kd.C_string (P := Try.prog) (A := A1) (c := c1) Try.underlying22 Try.underlying5 Try.underlying9 (Kd.C_below HR499.out HB.out)
              (try (have hcv43k := C_string0 (P := Try.prog) (A := A1) (c := c1) Try.underlying22 Try.underlying5 Try.underlying9 (Kd.C_below HR499.out HB.out)))
              (try (have hcv43n := C_string1 (P := Try.prog) (A := A1) (c := c1) Try.underlying22 Try.underlying5 Try.underlying9 (Kd.C_below HR499.out HB.out)))
              (try (have hcv43m := C_string2 (P := Try.prog) (A := A1) (c := c1) Try.underlying22 Try.underlying5 Try.underlying9 (Kd.C_below HR499.out HB.out)))
              go_wp2
              repeat (go_quiet (fail); try go_wp2)
              go_meet
              case rel => exact ⟨_, (true), (by first | rfl | (simp; done) | (simp [*]; done)), H', ⟨by have := HJ3.out; have := HJ12.out; first | omega | exact Nat.le_refl _⟩, ⟨by (with_reducible repeat (first | apply Kd.S_alloc | apply Kd.S_drewN | apply Kd.S_drew)); exact HO_5.out⟩, ⟨by repeat (first | (with_reducible first | exact HB.out | apply below_alloc | apply pw_below_drewN | apply below_drew1) | exact HB.out)⟩⟩
            ·rw [if_neg c29] at H
             exact absurd H (by simp)
           ·rw [if_neg c28] at H
            exact absurd H (by simp)
          ·rw [if_neg c27] at H
           exact absurd H (by simp)
         ·rw [if_neg c26] at H
          exact absurd H (by simp)
        ·rw [if_neg c25] at H
         exact absurd H (by simp)
       case rest => as_aux_lemma =>
        clear HC24
        try clear c1
        try clear c2
        try clear p2
        try clear c3
        try clear hcv3
        try clear hcv4
        try clear c6
        try clear p6
        try clear c8
        try clear c9
        try clear c16
        try clear c16b0
        try clear c16b1
        try clear c17
        try clear c17b0
        try clear c18
        try clear c18b0
        try clear c19
        try clear c19b0
        try clear c20
        try clear c20b0
        try clear c23
        try clear c25
        try clear c25b0
        try clear c25b1
        try clear c26
        try clear c26b0
        try clear c26b1
        try clear c27
        try clear c27b0
        try clear c27b1
        try clear c28
        try clear c28b0
        try clear c28b1
        try clear c29
        try clear c29b0
        try clear c29b1
        try clear c30
        try clear c30b0
        try clear c30b1
        try clear c31
        try clear c31b0
        try clear c31b1
        try clear hcv33
        try clear hcv35
        try clear hcv37
        try clear hcv39
        try clear hcv41
        try clear hcv43
        try clear p2
        try clear p6
        obtain ⟨kq, x84_23, rfl, HA, HJ23, HO_5, HB⟩ := hcut
        cases kq with
        | zero => exact absurd HA.out (by simp [sapperlaw14_FindNoLonger.j2])
        | succ kj23 =>
         have H := HA.out
         clear HA
         simp only [sapperlaw14_FindNoLonger.j2] at H
         by_cases c44 : x84_23 = true
         ·subst c44
          have H1 : (some false) = some r := by rw [if_pos rfl] at H; exact H
          clear H
          have H := H1
          clear H1
          obtain rfl := Option.some.inj H
          go_wp2
          repeat (go_quiet (fail); try go_wp2)
          go_ret
          exact ⟨by first | rfl | (simp [errW_none, errW_some] <;> rfl) | (simp [*, errW_none, errW_some] <;> rfl), by repeat (first | (with_reducible first | exact HB.out | apply below_alloc | apply pw_below_drewN | apply below_drew1) | exact HB.out)⟩
         ·replace c44 := Bool.eq_false_iff.mpr c44
          subst c44
          have H1 : (sapperlaw14_FindNoLonger.l0 kj23 l0 l1 t489 t494 t495 0) = some r := by rw [if_neg (show ¬ (false = true) by decide)] at H; exact H
          clear H
          have H := H1
          clear H1
          have H' := Aside0.mk H
          clear H
          go_wp2
          repeat (go_quiet (fail); try go_wp2)
          go_loopg [10] kj23 (fun kq v10 w' => ∃ (x10_4 : Int), v10 = .int .i64 x10_4 ∧ Aside0 (sapperlaw14_FindNoLonger.l0 kq l0 l1 t489 t494 t495 x10_4 = some r) ∧ Aside0 (kq ≤ kj23) ∧ Aside0 (Kd.S k61 61 w' w.heap.size (fun _ => True) (.slice Ao14 t489.length co14) t489) ∧ Aside0 (Below w.heap.size w w'))
          case atStart => exact ⟨(0), (by first | rfl | (simp; done) | (simp [*]; done)), H', ⟨Nat.le_refl _⟩, ⟨by (with_reducible repeat (first | apply Kd.S_alloc | apply Kd.S_drewN | apply Kd.S_drew)); exact HO_5.out⟩, ⟨by repeat (first | (with_reducible first | exact HB.out | apply below_alloc | apply pw_below_drewN | apply below_drew1) | exact HB.out)⟩⟩
          case round => as_aux_lemma =>
           clear H'
           try clear c1
           try clear c2
           try clear p2
           try clear c3
           try clear hcv3
           try clear c4
           try clear hcv4
           try clear c6
           try clear p6
           try clear c8
           try clear c9
           try clear c16
           try clear c16b0
           try clear c16b1
           try clear c17
           try clear c17b0
           try clear c18
           try clear c18b0
           try clear c19
           try clear c19b0
           try clear c20
           try clear c20b0
           try clear c23
           try clear c25
           try clear c25b0
           try clear c25b1
           try clear c26
           try clear c26b0
           try clear c26b1
           try clear c27
           try clear c27b0
           try clear c27b1
           try clear c28
           try clear c28b0
           try clear c28b1
           try clear c29
           try clear c29b0
           try clear c29b1
           try clear c30
           try clear c30b0
           try clear c30b1
           try clear c31
           try clear c31b0
           try clear c31b1
           try clear hcv33
           try clear hcv35
           try clear hcv37
           try clear hcv39
           try clear hcv41
           try clear hcv43
           try clear c44
           try clear p2
           try clear p6
           obtain ⟨x10_4, rfl, HA, HK4, HO_5, HB⟩ := hrel
           cases gk with
           | zero => exact absurd HA.out (by simp [sapperlaw14_FindNoLonger.l0])
           | succ k4 =>
            have H := HA.out
            clear HA
            simp only [sapperlaw14_FindNoLonger.l0] at H
            have HC45 := Aside0.mk H
            clear H
            go_upto_region 10 with (fail)
            repeat (go_quiet (fail); go_upto_region 10 with (fail))
            go_cut [96] (fun v96 wc => ∃ (kq : Nat) (x96_44 : Bool), v96 = .bool x96_44 ∧ Aside0 (sapperlaw14_FindNoLonger.j4 kq l0 l1 t489 t494 t495 x10_4 x96_44 = some r) ∧ Aside0 (kq ≤ k4) ∧ Aside0 (Kd.S k61 61 wc w.heap.size (fun _ => True) (.slice Ao14 t489.length co14) t489) ∧ Aside0 (Below w.heap.size w wc))
            case first => as_aux_lemma =>
             have H := HC45.out
             clear HC45
             by_cases c46 : (wrap64 (x10_4 + t495)) < (l0.length : Int)
             ·rw [if_pos c46] at H
              have c46b0 : decide ((wrap64 (x10_4 + t495)) < (l0.length : Int)) = true := decide_eq_true c46
              clear c46
              (first | rw [c46b0] | rw [c46b1] | (simp only [i64_w, i32_w]; rw [c46b0]) | skip)
              have H' := Aside0.mk H
              clear H
              go_wp2
              repeat (go_quiet (fail); try go_wp2)
              go_meet
              case rel => exact ⟨_, (decide (t495 < (l1.length : Int))), (by first | rfl | (simp; done) | (simp [*]; done)), H', ⟨by have := HJ3.out; have := HJ12.out; have := HJ23.out; have := HK4.out; first | omega | exact Nat.le_refl _⟩, ⟨by (with_reducible repeat (first | apply Kd.S_alloc | apply Kd.S_drewN | apply Kd.S_drew)); exact HO_5.out⟩, ⟨by repeat (first | (with_reducible first | exact HB.out | apply below_alloc | apply pw_below_drewN | apply below_drew1) | exact HB.out)⟩⟩
             ·rw [if_neg c46] at H
              have c46b0 : decide ((wrap64 (x10_4 + t495)) < (l0.length : Int)) = false := decide_eq_false c46
              clear c46
              (first | rw [c46b0] | rw [c46b1] | (simp only [i64_w, i32_w]; rw [c46b0]) | skip)
              have H' := Aside0.mk H
              clear H
              go_wp2
              repeat (go_quiet (fail); try go_wp2)
              go_meet
              case rel => exact ⟨_, (false), (by first | rfl | (simp; done) | (simp [*]; done)), H', ⟨by have := HJ3.out; have := HJ12.out; have := HJ23.out; have := HK4.out; first | omega | exact Nat.le_refl _⟩, ⟨by (with_reducible repeat (first | apply Kd.S_alloc | apply Kd.S_drewN | apply Kd.S_drew)); exact HO_5.out⟩, ⟨by repeat (first | (with_reducible first | exact HB.out | apply below_alloc | apply pw_below_drewN | apply below_drew1) | exact HB.out)⟩⟩
            case rest => as_aux_lemma =>
             clear HC45
             try clear c1
             try clear c2
             try clear p2
             try clear c3
             try clear hcv3
             try clear c4
             try clear hcv4
             try clear c6
             try clear p6
             try clear c8
             try clear c9
             try clear c16
             try clear c16b0
             try clear c16b1
             try clear c17
             try clear c17b0
             try clear c18
             try clear c18b0
             try clear c19
             try clear c19b0
             try clear c20
             try clear c20b0
             try clear c23
             try clear c25
             try clear c25b0
             try clear c25b1
             try clear c26
             try clear c26b0
             try clear c26b1
             try clear c27
             try clear c27b0
             try clear c27b1
             try clear c28
             try clear c28b0
             try clear c28b1
             try clear c29
             try clear c29b0
             try clear c29b1
             try clear c30
             try clear c30b0
             try clear c30b1
             try clear c31
             try clear c31b0
             try clear c31b1
             try clear hcv33
             try clear hcv35
             try clear hcv37
             try clear hcv39
             try clear hcv41
             try clear hcv43
             try clear c44
             try clear c46
             try clear c46b0
             try clear p2
             try clear p6
             obtain ⟨kq, x96_44, rfl, HA, HJ44, HO_5, HB⟩ := hcut
             cases kq with
             | zero => exact absurd HA.out (by simp [sapperlaw14_FindNoLonger.j4])
             | succ kj44 =>
              have H := HA.out
              clear HA
              simp only [sapperlaw14_FindNoLonger.j4] at H
              by_cases c47 : x96_44 = true
              ·subst c47
               have H1 : (if 0 ≤ x10_4 then (if x10_4 ≤ (wrap64 ((wrap64 (x10_4 + t495)) + 1)) then (if (wrap64 ((wrap64 (x10_4 + t495)) + 1)) ≤ (l0.length : Int) then (if 0 ≤ (wrap64 (t495 + 1)) then (if (wrap64 (t495 + 1)) ≤ (l1.length : Int) then (if (strOfNums ((l0.take ((wrap64 ((wrap64 (x10_4 + t495)) + 1)) : Int).toNat).drop (x10_4 : Int).toNat)).toList = (strOfNums (l1.take ((wrap64 (t495 + 1)) : Int).toNat)).toList then (some false) else (sapperlaw14_FindNoLonger.l0 kj44 l0 l1 t489 t494 t495 (wrap64 (x10_4 + 1)))) else (none)) else (none)) else (none)) else (none)) else (none)) = some r := by rw [if_pos rfl] at H; exact H
               clear H
               have H := H1
               clear H1
               by_cases c48 : 0 ≤ x10_4
               ·rw [if_pos c48] at H
                have c48b0 := eq_true c48
                have c48b1 : decide (0 ≤ x10_4) = true := decide_eq_true c48
                clear c48
                by_cases c49 : x10_4 ≤ (wrap64 ((wrap64 (x10_4 + t495)) + 1))
                ·rw [if_pos c49] at H
                 have c49b0 := eq_true c49
                 have c49b1 : decide (x10_4 ≤ (wrap64 ((wrap64 (x10_4 + t495)) + 1))) = true := decide_eq_true c49
                 by_cases c50 : (wrap64 ((wrap64 (x10_4 + t495)) + 1)) ≤ (l0.length : Int)
                 ·rw [if_pos c50] at H
                  have c50b0 := eq_true c50
                  have c50b1 : decide ((wrap64 ((wrap64 (x10_4 + t495)) + 1)) ≤ (l0.length : Int)) = true := decide_eq_true c50
                  obtain ⟨ji51, hji51⟩ : ∃ j_ : Int, (wrap64 (t495 + 1)) = j_ := ⟨_, rfl⟩
                  replace H : (if 0 ≤ (ji51) then (if (ji51) ≤ (l1.length : Int) then (if (strOfNums ((l0.take ((wrap64 ((wrap64 (x10_4 + t495)) + 1)) : Int).toNat).drop (x10_4 : Int).toNat)).toList = (strOfNums (l1.take ((ji51) : Int).toNat)).toList then (some false) else (sapperlaw14_FindNoLonger.l0 kj44 l0 l1 t489 t494 t495 (wrap64 (x10_4 + 1)))) else (none)) else (none)) = some r := by first | (rw [hji51] at H; exact H) | (simp only [hji51] at H ⊢; exact H)
                  have hji51w : (IntKind.i64.wrap (t495 + 1)) = ji51 := (i64_w _).trans hji51
                  by_cases c52 : 0 ≤ (ji51)
                  ·rw [if_pos c52] at H
                   have c52b0 := eq_true c52
                   have c52b1 : decide (0 ≤ (ji51)) = true := decide_eq_true c52
                   clear c52
                   by_cases c53 : (ji51) ≤ (l1.length : Int)
                   ·rw [if_pos c53] at H
                    have c53b0 := eq_true c53
                    have c53b1 : decide ((ji51) ≤ (l1.length : Int)) = true := decide_eq_true c53
                    clear c53
                    by_cases c54 : (strOfNums ((l0.take ((wrap64 ((wrap64 (x10_4 + t495)) + 1)) : Int).toNat).drop (x10_4 : Int).toNat)).toList = (strOfNums (l1.take ((ji51) : Int).toNat)).toList
                    ·rw [if_pos c54] at H
                     have c54b0 : ((strOfNums ((l0.take ((wrap64 ((wrap64 (x10_4 + t495)) + 1)) : Int).toNat).drop (x10_4 : Int).toNat)).toList == (strOfNums (l1.take ((ji51) : Int).toNat)).toList) = true := beq_iff_eq.mpr c54
                     have c54b1 : ((strOfNums ((l0.take ((wrap64 ((wrap64 (x10_4 + t495)) + 1)) : Int).toNat).drop (x10_4 : Int).toNat)).toList != (strOfNums (l1.take ((ji51) : Int).toNat)).toList) = false := bne_eq_false_iff_eq.mpr c54
                     clear c54
                     obtain rfl := Option.some.inj H
                     obtain ⟨i055, hi055, _, hsz55, _⟩ := info_parts info5
                     obtain ⟨A55, hcut55, hA55, hC55⟩ := print_mid_of (P := Try.prog) (Value.int .u8) 0 22 5 .i64 .i64 Try.underlying22 hi055 hsz55 A0 c0 l0 x10_4 (wrap64 ((wrap64 (x10_4 + t495)) + 1)) (of_decide_eq_true (by first | (with_reducible assumption) | assumption)) (by first | omega | exact of_decide_eq_true (by first | (with_reducible assumption) | assumption)) (of_decide_eq_true (by first | (with_reducible assumption) | assumption)) HC0.out
                     (try (have hws8 := i64_w ((wrap64 (x10_4 + t495)) + 1)))
                     (try (have hws9 := i64_w (x10_4 + t495)))
                     have HR500 := Aside0.mk (Kd.C_of_reads (h1 := fun _ => rfl) (hA55 _ (Kd.reads_of_C HR0.out)))
                     have HC500 := Aside0.mk hC55
                     clear hA55 hC55 hi055 hsz55
                     have hcv56 := Kd.C_string (P := Try.prog) (A := A55) (c := (c0 - x10_4.toNat)) Try.underlying22 Try.underlying5 Try.underlying9 (Kd.C_below HR500.out HB.out)
                     (try (have hcv56k := C_string0 (P := Try.prog) (A := A55) (c := (c0 - x10_4.toNat)) Try.underlying22 Try.underlying5 Try.underlying9 (Kd.C_below HR500.out HB.out)))
                     (try (have hcv56n := C_string1 (P := Try.prog) (A := A55) (c := (c0 - x10_4.toNat)) Try.underlying22 Try.underlying5 Try.underlying9 (Kd.C_below HR500.out HB.out)))
                     (try (have hcv56m := C_string2 (P := Try.prog) (A := A55) (c := (c0 - x10_4.toNat)) Try.underlying22 Try.underlying5 Try.underlying9 (Kd.C_below HR500.out HB.out)))
                     obtain ⟨i057, hi057, _, hsz57, _⟩ := info_parts info5
                     obtain ⟨hcut57, hA57, hC57⟩ := print_take_of (P := Try.prog) (Value.int .u8) 0 22 5 .i64 Try.underlying22 hi057 hsz57 A1 c1 l1 (ji51) (of_decide_eq_true (by first | (with_reducible assumption) | assumption)) (of_decide_eq_true (by first | (with_reducible assumption) | assumption)) HC1.out
                     have HR501 := Aside0.mk (Kd.C_of_reads (h1 := fun _ => rfl) (hA57 _ (Kd.reads_of_C HR1.out)))
                     have HC501 := Aside0.mk hC57
                     clear hA57 hC57 hi057 hsz57
                     have hcv58 := Kd.C_string (P := Try.prog) (A := A1) (c := c1) Try.underlying22 Try.underlying5 Try.underlying9 (Kd.C_below HR501.out HB.out)
                     (try (have hcv58k := C_string0 (P := Try.prog) (A := A1) (c := c1) Try.underlying22 Try.underlying5 Try.underlying9 (Kd.C_below HR501.out HB.out)))
                     (try (have hcv58n := C_string1 (P := Try.prog) (A := A1) (c := c1) Try.underlying22 Try.underlying5 Try.underlying9 (Kd.C_below HR501.out HB.out)))
                     (try (have hcv58m := C_string2 (P := Try.prog) (A := A1) (c := c1) Try.underlying22 Try.underlying5 Try.underlying9 (Kd.C_below HR501.out HB.out)))
                     go_wp2
                     repeat (go_quiet (fail); try go_wp2)
                     go_ret
                     exact ⟨by first | rfl | (simp [errW_none, errW_some] <;> rfl) | (simp only [← hji51]; first | rfl | (simp [errW_none, errW_some] <;> rfl)) | (simp [*, errW_none, errW_some] <;> rfl), by repeat (first | (with_reducible first | exact HB.out | apply below_alloc | apply pw_below_drewN | apply below_drew1) | exact HB.out)⟩
                    ·rw [if_neg c54] at H
                     have c54b0 : ((strOfNums ((l0.take ((wrap64 ((wrap64 (x10_4 + t495)) + 1)) : Int).toNat).drop (x10_4 : Int).toNat)).toList == (strOfNums (l1.take ((ji51) : Int).toNat)).toList) = false := beq_eq_false_iff_ne.mpr c54
                     have c54b1 : ((strOfNums ((l0.take ((wrap64 ((wrap64 (x10_4 + t495)) + 1)) : Int).toNat).drop (x10_4 : Int).toNat)).toList != (strOfNums (l1.take ((ji51) : Int).toNat)).toList) = true := bne_iff_ne.mpr c54
                     have H' := Aside0.mk H
                     clear H
                     obtain ⟨i059, hi059, _, hsz59, _⟩ := info_parts info5
                     obtain ⟨A59, hcut59, hA59, hC59⟩ := print_mid_of (P := Try.prog) (Value.int .u8) 0 22 5 .i64 .i64 Try.underlying22 hi059 hsz59 A0 c0 l0 x10_4 (wrap64 ((wrap64 (x10_4 + t495)) + 1)) (of_decide_eq_true (by first | (with_reducible assumption) | assumption)) (by first | omega | exact of_decide_eq_true (by first | (with_reducible assumption) | assumption)) (of_decide_eq_true (by first | (with_reducible assumption) | assumption)) HC0.out
                     (try (have hws10 := i64_w ((wrap64 (x10_4 + t495)) + 1)))
                     (try (have hws11 := i64_w (x10_4 + t495)))
                     have HR500 := Aside0.mk (Kd.C_of_reads (h1 := fun _ => rfl) (hA59 _ (Kd.reads_of_C HR0.out)))
                     have HC500 := Aside0.mk hC59
                     clear hA59 hC59 hi059 hsz59
                     have hcv60 := Kd.C_string (P := Try.prog) (A := A59) (c := (c0 - x10_4.toNat)) Try.underlying22 Try.underlying5 Try.underlying9 (Kd.C_below HR500.out HB.out)
                     (try (have hcv60k := C_string0 (P := Try.prog) (A := A59) (c := (c0 - x10_4.toNat)) Try.underlying22 Try.underlying5 Try.underlying9 (Kd.C_below HR500.out HB.out)))
                     (try (have hcv60n := C_string1 (P := Try.prog) (A := A59) (c := (c0 - x10_4.toNat)) Try.underlying22 Try.underlying5 Try.underlying9 (Kd.C_below HR500.out HB.out)))
                     (try (have hcv60m := C_string2 (P := Try.prog) (A := A59) (c := (c0 - x10_4.toNat)) Try.underlying22 Try.underlying5 Try.underlying9 (Kd.C_below HR500.out HB.out)))
                     obtain ⟨i061, hi061, _, hsz61, _⟩ := info_parts info5
                     obtain ⟨hcut61, hA61, hC61⟩ := print_take_of (P := Try.prog) (Value.int .u8) 0 22 5 .i64 Try.underlying22 hi061 hsz61 A1 c1 l1 (ji51) (of_decide_eq_true (by first | (with_reducible assumption) | assumption)) (of_decide_eq_true (by first | (with_reducible assumption) | assumption)) HC1.out
                     have HR501 := Aside0.mk (Kd.C_of_reads (h1 := fun _ => rfl) (hA61 _ (Kd.reads_of_C HR1.out)))
                     have HC501 := Aside0.mk hC61
                     clear hA61 hC61 hi061 hsz61
                     have hcv62 := Kd.C_string (P := Try.prog) (A := A1) (c := c1) Try.underlying22 Try.underlying5 Try.underlying9 (Kd.C_below HR501.out HB.out)
                     (try (have hcv62k := C_string0 (P := Try.prog) (A := A1) (c := c1) Try.underlying22 Try.underlying5 Try.underlying9 (Kd.C_below HR501.out HB.out)))
                     (try (have hcv62n := C_string1 (P := Try.prog) (A := A1) (c := c1) Try.underlying22 Try.underlying5 Try.underlying9 (Kd.C_below HR501.out HB.out)))
                     (try (have hcv62m := C_string2 (P := Try.prog) (A := A1) (c := c1) Try.underlying22 Try.underlying5 Try.underlying9 (Kd.C_below HR501.out HB.out)))
                     go_wp2
                     repeat (go_quiet (fail); try go_wp2)
                     go_roundg kj44
                     case measure => have := HJ3.out; have := HJ12.out; have := HJ23.out; have := HK4.out; have := HJ44.out; omega
                     case rel => exact ⟨(wrap64 (x10_4 + 1)), (by first | rfl | (simp; done) | (simp [*]; done)), H', ⟨by have := HJ3.out; have := HJ12.out; have := HJ23.out; have := HK4.out; have := HJ44.out; omega⟩, ⟨by (with_reducible repeat (first | apply Kd.S_alloc | apply Kd.S_drewN | apply Kd.S_drew)); exact HO_5.out⟩, ⟨by repeat (first | (with_reducible first | exact HB.out | apply below_alloc | apply pw_below_drewN | apply below_drew1) | exact HB.out)⟩⟩
                   ·rw [if_neg c53] at H
                    exact absurd H (by simp)
                  ·rw [if_neg c52] at H
                   exact absurd H (by simp)
                 ·rw [if_neg c50] at H
                  exact absurd H (by simp)
                ·rw [if_neg c49] at H
                 exact absurd H (by simp)
               ·rw [if_neg c48] at H
                exact absurd H (by simp)
              ·replace c47 := Bool.eq_false_iff.mpr c47
               subst c47
               have H1 : (sapperlaw14_FindNoLonger.l1 kj44 l0 l1 t489 t494 t495 0) = some r := by rw [if_neg (show ¬ (false = true) by decide)] at H; exact H
               clear H
               have H := H1
               clear H1
               have H' := Aside0.mk H
               clear H
               go_wp2
               repeat (go_quiet (fail); try go_wp2)
               go_loopg [11] kj44 (fun kq v11 w' => ∃ (x11_6 : Int), v11 = .int .i64 x11_6 ∧ Aside0 (sapperlaw14_FindNoLonger.l1 kq l0 l1 t489 t494 t495 x11_6 = some r) ∧ Aside0 (kq ≤ kj44) ∧ Aside0 (Kd.S k61 61 w' w.heap.size (fun _ => True) (.slice Ao14 t489.length co14) t489) ∧ Aside0 (Below w.heap.size w w'))
               case atStart => exact ⟨(0), (by first | rfl | (simp; done) | (simp [*]; done)), H', ⟨Nat.le_refl _⟩, ⟨by (with_reducible repeat (first | apply Kd.S_alloc | apply Kd.S_drewN | apply Kd.S_drew)); exact HO_5.out⟩, ⟨by repeat (first | (with_reducible first | exact HB.out | apply below_alloc | apply pw_below_drewN | apply below_drew1) | exact HB.out)⟩⟩
               case round => as_aux_lemma =>
                clear H'
                try clear c1
                try clear c2
                try clear p2
                try clear c3
                try clear hcv3
                try clear c4
                try clear hcv4
                try clear c5
                try clear hcv5
                try clear c6
                try clear p6
                try clear hcv6
                try clear c8
                try clear c9
                try clear c16
                try clear c16b0
                try clear c16b1
                try clear c17
                try clear c17b0
                try clear c18
                try clear c18b0
                try clear c19
                try clear c19b0
                try clear c20
                try clear c20b0
                try clear c23
                try clear c25
                try clear c25b0
                try clear c25b1
                try clear c26
                try clear c26b0
                try clear c26b1
                try clear c27
                try clear c27b0
                try clear c27b1
                try clear c28
                try clear c28b0
                try clear c28b1
                try clear c29
                try clear c29b0
                try clear c29b1
                try clear c30
                try clear c30b0
                try clear c30b1
                try clear c31
                try clear c31b0
                try clear c31b1
                try clear hcv33
                try clear hcv35
                try clear hcv37
                try clear hcv39
                try clear hcv41
                try clear hcv43
                try clear c44
                try clear c46
                try clear c46b0
                try clear c47
                try clear c48
                try clear c48b0
                try clear c48b1
                try clear c49
                try clear c49b0
                try clear c49b1
                try clear c50
                try clear c50b0
                try clear c50b1
                try clear c52
                try clear c52b0
                try clear c52b1
                try clear c53
                try clear c53b0
                try clear c53b1
                try clear c54
                try clear c54b0
                try clear c54b1
                try clear hcv56
                try clear hcv58
                try clear hcv60
                try clear hcv62
                try clear p2
                try clear p6
                obtain ⟨x11_6, rfl, HA, HK6, HO_5, HB⟩ := hrel
                cases gk with
                | zero => exact absurd HA.out (by simp [sapperlaw14_FindNoLonger.l1])
                | succ k6 =>
                 have H := HA.out
                 clear HA
                 simp only [sapperlaw14_FindNoLonger.l1] at H
                 by_cases c63 : x11_6 < t494
                 ·rw [if_pos c63] at H
                  have c63b0 : decide (x11_6 < t494) = true := decide_eq_true c63
                  clear c63
                  by_cases c64 : 0 ≤ x11_6
                  ·rw [if_pos c64] at H
                   have c64b0 := eq_true c64
                   have c64b1 : decide (0 ≤ x11_6) = true := decide_eq_true c64
                   clear c64
                   by_cases c65 : x11_6 ≤ (wrap64 (x11_6 + t495))
                   ·rw [if_pos c65] at H
                    have c65b0 := eq_true c65
                    have c65b1 : decide (x11_6 ≤ (wrap64 (x11_6 + t495))) = true := decide_eq_true c65
                    by_cases c66 : (wrap64 (x11_6 + t495)) ≤ (l0.length : Int)
                    ·rw [if_pos c66] at H
                     have c66b0 := eq_true c66
                     have c66b1 : decide ((wrap64 (x11_6 + t495)) ≤ (l0.length : Int)) = true := decide_eq_true c66
                     by_cases c67 : 0 ≤ t495
                     ·rw [if_pos c67] at H
                      have c67b0 := eq_true c67
                      have c67b1 : decide (0 ≤ t495) = true := decide_eq_true c67
                      clear c67
                      by_cases c68 : t495 ≤ (l1.length : Int)
                      ·rw [if_pos c68] at H
                       have c68b0 := eq_true c68
                       have c68b1 : decide (t495 ≤ (l1.length : Int)) = true := decide_eq_true c68
                       clear c68
                       by_cases c69 : (strOfNums ((l0.take ((wrap64 (x11_6 + t495)) : Int).toNat).drop (x11_6 : Int).toNat)).toList = (strOfNums (l1.take (t495 : Int).toNat)).toList
                       ·rw [if_pos c69] at H
                        have c69b0 : ((strOfNums ((l0.take ((wrap64 (x11_6 + t495)) : Int).toNat).drop (x11_6 : Int).toNat)).toList == (strOfNums (l1.take (t495 : Int).toNat)).toList) = true := beq_iff_eq.mpr c69
                        have c69b1 : ((strOfNums ((l0.take ((wrap64 (x11_6 + t495)) : Int).toNat).drop (x11_6 : Int).toNat)).toList != (strOfNums (l1.take (t495 : Int).toNat)).toList) = false := bne_eq_false_iff_eq.mpr c69
                        clear c69
                        obtain rfl := Option.some.inj H
                        obtain ⟨i070, hi070, _, hsz70, _⟩ := info_parts info5
                        obtain ⟨A70, hcut70, hA70, hC70⟩ := print_mid_of (P := Try.prog) (Value.int .u8) 0 22 5 .i64 .i64 Try.underlying22 hi070 hsz70 A0 c0 l0 x11_6 (wrap64 (x11_6 + t495)) (of_decide_eq_true (by first | (with_reducible assumption) | assumption)) (by first | omega | exact of_decide_eq_true (by first | (with_reducible assumption) | assumption)) (of_decide_eq_true (by first | (with_reducible assumption) | assumption)) HC0.out
                        (try (have hws12 := i64_w (x11_6 + t495)))
                        have HR502 := Aside0.mk (Kd.C_of_reads (h1 := fun _ => rfl) (hA70 _ (Kd.reads_of_C HR0.out)))
                        have HC502 := Aside0.mk hC70
                        clear hA70 hC70 hi070 hsz70
                        have hcv71 := Kd.C_string (P := Try.prog) (A := A70) (c := (c0 - x11_6.toNat)) Try.underlying22 Try.underlying5 Try.underlying9 (Kd.C_below HR502.out HB.out)
                        (try (have hcv71k := C_string0 (P := Try.prog) (A := A70) (c := (c0 - x11_6.toNat)) Try.underlying22 Try.underlying5 Try.underlying9 (Kd.C_below HR502.out HB.out)))
                        (try (have hcv71n := C_string1 (P := Try.prog) (A := A70) (c := (c0 - x11_6.toNat)) Try.underlying22 Try.underlying5 Try.underlying9 (Kd.C_below HR502.out HB.out)))
                        (try (have hcv71m := C_string2 (P := Try.prog) (A := A70) (c := (c0 - x11_6.toNat)) Try.underlying22 Try.underlying5 Try.underlying9 (Kd.C_below HR502.out HB.out)))
                        obtain ⟨i072, hi072, _, hsz72, _⟩ := info_parts info5
                        obtain ⟨hcut72, hA72, hC72⟩ := print_take_of (P := Try.prog) (Value.int .u8) 0 22 5 .i64 Try.underlying22 hi072 hsz72 A1 c1 l1 t495 (of_decide_eq_true (by first | (with_reducible assumption) | assumption)) (of_decide_eq_true (by first | (with_reducible assumption) | assumption)) HC1.out
                        have HR503 := Aside0.mk (Kd.C_of_reads (h1 := fun _ => rfl) (hA72 _ (Kd.reads_of_C HR1.out)))
                        have HC503 := Aside0.mk hC72
                        clear hA72 hC72 hi072 hsz72
                        have hcv73 := Kd.C_string (P := Try.prog) (A := A1) (c := c1) Try.underlying22 Try.underlying5 Try.underlying9 (Kd.C_below HR503.out HB.out)
                        (try (have hcv73k := C_string0 (P := Try.prog) (A := A1) (c := c1) Try.underlying22 Try.underlying5 Try.underlying9 (Kd.C_below HR503.out HB.out)))
                        (try (have hcv73n := C_string1 (P := Try.prog) (A := A1) (c := c1) Try.underlying22 Try.underlying5 Try.underlying9 (Kd.C_below HR503.out HB.out)))
                        (try (have hcv73m := C_string2 (P := Try.prog) (A := A1) (c := c1) Try.underlying22 Try.underlying5 Try.underlying9 (Kd.C_below HR503.out HB.out)))
                        go_wp2
                        repeat (go_quiet (fail); try go_wp2)
                        go_ret
                        exact ⟨by first | rfl | (simp [errW_none, errW_some] <;> rfl) | (simp [*, errW_none, errW_some] <;> rfl), by repeat (first | (with_reducible first | exact HB.out | apply below_alloc | apply pw_below_drewN | apply below_drew1) | exact HB.out)⟩
                       ·rw [if_neg c69] at H
                        have c69b0 : ((strOfNums ((l0.take ((wrap64 (x11_6 + t495)) : Int).toNat).drop (x11_6 : Int).toNat)).toList == (strOfNums (l1.take (t495 : Int).toNat)).toList) = false := beq_eq_false_iff_ne.mpr c69
                        have c69b1 : ((strOfNums ((l0.take ((wrap64 (x11_6 + t495)) : Int).toNat).drop (x11_6 : Int).toNat)).toList != (strOfNums (l1.take (t495 : Int).toNat)).toList) = true := bne_iff_ne.mpr c69
                        have H' := Aside0.mk H
                        clear H
                        obtain ⟨i074, hi074, _, hsz74, _⟩ := info_parts info5
                        obtain ⟨A74, hcut74, hA74, hC74⟩ := print_mid_of (P := Try.prog) (Value.int .u8) 0 22 5 .i64 .i64 Try.underlying22 hi074 hsz74 A0 c0 l0 x11_6 (wrap64 (x11_6 + t495)) (of_decide_eq_true (by first | (with_reducible assumption) | assumption)) (by first | omega | exact of_decide_eq_true (by first | (with_reducible assumption) | assumption)) (of_decide_eq_true (by first | (with_reducible assumption) | assumption)) HC0.out
                        (try (have hws13 := i64_w (x11_6 + t495)))
                        have HR502 := Aside0.mk (Kd.C_of_reads (h1 := fun _ => rfl) (hA74 _ (Kd.reads_of_C HR0.out)))
                        have HC502 := Aside0.mk hC74
                        clear hA74 hC74 hi074 hsz74
                        have hcv75 := Kd.C_string (P := Try.prog) (A := A74) (c := (c0 - x11_6.toNat)) Try.underlying22 Try.underlying5 Try.underlying9 (Kd.C_below HR502.out HB.out)
                        (try (have hcv75k := C_string0 (P := Try.prog) (A := A74) (c := (c0 - x11_6.toNat)) Try.underlying22 Try.underlying5 Try.underlying9 (Kd.C_below HR502.out HB.out)))
                        (try (have hcv75n := C_string1 (P := Try.prog) (A := A74) (c := (c0 - x11_6.toNat)) Try.underlying22 Try.underlying5 Try.underlying9 (Kd.C_below HR502.out HB.out)))
                        (try (have hcv75m := C_string2 (P := Try.prog) (A := A74) (c := (c0 - x11_6.toNat)) Try.underlying22 Try.underlying5 Try.underlying9 (Kd.C_below HR502.out HB.out)))
                        obtain ⟨i076, hi076, _, hsz76, _⟩ := info_parts info5
                        obtain ⟨hcut76, hA76, hC76⟩ := print_take_of (P := Try.prog) (Value.int .u8) 0 22 5 .i64 Try.underlying22 hi076 hsz76 A1 c1 l1 t495 (of_decide_eq_true (by first | (with_reducible assumption) | assumption)) (of_decide_eq_true (by first | (with_reducible assumption) | assumption)) HC1.out
                        have HR503 := Aside0.mk (Kd.C_of_reads (h1 := fun _ => rfl) (hA76 _ (Kd.reads_of_C HR1.out)))
                        have HC503 := Aside0.mk hC76
                        clear hA76 hC76 hi076 hsz76
                        have hcv77 := Kd.C_string (P := Try.prog) (A := A1) (c := c1) Try.underlying22 Try.underlying5 Try.underlying9 (Kd.C_below HR503.out HB.out)
                        (try (have hcv77k := C_string0 (P := Try.prog) (A := A1) (c := c1) Try.underlying22 Try.underlying5 Try.underlying9 (Kd.C_below HR503.out HB.out)))
                        (try (have hcv77n := C_string1 (P := Try.prog) (A := A1) (c := c1) Try.underlying22 Try.underlying5 Try.underlying9 (Kd.C_below HR503.out HB.out)))
                        (try (have hcv77m := C_string2 (P := Try.prog) (A := A1) (c := c1) Try.underlying22 Try.underlying5 Try.underlying9 (Kd.C_below HR503.out HB.out)))
                        go_wp2
                        repeat (go_quiet (fail); try go_wp2)
                        go_roundg k6
                        case measure => have := HJ3.out; have := HJ12.out; have := HJ23.out; have := HK4.out; have := HJ44.out; have := HK6.out; omega
                        case rel => exact ⟨(wrap64 (x11_6 + 1)), (by first | rfl | (simp; done) | (simp [*]; done)), H', ⟨by have := HJ3.out; have := HJ12.out; have := HJ23.out; have := HK4.out; have := HJ44.out; have := HK6.out; omega⟩, ⟨by (with_reducible repeat (first | apply Kd.S_alloc | apply Kd.S_drewN | apply Kd.S_drew)); exact HO_5.out⟩, ⟨by repeat (first | (with_reducible first | exact HB.out | apply below_alloc | apply pw_below_drewN | apply below_drew1) | exact HB.out)⟩⟩
                      ·rw [if_neg c68] at H
                       exact absurd H (by simp)
                     ·rw [if_neg c67] at H
                      exact absurd H (by simp)
                    ·rw [if_neg c66] at H
                     exact absurd H (by simp)
                   ·rw [if_neg c65] at H
                    exact absurd H (by simp)
                  ·rw [if_neg c64] at H
                   exact absurd H (by simp)
                 ·rw [if_neg c63] at H
                  have c63b0 : decide (x11_6 < t494) = false := decide_eq_false c63
                  clear c63
                  replace H := Option.bind_eq_some_iff.mp H
                  obtain ⟨⟨t504, t505⟩, A780, H⟩ := H
                  replace H : (if t505 = 0 then (if (t504.length : Int) = (l1.length : Int) then (if (t504.length : Int) > 0 then (if 0 < (t504.length : Int) then (sapperlaw14_FindNoLonger.j6 k6 l1 t504 ((rd t504 0) != t495)) else (none)) else (sapperlaw14_FindNoLonger.j6 k6 l1 t504 false)) else (sapperlaw14_FindNoLonger.j6 k6 l1 t504 true)) else (sapperlaw14_FindNoLonger.j6 k6 l1 t504 true)) = some r := H
                  have A78 := Aside0.mk A780
                  clear A780
                  have HC79 := Aside0.mk H
                  clear H
                  go_upto_region 20 with (first | (go_at_call 24; (with_reducible refine (find_Statistics.calls k6 _ _ t489 _ _ l1 t504 t505 _ ?side1 ?side2 ?side3 ?side4 A78.out).mono ?_); (case side1 => repeat (first | exact (Kd.S_reads' HO_5.out).2.2 | (with_reducible refine Kd.C_alloc ?_ _) | (with_reducible refine Kd.C_drewN ?_ _) | (with_reducible refine Kd.C_drew ?_))); (case side2 => exact (Kd.S_reads' HO_5.out).2.1); (case side3 => repeat (first | exact (Kd.C_below HR1.out HB.out) | (with_reducible refine Kd.C_alloc ?_ _) | (with_reducible refine Kd.C_drewN ?_ _) | (with_reducible refine Kd.C_drew ?_))); (case side4 => exact HC1.out); rintro e w80 ⟨v506, rfl, ho0, hb⟩; have n0_ := Aside0.mk (Kd.S_elder' (by (with_reducible repeat (first | apply Kd.S_alloc | apply Kd.S_drewN | apply Kd.S_drew)); exact HO_5.out) (Kd.R_base ho0) hb); have n1_ := Aside0.mk (Kd.R_lower ho0 (below_size (by repeat (first | (with_reducible first | exact HB.out | apply below_alloc | apply pw_below_drewN | apply below_drew1) | exact HB.out)))); have n2_ := Aside0.mk (below_step (by repeat (first | (with_reducible first | exact HB.out | apply below_alloc | apply pw_below_drewN | apply below_drew1) | exact HB.out)) hb); clear HO_5; clear HB; have HO_5 := n0_; have HO507 := n1_; have HB := n2_; clear n0_ n1_ n2_; (try clear hb); (try clear hb2); (try clear hk); (try clear hi); (try clear ho0)))
                  repeat (go_quiet (first | (go_at_call 24; (with_reducible refine (find_Statistics.calls k6 _ _ t489 _ _ l1 t504 t505 _ ?side1 ?side2 ?side3 ?side4 A78.out).mono ?_); (case side1 => repeat (first | exact (Kd.S_reads' HO_5.out).2.2 | (with_reducible refine Kd.C_alloc ?_ _) | (with_reducible refine Kd.C_drewN ?_ _) | (with_reducible refine Kd.C_drew ?_))); (case side2 => exact (Kd.S_reads' HO_5.out).2.1); (case side3 => repeat (first | exact (Kd.C_below HR1.out HB.out) | (with_reducible refine Kd.C_alloc ?_ _) | (with_reducible refine Kd.C_drewN ?_ _) | (with_reducible refine Kd.C_drew ?_))); (case side4 => exact HC1.out); rintro e w80 ⟨v506, rfl, ho0, hb⟩; have n0_ := Aside0.mk (Kd.S_elder' (by (with_reducible repeat (first | apply Kd.S_alloc | apply Kd.S_drewN | apply Kd.S_drew)); exact HO_5.out) (Kd.R_base ho0) hb); have n1_ := Aside0.mk (Kd.R_lower ho0 (below_size (by repeat (first | (with_reducible first | exact HB.out | apply below_alloc | apply pw_below_drewN | apply below_drew1) | exact HB.out)))); have n2_ := Aside0.mk (below_step (by repeat (first | (with_reducible first | exact HB.out | apply below_alloc | apply pw_below_drewN | apply below_drew1) | exact HB.out)) hb); clear HO_5; clear HB; have HO_5 := n0_; have HO507 := n1_; have HB := n2_; clear n0_ n1_ n2_; (try clear hb); (try clear hb2); (try clear hk); (try clear hi); (try clear ho0))); go_upto_region 20 with (first | (go_at_call 24; (with_reducible refine (find_Statistics.calls k6 _ _ t489 _ _ l1 t504 t505 _ ?side1 ?side2 ?side3 ?side4 A78.out).mono ?_); (case side1 => repeat (first | exact (Kd.S_reads' HO_5.out).2.2 | (with_reducible refine Kd.C_alloc ?_ _) | (with_reducible refine Kd.C_drewN ?_ _) | (with_reducible refine Kd.C_drew ?_))); (case side2 => exact (Kd.S_reads' HO_5.out).2.1); (case side3 => repeat (first | exact (Kd.C_below HR1.out HB.out) | (with_reducible refine Kd.C_alloc ?_ _) | (with_reducible refine Kd.C_drewN ?_ _) | (with_reducible refine Kd.C_drew ?_))); (case side4 => exact HC1.out); rintro e w80 ⟨v506, rfl, ho0, hb⟩; have n0_ := Aside0.mk (Kd.S_elder' (by (with_reducible repeat (first | apply Kd.S_alloc | apply Kd.S_drewN | apply Kd.S_drew)); exact HO_5.out) (Kd.R_base ho0) hb); have n1_ := Aside0.mk (Kd.R_lower ho0 (below_size (by repeat (first | (with_reducible first | exact HB.out | apply below_alloc | apply pw_below_drewN | apply below_drew1) | exact HB.out)))); have n2_ := Aside0.mk (below_step (by repeat (first | (with_reducible first | exact HB.out | apply below_alloc | apply pw_below_drewN | apply below_drew1) | exact HB.out)) hb); clear HO_5; clear HB; have HO_5 := n0_; have HO507 := n1_; have HB := n2_; clear n0_ n1_ n2_; (try clear hb); (try clear hb2); (try clear hk); (try clear hi); (try clear ho0))))
                  (try simp only [Act.put, List.setIfInBounds_toArray, List.set_cons_zero, List.set_cons_succ])
                  go_cut [156] (fun v156 wc => ∃ (kq : Nat) (x156_78 : Bool), v156 = .bool x156_78 ∧ Aside0 (sapperlaw14_FindNoLonger.j6 kq l1 t504 x156_78 = some r) ∧ Aside0 (kq ≤ k6) ∧ Aside0 (Kd.R (Kd.int .i64) 3 wc w.heap.size (fun _ => True) v506 t504) ∧ Aside0 (Below w.heap.size w wc))
                  case first => as_aux_lemma =>
                   have H := HC79.out
                   clear HC79
                   by_cases c81 : t505 = 0
                   ·rw [if_pos c81] at H
                    have c81b0 : (t505 == 0) = true := beq_iff_eq.mpr c81
                    have c81b1 : (t505 != 0) = false := bne_eq_false_iff_eq.mpr c81
                    clear c81
                    (first | rw [c81b0] | rw [c81b1] | (simp only [i64_w, i32_w]; rw [c81b0]) | skip)
                    by_cases c82 : (t504.length : Int) = (l1.length : Int)
                    ·rw [if_pos c82] at H
                     have c82b0 : ((t504.length : Int) == (l1.length : Int)) = true := beq_iff_eq.mpr c82
                     have c82b1 : ((t504.length : Int) != (l1.length : Int)) = false := bne_eq_false_iff_eq.mpr c82
                     have c82b2 : (t504.length == l1.length) = true := by first | simpa using c82 | (simp at c82 ⊢; omega)
                     clear c82
                     by_cases c83 : (t504.length : Int) > 0
                     ·rw [if_pos c83] at H
                      have c83b0 : decide (0 < (t504.length : Int)) = true := decide_eq_true c83
                      have c83b1 : decide (0 < t504.length) = true := decide_eq_true (by omega)
                      clear c83
                      by_cases c84 : 0 < (t504.length : Int)
                      ·rw [if_pos c84] at H
                       have c84b0 : decide (0 < (t504.length : Int)) = true := decide_eq_true c84
                       have c84b1 : decide (0 < t504.length) = true := decide_eq_true (by omega)
                       clear c84
                       have H' := Aside0.mk H
                       clear H
                       obtain ⟨Ao85, co85, eo85⟩ := Kd.R_slice HO507.out
                       subst eo85
                       have p508 : 0 ≤ (0 : Int) := (by omega)
                       have q508 : 0 < (t504.length : Int) := of_decide_eq_true (by first | (with_reducible assumption) | assumption)
                       obtain ⟨ad508, e508, hx508_0⟩ := Kd.at_int (Kd.R_reads' HO507.out).2.2 0 p508 q508
                       cases e508
                       have qi508 : (0 < t504.length) = True := eq_true (by omega)
                       (try rw [show ((0 : Int)).toNat = 0 from rfl] at hx508_0)
                       (try rw [Addr.add_zero'] at hx508_0)
                       replace p508 := eq_true p508
                       replace q508 := eq_true q508
                       go_wp2
                       repeat (go_quiet (fail); try go_wp2)
                       go_meet
                       case rel => exact ⟨_, (((rd t504 0) != t495)), (by first | rfl | (simp; done) | (simp [*]; done)), H', ⟨by have := HJ3.out; have := HJ12.out; have := HJ23.out; have := HK4.out; have := HJ44.out; have := HK6.out; first | omega | exact Nat.le_refl _⟩, ⟨by (with_reducible repeat (first | apply Kd.R_alloc | apply Kd.R_drewN | apply Kd.R_drew)); exact HO507.out⟩, ⟨by repeat (first | (with_reducible first | exact HB.out | apply below_alloc | apply pw_below_drewN | apply below_drew1) | exact HB.out)⟩⟩
                      ·rw [if_neg c84] at H
                       exact absurd H (by simp)
                     ·rw [if_neg c83] at H
                      have c83b0 : decide (0 < (t504.length : Int)) = false := decide_eq_false c83
                      have c83b1 : decide (0 < t504.length) = false := decide_eq_false (by omega)
                      clear c83
                      have H' := Aside0.mk H
                      clear H
                      obtain ⟨Ao86, co86, eo86⟩ := Kd.R_slice HO507.out
                      subst eo86
                      go_wp2
                      repeat (go_quiet (fail); try go_wp2)
                      go_meet
                      case rel => exact ⟨_, (false), (by first | rfl | (simp; done) | (simp [*]; done)), H', ⟨by have := HJ3.out; have := HJ12.out; have := HJ23.out; have := HK4.out; have := HJ44.out; have := HK6.out; first | omega | exact Nat.le_refl _⟩, ⟨by (with_reducible repeat (first | apply Kd.R_alloc | apply Kd.R_drewN | apply Kd.R_drew)); exact HO507.out⟩, ⟨by repeat (first | (with_reducible first | exact HB.out | apply below_alloc | apply pw_below_drewN | apply below_drew1) | exact HB.out)⟩⟩
                    ·rw [if_neg c82] at H
                     have c82b0 : ((t504.length : Int) == (l1.length : Int)) = false := beq_eq_false_iff_ne.mpr c82
                     have c82b1 : ((t504.length : Int) != (l1.length : Int)) = true := bne_iff_ne.mpr c82
                     have c82b2 : (t504.length == l1.length) = false := by first | simpa using c82 | (simp at c82 ⊢; omega)
                     have H' := Aside0.mk H
                     clear H
                     obtain ⟨Ao87, co87, eo87⟩ := Kd.R_slice HO507.out
                     subst eo87
                     go_wp2
                     repeat (go_quiet (fail); try go_wp2)
                     go_meet
                     case rel => exact ⟨_, (true), (by first | rfl | (simp; done) | (simp [*]; done)), H', ⟨by have := HJ3.out; have := HJ12.out; have := HJ23.out; have := HK4.out; have := HJ44.out; have := HK6.out; first | omega | exact Nat.le_refl _⟩, ⟨by (with_reducible repeat (first | apply Kd.R_alloc | apply Kd.R_drewN | apply Kd.R_drew)); exact HO507.out⟩, ⟨by repeat (first | (with_reducible first | exact HB.out | apply below_alloc | apply pw_below_drewN | apply below_drew1) | exact HB.out)⟩⟩
                   ·rw [if_neg c81] at H
                    have c81b0 : (t505 == 0) = false := beq_eq_false_iff_ne.mpr c81
                    have c81b1 : (t505 != 0) = true := bne_iff_ne.mpr c81
                    (first | rw [c81b0] | rw [c81b1] | (simp only [i64_w, i32_w]; rw [c81b0]) | skip)
                    have H' := Aside0.mk H
                    clear H
                    go_wp2
                    repeat (go_quiet (fail); try go_wp2)
                    go_meet
                    case rel => exact ⟨_, (true), (by first | rfl | (simp; done) | (simp [*]; done)), H', ⟨by have := HJ3.out; have := HJ12.out; have := HJ23.out; have := HK4.out; have := HJ44.out; have := HK6.out; first | omega | exact Nat.le_refl _⟩, ⟨by (with_reducible repeat (first | apply Kd.R_alloc | apply Kd.R_drewN | apply Kd.R_drew)); exact HO507.out⟩, ⟨by repeat (first | (with_reducible first | exact HB.out | apply below_alloc | apply pw_below_drewN | apply below_drew1) | exact HB.out)⟩⟩
                  case rest => as_aux_lemma =>
                   clear HC79
                   try clear c1
                   try clear c2
                   try clear p2
                   try clear c3
                   try clear hcv3
                   try clear c4
                   try clear hcv4
                   try clear c5
                   try clear p5
                   try clear q5
                   try clear hx5
                   try clear hcv5
                   try clear qi5
                   try clear c6
                   try clear p6
                   try clear hcv6
                   try clear hcv7
                   try clear c8
                   try clear c9
                   try clear c16
                   try clear c16b0
                   try clear c16b1
                   try clear c17
                   try clear c17b0
                   try clear c18
                   try clear c18b0
                   try clear c19
                   try clear c19b0
                   try clear c20
                   try clear c20b0
                   try clear c23
                   try clear c25
                   try clear c25b0
                   try clear c25b1
                   try clear c26
                   try clear c26b0
                   try clear c26b1
                   try clear c27
                   try clear c27b0
                   try clear c27b1
                   try clear c28
                   try clear c28b0
                   try clear c28b1
                   try clear c29
                   try clear c29b0
                   try clear c29b1
                   try clear c30
                   try clear c30b0
                   try clear c30b1
                   try clear c31
                   try clear c31b0
                   try clear c31b1
                   try clear hcv33
                   try clear hcv35
                   try clear hcv37
                   try clear hcv39
                   try clear hcv41
                   try clear hcv43
                   try clear c44
                   try clear c46
                   try clear c46b0
                   try clear c47
                   try clear c48
                   try clear c48b0
                   try clear c48b1
                   try clear c49
                   try clear c49b0
                   try clear c49b1
                   try clear c50
                   try clear c50b0
                   try clear c50b1
                   try clear p50
                   try clear q50
                   try clear hx50
                   try clear qi50
                   try clear c52
                   try clear c52b0
                   try clear c52b1
                   try clear c53
                   try clear c53b0
                   try clear c53b1
                   try clear c54
                   try clear c54b0
                   try clear c54b1
                   try clear hcv56
                   try clear hcv58
                   try clear hcv60
                   try clear hcv62
                   try clear c63
                   try clear c63b0
                   try clear c64
                   try clear c64b0
                   try clear c64b1
                   try clear p64
                   try clear c65
                   try clear c65b0
                   try clear c65b1
                   try clear c66
                   try clear c66b0
                   try clear c66b1
                   try clear c67
                   try clear c67b0
                   try clear c67b1
                   try clear c68
                   try clear c68b0
                   try clear c68b1
                   try clear c69
                   try clear c69b0
                   try clear c69b1
                   try clear hcv71
                   try clear hcv73
                   try clear hcv75
                   try clear hcv77
                   try clear c81
                   try clear c81b0
                   try clear c81b1
                   try clear c82
                   try clear c82b0
                   try clear c82b1
                   try clear c82b2
                   try clear c83
                   try clear c83b0
                   try clear c83b1
                   try clear c84
                   try clear c84b0
                   try clear c84b1
                   try clear hx508_0
                   try clear p2
                   try clear p508
                   try clear p6
                   try clear q508
                   obtain ⟨kq, x156_78, rfl, HA, HJ78, HO_12, HB⟩ := hcut
                   cases kq with
                   | zero => exact absurd HA.out (by simp [sapperlaw14_FindNoLonger.j6])
                   | succ kj78 =>
                    have H := HA.out
                    clear HA
                    simp only [sapperlaw14_FindNoLonger.j6] at H
                    by_cases c88 : x156_78 = true
                    ·subst c88
                     have H1 : (some false) = some r := by rw [if_pos rfl] at H; exact H
                     clear H
                     have H := H1
                     clear H1
                     obtain rfl := Option.some.inj H
                     go_wp2
                     repeat (go_quiet (fail); try go_wp2)
                     go_ret
                     exact ⟨by first | rfl | (simp [errW_none, errW_some] <;> rfl) | (simp [*, errW_none, errW_some] <;> rfl), by repeat (first | (with_reducible first | exact HB.out | apply below_alloc | apply pw_below_drewN | apply below_drew1) | exact HB.out)⟩
                    ·replace c88 := Bool.eq_false_iff.mpr c88
                     subst c88
                     have H1 : (sapperlaw14_FindNoLonger.l2 kj78 l1 t504 1) = some r := by rw [if_neg (show ¬ (false = true) by decide)] at H; exact H
                     clear H
                     have H := H1
                     clear H1
                     have H' := Aside0.mk H
                     clear H
                     go_wp2
                     repeat (go_quiet (fail); try go_wp2)
                     go_loopg [14] kj78 (fun kq v14 w' => ∃ (x14_8 : Int), v14 = .int .i64 x14_8 ∧ Aside0 (sapperlaw14_FindNoLonger.l2 kq l1 t504 x14_8 = some r) ∧ Aside0 (kq ≤ kj78) ∧ Aside0 (Kd.R (Kd.int .i64) 3 w' w.heap.size (fun _ => True) v506 t504) ∧ Aside0 (Below w.heap.size w w'))
                     case atStart => exact ⟨(1), (by first | rfl | (simp; done) | (simp [*]; done)), H', ⟨Nat.le_refl _⟩, ⟨by (with_reducible repeat (first | apply Kd.R_alloc | apply Kd.R_drewN | apply Kd.R_drew)); exact HO_12.out⟩, ⟨by repeat (first | (with_reducible first | exact HB.out | apply below_alloc | apply pw_below_drewN | apply below_drew1) | exact HB.out)⟩⟩
                     case round => as_aux_lemma =>
                      clear H'
                      try clear c1
                      try clear c2
                      try clear p2
                      try clear c3
                      try clear hcv3
                      try clear c4
                      try clear hcv4
                      try clear c5
                      try clear p5
                      try clear q5
                      try clear hx5
                      try clear hcv5
                      try clear qi5
                      try clear c6
                      try clear p6
                      try clear hcv6
                      try clear hcv7
                      try clear c8
                      try clear c9
                      try clear c16
                      try clear c16b0
                      try clear c16b1
                      try clear c17
                      try clear c17b0
                      try clear c18
                      try clear c18b0
                      try clear c19
                      try clear c19b0
                      try clear c20
                      try clear c20b0
                      try clear c23
                      try clear c25
                      try clear c25b0
                      try clear c25b1
                      try clear c26
                      try clear c26b0
                      try clear c26b1
                      try clear c27
                      try clear c27b0
                      try clear c27b1
                      try clear c28
                      try clear c28b0
                      try clear c28b1
                      try clear c29
                      try clear c29b0
                      try clear c29b1
                      try clear c30
                      try clear c30b0
                      try clear c30b1
                      try clear c31
                      try clear c31b0
                      try clear c31b1
                      try clear hcv33
                      try clear hcv35
                      try clear hcv37
                      try clear hcv39
                      try clear hcv41
                      try clear hcv43
                      try clear c44
                      try clear c46
                      try clear c46b0
                      try clear c47
                      try clear c48
                      try clear c48b0
                      try clear c48b1
                      try clear c49
                      try clear c49b0
                      try clear c49b1
                      try clear c50
                      try clear c50b0
                      try clear c50b1
                      try clear p50
                      try clear q50
                      try clear hx50
                      try clear qi50
                      try clear c52
                      try clear c52b0
                      try clear c52b1
                      try clear c53
                      try clear c53b0
                      try clear c53b1
                      try clear c54
                      try clear c54b0
                      try clear c54b1
                      try clear hcv56
                      try clear hcv58
                      try clear hcv60
                      try clear hcv62
                      try clear c63
                      try clear c63b0
                      try clear c64
                      try clear c64b0
                      try clear c64b1
                      try clear p64
                      try clear c65
                      try clear c65b0
                      try clear c65b1
                      try clear c66
                      try clear c66b0
                      try clear c66b1
                      try clear c67
                      try clear c67b0
                      try clear c67b1
                      try clear c68
                      try clear c68b0
                      try clear c68b1
                      try clear c69
                      try clear c69b0
                      try clear c69b1
                      try clear hcv71
                      try clear hcv73
                      try clear hcv75
                      try clear hcv77
                      try clear c81
                      try clear c81b0
                      try clear c81b1
                      try clear c82
                      try clear c82b0
                      try clear c82b1
                      try clear c82b2
                      try clear c83
                      try clear c83b0
                      try clear c83b1
                      try clear c84
                      try clear c84b0
                      try clear c84b1
                      try clear c88
                      try clear hx508_0
                      try clear p2
                      try clear p5
                      try clear p50
                      try clear p508
                      try clear p6
                      try clear p64
                      try clear q5
                      try clear q50
                      try clear q508
                      obtain ⟨x14_8, rfl, HA, HK8, HO_12, HB⟩ := hrel
                      cases gk with
                      | zero => exact absurd HA.out (by simp [sapperlaw14_FindNoLonger.l2])
                      | succ k8 =>
                       have H := HA.out
                       clear HA
                       simp only [sapperlaw14_FindNoLonger.l2] at H
                       by_cases c89 : x14_8 < (t504.length : Int)
                       ·rw [if_pos c89] at H
                        have c89b0 : decide (x14_8 < (t504.length : Int)) = true := decide_eq_true c89
                        clear c89
                        by_cases c90 : 0 ≤ x14_8
                        ·rw [if_pos c90] at H
                         have c90b0 : decide (0 ≤ x14_8) = true := decide_eq_true c90
                         clear c90
                         obtain ⟨ji91, hji91⟩ : ∃ j_ : Int, (wrap64 (x14_8 - 1)) = j_ := ⟨_, rfl⟩
                         replace H : (if 0 ≤ (ji91) then (if (ji91) < (t504.length : Int) then (if (rd t504 x14_8) < (wrap64 ((rd t504 (ji91)) - 1)) then (some false) else (if (rd t504 x14_8) > (wrap64 ((l1.length : Int) - x14_8)) then (some false) else (sapperlaw14_FindNoLonger.l2 k8 l1 t504 (wrap64 (x14_8 + 1))))) else (none)) else (none)) = some r := by first | (rw [hji91] at H; exact H) | (simp only [hji91] at H ⊢; exact H)
                         have hji91w : (IntKind.i64.wrap (x14_8 - 1)) = ji91 := (i64_w _).trans hji91
                         by_cases c92 : 0 ≤ (ji91)
                         ·rw [if_pos c92] at H
                          have c92b0 : decide (0 ≤ (ji91)) = true := decide_eq_true c92
                          clear c92
                          by_cases c93 : (ji91) < (t504.length : Int)
                          ·rw [if_pos c93] at H
                           have c93b0 : decide ((ji91) < (t504.length : Int)) = true := decide_eq_true c93
                           clear c93
                           by_cases c94 : (rd t504 x14_8) < (wrap64 ((rd t504 (ji91)) - 1))
                           ·rw [if_pos c94] at H
                            have c94b0 : decide ((rd t504 x14_8) < (wrap64 ((rd t504 (ji91)) - 1))) = true := decide_eq_true c94
                            clear c94
                            obtain rfl := Option.some.inj H
                            obtain ⟨Ao95, co95, eo95⟩ := Kd.R_slice HO_12.out
                            subst eo95
                            have p509 : 0 ≤ (x14_8 : Int) := of_decide_eq_true (by first | (with_reducible assumption) | assumption)
                            have q509 : x14_8 < (t504.length : Int) := of_decide_eq_true (by first | (with_reducible assumption) | assumption)
                            obtain ⟨ad509, e509, hx509_0⟩ := Kd.at_int (Kd.R_reads' HO_12.out).2.2 x14_8 p509 q509
                            cases e509
                            replace p509 := eq_true p509
                            replace q509 := eq_true q509
                            have p510 : 0 ≤ ((ji91) : Int) := of_decide_eq_true (by first | (with_reducible assumption) | assumption)
                            have q510 : (ji91) < (t504.length : Int) := of_decide_eq_true (by first | (with_reducible assumption) | assumption)
                            obtain ⟨ad510, e510, hx510_0⟩ := Kd.at_int (Kd.R_reads' HO_12.out).2.2 (ji91) p510 q510
                            obtain rfl : ad509 = ad510 := (by injection e510)
                            replace p510 := eq_true p510
                            replace q510 := eq_true q510
                            go_wp2
                            repeat (go_quiet (fail); try go_wp2)
                            go_ret
                            exact ⟨by first | rfl | (simp [errW_none, errW_some] <;> rfl) | (simp only [← hji91]; first | rfl | (simp [errW_none, errW_some] <;> rfl)) | (simp [*, errW_none, errW_some] <;> rfl), by repeat (first | (with_reducible first | exact HB.out | apply below_alloc | apply pw_below_drewN | apply below_drew1) | exact HB.out)⟩
                           ·rw [if_neg c94] at H
                            have c94b0 : decide ((rd t504 x14_8) < (wrap64 ((rd t504 (ji91)) - 1))) = false := decide_eq_false c94
                            clear c94
                            by_cases c96 : (rd t504 x14_8) > (wrap64 ((l1.length : Int) - x14_8))
                            ·rw [if_pos c96] at H
                             have c96b0 : decide ((wrap64 ((l1.length : Int) - x14_8)) < (rd t504 x14_8)) = true := decide_eq_true c96
                             clear c96
                             obtain rfl := Option.some.inj H
                             obtain ⟨Ao97, co97, eo97⟩ := Kd.R_slice HO_12.out
                             subst eo97
                             have p509 : 0 ≤ (x14_8 : Int) := of_decide_eq_true (by first | (with_reducible assumption) | assumption)
                             have q509 : x14_8 < (t504.length : Int) := of_decide_eq_true (by first | (with_reducible assumption) | assumption)
                             obtain ⟨ad509, e509, hx509_0⟩ := Kd.at_int (Kd.R_reads' HO_12.out).2.2 x14_8 p509 q509
                             cases e509
                             replace p509 := eq_true p509
                             replace q509 := eq_true q509
                             have p510 : 0 ≤ ((ji91) : Int) := of_decide_eq_true (by first | (with_reducible assumption) | assumption)
                             have q510 : (ji91) < (t504.length : Int) := of_decide_eq_true (by first | (with_reducible assumption) | assumption)
                             obtain ⟨ad510, e510, hx510_0⟩ := Kd.at_int (Kd.R_reads' HO_12.out).2.2 (ji91) p510 q510
                             obtain rfl : ad509 = ad510 := (by injection e510)
                             replace p510 := eq_true p510
                             replace q510 := eq_true q510
                             have p511 : 0 ≤ (x14_8 : Int) := of_decide_eq_true (by first | (with_reducible assumption) | assumption)
                             have q511 : x14_8 < (t504.length : Int) := of_decide_eq_true (by first | (with_reducible assumption) | assumption)
                             obtain ⟨ad511, e511, hx511_0⟩ := Kd.at_int (Kd.R_reads' HO_12.out).2.2 x14_8 p511 q511
                             obtain rfl : ad509 = ad511 := (by injection e511)
                             replace p511 := eq_true p511
                             replace q511 := eq_true q511
                             go_wp2
                             repeat (go_quiet (fail); try go_wp2)
                             go_ret
                             exact ⟨by first | rfl | (simp [errW_none, errW_some] <;> rfl) | (simp only [← hji91]; first | rfl | (simp [errW_none, errW_some] <;> rfl)) | (simp [*, errW_none, errW_some] <;> rfl), by repeat (first | (with_reducible first | exact HB.out | apply below_alloc | apply pw_below_drewN | apply below_drew1) | exact HB.out)⟩
                            ·rw [if_neg c96] at H
                             have c96b0 : decide ((wrap64 ((l1.length : Int) - x14_8)) < (rd t504 x14_8)) = false := decide_eq_false c96
                             clear c96
                             have H' := Aside0.mk H
                             clear H
                             obtain ⟨Ao98, co98, eo98⟩ := Kd.R_slice HO_12.out
                             subst eo98
                             have p509 : 0 ≤ (x14_8 : Int) := of_decide_eq_true (by first | (with_reducible assumption) | assumption)
                             have q509 : x14_8 < (t504.length : Int) := of_decide_eq_true (by first | (with_reducible assumption) | assumption)
                             obtain ⟨ad509, e509, hx509_0⟩ := Kd.at_int (Kd.R_reads' HO_12.out).2.2 x14_8 p509 q509
                             cases e509
                             replace p509 := eq_true p509
                             replace q509 := eq_true q509
                             have p510 : 0 ≤ ((ji91) : Int) := of_decide_eq_true (by first | (with_reducible assumption) | assumption)
                             have q510 : (ji91) < (t504.length : Int) := of_decide_eq_true (by first | (with_reducible assumption) | assumption)
                             obtain ⟨ad510, e510, hx510_0⟩ := Kd.at_int (Kd.R_reads' HO_12.out).2.2 (ji91) p510 q510
                             obtain rfl : ad509 = ad510 := (by injection e510)
                             replace p510 := eq_true p510
                             replace q510 := eq_true q510
                             have p511 : 0 ≤ (x14_8 : Int) := of_decide_eq_true (by first | (with_reducible assumption) | assumption)
                             have q511 : x14_8 < (t504.length : Int) := of_decide_eq_true (by first | (with_reducible assumption) | assumption)
                             obtain ⟨ad511, e511, hx511_0⟩ := Kd.at_int (Kd.R_reads' HO_12.out).2.2 x14_8 p511 q511
                             obtain rfl : ad509 = ad511 := (by injection e511)
                             replace p511 := eq_true p511
                             replace q511 := eq_true q511
                             go_wp2
                             repeat (go_quiet (fail); try go_wp2)
                             go_roundg k8
                             case measure => have := HJ3.out; have := HJ12.out; have := HJ23.out; have := HK4.out; have := HJ44.out; have := HK6.out; have := HJ78.out; have := HK8.out; omega
                             case rel => exact ⟨(wrap64 (x14_8 + 1)), (by first | rfl | (simp; done) | (simp [*]; done)), H', ⟨by have := HJ3.out; have := HJ12.out; have := HJ23.out; have := HK4.out; have := HJ44.out; have := HK6.out; have := HJ78.out; have := HK8.out; omega⟩, ⟨by (with_reducible repeat (first | apply Kd.R_alloc | apply Kd.R_drewN | apply Kd.R_drew)); exact HO_12.out⟩, ⟨by repeat (first | (with_reducible first | exact HB.out | apply below_alloc | apply pw_below_drewN | apply below_drew1) | exact HB.out)⟩⟩
                          ·rw [if_neg c93] at H
                           exact absurd H (by simp)
                         ·rw [if_neg c92] at H
                          exact absurd H (by simp)
                        ·rw [if_neg c90] at H
                         exact absurd H (by simp)
                       ·rw [if_neg c89] at H
                        have c89b0 : decide (x14_8 < (t504.length : Int)) = false := decide_eq_false c89
                        clear c89
                        obtain rfl := Option.some.inj H
                        obtain ⟨Ao99, co99, eo99⟩ := Kd.R_slice HO_12.out
                        subst eo99
                        go_wp2
                        repeat (go_quiet (fail); try go_wp2)
                        go_ret
                        exact ⟨by first | rfl | (simp [errW_none, errW_some] <;> rfl) | (simp [*, errW_none, errW_some] <;> rfl), by repeat (first | (with_reducible first | exact HB.out | apply below_alloc | apply pw_below_drewN | apply below_drew1) | exact HB.out)⟩

/-- THE ONE PURE STATEMENT of sapperlaw14_FindNoLonger: yours. -/
def sapperlaw14_FindNoLonger.Pure : Prop := ∀ (l0 : List Int) (l1 : List Int), l0.length ≤ maxLen → l0.length * 1 ≤ 140737488351232 → (∀ x ∈ l0, (Lit.int .u8 x).wf = true) → l1.length ≤ maxLen → l1.length * 1 ≤ 140737488351232 → (∀ x ∈ l1, (Lit.int .u8 x).wf = true) → ∃ k, sapperlaw14_FindNoLonger.f k l0 l1 = some true
theorem sapperlaw14_FindNoLonger.walk (P : sapperlaw14_FindNoLonger.Pure) (a0 : Option Addr) (len0 cap0 : Nat) (z0 : List Int) (a1 : Option Addr) (len1 cap1 : Nat) (z1 : List Int) (w : World) (w0 : (a0 = none ∧ len0 = 0 ∧ cap0 = 0 ∧ z0 = []) ∨ ∃ x, a0 = some x ∧ len0 ≤ cap0 ∧ cap0 ≤ maxLen ∧ z0.length = cap0 ∧ (∀ i, i < z0.length → w.cell? (x.add i) = some (.int .u8 (z0.getD i 0))) ∧ ∀ n ∈ z0, (Lit.int .u8 n).wf = true) (y0 : len0 * 1 ≤ 140737488351232) (w1 : (a1 = none ∧ len1 = 0 ∧ cap1 = 0 ∧ z1 = []) ∨ ∃ x, a1 = some x ∧ len1 ≤ cap1 ∧ cap1 ≤ maxLen ∧ z1.length = cap1 ∧ (∀ i, i < z1.length → w.cell? (x.add i) = some (.int .u8 (z1.getD i 0))) ∧ ∀ n ∈ z1, (Lit.int .u8 n).wf = true) (y1 : len1 * 1 ≤ 140737488351232) :
  Calls Try.prog 9 #[.slice a0 len0 cap0, .slice a1 len1 cap1] w fun e w' => e = .returned (.bool true) ∧ Below w.heap.size w w' := by
 obtain ⟨l0, rfl, hr0, hm0, hw0, hc0⟩ := ReadsInt.ofRowC w0
 obtain ⟨l1, rfl, hr1, hm1, hw1, hc1⟩ := ReadsInt.ofRowC w1
 obtain ⟨k, h⟩ := P l0 l1 hm0 y0 hw0 hm1 y1 hw1
 refine (sapperlaw14_FindNoLonger.calls k _ _ l0 _ _ l1 true w (Kd.C_of_reads (d := (0 : Int)) (h1 := fun _ => rfl) hr0) hc0 (Kd.C_of_reads (d := (0 : Int)) (h1 := fun _ => rfl) hr1) hc1 h).mono ?_
 rintro e w' ⟨rfl, hd⟩
 exact ⟨rfl, hd⟩

end Go.Proofs.Ytphchkkicpnehaa.X
