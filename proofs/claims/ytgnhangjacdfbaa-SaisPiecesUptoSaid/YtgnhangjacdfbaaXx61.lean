-- Printed by wip/xprint.py of this repo (a wrapper of the session's own round the print).
import Derived.Test.YtgnhangjacdfbaaXx0
import Derived.Test.YtgnhangjacdfbaaXx2
import Derived.Test.YtgnhangjacdfbaaXx4
import Derived.Test.YtgnhangjacdfbaaXx12
import Derived.Test.YtgnhangjacdfbaaXx24
import Derived.Test.YtgnhangjacdfbaaXx57
import Derived.Test.YtgnhangjacdfbaaXx60
namespace Go.Proofs.Ytgnhangjacdfbaa.X
open Go.RowKit Go.Proofs.YtgnhangjacdfbaaW.PrintWords Go.Proofs.YtgnhangjacdfbaaW.PrintLast Go.Proofs.YtgnhangjacdfbaaW.PrintMore
attribute [local go_sem] max2_int min2_int max_two min_two max_three min_three max_four min_four   -- for this text's walks alone
set_option linter.unusedVariables false
set_option linter.unusedSimpArgs false

/-! ### sapperlaw12_SaisPieces: function 11 -/
mutual
def sapperlaw12_SaisPieces.j0 : Nat → List Int → Int → List Int → Bool → Option (Bool)
 | 0, _, _, _, _ => none
 | k + 1, x1, x5, x6, x30 => if x30 = true then ((sapperlaw12_awake.f k).bind fun t860 => (some t860)) else ((sais_Types.f k x6).bind fun t861 => ((sais_Lms.f k x6).bind fun t864 => (if (t861.length : Int) = (x6.length : Int) then (sapperlaw12_SaisPieces.l0 k x1 x5 x6 0 t861 t864) else (some false))))
def sapperlaw12_SaisPieces.j2 : Nat → Int → List Int → List Bool → List Int → Option (Bool)
 | 0, _, _, _, _ => none
 | k + 1, x5, x6, x7, x8 => (sais_Induce.f k x5 x6 x8).bind fun bt872 => (if bt872.2 = 0 then (sapperlaw12_SaisPieces.j3 k x6 x7 bt872.1 ((bt872.1.length : Int) != (x6.length : Int))) else (sapperlaw12_SaisPieces.j3 k x6 x7 bt872.1 true))
def sapperlaw12_SaisPieces.j3 : Nat → List Int → List Bool → List Int → Bool → Option (Bool)
 | 0, _, _, _, _ => none
 | k + 1, x6, x7, x12, x94 => if x94 = true then (some false) else (sapperlaw12_SaisPieces.l1 k x6 x7 x12 (-1) 0)
def sapperlaw12_SaisPieces.l1 : Nat → List Int → List Bool → List Int → Int → Int → Option (Bool)
 | 0, _, _, _, _, _ => none
 | k + 1, x6, x7, x12, x14, x15 => if x15 < (x12.length : Int) then (if 0 ≤ x15 then (if (rd x12 x15) < 0 then (sapperlaw12_SaisPieces.j5 k x6 x7 x12 x14 x15 (rd x12 x15) true) else (sapperlaw12_SaisPieces.j5 k x6 x7 x12 x14 x15 (rd x12 x15) (decide ((rd x12 x15) ≥ (x6.length : Int))))) else (none)) else (some true)
def sapperlaw12_SaisPieces.j5 : Nat → List Int → List Bool → List Int → Int → Int → Int → Bool → Option (Bool)
 | 0, _, _, _, _, _, _, _ => none
 | k + 1, x6, x7, x12, x14, x15, x16, x112 => if x112 = true then (some false) else (if x16 = 0 then (sapperlaw12_SaisPieces.j6 k x6 x7 x12 x14 x15 x16 true) else (if 0 ≤ x16 then (if x16 < (x7.length : Int) then (if rdOf false x7 x16 = true then (if 0 ≤ (wrap64 (x16 - 1)) then (if (wrap64 (x16 - 1)) < (x7.length : Int) then (sapperlaw12_SaisPieces.j6 k x6 x7 x12 x14 x15 x16 (rdOf false x7 (wrap64 (x16 - 1)))) else (none)) else (none)) else (sapperlaw12_SaisPieces.j6 k x6 x7 x12 x14 x15 x16 true)) else (none)) else (none)))
def sapperlaw12_SaisPieces.j6 : Nat → List Int → List Bool → List Int → Int → Int → Int → Bool → Option (Bool)
 | 0, _, _, _, _, _, _, _ => none
 | k + 1, x6, x7, x12, x14, x15, x16, x128 => if x128 = true then (sapperlaw12_SaisPieces.l1 k x6 x7 x12 x14 (wrap64 (x15 + 1))) else (if x14 ≥ 0 then ((sapperlaw12_pieceLess.f k x6 x7 x16 x14).bind fun bt879 => (if bt879.1 = true then (some false) else (sapperlaw12_SaisPieces.l1 k x6 x7 x12 x16 (wrap64 (x15 + 1))))) else (sapperlaw12_SaisPieces.l1 k x6 x7 x12 x16 (wrap64 (x15 + 1))))
def sapperlaw12_SaisPieces.l0 : Nat → List Int → Int → List Int → Int → List Bool → List Int → Option (Bool)
 | 0, _, _, _, _, _, _ => none
 | k + 1, x1, x5, x6, x9, x33, x35 => if x9 < (x1.length : Int) then (if (x35.length : Int) > 0 then (if (x35.length : Int) = 0 then (none) else (if 0 ≤ x9 then (if (IntKind.u64.wrap ((x35.length : Int))) = 0 then (none) else (if 0 ≤ (wrap64 (Int.tmod (rd x1 x9) (IntKind.u64.wrap ((x35.length : Int))))) then (if (wrap64 (Int.tmod (rd x1 x9) (IntKind.u64.wrap ((x35.length : Int))))) < (x35.length : Int) then (if 0 ≤ (Int.tmod x9 (x35.length : Int)) then (if (Int.tmod x9 (x35.length : Int)) < (x35.length : Int) then (sapperlaw12_SaisPieces.l0 k x1 x5 x6 (wrap64 (x9 + 1)) x33 ((x35.set ((Int.tmod x9 (x35.length : Int)) : Int).toNat (rd x35 (wrap64 (Int.tmod (rd x1 x9) (IntKind.u64.wrap ((x35.length : Int))))))).set ((wrap64 (Int.tmod (rd x1 x9) (IntKind.u64.wrap ((x35.length : Int))))) : Int).toNat (rd x35 (Int.tmod x9 (x35.length : Int))))) else (none)) else (none)) else (none)) else (none))) else (none))) else (sapperlaw12_SaisPieces.j2 k x5 x6 x33 x35)) else (sapperlaw12_SaisPieces.j2 k x5 x6 x33 x35)
end
def sapperlaw12_SaisPieces.f (k : Nat) (l0 : List Int) (l1 : List Int) : Option (Bool) := (sapperlaw12_words.f k l0).bind fun bt855 => ((sapperlaw12_awake.f k).bind fun t859 => (if t859 = true then (sapperlaw12_SaisPieces.j0 k l1 bt855.1 bt855.2 (decide ((l0.length : Int) > 16777216))) else (sapperlaw12_SaisPieces.j0 k l1 bt855.1 bt855.2 true)))
theorem sapperlaw12_SaisPieces.mono_l : ∀ k, (∀ y0 y1 y2 y3, LeO (sapperlaw12_SaisPieces.j0 k y0 y1 y2 y3) (sapperlaw12_SaisPieces.j0 (k + 1) y0 y1 y2 y3)) ∧ (∀ y0 y1 y2 y3, LeO (sapperlaw12_SaisPieces.j2 k y0 y1 y2 y3) (sapperlaw12_SaisPieces.j2 (k + 1) y0 y1 y2 y3)) ∧ (∀ y0 y1 y2 y3, LeO (sapperlaw12_SaisPieces.j3 k y0 y1 y2 y3) (sapperlaw12_SaisPieces.j3 (k + 1) y0 y1 y2 y3)) ∧ (∀ y0 y1 y2 y3 y4, LeO (sapperlaw12_SaisPieces.l1 k y0 y1 y2 y3 y4) (sapperlaw12_SaisPieces.l1 (k + 1) y0 y1 y2 y3 y4)) ∧ (∀ y0 y1 y2 y3 y4 y5 y6, LeO (sapperlaw12_SaisPieces.j5 k y0 y1 y2 y3 y4 y5 y6) (sapperlaw12_SaisPieces.j5 (k + 1) y0 y1 y2 y3 y4 y5 y6)) ∧ (∀ y0 y1 y2 y3 y4 y5 y6, LeO (sapperlaw12_SaisPieces.j6 k y0 y1 y2 y3 y4 y5 y6) (sapperlaw12_SaisPieces.j6 (k + 1) y0 y1 y2 y3 y4 y5 y6)) ∧ (∀ y0 y1 y2 y3 y4 y5, LeO (sapperlaw12_SaisPieces.l0 k y0 y1 y2 y3 y4 y5) (sapperlaw12_SaisPieces.l0 (k + 1) y0 y1 y2 y3 y4 y5))
 | 0 => ⟨fun _ _ _ _ r h => by simp [sapperlaw12_SaisPieces.j0] at h, fun _ _ _ _ r h => by simp [sapperlaw12_SaisPieces.j2] at h, fun _ _ _ _ r h => by simp [sapperlaw12_SaisPieces.j3] at h, fun _ _ _ _ _ r h => by simp [sapperlaw12_SaisPieces.l1] at h, fun _ _ _ _ _ _ _ r h => by simp [sapperlaw12_SaisPieces.j5] at h, fun _ _ _ _ _ _ _ r h => by simp [sapperlaw12_SaisPieces.j6] at h, fun _ _ _ _ _ _ r h => by simp [sapperlaw12_SaisPieces.l0] at h⟩
 | k + 1 => by
  obtain ⟨ih0, ih1, ih2, ih3, ih4, ih5, ih6⟩ := sapperlaw12_SaisPieces.mono_l k
  refine ⟨?_, ?_, ?_, ?_, ?_, ?_, ?_⟩
  ·intro y0 y1 y2 y3
   unfold sapperlaw12_SaisPieces.j0
   repeat' first
   | (with_reducible exact ih0 _ _ _ _)
   | (with_reducible exact ih1 _ _ _ _)
   | (with_reducible exact ih2 _ _ _ _)
   | (with_reducible exact ih3 _ _ _ _ _)
   | (with_reducible exact ih4 _ _ _ _ _ _ _)
   | (with_reducible exact ih5 _ _ _ _ _ _ _)
   | (with_reducible exact ih6 _ _ _ _ _ _)
   | (with_reducible exact sais_Induce.mono _ _ _ _)
   | (with_reducible exact sais_Lms.mono _ _)
   | (with_reducible exact sais_Types.mono _ _)
   | (with_reducible exact sapperlaw12_awake.mono _)
   | (with_reducible exact sapperlaw12_pieceLess.mono _ _ _ _ _)
   | (with_reducible exact sapperlaw12_words.mono _ _)
   | (with_reducible exact LeO.refl _)
   | (with_reducible exact LeO.none _)
   | (with_reducible refine LeO.ite ?_ ?_)
   | (with_reducible refine LeO.bind ?_ (fun _ => ?_))
   | exact ih0 _ _ _ _
   | exact ih1 _ _ _ _
   | exact ih2 _ _ _ _
   | exact ih3 _ _ _ _ _
   | exact ih4 _ _ _ _ _ _ _
   | exact ih5 _ _ _ _ _ _ _
   | exact ih6 _ _ _ _ _ _
   | exact sais_Induce.mono _ _ _ _
   | exact sais_Lms.mono _ _
   | exact sais_Types.mono _ _
   | exact sapperlaw12_awake.mono _
   | exact sapperlaw12_pieceLess.mono _ _ _ _ _
   | exact sapperlaw12_words.mono _ _
   | exact LeO.none _
   | refine LeO.ite ?_ ?_
   | refine LeO.bind ?_ (fun _ => ?_)
  ·intro y0 y1 y2 y3
   unfold sapperlaw12_SaisPieces.j2
   repeat' first
   | (with_reducible exact ih0 _ _ _ _)
   | (with_reducible exact ih1 _ _ _ _)
   | (with_reducible exact ih2 _ _ _ _)
   | (with_reducible exact ih3 _ _ _ _ _)
   | (with_reducible exact ih4 _ _ _ _ _ _ _)
   | (with_reducible exact ih5 _ _ _ _ _ _ _)
   | (with_reducible exact ih6 _ _ _ _ _ _)
   | (with_reducible exact sais_Induce.mono _ _ _ _)
   | (with_reducible exact sais_Lms.mono _ _)
   | (with_reducible exact sais_Types.mono _ _)
   | (with_reducible exact sapperlaw12_awake.mono _)
   | (with_reducible exact sapperlaw12_pieceLess.mono _ _ _ _ _)
   | (with_reducible exact sapperlaw12_words.mono _ _)
   | (with_reducible exact LeO.refl _)
   | (with_reducible exact LeO.none _)
   | (with_reducible refine LeO.ite ?_ ?_)
   | (with_reducible refine LeO.bind ?_ (fun _ => ?_))
   | exact ih0 _ _ _ _
   | exact ih1 _ _ _ _
   | exact ih2 _ _ _ _
   | exact ih3 _ _ _ _ _
   | exact ih4 _ _ _ _ _ _ _
   | exact ih5 _ _ _ _ _ _ _
   | exact ih6 _ _ _ _ _ _
   | exact sais_Induce.mono _ _ _ _
   | exact sais_Lms.mono _ _
   | exact sais_Types.mono _ _
   | exact sapperlaw12_awake.mono _
   | exact sapperlaw12_pieceLess.mono _ _ _ _ _
   | exact sapperlaw12_words.mono _ _
   | exact LeO.none _
   | refine LeO.ite ?_ ?_
   | refine LeO.bind ?_ (fun _ => ?_)
  ·intro y0 y1 y2 y3
   unfold sapperlaw12_SaisPieces.j3
   repeat' first
   | (with_reducible exact ih0 _ _ _ _)
   | (with_reducible exact ih1 _ _ _ _)
   | (with_reducible exact ih2 _ _ _ _)
   | (with_reducible exact ih3 _ _ _ _ _)
   | (with_reducible exact ih4 _ _ _ _ _ _ _)
   | (with_reducible exact ih5 _ _ _ _ _ _ _)
   | (with_reducible exact ih6 _ _ _ _ _ _)
   | (with_reducible exact sais_Induce.mono _ _ _ _)
   | (with_reducible exact sais_Lms.mono _ _)
   | (with_reducible exact sais_Types.mono _ _)
   | (with_reducible exact sapperlaw12_awake.mono _)
   | (with_reducible exact sapperlaw12_pieceLess.mono _ _ _ _ _)
   | (with_reducible exact sapperlaw12_words.mono _ _)
   | (with_reducible exact LeO.refl _)
   | (with_reducible exact LeO.none _)
   | (with_reducible refine LeO.ite ?_ ?_)
   | (with_reducible refine LeO.bind ?_ (fun _ => ?_))
   | exact ih0 _ _ _ _
   | exact ih1 _ _ _ _
   | exact ih2 _ _ _ _
   | exact ih3 _ _ _ _ _
   | exact ih4 _ _ _ _ _ _ _
   | exact ih5 _ _ _ _ _ _ _
   | exact ih6 _ _ _ _ _ _
   | exact sais_Induce.mono _ _ _ _
   | exact sais_Lms.mono _ _
   | exact sais_Types.mono _ _
   | exact sapperlaw12_awake.mono _
   | exact sapperlaw12_pieceLess.mono _ _ _ _ _
   | exact sapperlaw12_words.mono _ _
   | exact LeO.none _
   | refine LeO.ite ?_ ?_
   | refine LeO.bind ?_ (fun _ => ?_)
  ·intro y0 y1 y2 y3 y4
   unfold sapperlaw12_SaisPieces.l1
   repeat' first
   | (with_reducible exact ih0 _ _ _ _)
   | (with_reducible exact ih1 _ _ _ _)
   | (with_reducible exact ih2 _ _ _ _)
   | (with_reducible exact ih3 _ _ _ _ _)
   | (with_reducible exact ih4 _ _ _ _ _ _ _)
   | (with_reducible exact ih5 _ _ _ _ _ _ _)
   | (with_reducible exact ih6 _ _ _ _ _ _)
   | (with_reducible exact sais_Induce.mono _ _ _ _)
   | (with_reducible exact sais_Lms.mono _ _)
   | (with_reducible exact sais_Types.mono _ _)
   | (with_reducible exact sapperlaw12_awake.mono _)
   | (with_reducible exact sapperlaw12_pieceLess.mono _ _ _ _ _)
   | (with_reducible exact sapperlaw12_words.mono _ _)
   | (with_reducible exact LeO.refl _)
   | (with_reducible exact LeO.none _)
   | (with_reducible refine LeO.ite ?_ ?_)
   | (with_reducible refine LeO.bind ?_ (fun _ => ?_))
   | exact ih0 _ _ _ _
   | exact ih1 _ _ _ _
   | exact ih2 _ _ _ _
   | exact ih3 _ _ _ _ _
   | exact ih4 _ _ _ _ _ _ _
   | exact ih5 _ _ _ _ _ _ _
   | exact ih6 _ _ _ _ _ _
   | exact sais_Induce.mono _ _ _ _
   | exact sais_Lms.mono _ _
   | exact sais_Types.mono _ _
   | exact sapperlaw12_awake.mono _
   | exact sapperlaw12_pieceLess.mono _ _ _ _ _
   | exact sapperlaw12_words.mono _ _
   | exact LeO.none _
   | refine LeO.ite ?_ ?_
   | refine LeO.bind ?_ (fun _ => ?_)
  ·intro y0 y1 y2 y3 y4 y5 y6
   unfold sapperlaw12_SaisPieces.j5
   repeat' first
   | (with_reducible exact ih0 _ _ _ _)
   | (with_reducible exact ih1 _ _ _ _)
   | (with_reducible exact ih2 _ _ _ _)
   | (with_reducible exact ih3 _ _ _ _ _)
   | (with_reducible exact ih4 _ _ _ _ _ _ _)
   | (with_reducible exact ih5 _ _ _ _ _ _ _)
   | (with_reducible exact ih6 _ _ _ _ _ _)
   | (with_reducible exact sais_Induce.mono _ _ _ _)
   | (with_reducible exact sais_Lms.mono _ _)
   | (with_reducible exact sais_Types.mono _ _)
   | (with_reducible exact sapperlaw12_awake.mono _)
   | (with_reducible exact sapperlaw12_pieceLess.mono _ _ _ _ _)
   | (with_reducible exact sapperlaw12_words.mono _ _)
   | (with_reducible exact LeO.refl _)
   | (with_reducible exact LeO.none _)
   | (with_reducible refine LeO.ite ?_ ?_)
   | (with_reducible refine LeO.bind ?_ (fun _ => ?_))
   | exact ih0 _ _ _ _
   | exact ih1 _ _ _ _
   | exact ih2 _ _ _ _
   | exact ih3 _ _ _ _ _
   | exact ih4 _ _ _ _ _ _ _
   | exact ih5 _ _ _ _ _ _ _
   | exact ih6 _ _ _ _ _ _
   | exact sais_Induce.mono _ _ _ _
   | exact sais_Lms.mono _ _
   | exact sais_Types.mono _ _
   | exact sapperlaw12_awake.mono _
   | exact sapperlaw12_pieceLess.mono _ _ _ _ _
   | exact sapperlaw12_words.mono _ _
   | exact LeO.none _
   | refine LeO.ite ?_ ?_
   | refine LeO.bind ?_ (fun _ => ?_)
  ·intro y0 y1 y2 y3 y4 y5 y6
   unfold sapperlaw12_SaisPieces.j6
   repeat' first
   | (with_reducible exact ih0 _ _ _ _)
   | (with_reducible exact ih1 _ _ _ _)
   | (with_reducible exact ih2 _ _ _ _)
   | (with_reducible exact ih3 _ _ _ _ _)
   | (with_reducible exact ih4 _ _ _ _ _ _ _)
   | (with_reducible exact ih5 _ _ _ _ _ _ _)
   | (with_reducible exact ih6 _ _ _ _ _ _)
   | (with_reducible exact sais_Induce.mono _ _ _ _)
   | (with_reducible exact sais_Lms.mono _ _)
   | (with_reducible exact sais_Types.mono _ _)
   | (with_reducible exact sapperlaw12_awake.mono _)
   | (with_reducible exact sapperlaw12_pieceLess.mono _ _ _ _ _)
   | (with_reducible exact sapperlaw12_words.mono _ _)
   | (with_reducible exact LeO.refl _)
   | (with_reducible exact LeO.none _)
   | (with_reducible refine LeO.ite ?_ ?_)
   | (with_reducible refine LeO.bind ?_ (fun _ => ?_))
   | exact ih0 _ _ _ _
   | exact ih1 _ _ _ _
   | exact ih2 _ _ _ _
   | exact ih3 _ _ _ _ _
   | exact ih4 _ _ _ _ _ _ _
   | exact ih5 _ _ _ _ _ _ _
   | exact ih6 _ _ _ _ _ _
   | exact sais_Induce.mono _ _ _ _
   | exact sais_Lms.mono _ _
   | exact sais_Types.mono _ _
   | exact sapperlaw12_awake.mono _
   | exact sapperlaw12_pieceLess.mono _ _ _ _ _
   | exact sapperlaw12_words.mono _ _
   | exact LeO.none _
   | refine LeO.ite ?_ ?_
   | refine LeO.bind ?_ (fun _ => ?_)
  ·intro y0 y1 y2 y3 y4 y5
   unfold sapperlaw12_SaisPieces.l0
   repeat' first
   | (with_reducible exact ih0 _ _ _ _)
   | (with_reducible exact ih1 _ _ _ _)
   | (with_reducible exact ih2 _ _ _ _)
   | (with_reducible exact ih3 _ _ _ _ _)
   | (with_reducible exact ih4 _ _ _ _ _ _ _)
   | (with_reducible exact ih5 _ _ _ _ _ _ _)
   | (with_reducible exact ih6 _ _ _ _ _ _)
   | (with_reducible exact sais_Induce.mono _ _ _ _)
   | (with_reducible exact sais_Lms.mono _ _)
   | (with_reducible exact sais_Types.mono _ _)
   | (with_reducible exact sapperlaw12_awake.mono _)
   | (with_reducible exact sapperlaw12_pieceLess.mono _ _ _ _ _)
   | (with_reducible exact sapperlaw12_words.mono _ _)
   | (with_reducible exact LeO.refl _)
   | (with_reducible exact LeO.none _)
   | (with_reducible refine LeO.ite ?_ ?_)
   | (with_reducible refine LeO.bind ?_ (fun _ => ?_))
   | exact ih0 _ _ _ _
   | exact ih1 _ _ _ _
   | exact ih2 _ _ _ _
   | exact ih3 _ _ _ _ _
   | exact ih4 _ _ _ _ _ _ _
   | exact ih5 _ _ _ _ _ _ _
   | exact ih6 _ _ _ _ _ _
   | exact sais_Induce.mono _ _ _ _
   | exact sais_Lms.mono _ _
   | exact sais_Types.mono _ _
   | exact sapperlaw12_awake.mono _
   | exact sapperlaw12_pieceLess.mono _ _ _ _ _
   | exact sapperlaw12_words.mono _ _
   | exact LeO.none _
   | refine LeO.ite ?_ ?_
   | refine LeO.bind ?_ (fun _ => ?_)
theorem sapperlaw12_SaisPieces.mono : ∀ a0 a1 k, LeO (sapperlaw12_SaisPieces.f k a0 a1) (sapperlaw12_SaisPieces.f (k + 1) a0 a1) := by
 intro a0 a1 k
 obtain ⟨ih0, ih1, ih2, ih3, ih4, ih5, ih6⟩ := sapperlaw12_SaisPieces.mono_l k
 unfold sapperlaw12_SaisPieces.f
 repeat' first
   | (with_reducible exact ih0 _ _ _ _)
   | (with_reducible exact ih1 _ _ _ _)
   | (with_reducible exact ih2 _ _ _ _)
   | (with_reducible exact ih3 _ _ _ _ _)
   | (with_reducible exact ih4 _ _ _ _ _ _ _)
   | (with_reducible exact ih5 _ _ _ _ _ _ _)
   | (with_reducible exact ih6 _ _ _ _ _ _)
   | (with_reducible exact sais_Induce.mono _ _ _ _)
   | (with_reducible exact sais_Lms.mono _ _)
   | (with_reducible exact sais_Types.mono _ _)
   | (with_reducible exact sapperlaw12_awake.mono _)
   | (with_reducible exact sapperlaw12_pieceLess.mono _ _ _ _ _)
   | (with_reducible exact sapperlaw12_words.mono _ _)
   | (with_reducible exact LeO.refl _)
   | (with_reducible exact LeO.none _)
   | (with_reducible refine LeO.ite ?_ ?_)
   | (with_reducible refine LeO.bind ?_ (fun _ => ?_))
   | exact ih0 _ _ _ _
   | exact ih1 _ _ _ _
   | exact ih2 _ _ _ _
   | exact ih3 _ _ _ _ _
   | exact ih4 _ _ _ _ _ _ _
   | exact ih5 _ _ _ _ _ _ _
   | exact ih6 _ _ _ _ _ _
   | exact sais_Induce.mono _ _ _ _
   | exact sais_Lms.mono _ _
   | exact sais_Types.mono _ _
   | exact sapperlaw12_awake.mono _
   | exact sapperlaw12_pieceLess.mono _ _ _ _ _
   | exact sapperlaw12_words.mono _ _
   | exact LeO.none _
   | refine LeO.ite ?_ ?_
   | refine LeO.bind ?_ (fun _ => ?_)
def sapperlaw12_SaisPieces.T10 : Bool × List (List Nat × List Nat) := (true, [([], []), ([], []), ([1], [1]), ([0, 2], [0, 2]), ([], []), ([], []), ([4, 5], [4, 5]), ([6], [6]), ([], []), ([8], [8]), ([9], [9]), ([7, 10], [7, 10]), ([11], [11]), ([3, 0, 1, 2, 3], [3]), ([12, 13, 0, 1, 2, 3, 4, 5, 6, 7, 8, 9, 10, 11, 12, 13], [12])])
def sapperlaw12_SaisPieces.B10 : List Nat := [0, 0, 2, 7, 0, 0, 48, 112, 0, 256, 768, 2032, 4080, 15, 16383]
theorem sapperlaw12_SaisPieces.tab10 : rtab .any (opsOf Try.f11 10) = sapperlaw12_SaisPieces.T10 := by kernel_rfl
theorem sapperlaw12_SaisPieces.bits10 : waitsOk sapperlaw12_SaisPieces.T10.2 sapperlaw12_SaisPieces.B10 = true := by kernel_rfl
def sapperlaw12_SaisPieces.T11 : Bool × List (List Nat × List Nat) := (true, [([], []), ([], []), ([], []), ([], []), ([], []), ([], []), ([4, 5], [4, 5]), ([6], [6]), ([], []), ([], []), ([8, 9], [8, 9]), ([10], [10]), ([0, 1, 0, 1, 4, 5, 6, 7, 11], [0, 1]), ([12, 7, 0, 1, 4, 5, 6, 7, 11], [7, 12]), ([2, 3, 0, 1, 2, 3, 4, 5, 6, 7, 8, 9, 10, 11, 12, 13], [2, 3]), ([14, 11, 13, 0, 1, 2, 3, 4, 5, 6, 7, 8, 9, 10, 11, 12, 13], [11, 14])])
def sapperlaw12_SaisPieces.B11 : List Nat := [0, 0, 0, 0, 0, 0, 48, 112, 0, 0, 768, 1792, 4083, 8179, 16383, 32767]
theorem sapperlaw12_SaisPieces.tab11 : rtab .any (opsOf Try.f11 11) = sapperlaw12_SaisPieces.T11 := by kernel_rfl
theorem sapperlaw12_SaisPieces.bits11 : waitsOk sapperlaw12_SaisPieces.T11.2 sapperlaw12_SaisPieces.B11 = true := by kernel_rfl
set_option maxHeartbeats 8000000 in
set_option maxRecDepth 100000 in
theorem sapperlaw12_SaisPieces.calls (k : Nat) (A0 : Option Addr) (c0 : Nat) (l0 : List Int) (A1 : Option Addr) (c1 : Nat) (l1 : List Int) (r : Bool) (w : World) (hr0 : Kd.C (Kd.int .u8) w A0 l0.length l0) (hc0 : l0.length ≤ c0) (hr1 : Kd.C (Kd.int .u64) w A1 l1.length l1) (hc1 : l1.length ≤ c1) (h : sapperlaw12_SaisPieces.f k l0 l1 = some r) :
  Calls Try.prog 11 #[.slice A0 l0.length c0, .slice A1 l1.length c1] w fun e w' => e = .returned (.bool r) ∧ Below w.heap.size w w' := by
 have HR0 := Aside0.mk hr0
 have HC0 := Aside0.mk hc0
 clear hr0 hc0
 have HR1 := Aside0.mk hr1
 have HC1 := Aside0.mk hc1
 clear hr1 hc1
 have HB := Aside0.mk (Below.refl w.heap.size w)
 have H : ((sapperlaw12_words.f k l0).bind fun bt855 => ((sapperlaw12_awake.f k).bind fun t859 => (if t859 = true then (sapperlaw12_SaisPieces.j0 k l1 bt855.1 bt855.2 (decide ((l0.length : Int) > 16777216))) else (sapperlaw12_SaisPieces.j0 k l1 bt855.1 bt855.2 true)))) = some r := h
 clear h
 replace H := Option.bind_eq_some_iff.mp H
 obtain ⟨⟨t855, t856⟩, A30, H⟩ := H
 replace H : ((sapperlaw12_awake.f k).bind fun t859 => (if t859 = true then (sapperlaw12_SaisPieces.j0 k l1 t855 t856 (decide ((l0.length : Int) > 16777216))) else (sapperlaw12_SaisPieces.j0 k l1 t855 t856 true))) = some r := H
 have A3 := Aside0.mk A30
 clear A30
 have HC4 := Aside0.mk H
 clear H
 go_enter Try.func11, Try.ntmps11
 go_upto_region 2 with (first | ((with_reducible refine gate_callee (f := 24) rfl ?_); refine goesL_ (some 21) rfl rfl Try.func24 (by kernel_rfl) rfl #[.slice A0 l0.length c0] rfl (by (try simp only [List.map_toArray, List.map_cons, List.map_nil]); first | done | rfl | (simp only [List.length_drop, List.length_take]; rfl)) ?_; (with_reducible refine (sapperlaw12_words.calls k _ _ l0 t855 t856 _ ?side1 ?side2 A3.out).mono ?_); (case side1 => repeat (first | exact HR0.out | (with_reducible refine Kd.C_alloc ?_ _) | (with_reducible refine Kd.C_drewN ?_ _) | (with_reducible refine Kd.C_drew ?_))); (case side2 => exact HC0.out); rintro e w5 ⟨v857, rfl, ho0, hb⟩; refine ⟨_, rfl, ?_⟩; have n0_ := Aside0.mk (Kd.R_lower ho0 (below_size (by repeat (first | (with_reducible first | exact HB.out | apply below_alloc | apply pw_below_drewN | apply below_drew1) | exact HB.out)))); have n1_ := Aside0.mk (below_step (by repeat (first | (with_reducible first | exact HB.out | apply below_alloc | apply pw_below_drewN | apply below_drew1) | exact HB.out)) hb); clear HB; have HO858 := n0_; have HB := n1_; clear n0_ n1_; (try clear hb); (try clear hb2); (try clear hk); (try clear hi); (try clear ho0)))
 (try simp only [Act.put, List.setIfInBounds_toArray, List.set_cons_zero, List.set_cons_succ])
 go_cut [30] (fun v30 wc => ∃ (kq : Nat) (x30_3 : Bool), v30 = .bool x30_3 ∧ Aside0 (sapperlaw12_SaisPieces.j0 kq l1 t855 t856 x30_3 = some r) ∧ Aside0 (kq ≤ k) ∧ Aside0 (Kd.R (Kd.int .i64) 3 wc w.heap.size (fun _ => True) v857 t856) ∧ Aside0 (Below w.heap.size w wc))
 case first =>
  have H := HC4.out
  clear HC4
  replace H := Option.bind_eq_some_iff.mp H
  obtain ⟨t859, A60, H⟩ := H
  replace H : (if t859 = true then (sapperlaw12_SaisPieces.j0 k l1 t855 t856 (decide ((l0.length : Int) > 16777216))) else (sapperlaw12_SaisPieces.j0 k l1 t855 t856 true)) = some r := H
  have A6 := Aside0.mk A60
  clear A60
  by_cases c7 : t859 = true
  ·subst c7
   have H1 : (sapperlaw12_SaisPieces.j0 k l1 t855 t856 (decide ((l0.length : Int) > 16777216))) = some r := by rw [if_pos rfl] at H; exact H
   clear H
   have H := H1
   clear H1
   have H' := Aside0.mk H
   clear H
   go_wp2_with (first | ((with_reducible refine gate_callee (f := 15) rfl ?_); refine goesL_ (some 24) rfl rfl Try.func15 (by kernel_rfl) rfl #[] rfl (by (try simp only [List.map_toArray, List.map_cons, List.map_nil]); first | done | rfl | (simp only [List.length_drop, List.length_take]; rfl)) ?_; (with_reducible refine (sapperlaw12_awake.calls k  true _ A6.out).mono ?_); rintro e w8 ⟨rfl, hb⟩; refine ⟨_, rfl, ?_⟩; have n0_ := Aside0.mk (Kd.R_below (by (with_reducible repeat (first | apply Kd.R_alloc | apply Kd.R_drewN | apply Kd.R_drew)); exact HO858.out) hb); have n1_ := Aside0.mk (below_step (by repeat (first | (with_reducible first | exact HB.out | apply below_alloc | apply pw_below_drewN | apply below_drew1) | exact HB.out)) hb); clear HO858; clear HB; have HO858 := n0_; have HB := n1_; clear n0_ n1_; (try clear hb); (try clear hb2); (try clear hk); (try clear hi)))
   go_meet
   case rel => exact ⟨_, (decide ((l0.length : Int) > 16777216)), (by first | rfl | (simp; done) | (simp [*]; done)), H', ⟨by first | omega | exact Nat.le_refl _⟩, ⟨by (with_reducible repeat (first | apply Kd.R_alloc | apply Kd.R_drewN | apply Kd.R_drew)); exact HO858.out⟩, ⟨by repeat (first | (with_reducible first | exact HB.out | apply below_alloc | apply pw_below_drewN | apply below_drew1) | exact HB.out)⟩⟩
  ·replace c7 := Bool.eq_false_iff.mpr c7
   subst c7
   have H1 : (sapperlaw12_SaisPieces.j0 k l1 t855 t856 true) = some r := by rw [if_neg (show ¬ (false = true) by decide)] at H; exact H
   clear H
   have H := H1
   clear H1
   have H' := Aside0.mk H
   clear H
   go_wp2_with (first | ((with_reducible refine gate_callee (f := 15) rfl ?_); refine goesL_ (some 24) rfl rfl Try.func15 (by kernel_rfl) rfl #[] rfl (by (try simp only [List.map_toArray, List.map_cons, List.map_nil]); first | done | rfl | (simp only [List.length_drop, List.length_take]; rfl)) ?_; (with_reducible refine (sapperlaw12_awake.calls k  false _ A6.out).mono ?_); rintro e w9 ⟨rfl, hb⟩; refine ⟨_, rfl, ?_⟩; have n0_ := Aside0.mk (Kd.R_below (by (with_reducible repeat (first | apply Kd.R_alloc | apply Kd.R_drewN | apply Kd.R_drew)); exact HO858.out) hb); have n1_ := Aside0.mk (below_step (by repeat (first | (with_reducible first | exact HB.out | apply below_alloc | apply pw_below_drewN | apply below_drew1) | exact HB.out)) hb); clear HO858; clear HB; have HO858 := n0_; have HB := n1_; clear n0_ n1_; (try clear hb); (try clear hb2); (try clear hk); (try clear hi)))
   go_meet
   case rel => exact ⟨_, (true), (by first | rfl | (simp; done) | (simp [*]; done)), H', ⟨by first | omega | exact Nat.le_refl _⟩, ⟨by (with_reducible repeat (first | apply Kd.R_alloc | apply Kd.R_drewN | apply Kd.R_drew)); exact HO858.out⟩, ⟨by repeat (first | (with_reducible first | exact HB.out | apply below_alloc | apply pw_below_drewN | apply below_drew1) | exact HB.out)⟩⟩
 case rest =>
  clear HC4
  try clear c1
  try clear c2
  try clear p2
  try clear c7
  obtain ⟨kq, x30_3, rfl, HA, HJ3, HO_6, HB⟩ := hcut
  cases kq with
  | zero => exact absurd HA.out (by simp [sapperlaw12_SaisPieces.j0])
  | succ kj3 =>
   have H := HA.out
   clear HA
   simp only [sapperlaw12_SaisPieces.j0] at H
   by_cases c10 : x30_3 = true
   ·subst c10
    have H1 : ((sapperlaw12_awake.f kj3).bind fun t860 => (some t860)) = some r := by rw [if_pos rfl] at H; exact H
    clear H
    have H := H1
    clear H1
    replace H := Option.bind_eq_some_iff.mp H
    obtain ⟨t860, A110, H⟩ := H
    replace H : (some t860) = some r := H
    have A11 := Aside0.mk A110
    clear A110
    obtain rfl := Option.some.inj H
    go_wp2_with (first | ((with_reducible refine gate_callee (f := 15) rfl ?_); refine goesL_ (some 31) rfl rfl Try.func15 (by kernel_rfl) rfl #[] rfl (by (try simp only [List.map_toArray, List.map_cons, List.map_nil]); first | done | rfl | (simp only [List.length_drop, List.length_take]; rfl)) ?_; (with_reducible refine (sapperlaw12_awake.calls kj3  t860 _ A11.out).mono ?_); rintro e w12 ⟨rfl, hb⟩; refine ⟨_, rfl, ?_⟩; have n0_ := Aside0.mk (Kd.R_below (by (with_reducible repeat (first | apply Kd.R_alloc | apply Kd.R_drewN | apply Kd.R_drew)); exact HO_6.out) hb); have n1_ := Aside0.mk (below_step (by repeat (first | (with_reducible first | exact HB.out | apply below_alloc | apply pw_below_drewN | apply below_drew1) | exact HB.out)) hb); clear HO_6; clear HB; have HO_6 := n0_; have HB := n1_; clear n0_ n1_; (try clear hb); (try clear hb2); (try clear hk); (try clear hi)))
    go_ret
    exact ⟨by first | rfl | (simp [errW_none, errW_some] <;> rfl) | (simp [*, errW_none, errW_some] <;> rfl), by repeat (first | (with_reducible first | exact HB.out | apply below_alloc | apply pw_below_drewN | apply below_drew1) | exact HB.out)⟩
   ·replace c10 := Bool.eq_false_iff.mpr c10
    subst c10
    have H1 : ((sais_Types.f kj3 t856).bind fun t861 => ((sais_Lms.f kj3 t856).bind fun t864 => (if (t861.length : Int) = (t856.length : Int) then (sapperlaw12_SaisPieces.l0 kj3 l1 t855 t856 0 t861 t864) else (some false)))) = some r := by rw [if_neg (show ¬ (false = true) by decide)] at H; exact H
    clear H
    have H := H1
    clear H1
    replace H := Option.bind_eq_some_iff.mp H
    obtain ⟨t861, A130, H⟩ := H
    replace H : ((sais_Lms.f kj3 t856).bind fun t864 => (if (t861.length : Int) = (t856.length : Int) then (sapperlaw12_SaisPieces.l0 kj3 l1 t855 t856 0 t861 t864) else (some false))) = some r := H
    have A13 := Aside0.mk A130
    clear A130
    replace H := Option.bind_eq_some_iff.mp H
    obtain ⟨t864, A140, H⟩ := H
    replace H : (if (t861.length : Int) = (t856.length : Int) then (sapperlaw12_SaisPieces.l0 kj3 l1 t855 t856 0 t861 t864) else (some false)) = some r := H
    have A14 := Aside0.mk A140
    clear A140
    by_cases c15 : (t861.length : Int) = (t856.length : Int)
    ·rw [if_pos c15] at H
     have c15b0 : ((t861.length : Int) == (t856.length : Int)) = true := beq_iff_eq.mpr c15
     have c15b1 : ((t861.length : Int) != (t856.length : Int)) = false := bne_eq_false_iff_eq.mpr c15
     have c15b2 : (t861.length == t856.length) = true := by first | simpa using c15 | (simp at c15 ⊢; omega)
     clear c15
     have HC16 := Aside0.mk H
     clear H
     obtain ⟨Ao17, co17, eo17⟩ := Kd.R_slice HO_6.out
     subst eo17
     go_upto_block 0 with (first | ((with_reducible refine gate_callee (f := 20) rfl ?_); refine goesL_ (some 33) rfl rfl Try.func20 (by kernel_rfl) rfl #[.slice Ao17 t856.length co17] rfl (by (try simp only [List.map_toArray, List.map_cons, List.map_nil]); first | done | rfl | (simp only [List.length_drop, List.length_take]; rfl)) ?_; (with_reducible refine (sais_Types.calls kj3 _ _ t856 t861 _ ?side1 ?side2 A13.out).mono ?_); (case side1 => repeat (first | exact (Kd.R_reads' HO_6.out).2.2 | (with_reducible refine Kd.C_alloc ?_ _) | (with_reducible refine Kd.C_drewN ?_ _) | (with_reducible refine Kd.C_drew ?_))); (case side2 => exact (Kd.R_reads' HO_6.out).2.1); rintro e w18 ⟨v862, rfl, ho0, hb⟩; refine ⟨_, rfl, ?_⟩; have n0_ := Aside0.mk (Kd.R_below (by (with_reducible repeat (first | apply Kd.R_alloc | apply Kd.R_drewN | apply Kd.R_drew)); exact HO_6.out) hb); have n1_ := Aside0.mk (Kd.R_lower ho0 (below_size (by repeat (first | (with_reducible first | exact HB.out | apply below_alloc | apply pw_below_drewN | apply below_drew1) | exact HB.out)))); have n2_ := Aside0.mk (below_step (by repeat (first | (with_reducible first | exact HB.out | apply below_alloc | apply pw_below_drewN | apply below_drew1) | exact HB.out)) hb); clear HO_6; clear HB; have HO_6 := n0_; have HO863 := n1_; have HB := n2_; clear n0_ n1_ n2_; (try clear hb); (try clear hb2); (try clear hk); (try clear hi); (try clear ho0)) | ((with_reducible refine gate_callee (f := 22) rfl ?_); refine goesL_ (some 35) rfl rfl Try.func22 (by kernel_rfl) rfl #[.slice Ao17 t856.length co17] rfl (by (try simp only [List.map_toArray, List.map_cons, List.map_nil]); first | done | rfl | (simp only [List.length_drop, List.length_take]; rfl)) ?_; (with_reducible refine (sais_Lms.calls kj3 _ _ t856 t864 _ ?side1 ?side2 A14.out).mono ?_); (case side1 => repeat (first | exact (Kd.R_reads' HO_6.out).2.2 | (with_reducible refine Kd.C_alloc ?_ _) | (with_reducible refine Kd.C_drewN ?_ _) | (with_reducible refine Kd.C_drew ?_))); (case side2 => exact (Kd.R_reads' HO_6.out).2.1); rintro e w19 ⟨v865, rfl, ho0, hb⟩; refine ⟨_, rfl, ?_⟩; have n0_ := Aside0.mk (Kd.R_elder' (by (with_reducible repeat (first | apply Kd.R_alloc | apply Kd.R_drewN | apply Kd.R_drew)); exact HO_6.out) (Kd.R_base ho0) hb); have n1_ := Aside0.mk (Kd.R_below (by (with_reducible repeat (first | apply Kd.R_alloc | apply Kd.R_drewN | apply Kd.R_drew)); exact HO863.out) hb); have n2_ := Aside0.mk (Kd.R_lower (Kd.R_new' ho0 (Kd.R_lt (by (with_reducible repeat (first | apply Kd.R_alloc | apply Kd.R_drewN | apply Kd.R_drew)); exact HO_6.out))) (below_size (by repeat (first | (with_reducible first | exact HB.out | apply below_alloc | apply pw_below_drewN | apply below_drew1) | exact HB.out)))); have n3_ := Aside0.mk (below_step (by repeat (first | (with_reducible first | exact HB.out | apply below_alloc | apply pw_below_drewN | apply below_drew1) | exact HB.out)) hb); clear HO_6; clear HO863; clear HB; have HO_6 := n0_; have HO863 := n1_; have HO866 := n2_; have HB := n3_; clear n0_ n1_ n2_ n3_; (try clear hb); (try clear hb2); (try clear hk); (try clear hi); (try clear ho0); obtain ⟨Ao20, co20, eo20⟩ := Kd.R_slice HO863.out; subst eo20))
     (try simp only [Act.put, List.setIfInBounds_toArray, List.set_cons_zero, List.set_cons_succ])
     go_cut [] (fun wc => ∃ (kq : Nat) (x8_15 : List Int), Aside0 (sapperlaw12_SaisPieces.j2 kq t855 t856 t861 x8_15 = some r) ∧ Aside0 (kq ≤ kj3) ∧ Aside0 (Kd.R (Kd.int .i64) 3 wc w.heap.size (fun k_ => some k_ ≠ (v865 : Value).ownBlock) (.slice Ao17 t856.length co17) t856) ∧ Aside0 (Kd.R Kd.bool 4 wc w.heap.size (fun _ => True) (.slice Ao20 t861.length co20) t861) ∧ Aside0 (Kd.R (Kd.int .i64) 3 wc w.heap.size (fun k_ => some k_ ≠ ((.slice Ao17 t856.length co17) : Value).ownBlock) v865 x8_15) ∧ Aside0 (Below w.heap.size w wc))
     case first =>
      have H := HC16.out
      clear HC16
      have H' := Aside0.mk H
      clear H
      go_wp2
      go_loopg [9] kj3 (fun kq v9 w' => ∃ (x9_2 : Int) (x35_2 : List Int), v9 = .int .i64 x9_2 ∧ Aside0 (sapperlaw12_SaisPieces.l0 kq l1 t855 t856 x9_2 t861 x35_2 = some r) ∧ Aside0 (kq ≤ kj3) ∧ Aside0 (Kd.R (Kd.int .i64) 3 w' w.heap.size (fun k_ => some k_ ≠ (v865 : Value).ownBlock) (.slice Ao17 t856.length co17) t856) ∧ Aside0 (Kd.R Kd.bool 4 w' w.heap.size (fun _ => True) (.slice Ao20 t861.length co20) t861) ∧ Aside0 (Kd.R (Kd.int .i64) 3 w' w.heap.size (fun k_ => some k_ ≠ ((.slice Ao17 t856.length co17) : Value).ownBlock) v865 x35_2) ∧ Aside0 (Below w.heap.size w w'))
      case atStart => exact ⟨(0), (t864), (by first | rfl | (simp; done) | (simp [*]; done)), H', ⟨Nat.le_refl _⟩, ⟨by (with_reducible repeat (first | apply Kd.R_alloc | apply Kd.R_drewN | apply Kd.R_drew)); exact Kd.R_mono HO_6.out (fun _ hk => hk.2)⟩, ⟨by (with_reducible repeat (first | apply Kd.R_alloc | apply Kd.R_drewN | apply Kd.R_drew)); exact HO863.out⟩, ⟨by (with_reducible repeat (first | apply Kd.R_alloc | apply Kd.R_drewN | apply Kd.R_drew)); exact Kd.R_mono HO866.out (fun _ hk => hk.2)⟩, ⟨by repeat (first | (with_reducible first | exact HB.out | apply below_alloc | apply pw_below_drewN | apply below_drew1) | exact HB.out)⟩⟩
      case round =>
       clear H'
       try clear c1
       try clear c2
       try clear p2
       try clear c7
       try clear c10
       try clear c11
       try clear c15
       try clear c15b0
       try clear c15b1
       try clear c15b2
       try clear c20
       try clear p2
       obtain ⟨x9_2, x35_2, rfl, HA, HK2, HO_6, HO_33, HO_35, HB⟩ := hrel
       cases gk with
       | zero => exact absurd HA.out (by simp [sapperlaw12_SaisPieces.l0])
       | succ k2 =>
        have H := HA.out
        clear HA
        simp only [sapperlaw12_SaisPieces.l0] at H
        by_cases c21 : x9_2 < (l1.length : Int)
        ·rw [if_pos c21] at H
         have c21b0 : decide (x9_2 < (l1.length : Int)) = true := decide_eq_true c21
         clear c21
         (first | rw [c21b0] | (simp only [i64_w, i32_w]; rw [c21b0]) | skip)
         by_cases c22 : (x35_2.length : Int) > 0
         ·rw [if_pos c22] at H
          have c22b0 : decide (0 < (x35_2.length : Int)) = true := decide_eq_true c22
          have c22b1 : decide (0 < x35_2.length) = true := decide_eq_true (by omega)
          clear c22
          by_cases c23 : (x35_2.length : Int) = 0
          ·rw [if_pos c23] at H
           exact absurd H (by simp)
          ·rw [if_neg c23] at H
           have c23b0 : ((x35_2.length : Int) == 0) = false := beq_eq_false_iff_ne.mpr c23
           have c23b1 : ((x35_2.length : Int) != 0) = true := bne_iff_ne.mpr c23
           have c23b2 : ¬ (x35_2 = []) := fun h_ => c23 (by rw [h_]; rfl)
           by_cases c24 : 0 ≤ x9_2
           ·rw [if_pos c24] at H
            have c24b0 : decide (0 ≤ x9_2) = true := decide_eq_true c24
            clear c24
            by_cases c25 : (IntKind.u64.wrap ((x35_2.length : Int))) = 0
            ·rw [if_pos c25] at H
             exact absurd H (by simp)
            ·rw [if_neg c25] at H
             have c25b0 : ((IntKind.u64.wrap ((x35_2.length : Int))) == 0) = false := beq_eq_false_iff_ne.mpr c25
             have c25b1 : ((IntKind.u64.wrap ((x35_2.length : Int))) != 0) = true := bne_iff_ne.mpr c25
             obtain ⟨ji26, hji26⟩ : ∃ j_ : Int, (wrap64 (Int.tmod (rd l1 x9_2) (IntKind.u64.wrap ((x35_2.length : Int))))) = j_ := ⟨_, rfl⟩
             replace H : (if 0 ≤ (ji26) then (if (ji26) < (x35_2.length : Int) then (if 0 ≤ (Int.tmod x9_2 (x35_2.length : Int)) then (if (Int.tmod x9_2 (x35_2.length : Int)) < (x35_2.length : Int) then (sapperlaw12_SaisPieces.l0 k2 l1 t855 t856 (wrap64 (x9_2 + 1)) t861 ((x35_2.set ((Int.tmod x9_2 (x35_2.length : Int)) : Int).toNat (rd x35_2 (ji26))).set ((ji26) : Int).toNat (rd x35_2 (Int.tmod x9_2 (x35_2.length : Int))))) else (none)) else (none)) else (none)) else (none)) = some r := by first | (rw [hji26] at H; exact H) | (simp only [hji26] at H ⊢; exact H)
             have hji26w : (IntKind.i64.wrap (Int.tmod (rd l1 x9_2) (IntKind.u64.wrap ((x35_2.length : Int))))) = ji26 := (i64_w _).trans hji26
             by_cases c27 : 0 ≤ (ji26)
             ·rw [if_pos c27] at H
              have c27b0 : decide (0 ≤ (ji26)) = true := decide_eq_true c27
              clear c27
              by_cases c28 : (ji26) < (x35_2.length : Int)
              ·rw [if_pos c28] at H
               have c28b0 : decide ((ji26) < (x35_2.length : Int)) = true := decide_eq_true c28
               clear c28
               obtain ⟨ji29, hji29⟩ : ∃ j_ : Int, (Int.tmod x9_2 (x35_2.length : Int)) = j_ := ⟨_, rfl⟩
               replace H : (if 0 ≤ (ji29) then (if (ji29) < (x35_2.length : Int) then (sapperlaw12_SaisPieces.l0 k2 l1 t855 t856 (wrap64 (x9_2 + 1)) t861 ((x35_2.set ((ji29) : Int).toNat (rd x35_2 (ji26))).set ((ji26) : Int).toNat (rd x35_2 (ji29)))) else (none)) else (none)) = some r := by first | (rw [hji29] at H; exact H) | (simp only [hji29] at H ⊢; exact H)
               by_cases c30 : 0 ≤ (ji29)
               ·rw [if_pos c30] at H
                have c30b0 : decide (0 ≤ (ji29)) = true := decide_eq_true c30
                clear c30
                by_cases c31 : (ji29) < (x35_2.length : Int)
                ·rw [if_pos c31] at H
                 have c31b0 : decide ((ji29) < (x35_2.length : Int)) = true := decide_eq_true c31
                 clear c31
                 obtain ⟨y870, hy870⟩ : ∃ y_ : List Int, y_ = (x35_2.set ((ji29) : Int).toNat (rd x35_2 (ji26))) := ⟨_, rfl⟩
                 replace H : (sapperlaw12_SaisPieces.l0 k2 l1 t855 t856 (wrap64 (x9_2 + 1)) t861 (y870.set ((ji26) : Int).toNat (rd x35_2 (ji29)))) = some r := by first | (rw [hy870]; with_reducible exact H) | (have H2_ := (Option.bind_some _ _).symm.trans H; rw [hy870]; with_reducible exact H2_) | (have H2_ := (Option.bind_some _ _).symm.trans H; with_reducible exact H2_) | with_reducible exact H | (rw [hy870]; exact H) | exact H
                 have Ny870 := Aside0.mk hy870
                 clear hy870
                 obtain ⟨y871, hy871⟩ : ∃ y_ : List Int, y_ = (y870.set ((ji26) : Int).toNat (rd x35_2 (ji29))) := ⟨_, rfl⟩
                 replace H : (sapperlaw12_SaisPieces.l0 k2 l1 t855 t856 (wrap64 (x9_2 + 1)) t861 y871) = some r := by first | (rw [hy871]; with_reducible exact H) | (have H2_ := (Option.bind_some _ _).symm.trans H; rw [hy871]; with_reducible exact H2_) | (have H2_ := (Option.bind_some _ _).symm.trans H; with_reducible exact H2_) | with_reducible exact H | (rw [hy871]; exact H) | exact H
                 have Ny871 := Aside0.mk hy871
                 clear hy871
                 have H' := Aside0.mk H
                 clear H
                 obtain ⟨Ao34, co34, eo34⟩ := Kd.R_slice HO_35.out
                 subst eo34
                 try go_wp2
                 have n0_ := Aside0.mk (Kd.R_drew HO_6.out)
                 have n1_ := Aside0.mk (Kd.R_drew HO_33.out)
                 have n2_ := Aside0.mk (Kd.R_drew HO_35.out)
                 have n3_ := Aside0.mk (below_drew1 HB.out)
                 clear HO_6
                 clear HO_33
                 clear HO_35
                 clear HB
                 have HO_6 := n0_
                 have HO_33 := n1_
                 have HO_35 := n2_
                 have HB := n3_
                 clear n0_ n1_ n2_ n3_
                 have p867 : 0 ≤ (x9_2 : Int) := of_decide_eq_true (by first | (with_reducible assumption) | assumption)
                 have q867 : x9_2 < (l1.length : Int) := of_decide_eq_true (by first | (with_reducible assumption) | assumption)
                 obtain ⟨ad867, e867, hx867_0⟩ := Kd.at_int HR1.out x9_2 p867 q867
                 have hw867_0 := hx867_0
                 cases e867
                 replace hx867_0 := (HB.out.cell (World.block_lt_of_cell? w _ hx867_0)).trans hx867_0
                 replace p867 := eq_true p867
                 replace q867 := eq_true q867
                 refine start_ (n := 15) (S := fun w' => w'.cell? (ad867.add (x9_2).toNat) = some (.int .u64 (rd l1 x9_2))) (ds := []) #[false, false, false, false, false, false, false, false, false, false, false, false, false, false, false] (by kernel_rfl) rfl rfl (((HB.out.cell (World.block_lt_of_cell? w _ hw867_0)).trans hw867_0)) (fun hHeld => ?_); refine with_tabW sapperlaw12_SaisPieces.tab10 sapperlaw12_SaisPieces.bits10 (fun HT_ HW_ => ?_)
                 generalize wr.drew = w35 at HO_6 HO_33 HO_35 HB hx867_0 hHeld ⊢
                 refine pure_ (i := 0) (N := some 52) (v := ?_) (a' := ?_) #[true, false, false, false, false, false, false, false, false, false, false, false, false, false, false] rfl rfl (any_of HT_.out (by kernel_rfl)) (fun _ _ _ h => h) (Or.inl ⟨by rfl, ?_⟩) ?_ ?_
                 rotate_left
                 ·intro w'
                  go_simp
                  with_reducible rfl
                 rotate_left
                 ·simp only [Act.put, List.setIfInBounds_toArray, List.set_cons_zero, List.set_cons_succ, i64_w, i32_w]
                  rfl
                 refine pure_ (i := 1) (N := some 53) (v := ?_) (a' := ?_) #[true, true, false, false, false, false, false, false, false, false, false, false, false, false, false] rfl rfl (any_of HT_.out (by kernel_rfl)) (fun _ _ _ h => h) (Or.inl ⟨by rfl, ?_⟩) ?_ ?_
                 rotate_left
                 ·intro w'
                  go_simp
                  with_reducible rfl
                 rotate_left
                 ·simp only [Act.put, List.setIfInBounds_toArray, List.set_cons_zero, List.set_cons_succ, i64_w, i32_w]
                  rfl
                 refine pure_ (i := 2) (N := some 54) (v := ?_) (a' := ?_) #[true, true, true, false, false, false, false, false, false, false, false, false, false, false, false] rfl rfl (any_of HT_.out (by kernel_rfl)) (fun _ _ _ h => h) (Or.inl ⟨by rfl, ?_⟩) ?_ ?_
                 rotate_left
                 ·intro w'
                  go_simp
                  with_reducible rfl
                 rotate_left
                 ·simp only [Act.put, List.setIfInBounds_toArray, List.set_cons_zero, List.set_cons_succ, i64_w, i32_w]
                  rfl
                 refine pure_ (i := 3) (N := some 55) (v := ?_) (a' := ?_) #[true, true, true, true, false, false, false, false, false, false, false, false, false, false, false] rfl rfl (any_of HT_.out (by kernel_rfl)) (fun _ _ _ h => h) (Or.inl ⟨by rfl, ?_⟩) ?_ ?_
                 rotate_left
                 ·intro w'
                  go_simp
                  with_reducible rfl
                 rotate_left
                 ·simp only [Act.put, List.setIfInBounds_toArray, List.set_cons_zero, List.set_cons_succ, i64_w, i32_w]
                  rfl
                 refine pure_ (i := 4) (N := some 56) (v := ?_) (a' := ?_) #[true, true, true, true, true, false, false, false, false, false, false, false, false, false, false] rfl rfl (any_of HT_.out (by kernel_rfl)) (fun _ _ _ h => h) (Or.inl ⟨by rfl, ?_⟩) ?_ ?_
                 rotate_left
                 ·intro w'
                  go_simp
                  with_reducible rfl
                 rotate_left
                 ·simp only [Act.put, List.setIfInBounds_toArray, List.set_cons_zero, List.set_cons_succ, i64_w, i32_w]
                  rfl
                 refine pure_ (i := 5) (N := some 57) (v := ?_) (a' := ?_) #[true, true, true, true, true, true, false, false, false, false, false, false, false, false, false] rfl rfl (any_of HT_.out (by kernel_rfl)) (fun _ _ _ h => h) (Or.inl ⟨by rfl, ?_⟩) ?_ ?_
                 rotate_left
                 ·intro w'
                  go_simp
                  with_reducible rfl
                 rotate_left
                 ·simp only [Act.put, List.setIfInBounds_toArray, List.set_cons_zero, List.set_cons_succ, i64_w, i32_w]
                  rfl
                 refine pure_ (i := 6) (N := some 58) (v := ?_) (a' := ?_) #[true, true, true, true, true, true, true, false, false, false, false, false, false, false, false] rfl rfl (any_of HT_.out (by kernel_rfl)) (fun _ _ _ h => h) (Or.inl ⟨by rfl, ?_⟩) ?_ ?_
                 rotate_left
                 ·intro w'
                  go_simp
                  with_reducible rfl
                 rotate_left
                 ·simp only [Act.put, List.setIfInBounds_toArray, List.set_cons_zero, List.set_cons_succ, i64_w, i32_w]
                  rfl
                 refine pure_ (i := 8) (N := some 60) (v := ?_) (a' := ?_) #[true, true, true, true, true, true, true, false, true, false, false, false, false, false, false] rfl rfl (any_of HT_.out (by kernel_rfl)) (fun _ _ _ h => h) (Or.inl ⟨by rfl, ?_⟩) ?_ ?_
                 rotate_left
                 ·intro w'
                  go_simp
                  with_reducible rfl
                 rotate_left
                 ·simp only [Act.put, List.setIfInBounds_toArray, List.set_cons_zero, List.set_cons_succ, i64_w, i32_w]
                  rfl
                 refine pure_ (i := 9) (N := some 61) (v := ?_) (a' := ?_) #[true, true, true, true, true, true, true, false, true, true, false, false, false, false, false] rfl rfl (any_of HT_.out (by kernel_rfl)) (fun _ _ _ h => h) (Or.inl ⟨by rfl, ?_⟩) ?_ ?_
                 rotate_left
                 ·intro w'
                  go_simp
                  with_reducible rfl
                 rotate_left
                 ·simp only [Act.put, List.setIfInBounds_toArray, List.set_cons_zero, List.set_cons_succ, i64_w, i32_w]
                  rfl
                 refine pure_ (i := 10) (N := some 62) (v := ?_) (a' := ?_) #[true, true, true, true, true, true, true, false, true, true, true, false, false, false, false] rfl rfl (any_of HT_.out (by kernel_rfl)) (fun _ _ _ h => h) (Or.inl ⟨by rfl, ?_⟩) ?_ ?_
                 rotate_left
                 ·intro w'
                  go_simp
                  with_reducible rfl
                 rotate_left
                 ·simp only [Act.put, List.setIfInBounds_toArray, List.set_cons_zero, List.set_cons_succ, i64_w, i32_w]
                  rfl
                 refine pure_ (i := 13) (N := some 10) (v := ?_) (a' := ?_) #[true, true, true, true, true, true, true, false, true, true, true, false, false, true, false] rfl rfl (any_of HT_.out (by kernel_rfl)) (fun _ _ _ h => h) (Or.inl ⟨by rfl, ?_⟩) ?_ ?_
                 rotate_left
                 ·intro w'
                  go_simp
                  with_reducible rfl
                 rotate_left
                 ·simp only [Act.put, List.setIfInBounds_toArray, List.set_cons_zero, List.set_cons_succ, i64_w, i32_w]
                  rfl
                 refine take_ (i := 7) (N := some 59) (v := ?_) (a' := ?_) #[true, true, true, true, true, true, true, true, true, true, true, false, false, true, false] rfl rfl (take_ofW HT_.out HW_.out (by kernel_rfl)) (fun _ _ _ h => h) (Or.inl ⟨by rfl, ?_⟩) hHeld ?_ ?_
                 rotate_left
                 ·intro w' s0
                  go_simp
                  with_reducible rfl
                 rotate_left
                 ·simp only [Act.put, List.setIfInBounds_toArray, List.set_cons_zero, List.set_cons_succ, i64_w, i32_w]
                  rfl
                 refine pure_ (i := 11) (N := some 63) (v := ?_) (a' := ?_) #[true, true, true, true, true, true, true, true, true, true, true, true, false, true, false] rfl rfl (any_of HT_.out (by kernel_rfl)) (fun _ _ _ h => h) (Or.inl ⟨by rfl, ?_⟩) ?_ ?_
                 rotate_left
                 ·intro w'
                  go_simp
                  with_reducible rfl
                 rotate_left
                 ·simp only [Act.put, List.setIfInBounds_toArray, List.set_cons_zero, List.set_cons_succ, i64_w, i32_w]
                  rfl
                 refine pure_ (i := 12) (N := some 64) (v := ?_) (a' := ?_) #[true, true, true, true, true, true, true, true, true, true, true, true, true, true, false] rfl rfl (any_of HT_.out (by kernel_rfl)) (fun _ _ _ h => h) (Or.inl ⟨by rfl, ?_⟩) ?_ ?_
                 rotate_left
                 ·intro w'
                  go_simp
                  with_reducible rfl
                 rotate_left
                 ·simp only [Act.put, List.setIfInBounds_toArray, List.set_cons_zero, List.set_cons_succ, i64_w, i32_w]
                  rfl
                 refine pure_ (i := 14) (N := some 11) (v := ?_) (a' := ?_) #[true, true, true, true, true, true, true, true, true, true, true, true, true, true, true] rfl rfl (any_of HT_.out (by kernel_rfl)) (fun _ _ _ h => h) (Or.inl ⟨by rfl, ?_⟩) ?_ ?_
                 rotate_left
                 ·intro w'
                  go_simp
                  with_reducible rfl
                 rotate_left
                 ·simp only [Act.put, List.setIfInBounds_toArray, List.set_cons_zero, List.set_cons_succ, i64_w, i32_w]
                  rfl
                 refine done_ (done_of HT_.out (by kernel_rfl)) ?_
                 try go_wp2
                 have n0_ := Aside0.mk (Kd.R_drew HO_6.out)
                 have n1_ := Aside0.mk (Kd.R_drew HO_33.out)
                 have n2_ := Aside0.mk (Kd.R_drew HO_35.out)
                 have n3_ := Aside0.mk (below_drew1 HB.out)
                 clear HO_6
                 clear HO_33
                 clear HO_35
                 clear HB
                 have HO_6 := n0_
                 have HO_33 := n1_
                 have HO_35 := n2_
                 have HB := n3_
                 clear n0_ n1_ n2_ n3_
                 have p868 : 0 ≤ ((ji26) : Int) := of_decide_eq_true (by first | (with_reducible assumption) | assumption)
                 have q868 : (ji26) < (x35_2.length : Int) := of_decide_eq_true (by first | (with_reducible assumption) | assumption)
                 obtain ⟨ad868, e868, hx868_0⟩ := Kd.at_int (Kd.R_reads' HO_35.out).2.2 (ji26) p868 q868
                 cases e868
                 replace p868 := eq_true p868
                 replace q868 := eq_true q868
                 have p869 : 0 ≤ ((ji29) : Int) := of_decide_eq_true (by first | (with_reducible assumption) | assumption)
                 have q869 : (ji29) < (x35_2.length : Int) := of_decide_eq_true (by first | (with_reducible assumption) | assumption)
                 obtain ⟨ad869, e869, hx869_0⟩ := Kd.at_int (Kd.R_reads' HO_35.out).2.2 (ji29) p869 q869
                 obtain rfl : ad868 = ad869 := (by injection e869)
                 replace p869 := eq_true p869
                 replace q869 := eq_true q869
                 have p32 : 0 ≤ ((ji29) : Int) := of_decide_eq_true (by first | (with_reducible assumption) | assumption)
                 have q32 : ((ji29) : Int) < ((x35_2.length : Int) : Int) := of_decide_eq_true (by first | (with_reducible assumption) | assumption)
                 obtain ⟨go32, co32, eo32, gb32, gl32, cl32, HG32⟩ := Kd.R_form HO_35.out (by omega)
                 (first | cases eo32 | (injection eo32 with ea_ en_ ec_; (first | subst ea_ | (injection ea_ with ea_; subst ea_)); subst ec_; clear en_))
                 have GB32 := Aside0.mk gb32
                 have GG32 := Aside0.mk HG32
                 clear gb32 gl32 HG32
                 (first | simp only [add_plain] at hx868_0 | skip)
                 (first | simp only [add_plain] at hx869_0 | skip)
                 obtain ⟨hx32_0, hf32_0⟩ := Kd.R_celln 0 HO_35.out ((ji29) : Int) p32 q32
                 replace p32 := eq_true p32
                 replace q32 := eq_true q32
                 have HP37 := Kd.R_putn HO_35.out ((ji29) : Int) (rd x35_2 (ji26))
                 rw [← Ny870.out] at HP37
                 have HQ37 := Aside0.mk HP37
                 clear HP37
                 have p33 : 0 ≤ ((ji26) : Int) := of_decide_eq_true (by first | (with_reducible assumption) | assumption)
                 have q33 : ((ji26) : Int) < ((x35_2.length : Int) : Int) := of_decide_eq_true (by first | (with_reducible assumption) | assumption)
                 obtain ⟨hx33_0, hf33_0⟩ := Kd.R_celln 0 HQ37.out ((ji26) : Int) p33 q33
                 replace p33 := eq_true p33
                 replace q33 := eq_true q33
                 have HP38 := Kd.R_putn HQ37.out ((ji26) : Int) (rd x35_2 (ji29))
                 rw [← Ny871.out] at HP38
                 have HQ38 := Aside0.mk HP38
                 clear HP38
                 refine start_ (n := 16) (S := fun w' => w'.cell? ⟨go32, ((ji26)).toNat, none⟩ = some (.int .i64 (rd x35_2 (ji26))) ∧ w'.cell? ⟨go32, ((ji29)).toNat, none⟩ = some (.int .i64 (rd x35_2 (ji29)))) (ds := [13, 15]) #[false, false, false, false, false, false, false, false, false, false, false, false, false, false, false, false] (by kernel_rfl) rfl rfl ⟨hx868_0, hx869_0⟩ (fun hHeld => ?_); refine with_tabW sapperlaw12_SaisPieces.tab11 sapperlaw12_SaisPieces.bits11 (fun HT_ HW_ => ?_)
                 generalize w35.drew = w36 at HO_6 HO_33 HO_35 HB GG32 HQ37 HQ38 hf32_0 hf33_0 hx32_0 hx33_0 hx868_0 hx869_0 hHeld ⊢
                 refine pure_ (i := 0) (N := some 65) (v := ?_) (a' := ?_) #[true, false, false, false, false, false, false, false, false, false, false, false, false, false, false, false] rfl rfl (any_of HT_.out (by kernel_rfl)) (fun _ _ _ h => h) (Or.inl ⟨by rfl, ?_⟩) ?_ ?_
                 rotate_left
                 ·intro w'
                  go_simp
                  with_reducible rfl
                 rotate_left
                 ·simp only [Act.put, List.setIfInBounds_toArray, List.set_cons_zero, List.set_cons_succ, i64_w, i32_w]
                  rfl
                 refine pure_ (i := 1) (N := some 66) (v := ?_) (a' := ?_) #[true, true, false, false, false, false, false, false, false, false, false, false, false, false, false, false] rfl rfl (any_of HT_.out (by kernel_rfl)) (fun _ _ _ h => h) (Or.inl ⟨by rfl, ?_⟩) ?_ ?_
                 rotate_left
                 ·intro w'
                  go_simp
                  with_reducible rfl
                 rotate_left
                 ·simp only [Act.put, List.setIfInBounds_toArray, List.set_cons_zero, List.set_cons_succ, i64_w, i32_w]
                  rfl
                 refine pure_ (i := 2) (N := some 67) (v := ?_) (a' := ?_) #[true, true, true, false, false, false, false, false, false, false, false, false, false, false, false, false] rfl rfl (any_of HT_.out (by kernel_rfl)) (fun _ _ _ h => h) (Or.inl ⟨by rfl, ?_⟩) ?_ ?_
                 rotate_left
                 ·intro w'
                  go_simp
                  with_reducible rfl
                 rotate_left
                 ·simp only [Act.put, List.setIfInBounds_toArray, List.set_cons_zero, List.set_cons_succ, i64_w, i32_w]
                  rfl
                 refine pure_ (i := 3) (N := some 68) (v := ?_) (a' := ?_) #[true, true, true, true, false, false, false, false, false, false, false, false, false, false, false, false] rfl rfl (any_of HT_.out (by kernel_rfl)) (fun _ _ _ h => h) (Or.inl ⟨by rfl, ?_⟩) ?_ ?_
                 rotate_left
                 ·intro w'
                  go_simp
                  with_reducible rfl
                 rotate_left
                 ·simp only [Act.put, List.setIfInBounds_toArray, List.set_cons_zero, List.set_cons_succ, i64_w, i32_w]
                  rfl
                 refine pure_ (i := 4) (N := some 69) (v := ?_) (a' := ?_) #[true, true, true, true, true, false, false, false, false, false, false, false, false, false, false, false] rfl rfl (any_of HT_.out (by kernel_rfl)) (fun _ _ _ h => h) (Or.inl ⟨by rfl, ?_⟩) ?_ ?_
                 rotate_left
                 ·intro w'
                  go_simp
                  with_reducible rfl
                 rotate_left
                 ·simp only [Act.put, List.setIfInBounds_toArray, List.set_cons_zero, List.set_cons_succ, i64_w, i32_w]
                  rfl
                 refine pure_ (i := 5) (N := some 70) (v := ?_) (a' := ?_) #[true, true, true, true, true, true, false, false, false, false, false, false, false, false, false, false] rfl rfl (any_of HT_.out (by kernel_rfl)) (fun _ _ _ h => h) (Or.inl ⟨by rfl, ?_⟩) ?_ ?_
                 rotate_left
                 ·intro w'
                  go_simp
                  with_reducible rfl
                 rotate_left
                 ·simp only [Act.put, List.setIfInBounds_toArray, List.set_cons_zero, List.set_cons_succ, i64_w, i32_w]
                  rfl
                 refine pure_ (i := 6) (N := some 71) (v := ?_) (a' := ?_) #[true, true, true, true, true, true, true, false, false, false, false, false, false, false, false, false] rfl rfl (any_of HT_.out (by kernel_rfl)) (fun _ _ _ h => h) (Or.inl ⟨by rfl, ?_⟩) ?_ ?_
                 rotate_left
                 ·intro w'
                  go_simp
                  with_reducible rfl
                 rotate_left
                 ·simp only [Act.put, List.setIfInBounds_toArray, List.set_cons_zero, List.set_cons_succ, i64_w, i32_w]
                  rfl
                 refine pure_ (i := 8) (N := some 73) (v := ?_) (a' := ?_) #[true, true, true, true, true, true, true, false, true, false, false, false, false, false, false, false] rfl rfl (any_of HT_.out (by kernel_rfl)) (fun _ _ _ h => h) (Or.inl ⟨by rfl, ?_⟩) ?_ ?_
                 rotate_left
                 ·intro w'
                  go_simp
                  with_reducible rfl
                 rotate_left
                 ·simp only [Act.put, List.setIfInBounds_toArray, List.set_cons_zero, List.set_cons_succ, i64_w, i32_w]
                  rfl
                 refine pure_ (i := 9) (N := some 74) (v := ?_) (a' := ?_) #[true, true, true, true, true, true, true, false, true, true, false, false, false, false, false, false] rfl rfl (any_of HT_.out (by kernel_rfl)) (fun _ _ _ h => h) (Or.inl ⟨by rfl, ?_⟩) ?_ ?_
                 rotate_left
                 ·intro w'
                  go_simp
                  with_reducible rfl
                 rotate_left
                 ·simp only [Act.put, List.setIfInBounds_toArray, List.set_cons_zero, List.set_cons_succ, i64_w, i32_w]
                  rfl
                 refine pure_ (i := 10) (N := some 75) (v := ?_) (a' := ?_) #[true, true, true, true, true, true, true, false, true, true, true, false, false, false, false, false] rfl rfl (any_of HT_.out (by kernel_rfl)) (fun _ _ _ h => h) (Or.inl ⟨by rfl, ?_⟩) ?_ ?_
                 rotate_left
                 ·intro w'
                  go_simp
                  with_reducible rfl
                 rotate_left
                 ·simp only [Act.put, List.setIfInBounds_toArray, List.set_cons_zero, List.set_cons_succ, i64_w, i32_w]
                  rfl
                 refine take_ (i := 7) (N := some 72) (v := ?_) (a' := ?_) #[true, true, true, true, true, true, true, true, true, true, true, false, false, false, false, false] rfl rfl (take_ofW HT_.out HW_.out (by kernel_rfl)) (fun _ _ _ h => h) (Or.inl ⟨by rfl, ?_⟩) hHeld ?_ ?_
                 rotate_left
                 ·rintro w' ⟨s0, s1⟩
                  go_simp
                  with_reducible rfl
                 rotate_left
                 ·simp only [Act.put, List.setIfInBounds_toArray, List.set_cons_zero, List.set_cons_succ, i64_w, i32_w]
                  rfl
                 refine take_ (i := 11) (N := some 76) (v := ?_) (a' := ?_) #[true, true, true, true, true, true, true, true, true, true, true, true, false, false, false, false] rfl rfl (take_ofW HT_.out HW_.out (by kernel_rfl)) (fun _ _ _ h => h) (Or.inl ⟨by rfl, ?_⟩) hHeld ?_ ?_
                 rotate_left
                 ·rintro w' ⟨s0, s1⟩
                  go_simp
                  with_reducible rfl
                 rotate_left
                 ·simp only [Act.put, List.setIfInBounds_toArray, List.set_cons_zero, List.set_cons_succ, i64_w, i32_w]
                  rfl
                 refine pure_ (i := 12) (N := some 77) (v := ?_) (a' := ?_) #[true, true, true, true, true, true, true, true, true, true, true, true, true, false, false, false] rfl rfl (any_of HT_.out (by kernel_rfl)) (fun _ _ _ h => h) (Or.inl ⟨by rfl, ?_⟩) ?_ ?_
                 rotate_left
                 ·intro w'
                  go_simp
                  with_reducible rfl
                 rotate_left
                 ·simp only [Act.put, List.setIfInBounds_toArray, List.set_cons_zero, List.set_cons_succ, i64_w, i32_w]
                  rfl
                 refine last_ (i := 13) (N := none) #[true, true, true, true, true, true, true, true, true, true, true, true, true, true, false, false] rfl rfl (one_of HT_.out (by kernel_rfl)) (by decide) (fun K hK => ?_)
                 refine skip_ (w1 := ?_) (by rfl) rfl ?_ ?_
                 rotate_left
                 ·go_simp
                  rfl
                 refine hK.out _ _ ?_
                 clear hK K
                 refine pure_ (i := 14) (N := some 78) (v := ?_) (a' := ?_) #[true, true, true, true, true, true, true, true, true, true, true, true, true, true, true, false] rfl rfl (any_of HT_.out (by kernel_rfl)) (fun _ _ _ h => h) (Or.inl ⟨by rfl, ?_⟩) ?_ ?_
                 rotate_left
                 ·intro w'
                  go_simp
                  with_reducible rfl
                 rotate_left
                 ·simp only [Act.put, List.setIfInBounds_toArray, List.set_cons_zero, List.set_cons_succ, i64_w, i32_w]
                  rfl
                 refine last_ (i := 15) (N := none) #[true, true, true, true, true, true, true, true, true, true, true, true, true, true, true, true] rfl rfl (one_of HT_.out (by kernel_rfl)) (by decide) (fun K hK => ?_)
                 refine skip_ (w1 := ?_) (by rfl) rfl ?_ ?_
                 rotate_left
                 ·go_simp
                  rfl
                 refine hK.out _ _ ?_
                 clear hK K
                 refine done_ (done_of HT_.out (by kernel_rfl)) ?_
                 try go_wp2
                 go_roundg k2
                 case measure => have := HJ3.out; have := HK2.out; omega
                 case rel => exact ⟨(wrap64 (x9_2 + 1)), (y871), (by first | rfl | (simp; done) | (simp [*]; done)), H', ⟨by have := HJ3.out; have := HK2.out; omega⟩, ⟨by (with_reducible repeat (first | apply Kd.R_alloc | apply Kd.R_drewN | apply Kd.R_drew)); exact Kd.R_mono (Kd.R_far (p := ⟨go32, ((ji26) : Int).toNat, none⟩) (Kd.R_far (p := ⟨go32, ((ji29) : Int).toNat, none⟩) (Kd.R_mono HO_6.out (fun k_ hk => (⟨hk, fun e_ => hk (by rw [e_]; rfl)⟩ : _ ∧ k_ ≠ go32))) (fun _ hk => hk.2) (.int .i64 (rd x35_2 (ji26)))) (fun _ hk => hk.2) (.int .i64 (rd x35_2 (ji29)))) (fun _ hk => hk.1)⟩, ⟨by (with_reducible repeat (first | apply Kd.R_alloc | apply Kd.R_drewN | apply Kd.R_drew)); exact Kd.R_mono (Kd.R_far (p := ⟨go32, ((ji26) : Int).toNat, none⟩) (Kd.R_far (p := ⟨go32, ((ji29) : Int).toNat, none⟩) (Kd.R_types HO_33.out GG32.out (by decide)) (fun _ hk => hk.2) (.int .i64 (rd x35_2 (ji26)))) (fun _ hk => hk.2) (.int .i64 (rd x35_2 (ji29)))) (fun _ hk => trivial)⟩, ⟨by (with_reducible repeat (first | apply Kd.R_alloc | apply Kd.R_drewN | apply Kd.R_drew)); exact HQ38.out⟩, ⟨by repeat (first | (with_reducible first | exact HB.out | apply below_alloc | apply pw_below_drewN | apply below_drew1 | refine below_set ?_ GB32.out | refine below_set ?_ GB32.out) | exact HB.out)⟩⟩
                ·rw [if_neg c31] at H
                 exact absurd H (by simp)
               ·rw [if_neg c30] at H
                exact absurd H (by simp)
              ·rw [if_neg c28] at H
               exact absurd H (by simp)
             ·rw [if_neg c27] at H
              exact absurd H (by simp)
           ·rw [if_neg c24] at H
            exact absurd H (by simp)
         ·rw [if_neg c22] at H
          have c22b0 : decide (0 < (x35_2.length : Int)) = false := decide_eq_false c22
          have c22b1 : decide (0 < x35_2.length) = false := decide_eq_false (by omega)
          clear c22
          have H' := Aside0.mk H
          clear H
          obtain ⟨Ao39, co39, eo39⟩ := Kd.R_slice HO_35.out
          subst eo39
          go_wp2
          go_meet
          case rel => exact ⟨_, (x35_2), H', ⟨by have := HJ3.out; have := HK2.out; first | omega | exact Nat.le_refl _⟩, ⟨by (with_reducible repeat (first | apply Kd.R_alloc | apply Kd.R_drewN | apply Kd.R_drew)); exact HO_6.out⟩, ⟨by (with_reducible repeat (first | apply Kd.R_alloc | apply Kd.R_drewN | apply Kd.R_drew)); exact HO_33.out⟩, ⟨by (with_reducible repeat (first | apply Kd.R_alloc | apply Kd.R_drewN | apply Kd.R_drew)); exact HO_35.out⟩, ⟨by repeat (first | (with_reducible first | exact HB.out | apply below_alloc | apply pw_below_drewN | apply below_drew1) | exact HB.out)⟩⟩
        ·rw [if_neg c21] at H
         have c21b0 : decide (x9_2 < (l1.length : Int)) = false := decide_eq_false c21
         clear c21
         (first | rw [c21b0] | (simp only [i64_w, i32_w]; rw [c21b0]) | skip)
         have H' := Aside0.mk H
         clear H
         go_wp2
         go_meet
         case rel => exact ⟨_, (x35_2), H', ⟨by have := HJ3.out; have := HK2.out; first | omega | exact Nat.le_refl _⟩, ⟨by (with_reducible repeat (first | apply Kd.R_alloc | apply Kd.R_drewN | apply Kd.R_drew)); exact HO_6.out⟩, ⟨by (with_reducible repeat (first | apply Kd.R_alloc | apply Kd.R_drewN | apply Kd.R_drew)); exact HO_33.out⟩, ⟨by (with_reducible repeat (first | apply Kd.R_alloc | apply Kd.R_drewN | apply Kd.R_drew)); exact HO_35.out⟩, ⟨by repeat (first | (with_reducible first | exact HB.out | apply below_alloc | apply pw_below_drewN | apply below_drew1) | exact HB.out)⟩⟩
     case rest =>
      clear HC16
      try clear c1
      try clear c2
      try clear p2
      try clear c3
      try clear p3
      try clear q3
      try clear hx3
      try clear hf3
      try clear p6
      try clear c7
      try clear p8
      try clear q8
      try clear hx8
      try clear c10
      try clear c11
      try clear c15
      try clear c15b0
      try clear c15b1
      try clear c15b2
      try clear c20
      try clear c21
      try clear c21b0
      try clear c22
      try clear c22b0
      try clear c22b1
      try clear c23
      try clear c23b0
      try clear c23b1
      try clear c23b2
      try clear c24
      try clear c24b0
      try clear c25
      try clear c25b0
      try clear c25b1
      try clear c27
      try clear c27b0
      try clear c28
      try clear c28b0
      try clear c30
      try clear c30b0
      try clear c31
      try clear c31b0
      try clear p32
      try clear q32
      try clear hx32
      try clear hf32
      try clear p33
      try clear q33
      try clear hx33
      try clear hf33
      try clear hx32_0
      try clear hx33_0
      try clear hx867_0
      try clear hx868_0
      try clear hx869_0
      try clear p2
      try clear p32
      try clear p33
      try clear p867
      try clear p868
      try clear p869
      try clear q32
      try clear q33
      try clear q867
      try clear q868
      try clear q869
      obtain ⟨kq, x8_15, HA, HJ15, HO_6, HO_7, HO_8, HB⟩ := hcut
      cases kq with
      | zero => exact absurd HA.out (by simp [sapperlaw12_SaisPieces.j2])
      | succ kj15 =>
       have H := HA.out
       clear HA
       simp only [sapperlaw12_SaisPieces.j2] at H
       replace H := Option.bind_eq_some_iff.mp H
       obtain ⟨⟨t872, t873⟩, A400, H⟩ := H
       replace H : (if t873 = 0 then (sapperlaw12_SaisPieces.j3 kj15 t856 t861 t872 ((t872.length : Int) != (t856.length : Int))) else (sapperlaw12_SaisPieces.j3 kj15 t856 t861 t872 true)) = some r := H
       have A40 := Aside0.mk A400
       clear A400
       have HC41 := Aside0.mk H
       clear H
       obtain ⟨Ao42, co42, eo42⟩ := Kd.R_slice HO_8.out
       subst eo42
       go_upto_region 13 with (first | ((with_reducible refine gate_callee (f := 29) rfl ?_); refine goesL_ (some 83) rfl rfl Try.func29 (by kernel_rfl) rfl #[.int .i64 t855, .slice Ao17 t856.length co17, .slice Ao42 x8_15.length co42] rfl (by (try simp only [List.map_toArray, List.map_cons, List.map_nil]); first | done | rfl | (simp only [List.length_drop, List.length_take]; rfl)) ?_; (with_reducible refine (sais_Induce.calls kj15 t855 _ _ t856 _ _ x8_15 t872 t873 _ ?side1 ?side2 ?side3 ?side4 A40.out).mono ?_); (case side1 => repeat (first | exact (Kd.R_reads' HO_6.out).2.2 | (with_reducible refine Kd.C_alloc ?_ _) | (with_reducible refine Kd.C_drewN ?_ _) | (with_reducible refine Kd.C_drew ?_))); (case side2 => exact (Kd.R_reads' HO_6.out).2.1); (case side3 => repeat (first | exact (Kd.R_reads' HO_8.out).2.2 | (with_reducible refine Kd.C_alloc ?_ _) | (with_reducible refine Kd.C_drewN ?_ _) | (with_reducible refine Kd.C_drew ?_))); (case side4 => exact (Kd.R_reads' HO_8.out).2.1); rintro e w43 ⟨v874, rfl, ho0, hb⟩; refine ⟨_, rfl, ?_⟩; have n0_ := Aside0.mk (Kd.R_elder' (by (with_reducible repeat (first | apply Kd.R_alloc | apply Kd.R_drewN | apply Kd.R_drew)); exact HO_6.out) (Kd.R_base ho0) hb); have n1_ := Aside0.mk (Kd.R_below (by (with_reducible repeat (first | apply Kd.R_alloc | apply Kd.R_drewN | apply Kd.R_drew)); exact HO_7.out) hb); have n2_ := Aside0.mk (Kd.R_elder' (by (with_reducible repeat (first | apply Kd.R_alloc | apply Kd.R_drewN | apply Kd.R_drew)); exact HO_8.out) (Kd.R_base ho0) hb); have n3_ := Aside0.mk (Kd.R_lower (Kd.R_new' (Kd.R_new' ho0 (Kd.R_lt (by (with_reducible repeat (first | apply Kd.R_alloc | apply Kd.R_drewN | apply Kd.R_drew)); exact HO_6.out))) (Kd.R_lt (by (with_reducible repeat (first | apply Kd.R_alloc | apply Kd.R_drewN | apply Kd.R_drew)); exact HO_8.out))) (below_size (by repeat (first | (with_reducible first | exact HB.out | apply below_alloc | apply pw_below_drewN | apply below_drew1) | exact HB.out)))); have n4_ := Aside0.mk (below_step (by repeat (first | (with_reducible first | exact HB.out | apply below_alloc | apply pw_below_drewN | apply below_drew1) | exact HB.out)) hb); clear HO_6; clear HO_7; clear HO_8; clear HB; have HO_6 := n0_; have HO_7 := n1_; have HO_8 := n2_; have HO875 := n3_; have HB := n4_; clear n0_ n1_ n2_ n3_ n4_; (try clear hb); (try clear hb2); (try clear hk); (try clear hi); (try clear ho0)))
       (try simp only [Act.put, List.setIfInBounds_toArray, List.set_cons_zero, List.set_cons_succ])
       go_cut [94] (fun v94 wc => ∃ (kq : Nat) (x94_40 : Bool), v94 = .bool x94_40 ∧ Aside0 (sapperlaw12_SaisPieces.j3 kq t856 t861 t872 x94_40 = some r) ∧ Aside0 (kq ≤ kj15) ∧ Aside0 (Kd.R (Kd.int .i64) 3 wc w.heap.size (fun k_ => some k_ ≠ (v874 : Value).ownBlock) (.slice Ao17 t856.length co17) t856) ∧ Aside0 (Kd.R Kd.bool 4 wc w.heap.size (fun _ => True) (.slice Ao20 t861.length co20) t861) ∧ Aside0 (Kd.R (Kd.int .i64) 3 wc w.heap.size (fun k_ => some k_ ≠ ((.slice Ao17 t856.length co17) : Value).ownBlock) v874 t872) ∧ Aside0 (Below w.heap.size w wc))
       case first =>
        have H := HC41.out
        clear HC41
        by_cases c44 : t873 = 0
        ·rw [if_pos c44] at H
         have c44b0 : (t873 == 0) = true := beq_iff_eq.mpr c44
         have c44b1 : (t873 != 0) = false := bne_eq_false_iff_eq.mpr c44
         clear c44
         (first | rw [c44b0] | (simp only [i64_w, i32_w]; rw [c44b0]) | skip)
         have H' := Aside0.mk H
         clear H
         obtain ⟨Ao45, co45, eo45⟩ := Kd.R_slice HO875.out
         subst eo45
         go_wp2
         go_meet
         case rel => exact ⟨_, (((t872.length : Int) != (t856.length : Int))), (by first | rfl | (simp; done) | (simp [*]; done)), H', ⟨by have := HJ3.out; have := HJ15.out; first | omega | exact Nat.le_refl _⟩, ⟨by (with_reducible repeat (first | apply Kd.R_alloc | apply Kd.R_drewN | apply Kd.R_drew)); exact Kd.R_mono HO_6.out (fun _ hk => hk.2)⟩, ⟨by (with_reducible repeat (first | apply Kd.R_alloc | apply Kd.R_drewN | apply Kd.R_drew)); exact HO_7.out⟩, ⟨by (with_reducible repeat (first | apply Kd.R_alloc | apply Kd.R_drewN | apply Kd.R_drew)); exact Kd.R_mono HO875.out (fun _ hk => hk.1.2)⟩, ⟨by repeat (first | (with_reducible first | exact HB.out | apply below_alloc | apply pw_below_drewN | apply below_drew1) | exact HB.out)⟩⟩
        ·rw [if_neg c44] at H
         have c44b0 : (t873 == 0) = false := beq_eq_false_iff_ne.mpr c44
         have c44b1 : (t873 != 0) = true := bne_iff_ne.mpr c44
         (first | rw [c44b0] | (simp only [i64_w, i32_w]; rw [c44b0]) | skip)
         have H' := Aside0.mk H
         clear H
         go_wp2
         go_meet
         case rel => exact ⟨_, (true), (by first | rfl | (simp; done) | (simp [*]; done)), H', ⟨by have := HJ3.out; have := HJ15.out; first | omega | exact Nat.le_refl _⟩, ⟨by (with_reducible repeat (first | apply Kd.R_alloc | apply Kd.R_drewN | apply Kd.R_drew)); exact Kd.R_mono HO_6.out (fun _ hk => hk.2)⟩, ⟨by (with_reducible repeat (first | apply Kd.R_alloc | apply Kd.R_drewN | apply Kd.R_drew)); exact HO_7.out⟩, ⟨by (with_reducible repeat (first | apply Kd.R_alloc | apply Kd.R_drewN | apply Kd.R_drew)); exact Kd.R_mono HO875.out (fun _ hk => hk.1.2)⟩, ⟨by repeat (first | (with_reducible first | exact HB.out | apply below_alloc | apply pw_below_drewN | apply below_drew1) | exact HB.out)⟩⟩
       case rest =>
        clear HC41
        try clear c1
        try clear c2
        try clear p2
        try clear c3
        try clear p3
        try clear q3
        try clear hx3
        try clear hf3
        try clear c4
        try clear p6
        try clear c7
        try clear p8
        try clear q8
        try clear hx8
        try clear c10
        try clear c11
        try clear c15
        try clear c15b0
        try clear c15b1
        try clear c15b2
        try clear c20
        try clear c21
        try clear c21b0
        try clear c22
        try clear c22b0
        try clear c22b1
        try clear c23
        try clear c23b0
        try clear c23b1
        try clear c23b2
        try clear c24
        try clear c24b0
        try clear c25
        try clear c25b0
        try clear c25b1
        try clear c27
        try clear c27b0
        try clear c28
        try clear c28b0
        try clear c29
        try clear c30
        try clear c30b0
        try clear c31
        try clear c31b0
        try clear p32
        try clear q32
        try clear hx32
        try clear hf32
        try clear p33
        try clear q33
        try clear hx33
        try clear hf33
        try clear c44
        try clear c44b0
        try clear c44b1
        try clear hx32_0
        try clear hx33_0
        try clear hx867_0
        try clear hx868_0
        try clear hx869_0
        try clear p2
        try clear p3
        try clear p32
        try clear p33
        try clear p6
        try clear p8
        try clear p867
        try clear p868
        try clear p869
        try clear q3
        try clear q32
        try clear q33
        try clear q8
        try clear q867
        try clear q868
        try clear q869
        obtain ⟨kq, x94_40, rfl, HA, HJ40, HO_6, HO_7, HO_12, HB⟩ := hcut
        cases kq with
        | zero => exact absurd HA.out (by simp [sapperlaw12_SaisPieces.j3])
        | succ kj40 =>
         have H := HA.out
         clear HA
         simp only [sapperlaw12_SaisPieces.j3] at H
         by_cases c46 : x94_40 = true
         ·subst c46
          have H1 : (some false) = some r := by rw [if_pos rfl] at H; exact H
          clear H
          have H := H1
          clear H1
          obtain rfl := Option.some.inj H
          go_wp2
          go_ret
          exact ⟨by first | rfl | (simp [errW_none, errW_some] <;> rfl) | (simp [*, errW_none, errW_some] <;> rfl), by repeat (first | (with_reducible first | exact HB.out | apply below_alloc | apply pw_below_drewN | apply below_drew1) | exact HB.out)⟩
         ·replace c46 := Bool.eq_false_iff.mpr c46
          subst c46
          have H1 : (sapperlaw12_SaisPieces.l1 kj40 t856 t861 t872 (-1) 0) = some r := by rw [if_neg (show ¬ (false = true) by decide)] at H; exact H
          clear H
          have H := H1
          clear H1
          have H' := Aside0.mk H
          clear H
          go_wp2
          go_loopg [14, 15] kj40 (fun kq v14 v15 w' => ∃ (x14_4 : Int) (x15_4 : Int), v14 = .int .i64 x14_4 ∧ v15 = .int .i64 x15_4 ∧ Aside0 (sapperlaw12_SaisPieces.l1 kq t856 t861 t872 x14_4 x15_4 = some r) ∧ Aside0 (kq ≤ kj40) ∧ Aside0 (Kd.R (Kd.int .i64) 3 w' w.heap.size (fun k_ => some k_ ≠ (v874 : Value).ownBlock) (.slice Ao17 t856.length co17) t856) ∧ Aside0 (Kd.R Kd.bool 4 w' w.heap.size (fun _ => True) (.slice Ao20 t861.length co20) t861) ∧ Aside0 (Kd.R (Kd.int .i64) 3 w' w.heap.size (fun k_ => some k_ ≠ ((.slice Ao17 t856.length co17) : Value).ownBlock) v874 t872) ∧ Aside0 (Below w.heap.size w w'))
          case atStart => exact ⟨((-1)), (0), (by first | rfl | (simp; done) | (simp [*]; done)), (by first | rfl | (simp; done) | (simp [*]; done)), H', ⟨Nat.le_refl _⟩, ⟨by (with_reducible repeat (first | apply Kd.R_alloc | apply Kd.R_drewN | apply Kd.R_drew)); exact HO_6.out⟩, ⟨by (with_reducible repeat (first | apply Kd.R_alloc | apply Kd.R_drewN | apply Kd.R_drew)); exact HO_7.out⟩, ⟨by (with_reducible repeat (first | apply Kd.R_alloc | apply Kd.R_drewN | apply Kd.R_drew)); exact HO_12.out⟩, ⟨by repeat (first | (with_reducible first | exact HB.out | apply below_alloc | apply pw_below_drewN | apply below_drew1) | exact HB.out)⟩⟩
          case round =>
           clear H'
           try clear c1
           try clear c2
           try clear p2
           try clear c3
           try clear p3
           try clear q3
           try clear hx3
           try clear hf3
           try clear c4
           try clear p6
           try clear c7
           try clear p8
           try clear q8
           try clear hx8
           try clear c10
           try clear c11
           try clear c15
           try clear c15b0
           try clear c15b1
           try clear c15b2
           try clear c20
           try clear c21
           try clear c21b0
           try clear c22
           try clear c22b0
           try clear c22b1
           try clear c23
           try clear c23b0
           try clear c23b1
           try clear c23b2
           try clear c24
           try clear c24b0
           try clear c25
           try clear c25b0
           try clear c25b1
           try clear c27
           try clear c27b0
           try clear c28
           try clear c28b0
           try clear c29
           try clear c30
           try clear c30b0
           try clear c31
           try clear c31b0
           try clear p32
           try clear q32
           try clear hx32
           try clear hf32
           try clear p33
           try clear q33
           try clear hx33
           try clear hf33
           try clear c44
           try clear c44b0
           try clear c44b1
           try clear c46
           try clear hx32_0
           try clear hx33_0
           try clear hx867_0
           try clear hx868_0
           try clear hx869_0
           try clear p2
           try clear p3
           try clear p32
           try clear p33
           try clear p6
           try clear p8
           try clear p867
           try clear p868
           try clear p869
           try clear q3
           try clear q32
           try clear q33
           try clear q8
           try clear q867
           try clear q868
           try clear q869
           obtain ⟨x14_4, x15_4, rfl, rfl, HA, HK4, HO_6, HO_7, HO_12, HB⟩ := hrel
           cases gk with
           | zero => exact absurd HA.out (by simp [sapperlaw12_SaisPieces.l1])
           | succ k4 =>
            have H := HA.out
            clear HA
            simp only [sapperlaw12_SaisPieces.l1] at H
            by_cases c47 : x15_4 < (t872.length : Int)
            ·rw [if_pos c47] at H
             have c47b0 : decide (x15_4 < (t872.length : Int)) = true := decide_eq_true c47
             clear c47
             by_cases c48 : 0 ≤ x15_4
             ·rw [if_pos c48] at H
              have c48b0 : decide (0 ≤ x15_4) = true := decide_eq_true c48
              clear c48
              have HC49 := Aside0.mk H
              clear H
              obtain ⟨Ao50, co50, eo50⟩ := Kd.R_slice HO_12.out
              subst eo50
              have p876 : 0 ≤ (x15_4 : Int) := of_decide_eq_true (by first | (with_reducible assumption) | assumption)
              have q876 : x15_4 < (t872.length : Int) := of_decide_eq_true (by first | (with_reducible assumption) | assumption)
              obtain ⟨ad876, e876, hx876_0⟩ := Kd.at_int (Kd.R_reads' HO_12.out).2.2 x15_4 p876 q876
              cases e876
              replace p876 := eq_true p876
              replace q876 := eq_true q876
              go_upto_region 20 with (fail)
              go_cut [112] (fun v112 wc => ∃ (kq : Nat) (x112_48 : Bool), v112 = .bool x112_48 ∧ Aside0 (sapperlaw12_SaisPieces.j5 kq t856 t861 t872 x14_4 x15_4 (rd t872 x15_4) x112_48 = some r) ∧ Aside0 (kq ≤ k4) ∧ Aside0 (Kd.R (Kd.int .i64) 3 wc w.heap.size (fun k_ => some k_ ≠ ((.slice (some ad876) t872.length co50) : Value).ownBlock) (.slice Ao17 t856.length co17) t856) ∧ Aside0 (Kd.R Kd.bool 4 wc w.heap.size (fun _ => True) (.slice Ao20 t861.length co20) t861) ∧ Aside0 (Kd.R (Kd.int .i64) 3 wc w.heap.size (fun k_ => some k_ ≠ ((.slice Ao17 t856.length co17) : Value).ownBlock) (.slice (some ad876) t872.length co50) t872) ∧ Aside0 (Below w.heap.size w wc))
              case first =>
               have H := HC49.out
               clear HC49
               by_cases c51 : (rd t872 x15_4) < 0
               ·rw [if_pos c51] at H
                have c51b0 : decide ((rd t872 x15_4) < 0) = true := decide_eq_true c51
                clear c51
                (first | rw [c51b0] | (simp only [i64_w, i32_w]; rw [c51b0]) | skip)
                have H' := Aside0.mk H
                clear H
                go_wp2
                go_meet
                case rel => exact ⟨_, (true), (by first | rfl | (simp; done) | (simp [*]; done)), H', ⟨by have := HJ3.out; have := HJ15.out; have := HJ40.out; have := HK4.out; first | omega | exact Nat.le_refl _⟩, ⟨by (with_reducible repeat (first | apply Kd.R_alloc | apply Kd.R_drewN | apply Kd.R_drew)); exact HO_6.out⟩, ⟨by (with_reducible repeat (first | apply Kd.R_alloc | apply Kd.R_drewN | apply Kd.R_drew)); exact HO_7.out⟩, ⟨by (with_reducible repeat (first | apply Kd.R_alloc | apply Kd.R_drewN | apply Kd.R_drew)); exact HO_12.out⟩, ⟨by repeat (first | (with_reducible first | exact HB.out | apply below_alloc | apply pw_below_drewN | apply below_drew1) | exact HB.out)⟩⟩
               ·rw [if_neg c51] at H
                have c51b0 : decide ((rd t872 x15_4) < 0) = false := decide_eq_false c51
                clear c51
                (first | rw [c51b0] | (simp only [i64_w, i32_w]; rw [c51b0]) | skip)
                have H' := Aside0.mk H
                clear H
                go_wp2
                go_meet
                case rel => exact ⟨_, (decide ((rd t872 x15_4) ≥ (t856.length : Int))), (by first | rfl | (simp; done) | (simp [*]; done)), H', ⟨by have := HJ3.out; have := HJ15.out; have := HJ40.out; have := HK4.out; first | omega | exact Nat.le_refl _⟩, ⟨by (with_reducible repeat (first | apply Kd.R_alloc | apply Kd.R_drewN | apply Kd.R_drew)); exact HO_6.out⟩, ⟨by (with_reducible repeat (first | apply Kd.R_alloc | apply Kd.R_drewN | apply Kd.R_drew)); exact HO_7.out⟩, ⟨by (with_reducible repeat (first | apply Kd.R_alloc | apply Kd.R_drewN | apply Kd.R_drew)); exact HO_12.out⟩, ⟨by repeat (first | (with_reducible first | exact HB.out | apply below_alloc | apply pw_below_drewN | apply below_drew1) | exact HB.out)⟩⟩
              case rest =>
               clear HC49
               try clear c1
               try clear c2
               try clear p2
               try clear c3
               try clear p3
               try clear q3
               try clear hx3
               try clear hf3
               try clear c4
               try clear c5
               try clear p6
               try clear c7
               try clear p8
               try clear q8
               try clear hx8
               try clear c10
               try clear c11
               try clear c15
               try clear c15b0
               try clear c15b1
               try clear c15b2
               try clear c20
               try clear c21
               try clear c21b0
               try clear c22
               try clear c22b0
               try clear c22b1
               try clear c23
               try clear c23b0
               try clear c23b1
               try clear c23b2
               try clear c24
               try clear c24b0
               try clear c25
               try clear c25b0
               try clear c25b1
               try clear c27
               try clear c27b0
               try clear c28
               try clear c28b0
               try clear c29
               try clear c30
               try clear c30b0
               try clear c31
               try clear c31b0
               try clear p32
               try clear q32
               try clear hx32
               try clear hf32
               try clear p33
               try clear q33
               try clear hx33
               try clear hf33
               try clear c44
               try clear c44b0
               try clear c44b1
               try clear c46
               try clear c47
               try clear c47b0
               try clear c48
               try clear c48b0
               try clear c51
               try clear c51b0
               try clear hx32_0
               try clear hx33_0
               try clear hx867_0
               try clear hx868_0
               try clear hx869_0
               try clear hx876_0
               try clear p2
               try clear p3
               try clear p32
               try clear p33
               try clear p6
               try clear p8
               try clear p867
               try clear p868
               try clear p869
               try clear p876
               try clear q3
               try clear q32
               try clear q33
               try clear q8
               try clear q867
               try clear q868
               try clear q869
               try clear q876
               obtain ⟨kq, x112_48, rfl, HA, HJ48, HO_6, HO_7, HO_12, HB⟩ := hcut
               cases kq with
               | zero => exact absurd HA.out (by simp [sapperlaw12_SaisPieces.j5])
               | succ kj48 =>
                have H := HA.out
                clear HA
                simp only [sapperlaw12_SaisPieces.j5] at H
                by_cases c52 : x112_48 = true
                ·subst c52
                 have H1 : (some false) = some r := by rw [if_pos rfl] at H; exact H
                 clear H
                 have H := H1
                 clear H1
                 obtain rfl := Option.some.inj H
                 go_wp2
                 go_ret
                 exact ⟨by first | rfl | (simp [errW_none, errW_some] <;> rfl) | (simp [*, errW_none, errW_some] <;> rfl), by repeat (first | (with_reducible first | exact HB.out | apply below_alloc | apply pw_below_drewN | apply below_drew1) | exact HB.out)⟩
                ·replace c52 := Bool.eq_false_iff.mpr c52
                 subst c52
                 have H1 : (if (rd t872 x15_4) = 0 then (sapperlaw12_SaisPieces.j6 kj48 t856 t861 t872 x14_4 x15_4 (rd t872 x15_4) true) else (if 0 ≤ (rd t872 x15_4) then (if (rd t872 x15_4) < (t861.length : Int) then (if rdOf false t861 (rd t872 x15_4) = true then (if 0 ≤ (wrap64 ((rd t872 x15_4) - 1)) then (if (wrap64 ((rd t872 x15_4) - 1)) < (t861.length : Int) then (sapperlaw12_SaisPieces.j6 kj48 t856 t861 t872 x14_4 x15_4 (rd t872 x15_4) (rdOf false t861 (wrap64 ((rd t872 x15_4) - 1)))) else (none)) else (none)) else (sapperlaw12_SaisPieces.j6 kj48 t856 t861 t872 x14_4 x15_4 (rd t872 x15_4) true)) else (none)) else (none))) = some r := by rw [if_neg (show ¬ (false = true) by decide)] at H; exact H
                 clear H
                 have H := H1
                 clear H1
                 have HC53 := Aside0.mk H
                 clear H
                 go_upto_region 22 with (fail)
                 go_cut [128] (fun v128 wc => ∃ (kq : Nat) (x128_52 : Bool), v128 = .bool x128_52 ∧ Aside0 (sapperlaw12_SaisPieces.j6 kq t856 t861 t872 x14_4 x15_4 (rd t872 x15_4) x128_52 = some r) ∧ Aside0 (kq ≤ kj48) ∧ Aside0 (Kd.R (Kd.int .i64) 3 wc w.heap.size (fun k_ => some k_ ≠ ((.slice (some ad876) t872.length co50) : Value).ownBlock) (.slice Ao17 t856.length co17) t856) ∧ Aside0 (Kd.R Kd.bool 4 wc w.heap.size (fun _ => True) (.slice Ao20 t861.length co20) t861) ∧ Aside0 (Kd.R (Kd.int .i64) 3 wc w.heap.size (fun k_ => some k_ ≠ ((.slice Ao17 t856.length co17) : Value).ownBlock) (.slice (some ad876) t872.length co50) t872) ∧ Aside0 (Below w.heap.size w wc))
                 case first =>
                  have H := HC53.out
                  clear HC53
                  by_cases c54 : (rd t872 x15_4) = 0
                  ·rw [if_pos c54] at H
                   have c54b0 : ((rd t872 x15_4) == 0) = true := beq_iff_eq.mpr c54
                   have c54b1 : ((rd t872 x15_4) != 0) = false := bne_eq_false_iff_eq.mpr c54
                   clear c54
                   (first | rw [c54b0] | (simp only [i64_w, i32_w]; rw [c54b0]) | skip)
                   have H' := Aside0.mk H
                   clear H
                   go_wp2
                   go_meet
                   case rel => exact ⟨_, (true), (by first | rfl | (simp; done) | (simp [*]; done)), H', ⟨by have := HJ3.out; have := HJ15.out; have := HJ40.out; have := HK4.out; have := HJ48.out; first | omega | exact Nat.le_refl _⟩, ⟨by (with_reducible repeat (first | apply Kd.R_alloc | apply Kd.R_drewN | apply Kd.R_drew)); exact HO_6.out⟩, ⟨by (with_reducible repeat (first | apply Kd.R_alloc | apply Kd.R_drewN | apply Kd.R_drew)); exact HO_7.out⟩, ⟨by (with_reducible repeat (first | apply Kd.R_alloc | apply Kd.R_drewN | apply Kd.R_drew)); exact HO_12.out⟩, ⟨by repeat (first | (with_reducible first | exact HB.out | apply below_alloc | apply pw_below_drewN | apply below_drew1) | exact HB.out)⟩⟩
                  ·rw [if_neg c54] at H
                   have c54b0 : ((rd t872 x15_4) == 0) = false := beq_eq_false_iff_ne.mpr c54
                   have c54b1 : ((rd t872 x15_4) != 0) = true := bne_iff_ne.mpr c54
                   (first | rw [c54b0] | (simp only [i64_w, i32_w]; rw [c54b0]) | skip)
                   by_cases c55 : 0 ≤ (rd t872 x15_4)
                   ·rw [if_pos c55] at H
                    have c55b0 : decide (0 ≤ (rd t872 x15_4)) = true := decide_eq_true c55
                    clear c55
                    by_cases c56 : (rd t872 x15_4) < (t861.length : Int)
                    ·rw [if_pos c56] at H
                     have c56b0 : decide ((rd t872 x15_4) < (t861.length : Int)) = true := decide_eq_true c56
                     clear c56
                     obtain ⟨bq57, hbq57⟩ : ∃ b_ : Bool, b_ = (rdOf false t861 (rd t872 x15_4)) := ⟨_, rfl⟩
                     replace H : (if bq57 = true then (if 0 ≤ (wrap64 ((rd t872 x15_4) - 1)) then (if (wrap64 ((rd t872 x15_4) - 1)) < (t861.length : Int) then (sapperlaw12_SaisPieces.j6 kj48 t856 t861 t872 x14_4 x15_4 (rd t872 x15_4) (rdOf false t861 (wrap64 ((rd t872 x15_4) - 1)))) else (none)) else (none)) else (sapperlaw12_SaisPieces.j6 kj48 t856 t861 t872 x14_4 x15_4 (rd t872 x15_4) true)) = some r := by rw [← hbq57] at H; exact H
                     have Nbq57 := Aside0.mk hbq57
                     clear hbq57
                     by_cases c58 : bq57 = true
                     ·subst c58
                      have H1 : (if 0 ≤ (wrap64 ((rd t872 x15_4) - 1)) then (if (wrap64 ((rd t872 x15_4) - 1)) < (t861.length : Int) then (sapperlaw12_SaisPieces.j6 kj48 t856 t861 t872 x14_4 x15_4 (rd t872 x15_4) (rdOf false t861 (wrap64 ((rd t872 x15_4) - 1)))) else (none)) else (none)) = some r := by rw [if_pos rfl] at H; exact H
                      clear H
                      have H := H1
                      clear H1
                      obtain ⟨ji59, hji59⟩ : ∃ j_ : Int, (wrap64 ((rd t872 x15_4) - 1)) = j_ := ⟨_, rfl⟩
                      replace H : (if 0 ≤ (ji59) then (if (ji59) < (t861.length : Int) then (sapperlaw12_SaisPieces.j6 kj48 t856 t861 t872 x14_4 x15_4 (rd t872 x15_4) (rdOf false t861 (ji59))) else (none)) else (none)) = some r := by first | (rw [hji59] at H; exact H) | (simp only [hji59] at H ⊢; exact H)
                      have hji59w : (IntKind.i64.wrap ((rd t872 x15_4) - 1)) = ji59 := (i64_w _).trans hji59
                      by_cases c60 : 0 ≤ (ji59)
                      ·rw [if_pos c60] at H
                       have c60b0 : decide (0 ≤ (ji59)) = true := decide_eq_true c60
                       clear c60
                       by_cases c61 : (ji59) < (t861.length : Int)
                       ·rw [if_pos c61] at H
                        have c61b0 : decide ((ji59) < (t861.length : Int)) = true := decide_eq_true c61
                        clear c61
                        have H' := Aside0.mk H
                        clear H
                        have p877 : 0 ≤ ((rd t872 x15_4) : Int) := of_decide_eq_true (by first | (with_reducible assumption) | assumption)
                        have q877 : (rd t872 x15_4) < (t861.length : Int) := of_decide_eq_true (by first | (with_reducible assumption) | assumption)
                        obtain ⟨ad877, e877, hx877_0⟩ := Kd.at_bool (Kd.R_reads' HO_7.out).2.2 (rd t872 x15_4) p877 q877
                        (try rw [← Nbq57.out] at hx877_0)
                        cases e877
                        replace p877 := eq_true p877
                        replace q877 := eq_true q877
                        have p878 : 0 ≤ ((ji59) : Int) := of_decide_eq_true (by first | (with_reducible assumption) | assumption)
                        have q878 : (ji59) < (t861.length : Int) := of_decide_eq_true (by first | (with_reducible assumption) | assumption)
                        obtain ⟨ad878, e878, hx878_0⟩ := Kd.at_bool (Kd.R_reads' HO_7.out).2.2 (ji59) p878 q878
                        (try rw [← Nbq57.out] at hx878_0)
                        obtain rfl : ad877 = ad878 := (by injection e878)
                        replace p878 := eq_true p878
                        replace q878 := eq_true q878
                        go_wp2
                        go_meet
                        case rel => exact ⟨_, (rdOf false t861 (ji59)), (by first | rfl | (simp; done) | (simp only [← hji59] <;> (first | rfl | simp)) | (simp [*]; done)), H', ⟨by have := HJ3.out; have := HJ15.out; have := HJ40.out; have := HK4.out; have := HJ48.out; first | omega | exact Nat.le_refl _⟩, ⟨by (with_reducible repeat (first | apply Kd.R_alloc | apply Kd.R_drewN | apply Kd.R_drew)); exact HO_6.out⟩, ⟨by (with_reducible repeat (first | apply Kd.R_alloc | apply Kd.R_drewN | apply Kd.R_drew)); exact HO_7.out⟩, ⟨by (with_reducible repeat (first | apply Kd.R_alloc | apply Kd.R_drewN | apply Kd.R_drew)); exact HO_12.out⟩, ⟨by repeat (first | (with_reducible first | exact HB.out | apply below_alloc | apply pw_below_drewN | apply below_drew1) | exact HB.out)⟩⟩
                       ·rw [if_neg c61] at H
                        exact absurd H (by simp)
                      ·rw [if_neg c60] at H
                       exact absurd H (by simp)
                     ·replace c58 := Bool.eq_false_iff.mpr c58
                      subst c58
                      have H1 : (sapperlaw12_SaisPieces.j6 kj48 t856 t861 t872 x14_4 x15_4 (rd t872 x15_4) true) = some r := by rw [if_neg (show ¬ (false = true) by decide)] at H; exact H
                      clear H
                      have H := H1
                      clear H1
                      have H' := Aside0.mk H
                      clear H
                      have p877 : 0 ≤ ((rd t872 x15_4) : Int) := of_decide_eq_true (by first | (with_reducible assumption) | assumption)
                      have q877 : (rd t872 x15_4) < (t861.length : Int) := of_decide_eq_true (by first | (with_reducible assumption) | assumption)
                      obtain ⟨ad877, e877, hx877_0⟩ := Kd.at_bool (Kd.R_reads' HO_7.out).2.2 (rd t872 x15_4) p877 q877
                      (try rw [← Nbq57.out] at hx877_0)
                      cases e877
                      replace p877 := eq_true p877
                      replace q877 := eq_true q877
                      go_wp2
                      go_meet
                      case rel => exact ⟨_, (true), (by first | rfl | (simp; done) | (simp [*]; done)), H', ⟨by have := HJ3.out; have := HJ15.out; have := HJ40.out; have := HK4.out; have := HJ48.out; first | omega | exact Nat.le_refl _⟩, ⟨by (with_reducible repeat (first | apply Kd.R_alloc | apply Kd.R_drewN | apply Kd.R_drew)); exact HO_6.out⟩, ⟨by (with_reducible repeat (first | apply Kd.R_alloc | apply Kd.R_drewN | apply Kd.R_drew)); exact HO_7.out⟩, ⟨by (with_reducible repeat (first | apply Kd.R_alloc | apply Kd.R_drewN | apply Kd.R_drew)); exact HO_12.out⟩, ⟨by repeat (first | (with_reducible first | exact HB.out | apply below_alloc | apply pw_below_drewN | apply below_drew1) | exact HB.out)⟩⟩
                    ·rw [if_neg c56] at H
                     exact absurd H (by simp)
                   ·rw [if_neg c55] at H
                    exact absurd H (by simp)
                 case rest =>
                  clear HC53
                  try clear c1
                  try clear c2
                  try clear p2
                  try clear c3
                  try clear p3
                  try clear q3
                  try clear hx3
                  try clear hf3
                  try clear c4
                  try clear c5
                  try clear q5
                  try clear c6
                  try clear p6
                  try clear c7
                  try clear p8
                  try clear q8
                  try clear hx8
                  try clear c10
                  try clear c11
                  try clear c15
                  try clear c15b0
                  try clear c15b1
                  try clear c15b2
                  try clear c20
                  try clear c21
                  try clear c21b0
                  try clear c22
                  try clear c22b0
                  try clear c22b1
                  try clear c23
                  try clear c23b0
                  try clear c23b1
                  try clear c23b2
                  try clear c24
                  try clear c24b0
                  try clear c25
                  try clear c25b0
                  try clear c25b1
                  try clear c27
                  try clear c27b0
                  try clear c28
                  try clear c28b0
                  try clear c29
                  try clear c30
                  try clear c30b0
                  try clear c31
                  try clear c31b0
                  try clear p32
                  try clear q32
                  try clear hx32
                  try clear hf32
                  try clear p33
                  try clear q33
                  try clear hx33
                  try clear hf33
                  try clear c44
                  try clear c44b0
                  try clear c44b1
                  try clear c46
                  try clear c47
                  try clear c47b0
                  try clear c48
                  try clear c48b0
                  try clear c51
                  try clear c51b0
                  try clear c52
                  try clear c54
                  try clear c54b0
                  try clear c54b1
                  try clear c55
                  try clear c55b0
                  try clear c56
                  try clear c56b0
                  try clear q57
                  try clear c58
                  try clear c60
                  try clear c60b0
                  try clear c61
                  try clear c61b0
                  try clear hx32_0
                  try clear hx33_0
                  try clear hx867_0
                  try clear hx868_0
                  try clear hx869_0
                  try clear hx876_0
                  try clear hx877_0
                  try clear hx878_0
                  try clear p2
                  try clear p3
                  try clear p32
                  try clear p33
                  try clear p6
                  try clear p8
                  try clear p867
                  try clear p868
                  try clear p869
                  try clear p876
                  try clear p877
                  try clear p878
                  try clear q3
                  try clear q32
                  try clear q33
                  try clear q8
                  try clear q867
                  try clear q868
                  try clear q869
                  try clear q876
                  try clear q877
                  try clear q878
                  obtain ⟨kq, x128_52, rfl, HA, HJ52, HO_6, HO_7, HO_12, HB⟩ := hcut
                  cases kq with
                  | zero => exact absurd HA.out (by simp [sapperlaw12_SaisPieces.j6])
                  | succ kj52 =>
                   have H := HA.out
                   clear HA
                   simp only [sapperlaw12_SaisPieces.j6] at H
                   by_cases c62 : x128_52 = true
                   ·subst c62
                    have H1 : (sapperlaw12_SaisPieces.l1 kj52 t856 t861 t872 x14_4 (wrap64 (x15_4 + 1))) = some r := by rw [if_pos rfl] at H; exact H
                    clear H
                    have H := H1
                    clear H1
                    have H' := Aside0.mk H
                    clear H
                    go_wp2
                    go_roundg kj52
                    case measure => have := HJ3.out; have := HJ15.out; have := HJ40.out; have := HK4.out; have := HJ48.out; have := HJ52.out; omega
                    case rel => exact ⟨(x14_4), (wrap64 (x15_4 + 1)), (by first | rfl | (simp; done) | (simp [*]; done)), (by first | rfl | (simp; done) | (simp [*]; done)), H', ⟨by have := HJ3.out; have := HJ15.out; have := HJ40.out; have := HK4.out; have := HJ48.out; have := HJ52.out; omega⟩, ⟨by (with_reducible repeat (first | apply Kd.R_alloc | apply Kd.R_drewN | apply Kd.R_drew)); exact HO_6.out⟩, ⟨by (with_reducible repeat (first | apply Kd.R_alloc | apply Kd.R_drewN | apply Kd.R_drew)); exact HO_7.out⟩, ⟨by (with_reducible repeat (first | apply Kd.R_alloc | apply Kd.R_drewN | apply Kd.R_drew)); exact HO_12.out⟩, ⟨by repeat (first | (with_reducible first | exact HB.out | apply below_alloc | apply pw_below_drewN | apply below_drew1) | exact HB.out)⟩⟩
                   ·replace c62 := Bool.eq_false_iff.mpr c62
                    subst c62
                    have H1 : (if x14_4 ≥ 0 then ((sapperlaw12_pieceLess.f kj52 t856 t861 (rd t872 x15_4) x14_4).bind fun bt879 => (if bt879.1 = true then (some false) else (sapperlaw12_SaisPieces.l1 kj52 t856 t861 t872 (rd t872 x15_4) (wrap64 (x15_4 + 1))))) else (sapperlaw12_SaisPieces.l1 kj52 t856 t861 t872 (rd t872 x15_4) (wrap64 (x15_4 + 1)))) = some r := by rw [if_neg (show ¬ (false = true) by decide)] at H; exact H
                    clear H
                    have H := H1
                    clear H1
                    by_cases c63 : x14_4 ≥ 0
                    ·rw [if_pos c63] at H
                     have c63b0 : decide (0 ≤ x14_4) = true := decide_eq_true c63
                     clear c63
                     replace H := Option.bind_eq_some_iff.mp H
                     obtain ⟨⟨t879, t880⟩, A640, H⟩ := H
                     replace H : (if t879 = true then (some false) else (sapperlaw12_SaisPieces.l1 kj52 t856 t861 t872 (rd t872 x15_4) (wrap64 (x15_4 + 1)))) = some r := H
                     have A64 := Aside0.mk A640
                     clear A640
                     by_cases c65 : t879 = true
                     ·subst c65
                      have H1 : (some false) = some r := by rw [if_pos rfl] at H; exact H
                      clear H
                      have H := H1
                      clear H1
                      obtain rfl := Option.some.inj H
                      go_wp2_with (first | ((with_reducible refine gate_callee (f := 30) rfl ?_); refine goesL_ (some 136) rfl rfl Try.func30 (by kernel_rfl) rfl #[.slice Ao17 t856.length co17, .slice Ao20 t861.length co20, .int .i64 (rd t872 x15_4), .int .i64 x14_4] rfl (by (try simp only [List.map_toArray, List.map_cons, List.map_nil]); first | done | rfl | (simp only [List.length_drop, List.length_take]; rfl)) ?_; (with_reducible refine (sapperlaw12_pieceLess.calls kj52 _ _ t856 _ _ t861 (rd t872 x15_4) x14_4 true t880 _ ?side1 ?side2 ?side3 ?side4 A64.out).mono ?_); (case side1 => repeat (first | exact (Kd.R_reads' HO_6.out).2.2 | (with_reducible refine Kd.C_alloc ?_ _) | (with_reducible refine Kd.C_drewN ?_ _) | (with_reducible refine Kd.C_drew ?_))); (case side2 => exact (Kd.R_reads' HO_6.out).2.1); (case side3 => repeat (first | exact (Kd.R_reads' HO_7.out).2.2 | (with_reducible refine Kd.C_alloc ?_ _) | (with_reducible refine Kd.C_drewN ?_ _) | (with_reducible refine Kd.C_drew ?_))); (case side4 => exact (Kd.R_reads' HO_7.out).2.1); rintro e w' ⟨rfl, ⟨nd, rfl⟩⟩; refine ⟨_, rfl, ?_⟩))
                      go_ret
                      exact ⟨by first | rfl | (simp [errW_none, errW_some] <;> rfl) | (simp [*, errW_none, errW_some] <;> rfl), by repeat (first | (with_reducible first | exact HB.out | apply below_alloc | apply pw_below_drewN | apply below_drew1) | exact HB.out)⟩
                     ·replace c65 := Bool.eq_false_iff.mpr c65
                      subst c65
                      have H1 : (sapperlaw12_SaisPieces.l1 kj52 t856 t861 t872 (rd t872 x15_4) (wrap64 (x15_4 + 1))) = some r := by rw [if_neg (show ¬ (false = true) by decide)] at H; exact H
                      clear H
                      have H := H1
                      clear H1
                      have H' := Aside0.mk H
                      clear H
                      go_wp2_with (first | ((with_reducible refine gate_callee (f := 30) rfl ?_); refine goesL_ (some 136) rfl rfl Try.func30 (by kernel_rfl) rfl #[.slice Ao17 t856.length co17, .slice Ao20 t861.length co20, .int .i64 (rd t872 x15_4), .int .i64 x14_4] rfl (by (try simp only [List.map_toArray, List.map_cons, List.map_nil]); first | done | rfl | (simp only [List.length_drop, List.length_take]; rfl)) ?_; (with_reducible refine (sapperlaw12_pieceLess.calls kj52 _ _ t856 _ _ t861 (rd t872 x15_4) x14_4 false t880 _ ?side1 ?side2 ?side3 ?side4 A64.out).mono ?_); (case side1 => repeat (first | exact (Kd.R_reads' HO_6.out).2.2 | (with_reducible refine Kd.C_alloc ?_ _) | (with_reducible refine Kd.C_drewN ?_ _) | (with_reducible refine Kd.C_drew ?_))); (case side2 => exact (Kd.R_reads' HO_6.out).2.1); (case side3 => repeat (first | exact (Kd.R_reads' HO_7.out).2.2 | (with_reducible refine Kd.C_alloc ?_ _) | (with_reducible refine Kd.C_drewN ?_ _) | (with_reducible refine Kd.C_drew ?_))); (case side4 => exact (Kd.R_reads' HO_7.out).2.1); rintro e w' ⟨rfl, ⟨nd, rfl⟩⟩; refine ⟨_, rfl, ?_⟩))
                      go_roundg kj52
                      case measure => have := HJ3.out; have := HJ15.out; have := HJ40.out; have := HK4.out; have := HJ48.out; have := HJ52.out; omega
                      case rel => exact ⟨((rd t872 x15_4)), (wrap64 (x15_4 + 1)), (by first | rfl | (simp; done) | (simp [*]; done)), (by first | rfl | (simp; done) | (simp [*]; done)), H', ⟨by have := HJ3.out; have := HJ15.out; have := HJ40.out; have := HK4.out; have := HJ48.out; have := HJ52.out; omega⟩, ⟨by (with_reducible repeat (first | apply Kd.R_alloc | apply Kd.R_drewN | apply Kd.R_drew)); exact HO_6.out⟩, ⟨by (with_reducible repeat (first | apply Kd.R_alloc | apply Kd.R_drewN | apply Kd.R_drew)); exact HO_7.out⟩, ⟨by (with_reducible repeat (first | apply Kd.R_alloc | apply Kd.R_drewN | apply Kd.R_drew)); exact HO_12.out⟩, ⟨by repeat (first | (with_reducible first | exact HB.out | apply below_alloc | apply pw_below_drewN | apply below_drew1) | exact HB.out)⟩⟩
                    ·rw [if_neg c63] at H
                     have c63b0 : decide (0 ≤ x14_4) = false := decide_eq_false c63
                     clear c63
                     have H' := Aside0.mk H
                     clear H
                     go_wp2
                     go_roundg kj52
                     case measure => have := HJ3.out; have := HJ15.out; have := HJ40.out; have := HK4.out; have := HJ48.out; have := HJ52.out; omega
                     case rel => exact ⟨((rd t872 x15_4)), (wrap64 (x15_4 + 1)), (by first | rfl | (simp; done) | (simp [*]; done)), (by first | rfl | (simp; done) | (simp [*]; done)), H', ⟨by have := HJ3.out; have := HJ15.out; have := HJ40.out; have := HK4.out; have := HJ48.out; have := HJ52.out; omega⟩, ⟨by (with_reducible repeat (first | apply Kd.R_alloc | apply Kd.R_drewN | apply Kd.R_drew)); exact HO_6.out⟩, ⟨by (with_reducible repeat (first | apply Kd.R_alloc | apply Kd.R_drewN | apply Kd.R_drew)); exact HO_7.out⟩, ⟨by (with_reducible repeat (first | apply Kd.R_alloc | apply Kd.R_drewN | apply Kd.R_drew)); exact HO_12.out⟩, ⟨by repeat (first | (with_reducible first | exact HB.out | apply below_alloc | apply pw_below_drewN | apply below_drew1) | exact HB.out)⟩⟩
             ·rw [if_neg c48] at H
              exact absurd H (by simp)
            ·rw [if_neg c47] at H
             have c47b0 : decide (x15_4 < (t872.length : Int)) = false := decide_eq_false c47
             clear c47
             obtain rfl := Option.some.inj H
             obtain ⟨Ao66, co66, eo66⟩ := Kd.R_slice HO_12.out
             subst eo66
             go_wp2
             go_ret
             exact ⟨by first | rfl | (simp [errW_none, errW_some] <;> rfl) | (simp [*, errW_none, errW_some] <;> rfl), by repeat (first | (with_reducible first | exact HB.out | apply below_alloc | apply pw_below_drewN | apply below_drew1) | exact HB.out)⟩
    ·rw [if_neg c15] at H
     have c15b0 : ((t861.length : Int) == (t856.length : Int)) = false := beq_eq_false_iff_ne.mpr c15
     have c15b1 : ((t861.length : Int) != (t856.length : Int)) = true := bne_iff_ne.mpr c15
     have c15b2 : (t861.length == t856.length) = false := by first | simpa using c15 | (simp at c15 ⊢; omega)
     obtain rfl := Option.some.inj H
     obtain ⟨Ao67, co67, eo67⟩ := Kd.R_slice HO_6.out
     subst eo67
     go_wp2_with (first | ((with_reducible refine gate_callee (f := 20) rfl ?_); refine goesL_ (some 33) rfl rfl Try.func20 (by kernel_rfl) rfl #[.slice Ao67 t856.length co67] rfl (by (try simp only [List.map_toArray, List.map_cons, List.map_nil]); first | done | rfl | (simp only [List.length_drop, List.length_take]; rfl)) ?_; (with_reducible refine (sais_Types.calls kj3 _ _ t856 t861 _ ?side1 ?side2 A13.out).mono ?_); (case side1 => repeat (first | exact (Kd.R_reads' HO_6.out).2.2 | (with_reducible refine Kd.C_alloc ?_ _) | (with_reducible refine Kd.C_drewN ?_ _) | (with_reducible refine Kd.C_drew ?_))); (case side2 => exact (Kd.R_reads' HO_6.out).2.1); rintro e w68 ⟨v862, rfl, ho0, hb⟩; refine ⟨_, rfl, ?_⟩; have n0_ := Aside0.mk (Kd.R_below (by (with_reducible repeat (first | apply Kd.R_alloc | apply Kd.R_drewN | apply Kd.R_drew)); exact HO_6.out) hb); have n1_ := Aside0.mk (Kd.R_lower ho0 (below_size (by repeat (first | (with_reducible first | exact HB.out | apply below_alloc | apply pw_below_drewN | apply below_drew1) | exact HB.out)))); have n2_ := Aside0.mk (below_step (by repeat (first | (with_reducible first | exact HB.out | apply below_alloc | apply pw_below_drewN | apply below_drew1) | exact HB.out)) hb); clear HO_6; clear HB; have HO_6 := n0_; have HO863 := n1_; have HB := n2_; clear n0_ n1_ n2_; (try clear hb); (try clear hb2); (try clear hk); (try clear hi); (try clear ho0)) | ((with_reducible refine gate_callee (f := 22) rfl ?_); refine goesL_ (some 35) rfl rfl Try.func22 (by kernel_rfl) rfl #[.slice Ao67 t856.length co67] rfl (by (try simp only [List.map_toArray, List.map_cons, List.map_nil]); first | done | rfl | (simp only [List.length_drop, List.length_take]; rfl)) ?_; (with_reducible refine (sais_Lms.calls kj3 _ _ t856 t864 _ ?side1 ?side2 A14.out).mono ?_); (case side1 => repeat (first | exact (Kd.R_reads' HO_6.out).2.2 | (with_reducible refine Kd.C_alloc ?_ _) | (with_reducible refine Kd.C_drewN ?_ _) | (with_reducible refine Kd.C_drew ?_))); (case side2 => exact (Kd.R_reads' HO_6.out).2.1); rintro e w69 ⟨v865, rfl, ho0, hb⟩; refine ⟨_, rfl, ?_⟩; have n0_ := Aside0.mk (Kd.R_elder' (by (with_reducible repeat (first | apply Kd.R_alloc | apply Kd.R_drewN | apply Kd.R_drew)); exact HO_6.out) (Kd.R_base ho0) hb); have n1_ := Aside0.mk (Kd.R_below (by (with_reducible repeat (first | apply Kd.R_alloc | apply Kd.R_drewN | apply Kd.R_drew)); exact HO863.out) hb); have n2_ := Aside0.mk (Kd.R_lower (Kd.R_new' ho0 (Kd.R_lt (by (with_reducible repeat (first | apply Kd.R_alloc | apply Kd.R_drewN | apply Kd.R_drew)); exact HO_6.out))) (below_size (by repeat (first | (with_reducible first | exact HB.out | apply below_alloc | apply pw_below_drewN | apply below_drew1) | exact HB.out)))); have n3_ := Aside0.mk (below_step (by repeat (first | (with_reducible first | exact HB.out | apply below_alloc | apply pw_below_drewN | apply below_drew1) | exact HB.out)) hb); clear HO_6; clear HO863; clear HB; have HO_6 := n0_; have HO863 := n1_; have HO866 := n2_; have HB := n3_; clear n0_ n1_ n2_ n3_; (try clear hb); (try clear hb2); (try clear hk); (try clear hi); (try clear ho0); obtain ⟨Ao70, co70, eo70⟩ := Kd.R_slice HO863.out; subst eo70))
     go_ret
     exact ⟨by first | rfl | (simp [errW_none, errW_some] <;> rfl) | (simp [*, errW_none, errW_some] <;> rfl), by repeat (first | (with_reducible first | exact HB.out | apply below_alloc | apply pw_below_drewN | apply below_drew1) | exact HB.out)⟩

/-- THE ONE PURE STATEMENT of sapperlaw12_SaisPieces: yours. -/
def sapperlaw12_SaisPieces.Pure : Prop := ∀ (l0 : List Int) (l1 : List Int), l0.length ≤ maxLen → l0.length * 1 ≤ 140737488351232 → (∀ x ∈ l0, (Lit.int .u8 x).wf = true) → l1.length ≤ maxLen → l1.length * 8 ≤ 140737488351232 → (∀ x ∈ l1, (Lit.int .u64 x).wf = true) → ∃ k, sapperlaw12_SaisPieces.f k l0 l1 = some true
theorem sapperlaw12_SaisPieces.walk (P : sapperlaw12_SaisPieces.Pure) (a0 : Option Addr) (len0 cap0 : Nat) (z0 : List Int) (a1 : Option Addr) (len1 cap1 : Nat) (z1 : List Int) (w : World) (w0 : (a0 = none ∧ len0 = 0 ∧ cap0 = 0 ∧ z0 = []) ∨ ∃ x, a0 = some x ∧ len0 ≤ cap0 ∧ cap0 ≤ maxLen ∧ z0.length = cap0 ∧ (∀ i, i < z0.length → w.cell? (x.add i) = some (.int .u8 (z0.getD i 0))) ∧ ∀ n ∈ z0, (Lit.int .u8 n).wf = true) (y0 : len0 * 1 ≤ 140737488351232) (w1 : (a1 = none ∧ len1 = 0 ∧ cap1 = 0 ∧ z1 = []) ∨ ∃ x, a1 = some x ∧ len1 ≤ cap1 ∧ cap1 ≤ maxLen ∧ z1.length = cap1 ∧ (∀ i, i < z1.length → w.cell? (x.add i) = some (.int .u64 (z1.getD i 0))) ∧ ∀ n ∈ z1, (Lit.int .u64 n).wf = true) (y1 : len1 * 8 ≤ 140737488351232) :
  Calls Try.prog 11 #[.slice a0 len0 cap0, .slice a1 len1 cap1] w fun e w' => e = .returned (.bool true) ∧ Below w.heap.size w w' := by
 obtain ⟨l0, rfl, hr0, hm0, hw0, hc0⟩ := ReadsInt.ofRowC w0
 obtain ⟨l1, rfl, hr1, hm1, hw1, hc1⟩ := ReadsInt.ofRowC w1
 obtain ⟨k, h⟩ := P l0 l1 hm0 y0 hw0 hm1 y1 hw1
 refine (sapperlaw12_SaisPieces.calls k _ _ l0 _ _ l1 true w (Kd.C_of_reads (d := (0 : Int)) (h1 := fun _ => rfl) hr0) hc0 (Kd.C_of_reads (d := (0 : Int)) (h1 := fun _ => rfl) hr1) hc1 h).mono ?_
 rintro e w' ⟨rfl, hd⟩
 exact ⟨rfl, hd⟩

end Go.Proofs.Ytgnhangjacdfbaa.X
