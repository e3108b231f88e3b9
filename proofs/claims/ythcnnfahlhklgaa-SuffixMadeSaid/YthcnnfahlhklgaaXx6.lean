-- Printed by wip/xprint.py of this repo (a wrapper of the session's own round the print).
import Derived.Test.YthcnnfahlhklgaaXx0
import Derived.Test.YthcnnfahlhklgaaXx5
namespace Go.Proofs.Ythcnnfahlhklgaa.X
open Go.RowKit Go.Proofs.YthcnnfahlhklgaaW.PrintWords Go.Proofs.YthcnnfahlhklgaaW.PrintLast Go.Proofs.YthcnnfahlhklgaaW.PrintMore
attribute [local go_sem] ptrOf_eql ptrOf_neq ptrOf_eqg ptrOf_neg str_leq str_geq str_gtr max2_int min2_int max_two min_two max_three min_three max_four min_four   -- for this text's walks alone
set_option linter.unusedVariables false
set_option linter.unusedSimpArgs false

/-! ### sais_induce: function 84 -/
mutual
def sais_induce.l0 : Nat → Int → List Int → List Bool → List Int → Int → List Int → Int → Int → Option (List Int)
 | 0, _, _, _, _, _, _, _, _ => none
 | k + 1, x0, x1, x2, x3, x9, x26, x28, x29 => if x29 < x28 then (if 0 ≤ x29 then (if x29 < (x26.length : Int) then (sais_induce.l0 k x0 x1 x2 x3 x9 (x26.set (x29 : Int).toNat (-1)) x28 (wrap64 (x29 + 1))) else (none)) else (none)) else (if x9 = 0 then (some x26) else ((sais_buckets.f k x0 x1).bind fun bt138 => (if 0 ≤ x0 then (if (x0 : Int).toNat ≤ 35184372088832 then ((copy_i64.f (List.replicate (x0 : Int).toNat 0) bt138.2).bind fun bt147 => (sais_induce.l1 k x1 x2 x3 x9 (wrap64 ((x3.length : Int) - 1)) x26 bt138.1 bt138.2 bt147.2)) else (none)) else (none))))
def sais_induce.l1 : Nat → List Int → List Bool → List Int → Int → Int → List Int → List Int → List Int → List Int → Option (List Int)
 | 0, _, _, _, _, _, _, _, _, _ => none
 | k + 1, x1, x2, x3, x9, x15, x26, x43, x44, x46 => if x15 ≥ 0 then (if 0 ≤ x15 then (if x15 < (x3.length : Int) then (if 0 ≤ (rd x3 x15) then (if (rd x3 x15) < (x1.length : Int) then (if 0 ≤ (rd x1 (rd x3 x15)) then (if (rd x1 (rd x3 x15)) < (x46.length : Int) then ((some (x46.set ((rd x1 (rd x3 x15)) : Int).toNat (wrap64 ((rd x46 (rd x1 (rd x3 x15))) - 1)) : List Int)).bind fun y152 => (if 0 ≤ (rd y152 (rd x1 (rd x3 x15))) then (if (rd y152 (rd x1 (rd x3 x15))) < (x26.length : Int) then (sais_induce.l1 k x1 x2 x3 x9 (wrap64 (x15 - 1)) (x26.set ((rd y152 (rd x1 (rd x3 x15))) : Int).toNat (rd x3 x15)) x43 x44 y152) else (none)) else (none))) else (none)) else (none)) else (none)) else (none)) else (none)) else (none)) else ((copy_i64.f x46 x43).bind fun bt156 => (if 0 ≤ (wrap64 (x9 - 1)) then (if (wrap64 (x9 - 1)) < (x1.length : Int) then (if 0 ≤ (rd x1 (wrap64 (x9 - 1))) then (if (rd x1 (wrap64 (x9 - 1))) < (x46.length : Int) then (if 0 ≤ (rd bt156.2 (rd x1 (wrap64 (x9 - 1)))) then (if (rd bt156.2 (rd x1 (wrap64 (x9 - 1)))) < (x26.length : Int) then (sais_induce.l2 k x1 x2 x9 (x26.set ((rd bt156.2 (rd x1 (wrap64 (x9 - 1)))) : Int).toNat (wrap64 (x9 - 1))) x44 (bt156.2.set ((rd x1 (wrap64 (x9 - 1))) : Int).toNat (wrap64 ((rd bt156.2 (rd x1 (wrap64 (x9 - 1)))) + 1))) x9 0) else (none)) else (none)) else (none)) else (none)) else (none)) else (none)))
def sais_induce.l2 : Nat → List Int → List Bool → Int → List Int → List Int → List Int → Int → Int → Option (List Int)
 | 0, _, _, _, _, _, _, _, _ => none
 | k + 1, x1, x2, x9, x26, x44, x46, x105, x106 => if x106 < x105 then (if 0 ≤ x106 then (if x106 < (x26.length : Int) then (if (rd x26 x106) ≤ 0 then (sais_induce.l2 k x1 x2 x9 x26 x44 x46 x105 (wrap64 (x106 + 1))) else (if 0 ≤ (wrap64 ((rd x26 x106) - 1)) then (if (wrap64 ((rd x26 x106) - 1)) < (x2.length : Int) then (if rdOf false x2 (wrap64 ((rd x26 x106) - 1)) = true then (sais_induce.l2 k x1 x2 x9 x26 x44 x46 x105 (wrap64 (x106 + 1))) else (if (wrap64 ((rd x26 x106) - 1)) < (x1.length : Int) then (if 0 ≤ (rd x1 (wrap64 ((rd x26 x106) - 1))) then (if (rd x1 (wrap64 ((rd x26 x106) - 1))) < (x46.length : Int) then (if 0 ≤ (rd x46 (rd x1 (wrap64 ((rd x26 x106) - 1)))) then (if (rd x46 (rd x1 (wrap64 ((rd x26 x106) - 1)))) < (x26.length : Int) then (sais_induce.l2 k x1 x2 x9 (x26.set ((rd x46 (rd x1 (wrap64 ((rd x26 x106) - 1)))) : Int).toNat (wrap64 ((rd x26 x106) - 1))) x44 (x46.set ((rd x1 (wrap64 ((rd x26 x106) - 1))) : Int).toNat (wrap64 ((rd x46 (rd x1 (wrap64 ((rd x26 x106) - 1)))) + 1))) x105 (wrap64 (x106 + 1))) else (none)) else (none)) else (none)) else (none)) else (none))) else (none)) else (none))) else (none)) else (none)) else (sais_induce.l3 k x1 x2 x9 x26 x44 x46 (x26.length : Int) 0)
def sais_induce.l3 : Nat → List Int → List Bool → Int → List Int → List Int → List Int → Int → Int → Option (List Int)
 | 0, _, _, _, _, _, _, _, _ => none
 | k + 1, x1, x2, x9, x26, x44, x46, x146, x147 => if x147 < x146 then (if 0 ≤ x147 then (if x147 < (x26.length : Int) then (if (rd x26 x147) = (-1) then (sais_induce.l3 k x1 x2 x9 x26 x44 x46 x146 (wrap64 (x147 + 1))) else (if 0 ≤ (rd x26 x147) then (if (rd x26 x147) < (x2.length : Int) then (if rdOf false x2 (rd x26 x147) = true then (sais_induce.l3 k x1 x2 x9 (x26.set (x147 : Int).toNat (-1)) x44 x46 x146 (wrap64 (x147 + 1))) else (sais_induce.l3 k x1 x2 x9 x26 x44 x46 x146 (wrap64 (x147 + 1)))) else (none)) else (none))) else (none)) else (none)) else ((copy_i64.f x46 x44).bind fun bt175 => (sais_induce.l4 k x1 x2 (wrap64 (x9 - 1)) x26 bt175.2))
def sais_induce.l4 : Nat → List Int → List Bool → Int → List Int → List Int → Option (List Int)
 | 0, _, _, _, _, _ => none
 | k + 1, x1, x2, x21, x26, x46 => if x21 ≥ 0 then (if 0 ≤ x21 then (if x21 < (x26.length : Int) then (if (rd x26 x21) ≤ 0 then (sais_induce.l4 k x1 x2 (wrap64 (x21 - 1)) x26 x46) else (if 0 ≤ (wrap64 ((rd x26 x21) - 1)) then (if (wrap64 ((rd x26 x21) - 1)) < (x2.length : Int) then (if (rdOf false x2 (wrap64 ((rd x26 x21) - 1)) = true) then (if (wrap64 ((rd x26 x21) - 1)) < (x1.length : Int) then (if 0 ≤ (rd x1 (wrap64 ((rd x26 x21) - 1))) then (if (rd x1 (wrap64 ((rd x26 x21) - 1))) < (x46.length : Int) then ((some (x46.set ((rd x1 (wrap64 ((rd x26 x21) - 1))) : Int).toNat (wrap64 ((rd x46 (rd x1 (wrap64 ((rd x26 x21) - 1)))) - 1)) : List Int)).bind fun y181 => (if 0 ≤ (rd y181 (rd x1 (wrap64 ((rd x26 x21) - 1)))) then (if (rd y181 (rd x1 (wrap64 ((rd x26 x21) - 1)))) < (x26.length : Int) then (sais_induce.l4 k x1 x2 (wrap64 (x21 - 1)) (x26.set ((rd y181 (rd x1 (wrap64 ((rd x26 x21) - 1)))) : Int).toNat (wrap64 ((rd x26 x21) - 1))) y181) else (none)) else (none))) else (none)) else (none)) else (none)) else (sais_induce.l4 k x1 x2 (wrap64 (x21 - 1)) x26 x46)) else (none)) else (none))) else (none)) else (none)) else (some x26)
end
def sais_induce.f (k : Nat) (a0 : Int) (l1 : List Int) (l2 : List Bool) (l3 : List Int) : Option (List Int) := if 0 ≤ (l1.length : Int) then (if ((l1.length : Int) : Int).toNat ≤ 35184372088832 then ((some (List.replicate ((l1.length : Int) : Int).toNat 0 : List Int)).bind fun y134 => (sais_induce.l0 k a0 l1 l2 l3 (l1.length : Int) y134 (y134.length : Int) 0)) else (none)) else (none)
theorem sais_induce.mono_l : ∀ k, (∀ y0 y1 y2 y3 y4 y5 y6 y7, LeO (sais_induce.l0 k y0 y1 y2 y3 y4 y5 y6 y7) (sais_induce.l0 (k + 1) y0 y1 y2 y3 y4 y5 y6 y7)) ∧ (∀ y0 y1 y2 y3 y4 y5 y6 y7 y8, LeO (sais_induce.l1 k y0 y1 y2 y3 y4 y5 y6 y7 y8) (sais_induce.l1 (k + 1) y0 y1 y2 y3 y4 y5 y6 y7 y8)) ∧ (∀ y0 y1 y2 y3 y4 y5 y6 y7, LeO (sais_induce.l2 k y0 y1 y2 y3 y4 y5 y6 y7) (sais_induce.l2 (k + 1) y0 y1 y2 y3 y4 y5 y6 y7)) ∧ (∀ y0 y1 y2 y3 y4 y5 y6 y7, LeO (sais_induce.l3 k y0 y1 y2 y3 y4 y5 y6 y7) (sais_induce.l3 (k + 1) y0 y1 y2 y3 y4 y5 y6 y7)) ∧ (∀ y0 y1 y2 y3 y4, LeO (sais_induce.l4 k y0 y1 y2 y3 y4) (sais_induce.l4 (k + 1) y0 y1 y2 y3 y4))
 | 0 => ⟨fun _ _ _ _ _ _ _ _ r h => by simp [sais_induce.l0] at h, fun _ _ _ _ _ _ _ _ _ r h => by simp [sais_induce.l1] at h, fun _ _ _ _ _ _ _ _ r h => by simp [sais_induce.l2] at h, fun _ _ _ _ _ _ _ _ r h => by simp [sais_induce.l3] at h, fun _ _ _ _ _ r h => by simp [sais_induce.l4] at h⟩
 | k + 1 => by
  obtain ⟨ih0, ih1, ih2, ih3, ih4⟩ := sais_induce.mono_l k
  refine ⟨?_, ?_, ?_, ?_, ?_⟩
  ·intro y0 y1 y2 y3 y4 y5 y6 y7
   unfold sais_induce.l0
   repeat' first
   | (with_reducible exact ih0 _ _ _ _ _ _ _ _)
   | (with_reducible exact ih1 _ _ _ _ _ _ _ _ _)
   | (with_reducible exact ih2 _ _ _ _ _ _ _ _)
   | (with_reducible exact ih3 _ _ _ _ _ _ _ _)
   | (with_reducible exact ih4 _ _ _ _ _)
   | (with_reducible exact sais_buckets.mono _ _ _)
   | (with_reducible exact LeO.refl _)
   | (with_reducible exact LeO.none _)
   | (with_reducible refine LeO.ite ?_ ?_)
   | (with_reducible refine LeO.bind ?_ (fun _ => ?_))
   | exact ih0 _ _ _ _ _ _ _ _
   | exact ih1 _ _ _ _ _ _ _ _ _
   | exact ih2 _ _ _ _ _ _ _ _
   | exact ih3 _ _ _ _ _ _ _ _
   | exact ih4 _ _ _ _ _
   | exact sais_buckets.mono _ _ _
   | exact LeO.none _
   | refine LeO.ite ?_ ?_
   | refine LeO.bind ?_ (fun _ => ?_)
  ·intro y0 y1 y2 y3 y4 y5 y6 y7 y8
   unfold sais_induce.l1
   repeat' first
   | (with_reducible exact ih0 _ _ _ _ _ _ _ _)
   | (with_reducible exact ih1 _ _ _ _ _ _ _ _ _)
   | (with_reducible exact ih2 _ _ _ _ _ _ _ _)
   | (with_reducible exact ih3 _ _ _ _ _ _ _ _)
   | (with_reducible exact ih4 _ _ _ _ _)
   | (with_reducible exact sais_buckets.mono _ _ _)
   | (with_reducible exact LeO.refl _)
   | (with_reducible exact LeO.none _)
   | (with_reducible refine LeO.ite ?_ ?_)
   | (with_reducible refine LeO.bind ?_ (fun _ => ?_))
   | exact ih0 _ _ _ _ _ _ _ _
   | exact ih1 _ _ _ _ _ _ _ _ _
   | exact ih2 _ _ _ _ _ _ _ _
   | exact ih3 _ _ _ _ _ _ _ _
   | exact ih4 _ _ _ _ _
   | exact sais_buckets.mono _ _ _
   | exact LeO.none _
   | refine LeO.ite ?_ ?_
   | refine LeO.bind ?_ (fun _ => ?_)
  ·intro y0 y1 y2 y3 y4 y5 y6 y7
   unfold sais_induce.l2
   repeat' first
   | (with_reducible exact ih0 _ _ _ _ _ _ _ _)
   | (with_reducible exact ih1 _ _ _ _ _ _ _ _ _)
   | (with_reducible exact ih2 _ _ _ _ _ _ _ _)
   | (with_reducible exact ih3 _ _ _ _ _ _ _ _)
   | (with_reducible exact ih4 _ _ _ _ _)
   | (with_reducible exact sais_buckets.mono _ _ _)
   | (with_reducible exact LeO.refl _)
   | (with_reducible exact LeO.none _)
   | (with_reducible refine LeO.ite ?_ ?_)
   | (with_reducible refine LeO.bind ?_ (fun _ => ?_))
   | exact ih0 _ _ _ _ _ _ _ _
   | exact ih1 _ _ _ _ _ _ _ _ _
   | exact ih2 _ _ _ _ _ _ _ _
   | exact ih3 _ _ _ _ _ _ _ _
   | exact ih4 _ _ _ _ _
   | exact sais_buckets.mono _ _ _
   | exact LeO.none _
   | refine LeO.ite ?_ ?_
   | refine LeO.bind ?_ (fun _ => ?_)
  ·intro y0 y1 y2 y3 y4 y5 y6 y7
   unfold sais_induce.l3
   repeat' first
   | (with_reducible exact ih0 _ _ _ _ _ _ _ _)
   | (with_reducible exact ih1 _ _ _ _ _ _ _ _ _)
   | (with_reducible exact ih2 _ _ _ _ _ _ _ _)
   | (with_reducible exact ih3 _ _ _ _ _ _ _ _)
   | (with_reducible exact ih4 _ _ _ _ _)
   | (with_reducible exact sais_buckets.mono _ _ _)
   | (with_reducible exact LeO.refl _)
   | (with_reducible exact LeO.none _)
   | (with_reducible refine LeO.ite ?_ ?_)
   | (with_reducible refine LeO.bind ?_ (fun _ => ?_))
   | exact ih0 _ _ _ _ _ _ _ _
   | exact ih1 _ _ _ _ _ _ _ _ _
   | exact ih2 _ _ _ _ _ _ _ _
   | exact ih3 _ _ _ _ _ _ _ _
   | exact ih4 _ _ _ _ _
   | exact sais_buckets.mono _ _ _
   | exact LeO.none _
   | refine LeO.ite ?_ ?_
   | refine LeO.bind ?_ (fun _ => ?_)
  ·intro y0 y1 y2 y3 y4
   unfold sais_induce.l4
   repeat' first
   | (with_reducible exact ih0 _ _ _ _ _ _ _ _)
   | (with_reducible exact ih1 _ _ _ _ _ _ _ _ _)
   | (with_reducible exact ih2 _ _ _ _ _ _ _ _)
   | (with_reducible exact ih3 _ _ _ _ _ _ _ _)
   | (with_reducible exact ih4 _ _ _ _ _)
   | (with_reducible exact sais_buckets.mono _ _ _)
   | (with_reducible exact LeO.refl _)
   | (with_reducible exact LeO.none _)
   | (with_reducible refine LeO.ite ?_ ?_)
   | (with_reducible refine LeO.bind ?_ (fun _ => ?_))
   | exact ih0 _ _ _ _ _ _ _ _
   | exact ih1 _ _ _ _ _ _ _ _ _
   | exact ih2 _ _ _ _ _ _ _ _
   | exact ih3 _ _ _ _ _ _ _ _
   | exact ih4 _ _ _ _ _
   | exact sais_buckets.mono _ _ _
   | exact LeO.none _
   | refine LeO.ite ?_ ?_
   | refine LeO.bind ?_ (fun _ => ?_)
theorem sais_induce.mono : ∀ a0 a1 a2 a3 k, LeO (sais_induce.f k a0 a1 a2 a3) (sais_induce.f (k + 1) a0 a1 a2 a3) := by
 intro a0 a1 a2 a3 k
 obtain ⟨ih0, ih1, ih2, ih3, ih4⟩ := sais_induce.mono_l k
 unfold sais_induce.f
 repeat' first
   | (with_reducible exact ih0 _ _ _ _ _ _ _ _)
   | (with_reducible exact ih1 _ _ _ _ _ _ _ _ _)
   | (with_reducible exact ih2 _ _ _ _ _ _ _ _)
   | (with_reducible exact ih3 _ _ _ _ _ _ _ _)
   | (with_reducible exact ih4 _ _ _ _ _)
   | (with_reducible exact sais_buckets.mono _ _ _)
   | (with_reducible exact LeO.refl _)
   | (with_reducible exact LeO.none _)
   | (with_reducible refine LeO.ite ?_ ?_)
   | (with_reducible refine LeO.bind ?_ (fun _ => ?_))
   | exact ih0 _ _ _ _ _ _ _ _
   | exact ih1 _ _ _ _ _ _ _ _ _
   | exact ih2 _ _ _ _ _ _ _ _
   | exact ih3 _ _ _ _ _ _ _ _
   | exact ih4 _ _ _ _ _
   | exact sais_buckets.mono _ _ _
   | exact LeO.none _
   | refine LeO.ite ?_ ?_
   | refine LeO.bind ?_ (fun _ => ?_)
def sais_induce.T18 : Bool × List (List Nat × List Nat) := (true, [([], []), ([], []), ([], []), ([1, 2], [1, 2]), ([3], [3]), ([], []), ([], []), ([5, 6], [5, 6]), ([7], [7]), ([0, 4, 0, 1, 2, 3, 4, 5, 6, 7, 8], [0, 4]), ([9, 8, 0, 1, 2, 3, 4, 5, 6, 7, 8], [8, 9])])
def sais_induce.B18 : List Nat := [0, 0, 0, 6, 14, 0, 0, 96, 224, 511, 1023]
theorem sais_induce.tab18 : rtab .any (opsOf Try.f84 18) = sais_induce.T18 := by kernel_rfl
theorem sais_induce.bits18 : waitsOk sais_induce.T18.2 sais_induce.B18 = true := by kernel_rfl
set_option maxHeartbeats 8000000 in
set_option maxRecDepth 100000 in
theorem sais_induce.calls (k : Nat) (a0 : Int) (A1 : Option Addr) (c1 : Nat) (l1 : List Int) (A2 : Option Addr) (c2 : Nat) (l2 : List Bool) (A3 : Option Addr) (c3 : Nat) (l3 : List Int) (r : List Int) (w : World) (hr1 : Kd.C (Kd.int .i64) w A1 l1.length l1) (hc1 : l1.length ≤ c1) (hr2 : Kd.C Kd.bool w A2 l2.length l2) (hc2 : l2.length ≤ c2) (hr3 : Kd.C (Kd.int .i64) w A3 l3.length l3) (hc3 : l3.length ≤ c3) (h : sais_induce.f k a0 l1 l2 l3 = some r) :
  Calls Try.prog 84 #[.int .i64 a0, .slice A1 l1.length c1, .slice A2 l2.length c2, .slice A3 l3.length c3] w fun e w' => ∃ v0_ : Value, e = .returned (v0_) ∧ Kd.R (Kd.int .i64) 3 w' w.heap.size (fun _ => True) v0_ r ∧ Below w.heap.size w w' := by
 have HR1 := Aside0.mk hr1
 have HC1 := Aside0.mk hc1
 clear hr1 hc1
 have HR2 := Aside0.mk hr2
 have HC2 := Aside0.mk hc2
 clear hr2 hc2
 have HR3 := Aside0.mk hr3
 have HC3 := Aside0.mk hc3
 clear hr3 hc3
 have HB := Aside0.mk (Below.refl w.heap.size w)
 have H : (if 0 ≤ (l1.length : Int) then (if ((l1.length : Int) : Int).toNat ≤ 35184372088832 then ((some (List.replicate ((l1.length : Int) : Int).toNat 0 : List Int)).bind fun y134 => (sais_induce.l0 k a0 l1 l2 l3 (l1.length : Int) y134 (y134.length : Int) 0)) else (none)) else (none)) = some r := h
 clear h
 by_cases c5 : 0 ≤ (l1.length : Int)
 ·rw [if_pos c5] at H
  have c5b0 := eq_true c5
  have c5b1 : decide (0 ≤ (l1.length : Int)) = true := decide_eq_true c5
  clear c5
  by_cases c6 : ((l1.length : Int) : Int).toNat ≤ 35184372088832
  ·rw [if_pos c6] at H
   have c6b0 := eq_true c6
   have c6b1 : decide (((l1.length : Int) : Int).toNat ≤ 35184372088832) = true := decide_eq_true c6
   clear c6
   obtain ⟨y134, hy134⟩ : ∃ y_ : List Int, y_ = (List.replicate ((l1.length : Int) : Int).toNat 0) := ⟨_, rfl⟩
   replace H : (sais_induce.l0 k a0 l1 l2 l3 (l1.length : Int) y134 (y134.length : Int) 0) = some r := by first | (rw [hy134]; with_reducible exact H) | (have H2_ := (Option.bind_some _ _).symm.trans H; rw [hy134]; with_reducible exact H2_) | (have H2_ := (Option.bind_some _ _).symm.trans H; with_reducible exact H2_) | with_reducible exact H | (rw [hy134]; exact H) | exact H
   have Ny134 := Aside0.mk hy134
   clear hy134
   have H' := Aside0.mk H
   clear H
   go_enter Try.func84, Try.ntmps84
   go_wp2_with (first | ((with_reducible refine gate_dst (N := 26) rfl ?_); refine Kd.R_make (Kd.int .i64) _ 3 rfl (N := 26) rfl 34 _ _ rfl (l1.length : Int) rfl rfl Try.underlying34 (.int .i64 0) 8 info3 rfl (by decide) (by omega) 0 (ok := fun _ => True) (okp := fun _ => True) rfl (fun _ hk => hk) trivial (of_decide_eq_true (by first | (with_reducible assumption) | assumption)) (Nat.le_trans (Nat.mul_le_mul_right _ (of_decide_eq_true (by first | (with_reducible assumption) | assumption) : (l1.length : Int).toNat ≤ 35184372088832)) (by omega)) (Below.refl _ _) (Nat.le_refl _) ?_; intro v135 w7 ho8 hb hg_ hnew_; clear hg_ hnew_; (first | rw [← Ny134.out] at ho8 | (simp only [Int.reduceToNat] at ho8; rw [← Ny134.out] at ho8)); have n0_ := Aside0.mk (Kd.R_lower ho8 (below_size (by repeat (first | (with_reducible first | exact HB.out | apply below_alloc | apply pw_below_drewN | apply below_drew1) | exact HB.out)))); have n1_ := Aside0.mk (below_step (by repeat (first | (with_reducible first | exact HB.out | apply below_alloc | apply pw_below_drewN | apply below_drew1) | exact HB.out)) hb); clear HB; have HO136 := n0_; have HB := n1_; clear n0_ n1_; clear hb ho8; obtain ⟨Ao9, co9, eo9⟩ := Kd.R_slice HO136.out; subst eo9))
   go_loopg [29] k (fun kq v29 w' => ∃ (x26_1 : List Int) (x29_1 : Int), v29 = .int .i64 x29_1 ∧ Aside0 (sais_induce.l0 kq a0 l1 l2 l3 (l1.length : Int) x26_1 (y134.length : Int) x29_1 = some r) ∧ Aside0 (kq ≤ k) ∧ Aside0 (Kd.R (Kd.int .i64) 3 w' w.heap.size (fun _ => True) (.slice Ao9 y134.length co9) x26_1) ∧ Aside0 (Below w.heap.size w w'))
   case atStart => exact ⟨(y134), (0), (by first | rfl | (simp; done) | (simp [*]; done)), H', ⟨Nat.le_refl _⟩, ⟨by (with_reducible repeat (first | apply Kd.R_alloc | apply Kd.R_drewN | apply Kd.R_drew)); exact HO136.out⟩, ⟨by repeat (first | (with_reducible first | exact HB.out | apply below_alloc | apply pw_below_drewN | apply below_drew1) | exact HB.out)⟩⟩
   case round =>
    clear H'
    try clear c1
    try clear c2
    try clear p2
    try clear c3
    try clear c5
    try clear c5b0
    try clear c5b1
    try clear c6
    try clear c6b0
    try clear c6b1
    try clear c8
    obtain ⟨x26_1, x29_1, rfl, HA, HK1, HO_26, HB⟩ := hrel
    have hl26_1 := (Kd.R_reads' HO_26.out).1
    rw [hl26_1] at HO_26
    (try simp only [hl26_1])
    cases gk with
    | zero => exact absurd HA.out (by simp [sais_induce.l0])
    | succ k1 =>
     have H := HA.out
     clear HA
     simp only [sais_induce.l0] at H
     by_cases c10 : x29_1 < (y134.length : Int)
     ·rw [if_pos c10] at H
      have c10b0 : decide (x29_1 < (y134.length : Int)) = true := decide_eq_true c10
      (try (have c10z0 := c10b0; simp only [hl26_1] at c10z0))
      clear c10
      by_cases c11 : 0 ≤ x29_1
      ·rw [if_pos c11] at H
       have c11b0 : decide (0 ≤ x29_1) = true := decide_eq_true c11
       clear c11
       by_cases c12 : x29_1 < (x26_1.length : Int)
       ·rw [if_pos c12] at H
        have c12b0 : decide (x29_1 < (x26_1.length : Int)) = true := decide_eq_true c12
        (try (have c12z0 := c12b0; simp only [hl26_1] at c12z0))
        clear c12
        obtain ⟨y137, hy137⟩ : ∃ y_ : List Int, y_ = (x26_1.set (x29_1 : Int).toNat (-1)) := ⟨_, rfl⟩
        replace H : (sais_induce.l0 k1 a0 l1 l2 l3 (l1.length : Int) y137 (y134.length : Int) (wrap64 (x29_1 + 1))) = some r := by first | (rw [hy137]; with_reducible exact H) | (have H2_ := (Option.bind_some _ _).symm.trans H; rw [hy137]; with_reducible exact H2_) | (have H2_ := (Option.bind_some _ _).symm.trans H; with_reducible exact H2_) | with_reducible exact H | (rw [hy137]; exact H) | exact H
        have Ny137 := Aside0.mk hy137
        clear hy137
        have H' := Aside0.mk H
        clear H
        have p13 : 0 ≤ (x29_1 : Int) := of_decide_eq_true (by first | (with_reducible assumption) | assumption)
        have q13 : (x29_1 : Int) < ((x26_1.length : Int) : Int) := of_decide_eq_true (by first | (with_reducible assumption) | assumption)
        obtain ⟨go13, co13, eo13, gb13, gl13, cl13, HG13⟩ := Kd.R_form HO_26.out (by first | omega | (have e_ := (Kd.R_reads' HO_26.out).1; omega))
        (first | cases eo13 | (injection eo13 with ea_ en_ ec_; (first | subst ea_ | (injection ea_ with ea_; subst ea_)); subst ec_; clear en_))
        have GB13 := Aside0.mk gb13
        have GG13 := Aside0.mk HG13
        clear gb13 gl13 HG13
        obtain ⟨hx13_0, hf13_0⟩ := Kd.R_celln 0 HO_26.out (x29_1 : Int) p13 q13
        replace p13 := eq_true p13
        replace q13 := eq_true q13
        have HP14 := Kd.R_putg HO_26.out (x29_1 : Int) (-1)
        go_wp2_with (first | ((with_reducible refine gate_store (t := 3) (p := 34) rfl ?_); refine store_event (t := 3) (p := 34) (v := ?vo_w15) (w1 := (wr.setCell ⟨go13, (x29_1 : Int).toNat, none⟩ (.int .i64 (-1)))) ?hg ?ho ?hn ?hr ?_; (case ho => rfl); (case hg => rfl); (case hn => rfl); (case hr => first | (go_simp; done) | (go_simp; rfl)); intro w15 hw; have hg : wr.grownBy w15 (some go13) := (by rw [hw]; exact HP14.2); have hp_ : Kd.R (Kd.int .i64) 3 w15 w.heap.size (fun _ => True) (.slice (some ⟨go13, 0, none⟩) x26_1.length co9) y137 := (by rw [hw, Ny137.out]; exact HP14.1); clear HP14; have n0_ := Aside0.mk (hp_); have n1_ := Aside0.mk ((by rw [hw]; exact below_set (HB.out) GB13.out : Below w.heap.size w w15)); clear HO_26; clear HB; have HO_26 := n0_; have HB := n1_; clear n0_ n1_; clear hg hw hp_))
        (try simp only [← hl26_1])
        go_roundg k1
        case measure => have := HK1.out; omega
        case rel => exact ⟨(y137), (wrap64 (x29_1 + 1)), (by first | rfl | (simp; done) | (simp [*]; done)), H', ⟨by have := HK1.out; omega⟩, ⟨by (try simp only [hl26_1]); (with_reducible repeat (first | apply Kd.R_alloc | apply Kd.R_drewN | apply Kd.R_drew)); exact HO_26.out⟩, ⟨by repeat (first | (with_reducible first | exact HB.out | apply below_alloc | apply pw_below_drewN | apply below_drew1) | exact HB.out)⟩⟩
       ·rw [if_neg c12] at H
        exact absurd H (by simp)
      ·rw [if_neg c11] at H
       exact absurd H (by simp)
     ·rw [if_neg c10] at H
      have c10b0 : decide (x29_1 < (y134.length : Int)) = false := decide_eq_false c10
      (try (have c10z0 := c10b0; simp only [hl26_1] at c10z0))
      clear c10
      by_cases c16 : (l1.length : Int) = 0
      ·rw [if_pos c16] at H
       have c16b0 : ((l1.length : Int) == 0) = true := beq_iff_eq.mpr c16
       have c16b1 : ((l1.length : Int) != 0) = false := bne_eq_false_iff_eq.mpr c16
       clear c16
       obtain rfl := Option.some.inj H
       go_wp2
       go_ret
       exact ⟨_, by first | rfl | (simp [errW_none, errW_some] <;> rfl) | (simp [*, errW_none, errW_some] <;> rfl), by (with_reducible repeat (first | apply Kd.R_alloc | apply Kd.R_drewN | apply Kd.R_drew)); exact HO_26.out, by repeat (first | (with_reducible first | exact HB.out | apply below_alloc | apply pw_below_drewN | apply below_drew1) | exact HB.out)⟩
      ·rw [if_neg c16] at H
       have c16b0 : ((l1.length : Int) == 0) = false := beq_eq_false_iff_ne.mpr c16
       have c16b1 : ((l1.length : Int) != 0) = true := bne_iff_ne.mpr c16
       have c16b2 : ¬ (l1 = []) := fun h_ => c16 (by rw [h_]; rfl)
       replace H := Option.bind_eq_some_iff.mp H
       obtain ⟨⟨t138, t139⟩, A170, H⟩ := H
       replace H : (if 0 ≤ a0 then (if (a0 : Int).toNat ≤ 35184372088832 then ((copy_i64.f (List.replicate (a0 : Int).toNat 0) t139).bind fun bt147 => (sais_induce.l1 k1 l1 l2 l3 (l1.length : Int) (wrap64 ((l3.length : Int) - 1)) x26_1 t138 t139 bt147.2)) else (none)) else (none)) = some r := H
       have A17 := Aside0.mk A170
       clear A170
       by_cases c18 : 0 ≤ a0
       ·rw [if_pos c18] at H
        have c18b0 := eq_true c18
        have c18b1 : decide (0 ≤ a0) = true := decide_eq_true c18
        clear c18
        by_cases c19 : (a0 : Int).toNat ≤ 35184372088832
        ·rw [if_pos c19] at H
         have c19b0 := eq_true c19
         have c19b1 : decide ((a0 : Int).toNat ≤ 35184372088832) = true := decide_eq_true c19
         clear c19
         obtain ⟨y144, hy144⟩ : ∃ y_ : List Int, y_ = (List.replicate (a0 : Int).toNat 0) := ⟨_, rfl⟩
         replace H : ((copy_i64.f y144 t139).bind fun bt147 => (sais_induce.l1 k1 l1 l2 l3 (l1.length : Int) (wrap64 ((l3.length : Int) - 1)) x26_1 t138 t139 bt147.2)) = some r := by first | (rw [hy144]; with_reducible exact H) | (have H2_ := (Option.bind_some _ _).symm.trans H; rw [hy144]; with_reducible exact H2_) | (have H2_ := (Option.bind_some _ _).symm.trans H; with_reducible exact H2_) | with_reducible exact H | (rw [hy144]; exact H) | exact H
         have Ny144 := Aside0.mk hy144
         clear hy144
         replace H := Option.bind_eq_some_iff.mp H
         obtain ⟨⟨t147, t148⟩, A200, H⟩ := H
         replace H : (sais_induce.l1 k1 l1 l2 l3 (l1.length : Int) (wrap64 ((l3.length : Int) - 1)) x26_1 t138 t139 t148) = some r := H
         have A20 := Aside0.mk A200
         clear A200
         have H' := Aside0.mk H
         clear H
         go_wp2_with (first | ((with_reducible refine gate_callee (f := 92) rfl ?_); refine goesL_ (some 42) rfl rfl Try.func92 (by kernel_rfl) rfl #[.int .i64 a0, .slice A1 l1.length c1] rfl (by (try simp only [List.map_toArray, List.map_cons, List.map_nil]); first | done | rfl | (simp only [List.length_drop, List.length_take]; rfl)) ?_; (with_reducible refine (sais_buckets.calls k1 a0 _ _ l1 t138 t139 _ ?side1 ?side2 A17.out).mono ?_); (case side1 => repeat (first | exact (Kd.C_below HR1.out HB.out) | (with_reducible refine Kd.C_alloc ?_ _) | (with_reducible refine Kd.C_drewN ?_ _) | (with_reducible refine Kd.C_drew ?_))); (case side2 => exact HC1.out); rintro e w21 ⟨v140, v142, rfl, ho0, ho1, hb⟩; refine ⟨_, rfl, ?_⟩; have n0_ := Aside0.mk (Kd.R_mono (Kd.R_told (Kd.R_told (Kd.R_old (by (with_reducible repeat (first | apply Kd.R_alloc | apply Kd.R_drewN | apply Kd.R_drew)); exact HO_26.out) hb) (Kd.R_base ho0)) (Kd.R_base ho1)) (fun _ h_ => h_.1)); have n1_ := Aside0.mk (Kd.R_lower (Kd.R_new' ho0 (Kd.R_lt (by (with_reducible repeat (first | apply Kd.R_alloc | apply Kd.R_drewN | apply Kd.R_drew)); exact HO_26.out))) (below_size (by repeat (first | (with_reducible first | exact HB.out | apply below_alloc | apply pw_below_drewN | apply below_drew1) | exact HB.out)))); have n2_ := Aside0.mk (Kd.R_lower (Kd.R_new' ho1 (Kd.R_lt (by (with_reducible repeat (first | apply Kd.R_alloc | apply Kd.R_drewN | apply Kd.R_drew)); exact HO_26.out))) (below_size (by repeat (first | (with_reducible first | exact HB.out | apply below_alloc | apply pw_below_drewN | apply below_drew1) | exact HB.out)))); have n3_ := Aside0.mk (below_step (by repeat (first | (with_reducible first | exact HB.out | apply below_alloc | apply pw_below_drewN | apply below_drew1) | exact HB.out)) hb); clear HO_26; clear HB; have HO_26 := n0_; have HO141 := n1_; have HO143 := n2_; have HB := n3_; clear n0_ n1_ n2_ n3_; (try clear hb); (try clear hb2); (try clear hk); (try clear hi); (try clear ho0); (try clear ho1)) | ((with_reducible refine gate_dst (N := 46) rfl ?_); refine Kd.R_make (Kd.int .i64) _ 3 rfl (N := 46) rfl 34 _ _ rfl a0 rfl rfl Try.underlying34 (.int .i64 0) 8 info3 rfl (by decide) (by omega) 0 (ok := fun _ => True) (okp := fun _ => True) rfl (fun _ hk => hk) trivial (of_decide_eq_true (by first | (with_reducible assumption) | assumption)) (Nat.le_trans (Nat.mul_le_mul_right _ (of_decide_eq_true (by first | (with_reducible assumption) | assumption) : a0.toNat ≤ 35184372088832)) (by omega)) (Below.refl _ _) (Nat.le_refl _) ?_; intro v145 w22 ho23 hb hg_ hnew_; clear hg_ hnew_; (first | rw [← Ny144.out] at ho23 | (simp only [Int.reduceToNat] at ho23; rw [← Ny144.out] at ho23)); have n0_ := Aside0.mk (Kd.R_elder' (by (with_reducible repeat (first | apply Kd.R_alloc | apply Kd.R_drewN | apply Kd.R_drew)); exact HO_26.out) (Kd.R_base ho23) hb); have n1_ := Aside0.mk (Kd.R_elder' (by (with_reducible repeat (first | apply Kd.R_alloc | apply Kd.R_drewN | apply Kd.R_drew)); exact HO141.out) (Kd.R_base ho23) hb); have n2_ := Aside0.mk (Kd.R_elder' (by (with_reducible repeat (first | apply Kd.R_alloc | apply Kd.R_drewN | apply Kd.R_drew)); exact HO143.out) (Kd.R_base ho23) hb); have n3_ := Aside0.mk (Kd.R_lower (Kd.R_new' (Kd.R_new' (Kd.R_new' ho23 (Kd.R_lt (by (with_reducible repeat (first | apply Kd.R_alloc | apply Kd.R_drewN | apply Kd.R_drew)); exact HO_26.out))) (Kd.R_lt (by (with_reducible repeat (first | apply Kd.R_alloc | apply Kd.R_drewN | apply Kd.R_drew)); exact HO141.out))) (Kd.R_lt (by (with_reducible repeat (first | apply Kd.R_alloc | apply Kd.R_drewN | apply Kd.R_drew)); exact HO143.out))) (below_size (by repeat (first | (with_reducible first | exact HB.out | apply below_alloc | apply pw_below_drewN | apply below_drew1) | exact HB.out)))); have n4_ := Aside0.mk (below_step (by repeat (first | (with_reducible first | exact HB.out | apply below_alloc | apply pw_below_drewN | apply below_drew1) | exact HB.out)) hb); clear HO_26; clear HO141; clear HO143; clear HB; have HO_26 := n0_; have HO141 := n1_; have HO143 := n2_; have HO146 := n3_; have HB := n4_; clear n0_ n1_ n2_ n3_ n4_; clear hb ho23; obtain ⟨Ao24, co24, eo24⟩ := Kd.R_slice HO146.out; subst eo24; obtain ⟨Ao25, co25, eo25⟩ := Kd.R_slice HO143.out; subst eo25) | ((with_reducible refine gate_builtin (b := .copy) rfl ?_); refine goesCopy (some 49) rfl rfl rfl #[.slice Ao24 y144.length co24, .slice Ao25 t139.length co25] (by (try simp only [List.map_toArray, List.map_cons, List.map_nil]); first | done | rfl | (simp only [List.length_drop, List.length_take]; rfl)) ?_; (with_reducible refine (copy_i64.calls (fun k_ => some k_ = (.slice Ao24 y144.length co24 : Value).ownBlock) (.slice Ao24 y144.length co24) y144 _ _ t139 t147 t148 w _ ?side1 ?side2 ?side3 ?side4 A20.out).mono ?_); (case side1 => repeat (first | (with_reducible first | exact HB.out | apply below_alloc | apply pw_below_drewN | apply below_drew1) | exact HB.out)); (case side2 => exact Kd.R_tight rfl HO146.out); (case side3 => exact Kd.C_kept_own (HO143.out) (fun k_ hk_ hs_ => (hk_.2) hs_)); (case side4 => exact (Kd.R_reads' HO143.out).2.1); rintro e w26 ⟨rfl, hy0, hb, hkp⟩; refine ⟨_, rfl, ?_⟩; have n0_ := Aside0.mk (Kd.R_mono (ok' := fun k_ => some k_ ≠ (v140 : Value).ownBlock ∧ some k_ ≠ (.slice Ao25 t139.length co25 : Value).ownBlock ∧ some k_ ≠ (.slice Ao24 y144.length co24 : Value).ownBlock) (Kd.R_keptB (HO_26.out) hkp (fun k_ hk_ hs_ => (hk_.2) hs_)) (fun k_ hk_ => ⟨hk_.1.1.1.2, hk_.1.1.2, hk_.1.2⟩)); have n1_ := Aside0.mk (Kd.R_mono (ok' := fun k_ => some k_ ≠ (.slice Ao9 x26_1.length co9 : Value).ownBlock ∧ some k_ ≠ (.slice Ao25 t139.length co25 : Value).ownBlock ∧ some k_ ≠ (.slice Ao24 y144.length co24 : Value).ownBlock) (Kd.R_keptB (HO141.out) hkp (fun k_ hk_ hs_ => (hk_.2) hs_)) (fun k_ hk_ => ⟨hk_.1.1.2, hk_.1.1.1, hk_.1.2⟩)); have n2_ := Aside0.mk (Kd.R_mono (ok' := fun k_ => some k_ ≠ (.slice Ao9 x26_1.length co9 : Value).ownBlock ∧ some k_ ≠ (v140 : Value).ownBlock ∧ some k_ ≠ (.slice Ao24 y144.length co24 : Value).ownBlock) (Kd.R_keptB (HO143.out) hkp (fun k_ hk_ hs_ => (hk_.2) hs_)) (fun k_ hk_ => ⟨hk_.1.1.2, hk_.1.1.1, hk_.1.2⟩)); have n3_ := Aside0.mk (Kd.R_reok rfl hy0 (fun k_ e_ => HO146.out.1 k_ e_)); have n4_ := Aside0.mk (hb); clear HO_26; clear HO141; clear HO143; clear HO146; clear HB; have HO_26 := n0_; have HO141 := n1_; have HO143 := n2_; have HO146 := n3_; have HB := n4_; clear n0_ n1_ n2_ n3_ n4_; (try clear hb); (try clear hkp); (try clear hy0)))
         go_loopg [15] k1 (fun kq v15 w' => ∃ (x15_2 : Int) (x26_2 : List Int) (x46_2 : List Int), v15 = .int .i64 x15_2 ∧ Aside0 (sais_induce.l1 kq l1 l2 l3 (l1.length : Int) x15_2 x26_2 t138 t139 x46_2 = some r) ∧ Aside0 (kq ≤ k1) ∧ Aside0 (Kd.R (Kd.int .i64) 3 w' w.heap.size (fun k_ => some k_ ≠ (v140 : Value).ownBlock ∧ some k_ ≠ ((.slice Ao25 t139.length co25) : Value).ownBlock ∧ some k_ ≠ ((.slice Ao24 y144.length co24) : Value).ownBlock) (.slice Ao9 x26_1.length co9) x26_2) ∧ Aside0 (Kd.R (Kd.int .i64) 3 w' w.heap.size (fun k_ => some k_ ≠ ((.slice Ao9 x26_1.length co9) : Value).ownBlock ∧ some k_ ≠ ((.slice Ao25 t139.length co25) : Value).ownBlock ∧ some k_ ≠ ((.slice Ao24 y144.length co24) : Value).ownBlock) v140 t138) ∧ Aside0 (Kd.R (Kd.int .i64) 3 w' w.heap.size (fun k_ => some k_ ≠ ((.slice Ao9 x26_1.length co9) : Value).ownBlock ∧ some k_ ≠ (v140 : Value).ownBlock ∧ some k_ ≠ ((.slice Ao24 y144.length co24) : Value).ownBlock) (.slice Ao25 t139.length co25) t139) ∧ Aside0 (Kd.R (Kd.int .i64) 3 w' w.heap.size (fun k_ => some k_ ≠ ((.slice Ao9 x26_1.length co9) : Value).ownBlock ∧ some k_ ≠ (v140 : Value).ownBlock ∧ some k_ ≠ ((.slice Ao25 t139.length co25) : Value).ownBlock) (.slice Ao24 y144.length co24) x46_2) ∧ Aside0 (Below w.heap.size w w'))
         case atStart => exact ⟨(wrap64 ((l3.length : Int) - 1)), (x26_1), (t148), (by first | rfl | (simp; done) | (simp [*]; done)), H', ⟨Nat.le_refl _⟩, ⟨by (try simp only [hl26_1]); (with_reducible repeat (first | apply Kd.R_alloc | apply Kd.R_drewN | apply Kd.R_drew)); exact HO_26.out⟩, ⟨by (try simp only [hl26_1]); (with_reducible repeat (first | apply Kd.R_alloc | apply Kd.R_drewN | apply Kd.R_drew)); exact HO141.out⟩, ⟨by (try simp only [hl26_1]); (with_reducible repeat (first | apply Kd.R_alloc | apply Kd.R_drewN | apply Kd.R_drew)); exact HO143.out⟩, ⟨by (try simp only [hl26_1]); (with_reducible repeat (first | apply Kd.R_alloc | apply Kd.R_drewN | apply Kd.R_drew)); exact Kd.R_mono HO146.out (fun _ hk => ⟨hk.1.1.2, ⟨hk.1.2, hk.2⟩⟩)⟩, ⟨by repeat (first | (with_reducible first | exact HB.out | apply below_alloc | apply pw_below_drewN | apply below_drew1) | exact HB.out)⟩⟩
         case round =>
          clear H'
          try clear c1
          try clear p1
          try clear q1
          try clear hx1
          try clear c2
          try clear p2
          try clear c3
          try clear c5
          try clear c5b0
          try clear c5b1
          try clear c6
          try clear c6b0
          try clear c6b1
          try clear p6
          try clear c8
          try clear c9
          try clear c10
          try clear c10b0
          try clear c11
          try clear c11b0
          try clear c12
          try clear c12b0
          try clear p13
          try clear q13
          try clear hx13
          try clear hf13
          try clear c16
          try clear c16b0
          try clear c16b1
          try clear c16b2
          try clear c18
          try clear c18b0
          try clear c18b1
          try clear c19
          try clear c19b0
          try clear c19b1
          try clear hx13_0
          try clear p13
          try clear p2
          try clear q13
          obtain ⟨x15_2, x26_2, x46_2, rfl, HA, HK2, HO_26, HO_43, HO_44, HO_46, HB⟩ := hrel
          have hl26_2 := (Kd.R_reads' HO_26.out).1
          rw [hl26_2] at HO_26
          (try simp only [hl26_2])
          (try simp only [hl26_2] at HO_43)
          (try simp only [hl26_2] at HO_44)
          (try simp only [hl26_2] at HO_46)
          have hl46_2 := (Kd.R_reads' HO_46.out).1
          rw [hl46_2] at HO_46
          (try simp only [hl46_2])
          (try simp only [hl46_2] at HO_26)
          (try simp only [hl46_2] at HO_43)
          (try simp only [hl46_2] at HO_44)
          cases gk with
          | zero => exact absurd HA.out (by simp [sais_induce.l1])
          | succ k2 =>
           have H := HA.out
           clear HA
           simp only [sais_induce.l1] at H
           by_cases c27 : x15_2 ≥ 0
           ·rw [if_pos c27] at H
            have c27b0 : decide (0 ≤ x15_2) = true := decide_eq_true c27
            clear c27
            by_cases c28 : 0 ≤ x15_2
            ·rw [if_pos c28] at H
             have c28b0 : decide (0 ≤ x15_2) = true := decide_eq_true c28
             clear c28
             by_cases c29 : x15_2 < (l3.length : Int)
             ·rw [if_pos c29] at H
              have c29b0 : decide (x15_2 < (l3.length : Int)) = true := decide_eq_true c29
              (try (have c29z0 := c29b0; simp only [hl26_1] at c29z0))
              (try (have c29z1 := c29b0; simp only [hl26_2] at c29z1))
              (try (have c29z2 := c29b0; simp only [hl46_2] at c29z2))
              clear c29
              by_cases c30 : 0 ≤ (rd l3 x15_2)
              ·rw [if_pos c30] at H
               have c30b0 : decide (0 ≤ (rd l3 x15_2)) = true := decide_eq_true c30
               clear c30
               by_cases c31 : (rd l3 x15_2) < (l1.length : Int)
               ·rw [if_pos c31] at H
                have c31b0 : decide ((rd l3 x15_2) < (l1.length : Int)) = true := decide_eq_true c31
                (try (have c31z0 := c31b0; simp only [hl26_1] at c31z0))
                (try (have c31z1 := c31b0; simp only [hl26_2] at c31z1))
                (try (have c31z2 := c31b0; simp only [hl46_2] at c31z2))
                clear c31
                by_cases c32 : 0 ≤ (rd l1 (rd l3 x15_2))
                ·rw [if_pos c32] at H
                 have c32b0 : decide (0 ≤ (rd l1 (rd l3 x15_2))) = true := decide_eq_true c32
                 clear c32
                 by_cases c33 : (rd l1 (rd l3 x15_2)) < (x46_2.length : Int)
                 ·rw [if_pos c33] at H
                  have c33b0 : decide ((rd l1 (rd l3 x15_2)) < (x46_2.length : Int)) = true := decide_eq_true c33
                  (try (have c33z0 := c33b0; simp only [hl26_1] at c33z0))
                  (try (have c33z1 := c33b0; simp only [hl26_2] at c33z1))
                  (try (have c33z2 := c33b0; simp only [hl46_2] at c33z2))
                  clear c33
                  obtain ⟨y152, hy152⟩ : ∃ y_ : List Int, y_ = (x46_2.set ((rd l1 (rd l3 x15_2)) : Int).toNat (wrap64 ((rd x46_2 (rd l1 (rd l3 x15_2))) - 1))) := ⟨_, rfl⟩
                  replace H : (if 0 ≤ (rd y152 (rd l1 (rd l3 x15_2))) then (if (rd y152 (rd l1 (rd l3 x15_2))) < (x26_2.length : Int) then (sais_induce.l1 k2 l1 l2 l3 (l1.length : Int) (wrap64 (x15_2 - 1)) (x26_2.set ((rd y152 (rd l1 (rd l3 x15_2))) : Int).toNat (rd l3 x15_2)) t138 t139 y152) else (none)) else (none)) = some r := by first | (rw [hy152]; with_reducible exact H) | (have H2_ := (Option.bind_some _ _).symm.trans H; rw [hy152]; with_reducible exact H2_) | (have H2_ := (Option.bind_some _ _).symm.trans H; with_reducible exact H2_) | with_reducible exact H | (rw [hy152]; exact H) | exact H
                  have Ny152 := Aside0.mk hy152
                  clear hy152
                  by_cases c35 : 0 ≤ (rd y152 (rd l1 (rd l3 x15_2)))
                  ·rw [if_pos c35] at H
                   have c35b0 : decide (0 ≤ (rd y152 (rd l1 (rd l3 x15_2)))) = true := decide_eq_true c35
                   clear c35
                   by_cases c36 : (rd y152 (rd l1 (rd l3 x15_2))) < (x26_2.length : Int)
                   ·rw [if_pos c36] at H
                    have c36b0 : decide ((rd y152 (rd l1 (rd l3 x15_2))) < (x26_2.length : Int)) = true := decide_eq_true c36
                    (try (have c36z0 := c36b0; simp only [hl26_1] at c36z0))
                    (try (have c36z1 := c36b0; simp only [hl26_2] at c36z1))
                    (try (have c36z2 := c36b0; simp only [hl46_2] at c36z2))
                    clear c36
                    obtain ⟨y155, hy155⟩ : ∃ y_ : List Int, y_ = (x26_2.set ((rd y152 (rd l1 (rd l3 x15_2))) : Int).toNat (rd l3 x15_2)) := ⟨_, rfl⟩
                    replace H : (sais_induce.l1 k2 l1 l2 l3 (l1.length : Int) (wrap64 (x15_2 - 1)) y155 t138 t139 y152) = some r := by first | (rw [hy155]; with_reducible exact H) | (have H2_ := (Option.bind_some _ _).symm.trans H; rw [hy155]; with_reducible exact H2_) | (have H2_ := (Option.bind_some _ _).symm.trans H; with_reducible exact H2_) | with_reducible exact H | (rw [hy155]; exact H) | exact H
                    have Ny155 := Aside0.mk hy155
                    clear hy155
                    have H' := Aside0.mk H
                    clear H
                    have p149 : 0 ≤ (x15_2 : Int) := of_decide_eq_true (by first | (with_reducible assumption) | assumption)
                    have q149 : x15_2 < (l3.length : Int) := of_decide_eq_true (by first | (with_reducible assumption) | assumption)
                    obtain ⟨ad149, e149, hx149_0⟩ := Kd.at_int HR3.out x15_2 p149 q149
                    cases e149
                    replace hx149_0 := (HB.out.cell (World.block_lt_of_cell? w _ hx149_0)).trans hx149_0
                    replace p149 := eq_true p149
                    replace q149 := eq_true q149
                    have p150 : 0 ≤ ((rd l3 x15_2) : Int) := of_decide_eq_true (by first | (with_reducible assumption) | assumption)
                    have q150 : (rd l3 x15_2) < (l1.length : Int) := of_decide_eq_true (by first | (with_reducible assumption) | assumption)
                    obtain ⟨ad150, e150, hx150_0⟩ := Kd.at_int HR1.out (rd l3 x15_2) p150 q150
                    cases e150
                    replace hx150_0 := (HB.out.cell (World.block_lt_of_cell? w _ hx150_0)).trans hx150_0
                    replace p150 := eq_true p150
                    replace q150 := eq_true q150
                    have p151 : 0 ≤ ((rd l1 (rd l3 x15_2)) : Int) := of_decide_eq_true (by first | (with_reducible assumption) | assumption)
                    have q151 : (rd l1 (rd l3 x15_2)) < (x46_2.length : Int) := of_decide_eq_true (by first | (with_reducible assumption) | assumption)
                    obtain ⟨ad151, e151, hx151_0⟩ := Kd.at_int (Kd.R_reads' HO_46.out).2.2 (rd l1 (rd l3 x15_2)) p151 q151
                    cases e151
                    replace p151 := eq_true p151
                    replace q151 := eq_true q151
                    have p34 : 0 ≤ ((rd l1 (rd l3 x15_2)) : Int) := of_decide_eq_true (by first | (with_reducible assumption) | assumption)
                    have q34 : ((rd l1 (rd l3 x15_2)) : Int) < ((x46_2.length : Int) : Int) := of_decide_eq_true (by first | (with_reducible assumption) | assumption)
                    obtain ⟨go34, co34, eo34, gb34, gl34, cl34, HG34⟩ := Kd.R_form HO_46.out (by first | omega | (have e_ := (Kd.R_reads' HO_46.out).1; omega))
                    (first | cases eo34 | (injection eo34 with ea_ en_ ec_; (first | subst ea_ | (injection ea_ with ea_; subst ea_)); subst ec_; clear en_))
                    have GB34 := Aside0.mk gb34
                    have GG34 := Aside0.mk HG34
                    clear gb34 gl34 HG34
                    (first | simp only [add_plain] at hx151_0 | skip)
                    obtain ⟨hx34_0, hf34_0⟩ := Kd.R_celln 0 HO_46.out ((rd l1 (rd l3 x15_2)) : Int) p34 q34
                    replace p34 := eq_true p34
                    replace q34 := eq_true q34
                    have HP38 := Kd.R_putg HO_46.out ((rd l1 (rd l3 x15_2)) : Int) (wrap64 ((rd x46_2 (rd l1 (rd l3 x15_2))) - 1))
                    try go_wp2_with (first | ((with_reducible refine gate_store (t := 3) (p := 69) rfl ?_); refine store_event (t := 3) (p := 69) (v := ?vo_w39) (w1 := (wr.setCell ⟨go34, ((rd l1 (rd l3 x15_2)) : Int).toNat, none⟩ (.int .i64 (wrap64 ((rd x46_2 (rd l1 (rd l3 x15_2))) - 1))))) ?hg ?ho ?hn ?hr ?_; (case ho => rfl); (case hg => rfl); (case hn => rfl); (case hr => first | (go_simp; done) | (go_simp; rfl)); intro w39 hw; have hg : wr.grownBy w39 (some go34) := (by rw [hw]; exact HP38.2); have hp_ : Kd.R (Kd.int .i64) 3 w39 w.heap.size (fun k_ => some k_ ≠ (.slice Ao9 x26_2.length co9 : Value).ownBlock ∧ some k_ ≠ (v140 : Value).ownBlock ∧ some k_ ≠ (.slice Ao25 t139.length co25 : Value).ownBlock) (.slice (some ⟨go34, 0, none⟩) x46_2.length co24) y152 := (by rw [hw, Ny152.out]; exact HP38.1); clear HP38; have n0_ := Aside0.mk (Kd.R_after (v := (.slice (some ⟨go34, 0, none⟩) x46_2.length co24)) (v1 := (.slice (some ⟨go34, 0, none⟩) x46_2.length co24)) (ok := (fun k_ => some k_ ≠ (v140 : Value).ownBlock ∧ some k_ ≠ (.slice Ao25 t139.length co25 : Value).ownBlock)) (by (with_reducible repeat (first | apply Kd.R_alloc | apply Kd.R_drewN | apply Kd.R_drew)); exact Kd.R_mono HO_26.out (fun _ hk => ⟨⟨hk.1, hk.2.1⟩, hk.2.2⟩)) hg (.inl rfl)); have n1_ := Aside0.mk (Kd.R_after (v := (.slice (some ⟨go34, 0, none⟩) x46_2.length co24)) (v1 := (.slice (some ⟨go34, 0, none⟩) x46_2.length co24)) (ok := (fun k_ => some k_ ≠ (.slice Ao9 x26_2.length co9 : Value).ownBlock ∧ some k_ ≠ (.slice Ao25 t139.length co25 : Value).ownBlock)) (by (with_reducible repeat (first | apply Kd.R_alloc | apply Kd.R_drewN | apply Kd.R_drew)); exact Kd.R_mono HO_43.out (fun _ hk => ⟨⟨hk.1, hk.2.1⟩, hk.2.2⟩)) hg (.inl rfl)); have n2_ := Aside0.mk (Kd.R_after (v := (.slice (some ⟨go34, 0, none⟩) x46_2.length co24)) (v1 := (.slice (some ⟨go34, 0, none⟩) x46_2.length co24)) (ok := (fun k_ => some k_ ≠ (.slice Ao9 x26_2.length co9 : Value).ownBlock ∧ some k_ ≠ (v140 : Value).ownBlock)) (by (with_reducible repeat (first | apply Kd.R_alloc | apply Kd.R_drewN | apply Kd.R_drew)); exact Kd.R_mono HO_44.out (fun _ hk => ⟨⟨hk.1, hk.2.1⟩, hk.2.2⟩)) hg (.inl rfl)); have n3_ := Aside0.mk (hp_); have n4_ := Aside0.mk ((by rw [hw]; exact below_set (HB.out) GB34.out : Below w.heap.size w w39)); clear HO_26; clear HO_43; clear HO_44; clear HO_46; clear HB; have HO_26 := n0_; have HO_43 := n1_; have HO_44 := n2_; have HO_46 := n3_; have HB := n4_; clear n0_ n1_ n2_ n3_ n4_; clear hg hw hp_))
                    have n0_ := Aside0.mk (Kd.R_drew HO_26.out)
                    have n1_ := Aside0.mk (Kd.R_drew HO_43.out)
                    have n2_ := Aside0.mk (Kd.R_drew HO_44.out)
                    have n3_ := Aside0.mk (Kd.R_drew HO_46.out)
                    have n4_ := Aside0.mk (below_drew1 HB.out)
                    clear HO_26
                    clear HO_43
                    clear HO_44
                    clear HO_46
                    clear HB
                    have HO_26 := n0_
                    have HO_43 := n1_
                    have HO_44 := n2_
                    have HO_46 := n3_
                    have HB := n4_
                    clear n0_ n1_ n2_ n3_ n4_
                    have p153 : 0 ≤ ((rd l1 (rd l3 x15_2)) : Int) := of_decide_eq_true (by first | (with_reducible assumption) | assumption)
                    have q153 : (rd l1 (rd l3 x15_2)) < (y152.length : Int) := (by have h_ : ((rd l1 (rd l3 x15_2)) : Int) < ((x46_2.length : Int) : Int) := of_decide_eq_true (by first | (with_reducible assumption) | assumption); first | (have e_ := (Kd.R_reads' HO_46.out).1; omega) | simpa only [Ny152.out, List.length_set] using h_)
                    have ql153 : (((rd l1 (rd l3 x15_2)) : Int) < ((x46_2.length : Int) : Int)) = True := eq_true (of_decide_eq_true (by first | (with_reducible assumption) | assumption))
                    obtain ⟨ad153, e153, hx153_0⟩ := Kd.at_int (Kd.R_reads' HO_46.out).2.2 (rd l1 (rd l3 x15_2)) p153 q153
                    obtain rfl : (⟨go34, 0, none⟩ : Addr) = ad153 := (by injection e153)
                    (first | simp only [add_plain] at hx153_0 | simp only [add_at] at hx153_0 | simp only [Addr.add, Nat.zero_add] at hx153_0 | skip)
                    replace p153 := eq_true p153
                    replace q153 := eq_true q153
                    have p154 : 0 ≤ (x15_2 : Int) := of_decide_eq_true (by first | (with_reducible assumption) | assumption)
                    have q154 : x15_2 < (l3.length : Int) := of_decide_eq_true (by first | (with_reducible assumption) | assumption)
                    obtain ⟨ad154, e154, hx154_0⟩ := Kd.at_int HR3.out x15_2 p154 q154
                    have hw154_0 := hx154_0
                    obtain rfl : ad149 = ad154 := (by injection e154)
                    replace hx154_0 := (HB.out.cell (World.block_lt_of_cell? w _ hx154_0)).trans hx154_0
                    replace p154 := eq_true p154
                    replace q154 := eq_true q154
                    have p37 : 0 ≤ ((rd y152 (rd l1 (rd l3 x15_2))) : Int) := of_decide_eq_true (by first | (with_reducible assumption) | assumption)
                    have q37 : ((rd y152 (rd l1 (rd l3 x15_2))) : Int) < ((x26_2.length : Int) : Int) := of_decide_eq_true (by first | (with_reducible assumption) | assumption)
                    obtain ⟨go37, co37, eo37, gb37, gl37, cl37, HG37⟩ := Kd.R_form HO_26.out (by first | omega | (have e_ := (Kd.R_reads' HO_26.out).1; omega))
                    (first | cases eo37 | (injection eo37 with ea_ en_ ec_; (first | subst ea_ | (injection ea_ with ea_; subst ea_)); subst ec_; clear en_))
                    have GB37 := Aside0.mk gb37
                    have GG37 := Aside0.mk HG37
                    clear gb37 gl37 HG37
                    obtain ⟨hx37_0, hf37_0⟩ := Kd.R_celln 0 HO_26.out ((rd y152 (rd l1 (rd l3 x15_2))) : Int) p37 q37
                    replace p37 := eq_true p37
                    replace q37 := eq_true q37
                    have HP41 := Kd.R_putn HO_26.out ((rd y152 (rd l1 (rd l3 x15_2))) : Int) (rd l3 x15_2)
                    rw [← Ny155.out] at HP41
                    have HQ41 := Aside0.mk HP41
                    clear HP41
                    refine start_ (n := 11) (S := fun w' => w'.cell? ⟨go34, ((rd l1 (rd l3 x15_2))).toNat, none⟩ = some (.int .i64 (rd y152 (rd l1 (rd l3 x15_2)))) ∧ w'.cell? (ad149.add (x15_2).toNat) = some (.int .i64 (rd l3 x15_2))) (ds := [10]) #[false, false, false, false, false, false, false, false, false, false, false] (by kernel_rfl) rfl rfl ⟨hx153_0, ((HB.out.cell (World.block_lt_of_cell? w _ hw154_0)).trans hw154_0)⟩ (fun hHeld => ?_); refine with_tabW sais_induce.tab18 sais_induce.bits18 (fun HT_ HW_ => ?_)
                    generalize w39.drew = w40 at HO_26 HO_43 HO_44 HO_46 HB GG37 HQ41 hf37_0 hx153_0 hx154_0 hx37_0 hHeld ⊢
                    refine pure_ (i := 0) (N := some 70) (v := ?_) (a' := ?_) #[true, false, false, false, false, false, false, false, false, false, false] rfl rfl (any_of HT_.out (by kernel_rfl)) (fun _ _ _ h => h) (Or.inl ⟨by rfl, ?_⟩) ?_ ?_
                    rotate_left
                    ·intro w'
                     go_simp
                     with_reducible rfl
                    rotate_left
                    ·simp only [Act.put, List.setIfInBounds_toArray, List.set_cons_zero, List.set_cons_succ, i64_w, i32_w]
                     rfl
                    refine pure_ (i := 1) (N := some 71) (v := ?_) (a' := ?_) #[true, true, false, false, false, false, false, false, false, false, false] rfl rfl (any_of HT_.out (by kernel_rfl)) (fun _ _ _ h => h) (Or.inl ⟨by rfl, ?_⟩) ?_ ?_
                    rotate_left
                    ·intro w'
                     go_simp
                     with_reducible rfl
                    rotate_left
                    ·simp only [Act.put, List.setIfInBounds_toArray, List.set_cons_zero, List.set_cons_succ, i64_w, i32_w]
                     rfl
                    refine pure_ (i := 2) (N := some 72) (v := ?_) (a' := ?_) #[true, true, true, false, false, false, false, false, false, false, false] rfl rfl (any_of HT_.out (by kernel_rfl)) (fun _ _ _ h => h) (Or.inl ⟨by rfl, ?_⟩) ?_ ?_
                    rotate_left
                    ·intro w'
                     go_simp
                     with_reducible rfl
                    rotate_left
                    ·simp only [Act.put, List.setIfInBounds_toArray, List.set_cons_zero, List.set_cons_succ, i64_w, i32_w]
                     rfl
                    refine pure_ (i := 3) (N := some 73) (v := ?_) (a' := ?_) #[true, true, true, true, false, false, false, false, false, false, false] rfl rfl (any_of HT_.out (by kernel_rfl)) (fun _ _ _ h => h) (Or.inl ⟨by rfl, ?_⟩) ?_ ?_
                    rotate_left
                    ·intro w'
                     go_simp
                     with_reducible rfl
                    rotate_left
                    ·simp only [Act.put, List.setIfInBounds_toArray, List.set_cons_zero, List.set_cons_succ, i64_w, i32_w]
                     rfl
                    refine pure_ (i := 5) (N := some 75) (v := ?_) (a' := ?_) #[true, true, true, true, false, true, false, false, false, false, false] rfl rfl (any_of HT_.out (by kernel_rfl)) (fun _ _ _ h => h) (Or.inl ⟨by rfl, ?_⟩) ?_ ?_
                    rotate_left
                    ·intro w'
                     go_simp
                     with_reducible rfl
                    rotate_left
                    ·simp only [Act.put, List.setIfInBounds_toArray, List.set_cons_zero, List.set_cons_succ, i64_w, i32_w]
                     rfl
                    refine pure_ (i := 6) (N := some 76) (v := ?_) (a' := ?_) #[true, true, true, true, false, true, true, false, false, false, false] rfl rfl (any_of HT_.out (by kernel_rfl)) (fun _ _ _ h => h) (Or.inl ⟨by rfl, ?_⟩) ?_ ?_
                    rotate_left
                    ·intro w'
                     go_simp
                     with_reducible rfl
                    rotate_left
                    ·simp only [Act.put, List.setIfInBounds_toArray, List.set_cons_zero, List.set_cons_succ, i64_w, i32_w]
                     rfl
                    refine pure_ (i := 7) (N := some 77) (v := ?_) (a' := ?_) #[true, true, true, true, false, true, true, true, false, false, false] rfl rfl (any_of HT_.out (by kernel_rfl)) (fun _ _ _ h => h) (Or.inl ⟨by rfl, ?_⟩) ?_ ?_
                    rotate_left
                    ·intro w'
                     go_simp
                     with_reducible rfl
                    rotate_left
                    ·simp only [Act.put, List.setIfInBounds_toArray, List.set_cons_zero, List.set_cons_succ, i64_w, i32_w]
                     rfl
                    refine take_ (i := 4) (N := some 74) (v := ?_) (a' := ?_) #[true, true, true, true, true, true, true, true, false, false, false] rfl rfl (take_ofW HT_.out HW_.out (by kernel_rfl)) (fun _ _ _ h => h) (Or.inl ⟨by rfl, ?_⟩) hHeld ?_ ?_
                    rotate_left
                    ·rintro w' ⟨s0, s1⟩
                     go_simp
                     with_reducible rfl
                    rotate_left
                    ·simp only [Act.put, List.setIfInBounds_toArray, List.set_cons_zero, List.set_cons_succ, i64_w, i32_w]
                     rfl
                    refine take_ (i := 8) (N := some 78) (v := ?_) (a' := ?_) #[true, true, true, true, true, true, true, true, true, false, false] rfl rfl (take_ofW HT_.out HW_.out (by kernel_rfl)) (fun _ _ _ h => h) (Or.inl ⟨by rfl, ?_⟩) hHeld ?_ ?_
                    rotate_left
                    ·rintro w' ⟨s0, s1⟩
                     go_simp
                     with_reducible rfl
                    rotate_left
                    ·simp only [Act.put, List.setIfInBounds_toArray, List.set_cons_zero, List.set_cons_succ, i64_w, i32_w]
                     rfl
                    refine pure_ (i := 9) (N := some 79) (v := ?_) (a' := ?_) #[true, true, true, true, true, true, true, true, true, true, false] rfl rfl (any_of HT_.out (by kernel_rfl)) (fun _ _ _ h => h) (Or.inl ⟨by rfl, ?_⟩) ?_ ?_
                    rotate_left
                    ·intro w'
                     go_simp
                     with_reducible rfl
                    rotate_left
                    ·simp only [Act.put, List.setIfInBounds_toArray, List.set_cons_zero, List.set_cons_succ, i64_w, i32_w]
                     rfl
                    refine last_ (i := 10) (N := none) #[true, true, true, true, true, true, true, true, true, true, true] rfl rfl (one_of HT_.out (by kernel_rfl)) (by decide) (fun K hK => ?_)
                    refine skip_ (w1 := ?_) (by rfl) rfl ?_ ?_
                    rotate_left
                    ·go_simp
                     rfl
                    refine hK.out _ _ ?_
                    clear hK K
                    refine done_ (done_of HT_.out (by kernel_rfl)) ?_
                    try go_wp2
                    (try simp only [← hl26_2, ← hl46_2])
                    go_roundg k2
                    case measure => have := HK1.out; have := HK2.out; omega
                    case rel => exact ⟨(wrap64 (x15_2 - 1)), (y155), (y152), (by first | rfl | (simp; done) | (simp [*]; done)), H', ⟨by have := HK1.out; have := HK2.out; omega⟩, ⟨by (try simp only [hl26_1]); (try simp only [hl26_2]); (try simp only [hl46_2]); (with_reducible repeat (first | apply Kd.R_alloc | apply Kd.R_drewN | apply Kd.R_drew)); exact Kd.R_mono HQ41.out (fun _ hk => ⟨hk.1.1, ⟨hk.1.2, hk.2⟩⟩)⟩, ⟨by (try simp only [hl26_1]); (try simp only [hl26_2]); (try simp only [hl46_2]); (with_reducible repeat (first | apply Kd.R_alloc | apply Kd.R_drewN | apply Kd.R_drew)); exact Kd.R_mono (Kd.R_far (p := ⟨go37, ((rd y152 (rd l1 (rd l3 x15_2))) : Int).toNat, none⟩) (Kd.R_mono HO_43.out (fun k_ hk => (⟨hk, fun e_ => hk.1.1 (by rw [e_]; rfl)⟩ : _ ∧ k_ ≠ go37))) (fun _ hk => hk.2) (.int .i64 (rd l3 x15_2))) (fun _ hk => ⟨hk.1.1.1, ⟨hk.1.1.2, hk.1.2⟩⟩)⟩, ⟨by (try simp only [hl26_1]); (try simp only [hl26_2]); (try simp only [hl46_2]); (with_reducible repeat (first | apply Kd.R_alloc | apply Kd.R_drewN | apply Kd.R_drew)); exact Kd.R_mono (Kd.R_far (p := ⟨go37, ((rd y152 (rd l1 (rd l3 x15_2))) : Int).toNat, none⟩) (Kd.R_mono HO_44.out (fun k_ hk => (⟨hk, fun e_ => hk.1.1 (by rw [e_]; rfl)⟩ : _ ∧ k_ ≠ go37))) (fun _ hk => hk.2) (.int .i64 (rd l3 x15_2))) (fun _ hk => ⟨hk.1.1.1, ⟨hk.1.1.2, hk.1.2⟩⟩)⟩, ⟨by (try simp only [hl26_1]); (try simp only [hl26_2]); (try simp only [hl46_2]); (with_reducible repeat (first | apply Kd.R_alloc | apply Kd.R_drewN | apply Kd.R_drew)); exact Kd.R_mono (Kd.R_far (p := ⟨go37, ((rd y152 (rd l1 (rd l3 x15_2))) : Int).toNat, none⟩) (Kd.R_mono HO_46.out (fun k_ hk => (⟨hk, fun e_ => hk.1 (by rw [e_]; rfl)⟩ : _ ∧ k_ ≠ go37))) (fun _ hk => hk.2) (.int .i64 (rd l3 x15_2))) (fun _ hk => ⟨hk.1.1, ⟨hk.1.2.1, hk.1.2.2⟩⟩)⟩, ⟨by repeat (first | (with_reducible first | exact HB.out | apply below_alloc | apply pw_below_drewN | apply below_drew1 | refine below_set ?_ GB37.out) | exact HB.out)⟩⟩
                   ·rw [if_neg c36] at H
                    exact absurd H (by simp)
                  ·rw [if_neg c35] at H
                   exact absurd H (by simp)
                 ·rw [if_neg c33] at H
                  exact absurd H (by simp)
                ·rw [if_neg c32] at H
                 exact absurd H (by simp)
               ·rw [if_neg c31] at H
                exact absurd H (by simp)
              ·rw [if_neg c30] at H
               exact absurd H (by simp)
             ·rw [if_neg c29] at H
              exact absurd H (by simp)
            ·rw [if_neg c28] at H
             exact absurd H (by simp)
           ·rw [if_neg c27] at H
            have c27b0 : decide (0 ≤ x15_2) = false := decide_eq_false c27
            clear c27
            replace H := Option.bind_eq_some_iff.mp H
            obtain ⟨⟨t156, t157⟩, A420, H⟩ := H
            replace H : (if 0 ≤ (wrap64 ((l1.length : Int) - 1)) then (if (wrap64 ((l1.length : Int) - 1)) < (l1.length : Int) then (if 0 ≤ (rd l1 (wrap64 ((l1.length : Int) - 1))) then (if (rd l1 (wrap64 ((l1.length : Int) - 1))) < (x46_2.length : Int) then (if 0 ≤ (rd t157 (rd l1 (wrap64 ((l1.length : Int) - 1)))) then (if (rd t157 (rd l1 (wrap64 ((l1.length : Int) - 1)))) < (x26_2.length : Int) then (sais_induce.l2 k2 l1 l2 (l1.length : Int) (x26_2.set ((rd t157 (rd l1 (wrap64 ((l1.length : Int) - 1)))) : Int).toNat (wrap64 ((l1.length : Int) - 1))) t139 (t157.set ((rd l1 (wrap64 ((l1.length : Int) - 1))) : Int).toNat (wrap64 ((rd t157 (rd l1 (wrap64 ((l1.length : Int) - 1)))) + 1))) (l1.length : Int) 0) else (none)) else (none)) else (none)) else (none)) else (none)) else (none)) = some r := H
            have A42 := Aside0.mk A420
            clear A420
            obtain ⟨ji43, hji43⟩ : ∃ j_ : Int, (wrap64 ((l1.length : Int) - 1)) = j_ := ⟨_, rfl⟩
            replace H : (if 0 ≤ (ji43) then (if (ji43) < (l1.length : Int) then (if 0 ≤ (rd l1 (ji43)) then (if (rd l1 (ji43)) < (x46_2.length : Int) then (if 0 ≤ (rd t157 (rd l1 (ji43))) then (if (rd t157 (rd l1 (ji43))) < (x26_2.length : Int) then (sais_induce.l2 k2 l1 l2 (l1.length : Int) (x26_2.set ((rd t157 (rd l1 (ji43))) : Int).toNat (ji43)) t139 (t157.set ((rd l1 (ji43)) : Int).toNat (wrap64 ((rd t157 (rd l1 (ji43))) + 1))) (l1.length : Int) 0) else (none)) else (none)) else (none)) else (none)) else (none)) else (none)) = some r := by first | (rw [hji43] at H; exact H) | (simp only [hji43] at H ⊢; exact H)
            (try rw [hji43] at A42)
            have hji43w : (IntKind.i64.wrap ((l1.length : Int) - 1)) = ji43 := (i64_w _).trans hji43
            by_cases c44 : 0 ≤ (ji43)
            ·rw [if_pos c44] at H
             have c44b0 : decide (0 ≤ (ji43)) = true := decide_eq_true c44
             clear c44
             by_cases c45 : (ji43) < (l1.length : Int)
             ·rw [if_pos c45] at H
              have c45b0 : decide ((ji43) < (l1.length : Int)) = true := decide_eq_true c45
              (try (have c45z0 := c45b0; simp only [hl26_1] at c45z0))
              (try (have c45z1 := c45b0; simp only [hl26_2] at c45z1))
              (try (have c45z2 := c45b0; simp only [hl46_2] at c45z2))
              clear c45
              by_cases c46 : 0 ≤ (rd l1 (ji43))
              ·rw [if_pos c46] at H
               have c46b0 : decide (0 ≤ (rd l1 (ji43))) = true := decide_eq_true c46
               clear c46
               by_cases c47 : (rd l1 (ji43)) < (x46_2.length : Int)
               ·rw [if_pos c47] at H
                have c47b0 : decide ((rd l1 (ji43)) < (x46_2.length : Int)) = true := decide_eq_true c47
                (try (have c47z0 := c47b0; simp only [hl26_1] at c47z0))
                (try (have c47z1 := c47b0; simp only [hl26_2] at c47z1))
                (try (have c47z2 := c47b0; simp only [hl46_2] at c47z2))
                clear c47
                by_cases c48 : 0 ≤ (rd t157 (rd l1 (ji43)))
                ·rw [if_pos c48] at H
                 have c48b0 : decide (0 ≤ (rd t157 (rd l1 (ji43)))) = true := decide_eq_true c48
                 clear c48
                 by_cases c49 : (rd t157 (rd l1 (ji43))) < (x26_2.length : Int)
                 ·rw [if_pos c49] at H
                  have c49b0 : decide ((rd t157 (rd l1 (ji43))) < (x26_2.length : Int)) = true := decide_eq_true c49
                  (try (have c49z0 := c49b0; simp only [hl26_1] at c49z0))
                  (try (have c49z1 := c49b0; simp only [hl26_2] at c49z1))
                  (try (have c49z2 := c49b0; simp only [hl46_2] at c49z2))
                  clear c49
                  obtain ⟨y160, hy160⟩ : ∃ y_ : List Int, y_ = (x26_2.set ((rd t157 (rd l1 (ji43))) : Int).toNat (ji43)) := ⟨_, rfl⟩
                  replace H : (sais_induce.l2 k2 l1 l2 (l1.length : Int) y160 t139 (t157.set ((rd l1 (ji43)) : Int).toNat (wrap64 ((rd t157 (rd l1 (ji43))) + 1))) (l1.length : Int) 0) = some r := by first | (rw [hy160]; with_reducible exact H) | (have H2_ := (Option.bind_some _ _).symm.trans H; rw [hy160]; with_reducible exact H2_) | (have H2_ := (Option.bind_some _ _).symm.trans H; with_reducible exact H2_) | with_reducible exact H | (rw [hy160]; exact H) | exact H
                  have Ny160 := Aside0.mk hy160
                  clear hy160
                  obtain ⟨y163, hy163⟩ : ∃ y_ : List Int, y_ = (t157.set ((rd l1 (ji43)) : Int).toNat (wrap64 ((rd t157 (rd l1 (ji43))) + 1))) := ⟨_, rfl⟩
                  replace H : (sais_induce.l2 k2 l1 l2 (l1.length : Int) y160 t139 y163 (l1.length : Int) 0) = some r := by first | (rw [hy163]; with_reducible exact H) | (have H2_ := (Option.bind_some _ _).symm.trans H; rw [hy163]; with_reducible exact H2_) | (have H2_ := (Option.bind_some _ _).symm.trans H; with_reducible exact H2_) | with_reducible exact H | (rw [hy163]; exact H) | exact H
                  have Ny163 := Aside0.mk hy163
                  clear hy163
                  have H' := Aside0.mk H
                  clear H
                  obtain ⟨Ao52, co52, eo52⟩ := Kd.R_slice HO_43.out
                  subst eo52
                  go_wp2_with (first | ((with_reducible refine gate_builtin (b := .copy) rfl ?_); refine goesCopy (some 82) rfl rfl rfl #[.slice Ao24 x46_2.length co24, .slice Ao52 t138.length co52] (by (try simp only [List.map_toArray, List.map_cons, List.map_nil]); first | done | rfl | (simp only [List.length_drop, List.length_take]; rfl)) ?_; (with_reducible refine (copy_i64.calls (fun k_ => some k_ = (.slice Ao24 x46_2.length co24 : Value).ownBlock) (.slice Ao24 x46_2.length co24) x46_2 _ _ t138 t156 t157 w _ ?side1 ?side2 ?side3 ?side4 A42.out).mono ?_); (case side1 => repeat (first | (with_reducible first | exact HB.out | apply below_alloc | apply pw_below_drewN | apply below_drew1) | exact HB.out)); (case side2 => exact Kd.R_tight rfl HO_46.out); (case side3 => exact Kd.C_kept_own (HO_43.out) (fun k_ hk_ hs_ => (hk_.2.2) hs_)); (case side4 => exact (Kd.R_reads' HO_43.out).2.1); rintro e w53 ⟨rfl, hy0, hb, hkp⟩; refine ⟨_, rfl, ?_⟩; have n0_ := Aside0.mk (Kd.R_mono (ok' := fun k_ => some k_ ≠ (.slice Ao52 t138.length co52 : Value).ownBlock ∧ some k_ ≠ (.slice Ao25 t139.length co25 : Value).ownBlock ∧ some k_ ≠ (.slice Ao24 x46_2.length co24 : Value).ownBlock) (Kd.R_keptB (HO_26.out) hkp (fun k_ hk_ hs_ => (hk_.2.2) hs_)) (fun k_ hk_ => ⟨hk_.1.1, hk_.1.2.1, hk_.1.2.2⟩)); have n1_ := Aside0.mk (Kd.R_mono (ok' := fun k_ => some k_ ≠ (.slice Ao9 x26_2.length co9 : Value).ownBlock ∧ some k_ ≠ (.slice Ao25 t139.length co25 : Value).ownBlock ∧ some k_ ≠ (.slice Ao24 x46_2.length co24 : Value).ownBlock) (Kd.R_keptB (HO_43.out) hkp (fun k_ hk_ hs_ => (hk_.2.2) hs_)) (fun k_ hk_ => ⟨hk_.1.1, hk_.1.2.1, hk_.1.2.2⟩)); have n2_ := Aside0.mk (Kd.R_mono (ok' := fun k_ => some k_ ≠ (.slice Ao9 x26_2.length co9 : Value).ownBlock ∧ some k_ ≠ (.slice Ao52 t138.length co52 : Value).ownBlock ∧ some k_ ≠ (.slice Ao24 x46_2.length co24 : Value).ownBlock) (Kd.R_keptB (HO_44.out) hkp (fun k_ hk_ hs_ => (hk_.2.2) hs_)) (fun k_ hk_ => ⟨hk_.1.1, hk_.1.2.1, hk_.1.2.2⟩)); have n3_ := Aside0.mk (Kd.R_reok rfl hy0 (fun k_ e_ => HO_46.out.1 k_ e_)); have n4_ := Aside0.mk (hb); clear HO_26; clear HO_43; clear HO_44; clear HO_46; clear HB; have HO_26 := n0_; have HO_43 := n1_; have HO_44 := n2_; have HO_46 := n3_; have HB := n4_; clear n0_ n1_ n2_ n3_ n4_; (try clear hb); (try clear hkp); (try clear hy0); have p158 : 0 ≤ ((ji43) : Int) := of_decide_eq_true (by first | (with_reducible assumption) | assumption); have q158 : (ji43) < (l1.length : Int) := of_decide_eq_true (by first | (with_reducible assumption) | assumption); obtain ⟨ad158, e158, hx158_0⟩ := Kd.at_int HR1.out (ji43) p158 q158; cases e158; replace hx158_0 := (HB.out.cell (World.block_lt_of_cell? w _ hx158_0)).trans hx158_0; replace p158 := eq_true p158; replace q158 := eq_true q158; have p159 : 0 ≤ ((rd l1 (ji43)) : Int) := of_decide_eq_true (by first | (with_reducible assumption) | assumption); have q159 : (rd l1 (ji43)) < (t157.length : Int) := (by have h_ : ((rd l1 (ji43)) : Int) < ((x46_2.length : Int) : Int) := of_decide_eq_true (by first | (with_reducible assumption) | assumption); have e_ := (Kd.R_reads' HO_46.out).1; omega); have ql159 : (((rd l1 (ji43)) : Int) < ((x46_2.length : Int) : Int)) = True := eq_true (of_decide_eq_true (by first | (with_reducible assumption) | assumption)); obtain ⟨ad159, e159, hx159_0⟩ := Kd.at_int (Kd.R_reads' HO_46.out).2.2 (rd l1 (ji43)) p159 q159; cases e159; replace p159 := eq_true p159; replace q159 := eq_true q159; have p50 : 0 ≤ ((rd t157 (rd l1 (ji43))) : Int) := of_decide_eq_true (by first | (with_reducible assumption) | assumption); have q50 : ((rd t157 (rd l1 (ji43))) : Int) < ((x26_2.length : Int) : Int) := of_decide_eq_true (by first | (with_reducible assumption) | assumption); obtain ⟨go50, co50, eo50, gb50, gl50, cl50, HG50⟩ := Kd.R_form HO_26.out (by first | omega | (have e_ := (Kd.R_reads' HO_26.out).1; omega)); (first | cases eo50 | (injection eo50 with ea_ en_ ec_; (first | subst ea_ | (injection ea_ with ea_; subst ea_)); subst ec_; clear en_)); have GB50 := Aside0.mk gb50; have GG50 := Aside0.mk HG50; clear gb50 gl50 HG50; obtain ⟨hx50_0, hf50_0⟩ := Kd.R_celln 0 HO_26.out ((rd t157 (rd l1 (ji43))) : Int) p50 q50; replace p50 := eq_true p50; replace q50 := eq_true q50; obtain ⟨hy54_, hz54_⟩ := Kd.R_celln 0 HO_26.out ((rd t157 (rd l1 (ji43))) : Int) (of_decide_eq_true (by first | (with_reducible assumption) | assumption)) (of_decide_eq_true (by first | (with_reducible assumption) | assumption)); have HP54 := Kd.R_putg HO_26.out ((rd t157 (rd l1 (ji43))) : Int) ji43) | ((with_reducible refine gate_store (t := 3) (p := 94) rfl ?_); refine store_event (t := 3) (p := 94) (v := ?vo_w55) (w1 := (w53.setCell ⟨go50, ((rd t157 (rd l1 (ji43))) : Int).toNat, none⟩ (.int .i64 ji43))) ?hg ?ho ?hn ?hr ?_; (case ho => rfl); (case hg => rfl); (case hn => rfl); (case hr => first | (go_simp; done) | (go_simp; rfl)); intro w55 hw; have hg : w53.grownBy w55 (some go50) := (by rw [hw]; exact HP54.2); have hp_ : Kd.R (Kd.int .i64) 3 w55 w.heap.size (fun k_ => some k_ ≠ (.slice Ao52 t138.length co52 : Value).ownBlock ∧ some k_ ≠ (.slice Ao25 t139.length co25 : Value).ownBlock ∧ some k_ ≠ (.slice (some ad159) x46_2.length co24 : Value).ownBlock) (.slice (some ⟨go50, 0, none⟩) x26_2.length co9) y160 := (by rw [hw, Ny160.out]; exact HP54.1); clear HP54; have n0_ := Aside0.mk (hp_); have n1_ := Aside0.mk (Kd.R_after (v := (.slice (some ⟨go50, 0, none⟩) x26_2.length co9)) (v1 := (.slice (some ⟨go50, 0, none⟩) x26_2.length co9)) (ok := (fun k_ => some k_ ≠ (.slice Ao25 t139.length co25 : Value).ownBlock ∧ some k_ ≠ (.slice (some ad159) x46_2.length co24 : Value).ownBlock)) (by (with_reducible repeat (first | apply Kd.R_alloc | apply Kd.R_drewN | apply Kd.R_drew)); exact Kd.R_mono HO_43.out (fun _ hk => ⟨⟨hk.2.1, hk.2.2⟩, hk.1⟩)) hg (.inl rfl)); have n2_ := Aside0.mk (Kd.R_after (v := (.slice (some ⟨go50, 0, none⟩) x26_2.length co9)) (v1 := (.slice (some ⟨go50, 0, none⟩) x26_2.length co9)) (ok := (fun k_ => some k_ ≠ (.slice Ao52 t138.length co52 : Value).ownBlock ∧ some k_ ≠ (.slice (some ad159) x46_2.length co24 : Value).ownBlock)) (by (with_reducible repeat (first | apply Kd.R_alloc | apply Kd.R_drewN | apply Kd.R_drew)); exact Kd.R_mono HO_44.out (fun _ hk => ⟨⟨hk.2.1, hk.2.2⟩, hk.1⟩)) hg (.inl rfl)); have n3_ := Aside0.mk (Kd.R_after (v := (.slice (some ⟨go50, 0, none⟩) x26_2.length co9)) (v1 := (.slice (some ⟨go50, 0, none⟩) x26_2.length co9)) (ok := (fun k_ => some k_ ≠ (.slice Ao52 t138.length co52 : Value).ownBlock ∧ some k_ ≠ (.slice Ao25 t139.length co25 : Value).ownBlock)) (by (with_reducible repeat (first | apply Kd.R_alloc | apply Kd.R_drewN | apply Kd.R_drew)); exact Kd.R_mono HO_46.out (fun _ hk => ⟨⟨hk.2.1, hk.2.2⟩, hk.1⟩)) hg (.inl rfl)); have n4_ := Aside0.mk ((by rw [hw]; exact below_set (HB.out) GB50.out : Below w.heap.size w w55)); clear HO_26; clear HO_43; clear HO_44; clear HO_46; clear HB; have HO_26 := n0_; have HO_43 := n1_; have HO_44 := n2_; have HO_46 := n3_; have HB := n4_; clear n0_ n1_ n2_ n3_ n4_; clear hg hw hp_; have p161 : 0 ≤ ((ji43) : Int) := of_decide_eq_true (by first | (with_reducible assumption) | assumption); have q161 : (ji43) < (l1.length : Int) := of_decide_eq_true (by first | (with_reducible assumption) | assumption); obtain ⟨ad161, e161, hx161_0⟩ := Kd.at_int HR1.out (ji43) p161 q161; obtain rfl : ad158 = ad161 := (by injection e161); replace hx161_0 := (HB.out.cell (World.block_lt_of_cell? w _ hx161_0)).trans hx161_0; replace p161 := eq_true p161; replace q161 := eq_true q161; have p162 : 0 ≤ ((rd l1 (ji43)) : Int) := of_decide_eq_true (by first | (with_reducible assumption) | assumption); have q162 : (rd l1 (ji43)) < (t157.length : Int) := (by have h_ : ((rd l1 (ji43)) : Int) < ((x46_2.length : Int) : Int) := of_decide_eq_true (by first | (with_reducible assumption) | assumption); have e_ := (Kd.R_reads' HO_46.out).1; omega); have ql162 : (((rd l1 (ji43)) : Int) < ((x46_2.length : Int) : Int)) = True := eq_true (of_decide_eq_true (by first | (with_reducible assumption) | assumption)); obtain ⟨ad162, e162, hx162_0⟩ := Kd.at_int (Kd.R_reads' HO_46.out).2.2 (rd l1 (ji43)) p162 q162; obtain rfl : ad159 = ad162 := (by injection e162); replace p162 := eq_true p162; replace q162 := eq_true q162; have p51 : 0 ≤ ((rd l1 (ji43)) : Int) := of_decide_eq_true (by first | (with_reducible assumption) | assumption); have q51 : ((rd l1 (ji43)) : Int) < ((x46_2.length : Int) : Int) := of_decide_eq_true (by first | (with_reducible assumption) | assumption); obtain ⟨go51, co51, eo51, gb51, gl51, cl51, HG51⟩ := Kd.R_form HO_46.out (by first | omega | (have e_ := (Kd.R_reads' HO_46.out).1; omega)); (first | cases eo51 | (injection eo51 with ea_ en_ ec_; (first | subst ea_ | (injection ea_ with ea_; subst ea_)); subst ec_; clear en_)); have GB51 := Aside0.mk gb51; have GG51 := Aside0.mk HG51; clear gb51 gl51 HG51; (first | simp only [add_plain] at hx159_0 | skip); (first | simp only [add_plain] at hx162_0 | skip); obtain ⟨hx51_0, hf51_0⟩ := Kd.R_celln 0 HO_46.out ((rd l1 (ji43)) : Int) p51 q51; replace p51 := eq_true p51; replace q51 := eq_true q51; have n_ := Aside0.mk (Kd.R_mono (ok' := (fun k_ => some k_ ≠ (.slice (some ⟨go50, 0, none⟩) x26_2.length co9 : Value).ownBlock ∧ some k_ ≠ (.slice Ao52 t138.length co52 : Value).ownBlock ∧ some k_ ≠ (.slice Ao25 t139.length co25 : Value).ownBlock)) HO_46.out (fun k_ hk => ⟨hk.2, ⟨hk.1.1, hk.1.2⟩⟩)); clear HO_46; have HO_46 := n_; clear n_; obtain ⟨hy56_, hz56_⟩ := Kd.R_celln 0 HO_46.out ((rd l1 (ji43)) : Int) (of_decide_eq_true (by first | (with_reducible assumption) | assumption)) (of_decide_eq_true (by first | (with_reducible assumption) | assumption)); have HP56 := Kd.R_putg HO_46.out ((rd l1 (ji43)) : Int) (wrap64 ((rd t157 (rd l1 (ji43))) + 1))) | ((with_reducible refine gate_store (t := 3) (p := 104) rfl ?_); refine store_event (t := 3) (p := 104) (v := ?vo_w57) (w1 := (w55.setCell ⟨go51, ((rd l1 (ji43)) : Int).toNat, none⟩ (.int .i64 (wrap64 ((rd t157 (rd l1 (ji43))) + 1))))) ?hg ?ho ?hn ?hr ?_; (case ho => rfl); (case hg => rfl); (case hn => rfl); (case hr => first | (go_simp; done) | (go_simp; rfl)); intro w57 hw; have hg : w55.grownBy w57 (some go51) := (by rw [hw]; exact HP56.2); have hp_ : Kd.R (Kd.int .i64) 3 w57 w.heap.size (fun k_ => some k_ ≠ (.slice (some ⟨go50, 0, none⟩) x26_2.length co9 : Value).ownBlock ∧ some k_ ≠ (.slice Ao52 t138.length co52 : Value).ownBlock ∧ some k_ ≠ (.slice Ao25 t139.length co25 : Value).ownBlock) (.slice (some ⟨go51, 0, none⟩) x46_2.length co24) y163 := (by rw [hw, Ny163.out]; exact HP56.1); clear HP56; have n0_ := Aside0.mk (Kd.R_after (v := (.slice (some ⟨go51, 0, none⟩) x46_2.length co24)) (v1 := (.slice (some ⟨go51, 0, none⟩) x46_2.length co24)) (ok := (fun k_ => some k_ ≠ (.slice Ao52 t138.length co52 : Value).ownBlock ∧ some k_ ≠ (.slice Ao25 t139.length co25 : Value).ownBlock)) (by (with_reducible repeat (first | apply Kd.R_alloc | apply Kd.R_drewN | apply Kd.R_drew)); exact Kd.R_mono HO_26.out (fun _ hk => ⟨⟨hk.1, hk.2.1⟩, hk.2.2⟩)) hg (.inl rfl)); have n1_ := Aside0.mk (Kd.R_after (v := (.slice (some ⟨go51, 0, none⟩) x46_2.length co24)) (v1 := (.slice (some ⟨go51, 0, none⟩) x46_2.length co24)) (ok := (fun k_ => some k_ ≠ (.slice (some ⟨go50, 0, none⟩) x26_2.length co9 : Value).ownBlock ∧ some k_ ≠ (.slice Ao25 t139.length co25 : Value).ownBlock)) (by (with_reducible repeat (first | apply Kd.R_alloc | apply Kd.R_drewN | apply Kd.R_drew)); exact Kd.R_mono HO_43.out (fun _ hk => ⟨⟨hk.2, hk.1.1⟩, hk.1.2⟩)) hg (.inl rfl)); have n2_ := Aside0.mk (Kd.R_after (v := (.slice (some ⟨go51, 0, none⟩) x46_2.length co24)) (v1 := (.slice (some ⟨go51, 0, none⟩) x46_2.length co24)) (ok := (fun k_ => some k_ ≠ (.slice (some ⟨go50, 0, none⟩) x26_2.length co9 : Value).ownBlock ∧ some k_ ≠ (.slice Ao52 t138.length co52 : Value).ownBlock)) (by (with_reducible repeat (first | apply Kd.R_alloc | apply Kd.R_drewN | apply Kd.R_drew)); exact Kd.R_mono HO_44.out (fun _ hk => ⟨⟨hk.2, hk.1.1⟩, hk.1.2⟩)) hg (.inl rfl)); have n3_ := Aside0.mk (hp_); have n4_ := Aside0.mk ((by rw [hw]; exact below_set (HB.out) GB51.out : Below w.heap.size w w57)); clear HO_26; clear HO_43; clear HO_44; clear HO_46; clear HB; have HO_26 := n0_; have HO_43 := n1_; have HO_44 := n2_; have HO_46 := n3_; have HB := n4_; clear n0_ n1_ n2_ n3_ n4_; clear hg hw hp_))
                  go_loopg [106] k2 (fun kq v106 w' => ∃ (x26_3 : List Int) (x46_3 : List Int) (x106_3 : Int), v106 = .int .i64 x106_3 ∧ Aside0 (sais_induce.l2 kq l1 l2 (l1.length : Int) x26_3 t139 x46_3 (l1.length : Int) x106_3 = some r) ∧ Aside0 (kq ≤ k2) ∧ Aside0 (Kd.R (Kd.int .i64) 3 w' w.heap.size (fun k_ => some k_ ≠ ((.slice Ao25 t139.length co25) : Value).ownBlock ∧ some k_ ≠ ((.slice (some ⟨go51, 0, none⟩) x46_2.length co24) : Value).ownBlock) (.slice (some ⟨go50, 0, none⟩) x26_2.length co9) x26_3) ∧ Aside0 (Kd.R (Kd.int .i64) 3 w' w.heap.size (fun k_ => some k_ ≠ ((.slice (some ⟨go50, 0, none⟩) x26_2.length co9) : Value).ownBlock ∧ some k_ ≠ ((.slice (some ⟨go51, 0, none⟩) x46_2.length co24) : Value).ownBlock) (.slice Ao25 t139.length co25) t139) ∧ Aside0 (Kd.R (Kd.int .i64) 3 w' w.heap.size (fun k_ => some k_ ≠ ((.slice (some ⟨go50, 0, none⟩) x26_2.length co9) : Value).ownBlock ∧ some k_ ≠ ((.slice Ao25 t139.length co25) : Value).ownBlock) (.slice (some ⟨go51, 0, none⟩) x46_2.length co24) x46_3) ∧ Aside0 (Below w.heap.size w w'))
                  case atStart => exact ⟨(y160), (y163), (0), (by first | rfl | (simp; done) | (simp [*]; done)), H', ⟨Nat.le_refl _⟩, ⟨by (try simp only [hl26_1]); (try simp only [hl26_2]); (try simp only [hl46_2]); (with_reducible repeat (first | apply Kd.R_alloc | apply Kd.R_drewN | apply Kd.R_drew)); exact Kd.R_mono HO_26.out (fun _ hk => ⟨hk.1.2, hk.2⟩)⟩, ⟨by (try simp only [hl26_1]); (try simp only [hl26_2]); (try simp only [hl46_2]); (with_reducible repeat (first | apply Kd.R_alloc | apply Kd.R_drewN | apply Kd.R_drew)); exact Kd.R_mono HO_44.out (fun _ hk => ⟨hk.1.1, hk.2⟩)⟩, ⟨by (try simp only [hl26_1]); (try simp only [hl26_2]); (try simp only [hl46_2]); (with_reducible repeat (first | apply Kd.R_alloc | apply Kd.R_drewN | apply Kd.R_drew)); exact Kd.R_mono HO_46.out (fun _ hk => ⟨hk.1, hk.2.2⟩)⟩, ⟨by repeat (first | (with_reducible first | exact HB.out | apply below_alloc | apply pw_below_drewN | apply below_drew1) | exact HB.out)⟩⟩
                  case round =>
                   clear H'
                   try clear c1
                   try clear p1
                   try clear q1
                   try clear hx1
                   try clear c2
                   try clear p2
                   try clear c3
                   try clear p3
                   try clear q3
                   try clear hx3
                   try clear c4
                   try clear c5
                   try clear c5b0
                   try clear c5b1
                   try clear p5
                   try clear q5
                   try clear hx5
                   try clear hf5
                   try clear c6
                   try clear c6b0
                   try clear c6b1
                   try clear p6
                   try clear c8
                   try clear c9
                   try clear c10
                   try clear c10b0
                   try clear c11
                   try clear c11b0
                   try clear c12
                   try clear c12b0
                   try clear p13
                   try clear q13
                   try clear hx13
                   try clear hf13
                   try clear p14
                   try clear q14
                   try clear hx14
                   try clear p15
                   try clear q15
                   try clear hx15
                   try clear c16
                   try clear c16b0
                   try clear c16b1
                   try clear c16b2
                   try clear p16
                   try clear q16
                   try clear hx16
                   try clear c18
                   try clear c18b0
                   try clear c18b1
                   try clear c19
                   try clear c19b0
                   try clear c19b1
                   try clear c27
                   try clear c27b0
                   try clear c28
                   try clear c28b0
                   try clear c29
                   try clear c29b0
                   try clear c30
                   try clear c30b0
                   try clear c31
                   try clear c31b0
                   try clear c32
                   try clear c32b0
                   try clear c33
                   try clear c33b0
                   try clear p34
                   try clear q34
                   try clear hx34
                   try clear hf34
                   try clear c35
                   try clear c35b0
                   try clear c36
                   try clear c36b0
                   try clear p37
                   try clear q37
                   try clear hx37
                   try clear hf37
                   try clear c44
                   try clear c44b0
                   try clear c45
                   try clear c45b0
                   try clear c46
                   try clear c46b0
                   try clear c47
                   try clear c47b0
                   try clear c48
                   try clear c48b0
                   try clear c49
                   try clear c49b0
                   try clear p50
                   try clear q50
                   try clear hx50
                   try clear hf50
                   try clear p51
                   try clear q51
                   try clear hx51
                   try clear hf51
                   try clear hx13_0
                   try clear hx149_0
                   try clear hx150_0
                   try clear hx151_0
                   try clear hx153_0
                   try clear hx154_0
                   try clear hx158_0
                   try clear hx159_0
                   try clear hx161_0
                   try clear hx162_0
                   try clear hx34_0
                   try clear hx37_0
                   try clear hx50_0
                   try clear hx51_0
                   try clear p1
                   try clear p13
                   try clear p149
                   try clear p150
                   try clear p151
                   try clear p153
                   try clear p154
                   try clear p158
                   try clear p159
                   try clear p161
                   try clear p162
                   try clear p2
                   try clear p34
                   try clear p37
                   try clear p50
                   try clear p51
                   try clear p6
                   try clear q1
                   try clear q13
                   try clear q149
                   try clear q150
                   try clear q151
                   try clear q153
                   try clear q154
                   try clear q158
                   try clear q159
                   try clear q161
                   try clear q162
                   try clear q34
                   try clear q37
                   try clear q50
                   try clear q51
                   obtain ⟨x26_3, x46_3, x106_3, rfl, HA, HK3, HO_26, HO_44, HO_46, HB⟩ := hrel
                   have hl26_3 := (Kd.R_reads' HO_26.out).1
                   rw [hl26_3] at HO_26
                   (try simp only [hl26_3])
                   (try simp only [hl26_3] at HO_44)
                   (try simp only [hl26_3] at HO_46)
                   have hl46_3 := (Kd.R_reads' HO_46.out).1
                   rw [hl46_3] at HO_46
                   (try simp only [hl46_3])
                   (try simp only [hl46_3] at HO_26)
                   (try simp only [hl46_3] at HO_44)
                   cases gk with
                   | zero => exact absurd HA.out (by simp [sais_induce.l2])
                   | succ k3 =>
                    have H := HA.out
                    clear HA
                    simp only [sais_induce.l2] at H
                    by_cases c58 : x106_3 < (l1.length : Int)
                    ·rw [if_pos c58] at H
                     have c58b0 : decide (x106_3 < (l1.length : Int)) = true := decide_eq_true c58
                     (try (have c58z0 := c58b0; simp only [hl26_1] at c58z0))
                     (try (have c58z1 := c58b0; simp only [hl26_2] at c58z1))
                     (try (have c58z2 := c58b0; simp only [hl46_2] at c58z2))
                     (try (have c58z3 := c58b0; simp only [hl26_3] at c58z3))
                     (try (have c58z4 := c58b0; simp only [hl46_3] at c58z4))
                     clear c58
                     by_cases c59 : 0 ≤ x106_3
                     ·rw [if_pos c59] at H
                      have c59b0 : decide (0 ≤ x106_3) = true := decide_eq_true c59
                      clear c59
                      by_cases c60 : x106_3 < (x26_3.length : Int)
                      ·rw [if_pos c60] at H
                       have c60b0 : decide (x106_3 < (x26_3.length : Int)) = true := decide_eq_true c60
                       (try (have c60z0 := c60b0; simp only [hl26_1] at c60z0))
                       (try (have c60z1 := c60b0; simp only [hl26_2] at c60z1))
                       (try (have c60z2 := c60b0; simp only [hl46_2] at c60z2))
                       (try (have c60z3 := c60b0; simp only [hl26_3] at c60z3))
                       (try (have c60z4 := c60b0; simp only [hl46_3] at c60z4))
                       clear c60
                       by_cases c61 : (rd x26_3 x106_3) ≤ 0
                       ·rw [if_pos c61] at H
                        have c61b0 : decide ((rd x26_3 x106_3) ≤ 0) = true := decide_eq_true c61
                        clear c61
                        have H' := Aside0.mk H
                        clear H
                        have p164 : 0 ≤ (x106_3 : Int) := of_decide_eq_true (by first | (with_reducible assumption) | assumption)
                        have q164 : x106_3 < (x26_3.length : Int) := of_decide_eq_true (by first | (with_reducible assumption) | assumption)
                        obtain ⟨ad164, e164, hx164_0⟩ := Kd.at_int (Kd.R_reads' HO_26.out).2.2 x106_3 p164 q164
                        obtain rfl : (⟨go50, 0, none⟩ : Addr) = ad164 := (by injection e164)
                        (first | simp only [add_plain] at hx164_0 | simp only [add_at] at hx164_0 | simp only [Addr.add, Nat.zero_add] at hx164_0 | skip)
                        replace p164 := eq_true p164
                        replace q164 := eq_true q164
                        go_wp2
                        (try simp only [← hl26_3, ← hl46_3])
                        go_roundg k3
                        case measure => have := HK1.out; have := HK2.out; have := HK3.out; omega
                        case rel => exact ⟨(x26_3), (x46_3), (wrap64 (x106_3 + 1)), (by first | rfl | (simp; done) | (simp [*]; done)), H', ⟨by have := HK1.out; have := HK2.out; have := HK3.out; omega⟩, ⟨by (try simp only [hl26_1]); (try simp only [hl26_2]); (try simp only [hl46_2]); (try simp only [hl26_3]); (try simp only [hl46_3]); (with_reducible repeat (first | apply Kd.R_alloc | apply Kd.R_drewN | apply Kd.R_drew)); exact HO_26.out⟩, ⟨by (try simp only [hl26_1]); (try simp only [hl26_2]); (try simp only [hl46_2]); (try simp only [hl26_3]); (try simp only [hl46_3]); (with_reducible repeat (first | apply Kd.R_alloc | apply Kd.R_drewN | apply Kd.R_drew)); exact HO_44.out⟩, ⟨by (try simp only [hl26_1]); (try simp only [hl26_2]); (try simp only [hl46_2]); (try simp only [hl26_3]); (try simp only [hl46_3]); (with_reducible repeat (first | apply Kd.R_alloc | apply Kd.R_drewN | apply Kd.R_drew)); exact HO_46.out⟩, ⟨by repeat (first | (with_reducible first | exact HB.out | apply below_alloc | apply pw_below_drewN | apply below_drew1) | exact HB.out)⟩⟩
                       ·rw [if_neg c61] at H
                        have c61b0 : decide ((rd x26_3 x106_3) ≤ 0) = false := decide_eq_false c61
                        clear c61
                        obtain ⟨ji62, hji62⟩ : ∃ j_ : Int, (wrap64 ((rd x26_3 x106_3) - 1)) = j_ := ⟨_, rfl⟩
                        replace H : (if 0 ≤ (ji62) then (if (ji62) < (l2.length : Int) then (if rdOf false l2 (ji62) = true then (sais_induce.l2 k3 l1 l2 (l1.length : Int) x26_3 t139 x46_3 (l1.length : Int) (wrap64 (x106_3 + 1))) else (if (ji62) < (l1.length : Int) then (if 0 ≤ (rd l1 (ji62)) then (if (rd l1 (ji62)) < (x46_3.length : Int) then (if 0 ≤ (rd x46_3 (rd l1 (ji62))) then (if (rd x46_3 (rd l1 (ji62))) < (x26_3.length : Int) then (sais_induce.l2 k3 l1 l2 (l1.length : Int) (x26_3.set ((rd x46_3 (rd l1 (ji62))) : Int).toNat (ji62)) t139 (x46_3.set ((rd l1 (ji62)) : Int).toNat (wrap64 ((rd x46_3 (rd l1 (ji62))) + 1))) (l1.length : Int) (wrap64 (x106_3 + 1))) else (none)) else (none)) else (none)) else (none)) else (none))) else (none)) else (none)) = some r := by first | (rw [hji62] at H; exact H) | (simp only [hji62] at H ⊢; exact H)
                        have hji62w : (IntKind.i64.wrap ((rd x26_3 x106_3) - 1)) = ji62 := (i64_w _).trans hji62
                        by_cases c63 : 0 ≤ (ji62)
                        ·rw [if_pos c63] at H
                         have c63b0 : decide (0 ≤ (ji62)) = true := decide_eq_true c63
                         clear c63
                         by_cases c64 : (ji62) < (l2.length : Int)
                         ·rw [if_pos c64] at H
                          have c64b0 : decide ((ji62) < (l2.length : Int)) = true := decide_eq_true c64
                          (try (have c64z0 := c64b0; simp only [hl26_1] at c64z0))
                          (try (have c64z1 := c64b0; simp only [hl26_2] at c64z1))
                          (try (have c64z2 := c64b0; simp only [hl46_2] at c64z2))
                          (try (have c64z3 := c64b0; simp only [hl26_3] at c64z3))
                          (try (have c64z4 := c64b0; simp only [hl46_3] at c64z4))
                          clear c64
                          obtain ⟨bq65, hbq65⟩ : ∃ b_ : Bool, b_ = (rdOf false l2 (ji62)) := ⟨_, rfl⟩
                          replace H : (if bq65 = true then (sais_induce.l2 k3 l1 l2 (l1.length : Int) x26_3 t139 x46_3 (l1.length : Int) (wrap64 (x106_3 + 1))) else (if (ji62) < (l1.length : Int) then (if 0 ≤ (rd l1 (ji62)) then (if (rd l1 (ji62)) < (x46_3.length : Int) then (if 0 ≤ (rd x46_3 (rd l1 (ji62))) then (if (rd x46_3 (rd l1 (ji62))) < (x26_3.length : Int) then (sais_induce.l2 k3 l1 l2 (l1.length : Int) (x26_3.set ((rd x46_3 (rd l1 (ji62))) : Int).toNat (ji62)) t139 (x46_3.set ((rd l1 (ji62)) : Int).toNat (wrap64 ((rd x46_3 (rd l1 (ji62))) + 1))) (l1.length : Int) (wrap64 (x106_3 + 1))) else (none)) else (none)) else (none)) else (none)) else (none))) = some r := by rw [← hbq65] at H; exact H
                          have Nbq65 := Aside0.mk hbq65
                          clear hbq65
                          by_cases c66 : bq65 = true
                          ·subst c66
                           have H1 : (sais_induce.l2 k3 l1 l2 (l1.length : Int) x26_3 t139 x46_3 (l1.length : Int) (wrap64 (x106_3 + 1))) = some r := by rw [if_pos rfl] at H; exact H
                           clear H
                           have H := H1
                           clear H1
                           have H' := Aside0.mk H
                           clear H
                           have p164 : 0 ≤ (x106_3 : Int) := of_decide_eq_true (by first | (with_reducible assumption) | assumption)
                           have q164 : x106_3 < (x26_3.length : Int) := of_decide_eq_true (by first | (with_reducible assumption) | assumption)
                           obtain ⟨ad164, e164, hx164_0⟩ := Kd.at_int (Kd.R_reads' HO_26.out).2.2 x106_3 p164 q164
                           obtain rfl : (⟨go50, 0, none⟩ : Addr) = ad164 := (by injection e164)
                           (first | simp only [add_plain] at hx164_0 | simp only [add_at] at hx164_0 | simp only [Addr.add, Nat.zero_add] at hx164_0 | skip)
                           replace p164 := eq_true p164
                           replace q164 := eq_true q164
                           have p165 : 0 ≤ ((ji62) : Int) := of_decide_eq_true (by first | (with_reducible assumption) | assumption)
                           have q165 : (ji62) < (l2.length : Int) := of_decide_eq_true (by first | (with_reducible assumption) | assumption)
                           obtain ⟨ad165, e165, hx165_0⟩ := Kd.at_bool HR2.out (ji62) p165 q165
                           (try rw [← Nbq65.out] at hx165_0)
                           cases e165
                           replace hx165_0 := (HB.out.cell (World.block_lt_of_cell? w _ hx165_0)).trans hx165_0
                           replace p165 := eq_true p165
                           replace q165 := eq_true q165
                           go_wp2
                           (try simp only [← hl26_3, ← hl46_3])
                           go_roundg k3
                           case measure => have := HK1.out; have := HK2.out; have := HK3.out; omega
                           case rel => exact ⟨(x26_3), (x46_3), (wrap64 (x106_3 + 1)), (by first | rfl | (simp; done) | (simp [*]; done)), H', ⟨by have := HK1.out; have := HK2.out; have := HK3.out; omega⟩, ⟨by (try simp only [hl26_1]); (try simp only [hl26_2]); (try simp only [hl46_2]); (try simp only [hl26_3]); (try simp only [hl46_3]); (with_reducible repeat (first | apply Kd.R_alloc | apply Kd.R_drewN | apply Kd.R_drew)); exact HO_26.out⟩, ⟨by (try simp only [hl26_1]); (try simp only [hl26_2]); (try simp only [hl46_2]); (try simp only [hl26_3]); (try simp only [hl46_3]); (with_reducible repeat (first | apply Kd.R_alloc | apply Kd.R_drewN | apply Kd.R_drew)); exact HO_44.out⟩, ⟨by (try simp only [hl26_1]); (try simp only [hl26_2]); (try simp only [hl46_2]); (try simp only [hl26_3]); (try simp only [hl46_3]); (with_reducible repeat (first | apply Kd.R_alloc | apply Kd.R_drewN | apply Kd.R_drew)); exact HO_46.out⟩, ⟨by repeat (first | (with_reducible first | exact HB.out | apply below_alloc | apply pw_below_drewN | apply below_drew1) | exact HB.out)⟩⟩
                          ·replace c66 := Bool.eq_false_iff.mpr c66
                           subst c66
                           have H1 : (if (ji62) < (l1.length : Int) then (if 0 ≤ (rd l1 (ji62)) then (if (rd l1 (ji62)) < (x46_3.length : Int) then (if 0 ≤ (rd x46_3 (rd l1 (ji62))) then (if (rd x46_3 (rd l1 (ji62))) < (x26_3.length : Int) then (sais_induce.l2 k3 l1 l2 (l1.length : Int) (x26_3.set ((rd x46_3 (rd l1 (ji62))) : Int).toNat (ji62)) t139 (x46_3.set ((rd l1 (ji62)) : Int).toNat (wrap64 ((rd x46_3 (rd l1 (ji62))) + 1))) (l1.length : Int) (wrap64 (x106_3 + 1))) else (none)) else (none)) else (none)) else (none)) else (none)) = some r := by rw [if_neg (show ¬ (false = true) by decide)] at H; exact H
                           clear H
                           have H := H1
                           clear H1
                           by_cases c67 : (ji62) < (l1.length : Int)
                           ·rw [if_pos c67] at H
                            have c67b0 : decide ((ji62) < (l1.length : Int)) = true := decide_eq_true c67
                            (try (have c67z0 := c67b0; simp only [hl26_1] at c67z0))
                            (try (have c67z1 := c67b0; simp only [hl26_2] at c67z1))
                            (try (have c67z2 := c67b0; simp only [hl46_2] at c67z2))
                            (try (have c67z3 := c67b0; simp only [hl26_3] at c67z3))
                            (try (have c67z4 := c67b0; simp only [hl46_3] at c67z4))
                            clear c67
                            by_cases c68 : 0 ≤ (rd l1 (ji62))
                            ·rw [if_pos c68] at H
                             have c68b0 : decide (0 ≤ (rd l1 (ji62))) = true := decide_eq_true c68
                             clear c68
                             by_cases c69 : (rd l1 (ji62)) < (x46_3.length : Int)
                             ·rw [if_pos c69] at H
                              have c69b0 : decide ((rd l1 (ji62)) < (x46_3.length : Int)) = true := decide_eq_true c69
                              (try (have c69z0 := c69b0; simp only [hl26_1] at c69z0))
                              (try (have c69z1 := c69b0; simp only [hl26_2] at c69z1))
                              (try (have c69z2 := c69b0; simp only [hl46_2] at c69z2))
                              (try (have c69z3 := c69b0; simp only [hl26_3] at c69z3))
                              (try (have c69z4 := c69b0; simp only [hl46_3] at c69z4))
                              clear c69
                              by_cases c70 : 0 ≤ (rd x46_3 (rd l1 (ji62)))
                              ·rw [if_pos c70] at H
                               have c70b0 : decide (0 ≤ (rd x46_3 (rd l1 (ji62)))) = true := decide_eq_true c70
                               clear c70
                               by_cases c71 : (rd x46_3 (rd l1 (ji62))) < (x26_3.length : Int)
                               ·rw [if_pos c71] at H
                                have c71b0 : decide ((rd x46_3 (rd l1 (ji62))) < (x26_3.length : Int)) = true := decide_eq_true c71
                                (try (have c71z0 := c71b0; simp only [hl26_1] at c71z0))
                                (try (have c71z1 := c71b0; simp only [hl26_2] at c71z1))
                                (try (have c71z2 := c71b0; simp only [hl46_2] at c71z2))
                                (try (have c71z3 := c71b0; simp only [hl26_3] at c71z3))
                                (try (have c71z4 := c71b0; simp only [hl46_3] at c71z4))
                                clear c71
                                obtain ⟨y168, hy168⟩ : ∃ y_ : List Int, y_ = (x26_3.set ((rd x46_3 (rd l1 (ji62))) : Int).toNat (ji62)) := ⟨_, rfl⟩
                                replace H : (sais_induce.l2 k3 l1 l2 (l1.length : Int) y168 t139 (x46_3.set ((rd l1 (ji62)) : Int).toNat (wrap64 ((rd x46_3 (rd l1 (ji62))) + 1))) (l1.length : Int) (wrap64 (x106_3 + 1))) = some r := by first | (rw [hy168]; with_reducible exact H) | (have H2_ := (Option.bind_some _ _).symm.trans H; rw [hy168]; with_reducible exact H2_) | (have H2_ := (Option.bind_some _ _).symm.trans H; with_reducible exact H2_) | with_reducible exact H | (rw [hy168]; exact H) | exact H
                                have Ny168 := Aside0.mk hy168
                                clear hy168
                                obtain ⟨y171, hy171⟩ : ∃ y_ : List Int, y_ = (x46_3.set ((rd l1 (ji62)) : Int).toNat (wrap64 ((rd x46_3 (rd l1 (ji62))) + 1))) := ⟨_, rfl⟩
                                replace H : (sais_induce.l2 k3 l1 l2 (l1.length : Int) y168 t139 y171 (l1.length : Int) (wrap64 (x106_3 + 1))) = some r := by first | (rw [hy171]; with_reducible exact H) | (have H2_ := (Option.bind_some _ _).symm.trans H; rw [hy171]; with_reducible exact H2_) | (have H2_ := (Option.bind_some _ _).symm.trans H; with_reducible exact H2_) | with_reducible exact H | (rw [hy171]; exact H) | exact H
                                have Ny171 := Aside0.mk hy171
                                clear hy171
                                have H' := Aside0.mk H
                                clear H
                                have p164 : 0 ≤ (x106_3 : Int) := of_decide_eq_true (by first | (with_reducible assumption) | assumption)
                                have q164 : x106_3 < (x26_3.length : Int) := of_decide_eq_true (by first | (with_reducible assumption) | assumption)
                                obtain ⟨ad164, e164, hx164_0⟩ := Kd.at_int (Kd.R_reads' HO_26.out).2.2 x106_3 p164 q164
                                obtain rfl : (⟨go50, 0, none⟩ : Addr) = ad164 := (by injection e164)
                                (first | simp only [add_plain] at hx164_0 | simp only [add_at] at hx164_0 | simp only [Addr.add, Nat.zero_add] at hx164_0 | skip)
                                replace p164 := eq_true p164
                                replace q164 := eq_true q164
                                have p165 : 0 ≤ ((ji62) : Int) := of_decide_eq_true (by first | (with_reducible assumption) | assumption)
                                have q165 : (ji62) < (l2.length : Int) := of_decide_eq_true (by first | (with_reducible assumption) | assumption)
                                obtain ⟨ad165, e165, hx165_0⟩ := Kd.at_bool HR2.out (ji62) p165 q165
                                (try rw [← Nbq65.out] at hx165_0)
                                cases e165
                                replace hx165_0 := (HB.out.cell (World.block_lt_of_cell? w _ hx165_0)).trans hx165_0
                                replace p165 := eq_true p165
                                replace q165 := eq_true q165
                                have p166 : 0 ≤ ((ji62) : Int) := of_decide_eq_true (by first | (with_reducible assumption) | assumption)
                                have q166 : (ji62) < (l1.length : Int) := of_decide_eq_true (by first | (with_reducible assumption) | assumption)
                                obtain ⟨ad166, e166, hx166_0⟩ := Kd.at_int HR1.out (ji62) p166 q166
                                obtain rfl : ad158 = ad166 := (by injection e166)
                                replace hx166_0 := (HB.out.cell (World.block_lt_of_cell? w _ hx166_0)).trans hx166_0
                                replace p166 := eq_true p166
                                replace q166 := eq_true q166
                                have p167 : 0 ≤ ((rd l1 (ji62)) : Int) := of_decide_eq_true (by first | (with_reducible assumption) | assumption)
                                have q167 : (rd l1 (ji62)) < (x46_3.length : Int) := of_decide_eq_true (by first | (with_reducible assumption) | assumption)
                                obtain ⟨ad167, e167, hx167_0⟩ := Kd.at_int (Kd.R_reads' HO_46.out).2.2 (rd l1 (ji62)) p167 q167
                                obtain rfl : (⟨go51, 0, none⟩ : Addr) = ad167 := (by injection e167)
                                (first | simp only [add_plain] at hx167_0 | simp only [add_at] at hx167_0 | simp only [Addr.add, Nat.zero_add] at hx167_0 | skip)
                                replace p167 := eq_true p167
                                replace q167 := eq_true q167
                                have p72 : 0 ≤ ((rd x46_3 (rd l1 (ji62))) : Int) := of_decide_eq_true (by first | (with_reducible assumption) | assumption)
                                have q72 : ((rd x46_3 (rd l1 (ji62))) : Int) < ((x26_3.length : Int) : Int) := of_decide_eq_true (by first | (with_reducible assumption) | assumption)
                                obtain ⟨hx72_0, hf72_0⟩ := Kd.R_celln 0 HO_26.out ((rd x46_3 (rd l1 (ji62))) : Int) p72 q72
                                replace p72 := eq_true p72
                                replace q72 := eq_true q72
                                have HP74 := Kd.R_putg HO_26.out ((rd x46_3 (rd l1 (ji62))) : Int) ji62
                                go_wp2_with (first | ((with_reducible refine gate_store (t := 3) (p := 133) rfl ?_); refine store_event (t := 3) (p := 133) (v := ?vo_w75) (w1 := (wr.setCell ⟨go50, ((rd x46_3 (rd l1 (ji62))) : Int).toNat, none⟩ (.int .i64 ji62))) ?hg ?ho ?hn ?hr ?_; (case ho => rfl); (case hg => rfl); (case hn => rfl); (case hr => first | (go_simp; done) | (go_simp; rfl)); intro w75 hw; have hg : wr.grownBy w75 (some go50) := (by rw [hw]; exact HP74.2); have hp_ : Kd.R (Kd.int .i64) 3 w75 w.heap.size (fun k_ => some k_ ≠ (.slice Ao25 t139.length co25 : Value).ownBlock ∧ some k_ ≠ (.slice (some ⟨go51, 0, none⟩) x46_3.length co24 : Value).ownBlock) (.slice (some ⟨go50, 0, none⟩) x26_3.length co9) y168 := (by rw [hw, Ny168.out]; exact HP74.1); clear HP74; have n0_ := Aside0.mk (hp_); have n1_ := Aside0.mk (Kd.R_after (v := (.slice (some ⟨go50, 0, none⟩) x26_3.length co9)) (v1 := (.slice (some ⟨go50, 0, none⟩) x26_3.length co9)) (ok := (fun k_ => some k_ ≠ (.slice (some ⟨go51, 0, none⟩) x46_3.length co24 : Value).ownBlock)) (by (with_reducible repeat (first | apply Kd.R_alloc | apply Kd.R_drewN | apply Kd.R_drew)); exact Kd.R_mono HO_44.out (fun _ hk => ⟨hk.2, hk.1⟩)) hg (.inl rfl)); have n2_ := Aside0.mk (Kd.R_after (v := (.slice (some ⟨go50, 0, none⟩) x26_3.length co9)) (v1 := (.slice (some ⟨go50, 0, none⟩) x26_3.length co9)) (ok := (fun k_ => some k_ ≠ (.slice Ao25 t139.length co25 : Value).ownBlock)) (by (with_reducible repeat (first | apply Kd.R_alloc | apply Kd.R_drewN | apply Kd.R_drew)); exact Kd.R_mono HO_46.out (fun _ hk => ⟨hk.2, hk.1⟩)) hg (.inl rfl)); have n3_ := Aside0.mk ((by rw [hw]; exact below_set (HB.out) GB50.out : Below w.heap.size w w75)); clear HO_26; clear HO_44; clear HO_46; clear HB; have HO_26 := n0_; have HO_44 := n1_; have HO_46 := n2_; have HB := n3_; clear n0_ n1_ n2_ n3_; clear hg hw hp_; have p169 : 0 ≤ ((ji62) : Int) := of_decide_eq_true (by first | (with_reducible assumption) | assumption); have q169 : (ji62) < (l1.length : Int) := of_decide_eq_true (by first | (with_reducible assumption) | assumption); obtain ⟨ad169, e169, hx169_0⟩ := Kd.at_int HR1.out (ji62) p169 q169; obtain rfl : ad158 = ad169 := (by injection e169); replace hx169_0 := (HB.out.cell (World.block_lt_of_cell? w _ hx169_0)).trans hx169_0; replace p169 := eq_true p169; replace q169 := eq_true q169; have p170 : 0 ≤ ((rd l1 (ji62)) : Int) := of_decide_eq_true (by first | (with_reducible assumption) | assumption); have q170 : (rd l1 (ji62)) < (x46_3.length : Int) := of_decide_eq_true (by first | (with_reducible assumption) | assumption); obtain ⟨ad170, e170, hx170_0⟩ := Kd.at_int (Kd.R_reads' HO_46.out).2.2 (rd l1 (ji62)) p170 q170; obtain rfl : (⟨go51, 0, none⟩ : Addr) = ad170 := (by injection e170); (first | simp only [add_plain] at hx170_0 | simp only [add_at] at hx170_0 | simp only [Addr.add, Nat.zero_add] at hx170_0 | skip); replace p170 := eq_true p170; replace q170 := eq_true q170; have p73 : 0 ≤ ((rd l1 (ji62)) : Int) := of_decide_eq_true (by first | (with_reducible assumption) | assumption); have q73 : ((rd l1 (ji62)) : Int) < ((x46_3.length : Int) : Int) := of_decide_eq_true (by first | (with_reducible assumption) | assumption); obtain ⟨hx73_0, hf73_0⟩ := Kd.R_celln 0 HO_46.out ((rd l1 (ji62)) : Int) p73 q73; replace p73 := eq_true p73; replace q73 := eq_true q73; obtain ⟨hy76_, hz76_⟩ := Kd.R_celln 0 HO_46.out ((rd l1 (ji62)) : Int) (of_decide_eq_true (by first | (with_reducible assumption) | assumption)) (of_decide_eq_true (by first | (with_reducible assumption) | assumption)); have HP76 := Kd.R_putg HO_46.out ((rd l1 (ji62)) : Int) (wrap64 ((rd x46_3 (rd l1 (ji62))) + 1))) | ((with_reducible refine gate_store (t := 3) (p := 143) rfl ?_); refine store_event (t := 3) (p := 143) (v := ?vo_w77) (w1 := (w75.setCell ⟨go51, ((rd l1 (ji62)) : Int).toNat, none⟩ (.int .i64 (wrap64 ((rd x46_3 (rd l1 (ji62))) + 1))))) ?hg ?ho ?hn ?hr ?_; (case ho => rfl); (case hg => rfl); (case hn => rfl); (case hr => first | (go_simp; done) | (go_simp; rfl)); intro w77 hw; have hg : w75.grownBy w77 (some go51) := (by rw [hw]; exact HP76.2); have hp_ : Kd.R (Kd.int .i64) 3 w77 w.heap.size (fun k_ => some k_ ≠ (.slice Ao25 t139.length co25 : Value).ownBlock ∧ some k_ ≠ (.slice (some ⟨go50, 0, none⟩) x26_3.length co9 : Value).ownBlock) (.slice (some ⟨go51, 0, none⟩) x46_3.length co24) y171 := (by rw [hw, Ny171.out]; exact HP76.1); clear HP76; have n0_ := Aside0.mk (Kd.R_after (v := (.slice (some ⟨go51, 0, none⟩) x46_3.length co24)) (v1 := (.slice (some ⟨go51, 0, none⟩) x46_3.length co24)) (ok := (fun k_ => some k_ ≠ (.slice Ao25 t139.length co25 : Value).ownBlock)) (by (with_reducible repeat (first | apply Kd.R_alloc | apply Kd.R_drewN | apply Kd.R_drew)); exact HO_26.out) hg (.inl rfl)); have n1_ := Aside0.mk (Kd.R_after (v := (.slice (some ⟨go51, 0, none⟩) x46_3.length co24)) (v1 := (.slice (some ⟨go51, 0, none⟩) x46_3.length co24)) (ok := (fun k_ => some k_ ≠ (.slice (some ⟨go50, 0, none⟩) x26_3.length co9 : Value).ownBlock)) (by (with_reducible repeat (first | apply Kd.R_alloc | apply Kd.R_drewN | apply Kd.R_drew)); exact Kd.R_mono HO_44.out (fun _ hk => ⟨hk.2, hk.1⟩)) hg (.inl rfl)); have n2_ := Aside0.mk (hp_); have n3_ := Aside0.mk ((by rw [hw]; exact below_set (HB.out) GB51.out : Below w.heap.size w w77)); clear HO_26; clear HO_44; clear HO_46; clear HB; have HO_26 := n0_; have HO_44 := n1_; have HO_46 := n2_; have HB := n3_; clear n0_ n1_ n2_ n3_; clear hg hw hp_))
                                (try simp only [← hl26_3, ← hl46_3])
                                go_roundg k3
                                case measure => have := HK1.out; have := HK2.out; have := HK3.out; omega
                                case rel => exact ⟨(y168), (y171), (wrap64 (x106_3 + 1)), (by first | rfl | (simp; done) | (simp [*]; done)), H', ⟨by have := HK1.out; have := HK2.out; have := HK3.out; omega⟩, ⟨by (try simp only [hl26_1]); (try simp only [hl26_2]); (try simp only [hl46_2]); (try simp only [hl26_3]); (try simp only [hl46_3]); (with_reducible repeat (first | apply Kd.R_alloc | apply Kd.R_drewN | apply Kd.R_drew)); exact HO_26.out⟩, ⟨by (try simp only [hl26_1]); (try simp only [hl26_2]); (try simp only [hl46_2]); (try simp only [hl26_3]); (try simp only [hl46_3]); (with_reducible repeat (first | apply Kd.R_alloc | apply Kd.R_drewN | apply Kd.R_drew)); exact HO_44.out⟩, ⟨by (try simp only [hl26_1]); (try simp only [hl26_2]); (try simp only [hl46_2]); (try simp only [hl26_3]); (try simp only [hl46_3]); (with_reducible repeat (first | apply Kd.R_alloc | apply Kd.R_drewN | apply Kd.R_drew)); exact Kd.R_mono HO_46.out (fun _ hk => ⟨hk.2, hk.1⟩)⟩, ⟨by repeat (first | (with_reducible first | exact HB.out | apply below_alloc | apply pw_below_drewN | apply below_drew1) | exact HB.out)⟩⟩
                               ·rw [if_neg c71] at H
                                exact absurd H (by simp)
                              ·rw [if_neg c70] at H
                               exact absurd H (by simp)
                             ·rw [if_neg c69] at H
                              exact absurd H (by simp)
                            ·rw [if_neg c68] at H
                             exact absurd H (by simp)
                           ·rw [if_neg c67] at H
                            exact absurd H (by simp)
                         ·rw [if_neg c64] at H
                          exact absurd H (by simp)
                        ·rw [if_neg c63] at H
                         exact absurd H (by simp)
                      ·rw [if_neg c60] at H
                       exact absurd H (by simp)
                     ·rw [if_neg c59] at H
                      exact absurd H (by simp)
                    ·rw [if_neg c58] at H
                     have c58b0 : decide (x106_3 < (l1.length : Int)) = false := decide_eq_false c58
                     (try (have c58z0 := c58b0; simp only [hl26_1] at c58z0))
                     (try (have c58z1 := c58b0; simp only [hl26_2] at c58z1))
                     (try (have c58z2 := c58b0; simp only [hl46_2] at c58z2))
                     (try (have c58z3 := c58b0; simp only [hl26_3] at c58z3))
                     (try (have c58z4 := c58b0; simp only [hl46_3] at c58z4))
                     clear c58
                     have H' := Aside0.mk H
                     clear H
                     go_wp2
                     go_loopg [147] k3 (fun kq v147 w' => ∃ (x26_4 : List Int) (x147_4 : Int), v147 = .int .i64 x147_4 ∧ Aside0 (sais_induce.l3 kq l1 l2 (l1.length : Int) x26_4 t139 x46_3 (x26_3.length : Int) x147_4 = some r) ∧ Aside0 (kq ≤ k3) ∧ Aside0 (Kd.R (Kd.int .i64) 3 w' w.heap.size (fun k_ => some k_ ≠ ((.slice Ao25 t139.length co25) : Value).ownBlock ∧ some k_ ≠ ((.slice (some ⟨go51, 0, none⟩) x46_3.length co24) : Value).ownBlock) (.slice (some ⟨go50, 0, none⟩) x26_3.length co9) x26_4) ∧ Aside0 (Kd.R (Kd.int .i64) 3 w' w.heap.size (fun k_ => some k_ ≠ ((.slice (some ⟨go50, 0, none⟩) x26_3.length co9) : Value).ownBlock ∧ some k_ ≠ ((.slice (some ⟨go51, 0, none⟩) x46_3.length co24) : Value).ownBlock) (.slice Ao25 t139.length co25) t139) ∧ Aside0 (Kd.R (Kd.int .i64) 3 w' w.heap.size (fun k_ => some k_ ≠ ((.slice (some ⟨go50, 0, none⟩) x26_3.length co9) : Value).ownBlock ∧ some k_ ≠ ((.slice Ao25 t139.length co25) : Value).ownBlock) (.slice (some ⟨go51, 0, none⟩) x46_3.length co24) x46_3) ∧ Aside0 (Below w.heap.size w w'))
                     case atStart => exact ⟨(x26_3), (0), (by first | rfl | (simp; done) | (simp [*]; done)), H', ⟨Nat.le_refl _⟩, ⟨by (try simp only [hl26_1]); (try simp only [hl26_2]); (try simp only [hl46_2]); (try simp only [hl26_3]); (try simp only [hl46_3]); (with_reducible repeat (first | apply Kd.R_alloc | apply Kd.R_drewN | apply Kd.R_drew)); exact HO_26.out⟩, ⟨by (try simp only [hl26_1]); (try simp only [hl26_2]); (try simp only [hl46_2]); (try simp only [hl26_3]); (try simp only [hl46_3]); (with_reducible repeat (first | apply Kd.R_alloc | apply Kd.R_drewN | apply Kd.R_drew)); exact HO_44.out⟩, ⟨by (try simp only [hl26_1]); (try simp only [hl26_2]); (try simp only [hl46_2]); (try simp only [hl26_3]); (try simp only [hl46_3]); (with_reducible repeat (first | apply Kd.R_alloc | apply Kd.R_drewN | apply Kd.R_drew)); exact HO_46.out⟩, ⟨by repeat (first | (with_reducible first | exact HB.out | apply below_alloc | apply pw_below_drewN | apply below_drew1) | exact HB.out)⟩⟩
                     case round =>
                      clear H'
                      try clear c1
                      try clear p1
                      try clear q1
                      try clear hx1
                      try clear c2
                      try clear p2
                      try clear c3
                      try clear p3
                      try clear q3
                      try clear hx3
                      try clear c4
                      try clear c5
                      try clear c5b0
                      try clear c5b1
                      try clear p5
                      try clear q5
                      try clear hx5
                      try clear hf5
                      try clear c6
                      try clear c6b0
                      try clear c6b1
                      try clear p6
                      try clear q6
                      try clear c7
                      try clear p7
                      try clear q7
                      try clear hx7
                      try clear hf7
                      try clear c8
                      try clear c9
                      try clear c10
                      try clear c10b0
                      try clear c11
                      try clear c11b0
                      try clear c12
                      try clear c12b0
                      try clear p13
                      try clear q13
                      try clear hx13
                      try clear hf13
                      try clear p14
                      try clear q14
                      try clear hx14
                      try clear p15
                      try clear q15
                      try clear hx15
                      try clear c16
                      try clear c16b0
                      try clear c16b1
                      try clear c16b2
                      try clear p16
                      try clear q16
                      try clear hx16
                      try clear p17
                      try clear q17
                      try clear hx17
                      try clear c18
                      try clear c18b0
                      try clear c18b1
                      try clear c19
                      try clear c19b0
                      try clear c19b1
                      try clear c27
                      try clear c27b0
                      try clear c28
                      try clear c28b0
                      try clear c29
                      try clear c29b0
                      try clear c30
                      try clear c30b0
                      try clear c31
                      try clear c31b0
                      try clear c32
                      try clear c32b0
                      try clear c33
                      try clear c33b0
                      try clear p34
                      try clear q34
                      try clear hx34
                      try clear hf34
                      try clear c35
                      try clear c35b0
                      try clear c36
                      try clear c36b0
                      try clear p37
                      try clear q37
                      try clear hx37
                      try clear hf37
                      try clear c44
                      try clear c44b0
                      try clear c45
                      try clear c45b0
                      try clear c46
                      try clear c46b0
                      try clear c47
                      try clear c47b0
                      try clear c48
                      try clear c48b0
                      try clear c49
                      try clear c49b0
                      try clear p50
                      try clear q50
                      try clear hx50
                      try clear hf50
                      try clear p51
                      try clear q51
                      try clear hx51
                      try clear hf51
                      try clear c58
                      try clear c58b0
                      try clear c59
                      try clear c59b0
                      try clear c60
                      try clear c60b0
                      try clear c61
                      try clear c61b0
                      try clear c63
                      try clear c63b0
                      try clear c64
                      try clear c64b0
                      try clear p64
                      try clear q65
                      try clear c66
                      try clear c67
                      try clear c67b0
                      try clear c68
                      try clear c68b0
                      try clear c69
                      try clear c69b0
                      try clear c70
                      try clear c70b0
                      try clear c71
                      try clear c71b0
                      try clear p72
                      try clear q72
                      try clear hx72
                      try clear hf72
                      try clear p73
                      try clear q73
                      try clear hx73
                      try clear hf73
                      try clear hx13_0
                      try clear hx149_0
                      try clear hx150_0
                      try clear hx151_0
                      try clear hx153_0
                      try clear hx154_0
                      try clear hx158_0
                      try clear hx159_0
                      try clear hx161_0
                      try clear hx162_0
                      try clear hx164_0
                      try clear hx165_0
                      try clear hx166_0
                      try clear hx167_0
                      try clear hx169_0
                      try clear hx170_0
                      try clear hx34_0
                      try clear hx37_0
                      try clear hx50_0
                      try clear hx51_0
                      try clear hx72_0
                      try clear hx73_0
                      try clear p1
                      try clear p13
                      try clear p14
                      try clear p149
                      try clear p15
                      try clear p150
                      try clear p151
                      try clear p153
                      try clear p154
                      try clear p158
                      try clear p159
                      try clear p16
                      try clear p161
                      try clear p162
                      try clear p164
                      try clear p165
                      try clear p166
                      try clear p167
                      try clear p169
                      try clear p170
                      try clear p2
                      try clear p3
                      try clear p34
                      try clear p37
                      try clear p5
                      try clear p50
                      try clear p51
                      try clear p6
                      try clear p72
                      try clear p73
                      try clear q1
                      try clear q13
                      try clear q14
                      try clear q149
                      try clear q15
                      try clear q150
                      try clear q151
                      try clear q153
                      try clear q154
                      try clear q158
                      try clear q159
                      try clear q16
                      try clear q161
                      try clear q162
                      try clear q164
                      try clear q165
                      try clear q166
                      try clear q167
                      try clear q169
                      try clear q170
                      try clear q3
                      try clear q34
                      try clear q37
                      try clear q5
                      try clear q50
                      try clear q51
                      try clear q72
                      try clear q73
                      obtain ⟨x26_4, x147_4, rfl, HA, HK4, HO_26, HO_44, HO_46, HB⟩ := hrel
                      have hl26_4 := (Kd.R_reads' HO_26.out).1
                      rw [hl26_4] at HO_26
                      (try simp only [hl26_4])
                      (try simp only [hl26_4] at HO_44)
                      (try simp only [hl26_4] at HO_46)
                      cases gk with
                      | zero => exact absurd HA.out (by simp [sais_induce.l3])
                      | succ k4 =>
                       have H := HA.out
                       clear HA
                       simp only [sais_induce.l3] at H
                       by_cases c78 : x147_4 < (x26_3.length : Int)
                       ·rw [if_pos c78] at H
                        have c78b0 : decide (x147_4 < (x26_3.length : Int)) = true := decide_eq_true c78
                        (try (have c78z0 := c78b0; simp only [hl26_1] at c78z0))
                        (try (have c78z1 := c78b0; simp only [hl26_2] at c78z1))
                        (try (have c78z2 := c78b0; simp only [hl46_2] at c78z2))
                        (try (have c78z3 := c78b0; simp only [hl26_3] at c78z3))
                        (try (have c78z4 := c78b0; simp only [hl46_3] at c78z4))
                        (try (have c78z5 := c78b0; simp only [hl26_4] at c78z5))
                        clear c78
                        by_cases c79 : 0 ≤ x147_4
                        ·rw [if_pos c79] at H
                         have c79b0 : decide (0 ≤ x147_4) = true := decide_eq_true c79
                         clear c79
                         by_cases c80 : x147_4 < (x26_4.length : Int)
                         ·rw [if_pos c80] at H
                          have c80b0 : decide (x147_4 < (x26_4.length : Int)) = true := decide_eq_true c80
                          (try (have c80z0 := c80b0; simp only [hl26_1] at c80z0))
                          (try (have c80z1 := c80b0; simp only [hl26_2] at c80z1))
                          (try (have c80z2 := c80b0; simp only [hl46_2] at c80z2))
                          (try (have c80z3 := c80b0; simp only [hl26_3] at c80z3))
                          (try (have c80z4 := c80b0; simp only [hl46_3] at c80z4))
                          (try (have c80z5 := c80b0; simp only [hl26_4] at c80z5))
                          clear c80
                          by_cases c81 : (rd x26_4 x147_4) = (-1)
                          ·rw [if_pos c81] at H
                           have c81b0 : ((rd x26_4 x147_4) == (-1)) = true := beq_iff_eq.mpr c81
                           have c81b1 : ((rd x26_4 x147_4) != (-1)) = false := bne_eq_false_iff_eq.mpr c81
                           clear c81
                           have H' := Aside0.mk H
                           clear H
                           have p172 : 0 ≤ (x147_4 : Int) := of_decide_eq_true (by first | (with_reducible assumption) | assumption)
                           have q172 : x147_4 < (x26_4.length : Int) := of_decide_eq_true (by first | (with_reducible assumption) | assumption)
                           obtain ⟨ad172, e172, hx172_0⟩ := Kd.at_int (Kd.R_reads' HO_26.out).2.2 x147_4 p172 q172
                           obtain rfl : (⟨go50, 0, none⟩ : Addr) = ad172 := (by injection e172)
                           (first | simp only [add_plain] at hx172_0 | simp only [add_at] at hx172_0 | simp only [Addr.add, Nat.zero_add] at hx172_0 | skip)
                           replace p172 := eq_true p172
                           replace q172 := eq_true q172
                           go_wp2
                           (try simp only [← hl26_4])
                           go_roundg k4
                           case measure => have := HK1.out; have := HK2.out; have := HK3.out; have := HK4.out; omega
                           case rel => exact ⟨(x26_4), (wrap64 (x147_4 + 1)), (by first | rfl | (simp; done) | (simp [*]; done)), H', ⟨by have := HK1.out; have := HK2.out; have := HK3.out; have := HK4.out; omega⟩, ⟨by (try simp only [hl26_1]); (try simp only [hl26_2]); (try simp only [hl46_2]); (try simp only [hl26_3]); (try simp only [hl46_3]); (try simp only [hl26_4]); (with_reducible repeat (first | apply Kd.R_alloc | apply Kd.R_drewN | apply Kd.R_drew)); exact HO_26.out⟩, ⟨by (try simp only [hl26_1]); (try simp only [hl26_2]); (try simp only [hl46_2]); (try simp only [hl26_3]); (try simp only [hl46_3]); (try simp only [hl26_4]); (with_reducible repeat (first | apply Kd.R_alloc | apply Kd.R_drewN | apply Kd.R_drew)); exact HO_44.out⟩, ⟨by (try simp only [hl26_1]); (try simp only [hl26_2]); (try simp only [hl46_2]); (try simp only [hl26_3]); (try simp only [hl46_3]); (try simp only [hl26_4]); (with_reducible repeat (first | apply Kd.R_alloc | apply Kd.R_drewN | apply Kd.R_drew)); exact HO_46.out⟩, ⟨by repeat (first | (with_reducible first | exact HB.out | apply below_alloc | apply pw_below_drewN | apply below_drew1) | exact HB.out)⟩⟩
                          ·rw [if_neg c81] at H
                           have c81b0 : ((rd x26_4 x147_4) == (-1)) = false := beq_eq_false_iff_ne.mpr c81
                           have c81b1 : ((rd x26_4 x147_4) != (-1)) = true := bne_iff_ne.mpr c81
                           by_cases c82 : 0 ≤ (rd x26_4 x147_4)
                           ·rw [if_pos c82] at H
                            have c82b0 : decide (0 ≤ (rd x26_4 x147_4)) = true := decide_eq_true c82
                            clear c82
                            by_cases c83 : (rd x26_4 x147_4) < (l2.length : Int)
                            ·rw [if_pos c83] at H
                             have c83b0 : decide ((rd x26_4 x147_4) < (l2.length : Int)) = true := decide_eq_true c83
                             (try (have c83z0 := c83b0; simp only [hl26_1] at c83z0))
                             (try (have c83z1 := c83b0; simp only [hl26_2] at c83z1))
                             (try (have c83z2 := c83b0; simp only [hl46_2] at c83z2))
                             (try (have c83z3 := c83b0; simp only [hl26_3] at c83z3))
                             (try (have c83z4 := c83b0; simp only [hl46_3] at c83z4))
                             (try (have c83z5 := c83b0; simp only [hl26_4] at c83z5))
                             clear c83
                             obtain ⟨bq84, hbq84⟩ : ∃ b_ : Bool, b_ = (rdOf false l2 (rd x26_4 x147_4)) := ⟨_, rfl⟩
                             replace H : (if bq84 = true then (sais_induce.l3 k4 l1 l2 (l1.length : Int) (x26_4.set (x147_4 : Int).toNat (-1)) t139 x46_3 (x26_3.length : Int) (wrap64 (x147_4 + 1))) else (sais_induce.l3 k4 l1 l2 (l1.length : Int) x26_4 t139 x46_3 (x26_3.length : Int) (wrap64 (x147_4 + 1)))) = some r := by rw [← hbq84] at H; exact H
                             have Nbq84 := Aside0.mk hbq84
                             clear hbq84
                             by_cases c85 : bq84 = true
                             ·subst c85
                              have H1 : (sais_induce.l3 k4 l1 l2 (l1.length : Int) (x26_4.set (x147_4 : Int).toNat (-1)) t139 x46_3 (x26_3.length : Int) (wrap64 (x147_4 + 1))) = some r := by rw [if_pos rfl] at H; exact H
                              clear H
                              have H := H1
                              clear H1
                              obtain ⟨y174, hy174⟩ : ∃ y_ : List Int, y_ = (x26_4.set (x147_4 : Int).toNat (-1)) := ⟨_, rfl⟩
                              replace H : (sais_induce.l3 k4 l1 l2 (l1.length : Int) y174 t139 x46_3 (x26_3.length : Int) (wrap64 (x147_4 + 1))) = some r := by first | (rw [hy174]; with_reducible exact H) | (have H2_ := (Option.bind_some _ _).symm.trans H; rw [hy174]; with_reducible exact H2_) | (have H2_ := (Option.bind_some _ _).symm.trans H; with_reducible exact H2_) | with_reducible exact H | (rw [hy174]; exact H) | exact H
                              have Ny174 := Aside0.mk hy174
                              clear hy174
                              have H' := Aside0.mk H
                              clear H
                              have p172 : 0 ≤ (x147_4 : Int) := of_decide_eq_true (by first | (with_reducible assumption) | assumption)
                              have q172 : x147_4 < (x26_4.length : Int) := of_decide_eq_true (by first | (with_reducible assumption) | assumption)
                              obtain ⟨ad172, e172, hx172_0⟩ := Kd.at_int (Kd.R_reads' HO_26.out).2.2 x147_4 p172 q172
                              obtain rfl : (⟨go50, 0, none⟩ : Addr) = ad172 := (by injection e172)
                              (first | simp only [add_plain] at hx172_0 | simp only [add_at] at hx172_0 | simp only [Addr.add, Nat.zero_add] at hx172_0 | skip)
                              replace p172 := eq_true p172
                              replace q172 := eq_true q172
                              have p173 : 0 ≤ ((rd x26_4 x147_4) : Int) := of_decide_eq_true (by first | (with_reducible assumption) | assumption)
                              have q173 : (rd x26_4 x147_4) < (l2.length : Int) := of_decide_eq_true (by first | (with_reducible assumption) | assumption)
                              obtain ⟨ad173, e173, hx173_0⟩ := Kd.at_bool HR2.out (rd x26_4 x147_4) p173 q173
                              (try rw [← Nbq84.out] at hx173_0)
                              cases e173
                              replace hx173_0 := (HB.out.cell (World.block_lt_of_cell? w _ hx173_0)).trans hx173_0
                              replace p173 := eq_true p173
                              replace q173 := eq_true q173
                              have p86 : 0 ≤ (x147_4 : Int) := of_decide_eq_true (by first | (with_reducible assumption) | assumption)
                              have q86 : (x147_4 : Int) < ((x26_4.length : Int) : Int) := of_decide_eq_true (by first | (with_reducible assumption) | assumption)
                              obtain ⟨hx86_0, hf86_0⟩ := Kd.R_celln 0 HO_26.out (x147_4 : Int) p86 q86
                              replace p86 := eq_true p86
                              replace q86 := eq_true q86
                              have HP87 := Kd.R_putg HO_26.out (x147_4 : Int) (-1)
                              go_wp2_with (first | ((with_reducible refine gate_store (t := 3) (p := 162) rfl ?_); refine store_event (t := 3) (p := 162) (v := ?vo_w88) (w1 := (wr.setCell ⟨go50, (x147_4 : Int).toNat, none⟩ (.int .i64 (-1)))) ?hg ?ho ?hn ?hr ?_; (case ho => rfl); (case hg => rfl); (case hn => rfl); (case hr => first | (go_simp; done) | (go_simp; rfl)); intro w88 hw; have hg : wr.grownBy w88 (some go50) := (by rw [hw]; exact HP87.2); have hp_ : Kd.R (Kd.int .i64) 3 w88 w.heap.size (fun k_ => some k_ ≠ (.slice Ao25 t139.length co25 : Value).ownBlock ∧ some k_ ≠ (.slice (some ⟨go51, 0, none⟩) x46_3.length co24 : Value).ownBlock) (.slice (some ⟨go50, 0, none⟩) x26_4.length co9) y174 := (by rw [hw, Ny174.out]; exact HP87.1); clear HP87; have n0_ := Aside0.mk (hp_); have n1_ := Aside0.mk (Kd.R_after (v := (.slice (some ⟨go50, 0, none⟩) x26_4.length co9)) (v1 := (.slice (some ⟨go50, 0, none⟩) x26_4.length co9)) (ok := (fun k_ => some k_ ≠ (.slice (some ⟨go51, 0, none⟩) x46_3.length co24 : Value).ownBlock)) (by (with_reducible repeat (first | apply Kd.R_alloc | apply Kd.R_drewN | apply Kd.R_drew)); exact Kd.R_mono HO_44.out (fun _ hk => ⟨hk.2, hk.1⟩)) hg (.inl rfl)); have n2_ := Aside0.mk (Kd.R_after (v := (.slice (some ⟨go50, 0, none⟩) x26_4.length co9)) (v1 := (.slice (some ⟨go50, 0, none⟩) x26_4.length co9)) (ok := (fun k_ => some k_ ≠ (.slice Ao25 t139.length co25 : Value).ownBlock)) (by (with_reducible repeat (first | apply Kd.R_alloc | apply Kd.R_drewN | apply Kd.R_drew)); exact Kd.R_mono HO_46.out (fun _ hk => ⟨hk.2, hk.1⟩)) hg (.inl rfl)); have n3_ := Aside0.mk ((by rw [hw]; exact below_set (HB.out) GB50.out : Below w.heap.size w w88)); clear HO_26; clear HO_44; clear HO_46; clear HB; have HO_26 := n0_; have HO_44 := n1_; have HO_46 := n2_; have HB := n3_; clear n0_ n1_ n2_ n3_; clear hg hw hp_))
                              (try simp only [← hl26_4])
                              go_roundg k4
                              case measure => have := HK1.out; have := HK2.out; have := HK3.out; have := HK4.out; omega
                              case rel => exact ⟨(y174), (wrap64 (x147_4 + 1)), (by first | rfl | (simp; done) | (simp [*]; done)), H', ⟨by have := HK1.out; have := HK2.out; have := HK3.out; have := HK4.out; omega⟩, ⟨by (try simp only [hl26_1]); (try simp only [hl26_2]); (try simp only [hl46_2]); (try simp only [hl26_3]); (try simp only [hl46_3]); (try simp only [hl26_4]); (with_reducible repeat (first | apply Kd.R_alloc | apply Kd.R_drewN | apply Kd.R_drew)); exact HO_26.out⟩, ⟨by (try simp only [hl26_1]); (try simp only [hl26_2]); (try simp only [hl46_2]); (try simp only [hl26_3]); (try simp only [hl46_3]); (try simp only [hl26_4]); (with_reducible repeat (first | apply Kd.R_alloc | apply Kd.R_drewN | apply Kd.R_drew)); exact Kd.R_mono HO_44.out (fun _ hk => ⟨hk.2, hk.1⟩)⟩, ⟨by (try simp only [hl26_1]); (try simp only [hl26_2]); (try simp only [hl46_2]); (try simp only [hl26_3]); (try simp only [hl46_3]); (try simp only [hl26_4]); (with_reducible repeat (first | apply Kd.R_alloc | apply Kd.R_drewN | apply Kd.R_drew)); exact Kd.R_mono HO_46.out (fun _ hk => ⟨hk.2, hk.1⟩)⟩, ⟨by repeat (first | (with_reducible first | exact HB.out | apply below_alloc | apply pw_below_drewN | apply below_drew1) | exact HB.out)⟩⟩
                             ·replace c85 := Bool.eq_false_iff.mpr c85
                              subst c85
                              have H1 : (sais_induce.l3 k4 l1 l2 (l1.length : Int) x26_4 t139 x46_3 (x26_3.length : Int) (wrap64 (x147_4 + 1))) = some r := by rw [if_neg (show ¬ (false = true) by decide)] at H; exact H
                              clear H
                              have H := H1
                              clear H1
                              have H' := Aside0.mk H
                              clear H
                              have p172 : 0 ≤ (x147_4 : Int) := of_decide_eq_true (by first | (with_reducible assumption) | assumption)
                              have q172 : x147_4 < (x26_4.length : Int) := of_decide_eq_true (by first | (with_reducible assumption) | assumption)
                              obtain ⟨ad172, e172, hx172_0⟩ := Kd.at_int (Kd.R_reads' HO_26.out).2.2 x147_4 p172 q172
                              obtain rfl : (⟨go50, 0, none⟩ : Addr) = ad172 := (by injection e172)
                              (first | simp only [add_plain] at hx172_0 | simp only [add_at] at hx172_0 | simp only [Addr.add, Nat.zero_add] at hx172_0 | skip)
                              replace p172 := eq_true p172
                              replace q172 := eq_true q172
                              have p173 : 0 ≤ ((rd x26_4 x147_4) : Int) := of_decide_eq_true (by first | (with_reducible assumption) | assumption)
                              have q173 : (rd x26_4 x147_4) < (l2.length : Int) := of_decide_eq_true (by first | (with_reducible assumption) | assumption)
                              obtain ⟨ad173, e173, hx173_0⟩ := Kd.at_bool HR2.out (rd x26_4 x147_4) p173 q173
                              (try rw [← Nbq84.out] at hx173_0)
                              cases e173
                              replace hx173_0 := (HB.out.cell (World.block_lt_of_cell? w _ hx173_0)).trans hx173_0
                              replace p173 := eq_true p173
                              replace q173 := eq_true q173
                              go_wp2
                              (try simp only [← hl26_4])
                              go_roundg k4
                              case measure => have := HK1.out; have := HK2.out; have := HK3.out; have := HK4.out; omega
                              case rel => exact ⟨(x26_4), (wrap64 (x147_4 + 1)), (by first | rfl | (simp; done) | (simp [*]; done)), H', ⟨by have := HK1.out; have := HK2.out; have := HK3.out; have := HK4.out; omega⟩, ⟨by (try simp only [hl26_1]); (try simp only [hl26_2]); (try simp only [hl46_2]); (try simp only [hl26_3]); (try simp only [hl46_3]); (try simp only [hl26_4]); (with_reducible repeat (first | apply Kd.R_alloc | apply Kd.R_drewN | apply Kd.R_drew)); exact HO_26.out⟩, ⟨by (try simp only [hl26_1]); (try simp only [hl26_2]); (try simp only [hl46_2]); (try simp only [hl26_3]); (try simp only [hl46_3]); (try simp only [hl26_4]); (with_reducible repeat (first | apply Kd.R_alloc | apply Kd.R_drewN | apply Kd.R_drew)); exact HO_44.out⟩, ⟨by (try simp only [hl26_1]); (try simp only [hl26_2]); (try simp only [hl46_2]); (try simp only [hl26_3]); (try simp only [hl46_3]); (try simp only [hl26_4]); (with_reducible repeat (first | apply Kd.R_alloc | apply Kd.R_drewN | apply Kd.R_drew)); exact HO_46.out⟩, ⟨by repeat (first | (with_reducible first | exact HB.out | apply below_alloc | apply pw_below_drewN | apply below_drew1) | exact HB.out)⟩⟩
                            ·rw [if_neg c83] at H
                             exact absurd H (by simp)
                           ·rw [if_neg c82] at H
                            exact absurd H (by simp)
                         ·rw [if_neg c80] at H
                          exact absurd H (by simp)
                        ·rw [if_neg c79] at H
                         exact absurd H (by simp)
                       ·rw [if_neg c78] at H
                        have c78b0 : decide (x147_4 < (x26_3.length : Int)) = false := decide_eq_false c78
                        (try (have c78z0 := c78b0; simp only [hl26_1] at c78z0))
                        (try (have c78z1 := c78b0; simp only [hl26_2] at c78z1))
                        (try (have c78z2 := c78b0; simp only [hl46_2] at c78z2))
                        (try (have c78z3 := c78b0; simp only [hl26_3] at c78z3))
                        (try (have c78z4 := c78b0; simp only [hl46_3] at c78z4))
                        (try (have c78z5 := c78b0; simp only [hl26_4] at c78z5))
                        clear c78
                        replace H := Option.bind_eq_some_iff.mp H
                        obtain ⟨⟨t175, t176⟩, A890, H⟩ := H
                        replace H : (sais_induce.l4 k4 l1 l2 (wrap64 ((l1.length : Int) - 1)) x26_4 t176) = some r := H
                        have A89 := Aside0.mk A890
                        clear A890
                        have H' := Aside0.mk H
                        clear H
                        go_wp2_with (first | ((with_reducible refine gate_builtin (b := .copy) rfl ?_); refine goesCopy (some 166) rfl rfl rfl #[.slice (some ⟨go51, 0, none⟩) x46_3.length co24, .slice Ao25 t139.length co25] (by (try simp only [List.map_toArray, List.map_cons, List.map_nil]); first | done | rfl | (simp only [List.length_drop, List.length_take]; rfl)) ?_; (with_reducible refine (copy_i64.calls (fun k_ => some k_ = (.slice (some ⟨go51, 0, none⟩) x46_3.length co24 : Value).ownBlock) (.slice (some ⟨go51, 0, none⟩) x46_3.length co24) x46_3 _ _ t139 t175 t176 w _ ?side1 ?side2 ?side3 ?side4 A89.out).mono ?_); (case side1 => repeat (first | (with_reducible first | exact HB.out | apply below_alloc | apply pw_below_drewN | apply below_drew1) | exact HB.out)); (case side2 => exact Kd.R_tight rfl HO_46.out); (case side3 => exact Kd.C_kept_own (HO_44.out) (fun k_ hk_ hs_ => (hk_.2) hs_)); (case side4 => exact (Kd.R_reads' HO_44.out).2.1); rintro e w90 ⟨rfl, hy0, hb, hkp⟩; refine ⟨_, rfl, ?_⟩; have n0_ := Aside0.mk (Kd.R_mono (ok' := fun k_ => some k_ ≠ (.slice Ao25 t139.length co25 : Value).ownBlock ∧ some k_ ≠ (.slice (some ⟨go51, 0, none⟩) x46_3.length co24 : Value).ownBlock) (Kd.R_keptB (HO_26.out) hkp (fun k_ hk_ hs_ => (hk_.2) hs_)) (fun k_ hk_ => ⟨hk_.1.1, hk_.1.2⟩)); have n1_ := Aside0.mk (Kd.R_mono (ok' := fun k_ => some k_ ≠ (.slice (some ⟨go50, 0, none⟩) x26_4.length co9 : Value).ownBlock ∧ some k_ ≠ (.slice (some ⟨go51, 0, none⟩) x46_3.length co24 : Value).ownBlock) (Kd.R_keptB (HO_44.out) hkp (fun k_ hk_ hs_ => (hk_.2) hs_)) (fun k_ hk_ => ⟨hk_.1.1, hk_.1.2⟩)); have n2_ := Aside0.mk (Kd.R_reok rfl hy0 (fun k_ e_ => HO_46.out.1 k_ e_)); have n3_ := Aside0.mk (hb); clear HO_26; clear HO_44; clear HO_46; clear HB; have HO_26 := n0_; have HO_44 := n1_; have HO_46 := n2_; have HB := n3_; clear n0_ n1_ n2_ n3_; (try clear hb); (try clear hkp); (try clear hy0)))
                        go_loopg [21] k4 (fun kq v21 w' => ∃ (x21_5 : Int) (x26_5 : List Int) (x46_5 : List Int), v21 = .int .i64 x21_5 ∧ Aside0 (sais_induce.l4 kq l1 l2 x21_5 x26_5 x46_5 = some r) ∧ Aside0 (kq ≤ k4) ∧ Aside0 (Kd.R (Kd.int .i64) 3 w' w.heap.size (fun k_ => some k_ ≠ ((.slice (some ⟨go51, 0, none⟩) x46_3.length co24) : Value).ownBlock) (.slice (some ⟨go50, 0, none⟩) x26_4.length co9) x26_5) ∧ Aside0 (Kd.R (Kd.int .i64) 3 w' w.heap.size (fun k_ => some k_ ≠ ((.slice (some ⟨go50, 0, none⟩) x26_4.length co9) : Value).ownBlock) (.slice (some ⟨go51, 0, none⟩) x46_3.length co24) x46_5) ∧ Aside0 (Below w.heap.size w w'))
                        case atStart => exact ⟨(wrap64 ((l1.length : Int) - 1)), (x26_4), (t176), (by first | rfl | (simp; done) | (simp [*]; done)), H', ⟨Nat.le_refl _⟩, ⟨by (try simp only [hl26_1]); (try simp only [hl26_2]); (try simp only [hl46_2]); (try simp only [hl26_3]); (try simp only [hl46_3]); (try simp only [hl26_4]); (with_reducible repeat (first | apply Kd.R_alloc | apply Kd.R_drewN | apply Kd.R_drew)); exact Kd.R_mono HO_26.out (fun _ hk => hk.2)⟩, ⟨by (try simp only [hl26_1]); (try simp only [hl26_2]); (try simp only [hl46_2]); (try simp only [hl26_3]); (try simp only [hl46_3]); (try simp only [hl26_4]); (with_reducible repeat (first | apply Kd.R_alloc | apply Kd.R_drewN | apply Kd.R_drew)); exact Kd.R_mono HO_46.out (fun _ hk => hk.1)⟩, ⟨by repeat (first | (with_reducible first | exact HB.out | apply below_alloc | apply pw_below_drewN | apply below_drew1) | exact HB.out)⟩⟩
                        case round =>
                         clear H'
                         try clear c1
                         try clear p1
                         try clear q1
                         try clear hx1
                         try clear c2
                         try clear p2
                         try clear c3
                         try clear p3
                         try clear q3
                         try clear hx3
                         try clear c4
                         try clear c5
                         try clear c5b0
                         try clear c5b1
                         try clear p5
                         try clear q5
                         try clear hx5
                         try clear hf5
                         try clear c6
                         try clear c6b0
                         try clear c6b1
                         try clear p6
                         try clear q6
                         try clear c7
                         try clear p7
                         try clear q7
                         try clear hx7
                         try clear hf7
                         try clear c8
                         try clear p8
                         try clear q8
                         try clear hx8
                         try clear hf8
                         try clear c9
                         try clear c10
                         try clear c10b0
                         try clear c11
                         try clear c11b0
                         try clear c12
                         try clear c12b0
                         try clear p13
                         try clear q13
                         try clear hx13
                         try clear hf13
                         try clear p14
                         try clear q14
                         try clear hx14
                         try clear p15
                         try clear q15
                         try clear hx15
                         try clear c16
                         try clear c16b0
                         try clear c16b1
                         try clear c16b2
                         try clear p16
                         try clear q16
                         try clear hx16
                         try clear p17
                         try clear q17
                         try clear hx17
                         try clear c18
                         try clear c18b0
                         try clear c18b1
                         try clear c19
                         try clear c19b0
                         try clear c19b1
                         try clear c27
                         try clear c27b0
                         try clear c28
                         try clear c28b0
                         try clear c29
                         try clear c29b0
                         try clear c30
                         try clear c30b0
                         try clear c31
                         try clear c31b0
                         try clear c32
                         try clear c32b0
                         try clear c33
                         try clear c33b0
                         try clear p34
                         try clear q34
                         try clear hx34
                         try clear hf34
                         try clear c35
                         try clear c35b0
                         try clear c36
                         try clear c36b0
                         try clear p37
                         try clear q37
                         try clear hx37
                         try clear hf37
                         try clear c44
                         try clear c44b0
                         try clear c45
                         try clear c45b0
                         try clear c46
                         try clear c46b0
                         try clear c47
                         try clear c47b0
                         try clear c48
                         try clear c48b0
                         try clear c49
                         try clear c49b0
                         try clear p50
                         try clear q50
                         try clear hx50
                         try clear hf50
                         try clear p51
                         try clear q51
                         try clear hx51
                         try clear hf51
                         try clear c58
                         try clear c58b0
                         try clear c59
                         try clear c59b0
                         try clear c60
                         try clear c60b0
                         try clear c61
                         try clear c61b0
                         try clear c63
                         try clear c63b0
                         try clear c64
                         try clear c64b0
                         try clear p64
                         try clear q65
                         try clear c66
                         try clear c67
                         try clear c67b0
                         try clear c68
                         try clear c68b0
                         try clear c69
                         try clear c69b0
                         try clear c70
                         try clear c70b0
                         try clear c71
                         try clear c71b0
                         try clear p72
                         try clear q72
                         try clear hx72
                         try clear hf72
                         try clear p73
                         try clear q73
                         try clear hx73
                         try clear hf73
                         try clear c78
                         try clear c78b0
                         try clear c79
                         try clear c79b0
                         try clear c80
                         try clear c80b0
                         try clear c81
                         try clear c81b0
                         try clear c81b1
                         try clear c82
                         try clear c82b0
                         try clear c83
                         try clear c83b0
                         try clear q84
                         try clear c85
                         try clear p86
                         try clear q86
                         try clear hx86
                         try clear hf86
                         try clear hx13_0
                         try clear hx149_0
                         try clear hx150_0
                         try clear hx151_0
                         try clear hx153_0
                         try clear hx154_0
                         try clear hx158_0
                         try clear hx159_0
                         try clear hx161_0
                         try clear hx162_0
                         try clear hx164_0
                         try clear hx165_0
                         try clear hx166_0
                         try clear hx167_0
                         try clear hx169_0
                         try clear hx170_0
                         try clear hx172_0
                         try clear hx173_0
                         try clear hx34_0
                         try clear hx37_0
                         try clear hx50_0
                         try clear hx51_0
                         try clear hx72_0
                         try clear hx73_0
                         try clear hx86_0
                         try clear p1
                         try clear p13
                         try clear p14
                         try clear p149
                         try clear p15
                         try clear p150
                         try clear p151
                         try clear p153
                         try clear p154
                         try clear p158
                         try clear p159
                         try clear p16
                         try clear p161
                         try clear p162
                         try clear p164
                         try clear p165
                         try clear p166
                         try clear p167
                         try clear p169
                         try clear p17
                         try clear p170
                         try clear p172
                         try clear p173
                         try clear p2
                         try clear p3
                         try clear p34
                         try clear p37
                         try clear p5
                         try clear p50
                         try clear p51
                         try clear p6
                         try clear p64
                         try clear p7
                         try clear p72
                         try clear p73
                         try clear p86
                         try clear q1
                         try clear q13
                         try clear q14
                         try clear q149
                         try clear q15
                         try clear q150
                         try clear q151
                         try clear q153
                         try clear q154
                         try clear q158
                         try clear q159
                         try clear q16
                         try clear q161
                         try clear q162
                         try clear q164
                         try clear q165
                         try clear q166
                         try clear q167
                         try clear q169
                         try clear q17
                         try clear q170
                         try clear q172
                         try clear q173
                         try clear q3
                         try clear q34
                         try clear q37
                         try clear q5
                         try clear q50
                         try clear q51
                         try clear q6
                         try clear q65
                         try clear q7
                         try clear q72
                         try clear q73
                         try clear q86
                         obtain ⟨x21_5, x26_5, x46_5, rfl, HA, HK5, HO_26, HO_46, HB⟩ := hrel
                         have hl26_5 := (Kd.R_reads' HO_26.out).1
                         rw [hl26_5] at HO_26
                         (try simp only [hl26_5])
                         (try simp only [hl26_5] at HO_46)
                         have hl46_5 := (Kd.R_reads' HO_46.out).1
                         rw [hl46_5] at HO_46
                         (try simp only [hl46_5])
                         (try simp only [hl46_5] at HO_26)
                         cases gk with
                         | zero => exact absurd HA.out (by simp [sais_induce.l4])
                         | succ k5 =>
                          have H := HA.out
                          clear HA
                          simp only [sais_induce.l4] at H
                          by_cases c91 : x21_5 ≥ 0
                          ·rw [if_pos c91] at H
                           have c91b0 : decide (0 ≤ x21_5) = true := decide_eq_true c91
                           clear c91
                           by_cases c92 : 0 ≤ x21_5
                           ·rw [if_pos c92] at H
                            have c92b0 : decide (0 ≤ x21_5) = true := decide_eq_true c92
                            clear c92
                            by_cases c93 : x21_5 < (x26_5.length : Int)
                            ·rw [if_pos c93] at H
                             have c93b0 : decide (x21_5 < (x26_5.length : Int)) = true := decide_eq_true c93
                             (try (have c93z0 := c93b0; simp only [hl26_1] at c93z0))
                             (try (have c93z1 := c93b0; simp only [hl26_2] at c93z1))
                             (try (have c93z2 := c93b0; simp only [hl46_2] at c93z2))
                             (try (have c93z3 := c93b0; simp only [hl26_3] at c93z3))
                             (try (have c93z4 := c93b0; simp only [hl46_3] at c93z4))
                             (try (have c93z5 := c93b0; simp only [hl26_4] at c93z5))
                             (try (have c93z6 := c93b0; simp only [hl26_5] at c93z6))
                             (try (have c93z7 := c93b0; simp only [hl46_5] at c93z7))
                             clear c93
                             by_cases c94 : (rd x26_5 x21_5) ≤ 0
                             ·rw [if_pos c94] at H
                              have c94b0 : decide ((rd x26_5 x21_5) ≤ 0) = true := decide_eq_true c94
                              clear c94
                              have H' := Aside0.mk H
                              clear H
                              have p177 : 0 ≤ (x21_5 : Int) := of_decide_eq_true (by first | (with_reducible assumption) | assumption)
                              have q177 : x21_5 < (x26_5.length : Int) := of_decide_eq_true (by first | (with_reducible assumption) | assumption)
                              obtain ⟨ad177, e177, hx177_0⟩ := Kd.at_int (Kd.R_reads' HO_26.out).2.2 x21_5 p177 q177
                              obtain rfl : (⟨go50, 0, none⟩ : Addr) = ad177 := (by injection e177)
                              (first | simp only [add_plain] at hx177_0 | simp only [add_at] at hx177_0 | simp only [Addr.add, Nat.zero_add] at hx177_0 | skip)
                              replace p177 := eq_true p177
                              replace q177 := eq_true q177
                              go_wp2
                              (try simp only [← hl26_5, ← hl46_5])
                              go_roundg k5
                              case measure => have := HK1.out; have := HK2.out; have := HK3.out; have := HK4.out; have := HK5.out; omega
                              case rel => exact ⟨(wrap64 (x21_5 - 1)), (x26_5), (x46_5), (by first | rfl | (simp; done) | (simp [*]; done)), H', ⟨by have := HK1.out; have := HK2.out; have := HK3.out; have := HK4.out; have := HK5.out; omega⟩, ⟨by (try simp only [hl26_1]); (try simp only [hl26_2]); (try simp only [hl46_2]); (try simp only [hl26_3]); (try simp only [hl46_3]); (try simp only [hl26_4]); (try simp only [hl26_5]); (try simp only [hl46_5]); (with_reducible repeat (first | apply Kd.R_alloc | apply Kd.R_drewN | apply Kd.R_drew)); exact HO_26.out⟩, ⟨by (try simp only [hl26_1]); (try simp only [hl26_2]); (try simp only [hl46_2]); (try simp only [hl26_3]); (try simp only [hl46_3]); (try simp only [hl26_4]); (try simp only [hl26_5]); (try simp only [hl46_5]); (with_reducible repeat (first | apply Kd.R_alloc | apply Kd.R_drewN | apply Kd.R_drew)); exact HO_46.out⟩, ⟨by repeat (first | (with_reducible first | exact HB.out | apply below_alloc | apply pw_below_drewN | apply below_drew1) | exact HB.out)⟩⟩
                             ·rw [if_neg c94] at H
                              have c94b0 : decide ((rd x26_5 x21_5) ≤ 0) = false := decide_eq_false c94
                              clear c94
                              obtain ⟨ji95, hji95⟩ : ∃ j_ : Int, (wrap64 ((rd x26_5 x21_5) - 1)) = j_ := ⟨_, rfl⟩
                              replace H : (if 0 ≤ (ji95) then (if (ji95) < (l2.length : Int) then (if (rdOf false l2 (ji95) = true) then (if (ji95) < (l1.length : Int) then (if 0 ≤ (rd l1 (ji95)) then (if (rd l1 (ji95)) < (x46_5.length : Int) then ((some (x46_5.set ((rd l1 (ji95)) : Int).toNat (wrap64 ((rd x46_5 (rd l1 (ji95))) - 1)) : List Int)).bind fun y181 => (if 0 ≤ (rd y181 (rd l1 (ji95))) then (if (rd y181 (rd l1 (ji95))) < (x26_5.length : Int) then (sais_induce.l4 k5 l1 l2 (wrap64 (x21_5 - 1)) (x26_5.set ((rd y181 (rd l1 (ji95))) : Int).toNat (ji95)) y181) else (none)) else (none))) else (none)) else (none)) else (none)) else (sais_induce.l4 k5 l1 l2 (wrap64 (x21_5 - 1)) x26_5 x46_5)) else (none)) else (none)) = some r := by first | (rw [hji95] at H; exact H) | (simp only [hji95] at H ⊢; exact H)
                              have hji95w : (IntKind.i64.wrap ((rd x26_5 x21_5) - 1)) = ji95 := (i64_w _).trans hji95
                              by_cases c96 : 0 ≤ (ji95)
                              ·rw [if_pos c96] at H
                               have c96b0 : decide (0 ≤ (ji95)) = true := decide_eq_true c96
                               clear c96
                               by_cases c97 : (ji95) < (l2.length : Int)
                               ·rw [if_pos c97] at H
                                have c97b0 : decide ((ji95) < (l2.length : Int)) = true := decide_eq_true c97
                                (try (have c97z0 := c97b0; simp only [hl26_1] at c97z0))
                                (try (have c97z1 := c97b0; simp only [hl26_2] at c97z1))
                                (try (have c97z2 := c97b0; simp only [hl46_2] at c97z2))
                                (try (have c97z3 := c97b0; simp only [hl26_3] at c97z3))
                                (try (have c97z4 := c97b0; simp only [hl46_3] at c97z4))
                                (try (have c97z5 := c97b0; simp only [hl26_4] at c97z5))
                                (try (have c97z6 := c97b0; simp only [hl26_5] at c97z6))
                                (try (have c97z7 := c97b0; simp only [hl46_5] at c97z7))
                                clear c97
                                obtain ⟨bq98, hbq98⟩ : ∃ b_ : Bool, b_ = (rdOf false l2 (ji95)) := ⟨_, rfl⟩
                                replace H : (if (bq98 = true) then (if (ji95) < (l1.length : Int) then (if 0 ≤ (rd l1 (ji95)) then (if (rd l1 (ji95)) < (x46_5.length : Int) then ((some (x46_5.set ((rd l1 (ji95)) : Int).toNat (wrap64 ((rd x46_5 (rd l1 (ji95))) - 1)) : List Int)).bind fun y181 => (if 0 ≤ (rd y181 (rd l1 (ji95))) then (if (rd y181 (rd l1 (ji95))) < (x26_5.length : Int) then (sais_induce.l4 k5 l1 l2 (wrap64 (x21_5 - 1)) (x26_5.set ((rd y181 (rd l1 (ji95))) : Int).toNat (ji95)) y181) else (none)) else (none))) else (none)) else (none)) else (none)) else (sais_induce.l4 k5 l1 l2 (wrap64 (x21_5 - 1)) x26_5 x46_5)) = some r := by rw [← hbq98] at H; exact H
                                have Nbq98 := Aside0.mk hbq98
                                clear hbq98
                                by_cases c99 : (bq98 = true)
                                ·subst c99
                                 have H1 : (if (ji95) < (l1.length : Int) then (if 0 ≤ (rd l1 (ji95)) then (if (rd l1 (ji95)) < (x46_5.length : Int) then ((some (x46_5.set ((rd l1 (ji95)) : Int).toNat (wrap64 ((rd x46_5 (rd l1 (ji95))) - 1)) : List Int)).bind fun y181 => (if 0 ≤ (rd y181 (rd l1 (ji95))) then (if (rd y181 (rd l1 (ji95))) < (x26_5.length : Int) then (sais_induce.l4 k5 l1 l2 (wrap64 (x21_5 - 1)) (x26_5.set ((rd y181 (rd l1 (ji95))) : Int).toNat (ji95)) y181) else (none)) else (none))) else (none)) else (none)) else (none)) = some r := by rw [if_pos rfl] at H; exact H
                                 clear H
                                 have H := H1
                                 clear H1
                                 by_cases c100 : (ji95) < (l1.length : Int)
                                 ·rw [if_pos c100] at H
                                  have c100b0 : decide ((ji95) < (l1.length : Int)) = true := decide_eq_true c100
                                  (try (have c100z0 := c100b0; simp only [hl26_1] at c100z0))
                                  (try (have c100z1 := c100b0; simp only [hl26_2] at c100z1))
                                  (try (have c100z2 := c100b0; simp only [hl46_2] at c100z2))
                                  (try (have c100z3 := c100b0; simp only [hl26_3] at c100z3))
                                  (try (have c100z4 := c100b0; simp only [hl46_3] at c100z4))
                                  (try (have c100z5 := c100b0; simp only [hl26_4] at c100z5))
                                  (try (have c100z6 := c100b0; simp only [hl26_5] at c100z6))
                                  (try (have c100z7 := c100b0; simp only [hl46_5] at c100z7))
                                  clear c100
                                  by_cases c101 : 0 ≤ (rd l1 (ji95))
                                  ·rw [if_pos c101] at H
                                   have c101b0 : decide (0 ≤ (rd l1 (ji95))) = true := decide_eq_true c101
                                   clear c101
                                   by_cases c102 : (rd l1 (ji95)) < (x46_5.length : Int)
                                   ·rw [if_pos c102] at H
                                    have c102b0 : decide ((rd l1 (ji95)) < (x46_5.length : Int)) = true := decide_eq_true c102
                                    (try (have c102z0 := c102b0; simp only [hl26_1] at c102z0))
                                    (try (have c102z1 := c102b0; simp only [hl26_2] at c102z1))
                                    (try (have c102z2 := c102b0; simp only [hl46_2] at c102z2))
                                    (try (have c102z3 := c102b0; simp only [hl26_3] at c102z3))
                                    (try (have c102z4 := c102b0; simp only [hl46_3] at c102z4))
                                    (try (have c102z5 := c102b0; simp only [hl26_4] at c102z5))
                                    (try (have c102z6 := c102b0; simp only [hl26_5] at c102z6))
                                    (try (have c102z7 := c102b0; simp only [hl46_5] at c102z7))
                                    clear c102
                                    obtain ⟨y181, hy181⟩ : ∃ y_ : List Int, y_ = (x46_5.set ((rd l1 (ji95)) : Int).toNat (wrap64 ((rd x46_5 (rd l1 (ji95))) - 1))) := ⟨_, rfl⟩
                                    replace H : (if 0 ≤ (rd y181 (rd l1 (ji95))) then (if (rd y181 (rd l1 (ji95))) < (x26_5.length : Int) then (sais_induce.l4 k5 l1 l2 (wrap64 (x21_5 - 1)) (x26_5.set ((rd y181 (rd l1 (ji95))) : Int).toNat (ji95)) y181) else (none)) else (none)) = some r := by first | (rw [hy181]; with_reducible exact H) | (have H2_ := (Option.bind_some _ _).symm.trans H; rw [hy181]; with_reducible exact H2_) | (have H2_ := (Option.bind_some _ _).symm.trans H; with_reducible exact H2_) | with_reducible exact H | (rw [hy181]; exact H) | exact H
                                    have Ny181 := Aside0.mk hy181
                                    clear hy181
                                    by_cases c104 : 0 ≤ (rd y181 (rd l1 (ji95)))
                                    ·rw [if_pos c104] at H
                                     have c104b0 : decide (0 ≤ (rd y181 (rd l1 (ji95)))) = true := decide_eq_true c104
                                     clear c104
                                     by_cases c105 : (rd y181 (rd l1 (ji95))) < (x26_5.length : Int)
                                     ·rw [if_pos c105] at H
                                      have c105b0 : decide ((rd y181 (rd l1 (ji95))) < (x26_5.length : Int)) = true := decide_eq_true c105
                                      (try (have c105z0 := c105b0; simp only [hl26_1] at c105z0))
                                      (try (have c105z1 := c105b0; simp only [hl26_2] at c105z1))
                                      (try (have c105z2 := c105b0; simp only [hl46_2] at c105z2))
                                      (try (have c105z3 := c105b0; simp only [hl26_3] at c105z3))
                                      (try (have c105z4 := c105b0; simp only [hl46_3] at c105z4))
                                      (try (have c105z5 := c105b0; simp only [hl26_4] at c105z5))
                                      (try (have c105z6 := c105b0; simp only [hl26_5] at c105z6))
                                      (try (have c105z7 := c105b0; simp only [hl46_5] at c105z7))
                                      clear c105
                                      obtain ⟨y184, hy184⟩ : ∃ y_ : List Int, y_ = (x26_5.set ((rd y181 (rd l1 (ji95))) : Int).toNat (ji95)) := ⟨_, rfl⟩
                                      replace H : (sais_induce.l4 k5 l1 l2 (wrap64 (x21_5 - 1)) y184 y181) = some r := by first | (rw [hy184]; with_reducible exact H) | (have H2_ := (Option.bind_some _ _).symm.trans H; rw [hy184]; with_reducible exact H2_) | (have H2_ := (Option.bind_some _ _).symm.trans H; with_reducible exact H2_) | with_reducible exact H | (rw [hy184]; exact H) | exact H
                                      have Ny184 := Aside0.mk hy184
                                      clear hy184
                                      have H' := Aside0.mk H
                                      clear H
                                      have p177 : 0 ≤ (x21_5 : Int) := of_decide_eq_true (by first | (with_reducible assumption) | assumption)
                                      have q177 : x21_5 < (x26_5.length : Int) := of_decide_eq_true (by first | (with_reducible assumption) | assumption)
                                      obtain ⟨ad177, e177, hx177_0⟩ := Kd.at_int (Kd.R_reads' HO_26.out).2.2 x21_5 p177 q177
                                      obtain rfl : (⟨go50, 0, none⟩ : Addr) = ad177 := (by injection e177)
                                      (first | simp only [add_plain] at hx177_0 | simp only [add_at] at hx177_0 | simp only [Addr.add, Nat.zero_add] at hx177_0 | skip)
                                      replace p177 := eq_true p177
                                      replace q177 := eq_true q177
                                      have p178 : 0 ≤ ((ji95) : Int) := of_decide_eq_true (by first | (with_reducible assumption) | assumption)
                                      have q178 : (ji95) < (l2.length : Int) := of_decide_eq_true (by first | (with_reducible assumption) | assumption)
                                      obtain ⟨ad178, e178, hx178_0⟩ := Kd.at_bool HR2.out (ji95) p178 q178
                                      (try rw [← Nbq98.out] at hx178_0)
                                      cases e178
                                      replace hx178_0 := (HB.out.cell (World.block_lt_of_cell? w _ hx178_0)).trans hx178_0
                                      replace p178 := eq_true p178
                                      replace q178 := eq_true q178
                                      have p179 : 0 ≤ ((ji95) : Int) := of_decide_eq_true (by first | (with_reducible assumption) | assumption)
                                      have q179 : (ji95) < (l1.length : Int) := of_decide_eq_true (by first | (with_reducible assumption) | assumption)
                                      obtain ⟨ad179, e179, hx179_0⟩ := Kd.at_int HR1.out (ji95) p179 q179
                                      obtain rfl : ad158 = ad179 := (by injection e179)
                                      replace hx179_0 := (HB.out.cell (World.block_lt_of_cell? w _ hx179_0)).trans hx179_0
                                      replace p179 := eq_true p179
                                      replace q179 := eq_true q179
                                      have p180 : 0 ≤ ((rd l1 (ji95)) : Int) := of_decide_eq_true (by first | (with_reducible assumption) | assumption)
                                      have q180 : (rd l1 (ji95)) < (x46_5.length : Int) := of_decide_eq_true (by first | (with_reducible assumption) | assumption)
                                      obtain ⟨ad180, e180, hx180_0⟩ := Kd.at_int (Kd.R_reads' HO_46.out).2.2 (rd l1 (ji95)) p180 q180
                                      obtain rfl : (⟨go51, 0, none⟩ : Addr) = ad180 := (by injection e180)
                                      (first | simp only [add_plain] at hx180_0 | simp only [add_at] at hx180_0 | simp only [Addr.add, Nat.zero_add] at hx180_0 | skip)
                                      replace p180 := eq_true p180
                                      replace q180 := eq_true q180
                                      have p103 : 0 ≤ ((rd l1 (ji95)) : Int) := of_decide_eq_true (by first | (with_reducible assumption) | assumption)
                                      have q103 : ((rd l1 (ji95)) : Int) < ((x46_5.length : Int) : Int) := of_decide_eq_true (by first | (with_reducible assumption) | assumption)
                                      obtain ⟨hx103_0, hf103_0⟩ := Kd.R_celln 0 HO_46.out ((rd l1 (ji95)) : Int) p103 q103
                                      replace p103 := eq_true p103
                                      replace q103 := eq_true q103
                                      have HP107 := Kd.R_putg HO_46.out ((rd l1 (ji95)) : Int) (wrap64 ((rd x46_5 (rd l1 (ji95))) - 1))
                                      go_wp2_with (first | ((with_reducible refine gate_store (t := 3) (p := 196) rfl ?_); refine store_event (t := 3) (p := 196) (v := ?vo_w108) (w1 := (wr.setCell ⟨go51, ((rd l1 (ji95)) : Int).toNat, none⟩ (.int .i64 (wrap64 ((rd x46_5 (rd l1 (ji95))) - 1))))) ?hg ?ho ?hn ?hr ?_; (case ho => rfl); (case hg => rfl); (case hn => rfl); (case hr => first | (go_simp; done) | (go_simp; rfl)); intro w108 hw; have hg : wr.grownBy w108 (some go51) := (by rw [hw]; exact HP107.2); have hp_ : Kd.R (Kd.int .i64) 3 w108 w.heap.size (fun k_ => some k_ ≠ (.slice (some ⟨go50, 0, none⟩) x26_5.length co9 : Value).ownBlock) (.slice (some ⟨go51, 0, none⟩) x46_5.length co24) y181 := (by rw [hw, Ny181.out]; exact HP107.1); clear HP107; have n0_ := Aside0.mk (Kd.R_after (v := (.slice (some ⟨go51, 0, none⟩) x46_5.length co24)) (v1 := (.slice (some ⟨go51, 0, none⟩) x46_5.length co24)) (ok := (fun _ => True)) (by (with_reducible repeat (first | apply Kd.R_alloc | apply Kd.R_drewN | apply Kd.R_drew)); exact Kd.R_mono HO_26.out (fun _ hk => ⟨trivial, hk⟩)) hg (.inl rfl)); have n1_ := Aside0.mk (hp_); have n2_ := Aside0.mk ((by rw [hw]; exact below_set (HB.out) GB51.out : Below w.heap.size w w108)); clear HO_26; clear HO_46; clear HB; have HO_26 := n0_; have HO_46 := n1_; have HB := n2_; clear n0_ n1_ n2_; clear hg hw hp_; have p182 : 0 ≤ ((ji95) : Int) := of_decide_eq_true (by first | (with_reducible assumption) | assumption); have q182 : (ji95) < (l1.length : Int) := of_decide_eq_true (by first | (with_reducible assumption) | assumption); obtain ⟨ad182, e182, hx182_0⟩ := Kd.at_int HR1.out (ji95) p182 q182; obtain rfl : ad158 = ad182 := (by injection e182); replace hx182_0 := (HB.out.cell (World.block_lt_of_cell? w _ hx182_0)).trans hx182_0; replace p182 := eq_true p182; replace q182 := eq_true q182; have p183 : 0 ≤ ((rd l1 (ji95)) : Int) := of_decide_eq_true (by first | (with_reducible assumption) | assumption); have q183 : (rd l1 (ji95)) < (y181.length : Int) := (by have h_ : ((rd l1 (ji95)) : Int) < ((x46_5.length : Int) : Int) := of_decide_eq_true (by first | (with_reducible assumption) | assumption); first | (have e_ := (Kd.R_reads' HO_46.out).1; omega) | simpa only [Ny181.out, List.length_set] using h_); have ql183 : (((rd l1 (ji95)) : Int) < ((x46_5.length : Int) : Int)) = True := eq_true (of_decide_eq_true (by first | (with_reducible assumption) | assumption)); obtain ⟨ad183, e183, hx183_0⟩ := Kd.at_int (Kd.R_reads' HO_46.out).2.2 (rd l1 (ji95)) p183 q183; obtain rfl : (⟨go51, 0, none⟩ : Addr) = ad183 := (by injection e183); (first | simp only [add_plain] at hx183_0 | simp only [add_at] at hx183_0 | simp only [Addr.add, Nat.zero_add] at hx183_0 | skip); replace p183 := eq_true p183; replace q183 := eq_true q183; have p106 : 0 ≤ ((rd y181 (rd l1 (ji95))) : Int) := of_decide_eq_true (by first | (with_reducible assumption) | assumption); have q106 : ((rd y181 (rd l1 (ji95))) : Int) < ((x26_5.length : Int) : Int) := of_decide_eq_true (by first | (with_reducible assumption) | assumption); obtain ⟨hx106_0, hf106_0⟩ := Kd.R_celln 0 HO_26.out ((rd y181 (rd l1 (ji95))) : Int) p106 q106; replace p106 := eq_true p106; replace q106 := eq_true q106; have n_ := Aside0.mk (Kd.R_mono (ok' := (fun k_ => some k_ ≠ (.slice (some ⟨go51, 0, none⟩) x46_5.length co24 : Value).ownBlock)) HO_26.out (fun k_ hk => hk.2)); clear HO_26; have HO_26 := n_; clear n_; obtain ⟨hy109_, hz109_⟩ := Kd.R_celln 0 HO_26.out ((rd y181 (rd l1 (ji95))) : Int) (of_decide_eq_true (by first | (with_reducible assumption) | assumption)) (of_decide_eq_true (by first | (with_reducible assumption) | assumption)); have HP109 := Kd.R_putg HO_26.out ((rd y181 (rd l1 (ji95))) : Int) ji95) | ((with_reducible refine gate_store (t := 3) (p := 208) rfl ?_); refine store_event (t := 3) (p := 208) (v := ?vo_w110) (w1 := (w108.setCell ⟨go50, ((rd y181 (rd l1 (ji95))) : Int).toNat, none⟩ (.int .i64 ji95))) ?hg ?ho ?hn ?hr ?_; (case ho => rfl); (case hg => rfl); (case hn => rfl); (case hr => first | (go_simp; done) | (go_simp; rfl)); intro w110 hw; have hg : w108.grownBy w110 (some go50) := (by rw [hw]; exact HP109.2); have hp_ : Kd.R (Kd.int .i64) 3 w110 w.heap.size (fun k_ => some k_ ≠ (.slice (some ⟨go51, 0, none⟩) x46_5.length co24 : Value).ownBlock) (.slice (some ⟨go50, 0, none⟩) x26_5.length co9) y184 := (by rw [hw, Ny184.out]; exact HP109.1); clear HP109; have n0_ := Aside0.mk (hp_); have n1_ := Aside0.mk (Kd.R_after (v := (.slice (some ⟨go50, 0, none⟩) x26_5.length co9)) (v1 := (.slice (some ⟨go50, 0, none⟩) x26_5.length co9)) (ok := (fun _ => True)) (by (with_reducible repeat (first | apply Kd.R_alloc | apply Kd.R_drewN | apply Kd.R_drew)); exact Kd.R_mono HO_46.out (fun _ hk => ⟨trivial, hk⟩)) hg (.inl rfl)); have n2_ := Aside0.mk ((by rw [hw]; exact below_set (HB.out) GB50.out : Below w.heap.size w w110)); clear HO_26; clear HO_46; clear HB; have HO_26 := n0_; have HO_46 := n1_; have HB := n2_; clear n0_ n1_ n2_; clear hg hw hp_))
                                      (try simp only [← hl26_5, ← hl46_5])
                                      go_roundg k5
                                      case measure => have := HK1.out; have := HK2.out; have := HK3.out; have := HK4.out; have := HK5.out; omega
                                      case rel => exact ⟨(wrap64 (x21_5 - 1)), (y184), (y181), (by first | rfl | (simp; done) | (simp [*]; done)), H', ⟨by have := HK1.out; have := HK2.out; have := HK3.out; have := HK4.out; have := HK5.out; omega⟩, ⟨by (try simp only [hl26_1]); (try simp only [hl26_2]); (try simp only [hl46_2]); (try simp only [hl26_3]); (try simp only [hl46_3]); (try simp only [hl26_4]); (try simp only [hl26_5]); (try simp only [hl46_5]); (with_reducible repeat (first | apply Kd.R_alloc | apply Kd.R_drewN | apply Kd.R_drew)); exact HO_26.out⟩, ⟨by (try simp only [hl26_1]); (try simp only [hl26_2]); (try simp only [hl46_2]); (try simp only [hl26_3]); (try simp only [hl46_3]); (try simp only [hl26_4]); (try simp only [hl26_5]); (try simp only [hl46_5]); (with_reducible repeat (first | apply Kd.R_alloc | apply Kd.R_drewN | apply Kd.R_drew)); exact Kd.R_mono HO_46.out (fun _ hk => hk.2)⟩, ⟨by repeat (first | (with_reducible first | exact HB.out | apply below_alloc | apply pw_below_drewN | apply below_drew1) | exact HB.out)⟩⟩
                                     ·rw [if_neg c105] at H
                                      exact absurd H (by simp)
                                    ·rw [if_neg c104] at H
                                     exact absurd H (by simp)
                                   ·rw [if_neg c102] at H
                                    exact absurd H (by simp)
                                  ·rw [if_neg c101] at H
                                   exact absurd H (by simp)
                                 ·rw [if_neg c100] at H
                                  exact absurd H (by simp)
                                ·replace c99 := Bool.eq_false_iff.mpr c99
                                 subst c99
                                 have H1 : (sais_induce.l4 k5 l1 l2 (wrap64 (x21_5 - 1)) x26_5 x46_5) = some r := by rw [if_neg (show ¬ (false = true) by decide)] at H; exact H
                                 clear H
                                 have H := H1
                                 clear H1
                                 have H' := Aside0.mk H
                                 clear H
                                 have p177 : 0 ≤ (x21_5 : Int) := of_decide_eq_true (by first | (with_reducible assumption) | assumption)
                                 have q177 : x21_5 < (x26_5.length : Int) := of_decide_eq_true (by first | (with_reducible assumption) | assumption)
                                 obtain ⟨ad177, e177, hx177_0⟩ := Kd.at_int (Kd.R_reads' HO_26.out).2.2 x21_5 p177 q177
                                 obtain rfl : (⟨go50, 0, none⟩ : Addr) = ad177 := (by injection e177)
                                 (first | simp only [add_plain] at hx177_0 | simp only [add_at] at hx177_0 | simp only [Addr.add, Nat.zero_add] at hx177_0 | skip)
                                 replace p177 := eq_true p177
                                 replace q177 := eq_true q177
                                 have p178 : 0 ≤ ((ji95) : Int) := of_decide_eq_true (by first | (with_reducible assumption) | assumption)
                                 have q178 : (ji95) < (l2.length : Int) := of_decide_eq_true (by first | (with_reducible assumption) | assumption)
                                 obtain ⟨ad178, e178, hx178_0⟩ := Kd.at_bool HR2.out (ji95) p178 q178
                                 (try rw [← Nbq98.out] at hx178_0)
                                 cases e178
                                 replace hx178_0 := (HB.out.cell (World.block_lt_of_cell? w _ hx178_0)).trans hx178_0
                                 replace p178 := eq_true p178
                                 replace q178 := eq_true q178
                                 go_wp2
                                 (try simp only [← hl26_5, ← hl46_5])
                                 go_roundg k5
                                 case measure => have := HK1.out; have := HK2.out; have := HK3.out; have := HK4.out; have := HK5.out; omega
                                 case rel => exact ⟨(wrap64 (x21_5 - 1)), (x26_5), (x46_5), (by first | rfl | (simp; done) | (simp [*]; done)), H', ⟨by have := HK1.out; have := HK2.out; have := HK3.out; have := HK4.out; have := HK5.out; omega⟩, ⟨by (try simp only [hl26_1]); (try simp only [hl26_2]); (try simp only [hl46_2]); (try simp only [hl26_3]); (try simp only [hl46_3]); (try simp only [hl26_4]); (try simp only [hl26_5]); (try simp only [hl46_5]); (with_reducible repeat (first | apply Kd.R_alloc | apply Kd.R_drewN | apply Kd.R_drew)); exact HO_26.out⟩, ⟨by (try simp only [hl26_1]); (try simp only [hl26_2]); (try simp only [hl46_2]); (try simp only [hl26_3]); (try simp only [hl46_3]); (try simp only [hl26_4]); (try simp only [hl26_5]); (try simp only [hl46_5]); (with_reducible repeat (first | apply Kd.R_alloc | apply Kd.R_drewN | apply Kd.R_drew)); exact HO_46.out⟩, ⟨by repeat (first | (with_reducible first | exact HB.out | apply below_alloc | apply pw_below_drewN | apply below_drew1) | exact HB.out)⟩⟩
                               ·rw [if_neg c97] at H
                                exact absurd H (by simp)
                              ·rw [if_neg c96] at H
                               exact absurd H (by simp)
                            ·rw [if_neg c93] at H
                             exact absurd H (by simp)
                           ·rw [if_neg c92] at H
                            exact absurd H (by simp)
                          ·rw [if_neg c91] at H
                           have c91b0 : decide (0 ≤ x21_5) = false := decide_eq_false c91
                           clear c91
                           obtain rfl := Option.some.inj H
                           go_wp2
                           go_ret
                           exact ⟨_, by first | rfl | (simp [errW_none, errW_some] <;> rfl) | (simp only [← hji43]; first | rfl | (simp [errW_none, errW_some] <;> rfl)) | (simp [*, errW_none, errW_some] <;> rfl), by (with_reducible repeat (first | apply Kd.R_alloc | apply Kd.R_drewN | apply Kd.R_drew)); exact Kd.R_mono HO_26.out (fun _ hk => trivial), by repeat (first | (with_reducible first | exact HB.out | apply below_alloc | apply pw_below_drewN | apply below_drew1) | exact HB.out)⟩
                 ·rw [if_neg c49] at H
                  exact absurd H (by simp)
                ·rw [if_neg c48] at H
                 exact absurd H (by simp)
               ·rw [if_neg c47] at H
                exact absurd H (by simp)
              ·rw [if_neg c46] at H
               exact absurd H (by simp)
             ·rw [if_neg c45] at H
              exact absurd H (by simp)
            ·rw [if_neg c44] at H
             exact absurd H (by simp)
        ·rw [if_neg c19] at H
         exact absurd H (by simp)
       ·rw [if_neg c18] at H
        exact absurd H (by simp)
  ·rw [if_neg c6] at H
   exact absurd H (by simp)
 ·rw [if_neg c5] at H
  exact absurd H (by simp)

end Go.Proofs.Ythcnnfahlhklgaa.X
