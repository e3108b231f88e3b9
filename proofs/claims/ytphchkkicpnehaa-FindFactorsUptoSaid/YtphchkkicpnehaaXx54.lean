-- Printed by wip/xprint.py of this repo (a wrapper of the session's own round the print).
import Derived.Test.YtphchkkicpnehaaXx0
import Derived.Test.YtphchkkicpnehaaXx15
import Derived.Test.YtphchkkicpnehaaXx24
import Derived.Test.YtphchkkicpnehaaXx25
import Derived.Test.YtphchkkicpnehaaXx29
import Derived.Test.YtphchkkicpnehaaXx52
import Derived.Test.YtphchkkicpnehaaXx53
namespace Go.Proofs.Ytphchkkicpnehaa.X
open Go.RowKit Go.Proofs.YtphchkkicpnehaaW.PrintWords Go.Proofs.YtphchkkicpnehaaW.PrintLast Go.Proofs.YtphchkkicpnehaaW.PrintMore
attribute [local go_sem] ptrOf_eql ptrOf_neq ptrOf_eqg ptrOf_neg str_leq str_geq str_gtr max2_int min2_int max_two min_two max_three min_three max_four min_four   -- for this text's walks alone
set_option linter.unusedVariables false
set_option linter.unusedSimpArgs false

/-! ### sapperlaw14_FindFactors: function 10 -/
mutual
def sapperlaw14_FindFactors.j0 : Nat → List Int → List Int → List (S61) → Bool → Bool → Option (Bool)
 | 0, _, _, _, _, _ => none
 | k + 1, x0, x1, x5, x6, x26 => if x26 = true then (if x6 = true then ((sapperlaw14_awake.f k).bind fun t530 => (some t530)) else (some false)) else ((sapperlaw14_lend.f x1).bind fun t531 => (if 0 ≤ (x1.length : Int) then (if (x1.length : Int) ≤ (t531.length : Int) then ((find_Factors.f k x5 (t531.take ((x1.length : Int) : Int).toNat)).bind fun bt538 => ((find_Factors.f k x5 (t531.take ((x1.length : Int) : Int).toNat)).bind fun bt546 => ((sapperref14_Factors.f k x0 x1).bind fun t550 => (if bt538.2 = 0 then (if bt546.2 = 0 then (if (bt538.1.length : Int) = (t550.length : Int) then (if (bt546.1.length : Int) = (t550.length : Int) then ((sapperlaw14_kept.f t531 x1).bind fun t553 => (sapperlaw14_FindFactors.j1 k bt538.1 bt546.1 t550 (!t553))) else (sapperlaw14_FindFactors.j1 k bt538.1 bt546.1 t550 true)) else (sapperlaw14_FindFactors.j1 k bt538.1 bt546.1 t550 true)) else (sapperlaw14_FindFactors.j1 k bt538.1 bt546.1 t550 true)) else (sapperlaw14_FindFactors.j1 k bt538.1 bt546.1 t550 true))))) else (none)) else (none)))
def sapperlaw14_FindFactors.j1 : Nat → List (S51) → List (S51) → List (S52) → Bool → Option (Bool)
 | 0, _, _, _, _ => none
 | k + 1, x8, x10, x12, x79 => if x79 = true then (some false) else (sapperlaw14_FindFactors.l0 k x8 x10 x12 0)
def sapperlaw14_FindFactors.l0 : Nat → List (S51) → List (S51) → List (S52) → Int → Option (Bool)
 | 0, _, _, _, _ => none
 | k + 1, x8, x10, x12, x13 => if x13 < (x12.length : Int) then (if 0 ≤ x13 then (if x13 < (x8.length : Int) then (if ((rd_T51 x8 x13).f0) = ((rd_T52 x12 x13).f0) then (if ((rd_T51 x8 x13).f1) = ((rd_T52 x12 x13).f1) then (if ((rd_T51 x8 x13).f2) = ((rd_T52 x12 x13).f2) then (sapperlaw14_FindFactors.l0 k (x8.set (x13 : Int).toNat (⟨(rd_T51 x8 x13).f0, 81, (rd_T51 x8 x13).f2⟩ : S51)) x10 x12 (wrap64 (x13 + 1))) else (some false)) else (some false)) else (some false)) else (none)) else (none)) else (sapperlaw14_FindFactors.l1 k x8 x10 x12 0)
def sapperlaw14_FindFactors.l1 : Nat → List (S51) → List (S51) → List (S52) → Int → Option (Bool)
 | 0, _, _, _, _ => none
 | k + 1, x8, x10, x12, x14 => if x14 < 40 then (if x8.length < 5864062014805 then (sapperlaw14_FindFactors.l1 k (x8 ++ [(⟨0, 82, 0⟩ : S51)]) x10 x12 (wrap64 (x14 + 1))) else (none)) else (sapperlaw14_FindFactors.l2 k x10 x12 0)
def sapperlaw14_FindFactors.l2 : Nat → List (S51) → List (S52) → Int → Option (Bool)
 | 0, _, _, _ => none
 | k + 1, x10, x12, x15 => if x15 < (x12.length : Int) then (if 0 ≤ x15 then (if x15 < (x10.length : Int) then (if ((rd_T51 x10 x15).f1) = ((rd_T52 x12 x15).f1) then (sapperlaw14_FindFactors.l2 k x10 x12 (wrap64 (x15 + 1))) else (some false)) else (none)) else (none)) else ((sapperlaw14_awake.f k).bind fun t566 => (some t566))
end
def sapperlaw14_FindFactors.f (k : Nat) (l0 : List Int) (l1 : List Int) : Option (Bool) := (sapperlaw14_index.f k l0).bind fun bt526 => (if bt526.2 = true then (sapperlaw14_FindFactors.j0 k l0 l1 bt526.1 bt526.2 ((bt526.1.length : Int) == 0)) else (sapperlaw14_FindFactors.j0 k l0 l1 bt526.1 bt526.2 true))
theorem sapperlaw14_FindFactors.mono_l : ∀ k, (∀ y0 y1 y2 y3 y4, LeO (sapperlaw14_FindFactors.j0 k y0 y1 y2 y3 y4) (sapperlaw14_FindFactors.j0 (k + 1) y0 y1 y2 y3 y4)) ∧ (∀ y0 y1 y2 y3, LeO (sapperlaw14_FindFactors.j1 k y0 y1 y2 y3) (sapperlaw14_FindFactors.j1 (k + 1) y0 y1 y2 y3)) ∧ (∀ y0 y1 y2 y3, LeO (sapperlaw14_FindFactors.l0 k y0 y1 y2 y3) (sapperlaw14_FindFactors.l0 (k + 1) y0 y1 y2 y3)) ∧ (∀ y0 y1 y2 y3, LeO (sapperlaw14_FindFactors.l1 k y0 y1 y2 y3) (sapperlaw14_FindFactors.l1 (k + 1) y0 y1 y2 y3)) ∧ (∀ y0 y1 y2, LeO (sapperlaw14_FindFactors.l2 k y0 y1 y2) (sapperlaw14_FindFactors.l2 (k + 1) y0 y1 y2))
 | 0 => ⟨fun _ _ _ _ _ r h => by simp [sapperlaw14_FindFactors.j0] at h, fun _ _ _ _ r h => by simp [sapperlaw14_FindFactors.j1] at h, fun _ _ _ _ r h => by simp [sapperlaw14_FindFactors.l0] at h, fun _ _ _ _ r h => by simp [sapperlaw14_FindFactors.l1] at h, fun _ _ _ r h => by simp [sapperlaw14_FindFactors.l2] at h⟩
 | k + 1 => by
  obtain ⟨ih0, ih1, ih2, ih3, ih4⟩ := sapperlaw14_FindFactors.mono_l k
  refine ⟨?_, ?_, ?_, ?_, ?_⟩
  ·intro y0 y1 y2 y3 y4
   unfold sapperlaw14_FindFactors.j0
   repeat' first
   | (with_reducible exact ih0 _ _ _ _ _)
   | (with_reducible exact ih1 _ _ _ _)
   | (with_reducible exact ih2 _ _ _ _)
   | (with_reducible exact ih3 _ _ _ _)
   | (with_reducible exact ih4 _ _ _)
   | (with_reducible exact find_Factors.mono _ _ _)
   | (with_reducible exact sapperlaw14_awake.mono _)
   | (with_reducible exact sapperlaw14_index.mono _ _)
   | (with_reducible exact sapperref14_Factors.mono _ _ _)
   | (with_reducible exact LeO.refl _)
   | (with_reducible exact LeO.none _)
   | (with_reducible refine LeO.ite ?_ ?_)
   | (with_reducible refine LeO.bind ?_ (fun _ => ?_))
   | exact ih0 _ _ _ _ _
   | exact ih1 _ _ _ _
   | exact ih2 _ _ _ _
   | exact ih3 _ _ _ _
   | exact ih4 _ _ _
   | exact find_Factors.mono _ _ _
   | exact sapperlaw14_awake.mono _
   | exact sapperlaw14_index.mono _ _
   | exact sapperref14_Factors.mono _ _ _
   | exact LeO.none _
   | refine LeO.ite ?_ ?_
   | refine LeO.bind ?_ (fun _ => ?_)
  ·intro y0 y1 y2 y3
   unfold sapperlaw14_FindFactors.j1
   repeat' first
   | (with_reducible exact ih0 _ _ _ _ _)
   | (with_reducible exact ih1 _ _ _ _)
   | (with_reducible exact ih2 _ _ _ _)
   | (with_reducible exact ih3 _ _ _ _)
   | (with_reducible exact ih4 _ _ _)
   | (with_reducible exact find_Factors.mono _ _ _)
   | (with_reducible exact sapperlaw14_awake.mono _)
   | (with_reducible exact sapperlaw14_index.mono _ _)
   | (with_reducible exact sapperref14_Factors.mono _ _ _)
   | (with_reducible exact LeO.refl _)
   | (with_reducible exact LeO.none _)
   | (with_reducible refine LeO.ite ?_ ?_)
   | (with_reducible refine LeO.bind ?_ (fun _ => ?_))
   | exact ih0 _ _ _ _ _
   | exact ih1 _ _ _ _
   | exact ih2 _ _ _ _
   | exact ih3 _ _ _ _
   | exact ih4 _ _ _
   | exact find_Factors.mono _ _ _
   | exact sapperlaw14_awake.mono _
   | exact sapperlaw14_index.mono _ _
   | exact sapperref14_Factors.mono _ _ _
   | exact LeO.none _
   | refine LeO.ite ?_ ?_
   | refine LeO.bind ?_ (fun _ => ?_)
  ·intro y0 y1 y2 y3
   unfold sapperlaw14_FindFactors.l0
   repeat' first
   | (with_reducible exact ih0 _ _ _ _ _)
   | (with_reducible exact ih1 _ _ _ _)
   | (with_reducible exact ih2 _ _ _ _)
   | (with_reducible exact ih3 _ _ _ _)
   | (with_reducible exact ih4 _ _ _)
   | (with_reducible exact find_Factors.mono _ _ _)
   | (with_reducible exact sapperlaw14_awake.mono _)
   | (with_reducible exact sapperlaw14_index.mono _ _)
   | (with_reducible exact sapperref14_Factors.mono _ _ _)
   | (with_reducible exact LeO.refl _)
   | (with_reducible exact LeO.none _)
   | (with_reducible refine LeO.ite ?_ ?_)
   | (with_reducible refine LeO.bind ?_ (fun _ => ?_))
   | exact ih0 _ _ _ _ _
   | exact ih1 _ _ _ _
   | exact ih2 _ _ _ _
   | exact ih3 _ _ _ _
   | exact ih4 _ _ _
   | exact find_Factors.mono _ _ _
   | exact sapperlaw14_awake.mono _
   | exact sapperlaw14_index.mono _ _
   | exact sapperref14_Factors.mono _ _ _
   | exact LeO.none _
   | refine LeO.ite ?_ ?_
   | refine LeO.bind ?_ (fun _ => ?_)
  ·intro y0 y1 y2 y3
   unfold sapperlaw14_FindFactors.l1
   repeat' first
   | (with_reducible exact ih0 _ _ _ _ _)
   | (with_reducible exact ih1 _ _ _ _)
   | (with_reducible exact ih2 _ _ _ _)
   | (with_reducible exact ih3 _ _ _ _)
   | (with_reducible exact ih4 _ _ _)
   | (with_reducible exact find_Factors.mono _ _ _)
   | (with_reducible exact sapperlaw14_awake.mono _)
   | (with_reducible exact sapperlaw14_index.mono _ _)
   | (with_reducible exact sapperref14_Factors.mono _ _ _)
   | (with_reducible exact LeO.refl _)
   | (with_reducible exact LeO.none _)
   | (with_reducible refine LeO.ite ?_ ?_)
   | (with_reducible refine LeO.bind ?_ (fun _ => ?_))
   | exact ih0 _ _ _ _ _
   | exact ih1 _ _ _ _
   | exact ih2 _ _ _ _
   | exact ih3 _ _ _ _
   | exact ih4 _ _ _
   | exact find_Factors.mono _ _ _
   | exact sapperlaw14_awake.mono _
   | exact sapperlaw14_index.mono _ _
   | exact sapperref14_Factors.mono _ _ _
   | exact LeO.none _
   | refine LeO.ite ?_ ?_
   | refine LeO.bind ?_ (fun _ => ?_)
  ·intro y0 y1 y2
   unfold sapperlaw14_FindFactors.l2
   repeat' first
   | (with_reducible exact ih0 _ _ _ _ _)
   | (with_reducible exact ih1 _ _ _ _)
   | (with_reducible exact ih2 _ _ _ _)
   | (with_reducible exact ih3 _ _ _ _)
   | (with_reducible exact ih4 _ _ _)
   | (with_reducible exact find_Factors.mono _ _ _)
   | (with_reducible exact sapperlaw14_awake.mono _)
   | (with_reducible exact sapperlaw14_index.mono _ _)
   | (with_reducible exact sapperref14_Factors.mono _ _ _)
   | (with_reducible exact LeO.refl _)
   | (with_reducible exact LeO.none _)
   | (with_reducible refine LeO.ite ?_ ?_)
   | (with_reducible refine LeO.bind ?_ (fun _ => ?_))
   | exact ih0 _ _ _ _ _
   | exact ih1 _ _ _ _
   | exact ih2 _ _ _ _
   | exact ih3 _ _ _ _
   | exact ih4 _ _ _
   | exact find_Factors.mono _ _ _
   | exact sapperlaw14_awake.mono _
   | exact sapperlaw14_index.mono _ _
   | exact sapperref14_Factors.mono _ _ _
   | exact LeO.none _
   | refine LeO.ite ?_ ?_
   | refine LeO.bind ?_ (fun _ => ?_)
theorem sapperlaw14_FindFactors.mono : ∀ a0 a1 k, LeO (sapperlaw14_FindFactors.f k a0 a1) (sapperlaw14_FindFactors.f (k + 1) a0 a1) := by
 intro a0 a1 k
 obtain ⟨ih0, ih1, ih2, ih3, ih4⟩ := sapperlaw14_FindFactors.mono_l k
 unfold sapperlaw14_FindFactors.f
 repeat' first
   | (with_reducible exact ih0 _ _ _ _ _)
   | (with_reducible exact ih1 _ _ _ _)
   | (with_reducible exact ih2 _ _ _ _)
   | (with_reducible exact ih3 _ _ _ _)
   | (with_reducible exact ih4 _ _ _)
   | (with_reducible exact find_Factors.mono _ _ _)
   | (with_reducible exact sapperlaw14_awake.mono _)
   | (with_reducible exact sapperlaw14_index.mono _ _)
   | (with_reducible exact sapperref14_Factors.mono _ _ _)
   | (with_reducible exact LeO.refl _)
   | (with_reducible exact LeO.none _)
   | (with_reducible refine LeO.ite ?_ ?_)
   | (with_reducible refine LeO.bind ?_ (fun _ => ?_))
   | exact ih0 _ _ _ _ _
   | exact ih1 _ _ _ _
   | exact ih2 _ _ _ _
   | exact ih3 _ _ _ _
   | exact ih4 _ _ _
   | exact find_Factors.mono _ _ _
   | exact sapperlaw14_awake.mono _
   | exact sapperlaw14_index.mono _ _
   | exact sapperref14_Factors.mono _ _ _
   | exact LeO.none _
   | refine LeO.ite ?_ ?_
   | refine LeO.bind ?_ (fun _ => ?_)
set_option maxHeartbeats 8000000 in
set_option maxRecDepth 100000 in
theorem sapperlaw14_FindFactors.calls (k : Nat) (A0 : Option Addr) (c0 : Nat) (l0 : List Int) (A1 : Option Addr) (c1 : Nat) (l1 : List Int) (r : Bool) (w : World) (hr0 : Kd.C (Kd.int .u8) w A0 l0.length l0) (hc0 : l0.length ≤ c0) (hr1 : Kd.C (Kd.int .u8) w A1 l1.length l1) (hc1 : l1.length ≤ c1) (h : sapperlaw14_FindFactors.f k l0 l1 = some r) :
  Calls Try.prog 10 #[.slice A0 l0.length c0, .slice A1 l1.length c1] w fun e w' => e = .returned (.bool r) ∧ Below w.heap.size w w' := by
 have hu51 := Try.underlying51
 have HR0 := Aside0.mk hr0
 have HC0 := Aside0.mk hc0
 clear hr0 hc0
 have HR1 := Aside0.mk hr1
 have HC1 := Aside0.mk hc1
 clear hr1 hc1
 have HB := Aside0.mk (Below.refl w.heap.size w)
 have H : ((sapperlaw14_index.f k l0).bind fun bt526 => (if bt526.2 = true then (sapperlaw14_FindFactors.j0 k l0 l1 bt526.1 bt526.2 ((bt526.1.length : Int) == 0)) else (sapperlaw14_FindFactors.j0 k l0 l1 bt526.1 bt526.2 true))) = some r := h
 clear h
 replace H := Option.bind_eq_some_iff.mp H
 obtain ⟨⟨t526, t527⟩, A30, H⟩ := H
 replace H : (if t527 = true then (sapperlaw14_FindFactors.j0 k l0 l1 t526 t527 ((t526.length : Int) == 0)) else (sapperlaw14_FindFactors.j0 k l0 l1 t526 t527 true)) = some r := H
 have A3 := Aside0.mk A30
 clear A30
 have HC4 := Aside0.mk H
 clear H
 go_enter Try.func10, Try.ntmps10
 go_upto_region 2 with (first | (go_at_call 16; (with_reducible refine (sapperlaw14_index.calls k _ _ l0 t526 t527 _ ?side1 ?side2 A3.out).mono ?_); (case side1 => repeat (first | exact HR0.out | (with_reducible refine Kd.C_alloc ?_ _) | (with_reducible refine Kd.C_drewN ?_ _) | (with_reducible refine Kd.C_drew ?_))); (case side2 => exact HC0.out); rintro e w5 ⟨v528, rfl, ho0, hb⟩; have n0_ := Aside0.mk (Kd.S_lower ho0 (below_size (by repeat (first | (with_reducible first | exact HB.out | apply below_alloc | apply pw_below_drewN | apply below_drew1) | exact HB.out)))); have n1_ := Aside0.mk (below_step (by repeat (first | (with_reducible first | exact HB.out | apply below_alloc | apply pw_below_drewN | apply below_drew1) | exact HB.out)) hb); clear HB; have HO529 := n0_; have HB := n1_; clear n0_ n1_; (try clear hb); (try clear hb2); (try clear hk); (try clear hi); (try clear ho0)))
 repeat (go_quiet (first | (go_at_call 16; (fail_if_success (have hz_ := HO529)); (with_reducible refine (sapperlaw14_index.calls k _ _ l0 t526 t527 _ ?side1 ?side2 A3.out).mono ?_); (case side1 => repeat (first | exact HR0.out | (with_reducible refine Kd.C_alloc ?_ _) | (with_reducible refine Kd.C_drewN ?_ _) | (with_reducible refine Kd.C_drew ?_))); (case side2 => exact HC0.out); rintro e w5 ⟨v528, rfl, ho0, hb⟩; have n0_ := Aside0.mk (Kd.S_lower ho0 (below_size (by repeat (first | (with_reducible first | exact HB.out | apply below_alloc | apply pw_below_drewN | apply below_drew1) | exact HB.out)))); have n1_ := Aside0.mk (below_step (by repeat (first | (with_reducible first | exact HB.out | apply below_alloc | apply pw_below_drewN | apply below_drew1) | exact HB.out)) hb); clear HB; have HO529 := n0_; have HB := n1_; clear n0_ n1_; (try clear hb); (try clear hb2); (try clear hk); (try clear hi); (try clear ho0))); go_upto_region 2 with (first | (go_at_call 16; (with_reducible refine (sapperlaw14_index.calls k _ _ l0 t526 t527 _ ?side1 ?side2 A3.out).mono ?_); (case side1 => repeat (first | exact HR0.out | (with_reducible refine Kd.C_alloc ?_ _) | (with_reducible refine Kd.C_drewN ?_ _) | (with_reducible refine Kd.C_drew ?_))); (case side2 => exact HC0.out); rintro e w5 ⟨v528, rfl, ho0, hb⟩; have n0_ := Aside0.mk (Kd.S_lower ho0 (below_size (by repeat (first | (with_reducible first | exact HB.out | apply below_alloc | apply pw_below_drewN | apply below_drew1) | exact HB.out)))); have n1_ := Aside0.mk (below_step (by repeat (first | (with_reducible first | exact HB.out | apply below_alloc | apply pw_below_drewN | apply below_drew1) | exact HB.out)) hb); clear HB; have HO529 := n0_; have HB := n1_; clear n0_ n1_; (try clear hb); (try clear hb2); (try clear hk); (try clear hi); (try clear ho0))))
 (try simp only [Act.put, List.setIfInBounds_toArray, List.set_cons_zero, List.set_cons_succ])
 go_cut [26] (fun v26 wc => ∃ (kq : Nat) (x26_3 : Bool), v26 = .bool x26_3 ∧ Aside0 (sapperlaw14_FindFactors.j0 kq l0 l1 t526 t527 x26_3 = some r) ∧ Aside0 (kq ≤ k) ∧ Aside0 (Kd.S k61 61 wc w.heap.size (fun _ => True) v528 t526) ∧ Aside0 (Below w.heap.size w wc))
 case first =>
  have H := HC4.out
  clear HC4
  by_cases c6 : t527 = true
  ·subst c6
   have H1 : (sapperlaw14_FindFactors.j0 k l0 l1 t526 true ((t526.length : Int) == 0)) = some r := by rw [if_pos rfl] at H; exact H
   clear H
   have H := H1
   clear H1
   have H' := Aside0.mk H
   clear H
   obtain ⟨Ao7, co7, eo7⟩ := Kd.S_slice HO529.out
   subst eo7
   go_wp2
   repeat (go_quiet (fail); try go_wp2)
   go_meet
   case rel => exact ⟨_, (((t526.length : Int) == 0)), (by first | rfl | (simp; done) | (simp [*]; done)), H', ⟨by first | omega | exact Nat.le_refl _⟩, ⟨by (with_reducible repeat (first | apply Kd.S_alloc | apply Kd.S_drewN | apply Kd.S_drew)); exact HO529.out⟩, ⟨by repeat (first | (with_reducible first | exact HB.out | apply below_alloc | apply pw_below_drewN | apply below_drew1) | exact HB.out)⟩⟩
  ·replace c6 := Bool.eq_false_iff.mpr c6
   subst c6
   have H1 : (sapperlaw14_FindFactors.j0 k l0 l1 t526 false true) = some r := by rw [if_neg (show ¬ (false = true) by decide)] at H; exact H
   clear H
   have H := H1
   clear H1
   have H' := Aside0.mk H
   clear H
   go_wp2
   repeat (go_quiet (fail); try go_wp2)
   go_meet
   case rel => exact ⟨_, (true), (by first | rfl | (simp; done) | (simp [*]; done)), H', ⟨by first | omega | exact Nat.le_refl _⟩, ⟨by (with_reducible repeat (first | apply Kd.S_alloc | apply Kd.S_drewN | apply Kd.S_drew)); exact HO529.out⟩, ⟨by repeat (first | (with_reducible first | exact HB.out | apply below_alloc | apply pw_below_drewN | apply below_drew1) | exact HB.out)⟩⟩
 case rest =>
  clear HC4
  try clear c1
  try clear p2
  try clear c6
  obtain ⟨kq, x26_3, rfl, HA, HJ3, HO_5, HB⟩ := hcut
  cases kq with
  | zero => exact absurd HA.out (by simp [sapperlaw14_FindFactors.j0])
  | succ kj3 =>
   have H := HA.out
   clear HA
   simp only [sapperlaw14_FindFactors.j0] at H
   by_cases c8 : x26_3 = true
   ·subst c8
    have H1 : (if t527 = true then ((sapperlaw14_awake.f kj3).bind fun t530 => (some t530)) else (some false)) = some r := by rw [if_pos rfl] at H; exact H
    clear H
    have H := H1
    clear H1
    by_cases c9 : t527 = true
    ·subst c9
     have H1 : ((sapperlaw14_awake.f kj3).bind fun t530 => (some t530)) = some r := by rw [if_pos rfl] at H; exact H
     clear H
     have H := H1
     clear H1
     replace H := Option.bind_eq_some_iff.mp H
     obtain ⟨t530, A100, H⟩ := H
     replace H : (some t530) = some r := H
     have A10 := Aside0.mk A100
     clear A100
     obtain rfl := Option.some.inj H
     go_wp2_with (first | (go_at_call 17; (with_reducible refine (sapperlaw14_awake.calls kj3  t530 _ A10.out).mono ?_); rintro e w11 ⟨rfl, hb⟩; have n0_ := Aside0.mk (Kd.S_below (by (with_reducible repeat (first | apply Kd.S_alloc | apply Kd.S_drewN | apply Kd.S_drew)); exact HO_5.out) hb); have n1_ := Aside0.mk (below_step (by repeat (first | (with_reducible first | exact HB.out | apply below_alloc | apply pw_below_drewN | apply below_drew1) | exact HB.out)) hb); clear HO_5; clear HB; have HO_5 := n0_; have HB := n1_; clear n0_ n1_; (try clear hb); (try clear hb2); (try clear hk); (try clear hi)))
     repeat (go_quiet (first | (go_at_call 17; (with_reducible refine (sapperlaw14_awake.calls kj3  t530 _ A10.out).mono ?_); rintro e w11 ⟨rfl, hb⟩; have n0_ := Aside0.mk (Kd.S_below (by (with_reducible repeat (first | apply Kd.S_alloc | apply Kd.S_drewN | apply Kd.S_drew)); exact HO_5.out) hb); have n1_ := Aside0.mk (below_step (by repeat (first | (with_reducible first | exact HB.out | apply below_alloc | apply pw_below_drewN | apply below_drew1) | exact HB.out)) hb); clear HO_5; clear HB; have HO_5 := n0_; have HB := n1_; clear n0_ n1_; (try clear hb); (try clear hb2); (try clear hk); (try clear hi))); try go_wp2_with (first | (go_at_call 17; (with_reducible refine (sapperlaw14_awake.calls kj3  t530 _ A10.out).mono ?_); rintro e w11 ⟨rfl, hb⟩; have n0_ := Aside0.mk (Kd.S_below (by (with_reducible repeat (first | apply Kd.S_alloc | apply Kd.S_drewN | apply Kd.S_drew)); exact HO_5.out) hb); have n1_ := Aside0.mk (below_step (by repeat (first | (with_reducible first | exact HB.out | apply below_alloc | apply pw_below_drewN | apply below_drew1) | exact HB.out)) hb); clear HO_5; clear HB; have HO_5 := n0_; have HB := n1_; clear n0_ n1_; (try clear hb); (try clear hb2); (try clear hk); (try clear hi))))
     go_ret
     exact ⟨by first | rfl | (simp [errW_none, errW_some] <;> rfl) | (simp [*, errW_none, errW_some] <;> rfl), by repeat (first | (with_reducible first | exact HB.out | apply below_alloc | apply pw_below_drewN | apply below_drew1) | exact HB.out)⟩
    ·replace c9 := Bool.eq_false_iff.mpr c9
     subst c9
     have H1 : (some false) = some r := by rw [if_neg (show ¬ (false = true) by decide)] at H; exact H
     clear H
     have H := H1
     clear H1
     obtain rfl := Option.some.inj H
     go_wp2
     repeat (go_quiet (fail); try go_wp2)
     go_ret
     exact ⟨by first | rfl | (simp [errW_none, errW_some] <;> rfl) | (simp [*, errW_none, errW_some] <;> rfl), by repeat (first | (with_reducible first | exact HB.out | apply below_alloc | apply pw_below_drewN | apply below_drew1) | exact HB.out)⟩
   ·replace c8 := Bool.eq_false_iff.mpr c8
    subst c8
    have H1 : ((sapperlaw14_lend.f l1).bind fun t531 => (if 0 ≤ (l1.length : Int) then (if (l1.length : Int) ≤ (t531.length : Int) then ((find_Factors.f kj3 t526 (t531.take ((l1.length : Int) : Int).toNat)).bind fun bt538 => ((find_Factors.f kj3 t526 (t531.take ((l1.length : Int) : Int).toNat)).bind fun bt546 => ((sapperref14_Factors.f kj3 l0 l1).bind fun t550 => (if bt538.2 = 0 then (if bt546.2 = 0 then (if (bt538.1.length : Int) = (t550.length : Int) then (if (bt546.1.length : Int) = (t550.length : Int) then ((sapperlaw14_kept.f t531 l1).bind fun t553 => (sapperlaw14_FindFactors.j1 kj3 bt538.1 bt546.1 t550 (!t553))) else (sapperlaw14_FindFactors.j1 kj3 bt538.1 bt546.1 t550 true)) else (sapperlaw14_FindFactors.j1 kj3 bt538.1 bt546.1 t550 true)) else (sapperlaw14_FindFactors.j1 kj3 bt538.1 bt546.1 t550 true)) else (sapperlaw14_FindFactors.j1 kj3 bt538.1 bt546.1 t550 true))))) else (none)) else (none))) = some r := by rw [if_neg (show ¬ (false = true) by decide)] at H; exact H
    clear H
    have H := H1
    clear H1
    replace H := Option.bind_eq_some_iff.mp H
    obtain ⟨t531, A120, H⟩ := H
    replace H : (if 0 ≤ (l1.length : Int) then (if (l1.length : Int) ≤ (t531.length : Int) then ((find_Factors.f kj3 t526 (t531.take ((l1.length : Int) : Int).toNat)).bind fun bt538 => ((find_Factors.f kj3 t526 (t531.take ((l1.length : Int) : Int).toNat)).bind fun bt546 => ((sapperref14_Factors.f kj3 l0 l1).bind fun t550 => (if bt538.2 = 0 then (if bt546.2 = 0 then (if (bt538.1.length : Int) = (t550.length : Int) then (if (bt546.1.length : Int) = (t550.length : Int) then ((sapperlaw14_kept.f t531 l1).bind fun t553 => (sapperlaw14_FindFactors.j1 kj3 bt538.1 bt546.1 t550 (!t553))) else (sapperlaw14_FindFactors.j1 kj3 bt538.1 bt546.1 t550 true)) else (sapperlaw14_FindFactors.j1 kj3 bt538.1 bt546.1 t550 true)) else (sapperlaw14_FindFactors.j1 kj3 bt538.1 bt546.1 t550 true)) else (sapperlaw14_FindFactors.j1 kj3 bt538.1 bt546.1 t550 true))))) else (none)) else (none)) = some r := H
    have A12 := Aside0.mk A120
    clear A120
    by_cases c13 : 0 ≤ (l1.length : Int)
    ·rw [if_pos c13] at H
     have c13b0 := eq_true c13
     have c13b1 : decide (0 ≤ (l1.length : Int)) = true := decide_eq_true c13
     clear c13
     by_cases c14 : (l1.length : Int) ≤ (t531.length : Int)
     ·rw [if_pos c14] at H
      have c14b0 := eq_true c14
      have c14b1 : decide ((l1.length : Int) ≤ (t531.length : Int)) = true := decide_eq_true c14
      clear c14
      obtain ⟨y534, hy534⟩ : ∃ y_ : List Int, y_ = (t531.take ((l1.length : Int) : Int).toNat) := ⟨_, rfl⟩
      replace H : ((find_Factors.f kj3 t526 y534).bind fun bt538 => ((find_Factors.f kj3 t526 y534).bind fun bt546 => ((sapperref14_Factors.f kj3 l0 l1).bind fun t550 => (if bt538.2 = 0 then (if bt546.2 = 0 then (if (bt538.1.length : Int) = (t550.length : Int) then (if (bt546.1.length : Int) = (t550.length : Int) then ((sapperlaw14_kept.f t531 l1).bind fun t553 => (sapperlaw14_FindFactors.j1 kj3 bt538.1 bt546.1 t550 (!t553))) else (sapperlaw14_FindFactors.j1 kj3 bt538.1 bt546.1 t550 true)) else (sapperlaw14_FindFactors.j1 kj3 bt538.1 bt546.1 t550 true)) else (sapperlaw14_FindFactors.j1 kj3 bt538.1 bt546.1 t550 true)) else (sapperlaw14_FindFactors.j1 kj3 bt538.1 bt546.1 t550 true))))) = some r := by first | (rw [hy534]; with_reducible exact H) | (have H2_ := (Option.bind_some _ _).symm.trans H; rw [hy534]; with_reducible exact H2_) | (have H2_ := (Option.bind_some _ _).symm.trans H; with_reducible exact H2_) | with_reducible exact H | (rw [hy534]; exact H) | exact H
      have Ny534 := Aside0.mk hy534
      clear hy534
      replace H := Option.bind_eq_some_iff.mp H
      obtain ⟨⟨t538, t539⟩, A150, H⟩ := H
      replace H : ((find_Factors.f kj3 t526 y534).bind fun bt546 => ((sapperref14_Factors.f kj3 l0 l1).bind fun t550 => (if t539 = 0 then (if bt546.2 = 0 then (if (t538.length : Int) = (t550.length : Int) then (if (bt546.1.length : Int) = (t550.length : Int) then ((sapperlaw14_kept.f t531 l1).bind fun t553 => (sapperlaw14_FindFactors.j1 kj3 t538 bt546.1 t550 (!t553))) else (sapperlaw14_FindFactors.j1 kj3 t538 bt546.1 t550 true)) else (sapperlaw14_FindFactors.j1 kj3 t538 bt546.1 t550 true)) else (sapperlaw14_FindFactors.j1 kj3 t538 bt546.1 t550 true)) else (sapperlaw14_FindFactors.j1 kj3 t538 bt546.1 t550 true)))) = some r := H
      have A15 := Aside0.mk A150
      clear A150
      have c16b0 := eq_true (of_decide_eq_true (by first | (with_reducible assumption) | assumption) : 0 ≤ (l1.length : Int))
      have c17b0 := eq_true (of_decide_eq_true (by first | (with_reducible assumption) | assumption) : (l1.length : Int) ≤ (t531.length : Int))
      replace H : ((find_Factors.f kj3 t526 y534).bind fun bt546 => ((sapperref14_Factors.f kj3 l0 l1).bind fun t550 => (if t539 = 0 then (if bt546.2 = 0 then (if (t538.length : Int) = (t550.length : Int) then (if (bt546.1.length : Int) = (t550.length : Int) then ((sapperlaw14_kept.f t531 l1).bind fun t553 => (sapperlaw14_FindFactors.j1 kj3 t538 bt546.1 t550 (!t553))) else (sapperlaw14_FindFactors.j1 kj3 t538 bt546.1 t550 true)) else (sapperlaw14_FindFactors.j1 kj3 t538 bt546.1 t550 true)) else (sapperlaw14_FindFactors.j1 kj3 t538 bt546.1 t550 true)) else (sapperlaw14_FindFactors.j1 kj3 t538 bt546.1 t550 true)))) = some r := by first | (rw [hy542]; with_reducible exact H) | (have H2_ := (Option.bind_some _ _).symm.trans H; rw [hy542]; with_reducible exact H2_) | (have H2_ := (Option.bind_some _ _).symm.trans H; with_reducible exact H2_) | with_reducible exact H | (rw [hy542]; exact H) | exact H
      replace H := Option.bind_eq_some_iff.mp H
      obtain ⟨⟨t546, t547⟩, A180, H⟩ := H
      replace H : ((sapperref14_Factors.f kj3 l0 l1).bind fun t550 => (if t539 = 0 then (if t547 = 0 then (if (t538.length : Int) = (t550.length : Int) then (if (t546.length : Int) = (t550.length : Int) then ((sapperlaw14_kept.f t531 l1).bind fun t553 => (sapperlaw14_FindFactors.j1 kj3 t538 t546 t550 (!t553))) else (sapperlaw14_FindFactors.j1 kj3 t538 t546 t550 true)) else (sapperlaw14_FindFactors.j1 kj3 t538 t546 t550 true)) else (sapperlaw14_FindFactors.j1 kj3 t538 t546 t550 true)) else (sapperlaw14_FindFactors.j1 kj3 t538 t546 t550 true))) = some r := H
      have A18 := Aside0.mk A180
      clear A180
      replace H := Option.bind_eq_some_iff.mp H
      obtain ⟨t550, A190, H⟩ := H
      replace H : (if t539 = 0 then (if t547 = 0 then (if (t538.length : Int) = (t550.length : Int) then (if (t546.length : Int) = (t550.length : Int) then ((sapperlaw14_kept.f t531 l1).bind fun t553 => (sapperlaw14_FindFactors.j1 kj3 t538 t546 t550 (!t553))) else (sapperlaw14_FindFactors.j1 kj3 t538 t546 t550 true)) else (sapperlaw14_FindFactors.j1 kj3 t538 t546 t550 true)) else (sapperlaw14_FindFactors.j1 kj3 t538 t546 t550 true)) else (sapperlaw14_FindFactors.j1 kj3 t538 t546 t550 true)) = some r := H
      have A19 := Aside0.mk A190
      clear A190
      have HC20 := Aside0.mk H
      clear H
      go_upto_region 8 with (first | (go_at_call 18; (with_reducible refine (sapperlaw14_lend.calls _ _ l1 t531 _ ?side1 ?side2 A12.out).mono ?_); (case side1 => repeat (first | exact (Kd.C_below HR1.out HB.out) | (with_reducible refine Kd.C_alloc ?_ _) | (with_reducible refine Kd.C_drewN ?_ _) | (with_reducible refine Kd.C_drew ?_))); (case side2 => exact HC1.out); rintro e w21 ⟨v532, rfl, ho0, hb⟩; have n0_ := Aside0.mk (Kd.S_elder' (by (with_reducible repeat (first | apply Kd.S_alloc | apply Kd.S_drewN | apply Kd.S_drew)); exact HO_5.out) (Kd.R_base ho0) hb); have n1_ := Aside0.mk (Kd.R_lower ho0 (below_size (by repeat (first | (with_reducible first | exact HB.out | apply below_alloc | apply pw_below_drewN | apply below_drew1) | exact HB.out)))); have n2_ := Aside0.mk (below_step (by repeat (first | (with_reducible first | exact HB.out | apply below_alloc | apply pw_below_drewN | apply below_drew1) | exact HB.out)) hb); clear HO_5; clear HB; have HO_5 := n0_; have HO533 := n1_; have HB := n2_; clear n0_ n1_ n2_; (try clear hb); (try clear hb2); (try clear hk); (try clear hi); (try clear ho0); obtain ⟨Ao23, co23, eo23⟩ := Kd.R_slice HO533.out; subst eo23; have q22 : ((l1.length : Int) : Int) ≤ ((t531.length : Int) : Int) := of_decide_eq_true (by first | (with_reducible assumption) | assumption); obtain ⟨i022, hi022, _, hsz22, _⟩ := info_parts info5; have hroom22 : t531.length ≤ co23 := (Kd.R_reads' HO533.out).2.1; have hC22 : Kd.C (Kd.int .u8) _ Ao23 t531.length t531 := (Kd.R_reads' HO533.out).2.2; have hcut22 := cut_to (P := Try.prog) 22 5 .i64 Try.underlying22 hi022 Ao23 t531.length co23 (l1.length : Int) (of_decide_eq_true (by first | (with_reducible assumption) | assumption)) q22 hroom22; have hr22 := Kd.C_take (m := ((l1.length : Int) : Int).toNat) hC22 (by omega); have hy22 : y534.length = ((l1.length : Int) : Int).toNat := (by rw [Ny534.out, List.length_take]; omega); rw [← Ny534.out] at hr22; rw [← hy22] at hcut22; have HR537 := Aside0.mk hr22; have HC537 := Aside0.mk (show y534.length ≤ co23 from by omega); clear hr22 hC22 hroom22 hi022 hsz22; have KY22 := Aside0.mk hy22; clear hy22; have KL22 := Aside0.mk (show ((l1.length : Int) : Int).toNat ≤ t531.length from by omega); replace q22 := eq_true q22; obtain ⟨Ao24, co24, eo24⟩ := Kd.S_slice HO_5.out; subst eo24) | (go_at_call 32; (fail_if_success (have hz_ := HO541)); (with_reducible refine (find_Factors.calls kj3 _ _ t526 _ _ y534 t538 t539 _ ?side1 ?side2 ?side3 ?side4 A15.out).mono ?_); (case side1 => repeat (first | exact (Kd.S_reads' HO_5.out).2.2 | (with_reducible refine Kd.C_alloc ?_ _) | (with_reducible refine Kd.C_drewN ?_ _) | (with_reducible refine Kd.C_drew ?_))); (case side2 => exact (Kd.S_reads' HO_5.out).2.1); (case side3 => repeat (first | exact (by repeat (first | (with_reducible exact HR537.out) | (with_reducible refine Kd.C_alloc ?_ _) | (with_reducible refine Kd.C_drewN ?_ _) | (with_reducible refine Kd.C_drew ?_) | exact HR537.out)) | (with_reducible refine Kd.C_alloc ?_ _) | (with_reducible refine Kd.C_drewN ?_ _) | (with_reducible refine Kd.C_drew ?_))); (case side4 => exact HC537.out); rintro e w25 ⟨v540, rfl, ho0, hb⟩; have n0_ := Aside0.mk (Kd.S_below (by (with_reducible repeat (first | apply Kd.S_alloc | apply Kd.S_drewN | apply Kd.S_drew)); exact HO_5.out) hb); have n1_ := Aside0.mk (Kd.R_below (by (with_reducible repeat (first | apply Kd.R_alloc | apply Kd.R_drewN | apply Kd.R_drew)); exact HO533.out) hb); have n2_ := Aside0.mk (Kd.R_lower ho0 (below_size (by repeat (first | (with_reducible first | exact HB.out | apply below_alloc | apply pw_below_drewN | apply below_drew1) | exact HB.out)))); have n3_ := Aside0.mk (Kd.C_below (by repeat (first | (with_reducible exact HR537.out) | (with_reducible refine Kd.C_alloc ?_ _) | (with_reducible refine Kd.C_drewN ?_ _) | (with_reducible refine Kd.C_drew ?_) | exact HR537.out)) hb); have n4_ := Aside0.mk (below_step (by repeat (first | (with_reducible first | exact HB.out | apply below_alloc | apply pw_below_drewN | apply below_drew1) | exact HB.out)) hb); clear HO_5; clear HO533; clear HR537; clear HB; have HO_5 := n0_; have HO533 := n1_; have HO541 := n2_; have HR537 := n3_; have HB := n4_; clear n0_ n1_ n2_ n3_ n4_; (try clear hb); (try clear hb2); (try clear hk); (try clear hi); (try clear ho0); have q26 : ((l1.length : Int) : Int) ≤ ((t531.length : Int) : Int) := of_decide_eq_true (by first | (with_reducible assumption) | assumption); obtain ⟨i026, hi026, _, hsz26, _⟩ := info_parts info5; have hroom26 : t531.length ≤ co23 := (Kd.R_reads' HO533.out).2.1; have hC26 : Kd.C (Kd.int .u8) _ Ao23 t531.length t531 := (Kd.R_reads' HO533.out).2.2; have hcut26 := cut_to (P := Try.prog) 22 5 .i64 Try.underlying22 hi026 Ao23 t531.length co23 (l1.length : Int) (of_decide_eq_true (by first | (with_reducible assumption) | assumption)) q26 hroom26; have hr26 := Kd.C_take (m := ((l1.length : Int) : Int).toNat) hC26 (by omega); have hy26 : y534.length = ((l1.length : Int) : Int).toNat := (by rw [Ny534.out, List.length_take]; omega); rw [← Ny534.out] at hr26; rw [← hy26] at hcut26; have HR545 := Aside0.mk hr26; have HC545 := Aside0.mk (show y534.length ≤ co23 from by omega); clear hr26 hC26 hroom26 hi026 hsz26; have KY26 := Aside0.mk hy26; clear hy26; have KL26 := Aside0.mk (show ((l1.length : Int) : Int).toNat ≤ t531.length from by omega); replace q26 := eq_true q26) | (go_at_call 32; (with_reducible refine (find_Factors.calls kj3 _ _ t526 _ _ y534 t546 t547 _ ?side1 ?side2 ?side3 ?side4 A18.out).mono ?_); (case side1 => repeat (first | exact (Kd.S_reads' HO_5.out).2.2 | (with_reducible refine Kd.C_alloc ?_ _) | (with_reducible refine Kd.C_drewN ?_ _) | (with_reducible refine Kd.C_drew ?_))); (case side2 => exact (Kd.S_reads' HO_5.out).2.1); (case side3 => repeat (first | exact (by repeat (first | (with_reducible exact HR545.out) | (with_reducible refine Kd.C_alloc ?_ _) | (with_reducible refine Kd.C_drewN ?_ _) | (with_reducible refine Kd.C_drew ?_) | exact HR545.out)) | (with_reducible refine Kd.C_alloc ?_ _) | (with_reducible refine Kd.C_drewN ?_ _) | (with_reducible refine Kd.C_drew ?_))); (case side4 => exact HC545.out); rintro e w27 ⟨v548, rfl, ho0, hb⟩; have n0_ := Aside0.mk (Kd.S_below (by (with_reducible repeat (first | apply Kd.S_alloc | apply Kd.S_drewN | apply Kd.S_drew)); exact HO_5.out) hb); have n1_ := Aside0.mk (Kd.R_below (by (with_reducible repeat (first | apply Kd.R_alloc | apply Kd.R_drewN | apply Kd.R_drew)); exact HO533.out) hb); have n2_ := Aside0.mk (Kd.R_elder' (by (with_reducible repeat (first | apply Kd.R_alloc | apply Kd.R_drewN | apply Kd.R_drew)); exact HO541.out) (Kd.R_base ho0) hb); have n3_ := Aside0.mk (Kd.R_lower (Kd.R_new' ho0 (Kd.R_lt (by (with_reducible repeat (first | apply Kd.R_alloc | apply Kd.R_drewN | apply Kd.R_drew)); exact HO541.out))) (below_size (by repeat (first | (with_reducible first | exact HB.out | apply below_alloc | apply pw_below_drewN | apply below_drew1) | exact HB.out)))); have n4_ := Aside0.mk (Kd.C_below (by repeat (first | (with_reducible exact HR537.out) | (with_reducible refine Kd.C_alloc ?_ _) | (with_reducible refine Kd.C_drewN ?_ _) | (with_reducible refine Kd.C_drew ?_) | exact HR537.out)) hb); have n5_ := Aside0.mk (Kd.C_below (by repeat (first | (with_reducible exact HR545.out) | (with_reducible refine Kd.C_alloc ?_ _) | (with_reducible refine Kd.C_drewN ?_ _) | (with_reducible refine Kd.C_drew ?_) | exact HR545.out)) hb); have n6_ := Aside0.mk (below_step (by repeat (first | (with_reducible first | exact HB.out | apply below_alloc | apply pw_below_drewN | apply below_drew1) | exact HB.out)) hb); clear HO_5; clear HO533; clear HO541; clear HR537; clear HR545; clear HB; have HO_5 := n0_; have HO533 := n1_; have HO541 := n2_; have HO549 := n3_; have HR537 := n4_; have HR545 := n5_; have HB := n6_; clear n0_ n1_ n2_ n3_ n4_ n5_ n6_; (try clear hb); (try clear hb2); (try clear hk); (try clear hi); (try clear ho0)) | (go_at_call 33; (with_reducible refine (sapperref14_Factors.calls kj3 _ _ l0 _ _ l1 t550 _ ?side1 ?side2 ?side3 ?side4 A19.out).mono ?_); (case side1 => repeat (first | exact (Kd.C_below HR0.out HB.out) | (with_reducible refine Kd.C_alloc ?_ _) | (with_reducible refine Kd.C_drewN ?_ _) | (with_reducible refine Kd.C_drew ?_))); (case side2 => exact HC0.out); (case side3 => repeat (first | exact (Kd.C_below HR1.out HB.out) | (with_reducible refine Kd.C_alloc ?_ _) | (with_reducible refine Kd.C_drewN ?_ _) | (with_reducible refine Kd.C_drew ?_))); (case side4 => exact HC1.out); rintro e w28 ⟨v551, rfl, ho0, hb⟩; have n0_ := Aside0.mk (Kd.S_below (by (with_reducible repeat (first | apply Kd.S_alloc | apply Kd.S_drewN | apply Kd.S_drew)); exact HO_5.out) hb); have n1_ := Aside0.mk (Kd.R_below (by (with_reducible repeat (first | apply Kd.R_alloc | apply Kd.R_drewN | apply Kd.R_drew)); exact HO533.out) hb); have n2_ := Aside0.mk (Kd.R_below (by (with_reducible repeat (first | apply Kd.R_alloc | apply Kd.R_drewN | apply Kd.R_drew)); exact HO541.out) hb); have n3_ := Aside0.mk (Kd.R_below (by (with_reducible repeat (first | apply Kd.R_alloc | apply Kd.R_drewN | apply Kd.R_drew)); exact HO549.out) hb); have n4_ := Aside0.mk (Kd.R_lower ho0 (below_size (by repeat (first | (with_reducible first | exact HB.out | apply below_alloc | apply pw_below_drewN | apply below_drew1) | exact HB.out)))); have n5_ := Aside0.mk (Kd.C_below (by repeat (first | (with_reducible exact HR537.out) | (with_reducible refine Kd.C_alloc ?_ _) | (with_reducible refine Kd.C_drewN ?_ _) | (with_reducible refine Kd.C_drew ?_) | exact HR537.out)) hb); have n6_ := Aside0.mk (Kd.C_below (by repeat (first | (with_reducible exact HR545.out) | (with_reducible refine Kd.C_alloc ?_ _) | (with_reducible refine Kd.C_drewN ?_ _) | (with_reducible refine Kd.C_drew ?_) | exact HR545.out)) hb); have n7_ := Aside0.mk (below_step (by repeat (first | (with_reducible first | exact HB.out | apply below_alloc | apply pw_below_drewN | apply below_drew1) | exact HB.out)) hb); clear HO_5; clear HO533; clear HO541; clear HO549; clear HR537; clear HR545; clear HB; have HO_5 := n0_; have HO533 := n1_; have HO541 := n2_; have HO549 := n3_; have HO552 := n4_; have HR537 := n5_; have HR545 := n6_; have HB := n7_; clear n0_ n1_ n2_ n3_ n4_ n5_ n6_ n7_; (try clear hb); (try clear hb2); (try clear hk); (try clear hi); (try clear ho0)))
      repeat (go_quiet (first | (go_at_call 18; (fail_if_success (have hz_ := HO533)); (with_reducible refine (sapperlaw14_lend.calls _ _ l1 t531 _ ?side1 ?side2 A12.out).mono ?_); (case side1 => repeat (first | exact (Kd.C_below HR1.out HB.out) | (with_reducible refine Kd.C_alloc ?_ _) | (with_reducible refine Kd.C_drewN ?_ _) | (with_reducible refine Kd.C_drew ?_))); (case side2 => exact HC1.out); rintro e w21 ⟨v532, rfl, ho0, hb⟩; have n0_ := Aside0.mk (Kd.S_elder' (by (with_reducible repeat (first | apply Kd.S_alloc | apply Kd.S_drewN | apply Kd.S_drew)); exact HO_5.out) (Kd.R_base ho0) hb); have n1_ := Aside0.mk (Kd.R_lower ho0 (below_size (by repeat (first | (with_reducible first | exact HB.out | apply below_alloc | apply pw_below_drewN | apply below_drew1) | exact HB.out)))); have n2_ := Aside0.mk (below_step (by repeat (first | (with_reducible first | exact HB.out | apply below_alloc | apply pw_below_drewN | apply below_drew1) | exact HB.out)) hb); clear HO_5; clear HB; have HO_5 := n0_; have HO533 := n1_; have HB := n2_; clear n0_ n1_ n2_; (try clear hb); (try clear hb2); (try clear hk); (try clear hi); (try clear ho0); obtain ⟨Ao23, co23, eo23⟩ := Kd.R_slice HO533.out; subst eo23; have q22 : ((l1.length : Int) : Int) ≤ ((t531.length : Int) : Int) := of_decide_eq_true (by first | (with_reducible assumption) | assumption); obtain ⟨i022, hi022, _, hsz22, _⟩ := info_parts info5; have hroom22 : t531.length ≤ co23 := (Kd.R_reads' HO533.out).2.1; have hC22 : Kd.C (Kd.int .u8) _ Ao23 t531.length t531 := (Kd.R_reads' HO533.out).2.2; have hcut22 := cut_to (P := Try.prog) 22 5 .i64 Try.underlying22 hi022 Ao23 t531.length co23 (l1.length : Int) (of_decide_eq_true (by first | (with_reducible assumption) | assumption)) q22 hroom22; have hr22 := Kd.C_take (m := ((l1.length : Int) : Int).toNat) hC22 (by omega); have hy22 : y534.length = ((l1.length : Int) : Int).toNat := (by rw [Ny534.out, List.length_take]; omega); rw [← Ny534.out] at hr22; rw [← hy22] at hcut22; have HR537 := Aside0.mk hr22; have HC537 := Aside0.mk (show y534.length ≤ co23 from by omega); clear hr22 hC22 hroom22 hi022 hsz22; have KY22 := Aside0.mk hy22; clear hy22; have KL22 := Aside0.mk (show ((l1.length : Int) : Int).toNat ≤ t531.length from by omega); replace q22 := eq_true q22; obtain ⟨Ao24, co24, eo24⟩ := Kd.S_slice HO_5.out; subst eo24) | (go_at_call 32; (fail_if_success (have hz_ := HO541)); (with_reducible refine (find_Factors.calls kj3 _ _ t526 _ _ y534 t538 t539 _ ?side1 ?side2 ?side3 ?side4 A15.out).mono ?_); (case side1 => repeat (first | exact (Kd.S_reads' HO_5.out).2.2 | (with_reducible refine Kd.C_alloc ?_ _) | (with_reducible refine Kd.C_drewN ?_ _) | (with_reducible refine Kd.C_drew ?_))); (case side2 => exact (Kd.S_reads' HO_5.out).2.1); (case side3 => repeat (first | exact (by repeat (first | (with_reducible exact HR537.out) | (with_reducible refine Kd.C_alloc ?_ _) | (with_reducible refine Kd.C_drewN ?_ _) | (with_reducible refine Kd.C_drew ?_) | exact HR537.out)) | (with_reducible refine Kd.C_alloc ?_ _) | (with_reducible refine Kd.C_drewN ?_ _) | (with_reducible refine Kd.C_drew ?_))); (case side4 => exact HC537.out); rintro e w25 ⟨v540, rfl, ho0, hb⟩; have n0_ := Aside0.mk (Kd.S_below (by (with_reducible repeat (first | apply Kd.S_alloc | apply Kd.S_drewN | apply Kd.S_drew)); exact HO_5.out) hb); have n1_ := Aside0.mk (Kd.R_below (by (with_reducible repeat (first | apply Kd.R_alloc | apply Kd.R_drewN | apply Kd.R_drew)); exact HO533.out) hb); have n2_ := Aside0.mk (Kd.R_lower ho0 (below_size (by repeat (first | (with_reducible first | exact HB.out | apply below_alloc | apply pw_below_drewN | apply below_drew1) | exact HB.out)))); have n3_ := Aside0.mk (Kd.C_below (by repeat (first | (with_reducible exact HR537.out) | (with_reducible refine Kd.C_alloc ?_ _) | (with_reducible refine Kd.C_drewN ?_ _) | (with_reducible refine Kd.C_drew ?_) | exact HR537.out)) hb); have n4_ := Aside0.mk (below_step (by repeat (first | (with_reducible first | exact HB.out | apply below_alloc | apply pw_below_drewN | apply below_drew1) | exact HB.out)) hb); clear HO_5; clear HO533; clear HR537; clear HB; have HO_5 := n0_; have HO533 := n1_; have HO541 := n2_; have HR537 := n3_; have HB := n4_; clear n0_ n1_ n2_ n3_ n4_; (try clear hb); (try clear hb2); (try clear hk); (try clear hi); (try clear ho0); have q26 : ((l1.length : Int) : Int) ≤ ((t531.length : Int) : Int) := of_decide_eq_true (by first | (with_reducible assumption) | assumption); obtain ⟨i026, hi026, _, hsz26, _⟩ := info_parts info5; have hroom26 : t531.length ≤ co23 := (Kd.R_reads' HO533.out).2.1; have hC26 : Kd.C (Kd.int .u8) _ Ao23 t531.length t531 := (Kd.R_reads' HO533.out).2.2; have hcut26 := cut_to (P := Try.prog) 22 5 .i64 Try.underlying22 hi026 Ao23 t531.length co23 (l1.length : Int) (of_decide_eq_true (by first | (with_reducible assumption) | assumption)) q26 hroom26; have hr26 := Kd.C_take (m := ((l1.length : Int) : Int).toNat) hC26 (by omega); have hy26 : y534.length = ((l1.length : Int) : Int).toNat := (by rw [Ny534.out, List.length_take]; omega); rw [← Ny534.out] at hr26; rw [← hy26] at hcut26; have HR545 := Aside0.mk hr26; have HC545 := Aside0.mk (show y534.length ≤ co23 from by omega); clear hr26 hC26 hroom26 hi026 hsz26; have KY26 := Aside0.mk hy26; clear hy26; have KL26 := Aside0.mk (show ((l1.length : Int) : Int).toNat ≤ t531.length from by omega); replace q26 := eq_true q26) | (go_at_call 32; (fail_if_success (have hz_ := HO549)); (with_reducible refine (find_Factors.calls kj3 _ _ t526 _ _ y534 t546 t547 _ ?side1 ?side2 ?side3 ?side4 A18.out).mono ?_); (case side1 => repeat (first | exact (Kd.S_reads' HO_5.out).2.2 | (with_reducible refine Kd.C_alloc ?_ _) | (with_reducible refine Kd.C_drewN ?_ _) | (with_reducible refine Kd.C_drew ?_))); (case side2 => exact (Kd.S_reads' HO_5.out).2.1); (case side3 => repeat (first | exact (by repeat (first | (with_reducible exact HR545.out) | (with_reducible refine Kd.C_alloc ?_ _) | (with_reducible refine Kd.C_drewN ?_ _) | (with_reducible refine Kd.C_drew ?_) | exact HR545.out)) | (with_reducible refine Kd.C_alloc ?_ _) | (with_reducible refine Kd.C_drewN ?_ _) | (with_reducible refine Kd.C_drew ?_))); (case side4 => exact HC545.out); rintro e w27 ⟨v548, rfl, ho0, hb⟩; have n0_ := Aside0.mk (Kd.S_below (by (with_reducible repeat (first | apply Kd.S_alloc | apply Kd.S_drewN | apply Kd.S_drew)); exact HO_5.out) hb); have n1_ := Aside0.mk (Kd.R_below (by (with_reducible repeat (first | apply Kd.R_alloc | apply Kd.R_drewN | apply Kd.R_drew)); exact HO533.out) hb); have n2_ := Aside0.mk (Kd.R_elder' (by (with_reducible repeat (first | apply Kd.R_alloc | apply Kd.R_drewN | apply Kd.R_drew)); exact HO541.out) (Kd.R_base ho0) hb); have n3_ := Aside0.mk (Kd.R_lower (Kd.R_new' ho0 (Kd.R_lt (by (with_reducible repeat (first | apply Kd.R_alloc | apply Kd.R_drewN | apply Kd.R_drew)); exact HO541.out))) (below_size (by repeat (first | (with_reducible first | exact HB.out | apply below_alloc | apply pw_below_drewN | apply below_drew1) | exact HB.out)))); have n4_ := Aside0.mk (Kd.C_below (by repeat (first | (with_reducible exact HR537.out) | (with_reducible refine Kd.C_alloc ?_ _) | (with_reducible refine Kd.C_drewN ?_ _) | (with_reducible refine Kd.C_drew ?_) | exact HR537.out)) hb); have n5_ := Aside0.mk (Kd.C_below (by repeat (first | (with_reducible exact HR545.out) | (with_reducible refine Kd.C_alloc ?_ _) | (with_reducible refine Kd.C_drewN ?_ _) | (with_reducible refine Kd.C_drew ?_) | exact HR545.out)) hb); have n6_ := Aside0.mk (below_step (by repeat (first | (with_reducible first | exact HB.out | apply below_alloc | apply pw_below_drewN | apply below_drew1) | exact HB.out)) hb); clear HO_5; clear HO533; clear HO541; clear HR537; clear HR545; clear HB; have HO_5 := n0_; have HO533 := n1_; have HO541 := n2_; have HO549 := n3_; have HR537 := n4_; have HR545 := n5_; have HB := n6_; clear n0_ n1_ n2_ n3_ n4_ n5_ n6_; (try clear hb); (try clear hb2); (try clear hk); (try clear hi); (try clear ho0)) | (go_at_call 33; (fail_if_success (have hz_ := HO552)); (with_reducible refine (sapperref14_Factors.calls kj3 _ _ l0 _ _ l1 t550 _ ?side1 ?side2 ?side3 ?side4 A19.out).mono ?_); (case side1 => repeat (first | exact (Kd.C_below HR0.out HB.out) | (with_reducible refine Kd.C_alloc ?_ _) | (with_reducible refine Kd.C_drewN ?_ _) | (with_reducible refine Kd.C_drew ?_))); (case side2 => exact HC0.out); (case side3 => repeat (first | exact (Kd.C_below HR1.out HB.out) | (with_reducible refine Kd.C_alloc ?_ _) | (with_reducible refine Kd.C_drewN ?_ _) | (with_reducible refine Kd.C_drew ?_))); (case side4 => exact HC1.out); rintro e w28 ⟨v551, rfl, ho0, hb⟩; have n0_ := Aside0.mk (Kd.S_below (by (with_reducible repeat (first | apply Kd.S_alloc | apply Kd.S_drewN | apply Kd.S_drew)); exact HO_5.out) hb); have n1_ := Aside0.mk (Kd.R_below (by (with_reducible repeat (first | apply Kd.R_alloc | apply Kd.R_drewN | apply Kd.R_drew)); exact HO533.out) hb); have n2_ := Aside0.mk (Kd.R_below (by (with_reducible repeat (first | apply Kd.R_alloc | apply Kd.R_drewN | apply Kd.R_drew)); exact HO541.out) hb); have n3_ := Aside0.mk (Kd.R_below (by (with_reducible repeat (first | apply Kd.R_alloc | apply Kd.R_drewN | apply Kd.R_drew)); exact HO549.out) hb); have n4_ := Aside0.mk (Kd.R_lower ho0 (below_size (by repeat (first | (with_reducible first | exact HB.out | apply below_alloc | apply pw_below_drewN | apply below_drew1) | exact HB.out)))); have n5_ := Aside0.mk (Kd.C_below (by repeat (first | (with_reducible exact HR537.out) | (with_reducible refine Kd.C_alloc ?_ _) | (with_reducible refine Kd.C_drewN ?_ _) | (with_reducible refine Kd.C_drew ?_) | exact HR537.out)) hb); have n6_ := Aside0.mk (Kd.C_below (by repeat (first | (with_reducible exact HR545.out) | (with_reducible refine Kd.C_alloc ?_ _) | (with_reducible refine Kd.C_drewN ?_ _) | (with_reducible refine Kd.C_drew ?_) | exact HR545.out)) hb); have n7_ := Aside0.mk (below_step (by repeat (first | (with_reducible first | exact HB.out | apply below_alloc | apply pw_below_drewN | apply below_drew1) | exact HB.out)) hb); clear HO_5; clear HO533; clear HO541; clear HO549; clear HR537; clear HR545; clear HB; have HO_5 := n0_; have HO533 := n1_; have HO541 := n2_; have HO549 := n3_; have HO552 := n4_; have HR537 := n5_; have HR545 := n6_; have HB := n7_; clear n0_ n1_ n2_ n3_ n4_ n5_ n6_ n7_; (try clear hb); (try clear hb2); (try clear hk); (try clear hi); (try clear ho0))); go_upto_region 8 with (first | (go_at_call 18; (with_reducible refine (sapperlaw14_lend.calls _ _ l1 t531 _ ?side1 ?side2 A12.out).mono ?_); (case side1 => repeat (first | exact (Kd.C_below HR1.out HB.out) | (with_reducible refine Kd.C_alloc ?_ _) | (with_reducible refine Kd.C_drewN ?_ _) | (with_reducible refine Kd.C_drew ?_))); (case side2 => exact HC1.out); rintro e w21 ⟨v532, rfl, ho0, hb⟩; have n0_ := Aside0.mk (Kd.S_elder' (by (with_reducible repeat (first | apply Kd.S_alloc | apply Kd.S_drewN | apply Kd.S_drew)); exact HO_5.out) (Kd.R_base ho0) hb); have n1_ := Aside0.mk (Kd.R_lower ho0 (below_size (by repeat (first | (with_reducible first | exact HB.out | apply below_alloc | apply pw_below_drewN | apply below_drew1) | exact HB.out)))); have n2_ := Aside0.mk (below_step (by repeat (first | (with_reducible first | exact HB.out | apply below_alloc | apply pw_below_drewN | apply below_drew1) | exact HB.out)) hb); clear HO_5; clear HB; have HO_5 := n0_; have HO533 := n1_; have HB := n2_; clear n0_ n1_ n2_; (try clear hb); (try clear hb2); (try clear hk); (try clear hi); (try clear ho0); obtain ⟨Ao23, co23, eo23⟩ := Kd.R_slice HO533.out; subst eo23; have q22 : ((l1.length : Int) : Int) ≤ ((t531.length : Int) : Int) := of_decide_eq_true (by first | (with_reducible assumption) | assumption); obtain ⟨i022, hi022, _, hsz22, _⟩ := info_parts info5; have hroom22 : t531.length ≤ co23 := (Kd.R_reads' HO533.out).2.1; have hC22 : Kd.C (Kd.int .u8) _ Ao23 t531.length t531 := (Kd.R_reads' HO533.out).2.2; have hcut22 := cut_to (P := Try.prog) 22 5 .i64 Try.underlying22 hi022 Ao23 t531.length co23 (l1.length : Int) (of_decide_eq_true (by first | (with_reducible assumption) | assumption)) q22 hroom22; have hr22 := Kd.C_take (m := ((l1.length : Int) : Int).toNat) hC22 (by omega); have hy22 : y534.length = ((l1.length : Int) : Int).toNat := (by rw [Ny534.out, List.length_take]; omega); rw [← Ny534.out] at hr22; rw [← hy22] at hcut22; have HR537 := Aside0.mk hr22; have HC537 := Aside0.mk (show y534.length ≤ co23 from by omega); clear hr22 hC22 hroom22 hi022 hsz22; have KY22 := Aside0.mk hy22; clear hy22; have KL22 := Aside0.mk (show ((l1.length : Int) : Int).toNat ≤ t531.length from by omega); replace q22 := eq_true q22; obtain ⟨Ao24, co24, eo24⟩ := Kd.S_slice HO_5.out; subst eo24) | (go_at_call 32; (with_reducible refine (find_Factors.calls kj3 _ _ t526 _ _ y534 t538 t539 _ ?side1 ?side2 ?side3 ?side4 A15.out).mono ?_); (case side1 => repeat (first | exact (Kd.S_reads' HO_5.out).2.2 | (with_reducible refine Kd.C_alloc ?_ _) | (with_reducible refine Kd.C_drewN ?_ _) | (with_reducible refine Kd.C_drew ?_))); (case side2 => exact (Kd.S_reads' HO_5.out).2.1); (case side3 => repeat (first | exact (by repeat (first | (with_reducible exact HR537.out) | (with_reducible refine Kd.C_alloc ?_ _) | (with_reducible refine Kd.C_drewN ?_ _) | (with_reducible refine Kd.C_drew ?_) | exact HR537.out)) | (with_reducible refine Kd.C_alloc ?_ _) | (with_reducible refine Kd.C_drewN ?_ _) | (with_reducible refine Kd.C_drew ?_))); (case side4 => exact HC537.out); rintro e w25 ⟨v540, rfl, ho0, hb⟩; have n0_ := Aside0.mk (Kd.S_below (by (with_reducible repeat (first | apply Kd.S_alloc | apply Kd.S_drewN | apply Kd.S_drew)); exact HO_5.out) hb); have n1_ := Aside0.mk (Kd.R_below (by (with_reducible repeat (first | apply Kd.R_alloc | apply Kd.R_drewN | apply Kd.R_drew)); exact HO533.out) hb); have n2_ := Aside0.mk (Kd.R_lower ho0 (below_size (by repeat (first | (with_reducible first | exact HB.out | apply below_alloc | apply pw_below_drewN | apply below_drew1) | exact HB.out)))); have n3_ := Aside0.mk (Kd.C_below (by repeat (first | (with_reducible exact HR537.out) | (with_reducible refine Kd.C_alloc ?_ _) | (with_reducible refine Kd.C_drewN ?_ _) | (with_reducible refine Kd.C_drew ?_) | exact HR537.out)) hb); have n4_ := Aside0.mk (below_step (by repeat (first | (with_reducible first | exact HB.out | apply below_alloc | apply pw_below_drewN | apply below_drew1) | exact HB.out)) hb); clear HO_5; clear HO533; clear HR537; clear HB; have HO_5 := n0_; have HO533 := n1_; have HO541 := n2_; have HR537 := n3_; have HB := n4_; clear n0_ n1_ n2_ n3_ n4_; (try clear hb); (try clear hb2); (try clear hk); (try clear hi); (try clear ho0); have q26 : ((l1.length : Int) : Int) ≤ ((t531.length : Int) : Int) := of_decide_eq_true (by first | (with_reducible assumption) | assumption); obtain ⟨i026, hi026, _, hsz26, _⟩ := info_parts info5; have hroom26 : t531.length ≤ co23 := (Kd.R_reads' HO533.out).2.1; have hC26 : Kd.C (Kd.int .u8) _ Ao23 t531.length t531 := (Kd.R_reads' HO533.out).2.2; have hcut26 := cut_to (P := Try.prog) 22 5 .i64 Try.underlying22 hi026 Ao23 t531.length co23 (l1.length : Int) (of_decide_eq_true (by first | (with_reducible assumption) | assumption)) q26 hroom26; have hr26 := Kd.C_take (m := ((l1.length : Int) : Int).toNat) hC26 (by omega); have hy26 : y534.length = ((l1.length : Int) : Int).toNat := (by rw [Ny534.out, List.length_take]; omega); rw [← Ny534.out] at hr26; rw [← hy26] at hcut26; have HR545 := Aside0.mk hr26; have HC545 := Aside0.mk (show y534.length ≤ co23 from by omega); clear hr26 hC26 hroom26 hi026 hsz26; have KY26 := Aside0.mk hy26; clear hy26; have KL26 := Aside0.mk (show ((l1.length : Int) : Int).toNat ≤ t531.length from by omega); replace q26 := eq_true q26) | (go_at_call 32; (with_reducible refine (find_Factors.calls kj3 _ _ t526 _ _ y534 t546 t547 _ ?side1 ?side2 ?side3 ?side4 A18.out).mono ?_); (case side1 => repeat (first | exact (Kd.S_reads' HO_5.out).2.2 | (with_reducible refine Kd.C_alloc ?_ _) | (with_reducible refine Kd.C_drewN ?_ _) | (with_reducible refine Kd.C_drew ?_))); (case side2 => exact (Kd.S_reads' HO_5.out).2.1); (case side3 => repeat (first | exact (by repeat (first | (with_reducible exact HR545.out) | (with_reducible refine Kd.C_alloc ?_ _) | (with_reducible refine Kd.C_drewN ?_ _) | (with_reducible refine Kd.C_drew ?_) | exact HR545.out)) | (with_reducible refine Kd.C_alloc ?_ _) | (with_reducible refine Kd.C_drewN ?_ _) | (with_reducible refine Kd.C_drew ?_))); (case side4 => exact HC545.out); rintro e w27 ⟨v548, rfl, ho0, hb⟩; have n0_ := Aside0.mk (Kd.S_below (by (with_reducible repeat (first | apply Kd.S_alloc | apply Kd.S_drewN | apply Kd.S_drew)); exact HO_5.out) hb); have n1_ := Aside0.mk (Kd.R_below (by (with_reducible repeat (first | apply Kd.R_alloc | apply Kd.R_drewN | apply Kd.R_drew)); exact HO533.out) hb); have n2_ := Aside0.mk (Kd.R_elder' (by (with_reducible repeat (first | apply Kd.R_alloc | apply Kd.R_drewN | apply Kd.R_drew)); exact HO541.out) (Kd.R_base ho0) hb); have n3_ := Aside0.mk (Kd.R_lower (Kd.R_new' ho0 (Kd.R_lt (by (with_reducible repeat (first | apply Kd.R_alloc | apply Kd.R_drewN | apply Kd.R_drew)); exact HO541.out))) (below_size (by repeat (first | (with_reducible first | exact HB.out | apply below_alloc | apply pw_below_drewN | apply below_drew1) | exact HB.out)))); have n4_ := Aside0.mk (Kd.C_below (by repeat (first | (with_reducible exact HR537.out) | (with_reducible refine Kd.C_alloc ?_ _) | (with_reducible refine Kd.C_drewN ?_ _) | (with_reducible refine Kd.C_drew ?_) | exact HR537.out)) hb); have n5_ := Aside0.mk (Kd.C_below (by repeat (first | (with_reducible exact HR545.out) | (with_reducible refine Kd.C_alloc ?_ _) | (with_reducible refine Kd.C_drewN ?_ _) | (with_reducible refine Kd.C_drew ?_) | exact HR545.out)) hb); have n6_ := Aside0.mk (below_step (by repeat (first | (with_reducible first | exact HB.out | apply below_alloc | apply pw_below_drewN | apply below_drew1) | exact HB.out)) hb); clear HO_5; clear HO533; clear HO541; clear HR537; clear HR545; clear HB; have HO_5 := n0_; have HO533 := n1_; have HO541 := n2_; have HO549 := n3_; have HR537 := n4_; have HR545 := n5_; have HB := n6_; clear n0_ n1_ n2_ n3_ n4_ n5_ n6_; (try clear hb); (try clear hb2); (try clear hk); (try clear hi); (try clear ho0)) | (go_at_call 33; (with_reducible refine (sapperref14_Factors.calls kj3 _ _ l0 _ _ l1 t550 _ ?side1 ?side2 ?side3 ?side4 A19.out).mono ?_); (case side1 => repeat (first | exact (Kd.C_below HR0.out HB.out) | (with_reducible refine Kd.C_alloc ?_ _) | (with_reducible refine Kd.C_drewN ?_ _) | (with_reducible refine Kd.C_drew ?_))); (case side2 => exact HC0.out); (case side3 => repeat (first | exact (Kd.C_below HR1.out HB.out) | (with_reducible refine Kd.C_alloc ?_ _) | (with_reducible refine Kd.C_drewN ?_ _) | (with_reducible refine Kd.C_drew ?_))); (case side4 => exact HC1.out); rintro e w28 ⟨v551, rfl, ho0, hb⟩; have n0_ := Aside0.mk (Kd.S_below (by (with_reducible repeat (first | apply Kd.S_alloc | apply Kd.S_drewN | apply Kd.S_drew)); exact HO_5.out) hb); have n1_ := Aside0.mk (Kd.R_below (by (with_reducible repeat (first | apply Kd.R_alloc | apply Kd.R_drewN | apply Kd.R_drew)); exact HO533.out) hb); have n2_ := Aside0.mk (Kd.R_below (by (with_reducible repeat (first | apply Kd.R_alloc | apply Kd.R_drewN | apply Kd.R_drew)); exact HO541.out) hb); have n3_ := Aside0.mk (Kd.R_below (by (with_reducible repeat (first | apply Kd.R_alloc | apply Kd.R_drewN | apply Kd.R_drew)); exact HO549.out) hb); have n4_ := Aside0.mk (Kd.R_lower ho0 (below_size (by repeat (first | (with_reducible first | exact HB.out | apply below_alloc | apply pw_below_drewN | apply below_drew1) | exact HB.out)))); have n5_ := Aside0.mk (Kd.C_below (by repeat (first | (with_reducible exact HR537.out) | (with_reducible refine Kd.C_alloc ?_ _) | (with_reducible refine Kd.C_drewN ?_ _) | (with_reducible refine Kd.C_drew ?_) | exact HR537.out)) hb); have n6_ := Aside0.mk (Kd.C_below (by repeat (first | (with_reducible exact HR545.out) | (with_reducible refine Kd.C_alloc ?_ _) | (with_reducible refine Kd.C_drewN ?_ _) | (with_reducible refine Kd.C_drew ?_) | exact HR545.out)) hb); have n7_ := Aside0.mk (below_step (by repeat (first | (with_reducible first | exact HB.out | apply below_alloc | apply pw_below_drewN | apply below_drew1) | exact HB.out)) hb); clear HO_5; clear HO533; clear HO541; clear HO549; clear HR537; clear HR545; clear HB; have HO_5 := n0_; have HO533 := n1_; have HO541 := n2_; have HO549 := n3_; have HO552 := n4_; have HR537 := n5_; have HR545 := n6_; have HB := n7_; clear n0_ n1_ n2_ n3_ n4_ n5_ n6_ n7_; (try clear hb); (try clear hb2); (try clear hk); (try clear hi); (try clear ho0))))
      (try simp only [Act.put, List.setIfInBounds_toArray, List.set_cons_zero, List.set_cons_succ])
      go_cut [79] (fun v79 wc => ∃ (kq : Nat) (x79_19 : Bool), v79 = .bool x79_19 ∧ Aside0 (sapperlaw14_FindFactors.j1 kq t538 t546 t550 x79_19 = some r) ∧ Aside0 (kq ≤ kj3) ∧ Aside0 (Kd.R k51 51 wc w.heap.size (fun k_ => some k_ ≠ (v548 : Value).ownBlock) v540 t538) ∧ Aside0 (Kd.R k51 51 wc w.heap.size (fun k_ => some k_ ≠ (v540 : Value).ownBlock) v548 t546) ∧ Aside0 (Kd.R k52 52 wc w.heap.size (fun _ => True) v551 t550) ∧ Aside0 (Kd.C (Kd.int .u8) wc Ao23 y534.length y534) ∧ Aside0 (Kd.C (Kd.int .u8) wc Ao23 y534.length y534) ∧ Aside0 (Below w.heap.size w wc))
      case first =>
       have H := HC20.out
       clear HC20
       by_cases c29 : t539 = 0
       ·rw [if_pos c29] at H
        have c29b0 : (t539 == 0) = true := beq_iff_eq.mpr c29
        have c29b1 : (t539 != 0) = false := bne_eq_false_iff_eq.mpr c29
        clear c29
        (first | rw [c29b0] | rw [c29b1] | (simp only [i64_w, i32_w]; rw [c29b0]) | skip)
        by_cases c30 : t547 = 0
        ·rw [if_pos c30] at H
         have c30b0 : (t547 == 0) = true := beq_iff_eq.mpr c30
         have c30b1 : (t547 != 0) = false := bne_eq_false_iff_eq.mpr c30
         clear c30
         by_cases c31 : (t538.length : Int) = (t550.length : Int)
         ·rw [if_pos c31] at H
          have c31b0 : ((t538.length : Int) == (t550.length : Int)) = true := beq_iff_eq.mpr c31
          have c31b1 : ((t538.length : Int) != (t550.length : Int)) = false := bne_eq_false_iff_eq.mpr c31
          have c31b2 : (t538.length == t550.length) = true := by first | simpa using c31 | (simp at c31 ⊢; omega)
          clear c31
          by_cases c32 : (t546.length : Int) = (t550.length : Int)
          ·rw [if_pos c32] at H
           have c32b0 : ((t546.length : Int) == (t550.length : Int)) = true := beq_iff_eq.mpr c32
           have c32b1 : ((t546.length : Int) != (t550.length : Int)) = false := bne_eq_false_iff_eq.mpr c32
           have c32b2 : (t546.length == t550.length) = true := by first | simpa using c32 | (simp at c32 ⊢; omega)
           clear c32
           replace H := Option.bind_eq_some_iff.mp H
           obtain ⟨t553, A330, H⟩ := H
           replace H : (sapperlaw14_FindFactors.j1 kj3 t538 t546 t550 (!t553)) = some r := H
           have A33 := Aside0.mk A330
           clear A330
           have H' := Aside0.mk H
           clear H
           obtain ⟨Ao34, co34, eo34⟩ := Kd.R_slice HO541.out
           subst eo34
           obtain ⟨Ao35, co35, eo35⟩ := Kd.R_slice HO552.out
           subst eo35
           obtain ⟨Ao36, co36, eo36⟩ := Kd.R_slice HO549.out
           subst eo36
           go_wp2_with (first | (go_at_call 21; (with_reducible refine (sapperlaw14_kept.calls _ _ t531 _ _ l1 t553 _ ?side1 ?side2 ?side3 ?side4 A33.out).mono ?_); (case side1 => repeat (first | exact (Kd.R_reads' HO533.out).2.2 | (with_reducible refine Kd.C_alloc ?_ _) | (with_reducible refine Kd.C_drewN ?_ _) | (with_reducible refine Kd.C_drew ?_))); (case side2 => exact (Kd.R_reads' HO533.out).2.1); (case side3 => repeat (first | exact (Kd.C_below HR1.out HB.out) | (with_reducible refine Kd.C_alloc ?_ _) | (with_reducible refine Kd.C_drewN ?_ _) | (with_reducible refine Kd.C_drew ?_))); (case side4 => exact HC1.out); rintro e w37 ⟨rfl, hb⟩; have n0_ := Aside0.mk (Kd.S_below (by (with_reducible repeat (first | apply Kd.S_alloc | apply Kd.S_drewN | apply Kd.S_drew)); exact HO_5.out) hb); have n1_ := Aside0.mk (Kd.R_below (by (with_reducible repeat (first | apply Kd.R_alloc | apply Kd.R_drewN | apply Kd.R_drew)); exact HO533.out) hb); have n2_ := Aside0.mk (Kd.R_below (by (with_reducible repeat (first | apply Kd.R_alloc | apply Kd.R_drewN | apply Kd.R_drew)); exact HO541.out) hb); have n3_ := Aside0.mk (Kd.R_below (by (with_reducible repeat (first | apply Kd.R_alloc | apply Kd.R_drewN | apply Kd.R_drew)); exact HO549.out) hb); have n4_ := Aside0.mk (Kd.R_below (by (with_reducible repeat (first | apply Kd.R_alloc | apply Kd.R_drewN | apply Kd.R_drew)); exact HO552.out) hb); have n5_ := Aside0.mk (Kd.C_below (by repeat (first | (with_reducible exact HR537.out) | (with_reducible refine Kd.C_alloc ?_ _) | (with_reducible refine Kd.C_drewN ?_ _) | (with_reducible refine Kd.C_drew ?_) | exact HR537.out)) hb); have n6_ := Aside0.mk (Kd.C_below (by repeat (first | (with_reducible exact HR545.out) | (with_reducible refine Kd.C_alloc ?_ _) | (with_reducible refine Kd.C_drewN ?_ _) | (with_reducible refine Kd.C_drew ?_) | exact HR545.out)) hb); have n7_ := Aside0.mk (below_step (by repeat (first | (with_reducible first | exact HB.out | apply below_alloc | apply pw_below_drewN | apply below_drew1) | exact HB.out)) hb); clear HO_5; clear HO533; clear HO541; clear HO549; clear HO552; clear HR537; clear HR545; clear HB; have HO_5 := n0_; have HO533 := n1_; have HO541 := n2_; have HO549 := n3_; have HO552 := n4_; have HR537 := n5_; have HR545 := n6_; have HB := n7_; clear n0_ n1_ n2_ n3_ n4_ n5_ n6_ n7_; (try clear hb); (try clear hb2); (try clear hk); (try clear hi)))
           repeat (go_quiet (first | (go_at_call 21; (fail_if_success (have hz_ := HO533)); (with_reducible refine (sapperlaw14_kept.calls _ _ t531 _ _ l1 t553 _ ?side1 ?side2 ?side3 ?side4 A33.out).mono ?_); (case side1 => repeat (first | exact (Kd.R_reads' HO533.out).2.2 | (with_reducible refine Kd.C_alloc ?_ _) | (with_reducible refine Kd.C_drewN ?_ _) | (with_reducible refine Kd.C_drew ?_))); (case side2 => exact (Kd.R_reads' HO533.out).2.1); (case side3 => repeat (first | exact (Kd.C_below HR1.out HB.out) | (with_reducible refine Kd.C_alloc ?_ _) | (with_reducible refine Kd.C_drewN ?_ _) | (with_reducible refine Kd.C_drew ?_))); (case side4 => exact HC1.out); rintro e w37 ⟨rfl, hb⟩; have n0_ := Aside0.mk (Kd.S_below (by (with_reducible repeat (first | apply Kd.S_alloc | apply Kd.S_drewN | apply Kd.S_drew)); exact HO_5.out) hb); have n1_ := Aside0.mk (Kd.R_below (by (with_reducible repeat (first | apply Kd.R_alloc | apply Kd.R_drewN | apply Kd.R_drew)); exact HO533.out) hb); have n2_ := Aside0.mk (Kd.R_below (by (with_reducible repeat (first | apply Kd.R_alloc | apply Kd.R_drewN | apply Kd.R_drew)); exact HO541.out) hb); have n3_ := Aside0.mk (Kd.R_below (by (with_reducible repeat (first | apply Kd.R_alloc | apply Kd.R_drewN | apply Kd.R_drew)); exact HO549.out) hb); have n4_ := Aside0.mk (Kd.R_below (by (with_reducible repeat (first | apply Kd.R_alloc | apply Kd.R_drewN | apply Kd.R_drew)); exact HO552.out) hb); have n5_ := Aside0.mk (Kd.C_below (by repeat (first | (with_reducible exact HR537.out) | (with_reducible refine Kd.C_alloc ?_ _) | (with_reducible refine Kd.C_drewN ?_ _) | (with_reducible refine Kd.C_drew ?_) | exact HR537.out)) hb); have n6_ := Aside0.mk (Kd.C_below (by repeat (first | (with_reducible exact HR545.out) | (with_reducible refine Kd.C_alloc ?_ _) | (with_reducible refine Kd.C_drewN ?_ _) | (with_reducible refine Kd.C_drew ?_) | exact HR545.out)) hb); have n7_ := Aside0.mk (below_step (by repeat (first | (with_reducible first | exact HB.out | apply below_alloc | apply pw_below_drewN | apply below_drew1) | exact HB.out)) hb); clear HO_5; clear HO533; clear HO541; clear HO549; clear HO552; clear HR537; clear HR545; clear HB; have HO_5 := n0_; have HO533 := n1_; have HO541 := n2_; have HO549 := n3_; have HO552 := n4_; have HR537 := n5_; have HR545 := n6_; have HB := n7_; clear n0_ n1_ n2_ n3_ n4_ n5_ n6_ n7_; (try clear hb); (try clear hb2); (try clear hk); (try clear hi))); try go_wp2_with (first | (go_at_call 21; (with_reducible refine (sapperlaw14_kept.calls _ _ t531 _ _ l1 t553 _ ?side1 ?side2 ?side3 ?side4 A33.out).mono ?_); (case side1 => repeat (first | exact (Kd.R_reads' HO533.out).2.2 | (with_reducible refine Kd.C_alloc ?_ _) | (with_reducible refine Kd.C_drewN ?_ _) | (with_reducible refine Kd.C_drew ?_))); (case side2 => exact (Kd.R_reads' HO533.out).2.1); (case side3 => repeat (first | exact (Kd.C_below HR1.out HB.out) | (with_reducible refine Kd.C_alloc ?_ _) | (with_reducible refine Kd.C_drewN ?_ _) | (with_reducible refine Kd.C_drew ?_))); (case side4 => exact HC1.out); rintro e w37 ⟨rfl, hb⟩; have n0_ := Aside0.mk (Kd.S_below (by (with_reducible repeat (first | apply Kd.S_alloc | apply Kd.S_drewN | apply Kd.S_drew)); exact HO_5.out) hb); have n1_ := Aside0.mk (Kd.R_below (by (with_reducible repeat (first | apply Kd.R_alloc | apply Kd.R_drewN | apply Kd.R_drew)); exact HO533.out) hb); have n2_ := Aside0.mk (Kd.R_below (by (with_reducible repeat (first | apply Kd.R_alloc | apply Kd.R_drewN | apply Kd.R_drew)); exact HO541.out) hb); have n3_ := Aside0.mk (Kd.R_below (by (with_reducible repeat (first | apply Kd.R_alloc | apply Kd.R_drewN | apply Kd.R_drew)); exact HO549.out) hb); have n4_ := Aside0.mk (Kd.R_below (by (with_reducible repeat (first | apply Kd.R_alloc | apply Kd.R_drewN | apply Kd.R_drew)); exact HO552.out) hb); have n5_ := Aside0.mk (Kd.C_below (by repeat (first | (with_reducible exact HR537.out) | (with_reducible refine Kd.C_alloc ?_ _) | (with_reducible refine Kd.C_drewN ?_ _) | (with_reducible refine Kd.C_drew ?_) | exact HR537.out)) hb); have n6_ := Aside0.mk (Kd.C_below (by repeat (first | (with_reducible exact HR545.out) | (with_reducible refine Kd.C_alloc ?_ _) | (with_reducible refine Kd.C_drewN ?_ _) | (with_reducible refine Kd.C_drew ?_) | exact HR545.out)) hb); have n7_ := Aside0.mk (below_step (by repeat (first | (with_reducible first | exact HB.out | apply below_alloc | apply pw_below_drewN | apply below_drew1) | exact HB.out)) hb); clear HO_5; clear HO533; clear HO541; clear HO549; clear HO552; clear HR537; clear HR545; clear HB; have HO_5 := n0_; have HO533 := n1_; have HO541 := n2_; have HO549 := n3_; have HO552 := n4_; have HR537 := n5_; have HR545 := n6_; have HB := n7_; clear n0_ n1_ n2_ n3_ n4_ n5_ n6_ n7_; (try clear hb); (try clear hb2); (try clear hk); (try clear hi))))
           go_meet
           case rel => exact ⟨_, (!t553), (by first | rfl | (simp; done) | (simp [*]; done)), H', ⟨by have := HJ3.out; first | omega | exact Nat.le_refl _⟩, ⟨by (with_reducible repeat (first | apply Kd.R_alloc | apply Kd.R_drewN | apply Kd.R_drew)); exact Kd.R_mono HO541.out (fun _ hk => hk.2)⟩, ⟨by (with_reducible repeat (first | apply Kd.R_alloc | apply Kd.R_drewN | apply Kd.R_drew)); exact Kd.R_mono HO549.out (fun _ hk => hk.2)⟩, ⟨by (with_reducible repeat (first | apply Kd.R_alloc | apply Kd.R_drewN | apply Kd.R_drew)); exact HO552.out⟩, ⟨by repeat (first | (with_reducible exact HR537.out) | (with_reducible refine Kd.C_alloc ?_ _) | (with_reducible refine Kd.C_drewN ?_ _) | (with_reducible refine Kd.C_drew ?_) | exact HR537.out)⟩, ⟨by repeat (first | (with_reducible exact HR545.out) | (with_reducible refine Kd.C_alloc ?_ _) | (with_reducible refine Kd.C_drewN ?_ _) | (with_reducible refine Kd.C_drew ?_) | exact HR545.out)⟩, ⟨by repeat (first | (with_reducible first | exact HB.out | apply below_alloc | apply pw_below_drewN | apply below_drew1) | exact HB.out)⟩⟩
          ·rw [if_neg c32] at H
           have c32b0 : ((t546.length : Int) == (t550.length : Int)) = false := beq_eq_false_iff_ne.mpr c32
           have c32b1 : ((t546.length : Int) != (t550.length : Int)) = true := bne_iff_ne.mpr c32
           have c32b2 : (t546.length == t550.length) = false := by first | simpa using c32 | (simp at c32 ⊢; omega)
           have H' := Aside0.mk H
           clear H
           obtain ⟨Ao38, co38, eo38⟩ := Kd.R_slice HO541.out
           subst eo38
           obtain ⟨Ao39, co39, eo39⟩ := Kd.R_slice HO552.out
           subst eo39
           obtain ⟨Ao40, co40, eo40⟩ := Kd.R_slice HO549.out
           subst eo40
           go_wp2
           repeat (go_quiet (fail); try go_wp2)
           go_meet
           case rel => exact ⟨_, (true), (by first | rfl | (simp; done) | (simp [*]; done)), H', ⟨by have := HJ3.out; first | omega | exact Nat.le_refl _⟩, ⟨by (with_reducible repeat (first | apply Kd.R_alloc | apply Kd.R_drewN | apply Kd.R_drew)); exact Kd.R_mono HO541.out (fun _ hk => hk.2)⟩, ⟨by (with_reducible repeat (first | apply Kd.R_alloc | apply Kd.R_drewN | apply Kd.R_drew)); exact Kd.R_mono HO549.out (fun _ hk => hk.2)⟩, ⟨by (with_reducible repeat (first | apply Kd.R_alloc | apply Kd.R_drewN | apply Kd.R_drew)); exact HO552.out⟩, ⟨by repeat (first | (with_reducible exact HR537.out) | (with_reducible refine Kd.C_alloc ?_ _) | (with_reducible refine Kd.C_drewN ?_ _) | (with_reducible refine Kd.C_drew ?_) | exact HR537.out)⟩, ⟨by repeat (first | (with_reducible exact HR545.out) | (with_reducible refine Kd.C_alloc ?_ _) | (with_reducible refine Kd.C_drewN ?_ _) | (with_reducible refine Kd.C_drew ?_) | exact HR545.out)⟩, ⟨by repeat (first | (with_reducible first | exact HB.out | apply below_alloc | apply pw_below_drewN | apply below_drew1) | exact HB.out)⟩⟩
         ·rw [if_neg c31] at H
          have c31b0 : ((t538.length : Int) == (t550.length : Int)) = false := beq_eq_false_iff_ne.mpr c31
          have c31b1 : ((t538.length : Int) != (t550.length : Int)) = true := bne_iff_ne.mpr c31
          have c31b2 : (t538.length == t550.length) = false := by first | simpa using c31 | (simp at c31 ⊢; omega)
          have H' := Aside0.mk H
          clear H
          obtain ⟨Ao41, co41, eo41⟩ := Kd.R_slice HO541.out
          subst eo41
          obtain ⟨Ao42, co42, eo42⟩ := Kd.R_slice HO552.out
          subst eo42
          go_wp2
          repeat (go_quiet (fail); try go_wp2)
          go_meet
          case rel => exact ⟨_, (true), (by first | rfl | (simp; done) | (simp [*]; done)), H', ⟨by have := HJ3.out; first | omega | exact Nat.le_refl _⟩, ⟨by (with_reducible repeat (first | apply Kd.R_alloc | apply Kd.R_drewN | apply Kd.R_drew)); exact Kd.R_mono HO541.out (fun _ hk => hk.2)⟩, ⟨by (with_reducible repeat (first | apply Kd.R_alloc | apply Kd.R_drewN | apply Kd.R_drew)); exact Kd.R_mono HO549.out (fun _ hk => hk.2)⟩, ⟨by (with_reducible repeat (first | apply Kd.R_alloc | apply Kd.R_drewN | apply Kd.R_drew)); exact HO552.out⟩, ⟨by repeat (first | (with_reducible exact HR537.out) | (with_reducible refine Kd.C_alloc ?_ _) | (with_reducible refine Kd.C_drewN ?_ _) | (with_reducible refine Kd.C_drew ?_) | exact HR537.out)⟩, ⟨by repeat (first | (with_reducible exact HR545.out) | (with_reducible refine Kd.C_alloc ?_ _) | (with_reducible refine Kd.C_drewN ?_ _) | (with_reducible refine Kd.C_drew ?_) | exact HR545.out)⟩, ⟨by repeat (first | (with_reducible first | exact HB.out | apply below_alloc | apply pw_below_drewN | apply below_drew1) | exact HB.out)⟩⟩
        ·rw [if_neg c30] at H
         have c30b0 : (t547 == 0) = false := beq_eq_false_iff_ne.mpr c30
         have c30b1 : (t547 != 0) = true := bne_iff_ne.mpr c30
         have H' := Aside0.mk H
         clear H
         go_wp2
         repeat (go_quiet (fail); try go_wp2)
         go_meet
         case rel => exact ⟨_, (true), (by first | rfl | (simp; done) | (simp [*]; done)), H', ⟨by have := HJ3.out; first | omega | exact Nat.le_refl _⟩, ⟨by (with_reducible repeat (first | apply Kd.R_alloc | apply Kd.R_drewN | apply Kd.R_drew)); exact Kd.R_mono HO541.out (fun _ hk => hk.2)⟩, ⟨by (with_reducible repeat (first | apply Kd.R_alloc | apply Kd.R_drewN | apply Kd.R_drew)); exact Kd.R_mono HO549.out (fun _ hk => hk.2)⟩, ⟨by (with_reducible repeat (first | apply Kd.R_alloc | apply Kd.R_drewN | apply Kd.R_drew)); exact HO552.out⟩, ⟨by repeat (first | (with_reducible exact HR537.out) | (with_reducible refine Kd.C_alloc ?_ _) | (with_reducible refine Kd.C_drewN ?_ _) | (with_reducible refine Kd.C_drew ?_) | exact HR537.out)⟩, ⟨by repeat (first | (with_reducible exact HR545.out) | (with_reducible refine Kd.C_alloc ?_ _) | (with_reducible refine Kd.C_drewN ?_ _) | (with_reducible refine Kd.C_drew ?_) | exact HR545.out)⟩, ⟨by repeat (first | (with_reducible first | exact HB.out | apply below_alloc | apply pw_below_drewN | apply below_drew1) | exact HB.out)⟩⟩
       ·rw [if_neg c29] at H
        have c29b0 : (t539 == 0) = false := beq_eq_false_iff_ne.mpr c29
        have c29b1 : (t539 != 0) = true := bne_iff_ne.mpr c29
        (first | rw [c29b0] | rw [c29b1] | (simp only [i64_w, i32_w]; rw [c29b0]) | skip)
        have H' := Aside0.mk H
        clear H
        go_wp2
        repeat (go_quiet (fail); try go_wp2)
        go_meet
        case rel => exact ⟨_, (true), (by first | rfl | (simp; done) | (simp [*]; done)), H', ⟨by have := HJ3.out; first | omega | exact Nat.le_refl _⟩, ⟨by (with_reducible repeat (first | apply Kd.R_alloc | apply Kd.R_drewN | apply Kd.R_drew)); exact Kd.R_mono HO541.out (fun _ hk => hk.2)⟩, ⟨by (with_reducible repeat (first | apply Kd.R_alloc | apply Kd.R_drewN | apply Kd.R_drew)); exact Kd.R_mono HO549.out (fun _ hk => hk.2)⟩, ⟨by (with_reducible repeat (first | apply Kd.R_alloc | apply Kd.R_drewN | apply Kd.R_drew)); exact HO552.out⟩, ⟨by repeat (first | (with_reducible exact HR537.out) | (with_reducible refine Kd.C_alloc ?_ _) | (with_reducible refine Kd.C_drewN ?_ _) | (with_reducible refine Kd.C_drew ?_) | exact HR537.out)⟩, ⟨by repeat (first | (with_reducible exact HR545.out) | (with_reducible refine Kd.C_alloc ?_ _) | (with_reducible refine Kd.C_drewN ?_ _) | (with_reducible refine Kd.C_drew ?_) | exact HR545.out)⟩, ⟨by repeat (first | (with_reducible first | exact HB.out | apply below_alloc | apply pw_below_drewN | apply below_drew1) | exact HB.out)⟩⟩
      case rest =>
       clear HC20
       try clear c1
       try clear c2
       try clear p2
       try clear q2
       try clear c3
       try clear c6
       try clear c8
       try clear c9
       try clear c10
       try clear c13
       try clear c13b0
       try clear c13b1
       try clear c14
       try clear c14b0
       try clear c14b1
       try clear c16
       try clear c16b0
       try clear c17
       try clear c17b0
       try clear q22
       try clear q26
       try clear c29
       try clear c29b0
       try clear c29b1
       try clear c30
       try clear c30b0
       try clear c30b1
       try clear c31
       try clear c31b0
       try clear c31b1
       try clear c31b2
       try clear c32
       try clear c32b0
       try clear c32b1
       try clear c32b2
       try clear p2
       try clear q22
       try clear q26
       obtain ⟨kq, x79_19, rfl, HA, HJ19, HO_8, HO_10, HO_12, HR537, HR545, HB⟩ := hcut
       cases kq with
       | zero => exact absurd HA.out (by simp [sapperlaw14_FindFactors.j1])
       | succ kj19 =>
        have H := HA.out
        clear HA
        simp only [sapperlaw14_FindFactors.j1] at H
        by_cases c43 : x79_19 = true
        ·subst c43
         have H1 : (some false) = some r := by rw [if_pos rfl] at H; exact H
         clear H
         have H := H1
         clear H1
         obtain rfl := Option.some.inj H
         go_wp2
         repeat (go_quiet (fail); try go_wp2)
         go_ret
         exact ⟨by first | rfl | (simp [errW_none, errW_some] <;> rfl) | (simp [*, errW_none, errW_some] <;> rfl), by repeat (first | (with_reducible first | exact HB.out | apply below_alloc | apply pw_below_drewN | apply below_drew1) | exact HB.out)⟩
        ·replace c43 := Bool.eq_false_iff.mpr c43
         subst c43
         have H1 : (sapperlaw14_FindFactors.l0 kj19 t538 t546 t550 0) = some r := by rw [if_neg (show ¬ (false = true) by decide)] at H; exact H
         clear H
         have H := H1
         clear H1
         have H' := Aside0.mk H
         clear H
         go_wp2
         repeat (go_quiet (fail); try go_wp2)
         go_loopg [13] kj19 (fun kq v13 w' => ∃ (x8_3 : List (S51)) (x13_3 : Int), v13 = .int .i64 x13_3 ∧ Aside0 (sapperlaw14_FindFactors.l0 kq x8_3 t546 t550 x13_3 = some r) ∧ Aside0 (kq ≤ kj19) ∧ Aside0 (Kd.R k51 51 w' w.heap.size (fun k_ => some k_ ≠ (v548 : Value).ownBlock) v540 x8_3) ∧ Aside0 (Kd.R k51 51 w' w.heap.size (fun k_ => some k_ ≠ (v540 : Value).ownBlock) v548 t546) ∧ Aside0 (Kd.R k52 52 w' w.heap.size (fun _ => True) v551 t550) ∧ Aside0 (Below w.heap.size w w'))
         case atStart => exact ⟨(t538), (0), (by first | rfl | (simp; done) | (simp [*]; done)), H', ⟨Nat.le_refl _⟩, ⟨by (with_reducible repeat (first | apply Kd.R_alloc | apply Kd.R_drewN | apply Kd.R_drew)); exact HO_8.out⟩, ⟨by (with_reducible repeat (first | apply Kd.R_alloc | apply Kd.R_drewN | apply Kd.R_drew)); exact HO_10.out⟩, ⟨by (with_reducible repeat (first | apply Kd.R_alloc | apply Kd.R_drewN | apply Kd.R_drew)); exact HO_12.out⟩, ⟨by repeat (first | (with_reducible first | exact HB.out | apply below_alloc | apply pw_below_drewN | apply below_drew1) | exact HB.out)⟩⟩
         case round =>
          clear H'
          try clear c1
          try clear c2
          try clear p2
          try clear q2
          try clear c3
          try clear c4
          try clear c6
          try clear c8
          try clear c9
          try clear c10
          try clear c13
          try clear c13b0
          try clear c13b1
          try clear c14
          try clear c14b0
          try clear c14b1
          try clear c16
          try clear c16b0
          try clear c17
          try clear c17b0
          try clear q22
          try clear q26
          try clear c29
          try clear c29b0
          try clear c29b1
          try clear c30
          try clear c30b0
          try clear c30b1
          try clear c31
          try clear c31b0
          try clear c31b1
          try clear c31b2
          try clear c32
          try clear c32b0
          try clear c32b1
          try clear c32b2
          try clear c43
          try clear p2
          try clear q2
          try clear q22
          try clear q26
          obtain ⟨x8_3, x13_3, rfl, HA, HK3, HO_8, HO_10, HO_12, HB⟩ := hrel
          cases gk with
          | zero => exact absurd HA.out (by simp [sapperlaw14_FindFactors.l0])
          | succ k3 =>
           have H := HA.out
           clear HA
           simp only [sapperlaw14_FindFactors.l0] at H
           by_cases c44 : x13_3 < (t550.length : Int)
           ·rw [if_pos c44] at H
            have c44b0 : decide (x13_3 < (t550.length : Int)) = true := decide_eq_true c44
            clear c44
            by_cases c45 : 0 ≤ x13_3
            ·rw [if_pos c45] at H
             have c45b0 : decide (0 ≤ x13_3) = true := decide_eq_true c45
             clear c45
             by_cases c46 : x13_3 < (x8_3.length : Int)
             ·rw [if_pos c46] at H
              have c46b0 : decide (x13_3 < (x8_3.length : Int)) = true := decide_eq_true c46
              clear c46
              by_cases c47 : ((rd_T51 x8_3 x13_3).f0) = ((rd_T52 t550 x13_3).f0)
              ·rw [if_pos c47] at H
               have c47b0 : (((rd_T51 x8_3 x13_3).f0) == ((rd_T52 t550 x13_3).f0)) = true := beq_iff_eq.mpr c47
               have c47b1 : (((rd_T51 x8_3 x13_3).f0) != ((rd_T52 t550 x13_3).f0)) = false := bne_eq_false_iff_eq.mpr c47
               clear c47
               by_cases c48 : ((rd_T51 x8_3 x13_3).f1) = ((rd_T52 t550 x13_3).f1)
               ·rw [if_pos c48] at H
                have c48b0 : (((rd_T51 x8_3 x13_3).f1) == ((rd_T52 t550 x13_3).f1)) = true := beq_iff_eq.mpr c48
                have c48b1 : (((rd_T51 x8_3 x13_3).f1) != ((rd_T52 t550 x13_3).f1)) = false := bne_eq_false_iff_eq.mpr c48
                clear c48
                by_cases c49 : ((rd_T51 x8_3 x13_3).f2) = ((rd_T52 t550 x13_3).f2)
                ·rw [if_pos c49] at H
                 have c49b0 : (((rd_T51 x8_3 x13_3).f2) == ((rd_T52 t550 x13_3).f2)) = true := beq_iff_eq.mpr c49
                 have c49b1 : (((rd_T51 x8_3 x13_3).f2) != ((rd_T52 t550 x13_3).f2)) = false := bne_eq_false_iff_eq.mpr c49
                 clear c49
                 obtain ⟨y560, hy560⟩ : ∃ y_ : List (S51), y_ = (x8_3.set (x13_3 : Int).toNat (⟨(rd_T51 x8_3 x13_3).f0, 81, (rd_T51 x8_3 x13_3).f2⟩ : S51)) := ⟨_, rfl⟩
                 replace H : (sapperlaw14_FindFactors.l0 k3 y560 t546 t550 (wrap64 (x13_3 + 1))) = some r := by first | (rw [hy560]; with_reducible exact H) | (have H2_ := (Option.bind_some _ _).symm.trans H; rw [hy560]; with_reducible exact H2_) | (have H2_ := (Option.bind_some _ _).symm.trans H; with_reducible exact H2_) | with_reducible exact H | (rw [hy560]; exact H) | exact H
                 have Ny560 := Aside0.mk hy560
                 clear hy560
                 have H' := Aside0.mk H
                 clear H
                 obtain ⟨Ao51, co51, eo51⟩ := Kd.R_slice HO_12.out
                 subst eo51
                 obtain ⟨Ao52, co52, eo52⟩ := Kd.R_slice HO_8.out
                 subst eo52
                 have p554 : 0 ≤ (x13_3 : Int) := of_decide_eq_true (by first | (with_reducible assumption) | assumption)
                 have q554 : x13_3 < (x8_3.length : Int) := of_decide_eq_true (by first | (with_reducible assumption) | assumption)
                 obtain ⟨ad554, e554, hx554_0, hx554_1, hx554_2⟩ := at_T51 (Kd.R_reads' HO_8.out).2.2 x13_3 p554 q554
                 cases e554
                 replace p554 := eq_true p554
                 replace q554 := eq_true q554
                 have p555 : 0 ≤ (x13_3 : Int) := of_decide_eq_true (by first | (with_reducible assumption) | assumption)
                 have q555 : x13_3 < (t550.length : Int) := of_decide_eq_true (by first | (with_reducible assumption) | assumption)
                 obtain ⟨ad555, e555, hx555_0, hx555_1, hx555_2⟩ := at_T52 (Kd.R_reads' HO_12.out).2.2 x13_3 p555 q555
                 cases e555
                 replace p555 := eq_true p555
                 replace q555 := eq_true q555
                 have p556 : 0 ≤ (x13_3 : Int) := of_decide_eq_true (by first | (with_reducible assumption) | assumption)
                 have q556 : x13_3 < (x8_3.length : Int) := of_decide_eq_true (by first | (with_reducible assumption) | assumption)
                 obtain ⟨ad556, e556, hx556_0, hx556_1, hx556_2⟩ := at_T51 (Kd.R_reads' HO_8.out).2.2 x13_3 p556 q556
                 obtain rfl : ad554 = ad556 := (by injection e556)
                 replace p556 := eq_true p556
                 replace q556 := eq_true q556
                 have p557 : 0 ≤ (x13_3 : Int) := of_decide_eq_true (by first | (with_reducible assumption) | assumption)
                 have q557 : x13_3 < (t550.length : Int) := of_decide_eq_true (by first | (with_reducible assumption) | assumption)
                 obtain ⟨ad557, e557, hx557_0, hx557_1, hx557_2⟩ := at_T52 (Kd.R_reads' HO_12.out).2.2 x13_3 p557 q557
                 obtain rfl : ad555 = ad557 := (by injection e557)
                 replace p557 := eq_true p557
                 replace q557 := eq_true q557
                 have p558 : 0 ≤ (x13_3 : Int) := of_decide_eq_true (by first | (with_reducible assumption) | assumption)
                 have q558 : x13_3 < (x8_3.length : Int) := of_decide_eq_true (by first | (with_reducible assumption) | assumption)
                 obtain ⟨ad558, e558, hx558_0, hx558_1, hx558_2⟩ := at_T51 (Kd.R_reads' HO_8.out).2.2 x13_3 p558 q558
                 obtain rfl : ad554 = ad558 := (by injection e558)
                 replace p558 := eq_true p558
                 replace q558 := eq_true q558
                 have p559 : 0 ≤ (x13_3 : Int) := of_decide_eq_true (by first | (with_reducible assumption) | assumption)
                 have q559 : x13_3 < (t550.length : Int) := of_decide_eq_true (by first | (with_reducible assumption) | assumption)
                 obtain ⟨ad559, e559, hx559_0, hx559_1, hx559_2⟩ := at_T52 (Kd.R_reads' HO_12.out).2.2 x13_3 p559 q559
                 obtain rfl : ad555 = ad559 := (by injection e559)
                 replace p559 := eq_true p559
                 replace q559 := eq_true q559
                 have p50 : 0 ≤ (x13_3 : Int) := of_decide_eq_true (by first | (with_reducible assumption) | assumption)
                 have q50 : (x13_3 : Int) < ((x8_3.length : Int) : Int) := of_decide_eq_true (by first | (with_reducible assumption) | assumption)
                 obtain ⟨go50, co50, eo50, gb50, gl50, cl50, HG50⟩ := Kd.R_form HO_8.out (by omega)
                 (first | cases eo50 | (injection eo50 with ea_ en_ ec_; (first | subst ea_ | (injection ea_ with ea_; subst ea_)); subst ec_; clear en_))
                 have GB50 := Aside0.mk gb50
                 have GG50 := Aside0.mk HG50
                 clear gb50 gl50 HG50
                 (first | simp only [add_plain] at hx554_0 | skip)
                 (first | simp only [add_plain] at hx554_1 | skip)
                 (first | simp only [add_plain] at hx554_2 | skip)
                 (first | simp only [add_plain] at hx556_0 | skip)
                 (first | simp only [add_plain] at hx556_1 | skip)
                 (first | simp only [add_plain] at hx556_2 | skip)
                 (first | simp only [add_plain] at hx558_0 | skip)
                 (first | simp only [add_plain] at hx558_1 | skip)
                 (first | simp only [add_plain] at hx558_2 | skip)
                 obtain ⟨ce50, hcl50, hM50, hcc50, hfr50⟩ := Kd.R_elem HO_8.out z51 (x13_3 : Int) p50 q50
                 obtain rfl := k51_openM hM50
                 have hx50_0 : wr.cell? ⟨go50, (x13_3 : Int).toNat * 3, none⟩ = some (.int .i64 ((rd_T51 x8_3 x13_3).f0)) := hcc50 0 _ rfl
                 have hx50_1 : wr.cell? ⟨go50, (x13_3 : Int).toNat * 3 + 1, none⟩ = some (.int .i64 ((rd_T51 x8_3 x13_3).f1)) := hcc50 1 _ rfl
                 have hx50_2 : wr.cell? ⟨go50, (x13_3 : Int).toNat * 3 + 2, none⟩ = some (.int .i64 ((rd_T51 x8_3 x13_3).f2)) := hcc50 2 _ rfl
                 have hf50_0 : wr.frozen? ⟨go50, (x13_3 : Int).toNat * 3, none⟩ = false := hfr50 0
                 have hf50_1 : wr.frozen? ⟨go50, (x13_3 : Int).toNat * 3 + 1, none⟩ = false := hfr50 1
                 have hf50_2 : wr.frozen? ⟨go50, (x13_3 : Int).toNat * 3 + 2, none⟩ = false := hfr50 2
                 clear hcl50 hcc50 hfr50 hM50
                 replace p50 := eq_true p50
                 replace q50 := eq_true q50
                 have HX53 := Aside0.mk (show Kd.R k51 51 wr w.heap.size (fun k_ => some k_ ≠ (v548 : Value).ownBlock) (.slice (some ⟨go50, 0, none⟩) x8_3.length co52) x8_3 from (by (with_reducible repeat (first | apply Kd.R_alloc | apply Kd.R_drewN | apply Kd.R_drew)); exact HO_8.out))
                 obtain ⟨ce53, hcl53, hM53, hcc53, hfr53⟩ := Kd.R_elem HX53.out z51 (x13_3 : Int) (of_decide_eq_true (by first | (with_reducible assumption) | assumption)) (by have h_ : (x13_3 : Int) < ((x8_3.length : Int) : Int) := of_decide_eq_true (by first | (with_reducible assumption) | assumption); first | exact h_ | (have e_ := (Kd.R_reads' HO_8.out).1; omega) | simpa using h_)
                 obtain rfl := k51_openM hM53
                 have HP53 := Kd.R_seg HX53.out (x13_3 : Int) (of_decide_eq_true (by first | (with_reducible assumption) | assumption)) (by have h_ : (x13_3 : Int) < ((x8_3.length : Int) : Int) := of_decide_eq_true (by first | (with_reducible assumption) | assumption); first | exact h_ | (have e_ := (Kd.R_reads' HO_8.out).1; omega) | simpa using h_) (seg := [.int .i64 81]) (j := 1) hcl53 hcc53 (show 2 ≤ 3 from by decide) (x' := (⟨(rd_T51 x8_3 x13_3).f0, 81, (rd_T51 x8_3 x13_3).f2⟩ : S51)) (k51_mkM _ _ _ (⟨(rd_T51 x8_3 x13_3).f0, 81, (rd_T51 x8_3 x13_3).f2⟩ : S51) ) (fun _ hk => hk)
                 have hx53_1 := hcc53 1 _ rfl
                 (try simp only [show (k51).sz = 3 from rfl, Nat.mul_one, Nat.add_zero] at hx53_1)
                 have hf53_1 := hfr53 1
                 (try simp only [show (k51).sz = 3 from rfl, Nat.mul_one, Nat.add_zero] at hf53_1)
                 clear hcl53 hcc53 hfr53 hM53
                 go_wp2_with (first | ((with_reducible refine gate_store (t := 3) (p := 126) rfl ?_); (try (rw [drewN_self wr]; generalize hq_ : World.drewN wr _ = wr; have n0_ := Aside0.mk (Kd.R_at hq_ HO_8.out); have n1_ := Aside0.mk (Kd.R_at hq_ HO_10.out); have n2_ := Aside0.mk (Kd.R_at hq_ HO_12.out); have n3_ := Aside0.mk (below_at hq_ HB.out); clear hq_ HO_8 HO_10 HO_12 HB; have HO_8 := n0_; have HO_10 := n1_; have HO_12 := n2_; have HB := n3_; clear n0_ n1_ n2_ n3_; (try (have HX53 := Aside0.mk (show Kd.R k51 51 wr w.heap.size (fun k_ => some k_ ≠ (v548 : Value).ownBlock) (.slice (some ⟨go50, 0, none⟩) x8_3.length co52) x8_3 from (by (with_reducible repeat (first | apply Kd.R_alloc | apply Kd.R_drewN | apply Kd.R_drew)); exact HO_8.out)))); (try (obtain ⟨ce53, hcl53, hM53, hcc53, hfr53⟩ := Kd.R_elem HX53.out z51 (x13_3 : Int) (of_decide_eq_true (by first | (with_reducible assumption) | assumption)) (by have h_ : (x13_3 : Int) < ((x8_3.length : Int) : Int) := of_decide_eq_true (by first | (with_reducible assumption) | assumption); first | exact h_ | (have e_ := (Kd.R_reads' HO_8.out).1; omega) | simpa using h_))); (try (obtain rfl := k51_openM hM53)); (try (have HP53 := Kd.R_seg HX53.out (x13_3 : Int) (of_decide_eq_true (by first | (with_reducible assumption) | assumption)) (by have h_ : (x13_3 : Int) < ((x8_3.length : Int) : Int) := of_decide_eq_true (by first | (with_reducible assumption) | assumption); first | exact h_ | (have e_ := (Kd.R_reads' HO_8.out).1; omega) | simpa using h_) (seg := [.int .i64 81]) (j := 1) hcl53 hcc53 (show 2 ≤ 3 from by decide) (x' := (⟨(rd_T51 x8_3 x13_3).f0, 81, (rd_T51 x8_3 x13_3).f2⟩ : S51)) (k51_mkM _ _ _ (⟨(rd_T51 x8_3 x13_3).f0, 81, (rd_T51 x8_3 x13_3).f2⟩ : S51) ) (fun _ hk => hk))); (try (have hx53_1 := hcc53 1 _ rfl)); (try (try simp only [show (k51).sz = 3 from rfl, Nat.mul_one, Nat.add_zero] at hx53_1)); (try (have hf53_1 := hfr53 1)); (try (try simp only [show (k51).sz = 3 from rfl, Nat.mul_one, Nat.add_zero] at hf53_1)); (try (clear hcl53 hcc53 hfr53 hM53)))); refine store_event (t := 3) (p := 126) (v := ?vo_w54) (w1 := (wr.setCell ⟨go50, (x13_3 : Int).toNat * 3 + 1, none⟩ (.int .i64 81))) ?hg ?ho ?hn ?hr ?_; (case ho => rfl); (case hg => rfl); (case hn => rfl); (case hr => first | (go_simp; done) | (go_simp; rfl)); intro w54 hw; have hg : wr.grownBy w54 (some go50) := (by rw [hw]; exact HP53.2); have hp_ : Kd.R k51 51 w54 w.heap.size (fun k_ => some k_ ≠ (v548 : Value).ownBlock) (.slice (some ⟨go50, 0, none⟩) x8_3.length co52) y560 := (by rw [hw, Ny560.out]; exact HP53.1); clear HP53; have n0_ := Aside0.mk (hp_); have n1_ := Aside0.mk (Kd.R_after (v := (.slice (some ⟨go50, 0, none⟩) x8_3.length co52)) (v1 := (.slice (some ⟨go50, 0, none⟩) x8_3.length co52)) (ok := (fun _ => True)) (by (with_reducible repeat (first | apply Kd.R_alloc | apply Kd.R_drewN | apply Kd.R_drew)); exact Kd.R_mono HO_10.out (fun _ hk => ⟨trivial, hk⟩)) hg (.inl rfl)); have n2_ := Aside0.mk (Kd.R_over' (v := (.slice (some ⟨go50, 0, none⟩) x8_3.length co52)) (by (with_reducible repeat (first | apply Kd.R_alloc | apply Kd.R_drewN | apply Kd.R_drew)); exact HO_12.out) (Kd.R_typed HO_8.out) (by decide) hg); have n3_ := Aside0.mk ((by rw [hw]; exact below_set (HB.out) GB50.out : Below w.heap.size w w54)); clear HO_8; clear HO_10; clear HO_12; clear HB; have HO_8 := n0_; have HO_10 := n1_; have HO_12 := n2_; have HB := n3_; clear n0_ n1_ n2_ n3_; clear hg hw hp_))
                 repeat (go_quiet (first | ((with_reducible refine gate_store (t := 3) (p := 126) rfl ?_); (try (rw [drewN_self wr]; generalize hq_ : World.drewN wr _ = wr; have n0_ := Aside0.mk (Kd.R_at hq_ HO_8.out); have n1_ := Aside0.mk (Kd.R_at hq_ HO_10.out); have n2_ := Aside0.mk (Kd.R_at hq_ HO_12.out); have n3_ := Aside0.mk (below_at hq_ HB.out); clear hq_ HO_8 HO_10 HO_12 HB; have HO_8 := n0_; have HO_10 := n1_; have HO_12 := n2_; have HB := n3_; clear n0_ n1_ n2_ n3_; (try (have HX53 := Aside0.mk (show Kd.R k51 51 wr w.heap.size (fun k_ => some k_ ≠ (v548 : Value).ownBlock) (.slice (some ⟨go50, 0, none⟩) x8_3.length co52) x8_3 from (by (with_reducible repeat (first | apply Kd.R_alloc | apply Kd.R_drewN | apply Kd.R_drew)); exact HO_8.out)))); (try (obtain ⟨ce53, hcl53, hM53, hcc53, hfr53⟩ := Kd.R_elem HX53.out z51 (x13_3 : Int) (of_decide_eq_true (by first | (with_reducible assumption) | assumption)) (by have h_ : (x13_3 : Int) < ((x8_3.length : Int) : Int) := of_decide_eq_true (by first | (with_reducible assumption) | assumption); first | exact h_ | (have e_ := (Kd.R_reads' HO_8.out).1; omega) | simpa using h_))); (try (obtain rfl := k51_openM hM53)); (try (have HP53 := Kd.R_seg HX53.out (x13_3 : Int) (of_decide_eq_true (by first | (with_reducible assumption) | assumption)) (by have h_ : (x13_3 : Int) < ((x8_3.length : Int) : Int) := of_decide_eq_true (by first | (with_reducible assumption) | assumption); first | exact h_ | (have e_ := (Kd.R_reads' HO_8.out).1; omega) | simpa using h_) (seg := [.int .i64 81]) (j := 1) hcl53 hcc53 (show 2 ≤ 3 from by decide) (x' := (⟨(rd_T51 x8_3 x13_3).f0, 81, (rd_T51 x8_3 x13_3).f2⟩ : S51)) (k51_mkM _ _ _ (⟨(rd_T51 x8_3 x13_3).f0, 81, (rd_T51 x8_3 x13_3).f2⟩ : S51) ) (fun _ hk => hk))); (try (have hx53_1 := hcc53 1 _ rfl)); (try (try simp only [show (k51).sz = 3 from rfl, Nat.mul_one, Nat.add_zero] at hx53_1)); (try (have hf53_1 := hfr53 1)); (try (try simp only [show (k51).sz = 3 from rfl, Nat.mul_one, Nat.add_zero] at hf53_1)); (try (clear hcl53 hcc53 hfr53 hM53)))); refine store_event (t := 3) (p := 126) (v := ?vo_w54) (w1 := (wr.setCell ⟨go50, (x13_3 : Int).toNat * 3 + 1, none⟩ (.int .i64 81))) ?hg ?ho ?hn ?hr ?_; (case ho => rfl); (case hg => rfl); (case hn => rfl); (case hr => first | (go_simp; done) | (go_simp; rfl)); intro w54 hw; have hg : wr.grownBy w54 (some go50) := (by rw [hw]; exact HP53.2); have hp_ : Kd.R k51 51 w54 w.heap.size (fun k_ => some k_ ≠ (v548 : Value).ownBlock) (.slice (some ⟨go50, 0, none⟩) x8_3.length co52) y560 := (by rw [hw, Ny560.out]; exact HP53.1); clear HP53; have n0_ := Aside0.mk (hp_); have n1_ := Aside0.mk (Kd.R_after (v := (.slice (some ⟨go50, 0, none⟩) x8_3.length co52)) (v1 := (.slice (some ⟨go50, 0, none⟩) x8_3.length co52)) (ok := (fun _ => True)) (by (with_reducible repeat (first | apply Kd.R_alloc | apply Kd.R_drewN | apply Kd.R_drew)); exact Kd.R_mono HO_10.out (fun _ hk => ⟨trivial, hk⟩)) hg (.inl rfl)); have n2_ := Aside0.mk (Kd.R_over' (v := (.slice (some ⟨go50, 0, none⟩) x8_3.length co52)) (by (with_reducible repeat (first | apply Kd.R_alloc | apply Kd.R_drewN | apply Kd.R_drew)); exact HO_12.out) (Kd.R_typed HO_8.out) (by decide) hg); have n3_ := Aside0.mk ((by rw [hw]; exact below_set (HB.out) GB50.out : Below w.heap.size w w54)); clear HO_8; clear HO_10; clear HO_12; clear HB; have HO_8 := n0_; have HO_10 := n1_; have HO_12 := n2_; have HB := n3_; clear n0_ n1_ n2_ n3_; clear hg hw hp_)); try go_wp2_with (first | ((with_reducible refine gate_store (t := 3) (p := 126) rfl ?_); (try (rw [drewN_self wr]; generalize hq_ : World.drewN wr _ = wr; have n0_ := Aside0.mk (Kd.R_at hq_ HO_8.out); have n1_ := Aside0.mk (Kd.R_at hq_ HO_10.out); have n2_ := Aside0.mk (Kd.R_at hq_ HO_12.out); have n3_ := Aside0.mk (below_at hq_ HB.out); clear hq_ HO_8 HO_10 HO_12 HB; have HO_8 := n0_; have HO_10 := n1_; have HO_12 := n2_; have HB := n3_; clear n0_ n1_ n2_ n3_; (try (have HX53 := Aside0.mk (show Kd.R k51 51 wr w.heap.size (fun k_ => some k_ ≠ (v548 : Value).ownBlock) (.slice (some ⟨go50, 0, none⟩) x8_3.length co52) x8_3 from (by (with_reducible repeat (first | apply Kd.R_alloc | apply Kd.R_drewN | apply Kd.R_drew)); exact HO_8.out)))); (try (obtain ⟨ce53, hcl53, hM53, hcc53, hfr53⟩ := Kd.R_elem HX53.out z51 (x13_3 : Int) (of_decide_eq_true (by first | (with_reducible assumption) | assumption)) (by have h_ : (x13_3 : Int) < ((x8_3.length : Int) : Int) := of_decide_eq_true (by first | (with_reducible assumption) | assumption); first | exact h_ | (have e_ := (Kd.R_reads' HO_8.out).1; omega) | simpa using h_))); (try (obtain rfl := k51_openM hM53)); (try (have HP53 := Kd.R_seg HX53.out (x13_3 : Int) (of_decide_eq_true (by first | (with_reducible assumption) | assumption)) (by have h_ : (x13_3 : Int) < ((x8_3.length : Int) : Int) := of_decide_eq_true (by first | (with_reducible assumption) | assumption); first | exact h_ | (have e_ := (Kd.R_reads' HO_8.out).1; omega) | simpa using h_) (seg := [.int .i64 81]) (j := 1) hcl53 hcc53 (show 2 ≤ 3 from by decide) (x' := (⟨(rd_T51 x8_3 x13_3).f0, 81, (rd_T51 x8_3 x13_3).f2⟩ : S51)) (k51_mkM _ _ _ (⟨(rd_T51 x8_3 x13_3).f0, 81, (rd_T51 x8_3 x13_3).f2⟩ : S51) ) (fun _ hk => hk))); (try (have hx53_1 := hcc53 1 _ rfl)); (try (try simp only [show (k51).sz = 3 from rfl, Nat.mul_one, Nat.add_zero] at hx53_1)); (try (have hf53_1 := hfr53 1)); (try (try simp only [show (k51).sz = 3 from rfl, Nat.mul_one, Nat.add_zero] at hf53_1)); (try (clear hcl53 hcc53 hfr53 hM53)))); refine store_event (t := 3) (p := 126) (v := ?vo_w54) (w1 := (wr.setCell ⟨go50, (x13_3 : Int).toNat * 3 + 1, none⟩ (.int .i64 81))) ?hg ?ho ?hn ?hr ?_; (case ho => rfl); (case hg => rfl); (case hn => rfl); (case hr => first | (go_simp; done) | (go_simp; rfl)); intro w54 hw; have hg : wr.grownBy w54 (some go50) := (by rw [hw]; exact HP53.2); have hp_ : Kd.R k51 51 w54 w.heap.size (fun k_ => some k_ ≠ (v548 : Value).ownBlock) (.slice (some ⟨go50, 0, none⟩) x8_3.length co52) y560 := (by rw [hw, Ny560.out]; exact HP53.1); clear HP53; have n0_ := Aside0.mk (hp_); have n1_ := Aside0.mk (Kd.R_after (v := (.slice (some ⟨go50, 0, none⟩) x8_3.length co52)) (v1 := (.slice (some ⟨go50, 0, none⟩) x8_3.length co52)) (ok := (fun _ => True)) (by (with_reducible repeat (first | apply Kd.R_alloc | apply Kd.R_drewN | apply Kd.R_drew)); exact Kd.R_mono HO_10.out (fun _ hk => ⟨trivial, hk⟩)) hg (.inl rfl)); have n2_ := Aside0.mk (Kd.R_over' (v := (.slice (some ⟨go50, 0, none⟩) x8_3.length co52)) (by (with_reducible repeat (first | apply Kd.R_alloc | apply Kd.R_drewN | apply Kd.R_drew)); exact HO_12.out) (Kd.R_typed HO_8.out) (by decide) hg); have n3_ := Aside0.mk ((by rw [hw]; exact below_set (HB.out) GB50.out : Below w.heap.size w w54)); clear HO_8; clear HO_10; clear HO_12; clear HB; have HO_8 := n0_; have HO_10 := n1_; have HO_12 := n2_; have HB := n3_; clear n0_ n1_ n2_ n3_; clear hg hw hp_)))
                 go_roundg k3
                 case measure => have := HJ3.out; have := HJ19.out; have := HK3.out; omega
                 case rel => exact ⟨(y560), (wrap64 (x13_3 + 1)), (by first | rfl | (simp; done) | (simp [*]; done)), H', ⟨by have := HJ3.out; have := HJ19.out; have := HK3.out; omega⟩, ⟨by (with_reducible repeat (first | apply Kd.R_alloc | apply Kd.R_drewN | apply Kd.R_drew)); exact HO_8.out⟩, ⟨by (with_reducible repeat (first | apply Kd.R_alloc | apply Kd.R_drewN | apply Kd.R_drew)); exact Kd.R_mono HO_10.out (fun _ hk => hk.2)⟩, ⟨by (with_reducible repeat (first | apply Kd.R_alloc | apply Kd.R_drewN | apply Kd.R_drew)); exact HO_12.out⟩, ⟨by repeat (first | (with_reducible first | exact HB.out | apply below_alloc | apply pw_below_drewN | apply below_drew1) | exact HB.out)⟩⟩
                ·rw [if_neg c49] at H
                 have c49b0 : (((rd_T51 x8_3 x13_3).f2) == ((rd_T52 t550 x13_3).f2)) = false := beq_eq_false_iff_ne.mpr c49
                 have c49b1 : (((rd_T51 x8_3 x13_3).f2) != ((rd_T52 t550 x13_3).f2)) = true := bne_iff_ne.mpr c49
                 obtain rfl := Option.some.inj H
                 obtain ⟨Ao55, co55, eo55⟩ := Kd.R_slice HO_12.out
                 subst eo55
                 obtain ⟨Ao56, co56, eo56⟩ := Kd.R_slice HO_8.out
                 subst eo56
                 have p554 : 0 ≤ (x13_3 : Int) := of_decide_eq_true (by first | (with_reducible assumption) | assumption)
                 have q554 : x13_3 < (x8_3.length : Int) := of_decide_eq_true (by first | (with_reducible assumption) | assumption)
                 obtain ⟨ad554, e554, hx554_0, hx554_1, hx554_2⟩ := at_T51 (Kd.R_reads' HO_8.out).2.2 x13_3 p554 q554
                 cases e554
                 replace p554 := eq_true p554
                 replace q554 := eq_true q554
                 have p555 : 0 ≤ (x13_3 : Int) := of_decide_eq_true (by first | (with_reducible assumption) | assumption)
                 have q555 : x13_3 < (t550.length : Int) := of_decide_eq_true (by first | (with_reducible assumption) | assumption)
                 obtain ⟨ad555, e555, hx555_0, hx555_1, hx555_2⟩ := at_T52 (Kd.R_reads' HO_12.out).2.2 x13_3 p555 q555
                 cases e555
                 replace p555 := eq_true p555
                 replace q555 := eq_true q555
                 have p556 : 0 ≤ (x13_3 : Int) := of_decide_eq_true (by first | (with_reducible assumption) | assumption)
                 have q556 : x13_3 < (x8_3.length : Int) := of_decide_eq_true (by first | (with_reducible assumption) | assumption)
                 obtain ⟨ad556, e556, hx556_0, hx556_1, hx556_2⟩ := at_T51 (Kd.R_reads' HO_8.out).2.2 x13_3 p556 q556
                 obtain rfl : ad554 = ad556 := (by injection e556)
                 replace p556 := eq_true p556
                 replace q556 := eq_true q556
                 have p557 : 0 ≤ (x13_3 : Int) := of_decide_eq_true (by first | (with_reducible assumption) | assumption)
                 have q557 : x13_3 < (t550.length : Int) := of_decide_eq_true (by first | (with_reducible assumption) | assumption)
                 obtain ⟨ad557, e557, hx557_0, hx557_1, hx557_2⟩ := at_T52 (Kd.R_reads' HO_12.out).2.2 x13_3 p557 q557
                 obtain rfl : ad555 = ad557 := (by injection e557)
                 replace p557 := eq_true p557
                 replace q557 := eq_true q557
                 have p558 : 0 ≤ (x13_3 : Int) := of_decide_eq_true (by first | (with_reducible assumption) | assumption)
                 have q558 : x13_3 < (x8_3.length : Int) := of_decide_eq_true (by first | (with_reducible assumption) | assumption)
                 obtain ⟨ad558, e558, hx558_0, hx558_1, hx558_2⟩ := at_T51 (Kd.R_reads' HO_8.out).2.2 x13_3 p558 q558
                 obtain rfl : ad554 = ad558 := (by injection e558)
                 replace p558 := eq_true p558
                 replace q558 := eq_true q558
                 have p559 : 0 ≤ (x13_3 : Int) := of_decide_eq_true (by first | (with_reducible assumption) | assumption)
                 have q559 : x13_3 < (t550.length : Int) := of_decide_eq_true (by first | (with_reducible assumption) | assumption)
                 obtain ⟨ad559, e559, hx559_0, hx559_1, hx559_2⟩ := at_T52 (Kd.R_reads' HO_12.out).2.2 x13_3 p559 q559
                 obtain rfl : ad555 = ad559 := (by injection e559)
                 replace p559 := eq_true p559
                 replace q559 := eq_true q559
                 go_wp2
                 repeat (go_quiet (fail); try go_wp2)
                 go_ret
                 exact ⟨by first | rfl | (simp [errW_none, errW_some] <;> rfl) | (simp [*, errW_none, errW_some] <;> rfl), by repeat (first | (with_reducible first | exact HB.out | apply below_alloc | apply pw_below_drewN | apply below_drew1) | exact HB.out)⟩
               ·rw [if_neg c48] at H
                have c48b0 : (((rd_T51 x8_3 x13_3).f1) == ((rd_T52 t550 x13_3).f1)) = false := beq_eq_false_iff_ne.mpr c48
                have c48b1 : (((rd_T51 x8_3 x13_3).f1) != ((rd_T52 t550 x13_3).f1)) = true := bne_iff_ne.mpr c48
                obtain rfl := Option.some.inj H
                obtain ⟨Ao57, co57, eo57⟩ := Kd.R_slice HO_12.out
                subst eo57
                obtain ⟨Ao58, co58, eo58⟩ := Kd.R_slice HO_8.out
                subst eo58
                have p554 : 0 ≤ (x13_3 : Int) := of_decide_eq_true (by first | (with_reducible assumption) | assumption)
                have q554 : x13_3 < (x8_3.length : Int) := of_decide_eq_true (by first | (with_reducible assumption) | assumption)
                obtain ⟨ad554, e554, hx554_0, hx554_1, hx554_2⟩ := at_T51 (Kd.R_reads' HO_8.out).2.2 x13_3 p554 q554
                cases e554
                replace p554 := eq_true p554
                replace q554 := eq_true q554
                have p555 : 0 ≤ (x13_3 : Int) := of_decide_eq_true (by first | (with_reducible assumption) | assumption)
                have q555 : x13_3 < (t550.length : Int) := of_decide_eq_true (by first | (with_reducible assumption) | assumption)
                obtain ⟨ad555, e555, hx555_0, hx555_1, hx555_2⟩ := at_T52 (Kd.R_reads' HO_12.out).2.2 x13_3 p555 q555
                cases e555
                replace p555 := eq_true p555
                replace q555 := eq_true q555
                have p556 : 0 ≤ (x13_3 : Int) := of_decide_eq_true (by first | (with_reducible assumption) | assumption)
                have q556 : x13_3 < (x8_3.length : Int) := of_decide_eq_true (by first | (with_reducible assumption) | assumption)
                obtain ⟨ad556, e556, hx556_0, hx556_1, hx556_2⟩ := at_T51 (Kd.R_reads' HO_8.out).2.2 x13_3 p556 q556
                obtain rfl : ad554 = ad556 := (by injection e556)
                replace p556 := eq_true p556
                replace q556 := eq_true q556
                have p557 : 0 ≤ (x13_3 : Int) := of_decide_eq_true (by first | (with_reducible assumption) | assumption)
                have q557 : x13_3 < (t550.length : Int) := of_decide_eq_true (by first | (with_reducible assumption) | assumption)
                obtain ⟨ad557, e557, hx557_0, hx557_1, hx557_2⟩ := at_T52 (Kd.R_reads' HO_12.out).2.2 x13_3 p557 q557
                obtain rfl : ad555 = ad557 := (by injection e557)
                replace p557 := eq_true p557
                replace q557 := eq_true q557
                go_wp2
                repeat (go_quiet (fail); try go_wp2)
                go_ret
                exact ⟨by first | rfl | (simp [errW_none, errW_some] <;> rfl) | (simp [*, errW_none, errW_some] <;> rfl), by repeat (first | (with_reducible first | exact HB.out | apply below_alloc | apply pw_below_drewN | apply below_drew1) | exact HB.out)⟩
              ·rw [if_neg c47] at H
               have c47b0 : (((rd_T51 x8_3 x13_3).f0) == ((rd_T52 t550 x13_3).f0)) = false := beq_eq_false_iff_ne.mpr c47
               have c47b1 : (((rd_T51 x8_3 x13_3).f0) != ((rd_T52 t550 x13_3).f0)) = true := bne_iff_ne.mpr c47
               obtain rfl := Option.some.inj H
               obtain ⟨Ao59, co59, eo59⟩ := Kd.R_slice HO_12.out
               subst eo59
               obtain ⟨Ao60, co60, eo60⟩ := Kd.R_slice HO_8.out
               subst eo60
               have p554 : 0 ≤ (x13_3 : Int) := of_decide_eq_true (by first | (with_reducible assumption) | assumption)
               have q554 : x13_3 < (x8_3.length : Int) := of_decide_eq_true (by first | (with_reducible assumption) | assumption)
               obtain ⟨ad554, e554, hx554_0, hx554_1, hx554_2⟩ := at_T51 (Kd.R_reads' HO_8.out).2.2 x13_3 p554 q554
               cases e554
               replace p554 := eq_true p554
               replace q554 := eq_true q554
               have p555 : 0 ≤ (x13_3 : Int) := of_decide_eq_true (by first | (with_reducible assumption) | assumption)
               have q555 : x13_3 < (t550.length : Int) := of_decide_eq_true (by first | (with_reducible assumption) | assumption)
               obtain ⟨ad555, e555, hx555_0, hx555_1, hx555_2⟩ := at_T52 (Kd.R_reads' HO_12.out).2.2 x13_3 p555 q555
               cases e555
               replace p555 := eq_true p555
               replace q555 := eq_true q555
               go_wp2
               repeat (go_quiet (fail); try go_wp2)
               go_ret
               exact ⟨by first | rfl | (simp [errW_none, errW_some] <;> rfl) | (simp [*, errW_none, errW_some] <;> rfl), by repeat (first | (with_reducible first | exact HB.out | apply below_alloc | apply pw_below_drewN | apply below_drew1) | exact HB.out)⟩
             ·rw [if_neg c46] at H
              exact absurd H (by simp)
            ·rw [if_neg c45] at H
             exact absurd H (by simp)
           ·rw [if_neg c44] at H
            have c44b0 : decide (x13_3 < (t550.length : Int)) = false := decide_eq_false c44
            clear c44
            have H' := Aside0.mk H
            clear H
            obtain ⟨Ao61, co61, eo61⟩ := Kd.R_slice HO_12.out
            subst eo61
            go_wp2
            repeat (go_quiet (fail); try go_wp2)
            go_loopg [8, 14] k3 (fun kq v8 v14 w' => ∃ (x8_4 : List (S51)) (x14_4 : Int), v14 = .int .i64 x14_4 ∧ Aside0 (sapperlaw14_FindFactors.l1 kq x8_4 t546 t550 x14_4 = some r) ∧ Aside0 (kq ≤ k3) ∧ Aside0 (Kd.R k51 51 w' w.heap.size (fun k_ => some k_ ≠ (v548 : Value).ownBlock) v8 x8_4) ∧ Aside0 (Kd.R k51 51 w' w.heap.size (fun k_ => some k_ ≠ (v8 : Value).ownBlock) v548 t546) ∧ Aside0 (Kd.R k52 52 w' w.heap.size (fun _ => True) (.slice Ao61 t550.length co61) t550) ∧ Aside0 (Below w.heap.size w w'))
            case atStart => exact ⟨(x8_3), (0), (by first | rfl | (simp; done) | (simp [*]; done)), H', ⟨Nat.le_refl _⟩, ⟨by (with_reducible repeat (first | apply Kd.R_alloc | apply Kd.R_drewN | apply Kd.R_drew)); exact HO_8.out⟩, ⟨by (with_reducible repeat (first | apply Kd.R_alloc | apply Kd.R_drewN | apply Kd.R_drew)); exact HO_10.out⟩, ⟨by (with_reducible repeat (first | apply Kd.R_alloc | apply Kd.R_drewN | apply Kd.R_drew)); exact HO_12.out⟩, ⟨by repeat (first | (with_reducible first | exact HB.out | apply below_alloc | apply pw_below_drewN | apply below_drew1) | exact HB.out)⟩⟩
            case round =>
             clear H'
             try clear c1
             try clear c2
             try clear p2
             try clear q2
             try clear c3
             try clear c4
             try clear c5
             try clear p5
             try clear q5
             try clear hx5
             try clear hf5
             try clear c6
             try clear p6
             try clear c8
             try clear c9
             try clear c10
             try clear c13
             try clear c13b0
             try clear c13b1
             try clear c14
             try clear c14b0
             try clear c14b1
             try clear c16
             try clear c16b0
             try clear c17
             try clear c17b0
             try clear q22
             try clear q26
             try clear c29
             try clear c29b0
             try clear c29b1
             try clear c30
             try clear c30b0
             try clear c30b1
             try clear c31
             try clear c31b0
             try clear c31b1
             try clear c31b2
             try clear c32
             try clear c32b0
             try clear c32b1
             try clear c32b2
             try clear c43
             try clear c44
             try clear c44b0
             try clear c45
             try clear c45b0
             try clear c46
             try clear c46b0
             try clear c47
             try clear c47b0
             try clear c47b1
             try clear c48
             try clear c48b0
             try clear c48b1
             try clear c49
             try clear c49b0
             try clear c49b1
             try clear c50
             try clear p50
             try clear q50
             try clear hx50
             try clear hf50
             try clear c53
             try clear hx53
             try clear hf53
             try clear p55
             try clear q55
             try clear hx55
             try clear hx50_0
             try clear hx50_1
             try clear hx50_2
             try clear hx53_1
             try clear hx554_0
             try clear hx554_1
             try clear hx554_2
             try clear hx555_0
             try clear hx555_1
             try clear hx555_2
             try clear hx556_0
             try clear hx556_1
             try clear hx556_2
             try clear hx557_0
             try clear hx557_1
             try clear hx557_2
             try clear hx558_0
             try clear hx558_1
             try clear hx558_2
             try clear hx559_0
             try clear hx559_1
             try clear hx559_2
             try clear p2
             try clear p50
             try clear p554
             try clear p555
             try clear p556
             try clear p557
             try clear p558
             try clear p559
             try clear q2
             try clear q22
             try clear q26
             try clear q50
             try clear q554
             try clear q555
             try clear q556
             try clear q557
             try clear q558
             try clear q559
             obtain ⟨x8_4, x14_4, rfl, HA, HK4, HO_8, HO_10, HO_12, HB⟩ := hrel
             cases gk with
             | zero => exact absurd HA.out (by simp [sapperlaw14_FindFactors.l1])
             | succ k4 =>
              have H := HA.out
              clear HA
              simp only [sapperlaw14_FindFactors.l1] at H
              by_cases c62 : x14_4 < 40
              ·rw [if_pos c62] at H
               have c62b0 : decide (x14_4 < 40) = true := decide_eq_true c62
               clear c62
               by_cases c63 : x8_4.length < 5864062014805
               ·rw [if_pos c63] at H
                have LMc63 := Aside0.mk c63
                clear c63
                obtain ⟨y561, hy561⟩ : ∃ y_ : List (S51), y_ = (x8_4 ++ [(⟨0, 82, 0⟩ : S51)]) := ⟨_, rfl⟩
                replace H : (sapperlaw14_FindFactors.l1 k4 y561 t546 t550 (wrap64 (x14_4 + 1))) = some r := by first | (rw [hy561]; with_reducible exact H) | (have H2_ := (Option.bind_some _ _).symm.trans H; rw [hy561]; with_reducible exact H2_) | (have H2_ := (Option.bind_some _ _).symm.trans H; with_reducible exact H2_) | with_reducible exact H | (rw [hy561]; exact H) | exact H
                have Ny561 := Aside0.mk hy561
                clear hy561
                have H' := Aside0.mk H
                clear H
                go_wp2_with (first | ((with_reducible refine gate_builtin (b := .append) (xs := #[.tmp 131, .tmp 133]) rfl ?_); (try (refine gate_guard (by rfl) ?_; dsimp only)); at_builtin; refine Kd.R_append k51 (w0 := w) w.heap.size rfl (.tmp 131) (.tmp 133) 45 51 (.agg #[(.int .i64 0), (.int .i64 0), (.int .i64 0)]) 24 rfl Try.underlying45 info51 rfl (by decide) (by omega) u8 x8_4 (⟨0, 82, 0⟩ : S51) [.int .i64 0, .int .i64 82, .int .i64 0] (fun k_ => some k_ ≠ (v548 : Value).ownBlock) (fun _ => False) rfl rfl ?aP (fun _ hk => hk.elim) ?aF ?aO ?aB ?aS ?aL ?_; (case aP => exact k51_mkM _ _ _ (⟨0, 82, 0⟩ : S51)); (case aB => exact (by repeat (first | (with_reducible first | exact HB.out | apply below_alloc | apply pw_below_drewN | apply below_drew1) | exact HB.out))); (case aF => exact (fun k_ hk => Kd.fresh' (Kd.R_lt (by (with_reducible repeat (first | apply Kd.R_alloc | apply Kd.R_drewN | apply Kd.R_drew)); exact HO_10.out)) k_ hk)); (case aO => exact (by (with_reducible repeat (first | apply Kd.R_alloc | apply Kd.R_drewN | apply Kd.R_drew)); exact HO_8.out)); (case aS => exact (below_size (by repeat (first | (with_reducible first | exact HB.out | apply below_alloc | apply pw_below_drewN | apply below_drew1) | exact HB.out)))); (case aL => have := LMc63.out; omega); intro v562 w64 ho hb hg hat; rw [← Ny561.out] at ho; have n0_ := Aside0.mk (Kd.R_after (ok := (fun _ => True)) (by (with_reducible repeat (first | apply Kd.R_alloc | apply Kd.R_drewN | apply Kd.R_drew)); exact Kd.R_mono HO_10.out (fun _ hk => ⟨trivial, hk⟩)) hg hat); have n1_ := Aside0.mk (Kd.R_over' (by (with_reducible repeat (first | apply Kd.R_alloc | apply Kd.R_drewN | apply Kd.R_drew)); exact HO_12.out) (Kd.R_typed (by (with_reducible repeat (first | apply Kd.R_alloc | apply Kd.R_drewN | apply Kd.R_drew)); exact HO_8.out)) (by decide) hg); have n2_ := Aside0.mk (hb); have n3_ := Aside0.mk (ho); clear HO_10; clear HO_12; clear HB; clear HO_8; have HO_10 := n0_; have HO_12 := n1_; have HB := n2_; have HO563 := n3_; clear n0_ n1_ n2_ n3_; clear ho hb hg hat))
                repeat (go_quiet (first | ((with_reducible refine gate_builtin (b := .append) (xs := #[.tmp 131, .tmp 133]) rfl ?_); (try (refine gate_guard (by rfl) ?_; dsimp only)); at_builtin; refine Kd.R_append k51 (w0 := w) w.heap.size rfl (.tmp 131) (.tmp 133) 45 51 (.agg #[(.int .i64 0), (.int .i64 0), (.int .i64 0)]) 24 rfl Try.underlying45 info51 rfl (by decide) (by omega) u8 x8_4 (⟨0, 82, 0⟩ : S51) [.int .i64 0, .int .i64 82, .int .i64 0] (fun k_ => some k_ ≠ (v548 : Value).ownBlock) (fun _ => False) rfl rfl ?aP (fun _ hk => hk.elim) ?aF ?aO ?aB ?aS ?aL ?_; (case aP => exact k51_mkM _ _ _ (⟨0, 82, 0⟩ : S51)); (case aB => exact (by repeat (first | (with_reducible first | exact HB.out | apply below_alloc | apply pw_below_drewN | apply below_drew1) | exact HB.out))); (case aF => exact (fun k_ hk => Kd.fresh' (Kd.R_lt (by (with_reducible repeat (first | apply Kd.R_alloc | apply Kd.R_drewN | apply Kd.R_drew)); exact HO_10.out)) k_ hk)); (case aO => exact (by (with_reducible repeat (first | apply Kd.R_alloc | apply Kd.R_drewN | apply Kd.R_drew)); exact HO_8.out)); (case aS => exact (below_size (by repeat (first | (with_reducible first | exact HB.out | apply below_alloc | apply pw_below_drewN | apply below_drew1) | exact HB.out)))); (case aL => have := LMc63.out; omega); intro v562 w64 ho hb hg hat; rw [← Ny561.out] at ho; have n0_ := Aside0.mk (Kd.R_after (ok := (fun _ => True)) (by (with_reducible repeat (first | apply Kd.R_alloc | apply Kd.R_drewN | apply Kd.R_drew)); exact Kd.R_mono HO_10.out (fun _ hk => ⟨trivial, hk⟩)) hg hat); have n1_ := Aside0.mk (Kd.R_over' (by (with_reducible repeat (first | apply Kd.R_alloc | apply Kd.R_drewN | apply Kd.R_drew)); exact HO_12.out) (Kd.R_typed (by (with_reducible repeat (first | apply Kd.R_alloc | apply Kd.R_drewN | apply Kd.R_drew)); exact HO_8.out)) (by decide) hg); have n2_ := Aside0.mk (hb); have n3_ := Aside0.mk (ho); clear HO_10; clear HO_12; clear HB; clear HO_8; have HO_10 := n0_; have HO_12 := n1_; have HB := n2_; have HO563 := n3_; clear n0_ n1_ n2_ n3_; clear ho hb hg hat)); try go_wp2_with (first | ((with_reducible refine gate_builtin (b := .append) (xs := #[.tmp 131, .tmp 133]) rfl ?_); (try (refine gate_guard (by rfl) ?_; dsimp only)); at_builtin; refine Kd.R_append k51 (w0 := w) w.heap.size rfl (.tmp 131) (.tmp 133) 45 51 (.agg #[(.int .i64 0), (.int .i64 0), (.int .i64 0)]) 24 rfl Try.underlying45 info51 rfl (by decide) (by omega) u8 x8_4 (⟨0, 82, 0⟩ : S51) [.int .i64 0, .int .i64 82, .int .i64 0] (fun k_ => some k_ ≠ (v548 : Value).ownBlock) (fun _ => False) rfl rfl ?aP (fun _ hk => hk.elim) ?aF ?aO ?aB ?aS ?aL ?_; (case aP => exact k51_mkM _ _ _ (⟨0, 82, 0⟩ : S51)); (case aB => exact (by repeat (first | (with_reducible first | exact HB.out | apply below_alloc | apply pw_below_drewN | apply below_drew1) | exact HB.out))); (case aF => exact (fun k_ hk => Kd.fresh' (Kd.R_lt (by (with_reducible repeat (first | apply Kd.R_alloc | apply Kd.R_drewN | apply Kd.R_drew)); exact HO_10.out)) k_ hk)); (case aO => exact (by (with_reducible repeat (first | apply Kd.R_alloc | apply Kd.R_drewN | apply Kd.R_drew)); exact HO_8.out)); (case aS => exact (below_size (by repeat (first | (with_reducible first | exact HB.out | apply below_alloc | apply pw_below_drewN | apply below_drew1) | exact HB.out)))); (case aL => have := LMc63.out; omega); intro v562 w64 ho hb hg hat; rw [← Ny561.out] at ho; have n0_ := Aside0.mk (Kd.R_after (ok := (fun _ => True)) (by (with_reducible repeat (first | apply Kd.R_alloc | apply Kd.R_drewN | apply Kd.R_drew)); exact Kd.R_mono HO_10.out (fun _ hk => ⟨trivial, hk⟩)) hg hat); have n1_ := Aside0.mk (Kd.R_over' (by (with_reducible repeat (first | apply Kd.R_alloc | apply Kd.R_drewN | apply Kd.R_drew)); exact HO_12.out) (Kd.R_typed (by (with_reducible repeat (first | apply Kd.R_alloc | apply Kd.R_drewN | apply Kd.R_drew)); exact HO_8.out)) (by decide) hg); have n2_ := Aside0.mk (hb); have n3_ := Aside0.mk (ho); clear HO_10; clear HO_12; clear HB; clear HO_8; have HO_10 := n0_; have HO_12 := n1_; have HB := n2_; have HO563 := n3_; clear n0_ n1_ n2_ n3_; clear ho hb hg hat)))
                go_roundg k4
                case measure => have := HJ3.out; have := HJ19.out; have := HK3.out; have := HK4.out; omega
                case rel => exact ⟨(y561), (wrap64 (x14_4 + 1)), (by first | rfl | (simp; done) | (simp [*]; done)), H', ⟨by have := HJ3.out; have := HJ19.out; have := HK3.out; have := HK4.out; omega⟩, ⟨by (with_reducible repeat (first | apply Kd.R_alloc | apply Kd.R_drewN | apply Kd.R_drew)); exact HO563.out⟩, ⟨by (with_reducible repeat (first | apply Kd.R_alloc | apply Kd.R_drewN | apply Kd.R_drew)); exact Kd.R_mono HO_10.out (fun _ hk => hk.2)⟩, ⟨by (with_reducible repeat (first | apply Kd.R_alloc | apply Kd.R_drewN | apply Kd.R_drew)); exact HO_12.out⟩, ⟨by repeat (first | (with_reducible first | exact HB.out | apply below_alloc | apply pw_below_drewN | apply below_drew1) | exact HB.out)⟩⟩
               ·rw [if_neg c63] at H
                exact absurd H (by simp)
              ·rw [if_neg c62] at H
               have c62b0 : decide (x14_4 < 40) = false := decide_eq_false c62
               clear c62
               have H' := Aside0.mk H
               clear H
               go_wp2
               repeat (go_quiet (fail); try go_wp2)
               go_loopg [15] k4 (fun kq v15 w' => ∃ (x15_5 : Int), v15 = .int .i64 x15_5 ∧ Aside0 (sapperlaw14_FindFactors.l2 kq t546 t550 x15_5 = some r) ∧ Aside0 (kq ≤ k4) ∧ Aside0 (Kd.R k51 51 w' w.heap.size (fun _ => True) v548 t546) ∧ Aside0 (Kd.R k52 52 w' w.heap.size (fun _ => True) (.slice Ao61 t550.length co61) t550) ∧ Aside0 (Below w.heap.size w w'))
               case atStart => exact ⟨(0), (by first | rfl | (simp; done) | (simp [*]; done)), H', ⟨Nat.le_refl _⟩, ⟨by (with_reducible repeat (first | apply Kd.R_alloc | apply Kd.R_drewN | apply Kd.R_drew)); exact Kd.R_mono HO_10.out (fun _ hk => trivial)⟩, ⟨by (with_reducible repeat (first | apply Kd.R_alloc | apply Kd.R_drewN | apply Kd.R_drew)); exact HO_12.out⟩, ⟨by repeat (first | (with_reducible first | exact HB.out | apply below_alloc | apply pw_below_drewN | apply below_drew1) | exact HB.out)⟩⟩
               case round =>
                clear H'
                try clear c1
                try clear c2
                try clear p2
                try clear q2
                try clear c3
                try clear c4
                try clear c5
                try clear p5
                try clear q5
                try clear hx5
                try clear hf5
                try clear c6
                try clear p6
                try clear c8
                try clear c9
                try clear c10
                try clear c13
                try clear c13b0
                try clear c13b1
                try clear c14
                try clear c14b0
                try clear c14b1
                try clear c16
                try clear c16b0
                try clear c17
                try clear c17b0
                try clear q22
                try clear q26
                try clear c29
                try clear c29b0
                try clear c29b1
                try clear c30
                try clear c30b0
                try clear c30b1
                try clear c31
                try clear c31b0
                try clear c31b1
                try clear c31b2
                try clear c32
                try clear c32b0
                try clear c32b1
                try clear c32b2
                try clear c43
                try clear c44
                try clear c44b0
                try clear c45
                try clear c45b0
                try clear c46
                try clear c46b0
                try clear c47
                try clear c47b0
                try clear c47b1
                try clear c48
                try clear c48b0
                try clear c48b1
                try clear c49
                try clear c49b0
                try clear c49b1
                try clear c50
                try clear p50
                try clear q50
                try clear hx50
                try clear hf50
                try clear c53
                try clear hx53
                try clear hf53
                try clear p55
                try clear q55
                try clear hx55
                try clear c62
                try clear c62b0
                try clear c63
                try clear p64
                try clear hx50_0
                try clear hx50_1
                try clear hx50_2
                try clear hx53_1
                try clear hx554_0
                try clear hx554_1
                try clear hx554_2
                try clear hx555_0
                try clear hx555_1
                try clear hx555_2
                try clear hx556_0
                try clear hx556_1
                try clear hx556_2
                try clear hx557_0
                try clear hx557_1
                try clear hx557_2
                try clear hx558_0
                try clear hx558_1
                try clear hx558_2
                try clear hx559_0
                try clear hx559_1
                try clear hx559_2
                try clear p2
                try clear p5
                try clear p50
                try clear p55
                try clear p554
                try clear p555
                try clear p556
                try clear p557
                try clear p558
                try clear p559
                try clear p6
                try clear q2
                try clear q22
                try clear q26
                try clear q5
                try clear q50
                try clear q55
                try clear q554
                try clear q555
                try clear q556
                try clear q557
                try clear q558
                try clear q559
                obtain ⟨x15_5, rfl, HA, HK5, HO_10, HO_12, HB⟩ := hrel
                cases gk with
                | zero => exact absurd HA.out (by simp [sapperlaw14_FindFactors.l2])
                | succ k5 =>
                 have H := HA.out
                 clear HA
                 simp only [sapperlaw14_FindFactors.l2] at H
                 by_cases c65 : x15_5 < (t550.length : Int)
                 ·rw [if_pos c65] at H
                  have c65b0 : decide (x15_5 < (t550.length : Int)) = true := decide_eq_true c65
                  clear c65
                  by_cases c66 : 0 ≤ x15_5
                  ·rw [if_pos c66] at H
                   have c66b0 : decide (0 ≤ x15_5) = true := decide_eq_true c66
                   clear c66
                   by_cases c67 : x15_5 < (t546.length : Int)
                   ·rw [if_pos c67] at H
                    have c67b0 : decide (x15_5 < (t546.length : Int)) = true := decide_eq_true c67
                    clear c67
                    by_cases c68 : ((rd_T51 t546 x15_5).f1) = ((rd_T52 t550 x15_5).f1)
                    ·rw [if_pos c68] at H
                     have c68b0 : (((rd_T51 t546 x15_5).f1) == ((rd_T52 t550 x15_5).f1)) = true := beq_iff_eq.mpr c68
                     have c68b1 : (((rd_T51 t546 x15_5).f1) != ((rd_T52 t550 x15_5).f1)) = false := bne_eq_false_iff_eq.mpr c68
                     clear c68
                     have H' := Aside0.mk H
                     clear H
                     obtain ⟨Ao69, co69, eo69⟩ := Kd.R_slice HO_10.out
                     subst eo69
                     have p564 : 0 ≤ (x15_5 : Int) := of_decide_eq_true (by first | (with_reducible assumption) | assumption)
                     have q564 : x15_5 < (t546.length : Int) := of_decide_eq_true (by first | (with_reducible assumption) | assumption)
                     obtain ⟨ad564, e564, hx564_0, hx564_1, hx564_2⟩ := at_T51 (Kd.R_reads' HO_10.out).2.2 x15_5 p564 q564
                     cases e564
                     replace p564 := eq_true p564
                     replace q564 := eq_true q564
                     have p565 : 0 ≤ (x15_5 : Int) := of_decide_eq_true (by first | (with_reducible assumption) | assumption)
                     have q565 : x15_5 < (t550.length : Int) := of_decide_eq_true (by first | (with_reducible assumption) | assumption)
                     obtain ⟨ad565, e565, hx565_0, hx565_1, hx565_2⟩ := at_T52 (Kd.R_reads' HO_12.out).2.2 x15_5 p565 q565
                     cases e565
                     replace p565 := eq_true p565
                     replace q565 := eq_true q565
                     go_wp2
                     repeat (go_quiet (fail); try go_wp2)
                     go_roundg k5
                     case measure => have := HJ3.out; have := HJ19.out; have := HK3.out; have := HK4.out; have := HK5.out; omega
                     case rel => exact ⟨(wrap64 (x15_5 + 1)), (by first | rfl | (simp; done) | (simp [*]; done)), H', ⟨by have := HJ3.out; have := HJ19.out; have := HK3.out; have := HK4.out; have := HK5.out; omega⟩, ⟨by (with_reducible repeat (first | apply Kd.R_alloc | apply Kd.R_drewN | apply Kd.R_drew)); exact HO_10.out⟩, ⟨by (with_reducible repeat (first | apply Kd.R_alloc | apply Kd.R_drewN | apply Kd.R_drew)); exact HO_12.out⟩, ⟨by repeat (first | (with_reducible first | exact HB.out | apply below_alloc | apply pw_below_drewN | apply below_drew1) | exact HB.out)⟩⟩
                    ·rw [if_neg c68] at H
                     have c68b0 : (((rd_T51 t546 x15_5).f1) == ((rd_T52 t550 x15_5).f1)) = false := beq_eq_false_iff_ne.mpr c68
                     have c68b1 : (((rd_T51 t546 x15_5).f1) != ((rd_T52 t550 x15_5).f1)) = true := bne_iff_ne.mpr c68
                     obtain rfl := Option.some.inj H
                     obtain ⟨Ao70, co70, eo70⟩ := Kd.R_slice HO_10.out
                     subst eo70
                     have p564 : 0 ≤ (x15_5 : Int) := of_decide_eq_true (by first | (with_reducible assumption) | assumption)
                     have q564 : x15_5 < (t546.length : Int) := of_decide_eq_true (by first | (with_reducible assumption) | assumption)
                     obtain ⟨ad564, e564, hx564_0, hx564_1, hx564_2⟩ := at_T51 (Kd.R_reads' HO_10.out).2.2 x15_5 p564 q564
                     cases e564
                     replace p564 := eq_true p564
                     replace q564 := eq_true q564
                     have p565 : 0 ≤ (x15_5 : Int) := of_decide_eq_true (by first | (with_reducible assumption) | assumption)
                     have q565 : x15_5 < (t550.length : Int) := of_decide_eq_true (by first | (with_reducible assumption) | assumption)
                     obtain ⟨ad565, e565, hx565_0, hx565_1, hx565_2⟩ := at_T52 (Kd.R_reads' HO_12.out).2.2 x15_5 p565 q565
                     cases e565
                     replace p565 := eq_true p565
                     replace q565 := eq_true q565
                     go_wp2
                     repeat (go_quiet (fail); try go_wp2)
                     go_ret
                     exact ⟨by first | rfl | (simp [errW_none, errW_some] <;> rfl) | (simp [*, errW_none, errW_some] <;> rfl), by repeat (first | (with_reducible first | exact HB.out | apply below_alloc | apply pw_below_drewN | apply below_drew1) | exact HB.out)⟩
                   ·rw [if_neg c67] at H
                    exact absurd H (by simp)
                  ·rw [if_neg c66] at H
                   exact absurd H (by simp)
                 ·rw [if_neg c65] at H
                  have c65b0 : decide (x15_5 < (t550.length : Int)) = false := decide_eq_false c65
                  clear c65
                  replace H := Option.bind_eq_some_iff.mp H
                  obtain ⟨t566, A710, H⟩ := H
                  replace H : (some t566) = some r := H
                  have A71 := Aside0.mk A710
                  clear A710
                  obtain rfl := Option.some.inj H
                  go_wp2_with (first | (go_at_call 17; (with_reducible refine (sapperlaw14_awake.calls k5  t566 _ A71.out).mono ?_); rintro e w72 ⟨rfl, hb⟩; have n0_ := Aside0.mk (Kd.R_below (by (with_reducible repeat (first | apply Kd.R_alloc | apply Kd.R_drewN | apply Kd.R_drew)); exact HO_10.out) hb); have n1_ := Aside0.mk (Kd.R_below (by (with_reducible repeat (first | apply Kd.R_alloc | apply Kd.R_drewN | apply Kd.R_drew)); exact HO_12.out) hb); have n2_ := Aside0.mk (below_step (by repeat (first | (with_reducible first | exact HB.out | apply below_alloc | apply pw_below_drewN | apply below_drew1) | exact HB.out)) hb); clear HO_10; clear HO_12; clear HB; have HO_10 := n0_; have HO_12 := n1_; have HB := n2_; clear n0_ n1_ n2_; (try clear hb); (try clear hb2); (try clear hk); (try clear hi)))
                  repeat (go_quiet (first | (go_at_call 17; (with_reducible refine (sapperlaw14_awake.calls k5  t566 _ A71.out).mono ?_); rintro e w72 ⟨rfl, hb⟩; have n0_ := Aside0.mk (Kd.R_below (by (with_reducible repeat (first | apply Kd.R_alloc | apply Kd.R_drewN | apply Kd.R_drew)); exact HO_10.out) hb); have n1_ := Aside0.mk (Kd.R_below (by (with_reducible repeat (first | apply Kd.R_alloc | apply Kd.R_drewN | apply Kd.R_drew)); exact HO_12.out) hb); have n2_ := Aside0.mk (below_step (by repeat (first | (with_reducible first | exact HB.out | apply below_alloc | apply pw_below_drewN | apply below_drew1) | exact HB.out)) hb); clear HO_10; clear HO_12; clear HB; have HO_10 := n0_; have HO_12 := n1_; have HB := n2_; clear n0_ n1_ n2_; (try clear hb); (try clear hb2); (try clear hk); (try clear hi))); try go_wp2_with (first | (go_at_call 17; (with_reducible refine (sapperlaw14_awake.calls k5  t566 _ A71.out).mono ?_); rintro e w72 ⟨rfl, hb⟩; have n0_ := Aside0.mk (Kd.R_below (by (with_reducible repeat (first | apply Kd.R_alloc | apply Kd.R_drewN | apply Kd.R_drew)); exact HO_10.out) hb); have n1_ := Aside0.mk (Kd.R_below (by (with_reducible repeat (first | apply Kd.R_alloc | apply Kd.R_drewN | apply Kd.R_drew)); exact HO_12.out) hb); have n2_ := Aside0.mk (below_step (by repeat (first | (with_reducible first | exact HB.out | apply below_alloc | apply pw_below_drewN | apply below_drew1) | exact HB.out)) hb); clear HO_10; clear HO_12; clear HB; have HO_10 := n0_; have HO_12 := n1_; have HB := n2_; clear n0_ n1_ n2_; (try clear hb); (try clear hb2); (try clear hk); (try clear hi))))
                  go_ret
                  exact ⟨by first | rfl | (simp [errW_none, errW_some] <;> rfl) | (simp [*, errW_none, errW_some] <;> rfl), by repeat (first | (with_reducible first | exact HB.out | apply below_alloc | apply pw_below_drewN | apply below_drew1) | exact HB.out)⟩
     ·rw [if_neg c14] at H
      exact absurd H (by simp)
    ·rw [if_neg c13] at H
     exact absurd H (by simp)

/-- THE ONE PURE STATEMENT of sapperlaw14_FindFactors: yours. -/
def sapperlaw14_FindFactors.Pure : Prop := ∀ (l0 : List Int) (l1 : List Int), l0.length ≤ maxLen → l0.length * 1 ≤ 140737488351232 → (∀ x ∈ l0, (Lit.int .u8 x).wf = true) → l1.length ≤ maxLen → l1.length * 1 ≤ 140737488351232 → (∀ x ∈ l1, (Lit.int .u8 x).wf = true) → ∃ k, sapperlaw14_FindFactors.f k l0 l1 = some true
theorem sapperlaw14_FindFactors.walk (P : sapperlaw14_FindFactors.Pure) (a0 : Option Addr) (len0 cap0 : Nat) (z0 : List Int) (a1 : Option Addr) (len1 cap1 : Nat) (z1 : List Int) (w : World) (w0 : (a0 = none ∧ len0 = 0 ∧ cap0 = 0 ∧ z0 = []) ∨ ∃ x, a0 = some x ∧ len0 ≤ cap0 ∧ cap0 ≤ maxLen ∧ z0.length = cap0 ∧ (∀ i, i < z0.length → w.cell? (x.add i) = some (.int .u8 (z0.getD i 0))) ∧ ∀ n ∈ z0, (Lit.int .u8 n).wf = true) (y0 : len0 * 1 ≤ 140737488351232) (w1 : (a1 = none ∧ len1 = 0 ∧ cap1 = 0 ∧ z1 = []) ∨ ∃ x, a1 = some x ∧ len1 ≤ cap1 ∧ cap1 ≤ maxLen ∧ z1.length = cap1 ∧ (∀ i, i < z1.length → w.cell? (x.add i) = some (.int .u8 (z1.getD i 0))) ∧ ∀ n ∈ z1, (Lit.int .u8 n).wf = true) (y1 : len1 * 1 ≤ 140737488351232) :
  Calls Try.prog 10 #[.slice a0 len0 cap0, .slice a1 len1 cap1] w fun e w' => e = .returned (.bool true) ∧ Below w.heap.size w w' := by
 obtain ⟨l0, rfl, hr0, hm0, hw0, hc0⟩ := ReadsInt.ofRowC w0
 obtain ⟨l1, rfl, hr1, hm1, hw1, hc1⟩ := ReadsInt.ofRowC w1
 obtain ⟨k, h⟩ := P l0 l1 hm0 y0 hw0 hm1 y1 hw1
 refine (sapperlaw14_FindFactors.calls k _ _ l0 _ _ l1 true w (Kd.C_of_reads (d := (0 : Int)) (h1 := fun _ => rfl) hr0) hc0 (Kd.C_of_reads (d := (0 : Int)) (h1 := fun _ => rfl) hr1) hc1 h).mono ?_
 rintro e w' ⟨rfl, hd⟩
 exact ⟨rfl, hd⟩

end Go.Proofs.Ytphchkkicpnehaa.X
