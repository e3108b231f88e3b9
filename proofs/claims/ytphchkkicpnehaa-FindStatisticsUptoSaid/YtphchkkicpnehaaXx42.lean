-- Printed by wip/xprint.py of this repo (a wrapper of the session's own round the print).
import Derived.Test.YtphchkkicpnehaaXx0
import Derived.Test.YtphchkkicpnehaaXx14
import Derived.Test.YtphchkkicpnehaaXx23
import Derived.Test.YtphchkkicpnehaaXx24
import Derived.Test.YtphchkkicpnehaaXx28
import Derived.Test.YtphchkkicpnehaaXx37
import Derived.Test.YtphchkkicpnehaaXx40
import Derived.Test.YtphchkkicpnehaaXx41
namespace Go.Proofs.Ytphchkkicpnehaa.X
open Go.RowKit Go.Proofs.YtphchkkicpnehaaW.PrintWords Go.Proofs.YtphchkkicpnehaaW.PrintLast Go.Proofs.YtphchkkicpnehaaW.PrintMore
attribute [local go_sem] ptrOf_eql ptrOf_neq ptrOf_eqg ptrOf_neg str_leq str_geq str_gtr max2_int min2_int max_two min_two max_three min_three max_four min_four   -- for this text's walks alone
set_option linter.unusedVariables false
set_option linter.unusedSimpArgs false

/-! ### sapperlaw14_FindStatistics: function 5 -/
mutual
def sapperlaw14_FindStatistics.j0 : Nat → List Int → List Int → List (S61) → Bool → Bool → Option (Bool)
 | 0, _, _, _, _, _ => none
 | k + 1, x0, x1, x5, x6, x25 => if x25 = true then (if x6 = true then ((sapperlaw14_awake.f k).bind fun t396 => (some t396)) else (some false)) else ((sapperlaw14_lend.f x1).bind fun t397 => (if 0 ≤ (x1.length : Int) then (if (x1.length : Int) ≤ (t397.length : Int) then ((find_Statistics.f k x5 (t397.take ((x1.length : Int) : Int).toNat)).bind fun bt404 => ((find_Statistics.f k x5 (t397.take ((x1.length : Int) : Int).toNat)).bind fun bt412 => ((sapperref14_Statistics.f k x0 x1).bind fun t416 => (if bt404.2 = 0 then (if bt412.2 = 0 then ((sapperlaw14_Same.f k bt404.1 t416).bind fun t419 => (if t419 = true then ((sapperlaw14_Same.f k bt412.1 t416).bind fun t420 => (if t420 = true then ((sapperlaw14_kept.f t397 x1).bind fun t421 => (sapperlaw14_FindStatistics.j1 k bt404.1 bt412.1 t416 (!t421))) else (sapperlaw14_FindStatistics.j1 k bt404.1 bt412.1 t416 true))) else (sapperlaw14_FindStatistics.j1 k bt404.1 bt412.1 t416 true))) else (sapperlaw14_FindStatistics.j1 k bt404.1 bt412.1 t416 true)) else (sapperlaw14_FindStatistics.j1 k bt404.1 bt412.1 t416 true))))) else (none)) else (none)))
def sapperlaw14_FindStatistics.j1 : Nat → List Int → List Int → List Int → Bool → Option (Bool)
 | 0, _, _, _, _ => none
 | k + 1, x8, x10, x12, x76 => if x76 = true then (some false) else (sapperlaw14_FindStatistics.l0 k x8 x10 x12 0)
def sapperlaw14_FindStatistics.l0 : Nat → List Int → List Int → List Int → Int → Option (Bool)
 | 0, _, _, _, _ => none
 | k + 1, x8, x10, x12, x13 => if x13 < (x8.length : Int) then (if 0 ≤ x13 then (sapperlaw14_FindStatistics.l0 k (x8.set (x13 : Int).toNat 81) x10 x12 (wrap64 (x13 + 1))) else (none)) else (sapperlaw14_FindStatistics.l1 k x8 x10 x12 0)
def sapperlaw14_FindStatistics.l1 : Nat → List Int → List Int → List Int → Int → Option (Bool)
 | 0, _, _, _, _ => none
 | k + 1, x8, x10, x12, x14 => if x14 < 40 then (if x8.length < 17592186044416 then (sapperlaw14_FindStatistics.l1 k (x8 ++ [82]) x10 x12 (wrap64 (x14 + 1))) else (none)) else ((sapperlaw14_Same.f k x10 x12).bind fun t426 => (if t426 = true then ((sapperlaw14_awake.f k).bind fun t427 => (some t427)) else (some false)))
end
def sapperlaw14_FindStatistics.f (k : Nat) (l0 : List Int) (l1 : List Int) : Option (Bool) := (sapperlaw14_index.f k l0).bind fun bt392 => (if bt392.2 = true then (sapperlaw14_FindStatistics.j0 k l0 l1 bt392.1 bt392.2 ((bt392.1.length : Int) == 0)) else (sapperlaw14_FindStatistics.j0 k l0 l1 bt392.1 bt392.2 true))
theorem sapperlaw14_FindStatistics.mono_l : ∀ k, (∀ y0 y1 y2 y3 y4, LeO (sapperlaw14_FindStatistics.j0 k y0 y1 y2 y3 y4) (sapperlaw14_FindStatistics.j0 (k + 1) y0 y1 y2 y3 y4)) ∧ (∀ y0 y1 y2 y3, LeO (sapperlaw14_FindStatistics.j1 k y0 y1 y2 y3) (sapperlaw14_FindStatistics.j1 (k + 1) y0 y1 y2 y3)) ∧ (∀ y0 y1 y2 y3, LeO (sapperlaw14_FindStatistics.l0 k y0 y1 y2 y3) (sapperlaw14_FindStatistics.l0 (k + 1) y0 y1 y2 y3)) ∧ (∀ y0 y1 y2 y3, LeO (sapperlaw14_FindStatistics.l1 k y0 y1 y2 y3) (sapperlaw14_FindStatistics.l1 (k + 1) y0 y1 y2 y3))
 | 0 => ⟨fun _ _ _ _ _ r h => by simp [sapperlaw14_FindStatistics.j0] at h, fun _ _ _ _ r h => by simp [sapperlaw14_FindStatistics.j1] at h, fun _ _ _ _ r h => by simp [sapperlaw14_FindStatistics.l0] at h, fun _ _ _ _ r h => by simp [sapperlaw14_FindStatistics.l1] at h⟩
 | k + 1 => by
  obtain ⟨ih0, ih1, ih2, ih3⟩ := sapperlaw14_FindStatistics.mono_l k
  refine ⟨?_, ?_, ?_, ?_⟩
  ·intro y0 y1 y2 y3 y4
   unfold sapperlaw14_FindStatistics.j0
   repeat' first
   | (with_reducible exact ih0 _ _ _ _ _)
   | (with_reducible exact ih1 _ _ _ _)
   | (with_reducible exact ih2 _ _ _ _)
   | (with_reducible exact ih3 _ _ _ _)
   | (with_reducible exact find_Statistics.mono _ _ _)
   | (with_reducible exact sapperlaw14_Same.mono _ _ _)
   | (with_reducible exact sapperlaw14_awake.mono _)
   | (with_reducible exact sapperlaw14_index.mono _ _)
   | (with_reducible exact sapperref14_Statistics.mono _ _ _)
   | (with_reducible exact LeO.refl _)
   | (with_reducible exact LeO.none _)
   | (with_reducible refine LeO.ite ?_ ?_)
   | (with_reducible refine LeO.bind ?_ (fun _ => ?_))
   | exact ih0 _ _ _ _ _
   | exact ih1 _ _ _ _
   | exact ih2 _ _ _ _
   | exact ih3 _ _ _ _
   | exact find_Statistics.mono _ _ _
   | exact sapperlaw14_Same.mono _ _ _
   | exact sapperlaw14_awake.mono _
   | exact sapperlaw14_index.mono _ _
   | exact sapperref14_Statistics.mono _ _ _
   | exact LeO.none _
   | refine LeO.ite ?_ ?_
   | refine LeO.bind ?_ (fun _ => ?_)
  ·intro y0 y1 y2 y3
   unfold sapperlaw14_FindStatistics.j1
   repeat' first
   | (with_reducible exact ih0 _ _ _ _ _)
   | (with_reducible exact ih1 _ _ _ _)
   | (with_reducible exact ih2 _ _ _ _)
   | (with_reducible exact ih3 _ _ _ _)
   | (with_reducible exact find_Statistics.mono _ _ _)
   | (with_reducible exact sapperlaw14_Same.mono _ _ _)
   | (with_reducible exact sapperlaw14_awake.mono _)
   | (with_reducible exact sapperlaw14_index.mono _ _)
   | (with_reducible exact sapperref14_Statistics.mono _ _ _)
   | (with_reducible exact LeO.refl _)
   | (with_reducible exact LeO.none _)
   | (with_reducible refine LeO.ite ?_ ?_)
   | (with_reducible refine LeO.bind ?_ (fun _ => ?_))
   | exact ih0 _ _ _ _ _
   | exact ih1 _ _ _ _
   | exact ih2 _ _ _ _
   | exact ih3 _ _ _ _
   | exact find_Statistics.mono _ _ _
   | exact sapperlaw14_Same.mono _ _ _
   | exact sapperlaw14_awake.mono _
   | exact sapperlaw14_index.mono _ _
   | exact sapperref14_Statistics.mono _ _ _
   | exact LeO.none _
   | refine LeO.ite ?_ ?_
   | refine LeO.bind ?_ (fun _ => ?_)
  ·intro y0 y1 y2 y3
   unfold sapperlaw14_FindStatistics.l0
   repeat' first
   | (with_reducible exact ih0 _ _ _ _ _)
   | (with_reducible exact ih1 _ _ _ _)
   | (with_reducible exact ih2 _ _ _ _)
   | (with_reducible exact ih3 _ _ _ _)
   | (with_reducible exact find_Statistics.mono _ _ _)
   | (with_reducible exact sapperlaw14_Same.mono _ _ _)
   | (with_reducible exact sapperlaw14_awake.mono _)
   | (with_reducible exact sapperlaw14_index.mono _ _)
   | (with_reducible exact sapperref14_Statistics.mono _ _ _)
   | (with_reducible exact LeO.refl _)
   | (with_reducible exact LeO.none _)
   | (with_reducible refine LeO.ite ?_ ?_)
   | (with_reducible refine LeO.bind ?_ (fun _ => ?_))
   | exact ih0 _ _ _ _ _
   | exact ih1 _ _ _ _
   | exact ih2 _ _ _ _
   | exact ih3 _ _ _ _
   | exact find_Statistics.mono _ _ _
   | exact sapperlaw14_Same.mono _ _ _
   | exact sapperlaw14_awake.mono _
   | exact sapperlaw14_index.mono _ _
   | exact sapperref14_Statistics.mono _ _ _
   | exact LeO.none _
   | refine LeO.ite ?_ ?_
   | refine LeO.bind ?_ (fun _ => ?_)
  ·intro y0 y1 y2 y3
   unfold sapperlaw14_FindStatistics.l1
   repeat' first
   | (with_reducible exact ih0 _ _ _ _ _)
   | (with_reducible exact ih1 _ _ _ _)
   | (with_reducible exact ih2 _ _ _ _)
   | (with_reducible exact ih3 _ _ _ _)
   | (with_reducible exact find_Statistics.mono _ _ _)
   | (with_reducible exact sapperlaw14_Same.mono _ _ _)
   | (with_reducible exact sapperlaw14_awake.mono _)
   | (with_reducible exact sapperlaw14_index.mono _ _)
   | (with_reducible exact sapperref14_Statistics.mono _ _ _)
   | (with_reducible exact LeO.refl _)
   | (with_reducible exact LeO.none _)
   | (with_reducible refine LeO.ite ?_ ?_)
   | (with_reducible refine LeO.bind ?_ (fun _ => ?_))
   | exact ih0 _ _ _ _ _
   | exact ih1 _ _ _ _
   | exact ih2 _ _ _ _
   | exact ih3 _ _ _ _
   | exact find_Statistics.mono _ _ _
   | exact sapperlaw14_Same.mono _ _ _
   | exact sapperlaw14_awake.mono _
   | exact sapperlaw14_index.mono _ _
   | exact sapperref14_Statistics.mono _ _ _
   | exact LeO.none _
   | refine LeO.ite ?_ ?_
   | refine LeO.bind ?_ (fun _ => ?_)
theorem sapperlaw14_FindStatistics.mono : ∀ a0 a1 k, LeO (sapperlaw14_FindStatistics.f k a0 a1) (sapperlaw14_FindStatistics.f (k + 1) a0 a1) := by
 intro a0 a1 k
 obtain ⟨ih0, ih1, ih2, ih3⟩ := sapperlaw14_FindStatistics.mono_l k
 unfold sapperlaw14_FindStatistics.f
 repeat' first
   | (with_reducible exact ih0 _ _ _ _ _)
   | (with_reducible exact ih1 _ _ _ _)
   | (with_reducible exact ih2 _ _ _ _)
   | (with_reducible exact ih3 _ _ _ _)
   | (with_reducible exact find_Statistics.mono _ _ _)
   | (with_reducible exact sapperlaw14_Same.mono _ _ _)
   | (with_reducible exact sapperlaw14_awake.mono _)
   | (with_reducible exact sapperlaw14_index.mono _ _)
   | (with_reducible exact sapperref14_Statistics.mono _ _ _)
   | (with_reducible exact LeO.refl _)
   | (with_reducible exact LeO.none _)
   | (with_reducible refine LeO.ite ?_ ?_)
   | (with_reducible refine LeO.bind ?_ (fun _ => ?_))
   | exact ih0 _ _ _ _ _
   | exact ih1 _ _ _ _
   | exact ih2 _ _ _ _
   | exact ih3 _ _ _ _
   | exact find_Statistics.mono _ _ _
   | exact sapperlaw14_Same.mono _ _ _
   | exact sapperlaw14_awake.mono _
   | exact sapperlaw14_index.mono _ _
   | exact sapperref14_Statistics.mono _ _ _
   | exact LeO.none _
   | refine LeO.ite ?_ ?_
   | refine LeO.bind ?_ (fun _ => ?_)
set_option maxHeartbeats 8000000 in
set_option maxRecDepth 100000 in
theorem sapperlaw14_FindStatistics.calls (k : Nat) (A0 : Option Addr) (c0 : Nat) (l0 : List Int) (A1 : Option Addr) (c1 : Nat) (l1 : List Int) (r : Bool) (w : World) (hr0 : Kd.C (Kd.int .u8) w A0 l0.length l0) (hc0 : l0.length ≤ c0) (hr1 : Kd.C (Kd.int .u8) w A1 l1.length l1) (hc1 : l1.length ≤ c1) (h : sapperlaw14_FindStatistics.f k l0 l1 = some r) :
  Calls Try.prog 5 #[.slice A0 l0.length c0, .slice A1 l1.length c1] w fun e w' => e = .returned (.bool r) ∧ Below w.heap.size w w' := by
 have HR0 := Aside0.mk hr0
 have HC0 := Aside0.mk hc0
 clear hr0 hc0
 have HR1 := Aside0.mk hr1
 have HC1 := Aside0.mk hc1
 clear hr1 hc1
 have HB := Aside0.mk (Below.refl w.heap.size w)
 have H : ((sapperlaw14_index.f k l0).bind fun bt392 => (if bt392.2 = true then (sapperlaw14_FindStatistics.j0 k l0 l1 bt392.1 bt392.2 ((bt392.1.length : Int) == 0)) else (sapperlaw14_FindStatistics.j0 k l0 l1 bt392.1 bt392.2 true))) = some r := h
 clear h
 replace H := Option.bind_eq_some_iff.mp H
 obtain ⟨⟨t392, t393⟩, A30, H⟩ := H
 replace H : (if t393 = true then (sapperlaw14_FindStatistics.j0 k l0 l1 t392 t393 ((t392.length : Int) == 0)) else (sapperlaw14_FindStatistics.j0 k l0 l1 t392 t393 true)) = some r := H
 have A3 := Aside0.mk A30
 clear A30
 have HC4 := Aside0.mk H
 clear H
 go_enter Try.func5, Try.ntmps5
 go_upto_region 2 with (first | ((with_reducible refine gate_callee (f := 16) rfl ?_); refine goesL_ (some 17) rfl rfl Try.func16 (by kernel_rfl) rfl #[.slice A0 l0.length c0] rfl (by (try simp only [List.map_toArray, List.map_cons, List.map_nil]); first | done | rfl | (simp only [List.length_drop, List.length_take]; rfl)) ?_; (with_reducible refine (sapperlaw14_index.calls k _ _ l0 t392 t393 _ ?side1 ?side2 A3.out).mono ?_); (case side1 => repeat (first | exact HR0.out | (with_reducible refine Kd.C_alloc ?_ _) | (with_reducible refine Kd.C_drewN ?_ _) | (with_reducible refine Kd.C_drew ?_))); (case side2 => exact HC0.out); rintro e w5 ⟨v394, rfl, ho0, hb⟩; refine ⟨_, rfl, ?_⟩; have n0_ := Aside0.mk (Kd.S_lower ho0 (below_size (by repeat (first | (with_reducible first | exact HB.out | apply below_alloc | apply pw_below_drewN | apply below_drew1) | exact HB.out)))); have n1_ := Aside0.mk (below_step (by repeat (first | (with_reducible first | exact HB.out | apply below_alloc | apply pw_below_drewN | apply below_drew1) | exact HB.out)) hb); clear HB; have HO395 := n0_; have HB := n1_; clear n0_ n1_; (try clear hb); (try clear hb2); (try clear hk); (try clear hi); (try clear ho0)))
 (try simp only [Act.put, List.setIfInBounds_toArray, List.set_cons_zero, List.set_cons_succ])
 go_cut [25] (fun v25 wc => ∃ (kq : Nat) (x25_3 : Bool), v25 = .bool x25_3 ∧ Aside0 (sapperlaw14_FindStatistics.j0 kq l0 l1 t392 t393 x25_3 = some r) ∧ Aside0 (kq ≤ k) ∧ Aside0 (Kd.S k61 61 wc w.heap.size (fun _ => True) v394 t392) ∧ Aside0 (Below w.heap.size w wc))
 case first =>
  have H := HC4.out
  clear HC4
  by_cases c6 : t393 = true
  ·subst c6
   have H1 : (sapperlaw14_FindStatistics.j0 k l0 l1 t392 true ((t392.length : Int) == 0)) = some r := by rw [if_pos rfl] at H; exact H
   clear H
   have H := H1
   clear H1
   have H' := Aside0.mk H
   clear H
   obtain ⟨Ao7, co7, eo7⟩ := Kd.S_slice HO395.out
   subst eo7
   go_wp2
   go_meet
   case rel => exact ⟨_, (((t392.length : Int) == 0)), (by first | rfl | (simp; done) | (simp [*]; done)), H', ⟨by first | omega | exact Nat.le_refl _⟩, ⟨by (with_reducible repeat (first | apply Kd.S_alloc | apply Kd.S_drewN | apply Kd.S_drew)); exact HO395.out⟩, ⟨by repeat (first | (with_reducible first | exact HB.out | apply below_alloc | apply pw_below_drewN | apply below_drew1) | exact HB.out)⟩⟩
  ·replace c6 := Bool.eq_false_iff.mpr c6
   subst c6
   have H1 : (sapperlaw14_FindStatistics.j0 k l0 l1 t392 false true) = some r := by rw [if_neg (show ¬ (false = true) by decide)] at H; exact H
   clear H
   have H := H1
   clear H1
   have H' := Aside0.mk H
   clear H
   go_wp2
   go_meet
   case rel => exact ⟨_, (true), (by first | rfl | (simp; done) | (simp [*]; done)), H', ⟨by first | omega | exact Nat.le_refl _⟩, ⟨by (with_reducible repeat (first | apply Kd.S_alloc | apply Kd.S_drewN | apply Kd.S_drew)); exact HO395.out⟩, ⟨by repeat (first | (with_reducible first | exact HB.out | apply below_alloc | apply pw_below_drewN | apply below_drew1) | exact HB.out)⟩⟩
 case rest =>
  clear HC4
  try clear c1
  try clear p2
  try clear c5
  try clear c6
  obtain ⟨kq, x25_3, rfl, HA, HJ3, HO_5, HB⟩ := hcut
  cases kq with
  | zero => exact absurd HA.out (by simp [sapperlaw14_FindStatistics.j0])
  | succ kj3 =>
   have H := HA.out
   clear HA
   simp only [sapperlaw14_FindStatistics.j0] at H
   by_cases c8 : x25_3 = true
   ·subst c8
    have H1 : (if t393 = true then ((sapperlaw14_awake.f kj3).bind fun t396 => (some t396)) else (some false)) = some r := by rw [if_pos rfl] at H; exact H
    clear H
    have H := H1
    clear H1
    by_cases c9 : t393 = true
    ·subst c9
     have H1 : ((sapperlaw14_awake.f kj3).bind fun t396 => (some t396)) = some r := by rw [if_pos rfl] at H; exact H
     clear H
     have H := H1
     clear H1
     replace H := Option.bind_eq_some_iff.mp H
     obtain ⟨t396, A100, H⟩ := H
     replace H : (some t396) = some r := H
     have A10 := Aside0.mk A100
     clear A100
     obtain rfl := Option.some.inj H
     go_wp2_with (first | (go_at_call 17; (with_reducible refine (sapperlaw14_awake.calls kj3  t396 _ A10.out).mono ?_); rintro e w11 ⟨rfl, hb⟩; have n0_ := Aside0.mk (Kd.S_below (by (with_reducible repeat (first | apply Kd.S_alloc | apply Kd.S_drewN | apply Kd.S_drew)); exact HO_5.out) hb); have n1_ := Aside0.mk (below_step (by repeat (first | (with_reducible first | exact HB.out | apply below_alloc | apply pw_below_drewN | apply below_drew1) | exact HB.out)) hb); clear HO_5; clear HB; have HO_5 := n0_; have HB := n1_; clear n0_ n1_; (try clear hb); (try clear hb2); (try clear hk); (try clear hi)))
     go_ret
     exact ⟨by first | rfl | (simp [errW_none, errW_some] <;> rfl) | (simp [*, errW_none, errW_some] <;> rfl), by repeat (first | (with_reducible first | exact HB.out | apply below_alloc | apply pw_below_drewN | apply below_drew1) | exact HB.out)⟩
    ·replace c9 := Bool.eq_false_iff.mpr c9
     subst c9
     have H1 : (some false) = some r := by rw [if_neg (show ¬ (false = true) by decide)] at H; exact H
     clear H
     have H := H1
     clear H1
     obtain rfl := Option.some.inj H
     go_wp2
     go_ret
     exact ⟨by first | rfl | (simp [errW_none, errW_some] <;> rfl) | (simp [*, errW_none, errW_some] <;> rfl), by repeat (first | (with_reducible first | exact HB.out | apply below_alloc | apply pw_below_drewN | apply below_drew1) | exact HB.out)⟩
   ·replace c8 := Bool.eq_false_iff.mpr c8
    subst c8
    have H1 : ((sapperlaw14_lend.f l1).bind fun t397 => (if 0 ≤ (l1.length : Int) then (if (l1.length : Int) ≤ (t397.length : Int) then ((find_Statistics.f kj3 t392 (t397.take ((l1.length : Int) : Int).toNat)).bind fun bt404 => ((find_Statistics.f kj3 t392 (t397.take ((l1.length : Int) : Int).toNat)).bind fun bt412 => ((sapperref14_Statistics.f kj3 l0 l1).bind fun t416 => (if bt404.2 = 0 then (if bt412.2 = 0 then ((sapperlaw14_Same.f kj3 bt404.1 t416).bind fun t419 => (if t419 = true then ((sapperlaw14_Same.f kj3 bt412.1 t416).bind fun t420 => (if t420 = true then ((sapperlaw14_kept.f t397 l1).bind fun t421 => (sapperlaw14_FindStatistics.j1 kj3 bt404.1 bt412.1 t416 (!t421))) else (sapperlaw14_FindStatistics.j1 kj3 bt404.1 bt412.1 t416 true))) else (sapperlaw14_FindStatistics.j1 kj3 bt404.1 bt412.1 t416 true))) else (sapperlaw14_FindStatistics.j1 kj3 bt404.1 bt412.1 t416 true)) else (sapperlaw14_FindStatistics.j1 kj3 bt404.1 bt412.1 t416 true))))) else (none)) else (none))) = some r := by rw [if_neg (show ¬ (false = true) by decide)] at H; exact H
    clear H
    have H := H1
    clear H1
    replace H := Option.bind_eq_some_iff.mp H
    obtain ⟨t397, A120, H⟩ := H
    replace H : (if 0 ≤ (l1.length : Int) then (if (l1.length : Int) ≤ (t397.length : Int) then ((find_Statistics.f kj3 t392 (t397.take ((l1.length : Int) : Int).toNat)).bind fun bt404 => ((find_Statistics.f kj3 t392 (t397.take ((l1.length : Int) : Int).toNat)).bind fun bt412 => ((sapperref14_Statistics.f kj3 l0 l1).bind fun t416 => (if bt404.2 = 0 then (if bt412.2 = 0 then ((sapperlaw14_Same.f kj3 bt404.1 t416).bind fun t419 => (if t419 = true then ((sapperlaw14_Same.f kj3 bt412.1 t416).bind fun t420 => (if t420 = true then ((sapperlaw14_kept.f t397 l1).bind fun t421 => (sapperlaw14_FindStatistics.j1 kj3 bt404.1 bt412.1 t416 (!t421))) else (sapperlaw14_FindStatistics.j1 kj3 bt404.1 bt412.1 t416 true))) else (sapperlaw14_FindStatistics.j1 kj3 bt404.1 bt412.1 t416 true))) else (sapperlaw14_FindStatistics.j1 kj3 bt404.1 bt412.1 t416 true)) else (sapperlaw14_FindStatistics.j1 kj3 bt404.1 bt412.1 t416 true))))) else (none)) else (none)) = some r := H
    have A12 := Aside0.mk A120
    clear A120
    by_cases c13 : 0 ≤ (l1.length : Int)
    ·rw [if_pos c13] at H
     have c13b0 := eq_true c13
     have c13b1 : decide (0 ≤ (l1.length : Int)) = true := decide_eq_true c13
     clear c13
     by_cases c14 : (l1.length : Int) ≤ (t397.length : Int)
     ·rw [if_pos c14] at H
      have c14b0 := eq_true c14
      have c14b1 : decide ((l1.length : Int) ≤ (t397.length : Int)) = true := decide_eq_true c14
      clear c14
      obtain ⟨y400, hy400⟩ : ∃ y_ : List Int, y_ = (t397.take ((l1.length : Int) : Int).toNat) := ⟨_, rfl⟩
      replace H : ((find_Statistics.f kj3 t392 y400).bind fun bt404 => ((find_Statistics.f kj3 t392 (t397.take ((l1.length : Int) : Int).toNat)).bind fun bt412 => ((sapperref14_Statistics.f kj3 l0 l1).bind fun t416 => (if bt404.2 = 0 then (if bt412.2 = 0 then ((sapperlaw14_Same.f kj3 bt404.1 t416).bind fun t419 => (if t419 = true then ((sapperlaw14_Same.f kj3 bt412.1 t416).bind fun t420 => (if t420 = true then ((sapperlaw14_kept.f t397 l1).bind fun t421 => (sapperlaw14_FindStatistics.j1 kj3 bt404.1 bt412.1 t416 (!t421))) else (sapperlaw14_FindStatistics.j1 kj3 bt404.1 bt412.1 t416 true))) else (sapperlaw14_FindStatistics.j1 kj3 bt404.1 bt412.1 t416 true))) else (sapperlaw14_FindStatistics.j1 kj3 bt404.1 bt412.1 t416 true)) else (sapperlaw14_FindStatistics.j1 kj3 bt404.1 bt412.1 t416 true))))) = some r := by first | (rw [hy400]; with_reducible exact H) | (have H2_ := (Option.bind_some _ _).symm.trans H; rw [hy400]; with_reducible exact H2_) | (have H2_ := (Option.bind_some _ _).symm.trans H; with_reducible exact H2_) | with_reducible exact H | (rw [hy400]; exact H) | exact H
      have Ny400 := Aside0.mk hy400
      clear hy400
      replace H := Option.bind_eq_some_iff.mp H
      obtain ⟨⟨t404, t405⟩, A150, H⟩ := H
      replace H : ((find_Statistics.f kj3 t392 (t397.take ((l1.length : Int) : Int).toNat)).bind fun bt412 => ((sapperref14_Statistics.f kj3 l0 l1).bind fun t416 => (if t405 = 0 then (if bt412.2 = 0 then ((sapperlaw14_Same.f kj3 t404 t416).bind fun t419 => (if t419 = true then ((sapperlaw14_Same.f kj3 bt412.1 t416).bind fun t420 => (if t420 = true then ((sapperlaw14_kept.f t397 l1).bind fun t421 => (sapperlaw14_FindStatistics.j1 kj3 t404 bt412.1 t416 (!t421))) else (sapperlaw14_FindStatistics.j1 kj3 t404 bt412.1 t416 true))) else (sapperlaw14_FindStatistics.j1 kj3 t404 bt412.1 t416 true))) else (sapperlaw14_FindStatistics.j1 kj3 t404 bt412.1 t416 true)) else (sapperlaw14_FindStatistics.j1 kj3 t404 bt412.1 t416 true)))) = some r := H
      have A15 := Aside0.mk A150
      clear A150
      have c16b0 := eq_true (of_decide_eq_true (by first | (with_reducible assumption) | assumption) : 0 ≤ (l1.length : Int))
      have c17b0 := eq_true (of_decide_eq_true (by first | (with_reducible assumption) | assumption) : (l1.length : Int) ≤ (t397.length : Int))
      rw [← Ny400.out] at H
      replace H : ((find_Statistics.f kj3 t392 y400).bind fun bt412 => ((sapperref14_Statistics.f kj3 l0 l1).bind fun t416 => (if t405 = 0 then (if bt412.2 = 0 then ((sapperlaw14_Same.f kj3 t404 t416).bind fun t419 => (if t419 = true then ((sapperlaw14_Same.f kj3 bt412.1 t416).bind fun t420 => (if t420 = true then ((sapperlaw14_kept.f t397 l1).bind fun t421 => (sapperlaw14_FindStatistics.j1 kj3 t404 bt412.1 t416 (!t421))) else (sapperlaw14_FindStatistics.j1 kj3 t404 bt412.1 t416 true))) else (sapperlaw14_FindStatistics.j1 kj3 t404 bt412.1 t416 true))) else (sapperlaw14_FindStatistics.j1 kj3 t404 bt412.1 t416 true)) else (sapperlaw14_FindStatistics.j1 kj3 t404 bt412.1 t416 true)))) = some r := by first | (rw [hy408]; with_reducible exact H) | (have H2_ := (Option.bind_some _ _).symm.trans H; rw [hy408]; with_reducible exact H2_) | (have H2_ := (Option.bind_some _ _).symm.trans H; with_reducible exact H2_) | with_reducible exact H | (rw [hy408]; exact H) | exact H
      replace H := Option.bind_eq_some_iff.mp H
      obtain ⟨⟨t412, t413⟩, A180, H⟩ := H
      replace H : ((sapperref14_Statistics.f kj3 l0 l1).bind fun t416 => (if t405 = 0 then (if t413 = 0 then ((sapperlaw14_Same.f kj3 t404 t416).bind fun t419 => (if t419 = true then ((sapperlaw14_Same.f kj3 t412 t416).bind fun t420 => (if t420 = true then ((sapperlaw14_kept.f t397 l1).bind fun t421 => (sapperlaw14_FindStatistics.j1 kj3 t404 t412 t416 (!t421))) else (sapperlaw14_FindStatistics.j1 kj3 t404 t412 t416 true))) else (sapperlaw14_FindStatistics.j1 kj3 t404 t412 t416 true))) else (sapperlaw14_FindStatistics.j1 kj3 t404 t412 t416 true)) else (sapperlaw14_FindStatistics.j1 kj3 t404 t412 t416 true))) = some r := H
      have A18 := Aside0.mk A180
      clear A180
      replace H := Option.bind_eq_some_iff.mp H
      obtain ⟨t416, A190, H⟩ := H
      replace H : (if t405 = 0 then (if t413 = 0 then ((sapperlaw14_Same.f kj3 t404 t416).bind fun t419 => (if t419 = true then ((sapperlaw14_Same.f kj3 t412 t416).bind fun t420 => (if t420 = true then ((sapperlaw14_kept.f t397 l1).bind fun t421 => (sapperlaw14_FindStatistics.j1 kj3 t404 t412 t416 (!t421))) else (sapperlaw14_FindStatistics.j1 kj3 t404 t412 t416 true))) else (sapperlaw14_FindStatistics.j1 kj3 t404 t412 t416 true))) else (sapperlaw14_FindStatistics.j1 kj3 t404 t412 t416 true)) else (sapperlaw14_FindStatistics.j1 kj3 t404 t412 t416 true)) = some r := H
      have A19 := Aside0.mk A190
      clear A190
      have HC20 := Aside0.mk H
      clear H
      go_upto_region 8 with (first | ((with_reducible refine gate_callee (f := 18) rfl ?_); refine goesL_ (some 31) rfl rfl Try.func18 (by kernel_rfl) rfl #[.slice A1 l1.length c1] rfl (by (try simp only [List.map_toArray, List.map_cons, List.map_nil]); first | done | rfl | (simp only [List.length_drop, List.length_take]; rfl)) ?_; (with_reducible refine (sapperlaw14_lend.calls _ _ l1 t397 _ ?side1 ?side2 A12.out).mono ?_); (case side1 => repeat (first | exact (Kd.C_below HR1.out HB.out) | (with_reducible refine Kd.C_alloc ?_ _) | (with_reducible refine Kd.C_drewN ?_ _) | (with_reducible refine Kd.C_drew ?_))); (case side2 => exact HC1.out); rintro e w21 ⟨v398, rfl, ho0, hb⟩; refine ⟨_, rfl, ?_⟩; have n0_ := Aside0.mk (Kd.S_elder' (by (with_reducible repeat (first | apply Kd.S_alloc | apply Kd.S_drewN | apply Kd.S_drew)); exact HO_5.out) (Kd.R_base ho0) hb); have n1_ := Aside0.mk (Kd.R_lower ho0 (below_size (by repeat (first | (with_reducible first | exact HB.out | apply below_alloc | apply pw_below_drewN | apply below_drew1) | exact HB.out)))); have n2_ := Aside0.mk (below_step (by repeat (first | (with_reducible first | exact HB.out | apply below_alloc | apply pw_below_drewN | apply below_drew1) | exact HB.out)) hb); clear HO_5; clear HB; have HO_5 := n0_; have HO399 := n1_; have HB := n2_; clear n0_ n1_ n2_; (try clear hb); (try clear hb2); (try clear hk); (try clear hi); (try clear ho0); obtain ⟨Ao23, co23, eo23⟩ := Kd.R_slice HO399.out; subst eo23; have q22 : ((l1.length : Int) : Int) ≤ ((t397.length : Int) : Int) := of_decide_eq_true (by first | (with_reducible assumption) | assumption); obtain ⟨i022, hi022, _, hsz22, _⟩ := info_parts info5; have hroom22 : t397.length ≤ co23 := (Kd.R_reads' HO399.out).2.1; have hC22 : Kd.C (Kd.int .u8) _ Ao23 t397.length t397 := (Kd.R_reads' HO399.out).2.2; have hcut22 := cut_to (P := Try.prog) 22 5 .i64 Try.underlying22 hi022 Ao23 t397.length co23 (l1.length : Int) (of_decide_eq_true (by first | (with_reducible assumption) | assumption)) q22 hroom22; have hr22 := Kd.C_take (m := ((l1.length : Int) : Int).toNat) hC22 (by omega); have hy22 : y400.length = ((l1.length : Int) : Int).toNat := (by rw [Ny400.out, List.length_take]; omega); rw [← Ny400.out] at hr22; rw [← hy22] at hcut22; have HR403 := Aside0.mk hr22; have HC403 := Aside0.mk (show y400.length ≤ co23 from by omega); clear hr22 hC22 hroom22 hi022 hsz22; have KY22 := Aside0.mk hy22; clear hy22; have KL22 := Aside0.mk (show ((l1.length : Int) : Int).toNat ≤ t397.length from by omega); replace q22 := eq_true q22; obtain ⟨Ao24, co24, eo24⟩ := Kd.S_slice HO_5.out; subst eo24) | ((with_reducible refine gate_callee (f := 24) rfl ?_); refine goesL_ (some 38) rfl rfl Try.func24 (by kernel_rfl) rfl #[ptrOf (.slice Ao24 t392.length co24), .slice Ao23 y400.length co23] rfl (by (try simp only [List.map_toArray, List.map_cons, List.map_nil]); first | done | rfl | (simp only [List.length_drop, List.length_take]; rfl)) ?_; (with_reducible refine (find_Statistics.calls kj3 _ _ t392 _ _ y400 t404 t405 _ ?side1 ?side2 ?side3 ?side4 A15.out).mono ?_); (case side1 => repeat (first | exact (Kd.S_reads' HO_5.out).2.2 | (with_reducible refine Kd.C_alloc ?_ _) | (with_reducible refine Kd.C_drewN ?_ _) | (with_reducible refine Kd.C_drew ?_))); (case side2 => exact (Kd.S_reads' HO_5.out).2.1); (case side3 => repeat (first | exact (by repeat (first | (with_reducible exact HR403.out) | (with_reducible refine Kd.C_alloc ?_ _) | (with_reducible refine Kd.C_drewN ?_ _) | (with_reducible refine Kd.C_drew ?_) | exact HR403.out)) | (with_reducible refine Kd.C_alloc ?_ _) | (with_reducible refine Kd.C_drewN ?_ _) | (with_reducible refine Kd.C_drew ?_))); (case side4 => exact HC403.out); rintro e w25 ⟨v406, rfl, ho0, hb⟩; refine ⟨_, rfl, ?_⟩; have n0_ := Aside0.mk (Kd.S_elder' (by (with_reducible repeat (first | apply Kd.S_alloc | apply Kd.S_drewN | apply Kd.S_drew)); exact HO_5.out) (Kd.R_base ho0) hb); have n1_ := Aside0.mk (Kd.R_below (by (with_reducible repeat (first | apply Kd.R_alloc | apply Kd.R_drewN | apply Kd.R_drew)); exact HO399.out) hb); have n2_ := Aside0.mk (Kd.R_lower ho0 (below_size (by repeat (first | (with_reducible first | exact HB.out | apply below_alloc | apply pw_below_drewN | apply below_drew1) | exact HB.out)))); have n3_ := Aside0.mk (Kd.C_below (by repeat (first | (with_reducible exact HR403.out) | (with_reducible refine Kd.C_alloc ?_ _) | (with_reducible refine Kd.C_drewN ?_ _) | (with_reducible refine Kd.C_drew ?_) | exact HR403.out)) hb); have n4_ := Aside0.mk (below_step (by repeat (first | (with_reducible first | exact HB.out | apply below_alloc | apply pw_below_drewN | apply below_drew1) | exact HB.out)) hb); clear HO_5; clear HO399; clear HR403; clear HB; have HO_5 := n0_; have HO399 := n1_; have HO407 := n2_; have HR403 := n3_; have HB := n4_; clear n0_ n1_ n2_ n3_ n4_; (try clear hb); (try clear hb2); (try clear hk); (try clear hi); (try clear ho0); have q26 : ((l1.length : Int) : Int) ≤ ((t397.length : Int) : Int) := of_decide_eq_true (by first | (with_reducible assumption) | assumption); obtain ⟨i026, hi026, _, hsz26, _⟩ := info_parts info5; have hroom26 : t397.length ≤ co23 := (Kd.R_reads' HO399.out).2.1; have hC26 : Kd.C (Kd.int .u8) _ Ao23 t397.length t397 := (Kd.R_reads' HO399.out).2.2; have hcut26 := cut_to (P := Try.prog) 22 5 .i64 Try.underlying22 hi026 Ao23 t397.length co23 (l1.length : Int) (of_decide_eq_true (by first | (with_reducible assumption) | assumption)) q26 hroom26; have hr26 := Kd.C_take (m := ((l1.length : Int) : Int).toNat) hC26 (by omega); have hy26 : y400.length = ((l1.length : Int) : Int).toNat := (by rw [Ny400.out, List.length_take]; omega); rw [← Ny400.out] at hr26; rw [← hy26] at hcut26; have HR411 := Aside0.mk hr26; have HC411 := Aside0.mk (show y400.length ≤ co23 from by omega); clear hr26 hC26 hroom26 hi026 hsz26; have KY26 := Aside0.mk hy26; clear hy26; have KL26 := Aside0.mk (show ((l1.length : Int) : Int).toNat ≤ t397.length from by omega); replace q26 := eq_true q26) | ((with_reducible refine gate_callee (f := 24) rfl ?_); refine goesL_ (some 47) rfl rfl Try.func24 (by kernel_rfl) rfl #[ptrOf (.slice Ao24 t392.length co24), .slice Ao23 y400.length co23] rfl (by (try simp only [List.map_toArray, List.map_cons, List.map_nil]); first | done | rfl | (simp only [List.length_drop, List.length_take]; rfl)) ?_; (with_reducible refine (find_Statistics.calls kj3 _ _ t392 _ _ y400 t412 t413 _ ?side1 ?side2 ?side3 ?side4 A18.out).mono ?_); (case side1 => repeat (first | exact (Kd.S_reads' HO_5.out).2.2 | (with_reducible refine Kd.C_alloc ?_ _) | (with_reducible refine Kd.C_drewN ?_ _) | (with_reducible refine Kd.C_drew ?_))); (case side2 => exact (Kd.S_reads' HO_5.out).2.1); (case side3 => repeat (first | exact (by repeat (first | (with_reducible exact HR411.out) | (with_reducible refine Kd.C_alloc ?_ _) | (with_reducible refine Kd.C_drewN ?_ _) | (with_reducible refine Kd.C_drew ?_) | exact HR411.out)) | (with_reducible refine Kd.C_alloc ?_ _) | (with_reducible refine Kd.C_drewN ?_ _) | (with_reducible refine Kd.C_drew ?_))); (case side4 => exact HC411.out); rintro e w27 ⟨v414, rfl, ho0, hb⟩; refine ⟨_, rfl, ?_⟩; have n0_ := Aside0.mk (Kd.S_elder' (by (with_reducible repeat (first | apply Kd.S_alloc | apply Kd.S_drewN | apply Kd.S_drew)); exact HO_5.out) (Kd.R_base ho0) hb); have n1_ := Aside0.mk (Kd.R_below (by (with_reducible repeat (first | apply Kd.R_alloc | apply Kd.R_drewN | apply Kd.R_drew)); exact HO399.out) hb); have n2_ := Aside0.mk (Kd.R_elder' (by (with_reducible repeat (first | apply Kd.R_alloc | apply Kd.R_drewN | apply Kd.R_drew)); exact HO407.out) (Kd.R_base ho0) hb); have n3_ := Aside0.mk (Kd.R_lower (Kd.R_new' ho0 (Kd.R_lt (by (with_reducible repeat (first | apply Kd.R_alloc | apply Kd.R_drewN | apply Kd.R_drew)); exact HO407.out))) (below_size (by repeat (first | (with_reducible first | exact HB.out | apply below_alloc | apply pw_below_drewN | apply below_drew1) | exact HB.out)))); have n4_ := Aside0.mk (Kd.C_below (by repeat (first | (with_reducible exact HR403.out) | (with_reducible refine Kd.C_alloc ?_ _) | (with_reducible refine Kd.C_drewN ?_ _) | (with_reducible refine Kd.C_drew ?_) | exact HR403.out)) hb); have n5_ := Aside0.mk (Kd.C_below (by repeat (first | (with_reducible exact HR411.out) | (with_reducible refine Kd.C_alloc ?_ _) | (with_reducible refine Kd.C_drewN ?_ _) | (with_reducible refine Kd.C_drew ?_) | exact HR411.out)) hb); have n6_ := Aside0.mk (below_step (by repeat (first | (with_reducible first | exact HB.out | apply below_alloc | apply pw_below_drewN | apply below_drew1) | exact HB.out)) hb); clear HO_5; clear HO399; clear HO407; clear HR403; clear HR411; clear HB; have HO_5 := n0_; have HO399 := n1_; have HO407 := n2_; have HO415 := n3_; have HR403 := n4_; have HR411 := n5_; have HB := n6_; clear n0_ n1_ n2_ n3_ n4_ n5_ n6_; (try clear hb); (try clear hb2); (try clear hk); (try clear hi); (try clear ho0)) | ((with_reducible refine gate_callee (f := 25) rfl ?_); refine goesL_ (some 52) rfl rfl Try.func25 (by kernel_rfl) rfl #[.slice A0 l0.length c0, .slice A1 l1.length c1] rfl (by (try simp only [List.map_toArray, List.map_cons, List.map_nil]); first | done | rfl | (simp only [List.length_drop, List.length_take]; rfl)) ?_; (with_reducible refine (sapperref14_Statistics.calls kj3 _ _ l0 _ _ l1 t416 _ ?side1 ?side2 ?side3 ?side4 A19.out).mono ?_); (case side1 => repeat (first | exact (Kd.C_below HR0.out HB.out) | (with_reducible refine Kd.C_alloc ?_ _) | (with_reducible refine Kd.C_drewN ?_ _) | (with_reducible refine Kd.C_drew ?_))); (case side2 => exact HC0.out); (case side3 => repeat (first | exact (Kd.C_below HR1.out HB.out) | (with_reducible refine Kd.C_alloc ?_ _) | (with_reducible refine Kd.C_drewN ?_ _) | (with_reducible refine Kd.C_drew ?_))); (case side4 => exact HC1.out); rintro e w28 ⟨v417, rfl, ho0, hb⟩; refine ⟨_, rfl, ?_⟩; have n0_ := Aside0.mk (Kd.S_elder' (by (with_reducible repeat (first | apply Kd.S_alloc | apply Kd.S_drewN | apply Kd.S_drew)); exact HO_5.out) (Kd.R_base ho0) hb); have n1_ := Aside0.mk (Kd.R_below (by (with_reducible repeat (first | apply Kd.R_alloc | apply Kd.R_drewN | apply Kd.R_drew)); exact HO399.out) hb); have n2_ := Aside0.mk (Kd.R_elder' (by (with_reducible repeat (first | apply Kd.R_alloc | apply Kd.R_drewN | apply Kd.R_drew)); exact HO407.out) (Kd.R_base ho0) hb); have n3_ := Aside0.mk (Kd.R_elder' (by (with_reducible repeat (first | apply Kd.R_alloc | apply Kd.R_drewN | apply Kd.R_drew)); exact HO415.out) (Kd.R_base ho0) hb); have n4_ := Aside0.mk (Kd.R_lower (Kd.R_new' (Kd.R_new' ho0 (Kd.R_lt (by (with_reducible repeat (first | apply Kd.R_alloc | apply Kd.R_drewN | apply Kd.R_drew)); exact HO407.out))) (Kd.R_lt (by (with_reducible repeat (first | apply Kd.R_alloc | apply Kd.R_drewN | apply Kd.R_drew)); exact HO415.out))) (below_size (by repeat (first | (with_reducible first | exact HB.out | apply below_alloc | apply pw_below_drewN | apply below_drew1) | exact HB.out)))); have n5_ := Aside0.mk (Kd.C_below (by repeat (first | (with_reducible exact HR403.out) | (with_reducible refine Kd.C_alloc ?_ _) | (with_reducible refine Kd.C_drewN ?_ _) | (with_reducible refine Kd.C_drew ?_) | exact HR403.out)) hb); have n6_ := Aside0.mk (Kd.C_below (by repeat (first | (with_reducible exact HR411.out) | (with_reducible refine Kd.C_alloc ?_ _) | (with_reducible refine Kd.C_drewN ?_ _) | (with_reducible refine Kd.C_drew ?_) | exact HR411.out)) hb); have n7_ := Aside0.mk (below_step (by repeat (first | (with_reducible first | exact HB.out | apply below_alloc | apply pw_below_drewN | apply below_drew1) | exact HB.out)) hb); clear HO_5; clear HO399; clear HO407; clear HO415; clear HR403; clear HR411; clear HB; have HO_5 := n0_; have HO399 := n1_; have HO407 := n2_; have HO415 := n3_; have HO418 := n4_; have HR403 := n5_; have HR411 := n6_; have HB := n7_; clear n0_ n1_ n2_ n3_ n4_ n5_ n6_ n7_; (try clear hb); (try clear hb2); (try clear hk); (try clear hi); (try clear ho0)))
      (try simp only [Act.put, List.setIfInBounds_toArray, List.set_cons_zero, List.set_cons_succ])
      go_cut [76] (fun v76 wc => ∃ (kq : Nat) (x76_19 : Bool), v76 = .bool x76_19 ∧ Aside0 (sapperlaw14_FindStatistics.j1 kq t404 t412 t416 x76_19 = some r) ∧ Aside0 (kq ≤ kj3) ∧ Aside0 (Kd.R (Kd.int .i64) 3 wc w.heap.size (fun k_ => some k_ ≠ (v414 : Value).ownBlock ∧ some k_ ≠ (v417 : Value).ownBlock) v406 t404) ∧ Aside0 (Kd.R (Kd.int .i64) 3 wc w.heap.size (fun k_ => some k_ ≠ (v406 : Value).ownBlock ∧ some k_ ≠ (v417 : Value).ownBlock) v414 t412) ∧ Aside0 (Kd.R (Kd.int .i64) 3 wc w.heap.size (fun k_ => some k_ ≠ (v406 : Value).ownBlock ∧ some k_ ≠ (v414 : Value).ownBlock) v417 t416) ∧ Aside0 (Kd.C (Kd.int .u8) wc Ao23 y400.length y400) ∧ Aside0 (Kd.C (Kd.int .u8) wc Ao23 y400.length y400) ∧ Aside0 (Below w.heap.size w wc))
      case first =>
       have H := HC20.out
       clear HC20
       by_cases c29 : t405 = 0
       ·rw [if_pos c29] at H
        have c29b0 : (t405 == 0) = true := beq_iff_eq.mpr c29
        have c29b1 : (t405 != 0) = false := bne_eq_false_iff_eq.mpr c29
        clear c29
        (first | rw [c29b0] | rw [c29b1] | (simp only [i64_w, i32_w]; rw [c29b0]) | skip)
        by_cases c30 : t413 = 0
        ·rw [if_pos c30] at H
         have c30b0 : (t413 == 0) = true := beq_iff_eq.mpr c30
         have c30b1 : (t413 != 0) = false := bne_eq_false_iff_eq.mpr c30
         clear c30
         replace H := Option.bind_eq_some_iff.mp H
         obtain ⟨t419, A310, H⟩ := H
         replace H : (if t419 = true then ((sapperlaw14_Same.f kj3 t412 t416).bind fun t420 => (if t420 = true then ((sapperlaw14_kept.f t397 l1).bind fun t421 => (sapperlaw14_FindStatistics.j1 kj3 t404 t412 t416 (!t421))) else (sapperlaw14_FindStatistics.j1 kj3 t404 t412 t416 true))) else (sapperlaw14_FindStatistics.j1 kj3 t404 t412 t416 true)) = some r := H
         have A31 := Aside0.mk A310
         clear A310
         by_cases c32 : t419 = true
         ·subst c32
          have H1 : ((sapperlaw14_Same.f kj3 t412 t416).bind fun t420 => (if t420 = true then ((sapperlaw14_kept.f t397 l1).bind fun t421 => (sapperlaw14_FindStatistics.j1 kj3 t404 t412 t416 (!t421))) else (sapperlaw14_FindStatistics.j1 kj3 t404 t412 t416 true))) = some r := by rw [if_pos rfl] at H; exact H
          clear H
          have H := H1
          clear H1
          replace H := Option.bind_eq_some_iff.mp H
          obtain ⟨t420, A330, H⟩ := H
          replace H : (if t420 = true then ((sapperlaw14_kept.f t397 l1).bind fun t421 => (sapperlaw14_FindStatistics.j1 kj3 t404 t412 t416 (!t421))) else (sapperlaw14_FindStatistics.j1 kj3 t404 t412 t416 true)) = some r := H
          have A33 := Aside0.mk A330
          clear A330
          by_cases c34 : t420 = true
          ·subst c34
           have H1 : ((sapperlaw14_kept.f t397 l1).bind fun t421 => (sapperlaw14_FindStatistics.j1 kj3 t404 t412 t416 (!t421))) = some r := by rw [if_pos rfl] at H; exact H
           clear H
           have H := H1
           clear H1
           replace H := Option.bind_eq_some_iff.mp H
           obtain ⟨t421, A350, H⟩ := H
           replace H : (sapperlaw14_FindStatistics.j1 kj3 t404 t412 t416 (!t421)) = some r := H
           have A35 := Aside0.mk A350
           clear A350
           have H' := Aside0.mk H
           clear H
           obtain ⟨Ao36, co36, eo36⟩ := Kd.R_slice HO407.out
           subst eo36
           obtain ⟨Ao37, co37, eo37⟩ := Kd.R_slice HO418.out
           subst eo37
           go_wp2_with (first | (go_at_call 26; (with_reducible refine (sapperlaw14_Same.calls kj3 _ _ t404 _ _ t416 true _ ?side1 ?side2 ?side3 ?side4 A31.out).mono ?_); (case side1 => repeat (first | exact (Kd.R_reads' HO407.out).2.2 | (with_reducible refine Kd.C_alloc ?_ _) | (with_reducible refine Kd.C_drewN ?_ _) | (with_reducible refine Kd.C_drew ?_))); (case side2 => exact (Kd.R_reads' HO407.out).2.1); (case side3 => repeat (first | exact (Kd.R_reads' HO418.out).2.2 | (with_reducible refine Kd.C_alloc ?_ _) | (with_reducible refine Kd.C_drewN ?_ _) | (with_reducible refine Kd.C_drew ?_))); (case side4 => exact (Kd.R_reads' HO418.out).2.1); rintro e w' ⟨rfl, ⟨nd, rfl⟩⟩; obtain ⟨Ao38, co38, eo38⟩ := Kd.R_slice HO415.out; subst eo38) | (go_at_call 26; (with_reducible refine (sapperlaw14_Same.calls kj3 _ _ t412 _ _ t416 true _ ?side1 ?side2 ?side3 ?side4 A33.out).mono ?_); (case side1 => repeat (first | exact (Kd.R_reads' HO415.out).2.2 | (with_reducible refine Kd.C_alloc ?_ _) | (with_reducible refine Kd.C_drewN ?_ _) | (with_reducible refine Kd.C_drew ?_))); (case side2 => exact (Kd.R_reads' HO415.out).2.1); (case side3 => repeat (first | exact (Kd.R_reads' HO418.out).2.2 | (with_reducible refine Kd.C_alloc ?_ _) | (with_reducible refine Kd.C_drewN ?_ _) | (with_reducible refine Kd.C_drew ?_))); (case side4 => exact (Kd.R_reads' HO418.out).2.1); rintro e w' ⟨rfl, ⟨nd, rfl⟩⟩) | (go_at_call 21; (with_reducible refine (sapperlaw14_kept.calls _ _ t397 _ _ l1 t421 _ ?side1 ?side2 ?side3 ?side4 A35.out).mono ?_); (case side1 => repeat (first | exact (Kd.R_reads' HO399.out).2.2 | (with_reducible refine Kd.C_alloc ?_ _) | (with_reducible refine Kd.C_drewN ?_ _) | (with_reducible refine Kd.C_drew ?_))); (case side2 => exact (Kd.R_reads' HO399.out).2.1); (case side3 => repeat (first | exact (Kd.C_below HR1.out (by repeat (first | (with_reducible first | exact HB.out | apply below_alloc | apply pw_below_drewN | apply below_drew1) | exact HB.out))) | (with_reducible refine Kd.C_alloc ?_ _) | (with_reducible refine Kd.C_drewN ?_ _) | (with_reducible refine Kd.C_drew ?_))); (case side4 => exact HC1.out); rintro e w39 ⟨rfl, hb⟩; have n0_ := Aside0.mk (Kd.S_below (by (with_reducible repeat (first | apply Kd.S_alloc | apply Kd.S_drewN | apply Kd.S_drew)); exact HO_5.out) hb); have n1_ := Aside0.mk (Kd.R_below (by (with_reducible repeat (first | apply Kd.R_alloc | apply Kd.R_drewN | apply Kd.R_drew)); exact HO399.out) hb); have n2_ := Aside0.mk (Kd.R_below (by (with_reducible repeat (first | apply Kd.R_alloc | apply Kd.R_drewN | apply Kd.R_drew)); exact HO407.out) hb); have n3_ := Aside0.mk (Kd.R_below (by (with_reducible repeat (first | apply Kd.R_alloc | apply Kd.R_drewN | apply Kd.R_drew)); exact HO415.out) hb); have n4_ := Aside0.mk (Kd.R_below (by (with_reducible repeat (first | apply Kd.R_alloc | apply Kd.R_drewN | apply Kd.R_drew)); exact HO418.out) hb); have n5_ := Aside0.mk (Kd.C_below (by repeat (first | (with_reducible exact HR403.out) | (with_reducible refine Kd.C_alloc ?_ _) | (with_reducible refine Kd.C_drewN ?_ _) | (with_reducible refine Kd.C_drew ?_) | exact HR403.out)) hb); have n6_ := Aside0.mk (Kd.C_below (by repeat (first | (with_reducible exact HR411.out) | (with_reducible refine Kd.C_alloc ?_ _) | (with_reducible refine Kd.C_drewN ?_ _) | (with_reducible refine Kd.C_drew ?_) | exact HR411.out)) hb); have n7_ := Aside0.mk (below_step (by repeat (first | (with_reducible first | exact HB.out | apply below_alloc | apply pw_below_drewN | apply below_drew1) | exact HB.out)) hb); clear HO_5; clear HO399; clear HO407; clear HO415; clear HO418; clear HR403; clear HR411; clear HB; have HO_5 := n0_; have HO399 := n1_; have HO407 := n2_; have HO415 := n3_; have HO418 := n4_; have HR403 := n5_; have HR411 := n6_; have HB := n7_; clear n0_ n1_ n2_ n3_ n4_ n5_ n6_ n7_; (try clear hb); (try clear hb2); (try clear hk); (try clear hi)))
           go_meet
           case rel => exact ⟨_, (!t421), (by first | rfl | (simp; done) | (simp [*]; done)), H', ⟨by have := HJ3.out; first | omega | exact Nat.le_refl _⟩, ⟨by (with_reducible repeat (first | apply Kd.R_alloc | apply Kd.R_drewN | apply Kd.R_drew)); exact Kd.R_mono HO407.out (fun _ hk => ⟨hk.1.2, hk.2⟩)⟩, ⟨by (with_reducible repeat (first | apply Kd.R_alloc | apply Kd.R_drewN | apply Kd.R_drew)); exact Kd.R_mono HO415.out (fun _ hk => ⟨hk.1.2, hk.2⟩)⟩, ⟨by (with_reducible repeat (first | apply Kd.R_alloc | apply Kd.R_drewN | apply Kd.R_drew)); exact Kd.R_mono HO418.out (fun _ hk => ⟨hk.1.2, hk.2⟩)⟩, ⟨by repeat (first | (with_reducible exact HR403.out) | (with_reducible refine Kd.C_alloc ?_ _) | (with_reducible refine Kd.C_drewN ?_ _) | (with_reducible refine Kd.C_drew ?_) | exact HR403.out)⟩, ⟨by repeat (first | (with_reducible exact HR411.out) | (with_reducible refine Kd.C_alloc ?_ _) | (with_reducible refine Kd.C_drewN ?_ _) | (with_reducible refine Kd.C_drew ?_) | exact HR411.out)⟩, ⟨by repeat (first | (with_reducible first | exact HB.out | apply below_alloc | apply pw_below_drewN | apply below_drew1) | exact HB.out)⟩⟩
          ·replace c34 := Bool.eq_false_iff.mpr c34
           subst c34
           have H1 : (sapperlaw14_FindStatistics.j1 kj3 t404 t412 t416 true) = some r := by rw [if_neg (show ¬ (false = true) by decide)] at H; exact H
           clear H
           have H := H1
           clear H1
           have H' := Aside0.mk H
           clear H
           obtain ⟨Ao40, co40, eo40⟩ := Kd.R_slice HO407.out
           subst eo40
           obtain ⟨Ao41, co41, eo41⟩ := Kd.R_slice HO418.out
           subst eo41
           go_wp2_with (first | (go_at_call 26; (with_reducible refine (sapperlaw14_Same.calls kj3 _ _ t404 _ _ t416 true _ ?side1 ?side2 ?side3 ?side4 A31.out).mono ?_); (case side1 => repeat (first | exact (Kd.R_reads' HO407.out).2.2 | (with_reducible refine Kd.C_alloc ?_ _) | (with_reducible refine Kd.C_drewN ?_ _) | (with_reducible refine Kd.C_drew ?_))); (case side2 => exact (Kd.R_reads' HO407.out).2.1); (case side3 => repeat (first | exact (Kd.R_reads' HO418.out).2.2 | (with_reducible refine Kd.C_alloc ?_ _) | (with_reducible refine Kd.C_drewN ?_ _) | (with_reducible refine Kd.C_drew ?_))); (case side4 => exact (Kd.R_reads' HO418.out).2.1); rintro e w' ⟨rfl, ⟨nd, rfl⟩⟩; obtain ⟨Ao42, co42, eo42⟩ := Kd.R_slice HO415.out; subst eo42) | (go_at_call 26; (with_reducible refine (sapperlaw14_Same.calls kj3 _ _ t412 _ _ t416 false _ ?side1 ?side2 ?side3 ?side4 A33.out).mono ?_); (case side1 => repeat (first | exact (Kd.R_reads' HO415.out).2.2 | (with_reducible refine Kd.C_alloc ?_ _) | (with_reducible refine Kd.C_drewN ?_ _) | (with_reducible refine Kd.C_drew ?_))); (case side2 => exact (Kd.R_reads' HO415.out).2.1); (case side3 => repeat (first | exact (Kd.R_reads' HO418.out).2.2 | (with_reducible refine Kd.C_alloc ?_ _) | (with_reducible refine Kd.C_drewN ?_ _) | (with_reducible refine Kd.C_drew ?_))); (case side4 => exact (Kd.R_reads' HO418.out).2.1); rintro e w' ⟨rfl, ⟨nd, rfl⟩⟩))
           go_meet
           case rel => exact ⟨_, (true), (by first | rfl | (simp; done) | (simp [*]; done)), H', ⟨by have := HJ3.out; first | omega | exact Nat.le_refl _⟩, ⟨by (with_reducible repeat (first | apply Kd.R_alloc | apply Kd.R_drewN | apply Kd.R_drew)); exact Kd.R_mono HO407.out (fun _ hk => ⟨hk.1.2, hk.2⟩)⟩, ⟨by (with_reducible repeat (first | apply Kd.R_alloc | apply Kd.R_drewN | apply Kd.R_drew)); exact Kd.R_mono HO415.out (fun _ hk => ⟨hk.1.2, hk.2⟩)⟩, ⟨by (with_reducible repeat (first | apply Kd.R_alloc | apply Kd.R_drewN | apply Kd.R_drew)); exact Kd.R_mono HO418.out (fun _ hk => ⟨hk.1.2, hk.2⟩)⟩, ⟨by repeat (first | (with_reducible exact HR403.out) | (with_reducible refine Kd.C_alloc ?_ _) | (with_reducible refine Kd.C_drewN ?_ _) | (with_reducible refine Kd.C_drew ?_) | exact HR403.out)⟩, ⟨by repeat (first | (with_reducible exact HR411.out) | (with_reducible refine Kd.C_alloc ?_ _) | (with_reducible refine Kd.C_drewN ?_ _) | (with_reducible refine Kd.C_drew ?_) | exact HR411.out)⟩, ⟨by repeat (first | (with_reducible first | exact HB.out | apply below_alloc | apply pw_below_drewN | apply below_drew1) | exact HB.out)⟩⟩
         ·replace c32 := Bool.eq_false_iff.mpr c32
          subst c32
          have H1 : (sapperlaw14_FindStatistics.j1 kj3 t404 t412 t416 true) = some r := by rw [if_neg (show ¬ (false = true) by decide)] at H; exact H
          clear H
          have H := H1
          clear H1
          have H' := Aside0.mk H
          clear H
          obtain ⟨Ao43, co43, eo43⟩ := Kd.R_slice HO407.out
          subst eo43
          obtain ⟨Ao44, co44, eo44⟩ := Kd.R_slice HO418.out
          subst eo44
          go_wp2_with (first | (go_at_call 26; (with_reducible refine (sapperlaw14_Same.calls kj3 _ _ t404 _ _ t416 false _ ?side1 ?side2 ?side3 ?side4 A31.out).mono ?_); (case side1 => repeat (first | exact (Kd.R_reads' HO407.out).2.2 | (with_reducible refine Kd.C_alloc ?_ _) | (with_reducible refine Kd.C_drewN ?_ _) | (with_reducible refine Kd.C_drew ?_))); (case side2 => exact (Kd.R_reads' HO407.out).2.1); (case side3 => repeat (first | exact (Kd.R_reads' HO418.out).2.2 | (with_reducible refine Kd.C_alloc ?_ _) | (with_reducible refine Kd.C_drewN ?_ _) | (with_reducible refine Kd.C_drew ?_))); (case side4 => exact (Kd.R_reads' HO418.out).2.1); rintro e w' ⟨rfl, ⟨nd, rfl⟩⟩))
          go_meet
          case rel => exact ⟨_, (true), (by first | rfl | (simp; done) | (simp [*]; done)), H', ⟨by have := HJ3.out; first | omega | exact Nat.le_refl _⟩, ⟨by (with_reducible repeat (first | apply Kd.R_alloc | apply Kd.R_drewN | apply Kd.R_drew)); exact Kd.R_mono HO407.out (fun _ hk => ⟨hk.1.2, hk.2⟩)⟩, ⟨by (with_reducible repeat (first | apply Kd.R_alloc | apply Kd.R_drewN | apply Kd.R_drew)); exact Kd.R_mono HO415.out (fun _ hk => ⟨hk.1.2, hk.2⟩)⟩, ⟨by (with_reducible repeat (first | apply Kd.R_alloc | apply Kd.R_drewN | apply Kd.R_drew)); exact Kd.R_mono HO418.out (fun _ hk => ⟨hk.1.2, hk.2⟩)⟩, ⟨by repeat (first | (with_reducible exact HR403.out) | (with_reducible refine Kd.C_alloc ?_ _) | (with_reducible refine Kd.C_drewN ?_ _) | (with_reducible refine Kd.C_drew ?_) | exact HR403.out)⟩, ⟨by repeat (first | (with_reducible exact HR411.out) | (with_reducible refine Kd.C_alloc ?_ _) | (with_reducible refine Kd.C_drewN ?_ _) | (with_reducible refine Kd.C_drew ?_) | exact HR411.out)⟩, ⟨by repeat (first | (with_reducible first | exact HB.out | apply below_alloc | apply pw_below_drewN | apply below_drew1) | exact HB.out)⟩⟩
        ·rw [if_neg c30] at H
         have c30b0 : (t413 == 0) = false := beq_eq_false_iff_ne.mpr c30
         have c30b1 : (t413 != 0) = true := bne_iff_ne.mpr c30
         have H' := Aside0.mk H
         clear H
         go_wp2
         go_meet
         case rel => exact ⟨_, (true), (by first | rfl | (simp; done) | (simp [*]; done)), H', ⟨by have := HJ3.out; first | omega | exact Nat.le_refl _⟩, ⟨by (with_reducible repeat (first | apply Kd.R_alloc | apply Kd.R_drewN | apply Kd.R_drew)); exact Kd.R_mono HO407.out (fun _ hk => ⟨hk.1.2, hk.2⟩)⟩, ⟨by (with_reducible repeat (first | apply Kd.R_alloc | apply Kd.R_drewN | apply Kd.R_drew)); exact Kd.R_mono HO415.out (fun _ hk => ⟨hk.1.2, hk.2⟩)⟩, ⟨by (with_reducible repeat (first | apply Kd.R_alloc | apply Kd.R_drewN | apply Kd.R_drew)); exact Kd.R_mono HO418.out (fun _ hk => ⟨hk.1.2, hk.2⟩)⟩, ⟨by repeat (first | (with_reducible exact HR403.out) | (with_reducible refine Kd.C_alloc ?_ _) | (with_reducible refine Kd.C_drewN ?_ _) | (with_reducible refine Kd.C_drew ?_) | exact HR403.out)⟩, ⟨by repeat (first | (with_reducible exact HR411.out) | (with_reducible refine Kd.C_alloc ?_ _) | (with_reducible refine Kd.C_drewN ?_ _) | (with_reducible refine Kd.C_drew ?_) | exact HR411.out)⟩, ⟨by repeat (first | (with_reducible first | exact HB.out | apply below_alloc | apply pw_below_drewN | apply below_drew1) | exact HB.out)⟩⟩
       ·rw [if_neg c29] at H
        have c29b0 : (t405 == 0) = false := beq_eq_false_iff_ne.mpr c29
        have c29b1 : (t405 != 0) = true := bne_iff_ne.mpr c29
        (first | rw [c29b0] | rw [c29b1] | (simp only [i64_w, i32_w]; rw [c29b0]) | skip)
        have H' := Aside0.mk H
        clear H
        go_wp2
        go_meet
        case rel => exact ⟨_, (true), (by first | rfl | (simp; done) | (simp [*]; done)), H', ⟨by have := HJ3.out; first | omega | exact Nat.le_refl _⟩, ⟨by (with_reducible repeat (first | apply Kd.R_alloc | apply Kd.R_drewN | apply Kd.R_drew)); exact Kd.R_mono HO407.out (fun _ hk => ⟨hk.1.2, hk.2⟩)⟩, ⟨by (with_reducible repeat (first | apply Kd.R_alloc | apply Kd.R_drewN | apply Kd.R_drew)); exact Kd.R_mono HO415.out (fun _ hk => ⟨hk.1.2, hk.2⟩)⟩, ⟨by (with_reducible repeat (first | apply Kd.R_alloc | apply Kd.R_drewN | apply Kd.R_drew)); exact Kd.R_mono HO418.out (fun _ hk => ⟨hk.1.2, hk.2⟩)⟩, ⟨by repeat (first | (with_reducible exact HR403.out) | (with_reducible refine Kd.C_alloc ?_ _) | (with_reducible refine Kd.C_drewN ?_ _) | (with_reducible refine Kd.C_drew ?_) | exact HR403.out)⟩, ⟨by repeat (first | (with_reducible exact HR411.out) | (with_reducible refine Kd.C_alloc ?_ _) | (with_reducible refine Kd.C_drewN ?_ _) | (with_reducible refine Kd.C_drew ?_) | exact HR411.out)⟩, ⟨by repeat (first | (with_reducible first | exact HB.out | apply below_alloc | apply pw_below_drewN | apply below_drew1) | exact HB.out)⟩⟩
      case rest =>
       clear HC20
       try clear c1
       try clear c2
       try clear p2
       try clear q2
       try clear c3
       try clear c5
       try clear c6
       try clear c8
       try clear c9
       try clear c13
       try clear c13b0
       try clear c13b1
       try clear c14
       try clear c14b0
       try clear c14b1
       try clear c16
       try clear c16b0
       try clear c17
       try clear c17b0
       try clear c18
       try clear q22
       try clear c24
       try clear c25
       try clear q26
       try clear c29
       try clear c29b0
       try clear c29b1
       try clear c30
       try clear c30b0
       try clear c30b1
       try clear c32
       try clear c34
       try clear p2
       try clear q22
       try clear q26
       obtain ⟨kq, x76_19, rfl, HA, HJ19, HO_8, HO_10, HO_12, HR403, HR411, HB⟩ := hcut
       cases kq with
       | zero => exact absurd HA.out (by simp [sapperlaw14_FindStatistics.j1])
       | succ kj19 =>
        have H := HA.out
        clear HA
        simp only [sapperlaw14_FindStatistics.j1] at H
        by_cases c45 : x76_19 = true
        ·subst c45
         have H1 : (some false) = some r := by rw [if_pos rfl] at H; exact H
         clear H
         have H := H1
         clear H1
         obtain rfl := Option.some.inj H
         go_wp2
         go_ret
         exact ⟨by first | rfl | (simp [errW_none, errW_some] <;> rfl) | (simp [*, errW_none, errW_some] <;> rfl), by repeat (first | (with_reducible first | exact HB.out | apply below_alloc | apply pw_below_drewN | apply below_drew1) | exact HB.out)⟩
        ·replace c45 := Bool.eq_false_iff.mpr c45
         subst c45
         have H1 : (sapperlaw14_FindStatistics.l0 kj19 t404 t412 t416 0) = some r := by rw [if_neg (show ¬ (false = true) by decide)] at H; exact H
         clear H
         have H := H1
         clear H1
         have H' := Aside0.mk H
         clear H
         go_wp2
         go_loopg [13] kj19 (fun kq v13 w' => ∃ (x8_3 : List Int) (x13_3 : Int), v13 = .int .i64 x13_3 ∧ Aside0 (sapperlaw14_FindStatistics.l0 kq x8_3 t412 t416 x13_3 = some r) ∧ Aside0 (kq ≤ kj19) ∧ Aside0 (Kd.R (Kd.int .i64) 3 w' w.heap.size (fun k_ => some k_ ≠ (v414 : Value).ownBlock ∧ some k_ ≠ (v417 : Value).ownBlock) v406 x8_3) ∧ Aside0 (Kd.R (Kd.int .i64) 3 w' w.heap.size (fun k_ => some k_ ≠ (v406 : Value).ownBlock ∧ some k_ ≠ (v417 : Value).ownBlock) v414 t412) ∧ Aside0 (Kd.R (Kd.int .i64) 3 w' w.heap.size (fun k_ => some k_ ≠ (v406 : Value).ownBlock ∧ some k_ ≠ (v414 : Value).ownBlock) v417 t416) ∧ Aside0 (Below w.heap.size w w'))
         case atStart => exact ⟨(t404), (0), (by first | rfl | (simp; done) | (simp [*]; done)), H', ⟨Nat.le_refl _⟩, ⟨by (with_reducible repeat (first | apply Kd.R_alloc | apply Kd.R_drewN | apply Kd.R_drew)); exact HO_8.out⟩, ⟨by (with_reducible repeat (first | apply Kd.R_alloc | apply Kd.R_drewN | apply Kd.R_drew)); exact HO_10.out⟩, ⟨by (with_reducible repeat (first | apply Kd.R_alloc | apply Kd.R_drewN | apply Kd.R_drew)); exact HO_12.out⟩, ⟨by repeat (first | (with_reducible first | exact HB.out | apply below_alloc | apply pw_below_drewN | apply below_drew1) | exact HB.out)⟩⟩
         case round =>
          clear H'
          try clear c1
          try clear c2
          try clear p2
          try clear q2
          try clear c3
          try clear c4
          try clear c5
          try clear c6
          try clear c8
          try clear c9
          try clear c13
          try clear c13b0
          try clear c13b1
          try clear c14
          try clear c14b0
          try clear c14b1
          try clear c16
          try clear c16b0
          try clear c17
          try clear c17b0
          try clear c18
          try clear q22
          try clear c24
          try clear c25
          try clear q26
          try clear c29
          try clear c29b0
          try clear c29b1
          try clear c30
          try clear c30b0
          try clear c30b1
          try clear c32
          try clear c34
          try clear c45
          try clear p2
          try clear q2
          try clear q22
          try clear q26
          obtain ⟨x8_3, x13_3, rfl, HA, HK3, HO_8, HO_10, HO_12, HB⟩ := hrel
          cases gk with
          | zero => exact absurd HA.out (by simp [sapperlaw14_FindStatistics.l0])
          | succ k3 =>
           have H := HA.out
           clear HA
           simp only [sapperlaw14_FindStatistics.l0] at H
           by_cases c46 : x13_3 < (x8_3.length : Int)
           ·rw [if_pos c46] at H
            have c46b0 : decide (x13_3 < (x8_3.length : Int)) = true := decide_eq_true c46
            clear c46
            by_cases c47 : 0 ≤ x13_3
            ·rw [if_pos c47] at H
             have c47b0 : decide (0 ≤ x13_3) = true := decide_eq_true c47
             clear c47
             obtain ⟨y422, hy422⟩ : ∃ y_ : List Int, y_ = (x8_3.set (x13_3 : Int).toNat 81) := ⟨_, rfl⟩
             replace H : (sapperlaw14_FindStatistics.l0 k3 y422 t412 t416 (wrap64 (x13_3 + 1))) = some r := by first | (rw [hy422]; with_reducible exact H) | (have H2_ := (Option.bind_some _ _).symm.trans H; rw [hy422]; with_reducible exact H2_) | (have H2_ := (Option.bind_some _ _).symm.trans H; with_reducible exact H2_) | with_reducible exact H | (rw [hy422]; exact H) | exact H
             have Ny422 := Aside0.mk hy422
             clear hy422
             have H' := Aside0.mk H
             clear H
             obtain ⟨Ao49, co49, eo49⟩ := Kd.R_slice HO_8.out
             subst eo49
             have p48 : 0 ≤ (x13_3 : Int) := of_decide_eq_true (by first | (with_reducible assumption) | assumption)
             have q48 : (x13_3 : Int) < ((x8_3.length : Int) : Int) := of_decide_eq_true (by first | (with_reducible assumption) | assumption)
             obtain ⟨go48, co48, eo48, gb48, gl48, cl48, HG48⟩ := Kd.R_form HO_8.out (by omega)
             (first | cases eo48 | (injection eo48 with ea_ en_ ec_; (first | subst ea_ | (injection ea_ with ea_; subst ea_)); subst ec_; clear en_))
             have GB48 := Aside0.mk gb48
             have GG48 := Aside0.mk HG48
             clear gb48 gl48 HG48
             obtain ⟨hx48_0, hf48_0⟩ := Kd.R_celln 0 HO_8.out (x13_3 : Int) p48 q48
             replace p48 := eq_true p48
             replace q48 := eq_true q48
             have HP50 := Kd.R_putg HO_8.out (x13_3 : Int) 81
             go_wp2_with (first | ((with_reducible refine gate_store (t := 3) (p := 85) rfl ?_); refine store_event (t := 3) (p := 85) (v := ?vo_w51) (w1 := (wr.setCell ⟨go48, (x13_3 : Int).toNat, none⟩ (.int .i64 81))) ?hg ?ho ?hn ?hr ?_; (case ho => rfl); (case hg => rfl); (case hn => rfl); (case hr => first | (go_simp; done) | (go_simp; rfl)); intro w51 hw; have hg : wr.grownBy w51 (some go48) := (by rw [hw]; exact HP50.2); have hp_ : Kd.R (Kd.int .i64) 3 w51 w.heap.size (fun k_ => some k_ ≠ (v414 : Value).ownBlock ∧ some k_ ≠ (v417 : Value).ownBlock) (.slice (some ⟨go48, 0, none⟩) x8_3.length co49) y422 := (by rw [hw, Ny422.out]; exact HP50.1); clear HP50; have n0_ := Aside0.mk (hp_); have n1_ := Aside0.mk (Kd.R_after (v := (.slice (some ⟨go48, 0, none⟩) x8_3.length co49)) (v1 := (.slice (some ⟨go48, 0, none⟩) x8_3.length co49)) (ok := (fun k_ => some k_ ≠ (v417 : Value).ownBlock)) (by (with_reducible repeat (first | apply Kd.R_alloc | apply Kd.R_drewN | apply Kd.R_drew)); exact Kd.R_mono HO_10.out (fun _ hk => ⟨hk.2, hk.1⟩)) hg (.inl rfl)); have n2_ := Aside0.mk (Kd.R_after (v := (.slice (some ⟨go48, 0, none⟩) x8_3.length co49)) (v1 := (.slice (some ⟨go48, 0, none⟩) x8_3.length co49)) (ok := (fun k_ => some k_ ≠ (v414 : Value).ownBlock)) (by (with_reducible repeat (first | apply Kd.R_alloc | apply Kd.R_drewN | apply Kd.R_drew)); exact Kd.R_mono HO_12.out (fun _ hk => ⟨hk.2, hk.1⟩)) hg (.inl rfl)); have n3_ := Aside0.mk ((by rw [hw]; exact below_set (HB.out) GB48.out : Below w.heap.size w w51)); clear HO_8; clear HO_10; clear HO_12; clear HB; have HO_8 := n0_; have HO_10 := n1_; have HO_12 := n2_; have HB := n3_; clear n0_ n1_ n2_ n3_; clear hg hw hp_))
             go_roundg k3
             case measure => have := HJ3.out; have := HJ19.out; have := HK3.out; omega
             case rel => exact ⟨(y422), (wrap64 (x13_3 + 1)), (by first | rfl | (simp; done) | (simp [*]; done)), H', ⟨by have := HJ3.out; have := HJ19.out; have := HK3.out; omega⟩, ⟨by (with_reducible repeat (first | apply Kd.R_alloc | apply Kd.R_drewN | apply Kd.R_drew)); exact HO_8.out⟩, ⟨by (with_reducible repeat (first | apply Kd.R_alloc | apply Kd.R_drewN | apply Kd.R_drew)); exact Kd.R_mono HO_10.out (fun _ hk => ⟨hk.2, hk.1⟩)⟩, ⟨by (with_reducible repeat (first | apply Kd.R_alloc | apply Kd.R_drewN | apply Kd.R_drew)); exact Kd.R_mono HO_12.out (fun _ hk => ⟨hk.2, hk.1⟩)⟩, ⟨by repeat (first | (with_reducible first | exact HB.out | apply below_alloc | apply pw_below_drewN | apply below_drew1) | exact HB.out)⟩⟩
            ·rw [if_neg c47] at H
             exact absurd H (by simp)
           ·rw [if_neg c46] at H
            have c46b0 : decide (x13_3 < (x8_3.length : Int)) = false := decide_eq_false c46
            clear c46
            have H' := Aside0.mk H
            clear H
            obtain ⟨Ao52, co52, eo52⟩ := Kd.R_slice HO_8.out
            subst eo52
            go_wp2
            go_loopg [8, 14] k3 (fun kq v8 v14 w' => ∃ (x8_4 : List Int) (x14_4 : Int), v14 = .int .i64 x14_4 ∧ Aside0 (sapperlaw14_FindStatistics.l1 kq x8_4 t412 t416 x14_4 = some r) ∧ Aside0 (kq ≤ k3) ∧ Aside0 (Kd.R (Kd.int .i64) 3 w' w.heap.size (fun k_ => some k_ ≠ (v414 : Value).ownBlock ∧ some k_ ≠ (v417 : Value).ownBlock) v8 x8_4) ∧ Aside0 (Kd.R (Kd.int .i64) 3 w' w.heap.size (fun k_ => some k_ ≠ (v8 : Value).ownBlock ∧ some k_ ≠ (v417 : Value).ownBlock) v414 t412) ∧ Aside0 (Kd.R (Kd.int .i64) 3 w' w.heap.size (fun k_ => some k_ ≠ (v8 : Value).ownBlock ∧ some k_ ≠ (v414 : Value).ownBlock) v417 t416) ∧ Aside0 (Below w.heap.size w w'))
            case atStart => exact ⟨(x8_3), (0), (by first | rfl | (simp; done) | (simp [*]; done)), H', ⟨Nat.le_refl _⟩, ⟨by (with_reducible repeat (first | apply Kd.R_alloc | apply Kd.R_drewN | apply Kd.R_drew)); exact HO_8.out⟩, ⟨by (with_reducible repeat (first | apply Kd.R_alloc | apply Kd.R_drewN | apply Kd.R_drew)); exact HO_10.out⟩, ⟨by (with_reducible repeat (first | apply Kd.R_alloc | apply Kd.R_drewN | apply Kd.R_drew)); exact HO_12.out⟩, ⟨by repeat (first | (with_reducible first | exact HB.out | apply below_alloc | apply pw_below_drewN | apply below_drew1) | exact HB.out)⟩⟩
            case round =>
             clear H'
             try clear c1
             try clear c2
             try clear p2
             try clear q2
             try clear c3
             try clear c4
             try clear p4
             try clear q4
             try clear hx4
             try clear hf4
             try clear c5
             try clear c6
             try clear p6
             try clear c8
             try clear c9
             try clear c13
             try clear c13b0
             try clear c13b1
             try clear c14
             try clear c14b0
             try clear c14b1
             try clear c16
             try clear c16b0
             try clear c17
             try clear c17b0
             try clear c18
             try clear q22
             try clear c24
             try clear c25
             try clear q26
             try clear c29
             try clear c29b0
             try clear c29b1
             try clear c30
             try clear c30b0
             try clear c30b1
             try clear c32
             try clear c34
             try clear c45
             try clear c46
             try clear c46b0
             try clear c47
             try clear c47b0
             try clear p48
             try clear q48
             try clear hx48
             try clear hf48
             try clear hx48_0
             try clear p2
             try clear p48
             try clear q2
             try clear q22
             try clear q26
             try clear q48
             obtain ⟨x8_4, x14_4, rfl, HA, HK4, HO_8, HO_10, HO_12, HB⟩ := hrel
             cases gk with
             | zero => exact absurd HA.out (by simp [sapperlaw14_FindStatistics.l1])
             | succ k4 =>
              have H := HA.out
              clear HA
              simp only [sapperlaw14_FindStatistics.l1] at H
              by_cases c53 : x14_4 < 40
              ·rw [if_pos c53] at H
               have c53b0 : decide (x14_4 < 40) = true := decide_eq_true c53
               clear c53
               by_cases c54 : x8_4.length < 17592186044416
               ·rw [if_pos c54] at H
                have LMc54 := Aside0.mk c54
                clear c54
                obtain ⟨y423, hy423⟩ : ∃ y_ : List Int, y_ = (x8_4 ++ [82]) := ⟨_, rfl⟩
                replace H : (sapperlaw14_FindStatistics.l1 k4 y423 t412 t416 (wrap64 (x14_4 + 1))) = some r := by first | (rw [hy423]; with_reducible exact H) | (have H2_ := (Option.bind_some _ _).symm.trans H; rw [hy423]; with_reducible exact H2_) | (have H2_ := (Option.bind_some _ _).symm.trans H; with_reducible exact H2_) | with_reducible exact H | (rw [hy423]; exact H) | exact H
                have Ny423 := Aside0.mk hy423
                clear hy423
                have H' := Aside0.mk H
                clear H
                go_wp2_with (first | ((with_reducible refine gate_builtin (b := .append) (xs := #[.tmp 90, .tmp 91]) rfl ?_); at_builtin; refine Kd.R_append (Kd.int .i64) (w0 := w) w.heap.size rfl (.tmp 90) (.tmp 91) 35 3 (.int .i64 0) 8 rfl Try.underlying35 info3 rfl (by decide) (by omega) u8 x8_4 82 [.int .i64 82] (fun k_ => some k_ ≠ (v414 : Value).ownBlock ∧ some k_ ≠ (v417 : Value).ownBlock) (fun _ => False) rfl rfl ?aP (fun _ hk => hk.elim) ?aF ?aO ?aB ?aS ?aL ?_; (case aP => exact rfl); (case aB => exact (by repeat (first | (with_reducible first | exact HB.out | apply below_alloc | apply pw_below_drewN | apply below_drew1) | exact HB.out))); (case aF => exact (fun k_ hk => ⟨Kd.fresh' (Kd.R_lt (by (with_reducible repeat (first | apply Kd.R_alloc | apply Kd.R_drewN | apply Kd.R_drew)); exact HO_10.out)) k_ hk, Kd.fresh' (Kd.R_lt (by (with_reducible repeat (first | apply Kd.R_alloc | apply Kd.R_drewN | apply Kd.R_drew)); exact HO_12.out)) k_ hk⟩)); (case aO => exact (by (with_reducible repeat (first | apply Kd.R_alloc | apply Kd.R_drewN | apply Kd.R_drew)); exact HO_8.out)); (case aS => exact (below_size (by repeat (first | (with_reducible first | exact HB.out | apply below_alloc | apply pw_below_drewN | apply below_drew1) | exact HB.out)))); (case aL => have := LMc54.out; omega); intro v424 w55 ho hb hg hat; rw [← Ny423.out] at ho; have n0_ := Aside0.mk (Kd.R_after (ok := (fun k_ => some k_ ≠ (v417 : Value).ownBlock)) (by (with_reducible repeat (first | apply Kd.R_alloc | apply Kd.R_drewN | apply Kd.R_drew)); exact Kd.R_mono HO_10.out (fun _ hk => ⟨hk.2, hk.1⟩)) hg hat); have n1_ := Aside0.mk (Kd.R_after (ok := (fun k_ => some k_ ≠ (v414 : Value).ownBlock)) (by (with_reducible repeat (first | apply Kd.R_alloc | apply Kd.R_drewN | apply Kd.R_drew)); exact Kd.R_mono HO_12.out (fun _ hk => ⟨hk.2, hk.1⟩)) hg hat); have n2_ := Aside0.mk (hb); have n3_ := Aside0.mk (ho); clear HO_10; clear HO_12; clear HB; clear HO_8; have HO_10 := n0_; have HO_12 := n1_; have HB := n2_; have HO425 := n3_; clear n0_ n1_ n2_ n3_; clear ho hb hg hat))
                go_roundg k4
                case measure => have := HJ3.out; have := HJ19.out; have := HK3.out; have := HK4.out; omega
                case rel => exact ⟨(y423), (wrap64 (x14_4 + 1)), (by first | rfl | (simp; done) | (simp [*]; done)), H', ⟨by have := HJ3.out; have := HJ19.out; have := HK3.out; have := HK4.out; omega⟩, ⟨by (with_reducible repeat (first | apply Kd.R_alloc | apply Kd.R_drewN | apply Kd.R_drew)); exact HO425.out⟩, ⟨by (with_reducible repeat (first | apply Kd.R_alloc | apply Kd.R_drewN | apply Kd.R_drew)); exact Kd.R_mono HO_10.out (fun _ hk => ⟨hk.2, hk.1⟩)⟩, ⟨by (with_reducible repeat (first | apply Kd.R_alloc | apply Kd.R_drewN | apply Kd.R_drew)); exact Kd.R_mono HO_12.out (fun _ hk => ⟨hk.2, hk.1⟩)⟩, ⟨by repeat (first | (with_reducible first | exact HB.out | apply below_alloc | apply pw_below_drewN | apply below_drew1) | exact HB.out)⟩⟩
               ·rw [if_neg c54] at H
                exact absurd H (by simp)
              ·rw [if_neg c53] at H
               have c53b0 : decide (x14_4 < 40) = false := decide_eq_false c53
               clear c53
               replace H := Option.bind_eq_some_iff.mp H
               obtain ⟨t426, A560, H⟩ := H
               replace H : (if t426 = true then ((sapperlaw14_awake.f k4).bind fun t427 => (some t427)) else (some false)) = some r := H
               have A56 := Aside0.mk A560
               clear A560
               by_cases c57 : t426 = true
               ·subst c57
                have H1 : ((sapperlaw14_awake.f k4).bind fun t427 => (some t427)) = some r := by rw [if_pos rfl] at H; exact H
                clear H
                have H := H1
                clear H1
                replace H := Option.bind_eq_some_iff.mp H
                obtain ⟨t427, A580, H⟩ := H
                replace H : (some t427) = some r := H
                have A58 := Aside0.mk A580
                clear A580
                obtain rfl := Option.some.inj H
                obtain ⟨Ao59, co59, eo59⟩ := Kd.R_slice HO_10.out
                subst eo59
                obtain ⟨Ao60, co60, eo60⟩ := Kd.R_slice HO_12.out
                subst eo60
                go_wp2_with (first | ((with_reducible refine gate_callee (f := 26) rfl ?_); refine goesL_ (some 95) rfl rfl Try.func26 (by kernel_rfl) rfl #[.slice Ao59 t412.length co59, .slice Ao60 t416.length co60] rfl (by (try simp only [List.map_toArray, List.map_cons, List.map_nil]); first | done | rfl | (simp only [List.length_drop, List.length_take]; rfl)) ?_; (with_reducible refine (sapperlaw14_Same.calls k4 _ _ t412 _ _ t416 true _ ?side1 ?side2 ?side3 ?side4 A56.out).mono ?_); (case side1 => repeat (first | exact (Kd.R_reads' HO_10.out).2.2 | (with_reducible refine Kd.C_alloc ?_ _) | (with_reducible refine Kd.C_drewN ?_ _) | (with_reducible refine Kd.C_drew ?_))); (case side2 => exact (Kd.R_reads' HO_10.out).2.1); (case side3 => repeat (first | exact (Kd.R_reads' HO_12.out).2.2 | (with_reducible refine Kd.C_alloc ?_ _) | (with_reducible refine Kd.C_drewN ?_ _) | (with_reducible refine Kd.C_drew ?_))); (case side4 => exact (Kd.R_reads' HO_12.out).2.1); rintro e w' ⟨rfl, ⟨nd, rfl⟩⟩; refine ⟨_, rfl, ?_⟩) | (go_at_call 17; (with_reducible refine (sapperlaw14_awake.calls k4  t427 _ A58.out).mono ?_); rintro e w61 ⟨rfl, hb⟩; have n0_ := Aside0.mk (Kd.R_below (by (with_reducible repeat (first | apply Kd.R_alloc | apply Kd.R_drewN | apply Kd.R_drew)); exact HO_8.out) hb); have n1_ := Aside0.mk (Kd.R_below (by (with_reducible repeat (first | apply Kd.R_alloc | apply Kd.R_drewN | apply Kd.R_drew)); exact HO_10.out) hb); have n2_ := Aside0.mk (Kd.R_below (by (with_reducible repeat (first | apply Kd.R_alloc | apply Kd.R_drewN | apply Kd.R_drew)); exact HO_12.out) hb); have n3_ := Aside0.mk (below_step (by repeat (first | (with_reducible first | exact HB.out | apply below_alloc | apply pw_below_drewN | apply below_drew1) | exact HB.out)) hb); clear HO_8; clear HO_10; clear HO_12; clear HB; have HO_8 := n0_; have HO_10 := n1_; have HO_12 := n2_; have HB := n3_; clear n0_ n1_ n2_ n3_; (try clear hb); (try clear hb2); (try clear hk); (try clear hi)))
                go_ret
                exact ⟨by first | rfl | (simp [errW_none, errW_some] <;> rfl) | (simp [*, errW_none, errW_some] <;> rfl), by repeat (first | (with_reducible first | exact HB.out | apply below_alloc | apply pw_below_drewN | apply below_drew1) | exact HB.out)⟩
               ·replace c57 := Bool.eq_false_iff.mpr c57
                subst c57
                have H1 : (some false) = some r := by rw [if_neg (show ¬ (false = true) by decide)] at H; exact H
                clear H
                have H := H1
                clear H1
                obtain rfl := Option.some.inj H
                obtain ⟨Ao62, co62, eo62⟩ := Kd.R_slice HO_10.out
                subst eo62
                obtain ⟨Ao63, co63, eo63⟩ := Kd.R_slice HO_12.out
                subst eo63
                go_wp2_with (first | ((with_reducible refine gate_callee (f := 26) rfl ?_); refine goesL_ (some 95) rfl rfl Try.func26 (by kernel_rfl) rfl #[.slice Ao62 t412.length co62, .slice Ao63 t416.length co63] rfl (by (try simp only [List.map_toArray, List.map_cons, List.map_nil]); first | done | rfl | (simp only [List.length_drop, List.length_take]; rfl)) ?_; (with_reducible refine (sapperlaw14_Same.calls k4 _ _ t412 _ _ t416 false _ ?side1 ?side2 ?side3 ?side4 A56.out).mono ?_); (case side1 => repeat (first | exact (Kd.R_reads' HO_10.out).2.2 | (with_reducible refine Kd.C_alloc ?_ _) | (with_reducible refine Kd.C_drewN ?_ _) | (with_reducible refine Kd.C_drew ?_))); (case side2 => exact (Kd.R_reads' HO_10.out).2.1); (case side3 => repeat (first | exact (Kd.R_reads' HO_12.out).2.2 | (with_reducible refine Kd.C_alloc ?_ _) | (with_reducible refine Kd.C_drewN ?_ _) | (with_reducible refine Kd.C_drew ?_))); (case side4 => exact (Kd.R_reads' HO_12.out).2.1); rintro e w' ⟨rfl, ⟨nd, rfl⟩⟩; refine ⟨_, rfl, ?_⟩))
                go_ret
                exact ⟨by first | rfl | (simp [errW_none, errW_some] <;> rfl) | (simp [*, errW_none, errW_some] <;> rfl), by repeat (first | (with_reducible first | exact HB.out | apply below_alloc | apply pw_below_drewN | apply below_drew1) | exact HB.out)⟩
     ·rw [if_neg c14] at H
      exact absurd H (by simp)
    ·rw [if_neg c13] at H
     exact absurd H (by simp)

/-- THE ONE PURE STATEMENT of sapperlaw14_FindStatistics: yours. -/
def sapperlaw14_FindStatistics.Pure : Prop := ∀ (l0 : List Int) (l1 : List Int), l0.length ≤ maxLen → l0.length * 1 ≤ 140737488351232 → (∀ x ∈ l0, (Lit.int .u8 x).wf = true) → l1.length ≤ maxLen → l1.length * 1 ≤ 140737488351232 → (∀ x ∈ l1, (Lit.int .u8 x).wf = true) → ∃ k, sapperlaw14_FindStatistics.f k l0 l1 = some true
theorem sapperlaw14_FindStatistics.walk (P : sapperlaw14_FindStatistics.Pure) (a0 : Option Addr) (len0 cap0 : Nat) (z0 : List Int) (a1 : Option Addr) (len1 cap1 : Nat) (z1 : List Int) (w : World) (w0 : (a0 = none ∧ len0 = 0 ∧ cap0 = 0 ∧ z0 = []) ∨ ∃ x, a0 = some x ∧ len0 ≤ cap0 ∧ cap0 ≤ maxLen ∧ z0.length = cap0 ∧ (∀ i, i < z0.length → w.cell? (x.add i) = some (.int .u8 (z0.getD i 0))) ∧ ∀ n ∈ z0, (Lit.int .u8 n).wf = true) (y0 : len0 * 1 ≤ 140737488351232) (w1 : (a1 = none ∧ len1 = 0 ∧ cap1 = 0 ∧ z1 = []) ∨ ∃ x, a1 = some x ∧ len1 ≤ cap1 ∧ cap1 ≤ maxLen ∧ z1.length = cap1 ∧ (∀ i, i < z1.length → w.cell? (x.add i) = some (.int .u8 (z1.getD i 0))) ∧ ∀ n ∈ z1, (Lit.int .u8 n).wf = true) (y1 : len1 * 1 ≤ 140737488351232) :
  Calls Try.prog 5 #[.slice a0 len0 cap0, .slice a1 len1 cap1] w fun e w' => e = .returned (.bool true) ∧ Below w.heap.size w w' := by
 obtain ⟨l0, rfl, hr0, hm0, hw0, hc0⟩ := ReadsInt.ofRowC w0
 obtain ⟨l1, rfl, hr1, hm1, hw1, hc1⟩ := ReadsInt.ofRowC w1
 obtain ⟨k, h⟩ := P l0 l1 hm0 y0 hw0 hm1 y1 hw1
 refine (sapperlaw14_FindStatistics.calls k _ _ l0 _ _ l1 true w (Kd.C_of_reads (d := (0 : Int)) (h1 := fun _ => rfl) hr0) hc0 (Kd.C_of_reads (d := (0 : Int)) (h1 := fun _ => rfl) hr1) hc1 h).mono ?_
 rintro e w' ⟨rfl, hd⟩
 exact ⟨rfl, hd⟩

end Go.Proofs.Ytphchkkicpnehaa.X
